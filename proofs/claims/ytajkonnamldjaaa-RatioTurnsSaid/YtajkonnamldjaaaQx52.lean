-- Written by a program of this seat (a changed copy of a printer), not by hand.
import Derived.Test.YtajkonnamldjaaaQx0
import Derived.Test.YtajkonnamldjaaaQx1
import Derived.Test.YtajkonnamldjaaaQx5
import Derived.Test.YtajkonnamldjaaaQx32
import Derived.Test.YtajkonnamldjaaaQx36
import Derived.Test.YtajkonnamldjaaaQx46
import Derived.Test.YtajkonnamldjaaaQx47
import Derived.Test.YtajkonnamldjaaaQx49
namespace Go.Proofs.Ytajkonnamldjaaa.Q
open Go.RowKit Go.Proofs.YtajkonnamldjaaaW.PrintWords Go.Proofs.YtajkonnamldjaaaW.PrintLast Go.Proofs.YtajkonnamldjaaaW.PrintMore
open Go.Proofs.Ytajkonnamldjaaa
attribute [local go_sem] max2_int min2_int max_two min_two max_three min_three max_four min_four   -- for this text's walks alone
set_option linter.unusedVariables false
set_option linter.unusedSimpArgs false

attribute [local go_sem high] eqA23
/-! ### mosaiclaw05_RatioTurns: function 10 -/
mutual
def mosaiclaw05_RatioTurns.j0 : Nat → Bool → Int → Int → Int → Int → Option (Bool)
  | 0, _, _, _, _, _ => none
  | k + 1, x24, x426000, x426001, x427000, x427001 => if x24 = true then ((mosaiclaw05_awake.f k).bind fun t429 => (some t429)) else ((ratio_Add.f x426000 x426001 x427000 x427001).bind fun bt430 => ((ratio_Add.f x427000 x427001 x426000 x426001).bind fun bt434 => ((ratio_Mul.f k x426000 x426001 x427000 x427001).bind fun bt438 => ((ratio_Mul.f k x427000 x427001 x426000 x426001).bind fun bt442 => (if (!(bt430.1 == bt434.1) || (!(bt430.2.1 == bt434.2.1))) = true then (mosaiclaw05_RatioTurns.j1 k bt430.2.2 bt438.2.2 true x426000 x426001 x427000 x427001 bt430.1 bt430.2.1 bt438.1 bt438.2.1) else (if bt430.2.2 = bt434.2.2 then (if (!(bt438.1 == bt442.1) || (!(bt438.2.1 == bt442.2.1))) = true then (mosaiclaw05_RatioTurns.j1 k bt430.2.2 bt438.2.2 true x426000 x426001 x427000 x427001 bt430.1 bt430.2.1 bt438.1 bt438.2.1) else (mosaiclaw05_RatioTurns.j1 k bt430.2.2 bt438.2.2 (bt438.2.2 != bt442.2.2) x426000 x426001 x427000 x427001 bt430.1 bt430.2.1 bt438.1 bt438.2.1)) else (mosaiclaw05_RatioTurns.j1 k bt430.2.2 bt438.2.2 true x426000 x426001 x427000 x427001 bt430.1 bt430.2.1 bt438.1 bt438.2.1)))))))
def mosaiclaw05_RatioTurns.j1 : Nat → Int → Int → Bool → Int → Int → Int → Int → Int → Int → Int → Int → Option (Bool)
  | 0, _, _, _, _, _, _, _, _, _, _, _ => none
  | k + 1, x6, x10, x67, x426000, x426001, x427000, x427001, x434000, x434001, x442000, x442001 => if x67 = true then (some false) else (if x6 = 0 then ((ratio_Sub.f x434000 x434001 x427000 x427001).bind fun bt446 => (if bt446.2.2 = 0 then (if (!(bt446.1 == x426000) || (!(bt446.2.1 == x426001))) = true then (some false) else (mosaiclaw05_RatioTurns.j2 k x10 x426000 x426001 x427000 x427001 x442000 x442001)) else (some false))) else (mosaiclaw05_RatioTurns.j2 k x10 x426000 x426001 x427000 x427001 x442000 x442001))
def mosaiclaw05_RatioTurns.j2 : Nat → Int → Int → Int → Int → Int → Int → Int → Option (Bool)
  | 0, _, _, _, _, _, _, _ => none
  | k + 1, x10, x426000, x426001, x427000, x427001, x442000, x442001 => if x10 = 0 then (mosaiclaw05_RatioTurns.j3 k (x427000 != 0) x426000 x426001 x427000 x427001 x442000 x442001) else (mosaiclaw05_RatioTurns.j3 k false x426000 x426001 x427000 x427001 x442000 x442001)
def mosaiclaw05_RatioTurns.j3 : Nat → Bool → Int → Int → Int → Int → Int → Int → Option (Bool)
  | 0, _, _, _, _, _, _, _ => none
  | k + 1, x89, x426000, x426001, x427000, x427001, x442000, x442001 => if x89 = true then ((ratio_Div.f k x442000 x442001 x427000 x427001).bind fun bt450 => (if bt450.2.2 = 0 then (if (!(bt450.1 == x426000) || (!(bt450.2.1 == x426001))) = true then (some false) else (mosaiclaw05_RatioTurns.j4 k)) else (some false))) else (mosaiclaw05_RatioTurns.j4 k)
def mosaiclaw05_RatioTurns.j4 : Nat → Option (Bool)
  | 0 => none
  | k + 1 => (mosaiclaw05_awake.f k).bind fun t454 => (some t454)
end
def mosaiclaw05_RatioTurns.f (k : Nat) (a0_0 : Int) (a0_1 : Int) (a1_0 : Int) (a1_1 : Int) : Option (Bool) := (ratio_Check.f a0_0 a0_1).bind fun t427 => (if t427 = true then ((ratio_Check.f a1_0 a1_1).bind fun t428 => (mosaiclaw05_RatioTurns.j0 k (!t428) a0_0 a0_1 a1_0 a1_1)) else (mosaiclaw05_RatioTurns.j0 k true a0_0 a0_1 a1_0 a1_1))
theorem mosaiclaw05_RatioTurns.mono_l : ∀ k, (∀ y0 y1 y2 y3 y4, LeO (mosaiclaw05_RatioTurns.j0 k y0 y1 y2 y3 y4) (mosaiclaw05_RatioTurns.j0 (k + 1) y0 y1 y2 y3 y4)) ∧ (∀ y0 y1 y2 y3 y4 y5 y6 y7 y8 y9 y10, LeO (mosaiclaw05_RatioTurns.j1 k y0 y1 y2 y3 y4 y5 y6 y7 y8 y9 y10) (mosaiclaw05_RatioTurns.j1 (k + 1) y0 y1 y2 y3 y4 y5 y6 y7 y8 y9 y10)) ∧ (∀ y0 y1 y2 y3 y4 y5 y6, LeO (mosaiclaw05_RatioTurns.j2 k y0 y1 y2 y3 y4 y5 y6) (mosaiclaw05_RatioTurns.j2 (k + 1) y0 y1 y2 y3 y4 y5 y6)) ∧ (∀ y0 y1 y2 y3 y4 y5 y6, LeO (mosaiclaw05_RatioTurns.j3 k y0 y1 y2 y3 y4 y5 y6) (mosaiclaw05_RatioTurns.j3 (k + 1) y0 y1 y2 y3 y4 y5 y6)) ∧ (LeO (mosaiclaw05_RatioTurns.j4 k ) (mosaiclaw05_RatioTurns.j4 (k + 1) ))
  | 0 => ⟨fun _ _ _ _ _ r h => by simp [mosaiclaw05_RatioTurns.j0] at h, fun _ _ _ _ _ _ _ _ _ _ _ r h => by simp [mosaiclaw05_RatioTurns.j1] at h, fun _ _ _ _ _ _ _ r h => by simp [mosaiclaw05_RatioTurns.j2] at h, fun _ _ _ _ _ _ _ r h => by simp [mosaiclaw05_RatioTurns.j3] at h, fun r h => by simp [mosaiclaw05_RatioTurns.j4] at h⟩
  | k + 1 => by
    obtain ⟨ih0, ih1, ih2, ih3, ih4⟩ := mosaiclaw05_RatioTurns.mono_l k
    refine ⟨?_, ?_, ?_, ?_, ?_⟩
    · intro y0 y1 y2 y3 y4
      unfold mosaiclaw05_RatioTurns.j0
      repeat' first
      | (with_reducible exact ih0 _ _ _ _ _)
      | (with_reducible exact ih1 _ _ _ _ _ _ _ _ _ _ _)
      | (with_reducible exact ih2 _ _ _ _ _ _ _)
      | (with_reducible exact ih3 _ _ _ _ _ _ _)
      | (with_reducible exact ih4)
      | (with_reducible exact mosaiclaw05_awake.mono _)
      | (with_reducible exact ratio_Div.mono _ _ _ _ _)
      | (with_reducible exact ratio_Mul.mono _ _ _ _ _)
      | (with_reducible exact LeO.refl _)
      | (with_reducible exact LeO.none _)
      | (with_reducible refine LeO.ite ?_ ?_)
      | (with_reducible refine LeO.bind ?_ (fun _ => ?_))
      | exact ih0 _ _ _ _ _
      | exact ih1 _ _ _ _ _ _ _ _ _ _ _
      | exact ih2 _ _ _ _ _ _ _
      | exact ih3 _ _ _ _ _ _ _
      | exact ih4
      | exact mosaiclaw05_awake.mono _
      | exact ratio_Div.mono _ _ _ _ _
      | exact ratio_Mul.mono _ _ _ _ _
      | exact LeO.none _
      | refine LeO.ite ?_ ?_
      | refine LeO.bind ?_ (fun _ => ?_)
    · intro y0 y1 y2 y3 y4 y5 y6 y7 y8 y9 y10
      unfold mosaiclaw05_RatioTurns.j1
      repeat' first
      | (with_reducible exact ih0 _ _ _ _ _)
      | (with_reducible exact ih1 _ _ _ _ _ _ _ _ _ _ _)
      | (with_reducible exact ih2 _ _ _ _ _ _ _)
      | (with_reducible exact ih3 _ _ _ _ _ _ _)
      | (with_reducible exact ih4)
      | (with_reducible exact mosaiclaw05_awake.mono _)
      | (with_reducible exact ratio_Div.mono _ _ _ _ _)
      | (with_reducible exact ratio_Mul.mono _ _ _ _ _)
      | (with_reducible exact LeO.refl _)
      | (with_reducible exact LeO.none _)
      | (with_reducible refine LeO.ite ?_ ?_)
      | (with_reducible refine LeO.bind ?_ (fun _ => ?_))
      | exact ih0 _ _ _ _ _
      | exact ih1 _ _ _ _ _ _ _ _ _ _ _
      | exact ih2 _ _ _ _ _ _ _
      | exact ih3 _ _ _ _ _ _ _
      | exact ih4
      | exact mosaiclaw05_awake.mono _
      | exact ratio_Div.mono _ _ _ _ _
      | exact ratio_Mul.mono _ _ _ _ _
      | exact LeO.none _
      | refine LeO.ite ?_ ?_
      | refine LeO.bind ?_ (fun _ => ?_)
    · intro y0 y1 y2 y3 y4 y5 y6
      unfold mosaiclaw05_RatioTurns.j2
      repeat' first
      | (with_reducible exact ih0 _ _ _ _ _)
      | (with_reducible exact ih1 _ _ _ _ _ _ _ _ _ _ _)
      | (with_reducible exact ih2 _ _ _ _ _ _ _)
      | (with_reducible exact ih3 _ _ _ _ _ _ _)
      | (with_reducible exact ih4)
      | (with_reducible exact mosaiclaw05_awake.mono _)
      | (with_reducible exact ratio_Div.mono _ _ _ _ _)
      | (with_reducible exact ratio_Mul.mono _ _ _ _ _)
      | (with_reducible exact LeO.refl _)
      | (with_reducible exact LeO.none _)
      | (with_reducible refine LeO.ite ?_ ?_)
      | (with_reducible refine LeO.bind ?_ (fun _ => ?_))
      | exact ih0 _ _ _ _ _
      | exact ih1 _ _ _ _ _ _ _ _ _ _ _
      | exact ih2 _ _ _ _ _ _ _
      | exact ih3 _ _ _ _ _ _ _
      | exact ih4
      | exact mosaiclaw05_awake.mono _
      | exact ratio_Div.mono _ _ _ _ _
      | exact ratio_Mul.mono _ _ _ _ _
      | exact LeO.none _
      | refine LeO.ite ?_ ?_
      | refine LeO.bind ?_ (fun _ => ?_)
    · intro y0 y1 y2 y3 y4 y5 y6
      unfold mosaiclaw05_RatioTurns.j3
      repeat' first
      | (with_reducible exact ih0 _ _ _ _ _)
      | (with_reducible exact ih1 _ _ _ _ _ _ _ _ _ _ _)
      | (with_reducible exact ih2 _ _ _ _ _ _ _)
      | (with_reducible exact ih3 _ _ _ _ _ _ _)
      | (with_reducible exact ih4)
      | (with_reducible exact mosaiclaw05_awake.mono _)
      | (with_reducible exact ratio_Div.mono _ _ _ _ _)
      | (with_reducible exact ratio_Mul.mono _ _ _ _ _)
      | (with_reducible exact LeO.refl _)
      | (with_reducible exact LeO.none _)
      | (with_reducible refine LeO.ite ?_ ?_)
      | (with_reducible refine LeO.bind ?_ (fun _ => ?_))
      | exact ih0 _ _ _ _ _
      | exact ih1 _ _ _ _ _ _ _ _ _ _ _
      | exact ih2 _ _ _ _ _ _ _
      | exact ih3 _ _ _ _ _ _ _
      | exact ih4
      | exact mosaiclaw05_awake.mono _
      | exact ratio_Div.mono _ _ _ _ _
      | exact ratio_Mul.mono _ _ _ _ _
      | exact LeO.none _
      | refine LeO.ite ?_ ?_
      | refine LeO.bind ?_ (fun _ => ?_)
    · skip
      unfold mosaiclaw05_RatioTurns.j4
      repeat' first
      | (with_reducible exact ih0 _ _ _ _ _)
      | (with_reducible exact ih1 _ _ _ _ _ _ _ _ _ _ _)
      | (with_reducible exact ih2 _ _ _ _ _ _ _)
      | (with_reducible exact ih3 _ _ _ _ _ _ _)
      | (with_reducible exact ih4)
      | (with_reducible exact mosaiclaw05_awake.mono _)
      | (with_reducible exact ratio_Div.mono _ _ _ _ _)
      | (with_reducible exact ratio_Mul.mono _ _ _ _ _)
      | (with_reducible exact LeO.refl _)
      | (with_reducible exact LeO.none _)
      | (with_reducible refine LeO.ite ?_ ?_)
      | (with_reducible refine LeO.bind ?_ (fun _ => ?_))
      | exact ih0 _ _ _ _ _
      | exact ih1 _ _ _ _ _ _ _ _ _ _ _
      | exact ih2 _ _ _ _ _ _ _
      | exact ih3 _ _ _ _ _ _ _
      | exact ih4
      | exact mosaiclaw05_awake.mono _
      | exact ratio_Div.mono _ _ _ _ _
      | exact ratio_Mul.mono _ _ _ _ _
      | exact LeO.none _
      | refine LeO.ite ?_ ?_
      | refine LeO.bind ?_ (fun _ => ?_)
theorem mosaiclaw05_RatioTurns.mono : ∀ a0 a1 a2 a3 k, LeO (mosaiclaw05_RatioTurns.f k a0 a1 a2 a3) (mosaiclaw05_RatioTurns.f (k + 1) a0 a1 a2 a3) := by
  intro a0 a1 a2 a3 k
  obtain ⟨ih0, ih1, ih2, ih3, ih4⟩ := mosaiclaw05_RatioTurns.mono_l k
  unfold mosaiclaw05_RatioTurns.f
  repeat' first
      | (with_reducible exact ih0 _ _ _ _ _)
      | (with_reducible exact ih1 _ _ _ _ _ _ _ _ _ _ _)
      | (with_reducible exact ih2 _ _ _ _ _ _ _)
      | (with_reducible exact ih3 _ _ _ _ _ _ _)
      | (with_reducible exact ih4)
      | (with_reducible exact mosaiclaw05_awake.mono _)
      | (with_reducible exact ratio_Div.mono _ _ _ _ _)
      | (with_reducible exact ratio_Mul.mono _ _ _ _ _)
      | (with_reducible exact LeO.refl _)
      | (with_reducible exact LeO.none _)
      | (with_reducible refine LeO.ite ?_ ?_)
      | (with_reducible refine LeO.bind ?_ (fun _ => ?_))
      | exact ih0 _ _ _ _ _
      | exact ih1 _ _ _ _ _ _ _ _ _ _ _
      | exact ih2 _ _ _ _ _ _ _
      | exact ih3 _ _ _ _ _ _ _
      | exact ih4
      | exact mosaiclaw05_awake.mono _
      | exact ratio_Div.mono _ _ _ _ _
      | exact ratio_Mul.mono _ _ _ _ _
      | exact LeO.none _
      | refine LeO.ite ?_ ?_
      | refine LeO.bind ?_ (fun _ => ?_)
set_option maxHeartbeats 8000000 in
set_option maxRecDepth 100000 in
theorem mosaiclaw05_RatioTurns.calls (k : Nat) (a0_0 : Int) (a0_1 : Int) (a1_0 : Int) (a1_1 : Int) (r : Bool) (w : World) (hlaw : r = true) (h : mosaiclaw05_RatioTurns.f k a0_0 a0_1 a1_0 a1_1 = some r) :
    Calls Try.prog 10 #[.agg #[.int .i64 a0_0, .int .i64 a0_1], .agg #[.int .i64 a1_0, .int .i64 a1_1]] w fun e w' => e = .returned (.bool r) ∧ Below w.heap.size w w' := by
  have HLAW := Aside0.mk hlaw
  clear hlaw
  have hu23 := Try.underlying23
  have HB := Aside0.mk (Below.refl w.heap.size w)
  have H : ((ratio_Check.f a0_0 a0_1).bind fun t427 => (if t427 = true then ((ratio_Check.f a1_0 a1_1).bind fun t428 => (mosaiclaw05_RatioTurns.j0 k (!t428) a0_0 a0_1 a1_0 a1_1)) else (mosaiclaw05_RatioTurns.j0 k true a0_0 a0_1 a1_0 a1_1))) = some r := h
  clear h
  have HC3 := Aside0.mk H
  clear H
  go_enter Try.func10, Try.ntmps10
  go_upto_region 1 with (first | ((with_reducible refine gate_dst (N := 2) rfl ?_); refine box_event ?hg (N := 2) ?hd (cs := #[.int .i64 a0_0, .int .i64 a0_1]) (t := 23) ?hr ?_; (case hd => rfl); (case hg => rfl); (case hr => first | (go_simp; done) | (go_simp; rfl)); intro gb425 hg w4 hbox hb; have n0_ := Aside0.mk (below_step (by repeat (first | (with_reducible first | exact HB.out | apply below_alloc | apply pw_below_drewN | apply below_drew1) | exact HB.out)) hb); have n1_ := Aside0.mk (hbox); have n2_ := Aside0.mk ((by rw [hg]; exact (below_size (by repeat (first | (with_reducible first | exact HB.out | apply below_alloc | apply pw_below_drewN | apply below_drew1) | exact HB.out))) : w.heap.size ≤ gb425)); have n3_ := Aside0.mk ((by rw [hg]; exact (below_size (by repeat (first | (with_reducible first | exact HB.out | apply below_alloc | apply pw_below_drewN | apply below_drew1) | exact HB.out))) : w.heap.size ≤ gb425)); clear HB; have HB := n0_; have BK425 := n1_; have GW425 := n2_; have GE425 := n3_; clear n0_ n1_ n2_ n3_; clear hb hbox hg) | ((with_reducible refine gate_dst (N := 3) rfl ?_); refine box_event ?hg (N := 3) ?hd (cs := #[.int .i64 a1_0, .int .i64 a1_1]) (t := 23) ?hr ?_; (case hd => rfl); (case hg => rfl); (case hr => first | (go_simp; done) | (go_simp; rfl)); intro gb426 hg w5 hbox hb; have n0_ := Aside0.mk (blk_below (g := gb425) (o := .cells #[.int .i64 a0_0, .int .i64 a0_1] 23 (0, 0)) (by (with_reducible repeat (first | refine blk_drewN ?_ _ | refine blk_drew ?_ | refine blk_alloc ?_ _)); exact BK425.out) hb); have n1_ := Aside0.mk (below_step (by repeat (first | (with_reducible first | exact HB.out | apply below_alloc | apply pw_below_drewN | apply below_drew1 | refine below_set ?_ GE425.out) | exact HB.out)) hb); have n2_ := Aside0.mk (hbox); have n3_ := Aside0.mk ((by rw [hg]; exact (below_size (by repeat (first | (with_reducible first | exact HB.out | apply below_alloc | apply pw_below_drewN | apply below_drew1 | refine below_set ?_ GE425.out) | exact HB.out))) : w.heap.size ≤ gb426)); have n4_ := Aside0.mk ((by rw [hg]; exact (below_size (by repeat (first | (with_reducible first | exact HB.out | apply below_alloc | apply pw_below_drewN | apply below_drew1 | refine below_set ?_ GE425.out) | exact HB.out))) : w.heap.size ≤ gb426)); have n5_ := Aside0.mk ((by rw [hg]; exact Nat.ne_of_lt (blk_lt (g := gb425) (o := .cells #[.int .i64 a0_0, .int .i64 a0_1] 23 (0, 0)) (by (with_reducible repeat (first | refine blk_drewN ?_ _ | refine blk_drew ?_ | refine blk_alloc ?_ _)); exact BK425.out)) : gb425 ≠ gb426)); have n6_ := Aside0.mk ((by rw [hg]; exact Nat.ne_of_gt (blk_lt (g := gb425) (o := .cells #[.int .i64 a0_0, .int .i64 a0_1] 23 (0, 0)) (by (with_reducible repeat (first | refine blk_drewN ?_ _ | refine blk_drew ?_ | refine blk_alloc ?_ _)); exact BK425.out)) : gb426 ≠ gb425)); clear BK425; clear HB; have BK425 := n0_; have HB := n1_; have BK426 := n2_; have GW426 := n3_; have GE426 := n4_; have NB425_426 := n5_; have NB426_425 := n6_; clear n0_ n1_ n2_ n3_ n4_ n5_ n6_; clear hb hbox hg))
  (try simp only [Act.put, List.setIfInBounds_toArray, List.set_cons_zero, List.set_cons_succ])
  go_cut [24] (fun v24 wc => ∃ (kq : Nat) (x24_2 : Bool), v24 = .bool x24_2 ∧ Aside0 (mosaiclaw05_RatioTurns.j0 kq x24_2 a0_0 a0_1 a1_0 a1_1 = some r) ∧ Aside0 (kq ≤ k) ∧ Aside0 (wc.heap[gb425]? = some (.cells #[.int .i64 a0_0, .int .i64 a0_1] 23 (0, 0))) ∧ Aside0 (wc.heap[gb426]? = some (.cells #[.int .i64 a1_0, .int .i64 a1_1] 23 (0, 0))) ∧ Aside0 (Below w.heap.size w wc))
  case first =>
    have H := HC3.out
    clear HC3
    replace H := Option.bind_eq_some_iff.mp H
    obtain ⟨t427, A60, H⟩ := H
    replace H : (if t427 = true then ((ratio_Check.f a1_0 a1_1).bind fun t428 => (mosaiclaw05_RatioTurns.j0 k (!t428) a0_0 a0_1 a1_0 a1_1)) else (mosaiclaw05_RatioTurns.j0 k true a0_0 a0_1 a1_0 a1_1)) = some r := H
    have A6 := Aside0.mk A60
    clear A60
    by_cases c7 : t427 = true
    · subst c7
      have H1 : ((ratio_Check.f a1_0 a1_1).bind fun t428 => (mosaiclaw05_RatioTurns.j0 k (!t428) a0_0 a0_1 a1_0 a1_1)) = some r := by rw [if_pos rfl] at H; exact H
      clear H
      have H := H1
      clear H1
      replace H := Option.bind_eq_some_iff.mp H
      obtain ⟨t428, A80, H⟩ := H
      replace H : (mosaiclaw05_RatioTurns.j0 k (!t428) a0_0 a0_1 a1_0 a1_1) = some r := H
      have A8 := Aside0.mk A80
      clear A80
      have H' := Aside0.mk H
      clear H
      have hnb9 := NB425_426.out
      have hnc9 := NB426_425.out
      have hcz10_0 : w5.cell? ⟨gb425, 0, none⟩ = some (.int .i64 a0_0) := (blk_cell BK425.out 0).trans rfl
      have hcz10_1 : w5.cell? ⟨gb425, 1, none⟩ = some (.int .i64 a0_1) := (blk_cell BK425.out 1).trans rfl
      have hfz10_0 := blk_frozen BK425.out 0
      have hfz10_1 := blk_frozen BK425.out 1
      go_wp2_with (first | ((with_reducible refine gate_callee (f := 30) rfl ?_); refine goesL_ (some 18) rfl rfl Try.func30 (by kernel_rfl) rfl #[.agg #[.int .i64 a0_0, .int .i64 a0_1]] rfl (by (try simp only [List.map_toArray, List.map_cons, List.map_nil]); first | done | rfl | (simp only [List.length_drop, List.length_take]; rfl)) ?_; (with_reducible refine (ratio_Check.calls a0_0 a0_1 true _ A6.out).mono ?_); rintro e w11 ⟨rfl, hb⟩; refine ⟨_, rfl, ?_⟩; have n0_ := Aside0.mk (blk_below (g := gb425) (o := .cells #[.int .i64 a0_0, .int .i64 a0_1] 23 (0, 0)) (by (with_reducible repeat (first | refine blk_drewN ?_ _ | refine blk_drew ?_ | refine blk_alloc ?_ _)); exact BK425.out) hb); have n1_ := Aside0.mk (blk_below (g := gb426) (o := .cells #[.int .i64 a1_0, .int .i64 a1_1] 23 (0, 0)) (by (with_reducible repeat (first | refine blk_drewN ?_ _ | refine blk_drew ?_ | refine blk_alloc ?_ _)); exact BK426.out) hb); have n2_ := Aside0.mk (below_step (by repeat (first | (with_reducible first | exact HB.out | apply below_alloc | apply pw_below_drewN | apply below_drew1 | refine below_set ?_ GE425.out | refine below_set ?_ GE426.out) | exact HB.out)) hb); clear BK425; clear BK426; clear HB; have BK425 := n0_; have BK426 := n1_; have HB := n2_; clear n0_ n1_ n2_; (try clear hb); (try clear hb2); (try clear hk); (try clear hi); have hcz12_0 : w11.cell? ⟨gb426, 0, none⟩ = some (.int .i64 a1_0) := (blk_cell BK426.out 0).trans rfl; have hcz12_1 : w11.cell? ⟨gb426, 1, none⟩ = some (.int .i64 a1_1) := (blk_cell BK426.out 1).trans rfl; have hfz12_0 := blk_frozen BK426.out 0; have hfz12_1 := blk_frozen BK426.out 1) | (go_at_call 30; (with_reducible refine (ratio_Check.calls a1_0 a1_1 t428 _ A8.out).mono ?_); rintro e w13 ⟨rfl, hb⟩; have n0_ := Aside0.mk (blk_below (g := gb425) (o := .cells #[.int .i64 a0_0, .int .i64 a0_1] 23 (0, 0)) (by (with_reducible repeat (first | refine blk_drewN ?_ _ | refine blk_drew ?_ | refine blk_alloc ?_ _)); exact BK425.out) hb); have n1_ := Aside0.mk (blk_below (g := gb426) (o := .cells #[.int .i64 a1_0, .int .i64 a1_1] 23 (0, 0)) (by (with_reducible repeat (first | refine blk_drewN ?_ _ | refine blk_drew ?_ | refine blk_alloc ?_ _)); exact BK426.out) hb); have n2_ := Aside0.mk (below_step (by repeat (first | (with_reducible first | exact HB.out | apply below_alloc | apply pw_below_drewN | apply below_drew1 | refine below_set ?_ GE425.out | refine below_set ?_ GE426.out) | exact HB.out)) hb); clear BK425; clear BK426; clear HB; have BK425 := n0_; have BK426 := n1_; have HB := n2_; clear n0_ n1_ n2_; (try clear hb); (try clear hb2); (try clear hk); (try clear hi)))
      go_meet
      case rel => exact ⟨_, (!t428), (by first | rfl | (simp; done) | (simp [*]; done)), H', ⟨by first | omega | exact Nat.le_refl _⟩, ⟨by (with_reducible repeat (first | refine blk_drewN ?_ _ | refine blk_drew ?_ | refine blk_alloc ?_ _)); exact BK425.out⟩, ⟨by (with_reducible repeat (first | refine blk_drewN ?_ _ | refine blk_drew ?_ | refine blk_alloc ?_ _)); exact BK426.out⟩, ⟨by repeat (first | (with_reducible first | exact HB.out | apply below_alloc | apply pw_below_drewN | apply below_drew1 | refine below_set ?_ GE425.out | refine below_set ?_ GE426.out) | exact HB.out)⟩⟩
    · replace c7 := Bool.eq_false_iff.mpr c7
      subst c7
      have H1 : (mosaiclaw05_RatioTurns.j0 k true a0_0 a0_1 a1_0 a1_1) = some r := by rw [if_neg (show ¬ (false = true) by decide)] at H; exact H
      clear H
      have H := H1
      clear H1
      have H' := Aside0.mk H
      clear H
      have hnb14 := NB425_426.out
      have hnc14 := NB426_425.out
      have hcz15_0 : w5.cell? ⟨gb425, 0, none⟩ = some (.int .i64 a0_0) := (blk_cell BK425.out 0).trans rfl
      have hcz15_1 : w5.cell? ⟨gb425, 1, none⟩ = some (.int .i64 a0_1) := (blk_cell BK425.out 1).trans rfl
      have hfz15_0 := blk_frozen BK425.out 0
      have hfz15_1 := blk_frozen BK425.out 1
      go_wp2_with (first | ((with_reducible refine gate_callee (f := 30) rfl ?_); refine goesL_ (some 18) rfl rfl Try.func30 (by kernel_rfl) rfl #[.agg #[.int .i64 a0_0, .int .i64 a0_1]] rfl (by (try simp only [List.map_toArray, List.map_cons, List.map_nil]); first | done | rfl | (simp only [List.length_drop, List.length_take]; rfl)) ?_; (with_reducible refine (ratio_Check.calls a0_0 a0_1 false _ A6.out).mono ?_); rintro e w16 ⟨rfl, hb⟩; refine ⟨_, rfl, ?_⟩; have n0_ := Aside0.mk (blk_below (g := gb425) (o := .cells #[.int .i64 a0_0, .int .i64 a0_1] 23 (0, 0)) (by (with_reducible repeat (first | refine blk_drewN ?_ _ | refine blk_drew ?_ | refine blk_alloc ?_ _)); exact BK425.out) hb); have n1_ := Aside0.mk (blk_below (g := gb426) (o := .cells #[.int .i64 a1_0, .int .i64 a1_1] 23 (0, 0)) (by (with_reducible repeat (first | refine blk_drewN ?_ _ | refine blk_drew ?_ | refine blk_alloc ?_ _)); exact BK426.out) hb); have n2_ := Aside0.mk (below_step (by repeat (first | (with_reducible first | exact HB.out | apply below_alloc | apply pw_below_drewN | apply below_drew1 | refine below_set ?_ GE425.out | refine below_set ?_ GE426.out) | exact HB.out)) hb); clear BK425; clear BK426; clear HB; have BK425 := n0_; have BK426 := n1_; have HB := n2_; clear n0_ n1_ n2_; (try clear hb); (try clear hb2); (try clear hk); (try clear hi)))
      go_meet
      case rel => exact ⟨_, (true), (by first | rfl | (simp; done) | (simp [*]; done)), H', ⟨by first | omega | exact Nat.le_refl _⟩, ⟨by (with_reducible repeat (first | refine blk_drewN ?_ _ | refine blk_drew ?_ | refine blk_alloc ?_ _)); exact BK425.out⟩, ⟨by (with_reducible repeat (first | refine blk_drewN ?_ _ | refine blk_drew ?_ | refine blk_alloc ?_ _)); exact BK426.out⟩, ⟨by repeat (first | (with_reducible first | exact HB.out | apply below_alloc | apply pw_below_drewN | apply below_drew1 | refine below_set ?_ GE425.out | refine below_set ?_ GE426.out) | exact HB.out)⟩⟩
  case rest =>
    clear HC3
    try clear c1
    try clear p2
    try clear c3
    try clear c7
    try clear c9
    try clear c10
    try clear c14
    try clear hcz10_0
    try clear hcz10_1
    try clear hcz12_0
    try clear hcz12_1
    try clear hcz15_0
    try clear hcz15_1
    try clear hfz10_0
    try clear hfz10_1
    try clear hfz12_0
    try clear hfz12_1
    try clear hfz15_0
    try clear hfz15_1
    obtain ⟨kq, x24_2, rfl, HA, HJ2, BK425, BK426, HB⟩ := hcut
    cases kq with
    | zero => exact absurd HA.out (by simp [mosaiclaw05_RatioTurns.j0])
    | succ kj2 =>
      have H := HA.out
      clear HA
      simp only [mosaiclaw05_RatioTurns.j0] at H
      by_cases c17 : x24_2 = true
      · subst c17
        have H1 : ((mosaiclaw05_awake.f kj2).bind fun t429 => (some t429)) = some r := by rw [if_pos rfl] at H; exact H
        clear H
        have H := H1
        clear H1
        replace H := Option.bind_eq_some_iff.mp H
        obtain ⟨t429, A180, H⟩ := H
        replace H : (some t429) = some r := H
        have A18 := Aside0.mk A180
        clear A180
        obtain rfl := Option.some.inj H
        go_wp2_with (first | ((with_reducible refine gate_callee (f := 27) rfl ?_); refine goesL_ (some 25) rfl rfl Try.func27 (by kernel_rfl) rfl #[] rfl (by (try simp only [List.map_toArray, List.map_cons, List.map_nil]); first | done | rfl | (simp only [List.length_drop, List.length_take]; rfl)) ?_; (with_reducible refine (mosaiclaw05_awake.calls kj2  t429 _ A18.out).mono ?_); rintro e w19 ⟨rfl, hb⟩; refine ⟨_, rfl, ?_⟩; have n0_ := Aside0.mk (blk_below (g := gb425) (o := .cells #[.int .i64 a0_0, .int .i64 a0_1] 23 (0, 0)) (by (with_reducible repeat (first | refine blk_drewN ?_ _ | refine blk_drew ?_ | refine blk_alloc ?_ _)); exact BK425.out) hb); have n1_ := Aside0.mk (blk_below (g := gb426) (o := .cells #[.int .i64 a1_0, .int .i64 a1_1] 23 (0, 0)) (by (with_reducible repeat (first | refine blk_drewN ?_ _ | refine blk_drew ?_ | refine blk_alloc ?_ _)); exact BK426.out) hb); have n2_ := Aside0.mk (below_step (by repeat (first | (with_reducible first | exact HB.out | apply below_alloc | apply pw_below_drewN | apply below_drew1 | refine below_set ?_ GE425.out | refine below_set ?_ GE426.out) | exact HB.out)) hb); clear BK425; clear BK426; clear HB; have BK425 := n0_; have BK426 := n1_; have HB := n2_; clear n0_ n1_ n2_; (try clear hb); (try clear hb2); (try clear hk); (try clear hi)))
        go_ret
        exact ⟨by first | rfl | (simp [errW_none, errW_some] <;> rfl) | (simp [*, errW_none, errW_some] <;> rfl), by repeat (first | (with_reducible first | exact HB.out | apply below_alloc | apply pw_below_drewN | apply below_drew1 | refine below_set ?_ GE425.out | refine below_set ?_ GE426.out) | exact HB.out)⟩
      · replace c17 := Bool.eq_false_iff.mpr c17
        subst c17
        have H1 : ((ratio_Add.f a0_0 a0_1 a1_0 a1_1).bind fun bt430 => ((ratio_Add.f a1_0 a1_1 a0_0 a0_1).bind fun bt434 => ((ratio_Mul.f kj2 a0_0 a0_1 a1_0 a1_1).bind fun bt438 => ((ratio_Mul.f kj2 a1_0 a1_1 a0_0 a0_1).bind fun bt442 => (if (!(bt430.1 == bt434.1) || (!(bt430.2.1 == bt434.2.1))) = true then (mosaiclaw05_RatioTurns.j1 kj2 bt430.2.2 bt438.2.2 true a0_0 a0_1 a1_0 a1_1 bt430.1 bt430.2.1 bt438.1 bt438.2.1) else (if bt430.2.2 = bt434.2.2 then (if (!(bt438.1 == bt442.1) || (!(bt438.2.1 == bt442.2.1))) = true then (mosaiclaw05_RatioTurns.j1 kj2 bt430.2.2 bt438.2.2 true a0_0 a0_1 a1_0 a1_1 bt430.1 bt430.2.1 bt438.1 bt438.2.1) else (mosaiclaw05_RatioTurns.j1 kj2 bt430.2.2 bt438.2.2 (bt438.2.2 != bt442.2.2) a0_0 a0_1 a1_0 a1_1 bt430.1 bt430.2.1 bt438.1 bt438.2.1)) else (mosaiclaw05_RatioTurns.j1 kj2 bt430.2.2 bt438.2.2 true a0_0 a0_1 a1_0 a1_1 bt430.1 bt430.2.1 bt438.1 bt438.2.1))))))) = some r := by rw [if_neg (show ¬ (false = true) by decide)] at H; exact H
        clear H
        have H := H1
        clear H1
        replace H := Option.bind_eq_some_iff.mp H
        obtain ⟨⟨t430, t431, t432⟩, A200, H⟩ := H
        replace H : ((ratio_Add.f a1_0 a1_1 a0_0 a0_1).bind fun bt434 => ((ratio_Mul.f kj2 a0_0 a0_1 a1_0 a1_1).bind fun bt438 => ((ratio_Mul.f kj2 a1_0 a1_1 a0_0 a0_1).bind fun bt442 => (if (!(t430 == bt434.1) || (!(t431 == bt434.2.1))) = true then (mosaiclaw05_RatioTurns.j1 kj2 t432 bt438.2.2 true a0_0 a0_1 a1_0 a1_1 t430 t431 bt438.1 bt438.2.1) else (if t432 = bt434.2.2 then (if (!(bt438.1 == bt442.1) || (!(bt438.2.1 == bt442.2.1))) = true then (mosaiclaw05_RatioTurns.j1 kj2 t432 bt438.2.2 true a0_0 a0_1 a1_0 a1_1 t430 t431 bt438.1 bt438.2.1) else (mosaiclaw05_RatioTurns.j1 kj2 t432 bt438.2.2 (bt438.2.2 != bt442.2.2) a0_0 a0_1 a1_0 a1_1 t430 t431 bt438.1 bt438.2.1)) else (mosaiclaw05_RatioTurns.j1 kj2 t432 bt438.2.2 true a0_0 a0_1 a1_0 a1_1 t430 t431 bt438.1 bt438.2.1)))))) = some r := H
        have A20 := Aside0.mk A200
        clear A200
        replace H := Option.bind_eq_some_iff.mp H
        obtain ⟨⟨t434, t435, t436⟩, A210, H⟩ := H
        replace H : ((ratio_Mul.f kj2 a0_0 a0_1 a1_0 a1_1).bind fun bt438 => ((ratio_Mul.f kj2 a1_0 a1_1 a0_0 a0_1).bind fun bt442 => (if (!(t430 == t434) || (!(t431 == t435))) = true then (mosaiclaw05_RatioTurns.j1 kj2 t432 bt438.2.2 true a0_0 a0_1 a1_0 a1_1 t430 t431 bt438.1 bt438.2.1) else (if t432 = t436 then (if (!(bt438.1 == bt442.1) || (!(bt438.2.1 == bt442.2.1))) = true then (mosaiclaw05_RatioTurns.j1 kj2 t432 bt438.2.2 true a0_0 a0_1 a1_0 a1_1 t430 t431 bt438.1 bt438.2.1) else (mosaiclaw05_RatioTurns.j1 kj2 t432 bt438.2.2 (bt438.2.2 != bt442.2.2) a0_0 a0_1 a1_0 a1_1 t430 t431 bt438.1 bt438.2.1)) else (mosaiclaw05_RatioTurns.j1 kj2 t432 bt438.2.2 true a0_0 a0_1 a1_0 a1_1 t430 t431 bt438.1 bt438.2.1))))) = some r := H
        have A21 := Aside0.mk A210
        clear A210
        replace H := Option.bind_eq_some_iff.mp H
        obtain ⟨⟨t438, t439, t440⟩, A220, H⟩ := H
        replace H : ((ratio_Mul.f kj2 a1_0 a1_1 a0_0 a0_1).bind fun bt442 => (if (!(t430 == t434) || (!(t431 == t435))) = true then (mosaiclaw05_RatioTurns.j1 kj2 t432 t440 true a0_0 a0_1 a1_0 a1_1 t430 t431 t438 t439) else (if t432 = t436 then (if (!(t438 == bt442.1) || (!(t439 == bt442.2.1))) = true then (mosaiclaw05_RatioTurns.j1 kj2 t432 t440 true a0_0 a0_1 a1_0 a1_1 t430 t431 t438 t439) else (mosaiclaw05_RatioTurns.j1 kj2 t432 t440 (t440 != bt442.2.2) a0_0 a0_1 a1_0 a1_1 t430 t431 t438 t439)) else (mosaiclaw05_RatioTurns.j1 kj2 t432 t440 true a0_0 a0_1 a1_0 a1_1 t430 t431 t438 t439)))) = some r := H
        have A22 := Aside0.mk A220
        clear A220
        replace H := Option.bind_eq_some_iff.mp H
        obtain ⟨⟨t442, t443, t444⟩, A230, H⟩ := H
        replace H : (if (!(t430 == t434) || (!(t431 == t435))) = true then (mosaiclaw05_RatioTurns.j1 kj2 t432 t440 true a0_0 a0_1 a1_0 a1_1 t430 t431 t438 t439) else (if t432 = t436 then (if (!(t438 == t442) || (!(t439 == t443))) = true then (mosaiclaw05_RatioTurns.j1 kj2 t432 t440 true a0_0 a0_1 a1_0 a1_1 t430 t431 t438 t439) else (mosaiclaw05_RatioTurns.j1 kj2 t432 t440 (t440 != t444) a0_0 a0_1 a1_0 a1_1 t430 t431 t438 t439)) else (mosaiclaw05_RatioTurns.j1 kj2 t432 t440 true a0_0 a0_1 a1_0 a1_1 t430 t431 t438 t439))) = some r := H
        have A23 := Aside0.mk A230
        clear A230
        have HC24 := Aside0.mk H
        clear H
        have hnb25 := NB425_426.out
        have hnc25 := NB426_425.out
        have hcz26_0 : wc.cell? ⟨gb425, 0, none⟩ = some (.int .i64 a0_0) := (blk_cell BK425.out 0).trans rfl
        have hcz26_1 : wc.cell? ⟨gb425, 1, none⟩ = some (.int .i64 a0_1) := (blk_cell BK425.out 1).trans rfl
        have hfz26_0 := blk_frozen BK425.out 0
        have hfz26_1 := blk_frozen BK425.out 1
        have hcz27_0 : wc.cell? ⟨gb426, 0, none⟩ = some (.int .i64 a1_0) := (blk_cell BK426.out 0).trans rfl
        have hcz27_1 : wc.cell? ⟨gb426, 1, none⟩ = some (.int .i64 a1_1) := (blk_cell BK426.out 1).trans rfl
        have hfz27_0 := blk_frozen BK426.out 0
        have hfz27_1 := blk_frozen BK426.out 1
        go_upto_region 7 with (first | ((with_reducible refine gate_callee (f := 36) rfl ?_); refine goesL_ (some 29) rfl rfl Try.func36 (by kernel_rfl) rfl #[.agg #[.int .i64 a0_0, .int .i64 a0_1], .agg #[.int .i64 a1_0, .int .i64 a1_1]] rfl (by (try simp only [List.map_toArray, List.map_cons, List.map_nil]); first | done | rfl | (simp only [List.length_drop, List.length_take]; rfl)) ?_; (with_reducible refine (ratio_Add.calls a0_0 a0_1 a1_0 a1_1 t430 t431 t432 _ A20.out).mono ?_); rintro e w28 ⟨rfl, hb⟩; refine ⟨_, rfl, ?_⟩; have n0_ := Aside0.mk (blk_below (g := gb425) (o := .cells #[.int .i64 a0_0, .int .i64 a0_1] 23 (0, 0)) (by (with_reducible repeat (first | refine blk_drewN ?_ _ | refine blk_drew ?_ | refine blk_alloc ?_ _)); exact BK425.out) hb); have n1_ := Aside0.mk (blk_below (g := gb426) (o := .cells #[.int .i64 a1_0, .int .i64 a1_1] 23 (0, 0)) (by (with_reducible repeat (first | refine blk_drewN ?_ _ | refine blk_drew ?_ | refine blk_alloc ?_ _)); exact BK426.out) hb); have n2_ := Aside0.mk (below_step (by repeat (first | (with_reducible first | exact HB.out | apply below_alloc | apply pw_below_drewN | apply below_drew1 | refine below_set ?_ GE425.out | refine below_set ?_ GE426.out) | exact HB.out)) hb); clear BK425; clear BK426; clear HB; have BK425 := n0_; have BK426 := n1_; have HB := n2_; clear n0_ n1_ n2_; (try clear hb); (try clear hb2); (try clear hk); (try clear hi)) | ((with_reducible refine gate_dst (N := 5) rfl ?_); refine box_event ?hg (N := 5) ?hd (cs := #[.int .i64 0, .int .i64 0]) (t := 23) ?hr ?_; (case hd => rfl); (case hg => rfl); (case hr => first | (go_simp; done) | (go_simp; rfl)); intro gb433 hg w29 hbox hb; have n0_ := Aside0.mk (blk_below (g := gb425) (o := .cells #[.int .i64 a0_0, .int .i64 a0_1] 23 (0, 0)) (by (with_reducible repeat (first | refine blk_drewN ?_ _ | refine blk_drew ?_ | refine blk_alloc ?_ _)); exact BK425.out) hb); have n1_ := Aside0.mk (blk_below (g := gb426) (o := .cells #[.int .i64 a1_0, .int .i64 a1_1] 23 (0, 0)) (by (with_reducible repeat (first | refine blk_drewN ?_ _ | refine blk_drew ?_ | refine blk_alloc ?_ _)); exact BK426.out) hb); have n2_ := Aside0.mk (below_step (by repeat (first | (with_reducible first | exact HB.out | apply below_alloc | apply pw_below_drewN | apply below_drew1 | refine below_set ?_ GE425.out | refine below_set ?_ GE426.out) | exact HB.out)) hb); have n3_ := Aside0.mk (hbox); have n4_ := Aside0.mk ((by rw [hg]; exact (below_size (by repeat (first | (with_reducible first | exact HB.out | apply below_alloc | apply pw_below_drewN | apply below_drew1 | refine below_set ?_ GE425.out | refine below_set ?_ GE426.out) | exact HB.out))) : w.heap.size ≤ gb433)); have n5_ := Aside0.mk ((by rw [hg]; exact (below_size (by repeat (first | (with_reducible first | exact HB.out | apply below_alloc | apply pw_below_drewN | apply below_drew1 | refine below_set ?_ GE425.out | refine below_set ?_ GE426.out) | exact HB.out))) : w.heap.size ≤ gb433)); have n6_ := Aside0.mk ((by rw [hg]; exact Nat.ne_of_lt (blk_lt (g := gb425) (o := .cells #[.int .i64 a0_0, .int .i64 a0_1] 23 (0, 0)) (by (with_reducible repeat (first | refine blk_drewN ?_ _ | refine blk_drew ?_ | refine blk_alloc ?_ _)); exact BK425.out)) : gb425 ≠ gb433)); have n7_ := Aside0.mk ((by rw [hg]; exact Nat.ne_of_gt (blk_lt (g := gb425) (o := .cells #[.int .i64 a0_0, .int .i64 a0_1] 23 (0, 0)) (by (with_reducible repeat (first | refine blk_drewN ?_ _ | refine blk_drew ?_ | refine blk_alloc ?_ _)); exact BK425.out)) : gb433 ≠ gb425)); have n8_ := Aside0.mk ((by rw [hg]; exact Nat.ne_of_lt (blk_lt (g := gb426) (o := .cells #[.int .i64 a1_0, .int .i64 a1_1] 23 (0, 0)) (by (with_reducible repeat (first | refine blk_drewN ?_ _ | refine blk_drew ?_ | refine blk_alloc ?_ _)); exact BK426.out)) : gb426 ≠ gb433)); have n9_ := Aside0.mk ((by rw [hg]; exact Nat.ne_of_gt (blk_lt (g := gb426) (o := .cells #[.int .i64 a1_0, .int .i64 a1_1] 23 (0, 0)) (by (with_reducible repeat (first | refine blk_drewN ?_ _ | refine blk_drew ?_ | refine blk_alloc ?_ _)); exact BK426.out)) : gb433 ≠ gb426)); clear BK425; clear BK426; clear HB; have BK425 := n0_; have BK426 := n1_; have HB := n2_; have BK433 := n3_; have GW433 := n4_; have GE433 := n5_; have NB425_433 := n6_; have NB433_425 := n7_; have NB426_433 := n8_; have NB433_426 := n9_; clear n0_ n1_ n2_ n3_ n4_ n5_ n6_ n7_ n8_ n9_; clear hb hbox hg; have hnb30 := NB433_425.out; have hnc30 := NB425_433.out; have hnb31 := NB433_426.out; have hnc31 := NB426_433.out; have hcz32_0 : w29.cell? ⟨gb433, 0, none⟩ = some (.int .i64 0) := (blk_cell BK433.out 0).trans rfl; have hcz32_1 : w29.cell? ⟨gb433, 1, none⟩ = some (.int .i64 0) := (blk_cell BK433.out 1).trans rfl; have hfz32_0 := blk_frozen BK433.out 0; have hfz32_1 := blk_frozen BK433.out 1; have hcz33_0 : w29.cell? ⟨gb426, 0, none⟩ = some (.int .i64 a1_0) := (blk_cell BK426.out 0).trans rfl; have hcz33_1 : w29.cell? ⟨gb426, 1, none⟩ = some (.int .i64 a1_1) := (blk_cell BK426.out 1).trans rfl; have hfz33_0 := blk_frozen BK426.out 0; have hfz33_1 := blk_frozen BK426.out 1; have hcz34_0 : w29.cell? ⟨gb425, 0, none⟩ = some (.int .i64 a0_0) := (blk_cell BK425.out 0).trans rfl; have hcz34_1 : w29.cell? ⟨gb425, 1, none⟩ = some (.int .i64 a0_1) := (blk_cell BK425.out 1).trans rfl; have hfz34_0 := blk_frozen BK425.out 0; have hfz34_1 := blk_frozen BK425.out 1) | ((with_reducible refine gate_callee (f := 36) rfl ?_); refine goesL_ (some 35) rfl rfl Try.func36 (by kernel_rfl) rfl #[.agg #[.int .i64 a1_0, .int .i64 a1_1], .agg #[.int .i64 a0_0, .int .i64 a0_1]] rfl (by (try simp only [List.map_toArray, List.map_cons, List.map_nil]); first | done | rfl | (simp only [List.length_drop, List.length_take]; rfl)) ?_; (with_reducible refine (ratio_Add.calls a1_0 a1_1 a0_0 a0_1 t434 t435 t436 _ A21.out).mono ?_); rintro e w35 ⟨rfl, hb⟩; refine ⟨_, rfl, ?_⟩; have n0_ := Aside0.mk (blk_below (g := gb425) (o := .cells #[.int .i64 a0_0, .int .i64 a0_1] 23 (0, 0)) (by (with_reducible repeat (first | refine blk_drewN ?_ _ | refine blk_drew ?_ | refine blk_alloc ?_ _)); refine blk_far ?_ NB425_433.out _; (with_reducible repeat (first | refine blk_drewN ?_ _ | refine blk_drew ?_ | refine blk_alloc ?_ _)); refine blk_far ?_ NB425_433.out _; (with_reducible repeat (first | refine blk_drewN ?_ _ | refine blk_drew ?_ | refine blk_alloc ?_ _)); exact BK425.out) hb); have n1_ := Aside0.mk (blk_below (g := gb426) (o := .cells #[.int .i64 a1_0, .int .i64 a1_1] 23 (0, 0)) (by (with_reducible repeat (first | refine blk_drewN ?_ _ | refine blk_drew ?_ | refine blk_alloc ?_ _)); refine blk_far ?_ NB426_433.out _; (with_reducible repeat (first | refine blk_drewN ?_ _ | refine blk_drew ?_ | refine blk_alloc ?_ _)); refine blk_far ?_ NB426_433.out _; (with_reducible repeat (first | refine blk_drewN ?_ _ | refine blk_drew ?_ | refine blk_alloc ?_ _)); exact BK426.out) hb); have n2_ := Aside0.mk (blk_below (g := gb433) (o := .cells #[.int .i64 t430, .int .i64 t431] 23 (0, 0)) (by (with_reducible repeat (first | refine blk_drewN ?_ _ | refine blk_drew ?_ | refine blk_alloc ?_ _)); refine blk_put (cs := #[.int .i64 t430, .int .i64 0]) ?_ 1 _ rfl; (with_reducible repeat (first | refine blk_drewN ?_ _ | refine blk_drew ?_ | refine blk_alloc ?_ _)); refine blk_put (cs := #[.int .i64 0, .int .i64 0]) ?_ 0 _ rfl; (with_reducible repeat (first | refine blk_drewN ?_ _ | refine blk_drew ?_ | refine blk_alloc ?_ _)); exact BK433.out) hb); have n3_ := Aside0.mk (below_step (by repeat (first | (with_reducible first | exact HB.out | apply below_alloc | apply pw_below_drewN | apply below_drew1 | refine below_set ?_ GE425.out | refine below_set ?_ GE426.out | refine below_set ?_ GE433.out) | exact HB.out)) hb); clear BK425; clear BK426; clear BK433; clear HB; have BK425 := n0_; have BK426 := n1_; have BK433 := n2_; have HB := n3_; clear n0_ n1_ n2_ n3_; (try clear hb); (try clear hb2); (try clear hk); (try clear hi)) | ((with_reducible refine gate_dst (N := 7) rfl ?_); refine box_event ?hg (N := 7) ?hd (cs := #[.int .i64 0, .int .i64 0]) (t := 23) ?hr ?_; (case hd => rfl); (case hg => rfl); (case hr => first | (go_simp; done) | (go_simp; rfl)); intro gb437 hg w36 hbox hb; have n0_ := Aside0.mk (blk_below (g := gb425) (o := .cells #[.int .i64 a0_0, .int .i64 a0_1] 23 (0, 0)) (by (with_reducible repeat (first | refine blk_drewN ?_ _ | refine blk_drew ?_ | refine blk_alloc ?_ _)); exact BK425.out) hb); have n1_ := Aside0.mk (blk_below (g := gb426) (o := .cells #[.int .i64 a1_0, .int .i64 a1_1] 23 (0, 0)) (by (with_reducible repeat (first | refine blk_drewN ?_ _ | refine blk_drew ?_ | refine blk_alloc ?_ _)); exact BK426.out) hb); have n2_ := Aside0.mk (blk_below (g := gb433) (o := .cells #[.int .i64 t430, .int .i64 t431] 23 (0, 0)) (by (with_reducible repeat (first | refine blk_drewN ?_ _ | refine blk_drew ?_ | refine blk_alloc ?_ _)); exact BK433.out) hb); have n3_ := Aside0.mk (below_step (by repeat (first | (with_reducible first | exact HB.out | apply below_alloc | apply pw_below_drewN | apply below_drew1 | refine below_set ?_ GE425.out | refine below_set ?_ GE426.out | refine below_set ?_ GE433.out) | exact HB.out)) hb); have n4_ := Aside0.mk (hbox); have n5_ := Aside0.mk ((by rw [hg]; exact (below_size (by repeat (first | (with_reducible first | exact HB.out | apply below_alloc | apply pw_below_drewN | apply below_drew1 | refine below_set ?_ GE425.out | refine below_set ?_ GE426.out | refine below_set ?_ GE433.out) | exact HB.out))) : w.heap.size ≤ gb437)); have n6_ := Aside0.mk ((by rw [hg]; exact (below_size (by repeat (first | (with_reducible first | exact HB.out | apply below_alloc | apply pw_below_drewN | apply below_drew1 | refine below_set ?_ GE425.out | refine below_set ?_ GE426.out | refine below_set ?_ GE433.out) | exact HB.out))) : w.heap.size ≤ gb437)); have n7_ := Aside0.mk ((by rw [hg]; exact Nat.ne_of_lt (blk_lt (g := gb425) (o := .cells #[.int .i64 a0_0, .int .i64 a0_1] 23 (0, 0)) (by (with_reducible repeat (first | refine blk_drewN ?_ _ | refine blk_drew ?_ | refine blk_alloc ?_ _)); exact BK425.out)) : gb425 ≠ gb437)); have n8_ := Aside0.mk ((by rw [hg]; exact Nat.ne_of_gt (blk_lt (g := gb425) (o := .cells #[.int .i64 a0_0, .int .i64 a0_1] 23 (0, 0)) (by (with_reducible repeat (first | refine blk_drewN ?_ _ | refine blk_drew ?_ | refine blk_alloc ?_ _)); exact BK425.out)) : gb437 ≠ gb425)); have n9_ := Aside0.mk ((by rw [hg]; exact Nat.ne_of_lt (blk_lt (g := gb426) (o := .cells #[.int .i64 a1_0, .int .i64 a1_1] 23 (0, 0)) (by (with_reducible repeat (first | refine blk_drewN ?_ _ | refine blk_drew ?_ | refine blk_alloc ?_ _)); exact BK426.out)) : gb426 ≠ gb437)); have n10_ := Aside0.mk ((by rw [hg]; exact Nat.ne_of_gt (blk_lt (g := gb426) (o := .cells #[.int .i64 a1_0, .int .i64 a1_1] 23 (0, 0)) (by (with_reducible repeat (first | refine blk_drewN ?_ _ | refine blk_drew ?_ | refine blk_alloc ?_ _)); exact BK426.out)) : gb437 ≠ gb426)); have n11_ := Aside0.mk ((by rw [hg]; exact Nat.ne_of_lt (blk_lt (g := gb433) (o := .cells #[.int .i64 t430, .int .i64 t431] 23 (0, 0)) (by (with_reducible repeat (first | refine blk_drewN ?_ _ | refine blk_drew ?_ | refine blk_alloc ?_ _)); exact BK433.out)) : gb433 ≠ gb437)); have n12_ := Aside0.mk ((by rw [hg]; exact Nat.ne_of_gt (blk_lt (g := gb433) (o := .cells #[.int .i64 t430, .int .i64 t431] 23 (0, 0)) (by (with_reducible repeat (first | refine blk_drewN ?_ _ | refine blk_drew ?_ | refine blk_alloc ?_ _)); exact BK433.out)) : gb437 ≠ gb433)); clear BK425; clear BK426; clear BK433; clear HB; have BK425 := n0_; have BK426 := n1_; have BK433 := n2_; have HB := n3_; have BK437 := n4_; have GW437 := n5_; have GE437 := n6_; have NB425_437 := n7_; have NB437_425 := n8_; have NB426_437 := n9_; have NB437_426 := n10_; have NB433_437 := n11_; have NB437_433 := n12_; clear n0_ n1_ n2_ n3_ n4_ n5_ n6_ n7_ n8_ n9_ n10_ n11_ n12_; clear hb hbox hg; have hnb37 := NB437_425.out; have hnc37 := NB425_437.out; have hnb38 := NB437_426.out; have hnc38 := NB426_437.out; have hnb39 := NB437_433.out; have hnc39 := NB433_437.out; have hcz40_0 : w36.cell? ⟨gb437, 0, none⟩ = some (.int .i64 0) := (blk_cell BK437.out 0).trans rfl; have hcz40_1 : w36.cell? ⟨gb437, 1, none⟩ = some (.int .i64 0) := (blk_cell BK437.out 1).trans rfl; have hfz40_0 := blk_frozen BK437.out 0; have hfz40_1 := blk_frozen BK437.out 1; have hcz41_0 : w36.cell? ⟨gb425, 0, none⟩ = some (.int .i64 a0_0) := (blk_cell BK425.out 0).trans rfl; have hcz41_1 : w36.cell? ⟨gb425, 1, none⟩ = some (.int .i64 a0_1) := (blk_cell BK425.out 1).trans rfl; have hfz41_0 := blk_frozen BK425.out 0; have hfz41_1 := blk_frozen BK425.out 1; have hcz42_0 : w36.cell? ⟨gb426, 0, none⟩ = some (.int .i64 a1_0) := (blk_cell BK426.out 0).trans rfl; have hcz42_1 : w36.cell? ⟨gb426, 1, none⟩ = some (.int .i64 a1_1) := (blk_cell BK426.out 1).trans rfl; have hfz42_0 := blk_frozen BK426.out 0; have hfz42_1 := blk_frozen BK426.out 1) | ((with_reducible refine gate_callee (f := 39) rfl ?_); refine goesL_ (some 41) rfl rfl Try.func39 (by kernel_rfl) rfl #[.agg #[.int .i64 a0_0, .int .i64 a0_1], .agg #[.int .i64 a1_0, .int .i64 a1_1]] rfl (by (try simp only [List.map_toArray, List.map_cons, List.map_nil]); first | done | rfl | (simp only [List.length_drop, List.length_take]; rfl)) ?_; (with_reducible refine (ratio_Mul.calls kj2 a0_0 a0_1 a1_0 a1_1 t438 t439 t440 _ A22.out).mono ?_); rintro e w43 ⟨rfl, hb⟩; refine ⟨_, rfl, ?_⟩; have n0_ := Aside0.mk (blk_below (g := gb425) (o := .cells #[.int .i64 a0_0, .int .i64 a0_1] 23 (0, 0)) (by (with_reducible repeat (first | refine blk_drewN ?_ _ | refine blk_drew ?_ | refine blk_alloc ?_ _)); refine blk_far ?_ NB425_437.out _; (with_reducible repeat (first | refine blk_drewN ?_ _ | refine blk_drew ?_ | refine blk_alloc ?_ _)); refine blk_far ?_ NB425_437.out _; (with_reducible repeat (first | refine blk_drewN ?_ _ | refine blk_drew ?_ | refine blk_alloc ?_ _)); exact BK425.out) hb); have n1_ := Aside0.mk (blk_below (g := gb426) (o := .cells #[.int .i64 a1_0, .int .i64 a1_1] 23 (0, 0)) (by (with_reducible repeat (first | refine blk_drewN ?_ _ | refine blk_drew ?_ | refine blk_alloc ?_ _)); refine blk_far ?_ NB426_437.out _; (with_reducible repeat (first | refine blk_drewN ?_ _ | refine blk_drew ?_ | refine blk_alloc ?_ _)); refine blk_far ?_ NB426_437.out _; (with_reducible repeat (first | refine blk_drewN ?_ _ | refine blk_drew ?_ | refine blk_alloc ?_ _)); exact BK426.out) hb); have n2_ := Aside0.mk (blk_below (g := gb433) (o := .cells #[.int .i64 t430, .int .i64 t431] 23 (0, 0)) (by (with_reducible repeat (first | refine blk_drewN ?_ _ | refine blk_drew ?_ | refine blk_alloc ?_ _)); refine blk_far ?_ NB433_437.out _; (with_reducible repeat (first | refine blk_drewN ?_ _ | refine blk_drew ?_ | refine blk_alloc ?_ _)); refine blk_far ?_ NB433_437.out _; (with_reducible repeat (first | refine blk_drewN ?_ _ | refine blk_drew ?_ | refine blk_alloc ?_ _)); exact BK433.out) hb); have n3_ := Aside0.mk (blk_below (g := gb437) (o := .cells #[.int .i64 t434, .int .i64 t435] 23 (0, 0)) (by (with_reducible repeat (first | refine blk_drewN ?_ _ | refine blk_drew ?_ | refine blk_alloc ?_ _)); refine blk_put (cs := #[.int .i64 t434, .int .i64 0]) ?_ 1 _ rfl; (with_reducible repeat (first | refine blk_drewN ?_ _ | refine blk_drew ?_ | refine blk_alloc ?_ _)); refine blk_put (cs := #[.int .i64 0, .int .i64 0]) ?_ 0 _ rfl; (with_reducible repeat (first | refine blk_drewN ?_ _ | refine blk_drew ?_ | refine blk_alloc ?_ _)); exact BK437.out) hb); have n4_ := Aside0.mk (below_step (by repeat (first | (with_reducible first | exact HB.out | apply below_alloc | apply pw_below_drewN | apply below_drew1 | refine below_set ?_ GE425.out | refine below_set ?_ GE426.out | refine below_set ?_ GE433.out | refine below_set ?_ GE437.out) | exact HB.out)) hb); clear BK425; clear BK426; clear BK433; clear BK437; clear HB; have BK425 := n0_; have BK426 := n1_; have BK433 := n2_; have BK437 := n3_; have HB := n4_; clear n0_ n1_ n2_ n3_ n4_; (try clear hb); (try clear hb2); (try clear hk); (try clear hi)) | ((with_reducible refine gate_dst (N := 9) rfl ?_); refine box_event ?hg (N := 9) ?hd (cs := #[.int .i64 0, .int .i64 0]) (t := 23) ?hr ?_; (case hd => rfl); (case hg => rfl); (case hr => first | (go_simp; done) | (go_simp; rfl)); intro gb441 hg w44 hbox hb; have n0_ := Aside0.mk (blk_below (g := gb425) (o := .cells #[.int .i64 a0_0, .int .i64 a0_1] 23 (0, 0)) (by (with_reducible repeat (first | refine blk_drewN ?_ _ | refine blk_drew ?_ | refine blk_alloc ?_ _)); exact BK425.out) hb); have n1_ := Aside0.mk (blk_below (g := gb426) (o := .cells #[.int .i64 a1_0, .int .i64 a1_1] 23 (0, 0)) (by (with_reducible repeat (first | refine blk_drewN ?_ _ | refine blk_drew ?_ | refine blk_alloc ?_ _)); exact BK426.out) hb); have n2_ := Aside0.mk (blk_below (g := gb433) (o := .cells #[.int .i64 t430, .int .i64 t431] 23 (0, 0)) (by (with_reducible repeat (first | refine blk_drewN ?_ _ | refine blk_drew ?_ | refine blk_alloc ?_ _)); exact BK433.out) hb); have n3_ := Aside0.mk (blk_below (g := gb437) (o := .cells #[.int .i64 t434, .int .i64 t435] 23 (0, 0)) (by (with_reducible repeat (first | refine blk_drewN ?_ _ | refine blk_drew ?_ | refine blk_alloc ?_ _)); exact BK437.out) hb); have n4_ := Aside0.mk (below_step (by repeat (first | (with_reducible first | exact HB.out | apply below_alloc | apply pw_below_drewN | apply below_drew1 | refine below_set ?_ GE425.out | refine below_set ?_ GE426.out | refine below_set ?_ GE433.out | refine below_set ?_ GE437.out) | exact HB.out)) hb); have n5_ := Aside0.mk (hbox); have n6_ := Aside0.mk ((by rw [hg]; exact (below_size (by repeat (first | (with_reducible first | exact HB.out | apply below_alloc | apply pw_below_drewN | apply below_drew1 | refine below_set ?_ GE425.out | refine below_set ?_ GE426.out | refine below_set ?_ GE433.out | refine below_set ?_ GE437.out) | exact HB.out))) : w.heap.size ≤ gb441)); have n7_ := Aside0.mk ((by rw [hg]; exact (below_size (by repeat (first | (with_reducible first | exact HB.out | apply below_alloc | apply pw_below_drewN | apply below_drew1 | refine below_set ?_ GE425.out | refine below_set ?_ GE426.out | refine below_set ?_ GE433.out | refine below_set ?_ GE437.out) | exact HB.out))) : w.heap.size ≤ gb441)); have n8_ := Aside0.mk ((by rw [hg]; exact Nat.ne_of_lt (blk_lt (g := gb425) (o := .cells #[.int .i64 a0_0, .int .i64 a0_1] 23 (0, 0)) (by (with_reducible repeat (first | refine blk_drewN ?_ _ | refine blk_drew ?_ | refine blk_alloc ?_ _)); exact BK425.out)) : gb425 ≠ gb441)); have n9_ := Aside0.mk ((by rw [hg]; exact Nat.ne_of_gt (blk_lt (g := gb425) (o := .cells #[.int .i64 a0_0, .int .i64 a0_1] 23 (0, 0)) (by (with_reducible repeat (first | refine blk_drewN ?_ _ | refine blk_drew ?_ | refine blk_alloc ?_ _)); exact BK425.out)) : gb441 ≠ gb425)); have n10_ := Aside0.mk ((by rw [hg]; exact Nat.ne_of_lt (blk_lt (g := gb426) (o := .cells #[.int .i64 a1_0, .int .i64 a1_1] 23 (0, 0)) (by (with_reducible repeat (first | refine blk_drewN ?_ _ | refine blk_drew ?_ | refine blk_alloc ?_ _)); exact BK426.out)) : gb426 ≠ gb441)); have n11_ := Aside0.mk ((by rw [hg]; exact Nat.ne_of_gt (blk_lt (g := gb426) (o := .cells #[.int .i64 a1_0, .int .i64 a1_1] 23 (0, 0)) (by (with_reducible repeat (first | refine blk_drewN ?_ _ | refine blk_drew ?_ | refine blk_alloc ?_ _)); exact BK426.out)) : gb441 ≠ gb426)); have n12_ := Aside0.mk ((by rw [hg]; exact Nat.ne_of_lt (blk_lt (g := gb433) (o := .cells #[.int .i64 t430, .int .i64 t431] 23 (0, 0)) (by (with_reducible repeat (first | refine blk_drewN ?_ _ | refine blk_drew ?_ | refine blk_alloc ?_ _)); exact BK433.out)) : gb433 ≠ gb441)); have n13_ := Aside0.mk ((by rw [hg]; exact Nat.ne_of_gt (blk_lt (g := gb433) (o := .cells #[.int .i64 t430, .int .i64 t431] 23 (0, 0)) (by (with_reducible repeat (first | refine blk_drewN ?_ _ | refine blk_drew ?_ | refine blk_alloc ?_ _)); exact BK433.out)) : gb441 ≠ gb433)); have n14_ := Aside0.mk ((by rw [hg]; exact Nat.ne_of_lt (blk_lt (g := gb437) (o := .cells #[.int .i64 t434, .int .i64 t435] 23 (0, 0)) (by (with_reducible repeat (first | refine blk_drewN ?_ _ | refine blk_drew ?_ | refine blk_alloc ?_ _)); exact BK437.out)) : gb437 ≠ gb441)); have n15_ := Aside0.mk ((by rw [hg]; exact Nat.ne_of_gt (blk_lt (g := gb437) (o := .cells #[.int .i64 t434, .int .i64 t435] 23 (0, 0)) (by (with_reducible repeat (first | refine blk_drewN ?_ _ | refine blk_drew ?_ | refine blk_alloc ?_ _)); exact BK437.out)) : gb441 ≠ gb437)); clear BK425; clear BK426; clear BK433; clear BK437; clear HB; have BK425 := n0_; have BK426 := n1_; have BK433 := n2_; have BK437 := n3_; have HB := n4_; have BK441 := n5_; have GW441 := n6_; have GE441 := n7_; have NB425_441 := n8_; have NB441_425 := n9_; have NB426_441 := n10_; have NB441_426 := n11_; have NB433_441 := n12_; have NB441_433 := n13_; have NB437_441 := n14_; have NB441_437 := n15_; clear n0_ n1_ n2_ n3_ n4_ n5_ n6_ n7_ n8_ n9_ n10_ n11_ n12_ n13_ n14_ n15_; clear hb hbox hg; have hnb45 := NB441_425.out; have hnc45 := NB425_441.out; have hnb46 := NB441_426.out; have hnc46 := NB426_441.out; have hnb47 := NB441_433.out; have hnc47 := NB433_441.out; have hnb48 := NB441_437.out; have hnc48 := NB437_441.out; have hcz49_0 : w44.cell? ⟨gb441, 0, none⟩ = some (.int .i64 0) := (blk_cell BK441.out 0).trans rfl; have hcz49_1 : w44.cell? ⟨gb441, 1, none⟩ = some (.int .i64 0) := (blk_cell BK441.out 1).trans rfl; have hfz49_0 := blk_frozen BK441.out 0; have hfz49_1 := blk_frozen BK441.out 1; have hcz50_0 : w44.cell? ⟨gb426, 0, none⟩ = some (.int .i64 a1_0) := (blk_cell BK426.out 0).trans rfl; have hcz50_1 : w44.cell? ⟨gb426, 1, none⟩ = some (.int .i64 a1_1) := (blk_cell BK426.out 1).trans rfl; have hfz50_0 := blk_frozen BK426.out 0; have hfz50_1 := blk_frozen BK426.out 1; have hcz51_0 : w44.cell? ⟨gb425, 0, none⟩ = some (.int .i64 a0_0) := (blk_cell BK425.out 0).trans rfl; have hcz51_1 : w44.cell? ⟨gb425, 1, none⟩ = some (.int .i64 a0_1) := (blk_cell BK425.out 1).trans rfl; have hfz51_0 := blk_frozen BK425.out 0; have hfz51_1 := blk_frozen BK425.out 1) | ((with_reducible refine gate_callee (f := 39) rfl ?_); refine goesL_ (some 47) rfl rfl Try.func39 (by kernel_rfl) rfl #[.agg #[.int .i64 a1_0, .int .i64 a1_1], .agg #[.int .i64 a0_0, .int .i64 a0_1]] rfl (by (try simp only [List.map_toArray, List.map_cons, List.map_nil]); first | done | rfl | (simp only [List.length_drop, List.length_take]; rfl)) ?_; (with_reducible refine (ratio_Mul.calls kj2 a1_0 a1_1 a0_0 a0_1 t442 t443 t444 _ A23.out).mono ?_); rintro e w52 ⟨rfl, hb⟩; refine ⟨_, rfl, ?_⟩; have n0_ := Aside0.mk (blk_below (g := gb425) (o := .cells #[.int .i64 a0_0, .int .i64 a0_1] 23 (0, 0)) (by (with_reducible repeat (first | refine blk_drewN ?_ _ | refine blk_drew ?_ | refine blk_alloc ?_ _)); refine blk_far ?_ NB425_441.out _; (with_reducible repeat (first | refine blk_drewN ?_ _ | refine blk_drew ?_ | refine blk_alloc ?_ _)); refine blk_far ?_ NB425_441.out _; (with_reducible repeat (first | refine blk_drewN ?_ _ | refine blk_drew ?_ | refine blk_alloc ?_ _)); exact BK425.out) hb); have n1_ := Aside0.mk (blk_below (g := gb426) (o := .cells #[.int .i64 a1_0, .int .i64 a1_1] 23 (0, 0)) (by (with_reducible repeat (first | refine blk_drewN ?_ _ | refine blk_drew ?_ | refine blk_alloc ?_ _)); refine blk_far ?_ NB426_441.out _; (with_reducible repeat (first | refine blk_drewN ?_ _ | refine blk_drew ?_ | refine blk_alloc ?_ _)); refine blk_far ?_ NB426_441.out _; (with_reducible repeat (first | refine blk_drewN ?_ _ | refine blk_drew ?_ | refine blk_alloc ?_ _)); exact BK426.out) hb); have n2_ := Aside0.mk (blk_below (g := gb433) (o := .cells #[.int .i64 t430, .int .i64 t431] 23 (0, 0)) (by (with_reducible repeat (first | refine blk_drewN ?_ _ | refine blk_drew ?_ | refine blk_alloc ?_ _)); refine blk_far ?_ NB433_441.out _; (with_reducible repeat (first | refine blk_drewN ?_ _ | refine blk_drew ?_ | refine blk_alloc ?_ _)); refine blk_far ?_ NB433_441.out _; (with_reducible repeat (first | refine blk_drewN ?_ _ | refine blk_drew ?_ | refine blk_alloc ?_ _)); exact BK433.out) hb); have n3_ := Aside0.mk (blk_below (g := gb437) (o := .cells #[.int .i64 t434, .int .i64 t435] 23 (0, 0)) (by (with_reducible repeat (first | refine blk_drewN ?_ _ | refine blk_drew ?_ | refine blk_alloc ?_ _)); refine blk_far ?_ NB437_441.out _; (with_reducible repeat (first | refine blk_drewN ?_ _ | refine blk_drew ?_ | refine blk_alloc ?_ _)); refine blk_far ?_ NB437_441.out _; (with_reducible repeat (first | refine blk_drewN ?_ _ | refine blk_drew ?_ | refine blk_alloc ?_ _)); exact BK437.out) hb); have n4_ := Aside0.mk (blk_below (g := gb441) (o := .cells #[.int .i64 t438, .int .i64 t439] 23 (0, 0)) (by (with_reducible repeat (first | refine blk_drewN ?_ _ | refine blk_drew ?_ | refine blk_alloc ?_ _)); refine blk_put (cs := #[.int .i64 t438, .int .i64 0]) ?_ 1 _ rfl; (with_reducible repeat (first | refine blk_drewN ?_ _ | refine blk_drew ?_ | refine blk_alloc ?_ _)); refine blk_put (cs := #[.int .i64 0, .int .i64 0]) ?_ 0 _ rfl; (with_reducible repeat (first | refine blk_drewN ?_ _ | refine blk_drew ?_ | refine blk_alloc ?_ _)); exact BK441.out) hb); have n5_ := Aside0.mk (below_step (by repeat (first | (with_reducible first | exact HB.out | apply below_alloc | apply pw_below_drewN | apply below_drew1 | refine below_set ?_ GE425.out | refine below_set ?_ GE426.out | refine below_set ?_ GE433.out | refine below_set ?_ GE437.out | refine below_set ?_ GE441.out) | exact HB.out)) hb); clear BK425; clear BK426; clear BK433; clear BK437; clear BK441; clear HB; have BK425 := n0_; have BK426 := n1_; have BK433 := n2_; have BK437 := n3_; have BK441 := n4_; have HB := n5_; clear n0_ n1_ n2_ n3_ n4_ n5_; (try clear hb); (try clear hb2); (try clear hk); (try clear hi)) | ((with_reducible refine gate_dst (N := 11) rfl ?_); refine box_event ?hg (N := 11) ?hd (cs := #[.int .i64 0, .int .i64 0]) (t := 23) ?hr ?_; (case hd => rfl); (case hg => rfl); (case hr => first | (go_simp; done) | (go_simp; rfl)); intro gb445 hg w53 hbox hb; have n0_ := Aside0.mk (blk_below (g := gb425) (o := .cells #[.int .i64 a0_0, .int .i64 a0_1] 23 (0, 0)) (by (with_reducible repeat (first | refine blk_drewN ?_ _ | refine blk_drew ?_ | refine blk_alloc ?_ _)); exact BK425.out) hb); have n1_ := Aside0.mk (blk_below (g := gb426) (o := .cells #[.int .i64 a1_0, .int .i64 a1_1] 23 (0, 0)) (by (with_reducible repeat (first | refine blk_drewN ?_ _ | refine blk_drew ?_ | refine blk_alloc ?_ _)); exact BK426.out) hb); have n2_ := Aside0.mk (blk_below (g := gb433) (o := .cells #[.int .i64 t430, .int .i64 t431] 23 (0, 0)) (by (with_reducible repeat (first | refine blk_drewN ?_ _ | refine blk_drew ?_ | refine blk_alloc ?_ _)); exact BK433.out) hb); have n3_ := Aside0.mk (blk_below (g := gb437) (o := .cells #[.int .i64 t434, .int .i64 t435] 23 (0, 0)) (by (with_reducible repeat (first | refine blk_drewN ?_ _ | refine blk_drew ?_ | refine blk_alloc ?_ _)); exact BK437.out) hb); have n4_ := Aside0.mk (blk_below (g := gb441) (o := .cells #[.int .i64 t438, .int .i64 t439] 23 (0, 0)) (by (with_reducible repeat (first | refine blk_drewN ?_ _ | refine blk_drew ?_ | refine blk_alloc ?_ _)); exact BK441.out) hb); have n5_ := Aside0.mk (below_step (by repeat (first | (with_reducible first | exact HB.out | apply below_alloc | apply pw_below_drewN | apply below_drew1 | refine below_set ?_ GE425.out | refine below_set ?_ GE426.out | refine below_set ?_ GE433.out | refine below_set ?_ GE437.out | refine below_set ?_ GE441.out) | exact HB.out)) hb); have n6_ := Aside0.mk (hbox); have n7_ := Aside0.mk ((by rw [hg]; exact (below_size (by repeat (first | (with_reducible first | exact HB.out | apply below_alloc | apply pw_below_drewN | apply below_drew1 | refine below_set ?_ GE425.out | refine below_set ?_ GE426.out | refine below_set ?_ GE433.out | refine below_set ?_ GE437.out | refine below_set ?_ GE441.out) | exact HB.out))) : w.heap.size ≤ gb445)); have n8_ := Aside0.mk ((by rw [hg]; exact (below_size (by repeat (first | (with_reducible first | exact HB.out | apply below_alloc | apply pw_below_drewN | apply below_drew1 | refine below_set ?_ GE425.out | refine below_set ?_ GE426.out | refine below_set ?_ GE433.out | refine below_set ?_ GE437.out | refine below_set ?_ GE441.out) | exact HB.out))) : w.heap.size ≤ gb445)); have n9_ := Aside0.mk ((by rw [hg]; exact Nat.ne_of_lt (blk_lt (g := gb425) (o := .cells #[.int .i64 a0_0, .int .i64 a0_1] 23 (0, 0)) (by (with_reducible repeat (first | refine blk_drewN ?_ _ | refine blk_drew ?_ | refine blk_alloc ?_ _)); exact BK425.out)) : gb425 ≠ gb445)); have n10_ := Aside0.mk ((by rw [hg]; exact Nat.ne_of_gt (blk_lt (g := gb425) (o := .cells #[.int .i64 a0_0, .int .i64 a0_1] 23 (0, 0)) (by (with_reducible repeat (first | refine blk_drewN ?_ _ | refine blk_drew ?_ | refine blk_alloc ?_ _)); exact BK425.out)) : gb445 ≠ gb425)); have n11_ := Aside0.mk ((by rw [hg]; exact Nat.ne_of_lt (blk_lt (g := gb426) (o := .cells #[.int .i64 a1_0, .int .i64 a1_1] 23 (0, 0)) (by (with_reducible repeat (first | refine blk_drewN ?_ _ | refine blk_drew ?_ | refine blk_alloc ?_ _)); exact BK426.out)) : gb426 ≠ gb445)); have n12_ := Aside0.mk ((by rw [hg]; exact Nat.ne_of_gt (blk_lt (g := gb426) (o := .cells #[.int .i64 a1_0, .int .i64 a1_1] 23 (0, 0)) (by (with_reducible repeat (first | refine blk_drewN ?_ _ | refine blk_drew ?_ | refine blk_alloc ?_ _)); exact BK426.out)) : gb445 ≠ gb426)); have n13_ := Aside0.mk ((by rw [hg]; exact Nat.ne_of_lt (blk_lt (g := gb433) (o := .cells #[.int .i64 t430, .int .i64 t431] 23 (0, 0)) (by (with_reducible repeat (first | refine blk_drewN ?_ _ | refine blk_drew ?_ | refine blk_alloc ?_ _)); exact BK433.out)) : gb433 ≠ gb445)); have n14_ := Aside0.mk ((by rw [hg]; exact Nat.ne_of_gt (blk_lt (g := gb433) (o := .cells #[.int .i64 t430, .int .i64 t431] 23 (0, 0)) (by (with_reducible repeat (first | refine blk_drewN ?_ _ | refine blk_drew ?_ | refine blk_alloc ?_ _)); exact BK433.out)) : gb445 ≠ gb433)); have n15_ := Aside0.mk ((by rw [hg]; exact Nat.ne_of_lt (blk_lt (g := gb437) (o := .cells #[.int .i64 t434, .int .i64 t435] 23 (0, 0)) (by (with_reducible repeat (first | refine blk_drewN ?_ _ | refine blk_drew ?_ | refine blk_alloc ?_ _)); exact BK437.out)) : gb437 ≠ gb445)); have n16_ := Aside0.mk ((by rw [hg]; exact Nat.ne_of_gt (blk_lt (g := gb437) (o := .cells #[.int .i64 t434, .int .i64 t435] 23 (0, 0)) (by (with_reducible repeat (first | refine blk_drewN ?_ _ | refine blk_drew ?_ | refine blk_alloc ?_ _)); exact BK437.out)) : gb445 ≠ gb437)); have n17_ := Aside0.mk ((by rw [hg]; exact Nat.ne_of_lt (blk_lt (g := gb441) (o := .cells #[.int .i64 t438, .int .i64 t439] 23 (0, 0)) (by (with_reducible repeat (first | refine blk_drewN ?_ _ | refine blk_drew ?_ | refine blk_alloc ?_ _)); exact BK441.out)) : gb441 ≠ gb445)); have n18_ := Aside0.mk ((by rw [hg]; exact Nat.ne_of_gt (blk_lt (g := gb441) (o := .cells #[.int .i64 t438, .int .i64 t439] 23 (0, 0)) (by (with_reducible repeat (first | refine blk_drewN ?_ _ | refine blk_drew ?_ | refine blk_alloc ?_ _)); exact BK441.out)) : gb445 ≠ gb441)); clear BK425; clear BK426; clear BK433; clear BK437; clear BK441; clear HB; have BK425 := n0_; have BK426 := n1_; have BK433 := n2_; have BK437 := n3_; have BK441 := n4_; have HB := n5_; have BK445 := n6_; have GW445 := n7_; have GE445 := n8_; have NB425_445 := n9_; have NB445_425 := n10_; have NB426_445 := n11_; have NB445_426 := n12_; have NB433_445 := n13_; have NB445_433 := n14_; have NB437_445 := n15_; have NB445_437 := n16_; have NB441_445 := n17_; have NB445_441 := n18_; clear n0_ n1_ n2_ n3_ n4_ n5_ n6_ n7_ n8_ n9_ n10_ n11_ n12_ n13_ n14_ n15_ n16_ n17_ n18_; clear hb hbox hg; have hnb54 := NB445_425.out; have hnc54 := NB425_445.out; have hnb55 := NB445_426.out; have hnc55 := NB426_445.out; have hnb56 := NB445_433.out; have hnc56 := NB433_445.out; have hnb57 := NB445_437.out; have hnc57 := NB437_445.out; have hnb58 := NB445_441.out; have hnc58 := NB441_445.out; have hcz59_0 : w53.cell? ⟨gb445, 0, none⟩ = some (.int .i64 0) := (blk_cell BK445.out 0).trans rfl; have hcz59_1 : w53.cell? ⟨gb445, 1, none⟩ = some (.int .i64 0) := (blk_cell BK445.out 1).trans rfl; have hfz59_0 := blk_frozen BK445.out 0; have hfz59_1 := blk_frozen BK445.out 1))
        (try simp only [Act.put, List.setIfInBounds_toArray, List.set_cons_zero, List.set_cons_succ])
        go_cut [67] (fun v67 wc => ∃ (kq : Nat) (x67_23 : Bool), v67 = .bool x67_23 ∧ Aside0 (mosaiclaw05_RatioTurns.j1 kq t432 t440 x67_23 a0_0 a0_1 a1_0 a1_1 t430 t431 t438 t439 = some r) ∧ Aside0 (kq ≤ kj2) ∧ Aside0 (wc.heap[gb425]? = some (.cells #[.int .i64 a0_0, .int .i64 a0_1] 23 (0, 0))) ∧ Aside0 (wc.heap[gb426]? = some (.cells #[.int .i64 a1_0, .int .i64 a1_1] 23 (0, 0))) ∧ Aside0 (wc.heap[gb433]? = some (.cells #[.int .i64 t430, .int .i64 t431] 23 (0, 0))) ∧ Aside0 (wc.heap[gb437]? = some (.cells #[.int .i64 t434, .int .i64 t435] 23 (0, 0))) ∧ Aside0 (wc.heap[gb441]? = some (.cells #[.int .i64 t438, .int .i64 t439] 23 (0, 0))) ∧ Aside0 (wc.heap[gb445]? = some (.cells #[.int .i64 t442, .int .i64 t443] 23 (0, 0))) ∧ Aside0 (Below w.heap.size w wc))
        case first =>
          have H := HC24.out
          clear HC24
          by_cases c60 : (!(t430 == t434) || (!(t431 == t435))) = true
          · rw [if_pos c60] at H
            have c60b0 : (!(t430 == t434) || (!(t431 == t435))) = true := c60
            clear c60
            (first | rw [c60b0] | (simp only [i64_w, i32_w]; rw [c60b0]) | skip)
            have H' := Aside0.mk H
            clear H
            have hnb61 := NB433_425.out
            have hnc61 := NB425_433.out
            have hnb62 := NB433_426.out
            have hnc62 := NB426_433.out
            have hnb63 := NB433_437.out
            have hnc63 := NB437_433.out
            have hnb64 := NB433_441.out
            have hnc64 := NB441_433.out
            have hnb65 := NB433_445.out
            have hnc65 := NB445_433.out
            have hcz66_0 : w53.cell? ⟨gb433, 0, none⟩ = some (.int .i64 t430) := (blk_cell BK433.out 0).trans rfl
            have hcz66_1 : w53.cell? ⟨gb433, 1, none⟩ = some (.int .i64 t431) := (blk_cell BK433.out 1).trans rfl
            have hfz66_0 := blk_frozen BK433.out 0
            have hfz66_1 := blk_frozen BK433.out 1
            have hnb67 := NB437_425.out
            have hnc67 := NB425_437.out
            have hnb68 := NB437_426.out
            have hnc68 := NB426_437.out
            have hnb69 := NB437_441.out
            have hnc69 := NB441_437.out
            have hnb70 := NB437_445.out
            have hnc70 := NB445_437.out
            have hcz71_0 : w53.cell? ⟨gb437, 0, none⟩ = some (.int .i64 t434) := (blk_cell BK437.out 0).trans rfl
            have hcz71_1 : w53.cell? ⟨gb437, 1, none⟩ = some (.int .i64 t435) := (blk_cell BK437.out 1).trans rfl
            have hfz71_0 := blk_frozen BK437.out 0
            have hfz71_1 := blk_frozen BK437.out 1
            go_wp2
            go_meet
            case rel => exact ⟨_, (true), (by first | rfl | (simp; done) | (simp [*]; done)), H', ⟨by have := HJ2.out; first | omega | exact Nat.le_refl _⟩, ⟨by (with_reducible repeat (first | refine blk_drewN ?_ _ | refine blk_drew ?_ | refine blk_alloc ?_ _)); refine blk_far ?_ NB425_445.out _; (with_reducible repeat (first | refine blk_drewN ?_ _ | refine blk_drew ?_ | refine blk_alloc ?_ _)); refine blk_far ?_ NB425_445.out _; (with_reducible repeat (first | refine blk_drewN ?_ _ | refine blk_drew ?_ | refine blk_alloc ?_ _)); exact BK425.out⟩, ⟨by (with_reducible repeat (first | refine blk_drewN ?_ _ | refine blk_drew ?_ | refine blk_alloc ?_ _)); refine blk_far ?_ NB426_445.out _; (with_reducible repeat (first | refine blk_drewN ?_ _ | refine blk_drew ?_ | refine blk_alloc ?_ _)); refine blk_far ?_ NB426_445.out _; (with_reducible repeat (first | refine blk_drewN ?_ _ | refine blk_drew ?_ | refine blk_alloc ?_ _)); exact BK426.out⟩, ⟨by (with_reducible repeat (first | refine blk_drewN ?_ _ | refine blk_drew ?_ | refine blk_alloc ?_ _)); refine blk_far ?_ NB433_445.out _; (with_reducible repeat (first | refine blk_drewN ?_ _ | refine blk_drew ?_ | refine blk_alloc ?_ _)); refine blk_far ?_ NB433_445.out _; (with_reducible repeat (first | refine blk_drewN ?_ _ | refine blk_drew ?_ | refine blk_alloc ?_ _)); exact BK433.out⟩, ⟨by (with_reducible repeat (first | refine blk_drewN ?_ _ | refine blk_drew ?_ | refine blk_alloc ?_ _)); refine blk_far ?_ NB437_445.out _; (with_reducible repeat (first | refine blk_drewN ?_ _ | refine blk_drew ?_ | refine blk_alloc ?_ _)); refine blk_far ?_ NB437_445.out _; (with_reducible repeat (first | refine blk_drewN ?_ _ | refine blk_drew ?_ | refine blk_alloc ?_ _)); exact BK437.out⟩, ⟨by (with_reducible repeat (first | refine blk_drewN ?_ _ | refine blk_drew ?_ | refine blk_alloc ?_ _)); refine blk_far ?_ NB441_445.out _; (with_reducible repeat (first | refine blk_drewN ?_ _ | refine blk_drew ?_ | refine blk_alloc ?_ _)); refine blk_far ?_ NB441_445.out _; (with_reducible repeat (first | refine blk_drewN ?_ _ | refine blk_drew ?_ | refine blk_alloc ?_ _)); exact BK441.out⟩, ⟨by (with_reducible repeat (first | refine blk_drewN ?_ _ | refine blk_drew ?_ | refine blk_alloc ?_ _)); refine blk_put (cs := #[.int .i64 t442, .int .i64 0]) ?_ 1 _ rfl; (with_reducible repeat (first | refine blk_drewN ?_ _ | refine blk_drew ?_ | refine blk_alloc ?_ _)); refine blk_put (cs := #[.int .i64 0, .int .i64 0]) ?_ 0 _ rfl; (with_reducible repeat (first | refine blk_drewN ?_ _ | refine blk_drew ?_ | refine blk_alloc ?_ _)); exact BK445.out⟩, ⟨by repeat (first | (with_reducible first | exact HB.out | apply below_alloc | apply pw_below_drewN | apply below_drew1 | refine below_set ?_ GE425.out | refine below_set ?_ GE426.out | refine below_set ?_ GE433.out | refine below_set ?_ GE437.out | refine below_set ?_ GE441.out | refine below_set ?_ GE445.out) | exact HB.out)⟩⟩
          · rw [if_neg c60] at H
            have c60b0 : (!(t430 == t434) || (!(t431 == t435))) = false := by simpa using c60
            clear c60
            (first | rw [c60b0] | (simp only [i64_w, i32_w]; rw [c60b0]) | skip)
            by_cases c72 : t432 = t436
            · rw [if_pos c72] at H
              have c72b0 : (t432 == t436) = true := beq_iff_eq.mpr c72
              have c72b1 : (t432 != t436) = false := bne_eq_false_iff_eq.mpr c72
              clear c72
              by_cases c73 : (!(t438 == t442) || (!(t439 == t443))) = true
              · rw [if_pos c73] at H
                have c73b0 : (!(t438 == t442) || (!(t439 == t443))) = true := c73
                clear c73
                have H' := Aside0.mk H
                clear H
                have hnb74 := NB433_425.out
                have hnc74 := NB425_433.out
                have hnb75 := NB433_426.out
                have hnc75 := NB426_433.out
                have hnb76 := NB433_437.out
                have hnc76 := NB437_433.out
                have hnb77 := NB433_441.out
                have hnc77 := NB441_433.out
                have hnb78 := NB433_445.out
                have hnc78 := NB445_433.out
                have hcz79_0 : w53.cell? ⟨gb433, 0, none⟩ = some (.int .i64 t430) := (blk_cell BK433.out 0).trans rfl
                have hcz79_1 : w53.cell? ⟨gb433, 1, none⟩ = some (.int .i64 t431) := (blk_cell BK433.out 1).trans rfl
                have hfz79_0 := blk_frozen BK433.out 0
                have hfz79_1 := blk_frozen BK433.out 1
                have hnb80 := NB437_425.out
                have hnc80 := NB425_437.out
                have hnb81 := NB437_426.out
                have hnc81 := NB426_437.out
                have hnb82 := NB437_441.out
                have hnc82 := NB441_437.out
                have hnb83 := NB437_445.out
                have hnc83 := NB445_437.out
                have hcz84_0 : w53.cell? ⟨gb437, 0, none⟩ = some (.int .i64 t434) := (blk_cell BK437.out 0).trans rfl
                have hcz84_1 : w53.cell? ⟨gb437, 1, none⟩ = some (.int .i64 t435) := (blk_cell BK437.out 1).trans rfl
                have hfz84_0 := blk_frozen BK437.out 0
                have hfz84_1 := blk_frozen BK437.out 1
                have hnb85 := NB441_425.out
                have hnc85 := NB425_441.out
                have hnb86 := NB441_426.out
                have hnc86 := NB426_441.out
                have hnb87 := NB441_445.out
                have hnc87 := NB445_441.out
                have hcz88_0 : w53.cell? ⟨gb441, 0, none⟩ = some (.int .i64 t438) := (blk_cell BK441.out 0).trans rfl
                have hcz88_1 : w53.cell? ⟨gb441, 1, none⟩ = some (.int .i64 t439) := (blk_cell BK441.out 1).trans rfl
                have hfz88_0 := blk_frozen BK441.out 0
                have hfz88_1 := blk_frozen BK441.out 1
                have hnb89 := NB445_425.out
                have hnc89 := NB425_445.out
                have hnb90 := NB445_426.out
                have hnc90 := NB426_445.out
                have hcz91_0 : w53.cell? ⟨gb445, 0, none⟩ = some (.int .i64 0) := (blk_cell BK445.out 0).trans rfl
                have hcz91_1 : w53.cell? ⟨gb445, 1, none⟩ = some (.int .i64 0) := (blk_cell BK445.out 1).trans rfl
                have hfz91_0 := blk_frozen BK445.out 0
                have hfz91_1 := blk_frozen BK445.out 1
                go_wp2
                go_meet
                case rel => exact ⟨_, (true), (by first | rfl | (simp; done) | (simp [*]; done)), H', ⟨by have := HJ2.out; first | omega | exact Nat.le_refl _⟩, ⟨by (with_reducible repeat (first | refine blk_drewN ?_ _ | refine blk_drew ?_ | refine blk_alloc ?_ _)); refine blk_far ?_ NB425_445.out _; (with_reducible repeat (first | refine blk_drewN ?_ _ | refine blk_drew ?_ | refine blk_alloc ?_ _)); refine blk_far ?_ NB425_445.out _; (with_reducible repeat (first | refine blk_drewN ?_ _ | refine blk_drew ?_ | refine blk_alloc ?_ _)); exact BK425.out⟩, ⟨by (with_reducible repeat (first | refine blk_drewN ?_ _ | refine blk_drew ?_ | refine blk_alloc ?_ _)); refine blk_far ?_ NB426_445.out _; (with_reducible repeat (first | refine blk_drewN ?_ _ | refine blk_drew ?_ | refine blk_alloc ?_ _)); refine blk_far ?_ NB426_445.out _; (with_reducible repeat (first | refine blk_drewN ?_ _ | refine blk_drew ?_ | refine blk_alloc ?_ _)); exact BK426.out⟩, ⟨by (with_reducible repeat (first | refine blk_drewN ?_ _ | refine blk_drew ?_ | refine blk_alloc ?_ _)); refine blk_far ?_ NB433_445.out _; (with_reducible repeat (first | refine blk_drewN ?_ _ | refine blk_drew ?_ | refine blk_alloc ?_ _)); refine blk_far ?_ NB433_445.out _; (with_reducible repeat (first | refine blk_drewN ?_ _ | refine blk_drew ?_ | refine blk_alloc ?_ _)); exact BK433.out⟩, ⟨by (with_reducible repeat (first | refine blk_drewN ?_ _ | refine blk_drew ?_ | refine blk_alloc ?_ _)); refine blk_far ?_ NB437_445.out _; (with_reducible repeat (first | refine blk_drewN ?_ _ | refine blk_drew ?_ | refine blk_alloc ?_ _)); refine blk_far ?_ NB437_445.out _; (with_reducible repeat (first | refine blk_drewN ?_ _ | refine blk_drew ?_ | refine blk_alloc ?_ _)); exact BK437.out⟩, ⟨by (with_reducible repeat (first | refine blk_drewN ?_ _ | refine blk_drew ?_ | refine blk_alloc ?_ _)); refine blk_far ?_ NB441_445.out _; (with_reducible repeat (first | refine blk_drewN ?_ _ | refine blk_drew ?_ | refine blk_alloc ?_ _)); refine blk_far ?_ NB441_445.out _; (with_reducible repeat (first | refine blk_drewN ?_ _ | refine blk_drew ?_ | refine blk_alloc ?_ _)); exact BK441.out⟩, ⟨by (with_reducible repeat (first | refine blk_drewN ?_ _ | refine blk_drew ?_ | refine blk_alloc ?_ _)); refine blk_put (cs := #[.int .i64 t442, .int .i64 0]) ?_ 1 _ rfl; (with_reducible repeat (first | refine blk_drewN ?_ _ | refine blk_drew ?_ | refine blk_alloc ?_ _)); refine blk_put (cs := #[.int .i64 0, .int .i64 0]) ?_ 0 _ rfl; (with_reducible repeat (first | refine blk_drewN ?_ _ | refine blk_drew ?_ | refine blk_alloc ?_ _)); exact BK445.out⟩, ⟨by repeat (first | (with_reducible first | exact HB.out | apply below_alloc | apply pw_below_drewN | apply below_drew1 | refine below_set ?_ GE425.out | refine below_set ?_ GE426.out | refine below_set ?_ GE433.out | refine below_set ?_ GE437.out | refine below_set ?_ GE441.out | refine below_set ?_ GE445.out) | exact HB.out)⟩⟩
              · rw [if_neg c73] at H
                have c73b0 : (!(t438 == t442) || (!(t439 == t443))) = false := by simpa using c73
                clear c73
                have H' := Aside0.mk H
                clear H
                have hnb92 := NB433_425.out
                have hnc92 := NB425_433.out
                have hnb93 := NB433_426.out
                have hnc93 := NB426_433.out
                have hnb94 := NB433_437.out
                have hnc94 := NB437_433.out
                have hnb95 := NB433_441.out
                have hnc95 := NB441_433.out
                have hnb96 := NB433_445.out
                have hnc96 := NB445_433.out
                have hcz97_0 : w53.cell? ⟨gb433, 0, none⟩ = some (.int .i64 t430) := (blk_cell BK433.out 0).trans rfl
                have hcz97_1 : w53.cell? ⟨gb433, 1, none⟩ = some (.int .i64 t431) := (blk_cell BK433.out 1).trans rfl
                have hfz97_0 := blk_frozen BK433.out 0
                have hfz97_1 := blk_frozen BK433.out 1
                have hnb98 := NB437_425.out
                have hnc98 := NB425_437.out
                have hnb99 := NB437_426.out
                have hnc99 := NB426_437.out
                have hnb100 := NB437_441.out
                have hnc100 := NB441_437.out
                have hnb101 := NB437_445.out
                have hnc101 := NB445_437.out
                have hcz102_0 : w53.cell? ⟨gb437, 0, none⟩ = some (.int .i64 t434) := (blk_cell BK437.out 0).trans rfl
                have hcz102_1 : w53.cell? ⟨gb437, 1, none⟩ = some (.int .i64 t435) := (blk_cell BK437.out 1).trans rfl
                have hfz102_0 := blk_frozen BK437.out 0
                have hfz102_1 := blk_frozen BK437.out 1
                have hnb103 := NB441_425.out
                have hnc103 := NB425_441.out
                have hnb104 := NB441_426.out
                have hnc104 := NB426_441.out
                have hnb105 := NB441_445.out
                have hnc105 := NB445_441.out
                have hcz106_0 : w53.cell? ⟨gb441, 0, none⟩ = some (.int .i64 t438) := (blk_cell BK441.out 0).trans rfl
                have hcz106_1 : w53.cell? ⟨gb441, 1, none⟩ = some (.int .i64 t439) := (blk_cell BK441.out 1).trans rfl
                have hfz106_0 := blk_frozen BK441.out 0
                have hfz106_1 := blk_frozen BK441.out 1
                have hnb107 := NB445_425.out
                have hnc107 := NB425_445.out
                have hnb108 := NB445_426.out
                have hnc108 := NB426_445.out
                have hcz109_0 : w53.cell? ⟨gb445, 0, none⟩ = some (.int .i64 0) := (blk_cell BK445.out 0).trans rfl
                have hcz109_1 : w53.cell? ⟨gb445, 1, none⟩ = some (.int .i64 0) := (blk_cell BK445.out 1).trans rfl
                have hfz109_0 := blk_frozen BK445.out 0
                have hfz109_1 := blk_frozen BK445.out 1
                go_wp2
                go_meet
                case rel => exact ⟨_, ((t440 != t444)), (by first | rfl | (simp; done) | (simp [*]; done)), H', ⟨by have := HJ2.out; first | omega | exact Nat.le_refl _⟩, ⟨by (with_reducible repeat (first | refine blk_drewN ?_ _ | refine blk_drew ?_ | refine blk_alloc ?_ _)); refine blk_far ?_ NB425_445.out _; (with_reducible repeat (first | refine blk_drewN ?_ _ | refine blk_drew ?_ | refine blk_alloc ?_ _)); refine blk_far ?_ NB425_445.out _; (with_reducible repeat (first | refine blk_drewN ?_ _ | refine blk_drew ?_ | refine blk_alloc ?_ _)); exact BK425.out⟩, ⟨by (with_reducible repeat (first | refine blk_drewN ?_ _ | refine blk_drew ?_ | refine blk_alloc ?_ _)); refine blk_far ?_ NB426_445.out _; (with_reducible repeat (first | refine blk_drewN ?_ _ | refine blk_drew ?_ | refine blk_alloc ?_ _)); refine blk_far ?_ NB426_445.out _; (with_reducible repeat (first | refine blk_drewN ?_ _ | refine blk_drew ?_ | refine blk_alloc ?_ _)); exact BK426.out⟩, ⟨by (with_reducible repeat (first | refine blk_drewN ?_ _ | refine blk_drew ?_ | refine blk_alloc ?_ _)); refine blk_far ?_ NB433_445.out _; (with_reducible repeat (first | refine blk_drewN ?_ _ | refine blk_drew ?_ | refine blk_alloc ?_ _)); refine blk_far ?_ NB433_445.out _; (with_reducible repeat (first | refine blk_drewN ?_ _ | refine blk_drew ?_ | refine blk_alloc ?_ _)); exact BK433.out⟩, ⟨by (with_reducible repeat (first | refine blk_drewN ?_ _ | refine blk_drew ?_ | refine blk_alloc ?_ _)); refine blk_far ?_ NB437_445.out _; (with_reducible repeat (first | refine blk_drewN ?_ _ | refine blk_drew ?_ | refine blk_alloc ?_ _)); refine blk_far ?_ NB437_445.out _; (with_reducible repeat (first | refine blk_drewN ?_ _ | refine blk_drew ?_ | refine blk_alloc ?_ _)); exact BK437.out⟩, ⟨by (with_reducible repeat (first | refine blk_drewN ?_ _ | refine blk_drew ?_ | refine blk_alloc ?_ _)); refine blk_far ?_ NB441_445.out _; (with_reducible repeat (first | refine blk_drewN ?_ _ | refine blk_drew ?_ | refine blk_alloc ?_ _)); refine blk_far ?_ NB441_445.out _; (with_reducible repeat (first | refine blk_drewN ?_ _ | refine blk_drew ?_ | refine blk_alloc ?_ _)); exact BK441.out⟩, ⟨by (with_reducible repeat (first | refine blk_drewN ?_ _ | refine blk_drew ?_ | refine blk_alloc ?_ _)); refine blk_put (cs := #[.int .i64 t442, .int .i64 0]) ?_ 1 _ rfl; (with_reducible repeat (first | refine blk_drewN ?_ _ | refine blk_drew ?_ | refine blk_alloc ?_ _)); refine blk_put (cs := #[.int .i64 0, .int .i64 0]) ?_ 0 _ rfl; (with_reducible repeat (first | refine blk_drewN ?_ _ | refine blk_drew ?_ | refine blk_alloc ?_ _)); exact BK445.out⟩, ⟨by repeat (first | (with_reducible first | exact HB.out | apply below_alloc | apply pw_below_drewN | apply below_drew1 | refine below_set ?_ GE425.out | refine below_set ?_ GE426.out | refine below_set ?_ GE433.out | refine below_set ?_ GE437.out | refine below_set ?_ GE441.out | refine below_set ?_ GE445.out) | exact HB.out)⟩⟩
            · rw [if_neg c72] at H
              have c72b0 : (t432 == t436) = false := beq_eq_false_iff_ne.mpr c72
              have c72b1 : (t432 != t436) = true := bne_iff_ne.mpr c72
              have H' := Aside0.mk H
              clear H
              have hnb110 := NB433_425.out
              have hnc110 := NB425_433.out
              have hnb111 := NB433_426.out
              have hnc111 := NB426_433.out
              have hnb112 := NB433_437.out
              have hnc112 := NB437_433.out
              have hnb113 := NB433_441.out
              have hnc113 := NB441_433.out
              have hnb114 := NB433_445.out
              have hnc114 := NB445_433.out
              have hcz115_0 : w53.cell? ⟨gb433, 0, none⟩ = some (.int .i64 t430) := (blk_cell BK433.out 0).trans rfl
              have hcz115_1 : w53.cell? ⟨gb433, 1, none⟩ = some (.int .i64 t431) := (blk_cell BK433.out 1).trans rfl
              have hfz115_0 := blk_frozen BK433.out 0
              have hfz115_1 := blk_frozen BK433.out 1
              have hnb116 := NB437_425.out
              have hnc116 := NB425_437.out
              have hnb117 := NB437_426.out
              have hnc117 := NB426_437.out
              have hnb118 := NB437_441.out
              have hnc118 := NB441_437.out
              have hnb119 := NB437_445.out
              have hnc119 := NB445_437.out
              have hcz120_0 : w53.cell? ⟨gb437, 0, none⟩ = some (.int .i64 t434) := (blk_cell BK437.out 0).trans rfl
              have hcz120_1 : w53.cell? ⟨gb437, 1, none⟩ = some (.int .i64 t435) := (blk_cell BK437.out 1).trans rfl
              have hfz120_0 := blk_frozen BK437.out 0
              have hfz120_1 := blk_frozen BK437.out 1
              go_wp2
              go_meet
              case rel => exact ⟨_, (true), (by first | rfl | (simp; done) | (simp [*]; done)), H', ⟨by have := HJ2.out; first | omega | exact Nat.le_refl _⟩, ⟨by (with_reducible repeat (first | refine blk_drewN ?_ _ | refine blk_drew ?_ | refine blk_alloc ?_ _)); refine blk_far ?_ NB425_445.out _; (with_reducible repeat (first | refine blk_drewN ?_ _ | refine blk_drew ?_ | refine blk_alloc ?_ _)); refine blk_far ?_ NB425_445.out _; (with_reducible repeat (first | refine blk_drewN ?_ _ | refine blk_drew ?_ | refine blk_alloc ?_ _)); exact BK425.out⟩, ⟨by (with_reducible repeat (first | refine blk_drewN ?_ _ | refine blk_drew ?_ | refine blk_alloc ?_ _)); refine blk_far ?_ NB426_445.out _; (with_reducible repeat (first | refine blk_drewN ?_ _ | refine blk_drew ?_ | refine blk_alloc ?_ _)); refine blk_far ?_ NB426_445.out _; (with_reducible repeat (first | refine blk_drewN ?_ _ | refine blk_drew ?_ | refine blk_alloc ?_ _)); exact BK426.out⟩, ⟨by (with_reducible repeat (first | refine blk_drewN ?_ _ | refine blk_drew ?_ | refine blk_alloc ?_ _)); refine blk_far ?_ NB433_445.out _; (with_reducible repeat (first | refine blk_drewN ?_ _ | refine blk_drew ?_ | refine blk_alloc ?_ _)); refine blk_far ?_ NB433_445.out _; (with_reducible repeat (first | refine blk_drewN ?_ _ | refine blk_drew ?_ | refine blk_alloc ?_ _)); exact BK433.out⟩, ⟨by (with_reducible repeat (first | refine blk_drewN ?_ _ | refine blk_drew ?_ | refine blk_alloc ?_ _)); refine blk_far ?_ NB437_445.out _; (with_reducible repeat (first | refine blk_drewN ?_ _ | refine blk_drew ?_ | refine blk_alloc ?_ _)); refine blk_far ?_ NB437_445.out _; (with_reducible repeat (first | refine blk_drewN ?_ _ | refine blk_drew ?_ | refine blk_alloc ?_ _)); exact BK437.out⟩, ⟨by (with_reducible repeat (first | refine blk_drewN ?_ _ | refine blk_drew ?_ | refine blk_alloc ?_ _)); refine blk_far ?_ NB441_445.out _; (with_reducible repeat (first | refine blk_drewN ?_ _ | refine blk_drew ?_ | refine blk_alloc ?_ _)); refine blk_far ?_ NB441_445.out _; (with_reducible repeat (first | refine blk_drewN ?_ _ | refine blk_drew ?_ | refine blk_alloc ?_ _)); exact BK441.out⟩, ⟨by (with_reducible repeat (first | refine blk_drewN ?_ _ | refine blk_drew ?_ | refine blk_alloc ?_ _)); refine blk_put (cs := #[.int .i64 t442, .int .i64 0]) ?_ 1 _ rfl; (with_reducible repeat (first | refine blk_drewN ?_ _ | refine blk_drew ?_ | refine blk_alloc ?_ _)); refine blk_put (cs := #[.int .i64 0, .int .i64 0]) ?_ 0 _ rfl; (with_reducible repeat (first | refine blk_drewN ?_ _ | refine blk_drew ?_ | refine blk_alloc ?_ _)); exact BK445.out⟩, ⟨by repeat (first | (with_reducible first | exact HB.out | apply below_alloc | apply pw_below_drewN | apply below_drew1 | refine below_set ?_ GE425.out | refine below_set ?_ GE426.out | refine below_set ?_ GE433.out | refine below_set ?_ GE437.out | refine below_set ?_ GE441.out | refine below_set ?_ GE445.out) | exact HB.out)⟩⟩
        case rest =>
          clear HC24
          try clear c1
          try clear c2
          try clear p2
          try clear c3
          try clear c4
          try clear c5
          try clear c6
          try clear c7
          try clear c8
          try clear c9
          try clear c10
          try clear c11
          try clear c14
          try clear c17
          try clear c25
          try clear c27
          try clear c30
          try clear c31
          try clear c36
          try clear c37
          try clear c38
          try clear c39
          try clear c45
          try clear c46
          try clear c47
          try clear c48
          try clear c54
          try clear c55
          try clear c56
          try clear c57
          try clear c58
          try clear c60
          try clear c60b0
          try clear c61
          try clear c62
          try clear c63
          try clear c64
          try clear c65
          try clear c67
          try clear c68
          try clear c69
          try clear c70
          try clear c72
          try clear c72b0
          try clear c72b1
          try clear c73
          try clear c73b0
          try clear c74
          try clear c75
          try clear c76
          try clear c77
          try clear c78
          try clear c80
          try clear c81
          try clear c82
          try clear c83
          try clear c85
          try clear c86
          try clear c87
          try clear c89
          try clear c90
          try clear c92
          try clear c93
          try clear c94
          try clear c95
          try clear c96
          try clear c98
          try clear c99
          try clear c100
          try clear c101
          try clear c103
          try clear c104
          try clear c105
          try clear c107
          try clear c108
          try clear c110
          try clear c111
          try clear c112
          try clear c113
          try clear c114
          try clear c116
          try clear c117
          try clear c118
          try clear c119
          try clear hcz102_0
          try clear hcz102_1
          try clear hcz106_0
          try clear hcz106_1
          try clear hcz109_0
          try clear hcz109_1
          try clear hcz10_0
          try clear hcz10_1
          try clear hcz115_0
          try clear hcz115_1
          try clear hcz120_0
          try clear hcz120_1
          try clear hcz12_0
          try clear hcz12_1
          try clear hcz15_0
          try clear hcz15_1
          try clear hcz26_0
          try clear hcz26_1
          try clear hcz27_0
          try clear hcz27_1
          try clear hcz32_0
          try clear hcz32_1
          try clear hcz33_0
          try clear hcz33_1
          try clear hcz34_0
          try clear hcz34_1
          try clear hcz40_0
          try clear hcz40_1
          try clear hcz41_0
          try clear hcz41_1
          try clear hcz42_0
          try clear hcz42_1
          try clear hcz49_0
          try clear hcz49_1
          try clear hcz50_0
          try clear hcz50_1
          try clear hcz51_0
          try clear hcz51_1
          try clear hcz59_0
          try clear hcz59_1
          try clear hcz66_0
          try clear hcz66_1
          try clear hcz71_0
          try clear hcz71_1
          try clear hcz79_0
          try clear hcz79_1
          try clear hcz84_0
          try clear hcz84_1
          try clear hcz88_0
          try clear hcz88_1
          try clear hcz91_0
          try clear hcz91_1
          try clear hcz97_0
          try clear hcz97_1
          try clear hfz102_0
          try clear hfz102_1
          try clear hfz106_0
          try clear hfz106_1
          try clear hfz109_0
          try clear hfz109_1
          try clear hfz10_0
          try clear hfz10_1
          try clear hfz115_0
          try clear hfz115_1
          try clear hfz120_0
          try clear hfz120_1
          try clear hfz12_0
          try clear hfz12_1
          try clear hfz15_0
          try clear hfz15_1
          try clear hfz26_0
          try clear hfz26_1
          try clear hfz27_0
          try clear hfz27_1
          try clear hfz32_0
          try clear hfz32_1
          try clear hfz33_0
          try clear hfz33_1
          try clear hfz34_0
          try clear hfz34_1
          try clear hfz40_0
          try clear hfz40_1
          try clear hfz41_0
          try clear hfz41_1
          try clear hfz42_0
          try clear hfz42_1
          try clear hfz49_0
          try clear hfz49_1
          try clear hfz50_0
          try clear hfz50_1
          try clear hfz51_0
          try clear hfz51_1
          try clear hfz59_0
          try clear hfz59_1
          try clear hfz66_0
          try clear hfz66_1
          try clear hfz71_0
          try clear hfz71_1
          try clear hfz79_0
          try clear hfz79_1
          try clear hfz84_0
          try clear hfz84_1
          try clear hfz88_0
          try clear hfz88_1
          try clear hfz91_0
          try clear hfz91_1
          try clear hfz97_0
          try clear hfz97_1
          try clear p2
          obtain ⟨kq, x67_23, rfl, HA, HJ23, BK425, BK426, BK433, BK437, BK441, BK445, HB⟩ := hcut
          cases kq with
          | zero => exact absurd HA.out (by simp [mosaiclaw05_RatioTurns.j1])
          | succ kj23 =>
            have H := HA.out
            clear HA
            simp only [mosaiclaw05_RatioTurns.j1] at H
            by_cases c121 : x67_23 = true
            · subst c121
              have H1 : (some false) = some r := by rw [if_pos rfl] at H; exact H
              clear H
              have H := H1
              clear H1
              obtain rfl := Option.some.inj H
              exact absurd HLAW.out (by decide)
            · replace c121 := Bool.eq_false_iff.mpr c121
              subst c121
              have H1 : (if t432 = 0 then ((ratio_Sub.f t430 t431 a1_0 a1_1).bind fun bt446 => (if bt446.2.2 = 0 then (if (!(bt446.1 == a0_0) || (!(bt446.2.1 == a0_1))) = true then (some false) else (mosaiclaw05_RatioTurns.j2 kj23 t440 a0_0 a0_1 a1_0 a1_1 t438 t439)) else (some false))) else (mosaiclaw05_RatioTurns.j2 kj23 t440 a0_0 a0_1 a1_0 a1_1 t438 t439)) = some r := by rw [if_neg (show ¬ (false = true) by decide)] at H; exact H
              clear H
              have H := H1
              clear H1
              have HC122 := Aside0.mk H
              clear H
              go_upto_if 69 with (fail)
              go_cut [] (fun wc => ∃ (kq : Nat), Aside0 (mosaiclaw05_RatioTurns.j2 kq t440 a0_0 a0_1 a1_0 a1_1 t438 t439 = some r) ∧ Aside0 (kq ≤ kj23) ∧ Aside0 (wc.heap[gb425]? = some (.cells #[.int .i64 a0_0, .int .i64 a0_1] 23 (0, 0))) ∧ Aside0 (wc.heap[gb426]? = some (.cells #[.int .i64 a1_0, .int .i64 a1_1] 23 (0, 0))) ∧ Aside0 (wc.heap[gb433]? = some (.cells #[.int .i64 t430, .int .i64 t431] 23 (0, 0))) ∧ Aside0 (wc.heap[gb437]? = some (.cells #[.int .i64 t434, .int .i64 t435] 23 (0, 0))) ∧ Aside0 (wc.heap[gb441]? = some (.cells #[.int .i64 t438, .int .i64 t439] 23 (0, 0))) ∧ Aside0 (wc.heap[gb445]? = some (.cells #[.int .i64 t442, .int .i64 t443] 23 (0, 0))) ∧ Aside0 (Below w.heap.size w wc))
              case first =>
                have H := HC122.out
                clear HC122
                by_cases c123 : t432 = 0
                · rw [if_pos c123] at H
                  have c123b0 : (t432 == 0) = true := beq_iff_eq.mpr c123
                  have c123b1 : (t432 != 0) = false := bne_eq_false_iff_eq.mpr c123
                  clear c123
                  (first | rw [c123b0] | (simp only [i64_w, i32_w]; rw [c123b0]) | skip)
                  replace H := Option.bind_eq_some_iff.mp H
                  obtain ⟨⟨t446, t447, t448⟩, A1240, H⟩ := H
                  replace H : (if t448 = 0 then (if (!(t446 == a0_0) || (!(t447 == a0_1))) = true then (some false) else (mosaiclaw05_RatioTurns.j2 kj23 t440 a0_0 a0_1 a1_0 a1_1 t438 t439)) else (some false)) = some r := H
                  have A124 := Aside0.mk A1240
                  clear A1240
                  by_cases c125 : t448 = 0
                  · rw [if_pos c125] at H
                    have c125b0 : (t448 == 0) = true := beq_iff_eq.mpr c125
                    have c125b1 : (t448 != 0) = false := bne_eq_false_iff_eq.mpr c125
                    clear c125
                    by_cases c126 : (!(t446 == a0_0) || (!(t447 == a0_1))) = true
                    · rw [if_pos c126] at H
                      have c126b0 : (!(t446 == a0_0) || (!(t447 == a0_1))) = true := c126
                      clear c126
                      obtain rfl := Option.some.inj H
                      exact absurd HLAW.out (by decide)
                    · rw [if_neg c126] at H
                      have c126b0 : (!(t446 == a0_0) || (!(t447 == a0_1))) = false := by simpa using c126
                      clear c126
                      have H' := Aside0.mk H
                      clear H
                      have hnb127 := NB433_425.out
                      have hnc127 := NB425_433.out
                      have hnb128 := NB433_426.out
                      have hnc128 := NB426_433.out
                      have hnb129 := NB433_437.out
                      have hnc129 := NB437_433.out
                      have hnb130 := NB433_441.out
                      have hnc130 := NB441_433.out
                      have hnb131 := NB433_445.out
                      have hnc131 := NB445_433.out
                      have hcz132_0 : wc.cell? ⟨gb433, 0, none⟩ = some (.int .i64 t430) := (blk_cell BK433.out 0).trans rfl
                      have hcz132_1 : wc.cell? ⟨gb433, 1, none⟩ = some (.int .i64 t431) := (blk_cell BK433.out 1).trans rfl
                      have hfz132_0 := blk_frozen BK433.out 0
                      have hfz132_1 := blk_frozen BK433.out 1
                      have hnb133 := NB426_425.out
                      have hnc133 := NB425_426.out
                      have hnb134 := NB426_437.out
                      have hnc134 := NB437_426.out
                      have hnb135 := NB426_441.out
                      have hnc135 := NB441_426.out
                      have hnb136 := NB426_445.out
                      have hnc136 := NB445_426.out
                      have hcz137_0 : wc.cell? ⟨gb426, 0, none⟩ = some (.int .i64 a1_0) := (blk_cell BK426.out 0).trans rfl
                      have hcz137_1 : wc.cell? ⟨gb426, 1, none⟩ = some (.int .i64 a1_1) := (blk_cell BK426.out 1).trans rfl
                      have hfz137_0 := blk_frozen BK426.out 0
                      have hfz137_1 := blk_frozen BK426.out 1
                      go_wp2_with (first | ((with_reducible refine gate_callee (f := 38) rfl ?_); refine goesL_ (some 73) rfl rfl Try.func38 (by kernel_rfl) rfl #[.agg #[.int .i64 t430, .int .i64 t431], .agg #[.int .i64 a1_0, .int .i64 a1_1]] rfl (by (try simp only [List.map_toArray, List.map_cons, List.map_nil]); first | done | rfl | (simp only [List.length_drop, List.length_take]; rfl)) ?_; (with_reducible refine (ratio_Sub.calls t430 t431 a1_0 a1_1 t446 t447 t448 _ A124.out).mono ?_); rintro e w138 ⟨rfl, hb⟩; refine ⟨_, rfl, ?_⟩; have n0_ := Aside0.mk (blk_below (g := gb425) (o := .cells #[.int .i64 a0_0, .int .i64 a0_1] 23 (0, 0)) (by (with_reducible repeat (first | refine blk_drewN ?_ _ | refine blk_drew ?_ | refine blk_alloc ?_ _)); exact BK425.out) hb); have n1_ := Aside0.mk (blk_below (g := gb426) (o := .cells #[.int .i64 a1_0, .int .i64 a1_1] 23 (0, 0)) (by (with_reducible repeat (first | refine blk_drewN ?_ _ | refine blk_drew ?_ | refine blk_alloc ?_ _)); exact BK426.out) hb); have n2_ := Aside0.mk (blk_below (g := gb433) (o := .cells #[.int .i64 t430, .int .i64 t431] 23 (0, 0)) (by (with_reducible repeat (first | refine blk_drewN ?_ _ | refine blk_drew ?_ | refine blk_alloc ?_ _)); exact BK433.out) hb); have n3_ := Aside0.mk (blk_below (g := gb437) (o := .cells #[.int .i64 t434, .int .i64 t435] 23 (0, 0)) (by (with_reducible repeat (first | refine blk_drewN ?_ _ | refine blk_drew ?_ | refine blk_alloc ?_ _)); exact BK437.out) hb); have n4_ := Aside0.mk (blk_below (g := gb441) (o := .cells #[.int .i64 t438, .int .i64 t439] 23 (0, 0)) (by (with_reducible repeat (first | refine blk_drewN ?_ _ | refine blk_drew ?_ | refine blk_alloc ?_ _)); exact BK441.out) hb); have n5_ := Aside0.mk (blk_below (g := gb445) (o := .cells #[.int .i64 t442, .int .i64 t443] 23 (0, 0)) (by (with_reducible repeat (first | refine blk_drewN ?_ _ | refine blk_drew ?_ | refine blk_alloc ?_ _)); exact BK445.out) hb); have n6_ := Aside0.mk (below_step (by repeat (first | (with_reducible first | exact HB.out | apply below_alloc | apply pw_below_drewN | apply below_drew1 | refine below_set ?_ GE425.out | refine below_set ?_ GE426.out | refine below_set ?_ GE433.out | refine below_set ?_ GE437.out | refine below_set ?_ GE441.out | refine below_set ?_ GE445.out) | exact HB.out)) hb); clear BK425; clear BK426; clear BK433; clear BK437; clear BK441; clear BK445; clear HB; have BK425 := n0_; have BK426 := n1_; have BK433 := n2_; have BK437 := n3_; have BK441 := n4_; have BK445 := n5_; have HB := n6_; clear n0_ n1_ n2_ n3_ n4_ n5_ n6_; (try clear hb); (try clear hb2); (try clear hk); (try clear hi)) | ((with_reducible refine gate_dst (N := 13) rfl ?_); refine box_event ?hg (N := 13) ?hd (cs := #[.int .i64 0, .int .i64 0]) (t := 23) ?hr ?_; (case hd => rfl); (case hg => rfl); (case hr => first | (go_simp; done) | (go_simp; rfl)); intro gb449 hg w139 hbox hb; have n0_ := Aside0.mk (blk_below (g := gb425) (o := .cells #[.int .i64 a0_0, .int .i64 a0_1] 23 (0, 0)) (by (with_reducible repeat (first | refine blk_drewN ?_ _ | refine blk_drew ?_ | refine blk_alloc ?_ _)); exact BK425.out) hb); have n1_ := Aside0.mk (blk_below (g := gb426) (o := .cells #[.int .i64 a1_0, .int .i64 a1_1] 23 (0, 0)) (by (with_reducible repeat (first | refine blk_drewN ?_ _ | refine blk_drew ?_ | refine blk_alloc ?_ _)); exact BK426.out) hb); have n2_ := Aside0.mk (blk_below (g := gb433) (o := .cells #[.int .i64 t430, .int .i64 t431] 23 (0, 0)) (by (with_reducible repeat (first | refine blk_drewN ?_ _ | refine blk_drew ?_ | refine blk_alloc ?_ _)); exact BK433.out) hb); have n3_ := Aside0.mk (blk_below (g := gb437) (o := .cells #[.int .i64 t434, .int .i64 t435] 23 (0, 0)) (by (with_reducible repeat (first | refine blk_drewN ?_ _ | refine blk_drew ?_ | refine blk_alloc ?_ _)); exact BK437.out) hb); have n4_ := Aside0.mk (blk_below (g := gb441) (o := .cells #[.int .i64 t438, .int .i64 t439] 23 (0, 0)) (by (with_reducible repeat (first | refine blk_drewN ?_ _ | refine blk_drew ?_ | refine blk_alloc ?_ _)); exact BK441.out) hb); have n5_ := Aside0.mk (blk_below (g := gb445) (o := .cells #[.int .i64 t442, .int .i64 t443] 23 (0, 0)) (by (with_reducible repeat (first | refine blk_drewN ?_ _ | refine blk_drew ?_ | refine blk_alloc ?_ _)); exact BK445.out) hb); have n6_ := Aside0.mk (below_step (by repeat (first | (with_reducible first | exact HB.out | apply below_alloc | apply pw_below_drewN | apply below_drew1 | refine below_set ?_ GE425.out | refine below_set ?_ GE426.out | refine below_set ?_ GE433.out | refine below_set ?_ GE437.out | refine below_set ?_ GE441.out | refine below_set ?_ GE445.out) | exact HB.out)) hb); have n7_ := Aside0.mk (hbox); have n8_ := Aside0.mk ((by rw [hg]; exact (below_size (by repeat (first | (with_reducible first | exact HB.out | apply below_alloc | apply pw_below_drewN | apply below_drew1 | refine below_set ?_ GE425.out | refine below_set ?_ GE426.out | refine below_set ?_ GE433.out | refine below_set ?_ GE437.out | refine below_set ?_ GE441.out | refine below_set ?_ GE445.out) | exact HB.out))) : w.heap.size ≤ gb449)); have n9_ := Aside0.mk ((by rw [hg]; exact (below_size (by repeat (first | (with_reducible first | exact HB.out | apply below_alloc | apply pw_below_drewN | apply below_drew1 | refine below_set ?_ GE425.out | refine below_set ?_ GE426.out | refine below_set ?_ GE433.out | refine below_set ?_ GE437.out | refine below_set ?_ GE441.out | refine below_set ?_ GE445.out) | exact HB.out))) : w.heap.size ≤ gb449)); have n10_ := Aside0.mk ((by rw [hg]; exact Nat.ne_of_lt (blk_lt (g := gb425) (o := .cells #[.int .i64 a0_0, .int .i64 a0_1] 23 (0, 0)) (by (with_reducible repeat (first | refine blk_drewN ?_ _ | refine blk_drew ?_ | refine blk_alloc ?_ _)); exact BK425.out)) : gb425 ≠ gb449)); have n11_ := Aside0.mk ((by rw [hg]; exact Nat.ne_of_gt (blk_lt (g := gb425) (o := .cells #[.int .i64 a0_0, .int .i64 a0_1] 23 (0, 0)) (by (with_reducible repeat (first | refine blk_drewN ?_ _ | refine blk_drew ?_ | refine blk_alloc ?_ _)); exact BK425.out)) : gb449 ≠ gb425)); have n12_ := Aside0.mk ((by rw [hg]; exact Nat.ne_of_lt (blk_lt (g := gb426) (o := .cells #[.int .i64 a1_0, .int .i64 a1_1] 23 (0, 0)) (by (with_reducible repeat (first | refine blk_drewN ?_ _ | refine blk_drew ?_ | refine blk_alloc ?_ _)); exact BK426.out)) : gb426 ≠ gb449)); have n13_ := Aside0.mk ((by rw [hg]; exact Nat.ne_of_gt (blk_lt (g := gb426) (o := .cells #[.int .i64 a1_0, .int .i64 a1_1] 23 (0, 0)) (by (with_reducible repeat (first | refine blk_drewN ?_ _ | refine blk_drew ?_ | refine blk_alloc ?_ _)); exact BK426.out)) : gb449 ≠ gb426)); have n14_ := Aside0.mk ((by rw [hg]; exact Nat.ne_of_lt (blk_lt (g := gb433) (o := .cells #[.int .i64 t430, .int .i64 t431] 23 (0, 0)) (by (with_reducible repeat (first | refine blk_drewN ?_ _ | refine blk_drew ?_ | refine blk_alloc ?_ _)); exact BK433.out)) : gb433 ≠ gb449)); have n15_ := Aside0.mk ((by rw [hg]; exact Nat.ne_of_gt (blk_lt (g := gb433) (o := .cells #[.int .i64 t430, .int .i64 t431] 23 (0, 0)) (by (with_reducible repeat (first | refine blk_drewN ?_ _ | refine blk_drew ?_ | refine blk_alloc ?_ _)); exact BK433.out)) : gb449 ≠ gb433)); have n16_ := Aside0.mk ((by rw [hg]; exact Nat.ne_of_lt (blk_lt (g := gb437) (o := .cells #[.int .i64 t434, .int .i64 t435] 23 (0, 0)) (by (with_reducible repeat (first | refine blk_drewN ?_ _ | refine blk_drew ?_ | refine blk_alloc ?_ _)); exact BK437.out)) : gb437 ≠ gb449)); have n17_ := Aside0.mk ((by rw [hg]; exact Nat.ne_of_gt (blk_lt (g := gb437) (o := .cells #[.int .i64 t434, .int .i64 t435] 23 (0, 0)) (by (with_reducible repeat (first | refine blk_drewN ?_ _ | refine blk_drew ?_ | refine blk_alloc ?_ _)); exact BK437.out)) : gb449 ≠ gb437)); have n18_ := Aside0.mk ((by rw [hg]; exact Nat.ne_of_lt (blk_lt (g := gb441) (o := .cells #[.int .i64 t438, .int .i64 t439] 23 (0, 0)) (by (with_reducible repeat (first | refine blk_drewN ?_ _ | refine blk_drew ?_ | refine blk_alloc ?_ _)); exact BK441.out)) : gb441 ≠ gb449)); have n19_ := Aside0.mk ((by rw [hg]; exact Nat.ne_of_gt (blk_lt (g := gb441) (o := .cells #[.int .i64 t438, .int .i64 t439] 23 (0, 0)) (by (with_reducible repeat (first | refine blk_drewN ?_ _ | refine blk_drew ?_ | refine blk_alloc ?_ _)); exact BK441.out)) : gb449 ≠ gb441)); have n20_ := Aside0.mk ((by rw [hg]; exact Nat.ne_of_lt (blk_lt (g := gb445) (o := .cells #[.int .i64 t442, .int .i64 t443] 23 (0, 0)) (by (with_reducible repeat (first | refine blk_drewN ?_ _ | refine blk_drew ?_ | refine blk_alloc ?_ _)); exact BK445.out)) : gb445 ≠ gb449)); have n21_ := Aside0.mk ((by rw [hg]; exact Nat.ne_of_gt (blk_lt (g := gb445) (o := .cells #[.int .i64 t442, .int .i64 t443] 23 (0, 0)) (by (with_reducible repeat (first | refine blk_drewN ?_ _ | refine blk_drew ?_ | refine blk_alloc ?_ _)); exact BK445.out)) : gb449 ≠ gb445)); clear BK425; clear BK426; clear BK433; clear BK437; clear BK441; clear BK445; clear HB; have BK425 := n0_; have BK426 := n1_; have BK433 := n2_; have BK437 := n3_; have BK441 := n4_; have BK445 := n5_; have HB := n6_; have BK449 := n7_; have GW449 := n8_; have GE449 := n9_; have NB425_449 := n10_; have NB449_425 := n11_; have NB426_449 := n12_; have NB449_426 := n13_; have NB433_449 := n14_; have NB449_433 := n15_; have NB437_449 := n16_; have NB449_437 := n17_; have NB441_449 := n18_; have NB449_441 := n19_; have NB445_449 := n20_; have NB449_445 := n21_; clear n0_ n1_ n2_ n3_ n4_ n5_ n6_ n7_ n8_ n9_ n10_ n11_ n12_ n13_ n14_ n15_ n16_ n17_ n18_ n19_ n20_ n21_; clear hb hbox hg; have hnb140 := NB449_425.out; have hnc140 := NB425_449.out; have hnb141 := NB449_426.out; have hnc141 := NB426_449.out; have hnb142 := NB449_433.out; have hnc142 := NB433_449.out; have hnb143 := NB449_437.out; have hnc143 := NB437_449.out; have hnb144 := NB449_441.out; have hnc144 := NB441_449.out; have hnb145 := NB449_445.out; have hnc145 := NB445_449.out; have hcz146_0 : w139.cell? ⟨gb449, 0, none⟩ = some (.int .i64 0) := (blk_cell BK449.out 0).trans rfl; have hcz146_1 : w139.cell? ⟨gb449, 1, none⟩ = some (.int .i64 0) := (blk_cell BK449.out 1).trans rfl; have hfz146_0 := blk_frozen BK449.out 0; have hfz146_1 := blk_frozen BK449.out 1; have hnb147 := NB425_437.out; have hnc147 := NB437_425.out; have hnb148 := NB425_441.out; have hnc148 := NB441_425.out; have hnb149 := NB425_445.out; have hnc149 := NB445_425.out; have hcz150_0 : w139.cell? ⟨gb425, 0, none⟩ = some (.int .i64 a0_0) := (blk_cell BK425.out 0).trans rfl; have hcz150_1 : w139.cell? ⟨gb425, 1, none⟩ = some (.int .i64 a0_1) := (blk_cell BK425.out 1).trans rfl; have hfz150_0 := blk_frozen BK425.out 0; have hfz150_1 := blk_frozen BK425.out 1))
                      go_meet
                      case rel => exact ⟨_, H', ⟨by have := HJ2.out; have := HJ23.out; first | omega | exact Nat.le_refl _⟩, ⟨by (with_reducible repeat (first | refine blk_drewN ?_ _ | refine blk_drew ?_ | refine blk_alloc ?_ _)); refine blk_far ?_ NB425_449.out _; (with_reducible repeat (first | refine blk_drewN ?_ _ | refine blk_drew ?_ | refine blk_alloc ?_ _)); refine blk_far ?_ NB425_449.out _; (with_reducible repeat (first | refine blk_drewN ?_ _ | refine blk_drew ?_ | refine blk_alloc ?_ _)); exact BK425.out⟩, ⟨by (with_reducible repeat (first | refine blk_drewN ?_ _ | refine blk_drew ?_ | refine blk_alloc ?_ _)); refine blk_far ?_ NB426_449.out _; (with_reducible repeat (first | refine blk_drewN ?_ _ | refine blk_drew ?_ | refine blk_alloc ?_ _)); refine blk_far ?_ NB426_449.out _; (with_reducible repeat (first | refine blk_drewN ?_ _ | refine blk_drew ?_ | refine blk_alloc ?_ _)); exact BK426.out⟩, ⟨by (with_reducible repeat (first | refine blk_drewN ?_ _ | refine blk_drew ?_ | refine blk_alloc ?_ _)); refine blk_far ?_ NB433_449.out _; (with_reducible repeat (first | refine blk_drewN ?_ _ | refine blk_drew ?_ | refine blk_alloc ?_ _)); refine blk_far ?_ NB433_449.out _; (with_reducible repeat (first | refine blk_drewN ?_ _ | refine blk_drew ?_ | refine blk_alloc ?_ _)); exact BK433.out⟩, ⟨by (with_reducible repeat (first | refine blk_drewN ?_ _ | refine blk_drew ?_ | refine blk_alloc ?_ _)); refine blk_far ?_ NB437_449.out _; (with_reducible repeat (first | refine blk_drewN ?_ _ | refine blk_drew ?_ | refine blk_alloc ?_ _)); refine blk_far ?_ NB437_449.out _; (with_reducible repeat (first | refine blk_drewN ?_ _ | refine blk_drew ?_ | refine blk_alloc ?_ _)); exact BK437.out⟩, ⟨by (with_reducible repeat (first | refine blk_drewN ?_ _ | refine blk_drew ?_ | refine blk_alloc ?_ _)); refine blk_far ?_ NB441_449.out _; (with_reducible repeat (first | refine blk_drewN ?_ _ | refine blk_drew ?_ | refine blk_alloc ?_ _)); refine blk_far ?_ NB441_449.out _; (with_reducible repeat (first | refine blk_drewN ?_ _ | refine blk_drew ?_ | refine blk_alloc ?_ _)); exact BK441.out⟩, ⟨by (with_reducible repeat (first | refine blk_drewN ?_ _ | refine blk_drew ?_ | refine blk_alloc ?_ _)); refine blk_far ?_ NB445_449.out _; (with_reducible repeat (first | refine blk_drewN ?_ _ | refine blk_drew ?_ | refine blk_alloc ?_ _)); refine blk_far ?_ NB445_449.out _; (with_reducible repeat (first | refine blk_drewN ?_ _ | refine blk_drew ?_ | refine blk_alloc ?_ _)); exact BK445.out⟩, ⟨by repeat (first | (with_reducible first | exact HB.out | apply below_alloc | apply pw_below_drewN | apply below_drew1 | refine below_set ?_ GE425.out | refine below_set ?_ GE426.out | refine below_set ?_ GE433.out | refine below_set ?_ GE437.out | refine below_set ?_ GE441.out | refine below_set ?_ GE445.out | refine below_set ?_ GE449.out) | exact HB.out)⟩⟩
                  · rw [if_neg c125] at H
                    have c125b0 : (t448 == 0) = false := beq_eq_false_iff_ne.mpr c125
                    have c125b1 : (t448 != 0) = true := bne_iff_ne.mpr c125
                    obtain rfl := Option.some.inj H
                    exact absurd HLAW.out (by decide)
                · rw [if_neg c123] at H
                  have c123b0 : (t432 == 0) = false := beq_eq_false_iff_ne.mpr c123
                  have c123b1 : (t432 != 0) = true := bne_iff_ne.mpr c123
                  (first | rw [c123b0] | (simp only [i64_w, i32_w]; rw [c123b0]) | skip)
                  have H' := Aside0.mk H
                  clear H
                  go_wp2
                  go_meet
                  case rel => exact ⟨_, H', ⟨by have := HJ2.out; have := HJ23.out; first | omega | exact Nat.le_refl _⟩, ⟨by (with_reducible repeat (first | refine blk_drewN ?_ _ | refine blk_drew ?_ | refine blk_alloc ?_ _)); exact BK425.out⟩, ⟨by (with_reducible repeat (first | refine blk_drewN ?_ _ | refine blk_drew ?_ | refine blk_alloc ?_ _)); exact BK426.out⟩, ⟨by (with_reducible repeat (first | refine blk_drewN ?_ _ | refine blk_drew ?_ | refine blk_alloc ?_ _)); exact BK433.out⟩, ⟨by (with_reducible repeat (first | refine blk_drewN ?_ _ | refine blk_drew ?_ | refine blk_alloc ?_ _)); exact BK437.out⟩, ⟨by (with_reducible repeat (first | refine blk_drewN ?_ _ | refine blk_drew ?_ | refine blk_alloc ?_ _)); exact BK441.out⟩, ⟨by (with_reducible repeat (first | refine blk_drewN ?_ _ | refine blk_drew ?_ | refine blk_alloc ?_ _)); exact BK445.out⟩, ⟨by repeat (first | (with_reducible first | exact HB.out | apply below_alloc | apply pw_below_drewN | apply below_drew1 | refine below_set ?_ GE425.out | refine below_set ?_ GE426.out | refine below_set ?_ GE433.out | refine below_set ?_ GE437.out | refine below_set ?_ GE441.out | refine below_set ?_ GE445.out) | exact HB.out)⟩⟩
              case rest =>
                clear HC122
                try clear c1
                try clear c2
                try clear p2
                try clear c3
                try clear c4
                try clear c5
                try clear c6
                try clear c7
                try clear c8
                try clear c9
                try clear c10
                try clear c11
                try clear c12
                try clear c13
                try clear c14
                try clear c17
                try clear c25
                try clear c27
                try clear c30
                try clear c31
                try clear c36
                try clear c37
                try clear c38
                try clear c39
                try clear c45
                try clear c46
                try clear c47
                try clear c48
                try clear c54
                try clear c55
                try clear c56
                try clear c57
                try clear c58
                try clear c60
                try clear c60b0
                try clear c61
                try clear c62
                try clear c63
                try clear c64
                try clear c65
                try clear c67
                try clear c68
                try clear c69
                try clear c70
                try clear c72
                try clear c72b0
                try clear c72b1
                try clear c73
                try clear c73b0
                try clear c74
                try clear c75
                try clear c76
                try clear c77
                try clear c78
                try clear c80
                try clear c81
                try clear c82
                try clear c83
                try clear c85
                try clear c86
                try clear c87
                try clear c89
                try clear c90
                try clear c92
                try clear c93
                try clear c94
                try clear c95
                try clear c96
                try clear c98
                try clear c99
                try clear c100
                try clear c101
                try clear c103
                try clear c104
                try clear c105
                try clear c107
                try clear c108
                try clear c110
                try clear c111
                try clear c112
                try clear c113
                try clear c114
                try clear c116
                try clear c117
                try clear c118
                try clear c119
                try clear c121
                try clear c123
                try clear c123b0
                try clear c123b1
                try clear c125
                try clear c125b0
                try clear c125b1
                try clear c126
                try clear c126b0
                try clear c127
                try clear c128
                try clear c129
                try clear c130
                try clear c131
                try clear c133
                try clear c134
                try clear c135
                try clear c136
                try clear c140
                try clear c141
                try clear c142
                try clear c143
                try clear c144
                try clear c145
                try clear c147
                try clear c148
                try clear c149
                try clear hcz102_0
                try clear hcz102_1
                try clear hcz106_0
                try clear hcz106_1
                try clear hcz109_0
                try clear hcz109_1
                try clear hcz10_0
                try clear hcz10_1
                try clear hcz115_0
                try clear hcz115_1
                try clear hcz120_0
                try clear hcz120_1
                try clear hcz12_0
                try clear hcz12_1
                try clear hcz132_0
                try clear hcz132_1
                try clear hcz137_0
                try clear hcz137_1
                try clear hcz146_0
                try clear hcz146_1
                try clear hcz150_0
                try clear hcz150_1
                try clear hcz15_0
                try clear hcz15_1
                try clear hcz26_0
                try clear hcz26_1
                try clear hcz27_0
                try clear hcz27_1
                try clear hcz32_0
                try clear hcz32_1
                try clear hcz33_0
                try clear hcz33_1
                try clear hcz34_0
                try clear hcz34_1
                try clear hcz40_0
                try clear hcz40_1
                try clear hcz41_0
                try clear hcz41_1
                try clear hcz42_0
                try clear hcz42_1
                try clear hcz49_0
                try clear hcz49_1
                try clear hcz50_0
                try clear hcz50_1
                try clear hcz51_0
                try clear hcz51_1
                try clear hcz59_0
                try clear hcz59_1
                try clear hcz66_0
                try clear hcz66_1
                try clear hcz71_0
                try clear hcz71_1
                try clear hcz79_0
                try clear hcz79_1
                try clear hcz84_0
                try clear hcz84_1
                try clear hcz88_0
                try clear hcz88_1
                try clear hcz91_0
                try clear hcz91_1
                try clear hcz97_0
                try clear hcz97_1
                try clear hfz102_0
                try clear hfz102_1
                try clear hfz106_0
                try clear hfz106_1
                try clear hfz109_0
                try clear hfz109_1
                try clear hfz10_0
                try clear hfz10_1
                try clear hfz115_0
                try clear hfz115_1
                try clear hfz120_0
                try clear hfz120_1
                try clear hfz12_0
                try clear hfz12_1
                try clear hfz132_0
                try clear hfz132_1
                try clear hfz137_0
                try clear hfz137_1
                try clear hfz146_0
                try clear hfz146_1
                try clear hfz150_0
                try clear hfz150_1
                try clear hfz15_0
                try clear hfz15_1
                try clear hfz26_0
                try clear hfz26_1
                try clear hfz27_0
                try clear hfz27_1
                try clear hfz32_0
                try clear hfz32_1
                try clear hfz33_0
                try clear hfz33_1
                try clear hfz34_0
                try clear hfz34_1
                try clear hfz40_0
                try clear hfz40_1
                try clear hfz41_0
                try clear hfz41_1
                try clear hfz42_0
                try clear hfz42_1
                try clear hfz49_0
                try clear hfz49_1
                try clear hfz50_0
                try clear hfz50_1
                try clear hfz51_0
                try clear hfz51_1
                try clear hfz59_0
                try clear hfz59_1
                try clear hfz66_0
                try clear hfz66_1
                try clear hfz71_0
                try clear hfz71_1
                try clear hfz79_0
                try clear hfz79_1
                try clear hfz84_0
                try clear hfz84_1
                try clear hfz88_0
                try clear hfz88_1
                try clear hfz91_0
                try clear hfz91_1
                try clear hfz97_0
                try clear hfz97_1
                try clear p2
                obtain ⟨kq, HA, HJ121, BK425, BK426, BK433, BK437, BK441, BK445, HB⟩ := hcut
                cases kq with
                | zero => exact absurd HA.out (by simp [mosaiclaw05_RatioTurns.j2])
                | succ kj121 =>
                  have H := HA.out
                  clear HA
                  simp only [mosaiclaw05_RatioTurns.j2] at H
                  have HC151 := Aside0.mk H
                  clear H
                  go_upto_region 13 with (fail)
                  go_cut [89] (fun v89 wc => ∃ (kq : Nat) (x89_150 : Bool), v89 = .bool x89_150 ∧ Aside0 (mosaiclaw05_RatioTurns.j3 kq x89_150 a0_0 a0_1 a1_0 a1_1 t438 t439 = some r) ∧ Aside0 (kq ≤ kj121) ∧ Aside0 (wc.heap[gb425]? = some (.cells #[.int .i64 a0_0, .int .i64 a0_1] 23 (0, 0))) ∧ Aside0 (wc.heap[gb426]? = some (.cells #[.int .i64 a1_0, .int .i64 a1_1] 23 (0, 0))) ∧ Aside0 (wc.heap[gb433]? = some (.cells #[.int .i64 t430, .int .i64 t431] 23 (0, 0))) ∧ Aside0 (wc.heap[gb437]? = some (.cells #[.int .i64 t434, .int .i64 t435] 23 (0, 0))) ∧ Aside0 (wc.heap[gb441]? = some (.cells #[.int .i64 t438, .int .i64 t439] 23 (0, 0))) ∧ Aside0 (wc.heap[gb445]? = some (.cells #[.int .i64 t442, .int .i64 t443] 23 (0, 0))) ∧ Aside0 (Below w.heap.size w wc))
                  case first =>
                    have H := HC151.out
                    clear HC151
                    by_cases c152 : t440 = 0
                    · rw [if_pos c152] at H
                      have c152b0 : (t440 == 0) = true := beq_iff_eq.mpr c152
                      have c152b1 : (t440 != 0) = false := bne_eq_false_iff_eq.mpr c152
                      clear c152
                      (first | rw [c152b0] | (simp only [i64_w, i32_w]; rw [c152b0]) | skip)
                      have H' := Aside0.mk H
                      clear H
                      have hnb153 := NB426_425.out
                      have hnc153 := NB425_426.out
                      have hnb154 := NB426_433.out
                      have hnc154 := NB433_426.out
                      have hnb155 := NB426_437.out
                      have hnc155 := NB437_426.out
                      have hnb156 := NB426_441.out
                      have hnc156 := NB441_426.out
                      have hnb157 := NB426_445.out
                      have hnc157 := NB445_426.out
                      have hcz158_0 : wc.cell? ⟨gb426, 0, none⟩ = some (.int .i64 a1_0) := (blk_cell BK426.out 0).trans rfl
                      have hcz158_1 : wc.cell? ⟨gb426, 1, none⟩ = some (.int .i64 a1_1) := (blk_cell BK426.out 1).trans rfl
                      have hfz158_0 := blk_frozen BK426.out 0
                      have hfz158_1 := blk_frozen BK426.out 1
                      go_wp2
                      go_meet
                      case rel => exact ⟨_, ((a1_0 != 0)), (by first | rfl | (simp; done) | (simp [*]; done)), H', ⟨by have := HJ2.out; have := HJ23.out; have := HJ121.out; first | omega | exact Nat.le_refl _⟩, ⟨by (with_reducible repeat (first | refine blk_drewN ?_ _ | refine blk_drew ?_ | refine blk_alloc ?_ _)); exact BK425.out⟩, ⟨by (with_reducible repeat (first | refine blk_drewN ?_ _ | refine blk_drew ?_ | refine blk_alloc ?_ _)); exact BK426.out⟩, ⟨by (with_reducible repeat (first | refine blk_drewN ?_ _ | refine blk_drew ?_ | refine blk_alloc ?_ _)); exact BK433.out⟩, ⟨by (with_reducible repeat (first | refine blk_drewN ?_ _ | refine blk_drew ?_ | refine blk_alloc ?_ _)); exact BK437.out⟩, ⟨by (with_reducible repeat (first | refine blk_drewN ?_ _ | refine blk_drew ?_ | refine blk_alloc ?_ _)); exact BK441.out⟩, ⟨by (with_reducible repeat (first | refine blk_drewN ?_ _ | refine blk_drew ?_ | refine blk_alloc ?_ _)); exact BK445.out⟩, ⟨by repeat (first | (with_reducible first | exact HB.out | apply below_alloc | apply pw_below_drewN | apply below_drew1 | refine below_set ?_ GE425.out | refine below_set ?_ GE426.out | refine below_set ?_ GE433.out | refine below_set ?_ GE437.out | refine below_set ?_ GE441.out | refine below_set ?_ GE445.out) | exact HB.out)⟩⟩
                    · rw [if_neg c152] at H
                      have c152b0 : (t440 == 0) = false := beq_eq_false_iff_ne.mpr c152
                      have c152b1 : (t440 != 0) = true := bne_iff_ne.mpr c152
                      (first | rw [c152b0] | (simp only [i64_w, i32_w]; rw [c152b0]) | skip)
                      have H' := Aside0.mk H
                      clear H
                      go_wp2
                      go_meet
                      case rel => exact ⟨_, (false), (by first | rfl | (simp; done) | (simp [*]; done)), H', ⟨by have := HJ2.out; have := HJ23.out; have := HJ121.out; first | omega | exact Nat.le_refl _⟩, ⟨by (with_reducible repeat (first | refine blk_drewN ?_ _ | refine blk_drew ?_ | refine blk_alloc ?_ _)); exact BK425.out⟩, ⟨by (with_reducible repeat (first | refine blk_drewN ?_ _ | refine blk_drew ?_ | refine blk_alloc ?_ _)); exact BK426.out⟩, ⟨by (with_reducible repeat (first | refine blk_drewN ?_ _ | refine blk_drew ?_ | refine blk_alloc ?_ _)); exact BK433.out⟩, ⟨by (with_reducible repeat (first | refine blk_drewN ?_ _ | refine blk_drew ?_ | refine blk_alloc ?_ _)); exact BK437.out⟩, ⟨by (with_reducible repeat (first | refine blk_drewN ?_ _ | refine blk_drew ?_ | refine blk_alloc ?_ _)); exact BK441.out⟩, ⟨by (with_reducible repeat (first | refine blk_drewN ?_ _ | refine blk_drew ?_ | refine blk_alloc ?_ _)); exact BK445.out⟩, ⟨by repeat (first | (with_reducible first | exact HB.out | apply below_alloc | apply pw_below_drewN | apply below_drew1 | refine below_set ?_ GE425.out | refine below_set ?_ GE426.out | refine below_set ?_ GE433.out | refine below_set ?_ GE437.out | refine below_set ?_ GE441.out | refine below_set ?_ GE445.out) | exact HB.out)⟩⟩
                  case rest =>
                    clear HC151
                    try clear c1
                    try clear c2
                    try clear p2
                    try clear c3
                    try clear c4
                    try clear c5
                    try clear c6
                    try clear c7
                    try clear c8
                    try clear c9
                    try clear c10
                    try clear c11
                    try clear c12
                    try clear c13
                    try clear c14
                    try clear c15
                    try clear c17
                    try clear c25
                    try clear c27
                    try clear c30
                    try clear c31
                    try clear c36
                    try clear c37
                    try clear c38
                    try clear c39
                    try clear c45
                    try clear c46
                    try clear c47
                    try clear c48
                    try clear c54
                    try clear c55
                    try clear c56
                    try clear c57
                    try clear c58
                    try clear c60
                    try clear c60b0
                    try clear c61
                    try clear c62
                    try clear c63
                    try clear c64
                    try clear c65
                    try clear c67
                    try clear c68
                    try clear c69
                    try clear c70
                    try clear c72
                    try clear c72b0
                    try clear c72b1
                    try clear c73
                    try clear c73b0
                    try clear c74
                    try clear c75
                    try clear c76
                    try clear c77
                    try clear c78
                    try clear c80
                    try clear c81
                    try clear c82
                    try clear c83
                    try clear c85
                    try clear c86
                    try clear c87
                    try clear c89
                    try clear c90
                    try clear c92
                    try clear c93
                    try clear c94
                    try clear c95
                    try clear c96
                    try clear c98
                    try clear c99
                    try clear c100
                    try clear c101
                    try clear c103
                    try clear c104
                    try clear c105
                    try clear c107
                    try clear c108
                    try clear c110
                    try clear c111
                    try clear c112
                    try clear c113
                    try clear c114
                    try clear c116
                    try clear c117
                    try clear c118
                    try clear c119
                    try clear c121
                    try clear c123
                    try clear c123b0
                    try clear c123b1
                    try clear c125
                    try clear c125b0
                    try clear c125b1
                    try clear c126
                    try clear c126b0
                    try clear c127
                    try clear c128
                    try clear c129
                    try clear c130
                    try clear c131
                    try clear c133
                    try clear c134
                    try clear c135
                    try clear c136
                    try clear c140
                    try clear c141
                    try clear c142
                    try clear c143
                    try clear c144
                    try clear c145
                    try clear c147
                    try clear c148
                    try clear c149
                    try clear c152
                    try clear c152b0
                    try clear c152b1
                    try clear c153
                    try clear c154
                    try clear c155
                    try clear c156
                    try clear c157
                    try clear hcz102_0
                    try clear hcz102_1
                    try clear hcz106_0
                    try clear hcz106_1
                    try clear hcz109_0
                    try clear hcz109_1
                    try clear hcz10_0
                    try clear hcz10_1
                    try clear hcz115_0
                    try clear hcz115_1
                    try clear hcz120_0
                    try clear hcz120_1
                    try clear hcz12_0
                    try clear hcz12_1
                    try clear hcz132_0
                    try clear hcz132_1
                    try clear hcz137_0
                    try clear hcz137_1
                    try clear hcz146_0
                    try clear hcz146_1
                    try clear hcz150_0
                    try clear hcz150_1
                    try clear hcz158_0
                    try clear hcz158_1
                    try clear hcz15_0
                    try clear hcz15_1
                    try clear hcz26_0
                    try clear hcz26_1
                    try clear hcz27_0
                    try clear hcz27_1
                    try clear hcz32_0
                    try clear hcz32_1
                    try clear hcz33_0
                    try clear hcz33_1
                    try clear hcz34_0
                    try clear hcz34_1
                    try clear hcz40_0
                    try clear hcz40_1
                    try clear hcz41_0
                    try clear hcz41_1
                    try clear hcz42_0
                    try clear hcz42_1
                    try clear hcz49_0
                    try clear hcz49_1
                    try clear hcz50_0
                    try clear hcz50_1
                    try clear hcz51_0
                    try clear hcz51_1
                    try clear hcz59_0
                    try clear hcz59_1
                    try clear hcz66_0
                    try clear hcz66_1
                    try clear hcz71_0
                    try clear hcz71_1
                    try clear hcz79_0
                    try clear hcz79_1
                    try clear hcz84_0
                    try clear hcz84_1
                    try clear hcz88_0
                    try clear hcz88_1
                    try clear hcz91_0
                    try clear hcz91_1
                    try clear hcz97_0
                    try clear hcz97_1
                    try clear hfz102_0
                    try clear hfz102_1
                    try clear hfz106_0
                    try clear hfz106_1
                    try clear hfz109_0
                    try clear hfz109_1
                    try clear hfz10_0
                    try clear hfz10_1
                    try clear hfz115_0
                    try clear hfz115_1
                    try clear hfz120_0
                    try clear hfz120_1
                    try clear hfz12_0
                    try clear hfz12_1
                    try clear hfz132_0
                    try clear hfz132_1
                    try clear hfz137_0
                    try clear hfz137_1
                    try clear hfz146_0
                    try clear hfz146_1
                    try clear hfz150_0
                    try clear hfz150_1
                    try clear hfz158_0
                    try clear hfz158_1
                    try clear hfz15_0
                    try clear hfz15_1
                    try clear hfz26_0
                    try clear hfz26_1
                    try clear hfz27_0
                    try clear hfz27_1
                    try clear hfz32_0
                    try clear hfz32_1
                    try clear hfz33_0
                    try clear hfz33_1
                    try clear hfz34_0
                    try clear hfz34_1
                    try clear hfz40_0
                    try clear hfz40_1
                    try clear hfz41_0
                    try clear hfz41_1
                    try clear hfz42_0
                    try clear hfz42_1
                    try clear hfz49_0
                    try clear hfz49_1
                    try clear hfz50_0
                    try clear hfz50_1
                    try clear hfz51_0
                    try clear hfz51_1
                    try clear hfz59_0
                    try clear hfz59_1
                    try clear hfz66_0
                    try clear hfz66_1
                    try clear hfz71_0
                    try clear hfz71_1
                    try clear hfz79_0
                    try clear hfz79_1
                    try clear hfz84_0
                    try clear hfz84_1
                    try clear hfz88_0
                    try clear hfz88_1
                    try clear hfz91_0
                    try clear hfz91_1
                    try clear hfz97_0
                    try clear hfz97_1
                    try clear p2
                    obtain ⟨kq, x89_150, rfl, HA, HJ150, BK425, BK426, BK433, BK437, BK441, BK445, HB⟩ := hcut
                    cases kq with
                    | zero => exact absurd HA.out (by simp [mosaiclaw05_RatioTurns.j3])
                    | succ kj150 =>
                      have H := HA.out
                      clear HA
                      simp only [mosaiclaw05_RatioTurns.j3] at H
                      have HC159 := Aside0.mk H
                      clear H
                      go_upto_if 89 with (fail)
                      go_cut [] (fun wc => ∃ (kq : Nat), Aside0 (mosaiclaw05_RatioTurns.j4 kq  = some r) ∧ Aside0 (kq ≤ kj150) ∧ Aside0 (wc.heap[gb425]? = some (.cells #[.int .i64 a0_0, .int .i64 a0_1] 23 (0, 0))) ∧ Aside0 (wc.heap[gb426]? = some (.cells #[.int .i64 a1_0, .int .i64 a1_1] 23 (0, 0))) ∧ Aside0 (wc.heap[gb433]? = some (.cells #[.int .i64 t430, .int .i64 t431] 23 (0, 0))) ∧ Aside0 (wc.heap[gb437]? = some (.cells #[.int .i64 t434, .int .i64 t435] 23 (0, 0))) ∧ Aside0 (wc.heap[gb441]? = some (.cells #[.int .i64 t438, .int .i64 t439] 23 (0, 0))) ∧ Aside0 (wc.heap[gb445]? = some (.cells #[.int .i64 t442, .int .i64 t443] 23 (0, 0))) ∧ Aside0 (Below w.heap.size w wc))
                      case first =>
                        have H := HC159.out
                        clear HC159
                        by_cases c160 : x89_150 = true
                        · subst c160
                          have H1 : ((ratio_Div.f kj150 t438 t439 a1_0 a1_1).bind fun bt450 => (if bt450.2.2 = 0 then (if (!(bt450.1 == a0_0) || (!(bt450.2.1 == a0_1))) = true then (some false) else (mosaiclaw05_RatioTurns.j4 kj150)) else (some false))) = some r := by rw [if_pos rfl] at H; exact H
                          clear H
                          have H := H1
                          clear H1
                          replace H := Option.bind_eq_some_iff.mp H
                          obtain ⟨⟨t450, t451, t452⟩, A1610, H⟩ := H
                          replace H : (if t452 = 0 then (if (!(t450 == a0_0) || (!(t451 == a0_1))) = true then (some false) else (mosaiclaw05_RatioTurns.j4 kj150)) else (some false)) = some r := H
                          have A161 := Aside0.mk A1610
                          clear A1610
                          by_cases c162 : t452 = 0
                          · rw [if_pos c162] at H
                            have c162b0 : (t452 == 0) = true := beq_iff_eq.mpr c162
                            have c162b1 : (t452 != 0) = false := bne_eq_false_iff_eq.mpr c162
                            clear c162
                            (first | rw [c162b0] | (simp only [i64_w, i32_w]; rw [c162b0]) | skip)
                            by_cases c163 : (!(t450 == a0_0) || (!(t451 == a0_1))) = true
                            · rw [if_pos c163] at H
                              have c163b0 : (!(t450 == a0_0) || (!(t451 == a0_1))) = true := c163
                              clear c163
                              obtain rfl := Option.some.inj H
                              exact absurd HLAW.out (by decide)
                            · rw [if_neg c163] at H
                              have c163b0 : (!(t450 == a0_0) || (!(t451 == a0_1))) = false := by simpa using c163
                              clear c163
                              have H' := Aside0.mk H
                              clear H
                              have hnb164 := NB441_425.out
                              have hnc164 := NB425_441.out
                              have hnb165 := NB441_426.out
                              have hnc165 := NB426_441.out
                              have hnb166 := NB441_433.out
                              have hnc166 := NB433_441.out
                              have hnb167 := NB441_437.out
                              have hnc167 := NB437_441.out
                              have hnb168 := NB441_445.out
                              have hnc168 := NB445_441.out
                              have hcz169_0 : wc.cell? ⟨gb441, 0, none⟩ = some (.int .i64 t438) := (blk_cell BK441.out 0).trans rfl
                              have hcz169_1 : wc.cell? ⟨gb441, 1, none⟩ = some (.int .i64 t439) := (blk_cell BK441.out 1).trans rfl
                              have hfz169_0 := blk_frozen BK441.out 0
                              have hfz169_1 := blk_frozen BK441.out 1
                              have hnb170 := NB426_425.out
                              have hnc170 := NB425_426.out
                              have hnb171 := NB426_433.out
                              have hnc171 := NB433_426.out
                              have hnb172 := NB426_437.out
                              have hnc172 := NB437_426.out
                              have hnb173 := NB426_445.out
                              have hnc173 := NB445_426.out
                              have hcz174_0 : wc.cell? ⟨gb426, 0, none⟩ = some (.int .i64 a1_0) := (blk_cell BK426.out 0).trans rfl
                              have hcz174_1 : wc.cell? ⟨gb426, 1, none⟩ = some (.int .i64 a1_1) := (blk_cell BK426.out 1).trans rfl
                              have hfz174_0 := blk_frozen BK426.out 0
                              have hfz174_1 := blk_frozen BK426.out 1
                              go_wp2_with (first | ((with_reducible refine gate_callee (f := 41) rfl ?_); refine goesL_ (some 93) rfl rfl Try.func41 (by kernel_rfl) rfl #[.agg #[.int .i64 t438, .int .i64 t439], .agg #[.int .i64 a1_0, .int .i64 a1_1]] rfl (by (try simp only [List.map_toArray, List.map_cons, List.map_nil]); first | done | rfl | (simp only [List.length_drop, List.length_take]; rfl)) ?_; (with_reducible refine (ratio_Div.calls kj150 t438 t439 a1_0 a1_1 t450 t451 t452 _ A161.out).mono ?_); rintro e w175 ⟨rfl, hb⟩; refine ⟨_, rfl, ?_⟩; have n0_ := Aside0.mk (blk_below (g := gb425) (o := .cells #[.int .i64 a0_0, .int .i64 a0_1] 23 (0, 0)) (by (with_reducible repeat (first | refine blk_drewN ?_ _ | refine blk_drew ?_ | refine blk_alloc ?_ _)); exact BK425.out) hb); have n1_ := Aside0.mk (blk_below (g := gb426) (o := .cells #[.int .i64 a1_0, .int .i64 a1_1] 23 (0, 0)) (by (with_reducible repeat (first | refine blk_drewN ?_ _ | refine blk_drew ?_ | refine blk_alloc ?_ _)); exact BK426.out) hb); have n2_ := Aside0.mk (blk_below (g := gb433) (o := .cells #[.int .i64 t430, .int .i64 t431] 23 (0, 0)) (by (with_reducible repeat (first | refine blk_drewN ?_ _ | refine blk_drew ?_ | refine blk_alloc ?_ _)); exact BK433.out) hb); have n3_ := Aside0.mk (blk_below (g := gb437) (o := .cells #[.int .i64 t434, .int .i64 t435] 23 (0, 0)) (by (with_reducible repeat (first | refine blk_drewN ?_ _ | refine blk_drew ?_ | refine blk_alloc ?_ _)); exact BK437.out) hb); have n4_ := Aside0.mk (blk_below (g := gb441) (o := .cells #[.int .i64 t438, .int .i64 t439] 23 (0, 0)) (by (with_reducible repeat (first | refine blk_drewN ?_ _ | refine blk_drew ?_ | refine blk_alloc ?_ _)); exact BK441.out) hb); have n5_ := Aside0.mk (blk_below (g := gb445) (o := .cells #[.int .i64 t442, .int .i64 t443] 23 (0, 0)) (by (with_reducible repeat (first | refine blk_drewN ?_ _ | refine blk_drew ?_ | refine blk_alloc ?_ _)); exact BK445.out) hb); have n6_ := Aside0.mk (below_step (by repeat (first | (with_reducible first | exact HB.out | apply below_alloc | apply pw_below_drewN | apply below_drew1 | refine below_set ?_ GE425.out | refine below_set ?_ GE426.out | refine below_set ?_ GE433.out | refine below_set ?_ GE437.out | refine below_set ?_ GE441.out | refine below_set ?_ GE445.out) | exact HB.out)) hb); clear BK425; clear BK426; clear BK433; clear BK437; clear BK441; clear BK445; clear HB; have BK425 := n0_; have BK426 := n1_; have BK433 := n2_; have BK437 := n3_; have BK441 := n4_; have BK445 := n5_; have HB := n6_; clear n0_ n1_ n2_ n3_ n4_ n5_ n6_; (try clear hb); (try clear hb2); (try clear hk); (try clear hi)) | ((with_reducible refine gate_dst (N := 15) rfl ?_); refine box_event ?hg (N := 15) ?hd (cs := #[.int .i64 0, .int .i64 0]) (t := 23) ?hr ?_; (case hd => rfl); (case hg => rfl); (case hr => first | (go_simp; done) | (go_simp; rfl)); intro gb453 hg w176 hbox hb; have n0_ := Aside0.mk (blk_below (g := gb425) (o := .cells #[.int .i64 a0_0, .int .i64 a0_1] 23 (0, 0)) (by (with_reducible repeat (first | refine blk_drewN ?_ _ | refine blk_drew ?_ | refine blk_alloc ?_ _)); exact BK425.out) hb); have n1_ := Aside0.mk (blk_below (g := gb426) (o := .cells #[.int .i64 a1_0, .int .i64 a1_1] 23 (0, 0)) (by (with_reducible repeat (first | refine blk_drewN ?_ _ | refine blk_drew ?_ | refine blk_alloc ?_ _)); exact BK426.out) hb); have n2_ := Aside0.mk (blk_below (g := gb433) (o := .cells #[.int .i64 t430, .int .i64 t431] 23 (0, 0)) (by (with_reducible repeat (first | refine blk_drewN ?_ _ | refine blk_drew ?_ | refine blk_alloc ?_ _)); exact BK433.out) hb); have n3_ := Aside0.mk (blk_below (g := gb437) (o := .cells #[.int .i64 t434, .int .i64 t435] 23 (0, 0)) (by (with_reducible repeat (first | refine blk_drewN ?_ _ | refine blk_drew ?_ | refine blk_alloc ?_ _)); exact BK437.out) hb); have n4_ := Aside0.mk (blk_below (g := gb441) (o := .cells #[.int .i64 t438, .int .i64 t439] 23 (0, 0)) (by (with_reducible repeat (first | refine blk_drewN ?_ _ | refine blk_drew ?_ | refine blk_alloc ?_ _)); exact BK441.out) hb); have n5_ := Aside0.mk (blk_below (g := gb445) (o := .cells #[.int .i64 t442, .int .i64 t443] 23 (0, 0)) (by (with_reducible repeat (first | refine blk_drewN ?_ _ | refine blk_drew ?_ | refine blk_alloc ?_ _)); exact BK445.out) hb); have n6_ := Aside0.mk (below_step (by repeat (first | (with_reducible first | exact HB.out | apply below_alloc | apply pw_below_drewN | apply below_drew1 | refine below_set ?_ GE425.out | refine below_set ?_ GE426.out | refine below_set ?_ GE433.out | refine below_set ?_ GE437.out | refine below_set ?_ GE441.out | refine below_set ?_ GE445.out) | exact HB.out)) hb); have n7_ := Aside0.mk (hbox); have n8_ := Aside0.mk ((by rw [hg]; exact (below_size (by repeat (first | (with_reducible first | exact HB.out | apply below_alloc | apply pw_below_drewN | apply below_drew1 | refine below_set ?_ GE425.out | refine below_set ?_ GE426.out | refine below_set ?_ GE433.out | refine below_set ?_ GE437.out | refine below_set ?_ GE441.out | refine below_set ?_ GE445.out) | exact HB.out))) : w.heap.size ≤ gb453)); have n9_ := Aside0.mk ((by rw [hg]; exact (below_size (by repeat (first | (with_reducible first | exact HB.out | apply below_alloc | apply pw_below_drewN | apply below_drew1 | refine below_set ?_ GE425.out | refine below_set ?_ GE426.out | refine below_set ?_ GE433.out | refine below_set ?_ GE437.out | refine below_set ?_ GE441.out | refine below_set ?_ GE445.out) | exact HB.out))) : w.heap.size ≤ gb453)); have n10_ := Aside0.mk ((by rw [hg]; exact Nat.ne_of_lt (blk_lt (g := gb425) (o := .cells #[.int .i64 a0_0, .int .i64 a0_1] 23 (0, 0)) (by (with_reducible repeat (first | refine blk_drewN ?_ _ | refine blk_drew ?_ | refine blk_alloc ?_ _)); exact BK425.out)) : gb425 ≠ gb453)); have n11_ := Aside0.mk ((by rw [hg]; exact Nat.ne_of_gt (blk_lt (g := gb425) (o := .cells #[.int .i64 a0_0, .int .i64 a0_1] 23 (0, 0)) (by (with_reducible repeat (first | refine blk_drewN ?_ _ | refine blk_drew ?_ | refine blk_alloc ?_ _)); exact BK425.out)) : gb453 ≠ gb425)); have n12_ := Aside0.mk ((by rw [hg]; exact Nat.ne_of_lt (blk_lt (g := gb426) (o := .cells #[.int .i64 a1_0, .int .i64 a1_1] 23 (0, 0)) (by (with_reducible repeat (first | refine blk_drewN ?_ _ | refine blk_drew ?_ | refine blk_alloc ?_ _)); exact BK426.out)) : gb426 ≠ gb453)); have n13_ := Aside0.mk ((by rw [hg]; exact Nat.ne_of_gt (blk_lt (g := gb426) (o := .cells #[.int .i64 a1_0, .int .i64 a1_1] 23 (0, 0)) (by (with_reducible repeat (first | refine blk_drewN ?_ _ | refine blk_drew ?_ | refine blk_alloc ?_ _)); exact BK426.out)) : gb453 ≠ gb426)); have n14_ := Aside0.mk ((by rw [hg]; exact Nat.ne_of_lt (blk_lt (g := gb433) (o := .cells #[.int .i64 t430, .int .i64 t431] 23 (0, 0)) (by (with_reducible repeat (first | refine blk_drewN ?_ _ | refine blk_drew ?_ | refine blk_alloc ?_ _)); exact BK433.out)) : gb433 ≠ gb453)); have n15_ := Aside0.mk ((by rw [hg]; exact Nat.ne_of_gt (blk_lt (g := gb433) (o := .cells #[.int .i64 t430, .int .i64 t431] 23 (0, 0)) (by (with_reducible repeat (first | refine blk_drewN ?_ _ | refine blk_drew ?_ | refine blk_alloc ?_ _)); exact BK433.out)) : gb453 ≠ gb433)); have n16_ := Aside0.mk ((by rw [hg]; exact Nat.ne_of_lt (blk_lt (g := gb437) (o := .cells #[.int .i64 t434, .int .i64 t435] 23 (0, 0)) (by (with_reducible repeat (first | refine blk_drewN ?_ _ | refine blk_drew ?_ | refine blk_alloc ?_ _)); exact BK437.out)) : gb437 ≠ gb453)); have n17_ := Aside0.mk ((by rw [hg]; exact Nat.ne_of_gt (blk_lt (g := gb437) (o := .cells #[.int .i64 t434, .int .i64 t435] 23 (0, 0)) (by (with_reducible repeat (first | refine blk_drewN ?_ _ | refine blk_drew ?_ | refine blk_alloc ?_ _)); exact BK437.out)) : gb453 ≠ gb437)); have n18_ := Aside0.mk ((by rw [hg]; exact Nat.ne_of_lt (blk_lt (g := gb441) (o := .cells #[.int .i64 t438, .int .i64 t439] 23 (0, 0)) (by (with_reducible repeat (first | refine blk_drewN ?_ _ | refine blk_drew ?_ | refine blk_alloc ?_ _)); exact BK441.out)) : gb441 ≠ gb453)); have n19_ := Aside0.mk ((by rw [hg]; exact Nat.ne_of_gt (blk_lt (g := gb441) (o := .cells #[.int .i64 t438, .int .i64 t439] 23 (0, 0)) (by (with_reducible repeat (first | refine blk_drewN ?_ _ | refine blk_drew ?_ | refine blk_alloc ?_ _)); exact BK441.out)) : gb453 ≠ gb441)); have n20_ := Aside0.mk ((by rw [hg]; exact Nat.ne_of_lt (blk_lt (g := gb445) (o := .cells #[.int .i64 t442, .int .i64 t443] 23 (0, 0)) (by (with_reducible repeat (first | refine blk_drewN ?_ _ | refine blk_drew ?_ | refine blk_alloc ?_ _)); exact BK445.out)) : gb445 ≠ gb453)); have n21_ := Aside0.mk ((by rw [hg]; exact Nat.ne_of_gt (blk_lt (g := gb445) (o := .cells #[.int .i64 t442, .int .i64 t443] 23 (0, 0)) (by (with_reducible repeat (first | refine blk_drewN ?_ _ | refine blk_drew ?_ | refine blk_alloc ?_ _)); exact BK445.out)) : gb453 ≠ gb445)); clear BK425; clear BK426; clear BK433; clear BK437; clear BK441; clear BK445; clear HB; have BK425 := n0_; have BK426 := n1_; have BK433 := n2_; have BK437 := n3_; have BK441 := n4_; have BK445 := n5_; have HB := n6_; have BK453 := n7_; have GW453 := n8_; have GE453 := n9_; have NB425_453 := n10_; have NB453_425 := n11_; have NB426_453 := n12_; have NB453_426 := n13_; have NB433_453 := n14_; have NB453_433 := n15_; have NB437_453 := n16_; have NB453_437 := n17_; have NB441_453 := n18_; have NB453_441 := n19_; have NB445_453 := n20_; have NB453_445 := n21_; clear n0_ n1_ n2_ n3_ n4_ n5_ n6_ n7_ n8_ n9_ n10_ n11_ n12_ n13_ n14_ n15_ n16_ n17_ n18_ n19_ n20_ n21_; clear hb hbox hg; have hnb177 := NB453_425.out; have hnc177 := NB425_453.out; have hnb178 := NB453_426.out; have hnc178 := NB426_453.out; have hnb179 := NB453_433.out; have hnc179 := NB433_453.out; have hnb180 := NB453_437.out; have hnc180 := NB437_453.out; have hnb181 := NB453_441.out; have hnc181 := NB441_453.out; have hnb182 := NB453_445.out; have hnc182 := NB445_453.out; have hcz183_0 : w176.cell? ⟨gb453, 0, none⟩ = some (.int .i64 0) := (blk_cell BK453.out 0).trans rfl; have hcz183_1 : w176.cell? ⟨gb453, 1, none⟩ = some (.int .i64 0) := (blk_cell BK453.out 1).trans rfl; have hfz183_0 := blk_frozen BK453.out 0; have hfz183_1 := blk_frozen BK453.out 1; have hnb184 := NB425_433.out; have hnc184 := NB433_425.out; have hnb185 := NB425_437.out; have hnc185 := NB437_425.out; have hnb186 := NB425_445.out; have hnc186 := NB445_425.out; have hcz187_0 : w176.cell? ⟨gb425, 0, none⟩ = some (.int .i64 a0_0) := (blk_cell BK425.out 0).trans rfl; have hcz187_1 : w176.cell? ⟨gb425, 1, none⟩ = some (.int .i64 a0_1) := (blk_cell BK425.out 1).trans rfl; have hfz187_0 := blk_frozen BK425.out 0; have hfz187_1 := blk_frozen BK425.out 1))
                              go_meet
                              case rel => exact ⟨_, H', ⟨by have := HJ2.out; have := HJ23.out; have := HJ121.out; have := HJ150.out; first | omega | exact Nat.le_refl _⟩, ⟨by (with_reducible repeat (first | refine blk_drewN ?_ _ | refine blk_drew ?_ | refine blk_alloc ?_ _)); refine blk_far ?_ NB425_453.out _; (with_reducible repeat (first | refine blk_drewN ?_ _ | refine blk_drew ?_ | refine blk_alloc ?_ _)); refine blk_far ?_ NB425_453.out _; (with_reducible repeat (first | refine blk_drewN ?_ _ | refine blk_drew ?_ | refine blk_alloc ?_ _)); exact BK425.out⟩, ⟨by (with_reducible repeat (first | refine blk_drewN ?_ _ | refine blk_drew ?_ | refine blk_alloc ?_ _)); refine blk_far ?_ NB426_453.out _; (with_reducible repeat (first | refine blk_drewN ?_ _ | refine blk_drew ?_ | refine blk_alloc ?_ _)); refine blk_far ?_ NB426_453.out _; (with_reducible repeat (first | refine blk_drewN ?_ _ | refine blk_drew ?_ | refine blk_alloc ?_ _)); exact BK426.out⟩, ⟨by (with_reducible repeat (first | refine blk_drewN ?_ _ | refine blk_drew ?_ | refine blk_alloc ?_ _)); refine blk_far ?_ NB433_453.out _; (with_reducible repeat (first | refine blk_drewN ?_ _ | refine blk_drew ?_ | refine blk_alloc ?_ _)); refine blk_far ?_ NB433_453.out _; (with_reducible repeat (first | refine blk_drewN ?_ _ | refine blk_drew ?_ | refine blk_alloc ?_ _)); exact BK433.out⟩, ⟨by (with_reducible repeat (first | refine blk_drewN ?_ _ | refine blk_drew ?_ | refine blk_alloc ?_ _)); refine blk_far ?_ NB437_453.out _; (with_reducible repeat (first | refine blk_drewN ?_ _ | refine blk_drew ?_ | refine blk_alloc ?_ _)); refine blk_far ?_ NB437_453.out _; (with_reducible repeat (first | refine blk_drewN ?_ _ | refine blk_drew ?_ | refine blk_alloc ?_ _)); exact BK437.out⟩, ⟨by (with_reducible repeat (first | refine blk_drewN ?_ _ | refine blk_drew ?_ | refine blk_alloc ?_ _)); refine blk_far ?_ NB441_453.out _; (with_reducible repeat (first | refine blk_drewN ?_ _ | refine blk_drew ?_ | refine blk_alloc ?_ _)); refine blk_far ?_ NB441_453.out _; (with_reducible repeat (first | refine blk_drewN ?_ _ | refine blk_drew ?_ | refine blk_alloc ?_ _)); exact BK441.out⟩, ⟨by (with_reducible repeat (first | refine blk_drewN ?_ _ | refine blk_drew ?_ | refine blk_alloc ?_ _)); refine blk_far ?_ NB445_453.out _; (with_reducible repeat (first | refine blk_drewN ?_ _ | refine blk_drew ?_ | refine blk_alloc ?_ _)); refine blk_far ?_ NB445_453.out _; (with_reducible repeat (first | refine blk_drewN ?_ _ | refine blk_drew ?_ | refine blk_alloc ?_ _)); exact BK445.out⟩, ⟨by repeat (first | (with_reducible first | exact HB.out | apply below_alloc | apply pw_below_drewN | apply below_drew1 | refine below_set ?_ GE425.out | refine below_set ?_ GE426.out | refine below_set ?_ GE433.out | refine below_set ?_ GE437.out | refine below_set ?_ GE441.out | refine below_set ?_ GE445.out | refine below_set ?_ GE453.out) | exact HB.out)⟩⟩
                          · rw [if_neg c162] at H
                            have c162b0 : (t452 == 0) = false := beq_eq_false_iff_ne.mpr c162
                            have c162b1 : (t452 != 0) = true := bne_iff_ne.mpr c162
                            (first | rw [c162b0] | (simp only [i64_w, i32_w]; rw [c162b0]) | skip)
                            obtain rfl := Option.some.inj H
                            exact absurd HLAW.out (by decide)
                        · replace c160 := Bool.eq_false_iff.mpr c160
                          subst c160
                          have H1 : (mosaiclaw05_RatioTurns.j4 kj150) = some r := by rw [if_neg (show ¬ (false = true) by decide)] at H; exact H
                          clear H
                          have H := H1
                          clear H1
                          have H' := Aside0.mk H
                          clear H
                          go_wp2
                          go_meet
                          case rel => exact ⟨_, H', ⟨by have := HJ2.out; have := HJ23.out; have := HJ121.out; have := HJ150.out; first | omega | exact Nat.le_refl _⟩, ⟨by (with_reducible repeat (first | refine blk_drewN ?_ _ | refine blk_drew ?_ | refine blk_alloc ?_ _)); exact BK425.out⟩, ⟨by (with_reducible repeat (first | refine blk_drewN ?_ _ | refine blk_drew ?_ | refine blk_alloc ?_ _)); exact BK426.out⟩, ⟨by (with_reducible repeat (first | refine blk_drewN ?_ _ | refine blk_drew ?_ | refine blk_alloc ?_ _)); exact BK433.out⟩, ⟨by (with_reducible repeat (first | refine blk_drewN ?_ _ | refine blk_drew ?_ | refine blk_alloc ?_ _)); exact BK437.out⟩, ⟨by (with_reducible repeat (first | refine blk_drewN ?_ _ | refine blk_drew ?_ | refine blk_alloc ?_ _)); exact BK441.out⟩, ⟨by (with_reducible repeat (first | refine blk_drewN ?_ _ | refine blk_drew ?_ | refine blk_alloc ?_ _)); exact BK445.out⟩, ⟨by repeat (first | (with_reducible first | exact HB.out | apply below_alloc | apply pw_below_drewN | apply below_drew1 | refine below_set ?_ GE425.out | refine below_set ?_ GE426.out | refine below_set ?_ GE433.out | refine below_set ?_ GE437.out | refine below_set ?_ GE441.out | refine below_set ?_ GE445.out) | exact HB.out)⟩⟩
                      case rest =>
                        clear HC159
                        try clear c1
                        try clear c2
                        try clear p2
                        try clear c3
                        try clear c4
                        try clear c5
                        try clear c6
                        try clear c7
                        try clear c8
                        try clear c9
                        try clear c10
                        try clear c11
                        try clear c12
                        try clear c13
                        try clear c14
                        try clear c15
                        try clear c16
                        try clear c17
                        try clear c18
                        try clear c25
                        try clear c27
                        try clear c30
                        try clear c31
                        try clear c36
                        try clear c37
                        try clear c38
                        try clear c39
                        try clear c41
                        try clear c45
                        try clear c46
                        try clear c47
                        try clear c48
                        try clear c54
                        try clear c55
                        try clear c56
                        try clear c57
                        try clear c58
                        try clear c60
                        try clear c60b0
                        try clear c61
                        try clear c62
                        try clear c63
                        try clear c64
                        try clear c65
                        try clear c67
                        try clear c68
                        try clear c69
                        try clear c70
                        try clear c72
                        try clear c72b0
                        try clear c72b1
                        try clear c73
                        try clear c73b0
                        try clear c74
                        try clear c75
                        try clear c76
                        try clear c77
                        try clear c78
                        try clear c80
                        try clear c81
                        try clear c82
                        try clear c83
                        try clear c85
                        try clear c86
                        try clear c87
                        try clear c89
                        try clear c90
                        try clear c92
                        try clear c93
                        try clear c94
                        try clear c95
                        try clear c96
                        try clear c98
                        try clear c99
                        try clear c100
                        try clear c101
                        try clear c103
                        try clear c104
                        try clear c105
                        try clear c107
                        try clear c108
                        try clear c110
                        try clear c111
                        try clear c112
                        try clear c113
                        try clear c114
                        try clear c116
                        try clear c117
                        try clear c118
                        try clear c119
                        try clear c121
                        try clear c123
                        try clear c123b0
                        try clear c123b1
                        try clear c125
                        try clear c125b0
                        try clear c125b1
                        try clear c126
                        try clear c126b0
                        try clear c127
                        try clear c128
                        try clear c129
                        try clear c130
                        try clear c131
                        try clear c133
                        try clear c134
                        try clear c135
                        try clear c136
                        try clear c140
                        try clear c141
                        try clear c142
                        try clear c143
                        try clear c144
                        try clear c145
                        try clear c147
                        try clear c148
                        try clear c149
                        try clear c152
                        try clear c152b0
                        try clear c152b1
                        try clear c153
                        try clear c154
                        try clear c155
                        try clear c156
                        try clear c157
                        try clear c160
                        try clear c162
                        try clear c162b0
                        try clear c162b1
                        try clear c163
                        try clear c163b0
                        try clear c164
                        try clear c165
                        try clear c166
                        try clear c167
                        try clear c168
                        try clear c170
                        try clear c171
                        try clear c172
                        try clear c173
                        try clear c177
                        try clear c178
                        try clear c179
                        try clear c180
                        try clear c181
                        try clear c182
                        try clear c184
                        try clear c185
                        try clear c186
                        try clear hcz102_0
                        try clear hcz102_1
                        try clear hcz106_0
                        try clear hcz106_1
                        try clear hcz109_0
                        try clear hcz109_1
                        try clear hcz10_0
                        try clear hcz10_1
                        try clear hcz115_0
                        try clear hcz115_1
                        try clear hcz120_0
                        try clear hcz120_1
                        try clear hcz12_0
                        try clear hcz12_1
                        try clear hcz132_0
                        try clear hcz132_1
                        try clear hcz137_0
                        try clear hcz137_1
                        try clear hcz146_0
                        try clear hcz146_1
                        try clear hcz150_0
                        try clear hcz150_1
                        try clear hcz158_0
                        try clear hcz158_1
                        try clear hcz15_0
                        try clear hcz15_1
                        try clear hcz169_0
                        try clear hcz169_1
                        try clear hcz174_0
                        try clear hcz174_1
                        try clear hcz183_0
                        try clear hcz183_1
                        try clear hcz187_0
                        try clear hcz187_1
                        try clear hcz26_0
                        try clear hcz26_1
                        try clear hcz27_0
                        try clear hcz27_1
                        try clear hcz32_0
                        try clear hcz32_1
                        try clear hcz33_0
                        try clear hcz33_1
                        try clear hcz34_0
                        try clear hcz34_1
                        try clear hcz40_0
                        try clear hcz40_1
                        try clear hcz41_0
                        try clear hcz41_1
                        try clear hcz42_0
                        try clear hcz42_1
                        try clear hcz49_0
                        try clear hcz49_1
                        try clear hcz50_0
                        try clear hcz50_1
                        try clear hcz51_0
                        try clear hcz51_1
                        try clear hcz59_0
                        try clear hcz59_1
                        try clear hcz66_0
                        try clear hcz66_1
                        try clear hcz71_0
                        try clear hcz71_1
                        try clear hcz79_0
                        try clear hcz79_1
                        try clear hcz84_0
                        try clear hcz84_1
                        try clear hcz88_0
                        try clear hcz88_1
                        try clear hcz91_0
                        try clear hcz91_1
                        try clear hcz97_0
                        try clear hcz97_1
                        try clear hfz102_0
                        try clear hfz102_1
                        try clear hfz106_0
                        try clear hfz106_1
                        try clear hfz109_0
                        try clear hfz109_1
                        try clear hfz10_0
                        try clear hfz10_1
                        try clear hfz115_0
                        try clear hfz115_1
                        try clear hfz120_0
                        try clear hfz120_1
                        try clear hfz12_0
                        try clear hfz12_1
                        try clear hfz132_0
                        try clear hfz132_1
                        try clear hfz137_0
                        try clear hfz137_1
                        try clear hfz146_0
                        try clear hfz146_1
                        try clear hfz150_0
                        try clear hfz150_1
                        try clear hfz158_0
                        try clear hfz158_1
                        try clear hfz15_0
                        try clear hfz15_1
                        try clear hfz169_0
                        try clear hfz169_1
                        try clear hfz174_0
                        try clear hfz174_1
                        try clear hfz183_0
                        try clear hfz183_1
                        try clear hfz187_0
                        try clear hfz187_1
                        try clear hfz26_0
                        try clear hfz26_1
                        try clear hfz27_0
                        try clear hfz27_1
                        try clear hfz32_0
                        try clear hfz32_1
                        try clear hfz33_0
                        try clear hfz33_1
                        try clear hfz34_0
                        try clear hfz34_1
                        try clear hfz40_0
                        try clear hfz40_1
                        try clear hfz41_0
                        try clear hfz41_1
                        try clear hfz42_0
                        try clear hfz42_1
                        try clear hfz49_0
                        try clear hfz49_1
                        try clear hfz50_0
                        try clear hfz50_1
                        try clear hfz51_0
                        try clear hfz51_1
                        try clear hfz59_0
                        try clear hfz59_1
                        try clear hfz66_0
                        try clear hfz66_1
                        try clear hfz71_0
                        try clear hfz71_1
                        try clear hfz79_0
                        try clear hfz79_1
                        try clear hfz84_0
                        try clear hfz84_1
                        try clear hfz88_0
                        try clear hfz88_1
                        try clear hfz91_0
                        try clear hfz91_1
                        try clear hfz97_0
                        try clear hfz97_1
                        try clear p2
                        obtain ⟨kq, HA, HJ158, BK425, BK426, BK433, BK437, BK441, BK445, HB⟩ := hcut
                        cases kq with
                        | zero => exact absurd HA.out (by simp [mosaiclaw05_RatioTurns.j4])
                        | succ kj158 =>
                          have H := HA.out
                          clear HA
                          simp only [mosaiclaw05_RatioTurns.j4] at H
                          replace H := Option.bind_eq_some_iff.mp H
                          obtain ⟨t454, A1880, H⟩ := H
                          replace H : (some t454) = some r := H
                          have A188 := Aside0.mk A1880
                          clear A1880
                          obtain rfl := Option.some.inj H
                          go_wp2_with (first | ((with_reducible refine gate_callee (f := 27) rfl ?_); refine goesL_ (some 103) rfl rfl Try.func27 (by kernel_rfl) rfl #[] rfl (by (try simp only [List.map_toArray, List.map_cons, List.map_nil]); first | done | rfl | (simp only [List.length_drop, List.length_take]; rfl)) ?_; (with_reducible refine (mosaiclaw05_awake.calls kj158  t454 _ A188.out).mono ?_); rintro e w189 ⟨rfl, hb⟩; refine ⟨_, rfl, ?_⟩; have n0_ := Aside0.mk (blk_below (g := gb425) (o := .cells #[.int .i64 a0_0, .int .i64 a0_1] 23 (0, 0)) (by (with_reducible repeat (first | refine blk_drewN ?_ _ | refine blk_drew ?_ | refine blk_alloc ?_ _)); exact BK425.out) hb); have n1_ := Aside0.mk (blk_below (g := gb426) (o := .cells #[.int .i64 a1_0, .int .i64 a1_1] 23 (0, 0)) (by (with_reducible repeat (first | refine blk_drewN ?_ _ | refine blk_drew ?_ | refine blk_alloc ?_ _)); exact BK426.out) hb); have n2_ := Aside0.mk (blk_below (g := gb433) (o := .cells #[.int .i64 t430, .int .i64 t431] 23 (0, 0)) (by (with_reducible repeat (first | refine blk_drewN ?_ _ | refine blk_drew ?_ | refine blk_alloc ?_ _)); exact BK433.out) hb); have n3_ := Aside0.mk (blk_below (g := gb437) (o := .cells #[.int .i64 t434, .int .i64 t435] 23 (0, 0)) (by (with_reducible repeat (first | refine blk_drewN ?_ _ | refine blk_drew ?_ | refine blk_alloc ?_ _)); exact BK437.out) hb); have n4_ := Aside0.mk (blk_below (g := gb441) (o := .cells #[.int .i64 t438, .int .i64 t439] 23 (0, 0)) (by (with_reducible repeat (first | refine blk_drewN ?_ _ | refine blk_drew ?_ | refine blk_alloc ?_ _)); exact BK441.out) hb); have n5_ := Aside0.mk (blk_below (g := gb445) (o := .cells #[.int .i64 t442, .int .i64 t443] 23 (0, 0)) (by (with_reducible repeat (first | refine blk_drewN ?_ _ | refine blk_drew ?_ | refine blk_alloc ?_ _)); exact BK445.out) hb); have n6_ := Aside0.mk (below_step (by repeat (first | (with_reducible first | exact HB.out | apply below_alloc | apply pw_below_drewN | apply below_drew1 | refine below_set ?_ GE425.out | refine below_set ?_ GE426.out | refine below_set ?_ GE433.out | refine below_set ?_ GE437.out | refine below_set ?_ GE441.out | refine below_set ?_ GE445.out) | exact HB.out)) hb); clear BK425; clear BK426; clear BK433; clear BK437; clear BK441; clear BK445; clear HB; have BK425 := n0_; have BK426 := n1_; have BK433 := n2_; have BK437 := n3_; have BK441 := n4_; have BK445 := n5_; have HB := n6_; clear n0_ n1_ n2_ n3_ n4_ n5_ n6_; (try clear hb); (try clear hb2); (try clear hk); (try clear hi)))
                          go_ret
                          exact ⟨by first | rfl | (simp [errW_none, errW_some] <;> rfl) | (simp [*, errW_none, errW_some] <;> rfl), by repeat (first | (with_reducible first | exact HB.out | apply below_alloc | apply pw_below_drewN | apply below_drew1 | refine below_set ?_ GE425.out | refine below_set ?_ GE426.out | refine below_set ?_ GE433.out | refine below_set ?_ GE437.out | refine below_set ?_ GE441.out | refine below_set ?_ GE445.out) | exact HB.out)⟩

end Go.Proofs.Ytajkonnamldjaaa.Q
