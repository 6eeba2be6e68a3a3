-- Written by a program of this seat (a changed copy of a printer), not by hand.
import Derived.Test.YtajkonnamldjaaaQx0
import Derived.Test.YtajkonnamldjaaaQx1
import Derived.Test.YtajkonnamldjaaaQx5
import Derived.Test.YtajkonnamldjaaaQx35
import Derived.Test.YtajkonnamldjaaaQx36
import Derived.Test.YtajkonnamldjaaaQx53
import Derived.Test.YtajkonnamldjaaaQx59
namespace Go.Proofs.Ytajkonnamldjaaa.Q
open Go.RowKit Go.Proofs.YtajkonnamldjaaaW.PrintWords Go.Proofs.YtajkonnamldjaaaW.PrintLast Go.Proofs.YtajkonnamldjaaaW.PrintMore
open Go.Proofs.Ytajkonnamldjaaa
attribute [local go_sem] max2_int min2_int max_two min_two max_three min_three max_four min_four   -- for this text's walks alone
set_option linter.unusedVariables false
set_option linter.unusedSimpArgs false

attribute [local go_sem high] eqA23
/-! ### mosaiclaw05_RatioOrder: function 14 -/
mutual
def mosaiclaw05_RatioOrder.j0 : Nat → Bool → Int → Int → Int → Int → Int → Int → Option (Bool)
  | 0, _, _, _, _, _, _, _ => none
  | k + 1, x24, x536000, x536001, x537000, x537001, x538000, x538001 => if x24 = true then ((mosaiclaw05_awake.f k).bind fun t541 => (some t541)) else ((ratio_Compare.f x536000 x536001 x537000 x537001).bind fun t542 => ((ratio_Compare.f x537000 x537001 x538000 x538001).bind fun t543 => ((ratio_Compare.f x536000 x536001 x538000 x538001).bind fun t544 => ((ratio_Floor.f x536000 x536001).bind fun t545 => ((ratio_Ceil.f x536000 x536001).bind fun t546 => (if t545 > t546 then (mosaiclaw05_RatioOrder.j1 k t542 t543 t544 true x536000 x536001 x537000 x537001) else (if (wrap64 (t546 - t545)) > 1 then (mosaiclaw05_RatioOrder.j1 k t542 t543 t544 true x536000 x536001 x537000 x537001) else (if ((t545 == t546) != (x536001 == 1)) = true then (mosaiclaw05_RatioOrder.j1 k t542 t543 t544 true x536000 x536001 x537000 x537001) else (if (wrap64 (t545 * x536001)) > x536000 then (mosaiclaw05_RatioOrder.j1 k t542 t543 t544 true x536000 x536001 x537000 x537001) else (mosaiclaw05_RatioOrder.j1 k t542 t543 t544 (decide ((wrap64 (t546 * x536001)) < x536000)) x536000 x536001 x537000 x537001))))))))))
def mosaiclaw05_RatioOrder.j1 : Nat → Int → Int → Int → Bool → Int → Int → Int → Int → Option (Bool)
  | 0, _, _, _, _, _, _, _, _ => none
  | k + 1, x7, x8, x9, x74, x536000, x536001, x537000, x537001 => if x74 = true then (some false) else ((mosaiclaw05_awake.f k).bind fun t547 => (if t547 = true then ((ratio_Compare.f x537000 x537001 x536000 x536001).bind fun t548 => (if x7 = (wrap64 (-t548)) then (if ((x7 == 0) == (x536000 == x537000 && (x536001 == x537001))) = true then (if x7 > 0 then (if x7 ≥ 0 then (some true) else (if x8 > 0 then (some true) else (some (decide (x9 < 0))))) else (if x8 > 0 then (if x7 ≥ 0 then (some true) else (some true)) else (if x9 ≤ 0 then (if x7 ≥ 0 then (some true) else (some (decide (x9 < 0)))) else (some false)))) else (some false)) else (some false))) else (some false)))
end
def mosaiclaw05_RatioOrder.f (k : Nat) (a0_0 : Int) (a0_1 : Int) (a1_0 : Int) (a1_1 : Int) (a2_0 : Int) (a2_1 : Int) : Option (Bool) := (ratio_Check.f a0_0 a0_1).bind fun t538 => (if t538 = true then ((ratio_Check.f a1_0 a1_1).bind fun t539 => (if t539 = true then ((ratio_Check.f a2_0 a2_1).bind fun t540 => (mosaiclaw05_RatioOrder.j0 k (!t540) a0_0 a0_1 a1_0 a1_1 a2_0 a2_1)) else (mosaiclaw05_RatioOrder.j0 k true a0_0 a0_1 a1_0 a1_1 a2_0 a2_1))) else (mosaiclaw05_RatioOrder.j0 k true a0_0 a0_1 a1_0 a1_1 a2_0 a2_1))
theorem mosaiclaw05_RatioOrder.mono_l : ∀ k, (∀ y0 y1 y2 y3 y4 y5 y6, LeO (mosaiclaw05_RatioOrder.j0 k y0 y1 y2 y3 y4 y5 y6) (mosaiclaw05_RatioOrder.j0 (k + 1) y0 y1 y2 y3 y4 y5 y6)) ∧ (∀ y0 y1 y2 y3 y4 y5 y6 y7, LeO (mosaiclaw05_RatioOrder.j1 k y0 y1 y2 y3 y4 y5 y6 y7) (mosaiclaw05_RatioOrder.j1 (k + 1) y0 y1 y2 y3 y4 y5 y6 y7))
  | 0 => ⟨fun _ _ _ _ _ _ _ r h => by simp [mosaiclaw05_RatioOrder.j0] at h, fun _ _ _ _ _ _ _ _ r h => by simp [mosaiclaw05_RatioOrder.j1] at h⟩
  | k + 1 => by
    obtain ⟨ih0, ih1⟩ := mosaiclaw05_RatioOrder.mono_l k
    refine ⟨?_, ?_⟩
    · intro y0 y1 y2 y3 y4 y5 y6
      unfold mosaiclaw05_RatioOrder.j0
      repeat' first
      | (with_reducible exact ih0 _ _ _ _ _ _ _)
      | (with_reducible exact ih1 _ _ _ _ _ _ _ _)
      | (with_reducible exact mosaiclaw05_awake.mono _)
      | (with_reducible exact LeO.refl _)
      | (with_reducible exact LeO.none _)
      | (with_reducible refine LeO.ite ?_ ?_)
      | (with_reducible refine LeO.bind ?_ (fun _ => ?_))
      | exact ih0 _ _ _ _ _ _ _
      | exact ih1 _ _ _ _ _ _ _ _
      | exact mosaiclaw05_awake.mono _
      | exact LeO.none _
      | refine LeO.ite ?_ ?_
      | refine LeO.bind ?_ (fun _ => ?_)
    · intro y0 y1 y2 y3 y4 y5 y6 y7
      unfold mosaiclaw05_RatioOrder.j1
      repeat' first
      | (with_reducible exact ih0 _ _ _ _ _ _ _)
      | (with_reducible exact ih1 _ _ _ _ _ _ _ _)
      | (with_reducible exact mosaiclaw05_awake.mono _)
      | (with_reducible exact LeO.refl _)
      | (with_reducible exact LeO.none _)
      | (with_reducible refine LeO.ite ?_ ?_)
      | (with_reducible refine LeO.bind ?_ (fun _ => ?_))
      | exact ih0 _ _ _ _ _ _ _
      | exact ih1 _ _ _ _ _ _ _ _
      | exact mosaiclaw05_awake.mono _
      | exact LeO.none _
      | refine LeO.ite ?_ ?_
      | refine LeO.bind ?_ (fun _ => ?_)
theorem mosaiclaw05_RatioOrder.mono : ∀ a0 a1 a2 a3 a4 a5 k, LeO (mosaiclaw05_RatioOrder.f k a0 a1 a2 a3 a4 a5) (mosaiclaw05_RatioOrder.f (k + 1) a0 a1 a2 a3 a4 a5) := by
  intro a0 a1 a2 a3 a4 a5 k
  obtain ⟨ih0, ih1⟩ := mosaiclaw05_RatioOrder.mono_l k
  unfold mosaiclaw05_RatioOrder.f
  repeat' first
      | (with_reducible exact ih0 _ _ _ _ _ _ _)
      | (with_reducible exact ih1 _ _ _ _ _ _ _ _)
      | (with_reducible exact mosaiclaw05_awake.mono _)
      | (with_reducible exact LeO.refl _)
      | (with_reducible exact LeO.none _)
      | (with_reducible refine LeO.ite ?_ ?_)
      | (with_reducible refine LeO.bind ?_ (fun _ => ?_))
      | exact ih0 _ _ _ _ _ _ _
      | exact ih1 _ _ _ _ _ _ _ _
      | exact mosaiclaw05_awake.mono _
      | exact LeO.none _
      | refine LeO.ite ?_ ?_
      | refine LeO.bind ?_ (fun _ => ?_)
def mosaiclaw05_RatioOrder.T3 : Bool × List (List Nat × List Nat) := (true, [([], []), ([], []), ([0, 1], [0, 1]), ([], []), ([], []), ([3, 4, 2], [3, 4]), ([], []), ([], []), ([6, 7, 5], [6, 7]), ([2, 8, 0, 1, 2], [2]), ([5, 9, 0, 1, 2, 3, 4, 5, 9], [5]), ([8, 10, 0, 1, 2, 3, 4, 5, 6, 7, 8, 9, 10], [8])])
def mosaiclaw05_RatioOrder.B3 : List Nat := [0, 0, 3, 0, 0, 31, 0, 0, 255, 511, 1023, 2047]
theorem mosaiclaw05_RatioOrder.tab3 : rtab .any (opsOf Try.f14 3) = mosaiclaw05_RatioOrder.T3 := by kernel_rfl
theorem mosaiclaw05_RatioOrder.bits3 : waitsOk mosaiclaw05_RatioOrder.T3.2 mosaiclaw05_RatioOrder.B3 = true := by kernel_rfl
set_option maxHeartbeats 8000000 in
set_option maxRecDepth 100000 in
theorem mosaiclaw05_RatioOrder.calls (k : Nat) (a0_0 : Int) (a0_1 : Int) (a1_0 : Int) (a1_1 : Int) (a2_0 : Int) (a2_1 : Int) (r : Bool) (w : World) (hlaw : r = true) (h : mosaiclaw05_RatioOrder.f k a0_0 a0_1 a1_0 a1_1 a2_0 a2_1 = some r) :
    Calls Try.prog 14 #[.agg #[.int .i64 a0_0, .int .i64 a0_1], .agg #[.int .i64 a1_0, .int .i64 a1_1], .agg #[.int .i64 a2_0, .int .i64 a2_1]] w fun e w' => e = .returned (.bool r) ∧ Below w.heap.size w w' := by
  have HLAW := Aside0.mk hlaw
  clear hlaw
  have hu23 := Try.underlying23
  have HB := Aside0.mk (Below.refl w.heap.size w)
  have H : ((ratio_Check.f a0_0 a0_1).bind fun t538 => (if t538 = true then ((ratio_Check.f a1_0 a1_1).bind fun t539 => (if t539 = true then ((ratio_Check.f a2_0 a2_1).bind fun t540 => (mosaiclaw05_RatioOrder.j0 k (!t540) a0_0 a0_1 a1_0 a1_1 a2_0 a2_1)) else (mosaiclaw05_RatioOrder.j0 k true a0_0 a0_1 a1_0 a1_1 a2_0 a2_1))) else (mosaiclaw05_RatioOrder.j0 k true a0_0 a0_1 a1_0 a1_1 a2_0 a2_1))) = some r := h
  clear h
  have HC4 := Aside0.mk H
  clear H
  go_enter Try.func14, Try.ntmps14
  go_upto_region 1 with (first | ((with_reducible refine gate_dst (N := 3) rfl ?_); refine box_event ?hg (N := 3) ?hd (cs := #[.int .i64 a0_0, .int .i64 a0_1]) (t := 23) ?hr ?_; (case hd => rfl); (case hg => rfl); (case hr => first | (go_simp; done) | (go_simp; rfl)); intro gb535 hg w5 hbox hb; have n0_ := Aside0.mk (below_step (by repeat (first | (with_reducible first | exact HB.out | apply below_alloc | apply pw_below_drewN | apply below_drew1) | exact HB.out)) hb); have n1_ := Aside0.mk (hbox); have n2_ := Aside0.mk ((by rw [hg]; exact (below_size (by repeat (first | (with_reducible first | exact HB.out | apply below_alloc | apply pw_below_drewN | apply below_drew1) | exact HB.out))) : w.heap.size ≤ gb535)); have n3_ := Aside0.mk ((by rw [hg]; exact (below_size (by repeat (first | (with_reducible first | exact HB.out | apply below_alloc | apply pw_below_drewN | apply below_drew1) | exact HB.out))) : w.heap.size ≤ gb535)); clear HB; have HB := n0_; have BK535 := n1_; have GW535 := n2_; have GE535 := n3_; clear n0_ n1_ n2_ n3_; clear hb hbox hg) | ((with_reducible refine gate_dst (N := 4) rfl ?_); refine box_event ?hg (N := 4) ?hd (cs := #[.int .i64 a1_0, .int .i64 a1_1]) (t := 23) ?hr ?_; (case hd => rfl); (case hg => rfl); (case hr => first | (go_simp; done) | (go_simp; rfl)); intro gb536 hg w6 hbox hb; have n0_ := Aside0.mk (blk_below (g := gb535) (o := .cells #[.int .i64 a0_0, .int .i64 a0_1] 23 (0, 0)) (by (with_reducible repeat (first | refine blk_drewN ?_ _ | refine blk_drew ?_ | refine blk_alloc ?_ _)); exact BK535.out) hb); have n1_ := Aside0.mk (below_step (by repeat (first | (with_reducible first | exact HB.out | apply below_alloc | apply pw_below_drewN | apply below_drew1 | refine below_set ?_ GE535.out) | exact HB.out)) hb); have n2_ := Aside0.mk (hbox); have n3_ := Aside0.mk ((by rw [hg]; exact (below_size (by repeat (first | (with_reducible first | exact HB.out | apply below_alloc | apply pw_below_drewN | apply below_drew1 | refine below_set ?_ GE535.out) | exact HB.out))) : w.heap.size ≤ gb536)); have n4_ := Aside0.mk ((by rw [hg]; exact (below_size (by repeat (first | (with_reducible first | exact HB.out | apply below_alloc | apply pw_below_drewN | apply below_drew1 | refine below_set ?_ GE535.out) | exact HB.out))) : w.heap.size ≤ gb536)); have n5_ := Aside0.mk ((by rw [hg]; exact Nat.ne_of_lt (blk_lt (g := gb535) (o := .cells #[.int .i64 a0_0, .int .i64 a0_1] 23 (0, 0)) (by (with_reducible repeat (first | refine blk_drewN ?_ _ | refine blk_drew ?_ | refine blk_alloc ?_ _)); exact BK535.out)) : gb535 ≠ gb536)); have n6_ := Aside0.mk ((by rw [hg]; exact Nat.ne_of_gt (blk_lt (g := gb535) (o := .cells #[.int .i64 a0_0, .int .i64 a0_1] 23 (0, 0)) (by (with_reducible repeat (first | refine blk_drewN ?_ _ | refine blk_drew ?_ | refine blk_alloc ?_ _)); exact BK535.out)) : gb536 ≠ gb535)); clear BK535; clear HB; have BK535 := n0_; have HB := n1_; have BK536 := n2_; have GW536 := n3_; have GE536 := n4_; have NB535_536 := n5_; have NB536_535 := n6_; clear n0_ n1_ n2_ n3_ n4_ n5_ n6_; clear hb hbox hg) | ((with_reducible refine gate_dst (N := 5) rfl ?_); refine box_event ?hg (N := 5) ?hd (cs := #[.int .i64 a2_0, .int .i64 a2_1]) (t := 23) ?hr ?_; (case hd => rfl); (case hg => rfl); (case hr => first | (go_simp; done) | (go_simp; rfl)); intro gb537 hg w7 hbox hb; have n0_ := Aside0.mk (blk_below (g := gb535) (o := .cells #[.int .i64 a0_0, .int .i64 a0_1] 23 (0, 0)) (by (with_reducible repeat (first | refine blk_drewN ?_ _ | refine blk_drew ?_ | refine blk_alloc ?_ _)); exact BK535.out) hb); have n1_ := Aside0.mk (blk_below (g := gb536) (o := .cells #[.int .i64 a1_0, .int .i64 a1_1] 23 (0, 0)) (by (with_reducible repeat (first | refine blk_drewN ?_ _ | refine blk_drew ?_ | refine blk_alloc ?_ _)); exact BK536.out) hb); have n2_ := Aside0.mk (below_step (by repeat (first | (with_reducible first | exact HB.out | apply below_alloc | apply pw_below_drewN | apply below_drew1 | refine below_set ?_ GE535.out | refine below_set ?_ GE536.out) | exact HB.out)) hb); have n3_ := Aside0.mk (hbox); have n4_ := Aside0.mk ((by rw [hg]; exact (below_size (by repeat (first | (with_reducible first | exact HB.out | apply below_alloc | apply pw_below_drewN | apply below_drew1 | refine below_set ?_ GE535.out | refine below_set ?_ GE536.out) | exact HB.out))) : w.heap.size ≤ gb537)); have n5_ := Aside0.mk ((by rw [hg]; exact (below_size (by repeat (first | (with_reducible first | exact HB.out | apply below_alloc | apply pw_below_drewN | apply below_drew1 | refine below_set ?_ GE535.out | refine below_set ?_ GE536.out) | exact HB.out))) : w.heap.size ≤ gb537)); have n6_ := Aside0.mk ((by rw [hg]; exact Nat.ne_of_lt (blk_lt (g := gb535) (o := .cells #[.int .i64 a0_0, .int .i64 a0_1] 23 (0, 0)) (by (with_reducible repeat (first | refine blk_drewN ?_ _ | refine blk_drew ?_ | refine blk_alloc ?_ _)); exact BK535.out)) : gb535 ≠ gb537)); have n7_ := Aside0.mk ((by rw [hg]; exact Nat.ne_of_gt (blk_lt (g := gb535) (o := .cells #[.int .i64 a0_0, .int .i64 a0_1] 23 (0, 0)) (by (with_reducible repeat (first | refine blk_drewN ?_ _ | refine blk_drew ?_ | refine blk_alloc ?_ _)); exact BK535.out)) : gb537 ≠ gb535)); have n8_ := Aside0.mk ((by rw [hg]; exact Nat.ne_of_lt (blk_lt (g := gb536) (o := .cells #[.int .i64 a1_0, .int .i64 a1_1] 23 (0, 0)) (by (with_reducible repeat (first | refine blk_drewN ?_ _ | refine blk_drew ?_ | refine blk_alloc ?_ _)); exact BK536.out)) : gb536 ≠ gb537)); have n9_ := Aside0.mk ((by rw [hg]; exact Nat.ne_of_gt (blk_lt (g := gb536) (o := .cells #[.int .i64 a1_0, .int .i64 a1_1] 23 (0, 0)) (by (with_reducible repeat (first | refine blk_drewN ?_ _ | refine blk_drew ?_ | refine blk_alloc ?_ _)); exact BK536.out)) : gb537 ≠ gb536)); clear BK535; clear BK536; clear HB; have BK535 := n0_; have BK536 := n1_; have HB := n2_; have BK537 := n3_; have GW537 := n4_; have GE537 := n5_; have NB535_537 := n6_; have NB537_535 := n7_; have NB536_537 := n8_; have NB537_536 := n9_; clear n0_ n1_ n2_ n3_ n4_ n5_ n6_ n7_ n8_ n9_; clear hb hbox hg))
  (try simp only [Act.put, List.setIfInBounds_toArray, List.set_cons_zero, List.set_cons_succ])
  go_cut [24] (fun v24 wc => ∃ (kq : Nat) (x24_3 : Bool), v24 = .bool x24_3 ∧ Aside0 (mosaiclaw05_RatioOrder.j0 kq x24_3 a0_0 a0_1 a1_0 a1_1 a2_0 a2_1 = some r) ∧ Aside0 (kq ≤ k) ∧ Aside0 (wc.heap[gb535]? = some (.cells #[.int .i64 a0_0, .int .i64 a0_1] 23 (0, 0))) ∧ Aside0 (wc.heap[gb536]? = some (.cells #[.int .i64 a1_0, .int .i64 a1_1] 23 (0, 0))) ∧ Aside0 (wc.heap[gb537]? = some (.cells #[.int .i64 a2_0, .int .i64 a2_1] 23 (0, 0))) ∧ Aside0 (Below w.heap.size w wc))
  case first =>
    have H := HC4.out
    clear HC4
    replace H := Option.bind_eq_some_iff.mp H
    obtain ⟨t538, A80, H⟩ := H
    replace H : (if t538 = true then ((ratio_Check.f a1_0 a1_1).bind fun t539 => (if t539 = true then ((ratio_Check.f a2_0 a2_1).bind fun t540 => (mosaiclaw05_RatioOrder.j0 k (!t540) a0_0 a0_1 a1_0 a1_1 a2_0 a2_1)) else (mosaiclaw05_RatioOrder.j0 k true a0_0 a0_1 a1_0 a1_1 a2_0 a2_1))) else (mosaiclaw05_RatioOrder.j0 k true a0_0 a0_1 a1_0 a1_1 a2_0 a2_1)) = some r := H
    have A8 := Aside0.mk A80
    clear A80
    by_cases c9 : t538 = true
    · subst c9
      have H1 : ((ratio_Check.f a1_0 a1_1).bind fun t539 => (if t539 = true then ((ratio_Check.f a2_0 a2_1).bind fun t540 => (mosaiclaw05_RatioOrder.j0 k (!t540) a0_0 a0_1 a1_0 a1_1 a2_0 a2_1)) else (mosaiclaw05_RatioOrder.j0 k true a0_0 a0_1 a1_0 a1_1 a2_0 a2_1))) = some r := by rw [if_pos rfl] at H; exact H
      clear H
      have H := H1
      clear H1
      replace H := Option.bind_eq_some_iff.mp H
      obtain ⟨t539, A100, H⟩ := H
      replace H : (if t539 = true then ((ratio_Check.f a2_0 a2_1).bind fun t540 => (mosaiclaw05_RatioOrder.j0 k (!t540) a0_0 a0_1 a1_0 a1_1 a2_0 a2_1)) else (mosaiclaw05_RatioOrder.j0 k true a0_0 a0_1 a1_0 a1_1 a2_0 a2_1)) = some r := H
      have A10 := Aside0.mk A100
      clear A100
      by_cases c11 : t539 = true
      · subst c11
        have H1 : ((ratio_Check.f a2_0 a2_1).bind fun t540 => (mosaiclaw05_RatioOrder.j0 k (!t540) a0_0 a0_1 a1_0 a1_1 a2_0 a2_1)) = some r := by rw [if_pos rfl] at H; exact H
        clear H
        have H := H1
        clear H1
        replace H := Option.bind_eq_some_iff.mp H
        obtain ⟨t540, A120, H⟩ := H
        replace H : (mosaiclaw05_RatioOrder.j0 k (!t540) a0_0 a0_1 a1_0 a1_1 a2_0 a2_1) = some r := H
        have A12 := Aside0.mk A120
        clear A120
        have H' := Aside0.mk H
        clear H
        have hnb13 := NB535_536.out
        have hnc13 := NB536_535.out
        have hnb14 := NB535_537.out
        have hnc14 := NB537_535.out
        have hcz15_0 : w7.cell? ⟨gb535, 0, none⟩ = some (.int .i64 a0_0) := (blk_cell BK535.out 0).trans rfl
        have hcz15_1 : w7.cell? ⟨gb535, 1, none⟩ = some (.int .i64 a0_1) := (blk_cell BK535.out 1).trans rfl
        have hfz15_0 := blk_frozen BK535.out 0
        have hfz15_1 := blk_frozen BK535.out 1
        go_wp2_with (first | ((with_reducible refine gate_callee (f := 30) rfl ?_); refine goesL_ (some 13) rfl rfl Try.func30 (by kernel_rfl) rfl #[.agg #[.int .i64 a0_0, .int .i64 a0_1]] rfl (by (try simp only [List.map_toArray, List.map_cons, List.map_nil]); first | done | rfl | (simp only [List.length_drop, List.length_take]; rfl)) ?_; (with_reducible refine (ratio_Check.calls a0_0 a0_1 true _ A8.out).mono ?_); rintro e w16 ⟨rfl, hb⟩; refine ⟨_, rfl, ?_⟩; have n0_ := Aside0.mk (blk_below (g := gb535) (o := .cells #[.int .i64 a0_0, .int .i64 a0_1] 23 (0, 0)) (by (with_reducible repeat (first | refine blk_drewN ?_ _ | refine blk_drew ?_ | refine blk_alloc ?_ _)); exact BK535.out) hb); have n1_ := Aside0.mk (blk_below (g := gb536) (o := .cells #[.int .i64 a1_0, .int .i64 a1_1] 23 (0, 0)) (by (with_reducible repeat (first | refine blk_drewN ?_ _ | refine blk_drew ?_ | refine blk_alloc ?_ _)); exact BK536.out) hb); have n2_ := Aside0.mk (blk_below (g := gb537) (o := .cells #[.int .i64 a2_0, .int .i64 a2_1] 23 (0, 0)) (by (with_reducible repeat (first | refine blk_drewN ?_ _ | refine blk_drew ?_ | refine blk_alloc ?_ _)); exact BK537.out) hb); have n3_ := Aside0.mk (below_step (by repeat (first | (with_reducible first | exact HB.out | apply below_alloc | apply pw_below_drewN | apply below_drew1 | refine below_set ?_ GE535.out | refine below_set ?_ GE536.out | refine below_set ?_ GE537.out) | exact HB.out)) hb); clear BK535; clear BK536; clear BK537; clear HB; have BK535 := n0_; have BK536 := n1_; have BK537 := n2_; have HB := n3_; clear n0_ n1_ n2_ n3_; (try clear hb); (try clear hb2); (try clear hk); (try clear hi); have hnb17 := NB536_537.out; have hnc17 := NB537_536.out; have hcz18_0 : w16.cell? ⟨gb536, 0, none⟩ = some (.int .i64 a1_0) := (blk_cell BK536.out 0).trans rfl; have hcz18_1 : w16.cell? ⟨gb536, 1, none⟩ = some (.int .i64 a1_1) := (blk_cell BK536.out 1).trans rfl; have hfz18_0 := blk_frozen BK536.out 0; have hfz18_1 := blk_frozen BK536.out 1) | (go_at_call 30; (with_reducible refine (ratio_Check.calls a1_0 a1_1 true _ A10.out).mono ?_); rintro e w19 ⟨rfl, hb⟩; have n0_ := Aside0.mk (blk_below (g := gb535) (o := .cells #[.int .i64 a0_0, .int .i64 a0_1] 23 (0, 0)) (by (with_reducible repeat (first | refine blk_drewN ?_ _ | refine blk_drew ?_ | refine blk_alloc ?_ _)); exact BK535.out) hb); have n1_ := Aside0.mk (blk_below (g := gb536) (o := .cells #[.int .i64 a1_0, .int .i64 a1_1] 23 (0, 0)) (by (with_reducible repeat (first | refine blk_drewN ?_ _ | refine blk_drew ?_ | refine blk_alloc ?_ _)); exact BK536.out) hb); have n2_ := Aside0.mk (blk_below (g := gb537) (o := .cells #[.int .i64 a2_0, .int .i64 a2_1] 23 (0, 0)) (by (with_reducible repeat (first | refine blk_drewN ?_ _ | refine blk_drew ?_ | refine blk_alloc ?_ _)); exact BK537.out) hb); have n3_ := Aside0.mk (below_step (by repeat (first | (with_reducible first | exact HB.out | apply below_alloc | apply pw_below_drewN | apply below_drew1 | refine below_set ?_ GE535.out | refine below_set ?_ GE536.out | refine below_set ?_ GE537.out) | exact HB.out)) hb); clear BK535; clear BK536; clear BK537; clear HB; have BK535 := n0_; have BK536 := n1_; have BK537 := n2_; have HB := n3_; clear n0_ n1_ n2_ n3_; (try clear hb); (try clear hb2); (try clear hk); (try clear hi); have hcz20_0 : w19.cell? ⟨gb537, 0, none⟩ = some (.int .i64 a2_0) := (blk_cell BK537.out 0).trans rfl; have hcz20_1 : w19.cell? ⟨gb537, 1, none⟩ = some (.int .i64 a2_1) := (blk_cell BK537.out 1).trans rfl; have hfz20_0 := blk_frozen BK537.out 0; have hfz20_1 := blk_frozen BK537.out 1) | (go_at_call 30; (with_reducible refine (ratio_Check.calls a2_0 a2_1 t540 _ A12.out).mono ?_); rintro e w21 ⟨rfl, hb⟩; have n0_ := Aside0.mk (blk_below (g := gb535) (o := .cells #[.int .i64 a0_0, .int .i64 a0_1] 23 (0, 0)) (by (with_reducible repeat (first | refine blk_drewN ?_ _ | refine blk_drew ?_ | refine blk_alloc ?_ _)); exact BK535.out) hb); have n1_ := Aside0.mk (blk_below (g := gb536) (o := .cells #[.int .i64 a1_0, .int .i64 a1_1] 23 (0, 0)) (by (with_reducible repeat (first | refine blk_drewN ?_ _ | refine blk_drew ?_ | refine blk_alloc ?_ _)); exact BK536.out) hb); have n2_ := Aside0.mk (blk_below (g := gb537) (o := .cells #[.int .i64 a2_0, .int .i64 a2_1] 23 (0, 0)) (by (with_reducible repeat (first | refine blk_drewN ?_ _ | refine blk_drew ?_ | refine blk_alloc ?_ _)); exact BK537.out) hb); have n3_ := Aside0.mk (below_step (by repeat (first | (with_reducible first | exact HB.out | apply below_alloc | apply pw_below_drewN | apply below_drew1 | refine below_set ?_ GE535.out | refine below_set ?_ GE536.out | refine below_set ?_ GE537.out) | exact HB.out)) hb); clear BK535; clear BK536; clear BK537; clear HB; have BK535 := n0_; have BK536 := n1_; have BK537 := n2_; have HB := n3_; clear n0_ n1_ n2_ n3_; (try clear hb); (try clear hb2); (try clear hk); (try clear hi)))
        go_meet
        case rel => exact ⟨_, (!t540), (by first | rfl | (simp; done) | (simp [*]; done)), H', ⟨by first | omega | exact Nat.le_refl _⟩, ⟨by (with_reducible repeat (first | refine blk_drewN ?_ _ | refine blk_drew ?_ | refine blk_alloc ?_ _)); exact BK535.out⟩, ⟨by (with_reducible repeat (first | refine blk_drewN ?_ _ | refine blk_drew ?_ | refine blk_alloc ?_ _)); exact BK536.out⟩, ⟨by (with_reducible repeat (first | refine blk_drewN ?_ _ | refine blk_drew ?_ | refine blk_alloc ?_ _)); exact BK537.out⟩, ⟨by repeat (first | (with_reducible first | exact HB.out | apply below_alloc | apply pw_below_drewN | apply below_drew1 | refine below_set ?_ GE535.out | refine below_set ?_ GE536.out | refine below_set ?_ GE537.out) | exact HB.out)⟩⟩
      · replace c11 := Bool.eq_false_iff.mpr c11
        subst c11
        have H1 : (mosaiclaw05_RatioOrder.j0 k true a0_0 a0_1 a1_0 a1_1 a2_0 a2_1) = some r := by rw [if_neg (show ¬ (false = true) by decide)] at H; exact H
        clear H
        have H := H1
        clear H1
        have H' := Aside0.mk H
        clear H
        have hnb22 := NB535_536.out
        have hnc22 := NB536_535.out
        have hnb23 := NB535_537.out
        have hnc23 := NB537_535.out
        have hcz24_0 : w7.cell? ⟨gb535, 0, none⟩ = some (.int .i64 a0_0) := (blk_cell BK535.out 0).trans rfl
        have hcz24_1 : w7.cell? ⟨gb535, 1, none⟩ = some (.int .i64 a0_1) := (blk_cell BK535.out 1).trans rfl
        have hfz24_0 := blk_frozen BK535.out 0
        have hfz24_1 := blk_frozen BK535.out 1
        go_wp2_with (first | ((with_reducible refine gate_callee (f := 30) rfl ?_); refine goesL_ (some 13) rfl rfl Try.func30 (by kernel_rfl) rfl #[.agg #[.int .i64 a0_0, .int .i64 a0_1]] rfl (by (try simp only [List.map_toArray, List.map_cons, List.map_nil]); first | done | rfl | (simp only [List.length_drop, List.length_take]; rfl)) ?_; (with_reducible refine (ratio_Check.calls a0_0 a0_1 true _ A8.out).mono ?_); rintro e w25 ⟨rfl, hb⟩; refine ⟨_, rfl, ?_⟩; have n0_ := Aside0.mk (blk_below (g := gb535) (o := .cells #[.int .i64 a0_0, .int .i64 a0_1] 23 (0, 0)) (by (with_reducible repeat (first | refine blk_drewN ?_ _ | refine blk_drew ?_ | refine blk_alloc ?_ _)); exact BK535.out) hb); have n1_ := Aside0.mk (blk_below (g := gb536) (o := .cells #[.int .i64 a1_0, .int .i64 a1_1] 23 (0, 0)) (by (with_reducible repeat (first | refine blk_drewN ?_ _ | refine blk_drew ?_ | refine blk_alloc ?_ _)); exact BK536.out) hb); have n2_ := Aside0.mk (blk_below (g := gb537) (o := .cells #[.int .i64 a2_0, .int .i64 a2_1] 23 (0, 0)) (by (with_reducible repeat (first | refine blk_drewN ?_ _ | refine blk_drew ?_ | refine blk_alloc ?_ _)); exact BK537.out) hb); have n3_ := Aside0.mk (below_step (by repeat (first | (with_reducible first | exact HB.out | apply below_alloc | apply pw_below_drewN | apply below_drew1 | refine below_set ?_ GE535.out | refine below_set ?_ GE536.out | refine below_set ?_ GE537.out) | exact HB.out)) hb); clear BK535; clear BK536; clear BK537; clear HB; have BK535 := n0_; have BK536 := n1_; have BK537 := n2_; have HB := n3_; clear n0_ n1_ n2_ n3_; (try clear hb); (try clear hb2); (try clear hk); (try clear hi); have hnb26 := NB536_537.out; have hnc26 := NB537_536.out; have hcz27_0 : w25.cell? ⟨gb536, 0, none⟩ = some (.int .i64 a1_0) := (blk_cell BK536.out 0).trans rfl; have hcz27_1 : w25.cell? ⟨gb536, 1, none⟩ = some (.int .i64 a1_1) := (blk_cell BK536.out 1).trans rfl; have hfz27_0 := blk_frozen BK536.out 0; have hfz27_1 := blk_frozen BK536.out 1) | (go_at_call 30; (with_reducible refine (ratio_Check.calls a1_0 a1_1 false _ A10.out).mono ?_); rintro e w28 ⟨rfl, hb⟩; have n0_ := Aside0.mk (blk_below (g := gb535) (o := .cells #[.int .i64 a0_0, .int .i64 a0_1] 23 (0, 0)) (by (with_reducible repeat (first | refine blk_drewN ?_ _ | refine blk_drew ?_ | refine blk_alloc ?_ _)); exact BK535.out) hb); have n1_ := Aside0.mk (blk_below (g := gb536) (o := .cells #[.int .i64 a1_0, .int .i64 a1_1] 23 (0, 0)) (by (with_reducible repeat (first | refine blk_drewN ?_ _ | refine blk_drew ?_ | refine blk_alloc ?_ _)); exact BK536.out) hb); have n2_ := Aside0.mk (blk_below (g := gb537) (o := .cells #[.int .i64 a2_0, .int .i64 a2_1] 23 (0, 0)) (by (with_reducible repeat (first | refine blk_drewN ?_ _ | refine blk_drew ?_ | refine blk_alloc ?_ _)); exact BK537.out) hb); have n3_ := Aside0.mk (below_step (by repeat (first | (with_reducible first | exact HB.out | apply below_alloc | apply pw_below_drewN | apply below_drew1 | refine below_set ?_ GE535.out | refine below_set ?_ GE536.out | refine below_set ?_ GE537.out) | exact HB.out)) hb); clear BK535; clear BK536; clear BK537; clear HB; have BK535 := n0_; have BK536 := n1_; have BK537 := n2_; have HB := n3_; clear n0_ n1_ n2_ n3_; (try clear hb); (try clear hb2); (try clear hk); (try clear hi)))
        go_meet
        case rel => exact ⟨_, (true), (by first | rfl | (simp; done) | (simp [*]; done)), H', ⟨by first | omega | exact Nat.le_refl _⟩, ⟨by (with_reducible repeat (first | refine blk_drewN ?_ _ | refine blk_drew ?_ | refine blk_alloc ?_ _)); exact BK535.out⟩, ⟨by (with_reducible repeat (first | refine blk_drewN ?_ _ | refine blk_drew ?_ | refine blk_alloc ?_ _)); exact BK536.out⟩, ⟨by (with_reducible repeat (first | refine blk_drewN ?_ _ | refine blk_drew ?_ | refine blk_alloc ?_ _)); exact BK537.out⟩, ⟨by repeat (first | (with_reducible first | exact HB.out | apply below_alloc | apply pw_below_drewN | apply below_drew1 | refine below_set ?_ GE535.out | refine below_set ?_ GE536.out | refine below_set ?_ GE537.out) | exact HB.out)⟩⟩
    · replace c9 := Bool.eq_false_iff.mpr c9
      subst c9
      have H1 : (mosaiclaw05_RatioOrder.j0 k true a0_0 a0_1 a1_0 a1_1 a2_0 a2_1) = some r := by rw [if_neg (show ¬ (false = true) by decide)] at H; exact H
      clear H
      have H := H1
      clear H1
      have H' := Aside0.mk H
      clear H
      have hnb29 := NB535_536.out
      have hnc29 := NB536_535.out
      have hnb30 := NB535_537.out
      have hnc30 := NB537_535.out
      have hcz31_0 : w7.cell? ⟨gb535, 0, none⟩ = some (.int .i64 a0_0) := (blk_cell BK535.out 0).trans rfl
      have hcz31_1 : w7.cell? ⟨gb535, 1, none⟩ = some (.int .i64 a0_1) := (blk_cell BK535.out 1).trans rfl
      have hfz31_0 := blk_frozen BK535.out 0
      have hfz31_1 := blk_frozen BK535.out 1
      go_wp2_with (first | ((with_reducible refine gate_callee (f := 30) rfl ?_); refine goesL_ (some 13) rfl rfl Try.func30 (by kernel_rfl) rfl #[.agg #[.int .i64 a0_0, .int .i64 a0_1]] rfl (by (try simp only [List.map_toArray, List.map_cons, List.map_nil]); first | done | rfl | (simp only [List.length_drop, List.length_take]; rfl)) ?_; (with_reducible refine (ratio_Check.calls a0_0 a0_1 false _ A8.out).mono ?_); rintro e w32 ⟨rfl, hb⟩; refine ⟨_, rfl, ?_⟩; have n0_ := Aside0.mk (blk_below (g := gb535) (o := .cells #[.int .i64 a0_0, .int .i64 a0_1] 23 (0, 0)) (by (with_reducible repeat (first | refine blk_drewN ?_ _ | refine blk_drew ?_ | refine blk_alloc ?_ _)); exact BK535.out) hb); have n1_ := Aside0.mk (blk_below (g := gb536) (o := .cells #[.int .i64 a1_0, .int .i64 a1_1] 23 (0, 0)) (by (with_reducible repeat (first | refine blk_drewN ?_ _ | refine blk_drew ?_ | refine blk_alloc ?_ _)); exact BK536.out) hb); have n2_ := Aside0.mk (blk_below (g := gb537) (o := .cells #[.int .i64 a2_0, .int .i64 a2_1] 23 (0, 0)) (by (with_reducible repeat (first | refine blk_drewN ?_ _ | refine blk_drew ?_ | refine blk_alloc ?_ _)); exact BK537.out) hb); have n3_ := Aside0.mk (below_step (by repeat (first | (with_reducible first | exact HB.out | apply below_alloc | apply pw_below_drewN | apply below_drew1 | refine below_set ?_ GE535.out | refine below_set ?_ GE536.out | refine below_set ?_ GE537.out) | exact HB.out)) hb); clear BK535; clear BK536; clear BK537; clear HB; have BK535 := n0_; have BK536 := n1_; have BK537 := n2_; have HB := n3_; clear n0_ n1_ n2_ n3_; (try clear hb); (try clear hb2); (try clear hk); (try clear hi)))
      go_meet
      case rel => exact ⟨_, (true), (by first | rfl | (simp; done) | (simp [*]; done)), H', ⟨by first | omega | exact Nat.le_refl _⟩, ⟨by (with_reducible repeat (first | refine blk_drewN ?_ _ | refine blk_drew ?_ | refine blk_alloc ?_ _)); exact BK535.out⟩, ⟨by (with_reducible repeat (first | refine blk_drewN ?_ _ | refine blk_drew ?_ | refine blk_alloc ?_ _)); exact BK536.out⟩, ⟨by (with_reducible repeat (first | refine blk_drewN ?_ _ | refine blk_drew ?_ | refine blk_alloc ?_ _)); exact BK537.out⟩, ⟨by repeat (first | (with_reducible first | exact HB.out | apply below_alloc | apply pw_below_drewN | apply below_drew1 | refine below_set ?_ GE535.out | refine below_set ?_ GE536.out | refine below_set ?_ GE537.out) | exact HB.out)⟩⟩
  case rest =>
    clear HC4
    try clear c1
    try clear c2
    try clear p2
    try clear c3
    try clear c9
    try clear c11
    try clear c13
    try clear c14
    try clear c17
    try clear c22
    try clear c23
    try clear c26
    try clear c29
    try clear c30
    try clear hcz15_0
    try clear hcz15_1
    try clear hcz18_0
    try clear hcz18_1
    try clear hcz20_0
    try clear hcz20_1
    try clear hcz24_0
    try clear hcz24_1
    try clear hcz27_0
    try clear hcz27_1
    try clear hcz31_0
    try clear hcz31_1
    try clear hfz15_0
    try clear hfz15_1
    try clear hfz18_0
    try clear hfz18_1
    try clear hfz20_0
    try clear hfz20_1
    try clear hfz24_0
    try clear hfz24_1
    try clear hfz27_0
    try clear hfz27_1
    try clear hfz31_0
    try clear hfz31_1
    obtain ⟨kq, x24_3, rfl, HA, HJ3, BK535, BK536, BK537, HB⟩ := hcut
    cases kq with
    | zero => exact absurd HA.out (by simp [mosaiclaw05_RatioOrder.j0])
    | succ kj3 =>
      have H := HA.out
      clear HA
      simp only [mosaiclaw05_RatioOrder.j0] at H
      by_cases c33 : x24_3 = true
      · subst c33
        have H1 : ((mosaiclaw05_awake.f kj3).bind fun t541 => (some t541)) = some r := by rw [if_pos rfl] at H; exact H
        clear H
        have H := H1
        clear H1
        replace H := Option.bind_eq_some_iff.mp H
        obtain ⟨t541, A340, H⟩ := H
        replace H : (some t541) = some r := H
        have A34 := Aside0.mk A340
        clear A340
        obtain rfl := Option.some.inj H
        go_wp2_with (first | ((with_reducible refine gate_callee (f := 27) rfl ?_); refine goesL_ (some 25) rfl rfl Try.func27 (by kernel_rfl) rfl #[] rfl (by (try simp only [List.map_toArray, List.map_cons, List.map_nil]); first | done | rfl | (simp only [List.length_drop, List.length_take]; rfl)) ?_; (with_reducible refine (mosaiclaw05_awake.calls kj3  t541 _ A34.out).mono ?_); rintro e w35 ⟨rfl, hb⟩; refine ⟨_, rfl, ?_⟩; have n0_ := Aside0.mk (blk_below (g := gb535) (o := .cells #[.int .i64 a0_0, .int .i64 a0_1] 23 (0, 0)) (by (with_reducible repeat (first | refine blk_drewN ?_ _ | refine blk_drew ?_ | refine blk_alloc ?_ _)); exact BK535.out) hb); have n1_ := Aside0.mk (blk_below (g := gb536) (o := .cells #[.int .i64 a1_0, .int .i64 a1_1] 23 (0, 0)) (by (with_reducible repeat (first | refine blk_drewN ?_ _ | refine blk_drew ?_ | refine blk_alloc ?_ _)); exact BK536.out) hb); have n2_ := Aside0.mk (blk_below (g := gb537) (o := .cells #[.int .i64 a2_0, .int .i64 a2_1] 23 (0, 0)) (by (with_reducible repeat (first | refine blk_drewN ?_ _ | refine blk_drew ?_ | refine blk_alloc ?_ _)); exact BK537.out) hb); have n3_ := Aside0.mk (below_step (by repeat (first | (with_reducible first | exact HB.out | apply below_alloc | apply pw_below_drewN | apply below_drew1 | refine below_set ?_ GE535.out | refine below_set ?_ GE536.out | refine below_set ?_ GE537.out) | exact HB.out)) hb); clear BK535; clear BK536; clear BK537; clear HB; have BK535 := n0_; have BK536 := n1_; have BK537 := n2_; have HB := n3_; clear n0_ n1_ n2_ n3_; (try clear hb); (try clear hb2); (try clear hk); (try clear hi)))
        go_ret
        exact ⟨by first | rfl | (simp [errW_none, errW_some] <;> rfl) | (simp [*, errW_none, errW_some] <;> rfl), by repeat (first | (with_reducible first | exact HB.out | apply below_alloc | apply pw_below_drewN | apply below_drew1 | refine below_set ?_ GE535.out | refine below_set ?_ GE536.out | refine below_set ?_ GE537.out) | exact HB.out)⟩
      · replace c33 := Bool.eq_false_iff.mpr c33
        subst c33
        have H1 : ((ratio_Compare.f a0_0 a0_1 a1_0 a1_1).bind fun t542 => ((ratio_Compare.f a1_0 a1_1 a2_0 a2_1).bind fun t543 => ((ratio_Compare.f a0_0 a0_1 a2_0 a2_1).bind fun t544 => ((ratio_Floor.f a0_0 a0_1).bind fun t545 => ((ratio_Ceil.f a0_0 a0_1).bind fun t546 => (if t545 > t546 then (mosaiclaw05_RatioOrder.j1 kj3 t542 t543 t544 true a0_0 a0_1 a1_0 a1_1) else (if (wrap64 (t546 - t545)) > 1 then (mosaiclaw05_RatioOrder.j1 kj3 t542 t543 t544 true a0_0 a0_1 a1_0 a1_1) else (if ((t545 == t546) != (a0_1 == 1)) = true then (mosaiclaw05_RatioOrder.j1 kj3 t542 t543 t544 true a0_0 a0_1 a1_0 a1_1) else (if (wrap64 (t545 * a0_1)) > a0_0 then (mosaiclaw05_RatioOrder.j1 kj3 t542 t543 t544 true a0_0 a0_1 a1_0 a1_1) else (mosaiclaw05_RatioOrder.j1 kj3 t542 t543 t544 (decide ((wrap64 (t546 * a0_1)) < a0_0)) a0_0 a0_1 a1_0 a1_1)))))))))) = some r := by rw [if_neg (show ¬ (false = true) by decide)] at H; exact H
        clear H
        have H := H1
        clear H1
        replace H := Option.bind_eq_some_iff.mp H
        obtain ⟨t542, A360, H⟩ := H
        replace H : ((ratio_Compare.f a1_0 a1_1 a2_0 a2_1).bind fun t543 => ((ratio_Compare.f a0_0 a0_1 a2_0 a2_1).bind fun t544 => ((ratio_Floor.f a0_0 a0_1).bind fun t545 => ((ratio_Ceil.f a0_0 a0_1).bind fun t546 => (if t545 > t546 then (mosaiclaw05_RatioOrder.j1 kj3 t542 t543 t544 true a0_0 a0_1 a1_0 a1_1) else (if (wrap64 (t546 - t545)) > 1 then (mosaiclaw05_RatioOrder.j1 kj3 t542 t543 t544 true a0_0 a0_1 a1_0 a1_1) else (if ((t545 == t546) != (a0_1 == 1)) = true then (mosaiclaw05_RatioOrder.j1 kj3 t542 t543 t544 true a0_0 a0_1 a1_0 a1_1) else (if (wrap64 (t545 * a0_1)) > a0_0 then (mosaiclaw05_RatioOrder.j1 kj3 t542 t543 t544 true a0_0 a0_1 a1_0 a1_1) else (mosaiclaw05_RatioOrder.j1 kj3 t542 t543 t544 (decide ((wrap64 (t546 * a0_1)) < a0_0)) a0_0 a0_1 a1_0 a1_1))))))))) = some r := H
        have A36 := Aside0.mk A360
        clear A360
        replace H := Option.bind_eq_some_iff.mp H
        obtain ⟨t543, A370, H⟩ := H
        replace H : ((ratio_Compare.f a0_0 a0_1 a2_0 a2_1).bind fun t544 => ((ratio_Floor.f a0_0 a0_1).bind fun t545 => ((ratio_Ceil.f a0_0 a0_1).bind fun t546 => (if t545 > t546 then (mosaiclaw05_RatioOrder.j1 kj3 t542 t543 t544 true a0_0 a0_1 a1_0 a1_1) else (if (wrap64 (t546 - t545)) > 1 then (mosaiclaw05_RatioOrder.j1 kj3 t542 t543 t544 true a0_0 a0_1 a1_0 a1_1) else (if ((t545 == t546) != (a0_1 == 1)) = true then (mosaiclaw05_RatioOrder.j1 kj3 t542 t543 t544 true a0_0 a0_1 a1_0 a1_1) else (if (wrap64 (t545 * a0_1)) > a0_0 then (mosaiclaw05_RatioOrder.j1 kj3 t542 t543 t544 true a0_0 a0_1 a1_0 a1_1) else (mosaiclaw05_RatioOrder.j1 kj3 t542 t543 t544 (decide ((wrap64 (t546 * a0_1)) < a0_0)) a0_0 a0_1 a1_0 a1_1)))))))) = some r := H
        have A37 := Aside0.mk A370
        clear A370
        replace H := Option.bind_eq_some_iff.mp H
        obtain ⟨t544, A380, H⟩ := H
        replace H : ((ratio_Floor.f a0_0 a0_1).bind fun t545 => ((ratio_Ceil.f a0_0 a0_1).bind fun t546 => (if t545 > t546 then (mosaiclaw05_RatioOrder.j1 kj3 t542 t543 t544 true a0_0 a0_1 a1_0 a1_1) else (if (wrap64 (t546 - t545)) > 1 then (mosaiclaw05_RatioOrder.j1 kj3 t542 t543 t544 true a0_0 a0_1 a1_0 a1_1) else (if ((t545 == t546) != (a0_1 == 1)) = true then (mosaiclaw05_RatioOrder.j1 kj3 t542 t543 t544 true a0_0 a0_1 a1_0 a1_1) else (if (wrap64 (t545 * a0_1)) > a0_0 then (mosaiclaw05_RatioOrder.j1 kj3 t542 t543 t544 true a0_0 a0_1 a1_0 a1_1) else (mosaiclaw05_RatioOrder.j1 kj3 t542 t543 t544 (decide ((wrap64 (t546 * a0_1)) < a0_0)) a0_0 a0_1 a1_0 a1_1))))))) = some r := H
        have A38 := Aside0.mk A380
        clear A380
        replace H := Option.bind_eq_some_iff.mp H
        obtain ⟨t545, A390, H⟩ := H
        replace H : ((ratio_Ceil.f a0_0 a0_1).bind fun t546 => (if t545 > t546 then (mosaiclaw05_RatioOrder.j1 kj3 t542 t543 t544 true a0_0 a0_1 a1_0 a1_1) else (if (wrap64 (t546 - t545)) > 1 then (mosaiclaw05_RatioOrder.j1 kj3 t542 t543 t544 true a0_0 a0_1 a1_0 a1_1) else (if ((t545 == t546) != (a0_1 == 1)) = true then (mosaiclaw05_RatioOrder.j1 kj3 t542 t543 t544 true a0_0 a0_1 a1_0 a1_1) else (if (wrap64 (t545 * a0_1)) > a0_0 then (mosaiclaw05_RatioOrder.j1 kj3 t542 t543 t544 true a0_0 a0_1 a1_0 a1_1) else (mosaiclaw05_RatioOrder.j1 kj3 t542 t543 t544 (decide ((wrap64 (t546 * a0_1)) < a0_0)) a0_0 a0_1 a1_0 a1_1)))))) = some r := H
        have A39 := Aside0.mk A390
        clear A390
        replace H := Option.bind_eq_some_iff.mp H
        obtain ⟨t546, A400, H⟩ := H
        replace H : (if t545 > t546 then (mosaiclaw05_RatioOrder.j1 kj3 t542 t543 t544 true a0_0 a0_1 a1_0 a1_1) else (if (wrap64 (t546 - t545)) > 1 then (mosaiclaw05_RatioOrder.j1 kj3 t542 t543 t544 true a0_0 a0_1 a1_0 a1_1) else (if ((t545 == t546) != (a0_1 == 1)) = true then (mosaiclaw05_RatioOrder.j1 kj3 t542 t543 t544 true a0_0 a0_1 a1_0 a1_1) else (if (wrap64 (t545 * a0_1)) > a0_0 then (mosaiclaw05_RatioOrder.j1 kj3 t542 t543 t544 true a0_0 a0_1 a1_0 a1_1) else (mosaiclaw05_RatioOrder.j1 kj3 t542 t543 t544 (decide ((wrap64 (t546 * a0_1)) < a0_0)) a0_0 a0_1 a1_0 a1_1))))) = some r := H
        have A40 := Aside0.mk A400
        clear A400
        have HC41 := Aside0.mk H
        clear H
        try go_wp2
        have n0_ := Aside0.mk (blk_drew BK535.out)
        have n1_ := Aside0.mk (blk_drew BK536.out)
        have n2_ := Aside0.mk (blk_drew BK537.out)
        have n3_ := Aside0.mk (below_drew1 HB.out)
        clear BK535
        clear BK536
        clear BK537
        clear HB
        have BK535 := n0_
        have BK536 := n1_
        have BK537 := n2_
        have HB := n3_
        clear n0_ n1_ n2_ n3_
        refine start_ (n := 12) (S := fun w' => w'.cell? ⟨gb535, 0, none⟩ = some (.int .i64 a0_0) ∧ w'.cell? ⟨gb535, 1, none⟩ = some (.int .i64 a0_1) ∧ w'.cell? ⟨gb536, 0, none⟩ = some (.int .i64 a1_0) ∧ w'.cell? ⟨gb536, 1, none⟩ = some (.int .i64 a1_1) ∧ w'.cell? ⟨gb537, 0, none⟩ = some (.int .i64 a2_0) ∧ w'.cell? ⟨gb537, 1, none⟩ = some (.int .i64 a2_1)) (ds := []) #[false, false, false, false, false, false, false, false, false, false, false, false] (by kernel_rfl) rfl rfl ⟨(blk_cell BK535.out 0).trans rfl, (blk_cell BK535.out 1).trans rfl, (blk_cell BK536.out 0).trans rfl, (blk_cell BK536.out 1).trans rfl, (blk_cell BK537.out 0).trans rfl, (blk_cell BK537.out 1).trans rfl⟩ (fun hHeld => ?_); refine with_tabW mosaiclaw05_RatioOrder.tab3 mosaiclaw05_RatioOrder.bits3 (fun HT_ HW_ => ?_)
        generalize wc.drew = w42 at BK535 BK536 BK537 HB hHeld ⊢
        refine take_ (i := 0) (N := some 26) (v := ?_) (a' := ?_) #[true, false, false, false, false, false, false, false, false, false, false, false] rfl rfl (take_ofW HT_.out HW_.out (by kernel_rfl)) (fun _ _ _ h => h) (Or.inl ⟨by rfl, ?_⟩) hHeld ?_ ?_
        rotate_left
        · rintro w' ⟨s0, s1, s2, s3, s4, s5⟩
          go_simp
          with_reducible rfl
        rotate_left
        · simp only [Act.put, List.setIfInBounds_toArray, List.set_cons_zero, List.set_cons_succ, i64_w, i32_w]
          rfl
        refine take_ (i := 1) (N := some 27) (v := ?_) (a' := ?_) #[true, true, false, false, false, false, false, false, false, false, false, false] rfl rfl (take_ofW HT_.out HW_.out (by kernel_rfl)) (fun _ _ _ h => h) (Or.inl ⟨by rfl, ?_⟩) hHeld ?_ ?_
        rotate_left
        · rintro w' ⟨s0, s1, s2, s3, s4, s5⟩
          go_simp
          with_reducible rfl
        rotate_left
        · simp only [Act.put, List.setIfInBounds_toArray, List.set_cons_zero, List.set_cons_succ, i64_w, i32_w]
          rfl
        refine take_ (i := 3) (N := some 29) (v := ?_) (a' := ?_) #[true, true, false, true, false, false, false, false, false, false, false, false] rfl rfl (take_ofW HT_.out HW_.out (by kernel_rfl)) (fun _ _ _ h => h) (Or.inl ⟨by rfl, ?_⟩) hHeld ?_ ?_
        rotate_left
        · rintro w' ⟨s0, s1, s2, s3, s4, s5⟩
          go_simp
          with_reducible rfl
        rotate_left
        · simp only [Act.put, List.setIfInBounds_toArray, List.set_cons_zero, List.set_cons_succ, i64_w, i32_w]
          rfl
        refine take_ (i := 4) (N := some 30) (v := ?_) (a' := ?_) #[true, true, false, true, true, false, false, false, false, false, false, false] rfl rfl (take_ofW HT_.out HW_.out (by kernel_rfl)) (fun _ _ _ h => h) (Or.inl ⟨by rfl, ?_⟩) hHeld ?_ ?_
        rotate_left
        · rintro w' ⟨s0, s1, s2, s3, s4, s5⟩
          go_simp
          with_reducible rfl
        rotate_left
        · simp only [Act.put, List.setIfInBounds_toArray, List.set_cons_zero, List.set_cons_succ, i64_w, i32_w]
          rfl
        refine take_ (i := 6) (N := some 32) (v := ?_) (a' := ?_) #[true, true, false, true, true, false, true, false, false, false, false, false] rfl rfl (take_ofW HT_.out HW_.out (by kernel_rfl)) (fun _ _ _ h => h) (Or.inl ⟨by rfl, ?_⟩) hHeld ?_ ?_
        rotate_left
        · rintro w' ⟨s0, s1, s2, s3, s4, s5⟩
          go_simp
          with_reducible rfl
        rotate_left
        · simp only [Act.put, List.setIfInBounds_toArray, List.set_cons_zero, List.set_cons_succ, i64_w, i32_w]
          rfl
        refine take_ (i := 7) (N := some 33) (v := ?_) (a' := ?_) #[true, true, false, true, true, false, true, true, false, false, false, false] rfl rfl (take_ofW HT_.out HW_.out (by kernel_rfl)) (fun _ _ _ h => h) (Or.inl ⟨by rfl, ?_⟩) hHeld ?_ ?_
        rotate_left
        · rintro w' ⟨s0, s1, s2, s3, s4, s5⟩
          go_simp
          with_reducible rfl
        rotate_left
        · simp only [Act.put, List.setIfInBounds_toArray, List.set_cons_zero, List.set_cons_succ, i64_w, i32_w]
          rfl
        refine one_ (i := 2) (N := some 28) #[true, true, true, true, true, false, true, true, false, false, false, false] rfl rfl (one_of HT_.out (by kernel_rfl)) (by decide) (fun K hK => ?_)
        refine goes_ Try.func44 (by kernel_rfl) rfl #[.agg #[.int .i64 a0_0, .int .i64 a0_1], .agg #[.int .i64 a1_0, .int .i64 a1_1]] (by rfl) rfl rfl (by (try simp only [List.map_toArray, List.map_cons, List.map_nil]); first | done | rfl | (simp only [List.length_drop, List.length_take]; rfl)) ?_
        with_reducible refine (ratio_Compare.calls a0_0 a0_1 a1_0 a1_1 t542 _ A36.out).mono ?_
        rintro e w43 ⟨rfl, hb⟩
        refine ⟨_, rfl, ?_⟩
        have n0_ := Aside0.mk (blk_below (g := gb535) (o := .cells #[.int .i64 a0_0, .int .i64 a0_1] 23 (0, 0)) (by (with_reducible repeat (first | refine blk_drewN ?_ _ | refine blk_drew ?_ | refine blk_alloc ?_ _)); exact BK535.out) hb)
        have n1_ := Aside0.mk (blk_below (g := gb536) (o := .cells #[.int .i64 a1_0, .int .i64 a1_1] 23 (0, 0)) (by (with_reducible repeat (first | refine blk_drewN ?_ _ | refine blk_drew ?_ | refine blk_alloc ?_ _)); exact BK536.out) hb)
        have n2_ := Aside0.mk (blk_below (g := gb537) (o := .cells #[.int .i64 a2_0, .int .i64 a2_1] 23 (0, 0)) (by (with_reducible repeat (first | refine blk_drewN ?_ _ | refine blk_drew ?_ | refine blk_alloc ?_ _)); exact BK537.out) hb)
        have n3_ := Aside0.mk (below_step (by repeat (first | (with_reducible first | exact HB.out | apply below_alloc | apply pw_below_drewN | apply below_drew1 | refine below_set ?_ GE535.out | refine below_set ?_ GE536.out | refine below_set ?_ GE537.out) | exact HB.out)) hb)
        clear BK535
        clear BK536
        clear BK537
        clear HB
        have BK535 := n0_
        have BK536 := n1_
        have BK537 := n2_
        have HB := n3_
        clear n0_ n1_ n2_ n3_
        (try clear hb)
        (try clear hb2)
        (try clear hk)
        (try clear hi)
        refine hK.out _ _ ⟨(blk_cell BK535.out 0).trans rfl, (blk_cell BK535.out 1).trans rfl, (blk_cell BK536.out 0).trans rfl, (blk_cell BK536.out 1).trans rfl, (blk_cell BK537.out 0).trans rfl, (blk_cell BK537.out 1).trans rfl⟩ (fun hHeld => ?_)
        clear hK K
        refine norm_ (a' := ?_) ?_ ?_
        rotate_left
        · show Act.put _ (some 28) _ = _
          simp only [Act.put, List.setIfInBounds_toArray, List.set_cons_zero, List.set_cons_succ, i64_w, i32_w]
          rfl
        refine one_ (i := 5) (N := some 31) #[true, true, true, true, true, true, true, true, false, false, false, false] rfl rfl (one_of HT_.out (by kernel_rfl)) (by decide) (fun K hK => ?_)
        refine goes_ Try.func44 (by kernel_rfl) rfl #[.agg #[.int .i64 a1_0, .int .i64 a1_1], .agg #[.int .i64 a2_0, .int .i64 a2_1]] (by rfl) rfl rfl (by (try simp only [List.map_toArray, List.map_cons, List.map_nil]); first | done | rfl | (simp only [List.length_drop, List.length_take]; rfl)) ?_
        with_reducible refine (ratio_Compare.calls a1_0 a1_1 a2_0 a2_1 t543 _ A37.out).mono ?_
        rintro e w44 ⟨rfl, hb⟩
        refine ⟨_, rfl, ?_⟩
        have n0_ := Aside0.mk (blk_below (g := gb535) (o := .cells #[.int .i64 a0_0, .int .i64 a0_1] 23 (0, 0)) (by (with_reducible repeat (first | refine blk_drewN ?_ _ | refine blk_drew ?_ | refine blk_alloc ?_ _)); exact BK535.out) hb)
        have n1_ := Aside0.mk (blk_below (g := gb536) (o := .cells #[.int .i64 a1_0, .int .i64 a1_1] 23 (0, 0)) (by (with_reducible repeat (first | refine blk_drewN ?_ _ | refine blk_drew ?_ | refine blk_alloc ?_ _)); exact BK536.out) hb)
        have n2_ := Aside0.mk (blk_below (g := gb537) (o := .cells #[.int .i64 a2_0, .int .i64 a2_1] 23 (0, 0)) (by (with_reducible repeat (first | refine blk_drewN ?_ _ | refine blk_drew ?_ | refine blk_alloc ?_ _)); exact BK537.out) hb)
        have n3_ := Aside0.mk (below_step (by repeat (first | (with_reducible first | exact HB.out | apply below_alloc | apply pw_below_drewN | apply below_drew1 | refine below_set ?_ GE535.out | refine below_set ?_ GE536.out | refine below_set ?_ GE537.out) | exact HB.out)) hb)
        clear BK535
        clear BK536
        clear BK537
        clear HB
        have BK535 := n0_
        have BK536 := n1_
        have BK537 := n2_
        have HB := n3_
        clear n0_ n1_ n2_ n3_
        (try clear hb)
        (try clear hb2)
        (try clear hk)
        (try clear hi)
        refine hK.out _ _ ⟨(blk_cell BK535.out 0).trans rfl, (blk_cell BK535.out 1).trans rfl, (blk_cell BK536.out 0).trans rfl, (blk_cell BK536.out 1).trans rfl, (blk_cell BK537.out 0).trans rfl, (blk_cell BK537.out 1).trans rfl⟩ (fun hHeld => ?_)
        clear hK K
        refine norm_ (a' := ?_) ?_ ?_
        rotate_left
        · show Act.put _ (some 31) _ = _
          simp only [Act.put, List.setIfInBounds_toArray, List.set_cons_zero, List.set_cons_succ, i64_w, i32_w]
          rfl
        refine one_ (i := 8) (N := some 34) #[true, true, true, true, true, true, true, true, true, false, false, false] rfl rfl (one_of HT_.out (by kernel_rfl)) (by decide) (fun K hK => ?_)
        refine goes_ Try.func44 (by kernel_rfl) rfl #[.agg #[.int .i64 a0_0, .int .i64 a0_1], .agg #[.int .i64 a2_0, .int .i64 a2_1]] (by rfl) rfl rfl (by (try simp only [List.map_toArray, List.map_cons, List.map_nil]); first | done | rfl | (simp only [List.length_drop, List.length_take]; rfl)) ?_
        with_reducible refine (ratio_Compare.calls a0_0 a0_1 a2_0 a2_1 t544 _ A38.out).mono ?_
        rintro e w45 ⟨rfl, hb⟩
        refine ⟨_, rfl, ?_⟩
        have n0_ := Aside0.mk (blk_below (g := gb535) (o := .cells #[.int .i64 a0_0, .int .i64 a0_1] 23 (0, 0)) (by (with_reducible repeat (first | refine blk_drewN ?_ _ | refine blk_drew ?_ | refine blk_alloc ?_ _)); exact BK535.out) hb)
        have n1_ := Aside0.mk (blk_below (g := gb536) (o := .cells #[.int .i64 a1_0, .int .i64 a1_1] 23 (0, 0)) (by (with_reducible repeat (first | refine blk_drewN ?_ _ | refine blk_drew ?_ | refine blk_alloc ?_ _)); exact BK536.out) hb)
        have n2_ := Aside0.mk (blk_below (g := gb537) (o := .cells #[.int .i64 a2_0, .int .i64 a2_1] 23 (0, 0)) (by (with_reducible repeat (first | refine blk_drewN ?_ _ | refine blk_drew ?_ | refine blk_alloc ?_ _)); exact BK537.out) hb)
        have n3_ := Aside0.mk (below_step (by repeat (first | (with_reducible first | exact HB.out | apply below_alloc | apply pw_below_drewN | apply below_drew1 | refine below_set ?_ GE535.out | refine below_set ?_ GE536.out | refine below_set ?_ GE537.out) | exact HB.out)) hb)
        clear BK535
        clear BK536
        clear BK537
        clear HB
        have BK535 := n0_
        have BK536 := n1_
        have BK537 := n2_
        have HB := n3_
        clear n0_ n1_ n2_ n3_
        (try clear hb)
        (try clear hb2)
        (try clear hk)
        (try clear hi)
        refine hK.out _ _ ⟨(blk_cell BK535.out 0).trans rfl, (blk_cell BK535.out 1).trans rfl, (blk_cell BK536.out 0).trans rfl, (blk_cell BK536.out 1).trans rfl, (blk_cell BK537.out 0).trans rfl, (blk_cell BK537.out 1).trans rfl⟩ (fun hHeld => ?_)
        clear hK K
        refine norm_ (a' := ?_) ?_ ?_
        rotate_left
        · show Act.put _ (some 34) _ = _
          simp only [Act.put, List.setIfInBounds_toArray, List.set_cons_zero, List.set_cons_succ, i64_w, i32_w]
          rfl
        refine pure_ (i := 9) (N := some 7) (v := ?_) (a' := ?_) #[true, true, true, true, true, true, true, true, true, true, false, false] rfl rfl (any_of HT_.out (by kernel_rfl)) (fun _ _ _ h => h) (Or.inl ⟨by rfl, ?_⟩) ?_ ?_
        rotate_left
        · intro w'
          go_simp
          with_reducible rfl
        rotate_left
        · simp only [Act.put, List.setIfInBounds_toArray, List.set_cons_zero, List.set_cons_succ, i64_w, i32_w]
          rfl
        refine pure_ (i := 10) (N := some 8) (v := ?_) (a' := ?_) #[true, true, true, true, true, true, true, true, true, true, true, false] rfl rfl (any_of HT_.out (by kernel_rfl)) (fun _ _ _ h => h) (Or.inl ⟨by rfl, ?_⟩) ?_ ?_
        rotate_left
        · intro w'
          go_simp
          with_reducible rfl
        rotate_left
        · simp only [Act.put, List.setIfInBounds_toArray, List.set_cons_zero, List.set_cons_succ, i64_w, i32_w]
          rfl
        refine pure_ (i := 11) (N := some 9) (v := ?_) (a' := ?_) #[true, true, true, true, true, true, true, true, true, true, true, true] rfl rfl (any_of HT_.out (by kernel_rfl)) (fun _ _ _ h => h) (Or.inl ⟨by rfl, ?_⟩) ?_ ?_
        rotate_left
        · intro w'
          go_simp
          with_reducible rfl
        rotate_left
        · simp only [Act.put, List.setIfInBounds_toArray, List.set_cons_zero, List.set_cons_succ, i64_w, i32_w]
          rfl
        refine done_ (done_of HT_.out (by kernel_rfl)) ?_
        try go_wp2
        have n0_ := Aside0.mk (blk_drew BK535.out)
        have n1_ := Aside0.mk (blk_drew BK536.out)
        have n2_ := Aside0.mk (blk_drew BK537.out)
        have n3_ := Aside0.mk (below_drew1 HB.out)
        clear BK535
        clear BK536
        clear BK537
        clear HB
        have BK535 := n0_
        have BK536 := n1_
        have BK537 := n2_
        have HB := n3_
        clear n0_ n1_ n2_ n3_
        refine start_ (n := 6) (S := fun w' => w'.cell? ⟨gb535, 0, none⟩ = some (.int .i64 a0_0) ∧ w'.cell? ⟨gb535, 1, none⟩ = some (.int .i64 a0_1)) (ds := []) #[false, false, false, false, false, false] (by kernel_rfl) rfl rfl ⟨(blk_cell BK535.out 0).trans rfl, (blk_cell BK535.out 1).trans rfl⟩ (fun hHeld => ?_)
        generalize w45.drew = w46 at BK535 BK536 BK537 HB hHeld ⊢
        refine take_ (i := 0) (N := some 35) (v := ?_) (a' := ?_) #[true, false, false, false, false, false] rfl rfl (by kernel_rfl) (fun _ _ _ h => h) (Or.inl ⟨by rfl, ?_⟩) hHeld ?_ ?_
        rotate_left
        · rintro w' ⟨s0, s1⟩
          go_simp
          with_reducible rfl
        rotate_left
        · simp only [Act.put, List.setIfInBounds_toArray, List.set_cons_zero, List.set_cons_succ, i64_w, i32_w]
          rfl
        refine take_ (i := 2) (N := some 37) (v := ?_) (a' := ?_) #[true, false, true, false, false, false] rfl rfl (by kernel_rfl) (fun _ _ _ h => h) (Or.inl ⟨by rfl, ?_⟩) hHeld ?_ ?_
        rotate_left
        · rintro w' ⟨s0, s1⟩
          go_simp
          with_reducible rfl
        rotate_left
        · simp only [Act.put, List.setIfInBounds_toArray, List.set_cons_zero, List.set_cons_succ, i64_w, i32_w]
          rfl
        refine one_ (i := 1) (N := some 36) #[true, true, true, false, false, false] rfl rfl (by kernel_rfl) (by decide) (fun K hK => ?_)
        refine goes_ Try.func47 (by kernel_rfl) rfl #[.agg #[.int .i64 a0_0, .int .i64 a0_1]] (by rfl) rfl rfl (by (try simp only [List.map_toArray, List.map_cons, List.map_nil]); first | done | rfl | (simp only [List.length_drop, List.length_take]; rfl)) ?_
        with_reducible refine (ratio_Floor.calls a0_0 a0_1 t545 _ A39.out).mono ?_
        rintro e w47 ⟨rfl, hb⟩
        refine ⟨_, rfl, ?_⟩
        have n0_ := Aside0.mk (blk_below (g := gb535) (o := .cells #[.int .i64 a0_0, .int .i64 a0_1] 23 (0, 0)) (by (with_reducible repeat (first | refine blk_drewN ?_ _ | refine blk_drew ?_ | refine blk_alloc ?_ _)); exact BK535.out) hb)
        have n1_ := Aside0.mk (blk_below (g := gb536) (o := .cells #[.int .i64 a1_0, .int .i64 a1_1] 23 (0, 0)) (by (with_reducible repeat (first | refine blk_drewN ?_ _ | refine blk_drew ?_ | refine blk_alloc ?_ _)); exact BK536.out) hb)
        have n2_ := Aside0.mk (blk_below (g := gb537) (o := .cells #[.int .i64 a2_0, .int .i64 a2_1] 23 (0, 0)) (by (with_reducible repeat (first | refine blk_drewN ?_ _ | refine blk_drew ?_ | refine blk_alloc ?_ _)); exact BK537.out) hb)
        have n3_ := Aside0.mk (below_step (by repeat (first | (with_reducible first | exact HB.out | apply below_alloc | apply pw_below_drewN | apply below_drew1 | refine below_set ?_ GE535.out | refine below_set ?_ GE536.out | refine below_set ?_ GE537.out) | exact HB.out)) hb)
        clear BK535
        clear BK536
        clear BK537
        clear HB
        have BK535 := n0_
        have BK536 := n1_
        have BK537 := n2_
        have HB := n3_
        clear n0_ n1_ n2_ n3_
        (try clear hb)
        (try clear hb2)
        (try clear hk)
        (try clear hi)
        refine hK.out _ _ ⟨(blk_cell BK535.out 0).trans rfl, (blk_cell BK535.out 1).trans rfl⟩ (fun hHeld => ?_)
        clear hK K
        refine norm_ (a' := ?_) ?_ ?_
        rotate_left
        · show Act.put _ (some 36) _ = _
          simp only [Act.put, List.setIfInBounds_toArray, List.set_cons_zero, List.set_cons_succ, i64_w, i32_w]
          rfl
        refine one_ (i := 3) (N := some 38) #[true, true, true, true, false, false] rfl rfl (by kernel_rfl) (by decide) (fun K hK => ?_)
        refine goes_ Try.func49 (by kernel_rfl) rfl #[.agg #[.int .i64 a0_0, .int .i64 a0_1]] (by rfl) rfl rfl (by (try simp only [List.map_toArray, List.map_cons, List.map_nil]); first | done | rfl | (simp only [List.length_drop, List.length_take]; rfl)) ?_
        with_reducible refine (ratio_Ceil.calls a0_0 a0_1 t546 _ A40.out).mono ?_
        rintro e w48 ⟨rfl, hb⟩
        refine ⟨_, rfl, ?_⟩
        have n0_ := Aside0.mk (blk_below (g := gb535) (o := .cells #[.int .i64 a0_0, .int .i64 a0_1] 23 (0, 0)) (by (with_reducible repeat (first | refine blk_drewN ?_ _ | refine blk_drew ?_ | refine blk_alloc ?_ _)); exact BK535.out) hb)
        have n1_ := Aside0.mk (blk_below (g := gb536) (o := .cells #[.int .i64 a1_0, .int .i64 a1_1] 23 (0, 0)) (by (with_reducible repeat (first | refine blk_drewN ?_ _ | refine blk_drew ?_ | refine blk_alloc ?_ _)); exact BK536.out) hb)
        have n2_ := Aside0.mk (blk_below (g := gb537) (o := .cells #[.int .i64 a2_0, .int .i64 a2_1] 23 (0, 0)) (by (with_reducible repeat (first | refine blk_drewN ?_ _ | refine blk_drew ?_ | refine blk_alloc ?_ _)); exact BK537.out) hb)
        have n3_ := Aside0.mk (below_step (by repeat (first | (with_reducible first | exact HB.out | apply below_alloc | apply pw_below_drewN | apply below_drew1 | refine below_set ?_ GE535.out | refine below_set ?_ GE536.out | refine below_set ?_ GE537.out) | exact HB.out)) hb)
        clear BK535
        clear BK536
        clear BK537
        clear HB
        have BK535 := n0_
        have BK536 := n1_
        have BK537 := n2_
        have HB := n3_
        clear n0_ n1_ n2_ n3_
        (try clear hb)
        (try clear hb2)
        (try clear hk)
        (try clear hi)
        refine hK.out _ _ ⟨(blk_cell BK535.out 0).trans rfl, (blk_cell BK535.out 1).trans rfl⟩ (fun hHeld => ?_)
        clear hK K
        refine norm_ (a' := ?_) ?_ ?_
        rotate_left
        · show Act.put _ (some 38) _ = _
          simp only [Act.put, List.setIfInBounds_toArray, List.set_cons_zero, List.set_cons_succ, i64_w, i32_w]
          rfl
        refine pure_ (i := 4) (N := some 10) (v := ?_) (a' := ?_) #[true, true, true, true, true, false] rfl rfl (by kernel_rfl) (fun _ _ _ h => h) (Or.inl ⟨by rfl, ?_⟩) ?_ ?_
        rotate_left
        · intro w'
          go_simp
          with_reducible rfl
        rotate_left
        · simp only [Act.put, List.setIfInBounds_toArray, List.set_cons_zero, List.set_cons_succ, i64_w, i32_w]
          rfl
        refine pure_ (i := 5) (N := some 11) (v := ?_) (a' := ?_) #[true, true, true, true, true, true] rfl rfl (by kernel_rfl) (fun _ _ _ h => h) (Or.inl ⟨by rfl, ?_⟩) ?_ ?_
        rotate_left
        · intro w'
          go_simp
          with_reducible rfl
        rotate_left
        · simp only [Act.put, List.setIfInBounds_toArray, List.set_cons_zero, List.set_cons_succ, i64_w, i32_w]
          rfl
        refine done_ (by kernel_rfl) ?_
        go_upto_region 5 with (fail)
        go_cut [74] (fun v74 wc => ∃ (kq : Nat) (x74_40 : Bool), v74 = .bool x74_40 ∧ Aside0 (mosaiclaw05_RatioOrder.j1 kq t542 t543 t544 x74_40 a0_0 a0_1 a1_0 a1_1 = some r) ∧ Aside0 (kq ≤ kj3) ∧ Aside0 (wc.heap[gb535]? = some (.cells #[.int .i64 a0_0, .int .i64 a0_1] 23 (0, 0))) ∧ Aside0 (wc.heap[gb536]? = some (.cells #[.int .i64 a1_0, .int .i64 a1_1] 23 (0, 0))) ∧ Aside0 (wc.heap[gb537]? = some (.cells #[.int .i64 a2_0, .int .i64 a2_1] 23 (0, 0))) ∧ Aside0 (Below w.heap.size w wc))
        case first =>
          have H := HC41.out
          clear HC41
          by_cases c49 : t545 > t546
          · rw [if_pos c49] at H
            have c49b0 : decide (t546 < t545) = true := decide_eq_true c49
            clear c49
            (first | rw [c49b0] | (simp only [i64_w, i32_w]; rw [c49b0]) | skip)
            have H' := Aside0.mk H
            clear H
            go_wp2
            go_meet
            case rel => exact ⟨_, (true), (by first | rfl | (simp; done) | (simp [*]; done)), H', ⟨by have := HJ3.out; first | omega | exact Nat.le_refl _⟩, ⟨by (with_reducible repeat (first | refine blk_drewN ?_ _ | refine blk_drew ?_ | refine blk_alloc ?_ _)); exact BK535.out⟩, ⟨by (with_reducible repeat (first | refine blk_drewN ?_ _ | refine blk_drew ?_ | refine blk_alloc ?_ _)); exact BK536.out⟩, ⟨by (with_reducible repeat (first | refine blk_drewN ?_ _ | refine blk_drew ?_ | refine blk_alloc ?_ _)); exact BK537.out⟩, ⟨by repeat (first | (with_reducible first | exact HB.out | apply below_alloc | apply pw_below_drewN | apply below_drew1 | refine below_set ?_ GE535.out | refine below_set ?_ GE536.out | refine below_set ?_ GE537.out) | exact HB.out)⟩⟩
          · rw [if_neg c49] at H
            have c49b0 : decide (t546 < t545) = false := decide_eq_false c49
            clear c49
            (first | rw [c49b0] | (simp only [i64_w, i32_w]; rw [c49b0]) | skip)
            by_cases c50 : (wrap64 (t546 - t545)) > 1
            · rw [if_pos c50] at H
              have c50b0 : decide (1 < (wrap64 (t546 - t545))) = true := decide_eq_true c50
              clear c50
              have H' := Aside0.mk H
              clear H
              go_wp2
              go_meet
              case rel => exact ⟨_, (true), (by first | rfl | (simp; done) | (simp [*]; done)), H', ⟨by have := HJ3.out; first | omega | exact Nat.le_refl _⟩, ⟨by (with_reducible repeat (first | refine blk_drewN ?_ _ | refine blk_drew ?_ | refine blk_alloc ?_ _)); exact BK535.out⟩, ⟨by (with_reducible repeat (first | refine blk_drewN ?_ _ | refine blk_drew ?_ | refine blk_alloc ?_ _)); exact BK536.out⟩, ⟨by (with_reducible repeat (first | refine blk_drewN ?_ _ | refine blk_drew ?_ | refine blk_alloc ?_ _)); exact BK537.out⟩, ⟨by repeat (first | (with_reducible first | exact HB.out | apply below_alloc | apply pw_below_drewN | apply below_drew1 | refine below_set ?_ GE535.out | refine below_set ?_ GE536.out | refine below_set ?_ GE537.out) | exact HB.out)⟩⟩
            · rw [if_neg c50] at H
              have c50b0 : decide (1 < (wrap64 (t546 - t545))) = false := decide_eq_false c50
              clear c50
              by_cases c51 : ((t545 == t546) != (a0_1 == 1)) = true
              · rw [if_pos c51] at H
                have c51b0 : ((t545 == t546) != (a0_1 == 1)) = true := c51
                (try (have c51b1 : decide ((t545 == t546) = (a0_1 == 1)) = false := by simpa using c51))
                (try (have c51b2 : ((t545 == t546) == (a0_1 == 1)) = false := by simpa using c51))
                (try (have c51b3 : ¬ ((t545 == t546) = (a0_1 == 1)) := by simpa using c51))
                clear c51
                have H' := Aside0.mk H
                clear H
                have hnb52 := NB535_536.out
                have hnc52 := NB536_535.out
                have hnb53 := NB535_537.out
                have hnc53 := NB537_535.out
                have hcz54_0 : w48.cell? ⟨gb535, 0, none⟩ = some (.int .i64 a0_0) := (blk_cell BK535.out 0).trans rfl
                have hcz54_1 : w48.cell? ⟨gb535, 1, none⟩ = some (.int .i64 a0_1) := (blk_cell BK535.out 1).trans rfl
                have hfz54_0 := blk_frozen BK535.out 0
                have hfz54_1 := blk_frozen BK535.out 1
                go_wp2
                go_meet
                case rel => exact ⟨_, (true), (by first | rfl | (simp; done) | (simp [*]; done)), H', ⟨by have := HJ3.out; first | omega | exact Nat.le_refl _⟩, ⟨by (with_reducible repeat (first | refine blk_drewN ?_ _ | refine blk_drew ?_ | refine blk_alloc ?_ _)); exact BK535.out⟩, ⟨by (with_reducible repeat (first | refine blk_drewN ?_ _ | refine blk_drew ?_ | refine blk_alloc ?_ _)); exact BK536.out⟩, ⟨by (with_reducible repeat (first | refine blk_drewN ?_ _ | refine blk_drew ?_ | refine blk_alloc ?_ _)); exact BK537.out⟩, ⟨by repeat (first | (with_reducible first | exact HB.out | apply below_alloc | apply pw_below_drewN | apply below_drew1 | refine below_set ?_ GE535.out | refine below_set ?_ GE536.out | refine below_set ?_ GE537.out) | exact HB.out)⟩⟩
              · rw [if_neg c51] at H
                have c51b0 : ((t545 == t546) != (a0_1 == 1)) = false := by simpa using c51
                (try (have c51b1 : decide ((t545 == t546) = (a0_1 == 1)) = true := by simpa using c51))
                (try (have c51b2 : ((t545 == t546) == (a0_1 == 1)) = true := by simpa using c51))
                clear c51
                by_cases c55 : (wrap64 (t545 * a0_1)) > a0_0
                · rw [if_pos c55] at H
                  have c55b0 : decide (a0_0 < (wrap64 (t545 * a0_1))) = true := decide_eq_true c55
                  clear c55
                  have H' := Aside0.mk H
                  clear H
                  have hnb56 := NB535_536.out
                  have hnc56 := NB536_535.out
                  have hnb57 := NB535_537.out
                  have hnc57 := NB537_535.out
                  have hcz58_0 : w48.cell? ⟨gb535, 0, none⟩ = some (.int .i64 a0_0) := (blk_cell BK535.out 0).trans rfl
                  have hcz58_1 : w48.cell? ⟨gb535, 1, none⟩ = some (.int .i64 a0_1) := (blk_cell BK535.out 1).trans rfl
                  have hfz58_0 := blk_frozen BK535.out 0
                  have hfz58_1 := blk_frozen BK535.out 1
                  go_wp2
                  go_meet
                  case rel => exact ⟨_, (true), (by first | rfl | (simp; done) | (simp [*]; done)), H', ⟨by have := HJ3.out; first | omega | exact Nat.le_refl _⟩, ⟨by (with_reducible repeat (first | refine blk_drewN ?_ _ | refine blk_drew ?_ | refine blk_alloc ?_ _)); exact BK535.out⟩, ⟨by (with_reducible repeat (first | refine blk_drewN ?_ _ | refine blk_drew ?_ | refine blk_alloc ?_ _)); exact BK536.out⟩, ⟨by (with_reducible repeat (first | refine blk_drewN ?_ _ | refine blk_drew ?_ | refine blk_alloc ?_ _)); exact BK537.out⟩, ⟨by repeat (first | (with_reducible first | exact HB.out | apply below_alloc | apply pw_below_drewN | apply below_drew1 | refine below_set ?_ GE535.out | refine below_set ?_ GE536.out | refine below_set ?_ GE537.out) | exact HB.out)⟩⟩
                · rw [if_neg c55] at H
                  have c55b0 : decide (a0_0 < (wrap64 (t545 * a0_1))) = false := decide_eq_false c55
                  clear c55
                  have H' := Aside0.mk H
                  clear H
                  have hnb59 := NB535_536.out
                  have hnc59 := NB536_535.out
                  have hnb60 := NB535_537.out
                  have hnc60 := NB537_535.out
                  have hcz61_0 : w48.cell? ⟨gb535, 0, none⟩ = some (.int .i64 a0_0) := (blk_cell BK535.out 0).trans rfl
                  have hcz61_1 : w48.cell? ⟨gb535, 1, none⟩ = some (.int .i64 a0_1) := (blk_cell BK535.out 1).trans rfl
                  have hfz61_0 := blk_frozen BK535.out 0
                  have hfz61_1 := blk_frozen BK535.out 1
                  go_wp2
                  go_meet
                  case rel => exact ⟨_, (decide ((wrap64 (t546 * a0_1)) < a0_0)), (by first | rfl | (simp; done) | (simp [*]; done)), H', ⟨by have := HJ3.out; first | omega | exact Nat.le_refl _⟩, ⟨by (with_reducible repeat (first | refine blk_drewN ?_ _ | refine blk_drew ?_ | refine blk_alloc ?_ _)); exact BK535.out⟩, ⟨by (with_reducible repeat (first | refine blk_drewN ?_ _ | refine blk_drew ?_ | refine blk_alloc ?_ _)); exact BK536.out⟩, ⟨by (with_reducible repeat (first | refine blk_drewN ?_ _ | refine blk_drew ?_ | refine blk_alloc ?_ _)); exact BK537.out⟩, ⟨by repeat (first | (with_reducible first | exact HB.out | apply below_alloc | apply pw_below_drewN | apply below_drew1 | refine below_set ?_ GE535.out | refine below_set ?_ GE536.out | refine below_set ?_ GE537.out) | exact HB.out)⟩⟩
        case rest =>
          clear HC41
          try clear c1
          try clear c2
          try clear p2
          try clear c3
          try clear c4
          try clear c5
          try clear c6
          try clear p6
          try clear c9
          try clear c11
          try clear c13
          try clear c14
          try clear c17
          try clear c22
          try clear c23
          try clear c26
          try clear c27
          try clear c29
          try clear c30
          try clear c33
          try clear c44
          try clear c47
          try clear c49
          try clear c49b0
          try clear c50
          try clear c50b0
          try clear c51
          try clear c51b0
          try clear c51b1
          try clear c51b2
          try clear c52
          try clear c53
          try clear c55
          try clear c55b0
          try clear c56
          try clear c57
          try clear c59
          try clear c60
          try clear hcz15_0
          try clear hcz15_1
          try clear hcz18_0
          try clear hcz18_1
          try clear hcz20_0
          try clear hcz20_1
          try clear hcz24_0
          try clear hcz24_1
          try clear hcz27_0
          try clear hcz27_1
          try clear hcz31_0
          try clear hcz31_1
          try clear hcz54_0
          try clear hcz54_1
          try clear hcz58_0
          try clear hcz58_1
          try clear hcz61_0
          try clear hcz61_1
          try clear hfz15_0
          try clear hfz15_1
          try clear hfz18_0
          try clear hfz18_1
          try clear hfz20_0
          try clear hfz20_1
          try clear hfz24_0
          try clear hfz24_1
          try clear hfz27_0
          try clear hfz27_1
          try clear hfz31_0
          try clear hfz31_1
          try clear hfz54_0
          try clear hfz54_1
          try clear hfz58_0
          try clear hfz58_1
          try clear hfz61_0
          try clear hfz61_1
          try clear p2
          obtain ⟨kq, x74_40, rfl, HA, HJ40, BK535, BK536, BK537, HB⟩ := hcut
          cases kq with
          | zero => exact absurd HA.out (by simp [mosaiclaw05_RatioOrder.j1])
          | succ kj40 =>
            have H := HA.out
            clear HA
            simp only [mosaiclaw05_RatioOrder.j1] at H
            by_cases c62 : x74_40 = true
            · subst c62
              have H1 : (some false) = some r := by rw [if_pos rfl] at H; exact H
              clear H
              have H := H1
              clear H1
              obtain rfl := Option.some.inj H
              exact absurd HLAW.out (by decide)
            · replace c62 := Bool.eq_false_iff.mpr c62
              subst c62
              have H1 : ((mosaiclaw05_awake.f kj40).bind fun t547 => (if t547 = true then ((ratio_Compare.f a1_0 a1_1 a0_0 a0_1).bind fun t548 => (if t542 = (wrap64 (-t548)) then (if ((t542 == 0) == (a0_0 == a1_0 && (a0_1 == a1_1))) = true then (if t542 > 0 then (if t542 ≥ 0 then (some true) else (if t543 > 0 then (some true) else (some (decide (t544 < 0))))) else (if t543 > 0 then (if t542 ≥ 0 then (some true) else (some true)) else (if t544 ≤ 0 then (if t542 ≥ 0 then (some true) else (some (decide (t544 < 0)))) else (some false)))) else (some false)) else (some false))) else (some false))) = some r := by rw [if_neg (show ¬ (false = true) by decide)] at H; exact H
              clear H
              have H := H1
              clear H1
              replace H := Option.bind_eq_some_iff.mp H
              obtain ⟨t547, A630, H⟩ := H
              replace H : (if t547 = true then ((ratio_Compare.f a1_0 a1_1 a0_0 a0_1).bind fun t548 => (if t542 = (wrap64 (-t548)) then (if ((t542 == 0) == (a0_0 == a1_0 && (a0_1 == a1_1))) = true then (if t542 > 0 then (if t542 ≥ 0 then (some true) else (if t543 > 0 then (some true) else (some (decide (t544 < 0))))) else (if t543 > 0 then (if t542 ≥ 0 then (some true) else (some true)) else (if t544 ≤ 0 then (if t542 ≥ 0 then (some true) else (some (decide (t544 < 0)))) else (some false)))) else (some false)) else (some false))) else (some false)) = some r := H
              have A63 := Aside0.mk A630
              clear A630
              by_cases c64 : t547 = true
              · subst c64
                have H1 : ((ratio_Compare.f a1_0 a1_1 a0_0 a0_1).bind fun t548 => (if t542 = (wrap64 (-t548)) then (if ((t542 == 0) == (a0_0 == a1_0 && (a0_1 == a1_1))) = true then (if t542 > 0 then (if t542 ≥ 0 then (some true) else (if t543 > 0 then (some true) else (some (decide (t544 < 0))))) else (if t543 > 0 then (if t542 ≥ 0 then (some true) else (some true)) else (if t544 ≤ 0 then (if t542 ≥ 0 then (some true) else (some (decide (t544 < 0)))) else (some false)))) else (some false)) else (some false))) = some r := by rw [if_pos rfl] at H; exact H
                clear H
                have H := H1
                clear H1
                replace H := Option.bind_eq_some_iff.mp H
                obtain ⟨t548, A650, H⟩ := H
                replace H : (if t542 = (wrap64 (-t548)) then (if ((t542 == 0) == (a0_0 == a1_0 && (a0_1 == a1_1))) = true then (if t542 > 0 then (if t542 ≥ 0 then (some true) else (if t543 > 0 then (some true) else (some (decide (t544 < 0))))) else (if t543 > 0 then (if t542 ≥ 0 then (some true) else (some true)) else (if t544 ≤ 0 then (if t542 ≥ 0 then (some true) else (some (decide (t544 < 0)))) else (some false)))) else (some false)) else (some false)) = some r := H
                have A65 := Aside0.mk A650
                clear A650
                by_cases c66 : t542 = (wrap64 (-t548))
                · rw [if_pos c66] at H
                  have c66b0 : (t542 == (wrap64 (-t548))) = true := beq_iff_eq.mpr c66
                  have c66b1 : (t542 != (wrap64 (-t548))) = false := bne_eq_false_iff_eq.mpr c66
                  clear c66
                  by_cases c67 : ((t542 == 0) == (a0_0 == a1_0 && (a0_1 == a1_1))) = true
                  · rw [if_pos c67] at H
                    have c67b0 : ((t542 == 0) == (a0_0 == a1_0 && (a0_1 == a1_1))) = true := c67
                    (try (have c67b1 : decide ((t542 == 0) = (a0_0 == a1_0 && (a0_1 == a1_1))) = true := by simpa using c67))
                    (try (have c67b2 : ((t542 == 0) == (a0_0 == a1_0 && (a0_1 == a1_1))) = true := by simpa using c67))
                    clear c67
                    by_cases c68 : t542 > 0
                    · rw [if_pos c68] at H
                      have c68b0 : decide (0 < t542) = true := decide_eq_true c68
                      clear c68
                      by_cases c69 : t542 ≥ 0
                      · rw [if_pos c69] at H
                        have c69b0 : decide (0 ≤ t542) = true := decide_eq_true c69
                        clear c69
                        obtain rfl := Option.some.inj H
                        go_wp2_with (first | ((with_reducible refine gate_callee (f := 27) rfl ?_); refine goesL_ (some 75) rfl rfl Try.func27 (by kernel_rfl) rfl #[] rfl (by (try simp only [List.map_toArray, List.map_cons, List.map_nil]); first | done | rfl | (simp only [List.length_drop, List.length_take]; rfl)) ?_; (with_reducible refine (mosaiclaw05_awake.calls kj40  true _ A63.out).mono ?_); rintro e w70 ⟨rfl, hb⟩; refine ⟨_, rfl, ?_⟩; have n0_ := Aside0.mk (blk_below (g := gb535) (o := .cells #[.int .i64 a0_0, .int .i64 a0_1] 23 (0, 0)) (by (with_reducible repeat (first | refine blk_drewN ?_ _ | refine blk_drew ?_ | refine blk_alloc ?_ _)); exact BK535.out) hb); have n1_ := Aside0.mk (blk_below (g := gb536) (o := .cells #[.int .i64 a1_0, .int .i64 a1_1] 23 (0, 0)) (by (with_reducible repeat (first | refine blk_drewN ?_ _ | refine blk_drew ?_ | refine blk_alloc ?_ _)); exact BK536.out) hb); have n2_ := Aside0.mk (blk_below (g := gb537) (o := .cells #[.int .i64 a2_0, .int .i64 a2_1] 23 (0, 0)) (by (with_reducible repeat (first | refine blk_drewN ?_ _ | refine blk_drew ?_ | refine blk_alloc ?_ _)); exact BK537.out) hb); have n3_ := Aside0.mk (below_step (by repeat (first | (with_reducible first | exact HB.out | apply below_alloc | apply pw_below_drewN | apply below_drew1 | refine below_set ?_ GE535.out | refine below_set ?_ GE536.out | refine below_set ?_ GE537.out) | exact HB.out)) hb); clear BK535; clear BK536; clear BK537; clear HB; have BK535 := n0_; have BK536 := n1_; have BK537 := n2_; have HB := n3_; clear n0_ n1_ n2_ n3_; (try clear hb); (try clear hb2); (try clear hk); (try clear hi); have hnb71 := NB536_535.out; have hnc71 := NB535_536.out; have hnb72 := NB536_537.out; have hnc72 := NB537_536.out; have hcz73_0 : w70.cell? ⟨gb536, 0, none⟩ = some (.int .i64 a1_0) := (blk_cell BK536.out 0).trans rfl; have hcz73_1 : w70.cell? ⟨gb536, 1, none⟩ = some (.int .i64 a1_1) := (blk_cell BK536.out 1).trans rfl; have hfz73_0 := blk_frozen BK536.out 0; have hfz73_1 := blk_frozen BK536.out 1; have hnb74 := NB535_537.out; have hnc74 := NB537_535.out; have hcz75_0 : w70.cell? ⟨gb535, 0, none⟩ = some (.int .i64 a0_0) := (blk_cell BK535.out 0).trans rfl; have hcz75_1 : w70.cell? ⟨gb535, 1, none⟩ = some (.int .i64 a0_1) := (blk_cell BK535.out 1).trans rfl; have hfz75_0 := blk_frozen BK535.out 0; have hfz75_1 := blk_frozen BK535.out 1) | (go_at_call 44; (with_reducible refine (ratio_Compare.calls a1_0 a1_1 a0_0 a0_1 t548 _ A65.out).mono ?_); rintro e w76 ⟨rfl, hb⟩; have n0_ := Aside0.mk (blk_below (g := gb535) (o := .cells #[.int .i64 a0_0, .int .i64 a0_1] 23 (0, 0)) (by (with_reducible repeat (first | refine blk_drewN ?_ _ | refine blk_drew ?_ | refine blk_alloc ?_ _)); exact BK535.out) hb); have n1_ := Aside0.mk (blk_below (g := gb536) (o := .cells #[.int .i64 a1_0, .int .i64 a1_1] 23 (0, 0)) (by (with_reducible repeat (first | refine blk_drewN ?_ _ | refine blk_drew ?_ | refine blk_alloc ?_ _)); exact BK536.out) hb); have n2_ := Aside0.mk (blk_below (g := gb537) (o := .cells #[.int .i64 a2_0, .int .i64 a2_1] 23 (0, 0)) (by (with_reducible repeat (first | refine blk_drewN ?_ _ | refine blk_drew ?_ | refine blk_alloc ?_ _)); exact BK537.out) hb); have n3_ := Aside0.mk (below_step (by repeat (first | (with_reducible first | exact HB.out | apply below_alloc | apply pw_below_drewN | apply below_drew1 | refine below_set ?_ GE535.out | refine below_set ?_ GE536.out | refine below_set ?_ GE537.out) | exact HB.out)) hb); clear BK535; clear BK536; clear BK537; clear HB; have BK535 := n0_; have BK536 := n1_; have BK537 := n2_; have HB := n3_; clear n0_ n1_ n2_ n3_; (try clear hb); (try clear hb2); (try clear hk); (try clear hi); have hcz77_0 : w76.cell? ⟨gb535, 0, none⟩ = some (.int .i64 a0_0) := (blk_cell BK535.out 0).trans rfl; have hcz77_1 : w76.cell? ⟨gb535, 1, none⟩ = some (.int .i64 a0_1) := (blk_cell BK535.out 1).trans rfl; have hfz77_0 := blk_frozen BK535.out 0; have hfz77_1 := blk_frozen BK535.out 1; have hcz78_0 : w76.cell? ⟨gb536, 0, none⟩ = some (.int .i64 a1_0) := (blk_cell BK536.out 0).trans rfl; have hcz78_1 : w76.cell? ⟨gb536, 1, none⟩ = some (.int .i64 a1_1) := (blk_cell BK536.out 1).trans rfl; have hfz78_0 := blk_frozen BK536.out 0; have hfz78_1 := blk_frozen BK536.out 1))
                        go_ret
                        exact ⟨by first | rfl | (simp [errW_none, errW_some] <;> rfl) | (simp [*, errW_none, errW_some] <;> rfl), by repeat (first | (with_reducible first | exact HB.out | apply below_alloc | apply pw_below_drewN | apply below_drew1 | refine below_set ?_ GE535.out | refine below_set ?_ GE536.out | refine below_set ?_ GE537.out) | exact HB.out)⟩
                      · rw [if_neg c69] at H
                        have c69b0 : decide (0 ≤ t542) = false := decide_eq_false c69
                        clear c69
                        by_cases c79 : t543 > 0
                        · rw [if_pos c79] at H
                          have c79b0 : decide (0 < t543) = true := decide_eq_true c79
                          clear c79
                          obtain rfl := Option.some.inj H
                          go_wp2_with (first | ((with_reducible refine gate_callee (f := 27) rfl ?_); refine goesL_ (some 75) rfl rfl Try.func27 (by kernel_rfl) rfl #[] rfl (by (try simp only [List.map_toArray, List.map_cons, List.map_nil]); first | done | rfl | (simp only [List.length_drop, List.length_take]; rfl)) ?_; (with_reducible refine (mosaiclaw05_awake.calls kj40  true _ A63.out).mono ?_); rintro e w80 ⟨rfl, hb⟩; refine ⟨_, rfl, ?_⟩; have n0_ := Aside0.mk (blk_below (g := gb535) (o := .cells #[.int .i64 a0_0, .int .i64 a0_1] 23 (0, 0)) (by (with_reducible repeat (first | refine blk_drewN ?_ _ | refine blk_drew ?_ | refine blk_alloc ?_ _)); exact BK535.out) hb); have n1_ := Aside0.mk (blk_below (g := gb536) (o := .cells #[.int .i64 a1_0, .int .i64 a1_1] 23 (0, 0)) (by (with_reducible repeat (first | refine blk_drewN ?_ _ | refine blk_drew ?_ | refine blk_alloc ?_ _)); exact BK536.out) hb); have n2_ := Aside0.mk (blk_below (g := gb537) (o := .cells #[.int .i64 a2_0, .int .i64 a2_1] 23 (0, 0)) (by (with_reducible repeat (first | refine blk_drewN ?_ _ | refine blk_drew ?_ | refine blk_alloc ?_ _)); exact BK537.out) hb); have n3_ := Aside0.mk (below_step (by repeat (first | (with_reducible first | exact HB.out | apply below_alloc | apply pw_below_drewN | apply below_drew1 | refine below_set ?_ GE535.out | refine below_set ?_ GE536.out | refine below_set ?_ GE537.out) | exact HB.out)) hb); clear BK535; clear BK536; clear BK537; clear HB; have BK535 := n0_; have BK536 := n1_; have BK537 := n2_; have HB := n3_; clear n0_ n1_ n2_ n3_; (try clear hb); (try clear hb2); (try clear hk); (try clear hi); have hnb81 := NB536_535.out; have hnc81 := NB535_536.out; have hnb82 := NB536_537.out; have hnc82 := NB537_536.out; have hcz83_0 : w80.cell? ⟨gb536, 0, none⟩ = some (.int .i64 a1_0) := (blk_cell BK536.out 0).trans rfl; have hcz83_1 : w80.cell? ⟨gb536, 1, none⟩ = some (.int .i64 a1_1) := (blk_cell BK536.out 1).trans rfl; have hfz83_0 := blk_frozen BK536.out 0; have hfz83_1 := blk_frozen BK536.out 1; have hnb84 := NB535_537.out; have hnc84 := NB537_535.out; have hcz85_0 : w80.cell? ⟨gb535, 0, none⟩ = some (.int .i64 a0_0) := (blk_cell BK535.out 0).trans rfl; have hcz85_1 : w80.cell? ⟨gb535, 1, none⟩ = some (.int .i64 a0_1) := (blk_cell BK535.out 1).trans rfl; have hfz85_0 := blk_frozen BK535.out 0; have hfz85_1 := blk_frozen BK535.out 1) | (go_at_call 44; (with_reducible refine (ratio_Compare.calls a1_0 a1_1 a0_0 a0_1 t548 _ A65.out).mono ?_); rintro e w86 ⟨rfl, hb⟩; have n0_ := Aside0.mk (blk_below (g := gb535) (o := .cells #[.int .i64 a0_0, .int .i64 a0_1] 23 (0, 0)) (by (with_reducible repeat (first | refine blk_drewN ?_ _ | refine blk_drew ?_ | refine blk_alloc ?_ _)); exact BK535.out) hb); have n1_ := Aside0.mk (blk_below (g := gb536) (o := .cells #[.int .i64 a1_0, .int .i64 a1_1] 23 (0, 0)) (by (with_reducible repeat (first | refine blk_drewN ?_ _ | refine blk_drew ?_ | refine blk_alloc ?_ _)); exact BK536.out) hb); have n2_ := Aside0.mk (blk_below (g := gb537) (o := .cells #[.int .i64 a2_0, .int .i64 a2_1] 23 (0, 0)) (by (with_reducible repeat (first | refine blk_drewN ?_ _ | refine blk_drew ?_ | refine blk_alloc ?_ _)); exact BK537.out) hb); have n3_ := Aside0.mk (below_step (by repeat (first | (with_reducible first | exact HB.out | apply below_alloc | apply pw_below_drewN | apply below_drew1 | refine below_set ?_ GE535.out | refine below_set ?_ GE536.out | refine below_set ?_ GE537.out) | exact HB.out)) hb); clear BK535; clear BK536; clear BK537; clear HB; have BK535 := n0_; have BK536 := n1_; have BK537 := n2_; have HB := n3_; clear n0_ n1_ n2_ n3_; (try clear hb); (try clear hb2); (try clear hk); (try clear hi); have hcz87_0 : w86.cell? ⟨gb535, 0, none⟩ = some (.int .i64 a0_0) := (blk_cell BK535.out 0).trans rfl; have hcz87_1 : w86.cell? ⟨gb535, 1, none⟩ = some (.int .i64 a0_1) := (blk_cell BK535.out 1).trans rfl; have hfz87_0 := blk_frozen BK535.out 0; have hfz87_1 := blk_frozen BK535.out 1; have hcz88_0 : w86.cell? ⟨gb536, 0, none⟩ = some (.int .i64 a1_0) := (blk_cell BK536.out 0).trans rfl; have hcz88_1 : w86.cell? ⟨gb536, 1, none⟩ = some (.int .i64 a1_1) := (blk_cell BK536.out 1).trans rfl; have hfz88_0 := blk_frozen BK536.out 0; have hfz88_1 := blk_frozen BK536.out 1))
                          go_ret
                          exact ⟨by first | rfl | (simp [errW_none, errW_some] <;> rfl) | (simp [*, errW_none, errW_some] <;> rfl), by repeat (first | (with_reducible first | exact HB.out | apply below_alloc | apply pw_below_drewN | apply below_drew1 | refine below_set ?_ GE535.out | refine below_set ?_ GE536.out | refine below_set ?_ GE537.out) | exact HB.out)⟩
                        · rw [if_neg c79] at H
                          have c79b0 : decide (0 < t543) = false := decide_eq_false c79
                          clear c79
                          obtain rfl := Option.some.inj H
                          go_wp2_with (first | ((with_reducible refine gate_callee (f := 27) rfl ?_); refine goesL_ (some 75) rfl rfl Try.func27 (by kernel_rfl) rfl #[] rfl (by (try simp only [List.map_toArray, List.map_cons, List.map_nil]); first | done | rfl | (simp only [List.length_drop, List.length_take]; rfl)) ?_; (with_reducible refine (mosaiclaw05_awake.calls kj40  true _ A63.out).mono ?_); rintro e w89 ⟨rfl, hb⟩; refine ⟨_, rfl, ?_⟩; have n0_ := Aside0.mk (blk_below (g := gb535) (o := .cells #[.int .i64 a0_0, .int .i64 a0_1] 23 (0, 0)) (by (with_reducible repeat (first | refine blk_drewN ?_ _ | refine blk_drew ?_ | refine blk_alloc ?_ _)); exact BK535.out) hb); have n1_ := Aside0.mk (blk_below (g := gb536) (o := .cells #[.int .i64 a1_0, .int .i64 a1_1] 23 (0, 0)) (by (with_reducible repeat (first | refine blk_drewN ?_ _ | refine blk_drew ?_ | refine blk_alloc ?_ _)); exact BK536.out) hb); have n2_ := Aside0.mk (blk_below (g := gb537) (o := .cells #[.int .i64 a2_0, .int .i64 a2_1] 23 (0, 0)) (by (with_reducible repeat (first | refine blk_drewN ?_ _ | refine blk_drew ?_ | refine blk_alloc ?_ _)); exact BK537.out) hb); have n3_ := Aside0.mk (below_step (by repeat (first | (with_reducible first | exact HB.out | apply below_alloc | apply pw_below_drewN | apply below_drew1 | refine below_set ?_ GE535.out | refine below_set ?_ GE536.out | refine below_set ?_ GE537.out) | exact HB.out)) hb); clear BK535; clear BK536; clear BK537; clear HB; have BK535 := n0_; have BK536 := n1_; have BK537 := n2_; have HB := n3_; clear n0_ n1_ n2_ n3_; (try clear hb); (try clear hb2); (try clear hk); (try clear hi); have hnb90 := NB536_535.out; have hnc90 := NB535_536.out; have hnb91 := NB536_537.out; have hnc91 := NB537_536.out; have hcz92_0 : w89.cell? ⟨gb536, 0, none⟩ = some (.int .i64 a1_0) := (blk_cell BK536.out 0).trans rfl; have hcz92_1 : w89.cell? ⟨gb536, 1, none⟩ = some (.int .i64 a1_1) := (blk_cell BK536.out 1).trans rfl; have hfz92_0 := blk_frozen BK536.out 0; have hfz92_1 := blk_frozen BK536.out 1; have hnb93 := NB535_537.out; have hnc93 := NB537_535.out; have hcz94_0 : w89.cell? ⟨gb535, 0, none⟩ = some (.int .i64 a0_0) := (blk_cell BK535.out 0).trans rfl; have hcz94_1 : w89.cell? ⟨gb535, 1, none⟩ = some (.int .i64 a0_1) := (blk_cell BK535.out 1).trans rfl; have hfz94_0 := blk_frozen BK535.out 0; have hfz94_1 := blk_frozen BK535.out 1) | (go_at_call 44; (with_reducible refine (ratio_Compare.calls a1_0 a1_1 a0_0 a0_1 t548 _ A65.out).mono ?_); rintro e w95 ⟨rfl, hb⟩; have n0_ := Aside0.mk (blk_below (g := gb535) (o := .cells #[.int .i64 a0_0, .int .i64 a0_1] 23 (0, 0)) (by (with_reducible repeat (first | refine blk_drewN ?_ _ | refine blk_drew ?_ | refine blk_alloc ?_ _)); exact BK535.out) hb); have n1_ := Aside0.mk (blk_below (g := gb536) (o := .cells #[.int .i64 a1_0, .int .i64 a1_1] 23 (0, 0)) (by (with_reducible repeat (first | refine blk_drewN ?_ _ | refine blk_drew ?_ | refine blk_alloc ?_ _)); exact BK536.out) hb); have n2_ := Aside0.mk (blk_below (g := gb537) (o := .cells #[.int .i64 a2_0, .int .i64 a2_1] 23 (0, 0)) (by (with_reducible repeat (first | refine blk_drewN ?_ _ | refine blk_drew ?_ | refine blk_alloc ?_ _)); exact BK537.out) hb); have n3_ := Aside0.mk (below_step (by repeat (first | (with_reducible first | exact HB.out | apply below_alloc | apply pw_below_drewN | apply below_drew1 | refine below_set ?_ GE535.out | refine below_set ?_ GE536.out | refine below_set ?_ GE537.out) | exact HB.out)) hb); clear BK535; clear BK536; clear BK537; clear HB; have BK535 := n0_; have BK536 := n1_; have BK537 := n2_; have HB := n3_; clear n0_ n1_ n2_ n3_; (try clear hb); (try clear hb2); (try clear hk); (try clear hi); have hcz96_0 : w95.cell? ⟨gb535, 0, none⟩ = some (.int .i64 a0_0) := (blk_cell BK535.out 0).trans rfl; have hcz96_1 : w95.cell? ⟨gb535, 1, none⟩ = some (.int .i64 a0_1) := (blk_cell BK535.out 1).trans rfl; have hfz96_0 := blk_frozen BK535.out 0; have hfz96_1 := blk_frozen BK535.out 1; have hcz97_0 : w95.cell? ⟨gb536, 0, none⟩ = some (.int .i64 a1_0) := (blk_cell BK536.out 0).trans rfl; have hcz97_1 : w95.cell? ⟨gb536, 1, none⟩ = some (.int .i64 a1_1) := (blk_cell BK536.out 1).trans rfl; have hfz97_0 := blk_frozen BK536.out 0; have hfz97_1 := blk_frozen BK536.out 1))
                          go_ret
                          exact ⟨by first | rfl | (simp [errW_none, errW_some] <;> rfl) | (simp [*, errW_none, errW_some] <;> rfl), by repeat (first | (with_reducible first | exact HB.out | apply below_alloc | apply pw_below_drewN | apply below_drew1 | refine below_set ?_ GE535.out | refine below_set ?_ GE536.out | refine below_set ?_ GE537.out) | exact HB.out)⟩
                    · rw [if_neg c68] at H
                      have c68b0 : decide (0 < t542) = false := decide_eq_false c68
                      clear c68
                      by_cases c98 : t543 > 0
                      · rw [if_pos c98] at H
                        have c98b0 : decide (0 < t543) = true := decide_eq_true c98
                        clear c98
                        by_cases c99 : t542 ≥ 0
                        · rw [if_pos c99] at H
                          have c99b0 : decide (0 ≤ t542) = true := decide_eq_true c99
                          clear c99
                          obtain rfl := Option.some.inj H
                          go_wp2_with (first | ((with_reducible refine gate_callee (f := 27) rfl ?_); refine goesL_ (some 75) rfl rfl Try.func27 (by kernel_rfl) rfl #[] rfl (by (try simp only [List.map_toArray, List.map_cons, List.map_nil]); first | done | rfl | (simp only [List.length_drop, List.length_take]; rfl)) ?_; (with_reducible refine (mosaiclaw05_awake.calls kj40  true _ A63.out).mono ?_); rintro e w100 ⟨rfl, hb⟩; refine ⟨_, rfl, ?_⟩; have n0_ := Aside0.mk (blk_below (g := gb535) (o := .cells #[.int .i64 a0_0, .int .i64 a0_1] 23 (0, 0)) (by (with_reducible repeat (first | refine blk_drewN ?_ _ | refine blk_drew ?_ | refine blk_alloc ?_ _)); exact BK535.out) hb); have n1_ := Aside0.mk (blk_below (g := gb536) (o := .cells #[.int .i64 a1_0, .int .i64 a1_1] 23 (0, 0)) (by (with_reducible repeat (first | refine blk_drewN ?_ _ | refine blk_drew ?_ | refine blk_alloc ?_ _)); exact BK536.out) hb); have n2_ := Aside0.mk (blk_below (g := gb537) (o := .cells #[.int .i64 a2_0, .int .i64 a2_1] 23 (0, 0)) (by (with_reducible repeat (first | refine blk_drewN ?_ _ | refine blk_drew ?_ | refine blk_alloc ?_ _)); exact BK537.out) hb); have n3_ := Aside0.mk (below_step (by repeat (first | (with_reducible first | exact HB.out | apply below_alloc | apply pw_below_drewN | apply below_drew1 | refine below_set ?_ GE535.out | refine below_set ?_ GE536.out | refine below_set ?_ GE537.out) | exact HB.out)) hb); clear BK535; clear BK536; clear BK537; clear HB; have BK535 := n0_; have BK536 := n1_; have BK537 := n2_; have HB := n3_; clear n0_ n1_ n2_ n3_; (try clear hb); (try clear hb2); (try clear hk); (try clear hi); have hnb101 := NB536_535.out; have hnc101 := NB535_536.out; have hnb102 := NB536_537.out; have hnc102 := NB537_536.out; have hcz103_0 : w100.cell? ⟨gb536, 0, none⟩ = some (.int .i64 a1_0) := (blk_cell BK536.out 0).trans rfl; have hcz103_1 : w100.cell? ⟨gb536, 1, none⟩ = some (.int .i64 a1_1) := (blk_cell BK536.out 1).trans rfl; have hfz103_0 := blk_frozen BK536.out 0; have hfz103_1 := blk_frozen BK536.out 1; have hnb104 := NB535_537.out; have hnc104 := NB537_535.out; have hcz105_0 : w100.cell? ⟨gb535, 0, none⟩ = some (.int .i64 a0_0) := (blk_cell BK535.out 0).trans rfl; have hcz105_1 : w100.cell? ⟨gb535, 1, none⟩ = some (.int .i64 a0_1) := (blk_cell BK535.out 1).trans rfl; have hfz105_0 := blk_frozen BK535.out 0; have hfz105_1 := blk_frozen BK535.out 1) | (go_at_call 44; (with_reducible refine (ratio_Compare.calls a1_0 a1_1 a0_0 a0_1 t548 _ A65.out).mono ?_); rintro e w106 ⟨rfl, hb⟩; have n0_ := Aside0.mk (blk_below (g := gb535) (o := .cells #[.int .i64 a0_0, .int .i64 a0_1] 23 (0, 0)) (by (with_reducible repeat (first | refine blk_drewN ?_ _ | refine blk_drew ?_ | refine blk_alloc ?_ _)); exact BK535.out) hb); have n1_ := Aside0.mk (blk_below (g := gb536) (o := .cells #[.int .i64 a1_0, .int .i64 a1_1] 23 (0, 0)) (by (with_reducible repeat (first | refine blk_drewN ?_ _ | refine blk_drew ?_ | refine blk_alloc ?_ _)); exact BK536.out) hb); have n2_ := Aside0.mk (blk_below (g := gb537) (o := .cells #[.int .i64 a2_0, .int .i64 a2_1] 23 (0, 0)) (by (with_reducible repeat (first | refine blk_drewN ?_ _ | refine blk_drew ?_ | refine blk_alloc ?_ _)); exact BK537.out) hb); have n3_ := Aside0.mk (below_step (by repeat (first | (with_reducible first | exact HB.out | apply below_alloc | apply pw_below_drewN | apply below_drew1 | refine below_set ?_ GE535.out | refine below_set ?_ GE536.out | refine below_set ?_ GE537.out) | exact HB.out)) hb); clear BK535; clear BK536; clear BK537; clear HB; have BK535 := n0_; have BK536 := n1_; have BK537 := n2_; have HB := n3_; clear n0_ n1_ n2_ n3_; (try clear hb); (try clear hb2); (try clear hk); (try clear hi); have hcz107_0 : w106.cell? ⟨gb535, 0, none⟩ = some (.int .i64 a0_0) := (blk_cell BK535.out 0).trans rfl; have hcz107_1 : w106.cell? ⟨gb535, 1, none⟩ = some (.int .i64 a0_1) := (blk_cell BK535.out 1).trans rfl; have hfz107_0 := blk_frozen BK535.out 0; have hfz107_1 := blk_frozen BK535.out 1; have hcz108_0 : w106.cell? ⟨gb536, 0, none⟩ = some (.int .i64 a1_0) := (blk_cell BK536.out 0).trans rfl; have hcz108_1 : w106.cell? ⟨gb536, 1, none⟩ = some (.int .i64 a1_1) := (blk_cell BK536.out 1).trans rfl; have hfz108_0 := blk_frozen BK536.out 0; have hfz108_1 := blk_frozen BK536.out 1))
                          go_ret
                          exact ⟨by first | rfl | (simp [errW_none, errW_some] <;> rfl) | (simp [*, errW_none, errW_some] <;> rfl), by repeat (first | (with_reducible first | exact HB.out | apply below_alloc | apply pw_below_drewN | apply below_drew1 | refine below_set ?_ GE535.out | refine below_set ?_ GE536.out | refine below_set ?_ GE537.out) | exact HB.out)⟩
                        · rw [if_neg c99] at H
                          have c99b0 : decide (0 ≤ t542) = false := decide_eq_false c99
                          clear c99
                          obtain rfl := Option.some.inj H
                          go_wp2_with (first | ((with_reducible refine gate_callee (f := 27) rfl ?_); refine goesL_ (some 75) rfl rfl Try.func27 (by kernel_rfl) rfl #[] rfl (by (try simp only [List.map_toArray, List.map_cons, List.map_nil]); first | done | rfl | (simp only [List.length_drop, List.length_take]; rfl)) ?_; (with_reducible refine (mosaiclaw05_awake.calls kj40  true _ A63.out).mono ?_); rintro e w109 ⟨rfl, hb⟩; refine ⟨_, rfl, ?_⟩; have n0_ := Aside0.mk (blk_below (g := gb535) (o := .cells #[.int .i64 a0_0, .int .i64 a0_1] 23 (0, 0)) (by (with_reducible repeat (first | refine blk_drewN ?_ _ | refine blk_drew ?_ | refine blk_alloc ?_ _)); exact BK535.out) hb); have n1_ := Aside0.mk (blk_below (g := gb536) (o := .cells #[.int .i64 a1_0, .int .i64 a1_1] 23 (0, 0)) (by (with_reducible repeat (first | refine blk_drewN ?_ _ | refine blk_drew ?_ | refine blk_alloc ?_ _)); exact BK536.out) hb); have n2_ := Aside0.mk (blk_below (g := gb537) (o := .cells #[.int .i64 a2_0, .int .i64 a2_1] 23 (0, 0)) (by (with_reducible repeat (first | refine blk_drewN ?_ _ | refine blk_drew ?_ | refine blk_alloc ?_ _)); exact BK537.out) hb); have n3_ := Aside0.mk (below_step (by repeat (first | (with_reducible first | exact HB.out | apply below_alloc | apply pw_below_drewN | apply below_drew1 | refine below_set ?_ GE535.out | refine below_set ?_ GE536.out | refine below_set ?_ GE537.out) | exact HB.out)) hb); clear BK535; clear BK536; clear BK537; clear HB; have BK535 := n0_; have BK536 := n1_; have BK537 := n2_; have HB := n3_; clear n0_ n1_ n2_ n3_; (try clear hb); (try clear hb2); (try clear hk); (try clear hi); have hnb110 := NB536_535.out; have hnc110 := NB535_536.out; have hnb111 := NB536_537.out; have hnc111 := NB537_536.out; have hcz112_0 : w109.cell? ⟨gb536, 0, none⟩ = some (.int .i64 a1_0) := (blk_cell BK536.out 0).trans rfl; have hcz112_1 : w109.cell? ⟨gb536, 1, none⟩ = some (.int .i64 a1_1) := (blk_cell BK536.out 1).trans rfl; have hfz112_0 := blk_frozen BK536.out 0; have hfz112_1 := blk_frozen BK536.out 1; have hnb113 := NB535_537.out; have hnc113 := NB537_535.out; have hcz114_0 : w109.cell? ⟨gb535, 0, none⟩ = some (.int .i64 a0_0) := (blk_cell BK535.out 0).trans rfl; have hcz114_1 : w109.cell? ⟨gb535, 1, none⟩ = some (.int .i64 a0_1) := (blk_cell BK535.out 1).trans rfl; have hfz114_0 := blk_frozen BK535.out 0; have hfz114_1 := blk_frozen BK535.out 1) | (go_at_call 44; (with_reducible refine (ratio_Compare.calls a1_0 a1_1 a0_0 a0_1 t548 _ A65.out).mono ?_); rintro e w115 ⟨rfl, hb⟩; have n0_ := Aside0.mk (blk_below (g := gb535) (o := .cells #[.int .i64 a0_0, .int .i64 a0_1] 23 (0, 0)) (by (with_reducible repeat (first | refine blk_drewN ?_ _ | refine blk_drew ?_ | refine blk_alloc ?_ _)); exact BK535.out) hb); have n1_ := Aside0.mk (blk_below (g := gb536) (o := .cells #[.int .i64 a1_0, .int .i64 a1_1] 23 (0, 0)) (by (with_reducible repeat (first | refine blk_drewN ?_ _ | refine blk_drew ?_ | refine blk_alloc ?_ _)); exact BK536.out) hb); have n2_ := Aside0.mk (blk_below (g := gb537) (o := .cells #[.int .i64 a2_0, .int .i64 a2_1] 23 (0, 0)) (by (with_reducible repeat (first | refine blk_drewN ?_ _ | refine blk_drew ?_ | refine blk_alloc ?_ _)); exact BK537.out) hb); have n3_ := Aside0.mk (below_step (by repeat (first | (with_reducible first | exact HB.out | apply below_alloc | apply pw_below_drewN | apply below_drew1 | refine below_set ?_ GE535.out | refine below_set ?_ GE536.out | refine below_set ?_ GE537.out) | exact HB.out)) hb); clear BK535; clear BK536; clear BK537; clear HB; have BK535 := n0_; have BK536 := n1_; have BK537 := n2_; have HB := n3_; clear n0_ n1_ n2_ n3_; (try clear hb); (try clear hb2); (try clear hk); (try clear hi); have hcz116_0 : w115.cell? ⟨gb535, 0, none⟩ = some (.int .i64 a0_0) := (blk_cell BK535.out 0).trans rfl; have hcz116_1 : w115.cell? ⟨gb535, 1, none⟩ = some (.int .i64 a0_1) := (blk_cell BK535.out 1).trans rfl; have hfz116_0 := blk_frozen BK535.out 0; have hfz116_1 := blk_frozen BK535.out 1; have hcz117_0 : w115.cell? ⟨gb536, 0, none⟩ = some (.int .i64 a1_0) := (blk_cell BK536.out 0).trans rfl; have hcz117_1 : w115.cell? ⟨gb536, 1, none⟩ = some (.int .i64 a1_1) := (blk_cell BK536.out 1).trans rfl; have hfz117_0 := blk_frozen BK536.out 0; have hfz117_1 := blk_frozen BK536.out 1))
                          go_ret
                          exact ⟨by first | rfl | (simp [errW_none, errW_some] <;> rfl) | (simp [*, errW_none, errW_some] <;> rfl), by repeat (first | (with_reducible first | exact HB.out | apply below_alloc | apply pw_below_drewN | apply below_drew1 | refine below_set ?_ GE535.out | refine below_set ?_ GE536.out | refine below_set ?_ GE537.out) | exact HB.out)⟩
                      · rw [if_neg c98] at H
                        have c98b0 : decide (0 < t543) = false := decide_eq_false c98
                        clear c98
                        by_cases c118 : t544 ≤ 0
                        · rw [if_pos c118] at H
                          have c118b0 : decide (t544 ≤ 0) = true := decide_eq_true c118
                          clear c118
                          by_cases c119 : t542 ≥ 0
                          · rw [if_pos c119] at H
                            have c119b0 : decide (0 ≤ t542) = true := decide_eq_true c119
                            clear c119
                            obtain rfl := Option.some.inj H
                            go_wp2_with (first | ((with_reducible refine gate_callee (f := 27) rfl ?_); refine goesL_ (some 75) rfl rfl Try.func27 (by kernel_rfl) rfl #[] rfl (by (try simp only [List.map_toArray, List.map_cons, List.map_nil]); first | done | rfl | (simp only [List.length_drop, List.length_take]; rfl)) ?_; (with_reducible refine (mosaiclaw05_awake.calls kj40  true _ A63.out).mono ?_); rintro e w120 ⟨rfl, hb⟩; refine ⟨_, rfl, ?_⟩; have n0_ := Aside0.mk (blk_below (g := gb535) (o := .cells #[.int .i64 a0_0, .int .i64 a0_1] 23 (0, 0)) (by (with_reducible repeat (first | refine blk_drewN ?_ _ | refine blk_drew ?_ | refine blk_alloc ?_ _)); exact BK535.out) hb); have n1_ := Aside0.mk (blk_below (g := gb536) (o := .cells #[.int .i64 a1_0, .int .i64 a1_1] 23 (0, 0)) (by (with_reducible repeat (first | refine blk_drewN ?_ _ | refine blk_drew ?_ | refine blk_alloc ?_ _)); exact BK536.out) hb); have n2_ := Aside0.mk (blk_below (g := gb537) (o := .cells #[.int .i64 a2_0, .int .i64 a2_1] 23 (0, 0)) (by (with_reducible repeat (first | refine blk_drewN ?_ _ | refine blk_drew ?_ | refine blk_alloc ?_ _)); exact BK537.out) hb); have n3_ := Aside0.mk (below_step (by repeat (first | (with_reducible first | exact HB.out | apply below_alloc | apply pw_below_drewN | apply below_drew1 | refine below_set ?_ GE535.out | refine below_set ?_ GE536.out | refine below_set ?_ GE537.out) | exact HB.out)) hb); clear BK535; clear BK536; clear BK537; clear HB; have BK535 := n0_; have BK536 := n1_; have BK537 := n2_; have HB := n3_; clear n0_ n1_ n2_ n3_; (try clear hb); (try clear hb2); (try clear hk); (try clear hi); have hnb121 := NB536_535.out; have hnc121 := NB535_536.out; have hnb122 := NB536_537.out; have hnc122 := NB537_536.out; have hcz123_0 : w120.cell? ⟨gb536, 0, none⟩ = some (.int .i64 a1_0) := (blk_cell BK536.out 0).trans rfl; have hcz123_1 : w120.cell? ⟨gb536, 1, none⟩ = some (.int .i64 a1_1) := (blk_cell BK536.out 1).trans rfl; have hfz123_0 := blk_frozen BK536.out 0; have hfz123_1 := blk_frozen BK536.out 1; have hnb124 := NB535_537.out; have hnc124 := NB537_535.out; have hcz125_0 : w120.cell? ⟨gb535, 0, none⟩ = some (.int .i64 a0_0) := (blk_cell BK535.out 0).trans rfl; have hcz125_1 : w120.cell? ⟨gb535, 1, none⟩ = some (.int .i64 a0_1) := (blk_cell BK535.out 1).trans rfl; have hfz125_0 := blk_frozen BK535.out 0; have hfz125_1 := blk_frozen BK535.out 1) | (go_at_call 44; (with_reducible refine (ratio_Compare.calls a1_0 a1_1 a0_0 a0_1 t548 _ A65.out).mono ?_); rintro e w126 ⟨rfl, hb⟩; have n0_ := Aside0.mk (blk_below (g := gb535) (o := .cells #[.int .i64 a0_0, .int .i64 a0_1] 23 (0, 0)) (by (with_reducible repeat (first | refine blk_drewN ?_ _ | refine blk_drew ?_ | refine blk_alloc ?_ _)); exact BK535.out) hb); have n1_ := Aside0.mk (blk_below (g := gb536) (o := .cells #[.int .i64 a1_0, .int .i64 a1_1] 23 (0, 0)) (by (with_reducible repeat (first | refine blk_drewN ?_ _ | refine blk_drew ?_ | refine blk_alloc ?_ _)); exact BK536.out) hb); have n2_ := Aside0.mk (blk_below (g := gb537) (o := .cells #[.int .i64 a2_0, .int .i64 a2_1] 23 (0, 0)) (by (with_reducible repeat (first | refine blk_drewN ?_ _ | refine blk_drew ?_ | refine blk_alloc ?_ _)); exact BK537.out) hb); have n3_ := Aside0.mk (below_step (by repeat (first | (with_reducible first | exact HB.out | apply below_alloc | apply pw_below_drewN | apply below_drew1 | refine below_set ?_ GE535.out | refine below_set ?_ GE536.out | refine below_set ?_ GE537.out) | exact HB.out)) hb); clear BK535; clear BK536; clear BK537; clear HB; have BK535 := n0_; have BK536 := n1_; have BK537 := n2_; have HB := n3_; clear n0_ n1_ n2_ n3_; (try clear hb); (try clear hb2); (try clear hk); (try clear hi); have hcz127_0 : w126.cell? ⟨gb535, 0, none⟩ = some (.int .i64 a0_0) := (blk_cell BK535.out 0).trans rfl; have hcz127_1 : w126.cell? ⟨gb535, 1, none⟩ = some (.int .i64 a0_1) := (blk_cell BK535.out 1).trans rfl; have hfz127_0 := blk_frozen BK535.out 0; have hfz127_1 := blk_frozen BK535.out 1; have hcz128_0 : w126.cell? ⟨gb536, 0, none⟩ = some (.int .i64 a1_0) := (blk_cell BK536.out 0).trans rfl; have hcz128_1 : w126.cell? ⟨gb536, 1, none⟩ = some (.int .i64 a1_1) := (blk_cell BK536.out 1).trans rfl; have hfz128_0 := blk_frozen BK536.out 0; have hfz128_1 := blk_frozen BK536.out 1))
                            go_ret
                            exact ⟨by first | rfl | (simp [errW_none, errW_some] <;> rfl) | (simp [*, errW_none, errW_some] <;> rfl), by repeat (first | (with_reducible first | exact HB.out | apply below_alloc | apply pw_below_drewN | apply below_drew1 | refine below_set ?_ GE535.out | refine below_set ?_ GE536.out | refine below_set ?_ GE537.out) | exact HB.out)⟩
                          · rw [if_neg c119] at H
                            have c119b0 : decide (0 ≤ t542) = false := decide_eq_false c119
                            clear c119
                            obtain rfl := Option.some.inj H
                            go_wp2_with (first | ((with_reducible refine gate_callee (f := 27) rfl ?_); refine goesL_ (some 75) rfl rfl Try.func27 (by kernel_rfl) rfl #[] rfl (by (try simp only [List.map_toArray, List.map_cons, List.map_nil]); first | done | rfl | (simp only [List.length_drop, List.length_take]; rfl)) ?_; (with_reducible refine (mosaiclaw05_awake.calls kj40  true _ A63.out).mono ?_); rintro e w129 ⟨rfl, hb⟩; refine ⟨_, rfl, ?_⟩; have n0_ := Aside0.mk (blk_below (g := gb535) (o := .cells #[.int .i64 a0_0, .int .i64 a0_1] 23 (0, 0)) (by (with_reducible repeat (first | refine blk_drewN ?_ _ | refine blk_drew ?_ | refine blk_alloc ?_ _)); exact BK535.out) hb); have n1_ := Aside0.mk (blk_below (g := gb536) (o := .cells #[.int .i64 a1_0, .int .i64 a1_1] 23 (0, 0)) (by (with_reducible repeat (first | refine blk_drewN ?_ _ | refine blk_drew ?_ | refine blk_alloc ?_ _)); exact BK536.out) hb); have n2_ := Aside0.mk (blk_below (g := gb537) (o := .cells #[.int .i64 a2_0, .int .i64 a2_1] 23 (0, 0)) (by (with_reducible repeat (first | refine blk_drewN ?_ _ | refine blk_drew ?_ | refine blk_alloc ?_ _)); exact BK537.out) hb); have n3_ := Aside0.mk (below_step (by repeat (first | (with_reducible first | exact HB.out | apply below_alloc | apply pw_below_drewN | apply below_drew1 | refine below_set ?_ GE535.out | refine below_set ?_ GE536.out | refine below_set ?_ GE537.out) | exact HB.out)) hb); clear BK535; clear BK536; clear BK537; clear HB; have BK535 := n0_; have BK536 := n1_; have BK537 := n2_; have HB := n3_; clear n0_ n1_ n2_ n3_; (try clear hb); (try clear hb2); (try clear hk); (try clear hi); have hnb130 := NB536_535.out; have hnc130 := NB535_536.out; have hnb131 := NB536_537.out; have hnc131 := NB537_536.out; have hcz132_0 : w129.cell? ⟨gb536, 0, none⟩ = some (.int .i64 a1_0) := (blk_cell BK536.out 0).trans rfl; have hcz132_1 : w129.cell? ⟨gb536, 1, none⟩ = some (.int .i64 a1_1) := (blk_cell BK536.out 1).trans rfl; have hfz132_0 := blk_frozen BK536.out 0; have hfz132_1 := blk_frozen BK536.out 1; have hnb133 := NB535_537.out; have hnc133 := NB537_535.out; have hcz134_0 : w129.cell? ⟨gb535, 0, none⟩ = some (.int .i64 a0_0) := (blk_cell BK535.out 0).trans rfl; have hcz134_1 : w129.cell? ⟨gb535, 1, none⟩ = some (.int .i64 a0_1) := (blk_cell BK535.out 1).trans rfl; have hfz134_0 := blk_frozen BK535.out 0; have hfz134_1 := blk_frozen BK535.out 1) | (go_at_call 44; (with_reducible refine (ratio_Compare.calls a1_0 a1_1 a0_0 a0_1 t548 _ A65.out).mono ?_); rintro e w135 ⟨rfl, hb⟩; have n0_ := Aside0.mk (blk_below (g := gb535) (o := .cells #[.int .i64 a0_0, .int .i64 a0_1] 23 (0, 0)) (by (with_reducible repeat (first | refine blk_drewN ?_ _ | refine blk_drew ?_ | refine blk_alloc ?_ _)); exact BK535.out) hb); have n1_ := Aside0.mk (blk_below (g := gb536) (o := .cells #[.int .i64 a1_0, .int .i64 a1_1] 23 (0, 0)) (by (with_reducible repeat (first | refine blk_drewN ?_ _ | refine blk_drew ?_ | refine blk_alloc ?_ _)); exact BK536.out) hb); have n2_ := Aside0.mk (blk_below (g := gb537) (o := .cells #[.int .i64 a2_0, .int .i64 a2_1] 23 (0, 0)) (by (with_reducible repeat (first | refine blk_drewN ?_ _ | refine blk_drew ?_ | refine blk_alloc ?_ _)); exact BK537.out) hb); have n3_ := Aside0.mk (below_step (by repeat (first | (with_reducible first | exact HB.out | apply below_alloc | apply pw_below_drewN | apply below_drew1 | refine below_set ?_ GE535.out | refine below_set ?_ GE536.out | refine below_set ?_ GE537.out) | exact HB.out)) hb); clear BK535; clear BK536; clear BK537; clear HB; have BK535 := n0_; have BK536 := n1_; have BK537 := n2_; have HB := n3_; clear n0_ n1_ n2_ n3_; (try clear hb); (try clear hb2); (try clear hk); (try clear hi); have hcz136_0 : w135.cell? ⟨gb535, 0, none⟩ = some (.int .i64 a0_0) := (blk_cell BK535.out 0).trans rfl; have hcz136_1 : w135.cell? ⟨gb535, 1, none⟩ = some (.int .i64 a0_1) := (blk_cell BK535.out 1).trans rfl; have hfz136_0 := blk_frozen BK535.out 0; have hfz136_1 := blk_frozen BK535.out 1; have hcz137_0 : w135.cell? ⟨gb536, 0, none⟩ = some (.int .i64 a1_0) := (blk_cell BK536.out 0).trans rfl; have hcz137_1 : w135.cell? ⟨gb536, 1, none⟩ = some (.int .i64 a1_1) := (blk_cell BK536.out 1).trans rfl; have hfz137_0 := blk_frozen BK536.out 0; have hfz137_1 := blk_frozen BK536.out 1))
                            go_ret
                            exact ⟨by first | rfl | (simp [errW_none, errW_some] <;> rfl) | (simp [*, errW_none, errW_some] <;> rfl), by repeat (first | (with_reducible first | exact HB.out | apply below_alloc | apply pw_below_drewN | apply below_drew1 | refine below_set ?_ GE535.out | refine below_set ?_ GE536.out | refine below_set ?_ GE537.out) | exact HB.out)⟩
                        · rw [if_neg c118] at H
                          have c118b0 : decide (t544 ≤ 0) = false := decide_eq_false c118
                          clear c118
                          obtain rfl := Option.some.inj H
                          exact absurd HLAW.out (by decide)
                  · rw [if_neg c67] at H
                    have c67b0 : ((t542 == 0) == (a0_0 == a1_0 && (a0_1 == a1_1))) = false := by simpa using c67
                    (try (have c67b1 : decide ((t542 == 0) = (a0_0 == a1_0 && (a0_1 == a1_1))) = false := by simpa using c67))
                    (try (have c67b2 : ((t542 == 0) == (a0_0 == a1_0 && (a0_1 == a1_1))) = false := by simpa using c67))
                    (try (have c67b3 : ¬ ((t542 == 0) = (a0_0 == a1_0 && (a0_1 == a1_1))) := by simpa using c67))
                    clear c67
                    obtain rfl := Option.some.inj H
                    exact absurd HLAW.out (by decide)
                · rw [if_neg c66] at H
                  have c66b0 : (t542 == (wrap64 (-t548))) = false := beq_eq_false_iff_ne.mpr c66
                  have c66b1 : (t542 != (wrap64 (-t548))) = true := bne_iff_ne.mpr c66
                  obtain rfl := Option.some.inj H
                  exact absurd HLAW.out (by decide)
              · replace c64 := Bool.eq_false_iff.mpr c64
                subst c64
                have H1 : (some false) = some r := by rw [if_neg (show ¬ (false = true) by decide)] at H; exact H
                clear H
                have H := H1
                clear H1
                obtain rfl := Option.some.inj H
                exact absurd HLAW.out (by decide)

end Go.Proofs.Ytajkonnamldjaaa.Q
