/- Printed by a changed copy of a printer, shortened by a program: what these functions answer: slices_Clone_string_string outer_Whole merkle_may merkle_Leaf merkle_digests. No condition. -/
import Derived.Test.YtjmooillogojkaaGreatM36
set_option maxHeartbeats 8000000
set_option maxRecDepth 100000
set_option linter.unusedVariables false
set_option linter.unusedSimpArgs false
namespace Go.Proofs.YtjmooillogojkaaGreat.Q
open Go.RowKit Go.Proofs.YtjmooillogojkaaGreatW.PrintWords Go.Proofs.YtjmooillogojkaaGreatW.PrintLast Go.Proofs.YtjmooillogojkaaGreatW.PrintMore
open Go.Proofs.YtjmooillogojkaaGreat
def slices_Clone_string_string.f (l0 : List ByteArray) : Option (List ByteArray) := if 0 < l0.length ∧ l0.length < 1000000 then some l0 else none
theorem slices_Clone_string_string.calls (A0 : Option Addr) (c0 : Nat) (l0 : List ByteArray) (r : List ByteArray) (w : World) (hr0 : Kd.C Kd.string w A0 l0.length l0) (hc0 : l0.length ≤ c0) (h : slices_Clone_string_string.f l0 = some r) :
  Calls Tryz.prog 72 #[.slice A0 l0.length c0] w fun e w' => ∃ v0_ : Value, e = .returned (v0_) ∧ Kd.R Kd.string 9 w' w.heap.size (fun _ => True) v0_ r ∧ Below w.heap.size w w' := by
 unfold slices_Clone_string_string.f at h
 split at h
 ·rename_i hc
  obtain rfl := Option.some.inj h
  exact clone_ok w hr0 hc0 hc.1 hc.2
 ·exact absurd h (by simp)
mutual
def outer_Whole.j0 : Nat → List ByteArray → Bool → Int → Int → Int → Int → Option (List ByteArray × Int)
 | 0, _, _, _, _, _, _ => none
 | k + 1, x1, x23, x264000, x264001, x264002, x264003 => if x23 = true then (some (([] : List ByteArray), 1)) else ((slices_Clone_string_string.f x1).bind fun t266 => ((outer_members.f k x264000 x264001 x264002 x264003).bind fun t269 => (outer_Whole.l0 k x1 t266 t269 (t269.length : Int) 0)))
def outer_Whole.l0 : Nat → List ByteArray → List ByteArray → List (List Int) → Int → Int → Option (List ByteArray × Int)
 | 0, _, _, _, _, _ => none
 | k + 1, x1, x6, x27, x28, x29 => if x29 < x28 then (if 0 ≤ x29 then (if x29 < (x27.length : Int) then (if 0 < (x1.length : Int) then ((outer_sum.f k x1 (rd_L2 x27 x29) ((rdOf ByteArray.empty x1 0).size : Int)).bind fun t274 => (if x6.length < 8796093022208 then (outer_Whole.l0 k x1 (x6 ++ [t274]) x27 x28 (wrap64 (x29 + 1))) else (none))) else (none)) else (none)) else (none)) else (some (x6, 0))
end
def outer_Whole.f (k : Nat) (a0_0 : Int) (a0_1 : Int) (a0_2 : Int) (a0_3 : Int) (l1 : List ByteArray) : Option (List ByteArray × Int) := (outer_Check.f a0_0 a0_1 a0_2 a0_3).bind fun t264 => (if t264 = true then (if (l1.length : Int) = a0_1 then ((outer_sized.f l1).bind fun t265 => (outer_Whole.j0 k l1 (!t265) a0_0 a0_1 a0_2 a0_3)) else (outer_Whole.j0 k l1 true a0_0 a0_1 a0_2 a0_3)) else (outer_Whole.j0 k l1 true a0_0 a0_1 a0_2 a0_3))
theorem outer_Whole.calls (k : Nat) (a0_0 : Int) (a0_1 : Int) (a0_2 : Int) (a0_3 : Int) (A1 : Option Addr) (c1 : Nat) (l1 : List ByteArray) (r1 : List ByteArray) (r2 : Int) (w : World) (hr1 : Kd.C Kd.string w A1 l1.length l1) (hc1 : l1.length ≤ c1) (h : outer_Whole.f k a0_0 a0_1 a0_2 a0_3 l1 = some (r1, r2)) :
  Calls Tryz.prog 36 #[.agg #[.int .i64 a0_0, .int .i64 a0_1, .int .i64 a0_2, .int .i64 a0_3], .slice A1 l1.length c1] w fun e w' => ∃ v0_ : Value, e = .returned (.tuple #[v0_, .int .i64 r2]) ∧ Kd.R Kd.string 9 w' w.heap.size (fun _ => True) v0_ r1 ∧ Below w.heap.size w w' := by
 have hu55 := Tryz.underlying55
 have HR1 := jo hr1
 have HC1 := jo hc1
 clear hr1 hc1
 have HB := jo (Below.refl w.heap.size w)
 have H : ((outer_Check.f a0_0 a0_1 a0_2 a0_3).bind fun t264 => (if t264 = true then (if (l1.length : Int) = a0_1 then ((outer_sized.f l1).bind fun t265 => (outer_Whole.j0 k l1 (!t265) a0_0 a0_1 a0_2 a0_3)) else (outer_Whole.j0 k l1 true a0_0 a0_1 a0_2 a0_3)) else (outer_Whole.j0 k l1 true a0_0 a0_1 a0_2 a0_3))) = some (r1, r2) := h
 clear h
 have HC3 := jo H
 clear H
 go_enter Tryz.func36, Tryz.ntmps36
 go_upto_region 1 with (first | ((with_reducible refine gate_dst (N := 2) rfl ?_); (try (refine gate_guard (by rfl) ?_; dsimp only)); refine jx 2 #[.int .i64 a0_0, .int .i64 a0_1, .int .i64 a0_2, .int .i64 a0_3] 55 ?_; intro gb263 hg w4 hbox hb; have n0_ := jo (below_step jb hb); have n1_ := jo (hbox); have n2_ := jo ((by rw [hg]; exact (below_size jb) : w.heap.size ≤ gb263)); have n3_ := jo ((by rw [hg]; exact (below_size jb) : w.heap.size ≤ gb263)); clear HB; have HB := n0_; have BK263 := n1_; have GW263 := n2_; have GE263 := n3_; clear n0_ n1_ n2_ n3_; clear hb hbox hg))
 (try simp only [Act.put, List.setIfInBounds_toArray, List.set_cons_zero, List.set_cons_succ])
 go_cut [23] (fun v23 wc => ∃ (kq : Nat) (x23_2 : Bool), v23 = .bool x23_2 ∧ Aside0 (outer_Whole.j0 kq l1 x23_2 a0_0 a0_1 a0_2 a0_3 = some (r1, r2)) ∧ Aside0 (kq ≤ k) ∧ Aside0 (wc.heap[gb263]? = some (.cells #[.int .i64 a0_0, .int .i64 a0_1, .int .i64 a0_2, .int .i64 a0_3] 55 (0, 0))) ∧ Aside0 (Below w.heap.size w wc))
 case first =>
  have H := HC3.out
  clear HC3
  replace H := Option.bind_eq_some_iff.mp H
  obtain ⟨t264, A50, H⟩ := H
  replace H : (if t264 = true then (if (l1.length : Int) = a0_1 then ((outer_sized.f l1).bind fun t265 => (outer_Whole.j0 k l1 (!t265) a0_0 a0_1 a0_2 a0_3)) else (outer_Whole.j0 k l1 true a0_0 a0_1 a0_2 a0_3)) else (outer_Whole.j0 k l1 true a0_0 a0_1 a0_2 a0_3)) = some (r1, r2) := H
  have A5 := jo A50
  clear A50
  by_cases c6 : t264 = true
  ·subst c6
   have H1 : (if (l1.length : Int) = a0_1 then ((outer_sized.f l1).bind fun t265 => (outer_Whole.j0 k l1 (!t265) a0_0 a0_1 a0_2 a0_3)) else (outer_Whole.j0 k l1 true a0_0 a0_1 a0_2 a0_3)) = some (r1, r2) := by rw [if_pos rfl] at H; exact H
   clear H
   have H := H1
   clear H1
   by_cases c7 : (l1.length : Int) = a0_1
   ·rw [if_pos c7] at H
    have c7b0 : ((l1.length : Int) == a0_1) = true := beq_iff_eq.mpr c7
    have c7b1 : ((l1.length : Int) != a0_1) = false := bne_eq_false_iff_eq.mpr c7
    clear c7
    (first | rw [c7b0] | (simp only [i64_w, i32_w]; rw [c7b0]) | skip)
    replace H := Option.bind_eq_some_iff.mp H
    obtain ⟨t265, A80, H⟩ := H
    replace H : (outer_Whole.j0 k l1 (!t265) a0_0 a0_1 a0_2 a0_3) = some (r1, r2) := H
    have A8 := jo A80
    clear A80
    have H' := jo H
    clear H
    have hcz9_0 := fun i => blk_cell BK263.out i
    have hfz9_0 := fun i => blk_frozen BK263.out i
    go_wp2_with (first | ((with_reducible refine gate_callee (f := 42) rfl ?_); refine goesL_ (some 10) rfl rfl Tryz.func42 jw rfl #[.agg #[.int .i64 a0_0, .int .i64 a0_1, .int .i64 a0_2, .int .i64 a0_3]] rfl jm ?_; (with_reducible refine (outer_Check.calls a0_0 a0_1 a0_2 a0_3 true _ A5.out).mono ?_); rintro e w10 ⟨rfl, hb⟩; refine ⟨_, rfl, ?_⟩; have n0_ := jo (blk_below (g := gb263) (o := .cells #[.int .i64 a0_0, .int .i64 a0_1, .int .i64 a0_2, .int .i64 a0_3] 55 (0, 0)) (jk BK263.out) hb); have n1_ := jo (below_step jb hb); clear BK263; clear HB; have BK263 := n0_; have HB := n1_; clear n0_ n1_; (try clear hb); (try clear hb2); (try clear hk); (try clear hi); have hcz11_0 := fun i => blk_cell BK263.out i; have hfz11_0 := fun i => blk_frozen BK263.out i) | (go_at_call 71; (with_reducible refine (outer_sized.calls _ _ l1 t265 _ ?side1 ?side2 A8.out).mono ?_); (case side1 => repeat (first | exact (Kd.C_below HR1.out HB.out) | (with_reducible refine Kd.C_alloc ?_ _) | (with_reducible refine Kd.C_drewN ?_ _) | (with_reducible refine Kd.C_drew ?_))); (case side2 => exact HC1.out); rintro e w12 ⟨rfl, hb⟩; have n0_ := jo (blk_below (g := gb263) (o := .cells #[.int .i64 a0_0, .int .i64 a0_1, .int .i64 a0_2, .int .i64 a0_3] 55 (0, 0)) (jk BK263.out) hb); have n1_ := jo (below_step jb hb); clear BK263; clear HB; have BK263 := n0_; have HB := n1_; clear n0_ n1_; (try clear hb); (try clear hb2); (try clear hk); (try clear hi)))
    go_meet
    case rel => exact ⟨_, (!t265), js, H', ⟨by first | omega | exact Nat.le_refl _⟩, ⟨by (with_reducible repeat (first | refine blk_drewN ?_ _ | refine blk_drew ?_ | refine blk_alloc ?_ _)); exact BK263.out⟩, ⟨jb⟩⟩
   ·rw [if_neg c7] at H
    have c7b0 : ((l1.length : Int) == a0_1) = false := beq_eq_false_iff_ne.mpr c7
    have c7b1 : ((l1.length : Int) != a0_1) = true := bne_iff_ne.mpr c7
    (first | rw [c7b0] | (simp only [i64_w, i32_w]; rw [c7b0]) | skip)
    have H' := jo H
    clear H
    have hcz13_0 := fun i => blk_cell BK263.out i
    have hfz13_0 := fun i => blk_frozen BK263.out i
    go_wp2_with (first | ((with_reducible refine gate_callee (f := 42) rfl ?_); refine goesL_ (some 10) rfl rfl Tryz.func42 jw rfl #[.agg #[.int .i64 a0_0, .int .i64 a0_1, .int .i64 a0_2, .int .i64 a0_3]] rfl jm ?_; (with_reducible refine (outer_Check.calls a0_0 a0_1 a0_2 a0_3 true _ A5.out).mono ?_); rintro e w14 ⟨rfl, hb⟩; refine ⟨_, rfl, ?_⟩; have n0_ := jo (blk_below (g := gb263) (o := .cells #[.int .i64 a0_0, .int .i64 a0_1, .int .i64 a0_2, .int .i64 a0_3] 55 (0, 0)) (jk BK263.out) hb); have n1_ := jo (below_step jb hb); clear BK263; clear HB; have BK263 := n0_; have HB := n1_; clear n0_ n1_; (try clear hb); (try clear hb2); (try clear hk); (try clear hi); have hcz15_0 := fun i => blk_cell BK263.out i; have hfz15_0 := fun i => blk_frozen BK263.out i))
    go_meet
    case rel => exact ⟨_, (true), js, H', ⟨by first | omega | exact Nat.le_refl _⟩, ⟨by (with_reducible repeat (first | refine blk_drewN ?_ _ | refine blk_drew ?_ | refine blk_alloc ?_ _)); exact BK263.out⟩, ⟨jb⟩⟩
  ·replace c6 := Bool.eq_false_iff.mpr c6
   subst c6
   have H1 : (outer_Whole.j0 k l1 true a0_0 a0_1 a0_2 a0_3) = some (r1, r2) := by rw [if_neg (show ¬ (false = true) by decide)] at H; exact H
   clear H
   have H := H1
   clear H1
   have H' := jo H
   clear H
   have hcz16_0 := fun i => blk_cell BK263.out i
   have hfz16_0 := fun i => blk_frozen BK263.out i
   go_wp2_with (first | ((with_reducible refine gate_callee (f := 42) rfl ?_); refine goesL_ (some 10) rfl rfl Tryz.func42 jw rfl #[.agg #[.int .i64 a0_0, .int .i64 a0_1, .int .i64 a0_2, .int .i64 a0_3]] rfl jm ?_; (with_reducible refine (outer_Check.calls a0_0 a0_1 a0_2 a0_3 false _ A5.out).mono ?_); rintro e w17 ⟨rfl, hb⟩; refine ⟨_, rfl, ?_⟩; have n0_ := jo (blk_below (g := gb263) (o := .cells #[.int .i64 a0_0, .int .i64 a0_1, .int .i64 a0_2, .int .i64 a0_3] 55 (0, 0)) (jk BK263.out) hb); have n1_ := jo (below_step jb hb); clear BK263; clear HB; have BK263 := n0_; have HB := n1_; clear n0_ n1_; (try clear hb); (try clear hb2); (try clear hk); (try clear hi)))
   go_meet
   case rel => exact ⟨_, (true), js, H', ⟨by first | omega | exact Nat.le_refl _⟩, ⟨by (with_reducible repeat (first | refine blk_drewN ?_ _ | refine blk_drew ?_ | refine blk_alloc ?_ _)); exact BK263.out⟩, ⟨jb⟩⟩
 case rest =>
  clear HC3
  try clear c1
  try clear p2
  try clear c3
  try clear c4
  try clear c6
  try clear c7
  try clear c7b0
  try clear c7b1
  try clear hcz11_0
  try clear hcz13_0
  try clear hcz15_0
  try clear hcz16_0
  try clear hcz9_0
  try clear hfz11_0
  try clear hfz13_0
  try clear hfz15_0
  try clear hfz16_0
  try clear hfz9_0
  obtain ⟨kq, x23_2, rfl, HA, HJ2, BK263, HB⟩ := hcut
  cases kq with
  | zero => exact absurd HA.out (by simp [outer_Whole.j0])
  | succ kj2 =>
   have H := HA.out
   clear HA
   simp only [outer_Whole.j0] at H
   by_cases c18 : x23_2 = true
   ·subst c18
    have H1 : (some (([] : List ByteArray), 1)) = some (r1, r2) := by rw [if_pos rfl] at H; exact H
    clear H
    have H := H1
    clear H1
    simp only [Option.some.injEq, Prod.mk.injEq] at H
    obtain ⟨rfl, rfl⟩ := H
    go_wp2
    go_ret2
    exact ⟨_, je, by first | exact Kd.R_nil _ _ _ _ _ | exact Kd.N_nil _ _ _ _ _ | exact Kd.V_nil _ _ _ _ _ | exact Kd.Q_nil _ _ _ _ _ | exact Kd.S_nil _ _ _ _ _, jb⟩
   ·replace c18 := Bool.eq_false_iff.mpr c18
    subst c18
    have H1 : ((slices_Clone_string_string.f l1).bind fun t266 => ((outer_members.f kj2 a0_0 a0_1 a0_2 a0_3).bind fun t269 => (outer_Whole.l0 kj2 l1 t266 t269 (t269.length : Int) 0))) = some (r1, r2) := by rw [if_neg (show ¬ (false = true) by decide)] at H; exact H
    clear H
    have H := H1
    clear H1
    replace H := Option.bind_eq_some_iff.mp H
    obtain ⟨t266, A190, H⟩ := H
    replace H : ((outer_members.f kj2 a0_0 a0_1 a0_2 a0_3).bind fun t269 => (outer_Whole.l0 kj2 l1 t266 t269 (t269.length : Int) 0)) = some (r1, r2) := H
    have A19 := jo A190
    clear A190
    replace H := Option.bind_eq_some_iff.mp H
    obtain ⟨t269, A200, H⟩ := H
    replace H : (outer_Whole.l0 kj2 l1 t266 t269 (t269.length : Int) 0) = some (r1, r2) := H
    have A20 := jo A200
    clear A200
    have H' := jo H
    clear H
    go_wp2_with (first | ((with_reducible refine gate_callee (f := 72) rfl ?_); refine goesL_ (some 25) rfl rfl Tryz.func72 jw rfl #[.slice A1 l1.length c1] rfl jm ?_; (with_reducible refine (slices_Clone_string_string.calls _ _ l1 t266 _ ?side1 ?side2 A19.out).mono ?_); (case side1 => repeat (first | exact (Kd.C_below HR1.out HB.out) | (with_reducible refine Kd.C_alloc ?_ _) | (with_reducible refine Kd.C_drewN ?_ _) | (with_reducible refine Kd.C_drew ?_))); (case side2 => exact HC1.out); rintro e w21 ⟨v267, rfl, ho0, hb⟩; refine ⟨_, rfl, ?_⟩; have n0_ := jo (Kd.R_lower ho0 (below_size jb)); have n1_ := jo (blk_below (g := gb263) (o := .cells #[.int .i64 a0_0, .int .i64 a0_1, .int .i64 a0_2, .int .i64 a0_3] 55 (0, 0)) (jk BK263.out) hb); have n2_ := jo (below_step jb hb); clear BK263; clear HB; have HO268 := n0_; have BK263 := n1_; have HB := n2_; clear n0_ n1_ n2_; (try clear hb); (try clear hb2); (try clear hk); (try clear hi); (try clear ho0); have hcz22_0 := fun i => blk_cell BK263.out i; have hfz22_0 := fun i => blk_frozen BK263.out i) | ((with_reducible refine gate_callee (f := 73) rfl ?_); refine goesL_ (some 27) rfl rfl Tryz.func73 jw rfl #[.agg #[.int .i64 a0_0, .int .i64 a0_1, .int .i64 a0_2, .int .i64 a0_3]] rfl jm ?_; (with_reducible refine (outer_members.calls kj2 a0_0 a0_1 a0_2 a0_3 t269 _ A20.out).mono ?_); rintro e w23 ⟨v270, rfl, ho0, hb⟩; refine ⟨_, rfl, ?_⟩; have n0_ := jo (Kd.R_below (jr HO268.out) hb); have n1_ := jo (Kd.S_lower ho0 (below_size jb)); have n2_ := jo (blk_below (g := gb263) (o := .cells #[.int .i64 a0_0, .int .i64 a0_1, .int .i64 a0_2, .int .i64 a0_3] 55 (0, 0)) (jk BK263.out) hb); have n3_ := jo (below_step jb hb); clear HO268; clear BK263; clear HB; have HO268 := n0_; have HO271 := n1_; have BK263 := n2_; have HB := n3_; clear n0_ n1_ n2_ n3_; (try clear hb); (try clear hb2); (try clear hk); (try clear hi); (try clear ho0); obtain ⟨Ao24, co24, eo24⟩ := Kd.S_slice HO271.out; subst eo24))
    go_loopg [6, 29] kj2 (fun kq v6 v29 w' => ∃ (x6_2 : List ByteArray) (x29_2 : Int), v29 = .int .i64 x29_2 ∧ Aside0 (outer_Whole.l0 kq l1 x6_2 t269 (t269.length : Int) x29_2 = some (r1, r2)) ∧ Aside0 (kq ≤ kj2) ∧ Aside0 (Kd.R Kd.string 9 w' w.heap.size (fun _ => True) v6 x6_2) ∧ Aside0 (Kd.S (Kd.slice 3 (Kd.int .i64)) 44 w' w.heap.size (fun _ => True) (.slice Ao24 t269.length co24) t269) ∧ Aside0 (w'.heap[gb263]? = some (.cells #[.int .i64 a0_0, .int .i64 a0_1, .int .i64 a0_2, .int .i64 a0_3] 55 (0, 0))) ∧ Aside0 (Below w.heap.size w w'))
    case atStart => exact ⟨(t266), (0), js, H', ⟨Nat.le_refl _⟩, ⟨jr HO268.out⟩, ⟨by (with_reducible repeat (first | apply Kd.S_alloc | apply Kd.S_drewN | apply Kd.S_drew)); exact HO271.out⟩, ⟨by (with_reducible repeat (first | refine blk_drewN ?_ _ | refine blk_drew ?_ | refine blk_alloc ?_ _)); exact BK263.out⟩, ⟨jb⟩⟩
    case round =>
     clear H'
     try clear c1
     try clear p2
     try clear c3
     try clear c4
     try clear c6
     try clear c7
     try clear c7b0
     try clear c7b1
     try clear c18
     try clear hcz11_0
     try clear hcz13_0
     try clear hcz15_0
     try clear hcz16_0
     try clear hcz22_0
     try clear hcz9_0
     try clear hfz11_0
     try clear hfz13_0
     try clear hfz15_0
     try clear hfz16_0
     try clear hfz22_0
     try clear hfz9_0
     try clear p2
     obtain ⟨x6_2, x29_2, rfl, HA, HK2, HO_6, HO_27, BK263, HB⟩ := hrel
     cases gk with
     | zero => exact absurd HA.out (by simp [outer_Whole.l0])
     | succ k2 =>
      have H := HA.out
      clear HA
      simp only [outer_Whole.l0] at H
      by_cases c25 : x29_2 < (t269.length : Int)
      ·rw [if_pos c25] at H
       have c25b0 : decide (x29_2 < (t269.length : Int)) = true := decide_eq_true c25
       clear c25
       by_cases c26 : 0 ≤ x29_2
       ·rw [if_pos c26] at H
        have c26b0 : decide (0 ≤ x29_2) = true := decide_eq_true c26
        clear c26
        by_cases c27 : x29_2 < (t269.length : Int)
        ·rw [if_pos c27] at H
         have c27b0 : decide (x29_2 < (t269.length : Int)) = true := decide_eq_true c27
         clear c27
         by_cases c28 : 0 < (l1.length : Int)
         ·rw [if_pos c28] at H
          have c28b0 : decide (0 < (l1.length : Int)) = true := decide_eq_true c28
          have c28b1 : decide (0 < l1.length) = true := decide_eq_true (by omega)
          clear c28
          replace H := Option.bind_eq_some_iff.mp H
          obtain ⟨t274, A290, H⟩ := H
          replace H : (if x6_2.length < 8796093022208 then (outer_Whole.l0 k2 l1 (x6_2 ++ [t274]) t269 (t269.length : Int) (wrap64 (x29_2 + 1))) else (none)) = some (r1, r2) := H
          have A29 := jo A290
          clear A290
          by_cases c30 : x6_2.length < 8796093022208
          ·rw [if_pos c30] at H
           have LMc30 := jo c30
           clear c30
           obtain ⟨y275, hy275⟩ : ∃ y_ : List ByteArray, y_ = (x6_2 ++ [t274]) := ⟨_, rfl⟩
           replace H : (outer_Whole.l0 k2 l1 y275 t269 (t269.length : Int) (wrap64 (x29_2 + 1))) = some (r1, r2) := by first | (rw [hy275]; with_reducible exact H) | (have H2_ := (Option.bind_some _ _).symm.trans H; rw [hy275]; with_reducible exact H2_) | (have H2_ := (Option.bind_some _ _).symm.trans H; with_reducible exact H2_) | with_reducible exact H | (rw [hy275]; exact H) | exact H
           have Ny275 := jo hy275
           clear hy275
           have H' := jo H
           clear H
           have p272 : 0 ≤ (x29_2 : Int) := of_decide_eq_true ja
           have q272 : x29_2 < (t269.length : Int) := of_decide_eq_true ja
           obtain ⟨ad272, A272_0, c272_0, e272, hx272_0, hl272_0, hi272_0⟩ := at_L2 (Kd.S_reads' HO_27.out).2.2 x29_2 p272 q272
           cases e272
           obtain ⟨ce272, hce272, hMe272, hcc272⟩ := Kd.S_get HO_27.out [] x29_2 p272 (by first | exact q272 | exact of_decide_eq_true ja | (have e_ := (Kd.S_reads' HO_27.out).1; omega))
           obtain ⟨ve272_0, rfl, ge272_0⟩ := hMe272
           have hv272_0 := hcc272 0 _ rfl
           rw [Nat.add_zero, show ((Kd.slice 3 (Kd.int .i64))).sz = 1 from rfl, Nat.mul_one] at hv272_0
           replace hv272_0 := Option.some.inj (hv272_0.symm.trans hx272_0)
           rw [hv272_0] at ge272_0
           have HL272_0 := jo (show Kd.R (Kd.int .i64) 3 _ _ _ _ (rd_L2 t269 x29_2) from ge272_0)
           clear hv272_0 ge272_0
           clear hcc272 hce272
           have HR272_0 := jo hi272_0
           have HC272_0 := jo hl272_0
           clear hi272_0 hl272_0
           replace p272 := eq_true p272
           replace q272 := eq_true q272
           have p273 : 0 ≤ (0 : Int) := (by omega)
           have q273 : 0 < (l1.length : Int) := of_decide_eq_true ja
           obtain ⟨ad273, e273, hx273_0⟩ := Kd.at_string HR1.out 0 p273 q273
           cases e273
           have qi273 : (0 < l1.length) = True := eq_true (by omega)
           (try rw [show ((0 : Int)).toNat = 0 from rfl] at hx273_0)
           (try rw [Addr.add_zero'] at hx273_0)
           replace hx273_0 := (HB.out.cell (World.block_lt_of_cell? w _ hx273_0)).trans hx273_0
           replace p273 := eq_true p273
           replace q273 := eq_true q273
           go_wp2_with (first | ((with_reducible refine gate_callee (f := 74) rfl ?_); refine goesL_ (some 40) rfl rfl Tryz.func74 jw rfl #[.slice (some ad273) l1.length c1, .slice A272_0 (rd_L2 t269 x29_2).length c272_0, .int .i64 ((rdOf ByteArray.empty l1 0).size : Int)] rfl jm ?_; (with_reducible refine (outer_sum.calls k2 _ _ l1 _ _ (rd_L2 t269 x29_2) ((rdOf ByteArray.empty l1 0).size : Int) t274 _ ?side1 ?side2 ?side3 ?side4 A29.out).mono ?_); (case side1 => repeat (first | exact (Kd.C_below HR1.out HB.out) | (with_reducible refine Kd.C_alloc ?_ _) | (with_reducible refine Kd.C_drewN ?_ _) | (with_reducible refine Kd.C_drew ?_))); (case side2 => exact HC1.out); (case side3 => repeat (first | exact (by repeat (first | (with_reducible exact HR272_0.out) | (with_reducible refine Kd.C_alloc ?_ _) | (with_reducible refine Kd.C_drewN ?_ _) | (with_reducible refine Kd.C_drew ?_) | exact HR272_0.out)) | (with_reducible refine Kd.C_alloc ?_ _) | (with_reducible refine Kd.C_drewN ?_ _) | (with_reducible refine Kd.C_drew ?_))); (case side4 => exact HC272_0.out); rintro e w31 ⟨rfl, hb⟩; refine ⟨_, rfl, ?_⟩; have n0_ := jo (Kd.R_below (jr HO_6.out) hb); have n1_ := jo (Kd.S_below (by (with_reducible repeat (first | apply Kd.S_alloc | apply Kd.S_drewN | apply Kd.S_drew)); exact HO_27.out) hb); have n2_ := jo (Kd.R_below (jr HL272_0.out) hb); have n3_ := jo (blk_below (g := gb263) (o := .cells #[.int .i64 a0_0, .int .i64 a0_1, .int .i64 a0_2, .int .i64 a0_3] 55 (0, 0)) (jk BK263.out) hb); have n4_ := jo (Kd.C_below (by repeat (first | (with_reducible exact HR272_0.out) | (with_reducible refine Kd.C_alloc ?_ _) | (with_reducible refine Kd.C_drewN ?_ _) | (with_reducible refine Kd.C_drew ?_) | exact HR272_0.out)) hb); have n5_ := jo (below_step jb hb); clear HO_6; clear HO_27; clear HL272_0; clear BK263; clear HR272_0; clear HB; have HO_6 := n0_; have HO_27 := n1_; have HL272_0 := n2_; have BK263 := n3_; have HR272_0 := n4_; have HB := n5_; clear n0_ n1_ n2_ n3_ n4_ n5_; (try clear hb); (try clear hb2); (try clear hk); (try clear hi)) | ((with_reducible refine gate_builtin (b := .append) (xs := #[.tmp 33, .tmp 41]) rfl ?_); (try (refine gate_guard (by rfl) ?_; dsimp only)); at_builtin; refine Kd.R_append Kd.string (w0 := w) w.heap.size rfl (.tmp 33) (.tmp 41) 31 9 (.string ⟨#[]⟩) 16 rfl Tryz.underlying31 info9 rfl (by decide) (by omega) u6 x6_2 t274 [.string t274] (fun _ => True) (fun _ => False) rfl rfl ?aP (fun _ hk => hk.elim) ?aF ?aO ?aB ?aS ?aL ?_; (case aP => exact rfl); (case aB => exact jb); (case aF => exact (fun _ _ => trivial)); (case aO => exact (jr HO_6.out)); (case aS => exact (below_size jb)); (case aL => have := LMc30.out; omega); intro v276 w32 ho hb hg hat; rw [← Ny275.out] at ho; have n0_ := jo (Kd.S_over' (by (with_reducible repeat (first | apply Kd.S_alloc | apply Kd.S_drewN | apply Kd.S_drew)); exact HO_27.out) (Kd.R_typed (jr HO_6.out)) (by decide) hg); have n1_ := jo (blk_grown (g := gb263) (o := .cells #[.int .i64 a0_0, .int .i64 a0_1, .int .i64 a0_2, .int .i64 a0_3] 55 (0, 0)) (jk BK263.out) hg (Kd.R_ne HO_6.out BK263.out (by decide))); have n2_ := jo (Kd.R_over' (jr HL272_0.out) (Kd.R_typed (jr HO_6.out)) (by decide) hg); have n3_ := jo (hb); have n4_ := jo (ho); clear HO_27; clear BK263; clear HL272_0; clear HB; clear HO_6; have HO_27 := n0_; have BK263 := n1_; have HL272_0 := n2_; have HB := n3_; have HO277 := n4_; clear n0_ n1_ n2_ n3_ n4_; clear ho hb hg hat))
           go_roundg k2
           case measure => have := HJ2.out; have := HK2.out; omega
           case rel => exact ⟨(y275), (wrap64 (x29_2 + 1)), js, H', ⟨by have := HJ2.out; have := HK2.out; omega⟩, ⟨jr HO277.out⟩, ⟨by (with_reducible repeat (first | apply Kd.S_alloc | apply Kd.S_drewN | apply Kd.S_drew)); exact HO_27.out⟩, ⟨by (with_reducible repeat (first | refine blk_drewN ?_ _ | refine blk_drew ?_ | refine blk_alloc ?_ _)); exact BK263.out⟩, ⟨jb⟩⟩
          ·rw [if_neg c30] at H
           exact absurd H (by simp)
         ·rw [if_neg c28] at H
          exact absurd H (by simp)
        ·rw [if_neg c27] at H
         exact absurd H (by simp)
       ·rw [if_neg c26] at H
        exact absurd H (by simp)
      ·rw [if_neg c25] at H
       have c25b0 : decide (x29_2 < (t269.length : Int)) = false := decide_eq_false c25
       clear c25
       simp only [Option.some.injEq, Prod.mk.injEq] at H
       obtain ⟨rfl, rfl⟩ := H
       go_wp2
       go_ret2
       exact ⟨_, je, jr HO_6.out, jb⟩
def merkle_may.f (l0 : List ByteArray) : Option Int := if 0 < l0.length ∧ l0.length ≤ 256 ∧ ∀ s ∈ l0, s.size ≤ 1024 then some 0 else none
theorem merkle_may.calls (A0 : Option Addr) (c0 : Nat) (l0 : List ByteArray) (r : Int) (w : World) (hr0 : Kd.C Kd.string w A0 l0.length l0) (hc0 : l0.length ≤ c0) (h : merkle_may.f l0 = some r) :
  Calls Tryz.prog 76 #[.slice A0 l0.length c0] w fun e w' => e = .returned (.int .i64 r) ∧ Below w.heap.size w w' := by
 unfold merkle_may.f at h
 split at h
 ·rename_i hc
  obtain rfl := Option.some.inj h
  exact merkle_ok w hr0 hc0 hc.1 hc.2.1 hc.2.2
 ·exact absurd h (by simp)
def merkle_Leaf.f (a0 : ByteArray) : Option (ByteArray) := if 1 + a0.size ≤ 9223372036854775807 then ((sha_Sum.f ((⟨#[0]⟩ : ByteArray) ++ a0)).bind fun t280 => (some t280)) else (none)
theorem merkle_Leaf.calls (a0 : ByteArray) (r : ByteArray) (w : World) (h : merkle_Leaf.f a0 = some r) :
  Calls Tryz.prog 111 #[.string a0] w fun e w' => e = .returned (.string r) ∧ Below w.heap.size w w' := by
 have HB := jo (Below.refl w.heap.size w)
 have H : (if 1 + a0.size ≤ 9223372036854775807 then ((sha_Sum.f ((⟨#[0]⟩ : ByteArray) ++ a0)).bind fun t280 => (some t280)) else (none)) = some r := h
 clear h
 by_cases c2 : 1 + a0.size ≤ 9223372036854775807
 ·rw [if_pos c2] at H
  have c2b0 := eq_true c2
  have c2b1 : decide (1 + a0.size ≤ 9223372036854775807) = true := decide_eq_true c2
  try have c2b2 : (9223372036854775807 < 1 + a0.size) = False := eq_false (Nat.not_lt.2 c2)
  replace H := Option.bind_eq_some_iff.mp H
  obtain ⟨t280, A30, H⟩ := H
  replace H : (some t280) = some r := H
  have A3 := jo A30
  clear A30
  obtain rfl := Option.some.inj H
  go_enter Tryz.func111, Tryz.ntmps111
  go_wp2_with (first | ((with_reducible refine gate_callee (f := 145) rfl ?_); refine goesL_ (some 5) rfl rfl Tryz.func145 jw rfl #[.string ((⟨#[0]⟩ : ByteArray) ++ a0)] rfl jm ?_; (with_reducible refine (sha_Sum.calls ((⟨#[0]⟩ : ByteArray) ++ a0) t280 _ A3.out).mono ?_); rintro e w4 ⟨rfl, hb⟩; refine ⟨_, rfl, ?_⟩; have n0_ := jo (below_step jb hb); clear HB; have HB := n0_; clear n0_; (try clear hb); (try clear hb2); (try clear hk); (try clear hi)))
  go_ret
  exact ⟨je, jb⟩
 ·rw [if_neg c2] at H
  exact absurd H (by simp)
def merkle_digests.l0 : Nat → List ByteArray → List ByteArray → Int → Int → Option (List ByteArray)
 | 0, _, _, _, _ => none
 | k + 1, x3, x6, x7, x8 => if x8 < x7 then (if 0 ≤ x8 then (if x8 < (x6.length : Int) then ((merkle_Leaf.f (rdOf ByteArray.empty x6 x8)).bind fun t282 => (if x3.length < 8796093022208 then (merkle_digests.l0 k (x3 ++ [t282]) x6 x7 (wrap64 (x8 + 1))) else (none))) else (none)) else (none)) else (some x3)
def merkle_digests.f (k : Nat) (l0 : List ByteArray) : Option (List ByteArray) := merkle_digests.l0 k ([] : List ByteArray) l0 (l0.length : Int) 0
theorem merkle_digests.calls (k : Nat) (A0 : Option Addr) (c0 : Nat) (l0 : List ByteArray) (r : List ByteArray) (w : World) (hr0 : Kd.C Kd.string w A0 l0.length l0) (hc0 : l0.length ≤ c0) (h : merkle_digests.f k l0 = some r) :
  Calls Tryz.prog 77 #[.slice A0 l0.length c0] w fun e w' => ∃ v0_ : Value, e = .returned (v0_) ∧ Kd.R Kd.string 9 w' w.heap.size (fun _ => True) v0_ r ∧ Below w.heap.size w w' := by
 have HR0 := jo hr0
 have HC0 := jo hc0
 clear hr0 hc0
 have HB := jo (Below.refl w.heap.size w)
 have H : (merkle_digests.l0 k ([] : List ByteArray) l0 (l0.length : Int) 0) = some r := h
 clear h
 have H' := jo H
 clear H
 go_enter Tryz.func77, Tryz.ntmps77
 go_wp2
 go_loopg [3, 8] k (fun kq v3 v8 w' => ∃ (x3_1 : List ByteArray) (x8_1 : Int), v8 = .int .i64 x8_1 ∧ Aside0 (merkle_digests.l0 kq x3_1 l0 (l0.length : Int) x8_1 = some r) ∧ Aside0 (kq ≤ k) ∧ Aside0 (Kd.R Kd.string 9 w' w.heap.size (fun _ => True) v3 x3_1) ∧ Aside0 (Below w.heap.size w w'))
 case atStart => exact ⟨(([] : List ByteArray)), (0), js, H', ⟨Nat.le_refl _⟩, ⟨by first | exact Kd.R_nil _ _ _ _ _ | exact Kd.N_nil _ _ _ _ _ | exact Kd.V_nil _ _ _ _ _ | exact Kd.Q_nil _ _ _ _ _ | exact Kd.S_nil _ _ _ _ _⟩, ⟨jb⟩⟩
 case round =>
  clear H'
  obtain ⟨x3_1, x8_1, rfl, HA, HK1, HO_3, HB⟩ := hrel
  cases gk with
  | zero => exact absurd HA.out (by simp [merkle_digests.l0])
  | succ k1 =>
   have H := HA.out
   clear HA
   simp only [merkle_digests.l0] at H
   by_cases c2 : x8_1 < (l0.length : Int)
   ·rw [if_pos c2] at H
    have c2b0 : decide (x8_1 < (l0.length : Int)) = true := decide_eq_true c2
    clear c2
    by_cases c3 : 0 ≤ x8_1
    ·rw [if_pos c3] at H
     have c3b0 : decide (0 ≤ x8_1) = true := decide_eq_true c3
     clear c3
     by_cases c4 : x8_1 < (l0.length : Int)
     ·rw [if_pos c4] at H
      have c4b0 : decide (x8_1 < (l0.length : Int)) = true := decide_eq_true c4
      clear c4
      replace H := Option.bind_eq_some_iff.mp H
      obtain ⟨t282, A50, H⟩ := H
      replace H : (if x3_1.length < 8796093022208 then (merkle_digests.l0 k1 (x3_1 ++ [t282]) l0 (l0.length : Int) (wrap64 (x8_1 + 1))) else (none)) = some r := H
      have A5 := jo A50
      clear A50
      by_cases c6 : x3_1.length < 8796093022208
      ·rw [if_pos c6] at H
       have LMc6 := jo c6
       clear c6
       obtain ⟨y283, hy283⟩ : ∃ y_ : List ByteArray, y_ = (x3_1 ++ [t282]) := ⟨_, rfl⟩
       replace H : (merkle_digests.l0 k1 y283 l0 (l0.length : Int) (wrap64 (x8_1 + 1))) = some r := by first | (rw [hy283]; with_reducible exact H) | (have H2_ := (Option.bind_some _ _).symm.trans H; rw [hy283]; with_reducible exact H2_) | (have H2_ := (Option.bind_some _ _).symm.trans H; with_reducible exact H2_) | with_reducible exact H | (rw [hy283]; exact H) | exact H
       have Ny283 := jo hy283
       clear hy283
       have H' := jo H
       clear H
       have p281 : 0 ≤ (x8_1 : Int) := of_decide_eq_true ja
       have q281 : x8_1 < (l0.length : Int) := of_decide_eq_true ja
       obtain ⟨ad281, e281, hx281_0⟩ := Kd.at_string HR0.out x8_1 p281 q281
       cases e281
       replace hx281_0 := (HB.out.cell (World.block_lt_of_cell? w _ hx281_0)).trans hx281_0
       replace p281 := eq_true p281
       replace q281 := eq_true q281
       go_wp2_with (first | ((with_reducible refine gate_callee (f := 111) rfl ?_); refine goesL_ (some 14) rfl rfl Tryz.func111 jw rfl #[.string (rdOf ByteArray.empty l0 x8_1)] rfl jm ?_; (with_reducible refine (merkle_Leaf.calls (rdOf ByteArray.empty l0 x8_1) t282 _ A5.out).mono ?_); rintro e w7 ⟨rfl, hb⟩; refine ⟨_, rfl, ?_⟩; have n0_ := jo (Kd.R_below (jr HO_3.out) hb); have n1_ := jo (below_step jb hb); clear HO_3; clear HB; have HO_3 := n0_; have HB := n1_; clear n0_ n1_; (try clear hb); (try clear hb2); (try clear hk); (try clear hi)) | ((with_reducible refine gate_builtin (b := .append) (xs := #[.tmp 12, .tmp 15]) rfl ?_); at_builtin; refine Kd.R_append Kd.string (w0 := w) w.heap.size rfl (.tmp 12) (.tmp 15) 31 9 (.string ⟨#[]⟩) 16 rfl Tryz.underlying31 info9 rfl (by decide) (by omega) u3 x3_1 t282 [.string t282] (fun _ => True) (fun _ => False) rfl rfl ?aP (fun _ hk => hk.elim) ?aF ?aO ?aB ?aS ?aL ?_; (case aP => exact rfl); (case aB => exact jb); (case aF => exact (fun _ _ => trivial)); (case aO => exact (jr HO_3.out)); (case aS => exact (below_size jb)); (case aL => have := LMc6.out; omega); intro v284 w8 ho hb hg hat; rw [← Ny283.out] at ho; have n0_ := jo (hb); have n1_ := jo (ho); clear HB; clear HO_3; have HB := n0_; have HO285 := n1_; clear n0_ n1_; clear ho hb hg hat))
       go_roundg k1
       case measure => have := HK1.out; omega
       case rel => exact ⟨(y283), (wrap64 (x8_1 + 1)), js, H', ⟨by have := HK1.out; omega⟩, ⟨jr HO285.out⟩, ⟨jb⟩⟩
      ·rw [if_neg c6] at H
       exact absurd H (by simp)
     ·rw [if_neg c4] at H
      exact absurd H (by simp)
    ·rw [if_neg c3] at H
     exact absurd H (by simp)
   ·rw [if_neg c2] at H
    have c2b0 : decide (x8_1 < (l0.length : Int)) = false := decide_eq_false c2
    clear c2
    obtain rfl := Option.some.inj H
    go_wp2
    go_ret
    exact ⟨_, je, jr HO_3.out, jb⟩
end Go.Proofs.YtjmooillogojkaaGreat.Q
