/- Printed by a changed copy of a printer, shortened by a program: what these functions answer: outer_rules outer_Rules. No condition. -/
import Derived.Test.YtjmooillogojkaaGreatM36
set_option maxHeartbeats 8000000
set_option maxRecDepth 100000
set_option linter.unusedVariables false
set_option linter.unusedSimpArgs false
namespace Go.Proofs.YtjmooillogojkaaGreat.Q
open Go.RowKit Go.Proofs.YtjmooillogojkaaGreatW.PrintWords Go.Proofs.YtjmooillogojkaaGreatW.PrintLast Go.Proofs.YtjmooillogojkaaGreatW.PrintMore
open Go.Proofs.YtjmooillogojkaaGreat
def outer_rules.l0 : Nat → List (List Int) → Int → Int → Int → Int → Int → Int → Option ((List (List Int)))
 | 0, _, _, _, _, _, _, _ => none
 | k + 1, x3, x8, x9, x429000, x429001, x429002, x429003 => if x9 < x8 then (if 0 ≤ x9 then (if x9 < (x3.length : Int) then (if (rd_L2 x3 x9).length < 17592186044416 then (outer_rules.l0 k (x3.set (x9 : Int).toNat ((rd_L2 x3 x9) ++ [wrap64 (x429001 + x9)])) x8 (wrap64 (x9 + 1)) x429000 x429001 x429002 x429003) else (none)) else (none)) else (none)) else (some x3)
def outer_rules.f (k : Nat) (a0_0 : Int) (a0_1 : Int) (a0_2 : Int) (a0_3 : Int) : Option ((List (List Int))) := (outer_members.f k a0_0 a0_1 a0_2 a0_3).bind fun t429 => (outer_rules.l0 k t429 (t429.length : Int) 0 a0_0 a0_1 a0_2 a0_3)
def outer_rules.T5 : Bool × List (List Nat × List Nat) := (true, [([], []), ([], []), ([], []), ([], []), ([2, 3], [2, 3]), ([4], [4]), ([], []), ([6], [6]), ([], []), ([7, 8], [7, 8]), ([9], [9]), ([5, 10], [5, 10]), ([0, 1, 0, 1, 2, 3, 4, 5, 6, 7, 8, 9, 10, 11], [0, 1]), ([12, 11, 11, 0, 1, 2, 3, 4, 5, 6, 7, 8, 9, 10, 11], [11, 12])])
def outer_rules.B5 : List Nat := [0, 0, 0, 0, 12, 28, 0, 64, 0, 448, 960, 2044, 4095, 8191]
theorem outer_rules.tab5 : rtab .any (opsOf Tryz.f43 5) = outer_rules.T5 := by kernel_rfl
theorem outer_rules.bits5 : waitsOk outer_rules.T5.2 outer_rules.B5 = true := by kernel_rfl
theorem outer_rules.calls (k : Nat) (a0_0 : Int) (a0_1 : Int) (a0_2 : Int) (a0_3 : Int) (r : List (List Int)) (w : World) (h : outer_rules.f k a0_0 a0_1 a0_2 a0_3 = some r) :
  Calls Tryz.prog 43 #[.agg #[.int .i64 a0_0, .int .i64 a0_1, .int .i64 a0_2, .int .i64 a0_3]] w fun e w' => ∃ v0_ : Value, e = .returned (v0_) ∧ Kd.S (Kd.slice 3 (Kd.int .i64)) 44 w' w.heap.size (fun _ => True) v0_ r ∧ Below w.heap.size w w' := by
 have hu55 := Tryz.underlying55
 have HB := jo (Below.refl w.heap.size w)
 have H : ((outer_members.f k a0_0 a0_1 a0_2 a0_3).bind fun t429 => (outer_rules.l0 k t429 (t429.length : Int) 0 a0_0 a0_1 a0_2 a0_3)) = some r := h
 clear h
 replace H := Option.bind_eq_some_iff.mp H
 obtain ⟨t429, A20, H⟩ := H
 replace H : (outer_rules.l0 k t429 (t429.length : Int) 0 a0_0 a0_1 a0_2 a0_3) = some r := H
 have A2 := jo A20
 clear A20
 have H' := jo H
 clear H
 go_enter Tryz.func43, Tryz.ntmps43
 go_wp2_with (first | ((with_reducible refine gate_dst (N := 1) rfl ?_); refine jx 1 #[.int .i64 a0_0, .int .i64 a0_1, .int .i64 a0_2, .int .i64 a0_3] 55 ?_; intro gb428 hg w3 hbox hb; have n0_ := jo (below_step jb hb); have n1_ := jo (hbox); have n2_ := jo ((by rw [hg]; exact (below_size jb) : w.heap.size ≤ gb428)); have n3_ := jo ((by rw [hg]; exact (below_size jb) : w.heap.size ≤ gb428)); clear HB; have HB := n0_; have BK428 := n1_; have GW428 := n2_; have GE428 := n3_; clear n0_ n1_ n2_ n3_; clear hb hbox hg; have hcz4_0 := fun i => blk_cell BK428.out i; have hfz4_0 := fun i => blk_frozen BK428.out i) | ((with_reducible refine gate_callee (f := 73) rfl ?_); refine goesL_ (some 6) rfl rfl Tryz.func73 jw rfl #[.agg #[.int .i64 a0_0, .int .i64 a0_1, .int .i64 a0_2, .int .i64 a0_3]] rfl jm ?_; (with_reducible refine (outer_members.calls k a0_0 a0_1 a0_2 a0_3 t429 _ A2.out).mono ?_); rintro e w5 ⟨v430, rfl, ho0, hb⟩; refine ⟨_, rfl, ?_⟩; have n0_ := jo (Kd.S_lower ho0 (below_size jb)); have n1_ := jo (blk_below (g := gb428) (o := .cells #[.int .i64 a0_0, .int .i64 a0_1, .int .i64 a0_2, .int .i64 a0_3] 55 (0, 0)) (jk BK428.out) hb); have n2_ := jo (below_step jb hb); clear BK428; clear HB; have HO431 := n0_; have BK428 := n1_; have HB := n2_; clear n0_ n1_ n2_; (try clear hb); (try clear hb2); (try clear hk); (try clear hi); (try clear ho0); obtain ⟨Ao6, co6, eo6⟩ := Kd.S_slice HO431.out; subst eo6))
 go_loopg [9] k (fun kq v9 w' => ∃ (x3_1 : List (List Int)) (x9_1 : Int), v9 = .int .i64 x9_1 ∧ Aside0 (outer_rules.l0 kq x3_1 (t429.length : Int) x9_1 a0_0 a0_1 a0_2 a0_3 = some r) ∧ Aside0 (kq ≤ k) ∧ Aside0 (Kd.S (Kd.slice 3 (Kd.int .i64)) 44 w' w.heap.size (fun _ => True) (.slice Ao6 t429.length co6) x3_1) ∧ Aside0 (w'.heap[gb428]? = some (.cells #[.int .i64 a0_0, .int .i64 a0_1, .int .i64 a0_2, .int .i64 a0_3] 55 (0, 0))) ∧ Aside0 (Below w.heap.size w w'))
 case atStart => exact ⟨(t429), (0), js, H', ⟨Nat.le_refl _⟩, ⟨by (with_reducible repeat (first | apply Kd.S_alloc | apply Kd.S_drewN | apply Kd.S_drew)); exact HO431.out⟩, ⟨by (with_reducible repeat (first | refine blk_drewN ?_ _ | refine blk_drew ?_ | refine blk_alloc ?_ _)); exact BK428.out⟩, ⟨jb⟩⟩
 case round =>
  clear H'
  try clear p2
  try clear c4
  try clear hcz4_0
  try clear hfz4_0
  obtain ⟨x3_1, x9_1, rfl, HA, HK1, HO_3, BK428, HB⟩ := hrel
  have hl3_1 := (Kd.S_reads' HO_3.out).1
  rw [hl3_1] at HO_3
  (try simp only [hl3_1])
  (try simp only [hl3_1] at BK428)
  cases gk with
  | zero => exact absurd HA.out (by simp [outer_rules.l0])
  | succ k1 =>
   have H := HA.out
   clear HA
   simp only [outer_rules.l0] at H
   by_cases c7 : x9_1 < (t429.length : Int)
   ·rw [if_pos c7] at H
    have c7b0 : decide (x9_1 < (t429.length : Int)) = true := decide_eq_true c7
    clear c7
    by_cases c8 : 0 ≤ x9_1
    ·rw [if_pos c8] at H
     have c8b0 : decide (0 ≤ x9_1) = true := decide_eq_true c8
     clear c8
     by_cases c9 : x9_1 < (x3_1.length : Int)
     ·rw [if_pos c9] at H
      have c9b0 : decide (x9_1 < (x3_1.length : Int)) = true := decide_eq_true c9
      clear c9
      by_cases c10 : (rd_L2 x3_1 x9_1).length < 17592186044416
      ·rw [if_pos c10] at H
       have LMc10 := jo c10
       clear c10
       obtain ⟨y433, hy433⟩ : ∃ y_ : List Int, y_ = ((rd_L2 x3_1 x9_1) ++ [wrap64 (a0_1 + x9_1)]) := ⟨_, rfl⟩
       replace H : (outer_rules.l0 k1 (x3_1.set (x9_1 : Int).toNat y433) (t429.length : Int) (wrap64 (x9_1 + 1)) a0_0 a0_1 a0_2 a0_3) = some r := by first | (rw [hy433]; with_reducible exact H) | (have H2_ := (Option.bind_some _ _).symm.trans H; rw [hy433]; with_reducible exact H2_) | (have H2_ := (Option.bind_some _ _).symm.trans H; with_reducible exact H2_) | with_reducible exact H | (rw [hy433]; exact H) | exact H
       have Ny433 := jo hy433
       clear hy433
       obtain ⟨y436, hy436⟩ : ∃ y_ : List (List Int), y_ = (x3_1.set (x9_1 : Int).toNat y433) := ⟨_, rfl⟩
       replace H : (outer_rules.l0 k1 y436 (t429.length : Int) (wrap64 (x9_1 + 1)) a0_0 a0_1 a0_2 a0_3) = some r := by first | (rw [hy436]; with_reducible exact H) | (have H2_ := (Option.bind_some _ _).symm.trans H; rw [hy436]; with_reducible exact H2_) | (have H2_ := (Option.bind_some _ _).symm.trans H; with_reducible exact H2_) | with_reducible exact H | (rw [hy436]; exact H) | exact H
       have Ny436 := jo hy436
       clear hy436
       have H' := jo H
       clear H
       try go_wp2
       have n0_ := jo (Kd.S_drew HO_3.out)
       have n1_ := jo (blk_drew BK428.out)
       have n2_ := jo (below_drew1 HB.out)
       clear HO_3
       clear BK428
       clear HB
       have HO_3 := n0_
       have BK428 := n1_
       have HB := n2_
       clear n0_ n1_ n2_
       have p432 : 0 ≤ (x9_1 : Int) := of_decide_eq_true ja
       have q432 : x9_1 < (x3_1.length : Int) := of_decide_eq_true ja
       obtain ⟨ad432, A432_0, c432_0, e432, hx432_0, hl432_0, hi432_0⟩ := at_L2 (Kd.S_reads' HO_3.out).2.2 x9_1 p432 q432
       cases e432
       obtain ⟨ce432, hce432, hMe432, hcc432⟩ := Kd.S_get HO_3.out [] x9_1 p432 (by first | exact q432 | exact of_decide_eq_true ja | (have e_ := (Kd.S_reads' HO_3.out).1; omega))
       obtain ⟨ve432_0, rfl, ge432_0⟩ := hMe432
       have hv432_0 := hcc432 0 _ rfl
       rw [Nat.add_zero, show ((Kd.slice 3 (Kd.int .i64))).sz = 1 from rfl, Nat.mul_one] at hv432_0
       replace hv432_0 := Option.some.inj (hv432_0.symm.trans hx432_0)
       rw [hv432_0] at ge432_0
       have HL432_0 := jo (show Kd.R (Kd.int .i64) 3 _ _ _ _ (rd_L2 x3_1 x9_1) from ge432_0)
       clear hv432_0 ge432_0
       have HX432_0 := jo hx432_0
       clear hcc432 hce432
       have HR432_0 := jo hi432_0
       have HC432_0 := jo hl432_0
       clear hi432_0 hl432_0
       replace p432 := eq_true p432
       replace q432 := eq_true q432
       obtain ⟨go13, co13, eo13, gb13, gl13, cl13, HG13⟩ := Kd.S_form HO_3.out (by have h_ : (x9_1 : Int) < ((x3_1.length : Int) : Int) := of_decide_eq_true ja; have h2_ : 0 ≤ (x9_1 : Int) := (of_decide_eq_true ja); omega)
       (first | cases eo13 | (injection eo13 with ea_ en_ ec_; (first | subst ea_ | (injection ea_ with ea_; subst ea_)); subst ec_; clear en_))
       have GB13 := jo gb13
       have GG13 := jo HG13
       clear gb13 gl13 HG13
       (first | simp only [add_plain] at hx432_0 | skip)
       obtain ⟨oki13, ce13, hcl13, hM13, hcc13, _, _, hH13⟩ := Kd.S_elem HO_3.out [] (x9_1 : Int) (of_decide_eq_true ja) (by have h_ : (x9_1 : Int) < ((x3_1.length : Int) : Int) := of_decide_eq_true ja; first | exact h_ | (have e_ := (Kd.S_reads' HO_3.out).1; omega) | simpa using h_)
       obtain ⟨ve13_0, rfl, ge13_0⟩ := hM13
       have hv13 := hcc13 0 _ rfl
       have hX13 := HX432_0.out
       (try simp only [add_plain] at hX13)
       (try simp only [Nat.add_zero] at hv13)
       (try rw [show ((Kd.slice 3 (Kd.int .i64))).sz = 1 from rfl, Nat.mul_one] at hv13)
       replace hv13 := Option.some.inj (hv13.symm.trans hX13)
       subst hv13
       clear hX13 hcc13 hcl13
       have UU13 := jo (show Kd.R (Kd.int .i64) 3 _ w.heap.size oki13 (.slice A432_0 (rd_L2 x3_1 x9_1).length c432_0) (rd_L2 x3_1 x9_1) from ge13_0)
       have HH13 := jo hH13
       have HN13 := jo (Kd.S_reads' HO_3.out).1
       clear hH13 ge13_0
       refine start_ (n := 14) (S := fun w' => w'.cell? ⟨gb428, 0, none⟩ = some (.int .i64 a0_0) ∧ w'.cell? ⟨gb428, 1, none⟩ = some (.int .i64 a0_1) ∧ w'.cell? ⟨gb428, 2, none⟩ = some (.int .i64 a0_2) ∧ w'.cell? ⟨gb428, 3, none⟩ = some (.int .i64 a0_3) ∧ w'.cell? ⟨go13, (x9_1).toNat, none⟩ = some (.slice A432_0 (rd_L2 x3_1 x9_1).length c432_0)) (ds := [13]) #[false, false, false, false, false, false, false, false, false, false, false, false, false, false] jw rfl rfl ⟨(blk_cell BK428.out 0).trans rfl, (blk_cell BK428.out 1).trans rfl, (blk_cell BK428.out 2).trans rfl, (blk_cell BK428.out 3).trans rfl, hx432_0⟩ (fun hHeld => ?_); refine with_tabW outer_rules.tab5 outer_rules.bits5 (fun HT_ HW_ => ?_)
       generalize wr.drew = w12 at HO_3 BK428 HB GG13 HH13 HL432_0 HR432_0 HX432_0 UU13 hx432_0 hHeld ⊢
       refine td_ [0, 1, 2, 3, 4, 6, 8] ?_
       repeat (first | refine pp_ ?_ | refine po_ ?_)
       refine tn_ ?_
       refine td_ [5, 7] ?_
       repeat (refine pt_ hHeld ?_)
       refine tn_ ?_
       refine td_ [9] ?_
       repeat (first | refine pp_ ?_ | refine po_ ?_)
       refine tn_ ?_
       refine on_ 10 (fun K hK => ?_)
       refine value_ (w1 := ?_) (v := ?_) (by rfl) rfl ?_ ?_
       rotate_left 2
       ·go_simp
        constructor
        ·rfl
        ·rfl
       refine hK.out _ _ ⟨(blk_cell (blk_alloc BK428.out _) 0).trans rfl, (blk_cell (blk_alloc BK428.out _) 1).trans rfl, (blk_cell (blk_alloc BK428.out _) 2).trans rfl, (blk_cell (blk_alloc BK428.out _) 3).trans rfl, (World.cell?_alloc_lt _ _ _ (World.block_lt_of_cell? _ _ (hHeld.2.2.2.2))).trans (hHeld.2.2.2.2)⟩ (fun hHeld => ?_)
       clear hK K
       refine nm_ (some 22) ?_
       refine on_ 11 (fun K hK => ?_)
       refine Kd.R_append_step (Kd.int .i64) (w0 := w) w.heap.size (by rfl) (.tmp 17) (.tmp 22) 44 3 (.int .i64 0) 8 rfl Tryz.underlying44 info3 rfl (by decide) (by omega) (.slice A432_0 (rd_L2 x3_1 x9_1).length c432_0) (rd_L2 x3_1 x9_1) (wrap64 (a0_1 + x9_1)) [.int .i64 (wrap64 (a0_1 + x9_1))] (fun k_ => oki13 k_ ∨ ((fun _ => True)) k_ ∧ w12.heap.size ≤ k_) (fun _ => False) rfl rfl ?aP (fun _ hk => hk.elim) ?aF ?aO ?aB ?aS ?aL ?_
       (case aP => exact rfl)
       (case aB => exact jb)
       (case aF => exact (fun k_ hk => .inr ⟨trivial, hk⟩))
       (case aO => exact (by (with_reducible repeat (first | apply Kd.R_alloc | apply Kd.R_drewN | apply Kd.R_drew)); exact Kd.R_mono UU13.out (fun _ hk => .inl hk)))
       (case aS => exact (below_size jb))
       (case aL => have := LMc10.out; omega)
       intro v434 w14 ho hb hg hat
       (first | have HS4_ := cell_grown hg (hHeld.2.2.2.2) (by first | (rw [add_block]; exact (fun e_ => ((HL432_0.out.1 _ e_.symm).2) rfl)) | (show some (Addr.add _ _).block ≠ _; rw [add_block]; exact (fun e_ => ((HL432_0.out.1 _ e_.symm).2) rfl)) | exact (fun e_ => ((HL432_0.out.1 _ e_.symm).2) rfl)) | have HS4_ := cell_grown hg (cell_unalloc (hHeld.2.2.2.2) (by first | (rw [add_block]; exact Kd.S_lt HO_3.out _ rfl) | (show (Addr.add _ _).block < _; rw [add_block]; exact Kd.S_lt HO_3.out _ rfl) | exact Kd.S_lt HO_3.out _ rfl)) (by first | (rw [add_block]; exact (fun e_ => ((HL432_0.out.1 _ e_.symm).2) rfl)) | (show some (Addr.add _ _).block ≠ _; rw [add_block]; exact (fun e_ => ((HL432_0.out.1 _ e_.symm).2) rfl)) | exact (fun e_ => ((HL432_0.out.1 _ e_.symm).2) rfl)))
       rw [← Ny433.out] at ho
       have n0_ := jo (blk_grown (g := gb428) (o := .cells #[.int .i64 a0_0, .int .i64 a0_1, .int .i64 a0_2, .int .i64 a0_3] 55 (0, 0)) (jk BK428.out) hg (Kd.R_ne HL432_0.out BK428.out (by decide)))
       have n1_ := jo (hb)
       have n2_ := jo (Kd.H_grown (Kd.H_widen (by repeat (first | exact HH13.out | refine Kd.H_alloc ?_ _ | refine Kd.H_drewN ?_ _ | refine Kd.H_drew ?_))) hg (fun k_ e_ => .inl (UU13.out.1 k_ e_)))
       have n3_ := jo (ho)
       clear BK428
       clear HB
       clear HH13
       clear HO_3
       clear UU13
       clear HL432_0
       have BK428 := n0_
       have HB := n1_
       have HH13 := n2_
       have HO435 := n3_
       clear n0_ n1_ n2_ n3_
       clear ho hb hg hat
       have p11 : 0 ≤ (x9_1 : Int) := of_decide_eq_true ja
       have q11 : (x9_1 : Int) < ((x3_1.length : Int) : Int) := of_decide_eq_true ja
       replace p11 := eq_true p11
       replace q11 := eq_true q11
       obtain ⟨Ao17, co17, eo17⟩ := Kd.R_slice HO435.out
       (first | subst eo17 | (injection eo17 with f1_ f2_ f3_; have f4_ := f1_.symm; have f5_ := f3_.symm; clear f1_ f2_ f3_; subst f4_; subst f5_))
       obtain ⟨_, _, hraw15, _, _, hcc15, _⟩ := Kd.H_raw HH13.out (of_decide_eq_true ja) (by have h_ : (x9_1 : Int) < ((x3_1.length : Int) : Int) := of_decide_eq_true ja; first | exact h_ | (have e_ := (HN13.out); omega) | simpa using h_)
       obtain ⟨_, hfr15⟩ := Kd.H_at HH13.out (of_decide_eq_true ja) (by have h_ : (x9_1 : Int) < ((x3_1.length : Int) : Int) := of_decide_eq_true ja; first | exact h_ | (have e_ := (HN13.out); omega) | simpa using h_)
       have hx15_0 := hcc15 0 _ rfl
       have hf15_0 := hfr15 0
       (try simp only [Nat.add_zero] at hx15_0 hf15_0)
       (try rw [show ((Kd.slice 3 (Kd.int .i64))).sz = 1 from rfl, Nat.mul_one] at hx15_0)
       (try rw [show ((Kd.slice 3 (Kd.int .i64))).sz = 1 from rfl, Nat.mul_one] at hf15_0)
       have HP15 := Kd.S_seg0 HH13.out (of_decide_eq_true ja) (by have h_ : (x9_1 : Int) < ((x3_1.length : Int) : Int) := of_decide_eq_true ja; first | exact h_ | (have e_ := (HN13.out); omega) | simpa using h_) (seg := [.slice Ao17 y433.length co17]) (j := 0) (show 1 ≤ 1 from by decide) (x' := y433) (Kd.M_row HO435.out) (fun _ hk => hk)
       (try simp only [show ((Kd.slice 3 (Kd.int .i64))).sz = 1 from rfl, Nat.mul_one, Nat.add_zero] at HP15)
       clear hcc15 hfr15
       have HNB428_go13 := jo (show gb428 ≠ go13 from by have h_ := Kd.R_ne hraw15 BK428.out (by decide); intro e_; exact h_ (by rw [e_]; rfl))
       have HS15 := HP15.1
       rw [← Ny436.out] at HS15
       have HQ15 := jo HS15
       obtain ⟨_, hgg15⟩ := Kd.R_typed hraw15 go13 rfl
       have GG15_ := jo hgg15
       clear HP15 HS15 hgg15
       refine hK.out _ _ ⟨(blk_cell BK428.out 0).trans rfl, (blk_cell BK428.out 1).trans rfl, (blk_cell BK428.out 2).trans rfl, (blk_cell BK428.out 3).trans rfl, HS4_⟩ (fun hHeld => ?_)
       clear hK K
       refine nm_ (some 23) ?_
       refine td_ [12] ?_
       repeat (first | refine pp_ ?_ | refine po_ ?_)
       refine tn_ ?_
       refine la_ 13 (fun K hK => ?_)
       refine skip_ (w1 := ?_) (by rfl) rfl ?_ ?_
       rotate_left
       ·go_simp
        rfl
       refine hK.out _ _ ?_
       clear hK K
       refine dn_ ?_
       try go_wp2
       (try simp only [← hl3_1])
       go_roundg k1
       case measure => have := HK1.out; omega
       case rel => exact ⟨(y436), (wrap64 (x9_1 + 1)), js, H', ⟨by have := HK1.out; omega⟩, ⟨by (try simp only [hl3_1]); (with_reducible repeat (first | apply Kd.S_alloc | apply Kd.S_drewN | apply Kd.S_drew)); exact HQ15.out⟩, ⟨by (try simp only [hl3_1]); (with_reducible repeat (first | refine blk_drewN ?_ _ | refine blk_drew ?_ | refine blk_alloc ?_ _)); refine blk_far ?_ HNB428_go13.out _; (with_reducible repeat (first | refine blk_drewN ?_ _ | refine blk_drew ?_ | refine blk_alloc ?_ _)); exact BK428.out⟩, ⟨by repeat (first | (with_reducible first | exact HB.out | apply below_alloc | apply pw_below_drewN | apply below_drew1 | refine below_set ?_ GB13.out | refine below_set ?_ GE428.out) | exact HB.out)⟩⟩
      ·rw [if_neg c10] at H
       exact absurd H (by simp)
     ·rw [if_neg c9] at H
      exact absurd H (by simp)
    ·rw [if_neg c8] at H
     exact absurd H (by simp)
   ·rw [if_neg c7] at H
    have c7b0 : decide (x9_1 < (t429.length : Int)) = false := decide_eq_false c7
    clear c7
    (try rw [hl3_1] at c7b0)
    obtain rfl := Option.some.inj H
    go_wp2
    go_ret
    exact ⟨_, je, by (with_reducible repeat (first | apply Kd.S_alloc | apply Kd.S_drewN | apply Kd.S_drew)); exact HO_3.out, jb⟩
def outer_Rules.f (k : Nat) (a0_0 : Int) (a0_1 : Int) (a0_2 : Int) (a0_3 : Int) : Option ((List (List Int)) × Int) := (outer_Check.f a0_0 a0_1 a0_2 a0_3).bind fun t438 => (if t438 = true then ((outer_rules.f k a0_0 a0_1 a0_2 a0_3).bind fun t439 => (some (t439, 0))) else (some (([] : List (List Int)), 1)))
theorem outer_Rules.calls (k : Nat) (a0_0 : Int) (a0_1 : Int) (a0_2 : Int) (a0_3 : Int) (r1 : List (List Int)) (r2 : Int) (w : World) (h : outer_Rules.f k a0_0 a0_1 a0_2 a0_3 = some (r1, r2)) :
  Calls Tryz.prog 15 #[.agg #[.int .i64 a0_0, .int .i64 a0_1, .int .i64 a0_2, .int .i64 a0_3]] w fun e w' => ∃ v0_ : Value, e = .returned (.tuple #[v0_, .int .i64 r2]) ∧ Kd.S (Kd.slice 3 (Kd.int .i64)) 44 w' w.heap.size (fun _ => True) v0_ r1 ∧ Below w.heap.size w w' := by
 have hu55 := Tryz.underlying55
 have HB := jo (Below.refl w.heap.size w)
 have H : ((outer_Check.f a0_0 a0_1 a0_2 a0_3).bind fun t438 => (if t438 = true then ((outer_rules.f k a0_0 a0_1 a0_2 a0_3).bind fun t439 => (some (t439, 0))) else (some (([] : List (List Int)), 1)))) = some (r1, r2) := h
 clear h
 replace H := Option.bind_eq_some_iff.mp H
 obtain ⟨t438, A20, H⟩ := H
 replace H : (if t438 = true then ((outer_rules.f k a0_0 a0_1 a0_2 a0_3).bind fun t439 => (some (t439, 0))) else (some (([] : List (List Int)), 1))) = some (r1, r2) := H
 have A2 := jo A20
 clear A20
 by_cases c3 : t438 = true
 ·subst c3
  have H1 : ((outer_rules.f k a0_0 a0_1 a0_2 a0_3).bind fun t439 => (some (t439, 0))) = some (r1, r2) := by rw [if_pos rfl] at H; exact H
  clear H
  have H := H1
  clear H1
  replace H := Option.bind_eq_some_iff.mp H
  obtain ⟨t439, A40, H⟩ := H
  replace H : (some (t439, 0)) = some (r1, r2) := H
  have A4 := jo A40
  clear A40
  simp only [Option.some.injEq, Prod.mk.injEq] at H
  obtain ⟨rfl, rfl⟩ := H
  go_enter Tryz.func15, Tryz.ntmps15
  go_wp2_with (first | ((with_reducible refine gate_dst (N := 1) rfl ?_); refine jx 1 #[.int .i64 a0_0, .int .i64 a0_1, .int .i64 a0_2, .int .i64 a0_3] 55 ?_; intro gb437 hg w5 hbox hb; have n0_ := jo (below_step jb hb); have n1_ := jo (hbox); have n2_ := jo ((by rw [hg]; exact (below_size jb) : w.heap.size ≤ gb437)); have n3_ := jo ((by rw [hg]; exact (below_size jb) : w.heap.size ≤ gb437)); clear HB; have HB := n0_; have BK437 := n1_; have GW437 := n2_; have GE437 := n3_; clear n0_ n1_ n2_ n3_; clear hb hbox hg; have hcz6_0 := fun i => blk_cell BK437.out i; have hfz6_0 := fun i => blk_frozen BK437.out i) | ((with_reducible refine gate_callee (f := 42) rfl ?_); refine goesL_ (some 5) rfl rfl Tryz.func42 jw rfl #[.agg #[.int .i64 a0_0, .int .i64 a0_1, .int .i64 a0_2, .int .i64 a0_3]] rfl jm ?_; (with_reducible refine (outer_Check.calls a0_0 a0_1 a0_2 a0_3 true _ A2.out).mono ?_); rintro e w7 ⟨rfl, hb⟩; refine ⟨_, rfl, ?_⟩; have n0_ := jo (blk_below (g := gb437) (o := .cells #[.int .i64 a0_0, .int .i64 a0_1, .int .i64 a0_2, .int .i64 a0_3] 55 (0, 0)) (jk BK437.out) hb); have n1_ := jo (below_step jb hb); clear BK437; clear HB; have BK437 := n0_; have HB := n1_; clear n0_ n1_; (try clear hb); (try clear hb2); (try clear hk); (try clear hi); have hcz8_0 := fun i => blk_cell BK437.out i; have hfz8_0 := fun i => blk_frozen BK437.out i) | ((with_reducible refine gate_callee (f := 43) rfl ?_); refine goesL_ (some 8) rfl rfl Tryz.func43 jw rfl #[.agg #[.int .i64 a0_0, .int .i64 a0_1, .int .i64 a0_2, .int .i64 a0_3]] rfl jm ?_; (with_reducible refine (outer_rules.calls k a0_0 a0_1 a0_2 a0_3 t439 _ A4.out).mono ?_); rintro e w9 ⟨v440, rfl, ho0, hb⟩; refine ⟨_, rfl, ?_⟩; have n0_ := jo (Kd.S_lower ho0 (below_size jb)); have n1_ := jo (blk_below (g := gb437) (o := .cells #[.int .i64 a0_0, .int .i64 a0_1, .int .i64 a0_2, .int .i64 a0_3] 55 (0, 0)) (jk BK437.out) hb); have n2_ := jo (below_step jb hb); clear BK437; clear HB; have HO441 := n0_; have BK437 := n1_; have HB := n2_; clear n0_ n1_ n2_; (try clear hb); (try clear hb2); (try clear hk); (try clear hi); (try clear ho0)))
  go_ret2
  exact ⟨_, je, by (with_reducible repeat (first | apply Kd.S_alloc | apply Kd.S_drewN | apply Kd.S_drew)); exact HO441.out, jb⟩
 ·replace c3 := Bool.eq_false_iff.mpr c3
  subst c3
  have H1 : (some (([] : List (List Int)), 1)) = some (r1, r2) := by rw [if_neg (show ¬ (false = true) by decide)] at H; exact H
  clear H
  have H := H1
  clear H1
  simp only [Option.some.injEq, Prod.mk.injEq] at H
  obtain ⟨rfl, rfl⟩ := H
  go_enter Tryz.func15, Tryz.ntmps15
  go_wp2_with (first | ((with_reducible refine gate_dst (N := 1) rfl ?_); refine jx 1 #[.int .i64 a0_0, .int .i64 a0_1, .int .i64 a0_2, .int .i64 a0_3] 55 ?_; intro gb437 hg w10 hbox hb; have n0_ := jo (below_step jb hb); have n1_ := jo (hbox); have n2_ := jo ((by rw [hg]; exact (below_size jb) : w.heap.size ≤ gb437)); have n3_ := jo ((by rw [hg]; exact (below_size jb) : w.heap.size ≤ gb437)); clear HB; have HB := n0_; have BK437 := n1_; have GW437 := n2_; have GE437 := n3_; clear n0_ n1_ n2_ n3_; clear hb hbox hg; have hcz11_0 := fun i => blk_cell BK437.out i; have hfz11_0 := fun i => blk_frozen BK437.out i) | ((with_reducible refine gate_callee (f := 42) rfl ?_); refine goesL_ (some 5) rfl rfl Tryz.func42 jw rfl #[.agg #[.int .i64 a0_0, .int .i64 a0_1, .int .i64 a0_2, .int .i64 a0_3]] rfl jm ?_; (with_reducible refine (outer_Check.calls a0_0 a0_1 a0_2 a0_3 false _ A2.out).mono ?_); rintro e w12 ⟨rfl, hb⟩; refine ⟨_, rfl, ?_⟩; have n0_ := jo (blk_below (g := gb437) (o := .cells #[.int .i64 a0_0, .int .i64 a0_1, .int .i64 a0_2, .int .i64 a0_3] 55 (0, 0)) (jk BK437.out) hb); have n1_ := jo (below_step jb hb); clear BK437; clear HB; have BK437 := n0_; have HB := n1_; clear n0_ n1_; (try clear hb); (try clear hb2); (try clear hk); (try clear hi)))
  go_ret2
  exact ⟨_, je, by first | exact Kd.S_nil _ _ _ _ _ | exact Kd.N_nil _ _ _ _ _ | exact Kd.V_nil _ _ _ _ _ | exact Kd.Q_nil _ _ _ _ _ | exact Kd.R_nil _ _ _ _ _, jb⟩
end Go.Proofs.YtjmooillogojkaaGreat.Q
