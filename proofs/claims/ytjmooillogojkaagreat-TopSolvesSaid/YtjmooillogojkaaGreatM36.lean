/- slices.Clone of texts; block.Cut; Printed by a changed copy of a printer, shortened by a program: what these functions answer: outer_members outer_sum outer_sized. No condition. -/
import Derived.Test.YtjmooillogojkaaGreatM35
set_option maxHeartbeats 8000000
set_option maxRecDepth 100000
set_option linter.unusedVariables false
set_option linter.unusedSimpArgs false
namespace Go.Proofs.YtjmooillogojkaaGreat.Q
open Go.RowKit Go.Proofs.YtjmooillogojkaaGreatW.PrintWords Go.Proofs.YtjmooillogojkaaGreatW.PrintLast Go.Proofs.YtjmooillogojkaaGreatW.PrintMore
open Go.Proofs.YtjmooillogojkaaGreat
mutual
def outer_members.l0 : Nat → List (List Int) → Int → Int → Int → Int → Int → Int → Option ((List (List Int)))
 | 0, _, _, _, _, _, _, _ => none
 | k + 1, x3, x11, x12, x242000, x242001, x242002, x242003 => if x12 < x11 then ((outer_joins.f x242000 x242001 x242002 x242003 x12).bind fun t245 => (outer_members.l1 k x3 x12 x11 x12 t245 (t245.length : Int) 0 x242000 x242001 x242002 x242003)) else (some x3)
def outer_members.l1 : Nat → List (List Int) → Int → Int → Int → List Int → Int → Int → Int → Int → Int → Int → Option ((List (List Int)))
 | 0, _, _, _, _, _, _, _, _, _, _, _ => none
 | k + 1, x3, x4, x11, x12, x17, x18, x19, x242000, x242001, x242002, x242003 => if x19 < x18 then (if 0 ≤ x19 then (if x19 < (x17.length : Int) then (if 0 ≤ (rd x17 x19) then (if (rd x17 x19) < (x3.length : Int) then (if (rd_L2 x3 (rd x17 x19)).length < 17592186044416 then (outer_members.l1 k (x3.set ((rd x17 x19) : Int).toNat ((rd_L2 x3 (rd x17 x19)) ++ [x4])) x4 x11 x12 x17 x18 (wrap64 (x19 + 1)) x242000 x242001 x242002 x242003) else (none)) else (none)) else (none)) else (none)) else (none)) else (outer_members.l0 k x3 x11 (wrap64 (x12 + 1)) x242000 x242001 x242002 x242003)
end
def outer_members.f (k : Nat) (a0_0 : Int) (a0_1 : Int) (a0_2 : Int) (a0_3 : Int) : Option ((List (List Int))) := if 0 ≤ a0_2 then (if (a0_2 : Int).toNat ≤ 11728124029610 then (outer_members.l0 k (List.replicate (a0_2 : Int).toNat []) a0_1 0 a0_0 a0_1 a0_2 a0_3) else (none)) else (none)
theorem outer_members.calls (k : Nat) (a0_0 : Int) (a0_1 : Int) (a0_2 : Int) (a0_3 : Int) (r : List (List Int)) (w : World) (h : outer_members.f k a0_0 a0_1 a0_2 a0_3 = some r) :
  Calls Tryz.prog 73 #[.agg #[.int .i64 a0_0, .int .i64 a0_1, .int .i64 a0_2, .int .i64 a0_3]] w fun e w' => ∃ v0_ : Value, e = .returned (v0_) ∧ Kd.S (Kd.slice 3 (Kd.int .i64)) 44 w' w.heap.size (fun _ => True) v0_ r ∧ Below w.heap.size w w' := by
 have hu55 := Tryz.underlying55
 have HB := jo (Below.refl w.heap.size w)
 have H : (if 0 ≤ a0_2 then (if (a0_2 : Int).toNat ≤ 11728124029610 then (outer_members.l0 k (List.replicate (a0_2 : Int).toNat []) a0_1 0 a0_0 a0_1 a0_2 a0_3) else (none)) else (none)) = some r := h
 clear h
 by_cases c2 : 0 ≤ a0_2
 ·rw [if_pos c2] at H
  have c2b0 := eq_true c2
  have c2b1 : decide (0 ≤ a0_2) = true := decide_eq_true c2
  clear c2
  by_cases c3 : (a0_2 : Int).toNat ≤ 11728124029610
  ·rw [if_pos c3] at H
   have c3b0 := eq_true c3
   have c3b1 : decide ((a0_2 : Int).toNat ≤ 11728124029610) = true := decide_eq_true c3
   clear c3
   obtain ⟨y242, hy242⟩ : ∃ y_ : List (List Int), y_ = (List.replicate (a0_2 : Int).toNat []) := ⟨_, rfl⟩
   replace H : (outer_members.l0 k y242 a0_1 0 a0_0 a0_1 a0_2 a0_3) = some r := by first | (rw [hy242]; with_reducible exact H) | (have H2_ := (Option.bind_some _ _).symm.trans H; rw [hy242]; with_reducible exact H2_) | (have H2_ := (Option.bind_some _ _).symm.trans H; with_reducible exact H2_) | with_reducible exact H | (rw [hy242]; exact H) | exact H
   have Ny242 := jo hy242
   clear hy242
   have H' := jo H
   clear H
   go_enter Tryz.func73, Tryz.ntmps73
   go_wp2_with (first | ((with_reducible refine gate_dst (N := 1) rfl ?_); refine jx 1 #[.int .i64 a0_0, .int .i64 a0_1, .int .i64 a0_2, .int .i64 a0_3] 55 ?_; intro gb241 hg w4 hbox hb; have n0_ := jo (below_step jb hb); have n1_ := jo (hbox); have n2_ := jo ((by rw [hg]; exact (below_size jb) : w.heap.size ≤ gb241)); have n3_ := jo ((by rw [hg]; exact (below_size jb) : w.heap.size ≤ gb241)); clear HB; have HB := n0_; have BK241 := n1_; have GW241 := n2_; have GE241 := n3_; clear n0_ n1_ n2_ n3_; clear hb hbox hg; have hcz5_0 := fun i => blk_cell BK241.out i; have hfz5_0 := fun i => blk_frozen BK241.out i) | ((with_reducible refine gate_dst (N := 9) rfl ?_); refine Kd.S_make (Kd.slice 3 (Kd.int .i64)) _ 44 rfl (N := 9) rfl 38 _ _ rfl a0_2 rfl rfl Tryz.underlying38 (.slice none 0 0) 24 info44 rfl (by decide) (by omega) [] (ok := fun _ => True) (okp := fun _ => True) ⟨_, rfl, Kd.R_nil _ _ _ _ _⟩ (fun _ hk => hk) trivial (of_decide_eq_true ja) (Nat.le_trans (Nat.mul_le_mul_right _ (of_decide_eq_true ja : a0_2.toNat ≤ 11728124029610)) (by omega)) (Below.refl _ _) (Nat.le_refl _) ?_; intro v243 w6 ho7 hb hg_ hnew_; clear hg_ hnew_; (first | rw [← Ny242.out] at ho7 | (simp only [Int.reduceToNat] at ho7; rw [← Ny242.out] at ho7)); have n0_ := jo (Kd.S_lower ho7 (below_size jb)); have n1_ := jo (blk_below (g := gb241) (o := .cells #[.int .i64 a0_0, .int .i64 a0_1, .int .i64 a0_2, .int .i64 a0_3] 55 (0, 0)) (jk BK241.out) hb); have n2_ := jo (below_step jb hb); clear BK241; clear HB; have HO244 := n0_; have BK241 := n1_; have HB := n2_; clear n0_ n1_ n2_; clear hb ho7; have hcz8_0 := fun i => blk_cell BK241.out i; have hfz8_0 := fun i => blk_frozen BK241.out i))
   go_loopg [12] k (fun kq v12 w' => ∃ (x3_1 : List (List Int)) (x12_1 : Int), v12 = .int .i64 x12_1 ∧ Aside0 (outer_members.l0 kq x3_1 a0_1 x12_1 a0_0 a0_1 a0_2 a0_3 = some r) ∧ Aside0 (kq ≤ k) ∧ Aside0 (Kd.S (Kd.slice 3 (Kd.int .i64)) 44 w' w.heap.size (fun _ => True) v243 x3_1) ∧ Aside0 (w'.heap[gb241]? = some (.cells #[.int .i64 a0_0, .int .i64 a0_1, .int .i64 a0_2, .int .i64 a0_3] 55 (0, 0))) ∧ Aside0 (Below w.heap.size w w'))
   case atStart => exact ⟨(y242), (0), js, H', ⟨Nat.le_refl _⟩, ⟨by (with_reducible repeat (first | apply Kd.S_alloc | apply Kd.S_drewN | apply Kd.S_drew)); exact HO244.out⟩, ⟨by (with_reducible repeat (first | refine blk_drewN ?_ _ | refine blk_drew ?_ | refine blk_alloc ?_ _)); exact BK241.out⟩, ⟨jb⟩⟩
   case round =>
    clear H'
    try clear c2
    try clear c2b0
    try clear c2b1
    try clear p2
    try clear c3
    try clear c3b0
    try clear c3b1
    try clear c7
    try clear hcz5_0
    try clear hcz8_0
    try clear hfz5_0
    try clear hfz8_0
    obtain ⟨x3_1, x12_1, rfl, HA, HK1, HO_3, BK241, HB⟩ := hrel
    cases gk with
    | zero => exact absurd HA.out (by simp [outer_members.l0])
    | succ k1 =>
     have H := HA.out
     clear HA
     simp only [outer_members.l0] at H
     by_cases c9 : x12_1 < a0_1
     ·rw [if_pos c9] at H
      have c9b0 : decide (x12_1 < a0_1) = true := decide_eq_true c9
      clear c9
      replace H := Option.bind_eq_some_iff.mp H
      obtain ⟨t245, A100, H⟩ := H
      replace H : (outer_members.l1 k1 x3_1 x12_1 a0_1 x12_1 t245 (t245.length : Int) 0 a0_0 a0_1 a0_2 a0_3) = some r := H
      have A10 := jo A100
      clear A100
      have H' := jo H
      clear H
      have hcz11_0 := fun i => blk_cell BK241.out i
      have hfz11_0 := fun i => blk_frozen BK241.out i
      go_wp2_with (first | ((with_reducible refine gate_callee (f := 109) rfl ?_); refine goesL_ (some 17) rfl rfl Tryz.func109 jw rfl #[.agg #[.int .i64 a0_0, .int .i64 a0_1, .int .i64 a0_2, .int .i64 a0_3], .int .i64 x12_1] rfl jm ?_; (with_reducible refine (outer_joins.calls a0_0 a0_1 a0_2 a0_3 x12_1 t245 _ A10.out).mono ?_); rintro e w12 ⟨v246, rfl, ho0, hb⟩; refine ⟨_, rfl, ?_⟩; have n0_ := jo (Kd.S_elder' (by (with_reducible repeat (first | apply Kd.S_alloc | apply Kd.S_drewN | apply Kd.S_drew)); exact HO_3.out) (JR.base_ ho0) hb); have n1_ := jo (J_lower ho0 (below_size jb)); have n2_ := jo (blk_below (g := gb241) (o := .cells #[.int .i64 a0_0, .int .i64 a0_1, .int .i64 a0_2, .int .i64 a0_3] 55 (0, 0)) (jk BK241.out) hb); have n3_ := jo (below_step jb hb); clear HO_3; clear BK241; clear HB; have HO_3 := n0_; have HO247 := n1_; have BK241 := n2_; have HB := n3_; clear n0_ n1_ n2_ n3_; (try clear hb); (try clear hb2); (try clear hk); (try clear hi); (try clear ho0); obtain ⟨Ao13, co13, eo13⟩ := J_slice HO247.out; subst eo13))
      go_loopg [19] k1 (fun kq v19 w' => ∃ (x3_2 : List (List Int)) (x19_2 : Int), v19 = .int .i64 x19_2 ∧ Aside0 (outer_members.l1 kq x3_2 x12_1 a0_1 x12_1 t245 (t245.length : Int) x19_2 a0_0 a0_1 a0_2 a0_3 = some r) ∧ Aside0 (kq ≤ k1) ∧ Aside0 (Kd.S (Kd.slice 3 (Kd.int .i64)) 44 w' w.heap.size (fun k_ => some k_ ≠ ((.slice Ao13 t245.length co13) : Value).ownBlock) v243 x3_2) ∧ Aside0 (JR w' w.heap.size (.slice Ao13 t245.length co13) t245) ∧ Aside0 (w'.heap[gb241]? = some (.cells #[.int .i64 a0_0, .int .i64 a0_1, .int .i64 a0_2, .int .i64 a0_3] 55 (0, 0))) ∧ Aside0 (Below w.heap.size w w'))
      case atStart => exact ⟨(x3_1), (0), js, H', ⟨Nat.le_refl _⟩, ⟨by (with_reducible repeat (first | apply Kd.S_alloc | apply Kd.S_drewN | apply Kd.S_drew)); exact Kd.S_mono HO_3.out (fun _ hk => hk.2)⟩, ⟨by (with_reducible repeat (first | apply J_alloc | apply J_drewN | apply J_drew)); exact HO247.out⟩, ⟨by (with_reducible repeat (first | refine blk_drewN ?_ _ | refine blk_drew ?_ | refine blk_alloc ?_ _)); exact BK241.out⟩, ⟨jb⟩⟩
      case round =>
       clear H'
       try clear c1
       try clear c2
       try clear c2b0
       try clear c2b1
       try clear p2
       try clear c3
       try clear c3b0
       try clear c3b1
       try clear c7
       try clear c9
       try clear c9b0
       try clear c10
       try clear hcz11_0
       try clear hcz5_0
       try clear hcz8_0
       try clear hfz11_0
       try clear hfz5_0
       try clear hfz8_0
       try clear p2
       obtain ⟨x3_2, x19_2, rfl, HA, HK2, HO_3, HO_17, BK241, HB⟩ := hrel
       cases gk with
       | zero => exact absurd HA.out (by simp [outer_members.l1])
       | succ k2 =>
        have H := HA.out
        clear HA
        simp only [outer_members.l1] at H
        by_cases c14 : x19_2 < (t245.length : Int)
        ·rw [if_pos c14] at H
         have c14b0 : decide (x19_2 < (t245.length : Int)) = true := decide_eq_true c14
         clear c14
         by_cases c15 : 0 ≤ x19_2
         ·rw [if_pos c15] at H
          have c15b0 : decide (0 ≤ x19_2) = true := decide_eq_true c15
          clear c15
          by_cases c16 : x19_2 < (t245.length : Int)
          ·rw [if_pos c16] at H
           have c16b0 : decide (x19_2 < (t245.length : Int)) = true := decide_eq_true c16
           clear c16
           by_cases c17 : 0 ≤ (rd t245 x19_2)
           ·rw [if_pos c17] at H
            have c17b0 : decide (0 ≤ (rd t245 x19_2)) = true := decide_eq_true c17
            clear c17
            by_cases c18 : (rd t245 x19_2) < (x3_2.length : Int)
            ·rw [if_pos c18] at H
             have c18b0 : decide ((rd t245 x19_2) < (x3_2.length : Int)) = true := decide_eq_true c18
             clear c18
             by_cases c19 : (rd_L2 x3_2 (rd t245 x19_2)).length < 17592186044416
             ·rw [if_pos c19] at H
              have LMc19 := jo c19
              clear c19
              obtain ⟨y250, hy250⟩ : ∃ y_ : List Int, y_ = ((rd_L2 x3_2 (rd t245 x19_2)) ++ [x12_1]) := ⟨_, rfl⟩
              replace H : (outer_members.l1 k2 (x3_2.set ((rd t245 x19_2) : Int).toNat y250) x12_1 a0_1 x12_1 t245 (t245.length : Int) (wrap64 (x19_2 + 1)) a0_0 a0_1 a0_2 a0_3) = some r := by first | (rw [hy250]; with_reducible exact H) | (have H2_ := (Option.bind_some _ _).symm.trans H; rw [hy250]; with_reducible exact H2_) | (have H2_ := (Option.bind_some _ _).symm.trans H; with_reducible exact H2_) | with_reducible exact H | (rw [hy250]; exact H) | exact H
              have Ny250 := jo hy250
              clear hy250
              obtain ⟨y253, hy253⟩ : ∃ y_ : List (List Int), y_ = (x3_2.set ((rd t245 x19_2) : Int).toNat y250) := ⟨_, rfl⟩
              replace H : (outer_members.l1 k2 y253 x12_1 a0_1 x12_1 t245 (t245.length : Int) (wrap64 (x19_2 + 1)) a0_0 a0_1 a0_2 a0_3) = some r := by first | (rw [hy253]; with_reducible exact H) | (have H2_ := (Option.bind_some _ _).symm.trans H; rw [hy253]; with_reducible exact H2_) | (have H2_ := (Option.bind_some _ _).symm.trans H; with_reducible exact H2_) | with_reducible exact H | (rw [hy253]; exact H) | exact H
              have Ny253 := jo hy253
              clear hy253
              have H' := jo H
              clear H
              have p248 : 0 ≤ (x19_2 : Int) := of_decide_eq_true ja
              have q248 : x19_2 < (t245.length : Int) := of_decide_eq_true ja
              obtain ⟨ad248, e248, hx248_0⟩ := Kd.at_int (J_reads' HO_17.out).2.2 x19_2 p248 q248
              cases e248
              replace p248 := eq_true p248
              replace q248 := eq_true q248
              obtain ⟨Ao21, co21, eo21⟩ := Kd.S_slice HO_3.out
              subst eo21
              have p249 : 0 ≤ ((rd t245 x19_2) : Int) := of_decide_eq_true ja
              have q249 : (rd t245 x19_2) < (x3_2.length : Int) := of_decide_eq_true ja
              obtain ⟨ad249, A249_0, c249_0, e249, hx249_0, hl249_0, hi249_0⟩ := at_L2 (Kd.S_reads' HO_3.out).2.2 (rd t245 x19_2) p249 q249
              cases e249
              obtain ⟨ce249, hce249, hMe249, hcc249⟩ := Kd.S_get HO_3.out [] (rd t245 x19_2) p249 (by first | exact q249 | exact of_decide_eq_true ja | (have e_ := (Kd.S_reads' HO_3.out).1; omega))
              obtain ⟨ve249_0, rfl, ge249_0⟩ := hMe249
              have hv249_0 := hcc249 0 _ rfl
              rw [Nat.add_zero, show ((Kd.slice 3 (Kd.int .i64))).sz = 1 from rfl, Nat.mul_one] at hv249_0
              replace hv249_0 := Option.some.inj (hv249_0.symm.trans hx249_0)
              rw [hv249_0] at ge249_0
              have HL249_0 := jo (show Kd.R (Kd.int .i64) 3 _ _ _ _ (rd_L2 x3_2 (rd t245 x19_2)) from ge249_0)
              clear hv249_0 ge249_0
              have HX249_0 := jo hx249_0
              clear hcc249 hce249
              have HR249_0 := jo hi249_0
              have HC249_0 := jo hl249_0
              clear hi249_0 hl249_0
              replace p249 := eq_true p249
              replace q249 := eq_true q249
              obtain ⟨go22, co22, eo22, gb22, gl22, cl22, HG22⟩ := Kd.S_form HO_3.out (by have h_ : ((rd t245 x19_2) : Int) < ((x3_2.length : Int) : Int) := of_decide_eq_true ja; have h2_ : 0 ≤ ((rd t245 x19_2) : Int) := (of_decide_eq_true ja); omega)
              (first | cases eo22 | (injection eo22 with ea_ en_ ec_; (first | subst ea_ | (injection ea_ with ea_; subst ea_)); subst ec_; clear en_))
              have GB22 := jo gb22
              have GG22 := jo HG22
              clear gb22 gl22 HG22
              (first | simp only [add_plain] at hx249_0 | skip)
              obtain ⟨oki22, ce22, hcl22, hM22, hcc22, _, _, hH22⟩ := Kd.S_elem HO_3.out [] ((rd t245 x19_2) : Int) (of_decide_eq_true ja) (by have h_ : ((rd t245 x19_2) : Int) < ((x3_2.length : Int) : Int) := of_decide_eq_true ja; first | exact h_ | (have e_ := (Kd.S_reads' HO_3.out).1; omega) | simpa using h_)
              obtain ⟨ve22_0, rfl, ge22_0⟩ := hM22
              have hv22 := hcc22 0 _ rfl
              have hX22 := HX249_0.out
              (try simp only [add_plain] at hX22)
              (try simp only [Nat.add_zero] at hv22)
              (try rw [show ((Kd.slice 3 (Kd.int .i64))).sz = 1 from rfl, Nat.mul_one] at hv22)
              replace hv22 := Option.some.inj (hv22.symm.trans hX22)
              subst hv22
              clear hX22 hcc22 hcl22
              have UU22 := jo (show Kd.R (Kd.int .i64) 3 _ w.heap.size oki22 (.slice A249_0 (rd_L2 x3_2 (rd t245 x19_2)).length c249_0) (rd_L2 x3_2 (rd t245 x19_2)) from ge22_0)
              have HH22 := jo hH22
              have HN22 := jo (Kd.S_reads' HO_3.out).1
              clear hH22 ge22_0
              go_wp2_with (first | ((with_reducible refine gate_builtin (b := .append) (xs := #[.tmp 28, .tmp 30]) rfl ?_); at_builtin; refine Kd.R_append (Kd.int .i64) (w0 := w) w.heap.size rfl (.tmp 28) (.tmp 30) 44 3 (.int .i64 0) 8 rfl Tryz.underlying44 info3 rfl (by decide) (by omega) (.slice A249_0 (rd_L2 x3_2 (rd t245 x19_2)).length c249_0) (rd_L2 x3_2 (rd t245 x19_2)) x12_1 [.int .i64 x12_1] (fun k_ => oki22 k_ ∨ ((fun k_ => some k_ ≠ (.slice (some ad248) t245.length co13 : Value).ownBlock)) k_ ∧ wr.heap.size ≤ k_) (fun _ => False) rfl rfl ?aP (fun _ hk => hk.elim) ?aF ?aO ?aB ?aS ?aL ?_; (case aP => exact rfl); (case aB => exact jb); (case aF => exact (fun k_ hk => .inr ⟨Kd.fresh' (JR.lt_ (by (with_reducible repeat (first | apply J_alloc | apply J_drewN | apply J_drew)); exact HO_17.out)) k_ hk, hk⟩)); (case aO => exact (by (with_reducible repeat (first | apply Kd.R_alloc | apply Kd.R_drewN | apply Kd.R_drew)); exact Kd.R_mono UU22.out (fun _ hk => .inl hk))); (case aS => exact (below_size jb)); (case aL => have := LMc19.out; omega); intro v251 w23 ho hb hg hat; rw [← Ny250.out] at ho; have n0_ := jo (J_grown2 (by (with_reducible repeat (first | apply J_alloc | apply J_drewN | apply J_drew)); exact HO_17.out) hg (fun k_ e_ => (HL249_0.out.1 k_ e_).1)); have n1_ := jo (blk_grown (g := gb241) (o := .cells #[.int .i64 a0_0, .int .i64 a0_1, .int .i64 a0_2, .int .i64 a0_3] 55 (0, 0)) (jk BK241.out) hg (Kd.R_ne HL249_0.out BK241.out (by decide))); have n2_ := jo (hb); have n3_ := jo (Kd.H_grown (Kd.H_widen (by repeat (first | exact HH22.out | refine Kd.H_alloc ?_ _ | refine Kd.H_drewN ?_ _ | refine Kd.H_drew ?_))) hg (fun k_ e_ => .inl (UU22.out.1 k_ e_))); have n4_ := jo (ho); clear HO_17; clear BK241; clear HB; clear HH22; clear HO_3; clear UU22; clear HL249_0; have HO_17 := n0_; have BK241 := n1_; have HB := n2_; have HH22 := n3_; have HO252 := n4_; clear n0_ n1_ n2_ n3_ n4_; clear ho hb hg hat; have p20 : 0 ≤ ((rd t245 x19_2) : Int) := of_decide_eq_true ja; have q20 : ((rd t245 x19_2) : Int) < ((x3_2.length : Int) : Int) := of_decide_eq_true ja; replace p20 := eq_true p20; replace q20 := eq_true q20; obtain ⟨Ao26, co26, eo26⟩ := Kd.R_slice HO252.out; subst eo26; obtain ⟨_, _, hraw24, _, _, hcc24, _⟩ := Kd.H_raw HH22.out (of_decide_eq_true ja) (by have h_ : ((rd t245 x19_2) : Int) < ((x3_2.length : Int) : Int) := of_decide_eq_true ja; first | exact h_ | (have e_ := (HN22.out); omega) | simpa using h_); obtain ⟨_, hfr24⟩ := Kd.H_at HH22.out (of_decide_eq_true ja) (by have h_ : ((rd t245 x19_2) : Int) < ((x3_2.length : Int) : Int) := of_decide_eq_true ja; first | exact h_ | (have e_ := (HN22.out); omega) | simpa using h_); have hx24_0 := hcc24 0 _ rfl; have hf24_0 := hfr24 0; (try simp only [Nat.add_zero] at hx24_0 hf24_0); (try rw [show ((Kd.slice 3 (Kd.int .i64))).sz = 1 from rfl, Nat.mul_one] at hx24_0); (try rw [show ((Kd.slice 3 (Kd.int .i64))).sz = 1 from rfl, Nat.mul_one] at hf24_0); have HP24 := Kd.S_seg0 HH22.out (of_decide_eq_true ja) (by have h_ : ((rd t245 x19_2) : Int) < ((x3_2.length : Int) : Int) := of_decide_eq_true ja; first | exact h_ | (have e_ := (HN22.out); omega) | simpa using h_) (seg := [.slice Ao26 y250.length co26]) (j := 0) (show 1 ≤ 1 from by decide) (x' := y250) (Kd.M_row HO252.out) (fun _ hk => hk); (try simp only [show ((Kd.slice 3 (Kd.int .i64))).sz = 1 from rfl, Nat.mul_one, Nat.add_zero] at HP24); clear hcc24 hfr24) | ((with_reducible refine gate_store (t := 44) (p := 32) rfl ?_); refine store_event (t := 44) (p := 32) (v := ?vo_w25) (w1 := (w23.setCell ⟨go22, ((rd t245 x19_2) : Int).toNat, none⟩ (.slice Ao26 y250.length co26))) ?hg ?ho ?hn ?hr ?_; (case ho => rfl); (case hg => rfl); (case hn => rfl); (case hr => first | (go_simp; done) | (go_simp; rfl)); intro w25 hw; have hg : w23.grownBy w25 (some go22) := (by rw [hw]; exact HP24.2); have hp_ : Kd.S (Kd.slice 3 (Kd.int .i64)) 44 w25 w.heap.size (fun k_ => some k_ ≠ (.slice (some ad248) t245.length co13 : Value).ownBlock) (.slice (some ⟨go22, 0, none⟩) x3_2.length co21) y253 := (by rw [hw, Ny253.out]; exact HP24.1); clear HP24; have n0_ := jo (J_over' (v := (.slice (some ⟨go22, 0, none⟩) x3_2.length co21)) (by (with_reducible repeat (first | apply J_alloc | apply J_drewN | apply J_drew)); exact HO_17.out) (Kd.R_typed hraw24) (by decide) hg); have n1_ := jo (blk_grown (g := gb241) (o := .cells #[.int .i64 a0_0, .int .i64 a0_1, .int .i64 a0_2, .int .i64 a0_3] 55 (0, 0)) (jk BK241.out) hg (Kd.R_ne hraw24 BK241.out (by decide))); have n2_ := jo ((by rw [hw]; exact below_set HB.out GB22.out : Below w.heap.size w w25)); have n3_ := jo (hp_); clear HO_17; clear BK241; clear HB; clear HO252; clear HH22; have HO_17 := n0_; have BK241 := n1_; have HB := n2_; have HO_3 := n3_; clear n0_ n1_ n2_ n3_; clear hg hw hp_ hraw24))
              go_roundg k2
              case measure => have := HK1.out; have := HK2.out; omega
              case rel => exact ⟨(y253), (wrap64 (x19_2 + 1)), js, H', ⟨by have := HK1.out; have := HK2.out; omega⟩, ⟨by (with_reducible repeat (first | apply Kd.S_alloc | apply Kd.S_drewN | apply Kd.S_drew)); exact HO_3.out⟩, ⟨by (with_reducible repeat (first | apply J_alloc | apply J_drewN | apply J_drew)); exact HO_17.out⟩, ⟨by (with_reducible repeat (first | refine blk_drewN ?_ _ | refine blk_drew ?_ | refine blk_alloc ?_ _)); exact BK241.out⟩, ⟨jb⟩⟩
             ·rw [if_neg c19] at H
              exact absurd H (by simp)
            ·rw [if_neg c18] at H
             exact absurd H (by simp)
           ·rw [if_neg c17] at H
            exact absurd H (by simp)
          ·rw [if_neg c16] at H
           exact absurd H (by simp)
         ·rw [if_neg c15] at H
          exact absurd H (by simp)
        ·rw [if_neg c14] at H
         have c14b0 : decide (x19_2 < (t245.length : Int)) = false := decide_eq_false c14
         clear c14
         have H' := jo H
         clear H
         go_wp2
         go_roundg k2
         case measure => have := HK1.out; have := HK2.out; omega
         case rel => exact ⟨(x3_2), (wrap64 (x12_1 + 1)), js, H', ⟨by have := HK1.out; have := HK2.out; omega⟩, ⟨by (with_reducible repeat (first | apply Kd.S_alloc | apply Kd.S_drewN | apply Kd.S_drew)); exact Kd.S_mono HO_3.out (fun _ hk => trivial)⟩, ⟨by (with_reducible repeat (first | refine blk_drewN ?_ _ | refine blk_drew ?_ | refine blk_alloc ?_ _)); exact BK241.out⟩, ⟨jb⟩⟩
     ·rw [if_neg c9] at H
      have c9b0 : decide (x12_1 < a0_1) = false := decide_eq_false c9
      clear c9
      obtain rfl := Option.some.inj H
      go_wp2
      go_ret
      exact ⟨_, je, by (with_reducible repeat (first | apply Kd.S_alloc | apply Kd.S_drewN | apply Kd.S_drew)); exact HO_3.out, jb⟩
  ·rw [if_neg c3] at H
   exact absurd H (by simp)
 ·rw [if_neg c2] at H
  exact absurd H (by simp)
def outer_sum.l0 : Nat → List ByteArray → Int → List ByteArray → List Int → Int → Int → Option (ByteArray)
 | 0, _, _, _, _, _, _ => none
 | k + 1, x0, x2, x7, x12, x13, x14 => if x14 < x13 then (if 0 ≤ x14 then (if x14 < (x12.length : Int) then (if 0 ≤ (rd x12 x14) then (if (rd x12 x14) < (x0.length : Int) then (if x7.length < 8796093022208 then (outer_sum.l0 k x0 x2 (x7 ++ [rdOf ByteArray.empty x0 (rd x12 x14)]) x12 x13 (wrap64 (x14 + 1))) else (none)) else (none)) else (none)) else (none)) else (none)) else ((block_Sum.f x7 x2).bind fun bt261 => (some bt261.1))
def outer_sum.f (k : Nat) (l0 : List ByteArray) (l1 : List Int) (a2 : Int) : Option (ByteArray) := outer_sum.l0 k l0 a2 ([] : List ByteArray) l1 (l1.length : Int) 0
theorem outer_sum.calls (k : Nat) (A0 : Option Addr) (c0 : Nat) (l0 : List ByteArray) (A1 : Option Addr) (c1 : Nat) (l1 : List Int) (a2 : Int) (r : ByteArray) (w : World) (hr0 : Kd.C Kd.string w A0 l0.length l0) (hc0 : l0.length ≤ c0) (hr1 : Kd.C (Kd.int .i64) w A1 l1.length l1) (hc1 : l1.length ≤ c1) (h : outer_sum.f k l0 l1 a2 = some r) :
  Calls Tryz.prog 74 #[.slice A0 l0.length c0, .slice A1 l1.length c1, .int .i64 a2] w fun e w' => e = .returned (.string r) ∧ Below w.heap.size w w' := by
 have HR0 := jo hr0
 have HC0 := jo hc0
 clear hr0 hc0
 have HR1 := jo hr1
 have HC1 := jo hc1
 clear hr1 hc1
 have HB := jo (Below.refl w.heap.size w)
 have H : (outer_sum.l0 k l0 a2 ([] : List ByteArray) l1 (l1.length : Int) 0) = some r := h
 clear h
 have H' := jo H
 clear H
 go_enter Tryz.func74, Tryz.ntmps74
 go_wp2
 go_loopg [7, 14] k (fun kq v7 v14 w' => ∃ (x7_1 : List ByteArray) (x14_1 : Int), v14 = .int .i64 x14_1 ∧ Aside0 (outer_sum.l0 kq l0 a2 x7_1 l1 (l1.length : Int) x14_1 = some r) ∧ Aside0 (kq ≤ k) ∧ Aside0 (Kd.R Kd.string 9 w' w.heap.size (fun _ => True) v7 x7_1) ∧ Aside0 (Below w.heap.size w w'))
 case atStart => exact ⟨(([] : List ByteArray)), (0), js, H', ⟨Nat.le_refl _⟩, ⟨by first | exact Kd.R_nil _ _ _ _ _ | exact Kd.N_nil _ _ _ _ _ | exact Kd.V_nil _ _ _ _ _ | exact Kd.Q_nil _ _ _ _ _ | exact Kd.S_nil _ _ _ _ _⟩, ⟨jb⟩⟩
 case round =>
  clear H'
  try clear c1
  try clear p2
  obtain ⟨x7_1, x14_1, rfl, HA, HK1, HO_7, HB⟩ := hrel
  cases gk with
  | zero => exact absurd HA.out (by simp [outer_sum.l0])
  | succ k1 =>
   have H := HA.out
   clear HA
   simp only [outer_sum.l0] at H
   by_cases c4 : x14_1 < (l1.length : Int)
   ·rw [if_pos c4] at H
    have c4b0 : decide (x14_1 < (l1.length : Int)) = true := decide_eq_true c4
    clear c4
    by_cases c5 : 0 ≤ x14_1
    ·rw [if_pos c5] at H
     have c5b0 : decide (0 ≤ x14_1) = true := decide_eq_true c5
     clear c5
     by_cases c6 : x14_1 < (l1.length : Int)
     ·rw [if_pos c6] at H
      have c6b0 : decide (x14_1 < (l1.length : Int)) = true := decide_eq_true c6
      clear c6
      by_cases c7 : 0 ≤ (rd l1 x14_1)
      ·rw [if_pos c7] at H
       have c7b0 : decide (0 ≤ (rd l1 x14_1)) = true := decide_eq_true c7
       clear c7
       by_cases c8 : (rd l1 x14_1) < (l0.length : Int)
       ·rw [if_pos c8] at H
        have c8b0 : decide ((rd l1 x14_1) < (l0.length : Int)) = true := decide_eq_true c8
        clear c8
        by_cases c9 : x7_1.length < 8796093022208
        ·rw [if_pos c9] at H
         have LMc9 := jo c9
         clear c9
         obtain ⟨y258, hy258⟩ : ∃ y_ : List ByteArray, y_ = (x7_1 ++ [rdOf ByteArray.empty l0 (rd l1 x14_1)]) := ⟨_, rfl⟩
         replace H : (outer_sum.l0 k1 l0 a2 y258 l1 (l1.length : Int) (wrap64 (x14_1 + 1))) = some r := by first | (rw [hy258]; with_reducible exact H) | (have H2_ := (Option.bind_some _ _).symm.trans H; rw [hy258]; with_reducible exact H2_) | (have H2_ := (Option.bind_some _ _).symm.trans H; with_reducible exact H2_) | with_reducible exact H | (rw [hy258]; exact H) | exact H
         have Ny258 := jo hy258
         clear hy258
         have H' := jo H
         clear H
         have p256 : 0 ≤ (x14_1 : Int) := of_decide_eq_true ja
         have q256 : x14_1 < (l1.length : Int) := of_decide_eq_true ja
         obtain ⟨ad256, e256, hx256_0⟩ := Kd.at_int HR1.out x14_1 p256 q256
         cases e256
         replace hx256_0 := (HB.out.cell (World.block_lt_of_cell? w _ hx256_0)).trans hx256_0
         replace p256 := eq_true p256
         replace q256 := eq_true q256
         have p257 : 0 ≤ ((rd l1 x14_1) : Int) := of_decide_eq_true ja
         have q257 : (rd l1 x14_1) < (l0.length : Int) := of_decide_eq_true ja
         obtain ⟨ad257, e257, hx257_0⟩ := Kd.at_string HR0.out (rd l1 x14_1) p257 q257
         cases e257
         replace hx257_0 := (HB.out.cell (World.block_lt_of_cell? w _ hx257_0)).trans hx257_0
         replace p257 := eq_true p257
         replace q257 := eq_true q257
         go_wp2_with (first | ((with_reducible refine gate_builtin (b := .append) (xs := #[.tmp 18, .tmp 23]) rfl ?_); at_builtin; refine Kd.R_append Kd.string (w0 := w) w.heap.size rfl (.tmp 18) (.tmp 23) 31 9 (.string ⟨#[]⟩) 16 rfl Tryz.underlying31 info9 rfl (by decide) (by omega) u7 x7_1 (rdOf ByteArray.empty l0 (rd l1 x14_1)) [.string (rdOf ByteArray.empty l0 (rd l1 x14_1))] (fun _ => True) (fun _ => False) rfl rfl ?aP (fun _ hk => hk.elim) ?aF ?aO ?aB ?aS ?aL ?_; (case aP => exact rfl); (case aB => exact jb); (case aF => exact (fun _ _ => trivial)); (case aO => exact (jr HO_7.out)); (case aS => exact (below_size jb)); (case aL => have := LMc9.out; omega); intro v259 w10 ho hb hg hat; rw [← Ny258.out] at ho; have n0_ := jo (hb); have n1_ := jo (ho); clear HB; clear HO_7; have HB := n0_; have HO260 := n1_; clear n0_ n1_; clear ho hb hg hat))
         go_roundg k1
         case measure => have := HK1.out; omega
         case rel => exact ⟨(y258), (wrap64 (x14_1 + 1)), js, H', ⟨by have := HK1.out; omega⟩, ⟨jr HO260.out⟩, ⟨jb⟩⟩
        ·rw [if_neg c9] at H
         exact absurd H (by simp)
       ·rw [if_neg c8] at H
        exact absurd H (by simp)
      ·rw [if_neg c7] at H
       exact absurd H (by simp)
     ·rw [if_neg c6] at H
      exact absurd H (by simp)
    ·rw [if_neg c5] at H
     exact absurd H (by simp)
   ·rw [if_neg c4] at H
    have c4b0 : decide (x14_1 < (l1.length : Int)) = false := decide_eq_false c4
    clear c4
    replace H := Option.bind_eq_some_iff.mp H
    obtain ⟨⟨t261, t262⟩, A110, H⟩ := H
    replace H : (some t261) = some r := H
    have A11 := jo A110
    clear A110
    obtain rfl := Option.some.inj H
    obtain ⟨Ao12, co12, eo12⟩ := Kd.R_slice HO_7.out
    subst eo12
    go_wp2_with (first | ((with_reducible refine gate_callee (f := 40) rfl ?_); refine goesL_ (some 29) rfl rfl Tryz.func40 jw rfl #[.slice Ao12 x7_1.length co12, .int .i64 a2] rfl jm ?_; (with_reducible refine (block_Sum.calls _ _ x7_1 a2 t261 t262 _ ?side1 ?side2 A11.out).mono ?_); (case side1 => repeat (first | exact (Kd.R_reads' HO_7.out).2.2 | (with_reducible refine Kd.C_alloc ?_ _) | (with_reducible refine Kd.C_drewN ?_ _) | (with_reducible refine Kd.C_drew ?_))); (case side2 => exact (Kd.R_reads' HO_7.out).2.1); rintro e w13 ⟨rfl, hb⟩; refine ⟨_, rfl, ?_⟩; have n0_ := jo (Kd.R_below (jr HO_7.out) hb); have n1_ := jo (below_step jb hb); clear HO_7; clear HB; have HO_7 := n0_; have HB := n1_; clear n0_ n1_; (try clear hb); (try clear hb2); (try clear hk); (try clear hi)))
    go_ret
    exact ⟨je, jb⟩
def outer_sized.f (l0 : List ByteArray) : Option Bool := if 0 < l0.length ∧ 1 ≤ (l0.headD ⟨#[]⟩).size ∧ (l0.headD ⟨#[]⟩).size ≤ 64 ∧ ∀ s ∈ l0, s.size = (l0.headD ⟨#[]⟩).size then some true else none
theorem outer_sized.calls (A0 : Option Addr) (c0 : Nat) (l0 : List ByteArray) (r : Bool) (w : World) (hr0 : Kd.C Kd.string w A0 l0.length l0) (hc0 : l0.length ≤ c0) (h : outer_sized.f l0 = some r) :
  Calls Tryz.prog 71 #[.slice A0 l0.length c0] w fun e w' => e = .returned (.bool r) ∧ Below w.heap.size w w' := by
 unfold outer_sized.f at h
 split at h
 ·rename_i hc
  obtain rfl := Option.some.inj h
  exact sized_ok (n := ((l0.headD ⟨#[]⟩).size : Int)) w hr0 hc0 hc.1 (by have := hc.2.1; omega) (by have := hc.2.2.1; omega) (fun s hs => by rw [hc.2.2.2 s hs])
 ·exact absurd h (by simp)
theorem clone_ok {A : Option Addr} {c : Nat} {l : List ByteArray} (w : World) (hr : Kd.C Kd.string w A l.length l) (hc : l.length ≤ c) (h0 : 0 < l.length) (hm : l.length < 1000000) :
  Calls Tryz.prog 72 #[.slice A l.length c] w fun e w' => ∃ v : Value, e = .returned v ∧ Kd.R Kd.string 9 w' w.heap.size (fun _ => True) v l ∧ Below w.heap.size w w' := by
 have HR := jo hr
 obtain ⟨ad, rfl, _⟩ := Kd.at_string hr (0 : Int) (by omega) (by omega)
 clear hr
 have hq : ∀ (W : World) (a : Option Addr) (n c n' c' : Nat), (binOp .eql 31 (.slice a n c) (.slice none n' c')).run Tryz.prog W = .ok (.bool a.isNone) W := fun W a n c n' c' => Lib.run_eql_slice_nil W _ _ a n c n' c' Tryz.underlying31
 go_enter Tryz.func72, Tryz.ntmps72
 go_wp2_with (at_builtin; refine Kd.R_append_row Value.string ByteArray.empty (h1 := fun _ => rfl) w.heap.size rfl _ _ 31 9 (.string ⟨#[]⟩) 16 rfl Tryz.underlying31 info9 rfl (by decide) (.slice (some ⟨w.heap.size, 0, none⟩) 0 0) [] l (some ad) l.length c (fun _ => True) rfl rfl (fun _ _ => trivial) ?q1 ?q2 (below_alloc (Below.refl _ _) _) ?q4 ?q5 ?_)
 case q1 => exact Kd.R_of_own (World.ownsRow_made w #[] 0 (Nat.le_refl _) (Nat.zero_le _) (by simp)) (fun _ _ => trivial)
 case q2 => exact Kd.C_below HR.out (below_alloc (Below.refl _ _) _)
 case q4 => simp
 case q5 =>
  show (0 + l.length) * 16 ≤ _
  omega
 intro v w1 ho hb _ _
 have HO := jo ho
 have HB := jo hb
 clear ho hb
 go_wp2
 go_ret
 exact ⟨v, rfl, HO.out, HB.out⟩
end Go.Proofs.YtjmooillogojkaaGreat.Q
