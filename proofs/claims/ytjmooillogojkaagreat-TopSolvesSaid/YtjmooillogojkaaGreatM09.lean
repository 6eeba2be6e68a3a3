/- Printed by a changed copy of a printer, shortened by a program: what these functions answer: peel_gap peel_peel peel_numbers. No condition. -/
import Derived.Test.YtjmooillogojkaaGreatM05
set_option maxHeartbeats 8000000
set_option maxRecDepth 100000
set_option linter.unusedVariables false
set_option linter.unusedSimpArgs false
namespace Go.Proofs.YtjmooillogojkaaGreat.Q
open Go.RowKit Go.Proofs.YtjmooillogojkaaGreatW.PrintWords Go.Proofs.YtjmooillogojkaaGreatW.PrintLast Go.Proofs.YtjmooillogojkaaGreatW.PrintMore
open Go.Proofs.YtjmooillogojkaaGreat
def peel_gap.l0 : Nat → List Bool → Int → List Int → Int → Int → Option (Int × Bool)
 | 0, _, _, _, _, _ => none
 | k + 1, x1, x6, x9, x10, x11 => if x11 < x10 then (if 0 ≤ x11 then (if x11 < (x9.length : Int) then (if 0 ≤ (rd x9 x11) then (if (rd x9 x11) < (x1.length : Int) then (if rdOf false x1 (rd x9 x11) = true then (peel_gap.l0 k x1 x6 x9 x10 (wrap64 (x11 + 1))) else (if x6 ≥ 0 then (some (0, false)) else (peel_gap.l0 k x1 (rd x9 x11) x9 x10 (wrap64 (x11 + 1))))) else (none)) else (none)) else (none)) else (none)) else (some (x6, decide (x6 ≥ 0)))
def peel_gap.f (k : Nat) (l0 : List Int) (l1 : List Bool) : Option (Int × Bool) := peel_gap.l0 k l1 (-1) l0 (l0.length : Int) 0
theorem peel_gap.calls (k : Nat) (A0 : Option Addr) (c0 : Nat) (l0 : List Int) (A1 : Option Addr) (c1 : Nat) (l1 : List Bool) (r1 : Int) (r2 : Bool) (w : World) (hr0 : Kd.C (Kd.int .i64) w A0 l0.length l0) (hc0 : l0.length ≤ c0) (hr1 : Kd.C Kd.bool w A1 l1.length l1) (hc1 : l1.length ≤ c1) (h : peel_gap.f k l0 l1 = some (r1, r2)) :
  Calls Tryz.prog 68 #[.slice A0 l0.length c0, .slice A1 l1.length c1] w fun e w' => e = .returned (.tuple #[.int .i64 r1, .bool r2]) ∧ Drawn0 w w' := by
 have HR0 := jo hr0
 have HC0 := jo hc0
 clear hr0 hc0
 have HR1 := jo hr1
 have HC1 := jo hc1
 clear hr1 hc1
 have H : (peel_gap.l0 k l1 (-1) l0 (l0.length : Int) 0) = some (r1, r2) := h
 clear h
 have H' := jo H
 clear H
 go_enter Tryz.func68, Tryz.ntmps68
 go_wp2
 go_loopg [6, 11] k (fun kq v6 v11 w' => ∃ (x6_1 : Int) (x11_1 : Int), v6 = .int .i64 x6_1 ∧ v11 = .int .i64 x11_1 ∧ Aside0 (peel_gap.l0 kq l1 x6_1 l0 (l0.length : Int) x11_1 = some (r1, r2)) ∧ Aside0 (kq ≤ k) ∧ Drawn0 w w')
 case atStart => exact ⟨((-1)), (0), js, js, H', ⟨Nat.le_refl _⟩, jd⟩
 case round =>
  clear H'
  try clear c1
  try clear p2
  obtain ⟨x6_1, x11_1, rfl, rfl, HA, HK1, ⟨m1, rfl⟩⟩ := hrel
  cases gk with
  | zero => exact absurd HA.out (by simp [peel_gap.l0])
  | succ k1 =>
   have H := HA.out
   clear HA
   simp only [peel_gap.l0] at H
   by_cases c3 : x11_1 < (l0.length : Int)
   ·rw [if_pos c3] at H
    have c3b0 : decide (x11_1 < (l0.length : Int)) = true := decide_eq_true c3
    clear c3
    by_cases c4 : 0 ≤ x11_1
    ·rw [if_pos c4] at H
     have c4b0 : decide (0 ≤ x11_1) = true := decide_eq_true c4
     clear c4
     by_cases c5 : x11_1 < (l0.length : Int)
     ·rw [if_pos c5] at H
      have c5b0 : decide (x11_1 < (l0.length : Int)) = true := decide_eq_true c5
      clear c5
      by_cases c6 : 0 ≤ (rd l0 x11_1)
      ·rw [if_pos c6] at H
       have c6b0 : decide (0 ≤ (rd l0 x11_1)) = true := decide_eq_true c6
       clear c6
       by_cases c7 : (rd l0 x11_1) < (l1.length : Int)
       ·rw [if_pos c7] at H
        have c7b0 : decide ((rd l0 x11_1) < (l1.length : Int)) = true := decide_eq_true c7
        clear c7
        obtain ⟨bq8, hbq8⟩ : ∃ b_ : Bool, b_ = (rdOf false l1 (rd l0 x11_1)) := ⟨_, rfl⟩
        replace H : (if bq8 = true then (peel_gap.l0 k1 l1 x6_1 l0 (l0.length : Int) (wrap64 (x11_1 + 1))) else (if x6_1 ≥ 0 then (some (0, false)) else (peel_gap.l0 k1 l1 (rd l0 x11_1) l0 (l0.length : Int) (wrap64 (x11_1 + 1))))) = some (r1, r2) := by rw [← hbq8] at H; exact H
        have Nbq8 := jo hbq8
        clear hbq8
        by_cases c9 : bq8 = true
        ·subst c9
         have H1 : (peel_gap.l0 k1 l1 x6_1 l0 (l0.length : Int) (wrap64 (x11_1 + 1))) = some (r1, r2) := by rw [if_pos rfl] at H; exact H
         clear H
         have H := H1
         clear H1
         have H' := jo H
         clear H
         have p349 : 0 ≤ (x11_1 : Int) := of_decide_eq_true ja
         have q349 : x11_1 < (l0.length : Int) := of_decide_eq_true ja
         obtain ⟨ad349, e349, hx349_0⟩ := Kd.at_int HR0.out x11_1 p349 q349
         cases e349
         replace p349 := eq_true p349
         replace q349 := eq_true q349
         have p350 : 0 ≤ ((rd l0 x11_1) : Int) := of_decide_eq_true ja
         have q350 : (rd l0 x11_1) < (l1.length : Int) := of_decide_eq_true ja
         obtain ⟨ad350, e350, hx350_0⟩ := Kd.at_bool HR1.out (rd l0 x11_1) p350 q350
         (try rw [← Nbq8.out] at hx350_0)
         cases e350
         replace p350 := eq_true p350
         replace q350 := eq_true q350
         go_wp2
         go_roundg k1
         case measure => have := HK1.out; omega
         case rel => exact ⟨(x6_1), (wrap64 (x11_1 + 1)), js, js, H', ⟨by have := HK1.out; omega⟩, jd⟩
        ·replace c9 := Bool.eq_false_iff.mpr c9
         subst c9
         have H1 : (if x6_1 ≥ 0 then (some (0, false)) else (peel_gap.l0 k1 l1 (rd l0 x11_1) l0 (l0.length : Int) (wrap64 (x11_1 + 1)))) = some (r1, r2) := by rw [if_neg (show ¬ (false = true) by decide)] at H; exact H
         clear H
         have H := H1
         clear H1
         by_cases c10 : x6_1 ≥ 0
         ·rw [if_pos c10] at H
          have c10b0 : decide (0 ≤ x6_1) = true := decide_eq_true c10
          clear c10
          simp only [Option.some.injEq, Prod.mk.injEq] at H
          obtain ⟨rfl, rfl⟩ := H
          have p349 : 0 ≤ (x11_1 : Int) := of_decide_eq_true ja
          have q349 : x11_1 < (l0.length : Int) := of_decide_eq_true ja
          obtain ⟨ad349, e349, hx349_0⟩ := Kd.at_int HR0.out x11_1 p349 q349
          cases e349
          replace p349 := eq_true p349
          replace q349 := eq_true q349
          have p350 : 0 ≤ ((rd l0 x11_1) : Int) := of_decide_eq_true ja
          have q350 : (rd l0 x11_1) < (l1.length : Int) := of_decide_eq_true ja
          obtain ⟨ad350, e350, hx350_0⟩ := Kd.at_bool HR1.out (rd l0 x11_1) p350 q350
          (try rw [← Nbq8.out] at hx350_0)
          cases e350
          replace p350 := eq_true p350
          replace q350 := eq_true q350
          go_wp2
          go_ret2
          exact ⟨by first | rfl | (simp; done) | (simp [*]; done), jd⟩
         ·rw [if_neg c10] at H
          have c10b0 : decide (0 ≤ x6_1) = false := decide_eq_false c10
          clear c10
          have H' := jo H
          clear H
          have p349 : 0 ≤ (x11_1 : Int) := of_decide_eq_true ja
          have q349 : x11_1 < (l0.length : Int) := of_decide_eq_true ja
          obtain ⟨ad349, e349, hx349_0⟩ := Kd.at_int HR0.out x11_1 p349 q349
          cases e349
          replace p349 := eq_true p349
          replace q349 := eq_true q349
          have p350 : 0 ≤ ((rd l0 x11_1) : Int) := of_decide_eq_true ja
          have q350 : (rd l0 x11_1) < (l1.length : Int) := of_decide_eq_true ja
          obtain ⟨ad350, e350, hx350_0⟩ := Kd.at_bool HR1.out (rd l0 x11_1) p350 q350
          (try rw [← Nbq8.out] at hx350_0)
          cases e350
          replace p350 := eq_true p350
          replace q350 := eq_true q350
          go_wp2
          go_roundg k1
          case measure => have := HK1.out; omega
          case rel => exact ⟨(rd l0 x11_1), (wrap64 (x11_1 + 1)), js, js, H', ⟨by have := HK1.out; omega⟩, jd⟩
       ·rw [if_neg c7] at H
        exact absurd H (by simp)
      ·rw [if_neg c6] at H
       exact absurd H (by simp)
     ·rw [if_neg c5] at H
      exact absurd H (by simp)
    ·rw [if_neg c4] at H
     exact absurd H (by simp)
   ·rw [if_neg c3] at H
    have c3b0 : decide (x11_1 < (l0.length : Int)) = false := decide_eq_false c3
    clear c3
    simp only [Option.some.injEq, Prod.mk.injEq] at H
    obtain ⟨rfl, rfl⟩ := H
    go_wp2
    go_ret2
    exact ⟨by first | rfl | (simp; done) | (simp [*]; done), jd⟩
def peel_peel.l0 : Nat → List (List Int) → List Bool → List (S123) → Int → Option ((List (S123)) × List Bool)
 | 0, _, _, _, _ => none
 | k + 1, x0, x1, x5, x6 => if x6 = (x0.length : Int) then (some (x5, x1)) else (if 0 ≤ x6 then (if x6 < (x0.length : Int) then ((peel_gap.f k (rd_L2 x0 x6) x1).bind fun bt352 => (if bt352.2 = true then (if 0 ≤ bt352.1 then (if bt352.1 < (x1.length : Int) then (if x5.length < 8796093022208 then (peel_peel.l0 k x0 (x1.set (bt352.1 : Int).toNat true) (x5 ++ [(⟨x6, bt352.1⟩ : S123)]) 0) else (none)) else (none)) else (none)) else (peel_peel.l0 k x0 x1 x5 (wrap64 (x6 + 1))))) else (none)) else (none))
def peel_peel.f (k : Nat) (l0 : List (List Int)) (l1 : List Bool) : Option ((List (S123)) × List Bool) := peel_peel.l0 k l0 l1 ([] : List (S123)) 0
theorem peel_peel.calls (k : Nat) (A0 : Option Addr) (c0 : Nat) (l0 : List (List Int)) (P1_ : Nat → Prop) (u9000_ : Value) (l1 : List Bool) (r1 : List (S123)) (r2 : List Bool) (w0 w : World) (hB : Below w0.heap.size w0 w) (hr0 : ∀ W_, Kept w W_ (fun k_ => P1_ k_) → Kd.C (Kd.slice 3 (Kd.int .i64)) W_ A0 l0.length l0) (hc0 : l0.length ≤ c0) (ho1 : Kd.R Kd.bool 4 w w0.heap.size P1_ u9000_ l1) (h : peel_peel.f k l0 l1 = some (r1, r2)) :
  Calls Tryz.prog 31 #[.slice A0 l0.length c0, u9000_] w fun e w' => ∃ v0_ : Value, e = .returned (v0_) ∧ Kd.R k123 123 w' w0.heap.size (fun k_ => (P1_ k_ ∨ w.heap.size ≤ k_)) v0_ r1 ∧ Kd.R Kd.bool 4 w' w0.heap.size (fun k_ => (P1_ k_ ∨ w.heap.size ≤ k_)) u9000_ r2 ∧ Below w0.heap.size w0 w' ∧ Kept w w' (fun k_ => P1_ k_) := by
 have hu123 := Tryz.underlying123
 have HR0 := jo hr0
 have HC0 := jo hc0
 clear hr0 hc0
 have HO1 := jo (show Kd.R Kd.bool 4 w w0.heap.size (fun k_ => (P1_ k_ ∨ w.heap.size ≤ k_)) u9000_ l1 from Kd.R_mono ho1 (fun k_ hk => (.inl hk)))
 have HK := jo (Kept.refl w (fun k_ => P1_ k_))
 have HW0 := jo hB.size
 have HB := jo hB
 clear hB
 have H : (peel_peel.l0 k l0 l1 ([] : List (S123)) 0) = some (r1, r2) := h
 clear h
 have H' := jo H
 clear H
 go_enter Tryz.func31, Tryz.ntmps31
 go_wp2_with (fail)
 refine Goto.wp_scope_lazy 0 rfl ?_
 intro KG HKG
 go_wp2
 refine Goto.label_ghost_put HKG (by assumption) [false, false, false, false, true, true, true, true, true, true, true, true, true, true, true, true, true, true, true, true, true, true, true, true, true, true, true, true, true, true, true, true, true, true, true] (fun kq vs_ w' => ∃ u4 u5 u6 u7 u8 u9 u10 u11 u12 u13 u14 u15 u16 u17 u18 u19 u20 u21 u22 u23 u24 u25 u26 u27 u28 u29 u30 u31 u32 u33 u34 : Value, vs_ = [u4, u5, u6, u7, u8, u9, u10, u11, u12, u13, u14, u15, u16, u17, u18, u19, u20, u21, u22, u23, u24, u25, u26, u27, u28, u29, u30, u31, u32, u33, u34] ∧ ∃ (x1_1 : List Bool) (x5_1 : List (S123)) (x6_1 : Int), u6 = .int .i64 x6_1 ∧ Aside0 (peel_peel.l0 kq l0 x1_1 x5_1 x6_1 = some (r1, r2)) ∧ Aside0 (kq ≤ k) ∧ Aside0 (Kd.R Kd.bool 4 w' w0.heap.size (fun k_ => (P1_ k_ ∨ w.heap.size ≤ k_)) u9000_ x1_1) ∧ Aside0 (Kd.R k123 123 w' w0.heap.size (fun k_ => (P1_ k_ ∨ w.heap.size ≤ k_)) u5 x5_1) ∧ Aside0 (Kept w w' (fun k_ => P1_ k_)) ∧ Aside0 (Below w0.heap.size w0 w')) k [_, _, _, _, _, _, _, _, _, _, _, _, _, _, _, _, _, _, _, _, _, _, _, _, _, _, _, _, _, _, _] ?atStart rfl ?round
 case atStart => exact ⟨_, _, _, _, _, _, _, _, _, _, _, _, _, _, _, _, _, _, _, _, _, _, _, _, _, _, _, _, _, _, _, rfl, (l1), (([] : List (S123))), (0), js, H', ⟨Nat.le_refl _⟩, ⟨jr HO1.out⟩, ⟨by first | exact Kd.R_nil _ _ _ _ _ | exact Kd.N_nil _ _ _ _ _ | exact Kd.V_nil _ _ _ _ _ | exact Kd.Q_nil _ _ _ _ _ | exact Kd.S_nil _ _ _ _ _⟩, ⟨by repeat (first | (with_reducible first | exact HK.out | apply Kept.alloc | apply Kept.drewN | apply Kept.drew) | exact HK.out)⟩, ⟨jb⟩⟩
 case round =>
  clear HKG
  intro gk vs_ wr hrel JG1 KG1 HJG1 HKG1
  clear H'
  try clear p2
  obtain ⟨u4, u5, u6, u7, u8, u9, u10, u11, u12, u13, u14, u15, u16, u17, u18, u19, u20, u21, u22, u23, u24, u25, u26, u27, u28, u29, u30, u31, u32, u33, u34, hvs_, hrel⟩ := hrel
  subst hvs_
  obtain ⟨x1_1, x5_1, x6_1, rfl, HA, HK1, HO_1, HO_5, HK, HB⟩ := hrel
  simp only [Goto.putFrame_mk, Goto.putAll_true, Goto.putAll_false, Goto.putAll_nil]
  cases gk with
  | zero => exact absurd HA.out (by simp [peel_peel.l0])
  | succ k1 =>
   have H := HA.out
   clear HA
   simp only [peel_peel.l0] at H
   by_cases c3 : x6_1 = (l0.length : Int)
   ·rw [if_pos c3] at H
    have c3b0 : (x6_1 == (l0.length : Int)) = true := beq_iff_eq.mpr c3
    have c3b1 : (x6_1 != (l0.length : Int)) = false := bne_eq_false_iff_eq.mpr c3
    clear c3
    simp only [Option.some.injEq, Prod.mk.injEq] at H
    obtain ⟨rfl, rfl⟩ := H
    go_wp2
    (try simp only [Goto.jump_ret, Goto.jump_normal, Exit.then, Exit.inBlock])
    go_ret
    exact ⟨_, je, jr HO_5.out, jr HO_1.out, by repeat (first | (with_reducible first | exact HB.out | apply below_alloc | apply pw_below_drewN | apply below_drew1) | exact HB.out), by repeat (first | (with_reducible first | exact HK.out | apply Kept.alloc | apply Kept.drewN | apply Kept.drew) | exact HK.out)⟩
   ·rw [if_neg c3] at H
    have c3b0 : (x6_1 == (l0.length : Int)) = false := beq_eq_false_iff_ne.mpr c3
    have c3b1 : (x6_1 != (l0.length : Int)) = true := bne_iff_ne.mpr c3
    by_cases c4 : 0 ≤ x6_1
    ·rw [if_pos c4] at H
     have c4b0 : decide (0 ≤ x6_1) = true := decide_eq_true c4
     clear c4
     by_cases c5 : x6_1 < (l0.length : Int)
     ·rw [if_pos c5] at H
      have c5b0 : decide (x6_1 < (l0.length : Int)) = true := decide_eq_true c5
      clear c5
      replace H := Option.bind_eq_some_iff.mp H
      obtain ⟨⟨t352, t353⟩, A60, H⟩ := H
      replace H : (if t353 = true then (if 0 ≤ t352 then (if t352 < (x1_1.length : Int) then (if x5_1.length < 8796093022208 then (peel_peel.l0 k1 l0 (x1_1.set (t352 : Int).toNat true) (x5_1 ++ [(⟨x6_1, t352⟩ : S123)]) 0) else (none)) else (none)) else (none)) else (peel_peel.l0 k1 l0 x1_1 x5_1 (wrap64 (x6_1 + 1)))) = some (r1, r2) := H
      have A6 := jo A60
      clear A60
      by_cases c7 : t353 = true
      ·subst c7
       have H1 : (if 0 ≤ t352 then (if t352 < (x1_1.length : Int) then (if x5_1.length < 8796093022208 then (peel_peel.l0 k1 l0 (x1_1.set (t352 : Int).toNat true) (x5_1 ++ [(⟨x6_1, t352⟩ : S123)]) 0) else (none)) else (none)) else (none)) = some (r1, r2) := by rw [if_pos rfl] at H; exact H
       clear H
       have H := H1
       clear H1
       by_cases c8 : 0 ≤ t352
       ·rw [if_pos c8] at H
        have c8b0 : decide (0 ≤ t352) = true := decide_eq_true c8
        clear c8
        by_cases c9 : t352 < (x1_1.length : Int)
        ·rw [if_pos c9] at H
         have c9b0 : decide (t352 < (x1_1.length : Int)) = true := decide_eq_true c9
         clear c9
         obtain ⟨y354, hy354⟩ : ∃ y_ : List Bool, y_ = (x1_1.set (t352 : Int).toNat true) := ⟨_, rfl⟩
         replace H : (if x5_1.length < 8796093022208 then (peel_peel.l0 k1 l0 y354 (x5_1 ++ [(⟨x6_1, t352⟩ : S123)]) 0) else (none)) = some (r1, r2) := by first | (rw [hy354]; with_reducible exact H) | (have H2_ := (Option.bind_some _ _).symm.trans H; rw [hy354]; with_reducible exact H2_) | (have H2_ := (Option.bind_some _ _).symm.trans H; with_reducible exact H2_) | with_reducible exact H | (rw [hy354]; exact H) | exact H
         have Ny354 := jo hy354
         clear hy354
         by_cases c11 : x5_1.length < 8796093022208
         ·rw [if_pos c11] at H
          have LMc11 := jo c11
          clear c11
          obtain ⟨y355, hy355⟩ : ∃ y_ : List (S123), y_ = (x5_1 ++ [(⟨x6_1, t352⟩ : S123)]) := ⟨_, rfl⟩
          replace H : (peel_peel.l0 k1 l0 y354 y355 0) = some (r1, r2) := by first | (rw [hy355]; with_reducible exact H) | (have H2_ := (Option.bind_some _ _).symm.trans H; rw [hy355]; with_reducible exact H2_) | (have H2_ := (Option.bind_some _ _).symm.trans H; with_reducible exact H2_) | with_reducible exact H | (rw [hy355]; exact H) | exact H
          have Ny355 := jo hy355
          clear hy355
          have H' := jo H
          clear H
          have p351 : 0 ≤ (x6_1 : Int) := of_decide_eq_true ja
          have q351 : x6_1 < (l0.length : Int) := of_decide_eq_true ja
          obtain ⟨ad351, A351_0, c351_0, e351, hx351_0, hl351_0, hi351_0⟩ := at_L2 (Kd.C_kept_now HR0.out HK.out) x6_1 p351 q351
          cases e351
          have HR351_0 := jo hi351_0
          have HC351_0 := jo hl351_0
          clear hi351_0 hl351_0
          replace p351 := eq_true p351
          replace q351 := eq_true q351
          obtain ⟨Ao12, co12, eo12⟩ := Kd.R_slice HO_1.out
          subst eo12
          go_wp2_with (first | ((with_reducible refine gate_callee (f := 68) rfl ?_); refine goesL_ (some 20) rfl rfl Tryz.func68 jw rfl #[.slice A351_0 (rd_L2 l0 x6_1).length c351_0, .slice Ao12 x1_1.length co12] rfl jm ?_; (with_reducible refine (peel_gap.calls k1 _ _ (rd_L2 l0 x6_1) _ _ x1_1 t352 true _ ?side1 ?side2 ?side3 ?side4 A6.out).mono ?_); (case side1 => repeat (first | exact (by repeat (first | (with_reducible exact HR351_0.out) | (with_reducible refine Kd.C_alloc ?_ _) | (with_reducible refine Kd.C_drewN ?_ _) | (with_reducible refine Kd.C_drew ?_) | exact HR351_0.out)) | (with_reducible refine Kd.C_alloc ?_ _) | (with_reducible refine Kd.C_drewN ?_ _) | (with_reducible refine Kd.C_drew ?_))); (case side2 => exact HC351_0.out); (case side3 => repeat (first | exact (Kd.R_reads' HO_1.out).2.2 | (with_reducible refine Kd.C_alloc ?_ _) | (with_reducible refine Kd.C_drewN ?_ _) | (with_reducible refine Kd.C_drew ?_))); (case side4 => exact (Kd.R_reads' HO_1.out).2.1); rintro e w' ⟨rfl, ⟨nd, rfl⟩⟩; refine ⟨_, rfl, ?_⟩; (try (rw [drewN_self wr]; generalize hq_ : World.drewN wr _ = wr; have n0_ : Aside0 (Kd.R Kd.bool 4 wr w0.heap.size (fun k_ => (P1_ k_ ∨ w.heap.size ≤ k_)) (.slice Ao12 x1_1.length co12) x1_1) := ⟨by rw [← hq_]; exact (jr HO_1.out)⟩; have n1_ : Aside0 (Kd.R k123 123 wr w0.heap.size (fun k_ => (P1_ k_ ∨ w.heap.size ≤ k_)) u5 x5_1) := ⟨by rw [← hq_]; exact (jr HO_5.out)⟩; have n2_ : Aside0 (Kept w wr (fun k_ => P1_ k_)) := ⟨by rw [← hq_]; exact (by repeat (first | (with_reducible first | exact HK.out | apply Kept.alloc | apply Kept.drewN | apply Kept.drew) | exact HK.out))⟩; have n3_ : Aside0 (Below w0.heap.size w0 wr) := ⟨by rw [← hq_]; exact jb⟩; have n4_ : Aside0 (Kd.C (Kd.int .i64) wr A351_0 (rd_L2 l0 x6_1).length (rd_L2 l0 x6_1)) := ⟨by rw [← hq_]; exact (by repeat (first | (with_reducible exact HR351_0.out) | (with_reducible refine Kd.C_alloc ?_ _) | (with_reducible refine Kd.C_drewN ?_ _) | (with_reducible refine Kd.C_drew ?_) | exact HR351_0.out))⟩; clear HO_1 HO_5 HK HB HR351_0 hq_; have HO_1 := n0_; have HO_5 := n1_; have HK := n2_; have HB := n3_; have HR351_0 := n4_; clear n0_ n1_ n2_ n3_ n4_)); have p10 : 0 ≤ (t352 : Int) := of_decide_eq_true ja; have q10 : (t352 : Int) < ((x1_1.length : Int) : Int) := of_decide_eq_true ja; obtain ⟨go10, co10, eo10, gb10, gl10, cl10, HG10⟩ := Kd.R_form HO_1.out (by omega); (first | cases eo10 | (injection eo10 with ea_ en_ ec_; (first | subst ea_ | (injection ea_ with ea_; subst ea_)); subst ec_; clear en_)); have GB10 := jo gb10; have GG10 := jo HG10; clear gb10 gl10 HG10; have HMgo10 := jo (show (P1_ go10 ∨ w.heap.size ≤ go10) from (HO_1.out.1 _ rfl)); obtain ⟨hx10_0, hf10_0⟩ := Kd.R_celln false HO_1.out (t352 : Int) p10 q10; replace p10 := eq_true p10; replace q10 := eq_true q10; obtain ⟨hy13_, hz13_⟩ := Kd.R_celln false HO_1.out (t352 : Int) (of_decide_eq_true ja) (of_decide_eq_true ja); have HP13 := Kd.R_putg HO_1.out (t352 : Int) true) | ((with_reducible refine gate_store (t := 4) (p := 26) rfl ?_); refine store_event (t := 4) (p := 26) (v := ?vo_w14) (w1 := (wr.setCell ⟨go10, (t352 : Int).toNat, none⟩ (.bool true))) ?hg ?ho ?hn ?hr ?_; (case ho => rfl); (case hg => rfl); (case hn => rfl); (case hr => first | (go_simp; done) | (go_simp; rfl)); intro w14 hw; have hg : wr.grownBy w14 (some go10) := (by rw [hw]; exact HP13.2); have hp_ : Kd.R Kd.bool 4 w14 w0.heap.size (fun k_ => (P1_ k_ ∨ w.heap.size ≤ k_)) (.slice (some ⟨go10, 0, none⟩) x1_1.length co12) y354 := (by rw [hw, Ny354.out]; exact HP13.1); clear HP13; have n0_ := jo (hp_); have n1_ := jo (Kd.R_over' (v := (.slice (some ⟨go10, 0, none⟩) x1_1.length co12)) (jr HO_5.out) (Kd.R_typed HO_1.out) (by decide) hg); have n2_ := jo ((by rw [hw]; exact below_set (HB.out) GB10.out : Below w0.heap.size w0 w14)); have n3_ := jo (Kept.of_grown (S := (fun k_ => P1_ k_)) hg (by repeat (first | (with_reducible first | exact HK.out | apply Kept.alloc | apply Kept.drewN | apply Kept.drew) | exact HK.out)) (fun k_ e_ => (HO_1.out.1 k_ e_))); clear HO_1; clear HO_5; clear HB; clear HK; have HO_1 := n0_; have HO_5 := n1_; have HB := n2_; have HK := n3_; clear n0_ n1_ n2_ n3_; clear hg hw hp_) | ((with_reducible refine gate_builtin (b := .append) (xs := #[.tmp 27, .tmp 31]) rfl ?_); at_builtin; refine Kd.R_append k123 (w0 := w0) w0.heap.size rfl (.tmp 27) (.tmp 31) 90 123 (.agg #[(.int .i64 0), (.int .i64 0)]) 16 rfl Tryz.underlying90 info123 rfl (by decide) (by omega) u5 x5_1 (⟨x6_1, t352⟩ : S123) [.int .i64 x6_1, .int .i64 t352] (fun k_ => (P1_ k_ ∨ w.heap.size ≤ k_)) (fun _ => False) rfl rfl ?aP (fun _ hk => hk.elim) ?aF ?aO ?aB ?aS ?aL ?_; (case aP => exact k123_mkM _ _ _ (⟨x6_1, t352⟩ : S123)); (case aB => exact jb); (case aF => exact (fun k_ hk => (.inr (Nat.le_trans (by first | exact HK.out.1 | exact (show Kept w _ (fun k_ => P1_ k_) from by repeat (first | (with_reducible first | exact HK.out | apply Kept.alloc | apply Kept.drewN | apply Kept.drew) | exact HK.out)).1) hk)))); (case aO => exact (jr HO_5.out)); (case aS => exact (below_size jb)); (case aL => have := LMc11.out; omega); intro v356 w15 ho hb hg hat; rw [← Ny355.out] at ho; have n0_ := jo (Kd.R_over' (jr HO_1.out) (Kd.R_typed (jr HO_5.out)) (by decide) hg); have n1_ := jo (hb); have n2_ := jo (Kept.of_grown (S := (fun k_ => P1_ k_)) hg (by repeat (first | (with_reducible first | exact HK.out | apply Kept.alloc | apply Kept.drewN | apply Kept.drew) | exact HK.out)) (fun k_ e_ => (HO_5.out.1 k_ e_))); have n3_ := jo (ho); clear HO_1; clear HB; clear HK; clear HO_5; have HO_1 := n0_; have HB := n1_; have HK := n2_; have HO357 := n3_; clear n0_ n1_ n2_ n3_; clear ho hb hg hat))
          apply wp_goto
          (try simp only [Exit.then, Exit.inBlock])
          refine Goto.goto_put HKG1 HJG1 k1 [_, _, _, _, _, _, _, _, _, _, _, _, _, _, _, _, _, _, _, _, _, _, _, _, _, _, _, _, _, _, _] ?measure rfl ?rel
          case measure => have := HK1.out; omega
          case rel => exact ⟨_, _, _, _, _, _, _, _, _, _, _, _, _, _, _, _, _, _, _, _, _, _, _, _, _, _, _, _, _, _, _, rfl, (y354), (y355), (0), js, H', ⟨by have := HK1.out; omega⟩, ⟨jr HO_1.out⟩, ⟨jr HO357.out⟩, ⟨by repeat (first | (with_reducible first | exact HK.out | apply Kept.alloc | apply Kept.drewN | apply Kept.drew) | exact HK.out)⟩, ⟨jb⟩⟩
         ·rw [if_neg c11] at H
          exact absurd H (by simp)
        ·rw [if_neg c9] at H
         exact absurd H (by simp)
       ·rw [if_neg c8] at H
        exact absurd H (by simp)
      ·replace c7 := Bool.eq_false_iff.mpr c7
       subst c7
       have H1 : (peel_peel.l0 k1 l0 x1_1 x5_1 (wrap64 (x6_1 + 1))) = some (r1, r2) := by rw [if_neg (show ¬ (false = true) by decide)] at H; exact H
       clear H
       have H := H1
       clear H1
       have H' := jo H
       clear H
       have p351 : 0 ≤ (x6_1 : Int) := of_decide_eq_true ja
       have q351 : x6_1 < (l0.length : Int) := of_decide_eq_true ja
       obtain ⟨ad351, A351_0, c351_0, e351, hx351_0, hl351_0, hi351_0⟩ := at_L2 (Kd.C_kept_now HR0.out HK.out) x6_1 p351 q351
       cases e351
       have HR351_0 := jo hi351_0
       have HC351_0 := jo hl351_0
       clear hi351_0 hl351_0
       replace p351 := eq_true p351
       replace q351 := eq_true q351
       obtain ⟨Ao16, co16, eo16⟩ := Kd.R_slice HO_1.out
       subst eo16
       go_wp2_with (first | ((with_reducible refine gate_callee (f := 68) rfl ?_); refine goesL_ (some 20) rfl rfl Tryz.func68 jw rfl #[.slice A351_0 (rd_L2 l0 x6_1).length c351_0, .slice Ao16 x1_1.length co16] rfl jm ?_; (with_reducible refine (peel_gap.calls k1 _ _ (rd_L2 l0 x6_1) _ _ x1_1 t352 false _ ?side1 ?side2 ?side3 ?side4 A6.out).mono ?_); (case side1 => repeat (first | exact (by repeat (first | (with_reducible exact HR351_0.out) | (with_reducible refine Kd.C_alloc ?_ _) | (with_reducible refine Kd.C_drewN ?_ _) | (with_reducible refine Kd.C_drew ?_) | exact HR351_0.out)) | (with_reducible refine Kd.C_alloc ?_ _) | (with_reducible refine Kd.C_drewN ?_ _) | (with_reducible refine Kd.C_drew ?_))); (case side2 => exact HC351_0.out); (case side3 => repeat (first | exact (Kd.R_reads' HO_1.out).2.2 | (with_reducible refine Kd.C_alloc ?_ _) | (with_reducible refine Kd.C_drewN ?_ _) | (with_reducible refine Kd.C_drew ?_))); (case side4 => exact (Kd.R_reads' HO_1.out).2.1); rintro e w' ⟨rfl, ⟨nd, rfl⟩⟩; refine ⟨_, rfl, ?_⟩))
       apply wp_goto
       (try simp only [Exit.then, Exit.inBlock])
       refine Goto.goto_put HKG1 HJG1 k1 [_, _, _, _, _, _, _, _, _, _, _, _, _, _, _, _, _, _, _, _, _, _, _, _, _, _, _, _, _, _, _] ?measure rfl ?rel
       case measure => have := HK1.out; omega
       case rel => exact ⟨_, _, _, _, _, _, _, _, _, _, _, _, _, _, _, _, _, _, _, _, _, _, _, _, _, _, _, _, _, _, _, rfl, (x1_1), (x5_1), (wrap64 (x6_1 + 1)), js, H', ⟨by have := HK1.out; omega⟩, ⟨jr HO_1.out⟩, ⟨jr HO_5.out⟩, ⟨by repeat (first | (with_reducible first | exact HK.out | apply Kept.alloc | apply Kept.drewN | apply Kept.drew) | exact HK.out)⟩, ⟨jb⟩⟩
     ·rw [if_neg c5] at H
      exact absurd H (by simp)
    ·rw [if_neg c4] at H
     exact absurd H (by simp)
def peel_numbers.l0 : Nat → Bool → List Int → List Bool → Int → Int → Option (List Int)
 | 0, _, _, _, _, _ => none
 | k + 1, x1, x5, x8, x9, x10 => if x10 < x9 then (if 0 ≤ x10 then (if x10 < (x8.length : Int) then (if ((rdOf false x8 x10) == x1) = true then (if x5.length < 17592186044416 then (peel_numbers.l0 k x1 (x5 ++ [x10]) x8 x9 (wrap64 (x10 + 1))) else (none)) else (peel_numbers.l0 k x1 x5 x8 x9 (wrap64 (x10 + 1)))) else (none)) else (none)) else (some x5)
def peel_numbers.f (k : Nat) (l0 : List Bool) (a1 : Bool) : Option (List Int) := peel_numbers.l0 k a1 ([] : List Int) l0 (l0.length : Int) 0
theorem peel_numbers.calls (k : Nat) (A0 : Option Addr) (c0 : Nat) (l0 : List Bool) (a1 : Bool) (r : List Int) (w : World) (hr0 : Kd.C Kd.bool w A0 l0.length l0) (hc0 : l0.length ≤ c0) (h : peel_numbers.f k l0 a1 = some r) :
  Calls Tryz.prog 32 #[.slice A0 l0.length c0, .bool a1] w fun e w' => ∃ v0_ : Value, e = .returned (v0_) ∧ Kd.R (Kd.int .i64) 3 w' w.heap.size (fun _ => True) v0_ r ∧ Below w.heap.size w w' := by
 have HR0 := jo hr0
 have HC0 := jo hc0
 clear hr0 hc0
 have HB := jo (Below.refl w.heap.size w)
 have H : (peel_numbers.l0 k a1 ([] : List Int) l0 (l0.length : Int) 0) = some r := h
 clear h
 have H' := jo H
 clear H
 go_enter Tryz.func32, Tryz.ntmps32
 go_wp2
 go_loopg [5, 10] k (fun kq v5 v10 w' => ∃ (x5_1 : List Int) (x10_1 : Int), v10 = .int .i64 x10_1 ∧ Aside0 (peel_numbers.l0 kq a1 x5_1 l0 (l0.length : Int) x10_1 = some r) ∧ Aside0 (kq ≤ k) ∧ Aside0 (Kd.R (Kd.int .i64) 3 w' w.heap.size (fun _ => True) v5 x5_1) ∧ Aside0 (Below w.heap.size w w'))
 case atStart => exact ⟨(([] : List Int)), (0), js, H', ⟨Nat.le_refl _⟩, ⟨by first | exact Kd.R_nil _ _ _ _ _ | exact Kd.N_nil _ _ _ _ _ | exact Kd.V_nil _ _ _ _ _ | exact Kd.Q_nil _ _ _ _ _ | exact Kd.S_nil _ _ _ _ _⟩, ⟨jb⟩⟩
 case round =>
  clear H'
  try clear p2
  obtain ⟨x5_1, x10_1, rfl, HA, HK1, HO_5, HB⟩ := hrel
  cases gk with
  | zero => exact absurd HA.out (by simp [peel_numbers.l0])
  | succ k1 =>
   have H := HA.out
   clear HA
   simp only [peel_numbers.l0] at H
   by_cases c3 : x10_1 < (l0.length : Int)
   ·rw [if_pos c3] at H
    have c3b0 : decide (x10_1 < (l0.length : Int)) = true := decide_eq_true c3
    clear c3
    by_cases c4 : 0 ≤ x10_1
    ·rw [if_pos c4] at H
     have c4b0 : decide (0 ≤ x10_1) = true := decide_eq_true c4
     clear c4
     by_cases c5 : x10_1 < (l0.length : Int)
     ·rw [if_pos c5] at H
      have c5b0 : decide (x10_1 < (l0.length : Int)) = true := decide_eq_true c5
      clear c5
      by_cases c6 : ((rdOf false l0 x10_1) == a1) = true
      ·rw [if_pos c6] at H
       have c6b0 : ((rdOf false l0 x10_1) == a1) = true := c6
       (try (have c6b1 : decide ((rdOf false l0 x10_1) = a1) = true := by simpa using c6))
       (try (have c6b2 : ((rdOf false l0 x10_1) == a1) = true := by simpa using c6))
       clear c6
       by_cases c7 : x5_1.length < 17592186044416
       ·rw [if_pos c7] at H
        have LMc7 := jo c7
        clear c7
        obtain ⟨y359, hy359⟩ : ∃ y_ : List Int, y_ = (x5_1 ++ [x10_1]) := ⟨_, rfl⟩
        replace H : (peel_numbers.l0 k1 a1 y359 l0 (l0.length : Int) (wrap64 (x10_1 + 1))) = some r := by first | (rw [hy359]; with_reducible exact H) | (have H2_ := (Option.bind_some _ _).symm.trans H; rw [hy359]; with_reducible exact H2_) | (have H2_ := (Option.bind_some _ _).symm.trans H; with_reducible exact H2_) | with_reducible exact H | (rw [hy359]; exact H) | exact H
        have Ny359 := jo hy359
        clear hy359
        have H' := jo H
        clear H
        have p358 : 0 ≤ (x10_1 : Int) := of_decide_eq_true ja
        have q358 : x10_1 < (l0.length : Int) := of_decide_eq_true ja
        obtain ⟨ad358, e358, hx358_0⟩ := Kd.at_bool HR0.out x10_1 p358 q358
        cases e358
        replace hx358_0 := (HB.out.cell (World.block_lt_of_cell? w _ hx358_0)).trans hx358_0
        replace p358 := eq_true p358
        replace q358 := eq_true q358
        go_wp2_with (first | ((with_reducible refine gate_builtin (b := .append) (xs := #[.tmp 18, .tmp 20]) rfl ?_); at_builtin; refine Kd.R_append (Kd.int .i64) (w0 := w) w.heap.size rfl (.tmp 18) (.tmp 20) 44 3 (.int .i64 0) 8 rfl Tryz.underlying44 info3 rfl (by decide) (by omega) u5 x5_1 x10_1 [.int .i64 x10_1] (fun _ => True) (fun _ => False) rfl rfl ?aP (fun _ hk => hk.elim) ?aF ?aO ?aB ?aS ?aL ?_; (case aP => exact rfl); (case aB => exact jb); (case aF => exact (fun _ _ => trivial)); (case aO => exact (jr HO_5.out)); (case aS => exact (below_size jb)); (case aL => have := LMc7.out; omega); intro v360 w8 ho hb hg hat; rw [← Ny359.out] at ho; have n0_ := jo (hb); have n1_ := jo (ho); clear HB; clear HO_5; have HB := n0_; have HO361 := n1_; clear n0_ n1_; clear ho hb hg hat))
        go_roundg k1
        case measure => have := HK1.out; omega
        case rel => exact ⟨(y359), (wrap64 (x10_1 + 1)), js, H', ⟨by have := HK1.out; omega⟩, ⟨jr HO361.out⟩, ⟨jb⟩⟩
       ·rw [if_neg c7] at H
        exact absurd H (by simp)
      ·rw [if_neg c6] at H
       have c6b0 : ((rdOf false l0 x10_1) == a1) = false := by simpa using c6
       (try (have c6b1 : decide ((rdOf false l0 x10_1) = a1) = false := by simpa using c6))
       (try (have c6b2 : ((rdOf false l0 x10_1) == a1) = false := by simpa using c6))
       (try (have c6b3 : ¬ ((rdOf false l0 x10_1) = a1) := by simpa using c6))
       clear c6
       have H' := jo H
       clear H
       have p358 : 0 ≤ (x10_1 : Int) := of_decide_eq_true ja
       have q358 : x10_1 < (l0.length : Int) := of_decide_eq_true ja
       obtain ⟨ad358, e358, hx358_0⟩ := Kd.at_bool HR0.out x10_1 p358 q358
       cases e358
       replace hx358_0 := (HB.out.cell (World.block_lt_of_cell? w _ hx358_0)).trans hx358_0
       replace p358 := eq_true p358
       replace q358 := eq_true q358
       go_wp2
       go_roundg k1
       case measure => have := HK1.out; omega
       case rel => exact ⟨(x5_1), (wrap64 (x10_1 + 1)), js, H', ⟨by have := HK1.out; omega⟩, ⟨jr HO_5.out⟩, ⟨jb⟩⟩
     ·rw [if_neg c5] at H
      exact absurd H (by simp)
    ·rw [if_neg c4] at H
     exact absurd H (by simp)
   ·rw [if_neg c3] at H
    have c3b0 : decide (x10_1 < (l0.length : Int)) = false := decide_eq_false c3
    clear c3
    obtain rfl := Option.some.inj H
    go_wp2
    go_ret
    exact ⟨_, je, jr HO_5.out, jb⟩
end Go.Proofs.YtjmooillogojkaaGreat.Q
