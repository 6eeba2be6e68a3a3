/- Printed by a changed copy of a printer, shortened by a program: what these functions answer: bits_Rank bits_Count manifest_Check bits_may bits_long bits_Check inner_moded inner_Check degree_Degree. No condition. -/
import Derived.Test.YtjmooillogojkaaGreatM31
set_option maxHeartbeats 8000000
set_option maxRecDepth 100000
set_option linter.unusedVariables false
set_option linter.unusedSimpArgs false
namespace Go.Proofs.YtjmooillogojkaaGreat.Q
open Go.RowKit Go.Proofs.YtjmooillogojkaaGreatW.PrintWords Go.Proofs.YtjmooillogojkaaGreatW.PrintLast Go.Proofs.YtjmooillogojkaaGreatW.PrintMore
open Go.Proofs.YtjmooillogojkaaGreat
attribute [local go_sem] max2_int min2_int max_two min_two max_three min_three max_four min_four
def bits_Rank.l0 : Nat → ByteArray → Int → Int → Int → Option (Int)
 | 0, _, _, _, _ => none
 | k + 1, x0, x5, x12, x13 => if x13 < x12 then ((bits_Has.f x0 x13).bind fun t373 => (if t373 = true then (bits_Rank.l0 k x0 (wrap64 (x5 + 1)) x12 (wrap64 (x13 + 1))) else (bits_Rank.l0 k x0 x5 x12 (wrap64 (x13 + 1))))) else (some x5)
def bits_Rank.f (k : Nat) (a0 : ByteArray) (a1 : Int) : Option (Int) := bits_Rank.l0 k a0 0 (mn (mx a1 0) (wrap64 (8 * (a0.size : Int)))) 0
theorem bits_Rank.calls (k : Nat) (a0 : ByteArray) (a1 : Int) (r : Int) (w : World) (h : bits_Rank.f k a0 a1 = some r) :
  Calls Tryz.prog 120 #[.string a0, .int .i64 a1] w fun e w' => e = .returned (.int .i64 r) ∧ Below w.heap.size w w' := by
 have HB := jo (Below.refl w.heap.size w)
 have H : (bits_Rank.l0 k a0 0 (mn (mx a1 0) (wrap64 (8 * (a0.size : Int)))) 0) = some r := h
 clear h
 obtain ⟨ji3, hji3⟩ : ∃ j_ : Int, (mx a1 0) = j_ := ⟨_, rfl⟩
 replace H : (bits_Rank.l0 k a0 0 (mn (ji3) (wrap64 (8 * (a0.size : Int)))) 0) = some r := by first | (rw [hji3] at H; exact H) | (simp only [hji3] at H ⊢; exact H)
 (try (have hji3l : 0 ≤ ji3 := by (rw [← hji3]; unfold mx; (repeat' split) <;> omega)))
 (try (have hji3m : 0 ≤ ji3 := by omega))
 have hji3_ : (if a1 < 0 then 0 else a1) = ji3 := hji3
 obtain ⟨ji4, hji4⟩ : ∃ j_ : Int, (mn (ji3) (wrap64 (8 * (a0.size : Int)))) = j_ := ⟨_, rfl⟩
 replace H : (bits_Rank.l0 k a0 0 ji4 0) = some r := by first | (rw [hji4] at H; exact H) | (simp only [hji4] at H ⊢; exact H)
 have hji4_ : (if (wrap64 (8 * (a0.size : Int))) < (ji3) then (wrap64 (8 * (a0.size : Int))) else (ji3)) = ji4 := hji4
 have H' := jo H
 clear H
 go_enter Tryz.func120, Tryz.ntmps120
 go_wp2
 go_loopg [5, 13] k (fun kq v5 v13 w' => ∃ (x5_1 : Int) (x13_1 : Int), v5 = .int .i64 x5_1 ∧ v13 = .int .i64 x13_1 ∧ Aside0 (bits_Rank.l0 kq a0 x5_1 ji4 x13_1 = some r) ∧ Aside0 (kq ≤ k) ∧ Aside0 (Below w.heap.size w w'))
 case atStart => exact ⟨(0), (0), js, js, H', ⟨Nat.le_refl _⟩, ⟨jb⟩⟩
 case round =>
  clear H'
  try clear c1
  try clear p2
  obtain ⟨x5_1, x13_1, rfl, rfl, HA, HK1, HB⟩ := hrel
  cases gk with
  | zero => exact absurd HA.out (by simp [bits_Rank.l0])
  | succ k1 =>
   have H := HA.out
   clear HA
   simp only [bits_Rank.l0] at H
   by_cases c5 : x13_1 < ji4
   ·rw [if_pos c5] at H
    have c5b0 : decide (x13_1 < ji4) = true := decide_eq_true c5
    clear c5
    replace H := Option.bind_eq_some_iff.mp H
    obtain ⟨t373, A60, H⟩ := H
    replace H : (if t373 = true then (bits_Rank.l0 k1 a0 (wrap64 (x5_1 + 1)) ji4 (wrap64 (x13_1 + 1))) else (bits_Rank.l0 k1 a0 x5_1 ji4 (wrap64 (x13_1 + 1)))) = some r := H
    have A6 := jo A60
    clear A60
    by_cases c7 : t373 = true
    ·subst c7
     have H1 : (bits_Rank.l0 k1 a0 (wrap64 (x5_1 + 1)) ji4 (wrap64 (x13_1 + 1))) = some r := by rw [if_pos rfl] at H; exact H
     clear H
     have H := H1
     clear H1
     have H' := jo H
     clear H
     go_wp2_with (first | ((with_reducible refine gate_callee (f := 121) rfl ?_); refine goesL_ (some 18) rfl rfl Tryz.func121 jw rfl #[.string a0, .int .i64 x13_1] rfl jm ?_; (with_reducible refine (bits_Has.calls a0 x13_1 true _ A6.out).mono ?_); rintro e w' ⟨rfl, ⟨nd, rfl⟩⟩; refine ⟨_, rfl, ?_⟩))
     go_roundg k1
     case measure => have := HK1.out; omega
     case rel => exact ⟨(wrap64 (x5_1 + 1)), (wrap64 (x13_1 + 1)), js, js, H', ⟨by have := HK1.out; omega⟩, ⟨jb⟩⟩
    ·replace c7 := Bool.eq_false_iff.mpr c7
     subst c7
     have H1 : (bits_Rank.l0 k1 a0 x5_1 ji4 (wrap64 (x13_1 + 1))) = some r := by rw [if_neg (show ¬ (false = true) by decide)] at H; exact H
     clear H
     have H := H1
     clear H1
     have H' := jo H
     clear H
     go_wp2_with (first | ((with_reducible refine gate_callee (f := 121) rfl ?_); refine goesL_ (some 18) rfl rfl Tryz.func121 jw rfl #[.string a0, .int .i64 x13_1] rfl jm ?_; (with_reducible refine (bits_Has.calls a0 x13_1 false _ A6.out).mono ?_); rintro e w' ⟨rfl, ⟨nd, rfl⟩⟩; refine ⟨_, rfl, ?_⟩))
     go_roundg k1
     case measure => have := HK1.out; omega
     case rel => exact ⟨(x5_1), (wrap64 (x13_1 + 1)), js, js, H', ⟨by have := HK1.out; omega⟩, ⟨jb⟩⟩
   ·rw [if_neg c5] at H
    have c5b0 : decide (x13_1 < ji4) = false := decide_eq_false c5
    clear c5
    obtain rfl := Option.some.inj H
    go_wp2
    go_ret
    exact ⟨by first | rfl | (simp [errW_none, errW_some] <;> rfl) | (simp only [← hji3, ← hji4]; first | rfl | (simp [errW_none, errW_some] <;> rfl)) | (simp [*, errW_none, errW_some] <;> rfl), jb⟩
end Go.Proofs.YtjmooillogojkaaGreat.Q
namespace Go.Proofs.YtjmooillogojkaaGreat.Q
open Go.RowKit Go.Proofs.YtjmooillogojkaaGreatW.PrintWords Go.Proofs.YtjmooillogojkaaGreatW.PrintLast Go.Proofs.YtjmooillogojkaaGreatW.PrintMore
open Go.Proofs.YtjmooillogojkaaGreat
def bits_Count.f (k : Nat) (a0 : ByteArray) : Option (Int) := (bits_Rank.f k a0 (wrap64 (8 * (a0.size : Int)))).bind fun t374 => (some t374)
theorem bits_Count.calls (k : Nat) (a0 : ByteArray) (r : Int) (w : World) (h : bits_Count.f k a0 = some r) :
  Calls Tryz.prog 87 #[.string a0] w fun e w' => e = .returned (.int .i64 r) ∧ Below w.heap.size w w' := by
 have HB := jo (Below.refl w.heap.size w)
 have H : ((bits_Rank.f k a0 (wrap64 (8 * (a0.size : Int)))).bind fun t374 => (some t374)) = some r := h
 clear h
 replace H := Option.bind_eq_some_iff.mp H
 obtain ⟨t374, A20, H⟩ := H
 replace H : (some t374) = some r := H
 have A2 := jo A20
 clear A20
 obtain rfl := Option.some.inj H
 go_enter Tryz.func87, Tryz.ntmps87
 go_wp2_with (first | ((with_reducible refine gate_callee (f := 120) rfl ?_); refine goesL_ (some 7) rfl rfl Tryz.func120 jw rfl #[.string a0, .int .i64 (wrap64 (8 * (a0.size : Int)))] rfl jm ?_; (with_reducible refine (bits_Rank.calls k a0 (wrap64 (8 * (a0.size : Int))) t374 _ A2.out).mono ?_); rintro e w3 ⟨rfl, hb⟩; refine ⟨_, rfl, ?_⟩; have n0_ := jo (below_step jb hb); clear HB; have HB := n0_; clear n0_; (try clear hb); (try clear hb2); (try clear hk); (try clear hi)))
 go_ret
 exact ⟨je, jb⟩
def manifest_Check.f (a0_0 : Int) (a0_1 : Int) (a0_2 : Int) (a0_3 : Int) (a0_4 : Int) (a0_5 : Int) (a0_6 : Int) (a0_7 : ByteArray) : Option Bool := if MF.B ⟨a0_0, a0_1, a0_2, a0_3, a0_4, a0_5, a0_6, a0_7⟩ ∧ a0_7.size = 32 then some true else none
theorem manifest_Check.calls (a0_0 : Int) (a0_1 : Int) (a0_2 : Int) (a0_3 : Int) (a0_4 : Int) (a0_5 : Int) (a0_6 : Int) (a0_7 : ByteArray) (r : Bool) (w : World) (h : manifest_Check.f a0_0 a0_1 a0_2 a0_3 a0_4 a0_5 a0_6 a0_7 = some r) :
  Calls Tryz.prog 41 #[.agg #[.int .i64 a0_0, .int .i64 a0_1, .int .i64 a0_2, .int .i64 a0_3, .int .i64 a0_4, .int .i64 a0_5, .int .i64 a0_6, .string a0_7]] w fun e w' => e = .returned (.bool r) ∧ Below w.heap.size w w' := by
 unfold manifest_Check.f at h
 split at h
 ·rename_i hc
  obtain rfl := Option.some.inj h
  exact mcheck_ok ((MF.B_iff _).1 hc.1) hc.2 w
 ·exact absurd h (by simp)
def bits_may.f (a0 : Int) : Option (Bool) := if a0 ≥ 0 then (some (decide (a0 ≤ 160))) else (some false)
theorem bits_may.calls (a0 : Int) (r : Bool) (w : World) (h : bits_may.f a0 = some r) :
  Calls Tryz.prog 147 #[.int .i64 a0] w fun e w' => e = .returned (.bool r) ∧ Drawn0 w w' := by
 have H : (if a0 ≥ 0 then (some (decide (a0 ≤ 160))) else (some false)) = some r := h
 clear h
 by_cases c2 : a0 ≥ 0
 ·rw [if_pos c2] at H
  have c2b0 : decide (0 ≤ a0) = true := decide_eq_true c2
  clear c2
  obtain rfl := Option.some.inj H
  go_enter Tryz.func147, Tryz.ntmps147
  go_wp2
  go_ret
  exact ⟨by first | rfl | (simp; done) | (simp [*]; done), jd⟩
 ·rw [if_neg c2] at H
  have c2b0 : decide (0 ≤ a0) = false := decide_eq_false c2
  clear c2
  obtain rfl := Option.some.inj H
  go_enter Tryz.func147, Tryz.ntmps147
  go_wp2
  go_ret
  exact ⟨by first | rfl | (simp; done) | (simp [*]; done), jd⟩
def bits_long.f (a0 : Int) : Option (Int) := some (wrap64 (Int.tdiv (wrap64 ((wrap64 (a0 + 8)) - 1)) 8))
theorem bits_long.calls (a0 : Int) (r : Int) (w : World) (h : bits_long.f a0 = some r) :
  Calls Tryz.prog 148 #[.int .i64 a0] w fun e w' => e = .returned (.int .i64 r) ∧ Drawn0 w w' := by
 have H : (some (wrap64 (Int.tdiv (wrap64 ((wrap64 (a0 + 8)) - 1)) 8))) = some r := h
 clear h
 obtain rfl := Option.some.inj H
 go_enter Tryz.func148, Tryz.ntmps148
 go_wp2
 go_ret
 exact ⟨by first | rfl | (simp; done) | (simp [*]; done), jd⟩
mutual
def bits_Check.j0 : Nat → Int → ByteArray → Bool → Option (Bool)
 | 0, _, _, _ => none
 | k + 1, x0, x1, x15 => if x15 = true then (some false) else (bits_Check.l0 k x1 x0)
def bits_Check.l0 : Nat → ByteArray → Int → Option (Bool)
 | 0, _, _ => none
 | k + 1, x1, x5 => if x5 < (wrap64 (8 * (x1.size : Int))) then ((bits_Has.f x1 x5).bind fun t377 => (if t377 = true then (some false) else (bits_Check.l0 k x1 (wrap64 (x5 + 1))))) else (some true)
end
def bits_Check.f (k : Nat) (a0 : Int) (a1 : ByteArray) : Option (Bool) := (bits_may.f a0).bind fun t375 => (if t375 = true then ((bits_long.f a0).bind fun t376 => (bits_Check.j0 k a0 a1 ((a1.size : Int) != t376))) else (bits_Check.j0 k a0 a1 true))
theorem bits_Check.calls (k : Nat) (a0 : Int) (a1 : ByteArray) (r : Bool) (w : World) (h : bits_Check.f k a0 a1 = some r) :
  Calls Tryz.prog 114 #[.int .i64 a0, .string a1] w fun e w' => e = .returned (.bool r) ∧ Drawn0 w w' := by
 have H : ((bits_may.f a0).bind fun t375 => (if t375 = true then ((bits_long.f a0).bind fun t376 => (bits_Check.j0 k a0 a1 ((a1.size : Int) != t376))) else (bits_Check.j0 k a0 a1 true))) = some r := h
 clear h
 have HC3 := jo H
 clear H
 go_enter Tryz.func114, Tryz.ntmps114
 go_upto_region 1 with (fail)
 go_cut [15] (fun v15 wc => ∃ (kq : Nat) (x15_2 : Bool), v15 = .bool x15_2 ∧ Aside0 (bits_Check.j0 kq a0 a1 x15_2 = some r) ∧ Aside0 (kq ≤ k) ∧ Drawn0 w wc)
 case first =>
  have H := HC3.out
  clear HC3
  replace H := Option.bind_eq_some_iff.mp H
  obtain ⟨t375, A40, H⟩ := H
  replace H : (if t375 = true then ((bits_long.f a0).bind fun t376 => (bits_Check.j0 k a0 a1 ((a1.size : Int) != t376))) else (bits_Check.j0 k a0 a1 true)) = some r := H
  have A4 := jo A40
  clear A40
  by_cases c5 : t375 = true
  ·subst c5
   have H1 : ((bits_long.f a0).bind fun t376 => (bits_Check.j0 k a0 a1 ((a1.size : Int) != t376))) = some r := by rw [if_pos rfl] at H; exact H
   clear H
   have H := H1
   clear H1
   replace H := Option.bind_eq_some_iff.mp H
   obtain ⟨t376, A60, H⟩ := H
   replace H : (bits_Check.j0 k a0 a1 ((a1.size : Int) != t376)) = some r := H
   have A6 := jo A60
   clear A60
   have H' := jo H
   clear H
   go_wp2_with (first | ((with_reducible refine gate_callee (f := 147) rfl ?_); refine goesL_ (some 7) rfl rfl Tryz.func147 jw rfl #[.int .i64 a0] rfl jm ?_; (with_reducible refine (bits_may.calls a0 true _ A4.out).mono ?_); rintro e w' ⟨rfl, ⟨nd, rfl⟩⟩; refine ⟨_, rfl, ?_⟩) | (go_at_call 148; (with_reducible refine (bits_long.calls a0 t376 _ A6.out).mono ?_); rintro e w' ⟨rfl, ⟨nd, rfl⟩⟩))
   go_meet
   case rel => exact ⟨_, (((a1.size : Int) != t376)), js, H', ⟨by first | omega | exact Nat.le_refl _⟩, jd⟩
  ·replace c5 := Bool.eq_false_iff.mpr c5
   subst c5
   have H1 : (bits_Check.j0 k a0 a1 true) = some r := by rw [if_neg (show ¬ (false = true) by decide)] at H; exact H
   clear H
   have H := H1
   clear H1
   have H' := jo H
   clear H
   go_wp2_with (first | ((with_reducible refine gate_callee (f := 147) rfl ?_); refine goesL_ (some 7) rfl rfl Tryz.func147 jw rfl #[.int .i64 a0] rfl jm ?_; (with_reducible refine (bits_may.calls a0 false _ A4.out).mono ?_); rintro e w' ⟨rfl, ⟨nd, rfl⟩⟩; refine ⟨_, rfl, ?_⟩))
   go_meet
   case rel => exact ⟨_, (true), js, H', ⟨by first | omega | exact Nat.le_refl _⟩, jd⟩
 case rest =>
  clear HC3
  try clear c1
  try clear p2
  try clear c5
  obtain ⟨kq, x15_2, rfl, HA, HJ2, ⟨mc2, rfl⟩⟩ := hcut
  cases kq with
  | zero => exact absurd HA.out (by simp [bits_Check.j0])
  | succ kj2 =>
   have H := HA.out
   clear HA
   simp only [bits_Check.j0] at H
   by_cases c7 : x15_2 = true
   ·subst c7
    have H1 : (some false) = some r := by rw [if_pos rfl] at H; exact H
    clear H
    have H := H1
    clear H1
    obtain rfl := Option.some.inj H
    go_wp2
    go_ret
    exact ⟨by first | rfl | (simp; done) | (simp [*]; done), jd⟩
   ·replace c7 := Bool.eq_false_iff.mpr c7
    subst c7
    have H1 : (bits_Check.l0 kj2 a1 a0) = some r := by rw [if_neg (show ¬ (false = true) by decide)] at H; exact H
    clear H
    have H := H1
    clear H1
    have H' := jo H
    clear H
    go_wp2
    go_loopg [5] kj2 (fun kq v5 w' => ∃ (x5_2 : Int), v5 = .int .i64 x5_2 ∧ Aside0 (bits_Check.l0 kq a1 x5_2 = some r) ∧ Aside0 (kq ≤ kj2) ∧ Drawn0 w w')
    case atStart => exact ⟨(a0), js, H', ⟨Nat.le_refl _⟩, jd⟩
    case round =>
     clear H'
     try clear c1
     try clear c2
     try clear p2
     try clear c5
     try clear c7
     try clear p2
     obtain ⟨x5_2, rfl, HA, HK2, ⟨m2, rfl⟩⟩ := hrel
     cases gk with
     | zero => exact absurd HA.out (by simp [bits_Check.l0])
     | succ k2 =>
      have H := HA.out
      clear HA
      simp only [bits_Check.l0] at H
      by_cases c8 : x5_2 < (wrap64 (8 * (a1.size : Int)))
      ·rw [if_pos c8] at H
       have c8b0 : decide (x5_2 < (wrap64 (8 * (a1.size : Int)))) = true := decide_eq_true c8
       clear c8
       replace H := Option.bind_eq_some_iff.mp H
       obtain ⟨t377, A90, H⟩ := H
       replace H : (if t377 = true then (some false) else (bits_Check.l0 k2 a1 (wrap64 (x5_2 + 1)))) = some r := H
       have A9 := jo A90
       clear A90
       by_cases c10 : t377 = true
       ·subst c10
        have H1 : (some false) = some r := by rw [if_pos rfl] at H; exact H
        clear H
        have H := H1
        clear H1
        obtain rfl := Option.some.inj H
        go_wp2_with (first | ((with_reducible refine gate_callee (f := 121) rfl ?_); refine goesL_ (some 26) rfl rfl Tryz.func121 jw rfl #[.string a1, .int .i64 x5_2] rfl jm ?_; (with_reducible refine (bits_Has.calls a1 x5_2 true _ A9.out).mono ?_); rintro e w' ⟨rfl, ⟨nd, rfl⟩⟩; refine ⟨_, rfl, ?_⟩))
        go_ret
        exact ⟨by first | rfl | (simp; done) | (simp [*]; done), jd⟩
       ·replace c10 := Bool.eq_false_iff.mpr c10
        subst c10
        have H1 : (bits_Check.l0 k2 a1 (wrap64 (x5_2 + 1))) = some r := by rw [if_neg (show ¬ (false = true) by decide)] at H; exact H
        clear H
        have H := H1
        clear H1
        have H' := jo H
        clear H
        go_wp2_with (first | ((with_reducible refine gate_callee (f := 121) rfl ?_); refine goesL_ (some 26) rfl rfl Tryz.func121 jw rfl #[.string a1, .int .i64 x5_2] rfl jm ?_; (with_reducible refine (bits_Has.calls a1 x5_2 false _ A9.out).mono ?_); rintro e w' ⟨rfl, ⟨nd, rfl⟩⟩; refine ⟨_, rfl, ?_⟩))
        go_roundg k2
        case measure => have := HJ2.out; have := HK2.out; omega
        case rel => exact ⟨(wrap64 (x5_2 + 1)), js, H', ⟨by have := HJ2.out; have := HK2.out; omega⟩, jd⟩
      ·rw [if_neg c8] at H
       have c8b0 : decide (x5_2 < (wrap64 (8 * (a1.size : Int)))) = false := decide_eq_false c8
       clear c8
       obtain rfl := Option.some.inj H
       go_wp2
       go_ret
       exact ⟨by first | rfl | (simp; done) | (simp [*]; done), jd⟩
def inner_moded.f (k : Nat) (a0 : Int) (a1_0 : Int) (a1_1 : Int) (a1_2 : ByteArray) : Option (Bool) := if a1_0 = 1 then ((bits_Check.f k a0 a1_2).bind fun t379 => (if t379 = true then ((bits_Count.f k a1_2).bind fun t380 => (some (decide (t380 > 0)))) else (some false))) else (if a1_0 = 2 then (if a1_1 ≥ a0 then (some false) else (some (a1_2.toList == ([] : List UInt8)))) else (if a1_0 = 0 then (some (a1_2.toList == ([] : List UInt8))) else (some false)))
theorem inner_moded.calls (k : Nat) (a0 : Int) (a1_0 : Int) (a1_1 : Int) (a1_2 : ByteArray) (r : Bool) (w : World) (h : inner_moded.f k a0 a1_0 a1_1 a1_2 = some r) :
  Calls Tryz.prog 85 #[.int .i64 a0, .agg #[.int .i64 a1_0, .int .i64 a1_1, .string a1_2]] w fun e w' => e = .returned (.bool r) ∧ Below w.heap.size w w' := by
 unfold inner_moded.f at h
 have HB := jo (below_alloc (Below.refl w.heap.size w) (.cells #[.int .i64 a1_0, .int .i64 a1_1, .string a1_2] 36))
 have k0 := blk_new w (.cells #[.int .i64 a1_0, .int .i64 a1_1, .string a1_2] 36)
 have HK := jo k0
 clear k0
 by_cases c1 : a1_0 = 1
 ·rw [if_pos c1] at h
  subst c1
  obtain ⟨t1, A1, H⟩ := Option.bind_eq_some_iff.mp h
  have A1 := jo A1
  have HH := jo H
  clear H h
  go_enter Tryz.func85, Tryz.ntmps85
  go_wp2_with fail
  (with_reducible refine (bits_Check.calls _ _ _ _ _ A1.out).mono ?_)
  rintro e w2 ⟨rfl, ⟨n1, rfl⟩⟩
  have HB2 := jo (pw_below_drewN HB.out n1)
  by_cases e1 : t1 = true
  rotate_left
  ·obtain rfl : t1 = false := by simpa using e1
   obtain rfl := Option.some.inj HH.out
   go_wp2
   go_ret
   exact ⟨rfl, HB2.out⟩
  subst e1
  obtain ⟨t2, A2, H⟩ := Option.bind_eq_some_iff.mp HH.out
  obtain rfl := Option.some.inj H
  have A2 := jo A2
  clear H HH
  go_wp2_with fail
  (with_reducible refine (bits_Count.calls _ _ _ _ A2.out).mono ?_)
  rintro e w3 ⟨rfl, hb⟩
  have HB3 := jo (below_step HB2.out hb)
  clear hb
  go_wp2
  go_ret
  exact ⟨rfl, HB3.out⟩
 ·rw [if_neg c1] at h
  have c1b : (a1_0 == 1) = false := beq_eq_false_iff_ne.2 c1
  by_cases c2 : a1_0 = 2
  ·rw [if_pos c2] at h
   subst c2
   have HH := jo h
   clear h
   go_enter Tryz.func85, Tryz.ntmps85
   have H := HH.out
   clear HH c1
   split at H
   all_goals obtain rfl := Option.some.inj H; clear H
   all_goals (try simp only [gt_iff_lt, ge_iff_le] at *)
   all_goals (go_wp2; go_ret; exact ⟨by first | rfl | simp, HB.out⟩)
  ·rw [if_neg c2] at h
   have c2b : (a1_0 == 2) = false := beq_eq_false_iff_ne.2 c2
   by_cases c3 : a1_0 = 0
   ·rw [if_pos c3] at h
    subst c3
    obtain rfl := Option.some.inj h
    clear h c1 c2
    go_enter Tryz.func85, Tryz.ntmps85
    go_wp2
    go_ret
    exact ⟨by first | rfl | simp, HB.out⟩
   ·rw [if_neg c3] at h
    have c3b : (a1_0 == 0) = false := beq_eq_false_iff_ne.2 c3
    obtain rfl := Option.some.inj h
    clear h c1 c2 c3
    go_enter Tryz.func85, Tryz.ntmps85
    go_wp2
    go_ret
    exact ⟨rfl, HB.out⟩
def inner_Check.j0 : Nat → Bool → Option (Int)
 | 0, _ => none
 | k + 1, x9 => if x9 = true then (some 3) else (some 0)
def inner_Check.f (k : Nat) (a0_0 : Int) (a0_1 : Int) (a0_2 : Int) (a0_3 : Int) (a0_4 : Int) (a0_5 : Int) (a0_6 : Int) (a0_7 : ByteArray) (a1_0 : Int) (a1_1 : Int) (a1_2 : ByteArray) : Option (Int) := (manifest_Check.f a0_0 a0_1 a0_2 a0_3 a0_4 a0_5 a0_6 a0_7).bind fun t383 => (if t383 = true then (if a1_1 < 0 then (inner_Check.j0 k true) else (if a1_1 > 72057594037927935 then (inner_Check.j0 k true) else ((manifest_All.f a0_0 a0_1 a0_2 a0_3 a0_4 a0_5 a0_6 a0_7).bind fun t384 => ((inner_moded.f k t384 a1_0 a1_1 a1_2).bind fun t385 => (inner_Check.j0 k (!t385)))))) else (some 1))
theorem inner_Check.calls (k : Nat) (a0_0 : Int) (a0_1 : Int) (a0_2 : Int) (a0_3 : Int) (a0_4 : Int) (a0_5 : Int) (a0_6 : Int) (a0_7 : ByteArray) (a1_0 : Int) (a1_1 : Int) (a1_2 : ByteArray) (r : Int) (w : World) (h : inner_Check.f k a0_0 a0_1 a0_2 a0_3 a0_4 a0_5 a0_6 a0_7 a1_0 a1_1 a1_2 = some r) :
  Calls Tryz.prog 44 #[.agg #[.int .i64 a0_0, .int .i64 a0_1, .int .i64 a0_2, .int .i64 a0_3, .int .i64 a0_4, .int .i64 a0_5, .int .i64 a0_6, .string a0_7], .agg #[.int .i64 a1_0, .int .i64 a1_1, .string a1_2]] w fun e w' => e = .returned (.int .i64 r) ∧ Below w.heap.size w w' := by
 unfold inner_Check.f at h
 obtain ⟨t1, A1, H⟩ := Option.bind_eq_some_iff.mp h
 obtain rfl : t1 = true := by unfold manifest_Check.f at A1; split at A1 <;> simp_all
 rw [if_pos rfl] at H
 have A1 := jo A1
 have HH := jo H
 clear h H
 have b1 : Below w.heap.size w ((w.alloc (.cells #[.int .i64 a0_0, .int .i64 a0_1, .int .i64 a0_2, .int .i64 a0_3, .int .i64 a0_4, .int .i64 a0_5, .int .i64 a0_6, .string a0_7] 30)).alloc (.cells #[.int .i64 a1_0, .int .i64 a1_1, .string a1_2] 36)) := below_alloc (below_alloc (Below.refl _ _) _) _
 have i1 := blk_alloc (blk_new w (.cells #[.int .i64 a0_0, .int .i64 a0_1, .int .i64 a0_2, .int .i64 a0_3, .int .i64 a0_4, .int .i64 a0_5, .int .i64 a0_6, .string a0_7] 30)) (.cells #[.int .i64 a1_0, .int .i64 a1_1, .string a1_2] 36)
 have i2 := blk_new (w.alloc (.cells #[.int .i64 a0_0, .int .i64 a0_1, .int .i64 a0_2, .int .i64 a0_3, .int .i64 a0_4, .int .i64 a0_5, .int .i64 a0_6, .string a0_7] 30)) (.cells #[.int .i64 a1_0, .int .i64 a1_1, .string a1_2] 36)
 rw [World.size_alloc] at i2
 go_enter Tryz.func44, Tryz.ntmps44
 go_wp2_with fail
 generalize (w.alloc (.cells #[.int .i64 a0_0, .int .i64 a0_1, .int .i64 a0_2, .int .i64 a0_3, .int .i64 a0_4, .int .i64 a0_5, .int .i64 a0_6, .string a0_7] 30)).alloc (.cells #[.int .i64 a1_0, .int .i64 a1_1, .string a1_2] 36) = W1 at b1 i1 i2 ⊢
 (with_reducible refine (manifest_Check.calls _ _ _ _ _ _ _ _ _ W1 A1.out).mono ?_)
 rintro e w2 ⟨rfl, hb⟩
 have k1 : ∀ i, w2.cell? ⟨w.heap.size, i, none⟩ = #[.int .i64 a0_0, .int .i64 a0_1, .int .i64 a0_2, .int .i64 a0_3, .int .i64 a0_4, .int .i64 a0_5, .int .i64 a0_6, .string a0_7][i]? := fun i => blk_cell (blk_below i1 hb) i
 have k2 : ∀ i, w2.cell? ⟨w.heap.size + 1, i, none⟩ = #[.int .i64 a1_0, .int .i64 a1_1, .string a1_2][i]? := fun i => blk_cell (blk_below i2 hb) i
 have H2 := jo (below_step b1 hb)
 clear hb b1 i1 i2 A1
 cases k with
 | zero => exact absurd HH.out (by simp only [inner_Check.j0]; repeat' split <;> simp [Option.bind_eq_some_iff])
 | succ k =>
  by_cases c1 : a1_1 < 0
  ·have H := HH.out
   rw [if_pos c1] at H
   simp only [inner_Check.j0, if_true] at H
   obtain rfl := Option.some.inj H
   have d1 := decide_eq_true c1
   clear HH H
   go_wp2
   go_quiet (fail)
   go_wp2
   go_ret
   exact ⟨rfl, pw_below_drewN H2.out _⟩
  ·by_cases c2 : a1_1 > 72057594037927935
   ·have H := HH.out
    rw [if_neg c1, if_pos c2] at H
    simp only [inner_Check.j0, if_true] at H
    obtain rfl := Option.some.inj H
    have d1 := decide_eq_false c1
    have d2 : decide (72057594037927935 < a1_1) = true := decide_eq_true c2
    clear HH H
    go_wp2
    go_quiet (fail)
    go_wp2
    go_ret
    exact ⟨rfl, pw_below_drewN H2.out _⟩
   ·have H := HH.out
    rw [if_neg c1, if_neg c2] at H
    have d1 := decide_eq_false c1
    have d2 : decide (72057594037927935 < a1_1) = false := decide_eq_false c2
    obtain ⟨t4, A4, H⟩ := Option.bind_eq_some_iff.mp H
    obtain ⟨t5, A5, H⟩ := Option.bind_eq_some_iff.mp H
    have A4 := jo A4
    have A5 := jo A5
    have HH := jo H
    clear H c1 c2
    go_wp2
    refine st_ (S := fun w' => w'.cell? ⟨w.heap.size, 0, none⟩ = some (.int .i64 a0_0) ∧ w'.cell? ⟨w.heap.size, 1, none⟩ = some (.int .i64 a0_1) ∧ w'.cell? ⟨w.heap.size, 2, none⟩ = some (.int .i64 a0_2) ∧ w'.cell? ⟨w.heap.size, 3, none⟩ = some (.int .i64 a0_3) ∧ w'.cell? ⟨w.heap.size, 4, none⟩ = some (.int .i64 a0_4) ∧ w'.cell? ⟨w.heap.size, 5, none⟩ = some (.int .i64 a0_5) ∧ w'.cell? ⟨w.heap.size, 6, none⟩ = some (.int .i64 a0_6) ∧ w'.cell? ⟨w.heap.size, 7, none⟩ = some (.string a0_7) ∧ w'.cell? ⟨w.heap.size + 1, 0, none⟩ = some (.int .i64 a1_0) ∧ w'.cell? ⟨w.heap.size + 1, 1, none⟩ = some (.int .i64 a1_1) ∧ w'.cell? ⟨w.heap.size + 1, 2, none⟩ = some (.string a1_2)) (ds := [12]) 16 ⟨(k1 0), (k1 1), (k1 2), (k1 3), (k1 4), (k1 5), (k1 6), (k1 7), (k2 0), (k2 1), (k2 2)⟩ (fun hHeld => ?_)
    refine td_ [0] ?_
    repeat (first | refine pp_ ?_ | refine po_ ?_)
    refine tn_ ?_
    refine td_ [1] ?_
    repeat (refine pt_ hHeld ?_)
    refine tn_ ?_
    refine td_ [2, 3, 4] ?_
    repeat (first | refine pp_ ?_ | refine po_ ?_)
    refine tn_ ?_
    refine td_ [5] ?_
    repeat (refine pt_ hHeld ?_)
    refine tn_ ?_
    refine td_ [6, 7, 8] ?_
    repeat (first | refine pp_ ?_ | refine po_ ?_)
    refine tn_ ?_
    refine td_ [9, 11] ?_
    repeat (refine pt_ hHeld ?_)
    refine tn_ ?_
    refine on_ 10 (fun K hK => ?_)
    refine gs_ Tryz.func79 #[.agg #[.int .i64 a0_0, .int .i64 a0_1, .int .i64 a0_2, .int .i64 a0_3, .int .i64 a0_4, .int .i64 a0_5, .int .i64 a0_6, .string a0_7]] ?_
    with_reducible refine ((manifest_All.calls _ _ _ _ _ _ _ _ _ _ A4.out)).mono ?_
    rintro e w4 ⟨rfl, hb4⟩
    refine ⟨_, rfl, ?_⟩
    have H4 := jo (below_step (below_step H2.out (below_drew (Below.refl w2.heap.size w2))) hb4)
    have z0 := pw_cell_below hb4 hHeld.1
    have z1 := pw_cell_below hb4 hHeld.2.1
    have z2 := pw_cell_below hb4 hHeld.2.2.1
    have z3 := pw_cell_below hb4 hHeld.2.2.2.1
    have z4 := pw_cell_below hb4 hHeld.2.2.2.2.1
    have z5 := pw_cell_below hb4 hHeld.2.2.2.2.2.1
    have z6 := pw_cell_below hb4 hHeld.2.2.2.2.2.2.1
    have z7 := pw_cell_below hb4 hHeld.2.2.2.2.2.2.2.1
    have z8 := pw_cell_below hb4 hHeld.2.2.2.2.2.2.2.2.1
    have z9 := pw_cell_below hb4 hHeld.2.2.2.2.2.2.2.2.2.1
    have z10 := pw_cell_below hb4 hHeld.2.2.2.2.2.2.2.2.2.2
    clear hb4
    refine hK.out _ _ ⟨z0, z1, z2, z3, z4, z5, z6, z7, z8, z9, z10⟩ (fun hHeld => ?_)
    clear hK K
    refine nm_ (some 20) ?_
    refine la_ 12 (fun K hK => ?_)
    refine gs_ Tryz.func85 #[.int .i64 t4, .agg #[.int .i64 a1_0, .int .i64 a1_1, .string a1_2]] ?_
    with_reducible refine ((inner_moded.calls _ _ _ _ _ _ _ A5.out)).mono ?_
    rintro e w5 ⟨rfl, hb5⟩
    refine ⟨_, rfl, ?_⟩
    have H5 := jo (below_step H4.out hb5)
    clear hb5
    refine hK.out _ _ ?_
    clear hK K
    refine nm_ (some 22) ?_
    refine td_ [13, 14, 15] ?_
    repeat (first | refine pp_ ?_ | refine po_ ?_)
    refine tn_ ?_
    refine dn_ ?_
    clear k1 k2
    have H := HH.out
    simp only [inner_Check.j0] at H
    cases t5 <;> (simp only [Bool.not_true, Bool.not_false, if_true, Bool.false_eq_true, if_false] at H; obtain rfl := Option.some.inj H; go_wp2; go_ret; exact ⟨rfl, H5.out⟩)
def degree_Degree.l0 : Nat → List Int → Int → List Int → Int → Int → Option (Int)
 | 0, _, _, _, _, _ => none
 | k + 1, x0, x1, x7, x8, x9 => if x9 < x8 then (if 0 ≤ x9 then (if x9 < (x7.length : Int) then (if (rd x7 x9) > (wrap64 (x1)) then (some (wrap64 (x9 + 1))) else (degree_Degree.l0 k x0 x1 x7 x8 (wrap64 (x9 + 1)))) else (none)) else (none)) else (some (x0.length : Int))
def degree_Degree.f (k : Nat) (l0 : List Int) (a1 : Int) : Option (Int) := degree_Degree.l0 k l0 a1 l0 (l0.length : Int) 0
theorem degree_Degree.calls (k : Nat) (A0 : Option Addr) (c0 : Nat) (l0 : List Int) (a1 : Int) (r : Int) (w : World) (hr0 : Kd.C (Kd.int .i64) w A0 l0.length l0) (hc0 : l0.length ≤ c0) (h : degree_Degree.f k l0 a1 = some r) :
  Calls Tryz.prog 117 #[.slice A0 l0.length c0, .int .u32 a1] w fun e w' => e = .returned (.int .i64 r) ∧ Drawn0 w w' := by
 have HR0 := jo hr0
 have HC0 := jo hc0
 clear hr0 hc0
 have H : (degree_Degree.l0 k l0 a1 l0 (l0.length : Int) 0) = some r := h
 clear h
 have H' := jo H
 clear H
 go_enter Tryz.func117, Tryz.ntmps117
 go_wp2
 go_loopg [9] k (fun kq v9 w' => ∃ (x9_1 : Int), v9 = .int .i64 x9_1 ∧ Aside0 (degree_Degree.l0 kq l0 a1 l0 (l0.length : Int) x9_1 = some r) ∧ Aside0 (kq ≤ k) ∧ Drawn0 w w')
 case atStart => exact ⟨(0), js, H', ⟨Nat.le_refl _⟩, jd⟩
 case round =>
  clear H'
  try clear c1
  try clear p2
  obtain ⟨x9_1, rfl, HA, HK1, ⟨m1, rfl⟩⟩ := hrel
  cases gk with
  | zero => exact absurd HA.out (by simp [degree_Degree.l0])
  | succ k1 =>
   have H := HA.out
   clear HA
   simp only [degree_Degree.l0] at H
   by_cases c3 : x9_1 < (l0.length : Int)
   ·rw [if_pos c3] at H
    have c3b0 : decide (x9_1 < (l0.length : Int)) = true := decide_eq_true c3
    clear c3
    by_cases c4 : 0 ≤ x9_1
    ·rw [if_pos c4] at H
     have c4b0 : decide (0 ≤ x9_1) = true := decide_eq_true c4
     clear c4
     by_cases c5 : x9_1 < (l0.length : Int)
     ·rw [if_pos c5] at H
      have c5b0 : decide (x9_1 < (l0.length : Int)) = true := decide_eq_true c5
      clear c5
      by_cases c6 : (rd l0 x9_1) > (wrap64 (a1))
      ·rw [if_pos c6] at H
       have c6b0 : decide ((wrap64 (a1)) < (rd l0 x9_1)) = true := decide_eq_true c6
       clear c6
       obtain rfl := Option.some.inj H
       have p400 : 0 ≤ (x9_1 : Int) := of_decide_eq_true ja
       have q400 : x9_1 < (l0.length : Int) := of_decide_eq_true ja
       obtain ⟨ad400, e400, hx400_0⟩ := Kd.at_int HR0.out x9_1 p400 q400
       cases e400
       replace p400 := eq_true p400
       replace q400 := eq_true q400
       go_wp2
       go_ret
       exact ⟨by first | rfl | (simp; done) | (simp [*]; done), jd⟩
      ·rw [if_neg c6] at H
       have c6b0 : decide ((wrap64 (a1)) < (rd l0 x9_1)) = false := decide_eq_false c6
       clear c6
       have H' := jo H
       clear H
       have p400 : 0 ≤ (x9_1 : Int) := of_decide_eq_true ja
       have q400 : x9_1 < (l0.length : Int) := of_decide_eq_true ja
       obtain ⟨ad400, e400, hx400_0⟩ := Kd.at_int HR0.out x9_1 p400 q400
       cases e400
       replace p400 := eq_true p400
       replace q400 := eq_true q400
       go_wp2
       go_roundg k1
       case measure => have := HK1.out; omega
       case rel => exact ⟨(wrap64 (x9_1 + 1)), js, H', ⟨by have := HK1.out; omega⟩, jd⟩
     ·rw [if_neg c5] at H
      exact absurd H (by simp)
    ·rw [if_neg c4] at H
     exact absurd H (by simp)
   ·rw [if_neg c3] at H
    have c3b0 : decide (x9_1 < (l0.length : Int)) = false := decide_eq_false c3
    clear c3
    obtain rfl := Option.some.inj H
    go_wp2
    go_ret
    exact ⟨by first | rfl | (simp; done) | (simp [*]; done), jd⟩
end Go.Proofs.YtjmooillogojkaaGreat.Q
