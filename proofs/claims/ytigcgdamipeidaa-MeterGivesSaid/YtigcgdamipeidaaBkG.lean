/- The law MeterGives: whatever the rate and the size. -/
import Derived.Test.YtigcgdamipeidaaBkF
namespace Go.Proofs.Ytigcgdamipeidaa.Bkt
open Go.RowKit Go.Proofs.YtigcgdamipeidaaW.PrintWords Go.Proofs.YtigcgdamipeidaaW.PrintLast Go.Proofs.YtigcgdamipeidaaW.PrintMore Go.Proofs.Ytigcgdamipeidaa Go.Proofs.Ytigcgdamipeidaa.Q Go.Proofs.Ytigcgdamipeidaa.Shr Go.Proofs.Ytigcgdamipeidaa.Args
set_option linter.unusedVariables false
set_option linter.unusedSimpArgs false
set_option maxHeartbeats 4000000
set_option maxRecDepth 100000
theorem gives_bad {r s : Int} (h : ¬ ((1 ≤ r ∧ r ≤ 65536) ∧ (1 ≤ s ∧ s ≤ 65536))) (v : Value) (w : World) :
    Calls Try.prog 8 #[.int .i64 r, .int .i64 s, v] w fun e w' => e = .returned (.bool true) ∧ Below w.heap.size w w' := by
  have HN := Aside0.mk h
  by_cases c1 : r < 1
  · have b1 : decide (r < 1) = true := decide_eq_true c1
    clear h c1
    go_enter Try.func8, Try.ntmps8
    go_wp2_with fail
    (with_reducible refine (bnew_bad HN.out _).mono ?_)
    rintro e w1 ⟨rfl, ⟨k1, rfl⟩⟩
    go_wp2_with fail
    (with_reducible refine (awake_ _).mono ?_)
    rintro e w2 ⟨rfl, ha⟩
    have HA := Aside0.mk ha
    clear ha
    go_wp2_with fail
    (with_reducible refine (awake_ _).mono ?_)
    rintro e w3 ⟨rfl, hc⟩
    have HC := Aside0.mk hc
    clear hc
    go_wp2
    go_ret
    exact ⟨rfl, below_step (below_step (pw_below_drewN (Below.refl _ _) k1) HA.out) HC.out⟩
  · have b1 : decide (r < 1) = false := decide_eq_false c1
    by_cases c2 : 65536 < r
    · have b2 : decide (65536 < r) = true := decide_eq_true c2
      clear h c1 c2
      go_enter Try.func8, Try.ntmps8
      go_wp2_with fail
      (with_reducible refine (bnew_bad HN.out _).mono ?_)
      rintro e w1 ⟨rfl, ⟨k1, rfl⟩⟩
      go_wp2_with fail
      (with_reducible refine (awake_ _).mono ?_)
      rintro e w2 ⟨rfl, ha⟩
      have HA := Aside0.mk ha
      clear ha
      go_wp2_with fail
      (with_reducible refine (awake_ _).mono ?_)
      rintro e w3 ⟨rfl, hc⟩
      have HC := Aside0.mk hc
      clear hc
      go_wp2
      go_ret
      exact ⟨rfl, below_step (below_step (pw_below_drewN (Below.refl _ _) k1) HA.out) HC.out⟩
    · have b2 : decide (65536 < r) = false := decide_eq_false c2
      by_cases c3 : s < 1
      · have b3 : decide (s < 1) = true := decide_eq_true c3
        clear h c1 c2 c3
        go_enter Try.func8, Try.ntmps8
        go_wp2_with fail
        (with_reducible refine (bnew_bad HN.out _).mono ?_)
        rintro e w1 ⟨rfl, ⟨k1, rfl⟩⟩
        go_wp2_with fail
        (with_reducible refine (awake_ _).mono ?_)
        rintro e w2 ⟨rfl, ha⟩
        have HA := Aside0.mk ha
        clear ha
        go_wp2_with fail
        (with_reducible refine (awake_ _).mono ?_)
        rintro e w3 ⟨rfl, hc⟩
        have HC := Aside0.mk hc
        clear hc
        go_wp2
        go_ret
        exact ⟨rfl, below_step (below_step (pw_below_drewN (Below.refl _ _) k1) HA.out) HC.out⟩
      · have b3 : decide (s < 1) = false := decide_eq_false c3
        have b4 : decide (65536 < s) = true := decide_eq_true (by omega)
        clear h c1 c2 c3
        go_enter Try.func8, Try.ntmps8
        go_wp2_with fail
        (with_reducible refine (bnew_bad HN.out _).mono ?_)
        rintro e w1 ⟨rfl, ⟨k1, rfl⟩⟩
        go_wp2_with fail
        (with_reducible refine (awake_ _).mono ?_)
        rintro e w2 ⟨rfl, ha⟩
        have HA := Aside0.mk ha
        clear ha
        go_wp2_with fail
        (with_reducible refine (awake_ _).mono ?_)
        rintro e w3 ⟨rfl, hc⟩
        have HC := Aside0.mk hc
        clear hc
        go_wp2
        go_ret
        exact ⟨rfl, below_step (below_step (pw_below_drewN (Below.refl _ _) k1) HA.out) HC.out⟩
theorem meterGives (r s : Int) (A : Option Addr) (c : Nat) (ls : List (Int × Int)) (w : World) (_ : (Lit.int .i64 r).wf = true) (_ : (Lit.int .i64 s).wf = true) (_ : ls.length ≤ c) (hp : Pairs w A ls) (_ : Wf2 ls) :
    Calls Try.prog 8 #[.int .i64 r, .int .i64 s, .slice A ls.length c] w fun e w' => e = .returned (.bool true) ∧ Below w.heap.size w w' := by
  by_cases h : (1 ≤ r ∧ r ≤ 65536) ∧ (1 ≤ s ∧ s ≤ 65536)
  · exact gives_yes h.1 h.2 A c ls w hp
  · exact gives_bad h _ w
end Go.Proofs.Ytigcgdamipeidaa.Bkt
