/- The law MeterShares: whatever the quantum. -/
import Derived.Test.YtigcgdamipeidaaSsB
namespace Go.Proofs.Ytigcgdamipeidaa.Rf
open Go.RowKit Go.Proofs.YtigcgdamipeidaaW.PrintWords Go.Proofs.YtigcgdamipeidaaW.PrintLast Go.Proofs.YtigcgdamipeidaaW.PrintMore Go.Proofs.Ytigcgdamipeidaa Go.Proofs.Ytigcgdamipeidaa.Q Go.Proofs.Ytigcgdamipeidaa.Shr Go.Proofs.Ytigcgdamipeidaa.Args
set_option linter.unusedVariables false
set_option linter.unusedSimpArgs false
set_option maxHeartbeats 4000000
set_option maxRecDepth 100000
theorem shares_no {q : Int} (h : ¬ (1 ≤ q ∧ q ≤ 65536)) (v : Value) (w : World) :
    Calls Try.prog 3 #[.int .i64 q, v] w fun e w' => e = .returned (.bool true) ∧ Below w.heap.size w w' := by
  have HN := Aside0.mk h
  by_cases c1 : q < 1
  · have b1 : decide (q < 1) = true := decide_eq_true c1
    clear h c1
    go_enter Try.func3, Try.ntmps3
    go_wp2_with fail
    (with_reducible refine (new_bad HN.out _).mono ?_)
    rintro e w1 ⟨rfl, ⟨k1, rfl⟩⟩
    go_wp2_with fail
    (with_reducible refine (awake_ _).mono ?_)
    rintro e w2 ⟨rfl, ha⟩
    have HA := Aside0.mk ha
    clear ha
    go_wp2
    go_ret
    exact ⟨rfl, below_step (pw_below_drewN (Below.refl _ _) k1) HA.out⟩
  · have b1 : decide (q < 1) = false := decide_eq_false c1
    have b2 : decide (65536 < q) = true := decide_eq_true (by omega)
    clear h c1
    go_enter Try.func3, Try.ntmps3
    go_wp2_with fail
    (with_reducible refine (new_bad HN.out _).mono ?_)
    rintro e w1 ⟨rfl, ⟨k1, rfl⟩⟩
    go_wp2_with fail
    (with_reducible refine (awake_ _).mono ?_)
    rintro e w2 ⟨rfl, ha⟩
    have HA := Aside0.mk ha
    clear ha
    go_wp2
    go_ret
    exact ⟨rfl, below_step (pw_below_drewN (Below.refl _ _) k1) HA.out⟩
theorem meterShares (q : Int) (A : Option Addr) (c : Nat) (ls : List (Int × Int × Int)) (w : World) (_ : (Lit.int .i64 q).wf = true) (_ : ls.length ≤ c) (hp : Trips w A ls) (_ : Wf3 ls) :
    Calls Try.prog 3 #[.int .i64 q, .slice A ls.length c] w fun e w' => e = .returned (.bool true) ∧ Below w.heap.size w w' := by
  by_cases h : 1 ≤ q ∧ q ≤ 65536
  · exact shares_yes h A c ls w hp
  · exact shares_no h _ w
end Go.Proofs.Ytigcgdamipeidaa.Rf
