/- The law MeterFair: whatever the sizes. -/
import Derived.Test.YtigcgdamipeidaaFaB
namespace Go.Proofs.Ytigcgdamipeidaa.Shr
open Go.RowKit Go.Proofs.YtigcgdamipeidaaW.PrintWords Go.Proofs.YtigcgdamipeidaaW.PrintLast Go.Proofs.YtigcgdamipeidaaW.PrintMore Go.Proofs.Ytigcgdamipeidaa Go.Proofs.Ytigcgdamipeidaa.Q Go.Proofs.Ytigcgdamipeidaa.Args
set_option linter.unusedVariables false
set_option linter.unusedSimpArgs false
set_option maxHeartbeats 8000000
set_option maxRecDepth 100000
theorem fair_none {q u0 u1 : Int} (A : Option Addr) (c : Nat) (w : World) :
    Calls Try.prog 5 #[.int .i64 q, .agg #[.int .i64 u0, .int .i64 u1], .slice A 0 c] w fun e w' => e = .returned (.bool true) ∧ Below w.heap.size w w' := by
  have hb0 : Below w.heap.size w (w.alloc (.cells #[.int .i64 u0, .int .i64 u1] 52 (0, 0))) := below_alloc (Below.refl _ _) _
  have HB0 := Aside0.mk hb0
  clear hb0
  go_enter Try.func5, Try.ntmps5
  go_wp2_with fail
  obtain ⟨Q, hQ⟩ : ∃ Q, wrap64 (1 + (wrap64 (q.tmod 2000 + 2000)).tmod 2000) = Q := ⟨_, rfl⟩
  have hq2 : 1 ≤ Q ∧ Q ≤ 2000 := by rw [← hQ]; exact nm_fit (m := 2000) (by omega) q
  have HQ : Aside0 (1 ≤ Q ∧ Q ≤ 65536) := ⟨by omega⟩
  clear hq2
  rw [hQ]
  clear hQ
  (with_reducible refine (new_ss HQ.out HB0.out).mono ?_)
  rintro e w1 ⟨g, rfl, hs, hb⟩
  have HB := Aside0.mk (below_step HB0.out hb)
  clear hs hb
  go_wp2_with fail
  (with_reducible refine (awake_ _).mono ?_)
  rintro e w2 ⟨rfl, ha⟩
  have HA := Aside0.mk (below_step HB.out ha)
  clear ha
  go_wp2_with fail
  (with_reducible refine (awake_ _).mono ?_)
  rintro e w3 ⟨rfl, ha⟩
  have HC := Aside0.mk (below_step HA.out ha)
  clear ha
  go_wp2
  go_ret
  exact ⟨rfl, HC.out⟩
theorem fair_many {q u0 u1 : Int} (A : Option Addr) (c : Nat) (ls : List Int) (w : World) (h : 300 < ls.length) :
    Calls Try.prog 5 #[.int .i64 q, .agg #[.int .i64 u0, .int .i64 u1], .slice A ls.length c] w fun e w' => e = .returned (.bool true) ∧ Below w.heap.size w w' := by
  have b0 : (ls.length == 0) = false := by rw [beq_eq_false_iff_ne]; omega
  have b1 : decide (300 < ls.length) = true := decide_eq_true h
  have b5 : decide (300 < (ls.length : Int)) = true := decide_eq_true (by omega)
  have b2 : ((ls.length : Int) == 0) = false := by rw [beq_eq_false_iff_ne]; omega
  have b4 : ¬ ls = [] := fun e => by rw [e] at h; simp at h
  have b3 : ls.isEmpty = false := by cases ls; exact absurd rfl b4; rfl
  clear h
  have hb0 : Below w.heap.size w (w.alloc (.cells #[.int .i64 u0, .int .i64 u1] 52 (0, 0))) := below_alloc (Below.refl _ _) _
  have HB0 := Aside0.mk hb0
  clear hb0
  go_enter Try.func5, Try.ntmps5
  go_wp2_with fail
  obtain ⟨Q, hQ⟩ : ∃ Q, wrap64 (1 + (wrap64 (q.tmod 2000 + 2000)).tmod 2000) = Q := ⟨_, rfl⟩
  have hq2 : 1 ≤ Q ∧ Q ≤ 2000 := by rw [← hQ]; exact nm_fit (m := 2000) (by omega) q
  have HQ : Aside0 (1 ≤ Q ∧ Q ≤ 65536) := ⟨by omega⟩
  clear hq2
  rw [hQ]
  clear hQ
  (with_reducible refine (new_ss HQ.out HB0.out).mono ?_)
  rintro e w1 ⟨g, rfl, hs, hb⟩
  have HB := Aside0.mk (below_step HB0.out hb)
  clear hs hb
  go_wp2_with fail
  (with_reducible refine (awake_ _).mono ?_)
  rintro e w2 ⟨rfl, ha⟩
  have HA := Aside0.mk (below_step HB.out ha)
  clear ha
  go_wp2_with fail
  (with_reducible refine (awake_ _).mono ?_)
  rintro e w3 ⟨rfl, ha⟩
  have HC := Aside0.mk (below_step HA.out ha)
  clear ha
  go_wp2
  go_ret
  exact ⟨rfl, HC.out⟩
theorem meterFair (q u0 u1 : Int) (A : Option Addr) (c : Nat) (ls : List Int) (w : World) (_ : (Lit.int .i64 q).wf = true) (_ : (Lit.int .i64 u0).wf = true) (_ : (Lit.int .i64 u1).wf = true) (_ : ls.length ≤ c) (hp : Ints w A ls) :
    Calls Try.prog 5 #[.int .i64 q, .agg #[.int .i64 u0, .int .i64 u1], .slice A ls.length c] w fun e w' => e = .returned (.bool true) ∧ Below w.heap.size w w' := by
  by_cases h0 : ls.length = 0
  · rw [h0]
    exact fair_none A c w
  · by_cases h1 : ls.length ≤ 300
    · exact fair_yes A c ls w hp h0 h1
    · exact fair_many A c ls w (by omega)
end Go.Proofs.Ytigcgdamipeidaa.Shr
