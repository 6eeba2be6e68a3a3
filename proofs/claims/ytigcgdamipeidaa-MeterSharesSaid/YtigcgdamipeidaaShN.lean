/- What NewShare makes. -/
import Derived.Test.YtigcgdamipeidaaShA
namespace Go.Proofs.Ytigcgdamipeidaa.Shr
open Go.RowKit Go.Proofs.YtigcgdamipeidaaW.PrintWords Go.Proofs.YtigcgdamipeidaaW.PrintLast Go.Proofs.YtigcgdamipeidaaW.PrintMore Go.Proofs.Ytigcgdamipeidaa Go.Proofs.Ytigcgdamipeidaa.Q

/-- A share without peers. -/
def S0 (q : Int) : Sh := { q := q, wt := fun _ => 0, cr := fun _ => 0, l := fun _ => [] }
def vs0 : Nat → Value := fun _ => .slice none 0 0

set_option maxHeartbeats 1000000 in
set_option maxRecDepth 100000 in
theorem new_bad {q : Int} (hq : ¬ (1 ≤ q ∧ q ≤ 65536)) (w : World) : Calls Try.prog 10 #[.int .i64 q] w fun e w' => e = .returned (.pointer none) ∧ Drawn0 w w' := by
  have HQ := Aside0.mk hq
  clear hq
  go_enter Try.func10, Try.ntmps10
  go_wp2_with (go_at_call 32; (with_reducible refine (in_no HQ.out _).mono ?_); rintro e w1 ⟨rfl, ⟨k1, rfl⟩⟩)
  go_ret
  exact ⟨rfl, Drawn0.step (Drawn0.refl _) _⟩
set_option maxHeartbeats 1000000 in
set_option maxRecDepth 100000 in
theorem new_yes {q : Int} (hq : 1 ≤ q ∧ q ≤ 65536) (w : World) :
    Calls Try.prog 10 #[.int .i64 q] w fun e w' => ∃ g, e = .returned (.pointer (some ⟨g, 0, none⟩)) ∧ Has w' w.heap.size g (S0 q) vs0 ∧ Below w.heap.size w w' := by
  have HQ := Aside0.mk hq
  clear hq
  go_enter Try.func10, Try.ntmps10
  go_wp2_with (go_at_call 32; (with_reducible refine (in_yes HQ.out _).mono ?_); rintro e w1 ⟨rfl, ⟨k1, rfl⟩⟩)
  go_ret
  refine ⟨w.heap.size, rfl, ⟨?_, fun p _ => Qi_nil _ _, fun p p' _ _ _ k hk => (by cases hk), Nat.le_refl _⟩, ?_⟩
  · exact heap_alloc_new (w.drewN k1) _
  · exact below_alloc (pw_below_drewN (Below.refl _ _) k1) _
end Go.Proofs.Ytigcgdamipeidaa.Shr
