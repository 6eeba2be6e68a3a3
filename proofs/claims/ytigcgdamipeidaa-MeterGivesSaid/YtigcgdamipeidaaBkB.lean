/- Take and Wait told as one; what holds at a round of the law's loop. -/
import Derived.Test.YtigcgdamipeidaaBkP
namespace Go.Proofs.Ytigcgdamipeidaa.Bkt
open Go.RowKit Go.Proofs.YtigcgdamipeidaaW.PrintWords Go.Proofs.YtigcgdamipeidaaW.PrintLast Go.Proofs.YtigcgdamipeidaaW.PrintMore Go.Proofs.Ytigcgdamipeidaa Go.Proofs.Ytigcgdamipeidaa.Q Go.Proofs.Ytigcgdamipeidaa.Shr
variable {g : Nat} {r s l : Int}
theorem drawn_touch {w w' : World} {g : Nat} (h : Drawn0 w w') (hb : Bk w g r s l) : Bk w' g r s l ∧ w.grownBy w' (some g) := by
  obtain ⟨k, rfl⟩ := h
  exact ⟨hb, touch_drewN (touch_refl _ _) k⟩
theorem take_all (hf : BFit r s l) (n : Int) {w : World} (h : Bk w g r s l) :
    Calls Try.prog 28 #[.pointer (some ⟨g, 0, none⟩), .int .i64 n] w fun e w' => e = .returned (.int .i64 (takeE s l n)) ∧ Bk w' g r s (takeL s l n) ∧ w.grownBy w' (some g) := by
  unfold takeE takeL
  by_cases c1 : n < 0
  · rw [if_pos c1, if_pos c1]
    exact (take_neg c1 h).mono fun e w' hh => ⟨hh.1, drawn_touch hh.2 h⟩
  · rw [if_neg c1, if_neg c1]
    by_cases c2 : s < n
    · rw [if_pos c2, if_pos c2]
      exact (take_over c1 c2 h).mono fun e w' hh => ⟨hh.1, drawn_touch hh.2 h⟩
    · rw [if_neg c2, if_neg c2]
      by_cases c3 : l < n
      · rw [if_pos c3, if_pos c3]
        exact (take_full c1 c2 c3 h).mono fun e w' hh => ⟨hh.1, drawn_touch hh.2 h⟩
      · rw [if_neg c3, if_neg c3]
        exact take_yes hf c1 c2 c3 h
theorem wait_all (hf : BFit r s l) (n : Int) {w : World} (h : Bk w g r s l) :
    Calls Try.prog 29 #[.pointer (some ⟨g, 0, none⟩), .int .i64 n] w fun e w' => e = .returned (.int .i64 (waitN r s l n)) ∧ Drawn0 w w' := by
  unfold waitN
  by_cases c2 : s < n
  · rw [if_pos c2]
    exact wait_over c2 h
  · rw [if_neg c2]
    by_cases c3 : n ≤ l
    · rw [if_pos c3]
      exact wait_zero c2 c3 h
    · rw [if_neg c3]
      exact wait_some hf c2 c3 h
theorem takeL_fit (h : BFit r s l) (n : Int) : BFit r s (takeL s l n) := by
  unfold takeL
  split
  · exact h
  · split
    · exact h
    · split
      · exact h
      · rename_i c1 _ c3
        exact take_fit h c1 c3
end Go.Proofs.Ytigcgdamipeidaa.Bkt
