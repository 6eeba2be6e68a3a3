/- The degree of a word, in plain numbers, as the printed function answers it. -/
import Derived.Test.YtajkonnamldjaaaDegA
import Derived.Test.YtajkonnamldjaaaQx38
namespace Go.Proofs.Ytajkonnamldjaaa.DegSpec
open Go.RowKit Plain Q RatioSpec Go.Proofs.YtajkonnamldjaaaW.PrintWords

/-- From the i-th number on: the first one above the word, told from 1 on; how many there are, if there is none. -/
def degAt (l : List Int) (word : Int) : Nat → Nat → Int
  | 0, _ => l.length
  | m + 1, i => if l.getD i 0 > word then i + 1 else degAt l word m (i + 1)
/-- The degree of a word. -/
def degOf (l : List Int) (word : Int) : Int := degAt l word l.length 0

theorem degAt_first {l : List Int} {word : Int} (m : Nat) : ∀ i, i + m = l.length → (∀ j, j < i → l.getD j 0 ≤ word) →
    (∃ j, j < l.length ∧ degAt l word m i = (j : Int) + 1 ∧ l.getD j 0 > word ∧ ∀ z, z < j → l.getD z 0 ≤ word) ∨ (degAt l word m i = l.length ∧ ∀ j, j < l.length → l.getD j 0 ≤ word) := by
  induction m with
  | zero =>
    intro i hi h
    refine .inr ⟨rfl, fun j hj => h j (by omega)⟩
  | succ m ih =>
    intro i hi h
    by_cases hc : l.getD i 0 > word
    · refine .inl ⟨i, by omega, ?_, hc, h⟩
      simp only [degAt]
      rw [if_pos hc]
    · have := ih (i + 1) (by omega) (fun j hj => by
        by_cases he : j = i
        · subst he
          omega
        · exact h j (by omega))
      simp only [degAt]
      rw [if_neg hc]
      exact this
theorem degOf_first (l : List Int) (word : Int) :
    (∃ j, j < l.length ∧ degOf l word = (j : Int) + 1 ∧ l.getD j 0 > word ∧ ∀ z, z < j → l.getD z 0 ≤ word) ∨ (degOf l word = l.length ∧ ∀ j, j < l.length → l.getD j 0 ≤ word) :=
  degAt_first l.length 0 (by omega) (fun j hj => absurd hj (by omega))

theorem degree_l0 (l : List Int) (hl : l.length ≤ 1000) {word : Int} (w0 : 0 ≤ word) (w1 : word ≤ 4294967295) (a0 : List Int) (ha : a0.length = l.length) (m : Nat) : ∀ (i : Nat) (k : Nat), i + m = l.length → m < k →
    degree_Degree.l0 k a0 word l (l.length : Int) i = some (degAt l word m i) := by
  induction m with
  | zero =>
    intro i k hi hk
    obtain ⟨k, rfl⟩ : ∃ z, k = z + 1 := ⟨k - 1, by omega⟩
    simp only [degree_Degree.l0]
    rw [if_neg (by omega)]
    simp [degAt, ha]
  | succ m ih =>
    intro i k hi hk
    obtain ⟨k, rfl⟩ : ∃ z, k = z + 1 := ⟨k - 1, by omega⟩
    simp only [degree_Degree.l0, degAt]
    have e : rd l (i : Int) = l.getD i 0 := by simp [rd]
    rw [if_pos (by omega), if_pos (by omega), if_pos (by omega), e, w64 (x := word) (by omega) (by omega), w64 (x := (i : Int) + 1) (by omega) (by omega)]
    by_cases hc : l.getD i 0 > word
    · rw [if_pos hc, if_pos hc]
    · rw [if_neg hc, if_neg hc]
      have := ih (i + 1) k (by omega) (by omega)
      rw [show ((i + 1 : Nat) : Int) = (i : Int) + 1 by omega] at this
      exact this
theorem degree_spec (k : Nat) (l : List Int) (hl : l.length ≤ 1000) {word : Int} (w0 : 0 ≤ word) (w1 : word ≤ 4294967295) : degree_Degree.f (k + 1001) l word = some (degOf l word) := by
  unfold degree_Degree.f
  exact degree_l0 l hl w0 w1 l rfl l.length 0 (k + 1001) (by omega) (by omega)
end Go.Proofs.Ytajkonnamldjaaa.DegSpec
