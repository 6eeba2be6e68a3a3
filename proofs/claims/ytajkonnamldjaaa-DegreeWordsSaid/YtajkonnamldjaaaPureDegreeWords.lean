import Derived.Test.YtajkonnamldjaaaDegD
import Derived.Test.YtajkonnamldjaaaQx39
import Derived.Test.YtajkonnamldjaaaQx40
namespace Go.Proofs.Ytajkonnamldjaaa.Pure
open Go.RowKit Plain Q RatioSpec DegSpec Go.Proofs.YtajkonnamldjaaaW.PrintWords

theorem ref_l0 (l : List Int) (hl : l.length ≤ 1000) (word : Int) (m : Nat) : ∀ (i : Nat) (k : Nat), i + m = l.length → m + 1 < k → mosaicref06_Degree.l0 k l word i = some (degAt l word m i) := by
  induction m with
  | zero =>
    intro i k hi hk
    obtain ⟨k, rfl⟩ : ∃ z, k = z + 2 := ⟨k - 2, by omega⟩
    simp only [mosaicref06_Degree.l0, mosaicref06_Degree.j1]
    rw [if_neg (by omega), if_pos (by omega)]
    rfl
  | succ m ih =>
    intro i k hi hk
    obtain ⟨z, rfl⟩ : ∃ z, k = z + 1 := ⟨k - 1, by omega⟩
    simp only [mosaicref06_Degree.l0, degAt]
    have e : rd l (i : Int) = l.getD i 0 := by simp [rd]
    rw [if_pos (by omega), if_pos (by omega), e, w64 (x := (i : Int) + 1) (by omega) (by omega)]
    by_cases hc : l.getD i 0 > word
    · rw [if_neg (by omega), if_pos hc]
      obtain ⟨y, rfl⟩ : ∃ y, z = y + 1 := ⟨z - 1, by omega⟩
      simp only [mosaicref06_Degree.j1]
      rw [if_neg (by omega), w64 (by omega) (by omega)]
    · rw [if_pos (by omega), if_neg hc]
      have := ih (i + 1) z (by omega) (by omega)
      rw [show ((i + 1 : Nat) : Int) = (i : Int) + 1 by omega] at this
      exact this

theorem DegreeWords : mosaiclaw06_DegreeWords.Pure := by
  intro l a _ _ _ hw
  have hb : 0 ≤ a ∧ a ≤ 4294967295 := by
    have := hw
    simp [Lit.wf, IntKind.min, IntKind.max, IntKind.signed, IntKind.bits] at this
    omega
  refine ⟨2000, ?_⟩
  unfold mosaiclaw06_DegreeWords.f
  rw [awake06 1928]
  by_cases hl : (l.length : Int) > 100
  · rw [if_pos hl]
    rfl
  · rw [if_neg hl]
    simp only [Option.bind_some, if_true]
    rw [degree_spec 999 l (by omega) hb.1 hb.2, w64 (by omega) (by omega)]
    simp only [Option.bind_some]
    unfold mosaicref06_Degree.f
    have e := ref_l0 l (by omega) a l.length 0 2000 (by omega) (by omega)
    rw [show ((0 : Nat) : Int) = 0 from rfl] at e
    rw [e]
    simp [degOf]
end Go.Proofs.Ytajkonnamldjaaa.Pure
