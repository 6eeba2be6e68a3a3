import Derived.Test.YtajkonnamldjaaaDegD
import Derived.Test.YtajkonnamldjaaaQx44
namespace Go.Proofs.Ytajkonnamldjaaa.Pure
open Go.RowKit Plain Q RatioSpec DegSpec Go.Proofs.YtajkonnamldjaaaW.PrintWords

/-- In a code's table each word has a degree, the first number above it. -/
theorem each_word {N D Q F : Int} (h : codeB N D Q F = true) {word : Int} (w1 : word ≤ 4294967295) :
    ∃ j : Nat, (j : Int) < F ∧ degOf (table N D F) word = (j : Int) + 1 ∧ (table N D F).getD j 0 > word ∧ ∀ z, z < j → (table N D F).getD z 0 ≤ word := by
  have hl := table_length h
  obtain ⟨_, h1, h2, h3, h4, h5, h6, h7, h8⟩ := (codeB_iff ..).1 h
  rcases degOf_first (table N D F) word with ⟨j, j1, j2, j3, j4⟩ | ⟨_, hn⟩
  · exact ⟨j, by omega, j2, j3, j4⟩
  · exfalso
    have := hn (F.toNat - 1) (by omega)
    rw [table_getD h (by omega), show ((F.toNat - 1 : Nat) : Int) + 1 = F by omega, tab_last h] at this
    omega

theorem DegreeEach (a b c d x y : Int) (_ : (Lit.int .i64 a).wf = true) (_ : (Lit.int .i64 b).wf = true) (_ : (Lit.int .i64 c).wf = true) (_ : (Lit.int .i64 d).wf = true) (hx : (Lit.int .u32 x).wf = true) (hy : (Lit.int .u32 y).wf = true) :
    ∃ k, mosaiclaw06_DegreeEach.f k a b c d x y = some true := by
  have bx : 0 ≤ x ∧ x ≤ 4294967295 := by
    have := hx
    simp [Lit.wf, IntKind.min, IntKind.max, IntKind.signed, IntKind.bits] at this
    omega
  have bY : 0 ≤ y ∧ y ≤ 4294967295 := by
    have := hy
    simp [Lit.wf, IntKind.min, IntKind.max, IntKind.signed, IntKind.bits] at this
    omega
  refine ⟨2000, ?_⟩
  unfold mosaiclaw06_DegreeEach.f
  rw [table_spec 1930, awake06 1928]
  unfold tableP
  by_cases h : codeB a b c d = true
  · rw [if_pos h]
    have hl := table_length h
    obtain ⟨_, h1, h2, h3, h4, h5, h6, h7, h8⟩ := (codeB_iff ..).1 h
    simp only [Option.bind_some, if_true]
    rw [degree_spec 999 (table a b d) (by omega) bx.1 bx.2, degree_spec 999 (table a b d) (by omega) bY.1 bY.2]
    simp only [Option.bind_some]
    obtain ⟨i, i1, i2, i3, i4⟩ := each_word h bx.2
    obtain ⟨j, j1, j2, j3, j4⟩ := each_word h bY.2
    have hn : (((table a b d).length : Int) != d) = false := by
      rw [bne_eq_false_iff_eq]
      exact hl
    have hj : mosaiclaw06_DegreeEach.j0 2000 x (table a b d) (degOf (table a b d) x) false = some true := by
      rw [i2]
      simp only [mosaiclaw06_DegreeEach.j0]
      rw [if_neg (by decide), awake06 1927]
      simp only [Option.bind_some, if_true]
      have e1 : wrap64 ((i : Int) + 1 - 1) = i := by rw [w64 (by omega) (by omega)]; omega
      have r1 : rd (table a b d) (i : Int) = (table a b d).getD i 0 := by simp [rd]
      rw [e1, if_pos (by omega), if_pos (by omega), w64 (x := x) (by omega) (by omega), r1, if_pos i3]
      by_cases hi : (i : Int) + 1 = 1
      · rw [if_pos hi]
      · rw [if_neg hi]
        have e2 : wrap64 ((i : Int) + 1 - 2) = ((i - 1 : Nat) : Int) := by rw [w64 (by omega) (by omega)]; omega
        have r2 : rd (table a b d) ((i - 1 : Nat) : Int) = (table a b d).getD (i - 1) 0 := by simp [rd]
        rw [e2, if_pos (by omega), if_pos (by omega), r2, decide_eq_true (i4 (i - 1) (by omega))]
    rw [hn, if_neg (by omega), if_neg (by omega)]
    by_cases hxy : x ≤ y
    · rw [if_pos hxy, if_neg ?_]
      · exact hj
      · rw [i2, j2]
        intro hc
        have := i4 j (by omega)
        omega
    · rw [if_neg hxy]
      exact hj
  · rw [if_neg h]
    simp
end Go.Proofs.Ytajkonnamldjaaa.Pure
