import Derived.Test.YtajkonnamldjaaaDegB
import Derived.Test.YtajkonnamldjaaaQx28
import Derived.Test.YtajkonnamldjaaaQx29
namespace Go.Proofs.Ytajkonnamldjaaa.Pure
open Go.RowKit Plain Q RatioSpec DegSpec

theorem chance_spec' (j : Nat) (N D Q F k : Int) : mosaicref06_Chance.f (j + 3) N D Q F k = some (chanceP N D Q F k) := by
  unfold mosaicref06_Chance.f chanceP
  rw [check6' (j + 2)]
  simp only [Option.bind_some]
  by_cases h : codeB N D Q F = true
  · rw [if_pos h]
    by_cases k1 : k < 1
    · rw [if_pos k1, if_neg (by omega)]
      simp [mosaicref06_Chance.j0]
    · rw [if_neg k1]
      by_cases k2 : k > F
      · rw [decide_eq_true k2, if_neg (by omega)]
        simp [mosaicref06_Chance.j0]
      · rw [decide_eq_false k2, if_pos ⟨h, by omega, by omega⟩]
        simp only [mosaicref06_Chance.j0]
        rw [if_neg (by decide), num_spec h (by omega) (by omega), den_spec h (by omega) (by omega)]
        simp only [Option.bind_some]
        rw [of_spec' j]
        rfl
  · rw [if_neg h, if_neg (fun hc => h hc.1)]
    simp [mosaicref06_Chance.j0]

theorem DegreeChances (a b c d n : Int) (_ : (Lit.int .i64 a).wf = true) (_ : (Lit.int .i64 b).wf = true) (_ : (Lit.int .i64 c).wf = true) (_ : (Lit.int .i64 d).wf = true) (_ : (Lit.int .i64 n).wf = true) :
    ∃ k, mosaiclaw06_DegreeChances.f k a b c d n = some true := by
  refine ⟨100, ?_⟩
  unfold mosaiclaw06_DegreeChances.f
  simp only [mosaiclaw06_Ref.f, mosaiclaw05_Ref.f, Option.bind_some]
  rw [chance_spec 97, chance_spec' 97, awake06 28]
  simp
end Go.Proofs.Ytajkonnamldjaaa.Pure
