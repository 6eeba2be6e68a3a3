/- What the printed functions of the reference of the layer degree answer, in plain numbers. -/
import Derived.Test.YtajkonnamldjaaaDegA
import Derived.Test.YtajkonnamldjaaaQx13
import Derived.Test.YtajkonnamldjaaaQx14
import Derived.Test.YtajkonnamldjaaaQx15
namespace Go.Proofs.Ytajkonnamldjaaa.DegSpec
open Go.RowKit Plain Q RatioSpec Go.Proofs.YtajkonnamldjaaaW.PrintWords

theorem check6' (k : Nat) (N D Q F : Int) : mosaicref06_Check.f (k + 1) N D Q F = some (codeB N D Q F) := by
  rw [← check6]
  unfold mosaicref06_Check.f degree_Check.f
  rw [check_same]
  cases ratio_Check.f N D with
  | none => rfl
  | some b =>
    simp only [Option.bind_some, mosaicref06_Check.j0]
    cases b with
    | false => simp
    | true =>
      simp only [if_true]
      by_cases h1 : 0 < N
      · rw [if_neg (by omega), if_pos h1]
        by_cases h2 : N ≤ D
        · rw [if_neg (by omega), if_pos h2]
          by_cases h3 : D ≤ 1000
          · rw [if_neg (by simpa using h3), if_pos h3]
          · rw [if_pos (by simpa using h3), if_neg h3]
        · rw [if_pos (by omega), if_neg h2]
      · rw [if_pos (by omega), if_neg h1]

theorem den_spec {N D Q F k : Int} (h : codeB N D Q F = true) (k1 : 1 ≤ k) (k2 : k ≤ F) : mosaicref06_Den.f N D Q F k = some (dP N D F k) := by
  have b := dP_bound h k1 k2
  obtain ⟨_, h1, h2, h3, h4, h5, h6, h7, h8⟩ := (codeB_iff ..).1 h
  unfold mosaicref06_Den.f
  unfold dP at *
  rw [w64 (x := D + N) (by omega) (by omega), w64 (x := F * (D + N)) (by omega) (by omega), w64 (x := F - 1) (by omega) (by omega), w64 (x := F * (D + N) * (F - 1)) (by omega) (by omega),
    w64 (x := F * (D + N) * (F - 1) * k) (by omega) (by omega)]
theorem num_spec {N D Q F k : Int} (h : codeB N D Q F = true) (k1 : 1 ≤ k) (k2 : k ≤ F) : mosaicref06_Num.f N D Q F k = some (dP N D F k - nP D F k) := by
  have a := nP_bound h k1 k2
  have b := dP_bound h k1 k2
  unfold mosaicref06_Num.f
  rw [den_spec h k1 k2]
  simp only [Option.bind_some]
  obtain ⟨_, h1, h2, h3, h4, h5, h6, h7, h8⟩ := (codeB_iff ..).1 h
  generalize dP N D F k = d at *
  unfold nP at *
  rw [w64 (x := F + 1) (by omega) (by omega), w64 (x := (F + 1) * D) (by omega) (by omega), w64 (x := F - k) (by omega) (by omega), w64 (x := (F + 1) * D * (F - k)) (by omega) (by omega), w64 (by omega) (by omega)]
end Go.Proofs.Ytajkonnamldjaaa.DegSpec
