/- What the printed functions of the layer ratio, and of its reference, answer in plain numbers (part D). -/
import Derived.Test.YtajkonnamldjaaaSpecB
import Derived.Test.YtajkonnamldjaaaQx53
import Derived.Test.YtajkonnamldjaaaQx59
namespace Go.Proofs.Ytajkonnamldjaaa.RatioSpec
open Go.RowKit Plain Q

theorem cmp_spec (a b c d : Int) : ratio_Compare.f a b c d = some (cmpP a b c d) := by
  unfold ratio_Compare.f cmpP
  rw [both_spec]
  simp only [Option.bind_some]
  by_cases h : okB a b = true ∧ okB c d = true
  · rw [if_pos ((and_true_iff ..).2 h), if_pos h]
    obtain ⟨b1, b2, a1, a2⟩ := okB_bounds h.1
    obtain ⟨d1, d2, c1, c2⟩ := okB_bounds h.2
    have m1 := prod31 (a := a) (b := d) (by omega) (by omega) (by omega) (by omega)
    have m3 := prod31 (a := c) (b := b) (by omega) (by omega) (by omega) (by omega)
    rw [w64 (x := a * d) (by omega) (by omega), w64 (x := c * b) (by omega) (by omega)]
    split
    · rfl
    · split <;> rfl
  · rw [if_neg h, if_neg (fun hc => h ((and_true_iff ..).1 hc))]
theorem Ceil_spec (a b : Int) : ratio_Ceil.f a b = some (ceilP a b) := by
  unfold ratio_Ceil.f ceilP
  rw [check_spec]
  simp only [Option.bind_some]
  split
  · rename_i h
    obtain ⟨b1, b2, a1, a2⟩ := okB_bounds h
    rw [w64 (x := -a) (by omega) (by omega), floor_spec b1 (by omega) (by omega)]
    simp only [Option.bind_some]
    have h3 := ediv_abs (-a) b1
    rw [w64 (by omega) (by omega)]
  · rfl
end Go.Proofs.Ytajkonnamldjaaa.RatioSpec
