/- What the printed functions of the layer ratio, and of its reference, answer in plain numbers (part C). -/
import Derived.Test.YtajkonnamldjaaaSpecB
import Derived.Test.YtajkonnamldjaaaQx45
import Derived.Test.YtajkonnamldjaaaQx46
import Derived.Test.YtajkonnamldjaaaQx47
import Derived.Test.YtajkonnamldjaaaQx48
import Derived.Test.YtajkonnamldjaaaQx49
import Derived.Test.YtajkonnamldjaaaQx50
namespace Go.Proofs.Ytajkonnamldjaaa.RatioSpec
open Go.RowKit Plain Q

theorem sub_spec (a b c d : Int) : ratio_Sub.f a b c d = some (sumP a b c d (-1)) := by
  unfold ratio_Sub.f
  rw [sum_spec a b c d (.inr rfl)]
  rfl

theorem sum_spec' (k : Nat) (a b c d : Int) {s : Int} (hs : s = 1 ∨ s = -1) : mosaicref05_Sum.f (k + 1) a b c d s = some (sumP a b c d s) := by
  unfold mosaicref05_Sum.f sumP
  rw [check_spec', check_spec']
  simp only [Option.bind_some]
  by_cases hx : okB a b = true
  · by_cases hy : okB c d = true
    · rw [if_pos hx, if_pos hy, if_pos ⟨hx, hy⟩]
      obtain ⟨b1, b2, a1, a2⟩ := okB_bounds hx
      obtain ⟨d1, d2, c1, c2⟩ := okB_bounds hy
      have m1 := prod31 (a := a) (b := d) (by omega) (by omega) (by omega) (by omega)
      have m2 := prod31 (a := s * c) (b := b) (by rcases hs with rfl | rfl <;> omega) (by rcases hs with rfl | rfl <;> omega) (by omega) (by omega)
      have m3 := prod31 (a := b) (b := d) (by omega) (by omega) (by omega) (by omega)
      have m4 : 0 < b * d := prod_pos b1 d1
      rw [w64 (x := a * d) (by omega) (by omega), w64 (x := s * c) (by rcases hs with rfl | rfl <;> omega) (by rcases hs with rfl | rfl <;> omega), w64 (x := s * c * b) (by omega) (by omega), w64 (x := b * d) (by omega) (by omega),
        w64 (x := a * d + s * c * b) (by omega) (by omega), lowest_spec k (by omega) (by omega) (by omega) (by omega) (by omega)]
      rfl
    · rw [if_pos hx, if_neg hy, if_neg (fun hc => hy hc.2)]
  · rw [if_neg hx, if_neg (fun hc => hx hc.1)]

theorem ofP_mk {n d : Int} (hd : d ≠ 0) (h1 : -4611686018427387904 ≤ n) (h2 : n ≤ 4611686018427387904) (h3 : -4611686018427387904 ≤ d) (h4 : d ≤ 4611686018427387904) : ofP n d = mk n d := by
  unfold ofP
  rw [if_neg (by omega)]

theorem mul_spec (k : Nat) (a b c d : Int) : ratio_Mul.f (k + 2) a b c d = some (mulP a b c d) := by
  unfold ratio_Mul.f mulP
  rw [both_spec]
  simp only [Option.bind_some]
  by_cases h : okB a b = true ∧ okB c d = true
  · rw [if_pos ((and_true_iff ..).2 h), if_pos h]
    obtain ⟨b1, b2, a1, a2⟩ := okB_bounds h.1
    obtain ⟨d1, d2, c1, c2⟩ := okB_bounds h.2
    have m1 := prod31 (a := a) (b := c) (by omega) (by omega) (by omega) (by omega)
    have m3 := prod31 (a := b) (b := d) (by omega) (by omega) (by omega) (by omega)
    have m4 : 0 < b * d := prod_pos b1 d1
    rw [w64 (x := a * c) (by omega) (by omega), w64 (x := b * d) (by omega) (by omega), of_spec, ofP_mk (by omega) (by omega) (by omega) (by omega) (by omega)]
    rfl
  · rw [if_neg h, if_neg (fun hc => h ((and_true_iff ..).1 hc))]
theorem mul_spec' (k : Nat) (a b c d : Int) : mosaicref05_Mul.f (k + 1) a b c d = some (mulP a b c d) := by
  unfold mosaicref05_Mul.f mulP
  rw [check_spec', check_spec']
  simp only [Option.bind_some]
  by_cases hx : okB a b = true
  · by_cases hy : okB c d = true
    · rw [if_pos hx, if_pos hy, if_pos ⟨hx, hy⟩]
      obtain ⟨b1, b2, a1, a2⟩ := okB_bounds hx
      obtain ⟨d1, d2, c1, c2⟩ := okB_bounds hy
      have m1 := prod31 (a := a) (b := c) (by omega) (by omega) (by omega) (by omega)
      have m3 := prod31 (a := b) (b := d) (by omega) (by omega) (by omega) (by omega)
      have m4 : 0 < b * d := prod_pos b1 d1
      rw [w64 (x := a * c) (by omega) (by omega), w64 (x := b * d) (by omega) (by omega), lowest_spec k (by omega) (by omega) (by omega) (by omega) (by omega)]
      rfl
    · rw [if_pos hx, if_neg hy, if_neg (fun hc => hy hc.2)]
  · rw [if_neg hx, if_neg (fun hc => hx hc.1)]

theorem mul_ne {a b : Int} (ha : a ≠ 0) (hb : b ≠ 0) : a * b ≠ 0 := Int.mul_ne_zero ha hb
theorem div_spec (k : Nat) (a b c d : Int) : ratio_Div.f (k + 2) a b c d = some (divP a b c d) := by
  unfold ratio_Div.f divP
  rw [both_spec]
  simp only [Option.bind_some]
  by_cases h : okB a b = true ∧ okB c d = true
  · rw [if_pos ((and_true_iff ..).2 h)]
    by_cases hc : c = 0
    · rw [if_pos hc, if_neg (fun hh => hh.2.2 hc)]
    · rw [if_neg hc, if_pos ⟨h.1, h.2, hc⟩]
      obtain ⟨b1, b2, a1, a2⟩ := okB_bounds h.1
      obtain ⟨d1, d2, c1, c2⟩ := okB_bounds h.2
      have m1 := prod31 (a := a) (b := d) (by omega) (by omega) (by omega) (by omega)
      have m3 := prod31 (a := b) (b := c) (by omega) (by omega) (by omega) (by omega)
      have m4 : b * c ≠ 0 := mul_ne (by omega) hc
      rw [w64 (x := a * d) (by omega) (by omega), w64 (x := b * c) (by omega) (by omega), of_spec, ofP_mk (by omega) (by omega) (by omega) (by omega) (by omega)]
      rfl
  · rw [if_neg (fun hc => h ((and_true_iff ..).1 hc)), if_neg (fun hc => h ⟨hc.1, hc.2.1⟩)]
theorem div_spec' (k : Nat) (a b c d : Int) : mosaicref05_Div.f (k + 2) a b c d = some (divP a b c d) := by
  unfold mosaicref05_Div.f divP
  rw [check_spec', check_spec']
  simp only [Option.bind_some]
  by_cases hx : okB a b = true
  · by_cases hy : okB c d = true
    · rw [if_pos hx, if_pos hy]
      simp only [mosaicref05_Div.j0]
      by_cases hc : c = 0
      · rw [if_pos (by simpa using hc), if_neg (fun hh => hh.2.2 hc)]
      · rw [if_neg (by simpa using hc), if_pos ⟨hx, hy, hc⟩]
        obtain ⟨b1, b2, a1, a2⟩ := okB_bounds hx
        obtain ⟨d1, d2, c1, c2⟩ := okB_bounds hy
        have m1 := prod31 (a := a) (b := d) (by omega) (by omega) (by omega) (by omega)
        have m3 := prod31 (a := b) (b := c) (by omega) (by omega) (by omega) (by omega)
        have m4 : b * c ≠ 0 := mul_ne (by omega) hc
        rw [w64 (x := a * d) (by omega) (by omega), w64 (x := b * c) (by omega) (by omega), lowest_spec k (by omega) (by omega) (by omega) (by omega) (by omega)]
        rfl
    · rw [if_pos hx, if_neg hy, if_neg (fun hc => hy hc.2.1)]
      simp [mosaicref05_Div.j0]
  · rw [if_neg hx, if_neg (fun hc => hx hc.1)]
    simp [mosaicref05_Div.j0]
end Go.Proofs.Ytajkonnamldjaaa.RatioSpec
