/- What the printed functions of the layer ratio, and of its reference, answer in plain numbers (part E). -/
import Derived.Test.YtajkonnamldjaaaSpecB
import Derived.Test.YtajkonnamldjaaaQx56
import Derived.Test.YtajkonnamldjaaaQx57
import Derived.Test.YtajkonnamldjaaaQx58
import Derived.Test.YtajkonnamldjaaaQx60
namespace Go.Proofs.Ytajkonnamldjaaa.RatioSpec
open Go.RowKit Plain Q

theorem cmp_spec' (k : Nat) (a b c d : Int) : mosaicref05_Compare.f (k + 1) a b c d = some (cmpP a b c d) := by
  unfold mosaicref05_Compare.f cmpP
  rw [check_spec', check_spec']
  simp only [Option.bind_some]
  by_cases hx : okB a b = true
  · by_cases hy : okB c d = true
    · rw [if_pos hx, if_pos hy, if_pos ⟨hx, hy⟩]
      simp only [mosaicref05_Compare.j0]
      obtain ⟨b1, b2, a1, a2⟩ := okB_bounds hx
      obtain ⟨d1, d2, c1, c2⟩ := okB_bounds hy
      have m1 := prod31 (a := a) (b := d) (by omega) (by omega) (by omega) (by omega)
      have m3 := prod31 (a := c) (b := b) (by omega) (by omega) (by omega) (by omega)
      rw [w64 (x := a * d) (by omega) (by omega), w64 (x := c * b) (by omega) (by omega)]
      by_cases he : a * d = c * b
      · rw [if_pos (by simpa using he), if_neg (by omega), if_neg (by omega)]
      · rw [if_neg (by simpa using he)]
        by_cases hl : a * d < c * b
        · rw [if_pos hl, if_pos hl]
        · rw [if_neg hl, if_neg hl, if_pos (by omega)]
    · rw [if_pos hx, if_neg hy, if_neg (fun hc => hy hc.2)]
      simp [mosaicref05_Compare.j0]
  · rw [if_neg hx, if_neg (fun hc => hx hc.1)]
    simp [mosaicref05_Compare.j0]

theorem floor_mul {a b : Int} (hb : 0 < b) : (if Int.tdiv a b * b > a then Int.tdiv a b - 1 else Int.tdiv a b) = a / b := by
  rw [← floor_tdiv hb]
  have h1 := Int.tmod_add_mul_tdiv a b
  have e : Int.tdiv a b * b = b * Int.tdiv a b := Int.mul_comm ..
  rw [e]
  by_cases h : Int.tmod a b < 0
  · rw [if_pos h, if_pos (by omega)]
  · rw [if_neg h, if_neg (by omega)]
theorem ceil_mul {a b : Int} (hb : 0 < b) : (if Int.tdiv a b * b < a then Int.tdiv a b + 1 else Int.tdiv a b) = -((-a) / b) := by
  rw [← floor_tdiv hb, Int.neg_tdiv]
  have h1 := Int.tmod_add_mul_tdiv a b
  have h2 := Int.tmod_add_mul_tdiv (-a) b
  rw [Int.neg_tdiv, Int.mul_neg] at h2
  have e : Int.tdiv a b * b = b * Int.tdiv a b := Int.mul_comm ..
  rw [e]
  by_cases h : Int.tmod (-a) b < 0
  · rw [if_pos h, if_pos (by omega)]
    omega
  · rw [if_neg h, if_neg (by omega)]
    omega
theorem Floor_spec' (a b : Int) : mosaicref05_Floor.f a b = some (floorP a b) := by
  unfold mosaicref05_Floor.f floorP
  rw [check_spec']
  simp only [Option.bind_some]
  split
  · rename_i h
    obtain ⟨b1, b2, a1, a2⟩ := okB_bounds h
    have h3 := tdiv_small (a := a) b1
    have m := prod31 (a := Int.tdiv a b) (b := b) (by omega) (by omega) (by omega) (by omega)
    rw [if_neg (by omega), w64 (x := Int.tdiv a b) (by omega) (by omega), w64 (x := Int.tdiv a b * b) (by omega) (by omega), w64 (x := Int.tdiv a b - 1) (by omega) (by omega), ← floor_mul b1]
    split <;> rfl
  · rfl
theorem Ceil_spec' (a b : Int) : mosaicref05_Ceil.f a b = some (ceilP a b) := by
  unfold mosaicref05_Ceil.f ceilP
  rw [check_spec']
  simp only [Option.bind_some]
  split
  · rename_i h
    obtain ⟨b1, b2, a1, a2⟩ := okB_bounds h
    have h3 := tdiv_small (a := a) b1
    have m := prod31 (a := Int.tdiv a b) (b := b) (by omega) (by omega) (by omega) (by omega)
    rw [if_neg (by omega), w64 (x := Int.tdiv a b) (by omega) (by omega), w64 (x := Int.tdiv a b * b) (by omega) (by omega), w64 (x := Int.tdiv a b + 1) (by omega) (by omega), ← ceil_mul b1]
    split <;> rfl
  · rfl
theorem scale_spec' (j : Nat) (a b k : Int) : mosaicref05_Scale.f (j + 1) a b k = some (scaleP a b k) := by
  unfold mosaicref05_Scale.f scaleP
  rw [check_spec']
  simp only [Option.bind_some]
  by_cases h : okB a b = true
  · obtain ⟨b1, b2, a1, a2⟩ := okB_bounds h
    rw [if_pos h]
    by_cases k0 : k < 0
    · rw [if_pos k0, if_neg (by omega)]
      simp [mosaicref05_Scale.j0]
    · rw [if_neg k0]
      by_cases k1 : k > 4294967296
      · rw [if_neg (by omega)]
        simp [mosaicref05_Scale.j0, k1]
      · rw [if_pos ⟨h, by omega, by omega⟩]
        simp only [mosaicref05_Scale.j0]
        rw [if_neg (by simpa using k1), Floor_spec']
        unfold floorP
        rw [if_pos h]
        simp only [Option.bind_some]
        rw [if_neg (by omega), scale_core h (by omega) (by omega)]
  · rw [if_neg h, if_neg (fun hc => h hc.1)]
    simp [mosaicref05_Scale.j0]
end Go.Proofs.Ytajkonnamldjaaa.RatioSpec
