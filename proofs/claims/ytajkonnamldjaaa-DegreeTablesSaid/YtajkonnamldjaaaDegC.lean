/- What the printed table of the reference of the layer degree answers: bit by bit, the same numbers. -/
import Derived.Test.YtajkonnamldjaaaDegB
import Derived.Test.YtajkonnamldjaaaQx16
namespace Go.Proofs.Ytajkonnamldjaaa.DegSpec
open Go.RowKit Plain Q RatioSpec Go.Proofs.YtajkonnamldjaaaW.PrintWords

/-- Bit by bit: what is gathered, times d, and what is left over make 2^b times the number. -/
theorem bits_l1 {N D Q F d r0 : Int} (d0 : 0 < d) (d1 : d ≤ 516096000) (acc : List Int) (ha : acc.length < 1000) (j : Int) (m : Nat) : ∀ (b t r : Int) (k : Nat),
    0 ≤ b → 32 - b = m → m < k → 0 ≤ r → r < d → 0 ≤ t → t * d + r = 2 ^ b.toNat * r0 → t < 2 ^ b.toNat →
    mosaicref06_Table.l1 k acc j t r d b N D Q F = mosaicref06_Table.l0 (k - m - 1) (acc ++ [4294967296 * r0 / d]) (wrap64 (j + 1)) N D Q F := by
  induction m with
  | zero =>
    intro b t r k b0 hb hk r3 r4 t0 e ht
    obtain ⟨k, rfl⟩ : ∃ z, k = z + 1 := ⟨k - 1, by omega⟩
    obtain rfl : b = 32 := by omega
    simp only [mosaicref06_Table.l1]
    rw [if_neg (by omega), if_pos (by omega)]
    have e2 : t = 4294967296 * r0 / d := by
      symm
      rw [Int.ediv_eq_iff_of_pos d0]
      have : (2 : Int) ^ (32 : Int).toNat = 4294967296 := by decide +kernel
      rw [this] at e
      omega
    rw [e2]
    rfl
  | succ m ih =>
    intro b t r k b0 hb hk r3 r4 t0 e ht
    obtain ⟨k, rfl⟩ : ∃ z, k = z + 1 := ⟨k - 1, by omega⟩
    simp only [mosaicref06_Table.l1]
    have hp : (2 : Int) ^ (b + 1).toNat = 2 * 2 ^ b.toNat := by
      rw [show (b + 1).toNat = b.toNat + 1 by omega, Int.pow_succ, Int.mul_comm]
    have hb2 : (2 : Int) ^ b.toNat ≤ 2147483648 := by
      have : b.toNat ≤ 31 := by omega
      have h2 : (2 : Nat) ^ b.toNat ≤ 2 ^ 31 := Nat.pow_le_pow_right (by omega) this
      have h3 : ((2 : Int) ^ b.toNat) = ((2 ^ b.toNat : Nat) : Int) := by simp
      rw [h3]
      omega
    have step : k + 1 - (m + 1) - 1 = k - m - 1 := by omega
    rw [if_pos (by omega), w64 (x := 2 * r) (by omega) (by omega), w64 (x := 2 * t) (by omega) (by omega), w64 (x := b + 1) (by omega) (by omega), step]
    by_cases h : 2 * r ≥ d
    · rw [if_pos h, w64 (x := 2 * t + 1) (by omega) (by omega), w64 (x := 2 * r - d) (by omega) (by omega)]
      refine ih (b + 1) (2 * t + 1) (2 * r - d) k (by omega) (by omega) (by omega) (by omega) (by omega) (by omega) ?_ (by omega)
      rw [hp]
      have : (2 * t + 1) * d + (2 * r - d) = 2 * (t * d + r) := by grind
      rw [this, e, Int.mul_assoc]
    · rw [if_neg h]
      refine ih (b + 1) (2 * t) (2 * r) k (by omega) (by omega) (by omega) (by omega) (by omega) (by omega) ?_ (by omega)
      rw [hp]
      have : 2 * t * d + 2 * r = 2 * (t * d + r) := by grind
      rw [this, e, Int.mul_assoc]

/-- One number: as the table has it. -/
theorem round_l0 {N D Q F : Int} (h : codeB N D Q F = true) {j : Int} (j1 : 1 ≤ j) (j2 : j ≤ F) (acc : List Int) (ha : acc.length < 1000) (k : Nat) :
    ∃ k', k ≤ k' ∧ mosaicref06_Table.l0 (k + 34) acc j N D Q F = mosaicref06_Table.l0 k' (acc ++ [tab N D F j]) (j + 1) N D Q F := by
  have a := nP_bound h j1 j2
  have b := dP_bound h j1 j2
  have c := n_le_d h j1 j2
  obtain ⟨_, h1, h2, h3, h4, h5, h6, h7, h8⟩ := (codeB_iff ..).1 h
  have e : mosaicref06_Table.l0 (k + 34) acc j N D Q F = if dP N D F j - nP D F j = dP N D F j then mosaicref06_Table.l0 (k + 33) (acc ++ [4294967296]) (j + 1) N D Q F else mosaicref06_Table.l1 (k + 33) acc j 0 (dP N D F j - nP D F j) (dP N D F j) 0 N D Q F := by
    rw [show k + 34 = (k + 33) + 1 from rfl]
    generalize k + 33 = z
    simp only [mosaicref06_Table.l0]
    rw [if_pos j2, num_spec h j1 j2, den_spec h j1 j2]
    simp only [Option.bind_some]
    split
    · rw [if_pos (by omega), w64 (by omega) (by omega)]
    · rfl
  rw [e]
  unfold tab
  generalize dP N D F j = d at *
  generalize nP D F j = n at *
  by_cases h0 : d - n = d
  · rw [if_pos h0, h0, Int.mul_ediv_cancel _ (by omega)]
    exact ⟨k + 33, by omega, rfl⟩
  · rw [if_neg h0, bits_l1 (d := d) (r0 := d - n) (by omega) (by omega) acc ha j 32 0 0 (d - n) (k + 33) (by omega) (by omega) (by omega) (by omega) (by omega) (by omega) (by simp) (by decide +kernel), w64 (by omega) (by omega)]
    exact ⟨k + 33 - 32 - 1, by omega, rfl⟩

theorem table_l0' {N D Q F : Int} (h : codeB N D Q F = true) (m : Nat) : ∀ (j : Int) (acc : List Int) (k : Nat), 1 ≤ j → F - j = m → 34 * (m + 1) + 1 ≤ k → acc.length + m < 1000 →
    mosaicref06_Table.l0 k acc j N D Q F = some (acc ++ tabs N D F m j, 0) := by
  induction m with
  | zero =>
    intro j acc k j1 hj hk ha
    obtain ⟨k', hk', e⟩ := round_l0 h j1 (by omega) acc (by omega) (k - 34)
    rw [show k - 34 + 34 = k by omega] at e
    rw [e]
    obtain ⟨z, rfl⟩ : ∃ z, k' = z + 1 := ⟨k' - 1, by omega⟩
    simp only [mosaicref06_Table.l0]
    rw [if_neg (by omega)]
    rfl
  | succ m ih =>
    intro j acc k j1 hj hk ha
    obtain ⟨k', hk', e⟩ := round_l0 h j1 (by omega) acc (by omega) (k - 34)
    rw [show k - 34 + 34 = k by omega] at e
    rw [e, ih (j + 1) _ k' (by omega) (by omega) (by omega) (by simp; omega)]
    simp [tabs]
theorem table_spec' (k : Nat) (N D Q F : Int) : mosaicref06_Table.f (k + 3000) N D Q F = some (tableP N D Q F) := by
  unfold mosaicref06_Table.f tableP
  rw [check6' (k + 2999)]
  simp only [Option.bind_some]
  split
  · rename_i h
    obtain ⟨_, h1, h2, h3, h4, h5, h6, h7, h8⟩ := (codeB_iff ..).1 h
    rw [table_l0' h (F.toNat - 1) 1 [] _ (by omega) (by omega) (by omega) (by simp; omega)]
    rfl
  · rfl
end Go.Proofs.Ytajkonnamldjaaa.DegSpec
