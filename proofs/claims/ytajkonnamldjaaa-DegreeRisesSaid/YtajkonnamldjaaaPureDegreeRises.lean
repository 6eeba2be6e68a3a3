import Derived.Test.YtajkonnamldjaaaDegA
import Derived.Test.YtajkonnamldjaaaSpecB
import Derived.Test.YtajkonnamldjaaaQx55
namespace Go.Proofs.Ytajkonnamldjaaa.Pure
open Go.RowKit Plain Q RatioSpec DegSpec Go.Proofs.YtajkonnamldjaaaW.PrintWords

/-- A chance, scaled, is the table's number. -/
theorem chance_scaled {N D Q F k p q : Int} (h : codeB N D Q F = true) (k1 : 1 ≤ k) (k2 : k ≤ F) (hc : chanceP N D Q F k = (p, q, 0)) : scaleP p q 4294967296 = (tab N D F k, 0) := by
  have a := nP_bound h k1 k2
  have b := dP_bound h k1 k2
  have c := n_le_d h k1 k2
  unfold chanceP at hc
  rw [if_pos ⟨h, k1, k2⟩] at hc
  unfold ofP at hc
  rw [if_neg (by omega)] at hc
  obtain ⟨hp, e⟩ := mk_ok (by omega) hc
  rw [scaleP_of hp (by omega) (by omega)]
  unfold tab
  generalize dP N D F k = d at *
  generalize nP D F k = n at *
  have q1 := (okB_bounds hp).1
  have h1 : p * 4294967296 * d / (q * d) = p * 4294967296 / q := Int.mul_ediv_mul_of_pos_left _ _ (by omega)
  have h2 : 4294967296 * (d - n) * q / (d * q) = 4294967296 * (d - n) / d := Int.mul_ediv_mul_of_pos_left _ _ q1
  rw [← h1, ← h2, show p * 4294967296 * d = 4294967296 * (d - n) * q by grind, show q * d = d * q by grind]

theorem rises_l0 {N D Q F : Int} (h : codeB N D Q F = true) (m : Nat) : ∀ (i : Nat) (k : Nat), (i : Int) + m = F → 2 * m + 100 ≤ k → mosaiclaw06_DegreeRises.l0 k (table N D F) i N D Q F = some true := by
  have hl := table_length h
  obtain ⟨_, h1, h2, h3, h4, h5, h6, h7, h8⟩ := (codeB_iff ..).1 h
  induction m with
  | zero =>
    intro i k hi hk
    obtain ⟨k, rfl⟩ : ∃ z, k = z + 72 + 1 := ⟨k - 73, by omega⟩
    simp only [mosaiclaw06_DegreeRises.l0]
    rw [if_neg (by omega), awake06]
    rfl
  | succ m ih =>
    intro i k hi hk
    obtain ⟨k, rfl⟩ : ∃ z, k = z + 1 := ⟨k - 1, by omega⟩
    simp only [mosaiclaw06_DegreeRises.l0]
    have e0 : rd (table N D F) (i : Int) = tab N D F (i + 1) := by
      rw [← table_getD h (i := i) (by omega)]
      simp [rd]
    have t0 := tab_bound h (k := (i : Int) + 1) (by omega) (by omega)
    have J : mosaiclaw06_DegreeRises.j2 k (table N D F) i false N D Q F = some true := by
      obtain ⟨k, rfl⟩ : ∃ z, k = z + 3 + 1 := ⟨k - 4, by omega⟩
      simp only [mosaiclaw06_DegreeRises.j2]
      have nx : mosaiclaw06_DegreeRises.l0 (k + 3) (table N D F) (wrap64 ((i : Int) + 1)) N D Q F = some true := by
        rw [w64 (by omega) (by omega), show (i : Int) + 1 = ((i + 1 : Nat) : Int) by omega]
        exact ih (i + 1) (k + 3) (by omega) (by omega)
      rw [if_neg (by decide), w64 (by omega) (by omega), chance_spec k]
      rw [w64 (by omega) (by omega)] at nx
      simp only [Option.bind_some]
      by_cases he : (chanceP N D Q F ((i : Int) + 1)).2.2 = 0
      · rw [if_pos he, scale_spec (k + 2)]
        simp only [Option.bind_some]
        have hs := chance_scaled (k := (i : Int) + 1) (p := (chanceP N D Q F ((i : Int) + 1)).1) (q := (chanceP N D Q F ((i : Int) + 1)).2.1) h (by omega) (by omega) (by
          rw [← he])
        rw [hs]
        simp only [if_true]
        rw [if_pos (by omega), if_pos (by omega), e0, if_pos rfl]
        exact nx
      · rw [if_neg he]
        exact nx
    rw [if_pos (by omega), if_pos (by omega), e0, if_neg (by omega)]
    by_cases hz : (i : Int) > 0
    · have e1 : wrap64 ((i : Int) - 1) = ((i - 1 : Nat) : Int) := by rw [w64 (by omega) (by omega)]; omega
      have e2 : rd (table N D F) ((i - 1 : Nat) : Int) = tab N D F i := by
        have := table_getD h (i := i - 1) (by omega)
        rw [show ((i - 1 : Nat) : Int) + 1 = i by omega] at this
        rw [← this]
        simp [rd]
      have r := tab_rises h (k := (i : Int)) (by omega) (by omega)
      rw [if_pos hz, e1, if_pos (by omega), if_pos (by omega), e2, decide_eq_false (by omega)]
      exact J
    · rw [if_neg hz]
      exact J

theorem DegreeRises (a b c d : Int) (_ : (Lit.int .i64 a).wf = true) (_ : (Lit.int .i64 b).wf = true) (_ : (Lit.int .i64 c).wf = true) (_ : (Lit.int .i64 d).wf = true) :
    ∃ k, mosaiclaw06_DegreeRises.f k a b c d = some true := by
  refine ⟨1000, ?_⟩
  unfold mosaiclaw06_DegreeRises.f
  rw [table_spec 930, awake06 928]
  unfold tableP
  by_cases h : codeB a b c d = true
  · rw [if_pos h]
    have hl := table_length h
    obtain ⟨_, h1, h2, h3, h4, h5, h6, h7, h8⟩ := (codeB_iff ..).1 h
    simp only [Option.bind_some, if_true]
    have e1 : wrap64 (((table a b d).length : Int) - 1) = ((d.toNat - 1 : Nat) : Int) := by rw [w64 (by omega) (by omega)]; omega
    have e2 : rd (table a b d) ((d.toNat - 1 : Nat) : Int) = 4294967296 := by
      have := table_getD h (i := d.toNat - 1) (by omega)
      rw [show ((d.toNat - 1 : Nat) : Int) + 1 = d by omega, tab_last h] at this
      rw [← this]
      simp [rd]
    rw [if_pos hl, e1, if_pos (by omega), if_pos (by omega), e2]
    simp only [bne_self_eq_false]
    simp only [mosaiclaw06_DegreeRises.j0]
    rw [if_neg (by decide)]
    have := rises_l0 h d.toNat 0 999 (by omega) (by omega)
    exact this
  · rw [if_neg h, check6]
    simp [h]
end Go.Proofs.Ytajkonnamldjaaa.Pure
