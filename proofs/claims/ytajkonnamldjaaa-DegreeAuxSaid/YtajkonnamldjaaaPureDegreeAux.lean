import Derived.Test.YtajkonnamldjaaaDegB
import Derived.Test.YtajkonnamldjaaaQx41
import Derived.Test.YtajkonnamldjaaaQx42
import Derived.Test.YtajkonnamldjaaaQx43
namespace Go.Proofs.Ytajkonnamldjaaa.Pure
open Go.RowKit Plain Q RatioSpec DegSpec Go.Proofs.YtajkonnamldjaaaW.PrintWords Go.Proofs.YtajkonnamldjaaaW.PrintMore

/-- How many auxiliary blocks there are: the least integer not below p by q, at most 64. -/
def ceilM (p q : Int) : Int := if (p + q - 1) / q < 64 then (p + q - 1) / q else 64
def auxP (N D Q F n : Int) : Int × Int := if codeB N D Q F = true ∧ 1 ≤ n ∧ n ≤ 96 then (ceilM (55 * Q * N * n) (100 * D), 0) else (0, 1)

theorem top_bound {N D Q F n : Int} (h : codeB N D Q F = true) (n1 : 1 ≤ n) (n2 : n ≤ 96) :
    (0 < 55 * Q ∧ 55 * Q ≤ 440) ∧ (0 < 55 * Q * N ∧ 55 * Q * N ≤ 440000) ∧ 0 < 55 * Q * N * n ∧ 55 * Q * N * n ≤ 42240000 := by
  obtain ⟨_, h1, h2, h3, h4, h5, h6, h7, h8⟩ := (codeB_iff ..).1 h
  have b := mulb (a := 55 * Q) (A := 440) (b := N) (B := 1000) (by omega) (by omega) (by omega) (by omega)
  have b0 : 0 < 55 * Q * N := Int.mul_pos (by omega) h1
  have c := mulb (a := 55 * Q * N) (A := 440000) (b := n) (B := 96) (by omega) (by omega) (by omega) (by omega)
  have c0 : 0 < 55 * Q * N * n := Int.mul_pos b0 (by omega)
  exact ⟨by omega, by omega, by omega⟩

theorem aux_spec (k : Nat) (N D Q F n : Int) : degree_Aux.f (k + 1) N D Q F n = some (auxP N D Q F n) := by
  unfold degree_Aux.f auxP
  rw [check6]
  simp only [Option.bind_some]
  by_cases h : codeB N D Q F = true
  · rw [if_pos h]
    by_cases k1 : n < 1
    · rw [if_pos k1, if_neg (by omega)]
      simp [degree_Aux.j0]
    · rw [if_neg k1]
      by_cases k2 : n > 96
      · rw [decide_eq_true k2, if_neg (by omega)]
        simp [degree_Aux.j0]
      · rw [decide_eq_false k2, if_pos ⟨h, by omega, by omega⟩]
        simp only [degree_Aux.j0]
        have t := top_bound (n := n) h (by omega) (by omega)
        obtain ⟨_, h1, h2, h3, h4, h5, h6, h7, h8⟩ := (codeB_iff ..).1 h
        have hb := ediv_abs' (55 * Q * N * n + 100 * D - 1) (b := 100 * D) (by omega)
        rw [if_neg (by decide), w64 (x := 100 * D) (by omega) (by omega), if_neg (by omega), w64 (x := 55 * Q) (by omega) (by omega), w64 (x := 55 * Q * N) (by omega) (by omega), w64 (x := 55 * Q * N * n) (by omega) (by omega),
          w64 (x := 55 * Q * N * n + 100 * D) (by omega) (by omega), w64 (x := 55 * Q * N * n + 100 * D - 1) (by omega) (by omega), Int.tdiv_eq_ediv_of_nonneg (by omega), w64 (by omega) (by omega)]
        unfold ceilM mn
        congr 2
        split <;> split <;> omega
  · rw [if_neg h, if_neg (fun hc => h hc.1)]
    simp [degree_Aux.j0]

theorem ceil_least {p q x : Int} (hq : 0 < q) : q * x < p ↔ x < (p + q - 1) / q := by
  have e : ∀ y : Int, (x + 1 ≤ y) ↔ x < y := fun y => by omega
  rw [← e, Int.le_ediv_iff_mul_le hq]
  have : (x + 1) * q = q * x + q := by grind
  omega
theorem aux_l0 {N D Q F n : Int} (h : codeB N D Q F = true) (n1 : 1 ≤ n) (n2 : n ≤ 96) (m : Nat) : ∀ (x : Int) (k : Nat), 0 ≤ x → 64 - x = m → m < k → x ≤ (55 * Q * N * n + 100 * D - 1) / (100 * D) →
    mosaicref06_Aux.l0 k n x N D Q F = some (ceilM (55 * Q * N * n) (100 * D), 0) := by
  have t := top_bound (n := n) h (by omega) (by omega)
  obtain ⟨_, h1, h2, h3, h4, h5, h6, h7, h8⟩ := (codeB_iff ..).1 h
  have hb := ediv_abs' (55 * Q * N * n + 100 * D - 1) (b := 100 * D) (by omega)
  induction m with
  | zero =>
    intro x k x0 hx hk hle
    obtain ⟨k, rfl⟩ : ∃ z, k = z + 1 := ⟨k - 1, by omega⟩
    simp only [mosaicref06_Aux.l0]
    rw [if_neg (by omega)]
    unfold ceilM
    rw [if_neg (by omega)]
    congr 2
    omega
  | succ m ih =>
    intro x k x0 hx hk hle
    obtain ⟨k, rfl⟩ : ∃ z, k = z + 1 := ⟨k - 1, by omega⟩
    simp only [mosaicref06_Aux.l0]
    have mb := mulb (a := 100 * D) (A := 100000) (b := x) (B := 64) (by omega) (by omega) (by omega) (by omega)
    rw [if_pos (by omega), w64 (x := 100 * D) (by omega) (by omega), w64 (x := 100 * D * x) (by omega) (by omega), w64 (x := 55 * Q) (by omega) (by omega), w64 (x := 55 * Q * N) (by omega) (by omega), w64 (x := 55 * Q * N * n) (by omega) (by omega)]
    by_cases hlt : 100 * D * x < 55 * Q * N * n
    · rw [if_pos hlt, w64 (by omega) (by omega)]
      have := (ceil_least (show 0 < 100 * D by omega)).1 hlt
      exact ih (x + 1) k (by omega) (by omega) (by omega) (by omega)
    · rw [if_neg hlt]
      have : ¬ x < (55 * Q * N * n + 100 * D - 1) / (100 * D) := fun hc => hlt ((ceil_least (by omega)).2 hc)
      unfold ceilM
      rw [if_pos (by omega)]
      congr 2
      omega
theorem ceil_pos {p q : Int} (hp : 0 < p) (hq : 0 < q) : 1 ≤ (p + q - 1) / q := by
  rw [Int.le_ediv_iff_mul_le hq]
  omega
theorem aux_spec' (k : Nat) (N D Q F n : Int) : mosaicref06_Aux.f (k + 70) N D Q F n = some (auxP N D Q F n) := by
  unfold mosaicref06_Aux.f auxP
  rw [check6' (k + 69)]
  simp only [Option.bind_some]
  by_cases h : codeB N D Q F = true
  · rw [if_pos h]
    by_cases k1 : n < 1
    · rw [if_pos k1, if_neg (by omega)]
      simp [mosaicref06_Aux.j0]
    · rw [if_neg k1]
      by_cases k2 : n > 96
      · rw [decide_eq_true k2, if_neg (by omega)]
        simp [mosaicref06_Aux.j0]
      · rw [decide_eq_false k2, if_pos ⟨h, by omega, by omega⟩]
        simp only [mosaicref06_Aux.j0]
        have t := top_bound (n := n) h (by omega) (by omega)
        obtain ⟨_, h1, h2, h3, h4, h5, h6, h7, h8⟩ := (codeB_iff ..).1 h
        have := ceil_pos (p := 55 * Q * N * n) (q := 100 * D) (by omega) (by omega)
        rw [if_neg (by decide), aux_l0 h (by omega) (by omega) 64 0 (k + 69) (by omega) (by omega) (by omega) (by omega)]
  · rw [if_neg h, if_neg (fun hc => h hc.1)]
    simp [mosaicref06_Aux.j0]

theorem DegreeAux (a b c d n : Int) (_ : (Lit.int .i64 a).wf = true) (_ : (Lit.int .i64 b).wf = true) (_ : (Lit.int .i64 c).wf = true) (_ : (Lit.int .i64 d).wf = true) (_ : (Lit.int .i64 n).wf = true) :
    ∃ k, mosaiclaw06_DegreeAux.f k a b c d n = some true := by
  refine ⟨100, ?_⟩
  unfold mosaiclaw06_DegreeAux.f
  simp only [mosaiclaw06_Ref.f, mosaiclaw05_Ref.f, Option.bind_some]
  rw [aux_spec 99, aux_spec' 30, awake06 28]
  simp only [Option.bind_some, if_true]
  unfold auxP
  split
  · rename_i h
    obtain ⟨hc, n1, n2⟩ := h
    have t := top_bound (n := n) hc n1 n2
    obtain ⟨_, h1, h2, h3, h4, h5, h6, h7, h8⟩ := (codeB_iff ..).1 hc
    have := ceil_pos (p := 55 * c * a * n) (q := 100 * b) (by omega) (by omega)
    simp only [if_true]
    have hm : 1 ≤ ceilM (55 * c * a * n) (100 * b) ∧ ceilM (55 * c * a * n) (100 * b) ≤ 64 := by
      unfold ceilM
      split <;> omega
    rw [if_pos hm.1, decide_eq_true hm.2]
  · simp
end Go.Proofs.Ytajkonnamldjaaa.Pure
