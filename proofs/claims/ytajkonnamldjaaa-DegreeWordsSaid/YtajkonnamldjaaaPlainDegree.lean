/- Plain numbers: codes, chances, tables and degrees. No program stands here. -/
import Derived.Test.YtajkonnamldjaaaPlainLaws
namespace Go.Proofs.Ytajkonnamldjaaa.Plain

/-- May this code be? (Eps is N by D.) -/
def codeB (N D Q F : Int) : Bool := okB N D && decide (0 < N ∧ N ≤ D ∧ D ≤ 1000 ∧ 1 ≤ Q ∧ Q ≤ 8 ∧ 2 ≤ F ∧ F ≤ 64 ∧ D ≤ F * N)
theorem codeB_iff (N D Q F : Int) : codeB N D Q F = true ↔ okB N D = true ∧ 0 < N ∧ N ≤ D ∧ D ≤ 1000 ∧ 1 ≤ Q ∧ Q ≤ 8 ∧ 2 ≤ F ∧ F ≤ 64 ∧ D ≤ F * N := by
  simp [codeB]

/-- The chance of more than k is n by d. -/
def nP (D F k : Int) : Int := (F + 1) * D * (F - k)
def dP (N D F k : Int) : Int := F * (D + N) * (F - 1) * k

theorem mulb {a b A B : Int} (h1 : 0 ≤ a) (h2 : a ≤ A) (h3 : 0 ≤ b) (h4 : b ≤ B) : 0 ≤ a * b ∧ a * b ≤ A * B :=
  ⟨Int.mul_nonneg h1 h3, Int.mul_le_mul h2 h4 h3 (by omega)⟩

theorem nP_bound {N D Q F k : Int} (h : codeB N D Q F = true) (k1 : 1 ≤ k) (k2 : k ≤ F) : (0 ≤ (F + 1) * D ∧ (F + 1) * D ≤ 65000) ∧ 0 ≤ nP D F k ∧ nP D F k ≤ 4095000 := by
  obtain ⟨_, h1, h2, h3, h4, h5, h6, h7, h8⟩ := (codeB_iff ..).1 h
  have a := mulb (a := F + 1) (A := 65) (b := D) (B := 1000) (by omega) (by omega) (by omega) (by omega)
  have b := mulb (a := (F + 1) * D) (A := 65000) (b := F - k) (B := 63) (by omega) (by omega) (by omega) (by omega)
  exact ⟨⟨a.1, by omega⟩, b.1, by unfold nP; omega⟩
theorem dP_bound {N D Q F k : Int} (h : codeB N D Q F = true) (k1 : 1 ≤ k) (k2 : k ≤ F) :
    (0 < F * (D + N) ∧ F * (D + N) ≤ 128000) ∧ (0 < F * (D + N) * (F - 1) ∧ F * (D + N) * (F - 1) ≤ 8064000) ∧ 0 < dP N D F k ∧ dP N D F k ≤ 516096000 := by
  obtain ⟨_, h1, h2, h3, h4, h5, h6, h7, h8⟩ := (codeB_iff ..).1 h
  have a := mulb (a := F) (A := 64) (b := D + N) (B := 2000) (by omega) (by omega) (by omega) (by omega)
  have a0 : 0 < F * (D + N) := Int.mul_pos (by omega) (by omega)
  have b := mulb (a := F * (D + N)) (A := 128000) (b := F - 1) (B := 63) (by omega) (by omega) (by omega) (by omega)
  have b0 : 0 < F * (D + N) * (F - 1) := Int.mul_pos a0 (by omega)
  have c := mulb (a := F * (D + N) * (F - 1)) (A := 8064000) (b := k) (B := 64) (by omega) (by omega) (by omega) (by omega)
  have c0 : 0 < F * (D + N) * (F - 1) * k := Int.mul_pos b0 (by omega)
  exact ⟨⟨a0, by omega⟩, ⟨b0, by omega⟩, c0, by unfold dP; omega⟩
theorem n_le_d {N D Q F k : Int} (h : codeB N D Q F = true) (k1 : 1 ≤ k) (k2 : k ≤ F) : nP D F k ≤ dP N D F k := by
  obtain ⟨_, h1, h2, h3, h4, h5, h6, h7, h8⟩ := (codeB_iff ..).1 h
  have e1 : (F + 1) * D ≤ F * (D + N) := by
    have : F * (D + N) = F * D + F * N := Int.mul_add ..
    have : (F + 1) * D = F * D + D := by grind
    omega
  have e2 : F - k ≤ (F - 1) * k := by
    have : (F - 1) * 1 ≤ (F - 1) * k := Int.mul_le_mul_of_nonneg_left k1 (by omega)
    have e : (F - 1) * k = F * k - k := by grind
    have : F * 1 ≤ F * k := Int.mul_le_mul_of_nonneg_left k1 (by omega)
    omega
  have p := Int.mul_le_mul e1 e2 (by omega) (by
    have := (dP_bound h k1 k2).1
    omega)
  have e : F * (D + N) * ((F - 1) * k) = dP N D F k := by unfold dP; grind
  unfold nP
  omega

/-- The k-th number of the table. -/
def tab (N D F k : Int) : Int := 4294967296 * (dP N D F k - nP D F k) / dP N D F k
/-- The numbers of the table from the j-th on, m + 1 of them. -/
def tabs (N D F : Int) : Nat → Int → List Int
  | 0, j => [tab N D F j]
  | m + 1, j => tab N D F j :: tabs N D F m (j + 1)
/-- The whole table. -/
def table (N D F : Int) : List Int := tabs N D F (F.toNat - 1) 1

theorem tabs_length (N D F : Int) (m : Nat) (j : Int) : (tabs N D F m j).length = m + 1 := by
  induction m generalizing j with
  | zero => rfl
  | succ m ih => simp [tabs, ih]
theorem tabs_getD (N D F : Int) (m i : Nat) (j : Int) (h : i ≤ m) : (tabs N D F m j).getD i 0 = tab N D F (j + i) := by
  induction m generalizing j i with
  | zero =>
    obtain rfl : i = 0 := by omega
    simp [tabs]
  | succ m ih =>
    cases i with
    | zero => simp [tabs]
    | succ i =>
      have := ih i (j + 1) (by omega)
      simp only [tabs, List.getD_cons_succ]
      rw [this]
      congr 1
      omega
theorem table_length {N D Q F : Int} (h : codeB N D Q F = true) : ((table N D F).length : Int) = F := by
  obtain ⟨_, h1, h2, h3, h4, h5, h6, h7, h8⟩ := (codeB_iff ..).1 h
  unfold table
  rw [tabs_length]
  omega
theorem table_getD {N D Q F : Int} (h : codeB N D Q F = true) {i : Nat} (hi : (i : Int) < F) : (table N D F).getD i 0 = tab N D F (i + 1) := by
  obtain ⟨_, h1, h2, h3, h4, h5, h6, h7, h8⟩ := (codeB_iff ..).1 h
  unfold table
  rw [tabs_getD _ _ _ _ _ _ (by omega)]
  congr 1
  omega

theorem tab_bound {N D Q F k : Int} (h : codeB N D Q F = true) (k1 : 1 ≤ k) (k2 : k ≤ F) : 0 ≤ tab N D F k ∧ tab N D F k ≤ 4294967296 := by
  have a := nP_bound h k1 k2
  have b := dP_bound h k1 k2
  have c := n_le_d h k1 k2
  unfold tab
  constructor
  · exact Int.ediv_nonneg (Int.mul_nonneg (by omega) (by omega)) (by omega)
  · apply Int.le_of_lt_add_one
    rw [Int.ediv_lt_iff_lt_mul (by omega)]
    have : 4294967296 * (dP N D F k - nP D F k) ≤ 4294967296 * dP N D F k := Int.mul_le_mul_of_nonneg_left (by omega) (by omega)
    have : (4294967296 + 1) * dP N D F k = 4294967296 * dP N D F k + dP N D F k := by grind
    omega
theorem tab_last {N D Q F : Int} (h : codeB N D Q F = true) : tab N D F F = 4294967296 := by
  obtain ⟨_, h1, h2, h3, h4, h5, h6, h7, h8⟩ := (codeB_iff ..).1 h
  have b := dP_bound h (k := F) (by omega) (by omega)
  unfold tab
  have e : nP D F F = 0 := by unfold nP; rw [Int.sub_self, Int.mul_zero]
  rw [e, Int.sub_zero, Int.mul_ediv_cancel _ (by omega)]
/-- A table rises. -/
theorem tab_rises {N D Q F k : Int} (h : codeB N D Q F = true) (k1 : 1 ≤ k) (k2 : k + 1 ≤ F) : tab N D F k ≤ tab N D F (k + 1) := by
  have b1 := dP_bound h k1 (by omega)
  have b2 := dP_bound h (k := k + 1) (by omega) k2
  have n1 := nP_bound h k1 (by omega)
  have key := scale_mono (a := dP N D F k - nP D F k) (b := dP N D F k) (c := dP N D F (k + 1) - nP D F (k + 1)) (d := dP N D F (k + 1)) (k := 4294967296) (by omega) (by omega) (by omega) (by
    have e : (dP N D F (k + 1) - nP D F (k + 1)) * dP N D F k - (dP N D F k - nP D F k) * dP N D F (k + 1) = (F + 1) * D * (F * (D + N) * (F - 1)) * F := by
      unfold dP nP
      grind
    have : 0 ≤ (F + 1) * D * (F * (D + N) * (F - 1)) * F := Int.mul_nonneg (Int.mul_nonneg n1.1.1 (by omega)) (by omega)
    omega)
  unfold tab
  rw [Int.mul_comm 4294967296, Int.mul_comm 4294967296]
  exact key

/-- 2^32 less the integer next above. -/
theorem scaled_eq {n d g : Int} (hg : 0 < g) (hd : 0 < d) : 4294967296 - (4294967296 * n + d - 1) / d = 4294967296 * (g * d - g * n) / (g * d) := by
  have e1 : 4294967296 * (g * d - g * n) = g * (4294967296 * (d - n)) := by grind
  rw [e1, Int.mul_ediv_mul_of_pos _ _ hg]
  symm
  rw [Int.ediv_eq_iff_of_pos hd]
  have h1 := Int.emod_add_mul_ediv (4294967296 * n + d - 1) d
  have h2 := Int.emod_nonneg (4294967296 * n + d - 1) (show d ≠ 0 by omega)
  have h3 := Int.emod_lt_of_pos (4294967296 * n + d - 1) hd
  generalize (4294967296 * n + d - 1) / d = q at *
  generalize (4294967296 * n + d - 1) % d = r at *
  have e2 : (4294967296 - q) * d = 4294967296 * d - d * q := by grind
  have e3 : 4294967296 * (d - n) = 4294967296 * d - 4294967296 * n := by grind
  rw [e2, e3]
  omega

theorem ediv_abs' (a : Int) {b : Int} (hb : 0 < b) : -(a.natAbs : Int) ≤ a / b ∧ a / b ≤ (a.natAbs : Int) := by
  have h : (a.natAbs : Int) ≤ (a.natAbs : Int) * b := by
    have := Int.mul_le_mul_of_nonneg_left (show (1 : Int) ≤ b by omega) (show (0 : Int) ≤ a.natAbs by omega)
    omega
  refine ⟨?_, Int.le_of_lt_add_one ?_⟩
  · rw [Int.le_ediv_iff_mul_le hb, Int.neg_mul]
    omega
  · rw [Int.ediv_lt_iff_lt_mul hb, Int.add_mul]
    omega

/-- The first k from i on (from 1 on) whose number is above word; how many there are, if there is none. -/
def degP : List Int → Int → Int → Int → Int
  | [], _, _, n => n
  | x :: xs, word, i, n => if x > word then i + 1 else degP xs word (i + 1) n
end Go.Proofs.Ytajkonnamldjaaa.Plain
