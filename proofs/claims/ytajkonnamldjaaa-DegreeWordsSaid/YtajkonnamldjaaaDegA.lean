/- What the printed functions of the layer degree answer, in plain numbers. -/
import Derived.Test.YtajkonnamldjaaaPlainDegree
import Derived.Test.YtajkonnamldjaaaSpecA
import Derived.Test.YtajkonnamldjaaaQx6
import Derived.Test.YtajkonnamldjaaaQx9
import Derived.Test.YtajkonnamldjaaaQx19
import Derived.Test.YtajkonnamldjaaaQx22
import Derived.Test.YtajkonnamldjaaaQx24
namespace Go.Proofs.Ytajkonnamldjaaa.DegSpec
open Go.RowKit Plain Q RatioSpec Go.Proofs.YtajkonnamldjaaaW.PrintWords

theorem check6 (N D Q F : Int) : degree_Check.f N D Q F = some (codeB N D Q F) := by
  unfold degree_Check.f
  rw [check_spec]
  simp only [Option.bind_some]
  by_cases h0 : okB N D = true
  · rw [if_pos h0]
    by_cases h1 : 0 < N
    · by_cases h2 : N ≤ D
      · by_cases h3 : D ≤ 1000
        · by_cases h4 : 1 ≤ Q
          · by_cases h5 : Q ≤ 8
            · by_cases h6 : 2 ≤ F
              · by_cases h7 : F ≤ 64
                · rw [if_pos h1, if_pos h2, if_pos h3, if_pos h4, if_pos h5, if_pos h6, if_pos h7]
                  have m := mulb (a := F) (A := 64) (b := N) (B := 1000) (by omega) (by omega) (by omega) (by omega)
                  rw [w64 (by omega) (by omega)]
                  congr 1
                  rw [Bool.eq_iff_iff, codeB_iff, decide_eq_true_eq]
                  exact ⟨fun h => ⟨h0, h1, h2, h3, h4, h5, h6, h7, h⟩, fun h => h.2.2.2.2.2.2.2.2⟩
                · rw [if_pos h1, if_pos h2, if_pos h3, if_pos h4, if_pos h5, if_pos h6, if_neg h7]
                  congr 1
                  symm
                  rw [Bool.eq_false_iff]
                  exact fun h => h7 ((codeB_iff ..).1 h).2.2.2.2.2.2.2.1
              · rw [if_pos h1, if_pos h2, if_pos h3, if_pos h4, if_pos h5, if_neg h6]
                congr 1
                symm
                rw [Bool.eq_false_iff]
                exact fun h => h6 ((codeB_iff ..).1 h).2.2.2.2.2.2.1
            · rw [if_pos h1, if_pos h2, if_pos h3, if_pos h4, if_neg h5]
              congr 1
              symm
              rw [Bool.eq_false_iff]
              exact fun h => h5 ((codeB_iff ..).1 h).2.2.2.2.2.1
          · rw [if_pos h1, if_pos h2, if_pos h3, if_neg h4]
            congr 1
            symm
            rw [Bool.eq_false_iff]
            exact fun h => h4 ((codeB_iff ..).1 h).2.2.2.2.1
        · rw [if_pos h1, if_pos h2, if_neg h3]
          congr 1
          symm
          rw [Bool.eq_false_iff]
          exact fun h => h3 ((codeB_iff ..).1 h).2.2.2.1
      · rw [if_pos h1, if_neg h2]
        congr 1
        symm
        rw [Bool.eq_false_iff]
        exact fun h => h2 ((codeB_iff ..).1 h).2.2.1
    · rw [if_neg h1]
      congr 1
      symm
      rw [Bool.eq_false_iff]
      exact fun h => h1 ((codeB_iff ..).1 h).2.1
  · rw [if_neg h0]
    congr 1
    symm
    rw [Bool.eq_false_iff]
    exact fun h => h0 ((codeB_iff ..).1 h).1

theorem parts_spec {N D Q F k : Int} (h : codeB N D Q F = true) (k1 : 1 ≤ k) (k2 : k ≤ F) : degree_parts.f N D Q F k = some (nP D F k, dP N D F k) := by
  have a := nP_bound h k1 k2
  have b := dP_bound h k1 k2
  obtain ⟨_, h1, h2, h3, h4, h5, h6, h7, h8⟩ := (codeB_iff ..).1 h
  unfold degree_parts.f
  unfold nP dP at *
  rw [w64 (x := F + 1) (by omega) (by omega), w64 (x := (F + 1) * D) (by omega) (by omega), w64 (x := F - k) (by omega) (by omega), w64 (x := (F + 1) * D * (F - k)) (by omega) (by omega),
    w64 (x := D + N) (by omega) (by omega), w64 (x := F * (D + N)) (by omega) (by omega), w64 (x := F - 1) (by omega) (by omega), w64 (x := F * (D + N) * (F - 1)) (by omega) (by omega),
    w64 (x := F * (D + N) * (F - 1) * k) (by omega) (by omega)]

theorem scaled_spec {N D Q F k : Int} (h : codeB N D Q F = true) (k1 : 1 ≤ k) (k2 : k ≤ F) : degree_scaled.f N D Q F k = some (tab N D F k) := by
  have a := nP_bound h k1 k2
  have b := dP_bound h k1 k2
  have c := n_le_d h k1 k2
  have t := tab_bound h k1 k2
  unfold degree_scaled.f
  rw [parts_spec h k1 k2]
  simp only [Option.bind_some, ratio_Gcd.f]
  unfold tab at *
  generalize nP D F k = n at *
  generalize dP N D F k = d at *
  rw [gcdI_pos (by omega) (by omega)]
  have hg := gcd_pos (n := n) (show d ≠ 0 by omega)
  have e1 := part_spec (a := n) hg (Int.gcd_dvd_left ..) (by omega) (by omega)
  have e2 := part_spec (a := d) hg (Int.gcd_dvd_right ..) (by omega) (by omega)
  rw [e1, e2]
  have hn : (Int.gcd n d : Int) * (n / (Int.gcd n d : Int)) = n := Int.mul_ediv_cancel' (Int.gcd_dvd_left ..)
  have hd : (Int.gcd n d : Int) * (d / (Int.gcd n d : Int)) = d := Int.mul_ediv_cancel' (Int.gcd_dvd_right ..)
  have bn := div_abs_le n hg (Int.gcd_dvd_left ..)
  have bd := div_abs_le d hg (Int.gcd_dvd_right ..)
  have pn := Int.ediv_nonneg (show 0 ≤ n by omega) (Int.le_of_lt hg)
  have pd := Int.ediv_nonneg (show 0 ≤ d by omega) (Int.le_of_lt hg)
  generalize n / (Int.gcd n d : Int) = p at *
  generalize d / (Int.gcd n d : Int) = q at *
  generalize (Int.gcd n d : Int) = g at *
  have q1 : 0 < q := by
    by_cases h0 : q = 0
    · rw [h0, Int.mul_zero] at hd
      omega
    · omega
  rw [if_neg (by omega), if_neg (by omega), w64 (x := 4294967296 * p) (by omega) (by omega), w64 (x := 4294967296 * p + q) (by omega) (by omega), w64 (x := 4294967296 * p + q - 1) (by omega) (by omega),
    Int.tdiv_eq_ediv_of_nonneg (by omega)]
  have eq := scaled_eq (n := p) (d := q) hg q1
  rw [hn, hd] at eq
  have b2 := ediv_abs' (4294967296 * p + q - 1) q1
  rw [w64 (x := (4294967296 * p + q - 1) / q) (by omega) (by omega), w64 (by omega) (by omega), eq]

theorem table_l0 {N D Q F : Int} (h : codeB N D Q F = true) (m : Nat) : ∀ (j : Int) (acc : List Int) (k : Nat), 1 ≤ j → F - j = m → m < k → acc.length + m < 1000 →
    degree_Table.l0 k acc j N D Q F = some (acc ++ tabs N D F m j, 0) := by
  obtain ⟨_, h1, h2, h3, h4, h5, h6, h7, h8⟩ := (codeB_iff ..).1 h
  induction m with
  | zero =>
    intro j acc k j1 hj hk ha
    obtain ⟨k, rfl⟩ : ∃ z, k = z + 1 := ⟨k - 1, by omega⟩
    simp only [degree_Table.l0]
    rw [scaled_spec h j1 (by omega)]
    simp only [Option.bind_some]
    rw [if_pos (by omega), if_neg (by omega)]
    rfl
  | succ m ih =>
    intro j acc k j1 hj hk ha
    obtain ⟨k, rfl⟩ : ∃ z, k = z + 1 := ⟨k - 1, by omega⟩
    simp only [degree_Table.l0]
    rw [scaled_spec h j1 (by omega)]
    simp only [Option.bind_some]
    rw [if_pos (by omega), if_pos (by omega), w64 (by omega) (by omega), ih (j + 1) _ k (by omega) (by omega) (by omega) (by simp; omega)]
    simp [tabs]
/-- The table of a code, or the error. -/
def tableP (N D Q F : Int) : List Int × Int := if codeB N D Q F = true then (table N D F, 0) else ([], 1)
theorem table_spec (k : Nat) (N D Q F : Int) : degree_Table.f (k + 70) N D Q F = some (tableP N D Q F) := by
  unfold degree_Table.f tableP
  rw [check6]
  simp only [Option.bind_some]
  split
  · rename_i h
    obtain ⟨_, h1, h2, h3, h4, h5, h6, h7, h8⟩ := (codeB_iff ..).1 h
    rw [table_l0 h (F.toNat - 1) 1 [] _ (by omega) (by omega) (by omega) (by simp; omega)]
    rfl
  · rfl

theorem same_l0 (l : List Int) (hl : l.length < 1000) (d : Nat) : ∀ (i : Int) (k : Nat), 0 ≤ i → (l.length : Int) - i = d → d < k → mosaicref04_Same.l0 k l l i = some true := by
  induction d with
  | zero =>
    intro i k i0 hi hk
    obtain ⟨k, rfl⟩ : ∃ z, k = z + 1 := ⟨k - 1, by omega⟩
    simp only [mosaicref04_Same.l0]
    rw [if_neg (by omega)]
  | succ d ih =>
    intro i k i0 hi hk
    obtain ⟨k, rfl⟩ : ∃ z, k = z + 1 := ⟨k - 1, by omega⟩
    simp only [mosaicref04_Same.l0]
    rw [if_pos (by omega), if_pos i0, if_pos (by omega), if_pos trivial, w64 (by omega) (by omega)]
    exact ih (i + 1) k (by omega) (by omega) (by omega)
theorem same_spec (k : Nat) (l : List Int) (hl : l.length ≤ 70) : mosaicref04_Same.f (k + 72) l l = some true := by
  unfold mosaicref04_Same.f
  rw [if_pos rfl]
  exact same_l0 l (by omega) l.length 0 (k + 72) (by omega) (by omega) (by omega)

/-- The chance of at most k, or the error. -/
def chanceP (N D Q F k : Int) : Int × Int × Int := if codeB N D Q F = true ∧ 1 ≤ k ∧ k ≤ F then ofP (dP N D F k - nP D F k) (dP N D F k) else (0, 0, 1)
theorem chance_spec (j : Nat) (N D Q F k : Int) : degree_Chance.f (j + 3) N D Q F k = some (chanceP N D Q F k) := by
  unfold degree_Chance.f chanceP
  rw [check6]
  simp only [Option.bind_some]
  by_cases h : codeB N D Q F = true
  · rw [if_pos h]
    by_cases k1 : k < 1
    · rw [if_pos k1, if_neg (by omega)]
      simp [degree_Chance.j0]
    · rw [if_neg k1]
      by_cases k2 : k > F
      · rw [decide_eq_true k2, if_neg (by omega)]
        simp [degree_Chance.j0]
      · rw [decide_eq_false k2, if_pos ⟨h, by omega, by omega⟩]
        simp only [degree_Chance.j0]
        have a := nP_bound (k := k) h (by omega) (by omega)
        have b := dP_bound (k := k) h (by omega) (by omega)
        rw [if_neg (by decide), parts_spec h (by omega) (by omega)]
        simp only [Option.bind_some]
        rw [w64 (by omega) (by omega), of_spec j]
        rfl
  · rw [if_neg h, if_neg (fun hc => h hc.1)]
    simp [degree_Chance.j0]

/-- The example of the page. -/
theorem awake06 (k : Nat) : mosaiclaw06_awake.f (k + 72) = some true := by
  unfold mosaiclaw06_awake.f
  simp only [mosaiclaw06_half.f, Option.bind_some]
  have e1 : tableP 1 2 1 4 = ([715827882, 3101920824, 3897285138, 4294967296], 0) := by decide +kernel
  have e2 : chanceP 1 2 1 4 2 = (13, 18, 0) := by decide +kernel
  rw [table_spec (k + 2), chance_spec (k + 69), e1, e2]
  simp only [Option.bind_some, if_true]
  rw [same_spec k _ (by simp)]
  decide +kernel
end Go.Proofs.Ytajkonnamldjaaa.DegSpec
