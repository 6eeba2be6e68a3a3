/- What the printed functions of the layer ratio, and of its reference, answer in plain numbers (part A). -/
import Derived.Test.YtajkonnamldjaaaPlain
import Derived.Test.YtajkonnamldjaaaQx21
import Derived.Test.YtajkonnamldjaaaQx27
import Derived.Test.YtajkonnamldjaaaQx30
namespace Go.Proofs.Ytajkonnamldjaaa.RatioSpec
open Go.RowKit Plain Q

theorem w64 {x : Int} (h : -9223372036854775808 ≤ x) (h' : x ≤ 9223372036854775807) : wrap64 x = x := by
  unfold wrap64
  omega

theorem abs_spec {a : Int} (h : -9223372036854775808 < a) (h' : a ≤ 9223372036854775807) : ratio_abs.f a = some (a.natAbs : Int) := by
  unfold ratio_abs.f
  split
  · rw [w64 (by omega) (by omega)]
    congr 1
    omega
  · congr 1
    omega
theorem abs_spec' {a : Int} (h : -9223372036854775808 < a) (h' : a ≤ 9223372036854775807) : mosaicref05_abs.f a = some (a.natAbs : Int) := by
  unfold mosaicref05_abs.f
  split
  · rw [w64 (by omega) (by omega)]
    congr 1
    omega
  · congr 1
    omega

theorem check_spec (n d : Int) : ratio_Check.f n d = some (okB n d) := by
  unfold ratio_Check.f
  by_cases h1 : 0 < d
  · by_cases h2 : d ≤ 2147483647
    · by_cases h3 : -2147483647 ≤ n
      · by_cases h4 : n ≤ 2147483647
        · rw [if_pos h1, if_pos h2, if_pos h3, if_pos h4, abs_spec (by omega) (by omega)]
          simp only [Option.bind_some, ratio_Gcd.f]
          have e : Plain.gcdI (n.natAbs : Int) d = (Int.gcd n d : Int) := by
            have := gcdI_abs n d
            rw [show ((d.natAbs : Int)) = d by omega] at this
            exact this
          rw [e]
          congr 1
          rw [Bool.eq_iff_iff, okB_iff, beq_iff_eq]
          constructor
          · intro h
            exact ⟨h1, h2, h3, h4, by omega⟩
          · rintro ⟨_, _, _, _, h⟩
            omega
        · rw [if_pos h1, if_pos h2, if_pos h3, if_neg h4]
          congr 1
          symm
          rw [Bool.eq_false_iff]
          intro h
          exact h4 ((okB_iff n d).1 h).2.2.2.1
      · rw [if_pos h1, if_pos h2, if_neg h3]
        congr 1
        symm
        rw [Bool.eq_false_iff]
        intro h
        exact h3 ((okB_iff n d).1 h).2.2.1
    · rw [if_pos h1, if_neg h2]
      congr 1
      symm
      rw [Bool.eq_false_iff]
      intro h
      exact h2 ((okB_iff n d).1 h).2.1
  · rw [if_neg h1]
    congr 1
    symm
    rw [Bool.eq_false_iff]
    intro h
    exact h1 ((okB_iff n d).1 h).1
theorem check_same (n d : Int) : mosaicref05_Check.f n d = ratio_Check.f n d := rfl
theorem check_spec' (n d : Int) : mosaicref05_Check.f n d = some (okB n d) := check_spec n d
theorem both_spec (a b c d : Int) : ratio_both.f a b c d = some (okB a b && okB c d) := by
  unfold ratio_both.f
  rw [check_spec, check_spec]
  simp only [Option.bind_some]
  split
  · rename_i h
    rw [h]
    rfl
  · rename_i h
    rw [Bool.eq_false_iff.2 h]
    rfl

theorem raw_spec (n : Int) : ratio_raw.f n = some (decide (-4611686018427387904 ≤ n ∧ n ≤ 4611686018427387904)) := by
  unfold ratio_raw.f
  split
  · rename_i h
    congr 1
    rw [Bool.eq_iff_iff, decide_eq_true_eq, decide_eq_true_eq]
    constructor
    · intro h'
      exact ⟨h, h'⟩
    · intro h'
      exact h'.2
  · rename_i h
    congr 1
    symm
    rw [decide_eq_false_iff_not]
    omega

/-- The parts of a ratio in lowest terms, as Go reckons them. -/
theorem part_spec {a g : Int} (hg : 0 < g) (hd : g ∣ a) (h : -9223372036854775808 < a) (h' : a ≤ 9223372036854775807) : wrap64 (Int.tdiv a g) = a / g := by
  rw [tdiv_dvd hd]
  have := div_abs_le a hg hd
  exact w64 (by omega) (by omega)

theorem lowest_spec (k : Nat) {n d : Int} (hd : d ≠ 0) (h1 : -9223372036854775808 < n) (h2 : n ≤ 9223372036854775807) (h3 : -9223372036854775808 < d) (h4 : d ≤ 9223372036854775807) :
    mosaicref05_lowest.f (k + 1) n d = some (mk n d) := by
  have hg := gcd_pos (n := n) hd
  have e1 : wrap64 (Int.tdiv n (Int.gcd n d : Int)) = n / (Int.gcd n d : Int) := part_spec hg (Int.gcd_dvd_left ..) h1 h2
  have e2 : wrap64 (Int.tdiv d (Int.gcd n d : Int)) = d / (Int.gcd n d : Int) := part_spec hg (Int.gcd_dvd_right ..) h3 h4
  have b1 := div_abs_le n hg (Int.gcd_dvd_left ..)
  have b2 := div_abs_le d hg (Int.gcd_dvd_right ..)
  have hs : (d / (Int.gcd n d : Int) < 0) ↔ d < 0 := by
    constructor
    · intro h
      apply Int.lt_of_not_ge
      intro hc
      have := Int.ediv_nonneg hc (Int.le_of_lt hg)
      omega
    · intro h
      exact Int.ediv_neg_of_neg_of_pos h hg
  unfold mosaicref05_lowest.f
  rw [abs_spec' h1 h2, abs_spec' h3 h4]
  simp only [Option.bind_some, mosaicref05_Gcd.f]
  rw [gcdI_abs, if_neg (by omega), e1, e2]
  have key : ∀ p q : Int, red n d = (p, q) → mosaicref05_lowest.j0 (k + 1) p q = some (mk n d) := by
    intro p q hr
    unfold mk
    rw [hr]
    simp only [mosaicref05_lowest.j0]
    rw [check_spec']
    simp only [Option.bind_some]
    split <;> rfl
  by_cases h : d < 0
  · rw [if_pos (hs.2 h), w64 (by omega) (by omega), w64 (by omega) (by omega)]
    exact key _ _ (by unfold red; rw [if_pos h])
  · rw [if_neg (fun hc => h (hs.1 hc))]
    exact key _ _ (by unfold red; rw [if_neg h])

theorem of_spec (k : Nat) (n d : Int) : ratio_Of.f (k + 2) n d = some (ofP n d) := by
  unfold ratio_Of.f ofP
  by_cases hd : d = 0
  · rw [if_pos hd, if_pos (.inl hd)]
    simp [ratio_Of.j0]
  · rw [if_neg hd, raw_spec, raw_spec]
    simp only [Option.bind_some]
    by_cases hn : -4611686018427387904 ≤ n ∧ n ≤ 4611686018427387904
    · rw [if_pos (decide_eq_true hn)]
      by_cases hm : -4611686018427387904 ≤ d ∧ d ≤ 4611686018427387904
      · rw [decide_eq_true hm, if_neg (by omega)]
        have hg := gcd_pos (n := n) hd
        have b1 := div_abs_le n hg (Int.gcd_dvd_left ..)
        have b2 := div_abs_le d hg (Int.gcd_dvd_right ..)
        simp only [ratio_Of.j0]
        rw [if_neg (by decide), abs_spec (by omega) (by omega), abs_spec (by omega) (by omega)]
        simp only [Option.bind_some, ratio_Gcd.f]
        rw [gcdI_abs]
        have hgd : (Int.gcd n d : Int) ≤ d.natAbs := by
          have := Nat.le_of_dvd (show 0 < d.natAbs by omega) (Int.gcd_dvd_natAbs_right n d)
          omega
        have key : ∀ p q : Int, red n d = (p, q) → ((ratio_Check.f p q).bind fun t152 => (if t152 = true then (some (p, q, (0 : Int))) else (some (0, 0, 8)))) = some (mk n d) := by
          intro p q hr
          unfold mk
          rw [hr, check_spec]
          simp only [Option.bind_some]
          split <;> rfl
        by_cases h : d < 0
        · rw [if_pos h, w64 (by omega) (by omega)]
          simp only [ratio_Of.j1]
          rw [if_neg (by omega), Int.tdiv_neg, Int.tdiv_neg, tdiv_dvd (Int.gcd_dvd_left ..), tdiv_dvd (Int.gcd_dvd_right ..), w64 (by omega) (by omega), w64 (by omega) (by omega)]
          exact key _ _ (by unfold red; rw [if_pos h])
        · rw [if_neg h]
          simp only [ratio_Of.j1]
          rw [if_neg (by omega), tdiv_dvd (Int.gcd_dvd_left ..), tdiv_dvd (Int.gcd_dvd_right ..), w64 (by omega) (by omega), w64 (by omega) (by omega)]
          exact key _ _ (by unfold red; rw [if_neg h])
      · rw [decide_eq_false hm, if_pos (by omega)]
        simp [ratio_Of.j0]
    · rw [if_neg (by simpa using hn), if_pos (by omega)]
      simp [ratio_Of.j0]

theorem of_spec' (k : Nat) (n d : Int) : mosaicref05_Of.f (k + 2) n d = some (ofP n d) := by
  have hj : ∀ b, mosaicref05_Of.j0 (k + 2) n d b = if b = true then some (0, 0, 1) else mosaicref05_lowest.f (k + 1) n d := by
    intro b
    simp only [mosaicref05_Of.j0]
    split
    · rfl
    · cases mosaicref05_lowest.f (k + 1) n d <;> rfl
  unfold mosaicref05_Of.f ofP
  simp only [hj]
  by_cases hd : d = 0
  · rw [if_pos hd, if_pos trivial, if_pos (.inl hd)]
  · rw [if_neg hd]
    by_cases h1 : n < -4611686018427387904
    · rw [if_pos h1, if_pos trivial, if_pos (by omega)]
    · rw [if_neg h1]
      by_cases h2 : n > 4611686018427387904
      · rw [if_pos h2, if_pos trivial, if_pos (by omega)]
      · rw [if_neg h2]
        by_cases h3 : d < -4611686018427387904
        · rw [if_pos h3, if_pos trivial, if_pos (by omega)]
        · rw [if_neg h3]
          by_cases h4 : d > 4611686018427387904
          · rw [if_pos (decide_eq_true h4), if_pos (by omega)]
          · rw [if_neg (by simpa using h4), if_neg (by omega)]
            exact lowest_spec k hd (by omega) (by omega) (by omega) (by omega)

theorem and_true_iff (x y : Bool) : (x && y) = true ↔ x = true ∧ y = true := by cases x <;> cases y <;> simp
end Go.Proofs.Ytajkonnamldjaaa.RatioSpec
