/- What the printed functions of the layer ratio, and of its reference, answer in plain numbers (part B). -/
import Derived.Test.YtajkonnamldjaaaSpecA
import Derived.Test.YtajkonnamldjaaaQx32
import Derived.Test.YtajkonnamldjaaaQx34
import Derived.Test.YtajkonnamldjaaaQx35
import Derived.Test.YtajkonnamldjaaaQx36
namespace Go.Proofs.Ytajkonnamldjaaa.RatioSpec
open Go.RowKit Plain Q

theorem sum_spec (a b c d : Int) {s : Int} (hs : s = 1 ∨ s = -1) : ratio_sum.f a b c d s = some (sumP a b c d s) := by
  unfold ratio_sum.f sumP
  rw [both_spec]
  simp only [Option.bind_some]
  by_cases h : okB a b = true ∧ okB c d = true
  · rw [if_pos ((and_true_iff ..).2 h), if_pos h]
    obtain ⟨hx, hy⟩ := h
    obtain ⟨b1, b2, a1, a2⟩ := okB_bounds hx
    obtain ⟨d1, d2, c1, c2⟩ := okB_bounds hy
    have hG : Plain.gcdI b d = (Int.gcd b d : Int) := gcdI_pos (by omega) (by omega)
    simp only [ratio_Gcd.f, Option.bind_some]
    rw [hG]
    have hg := gcd_pos (n := b) (show d ≠ 0 by omega)
    rw [if_neg (by omega), tdiv_dvd (Int.gcd_dvd_left ..), tdiv_dvd (Int.gcd_dvd_right ..)]
    have hb : (b / (Int.gcd b d : Int)) * (Int.gcd b d : Int) = b := Int.ediv_mul_cancel (Int.gcd_dvd_left ..)
    have hd : (d / (Int.gcd b d : Int)) * (Int.gcd b d : Int) = d := Int.ediv_mul_cancel (Int.gcd_dvd_right ..)
    have bb := div_abs_le b hg (Int.gcd_dvd_left ..)
    have bd := div_abs_le d hg (Int.gcd_dvd_right ..)
    have pb := Int.ediv_nonneg (show 0 ≤ b by omega) (Int.le_of_lt hg)
    have pd := Int.ediv_nonneg (show 0 ≤ d by omega) (Int.le_of_lt hg)
    generalize b / (Int.gcd b d : Int) = p at *
    generalize d / (Int.gcd b d : Int) = q at *
    generalize (Int.gcd b d : Int) = g at *
    have p1 : 0 < p := by
      by_cases h0 : p = 0
      · rw [h0, Int.zero_mul] at hb
        omega
      · omega
    have q1 : 0 < q := by
      by_cases h0 : q = 0
      · rw [h0, Int.zero_mul] at hd
        omega
      · omega
    rw [w64 (x := q) (by omega) (by omega), w64 (x := p) (by omega) (by omega)]
    have m1 := prod31 (a := a) (b := q) (by omega) (by omega) (by omega) (by omega)
    have m2 := prod31 (a := s * c) (b := p) (by rcases hs with rfl | rfl <;> omega) (by rcases hs with rfl | rfl <;> omega) (by omega) (by omega)
    have m3 := prod31 (a := p) (b := d) (by omega) (by omega) (by omega) (by omega)
    have m4 : 0 < p * d := prod_pos p1 d1
    rw [w64 (x := a * q) (by omega) (by omega), w64 (x := s * c) (by rcases hs with rfl | rfl <;> omega) (by rcases hs with rfl | rfl <;> omega), w64 (x := s * c * p) (by omega) (by omega), w64 (x := p * d) (by omega) (by omega),
      w64 (x := a * q + s * c * p) (by omega) (by omega)]
    have hsame : mk (a * d + s * c * b) (b * d) = mk (a * q + s * c * p) (p * d) := by
      refine mk_same ?_ (by omega) ?_
      · have := prod_pos b1 d1
        omega
      · rw [← hb, ← hd]
        grind
    rw [hsame, abs_spec (by omega) (by omega)]
    simp only [Option.bind_some]
    have hG2 : Plain.gcdI ((a * q + s * c * p).natAbs : Int) (p * d) = (Int.gcd (a * q + s * c * p) (p * d) : Int) := by
      have := gcdI_abs (a * q + s * c * p) (p * d)
      rw [show (((p * d).natAbs : Int)) = p * d by omega] at this
      exact this
    rw [hG2]
    have hN : -9223372036854775808 < a * q + s * c * p ∧ a * q + s * c * p ≤ 9223372036854775807 := by omega
    clear hsame hG2
    generalize a * q + s * c * p = N at *
    generalize p * d = D at *
    have hg2 := gcd_pos (n := N) (show D ≠ 0 by omega)
    rw [if_neg (by omega), part_spec hg2 (Int.gcd_dvd_left ..) (by omega) (by omega), part_spec hg2 (Int.gcd_dvd_right ..) (by omega) (by omega)]
    have hr : red N D = (N / (Int.gcd N D : Int), D / (Int.gcd N D : Int)) := by unfold red; rw [if_neg (by omega)]
    unfold mk
    rw [hr, check_spec]
    simp only [Option.bind_some]
    split <;> rfl
  · rw [if_neg h, if_neg (fun hc => h ((and_true_iff ..).1 hc))]

theorem add_spec (a b c d : Int) : ratio_Add.f a b c d = some (sumP a b c d 1) := by
  unfold ratio_Add.f
  rw [sum_spec a b c d (.inl rfl)]
  rfl
theorem tdiv_small {a b : Int} (_ : 0 < b) : -(a.natAbs : Int) ≤ Int.tdiv a b ∧ Int.tdiv a b ≤ (a.natAbs : Int) := by
  have h1 : (Int.tdiv a b).natAbs = a.natAbs / b.natAbs := by
    rw [Int.natAbs_tdiv]
    rfl
  have h2 : a.natAbs / b.natAbs ≤ a.natAbs := Nat.div_le_self _ _
  omega
theorem ediv_abs (a : Int) {b : Int} (hb : 0 < b) : -(a.natAbs : Int) ≤ a / b ∧ a / b ≤ (a.natAbs : Int) := by
  have h : (a.natAbs : Int) ≤ (a.natAbs : Int) * b := by
    have := Int.mul_le_mul_of_nonneg_left (show (1 : Int) ≤ b by omega) (show (0 : Int) ≤ a.natAbs by omega)
    omega
  refine ⟨?_, Int.le_of_lt_add_one ?_⟩
  · rw [Int.le_ediv_iff_mul_le hb, Int.neg_mul]
    omega
  · rw [Int.ediv_lt_iff_lt_mul hb, Int.add_mul]
    omega
theorem floor_spec {a b : Int} (hb : 0 < b) (h1 : -9223372036854775808 < a) (h2 : a ≤ 9223372036854775807) : ratio_floor.f a b = some (a / b) := by
  have h3 := tdiv_small (a := a) hb
  have h4 := floor_tdiv (a := a) hb
  have h5 : a.natAbs ≤ 9223372036854775807 := by omega
  unfold ratio_floor.f
  rw [if_neg (by omega), w64 (x := Int.tdiv a b) (by omega) (by omega)]
  rw [← h4]
  split
  · rename_i h
    rw [w64 (by omega)]
    have : Int.tdiv a b ≤ 0 := by
      apply Int.le_of_not_gt
      intro hc
      by_cases ha : 0 ≤ a
      · have := Int.tmod_nonneg b ha
        omega
      · have e := Int.neg_tdiv (-a) b
        rw [Int.neg_neg] at e
        have := Int.tdiv_nonneg (show 0 ≤ -a by omega) (Int.le_of_lt hb)
        omega
    omega
  · rfl

theorem Floor_spec (a b : Int) : ratio_Floor.f a b = some (floorP a b) := by
  unfold ratio_Floor.f floorP
  rw [check_spec]
  simp only [Option.bind_some]
  split
  · rename_i h
    obtain ⟨b1, b2, a1, a2⟩ := okB_bounds h
    rw [floor_spec b1 (by omega) (by omega)]
    rfl
  · rfl
/-- Whole part and rest apart. -/
theorem scale_parts {a b : Int} (k : Int) (hb : 0 < b) : a / b * k + (a - a / b * b) * k / b = a * k / b := by
  have e : a * k = (a - a / b * b) * k + a / b * k * b := by grind
  rw [e, Int.add_mul_ediv_right _ _ (show b ≠ 0 by omega)]
  omega
theorem scale_core {a b k : Int} (h : okB a b = true) (k0 : 0 ≤ k) (k1 : k ≤ 4294967296) :
    wrap64 ((wrap64 (a / b * k)) + (wrap64 (Int.tdiv (wrap64 ((wrap64 (a - (wrap64 (a / b * b)))) * k)) b))) = a * k / b := by
  obtain ⟨b1, b2, a1, a2⟩ := okB_bounds h
  have h1 := Int.emod_add_mul_ediv a b
  have h2 := Int.emod_nonneg a (show b ≠ 0 by omega)
  have h3 := Int.emod_lt_of_pos a b1
  have e : a / b * b = b * (a / b) := Int.mul_comm ..
  have hq := ediv_abs a b1
  have mq := mul_bound (a := a / b) (b := k) (A := 2147483647) (B := 4294967296) (by omega) (by omega) (by omega) (by omega)
  have mr := mul_bound (a := a - a / b * b) (b := k) (A := 2147483646) (B := 4294967296) (by omega) (by omega) (by omega) (by omega)
  have mr0 : 0 ≤ (a - a / b * b) * k := Int.mul_nonneg (by omega) k0
  have ma := mul_bound (a := a) (b := k) (A := 2147483647) (B := 4294967296) (by omega) (by omega) (by omega) (by omega)
  have hs := scale_parts (a := a) k b1
  have hd := ediv_abs (a * k) b1
  have hd2 := ediv_abs ((a - a / b * b) * k) b1
  rw [w64 (x := a / b * b) (by omega) (by omega), w64 (x := a - a / b * b) (by omega) (by omega), w64 (x := (a - a / b * b) * k) (by omega) (by omega), w64 (x := a / b * k) (by omega) (by omega), Int.tdiv_eq_ediv_of_nonneg mr0,
    w64 (x := (a - a / b * b) * k / b) (by omega) (by omega), hs, w64 (by omega) (by omega)]
theorem scale_spec (j : Nat) (a b k : Int) : ratio_Scale.f (j + 1) a b k = some (scaleP a b k) := by
  unfold ratio_Scale.f scaleP
  rw [check_spec]
  simp only [Option.bind_some]
  by_cases h : okB a b = true
  · obtain ⟨b1, b2, a1, a2⟩ := okB_bounds h
    rw [if_pos h]
    by_cases k0 : k < 0
    · rw [if_pos k0, if_neg (by omega)]
      simp [ratio_Scale.j0]
    · rw [if_neg k0]
      by_cases k1 : k > 4294967296
      · rw [if_neg (by omega)]
        simp [ratio_Scale.j0, k1]
      · rw [if_pos ⟨h, by omega, by omega⟩]
        simp only [ratio_Scale.j0]
        rw [if_neg (by simpa using k1), floor_spec b1 (by omega) (by omega)]
        simp only [Option.bind_some]
        rw [if_neg (by omega), scale_core h (by omega) (by omega)]
  · rw [if_neg h, if_neg (fun hc => h hc.1)]
    simp [ratio_Scale.j0]
end Go.Proofs.Ytajkonnamldjaaa.RatioSpec
namespace Go.Proofs.Ytajkonnamldjaaa.Pure
open Go.RowKit Plain Q RatioSpec

/-- The example of the page. -/
theorem awake05 (k : Nat) : mosaiclaw05_awake.f (k + 2) = some true := by
  unfold mosaiclaw05_awake.f
  rw [of_spec, add_spec, scale_spec]
  have e1 : ofP 6 (-4) = (-3, 2, 0) := by decide +kernel
  have e2 : sumP 1 2 1 3 1 = (5, 6, 0) := by decide +kernel
  have e3 : scaleP 1 3 4294967296 = (1431655765, 0) := by decide +kernel
  have e4 : floorP (-3) 2 = -2 := by decide +kernel
  rw [e1, e2, e3]
  simp only [Option.bind_some]
  rw [Floor_spec, e4]
  decide +kernel
end Go.Proofs.Ytajkonnamldjaaa.Pure
