/- Plain numbers: the laws of ratios: orders, what is taken off again, what stands next below. No program stands here. -/
import Derived.Test.YtajkonnamldjaaaPlain
namespace Go.Proofs.Ytajkonnamldjaaa.Plain

theorem sumP_comm (a b c d : Int) : sumP a b c d 1 = sumP c d a b 1 := by
  unfold sumP
  have e : a * d + 1 * c * b = c * b + 1 * a * d := by grind
  have e2 : b * d = d * b := Int.mul_comm ..
  by_cases h : okB a b = true ∧ okB c d = true
  · rw [if_pos h, if_pos ⟨h.2, h.1⟩, e, e2]
  · rw [if_neg h, if_neg (fun hc => h ⟨hc.2, hc.1⟩)]
theorem mulP_comm (a b c d : Int) : mulP a b c d = mulP c d a b := by
  unfold mulP
  have e : a * c = c * a := Int.mul_comm ..
  have e2 : b * d = d * b := Int.mul_comm ..
  by_cases h : okB a b = true ∧ okB c d = true
  · rw [if_pos h, if_pos ⟨h.2, h.1⟩, e, e2]
  · rw [if_neg h, if_neg (fun hc => h ⟨hc.2, hc.1⟩)]

theorem pos_ne {a b : Int} (h1 : 0 < a) (h2 : 0 < b) : a * b ≠ 0 := by
  have := prod_pos h1 h2
  omega

/-- What an operation answers without an error: a ratio that may be. -/
theorem sumP_ok {a b c d s p q : Int} (hx : okB a b = true) (hy : okB c d = true) (h : sumP a b c d s = (p, q, 0)) : okB p q = true ∧ p * (b * d) = (a * d + s * c * b) * q := by
  unfold sumP at h
  rw [if_pos ⟨hx, hy⟩] at h
  exact mk_ok (pos_ne (okB_bounds hx).1 (okB_bounds hy).1) h

theorem sum_back {a b c d p q : Int} (hx : okB a b = true) (hy : okB c d = true) (h : sumP a b c d 1 = (p, q, 0)) : sumP p q c d (-1) = (a, b, 0) := by
  obtain ⟨hp, e⟩ := sumP_ok hx hy h
  unfold sumP
  rw [if_pos ⟨hp, hy⟩]
  have b1 := (okB_bounds hx).1
  have d1 := (okB_bounds hy).1
  have q1 := (okB_bounds hp).1
  refine mk_of (pos_ne q1 d1) hx ?_
  grind

theorem mul_back {a b c d p q : Int} (hx : okB a b = true) (hy : okB c d = true) (hc : c ≠ 0) (h : mulP a b c d = (p, q, 0)) : divP p q c d = (a, b, 0) := by
  have b1 := (okB_bounds hx).1
  have d1 := (okB_bounds hy).1
  unfold mulP at h
  rw [if_pos ⟨hx, hy⟩] at h
  obtain ⟨hp, e⟩ := mk_ok (pos_ne b1 d1) h
  unfold divP
  rw [if_pos ⟨hp, hy, hc⟩]
  have q1 := (okB_bounds hp).1
  refine mk_of (Int.mul_ne_zero (by omega) hc) hx ?_
  grind

/-! ### the order -/
theorem cmpP_of {a b c d : Int} (hx : okB a b = true) (hy : okB c d = true) : cmpP a b c d = if a * d < c * b then -1 else if c * b < a * d then 1 else 0 := by
  unfold cmpP
  rw [if_pos ⟨hx, hy⟩]
theorem cmp_turn {a b c d : Int} (hx : okB a b = true) (hy : okB c d = true) : cmpP a b c d = -cmpP c d a b := by
  rw [cmpP_of hx hy, cmpP_of hy hx]
  split
  · rw [if_neg (by omega)]
  · split <;> rfl
theorem cmp_range {a b c d : Int} (hx : okB a b = true) (hy : okB c d = true) : -1 ≤ cmpP a b c d ∧ cmpP a b c d ≤ 1 := by
  rw [cmpP_of hx hy]
  split
  · omega
  · split <;> omega
theorem cmp_zero {a b c d : Int} (hx : okB a b = true) (hy : okB c d = true) : cmpP a b c d = 0 ↔ a = c ∧ b = d := by
  rw [cmpP_of hx hy]
  obtain ⟨b1, _, _, _, g1⟩ := (okB_iff a b).1 hx
  obtain ⟨d1, _, _, _, g2⟩ := (okB_iff c d).1 hy
  constructor
  · intro h
    have e : a * d = c * b := by
      split at h
      · omega
      · split at h <;> omega
    exact low_unique b1 d1 g1 g2 e
  · rintro ⟨rfl, rfl⟩
    rw [if_neg (by omega), if_neg (by omega)]
theorem cmp_pos {a b c d : Int} (hx : okB a b = true) (hy : okB c d = true) : cmpP a b c d > 0 ↔ c * b < a * d := by
  rw [cmpP_of hx hy]
  constructor
  · intro h
    split at h
    · omega
    · split at h <;> omega
  · intro h
    rw [if_neg (by omega), if_pos h]
    omega
theorem cmp_neg {a b c d : Int} (hx : okB a b = true) (hy : okB c d = true) : cmpP a b c d < 0 ↔ a * d < c * b := by
  rw [cmpP_of hx hy]
  constructor
  · intro h
    split at h
    · assumption
    · split at h <;> omega
  · intro h
    rw [if_pos h]
    omega
theorem le_trans' {a b c d e f : Int} (hb : 0 < b) (hd : 0 < d) (hf : 0 < f) (h1 : a * d ≤ c * b) (h2 : c * f ≤ e * d) : a * f ≤ e * b := by
  refine Int.le_of_mul_le_mul_right (a := d) ?_ hd
  have s1 := Int.mul_le_mul_of_nonneg_right h1 (Int.le_of_lt hf)
  have s2 := Int.mul_le_mul_of_nonneg_right h2 (Int.le_of_lt hb)
  have t1 : a * f * d = a * d * f := by grind
  have t2 : c * b * f = c * f * b := by grind
  have t3 : e * b * d = e * d * b := by grind
  omega
theorem lt_trans' {a b c d e f : Int} (hb : 0 < b) (hd : 0 < d) (hf : 0 < f) (h1 : a * d < c * b) (h2 : c * f ≤ e * d) : a * f < e * b := by
  refine Int.lt_of_mul_lt_mul_right (a := d) ?_ (Int.le_of_lt hd)
  have s1 := Int.mul_lt_mul_of_pos_right h1 hf
  have s2 := Int.mul_le_mul_of_nonneg_right h2 (Int.le_of_lt hb)
  have t1 : a * f * d = a * d * f := by grind
  have t2 : c * b * f = c * f * b := by grind
  have t3 : e * b * d = e * d * b := by grind
  omega
/-- Of three, what is not greater goes on. -/
theorem cmp_le {a b c d e f : Int} (hx : okB a b = true) (hy : okB c d = true) (hz : okB e f = true) (h1 : ¬ cmpP a b c d > 0) (h2 : ¬ cmpP c d e f > 0) : cmpP a b e f ≤ 0 := by
  rw [cmp_pos hx hy] at h1
  rw [cmp_pos hy hz] at h2
  have := le_trans' (okB_bounds hx).1 (okB_bounds hy).1 (okB_bounds hz).1 (Int.not_lt.1 h1) (Int.not_lt.1 h2)
  apply Int.not_lt.1
  intro h
  have := (cmp_pos hx hz).1 h
  omega
theorem cmp_lt {a b c d e f : Int} (hx : okB a b = true) (hy : okB c d = true) (hz : okB e f = true) (h1 : ¬ cmpP a b c d ≥ 0) (h2 : ¬ cmpP c d e f > 0) : cmpP a b e f < 0 := by
  have h1' := (cmp_neg hx hy).1 (by omega)
  rw [cmp_pos hy hz] at h2
  exact (cmp_neg hx hz).2 (lt_trans' (okB_bounds hx).1 (okB_bounds hy).1 (okB_bounds hz).1 h1' (Int.not_lt.1 h2))

/-! ### floor and ceil -/
theorem next_to {a b : Int} (h : okB a b = true) : let lo := floorP a b; let hi := ceilP a b; lo ≤ hi ∧ hi - lo ≤ 1 ∧ (lo = hi ↔ b = 1) ∧ lo * b ≤ a ∧ a ≤ hi * b ∧ -2147483647 ≤ lo ∧ hi ≤ 2147483647 := by
  obtain ⟨b1, b2, a1, a2, g⟩ := (okB_iff a b).1 h
  unfold floorP ceilP
  rw [if_pos h, if_pos h]
  intro lo hi
  have h1 := Int.emod_add_mul_ediv a b
  have h2 := Int.emod_nonneg a (show b ≠ 0 by omega)
  have h3 := Int.emod_lt_of_pos a b1
  have k1 := Int.emod_add_mul_ediv (-a) b
  have k2 := Int.emod_nonneg (-a) (show b ≠ 0 by omega)
  have k3 := Int.emod_lt_of_pos (-a) b1
  have e1 : lo * b = b * (a / b) := Int.mul_comm ..
  have e2 : hi * b = -(b * (-a / b)) := by
    show -(-a / b) * b = _
    grind
  have e3 : b * (hi - lo) = hi * b - lo * b := by grind
  have le : lo ≤ hi := by
    apply Int.not_lt.1
    intro hc
    have : b * (hi - lo) ≤ b * (-1) := Int.mul_le_mul_of_nonneg_left (by omega) (by omega)
    omega
  have close : hi - lo ≤ 1 := by
    apply Int.not_lt.1
    intro hc
    have : b * 2 ≤ b * (hi - lo) := Int.mul_le_mul_of_nonneg_left (by omega) (by omega)
    omega
  refine ⟨le, close, ?_, by omega, by omega, ?_, ?_⟩
  · constructor
    · intro heq
      have hd : a = lo * b := by
        have : hi * b = lo * b := by rw [heq]
        omega
      have hb : b.natAbs ∣ Int.gcd a b := by
        refine Nat.dvd_gcd ?_ (Nat.dvd_refl _)
        rw [hd, Int.natAbs_mul]
        exact Nat.dvd_mul_left _ _
      rw [g] at hb
      have := Nat.le_of_dvd (by omega) hb
      omega
    · intro hb
      subst hb
      show a / 1 = -(-a / 1)
      omega
  · show -2147483647 ≤ a / b
    rw [Int.le_ediv_iff_mul_le b1]
    have : b * (-2147483647) ≤ 1 * (-2147483647) := by omega
    omega
  · show -(-a / b) ≤ 2147483647
    have : -2147483647 ≤ -a / b := by
      rw [Int.le_ediv_iff_mul_le b1]
      omega
    omega

/-! ### what is scaled -/
theorem scaleP_of {a b k : Int} (h : okB a b = true) (k0 : 0 ≤ k) (k1 : k ≤ 4294967296) : scaleP a b k = (a * k / b, 0) := by
  unfold scaleP
  rw [if_pos ⟨h, k0, k1⟩]
theorem scale_bound {a b k : Int} (h : okB a b = true) (k0 : 0 ≤ k) (k1 : k ≤ 4294967296) : -9223372032559808512 ≤ a * k / b ∧ a * k / b ≤ 9223372032559808512 := by
  obtain ⟨b1, b2, a1, a2⟩ := okB_bounds h
  have ma := mul_bound (a := a) (b := k) (A := 2147483647) (B := 4294967296) (by omega) (by omega) (by omega) (by omega)
  constructor
  · rw [Int.le_ediv_iff_mul_le b1]
    omega
  · apply Int.le_of_lt_add_one
    rw [Int.ediv_lt_iff_lt_mul b1]
    omega
theorem scale_mono {a b c d k : Int} (hb : 0 < b) (hd : 0 < d) (k0 : 0 ≤ k) (h : a * d ≤ c * b) : a * k / b ≤ c * k / d := by
  rw [Int.le_ediv_iff_mul_le hd]
  have h1 : a * k / b * b ≤ a * k := Int.ediv_mul_le _ (by omega)
  refine Int.le_of_mul_le_mul_right (a := b) ?_ hb
  have s1 := Int.mul_le_mul_of_nonneg_right h1 (Int.le_of_lt hd)
  have s2 := Int.mul_le_mul_of_nonneg_right h k0
  have t1 : a * k / b * d * b = a * k / b * b * d := by grind
  have t2 : a * k * d = a * d * k := by grind
  have t3 : c * b * k = c * k * b := by grind
  omega
/-- The scaled sum is the sum of what is scaled, or one more. -/
theorem scale_sum {a b c d p q k : Int} (hb : 0 < b) (hd : 0 < d) (hq : 0 < q) (_ : 0 ≤ k) (h : p * (b * d) = (a * d + c * b) * q) :
    a * k / b + c * k / d ≤ p * k / q ∧ p * k / q ≤ a * k / b + c * k / d + 1 := by
  have hbd := prod_pos hb hd
  have e : p * k / q = (a * d + c * b) * k / (b * d) := by
    have h1 : p * k * (b * d) / (q * (b * d)) = p * k / q := Int.mul_ediv_mul_of_pos_left _ _ hbd
    have h2 : (a * d + c * b) * k * q / (b * d * q) = (a * d + c * b) * k / (b * d) := Int.mul_ediv_mul_of_pos_left _ _ hq
    rw [← h1, ← h2, show p * k * (b * d) = (a * d + c * b) * k * q by grind, show q * (b * d) = b * d * q by grind]
  rw [e]
  have a1 := Int.emod_add_mul_ediv (a * k) b
  have a2 := Int.emod_nonneg (a * k) (show b ≠ 0 by omega)
  have a3 := Int.emod_lt_of_pos (a * k) hb
  have c1 := Int.emod_add_mul_ediv (c * k) d
  have c2 := Int.emod_nonneg (c * k) (show d ≠ 0 by omega)
  have c3 := Int.emod_lt_of_pos (c * k) hd
  generalize a * k / b = x at *
  generalize c * k / d = y at *
  generalize (a * k) % b = r at *
  generalize (c * k) % d = s at *
  have ee : (a * d + c * b) * k = (x + y) * (b * d) + (r * d + s * b) := by grind
  have r1 : 0 ≤ r * d := Int.mul_nonneg a2 (by omega)
  have r2 : r * d ≤ (b - 1) * d := Int.mul_le_mul_of_nonneg_right (by omega) (by omega)
  have s1 : 0 ≤ s * b := Int.mul_nonneg c2 (by omega)
  have s2 : s * b ≤ (d - 1) * b := Int.mul_le_mul_of_nonneg_right (by omega) (by omega)
  have t1 : (b - 1) * d = b * d - d := by grind
  have t2 : (d - 1) * b = b * d - b := by grind
  constructor
  · rw [Int.le_ediv_iff_mul_le hbd]
    omega
  · apply Int.le_of_lt_add_one
    rw [Int.ediv_lt_iff_lt_mul hbd, show (x + y + 1 + 1) * (b * d) = (x + y) * (b * d) + 2 * (b * d) by grind]
    omega

end Go.Proofs.Ytajkonnamldjaaa.Plain
