/- Plain numbers: the greatest number that divides both of two, ratios in lowest terms, and what follows of them. No program stands here. -/
namespace Go.Proofs.Ytajkonnamldjaaa.Plain

/-- The greatest number that divides both; 0, if one is below 0. -/
def gcdI (a b : Int) : Int := if a < 0 then 0 else if b < 0 then 0 else (Nat.gcd a.toNat b.toNat : Int)

theorem gcdI_pos {a b : Int} (ha : 0 ≤ a) (hb : 0 ≤ b) : gcdI a b = (Int.gcd a b : Int) := by
  unfold gcdI
  rw [if_neg (by omega), if_neg (by omega)]
  obtain ⟨m, rfl⟩ := Int.eq_ofNat_of_zero_le ha
  obtain ⟨n, rfl⟩ := Int.eq_ofNat_of_zero_le hb
  simp [Int.gcd]

theorem gcdI_abs (a b : Int) : gcdI a.natAbs b.natAbs = (Int.gcd a b : Int) := by
  rw [gcdI_pos (by omega) (by omega)]
  simp [Int.gcd]

/-- May this ratio be? -/
def okB (n d : Int) : Bool := decide (0 < d ∧ d ≤ 2147483647 ∧ -2147483647 ≤ n ∧ n ≤ 2147483647 ∧ Int.gcd n d = 1)
theorem okB_iff (n d : Int) : okB n d = true ↔ 0 < d ∧ d ≤ 2147483647 ∧ -2147483647 ≤ n ∧ n ≤ 2147483647 ∧ Int.gcd n d = 1 := by simp [okB]

/-- The ratio in lowest terms, the lower part above 0. -/
def red (n d : Int) : Int × Int := if d < 0 then (-(n / (Int.gcd n d : Int)), -(d / (Int.gcd n d : Int))) else (n / (Int.gcd n d : Int), d / (Int.gcd n d : Int))

theorem gcd_pos {n d : Int} (hd : d ≠ 0) : (0 : Int) < (Int.gcd n d : Int) := by
  have := Int.gcd_pos_of_ne_zero_right n hd
  omega

/-- Two in lowest terms that stand for one number are one. -/
theorem low_unique {p q p' q' : Int} (hq : 0 < q) (hq' : 0 < q') (hg : Int.gcd p q = 1) (hg' : Int.gcd p' q' = 1) (h : p * q' = p' * q) : p = p' ∧ q = q' := by
  have h1 : q.natAbs ∣ q'.natAbs := by
    have hc : Nat.Coprime q.natAbs p.natAbs := by rw [Nat.Coprime, Nat.gcd_comm]; exact hg
    refine hc.dvd_of_dvd_mul_left ?_
    rw [← Int.natAbs_mul, h, Int.natAbs_mul]
    exact Nat.dvd_mul_left _ _
  have h2 : q'.natAbs ∣ q.natAbs := by
    have hc : Nat.Coprime q'.natAbs p'.natAbs := by rw [Nat.Coprime, Nat.gcd_comm]; exact hg'
    refine hc.dvd_of_dvd_mul_left ?_
    rw [← Int.natAbs_mul, ← h, Int.natAbs_mul]
    exact Nat.dvd_mul_left _ _
  have h3 : q = q' := by
    have := Nat.dvd_antisymm h1 h2
    omega
  subst h3
  exact ⟨Int.eq_of_mul_eq_mul_right (by omega) h, rfl⟩

theorem red_low {n d : Int} (hd : d ≠ 0) : 0 < (red n d).2 ∧ Int.gcd (red n d).1 (red n d).2 = 1 ∧ (red n d).1 * d = n * (red n d).2 := by
  have hg := gcd_pos (n := n) hd
  have h1 : Int.gcd (n / (Int.gcd n d : Int)) (d / (Int.gcd n d : Int)) = 1 := Int.gcd_ediv_gcd_ediv_gcd (by omega)
  have hn : (n / (Int.gcd n d : Int)) * (Int.gcd n d : Int) = n := Int.ediv_mul_cancel (Int.gcd_dvd_left ..)
  have hdd : (d / (Int.gcd n d : Int)) * (Int.gcd n d : Int) = d := Int.ediv_mul_cancel (Int.gcd_dvd_right ..)
  unfold red
  generalize n / (Int.gcd n d : Int) = a at *
  generalize d / (Int.gcd n d : Int) = b at *
  generalize (Int.gcd n d : Int) = g at *
  split
  · rename_i h
    refine ⟨?_, by simpa using h1, by subst hn hdd; grind⟩
    show 0 < -b
    have : b < 0 := by
      apply Int.lt_of_not_ge
      intro hb
      have := Int.mul_nonneg hb (Int.le_of_lt hg)
      omega
    omega
  · rename_i h
    refine ⟨?_, h1, by subst hn hdd; grind⟩
    show 0 < b
    apply Int.lt_of_not_ge
    intro hb
    have := Int.mul_nonneg (show 0 ≤ -b by omega) (Int.le_of_lt hg)
    rw [Int.neg_mul] at this
    omega

theorem red_unique {n d p q : Int} (hd : d ≠ 0) (hq : 0 < q) (hg : Int.gcd p q = 1) (h : p * d = n * q) : red n d = (p, q) := by
  obtain ⟨h1, h2, h3⟩ := red_low (n := n) hd
  have h4 : (red n d).1 * q = p * (red n d).2 := by
    have : ((red n d).1 * q) * d = (p * (red n d).2) * d := by
      generalize (red n d).1 = a at *
      generalize (red n d).2 = b at *
      grind
    exact Int.eq_of_mul_eq_mul_right hd this
  obtain ⟨e1, e2⟩ := low_unique h1 hq h2 hg h4
  exact Prod.ext e1 e2

/-- n by d as a ratio, or the error 8. -/
def mk (n d : Int) : Int × Int × Int := if okB (red n d).1 (red n d).2 = true then ((red n d).1, (red n d).2, 0) else (0, 0, 8)

theorem red_same {n d n' d' : Int} (hd : d ≠ 0) (hd' : d' ≠ 0) (h : n * d' = n' * d) : red n d = red n' d' := by
  obtain ⟨h1, h2, h3⟩ := red_low (n := n') hd'
  refine red_unique hd h1 h2 ?_
  have : ((red n' d').1 * d) * d' = (n * (red n' d').2) * d' := by
    generalize (red n' d').1 = a at *
    generalize (red n' d').2 = b at *
    grind
  exact Int.eq_of_mul_eq_mul_right hd' this
theorem mk_same {n d n' d' : Int} (hd : d ≠ 0) (hd' : d' ≠ 0) (h : n * d' = n' * d) : mk n d = mk n' d' := by
  unfold mk
  rw [red_same hd hd' h]
theorem mk_of {n d p q : Int} (hd : d ≠ 0) (hok : okB p q = true) (h : p * d = n * q) : mk n d = (p, q, 0) := by
  obtain ⟨h1, _, _, _, h5⟩ := (okB_iff p q).1 hok
  unfold mk
  rw [red_unique hd h1 h5 h, if_pos hok]
/-- What mk answers without an error is a ratio that may be, and stands for n by d. -/
theorem mk_ok {n d p q : Int} (hd : d ≠ 0) (h : mk n d = (p, q, 0)) : okB p q = true ∧ p * d = n * q := by
  unfold mk at h
  split at h
  · rename_i hk
    have e1 : (red n d).1 = p := congrArg Prod.fst h
    have e2 : (red n d).2 = q := congrArg (fun x => x.2.1) h
    rw [← e1, ← e2]
    exact ⟨hk, (red_low hd).2.2⟩
  · exact absurd (congrArg (fun x => x.2.2) h) (by simp)
theorem mk_err {n d : Int} : (mk n d).2.2 = 0 ∨ mk n d = (0, 0, 8) := by
  unfold mk
  split
  · exact .inl rfl
  · exact .inr rfl

/-! ### products that are no greater than 2^62 -/
theorem mul_bound {a b A B : Int} (h1 : -A ≤ a) (h2 : a ≤ A) (h3 : -B ≤ b) (h4 : b ≤ B) : -(A * B) ≤ a * b ∧ a * b ≤ A * B := by
  have hA : a.natAbs ≤ A.natAbs := by omega
  have hB : b.natAbs ≤ B.natAbs := by omega
  have h := Nat.mul_le_mul hA hB
  have e1 : (a * b).natAbs = a.natAbs * b.natAbs := Int.natAbs_mul a b
  have e2 : (A * B).natAbs = A.natAbs * B.natAbs := Int.natAbs_mul A B
  have e3 : 0 ≤ A * B := Int.mul_nonneg (by omega) (by omega)
  rw [← e1, ← e2] at h
  omega

/-- Go's division by what divides. -/
theorem tdiv_dvd {a g : Int} (h : g ∣ a) : Int.tdiv a g = a / g := Int.tdiv_eq_ediv_of_dvd h
theorem div_abs_le (a : Int) {g : Int} (hg : 0 < g) (h : g ∣ a) : -(a.natAbs : Int) ≤ a / g ∧ a / g ≤ (a.natAbs : Int) := by
  obtain ⟨k, rfl⟩ := h
  rw [Int.mul_ediv_cancel_left _ (by omega)]
  have : k.natAbs ≤ (g * k).natAbs := by
    rw [Int.natAbs_mul]
    exact Nat.le_mul_of_pos_left _ (by omega)
  omega

/-! ### the layer's answers -/
/-- Of(n, d): 5.1. -/
def ofP (n d : Int) : Int × Int × Int :=
  if d = 0 ∨ n < -4611686018427387904 ∨ n > 4611686018427387904 ∨ d < -4611686018427387904 ∨ d > 4611686018427387904 then (0, 0, 1) else mk n d
/-- x + s y: 5.2. -/
def sumP (a b c d s : Int) : Int × Int × Int := if okB a b = true ∧ okB c d = true then mk (a * d + s * c * b) (b * d) else (0, 0, 1)
def mulP (a b c d : Int) : Int × Int × Int := if okB a b = true ∧ okB c d = true then mk (a * c) (b * d) else (0, 0, 1)
def divP (a b c d : Int) : Int × Int × Int := if okB a b = true ∧ okB c d = true ∧ c ≠ 0 then mk (a * d) (b * c) else (0, 0, 1)
def cmpP (a b c d : Int) : Int := if okB a b = true ∧ okB c d = true then (if a * d < c * b then -1 else if c * b < a * d then 1 else 0) else 0
def floorP (a b : Int) : Int := if okB a b = true then a / b else 0
def ceilP (a b : Int) : Int := if okB a b = true then -((-a) / b) else 0
def scaleP (a b k : Int) : Int × Int := if okB a b = true ∧ 0 ≤ k ∧ k ≤ 4294967296 then (a * k / b, 0) else (0, 1)

theorem okB_bounds {n d : Int} (h : okB n d = true) : 0 < d ∧ d ≤ 2147483647 ∧ -2147483647 ≤ n ∧ n ≤ 2147483647 := by
  obtain ⟨h1, h2, h3, h4, _⟩ := (okB_iff n d).1 h
  exact ⟨h1, h2, h3, h4⟩
theorem prod31 {a b : Int} (h1 : -2147483647 ≤ a) (h2 : a ≤ 2147483647) (h3 : -2147483647 ≤ b) (h4 : b ≤ 2147483647) : -4611686014132420609 ≤ a * b ∧ a * b ≤ 4611686014132420609 := by
  have := mul_bound h1 h2 h3 h4
  omega
theorem prod_pos {a b : Int} (h1 : 0 < a) (h2 : 0 < b) : 0 < a * b := Int.mul_pos h1 h2

/-- The lower integer, out of a division that goes towards 0 and what is left over. -/
theorem floor_tdiv {a b : Int} (hb : 0 < b) : (if Int.tmod a b < 0 then Int.tdiv a b - 1 else Int.tdiv a b) = a / b := by
  have h1 := Int.tmod_add_mul_tdiv a b
  have h2 := Int.emod_add_mul_ediv a b
  have h3 := Int.emod_nonneg a (show b ≠ 0 by omega)
  have h4 := Int.emod_lt_of_pos a hb
  by_cases h0 : 0 ≤ a
  · rw [Int.tdiv_eq_ediv_of_nonneg h0, if_neg]
    have := Int.tmod_nonneg b h0
    omega
  · have e : Int.tdiv a b = -((-a) / b) := by
      have := Int.neg_tdiv (-a) b
      rw [Int.neg_neg] at this
      rw [this, Int.tdiv_eq_ediv_of_nonneg (by omega)]
    have h5 := Int.emod_add_mul_ediv (-a) b
    have h6 := Int.emod_nonneg (-a) (show b ≠ 0 by omega)
    have h7 := Int.emod_lt_of_pos (-a) hb
    rw [e] at h1 ⊢
    generalize (-a) / b = q at *
    generalize (-a) % b = r at *
    generalize a % b = s at *
    generalize Int.tmod a b = t at *
    symm
    rw [Int.ediv_eq_iff_of_pos hb]
    rw [Int.mul_neg] at h1
    split
    · have : (-q - 1) * b = -(b * q) - b := by grind
      rw [this]
      omega
    · have : (-q) * b = -(b * q) := by grind
      rw [this]
      omega

end Go.Proofs.Ytajkonnamldjaaa.Plain
