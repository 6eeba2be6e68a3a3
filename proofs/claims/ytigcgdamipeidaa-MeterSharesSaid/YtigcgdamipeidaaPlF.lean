/- While two wait: the law MeterFair in plain numbers. -/
import Derived.Test.YtigcgdamipeidaaShY
namespace Go.Proofs.Ytigcgdamipeidaa.Shr
open Go.RowKit Go.Proofs.YtigcgdamipeidaaW.PrintWords Go.Proofs.YtigcgdamipeidaaW.PrintLast Go.Proofs.YtigcgdamipeidaaW.PrintMore Go.Proofs.Ytigcgdamipeidaa

/-- What was sent of peer 2 + k. -/
def sumOf (k : Nat) : List (Int × Int) → Int
  | [] => 0
  | x :: l => (if x.1 = 2 + (k : Int) then x.2 else 0) + sumOf k l
theorem sumOf_append (k : Nat) (l m : List (Int × Int)) : sumOf k (l ++ m) = sumOf k l + sumOf k m := by
  induction l with
  | nil => simp [sumOf]
  | cons x l ih => simp only [List.cons_append, sumOf, ih]; omega
theorem sumOf_same (k : Nat) (o : List Int) : sumOf k (of (2 + (k : Int)) o) = o.sum := by
  induction o with
  | nil => rfl
  | cons x o ih =>
    have : sumOf k (of (2 + (k : Int)) o) = o.sum := ih
    simp only [of, List.map_cons, sumOf, List.sum_cons, if_true] at *
    rw [this]
theorem sumOf_other (k : Nat) {j : Int} (h : j ≠ 2 + (k : Int)) (o : List Int) : sumOf k (of j o) = 0 := by
  induction o with
  | nil => rfl
  | cons x o ih =>
    have : sumOf k (of j o) = 0 := ih
    simp only [of, List.map_cons, sumOf] at *
    rw [if_neg h, this]
    rfl
theorem sumOf_take (k : Nat) (l : List (Int × Int)) (i : Nat) (h : i < l.length) : sumOf k (l.take (i + 1)) = sumOf k (l.take i) + (if l[i].1 = 2 + (k : Int) then l[i].2 else 0) := by
  rw [List.take_succ_eq_append_getElem h, sumOf_append]
  simp [sumOf]
theorem sumOf_bound (k : Nat) (l : List (Int × Int)) (h : ∀ x ∈ l, 1 ≤ x.2 ∧ x.2 ≤ 65536) : 0 ≤ sumOf k l ∧ sumOf k l ≤ 65536 * l.length := by
  induction l with
  | nil => simp [sumOf]
  | cons x l ih =>
    have h1 := ih (fun y hy => h y (List.mem_cons_of_mem _ hy))
    have h2 := h x List.mem_cons_self
    simp only [sumOf, List.length_cons]
    split <;> omega

theorem turnL_eq (l : List Int) : ∀ c, (turnL c l).2.1 ≠ [] → (turnL c l).1 + (turnL c l).2.2.sum = c ∧ ∃ x ∈ l, (turnL c l).1 < x := by
  induction l with
  | nil => intro c h; simp [turnL] at h
  | cons x xs ih =>
    intro c h
    simp only [turnL] at *
    split at h
    · rename_i hc
      simp only [if_pos hc] at *
      obtain ⟨h1, y, hy, h2⟩ := ih _ h
      exact ⟨by rw [List.sum_cons]; omega, y, List.mem_cons_of_mem _ hy, h2⟩
    · rename_i hc
      simp only [if_neg hc] at *
      exact ⟨by simp, x, List.mem_cons_self, by omega⟩
theorem turnL_le (l : List Int) : ∀ c, 0 ≤ c → (turnL c l).2.2.sum ≤ c := by
  induction l with
  | nil => intro c h; simpa [turnL] using h
  | cons x xs ih =>
    intro c h
    simp only [turnL]
    split
    · have := ih (c - x) (by omega)
      simp only [List.sum_cons]
      omega
    · simpa using h
theorem sum_nonneg (l : List Int) (h : ∀ x ∈ l, 1 ≤ x) : 0 ≤ l.sum := by
  induction l with
  | nil => simp
  | cons x xs ih =>
    have h1 := h x List.mem_cons_self
    have h2 := ih (fun y hy => h y (List.mem_cons_of_mem _ hy))
    rw [List.sum_cons]
    omega

/-- What holds behind n turns: sm is what was sent of each of the two. -/
structure FI (S : Sh) (Q : Int) (w sm : Nat → Int) (n : Nat) : Prop where
  q : S.q = Q
  qb : 1 ≤ Q ∧ Q ≤ 2000
  wb : ∀ k, k < 2 → 1 ≤ w k ∧ w k ≤ 16
  wt : ∀ k, k < 2 → S.wt (2 + k) = w k
  oth : ∀ p, p < 16 → p ≠ 2 → p ≠ 3 → S.l p = []
  sz : ∀ k, k < 2 → ∀ x ∈ S.l (2 + k), 1 ≤ x ∧ x ≤ 5000
  eq : ∀ k, k < 2 → S.l (2 + k) ≠ [] → sm k + S.cr (2 + k) = n * w k * Q ∧ 0 ≤ S.cr (2 + k) ∧ S.cr (2 + k) < 5000
  sb : ∀ k, k < 2 → 0 ≤ sm k ∧ sm k ≤ 1000000

theorem afterP_l_same (S : Sh) (p : Nat) : (afterP S p).l p = (turnP S p).2.1 := up_same _ _ _
theorem afterP_cr_same (S : Sh) (p : Nat) : (afterP S p).cr p = (turnP S p).1 := up_same _ _ _
theorem afterP_l_other (S : Sh) {p i : Nat} (h : i ≠ p) : (afterP S p).l i = S.l i := up_other _ _ h
theorem afterP_cr_other (S : Sh) {p i : Nat} (h : i ≠ p) : (afterP S p).cr i = S.cr i := up_other _ _ h
theorem turnP_after (S : Sh) {p i : Nat} (h : i ≠ p) : turnP (afterP S p) i = turnP S i := by
  unfold turnP
  rw [afterP_l_other S h, afterP_cr_other S h]
  rfl
theorem two_of (S : Sh) (ho : ∀ p, p < 16 → p ≠ 2 → p ≠ 3 → S.l p = []) (h2 : S.l 2 ≠ []) (h3 : S.l 3 ≠ []) :
    turnTo S 16 = (afterP (afterP S 2) 3, of 2 (turnP S 2).2.2 ++ of 3 (turnP S 3).2.2, true) := by
  have e0 : turnTo S 0 = (S, [], false) := rfl
  have e1 : turnTo S 1 = (S, [], false) := by
    rw [turnTo_none (by rw [e0]; exact ho 0 (by omega) (by omega) (by omega)), e0]
  have e2 : turnTo S 2 = (S, [], false) := by
    rw [turnTo_none (by rw [e1]; exact ho 1 (by omega) (by omega) (by omega)), e1]
  have e3 : turnTo S 3 = (afterP S 2, of 2 (turnP S 2).2.2, true) := by
    rw [turnTo_some (by rw [e2]; simpa using h2), e2]
    simp
  have hs3 : (afterP S 2).l 3 = S.l 3 := afterP_l_other S (by omega)
  have hp3 : turnP (afterP S 2) 3 = turnP S 3 := turnP_after S (by omega)
  have e4 : turnTo S 4 = (afterP (afterP S 2) 3, of 2 (turnP S 2).2.2 ++ of 3 (turnP S 3).2.2, true) := by
    rw [turnTo_some (by rw [e3]; simpa [hs3] using h3), e3]
    simp only [hp3]
    rfl
  have hl : ∀ p, p < 16 → p ≠ 2 → p ≠ 3 → (afterP (afterP S 2) 3).l p = [] := fun p h1 h2 h3 => by
    rw [afterP_l_other _ h3, afterP_l_other _ h2]
    exact ho p h1 h2 h3
  have en : ∀ i, i ≤ 12 → turnTo S (4 + i) = (afterP (afterP S 2) 3, of 2 (turnP S 2).2.2 ++ of 3 (turnP S 3).2.2, true) := by
    intro i
    induction i with
    | zero => intro _; exact e4
    | succ i ih =>
      intro hi
      have h := ih (by omega)
      rw [← Nat.add_assoc, turnTo_none (by rw [h]; exact hl _ (by omega) (by omega) (by omega)), h]
  exact en 12 (Nat.le_refl _)

theorem fair_turn {S : Sh} {Q : Int} {w sm : Nat → Int} {n : Nat} (hf : Fit S) (h : FI S Q w sm n) (hn : n ≤ 29) (h2 : S.l 2 ≠ []) (h3 : S.l 3 ≠ []) :
    (turnTo S 16).2.2 = true ∧ (∀ x ∈ (turnTo S 16).2.1, (x.1 = 2 ∨ x.1 = 3) ∧ 1 ≤ x.2 ∧ x.2 ≤ 65536) ∧ FI (turnTo S 16).1 Q w (fun k => sm k + sumOf k (turnTo S 16).2.1) (n + 1) := by
  rw [two_of S h.oth h2 h3]
  have fits : ∀ k, k < 2 → 0 ≤ (turnP S (2 + k)).1 ∧ S.l (2 + k) = (turnP S (2 + k)).2.2 ++ (turnP S (2 + k)).2.1 := fun k hk => by
    have := turnP_fit hf (p := 2 + k) (by omega)
    exact ⟨this.1.1, this.2.2⟩
  have hne : ∀ k, k < 2 → S.l (2 + k) ≠ [] := fun k hk => by
    rcases (by omega : k = 0 ∨ k = 1) with rfl | rfl
    · exact h2
    · exact h3
  have hc : ∀ k, k < 2 → mn (S.cr (2 + k) + S.wt (2 + k) * S.q) 16777216 = S.cr (2 + k) + w k * Q ∧ 0 ≤ S.cr (2 + k) + w k * Q ∧ w k * Q ≤ 32000 ∧ 0 ≤ w k * Q := fun k hk => by
    have hw := h.wb k hk
    have hq := h.qb
    have he := h.eq k hk (hne k hk)
    have h5 : w k * Q ≤ 16 * 2000 := Int.mul_le_mul hw.2 hq.2 (by omega) (by omega)
    have h6 : 0 ≤ w k * Q := Int.mul_nonneg (by omega) (by omega)
    rw [h.wt k hk, h.q]
    refine ⟨?_, by omega, by omega, h6⟩
    unfold mn
    split <;> omega
  have mem : ∀ k, k < 2 → ∀ x ∈ (turnP S (2 + k)).2.2, 1 ≤ x ∧ x ≤ 5000 := fun k hk x hx => h.sz k hk x (by rw [(fits k hk).2]; exact List.mem_append_left _ hx)
  have hsum : ∀ k, k < 2 → sumOf k (of 2 (turnP S 2).2.2 ++ of 3 (turnP S 3).2.2) = (turnP S (2 + k)).2.2.sum := fun k hk => by
    rw [sumOf_append]
    rcases (by omega : k = 0 ∨ k = 1) with rfl | rfl
    · rw [show of 2 (turnP S 2).2.2 = of (2 + ((0 : Nat) : Int)) (turnP S 2).2.2 from rfl, sumOf_same, sumOf_other 0 (by decide), Int.add_zero]
    · rw [show of 3 (turnP S 3).2.2 = of (2 + ((1 : Nat) : Int)) (turnP S 3).2.2 from rfl, sumOf_same, sumOf_other 1 (by decide), Int.zero_add]
  have hl' : ∀ k, k < 2 → (afterP (afterP S 2) 3).l (2 + k) = (turnP S (2 + k)).2.1 ∧ (afterP (afterP S 2) 3).cr (2 + k) = (turnP S (2 + k)).1 := fun k hk => by
    have hp3 : turnP (afterP S 2) 3 = turnP S 3 := turnP_after S (by omega)
    rcases (by omega : k = 0 ∨ k = 1) with rfl | rfl
    · exact ⟨(afterP_l_other _ (by omega)).trans (afterP_l_same S 2), (afterP_cr_other _ (by omega)).trans (afterP_cr_same S 2)⟩
    · exact ⟨(afterP_l_same _ 3).trans (by rw [hp3]), (afterP_cr_same _ 3).trans (by rw [hp3])⟩
  refine ⟨rfl, ?_, ⟨h.q, h.qb, h.wb, h.wt, ?_, ?_, ?_, ?_⟩⟩
  · intro x hx
    rw [List.mem_append] at hx
    rcases hx with hx | hx
    · obtain ⟨y, hy, rfl⟩ := List.mem_map.1 hx
      have := mem 0 (by omega) y hy
      exact ⟨.inl rfl, this.1, by show y ≤ 65536; omega⟩
    · obtain ⟨y, hy, rfl⟩ := List.mem_map.1 hx
      have := mem 1 (by omega) y hy
      exact ⟨.inr rfl, this.1, by show y ≤ 65536; omega⟩
  · intro p h1 h2 h3
    rw [afterP_l_other _ h3, afterP_l_other _ h2]
    exact h.oth p h1 h2 h3
  · intro k hk x hx
    rw [(hl' k hk).1] at hx
    exact h.sz k hk x (by rw [(fits k hk).2]; exact List.mem_append_right _ hx)
  · intro k hk hx
    rw [(hl' k hk).1] at hx
    rw [(hl' k hk).2]
    show sm k + sumOf k (of 2 (turnP S 2).2.2 ++ of 3 (turnP S 3).2.2) + _ = _ ∧ _
    rw [hsum k hk]
    obtain ⟨e1, y, hy, e2⟩ := turnL_eq (S.l (2 + k)) _ (show (turnL (mn (S.cr (2 + k) + S.wt (2 + k) * S.q) 16777216) (S.l (2 + k))).2.1 ≠ [] from hx)
    have e3 : (turnP S (2 + k)).1 + (turnP S (2 + k)).2.2.sum = mn (S.cr (2 + k) + S.wt (2 + k) * S.q) 16777216 := e1
    have e4 : (turnP S (2 + k)).1 < y := e2
    have e5 := h.sz k hk y hy
    have e6 := h.eq k hk (hne k hk)
    rw [(hc k hk).1] at e3
    have e7 : ((n + 1 : Nat) : Int) * w k * Q = n * w k * Q + w k * Q := by
      rw [Int.natCast_add, Int.add_mul, Int.add_mul]
      simp
    exact ⟨by rw [e7]; omega, (fits k hk).1, by omega⟩
  · intro k hk
    show 0 ≤ sm k + sumOf k (of 2 (turnP S 2).2.2 ++ of 3 (turnP S 3).2.2) ∧ sm k + sumOf k (of 2 (turnP S 2).2.2 ++ of 3 (turnP S 3).2.2) ≤ _
    rw [hsum k hk]
    have e6 := h.eq k hk (hne k hk)
    have e8 := h.sb k hk
    have e9 := sum_nonneg (turnP S (2 + k)).2.2 (fun x hx => (mem k hk x hx).1)
    have e10 : (turnP S (2 + k)).2.2.sum ≤ mn (S.cr (2 + k) + S.wt (2 + k) * S.q) 16777216 := turnL_le _ _ (by rw [(hc k hk).1]; exact (hc k hk).2.1)
    rw [(hc k hk).1] at e10
    have e11 : (n : Int) * w k * Q ≤ 29 * 32000 := by
      rw [Int.mul_assoc]
      exact Int.mul_le_mul (by omega) (hc k hk).2.2.1 (hc k hk).2.2.2 (by omega)
    have := (hc k hk).2.2.1
    omega
end Go.Proofs.Ytigcgdamipeidaa.Shr
