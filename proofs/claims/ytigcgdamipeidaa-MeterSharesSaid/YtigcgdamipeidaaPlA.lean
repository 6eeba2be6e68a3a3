/- All that waits is sent: the law MeterAll in plain numbers. -/
import Derived.Test.YtigcgdamipeidaaPlF
namespace Go.Proofs.Ytigcgdamipeidaa.Shr
open Go.RowKit Go.Proofs.YtigcgdamipeidaaW.PrintWords Go.Proofs.YtigcgdamipeidaaW.PrintLast Go.Proofs.YtigcgdamipeidaaW.PrintMore Go.Proofs.Ytigcgdamipeidaa

/-- What was sent of one peer. -/
def rowsOf (p : Nat) : List (Int × Int) → List Int
  | [] => []
  | x :: l => if x.1 = (p : Int) then x.2 :: rowsOf p l else rowsOf p l
theorem rowsOf_append (p : Nat) (l m : List (Int × Int)) : rowsOf p (l ++ m) = rowsOf p l ++ rowsOf p m := by
  induction l with
  | nil => rfl
  | cons x l ih =>
    simp only [List.cons_append, rowsOf, ih]
    split <;> rfl
theorem rowsOf_same (p : Nat) (o : List Int) : rowsOf p (of (p : Int) o) = o := by
  induction o with
  | nil => rfl
  | cons x o ih =>
    have : rowsOf p (of (p : Int) o) = o := ih
    simp only [of, List.map_cons, rowsOf, if_true] at *
    rw [this]
theorem rowsOf_other (p : Nat) {j : Int} (h : j ≠ (p : Int)) (o : List Int) : rowsOf p (of j o) = [] := by
  induction o with
  | nil => rfl
  | cons x o ih =>
    have : rowsOf p (of j o) = [] := ih
    simp only [of, List.map_cons, rowsOf] at *
    rw [if_neg h, this]
/-- What a slot's turn makes of each peer. -/
theorem turnTo_at (S : Sh) : ∀ i, i ≤ 16 → ∀ p, (turnTo S i).1.l p = (if p < i ∧ S.l p ≠ [] then (turnP S p).2.1 else S.l p) ∧ (turnTo S i).1.cr p = (if p < i ∧ S.l p ≠ [] then (turnP S p).1 else S.cr p) ∧ (turnTo S i).1.wt p = S.wt p ∧ (turnTo S i).1.q = S.q := by
  intro i
  induction i with
  | zero => intro _ p; exact ⟨by rw [if_neg (by omega)]; rfl, by rw [if_neg (by omega)]; rfl, rfl, rfl⟩
  | succ i ih =>
    intro hi p
    have h := ih (by omega)
    have hl : (turnTo S i).1.l i = S.l i := by rw [(h i).1, if_neg (by omega)]
    have hc : (turnTo S i).1.cr i = S.cr i := by rw [(h i).2.1, if_neg (by omega)]
    by_cases he : S.l i = []
    · rw [turnTo_none (by rw [hl]; exact he)]
      obtain ⟨h1, h2, h3, h4⟩ := h p
      by_cases hp : p = i
      · subst hp
        rw [if_neg (fun hc => hc.2 he), if_neg (fun hc => hc.2 he)]
        exact ⟨hl, hc, h3, h4⟩
      · refine ⟨?_, ?_, h3, h4⟩
        · rw [h1]
          by_cases hq : p < i ∧ S.l p ≠ []
          · rw [if_pos hq, if_pos ⟨by omega, hq.2⟩]
          · rw [if_neg hq, if_neg (fun hc => hq ⟨by omega, hc.2⟩)]
        · rw [h2]
          by_cases hq : p < i ∧ S.l p ≠ []
          · rw [if_pos hq, if_pos ⟨by omega, hq.2⟩]
          · rw [if_neg hq, if_neg (fun hc => hq ⟨by omega, hc.2⟩)]
    · rw [turnTo_some (by rw [hl]; simpa using he)]
      have hP : turnP (turnTo S i).1 i = turnP S i := by
        unfold turnP
        rw [hl, hc, (h i).2.2.1, (h i).2.2.2]
      obtain ⟨h1, h2, h3, h4⟩ := h p
      by_cases hp : p = i
      · subst hp
        refine ⟨?_, ?_, h3, h4⟩
        · show (afterP (turnTo S p).1 p).l p = _
          rw [afterP_l_same, hP, if_pos ⟨by omega, he⟩]
        · show (afterP (turnTo S p).1 p).cr p = _
          rw [afterP_cr_same, hP, if_pos ⟨by omega, he⟩]
      · refine ⟨?_, ?_, h3, h4⟩
        · show (afterP (turnTo S i).1 i).l p = _
          rw [afterP_l_other _ hp, h1]
          by_cases hq : p < i ∧ S.l p ≠ []
          · rw [if_pos hq, if_pos ⟨by omega, hq.2⟩]
          · rw [if_neg hq, if_neg (fun hc => hq ⟨by omega, hc.2⟩)]
        · show (afterP (turnTo S i).1 i).cr p = _
          rw [afterP_cr_other _ hp, h2]
          by_cases hq : p < i ∧ S.l p ≠ []
          · rw [if_pos hq, if_pos ⟨by omega, hq.2⟩]
          · rw [if_neg hq, if_neg (fun hc => hq ⟨by omega, hc.2⟩)]
theorem turnTo_sent {S : Sh} (hf : Fit S) : ∀ i, i ≤ 16 → (∀ p, p < 16 → S.l p = rowsOf p (turnTo S i).2.1 ++ (turnTo S i).1.l p) ∧ (∀ x ∈ (turnTo S i).2.1, ∃ p : Nat, p < i ∧ x.1 = (p : Int)) ∧
    ((turnTo S i).2.2 = false → (∀ p, p < i → S.l p = []) ∧ turnTo S i = (S, [], false)) := by
  intro i
  induction i with
  | zero => intro _; exact ⟨fun p _ => rfl, fun x hx => by simp [turnTo] at hx, fun _ => ⟨fun p hp => by omega, rfl⟩⟩
  | succ i ih =>
    intro hi
    obtain ⟨h1, h2, h3⟩ := ih (by omega)
    have hl : (turnTo S i).1.l i = S.l i := by rw [(turnTo_at S i (by omega) i).1, if_neg (by omega)]
    by_cases he : S.l i = []
    · rw [turnTo_none (by rw [hl]; exact he)]
      refine ⟨h1, fun x hx => ?_, fun hb => ⟨fun p hp => ?_, (h3 hb).2⟩⟩
      · obtain ⟨p, hp, hx⟩ := h2 x hx
        exact ⟨p, by omega, hx⟩
      · by_cases hpi : p = i
        · subst hpi
          exact he
        · exact (h3 hb).1 p (by omega)
    · rw [turnTo_some (by rw [hl]; simpa using he)]
      refine ⟨fun p hp => ?_, fun x hx => ?_, fun hb => by simp at hb⟩
      · show S.l p = rowsOf p ((turnTo S i).2.1 ++ of i (turnP (turnTo S i).1 i).2.2) ++ (afterP (turnTo S i).1 i).l p
        rw [rowsOf_append]
        by_cases hpi : p = i
        · subst hpi
          rw [rowsOf_same, afterP_l_same, List.append_assoc, ← (turnP_fit (turnTo_fit hf p (by omega)) hp).2.2]
          exact h1 p hp
        · rw [rowsOf_other p (by omega), afterP_l_other _ hpi, List.append_nil]
          exact h1 p hp
      · have hx' : x ∈ (turnTo S i).2.1 ++ of i (turnP (turnTo S i).1 i).2.2 := hx
        rw [List.mem_append] at hx'
        rcases hx' with hx' | hx'
        · obtain ⟨p, hp, hx⟩ := h2 x hx'
          exact ⟨p, by omega, hx⟩
        · obtain ⟨y, _, rfl⟩ := List.mem_map.1 hx'
          exact ⟨i, by omega, rfl⟩

/-- What holds behind n turns; T is what waited of each at first. -/
structure AI (S : Sh) (T : Nat → Int) (n : Nat) : Prop where
  w : ∀ p, 1 ≤ p → p < 16 → 1 ≤ S.wt p ∧ S.wt p ≤ 3
  z : S.l 0 = []
  ne : ∀ p, p < 16 → S.l p ≠ [] → (0 ≤ S.cr p ∧ S.cr p < 65536) ∧ (n : Int) + (S.l p).sum ≤ T p + S.cr p
  em : ∀ p, p < 16 → S.l p = [] → S.cr p = 0
  t : ∀ p, p < 16 → T p ≤ 3932160
theorem all_turn {S : Sh} {T : Nat → Int} {n : Nat} (hf : Fit S) (h : AI S T n) : AI (turnTo S 16).1 T (n + 1) := by
  have ha := turnTo_at S 16 (Nat.le_refl _)
  refine ⟨fun p h1 h2 => by rw [(ha p).2.2.1]; exact h.w p h1 h2, by rw [(ha 0).1, if_neg (fun hc => hc.2 h.z)]; exact h.z, fun p hp hne => ?_, fun p hp he => ?_, h.t⟩
  · have hs : S.l p ≠ [] := by
      intro hs
      rw [(ha p).1, if_neg (fun hc => hc.2 hs)] at hne
      exact hne hs
    have hp1 : 1 ≤ p := by
      rcases Nat.eq_zero_or_pos p with rfl | hp1
      · exact absurd h.z hs
      · exact hp1
    have hw := h.w p hp1 hp
    have hq := hf.q
    obtain ⟨hc, hn⟩ := h.ne p hp hs
    have m1 : 1 ≤ S.wt p * S.q := by
      have := Int.mul_le_mul hw.1 hq.1 (by omega) (by omega)
      omega
    have m2 : S.wt p * S.q ≤ 3 * 65536 := Int.mul_le_mul hw.2 hq.2 (by omega) (by omega)
    have em : mn (S.cr p + S.wt p * S.q) 16777216 = S.cr p + S.wt p * S.q := by
      unfold mn
      split <;> omega
    rw [(ha p).1, if_pos ⟨hp, hs⟩] at hne ⊢
    rw [(ha p).2.1, if_pos ⟨hp, hs⟩]
    obtain ⟨e1, y, hy, e2⟩ := turnL_eq (S.l p) _ (show (turnL (mn (S.cr p + S.wt p * S.q) 16777216) (S.l p)).2.1 ≠ [] from hne)
    have e3 : (turnP S p).1 + (turnP S p).2.2.sum = S.cr p + S.wt p * S.q := em ▸ e1
    have e4 : (turnP S p).1 < y := e2
    have e5 := hf.size p hp y hy
    have e6 := turnP_fit hf hp
    have e7 : (S.l p).sum = (turnP S p).2.2.sum + (turnP S p).2.1.sum := by
      have := congrArg List.sum e6.2.2
      rw [List.sum_append] at this
      exact this
    exact ⟨⟨e6.1.1, by omega⟩, by push_cast; omega⟩
  · by_cases hs : S.l p = []
    · rw [(ha p).2.1, if_neg (fun hc => hc.2 hs)]
      exact h.em p hp hs
    · rw [(ha p).1, if_pos ⟨hp, hs⟩] at he
      rw [(ha p).2.1, if_pos ⟨hp, hs⟩]
      have : ∀ (l : List Int) (c : Int), (turnL c l).2.1 = [] → (turnL c l).1 = 0 := by
        intro l
        induction l with
        | nil => intro c _; rfl
        | cons x xs ih =>
          intro c h
          simp only [turnL] at h ⊢
          split at h
          · rename_i hc
            rw [if_pos hc]
            exact ih _ h
          · simp at h
      exact this _ _ he
theorem all_done {S : Sh} {T : Nat → Int} {n : Nat} (hf : Fit S) (h : AI S T n) (hn : 4200000 ≤ n) : ∀ p, p < 16 → S.l p = [] := by
  intro p hp
  by_cases hs : S.l p = []
  · exact hs
  · exfalso
    obtain ⟨hc, hk⟩ := h.ne p hp hs
    have ht := h.t p hp
    have hsum := sum_nonneg (S.l p) (fun x hx => (hf.size p hp x hx).1)
    omega
/-- What still is to be taken out of the list of what is wanted, behind i of what was sent. -/
def leftL (S' : Sh) (L : List (Int × Int)) (i p : Nat) : List Int := rowsOf p (L.drop i) ++ S'.l p
theorem left_head {S' : Sh} {L : List (Int × Int)} {i p : Nat} {z : Int} (h : L[i]? = some ((p : Int), z)) : leftL S' L i p = z :: leftL S' L (i + 1) p := by
  obtain ⟨hi, he⟩ := List.getElem?_eq_some_iff.1 h
  unfold leftL
  rw [List.drop_eq_getElem_cons hi, he]
  simp [rowsOf]
theorem left_other {S' : Sh} {L : List (Int × Int)} {i p j : Nat} {z : Int} (h : L[i]? = some ((p : Int), z)) (hj : j ≠ p) : leftL S' L (i + 1) j = leftL S' L i j := by
  obtain ⟨hi, he⟩ := List.getElem?_eq_some_iff.1 h
  unfold leftL
  rw [List.drop_eq_getElem_cons hi, he]
  simp only [rowsOf]
  rw [if_neg (by omega)]
theorem left_up {S' : Sh} {L : List (Int × Int)} {i p : Nat} {z : Int} (h : L[i]? = some ((p : Int), z)) : up (leftL S' L i) p (leftL S' L (i + 1) p) = leftL S' L (i + 1) := by
  funext j
  by_cases hj : j = p
  · subst hj
    rw [up_same]
  · rw [up_other _ _ hj, left_other h hj]
end Go.Proofs.Ytigcgdamipeidaa.Shr
