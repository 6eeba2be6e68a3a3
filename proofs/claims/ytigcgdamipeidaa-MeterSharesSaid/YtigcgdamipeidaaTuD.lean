/- The reference share and the share, in plain lists: the same answers. -/
import Derived.Test.YtigcgdamipeidaaTuA
import Derived.Test.YtigcgdamipeidaaPlA
namespace Go.Proofs.Ytigcgdamipeidaa.Rf
open Go.RowKit Go.Proofs.YtigcgdamipeidaaW.PrintWords Go.Proofs.Ytigcgdamipeidaa Go.Proofs.Ytigcgdamipeidaa.Q Go.Proofs.Ytigcgdamipeidaa.Shr

set_option linter.unusedVariables false
theorem getQ_true {q : S45} {p : Int} (h : p ≠ q.f0) : ∀ l, getQ (withP q true l) p = getQ l p := by
  intro l
  induction l with
  | nil => rfl
  | cons x l ih =>
    simp only [withP]
    by_cases hx : x.f0 = q.f0
    · rw [if_pos hx, ih]
      simp only [getQ]
      rw [if_neg (by omega)]
    · rw [if_neg hx]
      simp only [getQ, ih]
theorem getQ_with (q : S45) (p : Int) : ∀ l, getQ (withP q false l) p = if p = q.f0 then q else getQ l p := by
  intro l
  induction l with
  | nil =>
    simp only [withP, Bool.false_eq_true, if_false, getQ]
    by_cases h : p = q.f0
    · rw [if_pos h.symm, if_pos h]
    · rw [if_neg (fun e => h e.symm), if_neg h]
  | cons x l ih =>
    simp only [withP]
    by_cases hle : q.f0 ≤ x.f0
    · rw [if_pos hle]
      simp only [getQ]
      by_cases h : p = q.f0
      · rw [if_pos h.symm, if_pos h]
      · rw [if_neg (fun e => h e.symm), if_neg h]
        by_cases hx : x.f0 = q.f0
        · rw [if_pos hx, getQ_true h, if_neg (by omega)]
        · rw [if_neg hx]
          simp only [getQ, getQ_true h]
    · rw [if_neg hle]
      simp only [getQ, ih]
      by_cases hx : x.f0 = p
      · rw [if_pos hx, if_pos hx, if_neg (by omega)]
      · rw [if_neg hx, if_neg hx]
theorem with_mem_true {q y : S45} : ∀ l, y ∈ withP q true l → y ∈ l ∧ y.f0 ≠ q.f0 := by
  intro l
  induction l with
  | nil => intro h; simp [withP] at h
  | cons x l ih =>
    simp only [withP]
    by_cases hx : x.f0 = q.f0
    · rw [if_pos hx]
      intro h
      exact ⟨List.mem_cons_of_mem _ (ih h).1, (ih h).2⟩
    · rw [if_neg hx]
      intro h
      rcases List.mem_cons.1 h with rfl | h
      · exact ⟨List.mem_cons_self, hx⟩
      · exact ⟨List.mem_cons_of_mem _ (ih h).1, (ih h).2⟩
theorem with_mem {q y : S45} : ∀ l, y ∈ withP q false l → y = q ∨ y ∈ l := by
  intro l
  induction l with
  | nil => intro h; left; simpa [withP] using h
  | cons x l ih =>
    simp only [withP]
    by_cases hle : q.f0 ≤ x.f0
    · rw [if_pos hle]
      intro h
      rcases List.mem_cons.1 h with h | h
      · exact .inl h
      · by_cases hx : x.f0 = q.f0
        · rw [if_pos hx] at h
          exact .inr (List.mem_cons_of_mem _ (with_mem_true l h).1)
        · rw [if_neg hx] at h
          rcases List.mem_cons.1 h with rfl | h
          · exact .inr List.mem_cons_self
          · exact .inr (List.mem_cons_of_mem _ (with_mem_true l h).1)
    · rw [if_neg hle]
      intro h
      rcases List.mem_cons.1 h with rfl | h
      · exact .inr List.mem_cons_self
      · rcases ih h with h | h
        · exact .inl h
        · exact .inr (List.mem_cons_of_mem _ h)
/-- Sorted by peer. -/
abbrev Up (l : List S45) : Prop := l.Pairwise fun x y => x.f0 < y.f0
theorem up_true {q : S45} : ∀ {l : List S45}, Up l → Up (withP q true l) := by
  intro l
  induction l with
  | nil => intro _; exact List.Pairwise.nil
  | cons x l ih =>
    intro h
    obtain ⟨h1, h2⟩ := List.pairwise_cons.1 h
    simp only [withP]
    split
    · exact ih h2
    · exact List.pairwise_cons.2 ⟨fun y hy => h1 y (with_mem_true l hy).1, ih h2⟩
theorem up_with {q : S45} : ∀ {l : List S45}, Up l → Up (withP q false l) := by
  intro l
  induction l with
  | nil => intro _; simp [withP]
  | cons x l ih =>
    intro h
    obtain ⟨h1, h2⟩ := List.pairwise_cons.1 h
    simp only [withP]
    by_cases hle : q.f0 ≤ x.f0
    · rw [if_pos hle]
      by_cases hx : x.f0 = q.f0
      · rw [if_pos hx]
        exact List.pairwise_cons.2 ⟨fun y hy => by have := h1 y (with_mem_true l hy).1; omega, up_true h2⟩
      · rw [if_neg hx]
        refine List.pairwise_cons.2 ⟨fun y hy => ?_, List.pairwise_cons.2 ⟨fun y hy => h1 y (with_mem_true l hy).1, up_true h2⟩⟩
        rcases List.mem_cons.1 hy with rfl | hy
        · omega
        · have := h1 y (with_mem_true l hy).1
          omega
    · rw [if_neg hle]
      refine List.pairwise_cons.2 ⟨fun y hy => ?_, ih h2⟩
      rcases with_mem l hy with rfl | hy
      · omega
      · exact h1 y hy
theorem getQ_mem : ∀ {l : List S45}, Up l → ∀ {x : S45}, x ∈ l → getQ l x.f0 = x := by
  intro l
  induction l with
  | nil => intro _ x h; cases h
  | cons y l ih =>
    intro h x hx
    obtain ⟨h1, h2⟩ := List.pairwise_cons.1 h
    simp only [getQ]
    rcases List.mem_cons.1 hx with rfl | hx
    · rw [if_pos rfl]
    · rw [if_neg (by have := h1 x hx; omega), ih h2 hx]
theorem getQ_none {p : Int} : ∀ {l : List S45}, (∀ x ∈ l, x.f0 ≠ p) → getQ l p = ⟨p, 0, 0, []⟩ := by
  intro l
  induction l with
  | nil => intro _; rfl
  | cons y l ih =>
    intro h
    simp only [getQ]
    rw [if_neg (h y List.mem_cons_self), ih (fun x hx => h x (List.mem_cons_of_mem _ hx))]
theorem up_len : ∀ {l : List S45} (a : Int), Up l → a ≤ 16 → (∀ x ∈ l, a ≤ x.f0 ∧ x.f0 ≤ 15) → (l.length : Int) ≤ 16 - a := by
  intro l
  induction l with
  | nil => intro a _ ha _; simp only [List.length_nil]; omega
  | cons y l ih =>
    intro a h ha hb
    obtain ⟨h1, h2⟩ := List.pairwise_cons.1 h
    have hy := hb y List.mem_cons_self
    have := ih (y.f0 + 1) h2 (by omega) (fun x hx => ⟨by have := h1 x hx; omega, (hb x (List.mem_cons_of_mem _ hx)).2⟩)
    simp only [List.length_cons]
    omega
/-- What a share's peer says, as the reference keeps it. -/
def asQ (S : Sh) (p : Nat) : S45 := ⟨(p : Int), S.wt p, S.cr p, S.l p⟩
/-- The list tells the share. -/
structure RS (l : List S45) (S : Sh) : Prop where
  up : Up l
  inn : ∀ x ∈ l, 1 ≤ x.f0 ∧ x.f0 ≤ 15
  get : ∀ p : Nat, 1 ≤ p → p ≤ 15 → getQ l (p : Int) = asQ S p
  zero : S.l 0 = []
theorem rs_start (q : Int) : RS [] (S0 q) := ⟨List.Pairwise.nil, fun x hx => absurd hx List.not_mem_nil, fun p _ _ => rfl, rfl⟩
theorem RS.put {l : List S45} {S S' : Sh} (h : RS l S) {p0 : Nat} (h1 : 1 ≤ p0) (h2 : p0 ≤ 15) (hs : ∀ p, p ≠ p0 → S'.wt p = S.wt p ∧ S'.cr p = S.cr p ∧ S'.l p = S.l p) : RS (withP (asQ S' p0) false l) S' := by
  refine ⟨up_with h.up, fun x hx => ?_, fun p hp1 hp2 => ?_, ?_⟩
  · rcases with_mem l hx with rfl | hx
    · show 1 ≤ (p0 : Int) ∧ (p0 : Int) ≤ 15
      omega
    · exact h.inn x hx
  · rw [getQ_with]
    by_cases e : p = p0
    · subst e
      exact if_pos rfl
    · rw [if_neg (by show ¬ (p : Int) = (p0 : Int); omega), h.get p hp1 hp2]
      unfold asQ
      rw [(hs p e).1, (hs p e).2.1, (hs p e).2.2]
  · rw [(hs 0 (by omega)).2.2, h.zero]
theorem RS.len {l : List S45} {S : Sh} (h : RS l S) : l.length ≤ 15 := by
  have := up_len 1 h.up (by omega) h.inn
  omega
theorem RS.el {l : List S45} {S : Sh} (h : RS l S) {x : S45} (hx : x ∈ l) : ∃ p : Nat, 1 ≤ p ∧ p ≤ 15 ∧ x.f0 = (p : Int) ∧ x = asQ S p := by
  have hb := h.inn x hx
  refine ⟨x.f0.toNat, by omega, by omega, by omega, ?_⟩
  rw [← h.get x.f0.toNat (by omega) (by omega), show ((x.f0.toNat : Nat) : Int) = x.f0 by omega, getQ_mem h.up hx]
theorem RS.fit {l : List S45} {S : Sh} (h : RS l S) (hf : Fit S) : RFit S.q l := by
  refine ⟨hf.q, h.len, fun x hx => ?_⟩
  obtain ⟨p, h1, h2, _, rfl⟩ := h.el hx
  exact ⟨hf.wt p (by omega), hf.cr p (by omega), hf.long p (by omega), hf.size p (by omega)⟩
theorem rTo_fold (Q : Int) (l : List S45) : ∀ i, i ≤ l.length → rTo Q l i = (l.take i).foldl (rStep Q) (l, [], false) := by
  intro i
  induction i with
  | zero => intro _; rfl
  | succ i ih =>
    intro hi
    rw [rTo_next (List.getElem?_eq_getElem hi), ih (by omega), List.take_succ_eq_append_getElem hi, List.foldl_append]
    rfl
theorem fold_turn {S : Sh} : ∀ (m j : Nat) (rest : List S45) (t : List S45 × List (Int × Int) × Bool), j + m = 16 → 1 ≤ j → Up rest → (∀ x ∈ rest, (j : Int) ≤ x.f0 ∧ x.f0 ≤ 15) →
    (∀ p : Nat, j ≤ p → p ≤ 15 → getQ rest (p : Int) = asQ S p) → RS t.1 (turnTo S j).1 → t.2.1 = (turnTo S j).2.1 → t.2.2 = (turnTo S j).2.2 →
    RS (rest.foldl (rStep S.q) t).1 (turnTo S 16).1 ∧ (rest.foldl (rStep S.q) t).2.1 = (turnTo S 16).2.1 ∧ (rest.foldl (rStep S.q) t).2.2 = (turnTo S 16).2.2 := by
  intro m
  induction m with
  | zero =>
    intro j rest t hj h1 hu hb hg hr hs ht
    obtain rfl : j = 16 := by omega
    cases rest with
    | nil => exact ⟨hr, hs, ht⟩
    | cons x rest => have := hb x List.mem_cons_self; omega
  | succ m ih =>
    intro j rest t hj h1 hu hb hg hr hs ht
    have hat := turnTo_at S j (by omega) j
    have hl : (turnTo S j).1.l j = S.l j := by rw [hat.1, if_neg (by omega)]
    have hc : (turnTo S j).1.cr j = S.cr j := by rw [hat.2.1, if_neg (by omega)]
    have hw := hat.2.2.1
    have hq := hat.2.2.2
    have hgj := hg j (Nat.le_refl _) (by omega)
    by_cases hx : ∃ x rest', rest = x :: rest' ∧ x.f0 = (j : Int)
    · obtain ⟨x, rest', rfl, hxj⟩ := hx
      obtain ⟨hu1, hu2⟩ := List.pairwise_cons.1 hu
      have hxe : x = asQ S j := by
        rw [← hgj]
        simp only [getQ]
        rw [if_pos hxj]
      have hb' : ∀ y ∈ rest', ((j + 1 : Nat) : Int) ≤ y.f0 ∧ y.f0 ≤ 15 := fun y hy => ⟨by have := hu1 y hy; omega, (hb y (List.mem_cons_of_mem _ hy)).2⟩
      have hg' : ∀ p : Nat, j + 1 ≤ p → p ≤ 15 → getQ rest' (p : Int) = asQ S p := by
        intro p hp1 hp2
        have := hg p (by omega) hp2
        simp only [getQ] at this
        rw [if_neg (by omega)] at this
        exact this
      rw [List.foldl_cons]
      by_cases he : S.l j = []
      · have e1 : rStep S.q t x = t := by
          unfold rStep
          rw [hxe]
          exact if_pos he
        rw [e1]
        have e2 := turnTo_none (S := S) (i := j) (by rw [hl, he])
        exact ih (j + 1) rest' t (by omega) (by omega) hu2 hb' hg' (by rw [e2]; exact hr) (by rw [e2]; exact hs) (by rw [e2]; exact ht)
      · have e2 := turnTo_some (S := S) (i := j) (by rw [hl]; exact fun e => he (List.eq_nil_of_length_eq_zero e))
        have e3 : turnP (turnTo S j).1 j = rT S.q x := by
          unfold turnP rT
          rw [hl, hc, hw, hq, hxe]
          rfl
        have e4 : rq S.q x = asQ (afterP (turnTo S j).1 j) j := by
          unfold rq asQ afterP
          rw [e3]
          simp only [up_same, hw]
          rw [hxe]
          rfl
        have e1 : rStep S.q t x = (withP (asQ (afterP (turnTo S j).1 j) j) false t.1, t.2.1 ++ of (j : Int) (rT S.q x).2.2, true) := by
          unfold rStep
          rw [if_neg (by rw [hxe]; exact he), e4, hxj]
        rw [e1]
        refine ih (j + 1) rest' _ (by omega) (by omega) hu2 hb' hg' ?_ ?_ ?_
        · rw [e2]
          exact hr.put h1 (by omega) (fun p hp => ⟨rfl, up_other _ _ hp, up_other _ _ hp⟩)
        · rw [e2, e3, ← hs]
        · rw [e2]
    · have hne : ∀ y ∈ rest, y.f0 ≠ (j : Int) := by
        intro y hy e
        cases rest with
        | nil => cases hy
        | cons z rest' =>
          rcases List.mem_cons.1 hy with rfl | hy'
          · exact hx ⟨_, _, rfl, e⟩
          · have h3 := (List.pairwise_cons.1 hu).1 y hy'
            have h4 := (hb z List.mem_cons_self).1
            omega
      rw [getQ_none hne] at hgj
      have he : S.l j = [] := (congrArg S45.f3 hgj).symm
      have e2 := turnTo_none (S := S) (i := j) (by rw [hl, he])
      exact ih (j + 1) rest t (by omega) (by omega) hu (fun y hy => ⟨by have := (hb y hy).1; have := hne y hy; omega, (hb y hy).2⟩) (fun p hp1 hp2 => hg p (by omega) hp2) (by rw [e2]; exact hr) (by rw [e2]; exact hs) (by rw [e2]; exact ht)
/-- The turn. -/
theorem rs_turn {l : List S45} {S : Sh} (h : RS l S) : RS (rTo S.q l l.length).1 (turnTo S 16).1 ∧ (rTo S.q l l.length).2.1 = (turnTo S 16).2.1 ∧ (rTo S.q l l.length).2.2 = (turnTo S 16).2.2 := by
  rw [rTo_fold S.q l l.length (Nat.le_refl _), List.take_length]
  have e0 : turnTo S 1 = (S, [], false) := by
    rw [turnTo_none (S := S) (i := 0) (by exact h.zero)]
    rfl
  exact fold_turn 15 1 l (l, [], false) rfl (Nat.le_refl _) h.up h.inn h.get (by rw [e0]; exact h) (by rw [e0]) (by rw [e0])
/-- Weigh. -/
def zeroS (S : Sh) (n : Int) : Sh := { S with wt := up S.wt n.toNat 0, cr := up S.cr n.toNat 0, l := up S.l n.toNat [] }
theorem RS.at {l : List S45} {S : Sh} (h : RS l S) {n : Int} (hn : 1 ≤ n ∧ n ≤ 15) : getQ l n = asQ S n.toNat := by
  rw [← h.get n.toNat (by omega) (by omega), show ((n.toNat : Nat) : Int) = n by omega]
theorem rs_weigh {l : List S45} {S : Sh} (h : RS l S) {n x : Int} (hn : 1 ≤ n ∧ n ≤ 15) : RS (withP ⟨(getQ l n).f0, x, (getQ l n).f2, (getQ l n).f3⟩ false l) (weighS S n x) := by
  have e : (⟨(getQ l n).f0, x, (getQ l n).f2, (getQ l n).f3⟩ : S45) = asQ (weighS S n x) n.toNat := by
    rw [h.at hn]
    unfold asQ weighS
    simp only [up_same]
  rw [e]
  exact h.put (by omega) (by omega) (fun p hp => ⟨up_other _ _ hp, rfl, rfl⟩)
theorem rs_zero {l : List S45} {S : Sh} (h : RS l S) {n : Int} (hn : 1 ≤ n ∧ n ≤ 15) : RS (withP ⟨n, 0, 0, []⟩ false l) (zeroS S n) := by
  have e : (⟨n, 0, 0, []⟩ : S45) = asQ (zeroS S n) n.toNat := by
    unfold asQ zeroS
    simp only [up_same]
    rw [show ((n.toNat : Nat) : Int) = n by omega]
  rw [e]
  exact h.put (by omega) (by omega) (fun p hp => ⟨up_other _ _ hp, up_other _ _ hp, up_other _ _ hp⟩)
theorem rs_add {l : List S45} {S : Sh} (h : RS l S) {n x : Int} (hn : 1 ≤ n ∧ n ≤ 15) : RS (withP ⟨(getQ l n).f0, (getQ l n).f1, (getQ l n).f2, (getQ l n).f3 ++ [x]⟩ false l) (addS S n x) := by
  have e : (⟨(getQ l n).f0, (getQ l n).f1, (getQ l n).f2, (getQ l n).f3 ++ [x]⟩ : S45) = asQ (addS S n x) n.toNat := by
    rw [h.at hn]
    unfold asQ addS
    simp only [up_same]
  rw [e]
  exact h.put (by omega) (by omega) (fun p hp => ⟨rfl, rfl, up_other _ _ hp⟩)
theorem zeroS_fit {S : Sh} (h : Fit S) {n : Int} : Fit (zeroS S n) := by
  refine ⟨h.q, fun p hp => ?_, fun p hp => ?_, fun p hp => ?_, fun p hp => ?_⟩
  all_goals
    unfold zeroS up
    simp only
    split
  · omega
  · exact h.wt p hp
  · omega
  · exact h.cr p hp
  · simp
  · exact h.long p hp
  · intro x hx; cases hx
  · exact h.size p hp
/-- No queue outside 1..15. -/
theorem RS.out {l : List S45} {S : Sh} (h : RS l S) {n : Int} (hn : ¬ (1 ≤ n ∧ n ≤ 15)) : getQ l n = ⟨n, 0, 0, []⟩ := getQ_none (fun x hx e => hn (e ▸ h.inn x hx))
end Go.Proofs.Ytigcgdamipeidaa.Rf
