/- Plain laws of rows of bits (a number's bits), of what can be added up of them, and of reducing them. No program stands here; peel.Needs walked: numbers with which all get known. No condition. -/
import Derived.Test.YtjmooillogojkaaGreatM11
set_option maxHeartbeats 8000000
set_option maxRecDepth 100000
set_option linter.unusedVariables false
set_option linter.unusedSimpArgs false
namespace Go.Proofs.YtjmooillogojkaaGreat.Lin
open Go.Proofs.YtjmooillogojkaaGreat.Q
inductive Span (R : List Nat) : Nat → Prop
 | zero : Span R 0
 | add {r v : Nat} : r ∈ R → Span R v → Span R (r ^^^ v)
theorem Span.one {R : List Nat} {r : Nat} (h : r ∈ R) : Span R r := by
 have := Span.add h .zero
 rwa [Nat.xor_zero] at this
theorem Span.xor {R : List Nat} {a b : Nat} (ha : Span R a) (hb : Span R b) : Span R (a ^^^ b) := by
 induction ha with
 | zero => rwa [Nat.zero_xor]
 | add hr _ ih =>
  rw [Nat.xor_assoc]
  exact .add hr ih
theorem Span.sub {R R' : List Nat} {v : Nat} (h : Span R v) (hs : ∀ r ∈ R, Span R' r) : Span R' v := by
 induction h with
 | zero => exact .zero
 | add hr _ ih => exact (hs _ hr).xor ih
theorem Span.bit {R : List Nat} {v i : Nat} (h : Span R v) (hs : ∀ r ∈ R, r.testBit i = false) : v.testBit i = false := by
 induction h with
 | zero => exact Nat.zero_testBit i
 | add hr _ ih => rw [Nat.testBit_xor, hs _ hr, ih]; rfl
def Piv (L P : List Nat) : Prop := L.length = P.length ∧ ∀ (a b x p : Nat), L[a]? = some x → P[b]? = some p → x.testBit p = decide (a = b)
theorem Piv.at {L P : List Nat} (h : Piv L P) (a b : Nat) (ha : a < L.length) (hb : b < P.length) : (L[a]).testBit P[b] = decide (a = b) := h.2 a b _ _ (List.getElem?_eq_getElem ha) (List.getElem?_eq_getElem hb)
def rep : List Nat → List Nat → Nat → Nat
 | x :: L, p :: P, v => (if v.testBit p then x else 0) ^^^ rep L P v
 | _, _, _ => 0
theorem xor_swap (a b c d : Nat) : (a ^^^ b) ^^^ (c ^^^ d) = (a ^^^ c) ^^^ (b ^^^ d) := by
 rw [Nat.xor_assoc, Nat.xor_assoc, ← Nat.xor_assoc b c d, Nat.xor_comm b c, Nat.xor_assoc c b d]
theorem rep_xor : ∀ (L P : List Nat) (u v : Nat), rep L P (u ^^^ v) = rep L P u ^^^ rep L P v
 | [], _, _, _ => by simp [rep]
 | _ :: _, [], _, _ => by simp [rep]
 | x :: L, p :: P, u, v => by
  simp only [rep, rep_xor L P u v, Nat.testBit_xor]
  rw [xor_swap]
  congr 1
  cases u.testBit p <;> cases v.testBit p <;> simp
theorem rep_none : ∀ (L P : List Nat) (v : Nat), (∀ p ∈ P, v.testBit p = false) → rep L P v = 0
 | [], _, _, _ => by simp [rep]
 | _ :: _, [], _, _ => by simp [rep]
 | x :: L, p :: P, v, h => by
  simp only [rep, rep_none L P v (fun q hq => h q (List.mem_cons_of_mem _ hq)), h p List.mem_cons_self]
  simp
theorem rep_one : ∀ (L P : List Nat) (v a : Nat) (ha : a < L.length), L.length = P.length → (∀ b (hb : b < P.length), v.testBit P[b] = decide (a = b)) → rep L P v = L[a]
 | [], _, _, _, ha, _, _ => absurd ha (by simp)
 | _ :: _, [], _, _, _, hl, _ => by simp at hl
 | x :: L, p :: P, v, 0, ha, hl, h => by
  have h0 := h 0 (by simp)
  have hr : rep L P v = 0 := rep_none L P v (fun q hq => by
   obtain ⟨j, hj, rfl⟩ := List.getElem_of_mem hq
   have := h (j + 1) (by simpa using hj)
   simpa using this)
  simp only [List.getElem_cons_zero] at h0
  simp [rep, h0, hr]
 | x :: L, p :: P, v, a + 1, ha, hl, h => by
  have h0 := h 0 (by simp)
  simp only [List.getElem_cons_zero] at h0
  have hr := rep_one L P v a (by simpa using ha) (by simpa using hl) (fun b hb => by
   have := h (b + 1) (by simpa using hb)
   simpa using this)
  simp [rep, h0, hr]
theorem Piv.rep {L P : List Nat} (h : Piv L P) {v : Nat} (hs : Span L v) : rep L P v = v := by
 induction hs with
 | zero => exact rep_none _ _ _ (fun p _ => Nat.zero_testBit p)
 | add hr _ ih =>
  obtain ⟨a, ha, rfl⟩ := List.getElem_of_mem hr
  rw [rep_xor, ih, rep_one L P _ a ha h.1 (fun b hb => h.at a b ha hb)]
theorem Piv.free {L P : List Nat} (h : Piv L P) {v : Nat} (hs : Span L v) (hp : ∀ p ∈ P, v.testBit p = false) : v = 0 := by
 rw [← h.rep hs]
 exact rep_none _ _ _ hp
theorem Piv.unit {L P : List Nat} (h : Piv L P) {i : Nat} (hs : Span L (2 ^ i)) : 2 ^ i ∈ L := by
 by_cases hi : i ∈ P
 ·obtain ⟨b, hb, rfl⟩ := List.getElem_of_mem hi
  have hbl : b < L.length := by rw [h.1]; exact hb
  have h0 := h.free (hs.xor (.one (List.getElem_mem hbl))) (fun p hp => by
   obtain ⟨c, hc, rfl⟩ := List.getElem_of_mem hp
   rw [Nat.testBit_xor, Nat.testBit_two_pow, h.at b c hbl hc]
   by_cases e : b = c
   ·subst e
    simp
   ·have h1 := h.at b b hbl hb
    have h2 := h.at b c hbl hc
    have : P[b] ≠ P[c] := fun e2 => by
     rw [e2, h2] at h1
     simp [e] at h1
    simp [e, this])
  have : 2 ^ P[b] = L[b] := by
   have := congrArg (· ^^^ L[b]) h0
   simpa [Nat.xor_assoc] using this
  rw [this]
  exact List.getElem_mem hbl
 ·have h0 := h.free hs (fun p hp => by
   rw [Nat.testBit_two_pow]
   exact decide_eq_false (fun e => hi (e ▸ hp)))
  have := Nat.two_pow_pos i
  omega
theorem idxF_neg {α : Type} {p : α → Bool} : ∀ {l : List α}, idxF p l < 0 → ∀ x ∈ l, p x = false
 | [], _, x, hx => absurd hx (by simp)
 | y :: l, h, x, hx => by
  unfold idxF at h
  cases hy : p y
  ·rw [hy] at h
   simp only [Bool.false_eq_true, if_false] at h
   rcases List.mem_cons.1 hx with rfl | hx
   ·exact hy
   ·refine idxF_neg (l := l) ?_ x hx
    have := idxF_lo p l
    split at h
    ·assumption
    ·omega
  ·rw [hy] at h
   simp at h
theorem idxF_pos {α : Type} {p : α → Bool} : ∀ {l : List α} {k : Nat}, idxF p l = (k : Int) → ∃ h : k < l.length, p l[k] = true
 | [], k, h => by unfold idxF at h; omega
 | y :: l, k, h => by
  unfold idxF at h
  cases hy : p y
  ·rw [hy] at h
   simp only [Bool.false_eq_true, if_false] at h
   split at h
   ·exact absurd h (by omega)
   ·obtain ⟨j, rfl⟩ : ∃ j, k = j + 1 := ⟨k - 1, by omega⟩
    have hj : idxF p l = (j : Int) := by omega
    obtain ⟨h1, h2⟩ := idxF_pos hj
    exact ⟨by simpa using h1, by simpa using h2⟩
  ·rw [hy] at h
   simp only [if_true] at h
   obtain rfl : k = 0 := by omega
   exact ⟨by simp, hy⟩
section
variable {D : Type} (op : D → D → D)
def plus (s t : Nat × D) : Nat × D := (s.1 ^^^ t.1, op s.2 t.2)
def clr (i : Nat) (p : Nat × D) (m : List (Nat × D)) : List (Nat × D) := m.map fun s => if s.1.testBit i then plus op s p else s
def redStep (i : Nat) (st : List (Nat × D) × List (Nat × D)) : List (Nat × D) × List (Nat × D) :=
 if idxF (fun s => s.1.testBit i) st.2 < 0 then st
 else match st.2[(idxF (fun s => s.1.testBit i) st.2).toNat]? with
 | none => st
 | some p => (clr op i p st.1 ++ [p], clr op i p (st.2.eraseIdx (idxF (fun s => s.1.testBit i) st.2).toNat))
def redN (l : List (Nat × D)) : Nat → List (Nat × D) × List (Nat × D)
 | 0 => ([], l)
 | n + 1 => redStep op n (redN l n)
structure Red (Sat : Nat → D → Prop) (n : Nat) (R : List Nat) (i : Nat) (st : List (Nat × D) × List (Nat × D)) : Prop where
 sat : ∀ s, s ∈ st.1 ∨ s ∈ st.2 → Sat s.1 s.2 ∧ s.1 < 2 ^ n
 span : ∀ v, Span R v ↔ Span (st.1.map (·.1) ++ st.2.map (·.1)) v
 low : ∀ s ∈ st.2, ∀ j < i, s.1.testBit j = false
 piv : ∃ P : List Nat, Piv (st.1.map (·.1)) P ∧ ∀ p ∈ P, p < i
variable {op}
theorem mem_erase {α : Type} : ∀ (l : List α) (k : Nat) (h : k < l.length) (s : α), s ∈ l → s = l[k] ∨ s ∈ l.eraseIdx k
 | x :: l, 0, _, s, hs => by
  rcases List.mem_cons.1 hs with rfl | hs
  ·exact .inl rfl
  ·exact .inr (by simpa using hs)
 | x :: l, k + 1, h, s, hs => by
  rcases List.mem_cons.1 hs with rfl | hs
  ·exact .inr (by simp)
  ·rcases mem_erase l k (by simpa using h) s hs with h1 | h1
   ·exact .inl (by simpa using h1)
   ·exact .inr (by simp [h1])
theorem get_snoc {α : Type} {L : List α} {x y : α} {a : Nat} (h : (L ++ [x])[a]? = some y) : (a < L.length ∧ L[a]? = some y) ∨ (a = L.length ∧ y = x) := by
 rcases Nat.lt_trichotomy a L.length with ha | ha | ha
 ·rw [List.getElem?_append_left ha] at h
  exact .inl ⟨ha, h⟩
 ·subst ha
  simp at h
  exact .inr ⟨rfl, h.symm⟩
 ·rw [List.getElem?_eq_none (by simp; omega)] at h
  exact absurd h (by simp)
theorem clr_mem {i : Nat} {p s : Nat × D} {m : List (Nat × D)} (h : s ∈ clr op i p m) : ∃ t ∈ m, (t.1.testBit i = false ∧ s = t) ∨ (t.1.testBit i = true ∧ s = plus op t p) := by
 obtain ⟨t, ht, rfl⟩ := List.mem_map.1 h
 refine ⟨t, ht, ?_⟩
 cases hb : t.1.testBit i
 ·exact .inl ⟨rfl, by simp⟩
 ·exact .inr ⟨rfl, by simp⟩
theorem clr_bit {i : Nat} {p t : Nat × D} : (if t.1.testBit i then plus op t p else t).1 = if t.1.testBit i then t.1 ^^^ p.1 else t.1 := by
 split <;> rfl
theorem back_xor (a b : Nat) : (a ^^^ b) ^^^ b = a := by rw [Nat.xor_assoc, Nat.xor_self, Nat.xor_zero]
theorem redStep_ok {Sat : Nat → D → Prop} (hop : ∀ {x y a b}, Sat x a → Sat y b → Sat (x ^^^ y) (op a b)) {n : Nat} {R : List Nat} {i : Nat} {st : List (Nat × D) × List (Nat × D)} (h : Red Sat n R i st) : Red Sat n R (i + 1) (redStep op i st) := by
 obtain ⟨out, l⟩ := st
 unfold redStep
 simp only
 by_cases hk : idxF (fun s : Nat × D => s.1.testBit i) l < 0
 ·rw [if_pos hk]
  have hn := idxF_neg hk
  obtain ⟨P, h1, h2⟩ := h.piv
  refine ⟨h.sat, h.span, fun s hs j hj => ?_, P, h1, fun p hp => Nat.lt_succ_of_lt (h2 p hp)⟩
  by_cases e : j = i
  ·subst e
   exact hn s hs
  ·exact h.low s hs j (by omega)
 ·rw [if_neg hk]
  obtain ⟨k, hkk⟩ := Int.eq_ofNat_of_zero_le (Int.not_lt.1 hk)
  obtain ⟨hkl, hpi⟩ := idxF_pos hkk
  rw [hkk, Int.toNat_natCast, List.getElem?_eq_getElem hkl]
  simp only
  have hme := mem_erase l k hkl
  have hpl : l[k] ∈ l := List.getElem_mem hkl
  obtain ⟨p, hp⟩ : ∃ p, p = l[k] := ⟨_, rfl⟩
  rw [← hp] at hpi hpl hme ⊢
  have hel : ∀ s, s ∈ l.eraseIdx k → s ∈ l := fun s hs => List.mem_of_mem_eraseIdx hs
  generalize l.eraseIdx k = l' at hme hel
  clear hp hkl hkk hk
  have hps := h.sat p (.inr hpl)
  have step : ∀ {s : Nat × D} {m : List (Nat × D)}, (∀ t ∈ m, t ∈ out ∨ t ∈ l) → s ∈ clr op i p m → Sat s.1 s.2 ∧ s.1 < 2 ^ n := by
   intro s m hm hs
   obtain ⟨t, ht, h1 | h1⟩ := clr_mem hs
   ·rw [h1.2]
    exact h.sat t (hm t ht)
   ·rw [h1.2]
    have hst := h.sat t (hm t ht)
    exact ⟨hop hst.1 hps.1, Nat.xor_lt_two_pow hst.2 hps.2⟩
  refine ⟨?_, ?_, ?_, ?_⟩
  ·intro s hs
   simp only at hs
   rcases hs with hs | hs
   ·rcases List.mem_append.1 hs with hs | hs
    ·exact step (fun t ht => .inl ht) hs
    ·rw [List.mem_singleton.1 hs]
     exact hps
   ·exact step (fun t ht => .inr (hel t ht)) hs
  ·intro v
   rw [h.span v]
   have pin : p.1 ∈ (clr op i p out ++ [p]).map (·.1) ++ (clr op i p l').map (·.1) := by simp
   have pin0 : p.1 ∈ out.map (·.1) ++ l.map (·.1) := by
    rw [List.mem_append]
    exact .inr (List.mem_map_of_mem hpl)
   have fwd : ∀ {t : Nat × D} {m : List (Nat × D)}, t ∈ m → (∀ s ∈ clr op i p m, s.1 ∈ (clr op i p out ++ [p]).map (·.1) ++ (clr op i p l').map (·.1)) → Span ((clr op i p out ++ [p]).map (·.1) ++ (clr op i p l').map (·.1)) t.1 := by
    intro t m ht hm
    have h1 := Span.one (hm _ (List.mem_map_of_mem ht))
    rw [clr_bit] at h1
    cases hb : t.1.testBit i
    ·rw [hb] at h1
     exact h1
    ·rw [hb] at h1
     have h2 := h1.xor (.one pin)
     simp only [if_true] at h2
     rwa [back_xor] at h2
   have bwd : ∀ {s : Nat × D} {m : List (Nat × D)}, (∀ t ∈ m, t.1 ∈ out.map (·.1) ++ l.map (·.1)) → s ∈ clr op i p m → Span (out.map (·.1) ++ l.map (·.1)) s.1 := by
    intro s m hm hs
    obtain ⟨t, ht, h1 | h1⟩ := clr_mem hs
    ·rw [h1.2]
     exact .one (hm t ht)
    ·rw [h1.2]
     exact Span.xor (.one (hm t ht)) (.one pin0)
   constructor
   ·intro hv
    refine hv.sub (fun r hr => ?_)
    rcases List.mem_append.1 hr with hr | hr
    ·obtain ⟨t, ht, rfl⟩ := List.mem_map.1 hr
     exact fwd ht (fun s hs => by
      rw [List.mem_append]
      exact .inl (List.mem_map_of_mem (List.mem_append_left _ hs)))
    ·obtain ⟨t, ht, rfl⟩ := List.mem_map.1 hr
     rcases hme t ht with rfl | ht
     ·exact .one pin
     ·exact fwd ht (fun s hs => by
       rw [List.mem_append]
       exact .inr (List.mem_map_of_mem hs))
   ·intro hv
    refine hv.sub (fun r hr => ?_)
    rcases List.mem_append.1 hr with hr | hr
    ·obtain ⟨s, hs, rfl⟩ := List.mem_map.1 hr
     rcases List.mem_append.1 hs with hs | hs
     ·exact bwd (m := out) (fun t ht => List.mem_append_left _ (List.mem_map_of_mem ht)) hs
     ·rw [List.mem_singleton.1 hs]
      exact .one pin0
    ·obtain ⟨s, hs, rfl⟩ := List.mem_map.1 hr
     exact bwd (m := l') (fun t ht => List.mem_append_right _ (List.mem_map_of_mem (hel t ht))) hs
  ·intro s hs j hj
   obtain ⟨t, ht, h1 | h1⟩ := clr_mem hs
   ·rw [h1.2]
    by_cases e : j = i
    ·rw [e]
     exact h1.1
    ·exact h.low t (hel t ht) j (by omega)
   ·rw [h1.2]
    show (t.1 ^^^ p.1).testBit j = false
    rw [Nat.testBit_xor]
    by_cases e : j = i
    ·rw [e, h1.1, hpi]
     rfl
    ·rw [h.low t (hel t ht) j (by omega), h.low p hpl j (by omega)]
     rfl
  ·obtain ⟨P, ⟨h1, h2⟩, h3⟩ := h.piv
   have hlen : ((clr op i p out).map (·.1)).length = P.length := by rw [← h1]; simp [clr]
   refine ⟨P ++ [i], ⟨by simp only [List.map_append, List.length_append, hlen]; rfl, ?_⟩, ?_⟩
   ·intro a b x q ha hb
    rw [List.map_append] at ha
    have hrow : ∀ {a x : Nat}, ((clr op i p out).map (·.1))[a]? = some x → ∃ y : Nat, (out.map (·.1))[a]? = some y ∧ x = if y.testBit i then y ^^^ p.1 else y := by
     intro a x hx
     unfold clr at hx
     rw [List.map_map, List.getElem?_map] at hx
     obtain ⟨t, ht, rfl⟩ := Option.map_eq_some_iff.1 hx
     refine ⟨t.1, by rw [List.getElem?_map, ht]; rfl, ?_⟩
     show (if t.1.testBit i then plus op t p else t).1 = _
     rw [clr_bit]
    rcases get_snoc ha with ⟨ha1, ha2⟩ | ⟨ha1, rfl⟩
    ·obtain ⟨y, hy, rfl⟩ := hrow ha2
     rcases get_snoc hb with ⟨hb1, hb2⟩ | ⟨hb1, rfl⟩
     ·have hq : p.1.testBit q = false := h.low p hpl q (h3 q (List.mem_of_getElem? hb2))
      have := h2 a b y q hy hb2
      split
      ·rw [Nat.testBit_xor, this, hq]
       simp
      ·exact this
     ·have hne : a ≠ b := by omega
      cases hyi : y.testBit q
      ·simp [hyi, hne]
      ·simp [Nat.testBit_xor, hyi, hpi, hne]
    ·rcases get_snoc hb with ⟨hb1, hb2⟩ | ⟨hb1, rfl⟩
     ·have hq : p.1.testBit q = false := h.low p hpl q (h3 q (List.mem_of_getElem? hb2))
      have hq' : p.fst.testBit q = false := hq
      have hne : a ≠ b := by omega
      simp [hq', hne]
     ·have he : a = b := by omega
      have hpi' : p.fst.testBit q = true := hpi
      simp [hpi', he]
   ·intro q hq
    rcases List.mem_append.1 hq with hq | hq
    ·exact Nat.lt_succ_of_lt (h3 q hq)
    ·rw [List.mem_singleton.1 hq]
     exact Nat.lt_succ_self i
theorem redN_ok {Sat : Nat → D → Prop} (hop : ∀ {x y a b}, Sat x a → Sat y b → Sat (x ^^^ y) (op a b)) {n : Nat} {l : List (Nat × D)} (h : ∀ s ∈ l, Sat s.1 s.2 ∧ s.1 < 2 ^ n) (i : Nat) : Red Sat n (l.map (·.1)) i (redN op l i) := by
 induction i with
 | zero => exact ⟨fun s hs => by
   rcases hs with hs | hs
   ·exact absurd hs (by simp [redN])
   ·exact h s hs, fun v => by simp [redN], fun s _ j hj => absurd hj (Nat.not_lt_zero _), [], ⟨rfl, fun a b x p ha => by simp [redN] at ha⟩, fun p hp => absurd hp (by simp)⟩
 | succ i ih => exact redStep_ok hop ih
theorem redN_end {Sat : Nat → D → Prop} (hop : ∀ {x y a b}, Sat x a → Sat y b → Sat (x ^^^ y) (op a b)) {n : Nat} {l : List (Nat × D)} (h : ∀ s ∈ l, Sat s.1 s.2 ∧ s.1 < 2 ^ n) :
  (∀ s ∈ (redN op l n).2, s.1 = 0 ∧ Sat 0 s.2) ∧ (∀ s ∈ (redN op l n).1, Sat s.1 s.2 ∧ s.1 < 2 ^ n ∧ Span (l.map (·.1)) s.1) ∧ ∀ i, Span (l.map (·.1)) (2 ^ i) → ∃ s ∈ (redN op l n).1, s.1 = 2 ^ i := by
 have hr := redN_ok hop h n
 have hz : ∀ s ∈ (redN op l n).2, s.1 = 0 := fun s hs => by
  refine Nat.eq_of_testBit_eq (fun j => ?_)
  rw [Nat.zero_testBit]
  by_cases hj : j < n
  ·exact hr.low s hs j hj
  ·exact Nat.testBit_lt_two_pow (Nat.lt_of_lt_of_le (hr.sat s (.inr hs)).2 (Nat.pow_le_pow_right (by decide) (by omega)))
 refine ⟨fun s hs => ⟨hz s hs, hz s hs ▸ (hr.sat s (.inr hs)).1⟩, fun s hs => ⟨(hr.sat s (.inl hs)).1, (hr.sat s (.inl hs)).2, (hr.span _).2 (.one (List.mem_append_left _ (List.mem_map_of_mem hs)))⟩, fun i hi => ?_⟩
 obtain ⟨P, hP, _⟩ := hr.piv
 have h1 := ((hr.span _).1 hi).sub (R' := (redN op l n).1.map (·.1)) (fun r hr' => by
  rcases List.mem_append.1 hr' with h2 | h2
  ·exact .one h2
  ·obtain ⟨s, hs, rfl⟩ := List.mem_map.1 h2
   rw [hz s hs]
   exact .zero)
 obtain ⟨s, hs, he⟩ := List.mem_map.1 (hP.unit h1)
 exact ⟨s, hs, he⟩
end
end Go.Proofs.YtjmooillogojkaaGreat.Lin
namespace Go.Proofs.YtjmooillogojkaaGreat.Q
open Go.RowKit Go.Proofs.YtjmooillogojkaaGreatW.PrintWords Go.Proofs.YtjmooillogojkaaGreatW.PrintLast Go.Proofs.YtjmooillogojkaaGreatW.PrintMore
open Go.Proofs.YtjmooillogojkaaGreat
def needsOk (n : Nat) (L : List (List Int)) (O : List Int) : Prop := (∀ i, 0 ≤ i → i < (n : Int) → Cl L (· ∈ O) i) ∧ O.Nodup ∧ ∀ i ∈ O, 0 ≤ i ∧ i < (n : Int)
def needsAt (n : Nat) (L : List (List Int)) (s : List Bool) (O : List Int) : Prop := s.length = n ∧ (∀ i, 0 ≤ i → known s i → Cl L (· ∈ O) i) ∧ O.Nodup ∧ ∀ i ∈ O, 0 ≤ i ∧ i < (n : Int) ∧ known s i
theorem needs_peel {n : Nat} {L : List (List Int)} {s s' : List Bool} {st : List S123} {O : List Int} (hL : rowsIn n L) (h : needsAt n L s O) (hp : Peel L s st s') : needsAt n L s' O := by
 obtain ⟨h1, h2, h3, h4⟩ := h
 have hb : ∀ r ∈ L, ∀ i ∈ r, 0 ≤ i ∧ i < s.length := fun r hr i hi => by have := rowOk_in (hL.2.2 r hr) i hi; exact ⟨this.1, by have := this.2; omega⟩
 exact ⟨by rw [hp.length, h1], hp.sound hb h2, h3, fun i hi => ⟨(h4 i hi).1, (h4 i hi).2.1, hp.mono hb i (h4 i hi).1 (h4 i hi).2.2⟩⟩
theorem needs_put {n : Nat} {L : List (List Int)} {s : List Bool} {O : List Int} {i : Int} (h : needsAt n L s O) (h0 : 0 ≤ i) (hi : i < (n : Int)) (hk : ¬ known s i) : needsAt n L (s.set i.toNat true) (O ++ [i]) := by
 obtain ⟨h1, h2, h3, h4⟩ := h
 refine ⟨by rw [List.length_set]; exact h1, fun j hj hk' => ?_, ?_, fun j hj => ?_⟩
 ·rcases (known_set h0 (by omega) j hj).1 hk' with rfl | hk'
  ·exact .base (List.mem_append_right _ (List.mem_singleton.2 rfl))
  ·exact (h2 j hj hk').mono (fun q hq => .base (List.mem_append_left _ hq))
 ·rw [List.nodup_append]
  refine ⟨h3, by simp, fun a ha b hb e => ?_⟩
  rw [List.mem_singleton.1 hb] at e
  exact hk (e ▸ (h4 a ha).2.2)
 ·rcases List.mem_append.1 hj with hj | hj
  ·exact ⟨(h4 j hj).1, (h4 j hj).2.1, (known_set h0 (by omega) j (h4 j hj).1).2 (.inr (h4 j hj).2.2)⟩
  ·rw [List.mem_singleton.1 hj]
   exact ⟨h0, hi, (known_set h0 (by omega) i h0).2 (.inl rfl)⟩
theorem needs_end {n : Nat} {L : List (List Int)} {s : List Bool} {O : List Int} (h : needsAt n L s O) (hn : ∀ i, 0 ≤ i → i < (s.length : Int) → ¬ rdOf false s i = false) : needsOk n L O := by
 obtain ⟨h1, h2, h3, h4⟩ := h
 refine ⟨fun i h0 hi => h2 i h0 ?_, h3, fun i hi => ⟨(h4 i hi).1, (h4 i hi).2.1⟩⟩
 have := hn i h0 (by omega)
 unfold known
 cases hh : rdOf false s i
 ·exact absurd hh this
 ·rfl
theorem Peel.falses {L : List (List Int)} {s s' : List Bool} {st : List S123} (h : Peel L s st s') (hb : ∀ r ∈ L, ∀ i ∈ r, 0 ≤ i ∧ i < s.length) : falses s' ≤ falses s := by
 induction h with
 | done _ => exact Nat.le_refl _
 | step hk hr _ ih =>
  rename_i s s' st k i hp
  have hh := hb _ (List.getElem_mem hk) _ hr.1
  have h1 := ih (fun r hr i hi => by rw [List.length_set]; exact hb r hr i hi)
  have h2 := falses_set s i.toNat (by omega) (by
   have := hr.2.1
   unfold known rdOf at this
   simpa using this)
  omega
theorem flat_ok {e base : Nat} {ok ok' : Nat → Prop} {w : World} {v : Value} {xs : List Bool} (h : Kd.R Kd.bool e w base ok v xs) (hk : ∀ k, v.ownBlock = some k → ok' k) : Kd.R Kd.bool e w base ok' v xs := Kd.R_of_own (Kd.own_of_R h) hk
theorem idxF_lt {α : Type} (p : α → Bool) (l : List α) (h : 0 < l.length) : ∃ q : Nat, q < l.length ∧ (if idxF p l < 0 then 0 else idxF p l) = (q : Int) := by
 by_cases h0 : idxF p l < 0
 ·exact ⟨0, h, by rw [if_pos h0]; rfl⟩
 ·obtain ⟨k, hk⟩ := Int.eq_ofNat_of_zero_le (Int.not_lt.1 h0)
  obtain ⟨hl, _⟩ := Lin.idxF_pos hk
  exact ⟨k, hl, by rw [if_neg h0, hk]⟩
theorem needs_ok {A : Option Addr} {c n : Nat} {L : List (List Int)} (w : World) (hr : Kd.C (Kd.slice 3 (Kd.int .i64)) w A L.length L) (hc : L.length ≤ c) (hL : rowsIn n L) (hn : 1 ≤ n) :
  Calls Tryz.prog 102 #[.int .i64 n, .slice A L.length c, .slice none 0 0] w fun e w' => ∃ v O, e = .returned (.tuple #[v, .int .i64 0]) ∧ Kd.R (Kd.int .i64) 3 w' w.heap.size (fun _ => True) v O ∧ Below w.heap.size w w' ∧ needsOk n L O := by
 have HR := jo hr
 have HLL := jo hL
 have hmL : ∀ l ∈ L, l.length < 1000000 := fun l hl => by have := rowOk_len (hL.2.2 l hl); have := hL.1; omega
 have HML := jo hmL
 obtain ⟨s0, hs1, hs2, hs3⟩ := marks_spec (n := n) (k := 100000) (l := []) hL.1 (by simp) (fun i hi => absurd hi (by simp)) (by simp)
 have HMC : Aside0 (∀ W, Below w.heap.size w W → Calls Tryz.prog 29 #[.int .i64 n, .slice A L.length c, .slice none 0 0] W fun e w' => e = .returned (.bool true) ∧ Below W.heap.size W w') := ⟨fun W hb => peel_may.calls _ _ _ _ (fun _ => False) none 0 [] true _ (Kd.C_below hr hb) hc (Kd.V_nil _ _ _ _ _) (may_spec (U := []) hL (fun k hk => absurd hk (by simp)))⟩
 have HMK : Aside0 (∀ W, Calls Tryz.prog 30 #[.int .i64 n, .slice none 0 0] W fun e w' => ∃ v0_ : Value, e = .returned v0_ ∧ Kd.R Kd.bool 4 w' W.heap.size (fun _ => True) v0_ s0 ∧ Below W.heap.size W w') := ⟨fun W => peel_marks.calls 100000 _ none 0 [] s0 _ (Kd.C_nil _ _) (Nat.le_refl _) hs1⟩
 have HS0 : Aside0 (needsAt n L s0 []) := ⟨⟨hs2, fun i hi hk => absurd ((hs3 i hi).1 hk) (by simp), by simp, fun i hi => absurd hi (by simp)⟩⟩
 have e140 := enters_of (P := Tryz.prog) (f := 140) Tryz.func140 jw rfl
 clear hr hL hmL hs1 hs3
 go_enter Tryz.func102, Tryz.ntmps102
 go_wp2_with fail
 have p1 : Below w.heap.size w (w.alloc (.cells #[.slice A L.length c] 38)) := below_alloc (Below.refl _ _) _
 have k1 : (w.alloc (.cells #[.slice A L.length c] 38)).heap[w.heap.size]? = some (.cells #[.slice A L.length c] 38 (0, 0)) := blk_new w _
 generalize w.alloc (.cells #[.slice A L.length c] 38) = W1 at p1 k1 ⊢
 (with_reducible refine (HMC.out _ p1).mono ?_)
 rintro e w2 ⟨rfl, hb2⟩
 have HB2 := jo (And.intro (below_step p1 hb2) (blk_below k1 hb2))
 clear p1 k1 hb2
 go_wp2_with (go_at_call 30; (with_reducible refine (HMK.out _).mono ?_); rintro e w3 ⟨v8, rfl, ho8, hb3⟩; have H3 := jo (And.intro (Kd.R_lower ho8 HB2.out.1.size) (And.intro (below_step HB2.out.1 hb3) (blk_below HB2.out.2 hb3))); clear ho8 hb3)
 obtain ⟨G, cM, ev, hGb, hGl, _⟩ := Kd.R_form H3.out.1 (by rw [hs2]; exact hn)
 rw [hs2] at ev
 subst ev
 have hGne : w.heap.size ≠ G := fun e => Kd.R_ne H3.out.1 H3.out.2.2 (by decide) (by rw [e]; rfl)
 have H4 : Aside0 (Kd.R Kd.bool 4 w3 w.heap.size (fun k => k = G) (.slice (some ⟨G, 0, none⟩) n cM) s0 ∧ Below w.heap.size w w3 ∧ w3.heap[w.heap.size]? = some (.cells #[.slice A L.length c] 38 (0, 0))) := ⟨flat_ok H3.out.1 (fun k hk => by injection hk with hk; exact hk.symm), H3.out.2⟩
 have hcap : s0.length ≤ 160 := by rw [hs2]; exact HLL.out.1
 have HGG := jo (And.intro hGb hGne)
 have HF0 : falses s0 ≤ 160 := Nat.le_trans (falses_le s0) hcap
 clear H3 HB2 hGb hGl hGne hcap hs2 HMK HMC
 go_loopg [9, 10, 11, 12] (falses s0 + 1) (fun gk v9 v10 v11 v12 wr => ∃ (s : List Bool) (O : List Int), Aside0 (falses s < gk ∧ O.length + falses s ≤ 1000 ∧ needsAt n L s O ∧ Kd.R Kd.bool 4 wr w.heap.size (fun k => k = G) (.slice (some ⟨G, 0, none⟩) n cM) s ∧ Kd.R (Kd.int .i64) 3 wr w.heap.size (fun k => k ≠ G) v9 O ∧ Below w.heap.size w wr ∧ wr.heap[w.heap.size]? = some (.cells #[.slice A L.length c] 38 (0, 0))))
 case atStart => exact ⟨s0, [], ⟨Nat.lt_succ_self _, by simp only [List.length_nil]; omega, HS0.out, H4.out.1, Kd.R_nil _ _ _ _ _, H4.out.2.1, H4.out.2.2⟩⟩
 case round =>
  obtain ⟨s, O, HA⟩ := hrel
  clear H4 HS0
  obtain ⟨gq, rfl⟩ : ∃ q, gk = q + 1 := ⟨gk - 1, by have := HA.out.1; omega⟩
  obtain ⟨st, s', hp1, hp2⟩ := peel_spec HLL.out HA.out.2.2.1.1
  have hb0 : ∀ r ∈ L, ∀ i ∈ r, 0 ≤ i ∧ i < s.length := fun r hr i hi => by have := rowOk_in (HLL.out.2.2 r hr) i hi; have := HA.out.2.2.1.1; omega
  have hfal := hp2.falses hb0
  have hna := needs_peel HLL.out HA.out.2.2.1 hp2
  obtain ⟨l, hl1, hl2⟩ := numbers_spec (s := s') (k := 100000) false (by rw [hna.1]; have := HLL.out.1; omega) (by rw [hna.1]; have := HLL.out.1; omega)
  have HP31 := jo (peel_peel.calls 100000 A c L (fun k => k = G) (.slice (some ⟨G, 0, none⟩) n cM) s st s' w wr HA.out.2.2.2.2.2.1 (Kd.C_kept_came (Kd.heap_slice 3 (Kd.heap_int .i64)) HR.out HA.out.2.2.2.2.2.1 (fun k hk => by rw [hk]; exact HGG.out.1)) hc HA.out.2.2.2.1 hp1)
  have hcm : n ≤ cM := (Kd.R_reads' HA.out.2.2.2.1).2.1
  have HP32 : Aside0 (∀ W, Kd.C Kd.bool W (some ⟨G, 0, none⟩) n s' → Calls Tryz.prog 32 #[.slice (some ⟨G, 0, none⟩) n cM, .bool false] W fun e w' => ∃ v0_ : Value, e = .returned v0_ ∧ Kd.R (Kd.int .i64) 3 w' W.heap.size (fun _ => True) v0_ l ∧ Below W.heap.size W w') := ⟨fun W hC => by
   have := peel_numbers.calls 100000 (some ⟨G, 0, none⟩) cM s' false l W (by rw [hna.1]; exact hC) (by rw [hna.1]; exact hcm) hl1
   rwa [hna.1] at this⟩
  have HM := jo (And.intro hna (And.intro hl2 (And.intro hfal (And.intro HA.out.1 HA.out.2.1))))
  have HV9 := jo HA.out.2.2.2.2.1
  have HBX := jo (And.intro HA.out.2.2.2.2.2.1 HA.out.2.2.2.2.2.2)
  have hc4 : wr.cell? ⟨w.heap.size, 0, none⟩ = some (.slice A L.length c) := blk_cell HA.out.2.2.2.2.2.2 0
  clear hp1 hp2 hb0 hfal hna hl1 hl2 HA hcm
  by_cases hl0 : l = []
  ·subst hl0
   go_wp2_with (first | (go_at_call 31; (with_reducible refine HP31.out.mono ?_); rintro e w4 ⟨v23, rfl, _, his, hb4, hk4⟩; have H4 := jo (And.intro (flat_ok his (fun k hk => by injection hk with hk; exact hk.symm) : Kd.R Kd.bool 4 w4 w.heap.size (fun k => k = G) _ s') (And.intro hb4 (And.intro (Kd.R_kept HV9.out hk4 (fun k hk => hk)) (blk_kept HBX.out.2 hk4 HGG.out.2)))); have hC4 := (Kd.R_reads' H4.out.1).2.2; rw [HM.out.1.1] at hC4; have HC4 := jo hC4; clear his hb4 hk4 HP31 hC4) | (go_at_call 32; (with_reducible refine (HP32.out _ HC4.out).mono ?_); rintro e w5 ⟨v10, rfl, ho10, hb5⟩; obtain ⟨A5, c5, e5⟩ := Kd.R_slice ho10; subst e5; have H5 := jo (And.intro (Kd.R_below H4.out.2.2.1 hb5) (below_step H4.out.2.1 hb5)); clear ho10 hb5))
   go_ret2
   exact ⟨_, O, rfl, Kd.R_mono H5.out.1 (fun _ _ => trivial), H5.out.2, needs_end HM.out.1 (fun i h0 h1 h2 => absurd ((HM.out.2.1 i).2 ⟨h0, h1, h2⟩) (by simp))⟩
  ·have hlp : 0 < l.length := by
    rcases Nat.eq_zero_or_pos l.length with h | h
    ·exact absurd (List.eq_nil_of_length_eq_zero h) hl0
    ·exact h
   have b1 : ((l.length : Int) == 0) = false := beq_eq_false_iff_ne.2 (by omega)
   have b2 : (l.length == 0) = false := beq_eq_false_iff_ne.2 (by omega)
   obtain ⟨q, hql, hqe⟩ := idxF_lt (fun i => !inAny L i) l hlp
   obtain ⟨z, hz⟩ : ∃ z, z = idxF (fun i => !inAny L i) l := ⟨_, rfl⟩
   have HPZ : Aside0 (∀ W A5 c5, Kd.C (Kd.int .i64) W A5 l.length l → l.length ≤ c5 → Kd.C (Kd.slice 3 (Kd.int .i64)) W A L.length L → W.heap[w.heap.size]? = some (.cells #[.slice A L.length c] 38 (0, 0)) → Calls Tryz.prog 139 #[.slice A5 l.length c5, .func (.func 140) #[] #[.pointer (some ⟨w.heap.size, 0, none⟩)]] W fun e w' => e = .returned (.int .i64 z) ∧ Below W.heap.size W w') := ⟨fun W A5 c5 h1 h2 h3 h4 => by
    rw [hz]
    exact idx_int e140 W h1 h2 (predN_int (pred140 h4 h3 hc HML.out) l)⟩
   rw [← hz] at hqe
   have hiq := (HM.out.2.1 l[q]).1 (List.getElem_mem hql)
   obtain ⟨iz, hiz⟩ : ∃ iz, iz = l[q] := ⟨_, rfl⟩
   rw [← hiz] at hiq
   obtain ⟨i, rfl⟩ := Int.eq_ofNat_of_zero_le hiq.1
   have hin : i < n := by have := hiq.2.1; rw [HM.out.1.1] at this; omega
   have HI := jo (And.intro hiq hin)
   have HIZ := jo hiz
   have hq1 : (q : Int) < (l.length : Int) := by omega
   have hiN : (i : Int) < (n : Int) := by omega
   obtain ⟨A9, c9, e9⟩ := Kd.R_slice HV9.out
   subst e9
   clear hz hiq hl0 hlp hiz
   go_wp2_with (first | (go_at_call 31; (with_reducible refine HP31.out.mono ?_); rintro e w4 ⟨v23, rfl, _, his, hb4, hk4⟩; have H4 := jo (And.intro (flat_ok his (fun k hk => by injection hk with hk; exact hk.symm) : Kd.R Kd.bool 4 w4 w.heap.size (fun k => k = G) _ s') (And.intro hb4 (And.intro (Kd.R_kept HV9.out hk4 (fun k hk => hk)) (blk_kept HBX.out.2 hk4 HGG.out.2)))); have hC4 := (Kd.R_reads' H4.out.1).2.2; rw [HM.out.1.1] at hC4; have HC4 := jo hC4; clear his hb4 hk4 HP31 hC4) | (go_at_call 32; (with_reducible refine (HP32.out _ HC4.out).mono ?_); rintro e w5 ⟨v10, rfl, ho10, hb5⟩; obtain ⟨A5, c5, e5⟩ := Kd.R_slice ho10; subst e5; have H5 := jo (And.intro (Kd.R_below H4.out.2.2.1 hb5) (And.intro (below_step H4.out.2.1 hb5) (And.intro (blk_below H4.out.2.2.2 hb5) (And.intro (Kd.R_below H4.out.1 hb5) (Kd.R_reads' ho10))))); clear ho10 hb5 H4) | (go_at_call 139; (with_reducible refine (HPZ.out _ _ _ H5.out.2.2.2.2.2.2 H5.out.2.2.2.2.2.1 (Kd.C_below HR.out H5.out.2.1) H5.out.2.2.1).mono ?_); rintro e w6 ⟨rfl, hb6⟩; obtain ⟨ad, e5', hcell⟩ := Kd.at_int (Kd.C_below H5.out.2.2.2.2.2.2 hb6) (q : Int) (by omega) hq1; subst e5'; rw [rd_get hql, ← HIZ.out, Int.toNat_natCast] at hcell; have hR6 := Kd.R_below H5.out.2.2.2.1 hb6; have hGG := Kd.R_celln false hR6 (i : Int) (by omega) hiN; rw [Int.toNat_natCast] at hGG; obtain ⟨hG1, hG2⟩ := hGG; have hput := Kd.R_putn hR6 (i : Int) true; rw [Int.toNat_natCast] at hput; generalize rdOf false s' (i : Int) = old at hG1; have H6 : Aside0 (Kd.R (Kd.int .i64) 3 (w6.setCell ⟨G, i, none⟩ (.bool true)) w.heap.size (fun k => k ≠ G) (.slice A9 O.length c9) O ∧ Below w.heap.size w (w6.setCell ⟨G, i, none⟩ (.bool true)) ∧ (w6.setCell ⟨G, i, none⟩ (.bool true)).heap[w.heap.size]? = some (.cells #[.slice A L.length c] 38 (0, 0)) ∧ Kd.R Kd.bool 4 (w6.setCell ⟨G, i, none⟩ (.bool true)) w.heap.size (fun k => k = G) (.slice (some ⟨G, 0, none⟩) n cM) (s'.set i true)) := ⟨Kd.R_far (p := ⟨G, i, none⟩) (Kd.R_below H5.out.1 hb6) (fun k hk => hk) _, (below_step H5.out.2.1 hb6).setCell HGG.out.1 _, blk_far (blk_below H5.out.2.2.1 hb6) (p := ⟨G, i, none⟩) HGG.out.2 _, hput⟩; clear hput hR6 hb6 H5) | ((with_reducible refine gate_builtin (b := .append) (xs := #[.tmp 41, .tmp 43]) rfl ?_); at_builtin; refine Kd.R_append (Kd.int .i64) (w0 := w) w.heap.size rfl (.tmp 41) (.tmp 43) 44 3 (.int .i64 0) 8 rfl Tryz.underlying44 info3 rfl (by decide) (by omega) (.slice A9 O.length c9) O (i : Int) [.int .i64 (i : Int)] (fun k => k ≠ G) (fun _ => False) rfl ((by show Value.slice (some ⟨w6.heap.size, 0, none⟩) 1 1 = Value.slice (some ⟨(w6.setCell ⟨G, i, none⟩ (.bool true)).heap.size, 0, none⟩) 1 1; rw [World.size_setCell])) ?aP (fun _ hk => hk.elim) ?aF ?aO ?aB ?aS ?aL ?_; (case aP => exact rfl); (case aB => exact (by repeat (first | (with_reducible first | exact H6.out.2.1 | apply below_alloc) | exact H6.out.2.1))); (case aF => exact (fun k hk e => by have := (Kd.R_form H6.out.2.2.2 (by rw [List.length_set, HM.out.1.1]; exact hn)); obtain ⟨G', c', e', _, hl', _⟩ := this; injection e' with e1 e2 e3; injection e1 with e1; injection e1 with e1 e4; rw [← e1] at hl'; omega)); (case aO => exact (jr H6.out.1)); (case aS => exact (below_size (by repeat (first | (with_reducible first | exact H6.out.2.1 | apply below_alloc) | exact H6.out.2.1)))); (case aL => have := HM.out.2.2.2.2; omega); intro v5 w7 ho hb hg hat; have R7 := jo (And.intro ho (And.intro hb (And.intro hg hat))); clear ho hb hg hat))
   go_roundg gq
   case measure => omega
   case rel =>
    obtain ⟨ho, hb, hg, hat⟩ := R7.out
    obtain ⟨m1, m2, m3, m4, m5⟩ := HM.out
    have hsl : i < s'.length := by rw [m1.1]; exact HI.out.2
    have hfs := falses_set s' i hsl HI.out.1.2.2
    have hnp := needs_put m1 (Int.natCast_nonneg i) (by have := HI.out.2; omega) (by
     unfold known
     rw [HI.out.1.2.2]
     decide)
    rw [Int.toNat_natCast] at hnp
    have hown : ∀ k, k = G → some k ≠ (Value.slice A9 O.length c9).ownBlock := fun k hk e => (H6.out.1.1 k e.symm) hk
    have hlen : (O ++ [(i : Int)]).length = O.length + 1 := by simp
    exact ⟨s'.set i true, O ++ [(i : Int)], ⟨by clear ho hb hg hat hnp; omega, by rw [hlen]; clear ho hb hg hat hnp; omega, hnp, Kd.R_grown H6.out.2.2.2 hg hown, ho, hb, blk_grown H6.out.2.2.1 hg (Kd.R_ne H6.out.1 H6.out.2.2.1 (by decide))⟩⟩
end Go.Proofs.YtjmooillogojkaaGreat.Q
