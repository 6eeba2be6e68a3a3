/- Plain: what gauss.Solve fixes; Plain: rows of forms that are reduced by one another; Plain: forms as rows of bits; what a row's numbers come to in forms. No condition. -/
import Derived.Test.YtjmooillogojkaaGreatM43
set_option maxHeartbeats 8000000
set_option maxRecDepth 100000
set_option linter.unusedVariables false
set_option linter.unusedSimpArgs false
namespace Go.Proofs.YtjmooillogojkaaGreat.Q
open Go.Proofs.YtjmooillogojkaaGreatW.PrintWords
open Go.Proofs.YtjmooillogojkaaGreat
open Go.Proofs.YtjmooillogojkaaGreat.Lin
theorem mem_bitsTo {x k j : Nat} : (j : Int) ∈ bitsTo x k ↔ j < k ∧ x.testBit j = true := by
 unfold bitsTo
 rw [List.mem_map]
 constructor
 ·rintro ⟨i, hi, e⟩
  obtain ⟨h1, h2⟩ := List.mem_filter.1 hi
  have : i = j := by omega
  subst this
  exact ⟨List.mem_range.1 h1, h2⟩
 ·rintro ⟨h1, h2⟩
  exact ⟨j, List.mem_filter.2 ⟨List.mem_range.2 h1, h2⟩, rfl⟩
theorem one_bit {x : Nat} (hx : x < 2 ^ 160) (h : (bitsTo x 160).length = 1) : ∃ j : Nat, j < 160 ∧ x = 2 ^ j ∧ (bitsTo x 160).headD 0 = (j : Int) := by
 have he := one_elem h
 obtain ⟨j, hj, h1, h2⟩ := bitsTo_mem (i := (bitsTo x 160).headD 0) (x := x) (k := 160) (by rw [he]; exact List.mem_singleton.2 rfl)
 refine ⟨j, h1, Nat.eq_of_testBit_eq (fun k => ?_), hj⟩
 rw [Nat.testBit_two_pow]
 by_cases hk : k < 160
 ·have h3 := mem_bitsTo (x := x) (k := 160) (j := k)
  rw [he, hj, List.mem_singleton] at h3
  cases hb : x.testBit k with
  | false =>
   refine (decide_eq_false (fun e => ?_)).symm
   have := (h3.1 (by rw [e])).2
   rw [hb] at this
   exact absurd this (by decide)
  | true =>
   have := h3.2 ⟨hk, hb⟩
   exact (decide_eq_true (by omega)).symm
 ·rw [Nat.testBit_lt_two_pow (Nat.lt_of_lt_of_le hx (Nat.pow_le_pow_right (by decide) (by omega)))]
  exact (decide_eq_false (by omega)).symm
theorem pow_bits {i : Nat} (hi : i < 160) : bitsTo (2 ^ i) 160 = [(i : Int)] := by
 unfold bitsTo
 have : ((List.range 160).filter fun k => (2 ^ i).testBit k) = [i] := by
  have h1 : ((List.range 160).filter fun k => (2 ^ i).testBit k) = (List.range 160).filter (fun k => k == i) := by
   refine List.filter_congr (fun k _ => ?_)
   rw [Nat.testBit_two_pow]
   by_cases e : i = k
   ·subst e; simp
   ·rw [decide_eq_false e]; exact (beq_eq_false_iff_ne.2 (fun h => e h.symm)).symm
  rw [h1]
  have h2 : ∀ m, (List.range m).filter (fun k => k == i) = if i < m then [i] else [] := by
   intro m
   induction m with
   | zero => simp
   | succ m ih =>
    rw [List.range_succ, List.filter_append, ih]
    by_cases e : m = i
    ·subst e; simp
    ·by_cases h : i < m
     ·rw [if_pos h, if_pos (by omega), List.filter_cons_of_neg (by simpa using e)]; rfl
     ·rw [if_neg h, if_neg (by omega), List.filter_cons_of_neg (by simpa using e)]; rfl
  rw [h2, if_pos hi]
 rw [this]
 rfl
theorem gOut_at {W : List ByteArray} {sz n i : Nat} (hW : ∀ b ∈ W, b.size = sz) (hn : W.length = n) (hn2 : n ≤ 160) (hi : i < n) (left : List Side) : (∀ s ∈ left, SatB W sz s.1 s.2 ∧ s.1 < 2 ^ n) → ∀ o : List ByteArray, o.length = n →
  (left.foldl gPut o).getD i ⟨#[]⟩ = (open Classical in if ∃ s ∈ left, s.1 = 2 ^ i then W.getD i (zeros sz) else o.getD i ⟨#[]⟩) := by
 classical
 induction left with
 | nil => intro _ o _; rw [if_neg (by simp)]; rfl
 | cons s left ih =>
  intro h o ho
  have hs := h s (List.mem_cons_self ..)
  rw [List.foldl_cons, ih (fun t ht => h t (List.mem_cons_of_mem _ ht)) _ (by rw [gPut_length]; exact ho)]
  by_cases h1 : ∃ t ∈ left, t.1 = 2 ^ i
  ·rw [if_pos h1, if_pos (by obtain ⟨t, h2, h3⟩ := h1; exact ⟨t, List.mem_cons_of_mem _ h2, h3⟩)]
  ·rw [if_neg h1]
   have hx : s.1 < 2 ^ 160 := Nat.lt_of_lt_of_le hs.2 (Nat.pow_le_pow_right (by decide) hn2)
   unfold gPut
   by_cases h2 : (bitsTo s.1 160).length = 1
   ·rw [if_pos h2]
    obtain ⟨j, hj, e1, e2⟩ := one_bit hx h2
    rw [e2, Int.toNat_natCast]
    have hjn : j < n := by
     rcases Nat.lt_or_ge j n with h | h
     ·exact h
     ·have := Nat.pow_le_pow_right (n := 2) (by decide) h
      rw [e1] at hs
      exact absurd hs.2 (by omega)
    have hb : s.2 = W.getD j (zeros sz) := by
     have := hs.1
     unfold SatB at this
     rw [this, e1, bsum_pow hW, if_pos (by omega)]
    by_cases e : j = i
    ·subst e
     rw [if_pos ⟨s, List.mem_cons_self .., e1⟩, List.getD_eq_getElem?_getD, List.getElem?_set_self (by omega), Option.getD_some, hb]
    ·rw [List.getD_eq_getElem?_getD, List.getElem?_set_ne e, ← List.getD_eq_getElem?_getD, if_neg]
     rintro ⟨t, ht, e3⟩
     rcases List.mem_cons.1 ht with rfl | ht
     ·rw [e1] at e3
      have h9 : (2 ^ j).testBit j = (2 ^ i).testBit j := by rw [e3]
      rw [Nat.testBit_two_pow, Nat.testBit_two_pow] at h9
      exact e (of_decide_eq_true (h9.symm.trans (decide_eq_true rfl))).symm
     ·exact h1 ⟨t, ht, e3⟩
   ·rw [if_neg h2, if_neg]
    rintro ⟨t, ht, e3⟩
    rcases List.mem_cons.1 ht with rfl | ht
    ·exact h2 (by rw [e3, pow_bits (by omega)]; rfl)
    ·exact h1 ⟨t, ht, e3⟩
def rowN (l : List S62) : List Nat := l.map (fun x => ofN x.f0)
theorem gauss_law {W : List ByteArray} {sz n : Nat} {l : List S62} (hW : ∀ b ∈ W, b.size = sz) (hn : W.length = n) (hn2 : n ≤ 160) (hs : ∀ x ∈ l, SatB W sz (ofN x.f0) x.f1 ∧ ofN x.f0 < 2 ^ n) :
  (∀ s ∈ (redN xop (l.map toSide) n).2, s.1 = 0 ∧ s.2 = zeros sz) ∧ (∀ s ∈ (redN xop (l.map toSide) n).1, s.1 < 2 ^ n) ∧
  ∀ i, i < n → (gOut n (redN xop (l.map toSide) n).1).getD i ⟨#[]⟩ = (open Classical in if Span (rowN l) (2 ^ i) then W.getD i (zeros sz) else ⟨#[]⟩) := by
 classical
 have hl : ∀ s ∈ l.map toSide, SatB W sz s.1 s.2 ∧ s.1 < 2 ^ n := fun s hs' => by
  obtain ⟨x, hx, rfl⟩ := List.mem_map.1 hs'
  exact hs x hx
 have hr : (l.map toSide).map (·.1) = rowN l := by unfold rowN; rw [List.map_map]; rfl
 obtain ⟨h1, h2, h3⟩ := redN_end (op := xop) (Sat := SatB W sz) (fun hx hy => SatB.xor hW hx hy) hl
 rw [hr] at h2 h3
 refine ⟨fun s hs' => ⟨(h1 s hs').1, ?_⟩, fun s hs' => (h2 s hs').2.1, fun i hi => ?_⟩
 ·have := (h1 s hs').2
  unfold SatB at this
  rw [this, bsum_zero]
 ·unfold gOut
  rw [gOut_at hW hn hn2 hi _ (fun s hs' => ⟨(h2 s hs').1, (h2 s hs').2.1⟩) _ (by simp)]
  by_cases h : Span (rowN l) (2 ^ i)
  ·rw [if_pos h, if_pos (h3 i h)]
  ·rw [if_neg h, if_neg]
   ·rw [List.getD_eq_getElem?_getD, List.getElem?_replicate, if_pos hi]
    rfl
   ·rintro ⟨s, hs', e⟩
    have := (h2 s hs').2.2
    rw [e] at this
    exact h this
end Go.Proofs.YtjmooillogojkaaGreat.Q
namespace Go.Proofs.YtjmooillogojkaaGreat.Q
open Go.Proofs.YtjmooillogojkaaGreatW.PrintWords
open Go.Proofs.YtjmooillogojkaaGreat
def hd (f : S62) : Int := f.f0.headD 0
def subE (p : S62) (out : List S62) : S62 := out.foldl (fun p g => if hd g ∈ p.f0 then addF p g else p) p
def elimE (p g : S62) : S62 := if hd p ∈ g.f0 then addF g p else g
def redE (sz : Nat) : List S62 → List S62 → Option (List S62)
 | out, [] => some out
 | out, f :: fs => if (subE f out).f0 = [] then (if (subE f out).f1 = zeros sz then redE sz out fs else none) else redE sz (out.map (elimE (subE f out)) ++ [subE f out]) fs
structure InvE (n : Nat) (out : List S62) : Prop where
 ok : ∀ g ∈ out, fOk n g
 ne : ∀ g ∈ out, g.f0 ≠ []
 pv : ∀ (a b : Nat) (x y : S62), out[a]? = some x → out[b]? = some y → (hd x ∈ y.f0 ↔ a = b)
theorem InvE.nil (n : Nat) : InvE n [] := ⟨fun g h => absurd h (by simp), fun g h => absurd h (by simp), fun a b x y h => by simp at h⟩
theorem hd_mem {g : S62} (h : g.f0 ≠ []) : hd g ∈ g.f0 := by
 unfold hd
 cases hg : g.f0 with
 | nil => exact absurd hg h
 | cons i l => simp
theorem rowOk_lt0 {n : Int} {l : List Int} (h : rowOk n l) : ∀ k (hk : k < l.length), l[0]'(by omega) ≤ l[k]
 | 0, _ => Int.le_refl _
 | k + 1, hk => by
  have h1 := rowOk_lt0 h k (by omega)
  have h2 := (h (k + 1) hk).2.2 k rfl
  omega
theorem hd_least {n : Nat} {g : S62} (h : fOk n g) {i : Int} (hi : i ∈ g.f0) : hd g ≤ i := by
 obtain ⟨l, d⟩ := g
 obtain ⟨k, hk, rfl⟩ := List.getElem_of_mem hi
 have h1 := rowOk_lt0 h.1 k hk
 cases l with
 | nil => simp at hk
 | cons i l => exact h1
theorem hd_is {n : Nat} {g : S62} (h : fOk n g) {i : Int} (hi : i ∈ g.f0) (hl : ∀ j ∈ g.f0, i ≤ j) : hd g = i := by
 have h1 := hd_least h hi
 have h2 := hl _ (hd_mem (fun e => by rw [e] at hi; simp at hi))
 omega
theorem subE_snoc (p : S62) (out : List S62) (g : S62) : subE p (out ++ [g]) = if hd g ∈ (subE p out).f0 then addF (subE p out) g else subE p out := by
 unfold subE
 rw [List.foldl_append]
 rfl
theorem subE_pre {n : Nat} {out : List S62} (h : InvE n out) {p : S62} (hp : fOk n p) : ∀ k, k ≤ out.length → fOk n (subE p (out.take k)) ∧ ∀ a x, a < k → out[a]? = some x → hd x ∉ (subE p (out.take k)).f0
 | 0, _ => ⟨by simpa [subE] using hp, fun a x h => absurd h (Nat.not_lt_zero _)⟩
 | k + 1, hk => by
  obtain ⟨h1, h2⟩ := subE_pre h hp k (by omega)
  have hkl : k < out.length := by omega
  have hg : out[k]? = some out[k] := List.getElem?_eq_getElem hkl
  have hgo := h.ok _ (List.getElem_mem hkl)
  rw [List.take_succ_eq_append_getElem hkl, subE_snoc]
  by_cases hc : hd out[k] ∈ (subE p (out.take k)).f0
  ·rw [if_pos hc]
   refine ⟨addF_ok h1 hgo, fun a x ha hx hm => ?_⟩
   have hm' := bothF_mem.1 hm
   by_cases e : a = k
   ·subst e
    rw [hg] at hx
    injection hx with hx
    subst hx
    rcases hm' with ⟨_, h4⟩ | ⟨_, h4⟩
    ·exact h4 ((h.pv a a _ _ hg hg).2 rfl)
    ·exact h4 hc
   ·have h5 : hd x ∉ out[k].f0 := fun h6 => e ((h.pv a k _ _ hx hg).1 h6)
    rcases hm' with ⟨h4, _⟩ | ⟨h4, _⟩
    ·exact h2 a x (by omega) hx h4
    ·exact h5 h4
  ·rw [if_neg hc]
   refine ⟨h1, fun a x ha hx hm => ?_⟩
   by_cases e : a = k
   ·subst e
    rw [hg] at hx
    injection hx with hx
    subst hx
    exact hc hm
   ·exact h2 a x (by omega) hx hm
theorem subE_ok {n : Nat} {out : List S62} (h : InvE n out) {p : S62} (hp : fOk n p) : fOk n (subE p out) ∧ ∀ g ∈ out, hd g ∉ (subE p out).f0 := by
 have := subE_pre h hp out.length (Nat.le_refl _)
 rw [List.take_length] at this
 refine ⟨this.1, fun g hg => ?_⟩
 obtain ⟨k, hk, rfl⟩ := List.getElem_of_mem hg
 exact this.2 k _ hk (List.getElem?_eq_getElem hk)
theorem elimE_ok {n : Nat} {p g : S62} (hp : fOk n p) (hg : fOk n g) (hpn : p.f0 ≠ []) (hgn : g.f0 ≠ []) (hgp : hd g ∉ p.f0) : fOk n (elimE p g) ∧ (elimE p g).f0 ≠ [] ∧ hd (elimE p g) = hd g ∧ hd p ∉ (elimE p g).f0 ∧ ∀ i, i ∉ p.f0 → (i ∈ (elimE p g).f0 ↔ i ∈ g.f0) := by
 unfold elimE
 by_cases hc : hd p ∈ g.f0
 ·rw [if_pos hc]
  have ho := addF_ok hg hp
  have hm : hd g ∈ (addF g p).f0 := bothF_mem.2 (.inl ⟨hd_mem hgn, hgp⟩)
  refine ⟨ho, fun e => by rw [e] at hm; simp at hm, hd_is ho hm (fun j hj => ?_), fun h => ?_, fun i hi => ⟨fun h => ?_, fun h => bothF_mem.2 (.inl ⟨h, hi⟩)⟩⟩
  ·rcases bothF_mem.1 hj with ⟨h, _⟩ | ⟨h, _⟩
   ·exact hd_least hg h
   ·exact Int.le_trans (hd_least hg hc) (hd_least hp h)
  ·rcases bothF_mem.1 h with ⟨_, h⟩ | ⟨_, h⟩
   ·exact h (hd_mem hpn)
   ·exact h hc
  ·rcases bothF_mem.1 h with ⟨h, _⟩ | ⟨h, _⟩
   ·exact h
   ·exact absurd h hi
 ·rw [if_neg hc]
  exact ⟨hg, hgn, rfl, hc, fun i _ => Iff.rfl⟩
theorem InvE.step {n : Nat} {out : List S62} (h : InvE n out) {p : S62} (hp : fOk n p) (hpn : p.f0 ≠ []) (hf : ∀ g ∈ out, hd g ∉ p.f0) : InvE n (out.map (elimE p) ++ [p]) := by
 have key : ∀ g ∈ out, _ := fun g hg => elimE_ok hp (h.ok g hg) hpn (h.ne g hg) (hf g hg)
 have hget : ∀ a x, (out.map (elimE p) ++ [p])[a]? = some x → (∃ g, out[a]? = some g ∧ g ∈ out ∧ x = elimE p g ∧ a < out.length) ∨ (a = out.length ∧ x = p) := by
  intro a x hx
  by_cases ha : a < out.length
  ·rw [List.getElem?_append_left (by simpa using ha), List.getElem?_map, List.getElem?_eq_getElem ha] at hx
   injection hx with hx
   exact .inl ⟨_, List.getElem?_eq_getElem ha, List.getElem_mem ha, hx.symm, ha⟩
  ·rw [List.getElem?_append_right (by simpa using ha), List.length_map] at hx
   have : a - out.length = 0 := by
    have := (List.getElem?_eq_some_iff.1 hx).1
    simp at this
    omega
   rw [this] at hx
   injection hx with hx
   exact .inr ⟨by omega, hx.symm⟩
 refine ⟨fun g hg => ?_, fun g hg => ?_, fun a b x y hx hy => ?_⟩
 ·rcases List.mem_append.1 hg with hg | hg
  ·obtain ⟨g', h1, rfl⟩ := List.mem_map.1 hg
   exact (key g' h1).1
  ·rw [List.mem_singleton.1 hg]; exact hp
 ·rcases List.mem_append.1 hg with hg | hg
  ·obtain ⟨g', h1, rfl⟩ := List.mem_map.1 hg
   exact (key g' h1).2.1
  ·rw [List.mem_singleton.1 hg]; exact hpn
 ·rcases hget a x hx with ⟨g, h1, h2, rfl, h3⟩ | ⟨rfl, rfl⟩
  ·rw [(key g h2).2.2.1]
   rcases hget b y hy with ⟨g', h4, h5, rfl, h6⟩ | ⟨rfl, rfl⟩
   ·rw [(key g' h5).2.2.2.2 _ (hf g h2)]
    exact h.pv a b g g' h1 h4
   ·exact ⟨fun h7 => absurd h7 (hf g h2), fun e => by omega⟩
  ·rcases hget b y hy with ⟨g', h4, h5, rfl, h6⟩ | ⟨rfl, rfl⟩
   ·exact ⟨fun h7 => absurd h7 (key g' h5).2.2.2.1, fun e => by omega⟩
   ·exact ⟨fun _ => rfl, fun _ => hd_mem hpn⟩
theorem redE_inv {n sz : Nat} : ∀ {L out res : List S62}, (∀ f ∈ L, fOk n f) → InvE n out → redE sz out L = some res → InvE n res
 | [], out, res, _, h, e => by
  unfold redE at e
  injection e with e
  rwa [← e]
 | f :: fs, out, res, hL, h, e => by
  have hs := subE_ok h (hL f (List.mem_cons_self ..))
  have hL' : ∀ f ∈ fs, fOk n f := fun g hg => hL g (List.mem_cons_of_mem _ hg)
  unfold redE at e
  by_cases h1 : (subE f out).f0 = []
  ·rw [if_pos h1] at e
   by_cases h2 : (subE f out).f1 = zeros sz
   ·rw [if_pos h2] at e
    exact redE_inv hL' h e
   ·rw [if_neg h2] at e
    exact absurd e (by simp)
  ·rw [if_neg h1] at e
   exact redE_inv hL' (h.step hs.1 h1 hs.2) e
theorem redE_len {sz : Nat} : ∀ {L out res : List S62}, redE sz out L = some res → res.length ≤ out.length + L.length
 | [], out, res, e => by
  unfold redE at e
  injection e with e
  rw [← e]
  exact Nat.le_add_right _ _
 | f :: fs, out, res, e => by
  unfold redE at e
  rw [List.length_cons]
  split at e
  ·split at e
   ·have := redE_len e
    omega
   ·exact absurd e (by simp)
  ·have := redE_len e
   rw [List.length_append, List.length_map, List.length_singleton] at this
   omega
end Go.Proofs.YtjmooillogojkaaGreat.Q
namespace Go.Proofs.YtjmooillogojkaaGreat.Q
open Go.Proofs.YtjmooillogojkaaGreatW.PrintWords
open Go.Proofs.YtjmooillogojkaaGreat
open Go.Proofs.YtjmooillogojkaaGreat.Lin
theorem snoc_ind {P : List Int → Prop} (h0 : P []) (h1 : ∀ l i, P l → P (l ++ [i])) (l : List Int) : P l := by
 have : ∀ l : List Int, P l.reverse := by
  intro l
  induction l with
  | nil => exact h0
  | cons i l ih => rw [List.reverse_cons]; exact h1 _ _ ih
 have h := this l.reverse
 rwa [List.reverse_reverse] at h
theorem ofN_bit (l : List Int) (h : ∀ i ∈ l, 0 ≤ i) (k : Nat) : (ofN l).testBit k = decide ((k : Int) ∈ l) := by
 have key : ∀ (l : List Int) (acc : Nat), (∀ i ∈ l, 0 ≤ i) → (l.foldl (fun acc i => acc ||| 2 ^ i.toNat) acc).testBit k = (acc.testBit k || decide ((k : Int) ∈ l)) := by
  intro l
  induction l with
  | nil => intro acc _; simp
  | cons i l ih =>
   intro acc h
   rw [List.foldl_cons, ih _ (fun j hj => h j (List.mem_cons_of_mem _ hj)), Nat.testBit_or, Nat.testBit_two_pow, Bool.or_assoc]
   congr 1
   have h0 := h i (List.mem_cons_self ..)
   by_cases e : i.toNat = k
   ·have : (k : Int) = i := by omega
    simp [e, this]
   ·have : (k : Int) ≠ i := by omega
    simp [e, this]
 have := key l 0 h
 rw [Nat.zero_testBit, Bool.false_or] at this
 exact this
theorem ofN_lt {n : Nat} {l : List Int} (h : ∀ i ∈ l, 0 ≤ i ∧ i < (n : Int)) : ofN l < 2 ^ n := by
 refine Nat.lt_pow_two_of_testBit _ (fun k hk => ?_)
 rw [ofN_bit l (fun i hi => (h i hi).1)]
 exact decide_eq_false (fun hm => by have := (h _ hm).2; omega)
theorem ofN_both {a b : List Int} (ha : ∀ i ∈ a, 0 ≤ i) (hb : ∀ i ∈ b, 0 ≤ i) : ofN (bothF a b) = ofN a ^^^ ofN b := by
 refine Nat.eq_of_testBit_eq (fun k => ?_)
 rw [Nat.testBit_xor, ofN_bit a ha, ofN_bit b hb, ofN_bit _ (fun i hi => by
  rcases bothF_mem.1 hi with ⟨h, _⟩ | ⟨h, _⟩
  ·exact ha i h
  ·exact hb i h)]
 have := bothF_mem (a := a) (b := b) (i := (k : Int))
 by_cases h1 : (k : Int) ∈ a <;> by_cases h2 : (k : Int) ∈ b <;> simp [h1, h2, this]
theorem ofN_add {l : List Int} {i : Int} (h : ∀ j ∈ l, 0 ≤ j) (hi : 0 ≤ i) (hn : i ∉ l) : ofN (l ++ [i]) = ofN l ^^^ 2 ^ i.toNat := by
 refine Nat.eq_of_testBit_eq (fun k => ?_)
 rw [Nat.testBit_xor, Nat.testBit_two_pow, ofN_bit _ (fun j hj => by
  rcases List.mem_append.1 hj with hj | hj
  ·exact h j hj
  ·rw [List.mem_singleton.1 hj]; exact hi), ofN_bit l h]
 by_cases e : i.toNat = k
 ·have : (k : Int) = i := by omega
  rw [this, decide_eq_true e, decide_eq_false hn, decide_eq_true (List.mem_append_right _ (List.mem_singleton.2 rfl))]
  rfl
 ·have : (k : Int) ≠ i := by omega
  rw [decide_eq_false e, Bool.xor_false]
  simp [this]
theorem ofN_nil : ofN [] = 0 := rfl
theorem ofN_zero {l : List Int} (h : ∀ i ∈ l, 0 ≤ i) (h0 : ofN l = 0) : l = [] := by
 cases l with
 | nil => rfl
 | cons i l =>
  have h1 := h i (List.mem_cons_self ..)
  have h2 := ofN_bit (i :: l) h i.toNat
  rw [h0, Nat.zero_testBit] at h2
  have h3 : ((i.toNat : Nat) : Int) = i := by omega
  rw [h3, decide_eq_true (List.mem_cons_self ..)] at h2
  exact absurd h2 (by decide)
def phi (F : List S62) (v : Nat) : Nat → Nat
 | 0 => 0
 | k + 1 => if v.testBit k then phi F v k ^^^ ofN (F.getD k z62).f0 else phi F v k
theorem phi_xor (F : List S62) (x y : Nat) : ∀ k, phi F (x ^^^ y) k = phi F x k ^^^ phi F y k
 | 0 => by simp [phi]
 | k + 1 => by
  unfold phi
  rw [Nat.testBit_xor, phi_xor F x y k]
  cases x.testBit k <;> cases y.testBit k <;> simp only [Bool.false_xor, Bool.true_xor, Bool.not_true, Bool.not_false, if_true, if_false, Bool.false_eq_true]
  ·rw [Nat.xor_assoc]
  ·rw [Nat.xor_assoc, Nat.xor_comm (phi F y k), ← Nat.xor_assoc]
  ·rw [xor_swap, Nat.xor_self, Nat.xor_zero]
theorem phi_zero (F : List S62) : ∀ k, phi F 0 k = 0
 | 0 => rfl
 | k + 1 => by
  unfold phi
  rw [Nat.zero_testBit, if_neg (by decide), phi_zero F k]
theorem phi_pow (F : List S62) (i : Nat) : ∀ k, phi F (2 ^ i) k = if i < k then ofN (F.getD i z62).f0 else 0
 | 0 => rfl
 | k + 1 => by
  unfold phi
  rw [phi_pow F i k, Nat.testBit_two_pow]
  by_cases e : i = k
  ·subst e
   rw [if_pos (decide_eq_true rfl), if_neg (Nat.lt_irrefl _), if_pos (Nat.lt_succ_self _), Nat.zero_xor]
  ·rw [if_neg (by simpa using e)]
   by_cases h : i < k
   ·rw [if_pos h, if_pos (Nat.lt_succ_of_lt h)]
   ·rw [if_neg h, if_neg (by omega)]
theorem phi_congr {F F' : List S62} {v : Nat} : ∀ k, (∀ j, j < k → v.testBit j = true → F.getD j z62 = F'.getD j z62) → phi F v k = phi F' v k
 | 0, _ => rfl
 | k + 1, h => by
  unfold phi
  rw [phi_congr k (fun j hj => h j (Nat.lt_succ_of_lt hj))]
  by_cases e : v.testBit k = true
  ·rw [if_pos e, if_pos e, h k (Nat.lt_succ_self k) e]
  ·rw [if_neg e, if_neg e]
theorem psi_span {R : List Nat} {F : List S62} {n : Nat} : ∀ (l : List Int), l.Nodup → (∀ i ∈ l, 0 ≤ i ∧ i < (n : Int) ∧ Span R (2 ^ i.toNat ^^^ ofN (F.getD i.toNat z62).f0)) → Span R (ofN l ^^^ phi F (ofN l) n) := by
 refine snoc_ind ?_ ?_
 ·intro _ _; rw [ofN_nil, phi_zero]; exact .zero
 ·intro l i ih hn h
  rw [List.nodup_append] at hn
  have hi := h i (List.mem_append_right _ (List.mem_singleton.2 rfl))
  have hni : i ∉ l := fun hm => hn.2.2 i hm i (List.mem_singleton.2 rfl) rfl
  rw [ofN_add (fun j hj => (h j (List.mem_append_left _ hj)).1) hi.1 hni, phi_xor, phi_pow, if_pos (by omega), xor_swap]
  exact (ih hn.1 (fun j hj => h j (List.mem_append_left _ hj))).xor hi.2.2
theorem filter_snoc' {p : Int → Bool} (l : List Int) (i : Int) : (l ++ [i]).filter p = if p i then l.filter p ++ [i] else l.filter p := by
 rw [List.filter_append]
 cases h : p i <;> simp [h]
theorem acc_law {W : List ByteArray} {sz n : Nat} {F : List S62} {but : Int} (hW : ∀ b ∈ W, b.size = sz) (hF : ∀ f ∈ F, fOk n f) {a : S62} {y : Nat} (ha : fOk n a) (hy : SatB W sz y a.f1) : ∀ (l : List Int), l.Nodup → (∀ i ∈ l, 0 ≤ i ∧ i < (n : Int) ∧ (i ≠ but → SatB W sz (2 ^ i.toNat ^^^ ofN (F.getD i.toNat z62).f0) (F.getD i.toNat z62).f1)) →
  ofN (accF F but a l).f0 = ofN a.f0 ^^^ phi F (ofN (l.filter (· ≠ but))) n ∧ SatB W sz (y ^^^ (ofN (l.filter (· ≠ but)) ^^^ phi F (ofN (l.filter (· ≠ but))) n)) (accF F but a l).f1 := by
 refine snoc_ind ?_ ?_
 ·intro _ _
  rw [List.filter_nil, ofN_nil, phi_zero, Nat.xor_zero, Nat.xor_zero, Nat.xor_zero]
  exact ⟨rfl, hy⟩
 ·intro l i ih hn h
  rw [List.nodup_append] at hn
  obtain ⟨h1, h2⟩ := ih hn.1 (fun j hj => h j (List.mem_append_left _ hj))
  have hi := h i (List.mem_append_right _ (List.mem_singleton.2 rfl))
  rw [accF_snoc, filter_snoc']
  by_cases e : i = but
  ·rw [if_pos e, if_neg (by simp [e])]
   exact ⟨h1, h2⟩
  ·rw [if_neg e, if_pos (by simpa using e)]
   have hni : i ∉ l.filter (· ≠ but) := fun hm => hn.2.2 i (List.mem_filter.1 hm).1 i (List.mem_singleton.2 rfl) rfl
   have hnn : ∀ j ∈ l.filter (· ≠ but), 0 ≤ j := fun j hj => (h j (List.mem_append_left _ (List.mem_filter.1 hj).1)).1
   have hao := accF_ok (but := but) hF ha l
   have hfi : fOk n (F.getD i.toNat z62) := by
    rw [List.getD_eq_getElem?_getD]
    cases h : F[i.toNat]? with
    | none => exact z62_ok n
    | some f => exact hF f (List.mem_of_getElem? h)
   rw [ofN_add hnn hi.1 hni, phi_xor, phi_pow, if_pos (by omega)]
   constructor
   ·show ofN (bothF _ _) = _
    rw [ofN_both (fun j hj => (rowOk_in hao.1 j hj).1) (fun j hj => (rowOk_in hfi.1 j hj).1), h1, Nat.xor_assoc]
   ·have := SatB.xor hW h2 (hi.2.2 e)
    rw [xor_swap, ← Nat.xor_assoc]
    exact this
end Go.Proofs.YtjmooillogojkaaGreat.Q
