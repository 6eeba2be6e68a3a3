/- Plain: the steps of inact.begin keep what the forms say; Plain: what inact.Solve answers. No condition. -/
import Derived.Test.YtjmooillogojkaaGreatM47
set_option maxHeartbeats 8000000
set_option maxRecDepth 100000
set_option linter.unusedVariables false
set_option linter.unusedSimpArgs false
namespace Go.Proofs.YtjmooillogojkaaGreat.Q
open Go.Proofs.YtjmooillogojkaaGreatW.PrintWords
open Go.Proofs.YtjmooillogojkaaGreat
open Go.Proofs.YtjmooillogojkaaGreat.Lin
structure FInv (W : List ByteArray) (sz n : Nat) (l : List S62) (F : List S62) (D s : List Bool) : Prop where
 fl : F.length = n
 dl : D.length = l.length
 sl : s.length = n
 ok : ∀ f ∈ F, fOk n f
 kn : ∀ j : Nat, j < n → known s (j : Int) → Span (rowN l) (2 ^ j ^^^ ofN (F.getD j z62).f0) ∧ SatB W sz (2 ^ j ^^^ ofN (F.getD j z62).f0) (F.getD j z62).f1
 un : ∀ j : Nat, j < n → ¬ known s (j : Int) → F.getD j z62 = z62
 us : ∀ k, k < l.length → D.getD k false = true → (∀ j ∈ (l.getD k z62).f0, known s j) ∧ phi F (ofN (l.getD k z62).f0) n = 0
theorem set_getD {α : Type} (l : List α) (i j : Nat) (x z : α) (hi : i < l.length) : (l.set i x).getD j z = if j = i then x else l.getD j z := by
 rw [List.getD_eq_getElem?_getD, List.getD_eq_getElem?_getD]
 by_cases e : j = i
 ·subst e; rw [List.getElem?_set_self hi, if_pos rfl]; rfl
 ·rw [List.getElem?_set_ne (fun h => e h.symm), if_neg e]
theorem xor_cancel (a b c : Nat) : (a ^^^ b) ^^^ (a ^^^ c) = b ^^^ c := by rw [xor_swap, Nat.xor_self, Nat.zero_xor]
theorem ofN_without {l : List Int} {i : Nat} (h : ∀ j ∈ l, 0 ≤ j) (hi : (i : Int) ∈ l) : ofN l = ofN (l.filter (· ≠ (i : Int))) ^^^ 2 ^ i := by
 refine Nat.eq_of_testBit_eq (fun k => ?_)
 rw [Nat.testBit_xor, Nat.testBit_two_pow, ofN_bit l h, ofN_bit _ (fun j hj => h j (List.mem_filter.1 hj).1)]
 by_cases e : i = k
 ·subst e
  rw [decide_eq_true hi, decide_eq_true rfl, decide_eq_false (fun hm => by simp at hm)]
  rfl
 ·rw [decide_eq_false e, Bool.xor_false]
  have : (k : Int) ≠ (i : Int) := by omega
  by_cases h1 : (k : Int) ∈ l
  ·rw [decide_eq_true h1, decide_eq_true (List.mem_filter.2 ⟨h1, by simpa using this⟩)]
  ·rw [decide_eq_false h1, decide_eq_false (fun hm => h1 (List.mem_filter.1 hm).1)]
section
variable {W : List ByteArray} {sz n : Nat} {l : List S62} (hW : ∀ b ∈ W, b.size = sz) (hl : ∀ x ∈ l, fOk n x ∧ SatB W sz (ofN x.f0) x.f1)
include hW hl
theorem FInv.step {F : List S62} {D s : List Bool} (h : FInv W sz n l F D s) {k : Nat} {i : Int} (hk : k < l.length) (hr : Ripe (l.getD k z62).f0 s i) : FInv W sz n l (stepF l (F, D) ⟨(k : Int), i⟩).1 (stepF l (F, D) ⟨(k : Int), i⟩).2 (s.set i.toNat true) := by
 obtain ⟨x, hx⟩ : ∃ x, x = l.getD k z62 := ⟨_, rfl⟩
 have hxl : x ∈ l := by
  rw [hx, List.getD_eq_getElem?_getD, List.getElem?_eq_getElem hk]
  exact List.getElem_mem hk
 obtain ⟨hxo, hxs⟩ := hl x hxl
 rw [← hx] at hr
 obtain ⟨hi, hik, hio⟩ := hr
 have hin := rowOk_in hxo.1
 obtain ⟨hi0, hi1⟩ := hin i hi
 obtain ⟨ii, rfl⟩ := Int.eq_ofNat_of_zero_le hi0
 have hii : ii < n := by omega
 obtain ⟨l', hl'⟩ : ∃ l', l' = x.f0.filter (· ≠ (ii : Int)) := ⟨_, rfl⟩
 have hnd := rowOk_nodup hxo.1
 have hkj : ∀ j ∈ x.f0, j ≠ (ii : Int) → known s j := hio
 obtain ⟨new, hnew⟩ : ∃ f, f = sumF F x (ii : Int) := ⟨_, rfl⟩
 have hacc := acc_law (F := F) (but := (ii : Int)) hW h.ok (a := ⟨[], x.f1⟩) (y := ofN x.f0) ⟨fun k hk => absurd hk (Nat.not_lt_zero _), hxo.2⟩ hxs x.f0 hnd (fun j hj => ⟨(hin j hj).1, (hin j hj).2, fun e => by
  obtain ⟨jj, rfl⟩ := Int.eq_ofNat_of_zero_le (hin j hj).1
  rw [Int.toNat_natCast]
  exact (h.kn jj (by have := (hin _ hj).2; omega) (hkj _ hj e)).2⟩)
 rw [← hl'] at hacc
 have hno : fOk n new := by
  rw [hnew]
  exact accF_ok h.ok (a := ⟨[], x.f1⟩) ⟨fun k hk => absurd hk (Nat.not_lt_zero _), hxo.2⟩ _
 have e0 : accF F (ii : Int) ⟨[], x.f1⟩ x.f0 = new := hnew.symm
 rw [e0] at hacc
 obtain ⟨hN, hS⟩ := hacc
 have hN' : ofN new.f0 = phi F (ofN l') n := by rw [hN]; show 0 ^^^ _ = _; rw [Nat.zero_xor]
 have hwo := ofN_without (fun j hj => (hin j hj).1) hi
 rw [← hl'] at hwo
 have hcan : ofN x.f0 ^^^ (ofN l' ^^^ phi F (ofN l') n) = 2 ^ ii ^^^ ofN new.f0 := by rw [hwo, xor_cancel, hN']
 rw [hcan] at hS
 have hmem' : ∀ j ∈ l', j ∈ x.f0 ∧ j ≠ (ii : Int) := fun j hj => by
  rw [hl'] at hj
  have := List.mem_filter.1 hj
  exact ⟨this.1, by simpa using this.2⟩
 have hpsi := psi_span (R := rowN l) (F := F) (n := n) l' (by rw [hl']; exact hnd.filter _) (fun j hj => by
  obtain ⟨h1, h2⟩ := hmem' j hj
  refine ⟨(hin j h1).1, (hin j h1).2, ?_⟩
  obtain ⟨jj, rfl⟩ := Int.eq_ofNat_of_zero_le (hin j h1).1
  rw [Int.toNat_natCast]
  exact (h.kn jj (by have := (hin _ h1).2; omega) (hkj _ h1 h2)).1)
 have hsp : Span (rowN l) (2 ^ ii ^^^ ofN new.f0) := by
  rw [← hcan]
  exact (Span.one (List.mem_map.2 ⟨x, hxl, rfl⟩)).xor hpsi
 have hst : stepF l (F, D) ⟨(k : Int), (ii : Int)⟩ = (F.set ii new, D.set k true) := by
  simp only [stepF, Int.toNat_natCast]
  rw [← hx, ← hnew]
 rw [hst, Int.toNat_natCast]
 have hget : ∀ j, (F.set ii new).getD j z62 = if j = ii then new else F.getD j z62 := fun j => set_getD F ii j new z62 (by rw [h.fl]; exact hii)
 have hkn : ∀ j : Nat, known (s.set ii true) (j : Int) ↔ (j : Int) = (ii : Int) ∨ known s (j : Int) := fun j => by
  have := known_set (s := s) hi0 (by rw [h.sl]; exact hi1) (j : Int) (Int.natCast_nonneg j)
  rwa [Int.toNat_natCast] at this
 refine ⟨by rw [List.length_set]; exact h.fl, by rw [List.length_set]; exact h.dl, by rw [List.length_set]; exact h.sl, fun f hf => ?_, fun j hj hkj' => ?_, fun j hj hkj' => ?_, fun k' hk' hd => ?_⟩
 ·rcases List.mem_or_eq_of_mem_set hf with hf | rfl
  ·exact h.ok f hf
  ·exact hno
 ·show Span _ (2 ^ j ^^^ ofN ((F.set ii new).getD j z62).f0) ∧ SatB W sz (2 ^ j ^^^ ofN ((F.set ii new).getD j z62).f0) ((F.set ii new).getD j z62).f1
  rw [hget]
  by_cases e : j = ii
  ·subst e
   rw [if_pos rfl]
   exact ⟨hsp, hS⟩
  ·rw [if_neg e]
   rcases (hkn j).1 hkj' with e2 | e2
   ·exact absurd (by omega) e
   ·exact h.kn j hj e2
 ·show (F.set ii new).getD j z62 = z62
  rw [hget]
  by_cases e : j = ii
  ·exact absurd ((hkn j).2 (.inl (by rw [e]))) hkj'
  ·rw [if_neg e]
   exact h.un j hj (fun e2 => hkj' ((hkn j).2 (.inr e2)))
 ·show (∀ j ∈ (l.getD k' z62).f0, known (s.set ii true) j) ∧ phi (F.set ii new) (ofN (l.getD k' z62).f0) n = 0
  replace hd : (D.set k true).getD k' false = true := hd
  rw [set_getD D k k' true false (by rw [h.dl]; exact hk)] at hd
  by_cases e : k' = k
  ·subst e
   rw [← hx]
   refine ⟨fun j hj => ?_, ?_⟩
   ·obtain ⟨jj, rfl⟩ := Int.eq_ofNat_of_zero_le (hin j hj).1
    refine (hkn jj).2 ?_
    by_cases e2 : (jj : Int) = (ii : Int)
    ·exact .inl e2
    ·exact .inr (hkj _ hj e2)
   ·rw [hwo, phi_xor, phi_pow, if_pos hii, hget, if_pos rfl, hN']
    rw [phi_congr (F := F.set ii new) (F' := F) n (fun j hj hb => ?_), Nat.xor_self]
    rw [hget, if_neg]
    intro e2
    rw [ofN_bit l' (fun j hj => (hin j (hmem' j hj).1).1), e2] at hb
    exact (hmem' _ (of_decide_eq_true hb)).2 rfl
  ·rw [if_neg e] at hd
   obtain ⟨h1, h2⟩ := h.us k' hk' hd
   have hkl : l.getD k' z62 ∈ l := by
    rw [List.getD_eq_getElem?_getD, List.getElem?_eq_getElem hk']
    exact List.getElem_mem hk'
   have hin' := rowOk_in (hl _ hkl).1.1
   refine ⟨fun j hj => ?_, ?_⟩
   ·obtain ⟨jj, rfl⟩ := Int.eq_ofNat_of_zero_le (hin' j hj).1
    exact (hkn jj).2 (.inr (h1 _ hj))
   ·rw [phi_congr (F := F.set ii new) (F' := F) n (fun j hj hb => ?_), h2]
    rw [hget, if_neg]
    intro e2
    rw [ofN_bit _ (fun j hj => (hin' j hj).1), e2] at hb
    exact hik (h1 _ (of_decide_eq_true hb))
theorem FInv.steps {s s' : List Bool} {st : List S123} (hp : Peel (l.map (·.f0)) s st s') : ∀ {F : List S62} {D : List Bool}, FInv W sz n l F D s → FInv W sz n l (stepsF l (F, D) st).1 (stepsF l (F, D) st).2 s' := by
 induction hp with
 | done _ => exact fun h => h
 | step hk hr _ ih =>
  rename_i s s' st k i hp
  intro F D h
  have hk' : k < l.length := by simpa using hk
  have hr' : Ripe (l.getD k z62).f0 s i := by
   rw [List.getElem_map] at hr
   rw [List.getD_eq_getElem?_getD, List.getElem?_eq_getElem hk']
   exact hr
  have := ih (h.step hW hl hk' hr')
  exact this
end
theorem fOk_pos {n : Nat} {f : S62} (h : fOk n f) : ∀ i ∈ f.f0, 0 ≤ i := fun i hi => (rowOk_in h.1 i hi).1
theorem addF_N {n : Nat} {x y : S62} (hx : fOk n x) (hy : fOk n y) : ofN (addF x y).f0 = ofN x.f0 ^^^ ofN y.f0 := ofN_both (fOk_pos hx) (fOk_pos hy)
section
variable {W : List ByteArray} {sz n : Nat} (hW : ∀ b ∈ W, b.size = sz)
include hW
theorem sub_law : ∀ (out : List S62), (∀ g ∈ out, fOk n g ∧ SatB W sz (ofN g.f0) g.f1) → ∀ p, fOk n p → ∃ c, Span (rowN out) c ∧ ofN (subE p out).f0 = ofN p.f0 ^^^ c ∧ ∀ y, SatB W sz y p.f1 → SatB W sz (y ^^^ c) (subE p out).f1
 | [], _, p, _ => ⟨0, .zero, by simp [subE], fun y h => by rw [Nat.xor_zero]; exact h⟩
 | g :: out, h, p, hp => by
  have hg := h g (List.mem_cons_self ..)
  have hs : ∀ r ∈ rowN out, Span (rowN (g :: out)) r := fun r hr => .one (List.mem_cons_of_mem _ hr)
  have hgm : ofN g.f0 ∈ rowN (g :: out) := List.mem_cons_self ..
  by_cases hc : hd g ∈ p.f0
  ·obtain ⟨c, h1, h2, h3⟩ := sub_law out (fun x hx => h x (List.mem_cons_of_mem _ hx)) (addF p g) (addF_ok hp hg.1)
   have e : subE p (g :: out) = subE (addF p g) out := by unfold subE; rw [List.foldl_cons, if_pos hc]
   refine ⟨ofN g.f0 ^^^ c, .add hgm (h1.sub hs), ?_, fun y hy => ?_⟩
   ·rw [e, h2, addF_N hp hg.1, Nat.xor_assoc]
   ·rw [e, ← Nat.xor_assoc]
    exact h3 _ (SatB.xor hW hy hg.2)
  ·obtain ⟨c, h1, h2, h3⟩ := sub_law out (fun x hx => h x (List.mem_cons_of_mem _ hx)) p hp
   have e : subE p (g :: out) = subE p out := by unfold subE; rw [List.foldl_cons, if_neg hc]
   exact ⟨c, h1.sub hs, by rw [e, h2], fun y hy => by rw [e]; exact h3 y hy⟩
theorem redE_law : ∀ (L out : List S62), (∀ f ∈ L, fOk n f ∧ SatB W sz (ofN f.f0) f.f1) → InvE n out → (∀ g ∈ out, SatB W sz (ofN g.f0) g.f1) →
  ∃ res, redE sz out L = some res ∧ InvE n res ∧ (∀ g ∈ res, SatB W sz (ofN g.f0) g.f1) ∧ ∀ v, Span (rowN res) v ↔ Span (rowN out ++ rowN L) v
 | [], out, _, hi, ho => ⟨out, rfl, hi, ho, fun v => by simp [rowN]⟩
 | f :: fs, out, hL, hi, ho => by
  have hf := hL f (List.mem_cons_self ..)
  have hL' : ∀ f ∈ fs, fOk n f ∧ SatB W sz (ofN f.f0) f.f1 := fun g hg => hL g (List.mem_cons_of_mem _ hg)
  have hoo : ∀ g ∈ out, fOk n g ∧ SatB W sz (ofN g.f0) g.f1 := fun g hg => ⟨hi.ok g hg, ho g hg⟩
  obtain ⟨c, h1, h2, h3⟩ := sub_law hW out hoo f hf.1
  obtain ⟨hs1, hs2⟩ := subE_ok hi hf.1
  have hsat := h3 _ hf.2
  rw [← h2] at hsat
  unfold redE
  obtain ⟨p, hp⟩ : ∃ p, p = subE f out := ⟨_, rfl⟩
  rw [← hp] at h2 hs1 hs2 hsat ⊢
  have hfp : ofN f.f0 = ofN p.f0 ^^^ c := by rw [h2, back_xor]
  by_cases hpn : p.f0 = []
  ·have hz : p.f1 = zeros sz := by
    unfold SatB at hsat
    rw [hsat, hpn, ofN_nil, bsum_zero]
   rw [if_pos hpn, if_pos hz]
   obtain ⟨res, e1, e2, e3, e4⟩ := redE_law fs out hL' hi ho
   refine ⟨res, e1, e2, e3, fun v => (e4 v).trans ⟨fun h => h.sub (fun r hr => ?_), fun h => h.sub (fun r hr => ?_)⟩⟩
   ·rcases List.mem_append.1 hr with hr | hr
    ·exact .one (List.mem_append_left _ hr)
    ·exact .one (List.mem_append_right _ (List.mem_cons_of_mem _ hr))
   ·rcases List.mem_append.1 hr with hr | hr
    ·exact .one (List.mem_append_left _ hr)
    ·rcases List.mem_cons.1 hr with rfl | hr
     ·show Span _ (ofN f.f0)
      rw [hfp, hpn, ofN_nil, Nat.zero_xor]
      exact h1.sub (fun r hr => .one (List.mem_append_left _ hr))
     ·exact .one (List.mem_append_right _ hr)
  ·rw [if_neg hpn]
   have key : ∀ g ∈ out, ofN (elimE p g).f0 = (if hd p ∈ g.f0 then ofN g.f0 ^^^ ofN p.f0 else ofN g.f0) ∧ SatB W sz (ofN (elimE p g).f0) (elimE p g).f1 := fun g hg => by
    unfold elimE
    by_cases h : hd p ∈ g.f0
    ·rw [if_pos h, if_pos h, addF_N (hi.ok g hg) hs1]
     exact ⟨rfl, SatB.xor hW (ho g hg) hsat⟩
    ·rw [if_neg h, if_neg h]
     exact ⟨rfl, ho g hg⟩
   obtain ⟨res, e1, e2, e3, e4⟩ := redE_law fs (out.map (elimE p) ++ [p]) hL' (hi.step hs1 hpn hs2) (fun g hg => by
    rcases List.mem_append.1 hg with hg | hg
    ·obtain ⟨g', h, rfl⟩ := List.mem_map.1 hg
     exact (key g' h).2
    ·rw [List.mem_singleton.1 hg]; exact hsat)
   have hpS : Span (rowN out ++ rowN (f :: fs)) (ofN p.f0) := by
    rw [h2]
    exact (Span.one (List.mem_append_right _ (List.mem_cons_self ..))).xor (h1.sub (fun r hr => .one (List.mem_append_left _ hr)))
   have hpm : ofN p.f0 ∈ rowN (out.map (elimE p) ++ [p]) ++ rowN fs := List.mem_append_left _ (List.mem_map.2 ⟨p, List.mem_append_right _ (List.mem_singleton.2 rfl), rfl⟩)
   have hback : ∀ g ∈ out, Span (rowN (out.map (elimE p) ++ [p]) ++ rowN fs) (ofN g.f0) := fun g hg => by
    have hm : ofN (elimE p g).f0 ∈ rowN (out.map (elimE p) ++ [p]) ++ rowN fs := List.mem_append_left _ (List.mem_map.2 ⟨elimE p g, List.mem_append_left _ (List.mem_map_of_mem hg), rfl⟩)
    have hk := (key g hg).1
    by_cases h : hd p ∈ g.f0
    ·rw [if_pos h] at hk
     have : ofN g.f0 = ofN (elimE p g).f0 ^^^ ofN p.f0 := by rw [hk, back_xor]
     rw [this]
     exact (Span.one hm).xor (.one hpm)
    ·rw [if_neg h] at hk
     rw [← hk]
     exact .one hm
   refine ⟨res, e1, e2, e3, fun v => (e4 v).trans ⟨fun h => h.sub (fun r hr => ?_), fun h => h.sub (fun r hr => ?_)⟩⟩
   ·rcases List.mem_append.1 hr with hr | hr
    ·obtain ⟨g', hg', rfl⟩ := List.mem_map.1 hr
     rcases List.mem_append.1 hg' with hg' | hg'
     ·obtain ⟨g, hg, rfl⟩ := List.mem_map.1 hg'
      have hgS : Span (rowN out ++ rowN (f :: fs)) (ofN g.f0) := .one (List.mem_append_left _ (List.mem_map.2 ⟨g, hg, rfl⟩))
      show Span _ (ofN (elimE p g).f0)
      rw [(key g hg).1]
      split
      ·exact hgS.xor hpS
      ·exact hgS
     ·rw [List.mem_singleton.1 hg']
      exact hpS
    ·exact .one (List.mem_append_right _ (List.mem_cons_of_mem _ hr))
   ·rcases List.mem_append.1 hr with hr | hr
    ·obtain ⟨g, hg, rfl⟩ := List.mem_map.1 hr
     exact hback g hg
    ·rcases List.mem_cons.1 hr with rfl | hr
     ·show Span _ (ofN f.f0)
      rw [hfp]
      exact (Span.one hpm).xor (h1.sub (fun r hr => by
       obtain ⟨g, hg, rfl⟩ := List.mem_map.1 hr
       exact hback g hg))
     ·exact .one (List.mem_append_right _ hr)
end
theorem InvE.piv {n : Nat} {res : List S62} (h : InvE n res) : Piv (rowN res) (res.map (fun g => (hd g).toNat)) := by
 refine ⟨by simp [rowN], fun a b x p ha hb => ?_⟩
 unfold rowN at ha
 rw [List.getElem?_map] at ha hb
 obtain ⟨g, hg, rfl⟩ := Option.map_eq_some_iff.1 ha
 obtain ⟨g', hg', rfl⟩ := Option.map_eq_some_iff.1 hb
 have hm := List.mem_of_getElem? hg
 have hm' := List.mem_of_getElem? hg'
 have h0 := fOk_pos (h.ok _ hm') _ (hd_mem (h.ne _ hm'))
 rw [ofN_bit _ (fOk_pos (h.ok _ hm)), Int.toNat_of_nonneg h0]
 have := h.pv b a g' g hg' hg
 by_cases e : a = b
 ·rw [decide_eq_true e, decide_eq_true (this.2 e.symm)]
 ·rw [decide_eq_false e, decide_eq_false (fun h2 => e (this.1 h2).symm)]
theorem sub_nil {W : List ByteArray} {sz n : Nat} (hW : ∀ b ∈ W, b.size = sz) {res : List S62} (h : InvE n res) (hs : ∀ g ∈ res, SatB W sz (ofN g.f0) g.f1) {p : S62} (hp : fOk n p) : (subE p res).f0 = [] ↔ Span (rowN res) (ofN p.f0) := by
 obtain ⟨c, h1, h2, _⟩ := sub_law hW res (fun g hg => ⟨h.ok g hg, hs g hg⟩) p hp
 obtain ⟨h3, h4⟩ := subE_ok h hp
 constructor
 ·intro e
  rw [e, ofN_nil] at h2
  have : ofN p.f0 = c := by
   have h9 : 0 ^^^ c = (ofN p.f0 ^^^ c) ^^^ c := by rw [← h2]
   rw [back_xor, Nat.zero_xor] at h9
   exact h9.symm
  rw [this]
  exact h1
 ·intro hsp
  refine ofN_zero (fOk_pos h3) (h.piv.free (h2 ▸ hsp.xor h1) (fun q hq => ?_))
  obtain ⟨g, hg, rfl⟩ := List.mem_map.1 hq
  rw [ofN_bit _ (fOk_pos h3), Int.toNat_of_nonneg (fOk_pos (h.ok g hg) _ (hd_mem (h.ne g hg)))]
  exact decide_eq_false (h4 g hg)
theorem sub_z62 : ∀ (res : List S62), subE z62 res = z62
 | [] => rfl
 | g :: res => by
  have e : subE z62 (g :: res) = subE z62 res := by unfold subE; rw [List.foldl_cons, if_neg (by simp [z62])]
  rw [e, sub_z62 res]
theorem unkF_len (sz : Nat) : ∀ (U : List Int) (F : List S62), (unkF sz F U).length = F.length
 | [], _ => rfl
 | i :: U, F => by
  show (unkF sz (F.set i.toNat _) U).length = _
  rw [unkF_len sz U, List.length_set]
theorem unkF_get (sz : Nat) {n : Nat} : ∀ (U : List Int) (F : List S62), F.length = n → (∀ i ∈ U, 0 ≤ i ∧ i < (n : Int)) → ∀ j : Nat, (unkF sz F U).getD j z62 = if (j : Int) ∈ U then ⟨[(j : Int)], zeros sz⟩ else F.getD j z62
 | [], F, _, _, j => by simp [unkF]
 | i :: U, F, hF, h, j => by
  have hi := h i (List.mem_cons_self ..)
  show (unkF sz (F.set i.toNat ⟨[i], zeros sz⟩) U).getD j z62 = _
  rw [unkF_get sz U _ (by rw [List.length_set]; exact hF) (fun k hk => h k (List.mem_cons_of_mem _ hk)) j]
  by_cases h1 : (j : Int) ∈ U
  ·rw [if_pos h1, if_pos (List.mem_cons_of_mem _ h1)]
  ·rw [if_neg h1, set_getD _ _ _ _ _ (by omega)]
   by_cases e : j = i.toNat
   ·have : (j : Int) = i := by omega
    rw [if_pos e, if_pos (by rw [this]; exact List.mem_cons_self ..), this]
   ·rw [if_neg e, if_neg]
    intro hm
    rcases List.mem_cons.1 hm with h2 | h2
    ·omega
    ·exact h1 h2
theorem restK_mem {F : List S62} {D : List Bool} {l : List S62} : ∀ (m : Nat) (f : S62), f ∈ restK F D l m ↔ ∃ k, k < m ∧ D.getD k false ≠ true ∧ f = sumF F (l.getD k z62) (-1)
 | 0, f => by simp [restK]
 | m + 1, f => by
  unfold restK
  have ih := restK_mem (F := F) (D := D) (l := l) m f
  by_cases h : D.getD m false = true
  ·rw [if_pos h, ih]
   constructor
   ·rintro ⟨k, h1, h2⟩
    exact ⟨k, by omega, h2⟩
   ·rintro ⟨k, h1, h2, h3⟩
    refine ⟨k, ?_, h2, h3⟩
    rcases Nat.lt_or_ge k m with h4 | h4
    ·exact h4
    ·have : k = m := by omega
     subst this
     exact absurd h h2
  ·rw [if_neg h, List.mem_append, ih, List.mem_singleton]
   constructor
   ·rintro (⟨k, h1, h2⟩ | rfl)
    ·exact ⟨k, by omega, h2⟩
    ·exact ⟨m, by omega, h, rfl⟩
   ·rintro ⟨k, h1, h2, h3⟩
    rcases Nat.lt_or_ge k m with h4 | h4
    ·exact .inl ⟨k, h4, h2, h3⟩
    ·have : k = m := by omega
     subst this
     exact .inr h3
theorem inact_law {W : List ByteArray} {sz n : Nat} {l : List S62} {U : List Int} {st : List S123} {s s' : List Bool} (hW : ∀ b ∈ W, b.size = sz) (hn : W.length = n) (h64 : sz ≤ 64) (hl : ∀ x ∈ l, fOk n x ∧ SatB W sz (ofN x.f0) x.f1) (h : Sol n sz l U st s s') :
  ∃ res, redE sz [] (restK (fin0 n sz l U st).1 (fin0 n sz l U st).2 l l.length) = some res ∧ (fin0 n sz l U st).1.length = n ∧ ∀ i, i < n → solF res ((fin0 n sz l U st).1.getD i z62) = (open Classical in if Span (rowN l) (2 ^ i) then W.getD i (zeros sz) else ⟨#[]⟩) := by
 classical
 have hU : ∀ i ∈ U, 0 ≤ i ∧ i < (n : Int) := rowOk_in h.unk.1
 have hF0 := fun j => unkF_get sz (n := n) U (List.replicate n z62) (List.length_replicate) hU j
 have hrep : ∀ j, (List.replicate n z62).getD j z62 = z62 := fun j => by
  rw [List.getD_eq_getElem?_getD, List.getElem?_replicate]
  split <;> rfl
 have h0 : FInv W sz n l (unkF sz (List.replicate n z62) U) (List.replicate l.length false) s := by
  refine ⟨by rw [unkF_len, List.length_replicate], List.length_replicate, h.len, fun f hf => ?_, fun j hj hk => ?_, fun j hj hk => ?_, fun k hk hd => ?_⟩
  ·obtain ⟨k, hk, rfl⟩ := List.getElem_of_mem hf
   have h1 := hF0 k
   rw [List.getD_eq_getElem?_getD, List.getElem?_eq_getElem hk, Option.getD_some, hrep] at h1
   rw [h1]
   rw [unkF_len, List.length_replicate] at hk
   split
   ·exact ⟨fun a ha => by
     have : a = 0 := by simp at ha; omega
     subst this
     exact ⟨Int.natCast_nonneg _, by show (k : Int) < _; omega, fun j hj => by omega⟩, by
     rw [zeros_size]
     exact h64⟩
   ·exact z62_ok n
  ·rw [hF0, if_pos ((h.mark j (Int.natCast_nonneg j)).1 hk)]
   have e : ofN [(j : Int)] = 2 ^ j := by
    have := ofN_add (l := []) (i := (j : Int)) (fun _ h => absurd h (by simp)) (Int.natCast_nonneg j) (by simp)
    rw [List.nil_append, ofN_nil, Nat.zero_xor, Int.toNat_natCast] at this
    exact this
   show Span _ (2 ^ j ^^^ ofN [(j : Int)]) ∧ SatB W sz (2 ^ j ^^^ ofN [(j : Int)]) (zeros sz)
   rw [e, Nat.xor_self]
   exact ⟨.zero, (bsum_zero W sz _).symm⟩
  ·rw [hF0, if_neg (fun hm => hk ((h.mark j (Int.natCast_nonneg j)).2 hm)), hrep]
  ·rw [List.getD_eq_getElem?_getD, List.getElem?_replicate, if_pos hk] at hd
   exact absurd hd (by decide)
 have hfin := h0.steps hW hl h.peel
 have e0 : stepsF l (unkF sz (List.replicate n z62) U, List.replicate l.length false) st = fin0 n sz l U st := rfl
 rw [e0] at hfin
 obtain ⟨F, hF⟩ : ∃ F, F = (fin0 n sz l U st).1 := ⟨_, rfl⟩
 obtain ⟨D, hD⟩ : ∃ D, D = (fin0 n sz l U st).2 := ⟨_, rfl⟩
 rw [← hF, ← hD] at hfin ⊢
 clear hF hD e0 h0 hF0 hrep
 have hin : ∀ x ∈ l, ∀ j ∈ x.f0, 0 ≤ j ∧ j < (n : Int) := fun x hx => rowOk_in (hl x hx).1.1
 have hb : ∀ r ∈ l.map (·.f0), ∀ i ∈ r, 0 ≤ i ∧ i < (s.length : Int) := fun r hr i hi => by
  obtain ⟨x, hx, rfl⟩ := List.mem_map.1 hr
  rw [h.len]
  exact hin x hx i hi
 have hall : ∀ x ∈ l, ∀ j ∈ x.f0, known s' j := fun x hx j hj =>
  h.peel.all hb (K := (· ∈ U)) (fun i hi => ⟨(hU i hi).1, (h.mark i (hU i hi).1).2 hi⟩) (h.unk.2.2 j ⟨x.f0, List.mem_map_of_mem hx, hj⟩)
 have hkn : ∀ x ∈ l, ∀ j ∈ x.f0, 0 ≤ j ∧ j < (n : Int) ∧ Span (rowN l) (2 ^ j.toNat ^^^ ofN (F.getD j.toNat z62).f0) ∧ SatB W sz (2 ^ j.toNat ^^^ ofN (F.getD j.toNat z62).f0) (F.getD j.toNat z62).f1 := fun x hx j hj => by
  obtain ⟨h1, h2⟩ := hin x hx j hj
  refine ⟨h1, h2, hfin.kn j.toNat (by omega) ?_⟩
  rw [Int.toNat_of_nonneg h1]
  exact hall x hx j hj
 have hsum : ∀ x ∈ l, fOk n (sumF F x (-1)) ∧ ofN (sumF F x (-1)).f0 = phi F (ofN x.f0) n ∧ SatB W sz (phi F (ofN x.f0) n) (sumF F x (-1)).f1 ∧ Span (rowN l) (phi F (ofN x.f0) n) := fun x hx => by
  obtain ⟨hxo, hxs⟩ := hl x hx
  have hflt : x.f0.filter (· ≠ (-1 : Int)) = x.f0 := List.filter_eq_self.2 (fun j hj => by
   have := (hin x hx j hj).1
   simp
   omega)
  have hao : fOk n ⟨[], x.f1⟩ := ⟨fun k hk => absurd hk (Nat.not_lt_zero _), hxo.2⟩
  have := acc_law (F := F) (but := -1) hW hfin.ok (a := ⟨[], x.f1⟩) (y := ofN x.f0) hao hxs x.f0 (rowOk_nodup hxo.1) (fun j hj => ⟨(hkn x hx j hj).1, (hkn x hx j hj).2.1, fun _ => (hkn x hx j hj).2.2.2⟩)
  rw [hflt] at this
  have hps := psi_span (R := rowN l) (F := F) (n := n) x.f0 (rowOk_nodup hxo.1) (fun j hj => ⟨(hkn x hx j hj).1, (hkn x hx j hj).2.1, (hkn x hx j hj).2.2.1⟩)
  have hxm : Span (rowN l) (ofN x.f0) := .one (List.mem_map.2 ⟨x, hx, rfl⟩)
  have ec : ofN x.f0 ^^^ (ofN x.f0 ^^^ phi F (ofN x.f0) n) = phi F (ofN x.f0) n := by rw [← Nat.xor_assoc, Nat.xor_self, Nat.zero_xor]
  refine ⟨accF_ok hfin.ok hao _, ?_, ?_, ?_⟩
  ·have h1 := this.1
   rw [show ofN (⟨[], x.f1⟩ : S62).f0 = 0 from rfl, Nat.zero_xor] at h1
   exact h1
  ·have h2 := this.2
   rw [ec] at h2
   exact h2
  ·rw [← ec]
   exact hxm.xor hps
 have hgd : ∀ k, k < l.length → l.getD k z62 ∈ l := fun k hk => by
  rw [List.getD_eq_getElem?_getD, List.getElem?_eq_getElem hk]
  exact List.getElem_mem hk
 have hrest : ∀ f ∈ restK F D l l.length, fOk n f ∧ SatB W sz (ofN f.f0) f.f1 ∧ Span (rowN l) (ofN f.f0) := fun f hf => by
  obtain ⟨k, h1, _, rfl⟩ := (restK_mem _ _).1 hf
  obtain ⟨h3, h4, h5, h6⟩ := hsum _ (hgd k h1)
  rw [h4]
  exact ⟨h3, h5, h6⟩
 obtain ⟨res, hres, hinv, hrs, hspan⟩ := redE_law hW (restK F D l l.length) [] (fun f hf => ⟨(hrest f hf).1, (hrest f hf).2.1⟩) (InvE.nil n) (fun g hg => absurd hg (by simp))
 have hto : ∀ v, Span (rowN l) v → Span (rowN res) (phi F v n) := fun v hv => by
  induction hv with
  | zero => rw [phi_zero]; exact .zero
  | add hr _ ih =>
   rw [phi_xor]
   refine Span.xor ?_ ih
   obtain ⟨x, hx, rfl⟩ := List.mem_map.1 hr
   obtain ⟨k, hk, rfl⟩ := List.getElem_of_mem hx
   have hgx : l.getD k z62 = l[k] := by rw [List.getD_eq_getElem?_getD, List.getElem?_eq_getElem hk]; rfl
   by_cases hd : D.getD k false = true
   ·have := (hfin.us k hk hd).2
    rw [hgx] at this
    rw [this]
    exact .zero
   ·rw [← (hsum _ hx).2.1]
    refine (hspan _).2 (.one (List.mem_append_right _ (List.mem_map.2 ⟨_, (restK_mem _ _).2 ⟨k, hk, hd, rfl⟩, ?_⟩)))
    rw [hgx]
 have hfrom : ∀ v, Span (rowN res) v → Span (rowN l) v := fun v hv => ((hspan v).1 hv).sub (fun r hr => by
  rcases List.mem_append.1 hr with hr | hr
  ·exact absurd hr (by simp [rowN])
  ·obtain ⟨f, hf, rfl⟩ := List.mem_map.1 hr
   exact (hrest f hf).2.2)
 refine ⟨res, hres, hfin.fl, fun i hi => ?_⟩
 by_cases hk : known s' (i : Int)
 ·obtain ⟨k1, k2⟩ := hfin.kn i hi hk
  have hfo : fOk n (F.getD i z62) := by
   rw [List.getD_eq_getElem?_getD]
   cases h : F[i]? with
   | none => exact z62_ok n
   | some f => exact hfin.ok f (List.mem_of_getElem? h)
  have hiff := sub_nil hW hinv hrs hfo
  unfold solF
  by_cases hsp : Span (rowN l) (2 ^ i)
  ·rw [if_pos hsp]
   have h1 := hto _ hsp
   rw [phi_pow, if_pos hi] at h1
   have h2 := hiff.2 h1
   rw [if_pos h2]
   obtain ⟨c, c1, c2, c3⟩ := sub_law hW res (fun g hg => ⟨hinv.ok g hg, hrs g hg⟩) _ hfo
   have h3 := c3 _ k2
   rw [Nat.xor_assoc, ← c2, h2, ofN_nil, Nat.xor_zero] at h3
   unfold SatB at h3
   rw [h3, bsum_pow hW, if_pos (by omega)]
  ·rw [if_neg hsp, if_neg]
   intro h2
   refine hsp ?_
   have h1 := hfrom _ (hiff.1 h2)
   have := k1.xor h1
   rwa [back_xor] at this
 ·rw [hfin.un i hi hk]
  have hsp : ¬ Span (rowN l) (2 ^ i) := fun hsp => by
   have := hsp.bit (i := i) (fun r hr => by
    obtain ⟨x, hx, rfl⟩ := List.mem_map.1 hr
    rw [ofN_bit _ (fun j hj => (hin x hx j hj).1)]
    exact decide_eq_false (fun hm => hk (hall x hx _ hm)))
   rw [Nat.testBit_two_pow] at this
   exact absurd this (by simp)
  rw [if_neg hsp]
  unfold solF
  rw [sub_z62]
  rfl
theorem cl_span {n : Nat} {l : List S62} (hl : ∀ x ∈ l, fOk n x) {i : Int} (h : Cl (l.map (·.f0)) (fun _ => False) i) : Span (rowN l) (2 ^ i.toNat) := by
 induction h with
 | base h => exact absurd h (by simp)
 | step hr hi _ ih =>
  rename_i r i hq
  obtain ⟨x, hx, rfl⟩ := List.mem_map.1 hr
  have hin := rowOk_in (hl x hx).1
  obtain ⟨ii, rfl⟩ := Int.eq_ofNat_of_zero_le (hin i hi).1
  rw [Int.toNat_natCast]
  have hw := ofN_without (fun j hj => (hin j hj).1) hi
  have hs : ∀ l' : List Int, l'.Nodup → (∀ j ∈ l', 0 ≤ j ∧ Span (rowN l) (2 ^ j.toNat)) → Span (rowN l) (ofN l') := by
   refine snoc_ind (fun _ _ => .zero) ?_
   intro l' j ih2 hn h2
   rw [List.nodup_append] at hn
   have hj := h2 j (List.mem_append_right _ (List.mem_singleton.2 rfl))
   rw [ofN_add (fun k hk => (h2 k (List.mem_append_left _ hk)).1) hj.1 (fun hm => hn.2.2 j hm j (List.mem_singleton.2 rfl) rfl)]
   exact (ih2 hn.1 (fun k hk => h2 k (List.mem_append_left _ hk))).xor hj.2
  have h1 := hs (x.f0.filter (· ≠ (ii : Int))) ((rowOk_nodup (hl x hx).1).filter _) (fun j hj => by
   obtain ⟨h1, h2⟩ := List.mem_filter.1 hj
   exact ⟨(hin j h1).1, ih j h1 (by simpa using h2)⟩)
  have h2 : Span (rowN l) (ofN x.f0) := .one (List.mem_map.2 ⟨x, hx, rfl⟩)
  have h3 := h1.xor h2
  rwa [hw, ← Nat.xor_assoc, Nat.xor_self, Nat.zero_xor] at h3
end Go.Proofs.YtjmooillogojkaaGreat.Q
