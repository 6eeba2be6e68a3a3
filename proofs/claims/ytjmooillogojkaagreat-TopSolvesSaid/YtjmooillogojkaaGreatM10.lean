/- Plain laws of peeling: what gap, marks, numbers and peel make of rows and marks; what gets known; Printed by a changed copy of a printer, shortened by a program: what these functions answer: gauss ... No condition. -/
import Derived.Test.YtjmooillogojkaaGreatM08
import Derived.Test.YtjmooillogojkaaGreatM09
set_option maxHeartbeats 8000000
set_option maxRecDepth 100000
set_option linter.unusedVariables false
set_option linter.unusedSimpArgs false
namespace Go.Proofs.YtjmooillogojkaaGreat.Q
open Go.Proofs.YtjmooillogojkaaGreatW.PrintWords
open Go.Proofs.YtjmooillogojkaaGreat
inductive Cl (L : List (List Int)) (K : Int → Prop) : Int → Prop
 | base {i : Int} : K i → Cl L K i
 | step {r : List Int} {i : Int} : r ∈ L → i ∈ r → (∀ j ∈ r, j ≠ i → Cl L K j) → Cl L K i
theorem Cl.mono {L : List (List Int)} {K K' : Int → Prop} {i : Int} (h : Cl L K i) (hk : ∀ j, K j → Cl L K' j) : Cl L K' i := by
 induction h with
 | base h => exact hk _ h
 | step hr hi _ ih => exact .step hr hi ih
def known (s : List Bool) (i : Int) : Prop := rdOf false s i = true
theorem known_set {s : List Bool} {i : Int} (h0 : 0 ≤ i) (h1 : i < s.length) (j : Int) (hj : 0 ≤ j) : known (s.set i.toNat true) j ↔ j = i ∨ known s j := by
 obtain ⟨a, rfl⟩ := Int.eq_ofNat_of_zero_le h0
 obtain ⟨b, rfl⟩ := Int.eq_ofNat_of_zero_le hj
 unfold known rdOf
 rw [Int.toNat_natCast, Int.toNat_natCast, List.getD_eq_getElem?_getD, List.getD_eq_getElem?_getD, List.getElem?_set]
 by_cases e : a = b
 ·subst e
  rw [if_pos rfl, if_pos (by omega)]
  simp
 ·rw [if_neg e]
  exact ⟨fun h => .inr h, fun h => h.resolve_left (fun e2 => e (by omega))⟩
def Ripe (r : List Int) (s : List Bool) (i : Int) : Prop := i ∈ r ∧ ¬ known s i ∧ ∀ j ∈ r, j ≠ i → known s j
theorem gap_l0 (r : List Int) (s : List Bool) (hb : ∀ i ∈ r, 0 ≤ i ∧ i < s.length) (hn : r.Nodup) (hm : r.length < 1000000) : ∀ (d j k : Nat) (at_ : Int), r.length - j = d → j ≤ r.length → d < k →
  (at_ = -1 ∧ (∀ i ∈ r.take j, known s i)) ∨ (0 ≤ at_ ∧ at_ ∈ r.take j ∧ ¬ known s at_ ∧ ∀ i ∈ r.take j, i ≠ at_ → known s i) →
  ∃ p b, peel_gap.l0 k s at_ r (r.length : Int) (j : Int) = some (p, b) ∧ (b = true → Ripe r s p) ∧ (b = false → ∀ i, ¬ Ripe r s i)
 | d, j, 0, at_, _, _, h, _ => absurd h (Nat.not_lt_zero _)
 | d, j, k + 1, at_, hd, hj, hk, hst => by
  by_cases hlt : j < r.length
  ·have hg : rd r (j : Int) = r[j] := rd_get hlt
   obtain ⟨h0, h1⟩ := hb r[j] (List.getElem_mem hlt)
   have htk : r.take (j + 1) = r.take j ++ [r[j]] := by rw [List.take_succ_eq_append_getElem hlt]
   simp only [peel_gap.l0]
   rw [if_pos (by omega), if_pos (by omega), if_pos (by omega), hg, if_pos h0, if_pos h1]
   by_cases e : rdOf false s r[j] = true
   ·rw [if_pos e, Deg.w64 (by omega) (by omega)]
    refine gap_l0 r s hb hn hm (d - 1) (j + 1) k at_ (by omega) (by omega) (by omega) ?_
    rw [htk]
    rcases hst with ⟨h2, h3⟩ | ⟨h2, h3, h4, h5⟩
    ·refine .inl ⟨h2, fun i hi => ?_⟩
     rcases List.mem_append.1 hi with hi | hi
     ·exact h3 i hi
     ·rw [List.mem_singleton.1 hi]; exact e
    ·refine .inr ⟨h2, List.mem_append_left _ h3, h4, fun i hi hne => ?_⟩
     rcases List.mem_append.1 hi with hi | hi
     ·exact h5 i hi hne
     ·rw [List.mem_singleton.1 hi]; exact e
   ·rw [if_neg e]
    rcases hst with ⟨h2, h3⟩ | ⟨h2, h3, h4, h5⟩
    ·rw [if_neg (by omega), Deg.w64 (by omega) (by omega)]
     refine gap_l0 r s hb hn hm (d - 1) (j + 1) k r[j] (by omega) (by omega) (by omega) (.inr ?_)
     rw [htk]
     refine ⟨h0, List.mem_append_right _ (List.mem_singleton.2 rfl), e, fun i hi hne => ?_⟩
     rcases List.mem_append.1 hi with hi | hi
     ·exact h3 i hi
     ·exact absurd (List.mem_singleton.1 hi) hne
    ·rw [if_pos h2]
     refine ⟨0, false, rfl, fun h => absurd h (by decide), fun _ i hri => ?_⟩
     obtain ⟨hi, hik, hio⟩ := hri
     have hmem : r[j] ∈ r := List.getElem_mem hlt
     have hne : at_ ≠ r[j] := by
      intro e2
      have hnn : (r.take (j + 1)).Nodup := hn.sublist (List.take_sublist _ _)
      rw [htk, List.nodup_append] at hnn
      exact hnn.2.2 at_ h3 r[j] (List.mem_singleton.2 rfl) e2
     by_cases e3 : i = at_
     ·exact e (hio _ hmem (fun e4 => hne (e3.symm.trans e4.symm)))
     ·exact h4 (hio _ (List.mem_of_mem_take h3) (fun e4 => e3 e4.symm))
  ·simp only [peel_gap.l0]
   rw [if_neg (by omega)]
   have ht : r.take j = r := List.take_of_length_le (by omega)
   rw [ht] at hst
   rcases hst with ⟨h2, h3⟩ | ⟨h2, h3, h4, h5⟩
   ·refine ⟨at_, decide (at_ ≥ 0), rfl, fun h => ?_, fun _ i hri => hri.2.1 (h3 i hri.1)⟩
    have := of_decide_eq_true h
    omega
   ·refine ⟨at_, decide (at_ ≥ 0), rfl, fun _ => ⟨h3, h4, h5⟩, fun h => ?_⟩
    have := of_decide_eq_false h
    omega
theorem gap_spec {r : List Int} {s : List Bool} {k : Nat} (hb : ∀ i ∈ r, 0 ≤ i ∧ i < s.length) (hn : r.Nodup) (hm : r.length < 1000000) (hk : r.length < k) :
  ∃ p b, peel_gap.f k r s = some (p, b) ∧ (b = true → Ripe r s p) ∧ (b = false → ∀ i, ¬ Ripe r s i) :=
 gap_l0 r s hb hn hm r.length 0 k (-1) (by omega) (by omega) hk (.inl ⟨rfl, fun i hi => by simp at hi⟩)
inductive Peel (L : List (List Int)) : List Bool → List S123 → List Bool → Prop
 | done {s : List Bool} : (∀ r ∈ L, ∀ i, ¬ Ripe r s i) → Peel L s [] s
 | step {s s' : List Bool} {st : List S123} {k : Nat} {i : Int} (hk : k < L.length) : Ripe L[k] s i → Peel L (s.set i.toNat true) st s' → Peel L s (⟨(k : Int), i⟩ :: st) s'
def falses (s : List Bool) : Nat := s.countP (· == false)
theorem falses_le (s : List Bool) : falses s ≤ s.length := List.countP_le_length
theorem falses_set : ∀ (s : List Bool) (i : Nat), i < s.length → s.getD i false = false → falses (s.set i true) + 1 = falses s
 | [], _, h, _ => absurd h (by simp)
 | b :: s, 0, _, h => by
  simp at h
  subst h
  simp [falses]
 | b :: s, i + 1, h, hb => by
  have := falses_set s i (by simpa using h) (by simpa using hb)
  unfold falses at *
  rw [List.set_cons_succ, List.countP_cons, List.countP_cons]
  omega
def rowsIn (n : Nat) (L : List (List Int)) : Prop := n ≤ 160 ∧ L.length ≤ 400 ∧ ∀ l ∈ L, rowOk n l
theorem rowOk_in {n : Int} {l : List Int} (h : rowOk n l) : ∀ i ∈ l, 0 ≤ i ∧ i < n := by
 intro i hi
 obtain ⟨k, hk, rfl⟩ := List.getElem_of_mem hi
 exact ⟨(h k hk).1, (h k hk).2.1⟩
theorem rowOk_mono {n : Int} {l : List Int} (h : rowOk n l) : ∀ (d i : Nat) (hj : i + d + 1 < l.length), l[i]'(by omega) < l[i + d + 1]
 | 0, i, hj => (h (i + 1) hj).2.2 i rfl
 | d + 1, i, hj => by
  have h1 := rowOk_mono h d i (by omega)
  have h2 := (h (i + (d + 1) + 1) hj).2.2 (i + d + 1) rfl
  omega
theorem rowOk_nodup {n : Int} {l : List Int} (h : rowOk n l) : l.Nodup := by
 rw [List.nodup_iff_pairwise_ne, List.pairwise_iff_getElem]
 intro i j hi hj hij e
 obtain ⟨d, rfl⟩ : ∃ d, j = i + d + 1 := ⟨j - i - 1, by omega⟩
 have := rowOk_mono h d i hj
 omega
theorem rowOk_head {n : Int} {l : List Int} (h : rowOk n l) (k : Nat) (hk : k < l.length) : (k : Int) ≤ l[k] := by
 induction k with
 | zero => exact (h 0 hk).1
 | succ k ih =>
  have := ih (by omega)
  have := (h (k + 1) hk).2.2 k rfl
  omega
theorem rowOk_len {n : Nat} {l : List Int} (h : rowOk n l) : l.length ≤ n := by
 rcases Nat.eq_zero_or_pos l.length with h0 | h0
 ·omega
 ·have h1 := rowOk_head h (l.length - 1) (by omega)
  have h2 := (h (l.length - 1) (by omega)).2.1
  omega
theorem peel_l0 {n : Nat} {L : List (List Int)} (hL : rowsIn n L) : ∀ (d : Nat) (k : Nat) (s : List Bool) (acc : List S123) (x : Nat), s.length = n → x ≤ L.length → falses s * (L.length + 1) + (L.length - x) = d → d + n + 2 ≤ k → acc.length + falses s ≤ 1000 →
  (∀ j (hj : j < L.length), j < x → ∀ i, ¬ Ripe L[j] s i) → ∃ st s', peel_peel.l0 k L s acc (x : Int) = some (acc ++ st, s') ∧ Peel L s st s' := by
 intro d
 induction d using Nat.strongRecOn with
 | _ d ih =>
  intro k s acc x hs hx hd hk hacc hno
  obtain ⟨k, rfl⟩ : ∃ q, k = q + 1 := ⟨k - 1, by omega⟩
  simp only [peel_peel.l0]
  by_cases hxe : x = L.length
  ·rw [if_pos (by omega)]
   refine ⟨[], s, by rw [List.append_nil], .done (fun r hr i => ?_)⟩
   obtain ⟨j, hj, rfl⟩ := List.getElem_of_mem hr
   exact hno j hj (by omega) i
  ·have hlt : x < L.length := by omega
   rw [if_neg (by omega), if_pos (by omega), if_pos (by omega)]
   have hg : rd_L2 L (x : Int) = L[x] := by
    unfold rd_L2
    rw [List.getD_eq_getElem?_getD, Int.toNat_natCast, List.getElem?_eq_getElem hlt]
    rfl
   have hro := hL.2.2 L[x] (List.getElem_mem hlt)
   have hlen := rowOk_len hro
   have hin := rowOk_in hro
   obtain ⟨p, b, h1, h2, h3⟩ := gap_spec (k := k) (r := L[x]) (s := s) (fun i hi => ⟨(hin i hi).1, by have := (hin i hi).2; omega⟩) (rowOk_nodup hro) (by have := hL.1; omega) (by omega)
   rw [hg, h1, Option.bind_some]
   cases b with
   | true =>
    obtain ⟨hp, hpk, hpo⟩ := h2 rfl
    obtain ⟨hp0, hpn⟩ := hin p hp
    simp only
    rw [if_pos trivial, if_pos hp0, if_pos (by omega), if_pos (by omega)]
    have hf := falses_set s p.toNat (by omega) (by
     unfold known rdOf at hpk
     simpa using hpk)
    have hm : falses s * (L.length + 1) = falses (s.set p.toNat true) * (L.length + 1) + (L.length + 1) := by rw [← hf, Nat.succ_mul]
    obtain ⟨st, s', h5, h6⟩ := ih (falses (s.set p.toNat true) * (L.length + 1) + (L.length - 0)) (by omega) k (s.set p.toNat true) (acc ++ [⟨(x : Int), p⟩]) 0 (by rw [List.length_set]; exact hs) (by omega) rfl (by omega) (by rw [List.length_append]; simp only [List.length_cons, List.length_nil]; omega) (fun j _ hj => absurd hj (Nat.not_lt_zero _))
    refine ⟨⟨(x : Int), p⟩ :: st, s', ?_, .step hlt ⟨hp, hpk, hpo⟩ h6⟩
    rw [show ((0 : Nat) : Int) = 0 from rfl] at h5
    rw [h5, List.append_assoc]
    rfl
   | false =>
    simp only
    rw [if_neg (by decide), Deg.w64 (by omega) (by have := hL.2.1; omega)]
    obtain ⟨st, s', h5, h6⟩ := ih (falses s * (L.length + 1) + (L.length - (x + 1))) (by omega) k s acc (x + 1) hs (by omega) rfl (by omega) hacc (fun j hj hjx => by
     by_cases e : j = x
     ·subst e
      exact h3 rfl
     ·exact hno j hj (by omega))
    exact ⟨st, s', h5, h6⟩
theorem peel_spec {n : Nat} {L : List (List Int)} (hL : rowsIn n L) {s : List Bool} (hs : s.length = n) : ∃ st s', peel_peel.f 100000 L s = some (st, s') ∧ Peel L s st s' := by
 have h1 := falses_le s
 have h2 := hL.1
 have h3 := hL.2.1
 have h4 : falses s * (L.length + 1) ≤ 160 * 401 := Nat.mul_le_mul (by omega) (by omega)
 obtain ⟨st, s', h5, h6⟩ := peel_l0 hL _ 100000 s [] 0 hs (by omega) rfl (by omega) (by simp only [List.length_nil]; omega) (fun j _ hj => absurd hj (Nat.not_lt_zero _))
 exact ⟨st, s', by rw [List.nil_append] at h5; exact h5, h6⟩
section
variable {L : List (List Int)} {s s' : List Bool} {st : List S123}
theorem Peel.length (h : Peel L s st s') : s'.length = s.length := by
 induction h with
 | done _ => rfl
 | step _ _ _ ih => rw [ih, List.length_set]
theorem Peel.mono (h : Peel L s st s') (hb : ∀ r ∈ L, ∀ i ∈ r, 0 ≤ i ∧ i < s.length) : ∀ i, 0 ≤ i → known s i → known s' i := by
 induction h with
 | done _ => exact fun _ _ h => h
 | step hk hr _ ih =>
  intro i h0 hi
  have hh := hb _ (List.getElem_mem hk) _ hr.1
  exact ih (fun r hr i hi => by rw [List.length_set]; exact hb r hr i hi) i h0 ((known_set hh.1 hh.2 i h0).2 (.inr hi))
theorem Peel.closed (h : Peel L s st s') : ∀ r ∈ L, ∀ i, ¬ Ripe r s' i := by
 induction h with
 | done h => exact h
 | step _ _ _ ih => exact ih
theorem Peel.sound (h : Peel L s st s') (hb : ∀ r ∈ L, ∀ i ∈ r, 0 ≤ i ∧ i < s.length) {K : Int → Prop} (hk : ∀ i, 0 ≤ i → known s i → Cl L K i) : ∀ i, 0 ≤ i → known s' i → Cl L K i := by
 induction h with
 | done _ => exact hk
 | step hkl hr _ ih =>
  have hh := hb _ (List.getElem_mem hkl) _ hr.1
  refine ih (fun r hr i hi => by rw [List.length_set]; exact hb r hr i hi) (fun i h0 hi => ?_)
  rcases (known_set hh.1 hh.2 i h0).1 hi with rfl | hi
  ·refine .step (List.getElem_mem hkl) hr.1 (fun j hj hne => ?_)
   exact hk j (hb _ (List.getElem_mem hkl) j hj).1 (hr.2.2 j hj hne)
  ·exact hk i h0 hi
theorem Peel.all (h : Peel L s st s') (hb : ∀ r ∈ L, ∀ i ∈ r, 0 ≤ i ∧ i < s.length) {K : Int → Prop} (hk : ∀ i, K i → 0 ≤ i ∧ known s i) {i : Int} (hi : Cl L K i) : known s' i := by
 induction hi with
 | base h1 => exact h.mono hb _ (hk _ h1).1 (hk _ h1).2
 | step hr hi _ ih =>
  rename_i r i hcl
  by_cases e : known s' i
  ·exact e
  ·exact absurd ⟨hi, e, ih⟩ (h.closed r hr i)
end
end Go.Proofs.YtjmooillogojkaaGreat.Q
namespace Go.Proofs.YtjmooillogojkaaGreat.Q
open Go.RowKit Go.Proofs.YtjmooillogojkaaGreatW.PrintWords Go.Proofs.YtjmooillogojkaaGreatW.PrintLast Go.Proofs.YtjmooillogojkaaGreatW.PrintMore
open Go.Proofs.YtjmooillogojkaaGreat
def gauss_May.f (a0 : Int) (l1 : List (List Int)) : Option Bool := if rowsB a0 l1 then some true else none
theorem gauss_May.calls (a0 : Int) (A1 : Option Addr) (c1 : Nat) (l1 : List (List Int)) (r : Bool) (w : World) (hr1 : Kd.C (Kd.slice 3 (Kd.int .i64)) w A1 l1.length l1) (hc1 : l1.length ≤ c1) (h : gauss_May.f a0 l1 = some r) :
  Calls Tryz.prog 48 #[.int .i64 a0, .slice A1 l1.length c1] w fun e w' => e = .returned (.bool r) ∧ Below w.heap.size w w' := by
 unfold gauss_May.f at h
 split at h
 ·rename_i hc
  obtain rfl := Option.some.inj h
  exact may_ok w hr1 hc1 ((rowsB_iff _ _).1 hc)
 ·exact absurd h (by simp)
def peel_may.f (a0 : Int) (l1 : List (List Int)) (l2 : List Int) : Option (Bool) := (gauss_May.f a0 l1).bind fun t339 => (if t339 = true then ((gauss_May.f a0 (([l2] : List (List Int)))).bind fun t343 => (some t343)) else (some false))
theorem peel_may.calls (a0 : Int) (A1 : Option Addr) (c1 : Nat) (l1 : List (List Int)) (P2_ : Nat → Prop) (A2 : Option Addr) (c2 : Nat) (l2 : List Int) (r : Bool) (w : World) (hr1 : Kd.C (Kd.slice 3 (Kd.int .i64)) w A1 l1.length l1) (hc1 : l1.length ≤ c1) (hs2 : Kd.V (Kd.int .i64) 3 w w.heap.size (fun k_ => P2_ k_) (.slice A2 l2.length c2) l2) (h : peel_may.f a0 l1 l2 = some r) :
  Calls Tryz.prog 29 #[.int .i64 a0, .slice A1 l1.length c1, .slice A2 l2.length c2] w fun e w' => e = .returned (.bool r) ∧ Below w.heap.size w w' := by
 have HR1 := jo hr1
 have HC1 := jo hc1
 clear hr1 hc1
 have HO2 := jo (show Kd.V (Kd.int .i64) 3 w w.heap.size (fun k_ => (P2_ k_ ∨ w.heap.size ≤ k_)) (.slice A2 l2.length c2) l2 from Kd.V_mono hs2 (fun k_ hk => .inl hk))
 have HB := jo (Below.refl w.heap.size w)
 have H : ((gauss_May.f a0 l1).bind fun t339 => (if t339 = true then ((gauss_May.f a0 (([l2] : List (List Int)))).bind fun t343 => (some t343)) else (some false))) = some r := h
 clear h
 replace H := Option.bind_eq_some_iff.mp H
 obtain ⟨t339, A40, H⟩ := H
 replace H : (if t339 = true then ((gauss_May.f a0 (([l2] : List (List Int)))).bind fun t343 => (some t343)) else (some false)) = some r := H
 have A4 := jo A40
 clear A40
 by_cases c5 : t339 = true
 ·subst c5
  have H1 : ((gauss_May.f a0 (([l2] : List (List Int)))).bind fun t343 => (some t343)) = some r := by rw [if_pos rfl] at H; exact H
  clear H
  have H := H1
  clear H1
  obtain ⟨y340, hy340⟩ : ∃ y_ : List (List Int), y_ = (([l2] : List (List Int))) := ⟨_, rfl⟩
  replace H : ((gauss_May.f a0 y340).bind fun t343 => (some t343)) = some r := by first | (rw [hy340]; with_reducible exact H) | (have H2_ := (Option.bind_some _ _).symm.trans H; rw [hy340]; with_reducible exact H2_) | (have H2_ := (Option.bind_some _ _).symm.trans H; with_reducible exact H2_) | with_reducible exact H | (rw [hy340]; exact H) | exact H
  have Ny340 := jo hy340
  clear hy340
  replace H := Option.bind_eq_some_iff.mp H
  obtain ⟨t343, A60, H⟩ := H
  replace H : (some t343) = some r := H
  have A6 := jo A60
  clear A60
  obtain rfl := Option.some.inj H
  go_enter Tryz.func29, Tryz.ntmps29
  go_wp2_with (first | ((with_reducible refine gate_callee (f := 48) rfl ?_); refine goesL_ (some 9) rfl rfl Tryz.func48 jw rfl #[.int .i64 a0, .slice A1 l1.length c1] rfl jm ?_; (with_reducible refine (gauss_May.calls a0 _ _ l1 true _ ?side1 ?side2 A4.out).mono ?_); (case side1 => repeat (first | exact HR1.out | (with_reducible refine Kd.C_alloc ?_ _) | (with_reducible refine Kd.C_drewN ?_ _) | (with_reducible refine Kd.C_drew ?_))); (case side2 => exact HC1.out); rintro e w7 ⟨rfl, hb⟩; refine ⟨_, rfl, ?_⟩; have n0_ := jo (Kd.V_below (by (with_reducible repeat (first | apply Kd.V_alloc | apply Kd.V_drewN | apply Kd.V_drew)); exact HO2.out) hb); have n1_ := jo (below_step jb hb); clear HO2; clear HB; have HO2 := n0_; have HB := n1_; clear n0_ n1_; (try clear hb); (try clear hb2); (try clear hk); (try clear hi)) | ((with_reducible refine gate_dst (N := 13) rfl ?_); (try (refine gate_guard (by rfl) ?_; dsimp only)); refine Kd.N_lit (Kd.slice 3 (Kd.int .i64)) _ 44 ?hg (N' := 13) ?hd (xs := ([l2] : List (List Int))) (inner := [.slice A2 l2.length c2]) (ok := (fun k_ => (P2_ k_ ∨ w.heap.size ≤ k_))) (okp := (fun k_ => (P2_ k_ ∨ w.heap.size ≤ k_))) ?hr ?hp (fun _ hk => hk) ((show ∀ k_, w7.heap.size ≤ k_ → (fun k_ => (P2_ k_ ∨ w.heap.size ≤ k_)) k_ from fun k_ hk => (.inr (Nat.le_trans (below_size jb) hk))) _ (Nat.le_refl _)) (Below.refl _ _) (Nat.le_refl _) (by simp) ?_; (case hd => rfl); (case hg => rfl); (case hr => first | (go_simp; done) | (go_simp; rfl)); (case hp => exact (Reps.one (show Kd.FK (Kd.slice 3 (Kd.int .i64)) _ _ l2 [.slice A2 l2.length c2] from (Kd.FK_slice_mk (Kd.V_reads' (Kd.V_mono (ok' := (fun k_ => (P2_ k_ ∨ w.heap.size ≤ k_))) (HO2.out) (fun k_ hk => hk))).2.1 (Kd.V_F (Kd.V_mono (ok' := (fun k_ => (P2_ k_ ∨ w.heap.size ≤ k_))) (HO2.out) (fun k_ hk => hk))))) (Reps.none _ _))); intro v341 w8 ho9 hb hg_ hnew_; clear hg_ hnew_; (first | rw [← Ny340.out] at ho9 | (simp only [Int.reduceToNat] at ho9; rw [← Ny340.out] at ho9)); have n0_ := jo (Kd.V_elder' (by (with_reducible repeat (first | apply Kd.V_alloc | apply Kd.V_drewN | apply Kd.V_drew)); exact HO2.out) (Kd.N_base ho9) hb); have n1_ := jo (Kd.N_lower ho9 (below_size jb)); have n2_ := jo (below_step jb hb); clear HO2; clear HB; have HO2 := n0_; have HO342 := n1_; have HB := n2_; clear n0_ n1_ n2_; clear hb ho9; obtain ⟨Ao10, co10, eo10⟩ := Kd.N_slice HO342.out; subst eo10) | (go_at_call 48; (with_reducible refine (gauss_May.calls a0 _ _ y340 t343 _ ?side1 ?side2 A6.out).mono ?_); (case side1 => repeat (first | exact (Kd.N_reads' HO342.out).2.2 | (with_reducible refine Kd.C_alloc ?_ _) | (with_reducible refine Kd.C_drewN ?_ _) | (with_reducible refine Kd.C_drew ?_))); (case side2 => exact (Kd.N_reads' HO342.out).2.1); rintro e w11 ⟨rfl, hb⟩; have n0_ := jo (Kd.V_below (by (with_reducible repeat (first | apply Kd.V_alloc | apply Kd.V_drewN | apply Kd.V_drew)); exact HO2.out) hb); have n1_ := jo (Kd.N_below (by (with_reducible repeat (first | apply Kd.N_alloc | apply Kd.N_drewN | apply Kd.N_drew)); exact HO342.out) hb); have n2_ := jo (below_step jb hb); clear HO2; clear HO342; clear HB; have HO2 := n0_; have HO342 := n1_; have HB := n2_; clear n0_ n1_ n2_; (try clear hb); (try clear hb2); (try clear hk); (try clear hi)))
  go_ret
  exact ⟨je, jb⟩
 ·replace c5 := Bool.eq_false_iff.mpr c5
  subst c5
  have H1 : (some false) = some r := by rw [if_neg (show ¬ (false = true) by decide)] at H; exact H
  clear H
  have H := H1
  clear H1
  obtain rfl := Option.some.inj H
  go_enter Tryz.func29, Tryz.ntmps29
  go_wp2_with (first | ((with_reducible refine gate_callee (f := 48) rfl ?_); refine goesL_ (some 9) rfl rfl Tryz.func48 jw rfl #[.int .i64 a0, .slice A1 l1.length c1] rfl jm ?_; (with_reducible refine (gauss_May.calls a0 _ _ l1 false _ ?side1 ?side2 A4.out).mono ?_); (case side1 => repeat (first | exact HR1.out | (with_reducible refine Kd.C_alloc ?_ _) | (with_reducible refine Kd.C_drewN ?_ _) | (with_reducible refine Kd.C_drew ?_))); (case side2 => exact HC1.out); rintro e w12 ⟨rfl, hb⟩; refine ⟨_, rfl, ?_⟩; have n0_ := jo (Kd.V_below (by (with_reducible repeat (first | apply Kd.V_alloc | apply Kd.V_drewN | apply Kd.V_drew)); exact HO2.out) hb); have n1_ := jo (below_step jb hb); clear HO2; clear HB; have HO2 := n0_; have HB := n1_; clear n0_ n1_; (try clear hb); (try clear hb2); (try clear hk); (try clear hi)))
  go_ret
  exact ⟨je, jb⟩
def peel_Known.f (k : Nat) (a0 : Int) (l1 : List (List Int)) (l2 : List Int) : Option (List Int × Int) := (peel_may.f a0 l1 l2).bind fun t362 => (if t362 = true then ((peel_marks.f k a0 l2).bind fun t363 => ((peel_peel.f k l1 t363).bind fun bt366 => ((peel_numbers.f k bt366.2 true).bind fun t370 => (some (t370, 0))))) else (some (([] : List Int), 1)))
theorem peel_Known.calls (k : Nat) (a0 : Int) (A1 : Option Addr) (c1 : Nat) (l1 : List (List Int)) (A2 : Option Addr) (c2 : Nat) (l2 : List Int) (r1 : List Int) (r2 : Int) (w : World) (hr1 : Kd.C (Kd.slice 3 (Kd.int .i64)) w A1 l1.length l1) (hc1 : l1.length ≤ c1) (hr2 : Kd.C (Kd.int .i64) w A2 l2.length l2) (hc2 : l2.length ≤ c2) (h : peel_Known.f k a0 l1 l2 = some (r1, r2)) :
  Calls Tryz.prog 9 #[.int .i64 a0, .slice A1 l1.length c1, .slice A2 l2.length c2] w fun e w' => ∃ v0_ : Value, e = .returned (.tuple #[v0_, .int .i64 r2]) ∧ Kd.R (Kd.int .i64) 3 w' w.heap.size (fun _ => True) v0_ r1 ∧ Below w.heap.size w w' := by
 have HR1 := jo hr1
 have HC1 := jo hc1
 clear hr1 hc1
 have HR2 := jo hr2
 have HC2 := jo hc2
 clear hr2 hc2
 have HB := jo (Below.refl w.heap.size w)
 have H : ((peel_may.f a0 l1 l2).bind fun t362 => (if t362 = true then ((peel_marks.f k a0 l2).bind fun t363 => ((peel_peel.f k l1 t363).bind fun bt366 => ((peel_numbers.f k bt366.2 true).bind fun t370 => (some (t370, 0))))) else (some (([] : List Int), 1)))) = some (r1, r2) := h
 clear h
 replace H := Option.bind_eq_some_iff.mp H
 obtain ⟨t362, A40, H⟩ := H
 replace H : (if t362 = true then ((peel_marks.f k a0 l2).bind fun t363 => ((peel_peel.f k l1 t363).bind fun bt366 => ((peel_numbers.f k bt366.2 true).bind fun t370 => (some (t370, 0))))) else (some (([] : List Int), 1))) = some (r1, r2) := H
 have A4 := jo A40
 clear A40
 by_cases c5 : t362 = true
 ·subst c5
  have H1 : ((peel_marks.f k a0 l2).bind fun t363 => ((peel_peel.f k l1 t363).bind fun bt366 => ((peel_numbers.f k bt366.2 true).bind fun t370 => (some (t370, 0))))) = some (r1, r2) := by rw [if_pos rfl] at H; exact H
  clear H
  have H := H1
  clear H1
  replace H := Option.bind_eq_some_iff.mp H
  obtain ⟨t363, A60, H⟩ := H
  replace H : ((peel_peel.f k l1 t363).bind fun bt366 => ((peel_numbers.f k bt366.2 true).bind fun t370 => (some (t370, 0)))) = some (r1, r2) := H
  have A6 := jo A60
  clear A60
  replace H := Option.bind_eq_some_iff.mp H
  obtain ⟨⟨t366, t369⟩, A70, H⟩ := H
  replace H : ((peel_numbers.f k t369 true).bind fun t370 => (some (t370, 0))) = some (r1, r2) := H
  have A7 := jo A70
  clear A70
  replace H := Option.bind_eq_some_iff.mp H
  obtain ⟨t370, A80, H⟩ := H
  replace H : (some (t370, 0)) = some (r1, r2) := H
  have A8 := jo A80
  clear A80
  simp only [Option.some.injEq, Prod.mk.injEq] at H
  obtain ⟨rfl, rfl⟩ := H
  go_enter Tryz.func9, Tryz.ntmps9
  go_wp2_with (first | ((with_reducible refine gate_callee (f := 29) rfl ?_); refine goesL_ (some 12) rfl rfl Tryz.func29 jw rfl #[.int .i64 a0, .slice A1 l1.length c1, .slice A2 l2.length c2] rfl jm ?_; (with_reducible refine (peel_may.calls a0 _ _ l1 (fun k_ => k_ < w.heap.size) _ _ l2 true _ ?side1 ?side2 ?side3 A4.out).mono ?_); (case side1 => repeat (first | exact HR1.out | (with_reducible refine Kd.C_alloc ?_ _) | (with_reducible refine Kd.C_drewN ?_ _) | (with_reducible refine Kd.C_drew ?_))); (case side2 => exact HC1.out); (case side3 => exact Kd.V_mk HC2.out (Kd.F_below (Kd.C_F (Kd.heap_int .i64) HR2.out) jb)); rintro e w9 ⟨rfl, hb⟩; refine ⟨_, rfl, ?_⟩; have n0_ := jo (below_step jb hb); clear HB; have HB := n0_; clear n0_; (try clear hb); (try clear hb2); (try clear hk); (try clear hi)) | ((with_reducible refine gate_callee (f := 30) rfl ?_); refine goesL_ (some 16) rfl rfl Tryz.func30 jw rfl #[.int .i64 a0, .slice A2 l2.length c2] rfl jm ?_; (with_reducible refine (peel_marks.calls k a0 _ _ l2 t363 _ ?side1 ?side2 A6.out).mono ?_); (case side1 => repeat (first | exact (Kd.C_below HR2.out HB.out) | (with_reducible refine Kd.C_alloc ?_ _) | (with_reducible refine Kd.C_drewN ?_ _) | (with_reducible refine Kd.C_drew ?_))); (case side2 => exact HC2.out); rintro e w10 ⟨v364, rfl, ho0, hb⟩; refine ⟨_, rfl, ?_⟩; have n0_ := jo (Kd.R_lower ho0 (below_size jb)); have n1_ := jo (below_step jb hb); clear HB; have HO365 := n0_; have HB := n1_; clear n0_ n1_; (try clear hb); (try clear hb2); (try clear hk); (try clear hi); (try clear ho0); obtain ⟨Ao11, co11, eo11⟩ := Kd.R_slice HO365.out; subst eo11) | ((with_reducible refine gate_callee (f := 31) rfl ?_); refine goesL_ (some 19) rfl rfl Tryz.func31 jw rfl #[.slice A1 l1.length c1, .slice Ao11 t363.length co11] rfl jm ?_; (with_reducible refine (peel_peel.calls k _ _ l1 (fun k_ => some k_ = (.slice Ao11 t363.length co11 : Value).ownBlock) (.slice Ao11 t363.length co11) t363 t366 t369 w _ ?side1 ?side2 ?side3 ?side4 A7.out).mono ?_); (case side1 => repeat (first | (with_reducible first | exact HB.out | apply below_alloc | apply pw_below_drewN | apply below_drew1) | exact HB.out)); (case side2 => exact Kd.C_kept_came (Kd.heap_slice 3 (Kd.heap_int .i64)) HR1.out jb (fun k_ hs_ => (fun e_ => Kd.R_base HO365.out k_ e_.symm) hs_)); (case side3 => exact HC1.out); (case side4 => exact Kd.R_tight rfl HO365.out); rintro e w12 ⟨v367, rfl, ho0, hy0, hb, hkp⟩; refine ⟨_, rfl, ?_⟩; have n0_ := jo (Kd.R_reok rfl hy0 (fun k_ e_ => HO365.out.1 k_ e_)); have n1_ := jo (Kd.R_mono (ok' := fun k_ => True) ho0 (fun k_ hk_ => trivial)); have n2_ := jo (hb); clear HO365; clear HB; have HO365 := n0_; have HO368 := n1_; have HB := n2_; clear n0_ n1_ n2_; (try clear hb); (try clear hkp); (try clear ho0); (try clear hy0)) | ((with_reducible refine gate_callee (f := 32) rfl ?_); refine goesL_ (some 21) rfl rfl Tryz.func32 jw rfl #[.slice Ao11 t369.length co11, .bool true] rfl (by (try simp only [List.map_toArray, List.map_cons, List.map_nil]); first | done | (rw [show t369.length = t363.length from (Kd.R_reads' HO365.out).1.symm] <;> rfl) | rfl | (simp only [List.length_drop, List.length_take]; rfl)) ?_; (with_reducible refine (peel_numbers.calls k _ _ t369 true t370 _ ?side1 ?side2 A8.out).mono ?_); (case side1 => repeat (first | exact (Kd.R_reads' HO365.out).2.2 | (with_reducible refine Kd.C_alloc ?_ _) | (with_reducible refine Kd.C_drewN ?_ _) | (with_reducible refine Kd.C_drew ?_))); (case side2 => rw [show t369.length = t363.length from (Kd.R_reads' HO365.out).1.symm]; exact (Kd.R_reads' HO365.out).2.1); rintro e w13 ⟨v371, rfl, ho0, hb⟩; refine ⟨_, rfl, ?_⟩; have n0_ := jo (Kd.R_below (jr HO365.out) hb); have n1_ := jo (Kd.R_below (jr HO368.out) hb); have n2_ := jo (Kd.R_lower ho0 (below_size jb)); have n3_ := jo (below_step jb hb); clear HO365; clear HO368; clear HB; have HO365 := n0_; have HO368 := n1_; have HO372 := n2_; have HB := n3_; clear n0_ n1_ n2_ n3_; (try clear hb); (try clear hb2); (try clear hk); (try clear hi); (try clear ho0)))
  go_ret2
  exact ⟨_, je, jr HO372.out, jb⟩
 ·replace c5 := Bool.eq_false_iff.mpr c5
  subst c5
  have H1 : (some (([] : List Int), 1)) = some (r1, r2) := by rw [if_neg (show ¬ (false = true) by decide)] at H; exact H
  clear H
  have H := H1
  clear H1
  simp only [Option.some.injEq, Prod.mk.injEq] at H
  obtain ⟨rfl, rfl⟩ := H
  go_enter Tryz.func9, Tryz.ntmps9
  go_wp2_with (first | ((with_reducible refine gate_callee (f := 29) rfl ?_); refine goesL_ (some 12) rfl rfl Tryz.func29 jw rfl #[.int .i64 a0, .slice A1 l1.length c1, .slice A2 l2.length c2] rfl jm ?_; (with_reducible refine (peel_may.calls a0 _ _ l1 (fun k_ => k_ < w.heap.size) _ _ l2 false _ ?side1 ?side2 ?side3 A4.out).mono ?_); (case side1 => repeat (first | exact HR1.out | (with_reducible refine Kd.C_alloc ?_ _) | (with_reducible refine Kd.C_drewN ?_ _) | (with_reducible refine Kd.C_drew ?_))); (case side2 => exact HC1.out); (case side3 => exact Kd.V_mk HC2.out (Kd.F_below (Kd.C_F (Kd.heap_int .i64) HR2.out) jb)); rintro e w14 ⟨rfl, hb⟩; refine ⟨_, rfl, ?_⟩; have n0_ := jo (below_step jb hb); clear HB; have HB := n0_; clear n0_; (try clear hb); (try clear hb2); (try clear hk); (try clear hi)))
  go_ret2
  exact ⟨_, je, by first | exact Kd.R_nil _ _ _ _ _ | exact Kd.N_nil _ _ _ _ _ | exact Kd.V_nil _ _ _ _ _ | exact Kd.Q_nil _ _ _ _ _ | exact Kd.S_nil _ _ _ _ _, jb⟩
end Go.Proofs.YtjmooillogojkaaGreat.Q
