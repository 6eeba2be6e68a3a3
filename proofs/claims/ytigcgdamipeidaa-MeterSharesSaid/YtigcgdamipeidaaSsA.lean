/- The reference share beside the share: what holds in memory at the law's loops. -/
import Derived.Test.YtigcgdamipeidaaTuC
import Derived.Test.YtigcgdamipeidaaTuD
import Derived.Test.YtigcgdamipeidaaRfW
import Derived.Test.YtigcgdamipeidaaQx15
import Derived.Test.YtigcgdamipeidaaShB
namespace Go.Proofs.Ytigcgdamipeidaa.Rf
open Go.RowKit Go.Proofs.YtigcgdamipeidaaW.PrintWords Go.Proofs.YtigcgdamipeidaaW.PrintLast Go.Proofs.YtigcgdamipeidaaW.PrintMore Go.Proofs.Ytigcgdamipeidaa Go.Proofs.Ytigcgdamipeidaa.Q Go.Proofs.Ytigcgdamipeidaa.Shr

set_option linter.unusedVariables false
/-- The share S in block g; a list of queues whose blocks are not the share's, nor block h; nor are h and those of X the share's. -/
def MV (w W : World) (B g h : Nat) (X : Nat → Prop) (S : Sh) (A : Option Addr) (c : Nat) (l : List S45) : Prop :=
  ∃ P : Nat → Prop, SS w W B g (fun k => (k = h ∨ P k) ∨ X k) S ∧ Kd.V k45 45 W 0 (fun k => P k) (.slice A l.length c) l ∧ (∀ k, P k → k ≠ h) ∧ w.heap.size ≤ h
/-- And block h holds the reference share. -/
def MS (w W : World) (B g h : Nat) (X : Nat → Prop) (S : Sh) (A : Option Addr) (c : Nat) (l : List S45) : Prop :=
  MV w W B g h X S A c l ∧ W.heap[h]? = some (.cells #[.int .i64 S.q, .slice A l.length c] 28 (0, 0))
section
variable {w W W' : World} {B g h : Nat} {X X' : Nat → Prop} {S S' : Sh} {A A' : Option Addr} {c c' : Nat} {l l' : List S45}
theorem MV.step (k : MV w W B g h X S A c l) (hb : Below W.heap.size W W') : MV w W' B g h X S A c l := by
  obtain ⟨P, hs, hv, hn, hw⟩ := k
  exact ⟨P, hs.step hb, Kd.V_below hv hb, hn, hw⟩
theorem MS.step (k : MS w W B g h X S A c l) (hb : Below W.heap.size W W') : MS w W' B g h X S A c l := ⟨k.1.step hb, blk_below k.2 hb⟩
theorem MV.bel (k : MV w W B g h X S A c l) : Below w.heap.size w W := by
  obtain ⟨P, hs, _⟩ := k
  exact hs.bel
theorem MV.fit (k : MV w W B g h X S A c l) : Fit S := by
  obtain ⟨P, hs, _⟩ := k
  exact hs.fit
theorem MV.cell (k : MV w W B g h X S A c l) {p : Addr} {v : Value} (hc : w.cell? p = some v) : W.cell? p = some v := by
  obtain ⟨P, hs, _⟩ := k
  exact hs.cell hc
/-- What is new may be told apart, too. -/
theorem MV.more (k : MV w W B g h X S A c l) (hb : Below W.heap.size W W') (hX : ∀ i, X' i → X i ∨ (W.heap.size ≤ i ∧ i < W'.heap.size)) : MV w W' B g h X' S A c l := by
  obtain ⟨P, hs, hv, hn, hw⟩ := k
  refine ⟨P, hs.more hb (fun i hi => ?_), Kd.V_below hv hb, hn, hw⟩
  rcases hi with hi | hi
  · exact .inl (.inl hi)
  · rcases hX i hi with h1 | h1
    · exact .inl (.inr h1)
    · exact .inr h1
theorem MV.ofX {P : Nat → Prop} (hs : SS w W B g (fun k => (k = h ∨ P k) ∨ X k) S) (hn : ∀ k, P k → k ≠ h) (hw : w.heap.size ≤ h) (hh : h < W.heap.size) (hb : Below W.heap.size W W') (hX : ∀ i, X' i → X i ∨ (W.heap.size ≤ i ∧ i < W'.heap.size)) {b : Nat} (hv' : Kd.V k45 45 W' b (fun i => P i ∨ W.heap.size ≤ i) (.slice A' l'.length c') l') : MV w W' B g h X' S A' c' l' := by
  refine ⟨fun i => (P i ∨ W.heap.size ≤ i) ∧ i < W'.heap.size, hs.more hb (fun i hi => ?_), Kd.V_bound hv', fun i hi => ?_, hw⟩
  · rcases hi with (hi | hi) | hi
    · exact .inl (.inl (.inl hi))
    · rcases hi.1 with h1 | h1
      · exact .inl (.inl (.inr h1))
      · exact .inr ⟨h1, hi.2⟩
    · rcases hX i hi with h1 | h1
      · exact .inl (.inr h1)
      · exact .inr h1
  · rcases hi.1 with h1 | h1
    · exact hn i h1
    · omega
theorem MV.of {P : Nat → Prop} (hs : SS w W B g (fun k => (k = h ∨ P k) ∨ X k) S) (hn : ∀ k, P k → k ≠ h) (hw : w.heap.size ≤ h) (hh : h < W.heap.size) (hb : Below W.heap.size W W') {b : Nat} (hv' : Kd.V k45 45 W' b (fun i => P i ∨ W.heap.size ≤ i) (.slice A' l'.length c') l') : MV w W' B g h X S A' c' l' :=
  MV.ofX hs hn hw hh hb (fun i hi => .inl hi) hv'
/-- It is put into block h. -/
theorem MV.store (k : MV w W B g h X S A' c' l') {o1 o2 : Value} (hb : W.heap[h]? = some (.cells #[o1, o2] 28 (0, 0))) : MS w ((W.setCell ⟨h, 0, none⟩ (.int .i64 S.q)).setCell ⟨h, 1, none⟩ (.slice A' l'.length c')) B g h X S A' c' l' := by
  obtain ⟨P, hs, hv, hn, hw⟩ := k
  exact ⟨⟨P, (hs.set (.inl (.inl rfl)) hw 0 _).set (.inl (.inl rfl)) hw 1 _, Kd.V_far (p := ⟨h, 1, none⟩) (Kd.V_far (p := ⟨h, 0, none⟩) hv hn _) hn _, hn, hw⟩, blk_put (blk_put hb 0 _ rfl) 1 _ rfl⟩
/-- Behind a method of the share. -/
theorem MS.meth (k : MS w W B g h X S A c l) {f : Nat} {args : Array Value} {r : Ending} (hq : S'.q = S.q) (hc : ∀ N : Nat → Prop, SS w W B g N S → Calls Try.prog f args W fun e W' => e = r ∧ SS w W' B g N S' ∧ Same N W W') :
    Calls Try.prog f args W fun e W' => e = r ∧ MS w W' B g h X S' A c l ∧ Same X W W' := by
  obtain ⟨⟨P, hs, hv, hn, hw⟩, hb⟩ := k
  exact (hc _ hs).mono fun _ _ ⟨he, h1, h2⟩ => ⟨he, ⟨⟨P, h1, Kd.V_step hv (fun i hi _ => h2 i (.inl (.inr hi))), hn, hw⟩, by rw [hq]; exact h2.blk (.inl (.inl rfl)) hb⟩, fun i hi => h2 i (.inr hi)⟩
/-- What Weigh makes of the share, and says. -/
def weighT (S : Sh) (n x : Int) : Sh × Int := if 1 ≤ n ∧ n ≤ 15 ∧ 0 ≤ x ∧ x ≤ 16 then (if x = 0 then zeroS S n else weighS S n x, 0) else (S, 1)
def addT (S : Sh) (n x : Int) : Sh × Int := if 1 ≤ n ∧ n ≤ 15 ∧ 1 ≤ x ∧ x ≤ 65536 then (if S.wt n.toNat = 0 then (S, 4) else if 100 ≤ (S.l n.toNat).length then (S, 6) else (addS S n x, 0)) else (S, 1)
theorem weighT_q (S : Sh) (n x : Int) : (weighT S n x).1.q = S.q := by
  unfold weighT zeroS weighS
  split
  · simp only
    split <;> rfl
  · rfl
theorem addT_q (S : Sh) (n x : Int) : (addT S n x).1.q = S.q := by
  unfold addT addS
  split
  · split
    · rfl
    · split <;> rfl
  · rfl
theorem rs_weighT (hr : RS l S) (n x : Int) : RS (weighR l n x).1 (weighT S n x).1 ∧ (weighR l n x).2 = (weighT S n x).2 := by
  unfold weighR weighT
  by_cases h1 : 1 ≤ n ∧ n ≤ 15 ∧ 0 ≤ x ∧ x ≤ 16
  · rw [if_pos h1, if_pos h1]
    refine ⟨?_, rfl⟩
    by_cases h2 : x = 0
    · simp only [if_pos h2]
      exact rs_zero hr ⟨h1.1, h1.2.1⟩
    · simp only [if_neg h2]
      exact rs_weigh hr ⟨h1.1, h1.2.1⟩
  · rw [if_neg h1, if_neg h1]
    exact ⟨hr, rfl⟩
theorem rs_addT (hr : RS l S) (n x : Int) : RS (addR l n x).1 (addT S n x).1 ∧ (addR l n x).2 = (addT S n x).2 := by
  unfold addR addT
  by_cases h1 : 1 ≤ n ∧ n ≤ 15 ∧ 1 ≤ x ∧ x ≤ 65536
  · rw [if_pos h1, if_pos h1]
    have e1 : (getQ l n).f1 = S.wt n.toNat := by rw [hr.at ⟨h1.1, h1.2.1⟩]; rfl
    have e3 : (getQ l n).f3 = S.l n.toNat := by rw [hr.at ⟨h1.1, h1.2.1⟩]; rfl
    by_cases h2 : S.wt n.toNat = 0
    · rw [if_pos (e1.trans h2), if_pos h2]
      exact ⟨hr, rfl⟩
    · rw [if_neg (fun e => h2 (e1.symm.trans e)), if_neg h2]
      by_cases h3 : 100 ≤ (S.l n.toNat).length
      · rw [if_pos (by rw [e3]; exact h3), if_pos h3]
        exact ⟨hr, rfl⟩
      · rw [if_neg (by rw [e3]; exact h3), if_neg h3]
        exact ⟨rs_add hr ⟨h1.1, h1.2.1⟩, rfl⟩
  · rw [if_neg h1, if_neg h1]
    exact ⟨hr, rfl⟩
theorem weigh_ms (k : MS w W B g h X S A c l) (n x : Int) : Calls Try.prog 13 #[.pointer (some ⟨g, 0, none⟩), .int .i64 n, .int .i64 x] W fun e W' => e = .returned (.int .i64 (weighT S n x).2) ∧ MS w W' B g h X (weighT S n x).1 A c l ∧ Same X W W' := by
  refine k.meth (weighT_q S n x) (fun N hs => ?_)
  unfold weighT
  by_cases h1 : 1 ≤ n ∧ n ≤ 15 ∧ 0 ≤ x ∧ x ≤ 16
  · rw [if_pos h1]
    by_cases h2 : x = 0
    · subst h2
      simp only [if_true]
      obtain ⟨vs, hh, hn'⟩ := hs.has
      exact (Shr.weigh_zero ⟨h1.1, h1.2.1⟩ hh).mono fun _ _ ⟨he, h1, h2⟩ => ⟨he, hs.after hn' h1 h2 (zeroS_fit hs.fit)⟩
    · simp only [if_neg h2]
      exact weigh_ss hs ⟨h1.1, h1.2.1⟩ (by omega)
  · rw [if_neg h1]
    exact (weigh_bad h1 W).mono fun _ _ ⟨he, hd⟩ => ⟨he, hs.step (drawn_below0 hd), same_below hs (drawn_below0 hd)⟩
theorem add_ms (k : MS w W B g h X S A c l) (n x : Int) : Calls Try.prog 15 #[.pointer (some ⟨g, 0, none⟩), .int .i64 n, .int .i64 x] W fun e W' => e = .returned (.int .i64 (addT S n x).2) ∧ MS w W' B g h X (addT S n x).1 A c l ∧ Same X W W' := by
  refine k.meth (addT_q S n x) (fun N hs => ?_)
  unfold addT
  obtain ⟨vs, hh, hn'⟩ := hs.has
  by_cases h1 : 1 ≤ n ∧ n ≤ 15 ∧ 1 ≤ x ∧ x ≤ 65536
  · rw [if_pos h1]
    by_cases h2 : S.wt n.toNat = 0
    · rw [if_pos h2]
      exact (add_none ⟨h1.1, h1.2.1⟩ h1.2.2 hh h2).mono fun _ _ ⟨he, hd⟩ => ⟨he, hs.step (drawn_below0 hd), same_below hs (drawn_below0 hd)⟩
    · rw [if_neg h2]
      by_cases h3 : 100 ≤ (S.l n.toNat).length
      · rw [if_pos h3]
        exact (add_full ⟨h1.1, h1.2.1⟩ h1.2.2 hh h2 h3).mono fun _ _ ⟨he, hd⟩ => ⟨he, hs.step (drawn_below0 hd), same_below hs (drawn_below0 hd)⟩
      · rw [if_neg h3]
        exact add_ss hs ⟨h1.1, h1.2.1⟩ h1.2.2 h2 (by omega)
  · rw [if_neg h1]
    exact (add_bad h1 W).mono fun _ _ ⟨he, hd⟩ => ⟨he, hs.step (drawn_below0 hd), same_below hs (drawn_below0 hd)⟩
theorem MV.lt (k : MV w W B g h X S A c l) : h < W.heap.size := by
  obtain ⟨P, hs, _⟩ := k
  obtain ⟨vs, _, hn⟩ := hs.has
  exact (hn h (.inl (.inl rfl))).2
theorem weighR_ms (k : MS w W B g h X S A c l) (hr : RS l S) (n x : Int) : Calls Try.prog 12 #[.agg #[.int .i64 S.q, .slice A l.length c], .int .i64 n, .int .i64 x] W fun e W' => ∃ A' c', e = .returned (.tuple #[.agg #[.int .i64 S.q, .slice A' (weighR l n x).1.length c'], .int .i64 (weighR l n x).2]) ∧
    MV w W' B g h X S A' c' (weighR l n x).1 ∧ Below W.heap.size W W' := by
  have hlt := k.1.lt
  obtain ⟨⟨P, hs, hv, hn, hw⟩, hb⟩ := k
  have hl := hr.len
  unfold weighR
  by_cases h1 : 1 ≤ n ∧ n ≤ 15 ∧ 0 ≤ x ∧ x ≤ 16
  · rw [if_pos h1]
    by_cases h2 : x = 0
    · subst h2
      simp only [if_true]
      refine (weigh_zero (k := 100) (P := P) ⟨h1.1, h1.2.1⟩ W hv (find_spec S.q n (by omega) (by omega)) (with_spec S.q n 0 0 [] (by omega) (by omega))).mono ?_
      rintro e W' ⟨v, rfl, hv', hb'⟩
      obtain ⟨A', c', rfl⟩ := Kd.V_slice hv'
      exact ⟨A', c', rfl, MV.of hs hn hw hlt hb' hv', hb'⟩
    · simp only [if_neg h2]
      refine (weigh_set (k := 100) (P := P) ⟨h1.1, h1.2.1⟩ (by omega) W hv (find_spec S.q n (by omega) (by omega)) (with_spec S.q _ x _ _ (by omega) (by omega))).mono ?_
      rintro e W' ⟨v, rfl, hv', hb'⟩
      obtain ⟨A', c', rfl⟩ := Kd.V_slice hv'
      exact ⟨A', c', rfl, MV.of hs hn hw hlt hb' hv', hb'⟩
  · rw [if_neg h1]
    refine (weigh_no (P := P) h1 W hv).mono ?_
    rintro e W' ⟨v, rfl, hv', hb'⟩
    obtain ⟨A', c', rfl⟩ := Kd.V_slice hv'
    exact ⟨A', c', rfl, MV.of hs hn hw hlt hb' hv', hb'⟩
theorem addR_ms (k : MS w W B g h X S A c l) (hr : RS l S) (n x : Int) : Calls Try.prog 14 #[.agg #[.int .i64 S.q, .slice A l.length c], .int .i64 n, .int .i64 x] W fun e W' => ∃ A' c', e = .returned (.tuple #[.agg #[.int .i64 S.q, .slice A' (addR l n x).1.length c'], .int .i64 (addR l n x).2]) ∧
    MV w W' B g h X S A' c' (addR l n x).1 ∧ Below W.heap.size W W' := by
  have hlt := k.1.lt
  have hfit := k.1.fit
  obtain ⟨⟨P, hs, hv, hn, hw⟩, hb⟩ := k
  have hl := hr.len
  have h100 : (getQ l n).f3.length ≤ 100 := by
    by_cases h1 : 1 ≤ n ∧ n ≤ 15
    · rw [hr.at h1]
      exact hfit.long _ (by omega)
    · rw [hr.out h1]
      exact Nat.zero_le _
  refine (mosaicref30_Share_Add.calls 2000 S.q P A c l n x _ _ _ W hv (add_spec S.q n x (by omega) (by omega) h100)).mono ?_
  rintro e W' ⟨v, rfl, hv', hb'⟩
  obtain ⟨A', c', rfl⟩ := Kd.V_slice hv'
  exact ⟨A', c', rfl, MV.of hs hn hw hlt hb' hv', hb'⟩
theorem turnR_ms (k : MS w W B g h X S A c l) (hr : RS l S) : Calls Try.prog 16 #[.agg #[.int .i64 S.q, .slice A l.length c]] W fun e W' => ∃ A' c' l' vL, e = .returned (.agg #[.int .i64 S.q, .slice A' l'.length c', vL, .int .i64 (tErr (turnTo S 16).2.2)]) ∧
    MV w W' B g h (fun i => X i ∨ vL.ownBlock = some i) S A' c' l' ∧ Qsn W' W.heap.size vL (turnTo S 16).2.1 ∧ RS l' (turnTo S 16).1 ∧ Below W.heap.size W W' := by
  have hlt := k.1.lt
  have hfit := k.1.fit
  obtain ⟨⟨P, hs, hv, hn, hw⟩, hb⟩ := k
  obtain ⟨t1, t2, t3⟩ := rs_turn hr
  refine (turn_ref (P := P) (hr.fit hfit) W hv).mono ?_
  rintro e W' ⟨vS, vL, rfl, hv', hq, hb'⟩
  obtain ⟨A', c', rfl⟩ := Kd.V_slice hv'
  rw [t2] at hq
  rw [t3]
  refine ⟨A', c', _, vL, rfl, MV.ofX hs hn hw hlt hb' (fun i hi => ?_) hv', hq, t1, hb'⟩
  rcases hi with hi | hi
  · exact .inl hi
  · exact .inr ⟨(q_typed hq i hi).1, q_lt hq i hi⟩
/-- The share's own turn beside it. -/
theorem turn_ms (k : MS w W B g h X S A c l) : Calls Try.prog 17 #[.pointer (some ⟨g, 0, none⟩)] W fun e W' => ∃ A5 c5, e = .returned (.tuple #[.slice A5 (turnTo S 16).2.1.length c5, .int .i64 (tErr (turnTo S 16).2.2)]) ∧
    MS w W' B g h X (turnTo S 16).1 A c l ∧ Same X W W' ∧ Qst W' W.heap.size (.slice A5 (turnTo S 16).2.1.length c5) (turnTo S 16).2.1 := by
  obtain ⟨⟨P, hs, hv, hn, hw⟩, hb⟩ := k
  refine (turn_ss hs).mono ?_
  rintro e W' ⟨v, rfl, h1, h2, h3⟩
  obtain ⟨A5, c5, rfl⟩ := qst_slice h3
  exact ⟨A5, c5, rfl, ⟨⟨P, h1.less (fun i hi => .inl hi), Kd.V_step hv (fun i hi _ => h2 i (.inl (.inr hi))), hn, hw⟩, by rw [turnTo_q]; exact h2.blk (.inl (.inl rfl)) hb⟩, fun i hi => h2 i (.inr hi), h3⟩
theorem find_ms (k : MS w W B g h X S A c l) (hr : RS l S) (p : Int) : Calls Try.prog 19 #[.agg #[.int .i64 S.q, .slice A l.length c], .int .i64 p] W fun e W' => ∃ A3 c3, e = .returned (.agg #[.int .i64 (getQ l p).f0, .int .i64 (getQ l p).f1, .int .i64 (getQ l p).f2, .slice A3 (getQ l p).f3.length c3]) ∧ Below W.heap.size W W' := by
  obtain ⟨⟨P, hs, hv, hn, hw⟩, hb⟩ := k
  have hl := hr.len
  refine (mosaicref30_Share_Find.calls 100 S.q P A c l p _ _ _ _ W hv (find_spec S.q p (by omega) (by omega))).mono ?_
  rintro e W' ⟨v, rfl, hv', hb'⟩
  obtain ⟨A3, c3, rfl⟩ := Kd.V_slice hv'
  exact ⟨A3, c3, rfl, hb'⟩
theorem waits_ms (k : MS w W B g h X S A c l) (hr : RS l S) (p : Int) : Calls Try.prog 20 #[.pointer (some ⟨g, 0, none⟩), .int .i64 p] W fun e W' => e = .returned (.int .i64 ((getQ l p).f3.length : Int)) ∧ Below W.heap.size W W' := by
  obtain ⟨⟨P, hs, hv, hn, hw⟩, hb⟩ := k
  by_cases hp : 1 ≤ p ∧ p ≤ 15
  · rw [hr.at hp]
    exact waits_ss hs hp
  · rw [hr.out hp]
    exact (waits_no hp W).mono fun _ _ ⟨he, hd⟩ => ⟨he, drawn_below0 hd⟩
theorem credit_ms (k : MS w W B g h X S A c l) (hr : RS l S) (p : Int) : Calls Try.prog 21 #[.pointer (some ⟨g, 0, none⟩), .int .i64 p] W fun e W' => e = .returned (.int .i64 (getQ l p).f2) ∧ Below W.heap.size W W' := by
  obtain ⟨⟨P, hs, hv, hn, hw⟩, hb⟩ := k
  by_cases hp : 1 ≤ p ∧ p ≤ 15
  · rw [hr.at hp]
    exact credit_ss hs hp
  · rw [hr.out hp]
    exact (credit_no hp W).mono fun _ _ ⟨he, hd⟩ => ⟨he, drawn_below0 hd⟩
end
/-- A row of steps is read: the share's, the reference's. -/
theorem st_reads {α : Type} {d : Kd α} {W : World} {A : Option Addr} {n : Nat} {l : List (Int × Int)} {f : Int × Int → α} (hsz : d.sz = 2) (hl : n = l.length) (hlt : n < 1000000) (hK : ∀ x, d.K W (f x) [.int .i64 x.1, .int .i64 x.2])
    (hc : 0 < l.length → ∃ a, A = some a ∧ ∀ j u, (stCells l)[j]? = some u → W.cell? (a.add j) = some u) : d.C W A n (l.map f) := by
  refine ⟨by rw [List.length_map, hl], by omega, fun hn => ?_⟩
  obtain ⟨a, ha, hcell⟩ := hc (by omega)
  refine ⟨a, ha, fun j p hj => ?_⟩
  rw [List.getElem?_map] at hj
  obtain ⟨x, hx, rfl⟩ := Option.map_eq_some_iff.1 hj
  refine ⟨[.int .i64 x.1, .int .i64 x.2], hsz.symm, hK x, fun i u hu => ?_⟩
  rw [hsz]
  refine hcell _ _ ?_
  have key : ∀ (l : List (Int × Int)) (j : Nat), l[j]? = some x → (stCells l)[j * 2 + i]? = some u := by
    intro l
    induction l with
    | nil => intro j h; simp at h
    | cons y l ih =>
      intro j h
      cases j with
      | zero =>
        simp only [List.getElem?_cons_zero, Option.some.injEq] at h
        subst h
        unfold stCells
        rw [List.flatMap_cons, List.getElem?_append_left (by
          have := (List.getElem?_eq_some_iff.1 hu).1
          simpa using this)]
        rw [Nat.zero_mul, Nat.zero_add]
        exact hu
      | succ j =>
        have h2 := ih j (by simpa using h)
        unfold stCells at h2 ⊢
        rw [List.flatMap_cons, List.getElem?_append_right (by simp; omega)]
        rw [show (j + 1) * 2 + i - [Value.int .i64 y.1, Value.int .i64 y.2].length = j * 2 + i by simp; omega]
        exact h2
  exact key l j hx
theorem sn_cells {w : World} {B : Nat} {ad : Option Addr} {n c : Nat} {l : List (Int × Int)} (h : Qsn w B (.slice ad n c) l) (hl : 0 < l.length) : n = l.length ∧ ∃ a, ad = some a ∧ ∀ j u, (stCells l)[j]? = some u → w.cell? (a.add j) = some u := by
  have h' : QRow w B 82 2 (.slice ad n c) l.length (stCells l) := h
  obtain ⟨_, h2⟩ := h'
  rcases h2 with ⟨h0, _⟩ | ⟨b, off, cap, cur, he, _, hh, _, _, _, ht⟩
  · omega
  · injection he with ha hn hc
    refine ⟨hn, _, ha, fun j u hj => ?_⟩
    rw [show (⟨b, off * 2, none⟩ : Addr).add j = ⟨b, off * 2 + j, none⟩ by simp [Addr.add]]
    rw [blk_cell hh, ← hj, ← ht]
    have hj2 : j < l.length * 2 := by
      have := (List.getElem?_eq_some_iff.1 hj).1
      rw [stCells_length] at this
      exact this
    rw [List.getElem?_take, if_pos hj2, List.getElem?_drop]
    simp
theorem same_l0 {l : List (Int × Int)} : ∀ (m k i : Nat), i + m = l.length → m < k → l.length < 1000000 → mosaiclaw30_same.l0 k (l.map fun x => (⟨x.1, x.2⟩ : S51)) (l.map fun x => (⟨x.1, x.2⟩ : S82)) (i : Int) = some true := by
  intro m
  induction m with
  | zero =>
    intro k i hi hk hl
    obtain ⟨k, rfl⟩ : ∃ j, k = j + 1 := ⟨k - 1, by omega⟩
    rw [mosaiclaw30_same.l0, if_neg (by rw [List.length_map]; omega)]
  | succ m ih =>
    intro k i hi hk hl
    obtain ⟨k, rfl⟩ : ∃ j, k = j + 1 := ⟨k - 1, by omega⟩
    have e1 : rd_T51 (l.map fun x => (⟨x.1, x.2⟩ : S51)) (i : Int) = ⟨(l[i]'(by omega)).1, (l[i]'(by omega)).2⟩ := by
      unfold rd_T51
      rw [List.getD_eq_getElem?_getD, Int.toNat_natCast, List.getElem?_map, List.getElem?_eq_getElem (by omega)]
      rfl
    have e2 : rd_T82 (l.map fun x => (⟨x.1, x.2⟩ : S82)) (i : Int) = ⟨(l[i]'(by omega)).1, (l[i]'(by omega)).2⟩ := by
      unfold rd_T82
      rw [List.getD_eq_getElem?_getD, Int.toNat_natCast, List.getElem?_map, List.getElem?_eq_getElem (by omega)]
      rfl
    rw [mosaiclaw30_same.l0, if_pos (by rw [List.length_map]; omega), if_pos (by omega), if_pos (by rw [List.length_map]; omega), e1, e2, if_pos rfl, if_pos rfl, w_next (by omega)]
    exact ih k (i + 1) (by omega) (by omega) hl
theorem same_f (l : List (Int × Int)) (hl : l.length < 1000000) : mosaiclaw30_same.f (l.length + 1) (l.map fun x => (⟨x.1, x.2⟩ : S51)) (l.map fun x => (⟨x.1, x.2⟩ : S82)) = some true := by
  unfold mosaiclaw30_same.f
  rw [if_pos (by rw [List.length_map, List.length_map])]
  exact same_l0 l.length _ 0 (by omega) (by omega) hl
theorem same_ms {W : World} {B1 B2 : Nat} {A5 A6 : Option Addr} {c5 c6 : Nat} {l : List (Int × Int)} (h1 : Qst W B1 (.slice A5 l.length c5) l) (h2 : Qsn W B2 (.slice A6 l.length c6) l) (hl : l.length < 1000000) :
    Calls Try.prog 18 #[.slice A5 l.length c5, .slice A6 l.length c6] W fun e W' => e = .returned (.bool true) ∧ Below W.heap.size W W' := by
  have r1 : Kd.C k51 W A5 l.length (l.map fun x => (⟨x.1, x.2⟩ : S51)) := st_reads rfl rfl hl (fun x => k51_mk W _) (fun h0 => (qst_cells h1 h0).2)
  have r2 : Kd.C k82 W A6 l.length (l.map fun x => (⟨x.1, x.2⟩ : S82)) := st_reads rfl rfl hl (fun x => k82_mk W _) (fun h0 => (sn_cells h2 h0).2)
  have c1 : l.length ≤ c5 := by
    obtain ⟨A, c, he, hc⟩ := q_slice h1
    injection he with _ _ e
    omega
  have c2 : l.length ≤ c6 := by
    obtain ⟨A, c, he, hc⟩ := q_slice h2
    injection he with _ _ e
    omega
  have e1 : (l.map fun x => (⟨x.1, x.2⟩ : S51)).length = l.length := List.length_map _
  have e2 : (l.map fun x => (⟨x.1, x.2⟩ : S82)).length = l.length := List.length_map _
  have := mosaiclaw30_same.calls (l.length + 1) A5 c5 (l.map fun x => (⟨x.1, x.2⟩ : S51)) A6 c6 (l.map fun x => (⟨x.1, x.2⟩ : S82)) true W (by rw [e1]; exact r1) (by rw [e1]; exact c1) (by rw [e2]; exact r2) (by rw [e2]; exact c2) (same_f l hl)
  rw [e1, e2] at this
  exact this.mono fun _ _ ⟨he, hd⟩ => ⟨he, drawn_below0 hd⟩
end Go.Proofs.Ytigcgdamipeidaa.Rf
