/- A share at work beside other blocks: what holds, and what its methods do to it. -/
import Derived.Test.YtigcgdamipeidaaShX
namespace Go.Proofs.Ytigcgdamipeidaa.Shr
open Go.RowKit Go.Proofs.YtigcgdamipeidaaW.PrintWords Go.Proofs.YtigcgdamipeidaaW.PrintLast Go.Proofs.YtigcgdamipeidaaW.PrintMore Go.Proofs.Ytigcgdamipeidaa Go.Proofs.Ytigcgdamipeidaa.Q

/-- A share S stands in block g; the blocks of N are not its own; what was there when the call began stands. -/
structure SS (w W : World) (B g : Nat) (N : Nat → Prop) (S : Sh) : Prop where
  bel : Below w.heap.size w W
  base : w.heap.size ≤ B
  size : B ≤ W.heap.size
  fit : Fit S
  has : ∃ vs, Has W B g S vs ∧ ∀ k, N k → ¬ Own g vs k ∧ k < W.heap.size
/-- The blocks of N hold what they held. -/
def Same (N : Nat → Prop) (W W' : World) : Prop := ∀ k, N k → W'.heap[k]? = W.heap[k]?
section
variable {w W W' : World} {B g : Nat} {N : Nat → Prop} {S S' : Sh}
theorem Same.refl (N : Nat → Prop) (W : World) : Same N W W := fun _ _ => rfl
theorem Same.trans {W2 : World} (h : Same N W W') (k : Same N W' W2) : Same N W W2 := fun i hi => (k i hi).trans (h i hi)
theorem Same.blk (h : Same N W W') {k : Nat} {o : Obj} (hk : N k) (hb : W.heap[k]? = some o) : W'.heap[k]? = some o := (h k hk).trans hb
theorem SS.cell (h : SS w W B g N S) {p : Addr} {v : Value} (hc : w.cell? p = some v) : W.cell? p = some v := pw_cell_below h.bel hc
theorem SS.after {vs vs' : Nat → Value} (h : SS w W B g N S) (hn : ∀ k, N k → ¬ Own g vs k ∧ k < W.heap.size) (hh : Has W' B g S' vs') (ha : After W W' B g vs vs') (hf : Fit S') :
    SS w W' B g N S' ∧ Same N W W' := by
  have hm : Below w.heap.size W W' := ha.1.mono h.base
  refine ⟨⟨h.bel.trans hm, h.base, Nat.le_trans h.size ha.1.size, hf, vs', hh, fun k hk => ⟨fun ho => ?_, Nat.lt_of_lt_of_le (hn k hk).2 ha.1.size⟩⟩, fun k hk => ha.2.1.2 k (hn k hk).2 (hn k hk).1⟩
  rcases ha.2.2 k ho with h1 | h1
  · exact (hn k hk).1 h1
  · exact Nat.lt_irrefl _ (Nat.lt_of_lt_of_le (hn k hk).2 h1)
/-- What turns nothing that was there. -/
theorem SS.step (h : SS w W B g N S) (hb : Below W.heap.size W W') : SS w W' B g N S := by
  obtain ⟨vs, hh, hn⟩ := h.has
  exact ⟨below_step h.bel hb, h.base, Nat.le_trans h.size hb.size, h.fit, vs, hh.below hb, fun k hk => ⟨(hn k hk).1, Nat.lt_of_lt_of_le (hn k hk).2 hb.size⟩⟩
theorem same_below (h : SS w W B g N S) (hb : Below W.heap.size W W') : Same N W W' := by
  obtain ⟨vs, hh, hn⟩ := h.has
  exact fun k hk => hb.block k (hn k hk).2
/-- What came up since is not the share's. -/
theorem SS.more (h : SS w W B g N S) (hb : Below W.heap.size W W') {N' : Nat → Prop} (hN : ∀ k, N' k → N k ∨ (W.heap.size ≤ k ∧ k < W'.heap.size)) : SS w W' B g N' S := by
  obtain ⟨vs, hh, hn⟩ := h.has
  refine ⟨below_step h.bel hb, h.base, Nat.le_trans h.size hb.size, h.fit, vs, hh.below hb, fun k hk => ?_⟩
  rcases hN k hk with h1 | ⟨h1, h2⟩
  · exact ⟨(hn k h1).1, Nat.lt_of_lt_of_le (hn k h1).2 hb.size⟩
  · exact ⟨fun ho => Nat.lt_irrefl _ (Nat.lt_of_lt_of_le (hh.lt ho) h1), h2⟩
/-- What stood before the share is not the share's. -/
theorem SS.old (h : SS w W B g N S) {N' : Nat → Prop} (hN : ∀ k, N' k → N k ∨ k < B) : SS w W B g N' S := by
  obtain ⟨vs, hh, hn⟩ := h.has
  refine ⟨h.bel, h.base, h.size, h.fit, vs, hh, fun k hk => ?_⟩
  rcases hN k hk with h1 | h1
  · exact hn k h1
  · exact ⟨fun ho => Nat.lt_irrefl _ (Nat.lt_of_lt_of_le h1 (hh.ge ho)), Nat.lt_of_lt_of_le h1 h.size⟩
/-- Less is asked. -/
theorem SS.less (h : SS w W B g N S) {N' : Nat → Prop} (hN : ∀ k, N' k → N k) : SS w W B g N' S := by
  obtain ⟨vs, hh, hn⟩ := h.has
  exact ⟨h.bel, h.base, h.size, h.fit, vs, hh, fun k hk => hn k (hN k hk)⟩
/-- Blocks of N are written, nothing else that was there is. -/
theorem SS.wrote (h : SS w W B g N S) (hs : W.heap.size ≤ W'.heap.size) (ho : W'.os = W.os) (ht : W'.tape = W.tape) (hp : W'.output = W.output)
    (hb : ∀ k, k < W.heap.size → ¬ (N k ∧ w.heap.size ≤ k) → W'.heap[k]? = W.heap[k]?) : SS w W' B g N S := by
  obtain ⟨vs, hh, hn⟩ := h.has
  refine ⟨h.bel.trans ⟨ho, ht, hp, hs, fun k hk => hb k (Nat.lt_of_lt_of_le hk h.bel.size) (fun hc => Nat.lt_irrefl _ (Nat.lt_of_lt_of_le hk hc.2))⟩, h.base, Nat.le_trans h.size hs, h.fit, vs,
    hh.move (fun k hk => hb k (hh.lt hk) (fun hc => (hn k hc.1).1 hk)), fun k hk => ⟨(hn k hk).1, Nat.lt_of_lt_of_le (hn k hk).2 hs⟩⟩
theorem SS.set (h : SS w W B g N S) {k : Nat} (hk : N k) (hw : w.heap.size ≤ k) (j : Nat) (u : Value) : SS w (W.setCell ⟨k, j, none⟩ u) B g N S :=
  h.wrote (by simp [World.setCell]) rfl rfl rfl (fun i _ hc => Below.heap_setCell W ⟨k, j, none⟩ u i (fun e => hc (by subst e; exact ⟨hk, hw⟩)))
theorem SS.grown (h : SS w W B g N S) {row : Option Nat} (hg : W.grownBy W' row) (hk : ∀ k, row = some k → N k ∧ w.heap.size ≤ k) : SS w W' B g N S :=
  h.wrote hg.size hg.os hg.tape hg.output (fun i hi hc => hg.block i hi (fun e => hc (hk i e.symm)))
theorem drawn_below0 (h : Drawn0 W W') : Below W.heap.size W W' := by
  obtain ⟨k, rfl⟩ := h
  exact pw_below_drewN (Below.refl _ _) k

theorem weighS_fit (h : Fit S) {n x : Int} (hx : 1 ≤ x ∧ x ≤ 16) : Fit (weighS S n x) := by
  refine ⟨h.q, fun p hp => ?_, h.cr, h.long, h.size⟩
  unfold weighS up
  show 0 ≤ (if p = n.toNat then x else S.wt p) ∧ (if p = n.toNat then x else S.wt p) ≤ 16
  split
  · omega
  · exact h.wt p hp
theorem addS_fit (h : Fit S) {n x : Int} (hx : 1 ≤ x ∧ x ≤ 65536) (hl : (S.l n.toNat).length < 100) : Fit (addS S n x) := by
  refine ⟨h.q, h.wt, h.cr, fun p hp => ?_, fun p hp y hy => ?_⟩
  · show (up S.l n.toNat (S.l n.toNat ++ [x]) p).length ≤ 100
    unfold up
    split
    · rw [List.length_append]
      exact hl
    · exact h.long p hp
  · have hy' : y ∈ up S.l n.toNat (S.l n.toNat ++ [x]) p := hy
    unfold up at hy'
    split at hy'
    · rename_i e
      rw [List.mem_append] at hy'
      rcases hy' with h1 | h1
      · exact h.size p hp y (by rw [e]; exact h1)
      · rw [List.mem_singleton] at h1
        omega
    · exact h.size p hp y hy'
theorem new_ss {q : Int} (hq : 1 ≤ q ∧ q ≤ 65536) (hb : Below w.heap.size w W) : Calls Try.prog 10 #[.int .i64 q] W fun e W' => ∃ g, e = .returned (.pointer (some ⟨g, 0, none⟩)) ∧ SS w W' W.heap.size g (fun _ => False) (S0 q) ∧ Below W.heap.size W W' :=
  (new_yes hq W).mono fun _ _ ⟨g, he, hh, k⟩ => ⟨g, he, ⟨below_step hb k, hb.size, k.size, ⟨hq, fun _ _ => by simp [S0], fun _ _ => by simp [S0], fun _ _ => by simp [S0], fun _ _ x hx => by simp [S0] at hx⟩, vs0, hh, fun _ hk => hk.elim⟩, k⟩
theorem weigh_ss (h : SS w W B g N S) {n x : Int} (hn : 1 ≤ n ∧ n ≤ 15) (hx : 1 ≤ x ∧ x ≤ 16) : Calls Try.prog 13 #[.pointer (some ⟨g, 0, none⟩), .int .i64 n, .int .i64 x] W fun e W' => e = .returned (.int .i64 0) ∧ SS w W' B g N (weighS S n x) ∧ Same N W W' := by
  obtain ⟨vs, hh, hn'⟩ := h.has
  exact (weigh_yes hn hx hh).mono fun _ _ ⟨he, h1, h2⟩ => ⟨he, h.after hn' h1 h2 (weighS_fit h.fit hx)⟩
theorem add_ss (h : SS w W B g N S) {n x : Int} (hn : 1 ≤ n ∧ n ≤ 15) (hx : 1 ≤ x ∧ x ≤ 65536) (h0 : S.wt n.toNat ≠ 0) (hl : (S.l n.toNat).length < 100) : Calls Try.prog 15 #[.pointer (some ⟨g, 0, none⟩), .int .i64 n, .int .i64 x] W fun e W' => e = .returned (.int .i64 0) ∧ SS w W' B g N (addS S n x) ∧ Same N W W' := by
  obtain ⟨vs, hh, hn'⟩ := h.has
  exact (add_yes hn hx hh h0 hl h.size).mono fun _ _ ⟨he, vs', h1, h2⟩ => ⟨he, h.after hn' h1 h2 (addS_fit h.fit hx hl)⟩
theorem waits_ss (h : SS w W B g N S) {n : Int} (hn : 1 ≤ n ∧ n ≤ 15) : Calls Try.prog 20 #[.pointer (some ⟨g, 0, none⟩), .int .i64 n] W fun e W' => e = .returned (.int .i64 ((S.l n.toNat).length : Int)) ∧ Below W.heap.size W W' := by
  obtain ⟨vs, hh, hn'⟩ := h.has
  exact (waits_yes hn hh).mono fun _ _ ⟨he, h1⟩ => ⟨he, drawn_below0 h1⟩
theorem credit_ss (h : SS w W B g N S) {n : Int} (hn : 1 ≤ n ∧ n ≤ 15) : Calls Try.prog 21 #[.pointer (some ⟨g, 0, none⟩), .int .i64 n] W fun e W' => e = .returned (.int .i64 (S.cr n.toNat)) ∧ Below W.heap.size W W' := by
  obtain ⟨vs, hh, hn'⟩ := h.has
  exact (credit_yes hn hh).mono fun _ _ ⟨he, h1⟩ => ⟨he, drawn_below0 h1⟩
theorem turn_ss (h : SS w W B g N S) : Calls Try.prog 17 #[.pointer (some ⟨g, 0, none⟩)] W fun e W' => ∃ v, e = .returned (.tuple #[v, .int .i64 (tErr (turnTo S 16).2.2)]) ∧
    SS w W' B g (fun k => N k ∨ v.ownBlock = some k) (turnTo S 16).1 ∧ Same N W W' ∧ Qst W' W.heap.size v (turnTo S 16).2.1 := by
  obtain ⟨vs, hh, hn'⟩ := h.has
  refine (share_turn h.fit hh h.size).mono fun _ W' ⟨v, he, vs', h1, h2, h3, h4⟩ => ?_
  have h5 := h.after hn' h1 h2 (turnTo_fit h.fit 16 (Nat.le_refl _))
  have hm : Below w.heap.size W W' := h2.1.mono h.base
  refine ⟨v, he, ⟨h5.1.bel, h5.1.base, h5.1.size, h5.1.fit, vs', h1, fun k hk => ?_⟩, h5.2, h3⟩
  rcases hk with hk | hk
  · refine ⟨fun ho => ?_, Nat.lt_of_lt_of_le (hn' k hk).2 h2.1.size⟩
    rcases h2.2.2 k ho with h6 | h6
    · exact (hn' k hk).1 h6
    · exact Nat.lt_irrefl _ (Nat.lt_of_lt_of_le (hn' k hk).2 h6)
  · exact ⟨h4 k hk, q_lt h3 k hk⟩
end
end Go.Proofs.Ytigcgdamipeidaa.Shr
