/- Two buckets at work: what holds, and what the methods do to it. -/
import Derived.Test.YtigcgdamipeidaaBkB
import Derived.Test.YtigcgdamipeidaaArgsB
import Derived.Test.YtigcgdamipeidaaShX
namespace Go.Proofs.Ytigcgdamipeidaa.Bkt
open Go.RowKit Go.Proofs.YtigcgdamipeidaaW.PrintWords Go.Proofs.YtigcgdamipeidaaW.PrintLast Go.Proofs.YtigcgdamipeidaaW.PrintMore Go.Proofs.Ytigcgdamipeidaa Go.Proofs.Ytigcgdamipeidaa.Q Go.Proofs.Ytigcgdamipeidaa.Shr Go.Proofs.Ytigcgdamipeidaa.Args

theorem waitN_pos {r s l n : Int} (h : BFit r s l) (hp : 0 < waitN r s l n) : l < n ∧ n ≤ s ∧ waitN r s (mn (l + r) s) n = waitN r s l n - 1 := by
  have hs : ¬ s < n := by
    intro hs
    unfold waitN at hp
    rw [if_pos hs] at hp
    omega
  have hl : ¬ n ≤ l := by
    intro hl
    unfold waitN at hp
    rw [if_neg hs, if_pos hl] at hp
    omega
  refine ⟨by omega, by omega, ?_⟩
  have := wait_step h (by omega : n ≤ s) (by omega : l < n)
  unfold waitN
  rw [if_neg hs, if_neg hs, if_neg hl, this]
  omega
theorem waitN_zero {r s l n : Int} (h : BFit r s l) (hz : waitN r s l n = 0) : n ≤ l := by
  by_cases hl : n ≤ l
  · exact hl
  · exfalso
    unfold waitN at hz
    by_cases hs : s < n
    · rw [if_pos hs] at hz
      omega
    · have h1 := wait_step h (by omega : n ≤ s) (by omega : l < n)
      have h2 : 0 ≤ (if n ≤ mn (l + r) s then 0 else Int.tdiv (n - mn (l + r) s + r - 1) r) := by
        have h3 := h.rb
        split
        · omega
        · exact Int.tdiv_nonneg (by omega) (by omega)
      rw [if_neg hs, if_neg hl, h1] at hz
      omega

/-- One bucket: what was there when the call began stands; the bucket's block is the call's own. -/
structure GS (w W : World) (g : Nat) (r s l : Int) : Prop where
  bel : Below w.heap.size w W
  bk : Bk W g r s l
  fit : BFit r s l
  hg : w.heap.size ≤ g
section
variable {w W W' : World} {g : Nat} {r s l l' : Int}
theorem GS.step (h : GS w W g r s l) (k : Below W.heap.size W W') : GS w W' g r s l := ⟨below_step h.bel k, blk_below h.bk k, h.fit, h.hg⟩
theorem GS.own (h : GS w W g r s l) (b : Bk W' g r s l') (t : W.grownBy W' (some g)) (f : BFit r s l') : GS w W' g r s l' :=
  ⟨pw_below_grown h.bel (some g) h.bel.size t (fun k hk => by injection hk with hk; subst hk; exact h.hg), b, f, h.hg⟩
theorem GS.far {gc : Nat} (h : GS w W g r s l) (t : W.grownBy W' (some gc)) (hc : w.heap.size ≤ gc) (hn : g ≠ gc) : GS w W' g r s l :=
  ⟨pw_below_grown h.bel (some gc) h.bel.size t (fun k hk => by injection hk with hk; subst hk; exact hc), (t.block g (blk_lt h.bk) (fun e => hn (by injection e))).trans h.bk, h.fit, h.hg⟩
theorem GS.cell (h : GS w W g r s l) {p : Addr} {v : Value} (hc : w.cell? p = some v) : W.cell? p = some v := pw_cell_below h.bel hc
theorem GS.gsize (h : GS w W g r s l) : g < W.heap.size := blk_lt h.bk
theorem gs_new {w W W' : World} (h : Below w.heap.size w W) (hg : W.heap.size ≤ g) (b : Bk W' g r s l) (k : Below W.heap.size W W') (f : BFit r s l) : GS w W' g r s l :=
  ⟨below_step h k, b, f, Nat.le_trans h.size hg⟩
theorem drawn_below (h : Drawn0 W W') : Below W.heap.size W W' := by
  obtain ⟨k, rfl⟩ := h
  exact pw_below_drewN (Below.refl _ _) k
theorem full_fit (h : BFit r s l) : BFit r s s := ⟨h.rb, h.sb, ⟨by have := h.sb; omega, Int.le_refl _⟩⟩
theorem tick_gs (h : GS w W g r s l) : Calls Try.prog 25 #[.pointer (some ⟨g, 0, none⟩)] W fun e W' => e = .returned (.tuple #[]) ∧ GS w W' g r s (mn (l + r) s) :=
  (tick_yes h.fit h.bk).mono fun _ _ hh => ⟨hh.1, h.own hh.2.1 hh.2.2 (tick_fit h.fit)⟩
theorem level_gs (h : GS w W g r s l) : Calls Try.prog 31 #[.pointer (some ⟨g, 0, none⟩)] W fun e W' => e = .returned (.int .i64 l) ∧ GS w W' g r s l :=
  (level_yes h.bk).mono fun _ _ hh => ⟨hh.1, h.step (drawn_below hh.2)⟩
theorem wait_gs (h : GS w W g r s l) (n : Int) : Calls Try.prog 29 #[.pointer (some ⟨g, 0, none⟩), .int .i64 n] W fun e W' => e = .returned (.int .i64 (waitN r s l n)) ∧ GS w W' g r s l :=
  (wait_all h.fit n h.bk).mono fun _ _ hh => ⟨hh.1, h.step (drawn_below hh.2)⟩
theorem take_gs (h : GS w W g r s l) (n : Int) : Calls Try.prog 28 #[.pointer (some ⟨g, 0, none⟩), .int .i64 n] W fun e W' => e = .returned (.int .i64 (takeE s l n)) ∧ GS w W' g r s (takeL s l n) :=
  (take_all h.fit n h.bk).mono fun _ _ hh => ⟨hh.1, h.own hh.2.1 hh.2.2 (takeL_fit h.fit n)⟩
end
/-- Two buckets of one rate and size. -/
structure GC (w W : World) (g gc : Nat) (r s l lc : Int) : Prop where
  gs : GS w W g r s l
  bc : Bk W gc r s lc
  fitc : BFit r s lc
  ne : g ≠ gc
  hgc : w.heap.size ≤ gc
section
variable {w W W' : World} {g gc : Nat} {r s l lc lc' : Int}
theorem GC.step (h : GC w W g gc r s l lc) (k : Below W.heap.size W W') : GC w W' g gc r s l lc := ⟨h.gs.step k, blk_below h.bc k, h.fitc, h.ne, h.hgc⟩
theorem GC.own (h : GC w W g gc r s l lc) (b : Bk W' gc r s lc') (t : W.grownBy W' (some gc)) (f : BFit r s lc') : GC w W' g gc r s l lc' := ⟨h.gs.far t h.hgc h.ne, b, f, h.ne, h.hgc⟩
theorem GC.cell (h : GC w W g gc r s l lc) {p : Addr} {v : Value} (hc : w.cell? p = some v) : W.cell? p = some v := h.gs.cell hc
theorem new_gc (h : GS w W g r s l) : Calls Try.prog 24 #[.int .i64 r, .int .i64 s] W fun e W' => ∃ gc, e = .returned (.pointer (some ⟨gc, 0, none⟩)) ∧ GC w W' g gc r s l s :=
  (bnew_yes h.fit.rb h.fit.sb W).mono fun _ _ ⟨gc, he, hg, b, k⟩ => ⟨gc, he, h.step k, b, full_fit h.fit, Nat.ne_of_lt (Nat.lt_of_lt_of_le h.gsize hg), Nat.le_trans h.bel.size hg⟩
theorem level_gc (h : GC w W g gc r s l lc) : Calls Try.prog 31 #[.pointer (some ⟨g, 0, none⟩)] W fun e W' => e = .returned (.int .i64 l) ∧ GC w W' g gc r s l lc :=
  (level_yes h.gs.bk).mono fun _ _ hh => ⟨hh.1, h.step (drawn_below hh.2)⟩
theorem levelc_gc (h : GC w W g gc r s l lc) : Calls Try.prog 31 #[.pointer (some ⟨gc, 0, none⟩)] W fun e W' => e = .returned (.int .i64 lc) ∧ GC w W' g gc r s l lc ∧ Below W.heap.size W W' :=
  (level_yes h.bc).mono fun _ _ hh => ⟨hh.1, h.step (drawn_below hh.2), drawn_below hh.2⟩
theorem tickc_gc (h : GC w W g gc r s l lc) : Calls Try.prog 25 #[.pointer (some ⟨gc, 0, none⟩)] W fun e W' => e = .returned (.tuple #[]) ∧ GC w W' g gc r s l (mn (lc + r) s) :=
  (tick_yes h.fitc h.bc).mono fun _ _ hh => ⟨hh.1, h.own hh.2.1 hh.2.2 (tick_fit h.fitc)⟩
theorem takec_gc (h : GC w W g gc r s l lc) (n : Int) : Calls Try.prog 28 #[.pointer (some ⟨gc, 0, none⟩), .int .i64 n] W fun e W' => e = .returned (.int .i64 (takeE s lc n)) ∧ GC w W' g gc r s l (takeL s lc n) :=
  (take_all h.fitc n h.bc).mono fun _ _ hh => ⟨hh.1, h.own hh.2.1 hh.2.2 (takeL_fit h.fitc n)⟩
/-- A full bucket out of which all but a level is taken. -/
theorem takec_rest (h : GC w W g gc r s l s) : Calls Try.prog 28 #[.pointer (some ⟨gc, 0, none⟩), .int .i64 (s - l)] W fun e W' => e = .returned (.int .i64 0) ∧ GC w W' g gc r s l l := by
  have hl := h.gs.fit.lb
  have e1 : takeE s s (s - l) = 0 := by
    unfold takeE
    rw [if_neg (by omega), if_neg (by omega), if_neg (by omega)]
  have e2 : takeL s s (s - l) = l := by
    unfold takeL
    rw [if_neg (by omega), if_neg (by omega), if_neg (by omega)]
    omega
  have := takec_gc h (s - l)
  rw [e1, e2] at this
  exact this
/-- What is there can be taken. -/
theorem takec_ok (h : GC w W g gc r s l lc) {n : Int} (h0 : 0 ≤ n) (h1 : n ≤ lc) : Calls Try.prog 28 #[.pointer (some ⟨gc, 0, none⟩), .int .i64 n] W fun e W' => e = .returned (.int .i64 0) ∧ GC w W' g gc r s l (lc - n) := by
  have hl := h.fitc.lb
  have e1 : takeE s lc n = 0 := by
    unfold takeE
    rw [if_neg (by omega), if_neg (by omega), if_neg (by omega)]
  have e2 : takeL s lc n = lc - n := by
    unfold takeL
    rw [if_neg (by omega), if_neg (by omega), if_neg (by omega)]
  have := takec_gc h n
  rw [e1, e2] at this
  exact this
end
/-- What holds before a round: nothing was given that wasn't let in. -/
def GR (w W : World) (g : Nat) (r s gv may : Int) (i : Nat) : Prop := ∃ l, GS w W g r s l ∧ 0 ≤ gv ∧ gv + l ≤ may ∧ may ≤ 65536 * (i + 1)
/-- .. and before a round of the inner loop. -/
def GJ (w W : World) (g gc : Nat) (r s l n : Int) (left : Nat) : Prop := ∃ lc, GC w W g gc r s l lc ∧ waitN r s lc n = (left : Int)
end Go.Proofs.Ytigcgdamipeidaa.Bkt
