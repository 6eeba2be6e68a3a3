/- The reference share's Turn in memory: what holds at its loops. -/
import Derived.Test.YtigcgdamipeidaaTuA
namespace Go.Proofs.Ytigcgdamipeidaa.Rf
open Go.RowKit Go.Proofs.YtigcgdamipeidaaW.PrintWords Go.Proofs.YtigcgdamipeidaaW.PrintLast Go.Proofs.YtigcgdamipeidaaW.PrintMore Go.Proofs.Ytigcgdamipeidaa Go.Proofs.Ytigcgdamipeidaa.Q Go.Proofs.Ytigcgdamipeidaa.Shr

/-- What the list of queues that is handed on may lead to: what came in, or what is new; neither block h nor the row u. -/
def okT (w : World) (P : Nat → Prop) (h : Nat) (u : Value) : Nat → Prop := fun k => (((P k ∧ k < w.heap.size) ∨ w.heap.size + 3 ≤ k) ∧ k ≠ h) ∧ some k ≠ u.ownBlock
/-- The blocks at a round's head. -/
structure T1 (w W : World) (P : Nat → Prop) (Q : Int) (A : Option Addr) (c : Nat) (l : List S45) (h : Nat) (lS : List S45) (lL : List (Int × Int)) (e : Int) (vS vL : Value) : Prop where
  bel : Below w.heap.size w W
  sz : w.heap.size + 3 ≤ W.heap.size
  b1 : W.heap[w.heap.size]? = some (.cells #[.int .i64 Q, .slice A l.length c] 28 (0, 0))
  b2 : W.heap[w.heap.size + 1]? = some (.cells #[.int .i64 0, .slice none 0 0, .slice none 0 0, .int .i64 0] 37 (0, 0))
  b3 : W.heap[w.heap.size + 2]? = some (.cells #[.int .i64 Q, vS, vL, .int .i64 e] 37 (0, 0))
  s : Kd.V k45 45 W 0 (okT w P h vL) vS lS
  r : Qsn W (w.heap.size + 3) vL lL
section
variable {w W W1 : World} {P : Nat → Prop} {Q e : Int} {A : Option Addr} {c h : Nat} {l lS : List S45} {lL : List (Int × Int)} {vS vL : Value}
theorem T1.step (t : T1 w W P Q A c l h lS lL e vS vL) (hb : Below W.heap.size W W1) : T1 w W1 P Q A c l h lS lL e vS vL :=
  ⟨below_step t.bel hb, Nat.le_trans t.sz hb.size, blk_below t.b1 hb, blk_below t.b2 hb, blk_below t.b3 hb, Kd.V_below t.s hb, q_move t.r (fun k hk => hb.block k (q_lt t.r k hk))⟩
/-- Another block h is told apart: one that is new. -/
theorem T1.apart (t : T1 w W P Q A c l h lS lL e vS vL) (h' : Nat) (hh : W.heap.size ≤ h') : T1 w W P Q A c l h' lS lL e vS vL :=
  ⟨t.bel, t.sz, t.b1, t.b2, t.b3, Kd.V_mono (Kd.V_bound t.s) (fun k hk => ⟨⟨hk.1.1.1, by have := hk.2; omega⟩, hk.1.2⟩), t.r⟩
theorem T1.rne (t : T1 w W P Q A c l h lS lL e vS vL) {k : Nat} {ty : TypeId} {cs : Array Value} (hb : W.heap[k]? = some (.cells cs ty (0, 0))) (ht : ty ≠ 82) : vL.ownBlock ≠ some k := by
  intro he
  obtain ⟨_, cells, hc⟩ := q_typed t.r k he
  exact blk_ne hc hb (fun e => ht e.symm) rfl
/-- A store into the block that is told apart. -/
theorem T1.set (t : T1 w W P Q A c l h lS lL e vS vL) {cs : Array Value} {ty : TypeId} (hb : W.heap[h]? = some (.cells cs ty (0, 0))) (ht : ty ≠ 82) (hh : w.heap.size + 3 ≤ h) (j : Nat) (u : Value) : T1 w (W.setCell ⟨h, j, none⟩ u) P Q A c l h lS lL e vS vL :=
  ⟨t.bel.setCell (p := ⟨h, j, none⟩) (by show w.heap.size ≤ h; omega) u, by simpa [World.setCell] using t.sz, blk_far t.b1 (by show w.heap.size ≠ h; omega) u, blk_far t.b2 (by show w.heap.size + 1 ≠ h; omega) u, blk_far t.b3 (by show w.heap.size + 2 ≠ h; omega) u,
    Kd.V_far t.s (fun k hk => hk.1.2) u, q_move t.r (fun k hk => Below.heap_setCell W ⟨h, j, none⟩ u k (fun e => t.rne hb ht (by rw [hk, e])))⟩
/-- A store into out. -/
theorem T1.out (t : T1 w W P Q A c l h lS lL e vS vL) (j : Nat) (u : Value) {vS' vL' : Value} {e' : Int} {lS' : List S45} {lL' : List (Int × Int)} (hc : (#[.int .i64 Q, vS, vL, .int .i64 e] : Array Value).setIfInBounds j u = #[.int .i64 Q, vS', vL', .int .i64 e'])
    (hs : Kd.V k45 45 W 0 (okT w P h vL') vS' lS') (hr : Qsn W (w.heap.size + 3) vL' lL') : T1 w (W.setCell ⟨w.heap.size + 2, j, none⟩ u) P Q A c l h lS' lL' e' vS' vL' :=
  ⟨t.bel.setCell (p := ⟨w.heap.size + 2, j, none⟩) (by show w.heap.size ≤ w.heap.size + 2; omega) u, by simpa [World.setCell] using t.sz, blk_far t.b1 (by show w.heap.size ≠ w.heap.size + 2; omega) u, blk_far t.b2 (by show w.heap.size + 1 ≠ w.heap.size + 2; omega) u, blk_put t.b3 j u hc,
    Kd.V_far hs (fun k hk => by
      show k ≠ w.heap.size + 2
      have := hk.1.1
      omega) u, q_move hr (fun k hk => Below.heap_setCell W ⟨w.heap.size + 2, j, none⟩ u k (fun e => by
      obtain ⟨_, cells, hc⟩ := q_typed hr k hk
      have e' : k = w.heap.size + 2 := e
      subst e'
      exact blk_ne hc t.b3 (by decide) rfl))⟩
/-- Behind an append to what is sent. -/
theorem T1.app (t : T1 w W P Q A c l h lS lL e vS vL) {v1 : Value} {lL' : List (Int × Int)} (hq : Qsn W1 (w.heap.size + 3) v1 lL') (hg : W.grownBy W1 vL.ownBlock) (hat : v1.ownBlock = vL.ownBlock ∨ ∃ b, v1.ownBlock = some b ∧ W.heap.size ≤ b) :
    T1 w (W1.setCell ⟨w.heap.size + 2, 2, none⟩ v1) P Q A c l h lS lL' e vS v1 := by
  have n1 : vL.ownBlock ≠ some w.heap.size := t.rne t.b1 (by decide)
  have n2 : vL.ownBlock ≠ some (w.heap.size + 1) := t.rne t.b2 (by decide)
  have n3 : vL.ownBlock ≠ some (w.heap.size + 2) := t.rne t.b3 (by decide)
  have hs : Kd.V k45 45 W1 0 (okT w P h v1) vS lS := Kd.V_after t.s hg hat
  refine ⟨?_, ?_, ?_, ?_, ?_, ?_, ?_⟩
  · refine (pw_below_grown t.bel vL.ownBlock t.bel.size hg (fun k hk => ?_)).setCell (p := ⟨w.heap.size + 2, 2, none⟩) (by show w.heap.size ≤ w.heap.size + 2; omega) v1
    have := (q_typed t.r k hk).1
    omega
  · have := hg.size
    have h2 := t.sz
    simp only [World.setCell, Array.size_modify]
    omega
  · exact blk_far (blk_grown t.b1 hg (fun e => n1 e.symm)) (by show w.heap.size ≠ w.heap.size + 2; omega) v1
  · exact blk_far (blk_grown t.b2 hg (fun e => n2 e.symm)) (by show w.heap.size + 1 ≠ w.heap.size + 2; omega) v1
  · exact blk_put (blk_grown t.b3 hg (fun e => n3 e.symm)) 2 v1 rfl
  · exact Kd.V_far hs (fun k hk => by
      show k ≠ w.heap.size + 2
      have := hk.1.1
      omega) v1
  · exact q_move hq (fun k hk => Below.heap_setCell W1 ⟨w.heap.size + 2, 2, none⟩ v1 k (fun e => by
      obtain ⟨_, cells, hc⟩ := q_typed hq k hk
      have e' : k = w.heap.size + 2 := e
      subst e'
      exact blk_ne hc (blk_grown t.b3 hg (fun e => n3 e.symm)) (by decide) rfl))
end
/-- An element of a list of queues. -/
theorem el45 {W : World} {base : Nat} {ok : Nat → Prop} {A : Option Addr} {c : Nat} {l : List S45} (hv : Kd.V k45 45 W base ok (.slice A l.length c) l) {i : Nat} {x : S45} (hx : l[i]? = some x) :
    ∃ a A3 c3, A = some a ∧ W.cell? (a.add (i * 4)) = some (.int .i64 x.f0) ∧ W.cell? ⟨(a.add (i * 4)).block, (a.add (i * 4)).off + 1, none⟩ = some (.int .i64 x.f1) ∧ W.cell? ⟨(a.add (i * 4)).block, (a.add (i * 4)).off + 2, none⟩ = some (.int .i64 x.f2) ∧
      W.cell? ⟨(a.add (i * 4)).block, (a.add (i * 4)).off + 3, none⟩ = some (.slice A3 x.f3.length c3) ∧ x.f3.length ≤ c3 ∧ Kd.F (Kd.int .i64) W ok A3 x.f3.length x.f3 := by
  have hi := (List.getElem?_eq_some_iff.1 hx).1
  obtain ⟨ad, cs, he, _, hK, hc, _⟩ := Kd.F_get (Kd.V_F hv) z45 (i : Int) (by omega) (by omega)
  rw [Int.toNat_natCast, List.getD_eq_getElem?_getD, hx] at hK
  rw [Int.toNat_natCast] at hc
  obtain ⟨A3, c3, rfl, l3, g3⟩ := k45_openF hK
  refine ⟨ad, A3, c3, he, hc 0 _ rfl, ?_, ?_, ?_, l3, g3⟩
  · rw [← add_field _ _ 1 (by omega)]
    exact hc 1 _ rfl
  · rw [← add_field _ _ 2 (by omega)]
    exact hc 2 _ rfl
  · rw [← add_field _ _ 3 (by omega)]
    exact hc 3 _ rfl
end Go.Proofs.Ytigcgdamipeidaa.Rf
