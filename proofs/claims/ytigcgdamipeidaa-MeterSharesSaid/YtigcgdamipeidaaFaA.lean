/- The law MeterFair: what holds at its loops. -/
import Derived.Test.YtigcgdamipeidaaPlF
import Derived.Test.YtigcgdamipeidaaArgsB
namespace Go.Proofs.Ytigcgdamipeidaa.Shr
open Go.RowKit Go.Proofs.YtigcgdamipeidaaW.PrintWords Go.Proofs.YtigcgdamipeidaaW.PrintLast Go.Proofs.YtigcgdamipeidaaW.PrintMore Go.Proofs.Ytigcgdamipeidaa Go.Proofs.Ytigcgdamipeidaa.Q

def Ints (w : World) (A : Option Addr) (l : List Int) : Prop := ∀ i x, l[i]? = some x → ∃ a, A = some a ∧ w.cell? (a.add i) = some (.int .i64 x)
/-- A number brought to 1 .. m, as the law brings it. -/
def nm (m x : Int) : Int := wrap64 (1 + (wrap64 (x.tmod m + m)).tmod m)
theorem nm_fit {m : Int} (hm : 1 ≤ m ∧ m ≤ 100000) (x : Int) : 1 ≤ nm m x ∧ nm m x ≤ m := by
  have h1 : x.tmod m < m := Int.tmod_lt_of_pos x (by omega)
  have h2 : -m < x.tmod m := Int.lt_tmod_of_pos x (by omega)
  have e1 : wrap64 (x.tmod m + m) = x.tmod m + m := by unfold wrap64; omega
  have h3 : (x.tmod m + m).tmod m < m := Int.tmod_lt_of_pos _ (by omega)
  have h4 : 0 ≤ (x.tmod m + m).tmod m := Int.tmod_nonneg _ (by omega)
  unfold nm
  rw [e1]
  unfold wrap64
  omega
/-- Behind k peers. -/
structure F1 (S : Sh) (Q : Int) (wv : Nat → Int) (k : Nat) : Prop where
  q : S.q = Q
  oth : ∀ p, p < 16 → p ≠ 2 → p ≠ 3 → S.l p = []
  cr : ∀ p, S.cr p = 0
  done : ∀ j, j < k → S.wt (2 + j) = wv j ∧ (S.l (2 + j)).length = 100
  rest : ∀ j, j < 2 → k ≤ j → S.l (2 + j) = []
  sz : ∀ j, j < 2 → ∀ x ∈ S.l (2 + j), 1 ≤ x ∧ x ≤ 5000
/-- .. and behind i sizes of the next. -/
structure F2 (S : Sh) (Q : Int) (wv : Nat → Int) (k i : Nat) : Prop where
  q : S.q = Q
  oth : ∀ p, p < 16 → p ≠ 2 → p ≠ 3 → S.l p = []
  cr : ∀ p, S.cr p = 0
  done : ∀ j, j < k → S.wt (2 + j) = wv j ∧ (S.l (2 + j)).length = 100
  here : S.wt (2 + k) = wv k ∧ (S.l (2 + k)).length = i
  rest : ∀ j, j < 2 → k < j → S.l (2 + j) = []
  sz : ∀ j, j < 2 → ∀ x ∈ S.l (2 + j), 1 ≤ x ∧ x ≤ 5000
section
variable {S : Sh} {Q : Int} {wv : Nat → Int} {k i : Nat}
theorem f1_start (Q : Int) (wv : Nat → Int) : F1 (S0 Q) Q wv 0 := ⟨rfl, fun _ _ _ _ => rfl, fun _ => rfl, fun _ h => absurd h (by omega), fun _ _ _ => rfl, fun _ _ x hx => by simp [S0] at hx⟩
theorem F1.weigh (h : F1 S Q wv k) (hk : k < 2) {n : Int} (hn : n.toNat = 2 + k) : F2 (weighS S n (wv k)) Q wv k 0 := by
  refine ⟨h.q, h.oth, h.cr, fun j hj => ⟨?_, (h.done j hj).2⟩, ⟨?_, by show (S.l (2 + k)).length = 0; rw [h.rest k hk (Nat.le_refl _)]; rfl⟩, fun j h1 h2 => h.rest j h1 (by omega), h.sz⟩
  · show up S.wt n.toNat (wv k) (2 + j) = wv j
    rw [up_other _ _ (by omega)]
    exact (h.done j hj).1
  · show up S.wt n.toNat (wv k) (2 + k) = wv k
    rw [hn, up_same]
theorem F2.add (h : F2 S Q wv k i) (hk : k < 2) {n x : Int} (hn : n.toNat = 2 + k) (hx : 1 ≤ x ∧ x ≤ 5000) : F2 (addS S n x) Q wv k (i + 1) := by
  have ho : ∀ p, p ≠ 2 + k → (addS S n x).l p = S.l p := fun p hp => by
    show up S.l n.toNat (S.l n.toNat ++ [x]) p = S.l p
    rw [up_other _ _ (by omega)]
  have hs : (addS S n x).l (2 + k) = S.l (2 + k) ++ [x] := by
    show up S.l n.toNat (S.l n.toNat ++ [x]) (2 + k) = _
    rw [hn, up_same]
  refine ⟨h.q, fun p h1 h2 h3 => by rw [ho p (by omega)]; exact h.oth p h1 h2 h3, h.cr, fun j hj => ⟨(h.done j hj).1, by rw [ho _ (by omega)]; exact (h.done j hj).2⟩, ⟨h.here.1, by rw [hs, List.length_append, h.here.2]; rfl⟩,
    fun j h1 h2 => by rw [ho _ (by omega)]; exact h.rest j h1 h2, fun j hj y hy => ?_⟩
  by_cases he : j = k
  · subst he
    rw [hs, List.mem_append, List.mem_singleton] at hy
    rcases hy with hy | rfl
    · exact h.sz j hj y hy
    · exact hx
  · rw [ho _ (by omega)] at hy
    exact h.sz j hj y hy
theorem F2.next (h : F2 S Q wv k 100) : F1 S Q wv (k + 1) :=
  ⟨h.q, h.oth, h.cr, fun j hj => by
    by_cases he : j = k
    · subst he
      exact h.here
    · exact h.done j (by omega), fun j h1 h2 => h.rest j h1 (by omega), h.sz⟩
theorem F1.start (h : F1 S Q wv 2) (hq : 1 ≤ Q ∧ Q ≤ 2000) (hw : ∀ j, j < 2 → 1 ≤ wv j ∧ wv j ≤ 16) : FI S Q wv (fun _ => 0) 0 :=
  ⟨h.q, hq, hw, fun j hj => (h.done j hj).1, h.oth, h.sz, fun j hj _ => by rw [h.cr]; simp, fun _ _ => by simp⟩
theorem F2.can (h : F2 S Q wv k i) (hw : 1 ≤ wv k) {n : Int} (hn : n.toNat = 2 + k) (hi : i < 100) : S.wt n.toNat ≠ 0 ∧ (S.l n.toNat).length < 100 := by
  rw [hn, h.here.1, h.here.2]
  exact ⟨by omega, hi⟩
end
/-- The blocks beside the share. -/
def N3 (h4 h8 h9 : Nat) : Nat → Prop := fun k => k = h4 ∨ k = h8 ∨ k = h9
/-- The three arrays. -/
structure A3 (W : World) (h4 h8 h9 : Nat) (u0 u1 y0 y1 s0 s1 : Int) : Prop where
  b4 : W.heap[h4]? = some (.cells #[.int .i64 u0, .int .i64 u1] 52 (0, 0))
  b8 : W.heap[h8]? = some (.cells #[.int .i64 y0, .int .i64 y1] 52 (0, 0))
  b9 : W.heap[h9]? = some (.cells #[.int .i64 s0, .int .i64 s1] 52 (0, 0))
theorem A3.same {W W' : World} {h4 h8 h9 : Nat} {u0 u1 y0 y1 s0 s1 : Int} (h : A3 W h4 h8 h9 u0 u1 y0 y1 s0 s1) (k : Same (N3 h4 h8 h9) W W') : A3 W' h4 h8 h9 u0 u1 y0 y1 s0 s1 :=
  ⟨k.blk (.inl rfl) h.b4, k.blk (.inr (.inl rfl)) h.b8, k.blk (.inr (.inr rfl)) h.b9⟩
theorem A3.below {W W' : World} {h4 h8 h9 : Nat} {u0 u1 y0 y1 s0 s1 : Int} (h : A3 W h4 h8 h9 u0 u1 y0 y1 s0 s1) (k : Below W.heap.size W W') : A3 W' h4 h8 h9 u0 u1 y0 y1 s0 s1 :=
  ⟨blk_below h.b4 k, blk_below h.b8 k, blk_below h.b9 k⟩
theorem st_get (L : List (Int × Int)) : ∀ (i : Nat) (x : Int × Int), L[i]? = some x → (stCells L)[i * 2]? = some (.int .i64 x.1) ∧ (stCells L)[i * 2 + 1]? = some (.int .i64 x.2) := by
  induction L with
  | nil => intro i x h; simp at h
  | cons y L ih =>
    intro i x h
    have e : stCells (y :: L) = .int .i64 y.1 :: .int .i64 y.2 :: stCells L := rfl
    rw [e]
    cases i with
    | zero =>
      simp at h
      subst h
      exact ⟨rfl, rfl⟩
    | succ i =>
      have := ih i x (by simpa using h)
      rw [show (i + 1) * 2 = i * 2 + 1 + 1 by omega, show i * 2 + 1 + 1 + 1 = (i * 2 + 1) + 1 + 1 by omega]
      simpa using this
/-- What was sent can be read; it lies apart from block h. -/
def Steps (W : World) (A : Option Addr) (h : Nat) (L : List (Int × Int)) : Prop :=
  ∀ i x, L[i]? = some x → ∃ a, A = some a ∧ W.cell? (a.add (i * 2)) = some (.int .i64 x.1) ∧ W.cell? ⟨(a.add (i * 2)).block, (a.add (i * 2)).off + (0 + 1), none⟩ = some (.int .i64 x.2) ∧ (a.add (i * 2)).block ≠ h
theorem steps_of {W : World} {B2 : Nat} {A : Option Addr} {n c h : Nat} {L : List (Int × Int)} (hq : Qst W B2 (.slice A n c) L) (hh : h < B2) : Steps W A h L := by
  intro i x hx
  have hl : 0 < L.length := by
    have := (List.getElem?_eq_some_iff.1 hx).1
    omega
  obtain ⟨h1, h2⟩ := hq
  rcases h2 with ⟨h0, _⟩ | ⟨b, off, cap, cur, he, hbase, hcur, _, _, _, ht⟩
  · omega
  · injection he with ha hn hc
    have hg := st_get L i x hx
    have hlen := (List.getElem?_eq_some_iff.1 hx).1
    have ec : ∀ j u, j < L.length * 2 → (stCells L)[j]? = some u → W.cell? ⟨b, off * 2 + j, none⟩ = some u := fun j u hj hu => by
      rw [blk_cell hcur, ← hu, ← ht]
      rw [List.getElem?_take_of_lt hj, List.getElem?_drop, Array.getElem?_toList]
    have ea : (⟨b, off * 2, none⟩ : Addr).add (i * 2) = ⟨b, off * 2 + i * 2, none⟩ := by simp [Addr.add]
    refine ⟨_, ha, ?_, ?_, ?_⟩
    · rw [ea]
      exact ec _ _ (by omega) hg.1
    · rw [ea]
      exact ec (i * 2 + 1) _ (by omega) hg.2
    · rw [ea]
      exact Nat.ne_of_gt (Nat.lt_of_lt_of_le hh hbase)
theorem Steps.set {W : World} {A : Option Addr} {h : Nat} {L : List (Int × Int)} (s : Steps W A h L) (j : Nat) (u : Value) : Steps (W.setCell ⟨h, j, none⟩ u) A h L := by
  intro i x hx
  obtain ⟨a, ha, h1, h2, h3⟩ := s i x hx
  exact ⟨a, ha, (World.cell?_of_block (Below.heap_setCell W ⟨h, j, none⟩ u _ h3)).trans h1, (World.cell?_of_block (a := ⟨(a.add (i * 2)).block, (a.add (i * 2)).off + (0 + 1), none⟩) (Below.heap_setCell W ⟨h, j, none⟩ u _ h3)).trans h2, h3⟩
end Go.Proofs.Ytigcgdamipeidaa.Shr
