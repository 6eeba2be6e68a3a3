/- A share in memory: its block, the rows of its peers, and what turns. -/
import Derived.Test.YtigcgdamipeidaaQx3
import Derived.Test.YtigcgdamipeidaaGoto
namespace Go.Proofs.Ytigcgdamipeidaa.Shr
open Go.RowKit Go.Proofs.YtigcgdamipeidaaW.PrintWords Go.Proofs.YtigcgdamipeidaaW.PrintLast Go.Proofs.YtigcgdamipeidaaW.PrintMore Go.Proofs.Ytigcgdamipeidaa Go.Proofs.Ytigcgdamipeidaa.Q

/-- A share in plain numbers: the quantum; of each peer its weight, its credit, and the sizes that wait. -/
structure Sh where
  q : Int
  wt : Nat → Int
  cr : Nat → Int
  l : Nat → List Int

def up {α : Type} (f : Nat → α) (p : Nat) (x : α) : Nat → α := fun i => if i = p then x else f i
theorem up_same {α : Type} (f : Nat → α) (p : Nat) (x : α) : up f p x p = x := if_pos rfl
theorem up_other {α : Type} (f : Nat → α) {p i : Nat} (x : α) (h : i ≠ p) : up f p x i = f i := if_neg h

/-- What stands in the share's block. -/
def cellAt (S : Sh) (vs : Nat → Value) (i : Nat) : Value :=
  if i = 0 then .int .i64 S.q else if (i - 1) % 3 = 0 then .int .i64 (S.wt ((i - 1) / 3)) else if (i - 1) % 3 = 1 then .int .i64 (S.cr ((i - 1) / 3)) else vs ((i - 1) / 3)
def cellsOf (S : Sh) (vs : Nat → Value) : Array Value := ((List.range 49).map (cellAt S vs)).toArray

theorem cells_size (S : Sh) (vs : Nat → Value) : (cellsOf S vs).size = 49 := by simp [cellsOf]
theorem cells_at (S : Sh) (vs : Nat → Value) {i : Nat} (h : i < 49) : (cellsOf S vs)[i]? = some (cellAt S vs i) := by
  simp [cellsOf, h]
theorem cells_ext {S S' : Sh} {vs vs' : Nat → Value} {j : Nat} {u : Value} (hj : cellAt S' vs' j = u) (h : ∀ i, i < 49 → i ≠ j → cellAt S' vs' i = cellAt S vs i) : (cellsOf S vs).setIfInBounds j u = cellsOf S' vs' := by
  apply Array.ext_getElem?
  intro i
  by_cases hi : i < 49
  · rw [cells_at S' vs' hi, Array.getElem?_setIfInBounds, cells_at S vs hi, cells_size]
    by_cases he : j = i
    · subst he
      rw [if_pos rfl, if_pos hi, hj]
    · rw [if_neg he, h i hi (fun hc => he hc.symm)]
  · rw [Array.getElem?_eq_none (by rw [Array.size_setIfInBounds, cells_size]; omega), Array.getElem?_eq_none (by rw [cells_size]; omega)]
theorem set_wt (S : Sh) (vs : Nat → Value) (p : Nat) (x : Int) : (cellsOf S vs).setIfInBounds (1 + p * 3) (.int .i64 x) = cellsOf { S with wt := up S.wt p x } vs := by
  apply cells_ext
  · unfold cellAt
    rw [if_neg (by omega), if_pos (by omega), show (1 + p * 3 - 1) / 3 = p by omega]
    simp [up]
  · intro i _ hne
    unfold cellAt
    split
    · rfl
    · split
      · simp only [up]
        rw [if_neg (by omega)]
      · rfl
theorem set_cr (S : Sh) (vs : Nat → Value) (p : Nat) (x : Int) : (cellsOf S vs).setIfInBounds (1 + p * 3 + 1) (.int .i64 x) = cellsOf { S with cr := up S.cr p x } vs := by
  apply cells_ext
  · unfold cellAt
    rw [if_neg (by omega), if_neg (by omega), if_pos (by omega), show (1 + p * 3 + 1 - 1) / 3 = p by omega]
    simp [up]
  · intro i _ hne
    unfold cellAt
    split
    · rfl
    · split
      · rfl
      · split
        · simp only [up]
          rw [if_neg (by omega)]
        · rfl
theorem set_l (S : Sh) (vs : Nat → Value) (p : Nat) (v : Value) (xs : List Int) : (cellsOf S vs).setIfInBounds (1 + p * 3 + 2) v = cellsOf { S with l := up S.l p xs } (up vs p v) := by
  apply cells_ext
  · unfold cellAt
    rw [if_neg (by omega), if_neg (by omega), if_neg (by omega), show (1 + p * 3 + 2 - 1) / 3 = p by omega]
    simp [up]
  · intro i _ hne
    unfold cellAt
    split
    · rfl
    · split
      · rfl
      · split
        · rfl
        · simp only [up]
          rw [if_neg (by omega)]

/-- A slice value that is a row of the call's own, with these numbers. -/
def Qi (w : World) (B : Nat) (v : Value) (xs : List Int) : Prop := QRow w B 3 1 v xs.length (nums .i64 xs)
theorem Qi_nil (w : World) (B : Nat) : Qi w B (.slice none 0 0) [] := q_of_own (own_nil w B 3 1)

theorem qi_slice {w : World} {B : Nat} {v : Value} {xs : List Int} (h : Qi w B v xs) : ∃ A c, v = .slice A xs.length c := by
  obtain ⟨_, h2⟩ := h
  rcases h2 with ⟨h0, A, he, _⟩ | ⟨b, off, cap, cur, he, _⟩
  · exact ⟨A, 0, by rw [he, h0]⟩
  · exact ⟨_, cap, he⟩
/-- The share S stands in block g; its rows are vs. -/
structure Has (w : World) (B g : Nat) (S : Sh) (vs : Nat → Value) : Prop where
  blk : w.heap[g]? = some (.cells (cellsOf S vs) 78 (0, 0))
  row : ∀ p, p < 16 → Qi w B (vs p) (S.l p)
  dist : ∀ p p', p < 16 → p' < 16 → p ≠ p' → ∀ k, (vs p).ownBlock = some k → (vs p').ownBlock ≠ some k
  base : B ≤ g

/-- The blocks that are the share's. -/
def Own (g : Nat) (vs : Nat → Value) (k : Nat) : Prop := k = g ∨ ∃ p, p < 16 ∧ (vs p).ownBlock = some k

section
variable {w w1 : World} {B g : Nat} {S : Sh} {vs : Nat → Value}
theorem Has.far (h : Has w B g S vs) (p : Nat) (hp : p < 16) : (vs p).ownBlock ≠ some g := by
  intro he
  obtain ⟨_, cells, hc⟩ := q_typed (h.row p hp) g he
  exact blk_ne hc h.blk (by decide) rfl
theorem Has.lt (h : Has w B g S vs) {k : Nat} (hk : Own g vs k) : k < w.heap.size := by
  rcases hk with rfl | ⟨p, hp, he⟩
  · exact blk_lt h.blk
  · exact q_lt (h.row p hp) k he
theorem Has.ge (h : Has w B g S vs) {k : Nat} (hk : Own g vs k) : B ≤ k := by
  rcases hk with rfl | ⟨p, hp, he⟩
  · exact h.base
  · exact (q_typed (h.row p hp) k he).1
/-- What turns none of its blocks leaves the share as it is. -/
theorem Has.move (h : Has w B g S vs) (hm : ∀ k, Own g vs k → w1.heap[k]? = w.heap[k]?) : Has w1 B g S vs :=
  ⟨(hm g (.inl rfl)).trans h.blk, fun p hp => q_move (h.row p hp) (fun k hk => hm k (.inr ⟨p, hp, hk⟩)), h.dist, h.base⟩
theorem Has.below (h : Has w B g S vs) (hb : Below w.heap.size w w1) : Has w1 B g S vs := h.move fun k hk => hb.block k (h.lt hk)
theorem Has.drewN (h : Has w B g S vs) (n : Nat) : Has (w.drewN n) B g S vs := h.move fun _ _ => rfl
theorem Has.cell (h : Has w B g S vs) {i : Nat} (hi : i < 49) : w.cell? ⟨g, i, none⟩ = some (cellAt S vs i) := (blk_cell h.blk i).trans (cells_at S vs hi)
theorem Has.cell_wt (h : Has w B g S vs) {p : Nat} (hp : p < 16) : w.cell? ⟨g, 1 + p * 3, none⟩ = some (.int .i64 (S.wt p)) := by
  rw [h.cell (by omega)]
  unfold cellAt
  rw [if_neg (by omega), if_pos (by omega), show (1 + p * 3 - 1) / 3 = p by omega]
theorem Has.cell_cr (h : Has w B g S vs) {p : Nat} (hp : p < 16) : w.cell? ⟨g, 1 + p * 3 + 1, none⟩ = some (.int .i64 (S.cr p)) := by
  rw [h.cell (by omega)]
  unfold cellAt
  rw [if_neg (by omega), if_neg (by omega), if_pos (by omega), show (1 + p * 3 + 1 - 1) / 3 = p by omega]
theorem Has.cell_l (h : Has w B g S vs) {p : Nat} (hp : p < 16) : w.cell? ⟨g, 1 + p * 3 + 2, none⟩ = some (vs p) := by
  rw [h.cell (by omega)]
  unfold cellAt
  rw [if_neg (by omega), if_neg (by omega), if_neg (by omega), show (1 + p * 3 + 2 - 1) / 3 = p by omega]
theorem Has.cell_q (h : Has w B g S vs) : w.cell? ⟨g, 0, none⟩ = some (.int .i64 S.q) := by
  rw [h.cell (by omega)]
  rfl
theorem Has.frozen (h : Has w B g S vs) (i : Nat) : w.frozen? ⟨g, i, none⟩ = false := blk_frozen h.blk i
theorem Has.slice (h : Has w B g S vs) {p : Nat} (hp : p < 16) : ∃ A c, vs p = .slice A (S.l p).length c := by
  obtain ⟨_, h2⟩ := h.row p hp
  rcases h2 with ⟨h0, A, he, _⟩ | ⟨b, off, cap, cur, he, _⟩
  · exact ⟨A, 0, by rw [he, h0]⟩
  · exact ⟨_, cap, he⟩
theorem Has.set (h : Has w B g S vs) {j : Nat} {u : Value} {S' : Sh} (e : (cellsOf S vs).setIfInBounds j u = cellsOf S' vs) (hl : S'.l = S.l) : Has (w.setCell ⟨g, j, none⟩ u) B g S' vs :=
  ⟨blk_put h.blk j u e, fun p hp => by
    rw [hl]
    exact q_move (h.row p hp) (fun k hk => Below.heap_setCell w _ u k (fun hc => h.far p hp (by rw [hk]; exact congrArg some hc))), h.dist, h.base⟩
theorem Has.set_wt (h : Has w B g S vs) (p : Nat) (x : Int) : Has (w.setCell ⟨g, 1 + p * 3, none⟩ (.int .i64 x)) B g { S with wt := up S.wt p x } vs := h.set (Shr.set_wt S vs p x) rfl
theorem Has.set_cr (h : Has w B g S vs) (p : Nat) (x : Int) : Has (w.setCell ⟨g, 1 + p * 3 + 1, none⟩ (.int .i64 x)) B g { S with cr := up S.cr p x } vs := h.set (Shr.set_cr S vs p x) rfl
/-- Another row for one peer, the others standing as they stood. -/
theorem has_put {p : Nat} {v : Value} {xs : List Int} (hb : w.heap[g]? = some (.cells (cellsOf S vs) 78 (0, 0))) (hr : ∀ i, i < 16 → i ≠ p → Qi w B (vs i) (S.l i))
    (hdist : ∀ p p', p < 16 → p' < 16 → p ≠ p' → ∀ k, (vs p).ownBlock = some k → (vs p').ownBlock ≠ some k) (hbase : B ≤ g) (hv : Qi w B v xs)
    (hd : ∀ k, v.ownBlock = some k → ∀ i, i < 16 → i ≠ p → (vs i).ownBlock ≠ some k) :
    Has (w.setCell ⟨g, 1 + p * 3 + 2, none⟩ v) B g { S with l := up S.l p xs } (up vs p v) := by
  have far : ∀ (u : Value) (ys : List Int), Qi w B u ys → u.ownBlock ≠ some g := by
    intro u ys hu he
    obtain ⟨_, cells, hc⟩ := q_typed hu g he
    exact blk_ne hc hb (by decide) rfl
  have stay : ∀ (u : Value) (ys : List Int), Qi w B u ys → Qi (w.setCell ⟨g, 1 + p * 3 + 2, none⟩ v) B u ys := fun u ys hu =>
    q_move hu (fun k hk => Below.heap_setCell w _ v k (fun hc => far u ys hu (by rw [hk]; exact congrArg some hc)))
  refine ⟨blk_put hb _ v (Shr.set_l S vs p v xs), ?_, ?_, hbase⟩
  · intro i hi
    by_cases he : i = p
    · subst he
      show Qi _ B (up vs i v i) (up S.l i xs i)
      rw [up_same, up_same]
      exact stay v xs hv
    · show Qi _ B (up vs p v i) (up S.l p xs i)
      rw [up_other _ _ he, up_other _ _ he]
      exact stay _ _ (hr i hi he)
  · intro i j hi hj hne k hk
    by_cases he : i = p
    · subst he
      rw [up_same] at hk
      rw [up_other _ _ (fun hc => hne hc.symm)]
      exact hd k hk j hj (fun hc => hne hc.symm)
    · rw [up_other _ _ he] at hk
      by_cases he2 : j = p
      · subst he2
        rw [up_same]
        exact fun hc => hd k hc i hi he hk
      · rw [up_other _ _ he2]
        exact hdist i j hi hj hne k hk
theorem Has.set_l (h : Has w B g S vs) {p : Nat} {v : Value} {xs : List Int} (hv : Qi w B v xs) (hd : ∀ k, v.ownBlock = some k → ∀ i, i < 16 → i ≠ p → (vs i).ownBlock ≠ some k) :
    Has (w.setCell ⟨g, 1 + p * 3 + 2, none⟩ v) B g { S with l := up S.l p xs } (up vs p v) :=
  has_put h.blk (fun i hi _ => h.row i hi) h.dist h.base hv hd
/-- Behind an append to one peer's row: it is stored back. -/
theorem Has.put_back (h : Has w B g S vs) {p : Nat} (hp : p < 16) {v : Value} {xs : List Int} (hg : w.grownBy w1 (vs p).ownBlock) (hv : Qi w1 B v xs) (hat : v.ownBlock = (vs p).ownBlock ∨ ∃ b, v.ownBlock = some b ∧ w.heap.size ≤ b) :
    Has (w1.setCell ⟨g, 1 + p * 3 + 2, none⟩ v) B g { S with l := up S.l p xs } (up vs p v) := by
  refine has_put ((hg.block g (blk_lt h.blk) (fun hc => h.far p hp hc.symm)).trans h.blk) (fun i hi hne => ?_) h.dist h.base hv ?_
  · exact q_move (h.row i hi) (fun k hk => hg.block k (q_lt (h.row i hi) k hk) (fun hc => h.dist i p hi hp hne k hk hc.symm))
  · intro k hk i hi hne hc
    rcases hat with he | ⟨b, he, hlt⟩
    · exact h.dist i p hi hp hne k hc (by rw [← he, hk])
    · have := q_lt (h.row i hi) k hc
      rw [hk] at he
      injection he with he
      omega

/-- The blocks that are not the share's stay. -/
def After (w w' : World) (B g : Nat) (vs vs' : Nat → Value) : Prop :=
  Below B w w' ∧ Kept w w' (Own g vs) ∧ ∀ k, Own g vs' k → Own g vs k ∨ w.heap.size ≤ k
theorem After.refl (w : World) (B g : Nat) (vs : Nat → Value) : After w w B g vs vs := ⟨Below.refl _ _, Kept.refl _ _, fun _ h => .inl h⟩
theorem After.drewN {vs' : Nat → Value} (h : After w w1 B g vs vs') (n : Nat) : After w (w1.drewN n) B g vs vs' := ⟨⟨h.1.os, h.1.tape, h.1.output, h.1.size, h.1.block⟩, ⟨h.2.1.1, h.2.1.2⟩, h.2.2⟩
theorem After.set {vs' : Nat → Value} (h : After w w1 B g vs vs') (hB : B ≤ g) (j : Nat) (u : Value) : After w (w1.setCell ⟨g, j, none⟩ u) B g vs vs' :=
  ⟨h.1.setCell hB _, ⟨by simpa [World.setCell] using h.2.1.1, fun i hi hn => (Below.heap_setCell w1 ⟨g, j, none⟩ u i (fun hc => hn (.inl hc))).trans (h.2.1.2 i hi hn)⟩, h.2.2⟩
theorem After.trans {w2 : World} {vs' vs2 : Nat → Value} (h : After w w1 B g vs vs') (k : After w1 w2 B g vs' vs2) : After w w2 B g vs vs2 :=
  ⟨h.1.trans k.1, h.2.1.then_ k.2.1 h.2.2, fun i hi => (k.2.2 i hi).elim (h.2.2 i) (fun hk => .inr (Nat.le_trans h.1.size hk))⟩
theorem After.grown {vs' : Nat → Value} {w2 : World} {row : Option Nat} (h : After w w1 B g vs vs') (hB : B ≤ w1.heap.size) (hg : w1.grownBy w2 row) (hr : ∀ k, row = some k → Own g vs k ∨ w.heap.size ≤ k) (hb : ∀ k, row = some k → B ≤ k) : After w w2 B g vs vs' :=
  ⟨h.1.grown hg hB hb, Kept.of_grown hg h.2.1 hr, h.2.2⟩
/-- The rows may be told as others, if these are of blocks that were the share's, or are new. -/
theorem After.rows {vs' vs2 : Nat → Value} (h : After w w1 B g vs vs') (hk : ∀ k, Own g vs2 k → Own g vs k ∨ w.heap.size ≤ k) : After w w1 B g vs vs2 := ⟨h.1, h.2.1, hk⟩
end
end Go.Proofs.Ytigcgdamipeidaa.Shr
