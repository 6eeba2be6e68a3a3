/- The lists of what is wanted, in memory beside a share. -/
import Derived.Test.YtigcgdamipeidaaPlA
import Derived.Test.YtigcgdamipeidaaArgsB
import Derived.Test.YtigcgdamipeidaaFaA
namespace Go.Proofs.Ytigcgdamipeidaa.Shr
open Go.RowKit Go.Proofs.YtigcgdamipeidaaW.PrintWords Go.Proofs.YtigcgdamipeidaaW.PrintLast Go.Proofs.YtigcgdamipeidaaW.PrintMore Go.Proofs.Ytigcgdamipeidaa Go.Proofs.Ytigcgdamipeidaa.Q

def wcells (vs : Nat → Value) : Array Value := ((List.range 16).map vs).toArray
theorem w_size (vs : Nat → Value) : (wcells vs).size = 16 := by simp [wcells]
theorem w_at (vs : Nat → Value) {i : Nat} (h : i < 16) : (wcells vs)[i]? = some (vs i) := by
  simp [wcells, List.getElem?_range h]
theorem w_set (vs : Nat → Value) (p : Nat) (v : Value) : (wcells vs).setIfInBounds p v = wcells (up vs p v) := by
  apply Array.ext_getElem?
  intro i
  rw [Array.getElem?_setIfInBounds]
  by_cases hi : i < 16
  · by_cases he : p = i
    · subst he
      rw [if_pos rfl, if_pos (by rw [w_size]; exact hi), w_at _ hi, up_same]
    · rw [if_neg he, w_at _ hi, w_at _ hi, up_other _ _ (fun h => he h.symm)]
  · have h1 : ∀ us : Nat → Value, (wcells us)[i]? = none := fun us => Array.getElem?_eq_none (by rw [w_size]; omega)
    split
    · rw [h1]
      split
      · rename_i hb
        rw [w_size] at hb
        omega
      · rfl
    · rw [h1, h1]

/-- The lists L stand in block h; their rows are vs. -/
structure Wa (W : World) (B h : Nat) (L : Nat → List Int) (vs : Nat → Value) : Prop where
  blk : W.heap[h]? = some (.cells (wcells vs) 49 (0, 0))
  row : ∀ p, p < 16 → Qi W B (vs p) (L p)
  dist : ∀ p p', p < 16 → p' < 16 → p ≠ p' → ∀ k, (vs p).ownBlock = some k → (vs p').ownBlock ≠ some k
  base : B ≤ h
section
variable {W W1 : World} {B h : Nat} {L : Nat → List Int} {vs : Nat → Value}
theorem Wa.far (k : Wa W B h L vs) (p : Nat) (hp : p < 16) : (vs p).ownBlock ≠ some h := by
  intro he
  obtain ⟨_, cells, hc⟩ := q_typed (k.row p hp) h he
  exact blk_ne hc k.blk (by decide) rfl
theorem Wa.ge (k : Wa W B h L vs) {j : Nat} (hj : Own h vs j) : B ≤ j := by
  rcases hj with rfl | ⟨p, hp, he⟩
  · exact k.base
  · exact (q_typed (k.row p hp) j he).1
theorem Wa.lt (k : Wa W B h L vs) {j : Nat} (hj : Own h vs j) : j < W.heap.size := by
  rcases hj with rfl | ⟨p, hp, he⟩
  · exact blk_lt k.blk
  · exact q_lt (k.row p hp) j he
theorem Wa.move (k : Wa W B h L vs) (hm : Same (Own h vs) W W1) : Wa W1 B h L vs :=
  ⟨(hm h (.inl rfl)).trans k.blk, fun p hp => q_move (k.row p hp) (fun j hj => hm j (.inr ⟨p, hp, hj⟩)), k.dist, k.base⟩
theorem Wa.below (k : Wa W B h L vs) (hb : Below W.heap.size W W1) : Wa W1 B h L vs := k.move fun j hj => hb.block j (k.lt hj)
theorem Wa.cell (k : Wa W B h L vs) {p : Nat} (hp : p < 16) : W.cell? ⟨h, p, none⟩ = some (vs p) := (blk_cell k.blk p).trans (w_at vs hp)
theorem Wa.frozen (k : Wa W B h L vs) (p : Nat) : W.frozen? ⟨h, p, none⟩ = false := blk_frozen k.blk p
theorem Wa.slice (k : Wa W B h L vs) {p : Nat} (hp : p < 16) : ∃ A c, vs p = .slice A (L p).length c := qi_slice (k.row p hp)
/-- Another row for one, the others standing as they stood. -/
theorem Wa.put {p : Nat} {v : Value} {xs : List Int} (hb : W.heap[h]? = some (.cells (wcells vs) 49 (0, 0))) (hr : ∀ i, i < 16 → i ≠ p → Qi W B (vs i) (L i))
    (hdist : ∀ p p', p < 16 → p' < 16 → p ≠ p' → ∀ k, (vs p).ownBlock = some k → (vs p').ownBlock ≠ some k) (hbase : B ≤ h) (hv : Qi W B v xs)
    (hd : ∀ k, v.ownBlock = some k → ∀ i, i < 16 → i ≠ p → (vs i).ownBlock ≠ some k) : Wa (W.setCell ⟨h, p, none⟩ v) B h (up L p xs) (up vs p v) := by
  have far : ∀ (u : Value) (ys : List Int), Qi W B u ys → u.ownBlock ≠ some h := by
    intro u ys hu he
    obtain ⟨_, cells, hc⟩ := q_typed hu h he
    exact blk_ne hc hb (by decide) rfl
  have stay : ∀ (u : Value) (ys : List Int), Qi W B u ys → Qi (W.setCell ⟨h, p, none⟩ v) B u ys := fun u ys hu =>
    q_move hu (fun k hk => Below.heap_setCell W _ v k (fun hc => far u ys hu (by rw [hk]; exact congrArg some hc)))
  refine ⟨blk_put hb p v (w_set vs p v), ?_, ?_, hbase⟩
  · intro i hi
    by_cases he : i = p
    · subst he
      rw [up_same, up_same]
      exact stay v xs hv
    · rw [up_other _ _ he, up_other _ _ he]
      exact stay _ _ (hr i hi he)
  · intro i j hi hj hne k hk
    by_cases he : i = p
    · subst he
      rw [up_same] at hk
      rw [up_other _ _ (fun hc => hne hc.symm)]
      exact hd k hk j hj (fun hc => hne hc.symm)
    · rw [up_other _ _ he] at hk
      by_cases he2 : j = p
      · subst he2
        rw [up_same]
        exact fun hc => hd k hc i hi he hk
      · rw [up_other _ _ he2]
        exact hdist i j hi hj hne k hk
end
/-- A share, and the lists of what is wanted. -/
def AS (w W : World) (B g h : Nat) (S : Sh) (L : Nat → List Int) : Prop := ∃ vs, SS w W B g (Own h vs) S ∧ Wa W w.heap.size h L vs
section
variable {w W W1 : World} {B g h : Nat} {S S' : Sh} {L : Nat → List Int}
theorem AS.bel (k : AS w W B g h S L) : Below w.heap.size w W := by
  obtain ⟨vs, hs, ha⟩ := k
  exact hs.bel
theorem AS.fit (k : AS w W B g h S L) : Fit S := by
  obtain ⟨vs, hs, ha⟩ := k
  exact hs.fit
theorem AS.cell (k : AS w W B g h S L) {p : Addr} {v : Value} (hc : w.cell? p = some v) : W.cell? p = some v := pw_cell_below k.bel hc
theorem AS.step (k : AS w W B g h S L) (hb : Below W.heap.size W W1) : AS w W1 B g h S L := by
  obtain ⟨vs, hs, ha⟩ := k
  exact ⟨vs, hs.step hb, ha.below hb⟩
theorem weigh_as (k : AS w W B g h S L) {n x : Int} (hn : 1 ≤ n ∧ n ≤ 15) (hx : 1 ≤ x ∧ x ≤ 16) : Calls Try.prog 13 #[.pointer (some ⟨g, 0, none⟩), .int .i64 n, .int .i64 x] W fun e W' => e = .returned (.int .i64 0) ∧ AS w W' B g h (weighS S n x) L := by
  obtain ⟨vs, hs, ha⟩ := k
  exact (weigh_ss hs hn hx).mono fun _ _ ⟨he, h1, h2⟩ => ⟨he, vs, h1, ha.move h2⟩
theorem add_as (k : AS w W B g h S L) {n x : Int} (hn : 1 ≤ n ∧ n ≤ 15) (hx : 1 ≤ x ∧ x ≤ 65536) (h0 : S.wt n.toNat ≠ 0) (hl : (S.l n.toNat).length < 100) : Calls Try.prog 15 #[.pointer (some ⟨g, 0, none⟩), .int .i64 n, .int .i64 x] W fun e W' => e = .returned (.int .i64 0) ∧ AS w W' B g h (addS S n x) L := by
  obtain ⟨vs, hs, ha⟩ := k
  exact (add_ss hs hn hx h0 hl).mono fun _ _ ⟨he, h1, h2⟩ => ⟨he, vs, h1, ha.move h2⟩
theorem addbad_as (k : AS w W B g h S L) {n x : Int} (hn : ¬ (1 ≤ n ∧ n ≤ 15 ∧ 1 ≤ x ∧ x ≤ 65536)) : Calls Try.prog 15 #[.pointer (some ⟨g, 0, none⟩), .int .i64 n, .int .i64 x] W fun e W' => e = .returned (.int .i64 1) ∧ AS w W' B g h S L :=
  (add_bad hn W).mono fun _ _ hh => ⟨hh.1, k.step (drawn_below0 hh.2)⟩
theorem waits_as (k : AS w W B g h S L) {n : Int} (hn : 1 ≤ n ∧ n ≤ 15) (he : S.l n.toNat = []) : Calls Try.prog 20 #[.pointer (some ⟨g, 0, none⟩), .int .i64 n] W fun e W' => e = .returned (.int .i64 0) ∧ AS w W' B g h S L := by
  obtain ⟨vs, hs, ha⟩ := k
  have := waits_ss hs hn
  rw [he] at this
  exact this.mono fun _ _ hh => ⟨hh.1, vs, hs.step hh.2, ha.below hh.2⟩
theorem credit_as (k : AS w W B g h S L) {n : Int} (hn : 1 ≤ n ∧ n ≤ 15) (he : S.cr n.toNat = 0) : Calls Try.prog 21 #[.pointer (some ⟨g, 0, none⟩), .int .i64 n] W fun e W' => e = .returned (.int .i64 0) ∧ AS w W' B g h S L := by
  obtain ⟨vs, hs, ha⟩ := k
  have := credit_ss hs hn
  rw [he] at this
  exact this.mono fun _ _ hh => ⟨hh.1, vs, hs.step hh.2, ha.below hh.2⟩
/-- The steps can be read, and lie apart from the lists. -/
def StepsA (W : World) (A : Option Addr) (N : Nat → Prop) (l : List (Int × Int)) : Prop :=
  ∀ i x, l[i]? = some x → ∃ a, A = some a ∧ W.cell? (a.add (i * 2)) = some (.int .i64 x.1) ∧ W.cell? ⟨(a.add (i * 2)).block, (a.add (i * 2)).off + (0 + 1), none⟩ = some (.int .i64 x.2) ∧ ¬ N (a.add (i * 2)).block
theorem stepsA_of {W : World} {B2 : Nat} {A : Option Addr} {n c : Nat} {l : List (Int × Int)} {N : Nat → Prop} (hq : Qst W B2 (.slice A n c) l) (hN : ∀ k, N k → k < B2) : StepsA W A N l := by
  intro i x hx
  have hl : 0 < l.length := by
    have := (List.getElem?_eq_some_iff.1 hx).1
    omega
  obtain ⟨h1, h2⟩ := hq
  rcases h2 with ⟨h0, _⟩ | ⟨b, off, cap, cur, he, hbase, hcur, _, _, _, ht⟩
  · omega
  · injection he with ha hn hc
    have hg := st_get l i x hx
    have hlen := (List.getElem?_eq_some_iff.1 hx).1
    have ec : ∀ j u, j < l.length * 2 → (stCells l)[j]? = some u → W.cell? ⟨b, off * 2 + j, none⟩ = some u := fun j u hj hu => by
      rw [blk_cell hcur, ← hu, ← ht]
      rw [List.getElem?_take_of_lt hj, List.getElem?_drop, Array.getElem?_toList]
    have ea : (⟨b, off * 2, none⟩ : Addr).add (i * 2) = ⟨b, off * 2 + i * 2, none⟩ := by simp [Addr.add]
    refine ⟨_, ha, ?_, ?_, ?_⟩
    · rw [ea]
      exact ec _ _ (by omega) hg.1
    · rw [ea]
      exact ec (i * 2 + 1) _ (by omega) hg.2
    · rw [ea]
      intro hn
      have h3 := hN _ hn
      have h4 : B2 ≤ b := hbase
      exact Nat.lt_irrefl _ (Nat.lt_of_lt_of_le h3 h4)
theorem turn_as (k : AS w W B g h S L) : Calls Try.prog 17 #[.pointer (some ⟨g, 0, none⟩)] W fun e W' => ∃ A c vs, e = .returned (.tuple #[.slice A (turnTo S 16).2.1.length c, .int .i64 (tErr (turnTo S 16).2.2)]) ∧
    SS w W' B g (Own h vs) (turnTo S 16).1 ∧ Wa W' w.heap.size h L vs ∧ StepsA W' A (Own h vs) (turnTo S 16).2.1 := by
  obtain ⟨vs, hs, ha⟩ := k
  refine (turn_ss hs).mono fun _ W' ⟨v, he, h1, h2, h3⟩ => ?_
  obtain ⟨A, c, rfl⟩ := qst_slice h3
  exact ⟨A, c, vs, he, h1.less (fun k hk => .inl hk), ha.move h2, stepsA_of h3 (fun k hk => ha.lt hk)⟩
theorem SS.grow {N N' : Nat → Prop} (k : SS w W B g N S) {row : Option Nat} (hg : W.grownBy W1 row) (hk : ∀ i, row = some i → N i ∧ w.heap.size ≤ i) (hN : ∀ i, N' i → N i ∨ (W.heap.size ≤ i ∧ i < W1.heap.size)) : SS w W1 B g N' S := by
  have k1 := k.grown hg hk
  obtain ⟨vs, hh, hn⟩ := k.has
  refine ⟨k1.bel, k1.base, k1.size, k1.fit, vs, hh.move (fun i hi => hg.block i (hh.lt hi) (fun e => (hn i (hk i e.symm).1).1 hi)), fun i hi => ?_⟩
  rcases hN i hi with h1 | ⟨h1, h2⟩
  · exact ⟨(hn i h1).1, Nat.lt_of_lt_of_le (hn i h1).2 hg.size⟩
  · exact ⟨fun ho => Nat.lt_irrefl _ (Nat.lt_of_lt_of_le (hh.lt ho) h1), h2⟩
/-- Behind an append to one list: it is stored back. -/
theorem as_append {vs : Nat → Value} (hs : SS w W B g (Own h vs) S) (ha : Wa W w.heap.size h L vs) {p : Nat} (hp : p < 16) {v : Value} {xs : List Int} (hg : W.grownBy W1 (vs p).ownBlock) (hv : Qi W1 w.heap.size v xs)
    (hat : v.ownBlock = (vs p).ownBlock ∨ ∃ b, v.ownBlock = some b ∧ W.heap.size ≤ b) : AS w (W1.setCell ⟨h, p, none⟩ v) B g h S (up L p xs) := by
  have hw : Wa (W1.setCell ⟨h, p, none⟩ v) w.heap.size h (up L p xs) (up vs p v) := by
    refine Wa.put ((hg.block h (blk_lt ha.blk) (fun hc => ha.far p hp hc.symm)).trans ha.blk) (fun i hi hne => ?_) ha.dist ha.base hv ?_
    · exact q_move (ha.row i hi) (fun k hk => hg.block k (q_lt (ha.row i hi) k hk) (fun hc => ha.dist i p hi hp hne k hk hc.symm))
    · intro k hk i hi hne hc
      rcases hat with he | ⟨b, he, hlt⟩
      · exact ha.dist i p hi hp hne k hc (by rw [← he, hk])
      · have := q_lt (ha.row i hi) k hc
        rw [hk] at he
        injection he with he
        omega
  refine ⟨up vs p v, (hs.grow hg (N' := Own h (up vs p v)) (fun k hk => ⟨.inr ⟨p, hp, hk⟩, ha.ge (.inr ⟨p, hp, hk⟩)⟩) ?_).set (.inl rfl) ha.base p v, hw⟩
  rintro k (rfl | ⟨i, hi, hk⟩)
  · exact .inl (.inl rfl)
  · by_cases he : i = p
    · subst he
      rw [up_same] at hk
      rcases hat with h1 | ⟨b, h1, hlt⟩
      · exact .inl (.inr ⟨i, hi, by rw [← h1, hk]⟩)
      · rw [hk] at h1
        injection h1 with h1
        subst h1
        exact .inr ⟨hlt, q_lt hv k hk⟩
    · rw [up_other _ _ he] at hk
      exact .inl (.inr ⟨i, hi, hk⟩)
/-- A list's rest is stored back. -/
theorem as_tail {vs : Nat → Value} (hs : SS w W B g (Own h vs) S) (ha : Wa W w.heap.size h L vs) {p : Nat} (hp : p < 16) {v : Value} {xs : List Int} (hv : Qi W w.heap.size v xs) (hat : v.ownBlock = (vs p).ownBlock) :
    SS w (W.setCell ⟨h, p, none⟩ v) B g (Own h (up vs p v)) S ∧ Wa (W.setCell ⟨h, p, none⟩ v) w.heap.size h (up L p xs) (up vs p v) := by
  have hw : Wa (W.setCell ⟨h, p, none⟩ v) w.heap.size h (up L p xs) (up vs p v) := by
    refine Wa.put ha.blk (fun i hi hne => ha.row i hi) ha.dist ha.base hv ?_
    intro k hk i hi hne hc
    exact ha.dist i p hi hp hne k hc (by rw [← hat, hk])
  refine ⟨(hs.less (N' := Own h (up vs p v)) ?_).set (.inl rfl) ha.base p v, hw⟩
  rintro k (rfl | ⟨i, hi, hk⟩)
  · exact .inl rfl
  · by_cases he : i = p
    · subst he
      rw [up_same, hat] at hk
      exact .inr ⟨i, hi, hk⟩
    · rw [up_other _ _ he] at hk
      exact .inr ⟨i, hi, hk⟩
/-- The blocks of the lists stay those they were where a list's rest is stored back. -/
theorem own_tail {vs : Nat → Value} {p : Nat} {v : Value} (hat : v.ownBlock = (vs p).ownBlock) {k : Nat} (hk : Own h (up vs p v) k) : Own h vs k := by
  rcases hk with rfl | ⟨i, hi, hk⟩
  · exact .inl rfl
  · by_cases he : i = p
    · subst he
      rw [up_same, hat] at hk
      exact .inr ⟨i, hi, hk⟩
    · rw [up_other _ _ he] at hk
      exact .inr ⟨i, hi, hk⟩
theorem StepsA.set {A : Option Addr} {N : Nat → Prop} {l : List (Int × Int)} (s : StepsA W A N l) {k : Nat} (hk : N k) (j : Nat) (u : Value) : StepsA (W.setCell ⟨k, j, none⟩ u) A N l := by
  intro i x hx
  obtain ⟨a, ha, h1, h2, h3⟩ := s i x hx
  have hne : (a.add (i * 2)).block ≠ k := fun e => h3 (by rw [e]; exact hk)
  exact ⟨a, ha, (World.cell?_of_block (Below.heap_setCell W ⟨k, j, none⟩ u _ hne)).trans h1, (World.cell?_of_block (a := ⟨(a.add (i * 2)).block, (a.add (i * 2)).off + (0 + 1), none⟩) (Below.heap_setCell W ⟨k, j, none⟩ u _ hne)).trans h2, h3⟩
theorem StepsA.less {A : Option Addr} {N N' : Nat → Prop} {l : List (Int × Int)} (s : StepsA W A N l) (hN : ∀ k, N' k → N k) : StepsA W A N' l := fun i x hx => by
  obtain ⟨a, ha, h1, h2, h3⟩ := s i x hx
  exact ⟨a, ha, h1, h2, fun hn => h3 (hN _ hn)⟩
end
/-- Behind the weights of the peers below k. -/
structure B1 (S : Sh) (k : Nat) : Prop where
  wt : ∀ p, 1 ≤ p → p < k → 1 ≤ S.wt p ∧ S.wt p ≤ 3
  l : ∀ p, S.l p = []
  cr : ∀ p, S.cr p = 0
theorem b1_start (q : Int) : B1 (S0 q) 1 := ⟨fun p h1 h2 => by omega, fun _ => rfl, fun _ => rfl⟩
theorem B1.weigh {S : Sh} {k : Nat} (h : B1 S k) {n x : Int} (hn : n.toNat = k) (hx : 1 ≤ x ∧ x ≤ 3) : B1 (weighS S n x) (k + 1) := by
  refine ⟨fun p h1 h2 => ?_, h.l, h.cr⟩
  show 1 ≤ up S.wt n.toNat x p ∧ up S.wt n.toNat x p ≤ 3
  by_cases he : p = n.toNat
  · subst he
    rw [up_same]
    exact hx
  · rw [up_other _ _ he]
    exact h.wt p h1 (by omega)
/-- Behind i acts. -/
structure B2 (S : Sh) (i : Nat) : Prop where
  wt : ∀ p, 1 ≤ p → p < 16 → 1 ≤ S.wt p ∧ S.wt p ≤ 3
  z : S.l 0 = []
  cr : ∀ p, S.cr p = 0
  long : ∀ p, (S.l p).length ≤ i
theorem B1.next {S : Sh} (h : B1 S 16) : B2 S 0 := ⟨h.wt, h.l 0, h.cr, fun p => by rw [h.l p]; exact Nat.le_refl _⟩
theorem B2.skip {S : Sh} {i : Nat} (h : B2 S i) : B2 S (i + 1) := ⟨h.wt, h.z, h.cr, fun p => Nat.le_succ_of_le (h.long p)⟩
theorem B2.add {S : Sh} {i : Nat} (h : B2 S i) {n x : Int} (hn : 1 ≤ n) : B2 (addS S n x) (i + 1) := by
  refine ⟨h.wt, ?_, h.cr, fun p => ?_⟩
  · show up S.l n.toNat _ 0 = []
    rw [up_other _ _ (by omega)]
    exact h.z
  · show (up S.l n.toNat (S.l n.toNat ++ [x]) p).length ≤ i + 1
    by_cases he : p = n.toNat
    · subst he
      rw [up_same, List.length_append]
      have := h.long n.toNat
      simp
      omega
    · rw [up_other _ _ he]
      exact Nat.le_succ_of_le (h.long p)
theorem sum_le (l : List Int) (h : ∀ x ∈ l, x ≤ 65536) : l.sum ≤ 65536 * l.length := by
  induction l with
  | nil => simp
  | cons x xs ih =>
    have h1 := h x List.mem_cons_self
    have h2 := ih (fun y hy => h y (List.mem_cons_of_mem _ hy))
    rw [List.sum_cons, List.length_cons]
    push_cast
    omega
theorem B2.start {S : Sh} {i : Nat} (h : B2 S i) (hi : i ≤ 60) (hf : Fit S) : AI S (fun p => (S.l p).sum) 0 :=
  ⟨h.wt, h.z, fun p hp _ => by rw [h.cr p]; omega, fun p _ _ => h.cr p, fun p hp => by
    have h1 := sum_le (S.l p) (fun x hx => (hf.size p hp x hx).2)
    have h2 := h.long p
    show (S.l p).sum ≤ 3932160
    omega⟩
end Go.Proofs.Ytigcgdamipeidaa.Shr
