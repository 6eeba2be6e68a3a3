/- gauss: rows of sides in memory: read, written, cloned, cut; what the library's functions make of them; A row of numbers of one's own: read, written, cut, sorted (slices.Sort), thinned out (slices. ... No condition. -/
import Derived.Lib.SliceRun
import Derived.Deep.RegionLaw
import Derived.Sort.OwnSortedInts
import Derived.Test.YtjmooillogojkaaGreatM14
set_option maxHeartbeats 8000000
set_option maxRecDepth 100000
set_option linter.unusedVariables false
set_option linter.unusedSimpArgs false
namespace Go.Proofs.YtjmooillogojkaaGreat.Q
open Go.RowKit Go.Proofs.YtjmooillogojkaaGreatW.PrintWords Go.Proofs.YtjmooillogojkaaGreatW.PrintLast Go.Proofs.YtjmooillogojkaaGreatW.PrintMore
open Go.Proofs.YtjmooillogojkaaGreat Lin
theorem info74 : (Tryz.prog.info? 74).map (fun i => (i.zero, i.size, i.bytes)) = some (some (.agg #[.int .u64 0, .int .u64 0, .int .u64 0, .string ⟨#[]⟩]), 4, 40) := by kernel_rfl
def cellsL (l : List Side) : List Value := l.flatMap sideC
theorem cellsL_cons (s : Side) (l : List Side) : cellsL (s :: l) = sideC s ++ cellsL l := rfl
theorem cellsL_append (l m : List Side) : cellsL (l ++ m) = cellsL l ++ cellsL m := List.flatMap_append
theorem cellsL_length (l : List Side) : (cellsL l).length = l.length * 4 := by
 induction l with
 | nil => rfl
 | cons s l ih => rw [cellsL_cons, List.length_append, ih, List.length_cons, show (sideC s).length = 4 from rfl]; omega
theorem cellsL_drop (l : List Side) (k : Nat) : (cellsL l).drop (k * 4) = cellsL (l.drop k) := by
 by_cases hk : k ≤ l.length
 ·have h : l = l.take k ++ l.drop k := (List.take_append_drop k l).symm
  have h2 : (cellsL (l.take k)).length = k * 4 := by rw [cellsL_length, List.length_take]; congr 1; omega
  conv => lhs; rw [h, cellsL_append]
  rw [← h2, List.drop_left]
 ·rw [List.drop_eq_nil_of_le («as» := cellsL l) (by rw [cellsL_length]; omega), List.drop_eq_nil_of_le («as» := l) (by omega)]
  rfl
theorem cellsL_take (l : List Side) (k : Nat) : (cellsL l).take (k * 4) = cellsL (l.take k) := by
 by_cases hk : k ≤ l.length
 ·have h : l = l.take k ++ l.drop k := (List.take_append_drop k l).symm
  have h2 : (cellsL (l.take k)).length = k * 4 := by rw [cellsL_length, List.length_take]; congr 1; omega
  conv => lhs; rw [h, cellsL_append]
  rw [← h2, List.take_left]
 ·rw [List.take_of_length_le (l := cellsL l) (by rw [cellsL_length]; omega), List.take_of_length_le (l := l) (by omega)]
theorem cellsL_one (l : List Side) : ∀ u ∈ cellsL l, u.oneCell' = true := by
 intro u hu
 obtain ⟨s, _, hs⟩ := List.mem_flatMap.1 hu
 simp only [sideC, List.mem_cons, List.not_mem_nil, or_false] at hs
 rcases hs with rfl | rfl | rfl | rfl <;> rfl
theorem putC_list (vs : List Value) : ∀ (cs : Array Value) (o : Nat), o + vs.length ≤ cs.size → (putC cs o vs).toList = cs.toList.take o ++ vs ++ cs.toList.drop (o + vs.length) := by
 intro cs o h
 refine List.ext_getElem? (fun i => ?_)
 rw [Array.getElem?_toList, putC_at vs cs o i h]
 by_cases h1 : i < o
 ·rw [if_neg (by omega), List.append_assoc, List.getElem?_append_left (by rw [List.length_take, Array.length_toList]; omega), List.getElem?_take, if_pos h1, Array.getElem?_toList]
 ·by_cases h2 : i < o + vs.length
  ·rw [if_pos (by omega), List.getElem?_append_left (by rw [List.length_append, List.length_take, Array.length_toList]; omega), List.getElem?_append_right (by rw [List.length_take, Array.length_toList]; omega), List.length_take, Array.length_toList]
   congr 1
   omega
  ·rw [if_neg (by omega), List.getElem?_append_right (by rw [List.length_append, List.length_take, Array.length_toList]; omega), List.getElem?_drop, Array.getElem?_toList]
   congr 1
   simp only [List.length_append, List.length_take, Array.length_toList]
   omega
structure SR (w : World) (g cap : Nat) (l : List Side) : Prop where
 cur : ∃ cur : Array Value, w.heap[g]? = some (.cells cur 74 (0, 0)) ∧ cur.size = cap * 4 ∧ cur.toList.take (l.length * 4) = cellsL l
 fit : l.length ≤ cap
 cap : cap ≤ maxLen
section
variable {w w1 : World} {g cap i : Nat} {l : List Side}
theorem SR.own (h : SR w g cap l) {base : Nat} (hb : base ≤ g) : w.ownsRow base 74 4 (.slice (some ⟨g, 0, none⟩) l.length cap) l.length (cellsL l) := by
 obtain ⟨cur, h1, h2, h3⟩ := h.cur
 exact ⟨cellsL_length l, .inr ⟨g, cap, cur, rfl, hb, h1, h.fit, h.cap, h2, h3⟩⟩
theorem SR.of {base : Nat} {v : Value} (h : w.ownsRow base 74 4 v l.length (cellsL l)) (hl : 0 < l.length) : ∃ g cap, v = .slice (some ⟨g, 0, none⟩) l.length cap ∧ base ≤ g ∧ SR w g cap l := by
 rcases h.2 with ⟨_, h0⟩ | ⟨g, cap, cur, rfl, hb, h1, h2, h3, h4, h5⟩
 ·omega
 ·exact ⟨g, cap, rfl, hb, ⟨cur, h1, h4, h5⟩, h2, h3⟩
theorem SR.blk (h : SR w g cap l) : g < w.heap.size := by
 obtain ⟨cur, hh, _⟩ := h.cur
 exact blk_lt hh
theorem SR.move (h : SR w g cap l) (hm : w1.heap[g]? = w.heap[g]?) : SR w1 g cap l := by
 obtain ⟨cur, hh, h1, h2⟩ := h.cur
 exact ⟨⟨cur, hm.trans hh, h1, h2⟩, h.fit, h.cap⟩
theorem SR.below (h : SR w g cap l) (hb : Below w.heap.size w w1) : SR w1 g cap l := h.move (hb.block g h.blk)
theorem SR.cells (h : SR w g cap l) (hi : i < l.length) (j : Nat) (hj : j < 4) : w.cell? ⟨g, i * 4 + j, none⟩ = (sideC l[i])[j]? := by
 obtain ⟨cur, hh, h1, h2⟩ := h.cur
 rw [blk_cell hh, ← Array.getElem?_toList]
 have e1 : cur.toList[i * 4 + j]? = (cellsL l)[i * 4 + j]? := by
  rw [← h2, List.getElem?_take, if_pos (by omega)]
 rw [e1]
 have e2 := congrArg (fun m => m[j]?) (cellsL_drop l i)
 simp only [List.getElem?_drop] at e2
 rw [e2, List.drop_eq_getElem_cons hi, cellsL_cons, List.getElem?_append_left (by simpa [sideC] using hj)]
theorem SR.row (h : SR w g cap l) (k t : Nat) (u : Value) (hu : (cellsL (l.drop k))[t]? = some u) : w.cell? ⟨g, k * 4 + t, none⟩ = some u := by
 obtain ⟨cur, hh, h1, h2⟩ := h.cur
 have ht : t < (l.length - k) * 4 := by
  have := (List.getElem?_eq_some_iff.1 hu).1
  rwa [cellsL_length, List.length_drop] at this
 rw [blk_cell hh, ← Array.getElem?_toList]
 have e1 : cur.toList[k * 4 + t]? = (cellsL l)[k * 4 + t]? := by
  rw [← h2, List.getElem?_take, if_pos (by omega)]
 rw [e1, ← hu, ← cellsL_drop, List.getElem?_drop]
theorem SR.soft (h : SR w g cap l) (i : Nat) : w.frozen? ⟨g, i, none⟩ = false := by
 obtain ⟨cur, hh, _⟩ := h.cur
 exact blk_frozen hh i
theorem SR.put (h : SR w g cap l) (hi : i < l.length) (s : Side) : SR (w.setCells g (i * 4) (sideC s)) g cap (l.set i s) := by
 obtain ⟨cur, hh, h1, h2⟩ := h.cur
 have hc := h.fit
 have hsz : i * 4 + (sideC s).length ≤ cur.size := by rw [h1]; show i * 4 + 4 ≤ _; omega
 refine ⟨⟨_, blk_setCells _ _ _ _ hh, by rw [putC_size, h1], ?_⟩, by rw [List.length_set]; exact h.fit, h.cap⟩
 rw [putC_list _ _ _ hsz, List.length_set]
 have e : l.set i s = l.take i ++ [s] ++ l.drop (i + 1) := by
  rw [List.set_eq_take_append_cons_drop, if_pos hi]
  simp
 have t1 : cur.toList.take (i * 4) = cellsL (l.take i) := by
  have := congrArg (fun m => m.take (i * 4)) h2
  simp only [List.take_take] at this
  rwa [Nat.min_eq_left (by omega), cellsL_take] at this
 have t2 : (cur.toList.drop (i * 4 + 4)).take (l.length * 4 - (i * 4 + 4)) = cellsL (l.drop (i + 1)) := by
  rw [← cellsL_drop, ← h2, List.drop_take, show (i + 1) * 4 = i * 4 + 4 by omega]
 rw [t1, e, cellsL_append, cellsL_append, show cellsL [s] = sideC s by simp [cellsL], List.take_append, show (cellsL (l.take i) ++ sideC s).length = i * 4 + 4 by rw [List.length_append, cellsL_length, List.length_take]; show _ + 4 = _; omega]
 rw [List.take_of_length_le (by rw [List.length_append, cellsL_length, List.length_take]; show _ + 4 ≤ _; omega)]
 congr 1
theorem SR.del (h : SR w g cap l) (hi : i < l.length) (zs : List Value) (hz : zs.length = 4) : SR ((w.setCells g (i * 4) (cellsL (l.drop (i + 1)))).setCells g ((l.length - 1) * 4) zs) g cap (l.eraseIdx i) := by
 obtain ⟨cur, hh, h1, h2⟩ := h.cur
 have hc := h.fit
 have hlen : (l.eraseIdx i).length = l.length - 1 := by rw [List.length_eraseIdx]; simp [hi]
 have hdl : (cellsL (l.drop (i + 1))).length = (l.length - (i + 1)) * 4 := by rw [cellsL_length, List.length_drop]
 have hs1 : i * 4 + (cellsL (l.drop (i + 1))).length ≤ cur.size := by rw [hdl, h1]; omega
 have hs2 : (l.length - 1) * 4 + zs.length ≤ (putC cur (i * 4) (cellsL (l.drop (i + 1)))).size := by rw [putC_size, hz, h1]; omega
 refine ⟨⟨_, blk_setCells _ _ _ _ (blk_setCells _ _ _ _ hh), by rw [putC_size, putC_size, h1], ?_⟩, by rw [hlen]; omega, h.cap⟩
 rw [putC_list _ _ _ hs2, hlen, List.append_assoc, List.take_append_of_le_length (by simp only [List.length_take, Array.length_toList, putC_size, h1]; omega), List.take_take, Nat.min_self, putC_list _ _ _ hs1]
 have t1 : cur.toList.take (i * 4) = cellsL (l.take i) := by
  have := congrArg (fun m => m.take (i * 4)) h2
  simp only [List.take_take] at this
  rwa [Nat.min_eq_left (by omega), cellsL_take] at this
 rw [t1, List.eraseIdx_eq_take_drop_succ, cellsL_append, List.take_append_of_le_length (by rw [List.length_append, hdl, cellsL_length, List.length_take]; omega), List.take_of_length_le (by rw [List.length_append, hdl, cellsL_length, List.length_take]; omega)]
end
end Go.Proofs.YtjmooillogojkaaGreat.Q
namespace Go.Proofs.YtjmooillogojkaaGreat.Q
open Go.RowKit Go.Proofs.YtjmooillogojkaaGreatW.PrintWords Go.Proofs.YtjmooillogojkaaGreatW.PrintLast Go.Proofs.YtjmooillogojkaaGreatW.PrintMore
open Go.Proofs.YtjmooillogojkaaGreat
def numC (l : List Int) : List Value := l.map (Value.int .i64)
structure IR (w : World) (g cap : Nat) (L : List Int) : Prop where
 cur : ∃ cur : Array Value, w.heap[g]? = some (.cells cur 3 (0, 0)) ∧ cur.size = cap ∧ cur.toList.take L.length = numC L
 fit : L.length ≤ cap
 cap : cap ≤ maxLen
section
variable {w w1 : World} {g cap base : Nat} {L : List Int} {ok : Nat → Prop}
theorem IR.blk (h : IR w g cap L) : g < w.heap.size := by
 obtain ⟨cur, hh, _⟩ := h.cur
 exact blk_lt hh
theorem IR.move (h : IR w g cap L) (hm : w1.heap[g]? = w.heap[g]?) : IR w1 g cap L := by
 obtain ⟨cur, hh, h1⟩ := h.cur
 exact ⟨⟨cur, hm.trans hh, h1⟩, h.fit, h.cap⟩
theorem IR.below (h : IR w g cap L) (hb : Below w.heap.size w w1) : IR w1 g cap L := h.move (hb.block g h.blk)
theorem IR.row (h : IR w g cap L) (hb : base ≤ g) (hok : ok g) : Kd.R (Kd.int .i64) 3 w base ok (.slice (some ⟨g, 0, none⟩) L.length cap) L := by
 obtain ⟨cur, h1, h2, h3⟩ := h.cur
 refine Kd.R_of_own ⟨by simp [encs], .inr ⟨g, cap, cur, rfl, hb, h1, h.fit, h.cap, by omega, by rw [Nat.mul_one]; exact h3⟩⟩ (fun k hk => ?_)
 injection hk with hk
 rw [← hk]
 exact hok
theorem IR.of {v : Value} (h : Kd.R (Kd.int .i64) 3 w base ok v L) : (v = .slice none 0 0 ∧ L = []) ∨ ∃ g cap, v = .slice (some ⟨g, 0, none⟩) L.length cap ∧ base ≤ g ∧ ok g ∧ IR w g cap L := by
 have h0 := Kd.own_of_R h
 rcases h0.2 with ⟨rfl, hn⟩ | ⟨g, cap, cur, rfl, hb, h1, h2, h3, h4, h5⟩
 ·exact .inl ⟨rfl, List.eq_nil_of_length_eq_zero hn⟩
 ·exact .inr ⟨g, cap, rfl, hb, h.1 g rfl, ⟨cur, h1, by omega, by rw [Nat.mul_one] at h5; exact h5⟩, h2, h3⟩
theorem IR.cell (h : IR w g cap L) {i : Nat} (hi : i < L.length) : w.cell? ⟨g, i, none⟩ = some (.int .i64 L[i]) := by
 obtain ⟨cur, hh, h1, h2⟩ := h.cur
 rw [blk_cell hh, ← Array.getElem?_toList]
 have := congrArg (fun m => m[i]?) h2
 simp only [List.getElem?_take, if_pos hi] at this
 rw [this]
 simp [numC, hi]
theorem IR.soft (h : IR w g cap L) (i : Nat) : w.frozen? ⟨g, i, none⟩ = false := by
 obtain ⟨cur, hh, _⟩ := h.cur
 exact blk_frozen hh i
theorem IR.put (h : IR w g cap L) {i : Nat} (hi : i < L.length) (x : Int) : IR (w.setCell ⟨g, i, none⟩ (.int .i64 x)) g cap (L.set i x) := by
 obtain ⟨cur, hh, h1, h2⟩ := h.cur
 refine ⟨⟨_, blk_put hh i _ rfl, by simpa using h1, ?_⟩, by rw [List.length_set]; exact h.fit, h.cap⟩
 rw [List.length_set]
 simp only [Array.toList_setIfInBounds, List.take_set, h2, numC, List.map_set]
theorem IR.take (h : IR w g cap L) (i : Nat) (hi : i ≤ L.length) : IR w g cap (L.take i) := by
 obtain ⟨cur, hh, h1, h2⟩ := h.cur
 refine ⟨⟨cur, hh, h1, ?_⟩, by rw [List.length_take]; have := h.fit; omega, h.cap⟩
 have := congrArg (fun m => m.take i) h2
 simp only [List.take_take] at this
 rw [List.length_take, this, numC, numC, List.map_take]
theorem IR.beyond (h : IR w g cap L) (o : Nat) (vs : List Value) (ho : L.length ≤ o) (hf : o + vs.length ≤ cap) : IR (w.setCells g o vs) g cap L := by
 obtain ⟨cur, hh, h1, h2⟩ := h.cur
 refine ⟨⟨_, blk_setCells _ _ _ _ hh, by rw [putC_size, h1], ?_⟩, h.fit, h.cap⟩
 rw [putC_list _ _ _ (by omega), List.append_assoc, List.take_append_of_le_length (by simp only [List.length_take, Array.length_toList]; omega), List.take_take, Nat.min_eq_left ho, h2]
theorem IR.read (h : IR w g cap L) (hm : L.length ≤ 9223372036854775807) : Kd.C (Kd.int .i64) w (some ⟨g, 0, none⟩) L.length L := by
 refine ⟨rfl, hm, fun h0 => ⟨_, rfl, fun j p hj => ⟨[.int .i64 p], rfl, rfl, fun i u hu => ?_⟩⟩⟩
 obtain ⟨hjl, rfl⟩ := List.getElem?_eq_some_iff.1 hj
 match i, hu with
 | 0, hu =>
  simp only [List.getElem?_cons_zero, Option.some.injEq] at hu
  subst hu
  have hsz : (Kd.int .i64).sz = 1 := rfl
  rw [hsz, Nat.mul_one, Nat.add_zero]
  unfold Addr.add
  split
  ·rename_i e
   subst e
   exact h.cell hjl
  ·rw [Nat.zero_add]
   exact h.cell hjl
 | i + 1, hu => simp at hu
end
def sortI (l : List Int) : List Int := l.mergeSort fun x y => decide (x ≤ y)
theorem sortI_length (l : List Int) : (sortI l).length = l.length := List.length_mergeSort l
theorem sortI_perm (l : List Int) : (sortI l).Perm l := List.mergeSort_perm l _
theorem sort_ir {w : World} {g cap c : Nat} {L : List Int} (h : IR w g cap L) (hm : L.length < 1000000) :
  Calls Tryz.prog 46 #[.slice (some ⟨g, 0, none⟩) L.length c] w fun e w' => e = .returned (.tuple #[]) ∧ IR w' g cap (sortI L) ∧ w.grownBy w' (some g) := by
 obtain ⟨cur, hh, h1, h2⟩ := h.cur
 have hH := holds_of_blockI hh h2
 refine (Tryz.slices_Sort_int g 0 c L w hH h.blk (by omega)).mono ?_
 rintro e w' ⟨rfl, n, os, rfl⟩
 refine ⟨rfl, ⟨⟨_, heap_sortedI _ hh, by simp [Sort.putCells, h1], ?_⟩, by rw [sortI_length]; exact h.fit, h.cap⟩, grownBy_sortedI _⟩
 exact take_putCellsI cur (sortI L) (by rw [sortI_length, h1]; exact h.fit)
theorem sort_r {w0 w : World} {ok : Nat → Prop} {v : Value} {L : List Int} (hb : Below w0.heap.size w0 w) (h : Kd.R (Kd.int .i64) 3 w w0.heap.size ok v L) (hm : L.length < 1000000) :
  Calls Tryz.prog 46 #[v] w fun e w' => e = .returned (.tuple #[]) ∧ Kd.R (Kd.int .i64) 3 w' w0.heap.size ok v (sortI L) ∧ Below w0.heap.size w0 w' := by
 rcases IR.of h with ⟨rfl, rfl⟩ | ⟨g, cap, rfl, hg, hok, hi⟩
 ·refine (Tryz.slices_Sort_int_none none 0 w).mono ?_
  rintro e w' ⟨rfl, rfl⟩
  exact ⟨rfl, by rw [show sortI [] = [] by simp [sortI]]; exact h, hb⟩
 ·refine (sort_ir hi hm).mono ?_
  rintro e w' ⟨rfl, h2, h3⟩
  have := h2.row hg hok
  rw [sortI_length] at this
  exact ⟨rfl, this, hb.grown h3 hb.size (fun k hk => by injection hk with hk; rw [← hk]; exact hg)⟩
def PredW (g : Nat) (lb : Array Value) (p : Int → Bool) (w0 : World) : Prop :=
 ∀ (W : World) (i : Int), Below w0.heap.size w0 W → Calls Tryz.prog g (#[.int .i64 i] ++ lb) W fun e w' => e = .returned (.bool (p i)) ∧ Below W.heap.size W w'
theorem predW_int {g : Nat} {lb : Array Value} {p : Int → Bool} {w0 W : World} (h : PredW g lb p w0) (hb : Below w0.heap.size w0 W) (l : List Int) : PredInt g lb p l W := fun W' i hi hb' => by
 refine (h W' l[i] (below_step hb hb')).mono ?_
 rintro e w' ⟨rfl, h2⟩
 exact ⟨rfl, below_step hb' h2⟩
theorem filter_take (p : Int → Bool) (l : List Int) (j : Nat) (hj : j < l.length) : (l.take (j + 1)).filter p = (l.take j).filter p ++ (if p l[j] then [l[j]] else []) := by
 rw [List.take_succ_eq_append_getElem hj, List.filter_append]
 congr 1
 cases h : p l[j] <;> simp [h]
theorem filter_none {p : Int → Bool} {l : List Int} {k : Nat} (hk : k < l.length) (hp : p l[k] = true) (hz : ∀ j (hj : j < k), p (l[j]'(by omega)) = false) : (l.take (k + 1)).filter (fun i => !p i) = l.take k := by
 rw [filter_take _ l k hk, if_neg (by simp [hp]), List.append_nil, List.filter_eq_self]
 intro a ha
 obtain ⟨j, hj, rfl⟩ := List.getElem_of_mem ha
 rw [List.length_take] at hj
 rw [List.getElem_take, hz j (by omega)]
 rfl
theorem idxF_before {α : Type} {p : α → Bool} : ∀ {l : List α} {k : Nat}, idxF p l = (k : Int) → ∀ j (hj : j < k) (hl : j < l.length), p l[j] = false
 | [], k, h, _, _, hl => absurd hl (by simp)
 | y :: l, k, h, j, hj, hl => by
  unfold idxF at h
  cases hy : p y
  ·rw [hy] at h
   simp only [Bool.false_eq_true, if_false] at h
   split at h
   ·omega
   ·cases j with
    | zero => exact hy
    | succ j =>
     obtain ⟨q, rfl⟩ : ∃ q, k = q + 1 := ⟨k - 1, by omega⟩
     have hq : idxF p l = (q : Int) := by omega
     have := idxF_before hq j (by omega) (by simpa using hl)
     simpa using this
  ·rw [hy] at h
   simp only [if_true] at h
   omega
theorem delf_ir {f : Nat} {lb : Array Value} (eg : Enters Tryz.prog f) {p : Int → Bool} {w0 w : World} {g cap : Nat} {l : List Int} (hp : PredW f lb p w0) (hb : Below w0.heap.size w0 w) (h : IR w g cap l) (hg : w0.heap.size ≤ g) (hm : l.length < 1000000) :
  Calls Tryz.prog 103 #[.slice (some ⟨g, 0, none⟩) l.length cap, .func (.func f) #[] lb] w fun e w' => e = .returned (.slice (some ⟨g, 0, none⟩) (l.filter fun i => !p i).length cap) ∧ IR w' g cap (l.filter fun i => !p i) ∧ Below w0.heap.size w0 w' := by
 have HI := jo (idx_int eg w (h.read (by omega)) h.fit (predW_int hp hb l))
 replace eg : ∀ args w, (callFunc f args).run Tryz.prog w = .ok (.enter f args) w := fun a w => eg a w
 have H := jo (And.intro h hb)
 have HP := jo hp
 have HG := jo hg
 have hfit := h.fit
 by_cases hneg : idxF p l < 0
 ·have hz : idxF p l = -1 := by have := idxF_lo p l; omega
  have hfl : (l.filter fun i => !p i) = l := by
   rw [List.filter_eq_self]
   intro a ha
   rw [Lin.idxF_neg hneg a ha]
   rfl
  rw [hz] at HI
  rw [hfl]
  clear hneg hz hfl hp hb h hg
  go_enter Tryz.func103, Tryz.ntmps103
  go_wp2_with (go_at_call 139; (with_reducible refine HI.out.mono ?_); rintro e w1 ⟨rfl, hb1⟩; have H1 := jo (And.intro (H.out.1.below hb1) (below_step H.out.2 hb1)); clear hb1)
  go_ret
  exact ⟨rfl, H1.out⟩
 ·obtain ⟨k0, hk0⟩ := Int.eq_ofNat_of_zero_le (Int.not_lt.1 hneg)
  obtain ⟨hkl, hpk⟩ := Lin.idxF_pos hk0
  have hbf := idxF_before hk0
  rw [hk0] at HI
  have b1 : ((k0 : Int) == -1) = false := beq_eq_false_iff_ne.2 (by omega)
  have wk : wrap64 ((k0 : Int) + 1) = ((k0 + 1 : Nat) : Int) := Deg.w64 (by omega) (by omega)
  have HK : Aside0 ((l.take (k0 + 1)).filter (fun i => !p i) = l.take k0) := ⟨filter_none hkl hpk (fun j hj => hbf j hj (by omega))⟩
  have HKL := jo hkl
  clear hneg hk0 hpk hbf hp hb h hg
  go_enter Tryz.func103, Tryz.ntmps103
  go_wp2_with (go_at_call 139; (with_reducible refine HI.out.mono ?_); rintro e w1 ⟨rfl, hb1⟩; have H1 := jo (And.intro (H.out.1.below hb1) (below_step H.out.2 hb1)); clear hb1)
  go_loopg [5, 6, 7] (l.length - (k0 + 1)) (fun gk v5 v6 v7 wr => ∃ (i j : Nat) (cur : List Int), v5 = .int .i64 i ∧ v6 = .int .i64 j ∧ Aside0 (j + gk = l.length ∧ i < j ∧ cur.length = l.length ∧ IR wr g cap cur ∧ cur.take i = (l.take j).filter (fun i => !p i) ∧ cur.drop j = l.drop j ∧ Below w0.heap.size w0 wr))
  case atStart => exact ⟨k0, k0 + 1, l, rfl, rfl, ⟨by omega, Nat.lt_succ_self _, rfl, H1.out.1, HK.out.symm, rfl, H1.out.2⟩⟩
  case round =>
   obtain ⟨i, j, cur, rfl, rfl, HA⟩ := hrel
   clear H1
   by_cases hlt : j < l.length
   ·have d1 : decide ((j : Int) < (l.length : Int)) = true := decide_eq_true (by omega)
    have d2 : decide (j < l.length) = true := decide_eq_true hlt
    have d3 : (j : Int) < (l.length : Int) := by omega
    obtain ⟨gq, rfl⟩ : ∃ q, gk = q + 1 := ⟨gk - 1, by have := HA.out.1; omega⟩
    have hcl := HA.out.2.2.1
    have hij := HA.out.2.1
    have wi : wrap64 ((i : Int) + 1) = ((i + 1 : Nat) : Int) := Deg.w64 (by omega) (by omega)
    have wj : wrap64 ((j : Int) + 1) = ((j + 1 : Nat) : Int) := Deg.w64 (by omega) (by omega)
    have hil : (i : Int) < (l.length : Int) := by omega
    have hiold := HA.out.2.2.2.1.cell (i := i) (by omega)
    have hjc : cur[j]'(by omega) = l[j] := by
     have := congrArg (fun m => m[0]?) HA.out.2.2.2.2.2.1
     simp only [List.getElem?_drop, Nat.add_zero] at this
     rw [List.getElem?_eq_getElem (by omega), List.getElem?_eq_getElem hlt] at this
     exact Option.some.inj this
    have hcell := HA.out.2.2.2.1.cell (i := j) (by omega)
    rw [hjc] at hcell
    have hft := filter_take (fun i => !p i) l j hlt
    have hd1 : l.drop (j + 1) = cur.drop (j + 1) := by
     have := congrArg (fun m => m.drop 1) HA.out.2.2.2.2.2.1
     simp only [List.drop_drop] at this
     exact this.symm
    have hcall := HP.out wr l[j] HA.out.2.2.2.2.2.2
    obtain ⟨x, hx⟩ : ∃ x, x = l[j] := ⟨_, rfl⟩
    rw [← hx] at hcell hft hcall
    have HF := jo (And.intro hft hd1)
    clear hft hd1 hx hjc
    cases hq : p x with
    | true =>
     rw [hq] at hcall HF
     have HQ := jo hcall
     clear hq hiold hcall
     go_wp2_with (go_at_fn f; refine HQ.out.mono ?_; rintro e w' ⟨rfl, hb'⟩)
     go_roundg gq
     case measure => omega
     case rel => exact ⟨i, j + 1, cur, rfl, rfl, ⟨by have := HA.out.1; omega, by omega, hcl, HA.out.2.2.2.1.below hb', by rw [HF.out.1, HA.out.2.2.2.2.1]; simp, HF.out.2.symm, below_step HA.out.2.2.2.2.2.2 hb'⟩⟩
    | false =>
     rw [hq] at hcall HF
     have HQ := jo hcall
     generalize cur[i]'(by omega) = old at hiold
     clear hq hcall
     go_wp2_with (go_at_fn f; refine HQ.out.mono ?_; rintro e w' ⟨rfl, hb'⟩; have hold := pw_cell_below hb' hiold; have hsoft := (HA.out.2.2.2.1.below hb').soft)
     go_roundg gq
     case measure => omega
     case rel =>
      refine ⟨i + 1, j + 1, cur.set i x, rfl, rfl, ⟨by have := HA.out.1; omega, by omega, by rw [List.length_set]; exact hcl, (HA.out.2.2.2.1.below hb').put (by omega) x, ?_, ?_, (below_step HA.out.2.2.2.2.2.2 hb').setCell HG.out _⟩⟩
      ·rw [HF.out.1, ← HA.out.2.2.2.2.1, List.take_succ_eq_append_getElem (by rw [List.length_set]; omega), List.take_set_of_le (Nat.le_refl _), List.getElem_set_self]
       simp
      ·rw [List.drop_set_of_lt (by omega)]
       exact HF.out.2.symm
   ·have d1 : decide ((j : Int) < (l.length : Int)) = false := decide_eq_false (by omega)
    have d2 : decide (j < l.length) = false := decide_eq_false hlt
    have e1 : j = l.length := by have := HA.out.1; omega
    subst e1
    have hij := HA.out.2.1
    have hcl := HA.out.2.2.1
    have hir := HA.out.2.2.2.1
    have hic : i ≤ cap := by omega
    have hil : (i : Int) ≤ (l.length : Int) := by omega
    have hcl2 : ∀ ty, (Builtin.clear_ #[44] ty #[.slice (some ⟨g, i, none⟩) (l.length - i) (cap - i)]).run Tryz.prog wr = .ok (.tuple #[]) (wr.setCells g i (List.replicate (l.length - i) (.int .i64 0))) := fun ty =>
     Lib.run_clear_slice wr 44 3 ty (.int .i64 0) Tryz.underlying44 Tryz.zeroValue3 rfl rfl g i _ _ (by omega) (fun q hq => by rw [hir.cell (by omega)]; rfl) (fun q _ => hir.soft _)
    have hfl : (l.filter fun i => !p i) = cur.take i := by
     have := HA.out.2.2.2.2.1
     rw [List.take_length] at this
     exact this.symm
    have hln : (l.filter fun i => !p i).length = i := by rw [hfl, List.length_take]; omega
    have HF : Aside0 (IR (wr.setCells g i (List.replicate (l.length - i) (.int .i64 0))) g cap (l.filter fun i => !p i) ∧ (l.filter fun i => !p i).length = i ∧ Below w0.heap.size w0 (wr.setCells g i (List.replicate (l.length - i) (.int .i64 0)))) := ⟨by
     rw [hfl]
     refine (hir.take i (by omega)).beyond i _ (by rw [List.length_take]; omega) ?_
     rw [List.length_replicate]
     omega, hln, below_setCells HG.out _ _ _ HA.out.2.2.2.2.2.2⟩
    clear hfl hln hir HA
    go_wp2
    go_ret
    exact ⟨by rw [HF.out.2.1]; rfl, HF.out.1, HF.out.2.2⟩
theorem delf_r {f : Nat} {lb : Array Value} (eg : Enters Tryz.prog f) {p : Int → Bool} {w0 w : World} {ok : Nat → Prop} {v : Value} {l : List Int} (hp : PredW f lb p w0) (hb : Below w0.heap.size w0 w) (h : Kd.R (Kd.int .i64) 3 w w0.heap.size ok v l) (hm : l.length < 1000000) :
  Calls Tryz.prog 103 #[v, .func (.func f) #[] lb] w fun e w' => ∃ v', e = .returned v' ∧ Kd.R (Kd.int .i64) 3 w' w0.heap.size ok v' (l.filter fun i => !p i) ∧ Below w0.heap.size w0 w' := by
 rcases IR.of h with ⟨rfl, rfl⟩ | ⟨g, cap, rfl, hg, hok, hi⟩
 ·have HI : Aside0 (Calls Tryz.prog 139 #[.slice none 0 0, .func (.func f) #[] lb] w fun e w' => e = .returned (.int .i64 (-1)) ∧ Below w.heap.size w w') := ⟨idx_int eg w (Kd.C_nil _ _) (Nat.le_refl _) (predW_int hp hb [])⟩
  have HB := jo hb
  clear hp hb h
  go_enter Tryz.func103, Tryz.ntmps103
  go_wp2_with (go_at_call 139; (with_reducible refine HI.out.mono ?_); rintro e w1 ⟨rfl, hb1⟩; have H1 := jo (below_step HB.out hb1); clear hb1)
  go_ret
  exact ⟨_, rfl, Kd.R_nil _ _ _ _ _, H1.out⟩
 ·refine (delf_ir eg hp hb hi hg hm).mono ?_
  rintro e w' ⟨rfl, h2, h3⟩
  exact ⟨_, rfl, h2.row hg hok, h3⟩
end Go.Proofs.YtjmooillogojkaaGreat.Q
