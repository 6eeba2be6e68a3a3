/- Arrays in memory: they are read, and written, as one value; gauss: a row of bits in memory; has, add, of, plus, list. No condition. -/
import Derived.Laws.Tables
import Derived.Shelf.SlicesQ.Load
import Derived.Test.YtjmooillogojkaaGreatM12
import Derived.Test.YtjmooillogojkaaGreatM13
set_option maxHeartbeats 8000000
set_option maxRecDepth 100000
set_option linter.unusedVariables false
set_option linter.unusedSimpArgs false
namespace Go.Proofs.YtjmooillogojkaaGreat.Q
open Go.RowKit Go.Proofs.YtjmooillogojkaaGreatW.PrintWords Go.Proofs.YtjmooillogojkaaGreatW.PrintLast Go.Proofs.YtjmooillogojkaaGreatW.PrintMore
open Go.Proofs.YtjmooillogojkaaGreat
theorem load_arr {P : Program} {w : World} {g off n : Nat} {cs : Array Value} (h : ∀ i v, cs[i]? = some v → w.cell? ⟨g, off + i, none⟩ = some v) (hn : cs.size = n) : (loadCellsFrom ⟨g, off, none⟩ 0 n #[]).run P w = .ok cs w := by
 have := run_loadCellsFrom_list P w ⟨g, off, none⟩ cs.toList n (by simp [hn]) (fun i v hi => by
  rw [Addr.add_lit]
  exact h i v (by simpa using hi))
 simpa using this
theorem blk_cells {w : World} {g : Nat} {e : TypeId} {cs : Array Value} (h : w.heap[g]? = some (.cells cs e (0, 0))) : ∀ i v, cs[i]? = some v → w.cell? ⟨g, 0 + i, none⟩ = some v := fun i v hv => by
 rw [Nat.zero_add, blk_cell h, hv]
def putC (cs : Array Value) (o : Nat) : List Value → Array Value
 | [] => cs
 | v :: r => putC (cs.setIfInBounds o v) (o + 1) r
theorem putC_size (vs : List Value) : ∀ (cs : Array Value) (o : Nat), (putC cs o vs).size = cs.size := by
 induction vs with
 | nil => intro cs o; rfl
 | cons v r ih =>
  intro cs o
  unfold putC
  rw [ih, Array.size_setIfInBounds]
theorem putC_at (vs : List Value) : ∀ (cs : Array Value) (o i : Nat), o + vs.length ≤ cs.size → (putC cs o vs)[i]? = if o ≤ i ∧ i < o + vs.length then vs[i - o]? else cs[i]? := by
 induction vs with
 | nil =>
  intro cs o i h
  rw [if_neg (by rw [List.length_nil]; omega)]
  rfl
 | cons v r ih =>
  intro cs o i h
  have h' : o + 1 + r.length ≤ cs.size := by rw [List.length_cons] at h; omega
  unfold putC
  rw [ih _ _ _ (by rw [Array.size_setIfInBounds]; exact h'), List.length_cons]
  by_cases e : i = o
  ·subst e
   rw [if_neg (by omega), if_pos (by omega), Nat.sub_self, Array.getElem?_setIfInBounds_self_of_lt (by omega)]
   rfl
  ·rw [Array.getElem?_setIfInBounds_ne (fun h => e h.symm)]
   by_cases h2 : o + 1 ≤ i ∧ i < o + 1 + r.length
   ·rw [if_pos h2, if_pos (by omega), show i - o = (i - (o + 1)) + 1 by omega, List.getElem?_cons_succ]
   ·rw [if_neg h2, if_neg (by omega)]
theorem putC_all {cs vs : Array Value} (h : vs.size = cs.size) : putC cs 0 vs.toList = vs := by
 apply Array.ext_getElem?
 intro i
 rw [putC_at _ _ _ _ (by simp [h])]
 by_cases hi : i < vs.size
 ·rw [if_pos (by simpa using hi)]
  simp
 ·rw [if_neg (by simpa using hi), Array.getElem?_eq_none (by omega), Array.getElem?_eq_none (by omega)]
theorem blk_setCells {g : Nat} {e : TypeId} (vs : List Value) : ∀ (o : Nat) (w : World) (cs : Array Value), w.heap[g]? = some (.cells cs e (0, 0)) → (w.setCells g o vs).heap[g]? = some (.cells (putC cs o vs) e (0, 0)) := by
 induction vs with
 | nil => intro o w cs h; exact h
 | cons v r ih =>
  intro o w cs h
  exact ih (o + 1) _ _ (blk_set h o v)
theorem below_setCells {B : Nat} {w0 : World} {g : Nat} (hB : B ≤ g) (vs : List Value) : ∀ (o : Nat) (w : World), Below B w0 w → Below B w0 (w.setCells g o vs) := by
 induction vs with
 | nil => intro o w h; exact h
 | cons v r ih =>
  intro o w h
  exact ih (o + 1) _ (h.setCell hB _)
theorem heap_setCells {g k : Nat} (hk : k ≠ g) (vs : List Value) : ∀ (o : Nat) (w : World), (w.setCells g o vs).heap[k]? = w.heap[k]? := by
 induction vs with
 | nil => intro o w; rfl
 | cons v r ih =>
  intro o w
  exact (ih (o + 1) _).trans (Below.heap_setCell w ⟨g, o, none⟩ v k hk)
theorem size_setCells' {g : Nat} (vs : List Value) : ∀ (o : Nat) (w : World), (w.setCells g o vs).heap.size = w.heap.size := by
 induction vs with
 | nil => intro o w; rfl
 | cons v r ih =>
  intro o w
  exact (ih (o + 1) _).trans (World.size_setCell ..)
theorem out_setCells {g : Nat} (vs : List Value) : ∀ (o : Nat) (w : World), (w.setCells g o vs).os = w.os ∧ (w.setCells g o vs).tape = w.tape ∧ (w.setCells g o vs).output = w.output := by
 induction vs with
 | nil => intro o w; exact ⟨rfl, rfl, rfl⟩
 | cons v r ih =>
  intro o w
  exact ih (o + 1) _
section
variable {P : Program} {ops : Array Oper} {rest : List Oper} {o : Oper} {a : Act} {Q : Exit → Act → World → Prop} {W : World}
theorem load_run {o : Oper} {a : Act} {t : TypeId} {x : Operand} (ho : o.op = .load t x) {g off : Nat} {cs : Array Value} (hx : a.eval x = .pointer (some ⟨g, off, none⟩)) (hh : ∀ i v, cs[i]? = some v → W.cell? ⟨g, off + i, none⟩ = some v)
  (hA : ∀ w, (isAgg t).run P w = .ok true w) (hS : ∀ w, (sizeOf t).run P w = .ok cs.size w) : (execOp a.eval o).run P W = .ok (.value (.agg cs)) W := by
 have hl := load_arr (P := P) hh rfl
 unfold execOp
 rw [ho]
 simp [hx, Instr.loadAt, Instr.sureAddr, loadVar, hA, hS, loadCells, hl]
theorem load_event (hgd : o.guard = none) {N : Tmp} (_hd : o.dst = some N) {t : TypeId} {x : Operand} (ho : o.op = .load t x) {g off : Nat} {cs : Array Value} (hx : a.eval x = .pointer (some ⟨g, off, none⟩)) (hh : ∀ i v, cs[i]? = some v → W.cell? ⟨g, off + i, none⟩ = some v)
  (hA : ∀ w, (isAgg t).run P w = .ok true w) (hS : ∀ w, (sizeOf t).run P w = .ok cs.size w) (h : wpList P ops Q rest (a.put o.dst (.agg cs)) W) : wpList P ops Q (o :: rest) a W :=
 Kd.event_run hgd (load_run ho hx hh hA hS) h
theorem store_run {o : Oper} {a : Act} {t : TypeId} {y x : Operand} (ho : o.op = .store t y x) {g off : Nat} {cs vs : Array Value} {e : TypeId} (hp : a.eval y = .pointer (some ⟨g, off, none⟩)) (hx : a.eval x = .agg vs)
  (hh : W.heap[g]? = some (.cells cs e (0, 0))) (hl : off + vs.size ≤ cs.size) (h1 : ∀ v ∈ vs.toList, v.oneCell' = true) (hS : ∀ w, (sizeOf t).run P w = .ok vs.size w) :
  (execOp a.eval o).run P W = .ok .skip (W.setCells g off vs.toList) := by
 have hs := run_storeCells_cells (P := P) g off vs.toList 0 W (fun j hj => by
  rw [Nat.add_zero, blk_cell hh, Array.getElem?_eq_getElem (by simp at hj; omega)]
  rfl) (fun j hj => blk_frozen hh _) h1
 unfold execOp
 rw [ho]
 simp [hp, hx, Instr.storeAt, Instr.sureAddr, storeVar, Value.cells, hS, hs]
theorem store_arr (hgd : o.guard = none) {t : TypeId} {p : Tmp} {x : Operand} (ho : o.op = .store t (.tmp p) x) (hN : o.dst = none) {g off : Nat} {cs vs : Array Value} {e : TypeId} (hp : a.eval (.tmp p) = .pointer (some ⟨g, off, none⟩)) (hx : a.eval x = .agg vs)
  (hh : W.heap[g]? = some (.cells cs e (0, 0))) (hl : off + vs.size ≤ cs.size) (h1 : ∀ v ∈ vs.toList, v.oneCell' = true) (hS : ∀ w, (sizeOf t).run P w = .ok vs.size w)
  (h : ∀ w', w' = W.setCells g off vs.toList → wpList P ops Q rest a w') : wpList P ops Q (o :: rest) a W :=
 store_event hgd ho hN (store_run ho hp hx hh hl h1 hS) h
end
end Go.Proofs.YtjmooillogojkaaGreat.Q
namespace Go.Proofs.YtjmooillogojkaaGreat.Q
open Go.RowKit Go.Proofs.YtjmooillogojkaaGreatW.PrintWords Go.Proofs.YtjmooillogojkaaGreatW.PrintLast Go.Proofs.YtjmooillogojkaaGreatW.PrintMore
open Go.Proofs.YtjmooillogojkaaGreat Lin
def gwN (x k : Nat) : Nat := x / 2 ^ (64 * k) % 2 ^ 64
def gw (x k : Nat) : Int := (gwN x k : Int)
def rowA (x : Nat) : Array Value := #[.int .u64 (gw x 0), .int .u64 (gw x 1), .int .u64 (gw x 2)]
def rowV (x : Nat) : Value := .agg (rowA x)
abbrev Side := Nat × ByteArray
def sideV (s : Side) : Value := .agg #[.int .u64 (gw s.1 0), .int .u64 (gw s.1 1), .int .u64 (gw s.1 2), .string s.2]
def sideC (s : Side) : List Value := [.int .u64 (gw s.1 0), .int .u64 (gw s.1 1), .int .u64 (gw s.1 2), .string s.2]
theorem gwN_bit (x k r : Nat) : (gwN x k).testBit r = (decide (r < 64) && x.testBit (64 * k + r)) := by
 unfold gwN
 rw [Nat.testBit_mod_two_pow, Nat.testBit_div_two_pow, Nat.add_comm]
theorem gwN_lt (x k : Nat) : gwN x k < 2 ^ 64 := Nat.mod_lt _ (Nat.two_pow_pos _)
theorem bv64 {a : Nat} (h : a < 2 ^ 64) : (BitVec.ofInt (IntKind.u64).bits (a : Int)).toNat = a := by
 rw [BitVec.toNat_ofInt]
 simp [IntKind.bits]
 omega
theorem wrap_u64 {a : Nat} (h : a < 2 ^ 64) : IntKind.u64.wrap (a : Int) = (a : Int) := by
 rw [IntKind.wrap_u64]
 omega
theorem bits_xor {a b : Nat} (ha : a < 2 ^ 64) (hb : b < 2 ^ 64) : Go.bits .xor .u64 (a : Int) (b : Int) = ((a ^^^ b : Nat) : Int) := by
 unfold Go.bits
 simp only [BitVec.toNat_xor, bv64 ha, bv64 hb]
 exact wrap_u64 (Nat.xor_lt_two_pow ha hb)
theorem bits_or {a b : Nat} (ha : a < 2 ^ 64) (hb : b < 2 ^ 64) : Go.bits .or .u64 (a : Int) (b : Int) = ((a ||| b : Nat) : Int) := by
 unfold Go.bits
 simp only [BitVec.toNat_or, bv64 ha, bv64 hb]
 exact wrap_u64 (Nat.or_lt_two_pow ha hb)
theorem bits_and {a b : Nat} (ha : a < 2 ^ 64) (hb : b < 2 ^ 64) : Go.bits .and .u64 (a : Int) (b : Int) = ((a &&& b : Nat) : Int) := by
 unfold Go.bits
 simp only [BitVec.toNat_and, bv64 ha, bv64 hb]
 exact wrap_u64 (Nat.lt_of_le_of_lt Nat.and_le_left ha)
theorem gw_xor (x y k : Nat) : Go.bits .xor .u64 (gw x k) (gw y k) = gw (x ^^^ y) k := by
 unfold gw
 rw [bits_xor (gwN_lt _ _) (gwN_lt _ _)]
 congr 1
 refine Nat.eq_of_testBit_eq (fun r => ?_)
 rw [Nat.testBit_xor, gwN_bit, gwN_bit, gwN_bit, Nat.testBit_xor]
 cases decide (r < 64) <;> simp
theorem gw_has (x k r : Nat) (hr : r < 64) : (Go.bits .and .u64 (gw x k / 2 ^ r) 1 == 1) = x.testBit (64 * k + r) := by
 have h1 : gw x k / 2 ^ r = ((gwN x k / 2 ^ r : Nat) : Int) := by unfold gw; simp
 have h2 : gwN x k / 2 ^ r < 2 ^ 64 := Nat.lt_of_le_of_lt (Nat.div_le_self _ _) (gwN_lt x k)
 have h3 := bits_and h2 (show 1 < 2 ^ 64 by decide)
 have h4 : Nat.testBit (gwN x k) r = x.testBit (64 * k + r) := by rw [gwN_bit]; simp [hr]
 rw [h1]
 rw [show ((1 : Nat) : Int) = 1 from rfl] at h3
 rw [h3, Nat.and_one_is_mod, ← h4, Nat.testBit_eq_decide_div_mod_eq]
 by_cases h : gwN x k / 2 ^ r % 2 = 1
 ·rw [h]
  rfl
 ·have : gwN x k / 2 ^ r % 2 = 0 := by omega
  rw [this]
  rfl
theorem gw_put (x k r : Nat) (hr : r < 64) : Go.bits .or .u64 (gw x k) (2 ^ r) = gw (x ||| 2 ^ (64 * k + r)) k := by
 have h2 : (2 : Int) ^ r = ((2 ^ r : Nat) : Int) := by simp
 unfold gw
 rw [h2, bits_or (gwN_lt _ _) (Nat.pow_lt_pow_right (by decide) hr)]
 congr 1
 refine Nat.eq_of_testBit_eq (fun j => ?_)
 rw [Nat.testBit_or, gwN_bit, gwN_bit, Nat.testBit_or, Nat.testBit_two_pow, Nat.testBit_two_pow]
 by_cases e : r = j
 ·subst e
  simp [hr]
 ·have : ¬ 64 * k + r = 64 * k + j := by omega
  simp [e]
theorem gw_other (x k r k' : Nat) (hr : r < 64) (hk : k' ≠ k) : gw (x ||| 2 ^ (64 * k + r)) k' = gw x k' := by
 unfold gw
 congr 1
 refine Nat.eq_of_testBit_eq (fun j => ?_)
 rw [gwN_bit, gwN_bit, Nat.testBit_or, Nat.testBit_two_pow]
 by_cases hj : j < 64
 ·have : ¬ 64 * k + r = 64 * k' + j := by omega
  simp [this]
 ·simp [hj]
theorem rowA_put (x k r : Nat) (hr : r < 64) (hk : k < 3) : (rowA x).set! k (.int .u64 (gw (x ||| 2 ^ (64 * k + r)) k)) = rowA (x ||| 2 ^ (64 * k + r)) := by
 unfold rowA
 rcases (show k = 0 ∨ k = 1 ∨ k = 2 by omega) with rfl | rfl | rfl
 ·rw [gw_other x 0 r 1 hr (by decide), gw_other x 0 r 2 hr (by decide)]
  rfl
 ·rw [gw_other x 1 r 0 hr (by decide), gw_other x 1 r 2 hr (by decide)]
  rfl
 ·rw [gw_other x 2 r 0 hr (by decide), gw_other x 2 r 1 hr (by decide)]
  rfl
def mixA (x y k : Nat) : Array Value := ((List.range 3).map (fun j => Value.int .u64 (if j < k then gw y j else gw x j))).toArray
theorem mixA_all (x y : Nat) : mixA x y 3 = rowA y := rfl
theorem mixA_at (x y k j : Nat) (hj : j < 3) : (mixA x y k)[j]? = some (.int .u64 (if j < k then gw y j else gw x j)) := by
 rcases (show j = 0 ∨ j = 1 ∨ j = 2 by omega) with rfl | rfl | rfl <;> rfl
theorem rowA_at (x j : Nat) (hj : j < 3) : (rowA x)[j]? = some (.int .u64 (gw x j)) := by
 rcases (show j = 0 ∨ j = 1 ∨ j = 2 by omega) with rfl | rfl | rfl <;> rfl
theorem mixA_put (x y k : Nat) (hk : k < 3) : (mixA x y k).set! k (.int .u64 (gw y k)) = mixA x y (k + 1) := by
 rcases (show k = 0 ∨ k = 1 ∨ k = 2 by omega) with rfl | rfl | rfl <;> rfl
theorem has_ok {x i : Nat} (hi : i < 192) (w : World) : Calls Tryz.prog 53 #[rowV x, .int .i64 i] w fun e w' => e = .returned (.bool (x.testBit i)) ∧ Below w.heap.size w w' := by
 obtain ⟨q, hq⟩ : ∃ q, q = i / 64 := ⟨_, rfl⟩
 obtain ⟨r, hr⟩ : ∃ r, r = i % 64 := ⟨_, rfl⟩
 have t1 : Int.tdiv (i : Int) 64 = (q : Int) := by rw [Int.tdiv_eq_ediv_of_nonneg (by omega)]; omega
 have t2 : Int.tmod (i : Int) 64 = (r : Int) := by rw [Int.tmod_eq_emod_of_nonneg (by omega)]; omega
 have hb := gw_has x q r (by omega)
 rw [show 64 * q + r = i by omega] at hb
 obtain ⟨bt, hbt⟩ : ∃ bt, bt = x.testBit i := ⟨_, rfl⟩
 rw [← hbt] at hb ⊢
 have HB := jo hb
 have hq3 : q = 0 ∨ q = 1 ∨ q = 2 := by omega
 have hr2 : r < 64 := by omega
 clear hb hbt hq hr hi
 unfold rowV rowA
 rcases hq3 with rfl | rfl | rfl
 ·go_enter Tryz.func53, Tryz.ntmps53
  go_wp2
  go_ret
  exact ⟨by rw [HB.out]; rfl, below_alloc (Below.refl _ _) _⟩
 ·go_enter Tryz.func53, Tryz.ntmps53
  go_wp2
  go_ret
  exact ⟨by rw [HB.out]; rfl, below_alloc (Below.refl _ _) _⟩
 ·go_enter Tryz.func53, Tryz.ntmps53
  go_wp2
  go_ret
  exact ⟨by rw [HB.out]; rfl, below_alloc (Below.refl _ _) _⟩
theorem rowadd_ok (x y : Nat) (w : World) : Calls Tryz.prog 94 #[rowV x, rowV y] w fun e w' => e = .returned (rowV (x ^^^ y)) ∧ Below w.heap.size w w' := by
 unfold rowV
 go_enter Tryz.func94, Tryz.ntmps94
 go_wp2_with fail
 have kx : (((w.alloc (.cells (rowA x) 72)).alloc (.cells (rowA y) 72)).alloc (.cells #[.int .u64 0, .int .u64 0, .int .u64 0] 72)).heap[w.heap.size]? = some (.cells (rowA x) 72 (0, 0)) := blk_alloc (blk_alloc (blk_new w _) _) _
 have ky : (((w.alloc (.cells (rowA x) 72)).alloc (.cells (rowA y) 72)).alloc (.cells #[.int .u64 0, .int .u64 0, .int .u64 0] 72)).heap[w.heap.size + 1]? = some (.cells (rowA y) 72 (0, 0)) := by
  have := blk_new (w.alloc (.cells (rowA x) 72)) (.cells (rowA y) 72)
  rw [World.size_alloc] at this
  exact blk_alloc this _
 have kz : (((w.alloc (.cells (rowA x) 72)).alloc (.cells (rowA y) 72)).alloc (.cells #[.int .u64 0, .int .u64 0, .int .u64 0] 72)).heap[w.heap.size + 1 + 1]? = some (.cells #[.int .u64 0, .int .u64 0, .int .u64 0] 72 (0, 0)) := by
  have := blk_new ((w.alloc (.cells (rowA x) 72)).alloc (.cells (rowA y) 72)) (.cells #[.int .u64 0, .int .u64 0, .int .u64 0] 72)
  rw [World.size_alloc, World.size_alloc] at this
  exact this
 have hb0 : Below w.heap.size w (((w.alloc (.cells (rowA x) 72)).alloc (.cells (rowA y) 72)).alloc (.cells #[.int .u64 0, .int .u64 0, .int .u64 0] 72)) := below_alloc (below_alloc (below_alloc (Below.refl _ _) _) _) _
 generalize ((w.alloc (.cells (rowA x) 72)).alloc (.cells (rowA y) 72)).alloc (.cells #[.int .u64 0, .int .u64 0, .int .u64 0] 72) = W1 at kx ky kz hb0 ⊢
 have H0 : Aside0 (W1.heap[w.heap.size]? = some (.cells (mixA x (x ^^^ y) 0) 72 (0, 0)) ∧ W1.heap[w.heap.size + 1]? = some (.cells (rowA y) 72 (0, 0)) ∧ W1.heap[w.heap.size + 1 + 1]? = some (.cells #[.int .u64 0, .int .u64 0, .int .u64 0] 72 (0, 0)) ∧ Below w.heap.size w W1) := ⟨kx, ky, kz, hb0⟩
 clear kx ky kz hb0
 obtain ⟨n, hn⟩ : ∃ n, n = w.heap.size := ⟨_, rfl⟩
 rw [← hn] at H0 ⊢
 have HN := jo hn
 clear hn
 go_loopg [5, 6] 3 (fun gk v5 v6 wr => ∃ i : Nat, v6 = .int .i64 i ∧ Aside0 (i + gk = 3 ∧ wr.heap[n]? = some (.cells (mixA x (x ^^^ y) i) 72 (0, 0)) ∧ wr.heap[n + 1]? = some (.cells (rowA y) 72 (0, 0)) ∧ wr.heap[n + 1 + 1]? = some (.cells #[.int .u64 0, .int .u64 0, .int .u64 0] 72 (0, 0)) ∧ Below n w wr))
 case atStart => exact ⟨0, rfl, ⟨by omega, H0.out⟩⟩
 case round =>
  obtain ⟨i, rfl, HA⟩ := hrel
  clear H0
  by_cases hlt : i < 3
  ·have d1 : decide ((i : Int) < 3) = true := decide_eq_true (by omega)
   have d2 : decide (i < 3) = true := decide_eq_true hlt
   have d3 : (i : Int) < 3 := by omega
   obtain ⟨gq, rfl⟩ : ∃ q, gk = q + 1 := ⟨gk - 1, by have := HA.out.1; omega⟩
   have hcx : wr.drew.cell? ⟨n, i, none⟩ = some (.int .u64 (gw x i)) := by rw [blk_cell (w := wr.drew) HA.out.2.1, mixA_at _ _ _ _ hlt, if_neg (by omega)]
   have hcy : wr.drew.cell? ⟨n + 1, i, none⟩ = some (.int .u64 (gw y i)) := by rw [blk_cell (w := wr.drew) HA.out.2.2.1, rowA_at _ _ hlt]
   have hfx : wr.drew.frozen? ⟨n, i, none⟩ = false := blk_frozen (w := wr.drew) HA.out.2.1 i
   have hxor := gw_xor x y i
   obtain ⟨z, hz⟩ : ∃ z, z = gw (x ^^^ y) i := ⟨_, rfl⟩
   rw [← hz] at hxor
   have HZ := jo hz
   generalize gw x i = xi at hcx hxor
   generalize gw y i = yi at hcy hxor
   clear hz
   go_wp2
   refine st_ (S := fun w' => w'.cell? ⟨n, i, none⟩ = some (.int .u64 xi) ∧ w'.cell? ⟨n + 1, i, none⟩ = some (.int .u64 yi)) (ds := [8]) 9 ⟨hcx, hcy⟩ (fun hHeld => ?_)
   refine td_ [0, 1, 3, 4] ?_
   repeat (first | refine pp_ ?_ | refine po_ ?_)
   refine tn_ ?_
   refine td_ [2, 5] ?_
   repeat (refine pt_ hHeld ?_)
   refine tn_ ?_
   refine td_ [6, 7] ?_
   repeat (first | refine pp_ ?_ | refine po_ ?_)
   refine tn_ ?_
   refine la_ 8 (fun K hK => ?_)
   refine skip_ (w1 := wr.drew.setCell ⟨n, i, none⟩ (.int .u64 z)) (by rfl) rfl ?_ ?_
   ·go_simp
   refine hK.out _ _ ?_
   clear hK K
   refine dn_ ?_
   go_wp2
   go_roundg gq
   case measure => omega
   case rel =>
    have hne : n + 1 ≠ n := by omega
    have hne2 : n + 1 + 1 ≠ n := by omega
    refine ⟨i + 1, rfl, ⟨by have := HA.out.1; omega, ?_, (Below.heap_setCell _ ⟨n, i, none⟩ _ _ hne).trans HA.out.2.2.1, (Below.heap_setCell _ ⟨n, i, none⟩ _ _ hne2).trans HA.out.2.2.2.1, (below_drew HA.out.2.2.2.2).setCell (Nat.le_refl _) _⟩⟩
    rw [← mixA_put _ _ _ hlt, ← HZ.out]
    exact blk_put (w := wr.drew) HA.out.2.1 i _ rfl
  ·have d1 : decide ((i : Int) < 3) = false := decide_eq_false (by omega)
   have d2 : decide (i < 3) = false := decide_eq_false hlt
   have e1 : i = 3 := by have := HA.out.1; omega
   subst e1
   have HC := jo HA.out
   obtain ⟨_, h1, h2, h3, h4⟩ := HA.out
   rw [mixA_all] at h1
   have c0 : wr.cell? ⟨n, 0, none⟩ = some (.int .u64 (gw (x ^^^ y) 0)) := blk_cell h1 0
   have c1 : wr.cell? ⟨n, 1, none⟩ = some (.int .u64 (gw (x ^^^ y) 1)) := blk_cell h1 1
   have c2 : wr.cell? ⟨n, 2, none⟩ = some (.int .u64 (gw (x ^^^ y) 2)) := blk_cell h1 2
   have e0 : wr.cell? ⟨n + 1 + 1, 0, none⟩ = some (.int .u64 0) := blk_cell h3 0
   have e1 : wr.cell? ⟨n + 1 + 1, 1, none⟩ = some (.int .u64 0) := blk_cell h3 1
   have e2 : wr.cell? ⟨n + 1 + 1, 2, none⟩ = some (.int .u64 0) := blk_cell h3 2
   have ef := fun i => blk_frozen h3 i
   clear h1 h2 h4 HA
   have H3 := jo h3
   clear h3
   go_wp2
   refine bodyPost_ret (results_cell_row rfl _ _ (n + 1 + 1) 72 (rowA (x ^^^ y)) (0, 0) _ rfl (blk_put (blk_put (blk_put H3.out 0 _ rfl) 1 _ rfl) 2 _ rfl) Tryz.underlying72 rfl jw) rfl ?_
   refine ⟨rfl, ?_⟩
   rw [← HN.out]
   exact ((HC.out.2.2.2.2.setCell (by show n ≤ n + 1 + 1; omega) _).setCell (by show n ≤ n + 1 + 1; omega) _).setCell (by show n ≤ n + 1 + 1; omega) _
def ofN (l : List Int) : Nat := l.foldl (fun acc i => acc ||| 2 ^ i.toNat) 0
theorem ofN_snoc (l : List Int) (i : Int) : ofN (l ++ [i]) = ofN l ||| 2 ^ i.toNat := by simp [ofN]
theorem of_ok {A : Option Addr} {c : Nat} {l : List Int} (w : World) (hr : Kd.C (Kd.int .i64) w A l.length l) (hc : l.length ≤ c) (hb : ∀ i ∈ l, 0 ≤ i ∧ i < 192) :
  Calls Tryz.prog 49 #[.slice A l.length c] w fun e w' => e = .returned (rowV (ofN l)) ∧ Below w.heap.size w w' := by
 have HR := jo hr
 have H := jo hb
 have hmx := hr.2.1
 clear hr hb
 go_enter Tryz.func49, Tryz.ntmps49
 go_wp2_with fail
 have kx : ((w.alloc (.cells #[.int .u64 0, .int .u64 0, .int .u64 0] 72)).alloc (.cells #[.int .u64 0, .int .u64 0, .int .u64 0] 72)).heap[w.heap.size]? = some (.cells #[.int .u64 0, .int .u64 0, .int .u64 0] 72 (0, 0)) := blk_alloc (blk_new w _) _
 have ky : ((w.alloc (.cells #[.int .u64 0, .int .u64 0, .int .u64 0] 72)).alloc (.cells #[.int .u64 0, .int .u64 0, .int .u64 0] 72)).heap[w.heap.size + 1]? = some (.cells (rowA 0) 72 (0, 0)) := by
  have := blk_new (w.alloc (.cells #[.int .u64 0, .int .u64 0, .int .u64 0] 72)) (.cells (rowA 0) 72)
  rw [World.size_alloc] at this
  exact this
 have hb0 : Below w.heap.size w ((w.alloc (.cells #[.int .u64 0, .int .u64 0, .int .u64 0] 72)).alloc (.cells #[.int .u64 0, .int .u64 0, .int .u64 0] 72)) := below_alloc (below_alloc (Below.refl _ _) _) _
 generalize (w.alloc (.cells #[.int .u64 0, .int .u64 0, .int .u64 0] 72)).alloc (.cells #[.int .u64 0, .int .u64 0, .int .u64 0] 72) = W1 at kx ky hb0 ⊢
 have H0 := jo (And.intro kx (And.intro ky hb0))
 clear kx ky hb0
 obtain ⟨n, hn⟩ : ∃ n, n = w.heap.size := ⟨_, rfl⟩
 rw [← hn] at H0 ⊢
 have HN := jo hn
 clear hn
 go_loopg [5, 8] l.length (fun gk v5 v8 wr => ∃ k : Nat, v8 = .int .i64 k ∧ Aside0 (k + gk = l.length ∧ wr.heap[n]? = some (.cells #[.int .u64 0, .int .u64 0, .int .u64 0] 72 (0, 0)) ∧ wr.heap[n + 1]? = some (.cells (rowA (ofN (l.take k))) 72 (0, 0)) ∧ Below n w wr))
 case atStart => exact ⟨0, rfl, ⟨by omega, H0.out⟩⟩
 case round =>
  obtain ⟨k, rfl, HA⟩ := hrel
  clear H0
  by_cases hlt : k < l.length
  ·have d1 : decide ((k : Int) < (l.length : Int)) = true := decide_eq_true (by omega)
   have d2 : decide (k < l.length) = true := decide_eq_true hlt
   obtain ⟨gq, rfl⟩ : ∃ q, gk = q + 1 := ⟨gk - 1, by have := HA.out.1; omega⟩
   obtain ⟨ad, rfl, hcell⟩ := Kd.at_int (Kd.C_below HR.out (HN.out ▸ HA.out.2.2.2)) (k : Int) (by omega) (by omega)
   rw [rd_get hlt, Int.toNat_natCast] at hcell
   obtain ⟨hi0, hi1⟩ := H.out l[k] (List.getElem_mem hlt)
   have htk : l.take (k + 1) = l.take k ++ [l[k]] := by rw [List.take_succ_eq_append_getElem hlt]
   obtain ⟨iz, hiz⟩ : ∃ iz, iz = l[k] := ⟨_, rfl⟩
   rw [← hiz] at hcell hi0 hi1 htk
   obtain ⟨i, rfl⟩ := Int.eq_ofNat_of_zero_le hi0
   obtain ⟨q, hq⟩ : ∃ q, q = i / 64 := ⟨_, rfl⟩
   obtain ⟨r, hr⟩ : ∃ r, r = i % 64 := ⟨_, rfl⟩
   have t1 : Int.tdiv (i : Int) 64 = (q : Int) := by rw [Int.tdiv_eq_ediv_of_nonneg (by omega)]; omega
   have t2 : Int.tmod (i : Int) 64 = (r : Int) := by rw [Int.tmod_eq_emod_of_nonneg (by omega)]; omega
   have hr64 : r < 64 := by omega
   have hq3 : q < 3 := by omega
   have hq3i : (q : Int) < 3 := by omega
   have hwq : wrap64 (q : Int) = (q : Int) := by unfold wrap64; omega
   have hqr : 64 * q + r = i := by omega
   obtain ⟨x, hx⟩ : ∃ x, x = ofN (l.take k) := ⟨_, rfl⟩
   have hA2 := HA.out.2.2.1
   rw [← hx] at hA2
   have hcx : wr.drew.cell? ⟨n + 1, q, none⟩ = some (.int .u64 (gw x q)) := by rw [blk_cell (w := wr.drew) hA2, rowA_at _ _ hq3]
   have hfx : wr.drew.frozen? ⟨n + 1, q, none⟩ = false := blk_frozen (w := wr.drew) hA2 q
   have hor := gw_put x q r hr64
   rw [hqr] at hor
   have hsh : IntKind.u64.wrap ((2 : Int) ^ r) = 2 ^ r := by
    rw [show (2 : Int) ^ r = ((2 ^ r : Nat) : Int) by simp]
    exact wrap_u64 (Nat.pow_lt_pow_right (by decide) hr64)
   obtain ⟨z, hz⟩ : ∃ z, z = gw (x ||| 2 ^ i) q := ⟨_, rfl⟩
   rw [← hz] at hor
   have HZ := jo hz
   have HX := jo (And.intro hA2 (And.intro hx htk))
   have HQ := jo (And.intro hqr (And.intro hr64 hq3))
   generalize gw x q = xi at hcx hor
   clear hz hA2 hx htk hqr hiz hq hr hi0 hi1
   go_wp2
   refine st_ (S := fun w' => w'.cell? ⟨n + 1, q, none⟩ = some (.int .u64 xi)) (ds := [9]) 10 (hcx) (fun hHeld => ?_)
   refine td_ [0, 1, 2, 4, 5, 6] ?_
   repeat (first | refine pp_ ?_ | refine po_ ?_)
   refine tn_ ?_
   refine td_ [3] ?_
   repeat (refine pt_ hHeld ?_)
   refine tn_ ?_
   refine td_ [7, 8] ?_
   repeat (first | refine pp_ ?_ | refine po_ ?_)
   refine tn_ ?_
   refine la_ 9 (fun K hK => ?_)
   refine skip_ (w1 := wr.drew.setCell ⟨n + 1, q, none⟩ (.int .u64 z)) (by rfl) rfl ?_ ?_
   ·go_simp
   refine hK.out _ _ ?_
   clear hK K
   refine dn_ ?_
   go_wp2
   go_roundg gq
   case measure => omega
   case rel =>
    have hne : n ≠ n + 1 := by omega
    refine ⟨k + 1, rfl, ⟨by have := HA.out.1; omega, (Below.heap_setCell _ ⟨n + 1, q, none⟩ _ _ hne).trans HA.out.2.1, ?_, (below_drew HA.out.2.2.2).setCell (by show n ≤ n + 1; omega) _⟩⟩
    rw [HX.out.2.2, ofN_snoc, ← HX.out.2.1, Int.toNat_natCast]
    have := rowA_put x q r HQ.out.2.1 HQ.out.2.2
    rw [HQ.out.1] at this
    rw [← this, ← HZ.out]
    exact blk_put (w := wr.drew) HX.out.1 q _ rfl
  ·have d1 : decide ((k : Int) < (l.length : Int)) = false := decide_eq_false (by omega)
   have d2 : decide (k < l.length) = false := decide_eq_false hlt
   have e1 : k = l.length := by have := HA.out.1; omega
   subst e1
   have HC := jo HA.out
   obtain ⟨_, h1, h2, h4⟩ := HA.out
   rw [List.take_length] at h2
   obtain ⟨x, hx⟩ : ∃ x, x = ofN l := ⟨_, rfl⟩
   rw [← hx] at h2
   have HX := jo hx
   have c0 : wr.cell? ⟨n + 1, 0, none⟩ = some (.int .u64 (gw x 0)) := blk_cell h2 0
   have c1 : wr.cell? ⟨n + 1, 1, none⟩ = some (.int .u64 (gw x 1)) := blk_cell h2 1
   have c2 : wr.cell? ⟨n + 1, 2, none⟩ = some (.int .u64 (gw x 2)) := blk_cell h2 2
   have e0 : wr.cell? ⟨n, 0, none⟩ = some (.int .u64 0) := blk_cell h1 0
   have e1 : wr.cell? ⟨n, 1, none⟩ = some (.int .u64 0) := blk_cell h1 1
   have e2 : wr.cell? ⟨n, 2, none⟩ = some (.int .u64 0) := blk_cell h1 2
   have ef := fun i => blk_frozen h1 i
   have H1 := jo h1
   clear h1 h2 h4 HA hx
   go_wp2
   refine bodyPost_ret (results_cell_row rfl _ _ n 72 (rowA x) (0, 0) _ rfl (blk_put (blk_put (blk_put H1.out 0 _ rfl) 1 _ rfl) 2 _ rfl) Tryz.underlying72 rfl jw) rfl ?_
   refine ⟨by rw [← HX.out]; rfl, ?_⟩
   rw [← HN.out]
   exact ((HC.out.2.2.2.setCell (Nat.le_refl _) _).setCell (Nat.le_refl _) _).setCell (Nat.le_refl _) _
def bitsTo (x k : Nat) : List Int := ((List.range k).filter fun i => x.testBit i).map fun (i : Nat) => (i : Int)
theorem bitsTo_succ (x k : Nat) : bitsTo x (k + 1) = bitsTo x k ++ (if x.testBit k then [(k : Int)] else []) := by
 unfold bitsTo
 rw [List.range_succ, List.filter_append, List.map_append]
 congr 1
 cases h : x.testBit k <;> simp [h]
theorem bitsTo_length (x k : Nat) : (bitsTo x k).length ≤ k := by
 unfold bitsTo
 rw [List.length_map]
 exact Nat.le_trans (List.length_filter_le _ _) (by simp)
theorem list_ok (x : Nat) (w : World) : Calls Tryz.prog 22 #[rowV x] w fun e w' => ∃ v : Value, e = .returned v ∧ Kd.R (Kd.int .i64) 3 w' w.heap.size (fun _ => True) v (bitsTo x 160) ∧ Below w.heap.size w w' := by
 unfold rowV
 go_enter Tryz.func22, Tryz.ntmps22
 go_wp2_with fail
 have kx : (w.alloc (.cells (rowA x) 72)).heap[w.heap.size]? = some (.cells (rowA x) 72 (0, 0)) := blk_new w _
 have hb0 : Below w.heap.size w (w.alloc (.cells (rowA x) 72)) := below_alloc (Below.refl _ _) _
 generalize w.alloc (.cells (rowA x) 72) = W1 at kx hb0 ⊢
 have H0 := jo (And.intro kx hb0)
 clear kx hb0
 go_loopg [3, 4, 5] 160 (fun gk v3 v4 v5 wr => ∃ k : Nat, v5 = .int .i64 k ∧ Aside0 (k + gk = 160 ∧ wr.heap[w.heap.size]? = some (.cells (rowA x) 72 (0, 0)) ∧ Below w.heap.size w wr ∧ Kd.R (Kd.int .i64) 3 wr w.heap.size (fun k => k ≠ w.heap.size) v3 (bitsTo x k)))
 case atStart => exact ⟨0, rfl, ⟨by omega, H0.out.1, H0.out.2, Kd.R_nil _ _ _ _ _⟩⟩
 case round =>
  obtain ⟨k, rfl, HA⟩ := hrel
  clear H0
  by_cases hlt : k < 160
  ·have d1 : decide ((k : Int) < 160) = true := decide_eq_true (by omega)
   have d2 : decide (k < 160) = true := decide_eq_true hlt
   obtain ⟨gq, rfl⟩ : ∃ q, gk = q + 1 := ⟨gk - 1, by have := HA.out.1; omega⟩
   have h1 := HA.out.2.1
   have c0 : wr.cell? ⟨w.heap.size, 0, none⟩ = some (.int .u64 (gw x 0)) := blk_cell h1 0
   have c1 : wr.cell? ⟨w.heap.size, 1, none⟩ = some (.int .u64 (gw x 1)) := blk_cell h1 1
   have c2 : wr.cell? ⟨w.heap.size, 2, none⟩ = some (.int .u64 (gw x 2)) := blk_cell h1 2
   have HC : Aside0 (∀ W, Calls Tryz.prog 53 #[.agg #[.int .u64 (gw x 0), .int .u64 (gw x 1), .int .u64 (gw x 2)], .int .i64 k] W fun e w' => e = .returned (.bool (x.testBit k)) ∧ Below W.heap.size W w') := ⟨fun W => has_ok (x := x) (i := k) (by omega) W⟩
   have HL := jo (bitsTo_length x k)
   have hs := bitsTo_succ x k
   clear h1
   cases hbt : x.testBit k
   ·rw [hbt] at HC hs
    have HS := jo hs
    clear hs
    go_wp2_with (go_at_call 53; (with_reducible refine (HC.out _).mono ?_); rintro e w2 ⟨rfl, hb2⟩)
    go_roundg gq
    case measure => omega
    case rel => exact ⟨k + 1, rfl, ⟨by have := HA.out.1; omega, blk_below HA.out.2.1 hb2, below_step HA.out.2.2.1 hb2, by rw [HS.out, if_neg (by decide), List.append_nil]; exact Kd.R_below HA.out.2.2.2 hb2⟩⟩
   ·rw [hbt] at HC hs
    have HS := jo hs
    clear hs
    obtain ⟨A3, c3, e3⟩ := Kd.R_slice HA.out.2.2.2
    subst e3
    go_wp2_with (first | (go_at_call 53; (with_reducible refine (HC.out _).mono ?_); rintro e w2 ⟨rfl, hb2⟩; have HB1 := jo (below_step HA.out.2.2.1 hb2); have HO1 := jo (Kd.R_below HA.out.2.2.2 hb2); have HK1 := jo (blk_below HA.out.2.1 hb2); clear hb2) | ((with_reducible refine gate_builtin (b := .append) (xs := #[.tmp 11, .tmp 13]) rfl ?_); at_builtin; refine Kd.R_append (Kd.int .i64) (w0 := w) w.heap.size rfl (.tmp 11) (.tmp 13) 44 3 (.int .i64 0) 8 rfl Tryz.underlying44 info3 rfl (by decide) (by omega) (.slice A3 (bitsTo x k).length c3) (bitsTo x k) (k : Int) [.int .i64 (k : Int)] (fun k => k ≠ w.heap.size) (fun _ => False) rfl rfl ?aP (fun _ hk => hk.elim) ?aF ?aO ?aB ?aS ?aL ?_; (case aP => exact rfl); (case aB => exact (by repeat (first | (with_reducible first | exact HB1.out | apply below_alloc) | exact HB1.out))); (case aF => exact (fun k hk e => by have := blk_lt HK1.out; omega)); (case aO => exact (jr HO1.out)); (case aS => exact (below_size (by repeat (first | (with_reducible first | exact HB1.out | apply below_alloc) | exact HB1.out)))); (case aL => have := HL.out; omega); intro v5 w5 ho hb hg hat; have HO2 := jo ho; have HB2 := jo hb; have HK2 := jo (blk_grown HK1.out hg (fun e => Kd.R_ne HO1.out HK1.out (by decide) e)); clear ho hb hg hat))
    go_roundg gq
    case measure => omega
    case rel => exact ⟨k + 1, rfl, ⟨by have := HA.out.1; omega, HK2.out, HB2.out, by rw [HS.out]; exact HO2.out⟩⟩
  ·have d1 : decide ((k : Int) < 160) = false := decide_eq_false (by omega)
   have d2 : decide (k < 160) = false := decide_eq_false hlt
   have e1 : k = 160 := by have := HA.out.1; omega
   subst e1
   have HC := jo HA.out.2
   clear HA
   go_wp2
   go_ret
   exact ⟨_, rfl, Kd.R_mono HC.out.2.2 (fun _ _ => trivial), HC.out.2.1⟩
end Go.Proofs.YtjmooillogojkaaGreat.Q
