/- gauss: the sum of two sides; what stands behind the closures of reduce; the library's Clone, IndexFunc, ContainsFunc, Delete at sides. No condition. -/
import Derived.Test.YtjmooillogojkaaGreatM15
set_option maxHeartbeats 8000000
set_option maxRecDepth 100000
set_option linter.unusedVariables false
set_option linter.unusedSimpArgs false
namespace Go.Proofs.YtjmooillogojkaaGreat.Q
open Go.RowKit Go.Proofs.YtjmooillogojkaaGreatW.PrintWords Go.Proofs.YtjmooillogojkaaGreatW.PrintLast Go.Proofs.YtjmooillogojkaaGreatW.PrintMore
open Go.Proofs.YtjmooillogojkaaGreat Lin
theorem alloc3 (w : World) (a b c : Obj) : (((w.alloc a).alloc b).alloc c).heap[w.heap.size]? = some a ∧ (((w.alloc a).alloc b).alloc c).heap[w.heap.size + 1]? = some b ∧ (((w.alloc a).alloc b).alloc c).heap[w.heap.size + 1 + 1]? = some c ∧ Below w.heap.size w (((w.alloc a).alloc b).alloc c) := by
 refine ⟨blk_alloc (blk_alloc (blk_new w _) _) _, ?_, ?_, below_alloc (below_alloc (below_alloc (Below.refl _ _) _) _) _⟩
 ·have := blk_new (w.alloc a) b
  rw [World.size_alloc] at this
  exact blk_alloc this _
 ·have := blk_new ((w.alloc a).alloc b) c
  rw [World.size_alloc, World.size_alloc] at this
  exact this
def xop (a b : ByteArray) : ByteArray := (block_XorR a b).1
theorem plus_ok (s t : Side) (hs : s.2.size < 1000000) (w : World) : Calls Tryz.prog 56 #[sideV s, sideV t] w fun e w' => e = .returned (sideV (plus xop s t)) ∧ Below w.heap.size w w' := by
 obtain ⟨x, a⟩ := s
 obtain ⟨y, b⟩ := t
 have HX := jo (fun W => xor_own a b hs W)
 have HA := jo (fun W => rowadd_ok x y W)
 unfold sideV at *
 unfold rowV rowA at HA
 simp only at *
 go_enter Tryz.func56, Tryz.ntmps56
 go_wp2_with fail
 have k1 := alloc3 w (.cells #[.int .u64 (gw x 0), .int .u64 (gw x 1), .int .u64 (gw x 2), .string a] 74) (.cells #[.int .u64 (gw y 0), .int .u64 (gw y 1), .int .u64 (gw y 2), .string b] 74) (.cells #[.int .u64 0, .int .u64 0, .int .u64 0, .string ⟨#[]⟩] 74)
 generalize ((w.alloc (.cells #[.int .u64 (gw x 0), .int .u64 (gw x 1), .int .u64 (gw x 2), .string a] 74)).alloc (.cells #[.int .u64 (gw y 0), .int .u64 (gw y 1), .int .u64 (gw y 2), .string b] 74)).alloc (.cells #[.int .u64 0, .int .u64 0, .int .u64 0, .string ⟨#[]⟩] 74) = W1 at k1 ⊢
 (with_reducible refine (HX.out _).mono ?_)
 rintro e w2 ⟨rfl, hb2⟩
 obtain ⟨kx, ky, kz, kb⟩ := k1
 have c0 : w2.cell? ⟨w.heap.size, 0, none⟩ = some (.int .u64 (gw x 0)) := blk_cell (blk_below kx hb2) 0
 have c1 : w2.cell? ⟨w.heap.size, 1, none⟩ = some (.int .u64 (gw x 1)) := blk_cell (blk_below kx hb2) 1
 have c2 : w2.cell? ⟨w.heap.size, 2, none⟩ = some (.int .u64 (gw x 2)) := blk_cell (blk_below kx hb2) 2
 have d0 : w2.cell? ⟨w.heap.size + 1, 0, none⟩ = some (.int .u64 (gw y 0)) := blk_cell (blk_below ky hb2) 0
 have d1 : w2.cell? ⟨w.heap.size + 1, 1, none⟩ = some (.int .u64 (gw y 1)) := blk_cell (blk_below ky hb2) 1
 have d2 : w2.cell? ⟨w.heap.size + 1, 2, none⟩ = some (.int .u64 (gw y 2)) := blk_cell (blk_below ky hb2) 2
 have kz2 := blk_below kz hb2
 have HB2 := jo (below_step kb hb2)
 have KZ := jo kz2
 clear kx ky kz kb hb2 kz2
 go_wp2_with (go_at_call 94; (with_reducible refine (HA.out _).mono ?_); rintro e w3 ⟨rfl, hb3⟩; have kz3 := blk_below KZ.out hb3; have ef := (fun i => blk_frozen kz3 i); have e0 : w3.cell? ⟨w.heap.size + 1 + 1, 0, none⟩ = some (.int .u64 0) := blk_cell kz3 0; have e1 : w3.cell? ⟨w.heap.size + 1 + 1, 1, none⟩ = some (.int .u64 0) := blk_cell kz3 1; have e2 : w3.cell? ⟨w.heap.size + 1 + 1, 2, none⟩ = some (.int .u64 0) := blk_cell kz3 2; have e3 : w3.cell? ⟨w.heap.size + 1 + 1, 3, none⟩ = some (.string ⟨#[]⟩) := blk_cell kz3 3; have K3 := jo (And.intro kz3 (below_step HB2.out hb3)); clear kz3 hb3)
 refine bodyPost_ret (results_cell_row rfl _ _ (w.heap.size + 1 + 1) 74 #[.int .u64 (gw (x ^^^ y) 0), .int .u64 (gw (x ^^^ y) 1), .int .u64 (gw (x ^^^ y) 2), .string (block_XorR a b).1] (0, 0) _ rfl (blk_put (blk_put (blk_put (blk_put K3.out.1 0 _ rfl) 1 _ rfl) 2 _ rfl) 3 _ rfl) Tryz.underlying74 rfl jw) rfl ?_
 exact ⟨rfl, below_set (below_set (below_set (below_set K3.out.2 (by show w.heap.size ≤ w.heap.size + 1 + 1; omega)) (by show w.heap.size ≤ w.heap.size + 1 + 1; omega)) (by show w.heap.size ≤ w.heap.size + 1 + 1; omega)) (by show w.heap.size ≤ w.heap.size + 1 + 1; omega)⟩
theorem pred52 {B i : Nat} (s : Side) (hi : i < 192) {w : World} (hc : w.cell? ⟨B, 0, none⟩ = some (.int .i64 i)) (hB : B < w.heap.size) : Calls Tryz.prog 52 #[sideV s, .pointer (some ⟨B, 0, none⟩)] w fun e w' => e = .returned (.bool (s.1.testBit i)) ∧ Below w.heap.size w w' := by
 obtain ⟨x, a⟩ := s
 have HH : Aside0 (∀ W, Calls Tryz.prog 53 #[.agg #[.int .u64 (gw x 0), .int .u64 (gw x 1), .int .u64 (gw x 2)], .int .i64 i] W fun e w' => e = .returned (.bool (x.testBit i)) ∧ Below W.heap.size W w') := ⟨fun W => has_ok hi W⟩
 unfold sideV
 simp only at *
 go_enter Tryz.func52, Tryz.ntmps52
 go_wp2_with fail
 have hk : (w.alloc (.cells #[.int .u64 (gw x 0), .int .u64 (gw x 1), .int .u64 (gw x 2), .string a] 74)).heap.size ≥ w.heap.size := by rw [World.size_alloc]; omega
 (with_reducible refine (HH.out _).mono ?_)
 rintro e w2 ⟨rfl, hb2⟩
 have HB := jo (below_step (below_alloc (Below.refl _ _) _) hb2)
 clear hb2
 go_wp2
 go_ret
 exact ⟨rfl, HB.out⟩
theorem sclone_ok {g cap : Nat} {l : List Side} {w : World} (h : SR w g cap l) (hl : 0 < l.length) (hm : l.length ≤ 100000) :
  Calls Tryz.prog 50 #[.slice (some ⟨g, 0, none⟩) l.length cap] w fun e w' => ∃ g' cap', e = .returned (.slice (some ⟨g', 0, none⟩) l.length cap') ∧ SR w' g' cap' l ∧ w.heap.size ≤ g' ∧ Below w.heap.size w w' := by
 have H := jo h
 obtain ⟨i74, hi, hzz⟩ := Option.map_eq_some_iff.1 info74
 simp only [Prod.mk.injEq] at hzz
 obtain ⟨hz0, hz1, hz2⟩ := hzz
 have HI := jo (And.intro hi (And.intro hz0 (And.intro hz1 hz2)))
 clear h hi hz0 hz1 hz2
 have hq : ∀ (W : World) (a : Option Addr) (n c n' c' : Nat), (binOp .eql 64 (.slice a n c) (.slice none n' c')).run Tryz.prog W = .ok (.bool a.isNone) W := fun W a n c n' c' => Lib.run_eql_slice_nil W _ _ a n c n' c' Tryz.underlying64
 go_enter Tryz.func50, Tryz.ntmps50
 go_wp2_with (at_builtin; refine wpList_append_own_at _ rfl _ _ 64 rfl w.heap.size 74 i74 _ 4 40 Tryz.underlying64 HI.out.1 HI.out.2.1 HI.out.2.2.1 HI.out.2.2.2 rfl (by decide) (.slice (some ⟨w.heap.size, 0, none⟩) 0 0) 0 [] rfl (World.ownsRow_made w #[] 0 (Nat.le_refl _) (Nat.zero_le _) rfl) ⟨g, 0, none⟩ l.length cap (cellsL l) rfl (cellsL_length l) ?q1 (cellsL_one l) ?q2 ?q3 ?q4 ?_)
 case q1 =>
  intro j u hu
  have := (H.out.below (below_alloc (Below.refl _ _) (.cells #[] 74))).row 0 j u hu
  rw [Nat.zero_mul, Nat.zero_add] at this
  unfold Addr.add
  split
  ·rename_i e
   rw [e] at this
   exact this
  ·rw [Nat.zero_add]
   exact this
 case q2 => simp only [maxLen]; omega
 case q3 => omega
 case q4 => rw [World.size_alloc]; omega
 intro v w1 ho hg _ hat
 obtain ⟨g', cap', rfl, hb', hs⟩ := SR.of ho hl
 have HS := jo (And.intro hs (And.intro hb' ((below_alloc (Below.refl w.heap.size w) (.cells #[] 74)).grown hg (by rw [World.size_alloc]; omega) (fun k hk => by injection hk with hk; exact Nat.le_of_eq hk))))
 clear ho hg hat hs hb'
 go_wp2
 go_ret
 exact ⟨g', cap', rfl, HS.out.1, HS.out.2.1, HS.out.2.2⟩
def PredSide (g : Nat) (lb : Array Value) (p : Side → Bool) (l : List Side) (w : World) : Prop :=
 ∀ (W : World) (i : Nat) (h : i < l.length), Below w.heap.size w W → Calls Tryz.prog g (#[sideV l[i]] ++ lb) W fun e w' => e = .returned (.bool (p l[i])) ∧ Below w.heap.size w w'
theorem idx_side {G cap g : Nat} {lb : Array Value} (eg : Enters Tryz.prog g) {p : Side → Bool} {l : List Side} {w : World} (hr : SR w G cap l) (hm : l.length ≤ 100000) (hp : PredSide g lb p l w) :
  Calls Tryz.prog 51 #[.slice (some ⟨G, 0, none⟩) l.length cap, .func (.func g) #[] lb] w fun e w' => e = .returned (.int .i64 (idxF p l)) ∧ Below w.heap.size w w' := by
 replace eg : ∀ args w, (callFunc g args).run Tryz.prog w = .ok (.enter g args) w := fun a w => eg a w
 have HR := jo hr
 have HP := jo hp
 clear hr hp
 go_enter Tryz.func51, Tryz.ntmps51
 go_wp2
 go_loopg [5, 8] l.length (fun gk v5 v8 wr => ∃ kk : Nat, v8 = .int .i64 kk ∧ Aside0 (kk + gk = l.length ∧ Below w.heap.size w wr ∧ ∀ j (hj : j < kk) (hl : j < l.length), p l[j] = false))
 case atStart => exact ⟨0, rfl, ⟨by omega, Below.refl _ _, fun j hj => absurd hj (Nat.not_lt_zero _)⟩⟩
 case round =>
  obtain ⟨kk, rfl, HA⟩ := hrel
  by_cases hlt : kk < l.length
  ·have d1 : decide ((kk : Int) < (l.length : Int)) = true := decide_eq_true (by omega)
   have d2 : decide (kk < l.length) = true := decide_eq_true hlt
   obtain ⟨gq, rfl⟩ : ∃ q, gk = q + 1 := ⟨gk - 1, by have := HA.out.1; omega⟩
   have hcr := (HR.out.below HA.out.2.1).cells hlt
   have hcall := HP.out wr kk hlt HA.out.2.1
   obtain ⟨y, hy⟩ : ∃ y, y = l[kk] := ⟨_, rfl⟩
   rw [← hy] at hcr hcall
   have HY := jo hy
   clear hy
   have c0 : wr.cell? ⟨G, kk * 4, none⟩ = some (.int .u64 (gw y.1 0)) := hcr 0 (by decide)
   have c1 : wr.cell? ⟨G, kk * 4 + 1, none⟩ = some (.int .u64 (gw y.1 1)) := hcr 1 (by decide)
   have c2 : wr.cell? ⟨G, kk * 4 + 2, none⟩ = some (.int .u64 (gw y.1 2)) := hcr 2 (by decide)
   have c3 : wr.cell? ⟨G, kk * 4 + 3, none⟩ = some (.string y.2) := hcr 3 (by decide)
   clear hcr
   unfold sideV at hcall
   cases hq : p y with
   | true =>
    rw [hq] at hcall
    have HQ := jo hq
    clear hq
    go_wp2_with (go_at_fn g; refine hcall.mono ?_; rintro e w' ⟨rfl, hb'⟩)
    go_ret
    exact ⟨by rw [idxF_hit p l kk hlt (HY.out ▸ HQ.out) (fun j hj => HA.out.2.2 j hj (by omega))]; rfl, hb'⟩
   | false =>
    rw [hq] at hcall
    have HQ := jo hq
    clear hq
    go_wp2_with (go_at_fn g; refine hcall.mono ?_; rintro e w' ⟨rfl, hb'⟩)
    go_roundg gq
    case measure => omega
    case rel => exact ⟨kk + 1, rfl, ⟨by have := HA.out.1; omega, hb', fun j hj hl => by
     by_cases e : j = kk
     ·subst e
      exact HY.out ▸ HQ.out
     ·exact HA.out.2.2 j (by omega) hl⟩⟩
  ·have d1 : decide ((kk : Int) < (l.length : Int)) = false := decide_eq_false (by omega)
   have d2 : decide (kk < l.length) = false := decide_eq_false hlt
   go_wp2
   go_ret
   exact ⟨by rw [idxF_miss p l (fun j hj => HA.out.2.2 j (by omega) hj)]; rfl, HA.out.2.1⟩
theorem con_side {G cap g : Nat} {lb : Array Value} (eg : Enters Tryz.prog g) {p : Side → Bool} {l : List Side} {w : World} (hr : SR w G cap l) (hm : l.length ≤ 100000) (hp : PredSide g lb p l w) :
  Calls Tryz.prog 19 #[.slice (some ⟨G, 0, none⟩) l.length cap, .func (.func g) #[] lb] w fun e w' => e = .returned (.bool (l.any p)) ∧ Below w.heap.size w w' := by
 rw [← idxF_any p l]
 have HI := jo (idx_side eg hr hm hp)
 clear hr hp
 go_enter Tryz.func19, Tryz.ntmps19
 go_wp2_with (go_at_call 51; refine HI.out.mono ?_; rintro e w' ⟨rfl, hb'⟩)
 go_ret
 exact ⟨rfl, hb'⟩
theorem con_none {g : Nat} {lb : Array Value} (w : World) : Calls Tryz.prog 19 #[.slice none 0 0, .func (.func g) #[] lb] w fun e w' => e = .returned (.bool false) ∧ Below w.heap.size w w' := by
 have HI : Aside0 (∀ W : World, Calls Tryz.prog 51 #[.slice none 0 0, .func (.func g) #[] lb] W fun e w' => e = .returned (.int .i64 (-1)) ∧ Below W.heap.size W w') := ⟨fun W => by
  go_enter Tryz.func51, Tryz.ntmps51
  go_wp2
  go_loopg [5, 8] 0 (fun gk v5 v8 wr => v8 = .int .i64 0 ∧ wr = W)
  case atStart => exact ⟨rfl, rfl⟩
  case round =>
   obtain ⟨rfl, rfl⟩ := hrel
   go_wp2
   go_ret
   exact ⟨rfl, Below.refl _ _⟩⟩
 go_enter Tryz.func19, Tryz.ntmps19
 go_wp2_with (go_at_call 51; refine (HI.out _).mono ?_; rintro e w' ⟨rfl, hb'⟩)
 go_ret
 exact ⟨rfl, hb'⟩
theorem clear_one (W : World) (g o c : Nat) (hc : ∀ j, j < 4 → (W.cell? ⟨g, o + j, none⟩).isSome = true) (hf : ∀ j, W.frozen? ⟨g, j, none⟩ = false) (ty : TypeId) :
  (Builtin.clear_ #[64] ty #[.slice (some ⟨g, o, none⟩) 1 c]).run Tryz.prog W = .ok (.tuple #[]) (W.setCells g o [.int .u64 0, .int .u64 0, .int .u64 0, .string ⟨#[]⟩]) := by
 have hst := run_storeCells_cells (P := Tryz.prog) g o [.int .u64 0, .int .u64 0, .int .u64 0, .string ⟨#[]⟩] 0 W (by simpa using hc) (by intro j _; exact hf _) (by intro v hv; simp only [List.mem_cons, List.not_mem_nil, or_false] at hv; rcases hv with rfl | rfl | rfl | rfl <;> rfl)
 simp only [Nat.add_zero] at hst
 have hzc : (Builtin.zeroCells (Value.agg #[.int .u64 0, .int .u64 0, .int .u64 0, .string ⟨#[]⟩]).cells 1).toList = [.int .u64 0, .int .u64 0, .int .u64 0, .string ⟨#[]⟩] := by first | rfl | (simp [Builtin.zeroCells, Value.cells]; done) | (simp [Builtin.zeroCells, Value.cells, List.range_succ]; done) | (unfold Builtin.zeroCells Value.cells; with_unfolding_all rfl)
 simp only [Builtin.clear_]
 simp [run_underlying Tryz.underlying64, Tryz.zeroValue74, hzc, hst]
theorem sdelete_ok {g cap k : Nat} {l : List Side} {w : World} (h : SR w g cap l) (hk : k < l.length) (hm : l.length ≤ 100000) :
  Calls Tryz.prog 54 #[.slice (some ⟨g, 0, none⟩) l.length cap, .int .i64 k, .int .i64 (k + 1 : Nat)] w fun e w' => e = .returned (.slice (some ⟨g, 0, none⟩) (l.eraseIdx k).length cap) ∧ SR w' g cap (l.eraseIdx k) ∧ w.grownBy w' (some g) := by
 obtain ⟨i74, hi, hzz⟩ := Option.map_eq_some_iff.1 info74
 simp only [Prod.mk.injEq] at hzz
 obtain ⟨hz0, hz1, hz2⟩ := hzz
 have hfit := h.fit
 have hdel := h.del hk [.int .u64 0, .int .u64 0, .int .u64 0, .string ⟨#[]⟩] rfl
 have hlen : (l.eraseIdx k).length = l.length - 1 := by rw [List.length_eraseIdx]; simp [hk]
 obtain ⟨A, hA, hsrc⟩ : ∃ A : Addr, (if cap = k + 1 then some (⟨g, 0, none⟩ : Addr) else some ⟨g, (k + 1) * 4, none⟩) = some A ∧ Hid (∀ t u, (cellsL (l.drop (k + 1)))[t]? = some u → w.drew.cell? (A.add t) = some u) := by
  by_cases hc : cap = k + 1
  ·refine ⟨⟨g, 0, none⟩, by simp [hc], fun t u hu => ?_⟩
   rw [List.drop_eq_nil_of_le (by omega)] at hu
   simp [cellsL] at hu
  ·refine ⟨⟨g, (k + 1) * 4, none⟩, by simp [hc], fun t u hu => ?_⟩
   rw [Addr.add_lit]
   exact h.row (k + 1) t u hu
 obtain ⟨W1, hW1⟩ : ∃ W1, W1 = w.drew.setCells g (0 + k * 4) (cellsL (l.drop (k + 1))) := ⟨_, rfl⟩
 have hW : Hid (W1 = w.drew.setCells g (0 + k * 4) (cellsL (l.drop (k + 1)))) := hW1
 have s0 : (cellsL (l.drop (k + 1))).length = (l.length - (k + 1)) * 4 := by rw [cellsL_length, List.length_drop]
 have s1 : Hid ((cellsL (l.drop (k + 1))).length = (l.length - (k + 1)) * 4) := s0
 have s2 : Hid (∀ u ∈ cellsL (l.drop (k + 1)), u.oneCell' = true) := cellsL_one _
 have hsome : ∀ t, t < l.length * 4 → (w.cell? ⟨g, t, none⟩).isSome = true := by
  intro t ht
  have ht' : t < (cellsL (l.drop 0)).length := by rw [cellsL_length]; simpa using ht
  have hd : (cellsL (l.drop 0))[t]? = some (cellsL (l.drop 0))[t] := List.getElem?_eq_getElem ht'
  have := h.row 0 t _ hd
  rw [Nat.zero_mul, Nat.zero_add] at this
  rw [this]
  rfl
 have s3 : Hid (∀ t, t < (cellsL (l.drop (k + 1))).length → (w.drew.cell? ⟨g, 0 + k * 4 + t, none⟩).isSome = true ∧ w.drew.frozen? ⟨g, 0 + k * 4 + t, none⟩ = false) := by
  intro t ht
  rw [s0] at ht
  exact ⟨hsome _ (by omega), h.soft _⟩
 have hcl : ∀ ty, (Builtin.clear_ #[64] ty #[.slice (some ⟨g, (k + (l.length - (k + 1))) * 4, none⟩) (l.length - (k + (l.length - (k + 1)))) (cap - (k + (l.length - (k + 1))))]).run Tryz.prog W1 = .ok (.tuple #[]) (W1.setCells g ((l.length - 1) * 4) [.int .u64 0, .int .u64 0, .int .u64 0, .string ⟨#[]⟩]) := by
  intro ty
  rw [show k + (l.length - (k + 1)) = l.length - 1 by omega, show l.length - (l.length - 1) = 1 by omega]
  obtain ⟨cur, hh, h1, h2⟩ := h.cur
  have hb := blk_setCells (cellsL (l.drop (k + 1))) (0 + k * 4) w.drew cur hh
  rw [← hW1] at hb
  refine clear_one W1 g _ _ (fun j hj => ?_) (fun j => blk_frozen hb j) ty
  rw [blk_cell hb, Array.getElem?_eq_getElem (by rw [putC_size, h1]; omega)]
  rfl
 have H := jo (And.intro h (And.intro hdel (And.intro hlen (And.intro hz1 hi))))
 have hlc : l.length - 1 ≤ cap := by omega
 have hc1 : k ≤ cap := by omega
 have hc2 : k + 1 ≤ cap := by omega
 have hc3 : k + 1 ≤ l.length := hk
 have hi1 : (0 : Int) ≤ (k : Int) + 1 := by omega
 have hi2 : (k : Int) + 1 ≤ (l.length : Int) := by omega
 have mixed : Tryz.prog.follows Departure.mixedOrders = true := by kernel_rfl
 clear h hdel hlen hW1 s0 hsome
 go_enter Tryz.func54, Tryz.ntmps54
 go_wp2_with fail
 go_region_law_o (refine step_append_room rfl (.tmp 22) (.tmp 25) 64 rfl 74 i74 4 Tryz.underlying64 H.out.2.2.2.2 H.out.2.2.2.1 g 0 k cap (by simp [Act.eval, Act.put]) A (l.length - (k + 1)) (cap - (k + 1)) (cellsL (l.drop (k + 1))) (by simp [Act.eval, Act.put]) s1.out hsrc.out s2.out (by omega) s3.out ?_; rw [← hW.out])
 go_wp2
 go_ret
 have hdw := (show SR w.drew g cap l from H.out.1.move rfl).del hk [.int .u64 0, .int .u64 0, .int .u64 0, .string ⟨#[]⟩] rfl
 rw [hW.out, Nat.zero_add]
 refine ⟨by rw [H.out.2.2.1, show k + (l.length - (k + 1)) = l.length - 1 by omega]; rfl, hdw, ?_⟩
 have o1 := out_setCells (g := g) (cellsL (l.drop (k + 1))) (k * 4) w.drew
 have o2 := out_setCells (g := g) [.int .u64 0, .int .u64 0, .int .u64 0, .string ⟨#[]⟩] ((l.length - 1) * 4) (w.drew.setCells g (k * 4) (cellsL (l.drop (k + 1))))
 refine ⟨o2.1.trans o1.1, o2.2.1.trans o1.2.1, o2.2.2.trans o1.2.2, ?_, fun j hj hne => ?_⟩
 ·rw [size_setCells', size_setCells']
  exact Nat.le_refl _
 ·have hjg : j ≠ g := fun e => hne (by rw [e])
  rw [heap_setCells hjg, heap_setCells hjg]
  rfl
theorem grownBy_below {w w1 w2 : World} {row : Option Nat} (h : w.grownBy w1 row) (hb : Below w1.heap.size w1 w2) : w.grownBy w2 row :=
 ⟨hb.os.trans h.os, hb.tape.trans h.tape, hb.output.trans h.output, Nat.le_trans h.size hb.size, fun k hk hne => (hb.block k (Nat.lt_of_lt_of_le hk h.size)).trans (h.block k hk hne)⟩
theorem grownBy_set {w w1 : World} {g : Nat} (h : w.grownBy w1 (some g)) (o : Nat) (vs : List Value) : w.grownBy (w1.setCells g o vs) (some g) := by
 have o1 := out_setCells (g := g) vs o w1
 refine ⟨o1.1.trans h.os, o1.2.1.trans h.tape, o1.2.2.trans h.output, by rw [size_setCells']; exact h.size, fun k hk hne => ?_⟩
 rw [heap_setCells (fun e => hne (by rw [e]))]
 exact h.block k hk hne
theorem clr_take {i k : Nat} {p : Side} {l : List Side} (hk : k < l.length) (f : Side → Side) (hf : ∀ s, f s = if s.1.testBit i then plus xop s p else s) :
  (clr xop i p (l.take k) ++ l.drop k).set k (f l[k]) = clr xop i p (l.take (k + 1)) ++ l.drop (k + 1) := by
 have hl : (clr xop i p (l.take k)).length = k := by simp [clr]; omega
 rw [List.set_append_right _ _ (by omega), hl, Nat.sub_self, List.drop_eq_getElem_cons hk, List.set_cons_zero, List.take_succ_eq_append_getElem hk]
 unfold clr
 rw [List.map_append, List.append_assoc]
 congr 1
 simp [hf]
theorem sclear_ok {g cap i Bi Bp : Nat} {p : Side} {l : List Side} {w : World} (h : SR w g cap l) (hm : l.length ≤ 100000) (hi : i < 192) (hl : ∀ s ∈ l, s.2.size < 1000000)
  (hBi : w.heap[Bi]? = some (.cells #[.int .i64 i] 3 (0, 0))) (hBp : w.heap[Bp]? = some (.cells #[.int .u64 (gw p.1 0), .int .u64 (gw p.1 1), .int .u64 (gw p.1 2), .string p.2] 74 (0, 0))) (n1 : Bi ≠ g) (n2 : Bp ≠ g) :
  Calls Tryz.prog 55 #[.slice (some ⟨g, 0, none⟩) l.length cap, .pointer (some ⟨Bi, 0, none⟩), .pointer (some ⟨Bp, 0, none⟩)] w fun e w' => e = .returned (.tuple #[]) ∧ SR w' g cap (clr xop i p l) ∧ w.grownBy w' (some g) := by
 have H := jo h
 have HB := jo (And.intro hBi (And.intro hBp (And.intro n1 n2)))
 have HL := jo hl
 clear h hBi hBp n1 n2 hl
 go_enter Tryz.func55, Tryz.ntmps55
 go_wp2
 go_loopg [4, 7] l.length (fun gk v4 v7 wr => ∃ k : Nat, v7 = .int .i64 k ∧ Aside0 (k + gk = l.length ∧ SR wr g cap (clr xop i p (l.take k) ++ l.drop k) ∧ w.grownBy wr (some g)))
 case atStart => exact ⟨0, rfl, ⟨by omega, by simpa [clr] using H.out, World.grownBy.refl _ _⟩⟩
 case round =>
  obtain ⟨k, rfl, HA⟩ := hrel
  have hcl : (clr xop i p (l.take k) ++ l.drop k).length = l.length := by simp [clr]; have := HA.out.1; omega
  by_cases hlt : k < l.length
  ·have d1 : decide ((k : Int) < (l.length : Int)) = true := decide_eq_true (by omega)
   have d2 : decide (k < l.length) = true := decide_eq_true hlt
   have d3 : (k : Int) < (l.length : Int) := by omega
   obtain ⟨gq, rfl⟩ : ∃ q, gk = q + 1 := ⟨gk - 1, by have := HA.out.1; omega⟩
   have hat : ∀ h, (clr xop i p (l.take k) ++ l.drop k)[k]'h = l[k] := by
    intro h
    rw [List.getElem_append_right (by simp [clr]; omega)]
    simp [clr]
    congr 1
    omega
   have hcr := (show SR wr.drew g cap _ from HA.out.2.1.move rfl).cells (i := k) (by omega)
   rw [hat] at hcr
   have hys := HL.out l[k] (List.getElem_mem hlt)
   have hct := clr_take (i := i) (p := p) hlt (fun s => if s.1.testBit i then plus xop s p else s) (fun _ => rfl)
   have hself : (clr xop i p (l.take k) ++ l.drop k).set k l[k] = clr xop i p (l.take k) ++ l.drop k := by
    rw [← hat (by omega)]
    exact List.set_getElem_self _
   obtain ⟨y, hy⟩ : ∃ y, y = l[k] := ⟨_, rfl⟩
   rw [← hy] at hcr hys hct hself
   have HSE := jo hself
   have hbi := HA.out.2.2.block Bi (blk_lt HB.out.1) (fun e => HB.out.2.2.1 (by injection e))
   have hbp := HA.out.2.2.block Bp (blk_lt HB.out.2.1) (fun e => HB.out.2.2.2 (by injection e))
   rw [HB.out.1] at hbi
   rw [HB.out.2.1] at hbp
   have c0 : wr.drew.cell? ⟨g, k * 4, none⟩ = some (.int .u64 (gw y.1 0)) := hcr 0 (by decide)
   have c1 : wr.drew.cell? ⟨g, k * 4 + 1, none⟩ = some (.int .u64 (gw y.1 1)) := hcr 1 (by decide)
   have c2 : wr.drew.cell? ⟨g, k * 4 + 2, none⟩ = some (.int .u64 (gw y.1 2)) := hcr 2 (by decide)
   have c3 : wr.drew.cell? ⟨g, k * 4 + 3, none⟩ = some (.string y.2) := hcr 3 (by decide)
   have ci : wr.drew.cell? ⟨Bi, 0, none⟩ = some (.int .i64 i) := blk_cell (w := wr.drew) hbi 0
   have hH : ∀ W : World, Calls Tryz.prog 53 #[.agg #[.int .u64 (gw y.1 0), .int .u64 (gw y.1 1), .int .u64 (gw y.1 2)], .int .i64 i] W fun e w' => e = .returned (.bool (y.1.testBit i)) ∧ Below W.heap.size W w' := fun W => has_ok (x := y.1) hi W
   obtain ⟨bt, hbt⟩ : ∃ bt, bt = y.1.testBit i := ⟨_, rfl⟩
   rw [← hbt] at hH hct
   have HH := jo hH
   have HP := jo (fun W => plus_ok y p hys W)
   have HY := jo (And.intro hy hct)
   have HBB := jo (And.intro hbi hbp)
   clear hcr hy hct hbi hbp hat hH hbt hself
   cases bt with
   | false =>
    go_wp2
    refine st_ (S := fun w' => w'.cell? ⟨g, k * 4, none⟩ = some (.int .u64 (gw y.1 0)) ∧ w'.cell? ⟨g, k * 4 + 1, none⟩ = some (.int .u64 (gw y.1 1)) ∧ w'.cell? ⟨g, k * 4 + 2, none⟩ = some (.int .u64 (gw y.1 2)) ∧ w'.cell? ⟨Bi, 0, none⟩ = some (.int .i64 i)) (ds := []) 7 ⟨c0, c1, c2, ci⟩ (fun hHeld => ?_)
    refine td_ [0, 1, 2, 3] ?_
    repeat (first | refine pp_ ?_ | refine po_ ?_)
    refine tn_ ?_
    refine td_ [4, 5] ?_
    repeat (refine pt_ hHeld ?_)
    refine tn_ ?_
    refine on_ 6 (fun K hK => ?_)
    refine gs_ Tryz.func53 #[.agg #[.int .u64 (gw y.1 0), .int .u64 (gw y.1 1), .int .u64 (gw y.1 2)], .int .i64 i] ?_
    with_reducible refine ((HH.out _)).mono ?_
    rintro e w4 ⟨rfl, hb4⟩
    refine ⟨_, rfl, ?_⟩
    have HB4 := jo hb4
    have z0 := pw_cell_below hb4 hHeld.1
    have z1 := pw_cell_below hb4 hHeld.2.1
    have z2 := pw_cell_below hb4 hHeld.2.2.1
    have z3 := pw_cell_below hb4 hHeld.2.2.2
    clear hb4
    refine hK.out _ _ ⟨z0, z1, z2, z3⟩ (fun hHeld => ?_)
    clear hK K
    refine nm_ (some 16) ?_
    refine dn_ ?_
    have hb5 := below_step (below_drew (Below.refl wr.heap.size wr)) HB4.out
    have HB5 := jo hb5
    clear hb5 z0 z1 z2 z3
    go_wp2
    go_roundg gq
    case measure => omega
    case rel => exact ⟨k + 1, rfl, ⟨by have := HA.out.1; omega, by
     have := HY.out.2
     rw [if_neg (by decide), HSE.out] at this
     rw [← this]
     exact HA.out.2.1.below HB5.out, grownBy_below HA.out.2.2 HB5.out⟩⟩
   | true =>
    unfold sideV at HP
    go_wp2
    refine st_ (S := fun w' => w'.cell? ⟨g, k * 4, none⟩ = some (.int .u64 (gw y.1 0)) ∧ w'.cell? ⟨g, k * 4 + 1, none⟩ = some (.int .u64 (gw y.1 1)) ∧ w'.cell? ⟨g, k * 4 + 2, none⟩ = some (.int .u64 (gw y.1 2)) ∧ w'.cell? ⟨Bi, 0, none⟩ = some (.int .i64 i)) (ds := []) 7 ⟨c0, c1, c2, ci⟩ (fun hHeld => ?_)
    refine td_ [0, 1, 2, 3] ?_
    repeat (first | refine pp_ ?_ | refine po_ ?_)
    refine tn_ ?_
    refine td_ [4, 5] ?_
    repeat (refine pt_ hHeld ?_)
    refine tn_ ?_
    refine on_ 6 (fun K hK => ?_)
    refine gs_ Tryz.func53 #[.agg #[.int .u64 (gw y.1 0), .int .u64 (gw y.1 1), .int .u64 (gw y.1 2)], .int .i64 i] ?_
    with_reducible refine ((HH.out _)).mono ?_
    rintro e w4 ⟨rfl, hb4⟩
    refine ⟨_, rfl, ?_⟩
    have HB4 := jo hb4
    have z0 := pw_cell_below hb4 hHeld.1
    have z1 := pw_cell_below hb4 hHeld.2.1
    have z2 := pw_cell_below hb4 hHeld.2.2.1
    have z3 := pw_cell_below hb4 hHeld.2.2.2
    clear hb4
    refine hK.out _ _ ⟨z0, z1, z2, z3⟩ (fun hHeld => ?_)
    clear hK K
    refine nm_ (some 16) ?_
    refine dn_ ?_
    have hb5 := below_step (below_drew (Below.refl wr.heap.size wr)) HB4.out
    have HB5 := jo hb5
    have hs5 := HA.out.2.1.below hb5
    have hf : ∀ j, w4.drew.frozen? ⟨g, j, none⟩ = false := fun j => hs5.soft j
    have hbp5 := blk_below HBB.out.2 hb5
    have HS5 := jo hs5
    have p0 : w4.drew.cell? ⟨Bp, 0, none⟩ = some (.int .u64 (gw p.1 0)) := blk_cell (w := w4.drew) hbp5 0
    have p1 : w4.drew.cell? ⟨Bp, 1, none⟩ = some (.int .u64 (gw p.1 1)) := blk_cell (w := w4.drew) hbp5 1
    have p2 : w4.drew.cell? ⟨Bp, 2, none⟩ = some (.int .u64 (gw p.1 2)) := blk_cell (w := w4.drew) hbp5 2
    have p3 : w4.drew.cell? ⟨Bp, 3, none⟩ = some (.string p.2) := blk_cell (w := w4.drew) hbp5 3
    have hc3 : w4.drew.cell? ⟨g, k * 4 + 3, none⟩ = some (.string y.2) := pw_cell_below (below_drew HB4.out) c3
    have hc0 : w4.drew.cell? ⟨g, k * 4, none⟩ = some (.int .u64 (gw y.1 0)) := z0
    have hc1 : w4.drew.cell? ⟨g, k * 4 + 1, none⟩ = some (.int .u64 (gw y.1 1)) := z1
    have hc2 : w4.drew.cell? ⟨g, k * 4 + 2, none⟩ = some (.int .u64 (gw y.1 2)) := z2
    clear hb5 hs5 hbp5 c0 c1 c2 c3 ci z0 z1 z2 z3
    go_wp2
    refine st_ (S := fun w' => w'.cell? ⟨g, k * 4, none⟩ = some (.int .u64 (gw y.1 0)) ∧ w'.cell? ⟨g, k * 4 + 1, none⟩ = some (.int .u64 (gw y.1 1)) ∧ w'.cell? ⟨g, k * 4 + 2, none⟩ = some (.int .u64 (gw y.1 2)) ∧ w'.cell? ⟨g, k * 4 + 3, none⟩ = some (.string y.2) ∧ w'.cell? ⟨Bp, 0, none⟩ = some (.int .u64 (gw p.1 0)) ∧ w'.cell? ⟨Bp, 1, none⟩ = some (.int .u64 (gw p.1 1)) ∧ w'.cell? ⟨Bp, 2, none⟩ = some (.int .u64 (gw p.1 2)) ∧ w'.cell? ⟨Bp, 3, none⟩ = some (.string p.2)) (ds := [9]) 10 ⟨hc0, hc1, hc2, hc3, p0, p1, p2, p3⟩ (fun hHeld => ?_)
    refine td_ [0, 1, 2, 3, 4] ?_
    repeat (first | refine pp_ ?_ | refine po_ ?_)
    refine tn_ ?_
    refine td_ [5, 6] ?_
    repeat (refine pt_ hHeld ?_)
    refine tn_ ?_
    refine on_ 7 (fun K hK => ?_)
    refine gs_ Tryz.func56 #[.agg #[.int .u64 (gw y.1 0), .int .u64 (gw y.1 1), .int .u64 (gw y.1 2), .string y.2], .agg #[.int .u64 (gw p.1 0), .int .u64 (gw p.1 1), .int .u64 (gw p.1 2), .string p.2]] ?_
    with_reducible refine ((HP.out _)).mono ?_
    rintro e w6 ⟨rfl, hb6⟩
    refine ⟨_, rfl, ?_⟩
    have HB6 := jo hb6
    have z0 := pw_cell_below hb6 hHeld.1
    have z1 := pw_cell_below hb6 hHeld.2.1
    have z2 := pw_cell_below hb6 hHeld.2.2.1
    have z3 := pw_cell_below hb6 hHeld.2.2.2.1
    have z4 := pw_cell_below hb6 hHeld.2.2.2.2.1
    have z5 := pw_cell_below hb6 hHeld.2.2.2.2.2.1
    have z6 := pw_cell_below hb6 hHeld.2.2.2.2.2.2.1
    have z7 := pw_cell_below hb6 hHeld.2.2.2.2.2.2.2
    have hf6 : ∀ j, w6.frozen? ⟨g, j, none⟩ = false := fun j => (HS5.out.below (below_step (below_drew (Below.refl _ _)) hb6)).soft j
    clear hb6
    refine hK.out _ _ ⟨z0, z1, z2, z3, z4, z5, z6, z7⟩ (fun hHeld => ?_)
    clear hK K
    refine nm_ (some 24) ?_
    refine td_ [8] ?_
    repeat (first | refine pp_ ?_ | refine po_ ?_)
    refine tn_ ?_
    refine la_ 9 (fun K hK => ?_)
    refine skip_ (w1 := w6.setCells g (k * 4) (sideC (plus xop y p))) (by rfl) rfl ?_ ?_
    ·go_simp
     first | done | rfl
    refine hK.out _ _ ?_
    clear hK K
    refine dn_ ?_
    go_wp2
    go_roundg gq
    case measure => omega
    case rel =>
     have hb7 := below_step (below_drew (Below.refl w4.heap.size w4)) HB6.out
     have hs7 := (HS5.out.below hb7).put (i := k) (by omega) (plus xop y p)
     have := HY.out.2
     rw [if_pos trivial] at this
     rw [this] at hs7
     exact ⟨k + 1, rfl, ⟨by have := HA.out.1; omega, hs7, grownBy_set (grownBy_below (grownBy_below HA.out.2.2 HB5.out) hb7) _ _⟩⟩
  ·have d1 : decide ((k : Int) < (l.length : Int)) = false := decide_eq_false (by omega)
   have d2 : decide (k < l.length) = false := decide_eq_false hlt
   go_wp2
   go_end0
   have e1 : k = l.length := by have := HA.out.1; omega
   have h2 := HA.out.2.1
   rw [e1, List.take_length, List.drop_length, List.append_nil] at h2
   exact ⟨rfl, h2, HA.out.2.2⟩
theorem sclear_none {Bi Bp : Nat} (w : World) : Calls Tryz.prog 55 #[.slice none 0 0, .pointer (some ⟨Bi, 0, none⟩), .pointer (some ⟨Bp, 0, none⟩)] w fun e w' => e = .returned (.tuple #[]) ∧ w' = w := by
 go_enter Tryz.func55, Tryz.ntmps55
 go_wp2
 go_loopg [4, 7] 0 (fun gk v4 v7 wr => v7 = .int .i64 0 ∧ wr = w)
 case atStart => exact ⟨rfl, rfl⟩
 case round =>
  obtain ⟨rfl, rfl⟩ := hrel
  go_wp2
  go_end0
  exact ⟨rfl, rfl⟩
end Go.Proofs.YtjmooillogojkaaGreat.Q
