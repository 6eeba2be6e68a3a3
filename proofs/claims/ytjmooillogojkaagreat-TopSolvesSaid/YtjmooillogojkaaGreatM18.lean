/- gauss.reduce walked: it makes what redN makes. No condition. -/
import Derived.Test.YtjmooillogojkaaGreatM17
set_option maxHeartbeats 8000000
set_option maxRecDepth 100000
set_option linter.unusedVariables false
set_option linter.unusedSimpArgs false
namespace Go.Proofs.YtjmooillogojkaaGreat.Q
open Go.RowKit Go.Proofs.YtjmooillogojkaaGreatW.PrintWords Go.Proofs.YtjmooillogojkaaGreatW.PrintLast Go.Proofs.YtjmooillogojkaaGreatW.PrintMore
open Go.Proofs.YtjmooillogojkaaGreat Lin
theorem redStep_cases (i : Nat) (out l : List Side) : (idxF (fun s : Side => s.1.testBit i) l < 0 ∧ redStep xop i (out, l) = (out, l)) ∨ ∃ (k : Nat) (hk : k < l.length), idxF (fun s : Side => s.1.testBit i) l = (k : Int) ∧ redStep xop i (out, l) = (clr xop i l[k] out ++ [l[k]], clr xop i l[k] (l.eraseIdx k)) := by
 by_cases h : idxF (fun s : Side => s.1.testBit i) l < 0
 ·refine .inl ⟨h, ?_⟩
  unfold redStep
  rw [if_pos h]
 ·obtain ⟨k, hk⟩ := Int.eq_ofNat_of_zero_le (Int.not_lt.1 h)
  obtain ⟨hl, _⟩ := idxF_pos hk
  refine .inr ⟨k, hl, hk, ?_⟩
  unfold redStep
  simp only
  rw [if_neg h, hk, Int.toNat_natCast, List.getElem?_eq_getElem hl]
theorem clr_length (i : Nat) (p : Side) (l : List Side) : (clr xop i p l).length = l.length := by simp [clr]
theorem redN_succ (l : List Side) (i : Nat) : redN xop l (i + 1) = redStep xop i (redN xop l i) := rfl
theorem redN_len (l : List Side) (i : Nat) : (redN xop l i).1.length + (redN xop l i).2.length = l.length ∧ (redN xop l i).1.length ≤ i := by
 induction i with
 | zero => exact ⟨by simp [redN], by simp [redN]⟩
 | succ i ih =>
  rw [redN_succ]
  obtain ⟨st, hst⟩ : ∃ st, st = redN xop l i := ⟨_, rfl⟩
  rw [← hst] at ih ⊢
  clear hst
  obtain ⟨out, r⟩ := st
  have ih : (out.length + r.length = l.length ∧ out.length ≤ i) := ih
  rcases redStep_cases i out r with ⟨_, e⟩ | ⟨k, hk, _, e⟩
  ·rw [e]
   exact ⟨ih.1, Nat.le_succ_of_le ih.2⟩
  ·rw [e]
   simp only [List.length_append, clr_length, List.length_cons, List.length_nil, List.length_eraseIdx, if_pos hk]
   refine ⟨?_, ?_⟩ <;> omega
theorem clr_all {P : Side → Prop} (hp : ∀ s t, P s → P t → P (plus xop s t)) {i : Nat} {p : Side} {l : List Side} (h0 : P p) (h : ∀ s ∈ l, P s) : ∀ s ∈ clr xop i p l, P s := by
 intro s hs
 obtain ⟨t, ht, h1 | h1⟩ := clr_mem hs
 ·rw [h1.2]
  exact h t ht
 ·rw [h1.2]
  exact hp _ _ (h t ht) h0
theorem redN_all {P : Side → Prop} (hp : ∀ s t, P s → P t → P (plus xop s t)) {l : List Side} (h : ∀ s ∈ l, P s) (i : Nat) : (∀ s ∈ (redN xop l i).1, P s) ∧ ∀ s ∈ (redN xop l i).2, P s := by
 induction i with
 | zero => exact ⟨fun s hs => absurd hs (by simp [redN]), h⟩
 | succ i ih =>
  rw [redN_succ]
  obtain ⟨st, hst⟩ : ∃ st, st = redN xop l i := ⟨_, rfl⟩
  rw [← hst] at ih ⊢
  clear hst
  obtain ⟨out, r⟩ := st
  have ih : (∀ s ∈ out, P s) ∧ ∀ s ∈ r, P s := ih
  rcases redStep_cases i out r with ⟨_, e⟩ | ⟨k, hk, _, e⟩
  ·rw [e]
   exact ih
  ·rw [e]
   have hpk := ih.2 _ (List.getElem_mem hk)
   refine ⟨fun s hs => ?_, clr_all hp hpk (fun s hs => ih.2 s (List.mem_of_mem_eraseIdx hs))⟩
   rcases List.mem_append.1 hs with hs | hs
   ·exact clr_all hp hpk ih.1 s hs
   ·rw [List.mem_singleton.1 hs]
    exact hpk
theorem xop_size {a b : ByteArray} {m : Nat} (ha : a.size = m) (hb : b.size = m) : (xop a b).size = m := by
 unfold xop block_XorR
 rw [if_pos (by omega)]
 simp only [xorB_size, ha]
def OV (w : World) (base : Nat) (v : Value) (l : List Side) : Prop := w.ownsRow base 74 4 v l.length (cellsL l)
theorem OV.nil (w : World) (base : Nat) : OV w base (.slice none 0 0) [] := World.ownsRow_nil w base 74 4
theorem OV.below {w w1 : World} {base : Nat} {v : Value} {l : List Side} (h : OV w base v l) (hb : Below w.heap.size w w1) : OV w1 base v l := own_move h (fun k hk => hb.block k (own_lt h k hk))
theorem OV.grown {w w1 : World} {base : Nat} {v : Value} {l : List Side} {row : Option Nat} (h : OV w base v l) (hg : w.grownBy w1 row) (hn : ∀ k, v.ownBlock = some k → some k ≠ row) : OV w1 base v l := own_move h (fun k hk => hg.block k (own_lt h k hk) (hn k hk))
theorem OV.cases {w : World} {base : Nat} {v : Value} {l : List Side} (h : OV w base v l) : (v = .slice none 0 0 ∧ l = []) ∨ ∃ g cap, v = .slice (some ⟨g, 0, none⟩) l.length cap ∧ base ≤ g ∧ SR w g cap l := by
 rcases h.2 with ⟨h0, h1⟩ | ⟨g, cap, cur, h0, hb, h1, h2, h3, h4, h5⟩
 ·exact .inl ⟨h0, List.eq_nil_of_length_eq_zero h1⟩
 ·exact .inr ⟨g, cap, h0, hb, ⟨cur, h1, h4, h5⟩, h2, h3⟩
theorem OV.lt {w : World} {base : Nat} {v : Value} {l : List Side} (h : OV w base v l) (k : Nat) (hk : v.ownBlock = some k) : base ≤ k ∧ k < w.heap.size := ⟨own_base h k hk, own_lt h k hk⟩
theorem sclear_ov {i Bi Bp base : Nat} {p : Side} {v : Value} {l : List Side} {w : World} (h : OV w base v l) (hm : l.length ≤ 100000) (hi : i < 192) (hl : ∀ s ∈ l, s.2.size < 1000000)
  (hBi : w.heap[Bi]? = some (.cells #[.int .i64 i] 3 (0, 0))) (hBp : w.heap[Bp]? = some (.cells #[.int .u64 (gw p.1 0), .int .u64 (gw p.1 1), .int .u64 (gw p.1 2), .string p.2] 74 (0, 0))) (n1 : v.ownBlock ≠ some Bi) (n2 : v.ownBlock ≠ some Bp) :
  Calls Tryz.prog 55 #[v, .pointer (some ⟨Bi, 0, none⟩), .pointer (some ⟨Bp, 0, none⟩)] w fun e w' => e = .returned (.tuple #[]) ∧ OV w' base v (clr xop i p l) ∧ w.grownBy w' v.ownBlock := by
 rcases h.cases with ⟨rfl, rfl⟩ | ⟨g, cap, rfl, hb, hs⟩
 ·refine (sclear_none w).mono ?_
  rintro e w' ⟨rfl, rfl⟩
  exact ⟨rfl, h, World.grownBy.refl _ _⟩
 ·refine (sclear_ok hs hm hi hl hBi hBp (fun e => n1 (by rw [e]; rfl)) (fun e => n2 (by rw [e]; rfl))).mono ?_
  rintro e w' ⟨rfl, hs', hg⟩
  have := hs'.own hb
  rw [clr_length] at this
  refine ⟨rfl, ?_, hg⟩
  unfold OV
  rw [clr_length]
  exact this
theorem pside52 {B i : Nat} {w : World} (hi : i < 192) (hc : w.heap[B]? = some (.cells #[.int .i64 i] 3 (0, 0))) (l : List Side) : PredSide 52 #[.pointer (some ⟨B, 0, none⟩)] (fun s => s.1.testBit i) l w := by
 intro W j hj hb
 have h2 := blk_below hc hb
 refine (pred52 l[j] hi (blk_cell h2 0) (blk_lt h2)).mono ?_
 rintro e w' ⟨rfl, hb'⟩
 exact ⟨rfl, below_step hb hb'⟩
theorem gw_zero (k : Nat) : gw 0 k = 0 := by simp [gw, gwN]
theorem eq_zeroG (d : Nat) (W : World) : (Op.equalIn (d + 2) 72 (.agg #[.int .u64 0, .int .u64 0, .int .u64 0]) (.agg #[.int .u64 0, .int .u64 0, .int .u64 0])).run Tryz.prog W = .ok true W := by
 have pe : ∀ W, (Op.equalIn (d + 1) 70 (.int .u64 0) (.int .u64 0)).run Tryz.prog W = .ok true W := fun W => by
  simp [Op.equalIn, run_underlying Tryz.underlying70]
 have hp : ∀ W j, j < 3 → (part 70 #[.int .u64 0, .int .u64 0, .int .u64 0] (j * 1)).run Tryz.prog W = .ok (.int .u64 0) W := fun W j hj => by
  rcases (show j = 0 ∨ j = 1 ∨ j = 2 by omega) with rfl | rfl | rfl <;> simp [part, isAgg, run_underlying Tryz.underlying70]
 rw [Op.equalIn]
 simp only [Sem.run_bind, run_underlying Tryz.underlying72, Result.andThen_ok, Tryz.sizeOf70, Std.Legacy.Range.forIn_eq_forIn_range', Std.Legacy.Range.size, Nat.sub_zero, Nat.add_sub_cancel, Nat.div_one]
 have h3 : List.range' 0 3 1 = [0, 1, 2] := rfl
 rw [h3]
 have p1 : ∀ W, (part 70 #[.int .u64 0, .int .u64 0, .int .u64 0] 1).run Tryz.prog W = .ok (.int .u64 0) W := fun W => hp W 1 (by decide)
 have p2 : ∀ W, (part 70 #[.int .u64 0, .int .u64 0, .int .u64 0] 2).run Tryz.prog W = .ok (.int .u64 0) W := fun W => hp W 2 (by decide)
 have p0 : ∀ W, (part 70 #[.int .u64 0, .int .u64 0, .int .u64 0] 0).run Tryz.prog W = .ok (.int .u64 0) W := fun W => hp W 0 (by decide)
 simp [p0, p1, p2, pe]
theorem eq_zero (W : World) : (Op.equalIn 10000 72 (.agg #[.int .u64 0, .int .u64 0, .int .u64 0]) (.agg #[.int .u64 0, .int .u64 0, .int .u64 0])).run Tryz.prog W = .ok true W := eq_zeroG 9998 W
theorem sideC_zero (b : ByteArray) : sideC (0, b) = [.int .u64 0, .int .u64 0, .int .u64 0, .string b] := by
 unfold sideC
 rw [gw_zero, gw_zero, gw_zero]
theorem lens {a b c : Nat} (h : a + b = c) (hc : c ≤ 1000) : a ≤ 100000 := by omega
theorem lens2 {i : Nat} {p : Side} {l : List Side} (h : l.length ≤ 100000) : ((clr xop i p l).length + 1) * 40 ≤ 140737488355328 := by rw [clr_length]; omega
theorem lens3 {k : Nat} (h : k ≤ 100000) : (k + 1) * 40 ≤ 140737488355328 := by omega
theorem w64s {k : Nat} (h : k ≤ 100000) : wrap64 ((k : Int) + 1) = (k : Int) + 1 := Deg.w64 (by omega) (by omega)
theorem sdelete_ok' {g cap k : Nat} {l : List Side} {w : World} (h : SR w g cap l) (hk : k < l.length) (hm : l.length ≤ 100000) :
  Calls Tryz.prog 54 #[.slice (some ⟨g, 0, none⟩) l.length cap, .int .i64 k, .int .i64 ((k : Int) + 1)] w fun e w' => e = .returned (.slice (some ⟨g, 0, none⟩) (l.eraseIdx k).length cap) ∧ SR w' g cap (l.eraseIdx k) ∧ w.grownBy w' (some g) := sdelete_ok h hk hm
theorem ov_snoc {w : World} {base : Nat} {v : Value} {l : List Side} {p : Side} (h : w.ownsRow base 74 4 v (l.length + 1) (cellsL l ++ sideC p)) : OV w base v (l ++ [p]) := by
 unfold OV
 rw [List.length_append, cellsL_append, show cellsL [p] = sideC p by simp [cellsL]]
 exact h
structure Rd (w W : World) (Bi Bp g1 c1 i : Nat) (p : Side) (u : Value) (out L : List Side) : Prop where
 sr : SR W g1 c1 L
 ov : OV W w.heap.size u out
 bi : W.heap[Bi]? = some (.cells #[.int .i64 i] 3 (0, 0))
 bp : W.heap[Bp]? = some (.cells #[.int .u64 (gw p.1 0), .int .u64 (gw p.1 1), .int .u64 (gw p.1 2), .string p.2] 74 (0, 0))
 n1 : Bi ≠ g1
 n2 : Bp ≠ g1
 n3 : u.ownBlock ≠ some Bi
 n4 : u.ownBlock ≠ some Bp
 n5 : u.ownBlock ≠ some g1
 bel : Below w.heap.size w W
 lo : w.heap.size ≤ g1
section
variable {w W W' : World} {Bi Bp g1 c1 i : Nat} {p : Side} {u : Value} {out L out' L' : List Side}
theorem Rd.row (h : Rd w W Bi Bp g1 c1 i p u out L) (hs : SR W' g1 c1 L') (hg : W.grownBy W' (some g1)) : Rd w W' Bi Bp g1 c1 i p u out L' :=
 ⟨hs, h.ov.grown hg (fun k hk e => h.n5 (by rw [hk, e])), (hg.block Bi (blk_lt h.bi) (fun e => h.n1 (by injection e))).trans h.bi, (hg.block Bp (blk_lt h.bp) (fun e => h.n2 (by injection e))).trans h.bp, h.n1, h.n2, h.n3, h.n4, h.n5,
  h.bel.grown hg h.bel.size (fun k hk => by injection hk with hk; rw [← hk]; exact h.lo), h.lo⟩
theorem Rd.puts (h : Rd w W Bi Bp g1 c1 i p u out L) (hs : OV W' w.heap.size u out') (hg : W.grownBy W' u.ownBlock) : Rd w W' Bi Bp g1 c1 i p u out' L :=
 ⟨h.sr.move (hg.block g1 h.sr.blk (fun e => h.n5 e.symm)), hs, (hg.block Bi (blk_lt h.bi) (fun e => h.n3 e.symm)).trans h.bi, (hg.block Bp (blk_lt h.bp) (fun e => h.n4 e.symm)).trans h.bp, h.n1, h.n2, h.n3, h.n4, h.n5,
  h.bel.grown hg h.bel.size (fun k hk => (h.ov.lt k hk).1), h.lo⟩
theorem Rd.start {wr w2 : World} (hs : SR wr g1 c1 L) (ho : OV wr w.heap.size u out) (n5 : u.ownBlock ≠ some g1) (hb : Below w.heap.size w wr) (lo : w.heap.size ≤ g1) (h2 : Below (wr.alloc (.cells #[.int .i64 i] 3)).heap.size (wr.alloc (.cells #[.int .i64 i] 3)) w2) :
  Rd w (w2.alloc (.cells #[.int .u64 (gw p.1 0), .int .u64 (gw p.1 1), .int .u64 (gw p.1 2), .string p.2] 74)) wr.heap.size w2.heap.size g1 c1 i p u out L := by
 have hs2 := (hs.below (below_alloc (Below.refl _ _) (.cells #[.int .i64 i] 3))).below h2
 have ho2 := (ho.below (below_alloc (Below.refl _ _) (.cells #[.int .i64 i] 3))).below h2
 have hb2 := below_step (below_alloc hb (.cells #[.int .i64 i] 3)) h2
 have hbi := blk_below (blk_new wr (.cells #[.int .i64 i] 3)) h2
 exact ⟨hs2.below (below_alloc (Below.refl _ _) _), ho2.below (below_alloc (Below.refl _ _) _), blk_alloc hbi _, blk_new w2 _, fun e => by have := hs.blk; omega, fun e => by have := hs2.blk; omega,
  fun e => by have := (ho.lt _ e).2; omega, fun e => by have := (ho2.lt _ e).2; omega, n5, below_alloc hb2 _, lo⟩
theorem Rd.clearRow (h : Rd w W Bi Bp g1 c1 i p u out L) (hm : L.length ≤ 100000) (hi : i < 192) (hl : ∀ s ∈ L, s.2.size < 1000000) :
  Calls Tryz.prog 55 #[.slice (some ⟨g1, 0, none⟩) L.length c1, .pointer (some ⟨Bi, 0, none⟩), .pointer (some ⟨Bp, 0, none⟩)] W fun e w' => e = .returned (.tuple #[]) ∧ Rd w w' Bi Bp g1 c1 i p u out (clr xop i p L) := by
 refine (sclear_ok h.sr hm hi hl h.bi h.bp h.n1 h.n2).mono ?_
 rintro e w' ⟨rfl, hs, hg⟩
 exact ⟨rfl, h.row hs hg⟩
theorem Rd.clearOut (h : Rd w W Bi Bp g1 c1 i p u out L) (hm : out.length ≤ 100000) (hi : i < 192) (hl : ∀ s ∈ out, s.2.size < 1000000) :
  Calls Tryz.prog 55 #[u, .pointer (some ⟨Bi, 0, none⟩), .pointer (some ⟨Bp, 0, none⟩)] W fun e w' => e = .returned (.tuple #[]) ∧ Rd w w' Bi Bp g1 c1 i p u (clr xop i p out) L := by
 refine (sclear_ov h.ov hm hi hl h.bi h.bp h.n3 h.n4).mono ?_
 rintro e w' ⟨rfl, hs, hg⟩
 exact ⟨rfl, h.puts hs hg⟩
theorem Rd.cut {k : Nat} (h : Rd w W Bi Bp g1 c1 i p u out L) (hk : k < L.length) (hm : L.length ≤ 100000) :
  Calls Tryz.prog 54 #[.slice (some ⟨g1, 0, none⟩) L.length c1, .int .i64 k, .int .i64 ((k : Int) + 1)] W fun e w' => e = .returned (.slice (some ⟨g1, 0, none⟩) (L.eraseIdx k).length c1) ∧ Rd w w' Bi Bp g1 c1 i p u out (L.eraseIdx k) := by
 refine (sdelete_ok' h.sr hk hm).mono ?_
 rintro e w' ⟨rfl, hs, hg⟩
 exact ⟨rfl, h.row hs hg⟩
end
theorem reduce_ok {g cap n m : Nat} {l : List Side} {w : World} (h : SR w g cap l) (h0 : 0 < l.length) (hm : l.length ≤ 1000) (hn : n ≤ 160) (hsz : ∀ s ∈ l, s.2.size = m) (hm2 : m < 1000000) (hz : ∀ s ∈ (redN xop l n).2, s.1 = 0) :
  Calls Tryz.prog 18 #[.int .i64 n, .slice (some ⟨g, 0, none⟩) l.length cap] w fun e w' => ∃ v4 v5, e = .returned (.tuple #[v4, v5]) ∧ OV w' w.heap.size v4 (redN xop l n).1 ∧ OV w' w.heap.size v5 (redN xop l n).2 ∧ Below w.heap.size w w' := by
 have HCL := jo (sclone_ok h h0 (by omega))
 have HZ := jo hz
 have HN := jo (And.intro hm (And.intro hn hm2))
 have HSZ := jo (fun i => redN_all (P := fun s => s.2.size = m) (fun s t hs ht => xop_size hs ht) hsz i)
 have HLE := jo (fun i => redN_len l i)
 have e52 := enters_of (P := Tryz.prog) (f := 52) Tryz.func52 jw rfl
 have e55 := enters_of (P := Tryz.prog) (f := 55) Tryz.func55 jw rfl
 clear h h0 hsz hz hm hn hm2
 go_enter Tryz.func18, Tryz.ntmps18
 go_wp2_with (go_at_call 50; (with_reducible refine HCL.out.mono ?_); rintro e w1 ⟨g1, c1, rfl, hs1, hg1, hb1⟩; have HS1 := jo (And.intro hs1 (And.intro hg1 hb1)); clear hs1 hg1 hb1)
 go_loopg [1, 4, 6, 7, 8, 9, 15] n (fun gk v1 v4 v6 v7 v8 v9 v15 wr => ∃ (i : Nat), v15 = .int .i64 i ∧ v1 = .slice (some ⟨g1, 0, none⟩) (redN xop l i).2.length c1 ∧ Aside0 (i + gk = n ∧ SR wr g1 c1 (redN xop l i).2 ∧ OV wr w.heap.size v4 (redN xop l i).1 ∧ v4.ownBlock ≠ some g1 ∧ Below w.heap.size w wr))
 case atStart => exact ⟨0, rfl, rfl, ⟨by omega, HS1.out.1, OV.nil _ _, (fun e => by simp [Value.ownBlock] at e), HS1.out.2.2⟩⟩
 case round =>
  obtain ⟨i, rfl, rfl, HA⟩ := hrel
  by_cases hlt : i < n
  ·have d1 : decide ((i : Int) < (n : Int)) = true := decide_eq_true (by omega)
   have d2 : decide (i < n) = true := decide_eq_true hlt
   obtain ⟨gq, rfl⟩ : ∃ q, gk = q + 1 := ⟨gk - 1, by have := HA.out.1; omega⟩
   have hi192 : i < 192 := by have := HN.out.2.1; omega
   have hsu := redN_succ l i
   have hle := HLE.out i
   have hss := HSZ.out i
   obtain ⟨st, hst⟩ : ∃ st, st = redN xop l i := ⟨_, rfl⟩
   have ha := HA.out
   rw [← hst] at ha hsu hle hss ⊢
   obtain ⟨out, L⟩ := st
   have HS := jo hst
   have HA0 : Aside0 (i + (gq + 1) = n ∧ SR wr g1 c1 L ∧ OV wr w.heap.size u4 out ∧ u4.ownBlock ≠ some g1 ∧ Below w.heap.size w wr) := ⟨ha⟩
   have hle : out.length + L.length = l.length ∧ out.length ≤ i := hle
   have hss : (∀ s ∈ out, s.2.size = m) ∧ ∀ s ∈ L, s.2.size = m := hss
   clear HA ha hst
   have HA := HA0
   clear HA0
   have hl1000 := HN.out.1
   have hLm : L.length ≤ 100000 := by omega
   dsimp only
   have HW0 : Aside0 (SR (wr.alloc (.cells #[.int .i64 i] 3)) g1 c1 L ∧ OV (wr.alloc (.cells #[.int .i64 i] 3)) w.heap.size u4 out ∧ Below w.heap.size w (wr.alloc (.cells #[.int .i64 i] 3)) ∧ (wr.alloc (.cells #[.int .i64 i] 3)).heap[wr.heap.size]? = some (.cells #[.int .i64 i] 3 (0, 0))) :=
    ⟨HA.out.2.1.below (below_alloc (Below.refl _ _) _), HA.out.2.2.1.below (below_alloc (Below.refl _ _) _), below_alloc HA.out.2.2.2.2 _, blk_new wr _⟩
   have hne : u4.ownBlock ≠ some wr.heap.size := fun e => by have := HA.out.2.2.1.lt _ e; omega
   have hgi : g1 ≠ wr.heap.size := fun e => by have := HA.out.2.1.blk; omega
   have HI := jo (idx_side e52 HW0.out.1 hLm (pside52 hi192 HW0.out.2.2.2 L))
   have HE := jo (And.intro HA.out.1 (And.intro HA.out.2.2.2.1 (And.intro hne (And.intro hgi hi192))))
   have HSV := jo (And.intro HA.out.2.1 (And.intro HA.out.2.2.1 HA.out.2.2.2.2))
   clear HA hne hgi
   obtain ⟨Bi, hBi⟩ : ∃ B, B = wr.heap.size := ⟨_, rfl⟩
   obtain ⟨W0, hW0⟩ : ∃ W, W = wr.alloc (.cells #[.int .i64 i] 3) := ⟨_, rfl⟩
   rcases redStep_cases i out L with ⟨hneg, e⟩ | ⟨k, hk, hpos, e⟩
   ·obtain ⟨z, hz⟩ : ∃ z, z = idxF (fun s : Side => s.1.testBit i) L := ⟨_, rfl⟩
    rw [← hz] at HI hneg
    rw [e] at hsu
    have HSU := jo hsu
    clear hz hsu e
    have dn : decide (z < 0) = true := decide_eq_true hneg
    go_wp2_with (go_at_call 51; (with_reducible refine HI.out.mono ?_); rintro e w2 ⟨rfl, hb2⟩)
    go_roundg gq
    case measure => omega
    case rel => exact ⟨i + 1, rfl, by rw [HSU.out], ⟨by have := HE.out.1; omega, by rw [HSU.out]; exact HW0.out.1.below hb2, by rw [HSU.out]; exact HW0.out.2.1.below hb2, HE.out.2.1, below_step HW0.out.2.2.1 hb2⟩⟩
   ·have dn : decide ((k : Int) < 0) = false := decide_eq_false (Int.not_lt.2 (Int.natCast_nonneg k))
    have hk3 : (k : Int) < (L.length : Int) := Int.ofNat_lt.2 hk
    have hkm : k ≤ 100000 := Nat.le_trans (Nat.le_of_lt hk) hLm
    have wk := w64s hkm
    have hkL : (L.eraseIdx k).length = L.length - 1 := by rw [List.length_eraseIdx]; simp [hk]
    have hmem : ∀ s ∈ L.eraseIdx k, s.2.size < 1000000 := fun s hs => by rw [hss.2 s (List.mem_of_mem_eraseIdx hs)]; exact HN.out.2.2
    have hmem2 : ∀ s ∈ out, s.2.size < 1000000 := fun s hs => by rw [hss.1 s hs]; exact HN.out.2.2
    have hcells := fun (W : World) (h : SR W g1 c1 L) => h.cells hk
    obtain ⟨p, hp⟩ : ∃ p, p = L[k] := ⟨_, rfl⟩
    rw [← hp] at e hcells
    rw [hpos] at HI
    rw [e] at hsu
    have HSU := jo hsu
    have hom := lens hle.1 hl1000
    have hLe : (L.eraseIdx k).length ≤ 100000 := by rw [hkL]; exact Nat.le_trans (Nat.sub_le _ _) hLm
    have HM := jo (And.intro hmem (And.intro hmem2 (And.intro hLe hk)))
    have HCE := jo hcells
    clear hsu e hp hpos hmem hmem2 hcells hkL
    go_wp2_with (first | (go_at_call 51; (with_reducible refine HI.out.mono ?_); rintro e w2 ⟨rfl, hb2⟩; have hs2 := HW0.out.1.below hb2; have q0 : w2.cell? ⟨g1, k * 4, none⟩ = some (.int .u64 (gw p.1 0)) := HCE.out _ hs2 0 (by decide); have q1 : w2.cell? ⟨g1, k * 4 + 1, none⟩ = some (.int .u64 (gw p.1 1)) := HCE.out _ hs2 1 (by decide); have q2 : w2.cell? ⟨g1, k * 4 + 2, none⟩ = some (.int .u64 (gw p.1 2)) := HCE.out _ hs2 2 (by decide); have q3 : w2.cell? ⟨g1, k * 4 + 3, none⟩ = some (.string p.2) := HCE.out _ hs2 3 (by decide); have R1 := jo (Rd.start (p := p) HSV.out.1 HSV.out.2.1 HE.out.2.1 HSV.out.2.2 HS1.out.2.1 hb2); clear hs2 hb2) | (go_at_call 54; (with_reducible refine (R1.out.cut HM.out.2.2.2 hLm).mono ?_); rintro e w3 ⟨rfl, hr3⟩; have R2 := jo hr3; clear hr3 R1) | (go_at_call 55; (with_reducible refine (R2.out.clearRow HM.out.2.2.1 hi192 HM.out.1).mono ?_); rintro e w4 ⟨rfl, hr4⟩; have R3 := jo hr4; clear hr4 R2) | (go_at_call 55; (with_reducible refine (R3.out.clearOut hom hi192 HM.out.2.1).mono ?_); rintro e w5 ⟨rfl, hr5⟩; have hbp5 := hr5.bp; have b0 : w5.cell? ⟨w2.heap.size, 0, none⟩ = some (.int .u64 (gw p.1 0)) := blk_cell hbp5 0; have b1 : w5.cell? ⟨w2.heap.size, 1, none⟩ = some (.int .u64 (gw p.1 1)) := blk_cell hbp5 1; have b2 : w5.cell? ⟨w2.heap.size, 2, none⟩ = some (.int .u64 (gw p.1 2)) := blk_cell hbp5 2; have b3 : w5.cell? ⟨w2.heap.size, 3, none⟩ = some (.string p.2) := blk_cell hbp5 3; have R4 := jo hr5; clear hr5 R3 hbp5) | ((with_reducible refine gate_builtin (b := .append) (xs := #[.tmp 39, .tmp 41]) rfl ?_); at_builtin; refine print_append_cells (w0 := w) w.heap.size rfl (.tmp 39) (.tmp 41) 64 74 _ 4 40 rfl Tryz.underlying64 info74 rfl (by decide) (by decide) u4 (clr xop i p out).length (cellsL (clr xop i p out)) (sideC p) rfl rfl rfl ?a1 R4.out.ov R4.out.bel R4.out.bel.size ?a2 ?_; (case a1 => exact (fun x hx => cellsL_one [p] x (by simpa [cellsL] using hx))); (case a2 => exact lens2 hom); intro v5 w6 ho hb hg hat; have R5 := jo (And.intro ho (And.intro hb (And.intro hg hat))); clear ho hb hg hat))
    go_roundg gq
    case measure => omega
    case rel =>
     obtain ⟨ho, hb, hg, hat⟩ := R5.out
     refine ⟨i + 1, rfl, by rw [HSU.out]; simp only [clr_length], ⟨by have := HE.out.1; clear R5 R4 hat hg hb ho; omega, ?_, ?_, ?_, hb⟩⟩
     ·rw [HSU.out]
      exact R4.out.sr.move (hg.block g1 R4.out.sr.blk (fun e => R4.out.n5 e.symm))
     ·rw [HSU.out]
      rw [clr_length] at ho; exact ov_snoc (by rw [clr_length]; exact ho)
     ·intro e
      rcases hat with h1 | ⟨b, h1, h2⟩
      ·rw [h1] at e
       exact R4.out.n5 e
      ·rw [h1] at e
       injection e with e
       exact Nat.lt_irrefl _ (Nat.lt_of_lt_of_le R4.out.sr.blk (e ▸ h2))
  ·have d1 : decide ((i : Int) < (n : Int)) = false := decide_eq_false (by omega)
   have d2 : decide (i < n) = false := decide_eq_false hlt
   have hin : i = n := by have := HA.out.1; omega
   subst hin
   have hle := HLE.out i
   obtain ⟨st, hst⟩ : ∃ st, st = redN xop l i := ⟨_, rfl⟩
   have ha := HA.out
   have hz := HZ.out
   rw [← hst] at ha hle hz ⊢
   obtain ⟨out, L⟩ := st
   have HS := jo hst
   have HA0 : Aside0 (SR wr g1 c1 L ∧ OV wr w.heap.size u4 out ∧ u4.ownBlock ≠ some g1 ∧ Below w.heap.size w wr) := ⟨ha.2⟩
   have hle : out.length + L.length = l.length ∧ out.length ≤ i := hle
   have hz : ∀ s ∈ L, s.1 = 0 := hz
   have hl1000 := HN.out.1
   have hLm : L.length ≤ 1000 := Nat.le_trans (Nat.le_trans (Nat.le_add_left _ _) (Nat.le_of_eq hle.1)) hl1000
   clear HA ha hst hle HSZ HLE e52 e55 HCL HZ
   have HZ := jo hz
   clear hz
   have HQ : Aside0 (∀ W' v, OV W' w.heap.size v L → OV W' w.heap.size u4 out → Below w.heap.size w W' → ∃ v4 v5, Ending.returned (Value.tuple #[u4, v]) = .returned (.tuple #[v4, v5]) ∧ OV W' w.heap.size v4 (redN xop l i).1 ∧ OV W' w.heap.size v5 (redN xop l i).2 ∧ Below w.heap.size w W') := ⟨fun W' v h1 h2 h3 => ⟨u4, v, rfl, by rw [← HS.out]; exact h2, by rw [← HS.out]; exact h1, h3⟩⟩
   clear HS
   dsimp only
   go_wp2
   go_loopg [5, 11, 46] L.length (fun gk v5 v11 v46 wq => ∃ k : Nat, v46 = .int .i64 k ∧ Aside0 (k + gk = L.length ∧ SR wq g1 c1 L ∧ OV wq w.heap.size u4 out ∧ OV wq w.heap.size v5 (L.take k) ∧ v5.ownBlock ≠ some g1 ∧ (∀ b, v5.ownBlock = some b → u4.ownBlock ≠ some b) ∧ Below w.heap.size w wq))
   case atStart => exact ⟨0, rfl, ⟨by omega, HA0.out.1, HA0.out.2.1, OV.nil _ _, (fun e => by simp [Value.ownBlock] at e), (fun b e => by simp [Value.ownBlock] at e), HA0.out.2.2.2⟩⟩
   case round =>
    obtain ⟨k, rfl, HA⟩ := hrel
    clear HA0
    by_cases hlt2 : k < L.length
    ·have d1 : decide ((k : Int) < (L.length : Int)) = true := decide_eq_true (by omega)
     have d2 : decide (k < L.length) = true := decide_eq_true hlt2
     have d3 : (k : Int) < (L.length : Int) := by omega
     obtain ⟨gq, rfl⟩ : ∃ q, gk = q + 1 := ⟨gk - 1, by have := HA.out.1; omega⟩
     have hcr := HA.out.2.1.cells hlt2
     have hz1 := HZ.out L[k] (List.getElem_mem hlt2)
     have htk : L.take (k + 1) = L.take k ++ [L[k]] := by rw [List.take_succ_eq_append_getElem hlt2]
     obtain ⟨y, hy⟩ : ∃ y, y = L[k] := ⟨_, rfl⟩
     rw [← hy] at hcr hz1 htk
     obtain ⟨x, b⟩ := y
     simp only at hz1
     subst hz1
     have HT := jo htk
     clear hy htk
     have c0 : wr.cell? ⟨g1, k * 4, none⟩ = some (.int .u64 (gw 0 0)) := hcr 0 (by decide)
     rw [gw_zero] at c0
     have c1' : wr.cell? ⟨g1, k * 4 + 1, none⟩ = some (.int .u64 (gw 0 1)) := hcr 1 (by decide)
     rw [gw_zero] at c1'
     have c2 : wr.cell? ⟨g1, k * 4 + 2, none⟩ = some (.int .u64 (gw 0 2)) := hcr 2 (by decide)
     rw [gw_zero] at c2
     have c3 : wr.cell? ⟨g1, k * 4 + 3, none⟩ = some (.string b) := hcr 3 (by decide)
     clear hcr
     have heq := eq_zero
     have hkm : k ≤ 100000 := Nat.le_trans (Nat.le_of_lt hlt2) (Nat.le_trans hLm (by decide))
     have hlk : (L.take k).length = k := by rw [List.length_take]; omega
     have H0 := jo (And.intro HA.out.1 (And.intro HA.out.2.1 (And.intro HA.out.2.2.1 (And.intro HA.out.2.2.2.1 (And.intro HA.out.2.2.2.2.1 (And.intro HA.out.2.2.2.2.2.1 HA.out.2.2.2.2.2.2))))))
     go_wp2_with ((with_reducible refine gate_builtin (b := .append) (xs := #[.tmp 54, .tmp 56]) rfl ?_); at_builtin; refine print_append_cells (w0 := w) w.heap.size rfl (.tmp 54) (.tmp 56) 64 74 _ 4 40 rfl Tryz.underlying64 info74 rfl (by decide) (by decide) u5 (L.take k).length (cellsL (L.take k)) [.int .u64 0, .int .u64 0, .int .u64 0, .string b] rfl ?a5 rfl ?a1 (H0.out.2.2.2.1.below (below_alloc (Below.refl _ _) _)) (below_alloc H0.out.2.2.2.2.2.2 _) ?a3 ?a2 ?_; (case a1 => exact (fun x hx => by simp only [List.mem_cons, List.not_mem_nil, or_false] at hx; rcases hx with rfl | rfl | rfl | rfl <;> rfl)); (case a2 => rw [hlk]; exact lens3 hkm); (case a5 => (show Value.slice (some ⟨wr.heap.size + 1, 0, none⟩) 1 1 = Value.slice (some ⟨(wr.alloc (.cells #[.int .u64 0, .int .u64 0, .int .u64 0, .string b] 74)).heap.size, 0, none⟩) 1 1); rw [World.size_alloc]); (case a3 => exact (below_alloc H0.out.2.2.2.2.2.2 _).size); intro v5 w6 ho hb hg hat; have R5 := jo (And.intro ho (And.intro hb (And.intro hg hat))); clear ho hb hg hat)
     go_roundg gq
     case measure => omega
     case rel =>
      obtain ⟨ho, hb, hg, hat⟩ := R5.out
      obtain ⟨z1, z2, z3, z4, z5, z6, z7⟩ := H0.out
      have hg1 := z2.blk
      refine ⟨k + 1, rfl, ⟨by clear ho hb hg hat z2 z3 z4 z5 z6 z7 R5 H0 HA; omega, ?_, ?_, ?_, ?_, ?_, hb⟩⟩
      ·have := z2.below (below_alloc (Below.refl wr.heap.size wr) (.cells #[.int .u64 0, .int .u64 0, .int .u64 0, .string b] 74))
       exact this.move (hg.block g1 this.blk (fun e => z5 e.symm))
      ·have := z3.below (below_alloc (Below.refl wr.heap.size wr) (.cells #[.int .u64 0, .int .u64 0, .int .u64 0, .string b] 74))
       exact this.grown hg (fun q hq e => z6 q e.symm hq)
      ·rw [HT.out]
       exact ov_snoc (by rw [sideC_zero]; exact ho)
      ·intro e
       rcases hat with h1 | ⟨q, h1, h2⟩
       ·rw [h1] at e
        exact z5 e
       ·rw [h1] at e
        injection e with e
        rw [World.size_alloc] at h2
        exact absurd hg1 (by rw [← e]; exact Nat.not_lt.2 (Nat.le_of_succ_le h2))
      ·intro q hq e
       rcases hat with h1 | ⟨q', h1, h2⟩
       ·rw [h1] at hq
        exact z6 q hq e
       ·rw [h1] at hq
        injection hq with hq
        rw [World.size_alloc] at h2
        have := (z3.lt q e).2
        exact absurd this (by rw [← hq]; exact Nat.not_lt.2 (Nat.le_of_succ_le h2))
    ·have d1 : decide ((k : Int) < (L.length : Int)) = false := decide_eq_false (by omega)
     have d2 : decide (k < L.length) = false := decide_eq_false hlt2
     have e1 : k = L.length := by have := HA.out.1; omega
     have HF := jo HA.out.2
     clear HA
     subst e1
     go_wp2
     go_ret2
     have h5 := HF.out.2.2.1
     rw [List.take_length] at h5
     exact HQ.out _ _ h5 HF.out.2.1 HF.out.2.2.2.2.2
end Go.Proofs.YtjmooillogojkaaGreat.Q
