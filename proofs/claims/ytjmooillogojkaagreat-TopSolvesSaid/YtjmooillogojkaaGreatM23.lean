/- The sum of bytes, part three: a block is mixed into a state. No condition. -/
import Derived.Test.YtjmooillogojkaaGreatM22
set_option maxHeartbeats 8000000
set_option maxRecDepth 100000
set_option linter.unusedVariables false
set_option linter.unusedSimpArgs false
namespace Go.Proofs.YtjmooillogojkaaGreat.Q
open Go.RowKit Go.Proofs.YtjmooillogojkaaGreatW.PrintWords Go.Proofs.YtjmooillogojkaaGreatW.PrintLast Go.Proofs.YtjmooillogojkaaGreatW.PrintMore
open Go.Proofs.YtjmooillogojkaaGreat
def arr32 (l : List Int) : Array Value := (nums .u32 l).toArray
theorem arr32_size (l : List Int) : (arr32 l).size = l.length := by simp [arr32, nums]
theorem arr32_at {l : List Int} {i : Nat} (h : i < l.length) : (arr32 l)[i]? = some (.int .u32 (rd l i)) := by
 unfold arr32 nums
 rw [List.getElem?_toArray, List.getElem?_map, rd_get h, List.getElem?_eq_getElem h]
 rfl
theorem arr32_one {l : List Int} : ∀ v ∈ (arr32 l).toList, v.oneCell' = true := by
 intro v hv
 unfold arr32 nums at hv
 rw [List.toList_toArray, List.mem_map] at hv
 obtain ⟨x, _, rfl⟩ := hv
 rfl
theorem row32_full {n : Nat} {ws : List Int} (h : ws.length = n) : row32 n ws = arr32 ws := by
 unfold row32 arr32
 rw [h, Nat.sub_self, List.replicate_zero, List.append_nil]
def chP (e f g : Int) : Int := Go.bits .xor .u32 (Go.bits .and .u32 e f) (Go.bits .and .u32 (Go.bits .xor .u32 IntKind.u32.max e) g)
def mjP (a b c : Int) : Int := Go.bits .xor .u32 (Go.bits .xor .u32 (Go.bits .and .u32 a b) (Go.bits .and .u32 a c)) (Go.bits .and .u32 b c)
def t1P (ws : List Int) (t : Nat) (l : List Int) : Int :=
 IntKind.u32.wrap (IntKind.u32.wrap (IntKind.u32.wrap (IntKind.u32.wrap (rd l (7 : Nat) + Go.bits .xor .u32 (Go.bits .xor .u32 (rot (rd l (4 : Nat)) 6) (rot (rd l (4 : Nat)) 11)) (rot (rd l (4 : Nat)) 25)) + chP (rd l (4 : Nat)) (rd l (5 : Nat)) (rd l (6 : Nat))) + rd kL (t : Nat)) + rd ws (t : Nat))
def t2P (l : List Int) : Int := Go.bits .xor .u32 (Go.bits .xor .u32 (rot (rd l (0 : Nat)) 2) (rot (rd l (0 : Nat)) 13)) (rot (rd l (0 : Nat)) 22) + mjP (rd l (0 : Nat)) (rd l (1 : Nat)) (rd l (2 : Nat))
def rnd (ws : List Int) (t : Nat) (l : List Int) : List Int := [(t1P ws t l + t2P l) % 4294967296, rd l (0 : Nat), rd l (1 : Nat), rd l (2 : Nat), (rd l (3 : Nat) + t1P ws t l) % 4294967296, rd l (4 : Nat), rd l (5 : Nat), rd l (6 : Nat)]
def rnds (ws : List Int) : Nat → List Int → List Int
 | 0, l => l
 | t + 1, l => rnd ws t (rnds ws t l)
def addN (st l : List Int) : Nat → List Int
 | 0 => l
 | i + 1 => (addN st l i).set i ((rd (addN st l i) i + rd st i) % 4294967296)
theorem rnds_length (ws : List Int) (t : Nat) (l : List Int) (h : l.length = 8) : (rnds ws t l).length = 8 := by
 cases t with
 | zero => exact h
 | succ t => rfl
theorem addN_length (st l : List Int) (i : Nat) : (addN st l i).length = l.length := by
 induction i with
 | zero => rfl
 | succ i ih => simp [addN, ih]
def mixF (st b : List Int) : List Int := addN st (rnds (sch b 64) 64 st) 8
theorem mixF_length {st b : List Int} (h : st.length = 8) : (mixF st b).length = 8 := by
 unfold mixF
 rw [addN_length, rnds_length _ _ _ h]
structure Mx (w W : World) (g2 g4 g5 g6 g7 : Nat) (st ws l : List Int) : Prop where
 b2 : W.heap[g2]? = some (.cells (arr32 st) 230 (0, 0))
 b4 : W.heap[g4]? = some (.cells (arr32 (List.replicate 8 0)) 230 (0, 0))
 b5 : W.heap[g5]? = some (.cells (arr32 ws) 235 (0, 0))
 b6 : W.heap[g6]? = some (.cells (arr32 kL) 235 (0, 0))
 b7 : W.heap[g7]? = some (.cells (arr32 l) 230 (0, 0))
 bel : Below w.heap.size w W
 n2 : g2 ≠ g7
 n4 : g4 ≠ g7
 n5 : g5 ≠ g7
 n6 : g6 ≠ g7
 lo : w.heap.size ≤ g7
theorem Mx.drew {w W : World} {g2 g4 g5 g6 g7 : Nat} {st ws l : List Int} (h : Mx w W g2 g4 g5 g6 g7 st ws l) (n : Nat) : Mx w (W.drewN n) g2 g4 g5 g6 g7 st ws l :=
 ⟨h.b2, h.b4, h.b5, h.b6, h.b7, pw_below_drewN h.bel n, h.n2, h.n4, h.n5, h.n6, h.lo⟩
theorem Mx.put {w W W' : World} {g2 g4 g5 g6 g7 : Nat} {st ws l l' : List Int} (h : Mx w W g2 g4 g5 g6 g7 st ws l) (hl : l'.length = l.length) (hw : W' = W.setCells g7 0 (arr32 l').toList) : Mx w W' g2 g4 g5 g6 g7 st ws l' := by
 subst hw
 exact ⟨(heap_setCells h.n2 _ 0 W).trans h.b2, (heap_setCells h.n4 _ 0 W).trans h.b4, (heap_setCells h.n5 _ 0 W).trans h.b5, (heap_setCells h.n6 _ 0 W).trans h.b6, by
  rw [blk_setCells _ 0 W _ h.b7, putC_all (by rw [arr32_size, arr32_size, hl])], below_setCells h.lo _ 0 W h.bel, h.n2, h.n4, h.n5, h.n6, h.lo⟩
theorem Mx.set {w W : World} {g2 g4 g5 g6 g7 i : Nat} {st ws l : List Int} (h : Mx w W g2 g4 g5 g6 g7 st ws l) (x : Int) : Mx w (W.setCell ⟨g7, i, none⟩ (.int .u32 x)) g2 g4 g5 g6 g7 st ws (l.set i x) :=
 ⟨blk_far h.b2 h.n2 _, blk_far h.b4 h.n4 _, blk_far h.b5 h.n5 _, blk_far h.b6 h.n6 _, blk_put h.b7 i _ (by
  unfold arr32 nums
  rw [List.setIfInBounds_toArray, List.map_set]), h.bel.setCell h.lo _, h.n2, h.n4, h.n5, h.n6, h.lo⟩
theorem mix_ok {A : Option Addr} {c : Nat} {st b : List Int} (w : World) (hst : st.length = 8) (hr : Kd.C (Kd.int .u8) w A b.length b) (hc : b.length ≤ c) (hb : b.length = 64) {out : List Int} (ho : out = mixF st b) :
  Calls Tryz.prog 175 #[.agg (arr32 st), .slice A b.length c] w fun e w' => e = .returned (.agg (arr32 out)) ∧ Below w.heap.size w w' := by
 have HR := jo hr
 have HB := jo hb
 have HST := jo hst
 have HO := jo ho
 have HSZ : Aside0 ((arr32 st).size = 8) := ⟨by rw [arr32_size, hst]⟩
 clear hr hb ho
 go_enter Tryz.func175, Tryz.ntmps175
 obtain ⟨ws, hws⟩ : ∃ ws, ws = sch b 64 := ⟨_, rfl⟩
 have HWS := jo hws
 have hwl : ws.length = 64 := by rw [hws, sch_length]
 have HWL := jo hwl
 have hkl : kL.length = 64 := by kernel_rfl
 have HKL := jo hkl
 clear hws hwl hkl
 have HSW : Aside0 (∀ w, (sizeOf 235).run Tryz.prog w = .ok (arr32 ws).size w) := ⟨fun w => by rw [arr32_size, HWL.out]; exact Tryz.sizeOf235 w⟩
 have HSK : Aside0 (∀ w, (sizeOf 235).run Tryz.prog w = .ok (arr32 kL).size w) := ⟨fun w => by rw [arr32_size, HKL.out]; exact Tryz.sizeOf235 w⟩
 have HSS : Aside0 (∀ w, (sizeOf 230).run Tryz.prog w = .ok (arr32 st).size w) := ⟨fun w => by rw [HSZ.out]; exact Tryz.sizeOf230 w⟩
 go_wp2_with fail
 generalize hW : World.alloc _ _ = W1
 have k1 : W1.heap[w.heap.size]? = some (.cells (arr32 st) 230 (0, 0)) := by
  rw [← hW]
  exact (show ∀ (X Y : Obj), ((w.alloc X).alloc Y).heap[w.heap.size]? = some X from fun X Y => blk_alloc (blk_new w X) Y) _ _
 have k2 : W1.heap[w.heap.size + 1]? = some (.cells (arr32 (List.replicate 8 0)) 230 (0, 0)) := by
  rw [← hW]
  exact (show ∀ (X Y : Obj), ((w.alloc X).alloc Y).heap[w.heap.size + 1]? = some Y from fun X Y => by
   have := blk_new (w.alloc X) Y
   rw [World.size_alloc] at this
   exact this) _ _
 have p1 : Below w.heap.size w W1 := by
  rw [← hW]
  exact below_alloc (below_alloc (Below.refl _ _) _) _
 clear hW
 obtain ⟨g4, hg4⟩ : ∃ g, g = w.heap.size + 1 := ⟨_, rfl⟩
 obtain ⟨g2, hg2⟩ : ∃ g, g = w.heap.size := ⟨_, rfl⟩
 rw [← hg4] at k2 ⊢
 rw [← hg2] at k1 ⊢
 have HG := jo (And.intro hg2 hg4)
 clear hg2 hg4
 (with_reducible refine (schedule_ok W1 (Kd.C_below HR.out p1) hc HB.out HWS.out).mono ?_)
 rintro e w2 ⟨rfl, hb2⟩
 have j1 := blk_below k1 hb2
 have j2 := blk_below k2 hb2
 have q1 := below_step p1 hb2
 rw [row32_full HWL.out]
 have J := jo (And.intro j1 (And.intro j2 q1))
 clear k1 k2 p1 hb2 j1 j2 q1
 go_wp2_with (first
  | (go_at_call 178; (with_reducible refine (const_ok _).mono ?_); rintro e w3 ⟨rfl, hb3⟩; have J3 : Aside0 (w3.heap[g2]? = some (.cells (arr32 st) 230 (0, 0)) ∧ w3.heap[g4]? = some (.cells (arr32 (List.replicate 8 0)) 230 (0, 0)) ∧ Below w.heap.size w w3) := ⟨⟨blk_below J.out.1 hb3, blk_below J.out.2.1 hb3, below_step J.out.2.2 hb3⟩⟩; clear hb3 J)
  | ((with_reducible refine gate_dst (N := 5) rfl ?_); refine box_event ?hg (N := 5) ?hd (cs := row32 64 []) (t := 235) ?hr ?_; (case hd => rfl); (case hg => rfl); (case hr => (go_simp; rfl)); intro g5 hg5 w5 hx5 hb5; have J5 : Aside0 (w5.heap[g2]? = some (.cells (arr32 st) 230 (0, 0)) ∧ w5.heap[g4]? = some (.cells (arr32 (List.replicate 8 0)) 230 (0, 0)) ∧ Below w.heap.size w w5 ∧ w5.heap[g5]? = some (.cells (row32 64 []) 235 (0, 0)) ∧ g2 ≠ g5 ∧ g4 ≠ g5 ∧ w.heap.size ≤ g5) := ⟨⟨blk_below J3.out.1 hb5, blk_below J3.out.2.1 hb5, below_step J3.out.2.2 hb5, hx5, by have := blk_lt J3.out.1; omega, by have := blk_lt J3.out.2.1; omega, by have := J3.out.2.2.size; omega⟩⟩; clear hg5 hx5 hb5 J3)
  | ((with_reducible refine gate_dst (N := 6) rfl ?_); refine box_event ?hg (N := 6) ?hd (cs := row32 64 []) (t := 235) ?hr ?_; (case hd => rfl); (case hg => rfl); (case hr => (go_simp; rfl)); intro g6 hg6 w6 hx6 hb6; have J6 : Aside0 (w6.heap[g2]? = some (.cells (arr32 st) 230 (0, 0)) ∧ w6.heap[g4]? = some (.cells (arr32 (List.replicate 8 0)) 230 (0, 0)) ∧ Below w.heap.size w w6 ∧ w6.heap[g5]? = some (.cells (row32 64 []) 235 (0, 0)) ∧ (g2 ≠ g5 ∧ g4 ≠ g5 ∧ w.heap.size ≤ g5) ∧ w6.heap[g6]? = some (.cells (row32 64 []) 235 (0, 0)) ∧ g2 ≠ g6 ∧ g4 ≠ g6 ∧ g5 ≠ g6 ∧ w.heap.size ≤ g6) := ⟨⟨blk_below J5.out.1 hb6, blk_below J5.out.2.1 hb6, below_step J5.out.2.2.1 hb6, blk_below J5.out.2.2.2.1 hb6, J5.out.2.2.2.2, hx6, by have := blk_lt J5.out.1; omega, by have := blk_lt J5.out.2.1; omega, by have := blk_lt J5.out.2.2.2.1; omega, by have := J5.out.2.2.1.size; omega⟩⟩; clear hg6 hx6 hb6 J5)
  | ((with_reducible refine gate_store (t := 235) (p := 5) rfl ?_); refine store_arr rfl rfl rfl (vs := arr32 ws) rfl rfl J6.out.2.2.2.1 (by rw [arr32_size, HWL.out, row32_size (by decide)]; exact Nat.le_refl _) arr32_one HSW.out ?_; intro w7 hw7; have J7 : Aside0 (w7.heap[g2]? = some (.cells (arr32 st) 230 (0, 0)) ∧ w7.heap[g4]? = some (.cells (arr32 (List.replicate 8 0)) 230 (0, 0)) ∧ Below w.heap.size w w7 ∧ w7.heap[g5]? = some (.cells (arr32 ws) 235 (0, 0)) ∧ (g2 ≠ g5 ∧ g4 ≠ g5 ∧ w.heap.size ≤ g5) ∧ w7.heap[g6]? = some (.cells (row32 64 []) 235 (0, 0)) ∧ g2 ≠ g6 ∧ g4 ≠ g6 ∧ g5 ≠ g6 ∧ w.heap.size ≤ g6) := ⟨by rw [hw7]; exact ⟨(heap_setCells J6.out.2.2.2.2.1.1 _ 0 _).trans J6.out.1, (heap_setCells J6.out.2.2.2.2.1.2.1 _ 0 _).trans J6.out.2.1, below_setCells J6.out.2.2.2.2.1.2.2 _ 0 _ J6.out.2.2.1, by rw [blk_setCells _ 0 _ _ J6.out.2.2.2.1, putC_all (by rw [arr32_size, HWL.out, row32_size (by decide)])], J6.out.2.2.2.2.1, (heap_setCells (Ne.symm J6.out.2.2.2.2.2.2.2.2.1) _ 0 _).trans J6.out.2.2.2.2.2.1, J6.out.2.2.2.2.2.2⟩⟩; clear hw7 J6)
  | ((with_reducible refine gate_store (t := 235) (p := 6) rfl ?_); refine store_arr rfl rfl rfl (vs := arr32 kL) rfl rfl J7.out.2.2.2.2.2.1 (by rw [arr32_size, HKL.out, row32_size (by decide)]; exact Nat.le_refl _) arr32_one HSK.out ?_; intro w8 hw8; have J8 : Aside0 (w8.heap[g2]? = some (.cells (arr32 st) 230 (0, 0)) ∧ w8.heap[g4]? = some (.cells (arr32 (List.replicate 8 0)) 230 (0, 0)) ∧ Below w.heap.size w w8 ∧ w8.heap[g5]? = some (.cells (arr32 ws) 235 (0, 0)) ∧ w8.heap[g6]? = some (.cells (arr32 kL) 235 (0, 0))) := ⟨by rw [hw8]; exact ⟨(heap_setCells J7.out.2.2.2.2.2.2.1 _ 0 _).trans J7.out.1, (heap_setCells J7.out.2.2.2.2.2.2.2.1 _ 0 _).trans J7.out.2.1, below_setCells J7.out.2.2.2.2.2.2.2.2.2 _ 0 _ J7.out.2.2.1, (heap_setCells J7.out.2.2.2.2.2.2.2.2.1 _ 0 _).trans J7.out.2.2.2.1, by rw [blk_setCells _ 0 _ _ J7.out.2.2.2.2.2.1, putC_all (by rw [arr32_size, HKL.out, row32_size (by decide)])]⟩⟩; clear hw8 J7)
  | ((with_reducible refine gate_dst (N := 19) rfl ?_); refine load_event rfl (N := 19) rfl (t := 230) rfl (cs := arr32 st) rfl (blk_cells J8.out.1) Tryz.isAgg230 HSS.out ?_)
  | ((with_reducible refine gate_dst (N := 7) rfl ?_); refine box_event ?hg (N := 7) ?hd (cs := arr32 (List.replicate 8 0)) (t := 230) ?hr ?_; (case hd => rfl); (case hg => rfl); (case hr => (go_simp; rfl)); intro g7 hg7 w9 hx7 hb7; have J9 : Aside0 (Mx w w9 g2 g4 g5 g6 g7 st ws (List.replicate 8 0)) := ⟨⟨blk_below J8.out.1 hb7, blk_below J8.out.2.1 hb7, blk_below J8.out.2.2.2.1 hb7, blk_below J8.out.2.2.2.2 hb7, hx7, below_step J8.out.2.2.1 hb7, by have := blk_lt J8.out.1; omega, by have := blk_lt J8.out.2.1; omega, by have := blk_lt J8.out.2.2.2.1; omega, by have := blk_lt J8.out.2.2.2.2; omega, by have := J8.out.2.2.1.size; omega⟩⟩; clear hg7 hx7 hb7 J8)
  | ((with_reducible refine gate_store (t := 230) (p := 7) rfl ?_); refine store_arr rfl rfl rfl (vs := arr32 st) rfl rfl J9.out.b7 (by rw [HSZ.out]; exact Nat.le_refl 8) arr32_one HSS.out ?_; intro w10 hw10; have J10 := jo (J9.out.put (by rw [HST.out]; rfl) hw10); clear hw10 J9))
 go_loopg [8, 9, 10, 11, 12, 13, 14, 20] 64 (fun gk v8 v9 v10 v11 v12 v13 v14 v20 wr => ∃ t : Nat, v20 = .int .i64 t ∧ Aside0 (t + gk = 64 ∧ Mx w wr g2 g4 g5 g6 g7 st ws (rnds ws t st)))
 case atStart => exact ⟨0, rfl, ⟨rfl, J10.out⟩⟩
 case round =>
  obtain ⟨t, rfl, HA⟩ := hrel
  clear J10
  obtain ⟨l, hl⟩ : ∃ l, l = rnds ws t st := ⟨_, rfl⟩
  have hll : l.length = 8 := by rw [hl]; exact rnds_length _ _ _ HST.out
  rw [← hl] at HA
  have HL := jo hl
  have HLL := jo hll
  by_cases hlt : t < 64
  ·have d1 : decide ((t : Int) < 64) = true := decide_eq_true (by omega)
   have d2 : decide (t < 64) = true := decide_eq_true hlt
   have gt : (t : Int) < 64 := by omega
   obtain ⟨gq, rfl⟩ : ∃ q, gk = q + 1 := ⟨gk - 1, by have := HA.out.1; omega⟩
   have cell : ∀ i : Nat, i < 8 → wr.cell? ⟨g7, i, none⟩ = some (.int .u32 (rd l i)) := fun i hi => by
    rw [blk_cell HA.out.2.b7]
    exact arr32_at (by omega)
   have f0 := cell 0 (by omega)
   have f1 := cell 1 (by omega)
   have f2 := cell 2 (by omega)
   have f3 := cell 3 (by omega)
   have f4 := cell 4 (by omega)
   have f5 := cell 5 (by omega)
   have f6 := cell 6 (by omega)
   have f7 := cell 7 (by omega)
   have fw : wr.cell? ⟨g5, t, none⟩ = some (.int .u32 (rd ws t)) := by
    rw [blk_cell HA.out.2.b5]
    exact arr32_at (by have := HWL.out; omega)
   have fk : wr.cell? ⟨g6, t, none⟩ = some (.int .u32 (rd kL t)) := by
    rw [blk_cell HA.out.2.b6]
    exact arr32_at (by have := HKL.out; omega)
   clear cell hll hl
   obtain ⟨a, ha⟩ : ∃ x, x = rd l (0 : Nat) := ⟨_, rfl⟩
   obtain ⟨b1, hb1⟩ : ∃ x, x = rd l (1 : Nat) := ⟨_, rfl⟩
   obtain ⟨c1, hc1⟩ : ∃ x, x = rd l (2 : Nat) := ⟨_, rfl⟩
   obtain ⟨d, hd⟩ : ∃ x, x = rd l (3 : Nat) := ⟨_, rfl⟩
   obtain ⟨e, he⟩ : ∃ x, x = rd l (4 : Nat) := ⟨_, rfl⟩
   obtain ⟨f, hf⟩ : ∃ x, x = rd l (5 : Nat) := ⟨_, rfl⟩
   obtain ⟨g, hg⟩ : ∃ x, x = rd l (6 : Nat) := ⟨_, rfl⟩
   obtain ⟨h8, hh⟩ : ∃ x, x = rd l (7 : Nat) := ⟨_, rfl⟩
   obtain ⟨wt, hwt⟩ : ∃ x, x = rd ws (t : Nat) := ⟨_, rfl⟩
   obtain ⟨kt, hkt⟩ : ∃ x, x = rd kL (t : Nat) := ⟨_, rfl⟩
   rw [← ha] at f0
   rw [← hb1] at f1
   rw [← hc1] at f2
   rw [← hd] at f3
   rw [← he] at f4
   rw [← hf] at f5
   rw [← hg] at f6
   rw [← hh] at f7
   rw [← hwt] at fw
   rw [← hkt] at fk
   have HE := jo (And.intro ha (And.intro hb1 (And.intro hc1 (And.intro hd (And.intro he (And.intro hf (And.intro hg (And.intro hh (And.intro hwt hkt)))))))))
   clear ha hb1 hc1 hd he hf hg hh hwt hkt
   go_wp2
   refine st_ (S := fun w' => w'.cell? ⟨g7, 0, none⟩ = some (.int .u32 a) ∧ w'.cell? ⟨g7, 4, none⟩ = some (.int .u32 e)) (ds := []) 6 ⟨f0, f4⟩ (fun hHeld => ?_)
   refine td_ [0, 2] ?_
   repeat (first | refine pp_ ?_ | refine po_ ?_)
   refine tn_ ?_
   refine td_ [1] ?_
   repeat (refine pt_ hHeld ?_)
   refine tn_ ?_
   refine td_ [4] ?_
   repeat (first | refine pp_ ?_ | refine po_ ?_)
   refine tn_ ?_
   refine td_ [3] ?_
   repeat (refine pt_ hHeld ?_)
   refine tn_ ?_
   refine td_ [5] ?_
   repeat (first | refine pp_ ?_ | refine po_ ?_)
   refine tn_ ?_
   refine dn_ ?_
   go_wp2
   generalize hch : Go.bits .xor .u32 (Go.bits .and .u32 e f) (Go.bits .and .u32 (Go.bits .xor .u32 IntKind.u32.max e) g) = ch
   generalize hmj : Go.bits .xor .u32 (Go.bits .xor .u32 (Go.bits .and .u32 a b1) (Go.bits .and .u32 a c1)) (Go.bits .and .u32 b1 c1) = mj
   have HCM := jo (And.intro (show chP e f g = ch from hch) (show mjP a b1 c1 = mj from hmj))
   clear hch hmj
   have O6 : Aside0 (sha_rotr.f e 6 = some (rot e 6)) := ⟨rot_spec (by decide +kernel)⟩
   have O11 : Aside0 (sha_rotr.f e 11 = some (rot e 11)) := ⟨rot_spec (by decide +kernel)⟩
   have O25 : Aside0 (sha_rotr.f e 25 = some (rot e 25)) := ⟨rot_spec (by decide +kernel)⟩
   have O2 : Aside0 (sha_rotr.f a 2 = some (rot a 2)) := ⟨rot_spec (by decide +kernel)⟩
   have O13 : Aside0 (sha_rotr.f a 13 = some (rot a 13)) := ⟨rot_spec (by decide +kernel)⟩
   have O22 : Aside0 (sha_rotr.f a 22 = some (rot a 22)) := ⟨rot_spec (by decide +kernel)⟩
   refine st_ (S := fun w' => w'.cell? ⟨g7, 7, none⟩ = some (.int .u32 h8) ∧ w'.cell? ⟨g6, t, none⟩ = some (.int .u32 kt) ∧ w'.cell? ⟨g5, t, none⟩ = some (.int .u32 wt)) (ds := []) 22 ⟨f7, fk, fw⟩ (fun hHeld => ?_)
   refine td_ [0, 2, 4, 7, 11, 13, 14, 17, 18] ?_
   repeat (first | refine pp_ ?_ | refine po_ ?_)
   refine tn_ ?_
   refine td_ [1, 15, 19] ?_
   repeat (refine pt_ hHeld ?_)
   refine tn_ ?_
   refine on_ 3 (fun K hK => ?_)
   refine gs_ Tryz.func179 #[.int .u32 e, .int .i64 6] ?_
   with_reducible refine ((sha_rotr.calls e 6 _ _ O6.out)).mono ?_
   rintro er wr6 ⟨rfl, ⟨kr6, rfl⟩⟩
   refine ⟨_, rfl, ?_⟩
   refine hK.out _ _ ⟨f7, fk, fw⟩ (fun hHeld => ?_)
   clear hK K
   refine nm_ (some 55) ?_
   refine on_ 5 (fun K hK => ?_)
   refine gs_ Tryz.func179 #[.int .u32 e, .int .i64 11] ?_
   with_reducible refine ((sha_rotr.calls e 11 _ _ O11.out)).mono ?_
   rintro er wr11 ⟨rfl, ⟨kr11, rfl⟩⟩
   refine ⟨_, rfl, ?_⟩
   refine hK.out _ _ ⟨f7, fk, fw⟩ (fun hHeld => ?_)
   clear hK K
   refine nm_ (some 57) ?_
   refine td_ [6] ?_
   repeat (first | refine pp_ ?_ | refine po_ ?_)
   refine tn_ ?_
   refine on_ 8 (fun K hK => ?_)
   refine gs_ Tryz.func179 #[.int .u32 e, .int .i64 25] ?_
   with_reducible refine ((sha_rotr.calls e 25 _ _ O25.out)).mono ?_
   rintro er wr25 ⟨rfl, ⟨kr25, rfl⟩⟩
   refine ⟨_, rfl, ?_⟩
   refine hK.out _ _ ⟨f7, fk, fw⟩ (fun hHeld => ?_)
   clear hK K
   refine nm_ (some 60) ?_
   refine td_ [9, 10, 12, 16, 20, 21] ?_
   repeat (first | refine pp_ ?_ | refine po_ ?_)
   refine tn_ ?_
   refine dn_ ?_
   generalize hT1 : IntKind.u32.wrap (IntKind.u32.wrap (IntKind.u32.wrap (IntKind.u32.wrap (h8 + Go.bits .xor .u32 (Go.bits .xor .u32 (rot e 6) (rot e 11)) (rot e 25)) + ch) + kt) + wt) = t1
   have fff := fun i => blk_frozen HA.out.2.b7 i
   have hrnd : rnd ws t l = [(t1 + (Go.bits .xor .u32 (Go.bits .xor .u32 (rot a 2) (rot a 13)) (rot a 22) + mj)) % 4294967296, a, b1, c1, (d + t1) % 4294967296, e, f, g] := by
    obtain ⟨ha, hb1, hc1, hd, he, hf, hg, hh, hwt, hkt⟩ := HE.out
    unfold rnd t1P t2P
    rw [← ha, ← hb1, ← hc1, ← hd, ← he, ← hf, ← hg, ← hh, ← hwt, ← hkt, HCM.out.1, HCM.out.2, hT1]
   have HRN := jo hrnd
   clear hT1 hrnd O6 O11 O25
   go_wp2_with (go_at_call 179; (first | (with_reducible refine (sha_rotr.calls _ _ _ _ O2.out).mono ?_) | (with_reducible refine (sha_rotr.calls _ _ _ _ O13.out).mono ?_) | (with_reducible refine (sha_rotr.calls _ _ _ _ O22.out).mono ?_)); rintro er wr1 ⟨rfl, ⟨k1, rfl⟩⟩)
   go_roundg gq
   case measure => omega
   case rel => exact ⟨t + 1, rfl, ⟨by have := HA.out.1; omega, by
    show Mx w _ g2 g4 g5 g6 g7 st ws (rnd ws t (rnds ws t st))
    rw [← HL.out, HRN.out]
    exact (HA.out.2.drew _).put (by rw [HLL.out]; rfl) rfl⟩⟩
  ·have d1 : decide ((t : Int) < 64) = false := decide_eq_false (by omega)
   have d2 : decide (t < 64) = false := decide_eq_false hlt
   have ht : t = 64 := by have := HA.out.1; omega
   have HX := jo (And.intro ht HA.out.2)
   clear HA ht hll hl
   go_wp2
   go_loopg [15, 102] 8 (fun gk v15 v102 wr => ∃ i : Nat, v102 = .int .i64 i ∧ Aside0 (i + gk = 8 ∧ Mx w wr g2 g4 g5 g6 g7 st ws (addN st l i)))
   case atStart => exact ⟨0, rfl, ⟨rfl, HX.out.2⟩⟩
   case round =>
    obtain ⟨i, rfl, HI⟩ := hrel
    by_cases hi8 : i < 8
    ·have e1 : decide ((i : Int) < 8) = true := decide_eq_true (by omega)
     have e2 : decide (i < 8) = true := decide_eq_true hi8
     have e3 : (i : Int) < 8 := by omega
     obtain ⟨gq, rfl⟩ : ∃ q, gk = q + 1 := ⟨gk - 1, by have := HI.out.1; omega⟩
     have f7 : wr.cell? ⟨g7, i, none⟩ = some (.int .u32 (rd (addN st l i) i)) := by
      rw [blk_cell HI.out.2.b7]
      exact arr32_at (by rw [addN_length, HLL.out]; exact hi8)
     have f2 : wr.cell? ⟨g2, i, none⟩ = some (.int .u32 (rd st i)) := by
      rw [blk_cell HI.out.2.b2]
      exact arr32_at (by rw [HST.out]; exact hi8)
     obtain ⟨x, hx⟩ : ∃ x, x = rd (addN st l i) i := ⟨_, rfl⟩
     obtain ⟨y, hy⟩ : ∃ y, y = rd st i := ⟨_, rfl⟩
     rw [← hx] at f7
     rw [← hy] at f2
     have f7' : wr.drew.cell? ⟨g7, i, none⟩ = some (.int .u32 x) := f7
     have f2' : wr.drew.cell? ⟨g2, i, none⟩ = some (.int .u32 y) := f2
     have ff : wr.drew.frozen? ⟨g7, i, none⟩ = false := blk_frozen HI.out.2.b7 i
     have HXY := jo (And.intro hx hy)
     clear hx hy
     go_wp2
     refine st_ (S := fun w' => w'.cell? ⟨g7, i, none⟩ = some (.int .u32 x) ∧ w'.cell? ⟨g2, i, none⟩ = some (.int .u32 y)) (ds := [8]) 9 ⟨f7', f2'⟩ (fun hHeld => ?_)
     refine td_ [0, 1, 3, 4] ?_
     repeat (first | refine pp_ ?_ | refine po_ ?_)
     refine tn_ ?_
     refine td_ [2, 5] ?_
     repeat (refine pt_ hHeld ?_)
     refine tn_ ?_
     refine td_ [6, 7] ?_
     repeat (first | refine pp_ ?_ | refine po_ ?_)
     refine tn_ ?_
     refine la_ 8 (fun K hK => ?_)
     refine skip_ (w1 := ?_) (by rfl) rfl ?_ ?_
     rotate_left
     ·go_simp
      rfl
     refine hK.out _ _ ?_
     clear hK K
     refine dn_ ?_
     go_wp2
     go_roundg gq
     case measure => omega
     case rel => exact ⟨i + 1, rfl, ⟨by have := HI.out.1; omega, by
      show Mx w _ g2 g4 g5 g6 g7 st ws ((addN st l i).set i ((rd (addN st l i) i + rd st i) % 4294967296))
      rw [← HXY.out.1, ← HXY.out.2]
      exact (HI.out.2.set _).drew 1⟩⟩
    ·have e1 : decide ((i : Int) < 8) = false := decide_eq_false (by omega)
     have e2 : decide (i < 8) = false := decide_eq_false hi8
     have hi : i = 8 := by have := HI.out.1; omega
     have hout : out = addN st l i := by
      rw [HO.out]
      unfold mixF
      rw [hi, HL.out, HWS.out, HX.out.1]
     rw [← hout] at HI
     have hol : out.length = 8 := by rw [hout, addN_length, HLL.out]
     have HOL := jo hol
     have HSO : Aside0 (∀ w, (sizeOf 230).run Tryz.prog w = .ok (arr32 out).size w) := ⟨fun w => by rw [arr32_size, HOL.out]; exact Tryz.sizeOf230 w⟩
     clear hout hol hi
     go_wp2_with (first | ((with_reducible refine gate_dst (N := 114) rfl ?_); refine load_event rfl (N := 114) rfl (t := 230) rfl (cs := arr32 out) rfl (blk_cells HI.out.2.b7) Tryz.isAgg230 HSO.out ?_) | ((with_reducible refine gate_store (t := 230) (p := 4) rfl ?_); refine store_arr rfl rfl rfl (vs := arr32 out) rfl rfl HI.out.2.b4 (by rw [arr32_size, HOL.out]; exact Nat.le_refl 8) arr32_one HSO.out ?_; intro w5 hw5))
     have h5 : w5.heap[g4]? = some (.cells (arr32 out) 230 (0, 0)) := by
      rw [hw5, blk_setCells _ 0 _ _ HI.out.2.b4, putC_all (by rw [arr32_size, HOL.out]; rfl)]
     have hb5 : Below w.heap.size w w5 := by
      rw [hw5]
      exact below_setCells (by have := HG.out; omega) _ 0 _ HI.out.2.bel
     refine bodyPost_ret (results_cell_row rfl _ _ g4 230 (arr32 out) (0, 0) _ rfl h5 Tryz.underlying230 rfl (by rw [arr32_size, HOL.out]; exact size230)) rfl ?_
     exact ⟨rfl, hb5⟩
end Go.Proofs.YtjmooillogojkaaGreat.Q
