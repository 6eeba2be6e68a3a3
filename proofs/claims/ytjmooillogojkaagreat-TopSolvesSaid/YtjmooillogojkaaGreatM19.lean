/- manifest.Check, plan, All, Plan of a manifest that may be; inner.formed, of a whole that is a manifest's; block.Cut: a file is cut into blocks of one size, the last filled up with zeros; or the er ... No condition. -/
import Derived.Test.YtjmooillogojkaaGreatM08
import Derived.Test.YtjmooillogojkaaGreatM13
set_option maxHeartbeats 8000000
set_option maxRecDepth 100000
set_option linter.unusedVariables false
set_option linter.unusedSimpArgs false
namespace Go.Proofs.YtjmooillogojkaaGreat.Q
open Go.RowKit Go.Proofs.YtjmooillogojkaaGreatW.PrintWords Go.Proofs.YtjmooillogojkaaGreatW.PrintLast Go.Proofs.YtjmooillogojkaaGreatW.PrintMore
open Go.Proofs.YtjmooillogojkaaGreat Plain Deg
structure MF where
 long : Int
 size : Int
 seed : Int
 n : Int
 d : Int
 q : Int
 f : Int
 root : ByteArray
def MF.v (m : MF) : Value := .agg #[.int .i64 m.long, .int .i64 m.size, .int .i64 m.seed, .int .i64 m.n, .int .i64 m.d, .int .i64 m.q, .int .i64 m.f, .string m.root]
def MF.N (m : MF) : Int := cntI m.long m.size
def MF.A (m : MF) : Int := ceilM (55 * m.q * m.n * m.N) (100 * m.d)
structure MF.may (m : MF) : Prop where
 cnt : 0 < m.N
 seed : seedB m.seed = true
 code : codeB m.n m.d m.q m.f = true
def MF.B (m : MF) : Bool := decide (0 < m.N) && seedB m.seed && codeB m.n m.d m.q m.f
theorem MF.B_iff (m : MF) : m.B = true ↔ m.may := by
 unfold MF.B
 simp only [Bool.and_eq_true, decide_eq_true_eq]
 exact ⟨fun h => ⟨h.1.1, h.1.2, h.2⟩, fun h => ⟨⟨h.cnt, h.seed⟩, h.code⟩⟩
def MF.cells (m : MF) : Array Value := #[.int .i64 m.long, .int .i64 m.size, .int .i64 m.seed, .int .i64 m.n, .int .i64 m.d, .int .i64 m.q, .int .i64 m.f, .string m.root]
theorem MF.le (m : MF) : m.N ≤ 96 := by
 unfold MF.N cntI
 split
 ·omega
 ·split <;> omega
theorem MF.may.aux {m : MF} (h : m.may) (k : Nat) : degree_Aux.f (k + 1) m.n m.d m.q m.f m.N = some (m.A, 0) := by
 rw [aux_spec]
 unfold auxP MF.A
 rw [if_pos ⟨h.code, h.cnt, m.le⟩]
theorem mcheck_ok {m : MF} (h : m.may) (hr : m.root.size = 32) (w : World) : Calls Tryz.prog 41 #[m.v] w fun e w' => e = .returned (.bool true) ∧ Below w.heap.size w w' := by
 have c1 := count_spec 0 m.long m.size
 have c2 := seeded_spec m.seed
 have c3 := check6 m.n m.d m.q m.f
 rw [h.seed] at c2
 rw [h.code] at c3
 have hN := h.cnt
 have C1 := jo c1
 have C2 := jo c2
 have C3 := jo c3
 have b1 : decide (0 < cntI m.long m.size) = true := decide_eq_true hN
 have b2 : decide (cntI m.long m.size > 0) = true := decide_eq_true hN
 have b3 : ((m.root.size : Int) == 32) = true := by rw [hr]; rfl
 clear h hN c1 c2 c3 hr
 unfold MF.v
 obtain ⟨long, size, seed, n, d, q, f, root⟩ := m
 simp only at *
 generalize cntI long size = N at *
 go_enter Tryz.func41, Tryz.ntmps41
 go_wp2_with (first | (go_at_call 69; (with_reducible refine (block_Count.calls 1 _ _ _ _ C1.out).mono ?_); rintro e w1 ⟨rfl, ⟨k, rfl⟩⟩) | (go_at_call 34; (with_reducible refine (manifest_seeded.calls _ _ _ C2.out).mono ?_); rintro e w1 ⟨rfl, ⟨k', rfl⟩⟩))
 have p1 : Below w.heap.size w ((w.alloc (.cells #[.int .i64 long, .int .i64 size, .int .i64 seed, .int .i64 n, .int .i64 d, .int .i64 q, .int .i64 f, .string root] 30)).drewN (k + k')) := pw_below_drewN (below_alloc (Below.refl _ _) _) _
 have k1 : ((w.alloc (.cells #[.int .i64 long, .int .i64 size, .int .i64 seed, .int .i64 n, .int .i64 d, .int .i64 q, .int .i64 f, .string root] 30)).drewN (k + k')).heap[w.heap.size]? = some (.cells #[.int .i64 long, .int .i64 size, .int .i64 seed, .int .i64 n, .int .i64 d, .int .i64 q, .int .i64 f, .string root] 30 (0, 0)) := blk_new w _
 generalize (w.alloc (.cells #[.int .i64 long, .int .i64 size, .int .i64 seed, .int .i64 n, .int .i64 d, .int .i64 q, .int .i64 f, .string root] 30)).drewN (k + k') = W1 at p1 k1 ⊢
 (with_reducible refine (degree_Check.calls _ _ _ _ _ _ C3.out).mono ?_)
 rintro e w2 ⟨rfl, hb2⟩
 have kc : w2.cell? ⟨w.heap.size, 7, none⟩ = some (.string root) := blk_cell (blk_below k1 hb2) 7
 have HB := jo (below_step p1 hb2)
 clear p1 k1 hb2
 go_wp2
 go_ret
 exact ⟨rfl, HB.out⟩
theorem plan_ok {m : MF} (h : m.may) (w : World) : Calls Tryz.prog 37 #[m.v] w fun e w' => e = .returned (.agg #[.int .i64 m.seed, .int .i64 m.N, .int .i64 m.A, .int .i64 m.q]) ∧ Below w.heap.size w w' := by
 have C1 := jo (show block_Count.f 1 m.long m.size = some m.N from count_spec 0 m.long m.size)
 have C2 := jo (h.aux 0)
 clear h
 unfold MF.v
 generalize m.N = N at *
 generalize m.A = A at *
 obtain ⟨long, size, seed, n, d, q, f, root⟩ := m
 simp only at *
 go_enter Tryz.func37, Tryz.ntmps37
 go_wp2_with (go_at_call 69; (with_reducible refine (block_Count.calls 1 _ _ _ _ C1.out).mono ?_); rintro e w1 ⟨rfl, ⟨k, rfl⟩⟩)
 have p1 : Below w.heap.size w (((w.alloc (.cells #[.int .i64 long, .int .i64 size, .int .i64 seed, .int .i64 n, .int .i64 d, .int .i64 q, .int .i64 f, .string root] 30)).alloc (.cells #[.int .i64 0, .int .i64 0, .int .i64 0, .int .i64 0] 55)).drewN k) := pw_below_drewN (below_alloc (below_alloc (Below.refl _ _) _) _) _
 have k1 : (((w.alloc (.cells #[.int .i64 long, .int .i64 size, .int .i64 seed, .int .i64 n, .int .i64 d, .int .i64 q, .int .i64 f, .string root] 30)).alloc (.cells #[.int .i64 0, .int .i64 0, .int .i64 0, .int .i64 0] 55)).drewN k).heap[w.heap.size]? = some (.cells #[.int .i64 long, .int .i64 size, .int .i64 seed, .int .i64 n, .int .i64 d, .int .i64 q, .int .i64 f, .string root] 30 (0, 0)) := blk_drewN (blk_alloc (blk_new w _) _) k
 have k2 : (((w.alloc (.cells #[.int .i64 long, .int .i64 size, .int .i64 seed, .int .i64 n, .int .i64 d, .int .i64 q, .int .i64 f, .string root] 30)).alloc (.cells #[.int .i64 0, .int .i64 0, .int .i64 0, .int .i64 0] 55)).drewN k).heap[w.heap.size + 1]? = some (.cells #[.int .i64 0, .int .i64 0, .int .i64 0, .int .i64 0] 55 (0, 0)) := by
  have := blk_new (w.alloc (.cells #[.int .i64 long, .int .i64 size, .int .i64 seed, .int .i64 n, .int .i64 d, .int .i64 q, .int .i64 f, .string root] 30)) (.cells #[.int .i64 0, .int .i64 0, .int .i64 0, .int .i64 0] 55)
  rw [World.size_alloc] at this
  exact blk_drewN this k
 generalize ((w.alloc (.cells #[.int .i64 long, .int .i64 size, .int .i64 seed, .int .i64 n, .int .i64 d, .int .i64 q, .int .i64 f, .string root] 30)).alloc (.cells #[.int .i64 0, .int .i64 0, .int .i64 0, .int .i64 0] 55)).drewN k = W1 at p1 k1 k2 ⊢
 (with_reducible refine (degree_Aux.calls _ _ _ _ _ _ _ _ _ C2.out).mono ?_)
 rintro e w2 ⟨rfl, hb2⟩
 have j1 := blk_below k1 hb2
 have j2 := blk_below k2 hb2
 have kc : w2.cell? ⟨w.heap.size, 2, none⟩ = some (.int .i64 seed) := blk_cell j1 2
 have kd : w2.cell? ⟨w.heap.size, 5, none⟩ = some (.int .i64 q) := blk_cell j1 5
 have ke := fun i => blk_frozen j2 i
 have kf : ∀ i, w2.cell? ⟨w.heap.size + 1, i, none⟩ = #[Value.int .i64 0, .int .i64 0, .int .i64 0, .int .i64 0][i]? := fun i => blk_cell j2 i
 have J2 := jo j2
 have HB := jo (below_step p1 hb2)
 clear p1 k1 k2 hb2 j1 j2
 go_wp2
 refine bodyPost_ret (results_cell_row rfl _ _ (w.heap.size + 1) 55 #[.int .i64 seed, .int .i64 N, .int .i64 A, .int .i64 q] (0, 0) _ rfl (blk_put (blk_put (blk_put (blk_put J2.out 0 _ rfl) 1 _ rfl) 2 _ rfl) 3 _ rfl) Tryz.underlying55 rfl jw) rfl ?_
 exact ⟨rfl, below_set (below_set (below_set (below_set HB.out (by simp)) (by simp)) (by simp)) (by simp)⟩
theorem all_ok {m : MF} (h : m.may) (hr : m.root.size = 32) (w : World) : Calls Tryz.prog 79 #[m.v] w fun e w' => e = .returned (.int .i64 (m.N + m.A)) ∧ Below w.heap.size w w' := by
 have M1 := jo (fun W => mcheck_ok h hr W)
 have M2 := jo (fun W => plan_ok h W)
 have hw : wrap64 (m.N + m.A) = m.N + m.A := by
  have h1 := m.le
  have h2 := h.cnt
  have h3 : m.A ≤ 64 := by
   unfold MF.A ceilM
   split <;> omega
  have h4 : 0 < m.A := by
   have t := top_bound h.code (n := m.N) (by omega) h1
   have hd := (codeB_iff ..).1 h.code
   unfold MF.A ceilM
   have : 0 < (55 * m.q * m.n * m.N + 100 * m.d - 1) / (100 * m.d) := by
    have := (Int.le_ediv_iff_mul_le (a := 1) (b := 55 * m.q * m.n * m.N + 100 * m.d - 1) (c := 100 * m.d) (by omega)).2 (by omega)
    omega
   split <;> omega
  exact w64 (by omega) (by omega)
 clear h hr
 unfold MF.v at *
 generalize m.N = N at *
 generalize m.A = A at *
 obtain ⟨long, size, seed, n, d, q, f, root⟩ := m
 simp only at *
 go_enter Tryz.func79, Tryz.ntmps79
 go_wp2_with fail
 have p1 : Below w.heap.size w (w.alloc (.cells #[.int .i64 long, .int .i64 size, .int .i64 seed, .int .i64 n, .int .i64 d, .int .i64 q, .int .i64 f, .string root] 30)) := below_alloc (Below.refl _ _) _
 have k1 : (w.alloc (.cells #[.int .i64 long, .int .i64 size, .int .i64 seed, .int .i64 n, .int .i64 d, .int .i64 q, .int .i64 f, .string root] 30)).heap[w.heap.size]? = some (.cells #[.int .i64 long, .int .i64 size, .int .i64 seed, .int .i64 n, .int .i64 d, .int .i64 q, .int .i64 f, .string root] 30 (0, 0)) := blk_new w _
 generalize w.alloc (.cells #[.int .i64 long, .int .i64 size, .int .i64 seed, .int .i64 n, .int .i64 d, .int .i64 q, .int .i64 f, .string root] 30) = W1 at p1 k1 ⊢
 (with_reducible refine (M1.out _).mono ?_)
 rintro e w2 ⟨rfl, hb2⟩
 have j1 := blk_below k1 hb2
 have p2 := below_step p1 hb2
 have J1 := jo j1
 have P2 := jo p2
 have c0 : w2.cell? ⟨w.heap.size, 0, none⟩ = some (.int .i64 long) := blk_cell j1 0
 have c1 : w2.cell? ⟨w.heap.size, 1, none⟩ = some (.int .i64 size) := blk_cell j1 1
 have c2 : w2.cell? ⟨w.heap.size, 2, none⟩ = some (.int .i64 seed) := blk_cell j1 2
 have c3 : w2.cell? ⟨w.heap.size, 3, none⟩ = some (.int .i64 n) := blk_cell j1 3
 have c4 : w2.cell? ⟨w.heap.size, 4, none⟩ = some (.int .i64 d) := blk_cell j1 4
 have c5 : w2.cell? ⟨w.heap.size, 5, none⟩ = some (.int .i64 q) := blk_cell j1 5
 have c6 : w2.cell? ⟨w.heap.size, 6, none⟩ = some (.int .i64 f) := blk_cell j1 6
 have c7 : w2.cell? ⟨w.heap.size, 7, none⟩ = some (.string root) := blk_cell j1 7
 clear p1 k1 hb2 j1 p2
 go_wp2_with (go_at_call 37; (with_reducible refine (M2.out _).mono ?_); rintro e w3 ⟨rfl, hb3⟩)
 go_ret
 refine ⟨?_, below_alloc (below_step P2.out hb3) _⟩
 show Ending.returned (.int .i64 (wrap64 (N + A))) = _
 rw [hw]
theorem mplan_ok {m : MF} (h : m.may) (hr : m.root.size = 32) (w : World) : Calls Tryz.prog 14 #[m.v] w fun e w' => e = .returned (.tuple #[.agg #[.int .i64 m.seed, .int .i64 m.N, .int .i64 m.A, .int .i64 m.q], .int .i64 0]) ∧ Below w.heap.size w w' := by
 have M1 := jo (fun W => mcheck_ok h hr W)
 have M2 := jo (fun W => plan_ok h W)
 clear h hr
 unfold MF.v at *
 generalize m.N = N at *
 generalize m.A = A at *
 obtain ⟨long, size, seed, n, d, q, f, root⟩ := m
 simp only at *
 go_enter Tryz.func14, Tryz.ntmps14
 go_wp2_with fail
 have p1 : Below w.heap.size w ((w.alloc (.cells #[.int .i64 long, .int .i64 size, .int .i64 seed, .int .i64 n, .int .i64 d, .int .i64 q, .int .i64 f, .string root] 30)).alloc (.cells #[.int .i64 0, .int .i64 0, .int .i64 0, .int .i64 0] 55)) := below_alloc (below_alloc (Below.refl _ _) _) _
 have k1 : ((w.alloc (.cells #[.int .i64 long, .int .i64 size, .int .i64 seed, .int .i64 n, .int .i64 d, .int .i64 q, .int .i64 f, .string root] 30)).alloc (.cells #[.int .i64 0, .int .i64 0, .int .i64 0, .int .i64 0] 55)).heap[w.heap.size]? = some (.cells #[.int .i64 long, .int .i64 size, .int .i64 seed, .int .i64 n, .int .i64 d, .int .i64 q, .int .i64 f, .string root] 30 (0, 0)) := blk_alloc (blk_new w _) _
 have k2 : ((w.alloc (.cells #[.int .i64 long, .int .i64 size, .int .i64 seed, .int .i64 n, .int .i64 d, .int .i64 q, .int .i64 f, .string root] 30)).alloc (.cells #[.int .i64 0, .int .i64 0, .int .i64 0, .int .i64 0] 55)).heap[w.heap.size + 1]? = some (.cells #[.int .i64 0, .int .i64 0, .int .i64 0, .int .i64 0] 55 (0, 0)) := by
  have := blk_new (w.alloc (.cells #[.int .i64 long, .int .i64 size, .int .i64 seed, .int .i64 n, .int .i64 d, .int .i64 q, .int .i64 f, .string root] 30)) (.cells #[.int .i64 0, .int .i64 0, .int .i64 0, .int .i64 0] 55)
  rw [World.size_alloc] at this
  exact this
 generalize (w.alloc (.cells #[.int .i64 long, .int .i64 size, .int .i64 seed, .int .i64 n, .int .i64 d, .int .i64 q, .int .i64 f, .string root] 30)).alloc (.cells #[.int .i64 0, .int .i64 0, .int .i64 0, .int .i64 0] 55) = W1 at p1 k1 k2 ⊢
 (with_reducible refine (M1.out _).mono ?_)
 rintro e w2 ⟨rfl, hb2⟩
 have j1 := blk_below k1 hb2
 have j2 := blk_below k2 hb2
 have p2 := below_step p1 hb2
 have J2 := jo j2
 have P2 := jo p2
 have c0 : w2.cell? ⟨w.heap.size, 0, none⟩ = some (.int .i64 long) := blk_cell j1 0
 have c1 : w2.cell? ⟨w.heap.size, 1, none⟩ = some (.int .i64 size) := blk_cell j1 1
 have c2 : w2.cell? ⟨w.heap.size, 2, none⟩ = some (.int .i64 seed) := blk_cell j1 2
 have c3 : w2.cell? ⟨w.heap.size, 3, none⟩ = some (.int .i64 n) := blk_cell j1 3
 have c4 : w2.cell? ⟨w.heap.size, 4, none⟩ = some (.int .i64 d) := blk_cell j1 4
 have c5 : w2.cell? ⟨w.heap.size, 5, none⟩ = some (.int .i64 q) := blk_cell j1 5
 have c6 : w2.cell? ⟨w.heap.size, 6, none⟩ = some (.int .i64 f) := blk_cell j1 6
 have c7 : w2.cell? ⟨w.heap.size, 7, none⟩ = some (.string root) := blk_cell j1 7
 clear p1 k1 k2 hb2 j1 p2 j2
 go_wp2_with (go_at_call 37; (with_reducible refine (M2.out _).mono ?_); rintro e w3 ⟨rfl, hb3⟩; have j3 := blk_below J2.out hb3; have ke := fun i => blk_frozen j3 i; have kf : ∀ i, w3.cell? ⟨w.heap.size + 1, i, none⟩ = #[Value.int .i64 0, .int .i64 0, .int .i64 0, .int .i64 0][i]? := fun i => blk_cell j3 i; have J3 := jo j3; clear j3)
 refine bodyPost_ret (results_ct rfl _ _ (w.heap.size + 1) 55 #[.int .i64 seed, .int .i64 N, .int .i64 A, .int .i64 q] (0, 0) _ rfl (blk_put (blk_put (blk_put (blk_put J3.out 0 _ rfl) 1 _ rfl) 2 _ rfl) 3 _ rfl) Tryz.underlying55 rfl jw) rfl ?_
 exact ⟨rfl, below_set (below_set (below_set (below_set (below_step P2.out hb3) (by simp)) (by simp)) (by simp)) (by simp)⟩
theorem nonempty {x : ByteArray} (h : 0 < x.size) : x.toList.isEmpty = false := by
 rw [ByteArray.toList_eq, List.isEmpty_eq_false_iff]
 intro e
 have h3 := data_length x
 rw [e] at h3
 simp at h3
 omega
theorem pred81 {B : Nat} {n : Int} {l : List ByteArray} {w : World} (hB : B < w.heap.size) (hc : w.cell? ⟨B, 1, none⟩ = some (.int .i64 n)) (h1 : 1 ≤ n) (h : ∀ s ∈ l, (s.size : Int) = n) : PredS 81 #[.pointer (some ⟨B, 0, none⟩)] (fun _ => false) l w := by
 intro W i hi hb
 have hc' := (hb.cell (p := ⟨B, 1, none⟩) hB).trans hc
 have hs := h l[i] (List.getElem_mem hi)
 clear hc
 obtain ⟨x, hx⟩ : ∃ x, x = l[i] := ⟨_, rfl⟩
 rw [← hx] at hs ⊢
 clear hx h
 have b1 : x.toList.isEmpty = false := nonempty (by omega)
 have b4 : ¬ x.toList = [] := fun e => by rw [e] at b1; exact absurd b1 (by decide)
 have b2 : ((x.size : Int) != n) = false := by simp [hs]
 have HB := jo hb
 clear hb
 show Calls Tryz.prog 81 #[.string x, .pointer (some ⟨B, 0, none⟩)] W _
 go_enter Tryz.func81, Tryz.ntmps81
 go_wp2
 go_ret
 exact ⟨rfl, HB.out⟩
theorem formed_ok {m : MF} (h : m.may) (hroot : m.root.size = 32) {A : Option Addr} {c : Nat} {l : List ByteArray} (w : World) (hr : Kd.C Kd.string w A l.length l) (hc : l.length ≤ c) (hl : (l.length : Int) = m.N + m.A) (h1 : 1 ≤ m.size) (hs : ∀ s ∈ l, (s.size : Int) = m.size) :
  Calls Tryz.prog 39 #[m.v, .slice A l.length c] w fun e w' => e = .returned (.bool true) ∧ Below w.heap.size w w' := by
 have HR := jo hr
 have HS := jo hs
 have M1 := jo (fun W => all_ok h hroot W)
 rw [← hl] at M1
 have H1 := jo h1
 have eg := enters_of (P := Tryz.prog) (f := 81) Tryz.func81 jw rfl
 clear hr hs h hroot hl h1
 unfold MF.v at *
 obtain ⟨long, size, seed, n, d, q, f, root⟩ := m
 simp only at *
 go_enter Tryz.func39, Tryz.ntmps39
 go_wp2_with fail
 have p1 : Below w.heap.size w (w.alloc (.cells #[.int .i64 long, .int .i64 size, .int .i64 seed, .int .i64 n, .int .i64 d, .int .i64 q, .int .i64 f, .string root] 30)) := below_alloc (Below.refl _ _) _
 have k1 : (w.alloc (.cells #[.int .i64 long, .int .i64 size, .int .i64 seed, .int .i64 n, .int .i64 d, .int .i64 q, .int .i64 f, .string root] 30)).heap[w.heap.size]? = some (.cells #[.int .i64 long, .int .i64 size, .int .i64 seed, .int .i64 n, .int .i64 d, .int .i64 q, .int .i64 f, .string root] 30 (0, 0)) := blk_new w _
 generalize w.alloc (.cells #[.int .i64 long, .int .i64 size, .int .i64 seed, .int .i64 n, .int .i64 d, .int .i64 q, .int .i64 f, .string root] 30) = W1 at p1 k1 ⊢
 (with_reducible refine (M1.out _).mono ?_)
 rintro e w2 ⟨rfl, hb2⟩
 have j1 := blk_below k1 hb2
 have p2 := below_step p1 hb2
 have P2 := jo p2
 have J1 := jo j1
 have hlt := blk_lt j1
 have kc : w2.cell? ⟨w.heap.size, 1, none⟩ = some (.int .i64 size) := blk_cell j1 1
 have KC := jo kc
 clear p1 k1 hb2 p2 j1 kc
 go_wp2_with (go_at_call 80; (with_reducible refine (con_str eg w2 (Kd.C_below HR.out P2.out) hc (pred81 (n := size) hlt KC.out H1.out HS.out)).mono ?_); rintro e w3 ⟨rfl, hb3⟩; rw [any_false (fun _ _ => rfl)])
 go_ret
 exact ⟨rfl, below_step P2.out hb3⟩
end Go.Proofs.YtjmooillogojkaaGreat.Q
namespace Go.Proofs.YtjmooillogojkaaGreat.Q
open Go.RowKit Go.Proofs.YtjmooillogojkaaGreatW.PrintWords Go.Proofs.YtjmooillogojkaaGreatW.PrintLast Go.Proofs.YtjmooillogojkaaGreatW.PrintMore
open Go.Proofs.YtjmooillogojkaaGreat
def strings_Repeat.f (a0 : ByteArray) (a1 : Int) : Option ByteArray := if 0 ≤ a1 ∧ a1 ≤ 9223372036854775807 ∧ a0.size * a1.toNat ≤ 140737488355328 then some ⟨(Lib.repeatL a0.data.toList a1.toNat).toArray⟩ else none
theorem strings_Repeat.calls (a0 : ByteArray) (a1 : Int) (r : ByteArray) (w : World) (h : strings_Repeat.f a0 a1 = some r) :
  Calls Tryz.prog 58 #[.string a0, .int .i64 a1] w fun e w' => e = .returned (.string r) ∧ Below w.heap.size w w' := by
 unfold strings_Repeat.f at h
 split at h
 ·rename_i hc
  obtain rfl := Option.some.inj h
  obtain ⟨n, rfl⟩ := Int.eq_ofNat_of_zero_le hc.1
  exact Go.Proofs.Tryz.strings_Repeat a0 n w (by omega) (by simpa using hc.2.2)
 ·exact absurd h (by simp)
end Go.Proofs.YtjmooillogojkaaGreat.Q
namespace Go.Proofs.YtjmooillogojkaaGreat.Q
open Go.RowKit Go.Proofs.YtjmooillogojkaaGreatW.PrintWords Go.Proofs.YtjmooillogojkaaGreatW.PrintLast Go.Proofs.YtjmooillogojkaaGreatW.PrintMore
open Go.Proofs.YtjmooillogojkaaGreat Plain Deg
attribute [local go_sem] max2_int min2_int
def zeros (n : Nat) : ByteArray := ⟨(Lib.repeatL (⟨#[0]⟩ : ByteArray).data.toList n).toArray⟩
theorem repeat_zeros (n : Nat) (h : n ≤ 1000000) : strings_Repeat.f ⟨#[0]⟩ (n : Int) = some (zeros n) := by
 unfold strings_Repeat.f
 rw [if_pos ⟨by omega, by omega, by
  rw [Int.toNat_natCast]
  show 1 * n ≤ _
  omega⟩]
 rfl
theorem zeros_size (n : Nat) : (zeros n).size = n := by
 unfold zeros
 show (Lib.repeatL [0] n).toArray.size = n
 rw [List.size_toArray]
 induction n with
 | zero => rfl
 | succ n ih =>
  show (0 :: Lib.repeatL [0] n).length = n + 1
  rw [List.length_cons, ih]
def piece (s : ByteArray) (n i : Nat) : ByteArray := s.extract (i * n) (min ((i + 1) * n) s.size) ++ zeros (n - (min ((i + 1) * n) s.size - i * n))
def pieces (s : ByteArray) (n m : Nat) : List ByteArray := (List.range m).map (piece s n)
theorem pieces_length (s : ByteArray) (n m : Nat) : (pieces s n m).length = m := by simp [pieces]
theorem pieces_snoc (s : ByteArray) (n m : Nat) : pieces s n (m + 1) = pieces s n m ++ [piece s n m] := by simp [pieces, List.range_succ]
theorem piece_size {s : ByteArray} {n i : Nat} (h : i * n < s.size) (hn : 1 ≤ n) : (piece s n i).size = n := by
 unfold piece
 rw [ByteArray.size_append, ByteArray.size_extract, zeros_size]
 have : (i + 1) * n = i * n + n := Nat.succ_mul i n
 omega
def cutOk (s : ByteArray) (n : Int) : Prop := 1 ≤ n ∧ n ≤ 64 ∧ 0 < s.size ∧ 0 < cntI s.size n
theorem cut_ok {s : ByteArray} {n : Nat} (h : cutOk s n) (w : World) :
  Calls Tryz.prog 33 #[.string s, .int .i64 n] w fun e w' => ∃ v : Value, e = .returned (.tuple #[v, .int .i64 0]) ∧ Kd.R Kd.string 9 w' w.heap.size (fun _ => True) v (pieces s n (cntI s.size n).toNat) ∧ Below w.heap.size w w' := by
 obtain ⟨h1, h2, h3, h4⟩ := h
 have e1 : (s.size : Int) ≤ 4096 ∧ cntI s.size n = ((s.size : Int) + n - 1) / n ∧ cntI s.size n ≤ 96 := by
  unfold cntI at h4 ⊢
  split at h4
  ·omega
  ·split at h4
   ·omega
   ·rename_i a b
    rw [if_neg a, if_neg b]
    omega
 obtain ⟨hs, hcnt, hle⟩ := e1
 obtain ⟨m, hm⟩ := Int.eq_ofNat_of_zero_le (show 0 ≤ cntI s.size n by omega)
 have hiff : ∀ i : Nat, i * n < s.size ↔ i < m := by
  intro i
  have hk : (i : Int) + 1 ≤ ((s.size : Int) + n - 1) / n ↔ ((i : Int) + 1) * n ≤ (s.size : Int) + n - 1 := Int.le_ediv_iff_mul_le (by omega)
  have hz : ((i : Int) + 1) * n = ((i * n : Nat) : Int) + n := by rw [Int.add_mul]; simp
  rw [hz] at hk
  omega
 have C1 := jo (show block_Count.f 1 (s.size : Int) (n : Int) = some ((m : Nat) : Int) by rw [count_spec 0, hm])
 have C2 := jo (show block_may.f (n : Int) = some true by rw [Q.bools]; simp; omega)
 have hne := nonempty h3
 have b0 : ((m : Int) == 0) = false := beq_eq_false_iff_ne.2 (by omega)
 rw [hm, show ((m : Nat) : Int).toNat = m from rfl]
 have HI := jo hiff
 have HN := jo (show 1 ≤ n ∧ n ≤ 64 ∧ m ≤ 96 ∧ s.size ≤ 4096 by omega)
 clear hm hcnt h1 h2 h3 h4 hs hle hiff
 go_enter Tryz.func33, Tryz.ntmps33
 go_wp2_with (first | (go_at_call 57; (with_reducible refine (block_may.calls _ true _ C2.out).mono ?_); rintro e w1 ⟨rfl, ⟨k, rfl⟩⟩) | (go_at_call 69; (with_reducible refine (block_Count.calls 1 _ _ _ _ C1.out).mono ?_); rintro e w1 ⟨rfl, ⟨k', rfl⟩⟩))
 have HB := jo (pw_below_drewN (Below.refl w.heap.size w) (k + k'))
 have HO := jo (Kd.R_nil Kd.string 9 (w.drewN (k + k')) w.heap.size (fun _ => True))
 clear C1 C2 hne b0
 generalize w.drewN (k + k') = W0 at HB HO ⊢
 go_loopg [6, 8] m (fun gk v6 v8 wr => ∃ i : Nat, Aside0 (i + gk = m ∧ Below w.heap.size w wr ∧ Kd.R Kd.string 9 wr w.heap.size (fun _ => True) v6 (pieces s n i)))
 case atStart => exact ⟨0, ⟨by omega, HB.out, HO.out⟩⟩
 case round =>
  obtain ⟨i, HA⟩ := hrel
  clear HO HB
  obtain ⟨A6, c6, e6⟩ := Kd.R_slice HA.out.2.2
  subst e6
  rw [pieces_length] at *
  have hiff := HI.out i
  obtain ⟨p, hp⟩ : ∃ p, p = i * n := ⟨_, rfl⟩
  have hpb : p ≤ 96 * 64 := by rw [hp]; exact Nat.mul_le_mul (by have := HA.out.1; have := HN.out; omega) HN.out.2.1
  have hw1 : wrap64 ((i : Int) * (n : Int)) = (p : Int) := by
   rw [show (i : Int) * (n : Int) = (p : Int) by rw [hp]; simp]
   exact w64 (by omega) (by omega)
  have hw1' : IntKind.i64.wrap ((i : Int) * (n : Int)) = (p : Int) := (i64_w _).trans hw1
  rw [← hp] at hiff
  have HP := jo hp
  by_cases hlt : i < m
  ·have hps : p < s.size := hiff.2 hlt
   have d1 : decide ((p : Int) < (s.size : Int)) = true := decide_eq_true (by omega)
   have d2 : decide (p < s.size) = true := decide_eq_true hps
   obtain ⟨gq, rfl⟩ : ∃ q, gk = q + 1 := ⟨gk - 1, by have := HA.out.1; omega⟩
   have hp2 : (i + 1) * n = p + n := by rw [hp]; exact Nat.succ_mul i n
   have hw2 : wrap64 (((i : Int) + 1) * (n : Int)) = ((p + n : Nat) : Int) := by
    rw [show ((i : Int) + 1) * (n : Int) = ((p + n : Nat) : Int) by rw [← hp2]; simp]
    exact w64 (by have := HN.out; omega) (by have := HN.out; omega)
   have hw2' : IntKind.i64.wrap (((i : Int) + 1) * (n : Int)) = ((p + n : Nat) : Int) := (i64_w _).trans hw2
   have hi1 : wrap64 ((i : Int) + 1) = (i : Int) + 1 := w64 (by omega) (by have := HA.out.1; have := HN.out; omega)
   have hw2c : wrap64 (((i : Int) + 1) * (n : Int)) = (p : Int) + (n : Int) := hw2
   obtain ⟨q, hq⟩ : ∃ q, q = min (p + n) s.size := ⟨_, rfl⟩
   have hmn : (if (s.size : Int) < (p : Int) + (n : Int) then (s.size : Int) else (p : Int) + (n : Int)) = (q : Int) := by
    rw [hq]
    split <;> omega
   have hmi : min ((p : Int) + (n : Int)) (s.size : Int) = (q : Int) := by rw [hq]; omega
   have hmj : min ((p + n : Nat) : Int) (s.size : Int) = (q : Int) := by rw [hq]; omega
   have hpc : piece s n i = s.extract p q ++ zeros (n - (q - p)) := by
    unfold piece
    rw [hp2, ← hp, ← hq]
   have hpq : p ≤ q := by rw [hq]; have := HN.out; omega
   have hqs : q ≤ s.size := by rw [hq]; omega
   have hqn : q - p ≤ n := by omega
   have g1 : decide ((p : Int) ≤ (q : Int)) = true := decide_eq_true (by omega)
   have g2 : decide (p ≤ q) = true := decide_eq_true hpq
   have g3 : decide ((q : Int) ≤ (s.size : Int)) = true := decide_eq_true (by omega)
   have g4 : decide (q ≤ s.size) = true := decide_eq_true hqs
   have hsub : wrap64 ((n : Int) - ((q - p : Nat) : Int)) = ((n - (q - p) : Nat) : Int) := by
    rw [show (n : Int) - ((q - p : Nat) : Int) = ((n - (q - p) : Nat) : Int) by omega]
    exact w64 (by omega) (by have := HN.out; omega)
   have R1 := jo (repeat_zeros (n - (q - p)) (by have := HN.out; omega))
   have HPC := jo hpc
   clear hpc hq hp2 hp
   have hsx : (s.extract p q).size + (zeros (n - (q - p))).size ≤ 9223372036854775807 := by
    rw [ByteArray.size_extract, zeros_size]
    have := HN.out
    omega
   have HSX := jo hsx
   have HO := jo HA.out.2.2
   have HB := jo HA.out.2.1
   have HK := jo (And.intro HA.out.1 hlt)
   clear HA hsx
   go_wp2_with fail
   (with_reducible refine (strings_Repeat.calls _ _ _ _ R1.out).mono ?_)
   rintro e w4 ⟨rfl, hb⟩
   have HO1 := jo (Kd.R_below HO.out hb)
   have HB1 := jo (below_step HB.out hb)
   clear HO HB hb R1
   generalize zeros (n - (q - p)) = zz at *
   generalize s.extract p q = t at *
   have hsx := HSX.out
   have c16 := eq_true hsx
   have c16b : (9223372036854775807 < t.size + zz.size) = False := eq_false (Nat.not_lt.2 hsx)
   have c16d := decide_eq_true hsx
   clear hsx
   go_wp2_with ((with_reducible refine gate_builtin (b := .append) (xs := #[.tmp 44, .tmp 52]) rfl ?_); at_builtin; refine Kd.R_append Kd.string (w0 := w) w.heap.size rfl (.tmp 44) (.tmp 52) 31 9 (.string ⟨#[]⟩) 16 rfl Tryz.underlying31 info9 rfl (by decide) (by omega) (.slice A6 i c6) (pieces s n i) (t ++ zz) [.string (t ++ zz)] (fun _ => True) (fun _ => False) rfl rfl ?aP (fun _ hk => hk.elim) ?aF ?aO ?aB ?aS ?aL ?_; (case aP => exact rfl); (case aB => exact (by repeat (first | (with_reducible first | exact HB1.out | apply below_alloc) | exact HB1.out))); (case aF => exact (fun _ _ => trivial)); (case aO => exact (jr HO1.out)); (case aS => exact (below_size (by repeat (first | (with_reducible first | exact HB1.out | apply below_alloc) | exact HB1.out)))); (case aL => rw [pieces_length]; have := HK.out; have := HN.out; omega); intro v5 w5 ho hb hg hat; rw [← HPC.out, ← pieces_snoc] at ho; have HO2 := jo ho; have HB2 := jo hb; clear ho hb hg hat)
   go_roundg gq
   case measure => omega
   case rel => exact ⟨i + 1, ⟨by have := HK.out.1; omega, HB2.out, HO2.out⟩⟩
  ·have e1 : i = m := by have := HA.out.1; omega
   have d1 : decide ((p : Int) < (s.size : Int)) = false := decide_eq_false (by omega)
   have d2 : decide (p < s.size) = false := decide_eq_false (by omega)
   subst e1
   go_wp2
   go_ret2
   exact ⟨_, rfl, HA.out.2.2, HA.out.2.1⟩
theorem empty_of {s : ByteArray} (h : ¬ 0 < s.size) : s.toList.isEmpty = true := by
 rw [ByteArray.toList_eq, List.isEmpty_iff]
 have h3 := data_length s
 exact List.eq_nil_of_length_eq_zero (by omega)
theorem cntI_nonneg (a b : Int) (hb : 1 ≤ b ∨ b < 1) (ha : 0 ≤ a) : 0 ≤ cntI a b := by
 unfold cntI
 split
 ·omega
 ·rename_i h
  split
  ·omega
  ·exact Int.ediv_nonneg (by omega) (by omega)
theorem cut_no {s : ByteArray} {n : Int} (h : ¬ cutOk s n) (w : World) :
  Calls Tryz.prog 33 #[.string s, .int .i64 n] w fun e w' => e = .returned (.tuple #[.slice none 0 0, .int .i64 (if (1 ≤ n ∧ n ≤ 64) ∧ 0 < s.size then 2 else 1)]) ∧ Below w.heap.size w w' := by
 have C2 := jo (Q.bools n)
 by_cases h1 : 1 ≤ n ∧ n ≤ 64
 ·rw [decide_eq_true h1] at C2
  by_cases h2 : 0 < s.size
  ·rw [if_pos ⟨h1, h2⟩]
   have h3 : cntI s.size n = 0 := by
    have := cntI_nonneg s.size n (by omega) (by omega)
    unfold cutOk at h
    omega
   have C1 := jo (show block_Count.f 1 (s.size : Int) n = some 0 by rw [count_spec 0, h3])
   have hne := nonempty h2
   clear h h1 h2 h3
   go_enter Tryz.func33, Tryz.ntmps33
   go_wp2_with (first | (go_at_call 57; (with_reducible refine (block_may.calls _ true _ C2.out).mono ?_); rintro e w1 ⟨rfl, ⟨k, rfl⟩⟩) | (go_at_call 69; (with_reducible refine (block_Count.calls 1 _ _ _ _ C1.out).mono ?_); rintro e w1 ⟨rfl, ⟨k', rfl⟩⟩))
   go_ret2
   exact ⟨rfl, pw_below_drewN (Below.refl w.heap.size w) (k + k')⟩
  ·rw [if_neg (fun hh => h2 hh.2)]
   have hne := empty_of h2
   have hne2 : s.toList = [] := List.isEmpty_iff.1 hne
   clear h h1 h2
   go_enter Tryz.func33, Tryz.ntmps33
   go_wp2_with (go_at_call 57; (with_reducible refine (block_may.calls _ true _ C2.out).mono ?_); rintro e w1 ⟨rfl, ⟨k, rfl⟩⟩)
   go_ret2
   exact ⟨rfl, pw_below_drewN (Below.refl w.heap.size w) k⟩
 ·rw [if_neg (fun hh => h1 hh.1)]
  rw [decide_eq_false h1] at C2
  clear h h1
  go_enter Tryz.func33, Tryz.ntmps33
  go_wp2_with (go_at_call 57; (with_reducible refine (block_may.calls _ false _ C2.out).mono ?_); rintro e w1 ⟨rfl, ⟨k, rfl⟩⟩)
  go_ret2
  exact ⟨rfl, pw_below_drewN (Below.refl w.heap.size w) k⟩
def cutR (s : ByteArray) (n : Int) : List ByteArray × Int :=
 if (1 ≤ n ∧ n ≤ 64) ∧ 0 < s.size then (if 0 < cntI s.size n then (pieces s n.toNat (cntI s.size n).toNat, 0) else ([], 2)) else ([], 1)
theorem cut_all (s : ByteArray) (n : Int) (w : World) :
  Calls Tryz.prog 33 #[.string s, .int .i64 n] w fun e w' => ∃ v : Value, e = .returned (.tuple #[v, .int .i64 (cutR s n).2]) ∧ Kd.R Kd.string 9 w' w.heap.size (fun _ => True) v (cutR s n).1 ∧ Below w.heap.size w w' := by
 unfold cutR
 by_cases h : (1 ≤ n ∧ n ≤ 64) ∧ 0 < s.size
 ·by_cases h2 : 0 < cntI s.size n
  ·rw [if_pos h, if_pos h2]
   obtain ⟨m, rfl⟩ := Int.eq_ofNat_of_zero_le (show 0 ≤ n by omega)
   exact cut_ok ⟨h.1.1, h.1.2, h.2, h2⟩ w
  ·refine (cut_no (fun hh => h2 hh.2.2.2) w).mono ?_
   rintro e w' ⟨rfl, hb⟩
   rw [if_pos h, if_pos h, if_neg h2]
   exact ⟨_, rfl, Kd.R_nil _ _ _ _ _, hb⟩
 ·refine (cut_no (fun hh => h ⟨⟨hh.1, hh.2.1⟩, hh.2.2.1⟩) w).mono ?_
  rintro e w' ⟨rfl, hb⟩
  rw [if_neg h, if_neg h]
  exact ⟨_, rfl, Kd.R_nil _ _ _ _ _, hb⟩
end Go.Proofs.YtjmooillogojkaaGreat.Q
namespace Go.Proofs.YtjmooillogojkaaGreat.Q
open Go.RowKit Go.Proofs.YtjmooillogojkaaGreatW.PrintWords Go.Proofs.YtjmooillogojkaaGreatW.PrintLast Go.Proofs.YtjmooillogojkaaGreatW.PrintMore
open Go.Proofs.YtjmooillogojkaaGreat
def block_Zero.f (a0 : Int) : Option (ByteArray) := (block_may.f a0).bind fun t461 => (if t461 = true then ((strings_Repeat.f (⟨#[0]⟩ : ByteArray) a0).bind fun t462 => (some t462)) else (some (⟨#[]⟩ : ByteArray)))
theorem block_Zero.calls (a0 : Int) (r : ByteArray) (w : World) (h : block_Zero.f a0 = some r) :
  Calls Tryz.prog 21 #[.int .i64 a0] w fun e w' => e = .returned (.string r) ∧ Below w.heap.size w w' := by
 have HB := jo (Below.refl w.heap.size w)
 have H : ((block_may.f a0).bind fun t461 => (if t461 = true then ((strings_Repeat.f (⟨#[0]⟩ : ByteArray) a0).bind fun t462 => (some t462)) else (some (⟨#[]⟩ : ByteArray)))) = some r := h
 clear h
 replace H := Option.bind_eq_some_iff.mp H
 obtain ⟨t461, A20, H⟩ := H
 replace H : (if t461 = true then ((strings_Repeat.f (⟨#[0]⟩ : ByteArray) a0).bind fun t462 => (some t462)) else (some (⟨#[]⟩ : ByteArray))) = some r := H
 have A2 := jo A20
 clear A20
 by_cases c3 : t461 = true
 ·subst c3
  have H1 : ((strings_Repeat.f (⟨#[0]⟩ : ByteArray) a0).bind fun t462 => (some t462)) = some r := by rw [if_pos rfl] at H; exact H
  clear H
  have H := H1
  clear H1
  replace H := Option.bind_eq_some_iff.mp H
  obtain ⟨t462, A40, H⟩ := H
  replace H : (some t462) = some r := H
  have A4 := jo A40
  clear A40
  obtain rfl := Option.some.inj H
  go_enter Tryz.func21, Tryz.ntmps21
  go_wp2_with (first | ((with_reducible refine gate_callee (f := 57) rfl ?_); refine goesL_ (some 4) rfl rfl Tryz.func57 jw rfl #[.int .i64 a0] rfl jm ?_; (with_reducible refine (block_may.calls a0 true _ A2.out).mono ?_); rintro e w' ⟨rfl, ⟨nd, rfl⟩⟩; refine ⟨_, rfl, ?_⟩) | ((with_reducible refine gate_callee (f := 58) rfl ?_); refine goesL_ (some 7) rfl rfl Tryz.func58 jw rfl #[.string (⟨#[0]⟩ : ByteArray), .int .i64 a0] rfl jm ?_; (with_reducible refine (strings_Repeat.calls (⟨#[0]⟩ : ByteArray) a0 t462 _ A4.out).mono ?_); rintro e w5 ⟨rfl, hb⟩; refine ⟨_, rfl, ?_⟩; have n0_ := jo (below_step jb hb); clear HB; have HB := n0_; clear n0_; (try clear hb); (try clear hb2); (try clear hk); (try clear hi)))
  go_ret
  exact ⟨je, jb⟩
 ·replace c3 := Bool.eq_false_iff.mpr c3
  subst c3
  have H1 : (some (⟨#[]⟩ : ByteArray)) = some r := by rw [if_neg (show ¬ (false = true) by decide)] at H; exact H
  clear H
  have H := H1
  clear H1
  obtain rfl := Option.some.inj H
  go_enter Tryz.func21, Tryz.ntmps21
  go_wp2_with (first | ((with_reducible refine gate_callee (f := 57) rfl ?_); refine goesL_ (some 4) rfl rfl Tryz.func57 jw rfl #[.int .i64 a0] rfl jm ?_; (with_reducible refine (block_may.calls a0 false _ A2.out).mono ?_); rintro e w' ⟨rfl, ⟨nd, rfl⟩⟩; refine ⟨_, rfl, ?_⟩))
  go_ret
  exact ⟨je, jb⟩
end Go.Proofs.YtjmooillogojkaaGreat.Q
