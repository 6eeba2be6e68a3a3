/- mosaictop.published walked; what Publish makes of a file. No condition. -/
import Derived.Test.YtjmooillogojkaaGreatM41
set_option maxHeartbeats 8000000
set_option maxRecDepth 100000
set_option linter.unusedVariables false
set_option linter.unusedSimpArgs false
namespace Go.Proofs.YtjmooillogojkaaGreat.Q
open Go.RowKit Go.Proofs.YtjmooillogojkaaGreatW.PrintWords Go.Proofs.YtjmooillogojkaaGreatW.PrintLast Go.Proofs.YtjmooillogojkaaGreatW.PrintMore
open Go.Proofs.YtjmooillogojkaaGreat Plain Deg
structure Pub (m : MF) (W bl : List ByteArray) : Prop where
 may : m.may
 root : m.root.size = 32
 z1 : 1 ≤ m.size
 z2 : m.size ≤ 64
 bln : (bl.length : Int) = m.N
 bls : ∀ s ∈ bl, s.size = m.size.toNat
 whole : W = wholeF (joinsF m.seed m.A m.q) m.A.toNat m.N.toNat bl m.size.toNat
theorem MF.may.A_le {m : MF} (h : m.may) : 1 ≤ m.A ∧ m.A ≤ 64 := by
 have h1 := h.cnt
 have h2 := m.le
 have h3 : m.A ≤ 64 := by
  unfold MF.A ceilM
  split <;> omega
 have t := top_bound h.code (n := m.N) (by omega) h2
 have hd := (codeB_iff ..).1 h.code
 have h4 : 0 < m.A := by
  unfold MF.A ceilM
  have : 0 < (55 * m.q * m.n * m.N + 100 * m.d - 1) / (100 * m.d) := by
   have := (Int.le_ediv_iff_mul_le (a := 1) (b := 55 * m.q * m.n * m.N + 100 * m.d - 1) (c := 100 * m.d) (by omega)).2 (by omega)
   omega
  split <;> omega
 omega
theorem Pub.len {m : MF} {W bl : List ByteArray} (h : Pub m W bl) : (W.length : Int) = m.all := by
 have h1 := h.may.A_le
 have h2 := h.bln
 rw [h.whole, wholeF_length]
 unfold MF.all
 omega
theorem Pub.sz {m : MF} {W bl : List ByteArray} (h : Pub m W bl) : ∀ s ∈ W, s.size = m.size.toNat := by
 intro s hs
 rw [h.whole] at hs
 unfold wholeF at hs
 rcases List.mem_append.1 hs with hs | hs
 ·exact h.bls s hs
 ·obtain ⟨l, _, rfl⟩ := List.mem_map.1 hs
  exact sumB_size _ _
theorem publish_good {file : ByteArray} {s0 s1 s2 s3 s4 s5 : Int} (hc : (1 ≤ s0 ∧ s0 ≤ 64) ∧ 0 < file.size) (hn : 0 < cntI file.size s0) (hb : (seedB s1 && codeB s2 s3 s4 s5) = true) :
  (∃ (m : MF) (W : List ByteArray), Pub m W (pieces file s0.toNat (cntI file.size s0).toNat) ∧ m.size = s0 ∧ m.long = file.size ∧ m.n = s2 ∧ m.d = s3 ∧ m.q = s4 ∧ m.f = s5 ∧ ∀ w, Calls Tryz.prog 12 #[.string file, .agg #[.int .i64 s0, .int .i64 s1, .int .i64 s2, .int .i64 s3, .int .i64 s4, .int .i64 s5]] w fun e w' => ∃ v, e = .returned (.tuple #[m.v, v, .int .i64 0]) ∧ Kd.R Kd.string 9 w' w.heap.size (fun _ => True) v W ∧ Below w.heap.size w w') := by
 have h1 : block_Cut.f file s0 = some (pieces file s0.toNat (cntI file.size s0).toNat, 0) := by unfold block_Cut.f cutR; rw [if_pos hc, if_pos hn]
 rw [Bool.and_eq_true] at hb
 have hm : MF.may ⟨file.size, s0, s1, s2, s3, s4, s5, ⟨#[]⟩⟩ := ⟨hn, hb.1, hb.2⟩
 have hA := hm.A_le
 have hN := MF.le ⟨file.size, s0, s1, s2, s3, s4, s5, ⟨#[]⟩⟩
 have hN1 := hm.cnt
 have hsd := (seedB_iff _).1 hb.1
 have hcd := (codeB_iff _ _ _ _).1 hb.2
 obtain ⟨n, hnn⟩ := Int.eq_ofNat_of_zero_le (show 0 ≤ MF.N ⟨file.size, s0, s1, s2, s3, s4, s5, ⟨#[]⟩⟩ by omega)
 obtain ⟨a, haa⟩ := Int.eq_ofNat_of_zero_le (show 0 ≤ MF.A ⟨file.size, s0, s1, s2, s3, s4, s5, ⟨#[]⟩⟩ by omega)
 have hcn : cntI file.size s0 = (n : Int) := hnn
 have hpl : ∀ s ∈ pieces file s0.toNat n, s.size = s0.toNat := fun s hs => by
  obtain ⟨i, hi, rfl⟩ := List.mem_map.1 hs
  refine piece_size ?_ (by omega)
  have hin := List.mem_range.1 hi
  have h4 : (file.size : Int) ≤ 4096 ∧ cntI file.size s0 = ((file.size : Int) + s0 - 1) / s0 := by
   unfold cntI at hn ⊢
   split at hn
   ·omega
   ·split at hn
    ·omega
    ·rename_i a b
     rw [if_neg a, if_neg b]
     omega
  rw [hcn] at h4
  obtain ⟨z, rfl⟩ := Int.eq_ofNat_of_zero_le (show 0 ≤ s0 by omega)
  have hk : (i : Int) + 1 ≤ ((file.size : Int) + z - 1) / z ↔ ((i : Int) + 1) * z ≤ (file.size : Int) + z - 1 := Int.le_ediv_iff_mul_le (by omega)
  have h5 := hk.1 (by omega)
  have hz : ((i : Int) + 1) * z = ((i * z : Nat) : Int) + z := by rw [Int.add_mul]; simp
  rw [hz] at h5
  rw [Int.toNat_natCast]
  omega
 have h5 := whole_spec (a0 := s1) (n := n) (a := a) (a3 := s4) (bl := pieces file s0.toNat n) (sz := s0.toNat) hsd.1 (by omega) (by omega) (by omega) (by omega) (by omega) (by omega) (by omega) (pieces_length _ _ _) (by omega) (by omega) hpl
 obtain ⟨W, hW⟩ : ∃ W, W = wholeF (joinsF s1 (a : Int) s4) a n (pieces file s0.toNat n) s0.toNat := ⟨_, rfl⟩
 rw [← hW] at h5
 have hP : ∀ root : ByteArray, root.size = 32 → Pub ⟨file.size, s0, s1, s2, s3, s4, s5, root⟩ W (pieces file s0.toNat n) := fun root hr => ⟨⟨hn, hb.1, hb.2⟩, hr, by show 1 ≤ s0; omega, by show s0 ≤ 64; omega, by rw [pieces_length]; exact hnn.symm, hpl, by
  rw [hW]
  show _ = wholeF (joinsF s1 (MF.A ⟨file.size, s0, s1, s2, s3, s4, s5, ⟨#[]⟩⟩) s4) (MF.A ⟨file.size, s0, s1, s2, s3, s4, s5, ⟨#[]⟩⟩).toNat (MF.N ⟨file.size, s0, s1, s2, s3, s4, s5, ⟨#[]⟩⟩).toNat _ _
  rw [hnn, haa]
  rfl⟩
 have hWl : W.length = n + a := by rw [hW, wholeF_length, pieces_length]
 have hWs : ∀ s ∈ W, s.size ≤ 64 := fun s hs => by
  have := (hP ⟨(List.replicate 32 0).toArray⟩ rfl).sz s hs
  rw [this]
  show s0.toNat ≤ 64
  omega
 obtain ⟨root, h6, hr⟩ := root_spec (W := W) (by omega) (by omega) hWs
 refine ⟨⟨file.size, s0, s1, s2, s3, s4, s5, root⟩, W, ?_, rfl, rfl, rfl, rfl, rfl, rfl, fun w => ?_⟩
 ·rw [hcn]
  exact hP root hr
 ·rw [hcn] at h1
  exact publish_yes hm h1 (by rw [hnn, haa]; exact h5) h6 w
theorem publish_all (file : ByteArray) (s0 s1 s2 s3 s4 s5 : Int) :
  (∃ er : Int, er ≠ 0 ∧ ∀ w, Calls Tryz.prog 12 #[.string file, .agg #[.int .i64 s0, .int .i64 s1, .int .i64 s2, .int .i64 s3, .int .i64 s4, .int .i64 s5]] w fun e w' => e = .returned (.tuple #[.agg #[.int .i64 0, .int .i64 0, .int .i64 0, .int .i64 0, .int .i64 0, .int .i64 0, .int .i64 0, .string ⟨#[]⟩], .slice none 0 0, .int .i64 er]) ∧ Below w.heap.size w w') ∨
  (∃ (m : MF) (W : List ByteArray), Pub m W (pieces file s0.toNat (cntI file.size s0).toNat) ∧ m.size = s0 ∧ m.long = file.size ∧ m.n = s2 ∧ m.d = s3 ∧ m.q = s4 ∧ m.f = s5 ∧ ∀ w, Calls Tryz.prog 12 #[.string file, .agg #[.int .i64 s0, .int .i64 s1, .int .i64 s2, .int .i64 s3, .int .i64 s4, .int .i64 s5]] w fun e w' => ∃ v, e = .returned (.tuple #[m.v, v, .int .i64 0]) ∧ Kd.R Kd.string 9 w' w.heap.size (fun _ => True) v W ∧ Below w.heap.size w w') := by
 by_cases hc : (1 ≤ s0 ∧ s0 ≤ 64) ∧ 0 < file.size
 ·by_cases hn : 0 < cntI file.size s0
  ·have h1 : block_Cut.f file s0 = some (pieces file s0.toNat (cntI file.size s0).toNat, 0) := by unfold block_Cut.f cutR; rw [if_pos hc, if_pos hn]
   by_cases hb : (seedB s1 && codeB s2 s3 s4 s5) = true
   ·exact .inr (publish_good hc hn hb)
   ·exact .inl ⟨1, by decide, fun w => publish_bad h1 (seeded_spec _) (check6 _ _ _ _) (by simpa using hb) w⟩
  ·have h1 : block_Cut.f file s0 = some ([], 2) := by unfold block_Cut.f cutR; rw [if_pos hc, if_neg hn]
   exact .inl ⟨2, by decide, fun w => publish_no h1 (by decide) w⟩
 ·have h1 : block_Cut.f file s0 = some ([], 1) := by unfold block_Cut.f cutR; rw [if_neg hc]
  exact .inl ⟨1, by decide, fun w => publish_no h1 (by decide) w⟩
theorem Kd.R_over30 {W : World} {base g : Nat} {ok : Nat → Prop} {v : Value} {l : List ByteArray} {cells : Array Value} (h : Kd.R Kd.string 9 W base ok v l) (hg : W.heap[g]? = some (.cells cells 30 (0, 0))) (vs : List Value) (o : Nat) : Kd.R Kd.string 9 (W.setCells g o vs) base ok v l := by
 refine Kd.R_mono (Kd.R_step (Kd.R_types h hg (by decide)) (fun k hk _ => heap_setCells hk.2 vs o W)) (fun _ hk => hk.1)
theorem published_long {file : ByteArray} {s0 s1 s2 s3 s4 s5 : Int} (h : 40 < file.size) (w : World) :
  Calls Tryz.prog 4 #[.string file, .agg #[.int .i64 s0, .int .i64 s1, .int .i64 s2, .int .i64 s3, .int .i64 s4, .int .i64 s5]] w fun e w' => e = .returned (.tuple #[.agg #[.int .i64 0, .int .i64 0, .int .i64 0, .int .i64 0, .int .i64 0, .int .i64 0, .int .i64 0, .string ⟨#[]⟩], .slice none 0 0, .bool false]) ∧ Below w.heap.size w w' := by
 have d1 : decide ((40 : Int) < (file.size : Int)) = true := decide_eq_true (by omega)
 have d2 : decide (40 < file.size) = true := decide_eq_true h
 have b1 : Below w.heap.size w ((w.alloc (.cells #[.int .i64 s0, .int .i64 s1, .int .i64 s2, .int .i64 s3, .int .i64 s4, .int .i64 s5] 27)).alloc (.cells #[.int .i64 0, .int .i64 0, .int .i64 0, .int .i64 0, .int .i64 0, .int .i64 0, .int .i64 0, .string ⟨#[]⟩] 30)) := below_alloc (below_alloc (Below.refl _ _) _) _
 have k1 : ((w.alloc (.cells #[.int .i64 s0, .int .i64 s1, .int .i64 s2, .int .i64 s3, .int .i64 s4, .int .i64 s5] 27)).alloc (.cells #[.int .i64 0, .int .i64 0, .int .i64 0, .int .i64 0, .int .i64 0, .int .i64 0, .int .i64 0, .string ⟨#[]⟩] 30)).heap[w.heap.size]? = some (.cells #[.int .i64 s0, .int .i64 s1, .int .i64 s2, .int .i64 s3, .int .i64 s4, .int .i64 s5] 27 (0, 0)) := blk_alloc (blk_new w _) _
 have k2 : ((w.alloc (.cells #[.int .i64 s0, .int .i64 s1, .int .i64 s2, .int .i64 s3, .int .i64 s4, .int .i64 s5] 27)).alloc (.cells #[.int .i64 0, .int .i64 0, .int .i64 0, .int .i64 0, .int .i64 0, .int .i64 0, .int .i64 0, .string ⟨#[]⟩] 30)).heap[w.heap.size + 1]? = some (.cells #[.int .i64 0, .int .i64 0, .int .i64 0, .int .i64 0, .int .i64 0, .int .i64 0, .int .i64 0, .string ⟨#[]⟩] 30 (0, 0)) := by
  have := blk_new (w.alloc (.cells #[.int .i64 s0, .int .i64 s1, .int .i64 s2, .int .i64 s3, .int .i64 s4, .int .i64 s5] 27)) (.cells #[.int .i64 0, .int .i64 0, .int .i64 0, .int .i64 0, .int .i64 0, .int .i64 0, .int .i64 0, .string ⟨#[]⟩] 30)
  rw [World.size_alloc] at this
  exact this
 go_enter Tryz.func4, Tryz.ntmps4
 go_wp2_with (((with_reducible refine gate_store (t := 30) (p := 4) rfl ?_); refine store_arr rfl rfl rfl (vs := #[.int .i64 0, .int .i64 0, .int .i64 0, .int .i64 0, .int .i64 0, .int .i64 0, .int .i64 0, .string ⟨#[]⟩]) rfl rfl k2 (by simp) (by simp [Value.oneCell']) Tryz.sizeOf30 ?_; intro wE hwE; have HEND : Aside0 (wE.heap[w.heap.size + 1]? = some (.cells #[.int .i64 0, .int .i64 0, .int .i64 0, .int .i64 0, .int .i64 0, .int .i64 0, .int .i64 0, .string ⟨#[]⟩] 30 (0, 0)) ∧ Below w.heap.size w wE) := ⟨by rw [hwE]; exact ⟨by rw [blk_setCells _ 0 _ _ k2]; rfl, below_setCells (by omega) _ 0 _ b1⟩⟩; clear hwE))
 refine bodyPost_ret (results_ctt rfl _ _ (w.heap.size + 1) 30 #[.int .i64 0, .int .i64 0, .int .i64 0, .int .i64 0, .int .i64 0, .int .i64 0, .int .i64 0, .string ⟨#[]⟩] (0, 0) _ rfl (by exact HEND.out.1) Tryz.underlying30 rfl jw) rfl ?_
 exact ⟨rfl, HEND.out.2⟩
theorem published_no {file : ByteArray} {s0 s1 s2 s3 s4 s5 er : Int} (h : ¬ 40 < file.size) (he : er ≠ 0) (hp : ∀ w, Calls Tryz.prog 12 #[.string file, .agg #[.int .i64 s0, .int .i64 s1, .int .i64 s2, .int .i64 s3, .int .i64 s4, .int .i64 s5]] w fun e w' => e = .returned (.tuple #[.agg #[.int .i64 0, .int .i64 0, .int .i64 0, .int .i64 0, .int .i64 0, .int .i64 0, .int .i64 0, .string ⟨#[]⟩], .slice none 0 0, .int .i64 er]) ∧ Below w.heap.size w w') (w : World) :
  Calls Tryz.prog 4 #[.string file, .agg #[.int .i64 s0, .int .i64 s1, .int .i64 s2, .int .i64 s3, .int .i64 s4, .int .i64 s5]] w fun e w' => e = .returned (.tuple #[.agg #[.int .i64 0, .int .i64 0, .int .i64 0, .int .i64 0, .int .i64 0, .int .i64 0, .int .i64 0, .string ⟨#[]⟩], .slice none 0 0, .bool false]) ∧ Below w.heap.size w w' := by
 have d1 : decide ((40 : Int) < (file.size : Int)) = false := decide_eq_false (by omega)
 have d2 : decide (40 < file.size) = false := decide_eq_false h
 have e1 : (er == 0) = false := beq_eq_false_iff_ne.2 he
 have HP := jo hp
 clear hp
 have b1 : Below w.heap.size w ((w.alloc (.cells #[.int .i64 s0, .int .i64 s1, .int .i64 s2, .int .i64 s3, .int .i64 s4, .int .i64 s5] 27)).alloc (.cells #[.int .i64 0, .int .i64 0, .int .i64 0, .int .i64 0, .int .i64 0, .int .i64 0, .int .i64 0, .string ⟨#[]⟩] 30)) := below_alloc (below_alloc (Below.refl _ _) _) _
 have k1 : ((w.alloc (.cells #[.int .i64 s0, .int .i64 s1, .int .i64 s2, .int .i64 s3, .int .i64 s4, .int .i64 s5] 27)).alloc (.cells #[.int .i64 0, .int .i64 0, .int .i64 0, .int .i64 0, .int .i64 0, .int .i64 0, .int .i64 0, .string ⟨#[]⟩] 30)).heap[w.heap.size]? = some (.cells #[.int .i64 s0, .int .i64 s1, .int .i64 s2, .int .i64 s3, .int .i64 s4, .int .i64 s5] 27 (0, 0)) := blk_alloc (blk_new w _) _
 have k2 : ((w.alloc (.cells #[.int .i64 s0, .int .i64 s1, .int .i64 s2, .int .i64 s3, .int .i64 s4, .int .i64 s5] 27)).alloc (.cells #[.int .i64 0, .int .i64 0, .int .i64 0, .int .i64 0, .int .i64 0, .int .i64 0, .int .i64 0, .string ⟨#[]⟩] 30)).heap[w.heap.size + 1]? = some (.cells #[.int .i64 0, .int .i64 0, .int .i64 0, .int .i64 0, .int .i64 0, .int .i64 0, .int .i64 0, .string ⟨#[]⟩] 30 (0, 0)) := by
  have := blk_new (w.alloc (.cells #[.int .i64 s0, .int .i64 s1, .int .i64 s2, .int .i64 s3, .int .i64 s4, .int .i64 s5] 27)) (.cells #[.int .i64 0, .int .i64 0, .int .i64 0, .int .i64 0, .int .i64 0, .int .i64 0, .int .i64 0, .string ⟨#[]⟩] 30)
  rw [World.size_alloc] at this
  exact this
 go_enter Tryz.func4, Tryz.ntmps4
 go_wp2_with fail
 generalize (w.alloc (.cells #[.int .i64 s0, .int .i64 s1, .int .i64 s2, .int .i64 s3, .int .i64 s4, .int .i64 s5] 27)).alloc (.cells #[.int .i64 0, .int .i64 0, .int .i64 0, .int .i64 0, .int .i64 0, .int .i64 0, .int .i64 0, .string ⟨#[]⟩] 30) = W1 at b1 k1 k2 ⊢
 with_reducible refine (HP.out W1).mono ?_
 rintro e w2 ⟨rfl, hb2⟩
 have H2 := jo (And.intro (below_step b1 hb2) (blk_below k2 hb2))
 clear b1 k1 k2 hb2 HP
 go_wp2_with (first | ((with_reducible refine gate_store (t := 30) (p := 7) rfl ?_); refine store_arr rfl rfl rfl (vs := #[.int .i64 0, .int .i64 0, .int .i64 0, .int .i64 0, .int .i64 0, .int .i64 0, .int .i64 0, .string ⟨#[]⟩]) rfl rfl (blk_new w2 _) (by simp) (by simp [Value.oneCell']) Tryz.sizeOf30 ?_; intro w3 hw3; have H3 : Aside0 (w3.heap[w2.heap.size]? = some (.cells #[.int .i64 0, .int .i64 0, .int .i64 0, .int .i64 0, .int .i64 0, .int .i64 0, .int .i64 0, .string ⟨#[]⟩] 30 (0, 0)) ∧ w3.heap[w.heap.size + 1]? = some (.cells #[.int .i64 0, .int .i64 0, .int .i64 0, .int .i64 0, .int .i64 0, .int .i64 0, .int .i64 0, .string ⟨#[]⟩] 30 (0, 0)) ∧ Below w.heap.size w w3 ∧ Below w2.heap.size w2 w3) := ⟨by rw [hw3]; exact ⟨by rw [blk_setCells _ 0 _ _ (blk_new w2 _)]; rfl, (heap_setCells (by have := blk_lt H2.out.2; omega) _ 0 _).trans (blk_alloc H2.out.2 _), below_setCells (by have := blk_lt H2.out.2; omega) _ 0 _ (below_alloc H2.out.1 _), below_setCells (Nat.le_refl _) _ 0 _ (below_alloc (Below.refl _ _) _)⟩⟩; clear hw3) | ((with_reducible refine gate_dst (N := 21) rfl ?_); refine load_event rfl (N := 21) rfl (t := 30) rfl (cs := #[.int .i64 0, .int .i64 0, .int .i64 0, .int .i64 0, .int .i64 0, .int .i64 0, .int .i64 0, .string ⟨#[]⟩]) rfl (blk_cells H3.out.1) Tryz.isAgg30 Tryz.sizeOf30 ?_) | ((with_reducible refine gate_store (t := 30) (p := 4) rfl ?_); refine store_arr rfl rfl rfl (vs := #[.int .i64 0, .int .i64 0, .int .i64 0, .int .i64 0, .int .i64 0, .int .i64 0, .int .i64 0, .string ⟨#[]⟩]) rfl rfl H3.out.2.1 (by simp) (by simp [Value.oneCell']) Tryz.sizeOf30 ?_; intro wE hwE; have HEND : Aside0 (wE.heap[w.heap.size + 1]? = some (.cells #[.int .i64 0, .int .i64 0, .int .i64 0, .int .i64 0, .int .i64 0, .int .i64 0, .int .i64 0, .string ⟨#[]⟩] 30 (0, 0)) ∧ Below w.heap.size w wE ∧ (∀ u l, Kd.R Kd.string 9 w2 w.heap.size (fun _ => True) u l → Kd.R Kd.string 9 wE w.heap.size (fun _ => True) u l)) := ⟨by rw [hwE]; exact ⟨by rw [blk_setCells _ 0 _ _ H3.out.2.1]; rfl, below_setCells (by omega) _ 0 _ H3.out.2.2.1, fun u l h => Kd.R_over30 (Kd.R_below h H3.out.2.2.2) H3.out.2.1 _ 0⟩⟩; clear hwE))
 refine bodyPost_ret (results_ctt rfl _ _ (w.heap.size + 1) 30 #[.int .i64 0, .int .i64 0, .int .i64 0, .int .i64 0, .int .i64 0, .int .i64 0, .int .i64 0, .string ⟨#[]⟩] (0, 0) _ rfl (by exact HEND.out.1) Tryz.underlying30 rfl jw) rfl ?_
 exact ⟨rfl, HEND.out.2.1⟩
theorem published_yes {file : ByteArray} {s0 s1 s2 s3 s4 s5 : Int} {m : MF} {L : List ByteArray} (h : ¬ 40 < file.size) (hp : ∀ w, Calls Tryz.prog 12 #[.string file, .agg #[.int .i64 s0, .int .i64 s1, .int .i64 s2, .int .i64 s3, .int .i64 s4, .int .i64 s5]] w fun e w' => ∃ v, e = .returned (.tuple #[m.v, v, .int .i64 0]) ∧ Kd.R Kd.string 9 w' w.heap.size (fun _ => True) v L ∧ Below w.heap.size w w') (w : World) :
  Calls Tryz.prog 4 #[.string file, .agg #[.int .i64 s0, .int .i64 s1, .int .i64 s2, .int .i64 s3, .int .i64 s4, .int .i64 s5]] w fun e w' => ∃ v, e = .returned (.tuple #[m.v, v, .bool (decide (L.length ≤ 24) && decide (0 < L.length))]) ∧ Kd.R Kd.string 9 w' w.heap.size (fun _ => True) v L ∧ Below w.heap.size w w' := by
 have d1 : decide ((40 : Int) < (file.size : Int)) = false := decide_eq_false (by omega)
 have d2 : decide (40 < file.size) = false := decide_eq_false h
 obtain ⟨b1', hb1'⟩ : ∃ b, b = decide (L.length ≤ 24) := ⟨_, rfl⟩
 obtain ⟨b2', hb2'⟩ : ∃ b, b = decide (0 < L.length) := ⟨_, rfl⟩
 have e1 : decide ((L.length : Int) ≤ 24) = b1' := by rw [hb1']; exact decide_eq_decide.2 (by omega)
 have e2 : decide ((0 : Int) < (L.length : Int)) = b2' := by rw [hb2']; exact decide_eq_decide.2 (by omega)
 have e3 := hb1'.symm
 have e4 := hb2'.symm
 rw [← hb1', ← hb2']
 have HP := jo hp
 clear hp hb1' hb2'
 unfold MF.v
 unfold MF.v at HP
 obtain ⟨m0, m1, m2, m3, m4, m5, m6, m7⟩ := m
 simp only at *
 have b1 : Below w.heap.size w ((w.alloc (.cells #[.int .i64 s0, .int .i64 s1, .int .i64 s2, .int .i64 s3, .int .i64 s4, .int .i64 s5] 27)).alloc (.cells #[.int .i64 0, .int .i64 0, .int .i64 0, .int .i64 0, .int .i64 0, .int .i64 0, .int .i64 0, .string ⟨#[]⟩] 30)) := below_alloc (below_alloc (Below.refl _ _) _) _
 have k1 : ((w.alloc (.cells #[.int .i64 s0, .int .i64 s1, .int .i64 s2, .int .i64 s3, .int .i64 s4, .int .i64 s5] 27)).alloc (.cells #[.int .i64 0, .int .i64 0, .int .i64 0, .int .i64 0, .int .i64 0, .int .i64 0, .int .i64 0, .string ⟨#[]⟩] 30)).heap[w.heap.size]? = some (.cells #[.int .i64 s0, .int .i64 s1, .int .i64 s2, .int .i64 s3, .int .i64 s4, .int .i64 s5] 27 (0, 0)) := blk_alloc (blk_new w _) _
 have k2 : ((w.alloc (.cells #[.int .i64 s0, .int .i64 s1, .int .i64 s2, .int .i64 s3, .int .i64 s4, .int .i64 s5] 27)).alloc (.cells #[.int .i64 0, .int .i64 0, .int .i64 0, .int .i64 0, .int .i64 0, .int .i64 0, .int .i64 0, .string ⟨#[]⟩] 30)).heap[w.heap.size + 1]? = some (.cells #[.int .i64 0, .int .i64 0, .int .i64 0, .int .i64 0, .int .i64 0, .int .i64 0, .int .i64 0, .string ⟨#[]⟩] 30 (0, 0)) := by
  have := blk_new (w.alloc (.cells #[.int .i64 s0, .int .i64 s1, .int .i64 s2, .int .i64 s3, .int .i64 s4, .int .i64 s5] 27)) (.cells #[.int .i64 0, .int .i64 0, .int .i64 0, .int .i64 0, .int .i64 0, .int .i64 0, .int .i64 0, .string ⟨#[]⟩] 30)
  rw [World.size_alloc] at this
  exact this
 go_enter Tryz.func4, Tryz.ntmps4
 go_wp2_with fail
 generalize (w.alloc (.cells #[.int .i64 s0, .int .i64 s1, .int .i64 s2, .int .i64 s3, .int .i64 s4, .int .i64 s5] 27)).alloc (.cells #[.int .i64 0, .int .i64 0, .int .i64 0, .int .i64 0, .int .i64 0, .int .i64 0, .int .i64 0, .string ⟨#[]⟩] 30) = W1 at b1 k1 k2 ⊢
 with_reducible refine (HP.out W1).mono ?_
 rintro e w2 ⟨v2, rfl, ho2, hb2⟩
 obtain ⟨A2, c2, e2'⟩ := Kd.R_slice ho2
 subst e2'
 have H2 := jo (And.intro (below_step b1 hb2) (blk_below k2 hb2))
 have HO := jo (Kd.R_lower ho2 b1.size)
 clear b1 k1 k2 hb2 HP ho2
 cases b1' <;> cases b2'
 all_goals
  go_wp2_with (first | ((with_reducible refine gate_store (t := 30) (p := 7) rfl ?_); refine store_arr rfl rfl rfl (vs := #[.int .i64 m0, .int .i64 m1, .int .i64 m2, .int .i64 m3, .int .i64 m4, .int .i64 m5, .int .i64 m6, .string m7]) rfl rfl (blk_new w2 _) (by simp) (by simp [Value.oneCell']) Tryz.sizeOf30 ?_; intro w3 hw3; have H3 : Aside0 (w3.heap[w2.heap.size]? = some (.cells #[.int .i64 m0, .int .i64 m1, .int .i64 m2, .int .i64 m3, .int .i64 m4, .int .i64 m5, .int .i64 m6, .string m7] 30 (0, 0)) ∧ w3.heap[w.heap.size + 1]? = some (.cells #[.int .i64 0, .int .i64 0, .int .i64 0, .int .i64 0, .int .i64 0, .int .i64 0, .int .i64 0, .string ⟨#[]⟩] 30 (0, 0)) ∧ Below w.heap.size w w3 ∧ Below w2.heap.size w2 w3) := ⟨by rw [hw3]; exact ⟨by rw [blk_setCells _ 0 _ _ (blk_new w2 _)]; rfl, (heap_setCells (by have := blk_lt H2.out.2; omega) _ 0 _).trans (blk_alloc H2.out.2 _), below_setCells (by have := blk_lt H2.out.2; omega) _ 0 _ (below_alloc H2.out.1 _), below_setCells (Nat.le_refl _) _ 0 _ (below_alloc (Below.refl _ _) _)⟩⟩; clear hw3) | ((with_reducible refine gate_dst (N := 21) rfl ?_); refine load_event rfl (N := 21) rfl (t := 30) rfl (cs := #[.int .i64 m0, .int .i64 m1, .int .i64 m2, .int .i64 m3, .int .i64 m4, .int .i64 m5, .int .i64 m6, .string m7]) rfl (blk_cells H3.out.1) Tryz.isAgg30 Tryz.sizeOf30 ?_) | ((with_reducible refine gate_store (t := 30) (p := 4) rfl ?_); refine store_arr rfl rfl rfl (vs := #[.int .i64 m0, .int .i64 m1, .int .i64 m2, .int .i64 m3, .int .i64 m4, .int .i64 m5, .int .i64 m6, .string m7]) rfl rfl H3.out.2.1 (by simp) (by simp [Value.oneCell']) Tryz.sizeOf30 ?_; intro wE hwE; have HEND : Aside0 (wE.heap[w.heap.size + 1]? = some (.cells #[.int .i64 m0, .int .i64 m1, .int .i64 m2, .int .i64 m3, .int .i64 m4, .int .i64 m5, .int .i64 m6, .string m7] 30 (0, 0)) ∧ Below w.heap.size w wE ∧ (∀ u l, Kd.R Kd.string 9 w2 w.heap.size (fun _ => True) u l → Kd.R Kd.string 9 wE w.heap.size (fun _ => True) u l)) := ⟨by rw [hwE]; exact ⟨by rw [blk_setCells _ 0 _ _ H3.out.2.1]; rfl, below_setCells (by omega) _ 0 _ H3.out.2.2.1, fun u l h => Kd.R_over30 (Kd.R_below h H3.out.2.2.2) H3.out.2.1 _ 0⟩⟩; clear hwE))
  refine bodyPost_ret (results_ctt rfl _ _ (w.heap.size + 1) 30 #[.int .i64 m0, .int .i64 m1, .int .i64 m2, .int .i64 m3, .int .i64 m4, .int .i64 m5, .int .i64 m6, .string m7] (0, 0) _ rfl (by exact HEND.out.1) Tryz.underlying30 rfl jw) rfl ?_
  exact ⟨_, rfl, HEND.out.2.2 _ _ HO.out, HEND.out.2.1⟩
end Go.Proofs.YtjmooillogojkaaGreat.Q
