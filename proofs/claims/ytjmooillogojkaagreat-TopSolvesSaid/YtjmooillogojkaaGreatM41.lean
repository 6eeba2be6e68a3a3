/- manifest.Publish walked. No condition. -/
import Derived.Test.YtjmooillogojkaaGreatM40
set_option maxHeartbeats 8000000
set_option maxRecDepth 100000
set_option linter.unusedVariables false
set_option linter.unusedSimpArgs false
namespace Go.Proofs.YtjmooillogojkaaGreat.Q
open Go.RowKit Go.Proofs.YtjmooillogojkaaGreatW.PrintWords Go.Proofs.YtjmooillogojkaaGreatW.PrintLast Go.Proofs.YtjmooillogojkaaGreatW.PrintMore
open Go.Proofs.YtjmooillogojkaaGreat Plain Deg
theorem R_setCells {W : World} {base g : Nat} {ok : Nat → Prop} {v : Value} {l : List ByteArray} (h : Kd.R Kd.string 9 W base ok v l) (hg : g < base) (vs : List Value) (o : Nat) : Kd.R Kd.string 9 (W.setCells g o vs) base ok v l := by
 induction vs generalizing W o with
 | nil => exact h
 | cons v r ih =>
  refine ih (W := W.setCell ⟨g, o, none⟩ v) ?_ _
  exact Kd.R_mono (Kd.R_far (p := ⟨g, o, none⟩) (Kd.R_far1 h rfl (g := g) (fun e => by have := Kd.R_base h g e.symm; omega)) (fun _ hk => hk.2) v) (fun _ hk => hk.1)
theorem publish_no {file : ByteArray} {s0 s1 s2 s3 s4 s5 er : Int} {bl : List ByteArray} (h1 : block_Cut.f file s0 = some (bl, er)) (he : er ≠ 0) (w : World) :
  Calls Tryz.prog 12 #[.string file, .agg #[.int .i64 s0, .int .i64 s1, .int .i64 s2, .int .i64 s3, .int .i64 s4, .int .i64 s5]] w fun e w' => e = .returned (.tuple #[.agg #[.int .i64 0, .int .i64 0, .int .i64 0, .int .i64 0, .int .i64 0, .int .i64 0, .int .i64 0, .string ⟨#[]⟩], .slice none 0 0, .int .i64 er]) ∧ Below w.heap.size w w' := by
 have HC := jo h1
 have e1 : (er != 0) = true := bne_iff_ne.2 he
 have e2 : (er == 0) = false := beq_eq_false_iff_ne.2 he
 clear h1 he
 have b1 : Below w.heap.size w ((w.alloc (.cells #[.int .i64 s0, .int .i64 s1, .int .i64 s2, .int .i64 s3, .int .i64 s4, .int .i64 s5] 27)).alloc (.cells #[.int .i64 0, .int .i64 0, .int .i64 0, .int .i64 0, .int .i64 0, .int .i64 0, .int .i64 0, .string ⟨#[]⟩] 30)) := below_alloc (below_alloc (Below.refl _ _) _) _
 have k1 : ((w.alloc (.cells #[.int .i64 s0, .int .i64 s1, .int .i64 s2, .int .i64 s3, .int .i64 s4, .int .i64 s5] 27)).alloc (.cells #[.int .i64 0, .int .i64 0, .int .i64 0, .int .i64 0, .int .i64 0, .int .i64 0, .int .i64 0, .string ⟨#[]⟩] 30)).heap[w.heap.size]? = some (.cells #[.int .i64 s0, .int .i64 s1, .int .i64 s2, .int .i64 s3, .int .i64 s4, .int .i64 s5] 27 (0, 0)) := blk_alloc (blk_new w _) _
 have k2 : ((w.alloc (.cells #[.int .i64 s0, .int .i64 s1, .int .i64 s2, .int .i64 s3, .int .i64 s4, .int .i64 s5] 27)).alloc (.cells #[.int .i64 0, .int .i64 0, .int .i64 0, .int .i64 0, .int .i64 0, .int .i64 0, .int .i64 0, .string ⟨#[]⟩] 30)).heap[w.heap.size + 1]? = some (.cells #[.int .i64 0, .int .i64 0, .int .i64 0, .int .i64 0, .int .i64 0, .int .i64 0, .int .i64 0, .string ⟨#[]⟩] 30 (0, 0)) := by
  have := blk_new (w.alloc (.cells #[.int .i64 s0, .int .i64 s1, .int .i64 s2, .int .i64 s3, .int .i64 s4, .int .i64 s5] 27)) (.cells #[.int .i64 0, .int .i64 0, .int .i64 0, .int .i64 0, .int .i64 0, .int .i64 0, .int .i64 0, .string ⟨#[]⟩] 30)
  rw [World.size_alloc] at this
  exact this
 have z1 : ((w.alloc (.cells #[.int .i64 s0, .int .i64 s1, .int .i64 s2, .int .i64 s3, .int .i64 s4, .int .i64 s5] 27)).alloc (.cells #[.int .i64 0, .int .i64 0, .int .i64 0, .int .i64 0, .int .i64 0, .int .i64 0, .int .i64 0, .string ⟨#[]⟩] 30)).heap.size = w.heap.size + 1 + 1 := by rw [World.size_alloc, World.size_alloc]
 go_enter Tryz.func12, Tryz.ntmps12
 go_wp2_with fail
 generalize (w.alloc (.cells #[.int .i64 s0, .int .i64 s1, .int .i64 s2, .int .i64 s3, .int .i64 s4, .int .i64 s5] 27)).alloc (.cells #[.int .i64 0, .int .i64 0, .int .i64 0, .int .i64 0, .int .i64 0, .int .i64 0, .int .i64 0, .string ⟨#[]⟩] 30) = W1 at b1 k1 k2 z1 ⊢
 with_reducible refine (block_Cut.calls _ _ _ _ W1 HC.out).mono ?_
 rintro e w2 ⟨v2, rfl, ho2, hb2⟩
 obtain ⟨A2, c2, e2⟩ := Kd.R_slice ho2
 subst e2
 have H2 := jo (And.intro (below_step b1 hb2) (And.intro (blk_below k1 hb2) (And.intro (blk_below k2 hb2) (And.intro ho2 z1))))
 clear b1 k1 k2 z1 hb2 ho2 HC
 go_wp2_with (((with_reducible refine gate_store (t := 30) (p := 4) rfl ?_); refine store_arr rfl rfl rfl (vs := #[.int .i64 0, .int .i64 0, .int .i64 0, .int .i64 0, .int .i64 0, .int .i64 0, .int .i64 0, .string ⟨#[]⟩]) rfl rfl H2.out.2.2.1 (by simp) (by simp [Value.oneCell']) Tryz.sizeOf30 ?_; intro wE hwE; have HEND : Aside0 (wE.heap[w.heap.size + 1]? = some (.cells #[.int .i64 0, .int .i64 0, .int .i64 0, .int .i64 0, .int .i64 0, .int .i64 0, .int .i64 0, .string ⟨#[]⟩] 30 (0, 0)) ∧ Below w.heap.size w wE) := ⟨by rw [hwE]; exact ⟨by rw [blk_setCells _ 0 _ _ H2.out.2.2.1]; rfl, below_setCells (by omega) _ 0 _ H2.out.1⟩⟩; clear hwE))
 refine bodyPost_ret (results_ctt rfl _ _ (w.heap.size + 1) 30 #[.int .i64 0, .int .i64 0, .int .i64 0, .int .i64 0, .int .i64 0, .int .i64 0, .int .i64 0, .string ⟨#[]⟩] (0, 0) _ rfl (by exact HEND.out.1) Tryz.underlying30 rfl jw) rfl ?_
 exact ⟨rfl, HEND.out.2⟩
theorem publish_bad {file : ByteArray} {s0 s1 s2 s3 s4 s5 : Int} {bl : List ByteArray} {b1' b2' : Bool} (h1 : block_Cut.f file s0 = some (bl, 0)) (h2 : manifest_seeded.f s1 = some b1') (h3 : degree_Check.f s2 s3 s4 s5 = some b2') (hn : (b1' && b2') = false) (w : World) :
  Calls Tryz.prog 12 #[.string file, .agg #[.int .i64 s0, .int .i64 s1, .int .i64 s2, .int .i64 s3, .int .i64 s4, .int .i64 s5]] w fun e w' => e = .returned (.tuple #[.agg #[.int .i64 0, .int .i64 0, .int .i64 0, .int .i64 0, .int .i64 0, .int .i64 0, .int .i64 0, .string ⟨#[]⟩], .slice none 0 0, .int .i64 1]) ∧ Below w.heap.size w w' := by
 have HC := jo h1
 have HS := jo h2
 have HD := jo h3
 clear h1 h2 h3
 have b1 : Below w.heap.size w ((w.alloc (.cells #[.int .i64 s0, .int .i64 s1, .int .i64 s2, .int .i64 s3, .int .i64 s4, .int .i64 s5] 27)).alloc (.cells #[.int .i64 0, .int .i64 0, .int .i64 0, .int .i64 0, .int .i64 0, .int .i64 0, .int .i64 0, .string ⟨#[]⟩] 30)) := below_alloc (below_alloc (Below.refl _ _) _) _
 have k1 : ((w.alloc (.cells #[.int .i64 s0, .int .i64 s1, .int .i64 s2, .int .i64 s3, .int .i64 s4, .int .i64 s5] 27)).alloc (.cells #[.int .i64 0, .int .i64 0, .int .i64 0, .int .i64 0, .int .i64 0, .int .i64 0, .int .i64 0, .string ⟨#[]⟩] 30)).heap[w.heap.size]? = some (.cells #[.int .i64 s0, .int .i64 s1, .int .i64 s2, .int .i64 s3, .int .i64 s4, .int .i64 s5] 27 (0, 0)) := blk_alloc (blk_new w _) _
 have k2 : ((w.alloc (.cells #[.int .i64 s0, .int .i64 s1, .int .i64 s2, .int .i64 s3, .int .i64 s4, .int .i64 s5] 27)).alloc (.cells #[.int .i64 0, .int .i64 0, .int .i64 0, .int .i64 0, .int .i64 0, .int .i64 0, .int .i64 0, .string ⟨#[]⟩] 30)).heap[w.heap.size + 1]? = some (.cells #[.int .i64 0, .int .i64 0, .int .i64 0, .int .i64 0, .int .i64 0, .int .i64 0, .int .i64 0, .string ⟨#[]⟩] 30 (0, 0)) := by
  have := blk_new (w.alloc (.cells #[.int .i64 s0, .int .i64 s1, .int .i64 s2, .int .i64 s3, .int .i64 s4, .int .i64 s5] 27)) (.cells #[.int .i64 0, .int .i64 0, .int .i64 0, .int .i64 0, .int .i64 0, .int .i64 0, .int .i64 0, .string ⟨#[]⟩] 30)
  rw [World.size_alloc] at this
  exact this
 have z1 : ((w.alloc (.cells #[.int .i64 s0, .int .i64 s1, .int .i64 s2, .int .i64 s3, .int .i64 s4, .int .i64 s5] 27)).alloc (.cells #[.int .i64 0, .int .i64 0, .int .i64 0, .int .i64 0, .int .i64 0, .int .i64 0, .int .i64 0, .string ⟨#[]⟩] 30)).heap.size = w.heap.size + 1 + 1 := by rw [World.size_alloc, World.size_alloc]
 go_enter Tryz.func12, Tryz.ntmps12
 go_wp2_with fail
 generalize (w.alloc (.cells #[.int .i64 s0, .int .i64 s1, .int .i64 s2, .int .i64 s3, .int .i64 s4, .int .i64 s5] 27)).alloc (.cells #[.int .i64 0, .int .i64 0, .int .i64 0, .int .i64 0, .int .i64 0, .int .i64 0, .int .i64 0, .string ⟨#[]⟩] 30) = W1 at b1 k1 k2 z1 ⊢
 with_reducible refine (block_Cut.calls _ _ _ _ W1 HC.out).mono ?_
 rintro e w2 ⟨v2, rfl, ho2, hb2⟩
 obtain ⟨A2, c2, e2⟩ := Kd.R_slice ho2
 subst e2
 have H2 := jo (And.intro (below_step b1 hb2) (And.intro (blk_below k1 hb2) (And.intro (blk_below k2 hb2) (And.intro ho2 z1))))
 clear b1 k1 k2 z1 hb2 ho2 HC
 have d0 : w2.cell? ⟨w.heap.size, 0, none⟩ = some (.int .i64 s0) := blk_cell H2.out.2.1 0
 have d1 : w2.cell? ⟨w.heap.size, 1, none⟩ = some (.int .i64 s1) := blk_cell H2.out.2.1 1
 have d2 : w2.cell? ⟨w.heap.size, 2, none⟩ = some (.int .i64 s2) := blk_cell H2.out.2.1 2
 have d3 : w2.cell? ⟨w.heap.size, 3, none⟩ = some (.int .i64 s3) := blk_cell H2.out.2.1 3
 have d4 : w2.cell? ⟨w.heap.size, 4, none⟩ = some (.int .i64 s4) := blk_cell H2.out.2.1 4
 have d5 : w2.cell? ⟨w.heap.size, 5, none⟩ = some (.int .i64 s5) := blk_cell H2.out.2.1 5
 go_wp2_with fail
 with_reducible refine (manifest_seeded.calls _ _ _ HS.out).mono ?_
 rintro e w3 ⟨rfl, ⟨k, rfl⟩⟩
 have H3 := jo (And.intro (pw_below_drewN H2.out.1 k) (And.intro (blk_drewN H2.out.2.1 k) (blk_drewN H2.out.2.2.1 k)))
 generalize w2.drewN k = w3 at H3 ⊢
 clear d0 d1 d2 d3 d4 d5 HS
 have d0 : w3.cell? ⟨w.heap.size, 0, none⟩ = some (.int .i64 s0) := blk_cell H3.out.2.1 0
 have d1 : w3.cell? ⟨w.heap.size, 1, none⟩ = some (.int .i64 s1) := blk_cell H3.out.2.1 1
 have d2 : w3.cell? ⟨w.heap.size, 2, none⟩ = some (.int .i64 s2) := blk_cell H3.out.2.1 2
 have d3 : w3.cell? ⟨w.heap.size, 3, none⟩ = some (.int .i64 s3) := blk_cell H3.out.2.1 3
 have d4 : w3.cell? ⟨w.heap.size, 4, none⟩ = some (.int .i64 s4) := blk_cell H3.out.2.1 4
 have d5 : w3.cell? ⟨w.heap.size, 5, none⟩ = some (.int .i64 s5) := blk_cell H3.out.2.1 5
 cases b1' with
 | false =>
  clear hn HD
  go_wp2_with (((with_reducible refine gate_store (t := 30) (p := 4) rfl ?_); refine store_arr rfl rfl rfl (vs := #[.int .i64 0, .int .i64 0, .int .i64 0, .int .i64 0, .int .i64 0, .int .i64 0, .int .i64 0, .string ⟨#[]⟩]) rfl rfl H3.out.2.2 (by simp) (by simp [Value.oneCell']) Tryz.sizeOf30 ?_; intro wE hwE; have HEND : Aside0 (wE.heap[w.heap.size + 1]? = some (.cells #[.int .i64 0, .int .i64 0, .int .i64 0, .int .i64 0, .int .i64 0, .int .i64 0, .int .i64 0, .string ⟨#[]⟩] 30 (0, 0)) ∧ Below w.heap.size w wE) := ⟨by rw [hwE]; exact ⟨by rw [blk_setCells _ 0 _ _ H3.out.2.2]; rfl, below_setCells (by omega) _ 0 _ H3.out.1⟩⟩; clear hwE))
  refine bodyPost_ret (results_ctt rfl _ _ (w.heap.size + 1) 30 #[.int .i64 0, .int .i64 0, .int .i64 0, .int .i64 0, .int .i64 0, .int .i64 0, .int .i64 0, .string ⟨#[]⟩] (0, 0) _ rfl (by exact HEND.out.1) Tryz.underlying30 rfl jw) rfl ?_
  exact ⟨rfl, HEND.out.2⟩
 | true =>
  rw [Bool.true_and] at hn
  subst hn
  go_wp2_with fail
  with_reducible refine (degree_Check.calls _ _ _ _ _ _ HD.out).mono ?_
  rintro e w4 ⟨rfl, hb4⟩
  have H4 := jo (And.intro (below_step H3.out.1 hb4) (blk_below H3.out.2.2 hb4))
  clear hb4 d0 d1 d2 d3 d4 d5
  go_wp2_with (((with_reducible refine gate_store (t := 30) (p := 4) rfl ?_); refine store_arr rfl rfl rfl (vs := #[.int .i64 0, .int .i64 0, .int .i64 0, .int .i64 0, .int .i64 0, .int .i64 0, .int .i64 0, .string ⟨#[]⟩]) rfl rfl H4.out.2 (by simp) (by simp [Value.oneCell']) Tryz.sizeOf30 ?_; intro wE hwE; have HEND : Aside0 (wE.heap[w.heap.size + 1]? = some (.cells #[.int .i64 0, .int .i64 0, .int .i64 0, .int .i64 0, .int .i64 0, .int .i64 0, .int .i64 0, .string ⟨#[]⟩] 30 (0, 0)) ∧ Below w.heap.size w wE) := ⟨by rw [hwE]; exact ⟨by rw [blk_setCells _ 0 _ _ H4.out.2]; rfl, below_setCells (by omega) _ 0 _ H4.out.1⟩⟩; clear hwE))
  refine bodyPost_ret (results_ctt rfl _ _ (w.heap.size + 1) 30 #[.int .i64 0, .int .i64 0, .int .i64 0, .int .i64 0, .int .i64 0, .int .i64 0, .int .i64 0, .string ⟨#[]⟩] (0, 0) _ rfl (by exact HEND.out.1) Tryz.underlying30 rfl jw) rfl ?_
  exact ⟨rfl, HEND.out.2⟩
theorem publish_yes {file : ByteArray} {s0 s1 s2 s3 s4 s5 : Int} {bl whole : List ByteArray} {root : ByteArray} {k : Nat} {e1' e2' : Int} (hm : MF.may ⟨file.size, s0, s1, s2, s3, s4, s5, ⟨#[]⟩⟩) (h1 : block_Cut.f file s0 = some (bl, 0)) (h5 : outer_Whole.f k s1 (MF.N ⟨file.size, s0, s1, s2, s3, s4, s5, ⟨#[]⟩⟩) (MF.A ⟨file.size, s0, s1, s2, s3, s4, s5, ⟨#[]⟩⟩) s4 bl = some (whole, e1')) (h6 : merkle_Root.f k whole = some (root, e2')) (w : World) :
  Calls Tryz.prog 12 #[.string file, .agg #[.int .i64 s0, .int .i64 s1, .int .i64 s2, .int .i64 s3, .int .i64 s4, .int .i64 s5]] w fun e w' => ∃ v, e = .returned (.tuple #[.agg #[.int .i64 (file.size : Int), .int .i64 s0, .int .i64 s1, .int .i64 s2, .int .i64 s3, .int .i64 s4, .int .i64 s5, .string root], v, .int .i64 0]) ∧ Kd.R Kd.string 9 w' w.heap.size (fun _ => True) v whole ∧ Below w.heap.size w w' := by
 have HC := jo h1
 have HS := jo (show manifest_seeded.f s1 = some true by rw [seeded_spec]; exact congrArg some hm.seed)
 have HD := jo (show degree_Check.f s2 s3 s4 s5 = some true by rw [check6]; exact congrArg some hm.code)
 have HP := jo (fun W => plan_ok hm W)
 unfold MF.v at HP
 simp only at HP
 generalize MF.N ⟨file.size, s0, s1, s2, s3, s4, s5, ⟨#[]⟩⟩ = N at h5 HP
 generalize MF.A ⟨file.size, s0, s1, s2, s3, s4, s5, ⟨#[]⟩⟩ = A at h5 HP
 have HW := jo h5
 have HM := jo h6
 clear h1 h5 h6 hm
 have b1 : Below w.heap.size w ((w.alloc (.cells #[.int .i64 s0, .int .i64 s1, .int .i64 s2, .int .i64 s3, .int .i64 s4, .int .i64 s5] 27)).alloc (.cells #[.int .i64 0, .int .i64 0, .int .i64 0, .int .i64 0, .int .i64 0, .int .i64 0, .int .i64 0, .string ⟨#[]⟩] 30)) := below_alloc (below_alloc (Below.refl _ _) _) _
 have k1 : ((w.alloc (.cells #[.int .i64 s0, .int .i64 s1, .int .i64 s2, .int .i64 s3, .int .i64 s4, .int .i64 s5] 27)).alloc (.cells #[.int .i64 0, .int .i64 0, .int .i64 0, .int .i64 0, .int .i64 0, .int .i64 0, .int .i64 0, .string ⟨#[]⟩] 30)).heap[w.heap.size]? = some (.cells #[.int .i64 s0, .int .i64 s1, .int .i64 s2, .int .i64 s3, .int .i64 s4, .int .i64 s5] 27 (0, 0)) := blk_alloc (blk_new w _) _
 have k2 : ((w.alloc (.cells #[.int .i64 s0, .int .i64 s1, .int .i64 s2, .int .i64 s3, .int .i64 s4, .int .i64 s5] 27)).alloc (.cells #[.int .i64 0, .int .i64 0, .int .i64 0, .int .i64 0, .int .i64 0, .int .i64 0, .int .i64 0, .string ⟨#[]⟩] 30)).heap[w.heap.size + 1]? = some (.cells #[.int .i64 0, .int .i64 0, .int .i64 0, .int .i64 0, .int .i64 0, .int .i64 0, .int .i64 0, .string ⟨#[]⟩] 30 (0, 0)) := by
  have := blk_new (w.alloc (.cells #[.int .i64 s0, .int .i64 s1, .int .i64 s2, .int .i64 s3, .int .i64 s4, .int .i64 s5] 27)) (.cells #[.int .i64 0, .int .i64 0, .int .i64 0, .int .i64 0, .int .i64 0, .int .i64 0, .int .i64 0, .string ⟨#[]⟩] 30)
  rw [World.size_alloc] at this
  exact this
 have z1 : ((w.alloc (.cells #[.int .i64 s0, .int .i64 s1, .int .i64 s2, .int .i64 s3, .int .i64 s4, .int .i64 s5] 27)).alloc (.cells #[.int .i64 0, .int .i64 0, .int .i64 0, .int .i64 0, .int .i64 0, .int .i64 0, .int .i64 0, .string ⟨#[]⟩] 30)).heap.size = w.heap.size + 1 + 1 := by rw [World.size_alloc, World.size_alloc]
 go_enter Tryz.func12, Tryz.ntmps12
 go_wp2_with fail
 generalize (w.alloc (.cells #[.int .i64 s0, .int .i64 s1, .int .i64 s2, .int .i64 s3, .int .i64 s4, .int .i64 s5] 27)).alloc (.cells #[.int .i64 0, .int .i64 0, .int .i64 0, .int .i64 0, .int .i64 0, .int .i64 0, .int .i64 0, .string ⟨#[]⟩] 30) = W1 at b1 k1 k2 z1 ⊢
 with_reducible refine (block_Cut.calls _ _ _ _ W1 HC.out).mono ?_
 rintro e w2 ⟨v2, rfl, ho2, hb2⟩
 obtain ⟨A2, c2, e2⟩ := Kd.R_slice ho2
 subst e2
 have H2 := jo (And.intro (below_step b1 hb2) (And.intro (blk_below k1 hb2) (And.intro (blk_below k2 hb2) (And.intro ho2 z1))))
 clear b1 k1 k2 z1 hb2 ho2 HC
 have d0 : w2.cell? ⟨w.heap.size, 0, none⟩ = some (.int .i64 s0) := blk_cell H2.out.2.1 0
 have d1 : w2.cell? ⟨w.heap.size, 1, none⟩ = some (.int .i64 s1) := blk_cell H2.out.2.1 1
 have d2 : w2.cell? ⟨w.heap.size, 2, none⟩ = some (.int .i64 s2) := blk_cell H2.out.2.1 2
 have d3 : w2.cell? ⟨w.heap.size, 3, none⟩ = some (.int .i64 s3) := blk_cell H2.out.2.1 3
 have d4 : w2.cell? ⟨w.heap.size, 4, none⟩ = some (.int .i64 s4) := blk_cell H2.out.2.1 4
 have d5 : w2.cell? ⟨w.heap.size, 5, none⟩ = some (.int .i64 s5) := blk_cell H2.out.2.1 5
 go_wp2_with fail
 with_reducible refine (manifest_seeded.calls _ _ _ HS.out).mono ?_
 rintro e w3 ⟨rfl, ⟨kd, rfl⟩⟩
 have H3 := jo (And.intro (pw_below_drewN H2.out.1 kd) (And.intro (blk_drewN H2.out.2.1 kd) (And.intro (blk_drewN H2.out.2.2.1 kd) (Kd.R_drewN H2.out.2.2.2.1 kd))))
 generalize w2.drewN kd = w3 at H3 ⊢
 clear d0 d1 d2 d3 d4 d5 HS
 have d0 : w3.cell? ⟨w.heap.size, 0, none⟩ = some (.int .i64 s0) := blk_cell H3.out.2.1 0
 have d1 : w3.cell? ⟨w.heap.size, 1, none⟩ = some (.int .i64 s1) := blk_cell H3.out.2.1 1
 have d2 : w3.cell? ⟨w.heap.size, 2, none⟩ = some (.int .i64 s2) := blk_cell H3.out.2.1 2
 have d3 : w3.cell? ⟨w.heap.size, 3, none⟩ = some (.int .i64 s3) := blk_cell H3.out.2.1 3
 have d4 : w3.cell? ⟨w.heap.size, 4, none⟩ = some (.int .i64 s4) := blk_cell H3.out.2.1 4
 have d5 : w3.cell? ⟨w.heap.size, 5, none⟩ = some (.int .i64 s5) := blk_cell H3.out.2.1 5
 go_wp2_with fail
 with_reducible refine (degree_Check.calls _ _ _ _ _ _ HD.out).mono ?_
 rintro e w4 ⟨rfl, hb4⟩
 have H4 := jo (And.intro (below_step H3.out.1 hb4) (And.intro (blk_below H3.out.2.1 hb4) (And.intro (blk_below H3.out.2.2.1 hb4) (Kd.R_below H3.out.2.2.2 hb4))))
 clear hb4 d0 d1 d2 d3 d4 d5 HD
 have d0 : w4.cell? ⟨w.heap.size, 0, none⟩ = some (.int .i64 s0) := blk_cell H4.out.2.1 0
 have d1 : w4.cell? ⟨w.heap.size, 1, none⟩ = some (.int .i64 s1) := blk_cell H4.out.2.1 1
 have d2 : w4.cell? ⟨w.heap.size, 2, none⟩ = some (.int .i64 s2) := blk_cell H4.out.2.1 2
 have d3 : w4.cell? ⟨w.heap.size, 3, none⟩ = some (.int .i64 s3) := blk_cell H4.out.2.1 3
 have d4 : w4.cell? ⟨w.heap.size, 4, none⟩ = some (.int .i64 s4) := blk_cell H4.out.2.1 4
 have d5 : w4.cell? ⟨w.heap.size, 5, none⟩ = some (.int .i64 s5) := blk_cell H4.out.2.1 5
 go_wp2_with (first | ((with_reducible refine gate_store (t := 30) (p := 4) rfl ?_); refine store_arr rfl rfl rfl (vs := #[.int .i64 (file.size : Int), .int .i64 s0, .int .i64 s1, .int .i64 s2, .int .i64 s3, .int .i64 s4, .int .i64 s5, .string ⟨#[]⟩]) rfl rfl H4.out.2.2.1 (by simp) (by simp [Value.oneCell']) Tryz.sizeOf30 ?_; intro w5 hw5; have H5 : Aside0 (w5.heap[w.heap.size + 1]? = some (.cells #[.int .i64 (file.size : Int), .int .i64 s0, .int .i64 s1, .int .i64 s2, .int .i64 s3, .int .i64 s4, .int .i64 s5, .string ⟨#[]⟩] 30 (0, 0)) ∧ Below w.heap.size w w5 ∧ Kd.R Kd.string 9 w5 W1.heap.size (fun _ => True) (.slice A2 bl.length c2) bl) := ⟨by rw [hw5]; exact ⟨by rw [blk_setCells _ 0 _ _ H4.out.2.2.1]; rfl, below_setCells (by omega) _ 0 _ H4.out.1, R_setCells H4.out.2.2.2 (by rw [H2.out.2.2.2.2]; omega) _ 0⟩⟩; clear hw5 d0 d1 d2 d3 d4 d5) | ((with_reducible refine gate_dst (N := 42) rfl ?_); refine load_event rfl (N := 42) rfl (t := 30) rfl (cs := #[.int .i64 (file.size : Int), .int .i64 s0, .int .i64 s1, .int .i64 s2, .int .i64 s3, .int .i64 s4, .int .i64 s5, .string ⟨#[]⟩]) rfl (blk_cells H5.out.1) Tryz.isAgg30 Tryz.sizeOf30 ?_))
 with_reducible refine (HP.out w5).mono ?_
 rintro e w6 ⟨rfl, hb6⟩
 have H6 := jo (And.intro (blk_below H5.out.1 hb6) (And.intro (below_step H5.out.2.1 hb6) (Kd.R_below H5.out.2.2 hb6)))
 have hr6 := Kd.R_reads' H6.out.2.2
 have HQ := jo (outer_Whole.calls _ _ _ _ _ _ _ _ _ _ w6 hr6.2.2 hr6.2.1 HW.out)
 clear hb6 hr6 HW
 go_wp2_with fail
 with_reducible refine HQ.out.mono ?_
 rintro e w7 ⟨v7, rfl, ho7, hb7⟩
 obtain ⟨A7, c7, e7⟩ := Kd.R_slice ho7
 subst e7
 have hr7 := Kd.R_reads' ho7
 have HQ2 := jo (merkle_Root.calls _ _ _ _ _ _ w7 hr7.2.2 hr7.2.1 HM.out)
 have H7 := jo (And.intro (blk_below H6.out.1 hb7) (And.intro (below_step H6.out.2.1 hb7) (And.intro (Kd.R_lower ho7 (Nat.le_trans H6.out.2.1.size (Nat.le_refl _))) (blk_lt H6.out.1))))
 clear hb7 hr7 HM HQ
 have H7b := jo ho7
 clear ho7
 go_wp2_with fail
 with_reducible refine HQ2.out.mono ?_
 rintro e w8 ⟨rfl, hb8⟩
 have H8 : Aside0 ((w8.setCell ⟨w.heap.size + 1, 7, none⟩ (.string root)).heap[w.heap.size + 1]? = some (.cells #[.int .i64 (file.size : Int), .int .i64 s0, .int .i64 s1, .int .i64 s2, .int .i64 s3, .int .i64 s4, .int .i64 s5, .string root] 30 (0, 0)) ∧ Below w.heap.size w (w8.setCell ⟨w.heap.size + 1, 7, none⟩ (.string root)) ∧ Kd.R Kd.string 9 (w8.setCell ⟨w.heap.size + 1, 7, none⟩ (.string root)) w6.heap.size (fun _ => True) (.slice A7 whole.length c7) whole) := ⟨by rw [blk_put (blk_below H7.out.1 hb8) 7 _ rfl]; rfl, below_set (below_step H7.out.2.1 hb8) (by simp), R_setCells (Kd.R_below H7b.out hb8) H7.out.2.2.2 [.string root] 7⟩
 have hc8 : ∀ i, w8.cell? ⟨w.heap.size + 1, i, none⟩ = _ := fun i => blk_cell (blk_below H7.out.1 hb8) i
 have hf8 := fun i => blk_frozen (blk_below H7.out.1 hb8) i
 clear hb8 HQ2
 go_wp2_with (first | ((with_reducible refine gate_dst (N := 54) rfl ?_); refine load_event rfl (N := 54) rfl (t := 30) rfl (cs := #[.int .i64 (file.size : Int), .int .i64 s0, .int .i64 s1, .int .i64 s2, .int .i64 s3, .int .i64 s4, .int .i64 s5, .string root]) rfl (blk_cells H8.out.1) Tryz.isAgg30 Tryz.sizeOf30 ?_) | ((with_reducible refine gate_store (t := 30) (p := 4) rfl ?_); refine store_arr rfl rfl rfl (vs := #[.int .i64 (file.size : Int), .int .i64 s0, .int .i64 s1, .int .i64 s2, .int .i64 s3, .int .i64 s4, .int .i64 s5, .string root]) rfl rfl H8.out.1 (by simp) (by simp [Value.oneCell']) Tryz.sizeOf30 ?_; intro wE hwE; have HEND : Aside0 (wE.heap[w.heap.size + 1]? = some (.cells #[.int .i64 (file.size : Int), .int .i64 s0, .int .i64 s1, .int .i64 s2, .int .i64 s3, .int .i64 s4, .int .i64 s5, .string root] 30 (0, 0)) ∧ Below w.heap.size w wE ∧ Kd.R Kd.string 9 wE w6.heap.size (fun _ => True) (.slice A7 whole.length c7) whole) := ⟨by rw [hwE]; exact ⟨by rw [blk_setCells _ 0 _ _ H8.out.1]; rfl, below_setCells (by omega) _ 0 _ H8.out.2.1, R_setCells H8.out.2.2 H7.out.2.2.2 _ 0⟩⟩; clear hwE))
 refine bodyPost_ret (results_ctt rfl _ _ (w.heap.size + 1) 30 #[.int .i64 (file.size : Int), .int .i64 s0, .int .i64 s1, .int .i64 s2, .int .i64 s3, .int .i64 s4, .int .i64 s5, .string root] (0, 0) _ rfl (by exact HEND.out.1) Tryz.underlying30 rfl jw) rfl ?_
 exact ⟨_, rfl, Kd.R_lower HEND.out.2.2 H6.out.2.1.size, HEND.out.2.1⟩
end Go.Proofs.YtjmooillogojkaaGreat.Q
