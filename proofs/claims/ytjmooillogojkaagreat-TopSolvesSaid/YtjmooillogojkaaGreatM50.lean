/- mosaictop.TopSolves walked: it answers true. No condition. -/
import Derived.Test.YtjmooillogojkaaGreatM49
set_option maxHeartbeats 8000000
set_option maxRecDepth 100000
set_option linter.unusedVariables false
set_option linter.unusedSimpArgs false
namespace Go.Proofs.YtjmooillogojkaaGreat.Q
open Go.RowKit Go.Proofs.YtjmooillogojkaaGreatW.PrintWords Go.Proofs.YtjmooillogojkaaGreatW.PrintLast Go.Proofs.YtjmooillogojkaaGreatW.PrintMore
open Go.Proofs.YtjmooillogojkaaGreat Plain Deg
open Go.Proofs.YtjmooillogojkaaGreat.Lin
theorem same_l0 (a : List ByteArray) (hm : a.length ≤ 1000000) : ∀ (d j k : Nat), a.length - j = d → j ≤ a.length → d < k → mosaicref03_Same.l0 k a a (j : Int) = some true
 | d, j, 0, _, _, hk => absurd hk (by omega)
 | d, j, k + 1, hd, hj, hk => by
  simp only [mosaicref03_Same.l0]
  by_cases hlt : j < a.length
  ·rw [if_pos (by omega), if_pos (by omega), if_pos (by omega), if_pos trivial, Deg.w64 (x := (j : Int) + 1) (by omega) (by omega)]
   exact same_l0 a hm (d - 1) (j + 1) k (by omega) (by omega) (by omega)
  ·rw [if_neg (by omega)]
theorem same_spec (a : List ByteArray) (hm : a.length ≤ 1000000) : mosaicref03_Same.f (a.length + 1) a a = some true := by
 unfold mosaicref03_Same.f
 rw [if_pos rfl]
 exact same_l0 a hm a.length 0 _ (by omega) (by omega) (by omega)
theorem has_l0 (l : List Int) (x : Int) (hm : l.length ≤ 9223372036854775807) : ∀ (d j k : Nat), l.length - j = d → j ≤ l.length → d < k → mosaicref09_Has.l0 k l x (j : Int) = some (decide (x ∈ l.drop j))
 | d, j, 0, _, _, hk => absurd hk (by omega)
 | d, j, k + 1, hd, hj, hk => by
  simp only [mosaicref09_Has.l0]
  by_cases hlt : j < l.length
  ·rw [if_pos (by omega), if_pos (by omega), rd_get hlt, List.drop_eq_getElem_cons hlt]
   by_cases he : l[j] = x
   ·rw [if_pos he]
    simp [he]
   ·rw [if_neg he]
    have hw : wrap64 ((j : Int) + 1) = ((j + 1 : Nat) : Int) := by unfold wrap64; omega
    rw [hw, has_l0 l x hm (d - 1) (j + 1) k (by omega) (by omega) (by omega)]
    congr 1
    refine decide_eq_decide.2 ?_
    rw [List.mem_cons]
    exact ⟨.inr, fun h => h.resolve_left (fun e => he e.symm)⟩
  ·have : j = l.length := by omega
   subst this
   rw [if_neg (by omega), List.drop_length]
   simp
theorem has_spec' (l : List Int) (x : Int) (hm : l.length ≤ 9223372036854775807) : mosaicref09_Has.f (l.length + 1) l x = some (decide (x ∈ l)) := has_l0 l x hm l.length 0 _ (by omega) (by omega) (by omega)
theorem pub_all (file : ByteArray) (s0 s1 s2 s3 s4 s5 : Int) :
  (∀ w, Calls Tryz.prog 4 #[.string file, .agg #[.int .i64 s0, .int .i64 s1, .int .i64 s2, .int .i64 s3, .int .i64 s4, .int .i64 s5]] w fun e w' => ∃ (m : MF) (v : Value), e = .returned (.tuple #[m.v, v, .bool false]) ∧ Below w.heap.size w w') ∨
  (∃ (m : MF) (W bl : List ByteArray), Pub m W bl ∧ 1 ≤ W.length ∧ ∀ w, Calls Tryz.prog 4 #[.string file, .agg #[.int .i64 s0, .int .i64 s1, .int .i64 s2, .int .i64 s3, .int .i64 s4, .int .i64 s5]] w fun e w' => ∃ v, e = .returned (.tuple #[m.v, v, .bool true]) ∧ Kd.R Kd.string 9 w' w.heap.size (fun _ => True) v W ∧ Below w.heap.size w w') := by
 by_cases h : 40 < file.size
 ·refine .inl fun w => (published_long h w).mono ?_
  rintro e w' ⟨rfl, hb⟩
  exact ⟨⟨0, 0, 0, 0, 0, 0, 0, ⟨#[]⟩⟩, _, rfl, hb⟩
 ·rcases publish_all file s0 s1 s2 s3 s4 s5 with ⟨er, he, hc⟩ | ⟨m, W, hp, _, _, _, _, _, _, hc⟩
  ·refine .inl fun w => (published_no h he hc w).mono ?_
   rintro e w' ⟨rfl, hb⟩
   exact ⟨⟨0, 0, 0, 0, 0, 0, 0, ⟨#[]⟩⟩, _, rfl, hb⟩
  ·by_cases h2 : (decide (W.length ≤ 24) && decide (0 < W.length)) = true
   ·refine .inr ⟨m, W, _, hp, ?_, fun w => ?_⟩
    ·simp only [Bool.and_eq_true, decide_eq_true_eq] at h2
     exact h2.2
    ·have := published_yes h hc w
     rw [h2] at this
     exact this
   ·refine .inl fun w => (published_yes h hc w).mono ?_
    rintro e w' ⟨v, rfl, _, hb⟩
    refine ⟨m, v, ?_, hb⟩
    rw [Bool.eq_false_iff.2 h2]
theorem top_none {file : ByteArray} {s0 s1 s2 s3 s4 s5 : Int} (hp : ∀ w, Calls Tryz.prog 4 #[.string file, .agg #[.int .i64 s0, .int .i64 s1, .int .i64 s2, .int .i64 s3, .int .i64 s4, .int .i64 s5]] w fun e w' => ∃ (m : MF) (v : Value), e = .returned (.tuple #[m.v, v, .bool false]) ∧ Below w.heap.size w w') (A : Option Addr) (n c : Nat) (w : World) :
  Calls Tryz.prog 3 #[.string file, .agg #[.int .i64 s0, .int .i64 s1, .int .i64 s2, .int .i64 s3, .int .i64 s4, .int .i64 s5], .slice A n c] w fun e w' => e = .returned (.bool true) ∧ Below w.heap.size w w' := by
 have HP := jo hp
 clear hp
 have b1 : Below w.heap.size w (w.alloc (.cells #[.int .i64 s0, .int .i64 s1, .int .i64 s2, .int .i64 s3, .int .i64 s4, .int .i64 s5] 27)) := below_alloc (Below.refl _ _) _
 go_enter Tryz.func3, Tryz.ntmps3
 go_wp2_with fail
 generalize w.alloc (.cells #[.int .i64 s0, .int .i64 s1, .int .i64 s2, .int .i64 s3, .int .i64 s4, .int .i64 s5] 27) = W1 at b1 ⊢
 with_reducible refine (HP.out W1).mono ?_
 rintro e w2 ⟨⟨m0, m1, m2, m3, m4, m5, m6, m7⟩, v8, rfl, hb2⟩
 have H2 := jo (below_step b1 hb2)
 clear b1 hb2 HP
 unfold MF.v
 simp only
 go_wp2_with (((with_reducible refine gate_store (t := 30) (p := 7) rfl ?_); refine store_arr rfl rfl rfl (vs := #[.int .i64 m0, .int .i64 m1, .int .i64 m2, .int .i64 m3, .int .i64 m4, .int .i64 m5, .int .i64 m6, .string m7]) rfl rfl (blk_new w2 _) (by simp) (by simp [Value.oneCell']) Tryz.sizeOf30 ?_; intro w3 hw3; have H3 : Aside0 (w3.heap[w2.heap.size]? = some (.cells #[.int .i64 m0, .int .i64 m1, .int .i64 m2, .int .i64 m3, .int .i64 m4, .int .i64 m5, .int .i64 m6, .string m7] 30 (0, 0)) ∧ Below w.heap.size w w3 ∧ Below w2.heap.size w2 w3) := ⟨by rw [hw3]; exact ⟨by rw [blk_setCells _ 0 _ _ (blk_new w2 _)]; rfl, below_setCells H2.out.size _ 0 _ (below_alloc H2.out _), below_setCells (Nat.le_refl _) _ 0 _ (below_alloc (Below.refl _ _) _)⟩⟩; clear hw3))
 with_reducible refine (fine_ok w3).mono ?_
 rintro e w4 ⟨rfl, hb4⟩
 have H4 := jo (below_step H3.out.2.1 hb4)
 clear hb4 H3 H2
 go_wp2_with fail
 with_reducible refine (fine_ok w4).mono ?_
 rintro e w5 ⟨rfl, hb5⟩
 have H5 := jo (below_step H4.out hb5)
 clear hb5 H4
 go_wp2
 go_ret
 exact ⟨rfl, H5.out⟩
theorem top_some {file : ByteArray} {s0 s1 s2 s3 s4 s5 : Int} {m : MF} {W bl : List ByteArray} (hpub : Pub m W bl) (hW1 : 1 ≤ W.length) (hp : ∀ w, Calls Tryz.prog 4 #[.string file, .agg #[.int .i64 s0, .int .i64 s1, .int .i64 s2, .int .i64 s3, .int .i64 s4, .int .i64 s5]] w fun e w' => ∃ v, e = .returned (.tuple #[m.v, v, .bool true]) ∧ Kd.R Kd.string 9 w' w.heap.size (fun _ => True) v W ∧ Below w.heap.size w w') {A : Option Addr} {c : Nat} {H : List S36} (w : World) (hr : Kd.C k36 w A H.length H) (hc : H.length ≤ c) :
  Calls Tryz.prog 3 #[.string file, .agg #[.int .i64 s0, .int .i64 s1, .int .i64 s2, .int .i64 s3, .int .i64 s4, .int .i64 s5], .slice A H.length c] w fun e w' => e = .returned (.bool true) ∧ Below w.heap.size w w' := by
 have HP := jo hp
 have HR := jo hr
 have HH : Aside0 (∀ (hh : ∀ x ∈ H, x.f2.size ≤ 100), ∃ (L : List S62) (R : List (List Int)) (sz : Nat) (kl : List Int), m.size = (sz : Int) ∧
   (∀ (W0 : World) (A8 : Option Addr) (c8 : Nat), Kd.C Kd.string W0 A8 W.length W → W.length ≤ c8 → Below w.heap.size w W0 → Calls Tryz.prog 6 #[m.v, .slice A8 W.length c8, .slice A H.length c] W0 fun e w' => ∃ v1 v2, e = .returned (.tuple #[v1, v2, .bool true]) ∧ NR EqJ 62 2 w' W0.heap.size v1 L ∧ NR RowJ 44 1 w' W0.heap.size v2 R ∧ Below W0.heap.size W0 w') ∧
   (∀ (W0 : World) (A1 : Option Addr) (c1 : Nat), Kd.C k62 W0 A1 L.length L → L.length ≤ c1 → Calls Tryz.prog 7 #[.int .i64 (W.length : Int), .int .i64 (sz : Int), .slice A1 L.length c1] W0 fun e w' => ∃ v, e = .returned (.tuple #[v, .int .i64 0]) ∧ Kd.R Kd.string 9 w' W0.heap.size (fun _ => True) v (solT W sz L) ∧ Below W0.heap.size W0 w') ∧
   (∀ (W0 : World) (A1 : Option Addr) (c1 : Nat), Kd.C k62 W0 A1 L.length L → L.length ≤ c1 → Calls Tryz.prog 8 #[.int .i64 (W.length : Int), .int .i64 (sz : Int), .slice A1 L.length c1] W0 fun e w' => ∃ v, e = .returned (.tuple #[v, .int .i64 0]) ∧ Kd.R Kd.string 9 w' W0.heap.size (fun _ => True) v (solT W sz L) ∧ Below W0.heap.size W0 w') ∧
   peel_Known.f 100000 (W.length : Int) R [] = some (kl, 0) ∧
   (solT W sz L).length = W.length ∧ ∀ i (hi : i < W.length) (hj : i < (solT W sz L).length), 0 < W[i].size ∧ (((solT W sz L)[i] = W[i]) ∨ ((solT W sz L)[i] = ⟨#[]⟩ ∧ (i : Int) ∉ kl))) := ⟨fun hh => by
  have hz1 := hpub.z1
  have hz2 := hpub.z2
  have hl := eqL_ok hpub hh
  have hL := eqL_rows hpub hh
  have h0 := eqL_len hpub H
  obtain ⟨kl, hk1, hk2⟩ := known_top (W := W) (sz := m.size.toNat) (fun x hx => (hl x hx).1) hL
  refine ⟨eqL m W H, (eqL m W H).map (·.f0), m.size.toNat, kl, by omega, fun W0 A8 c8 h8 h9 hb => eqns_ok hpub W0 h8 h9 (Kd.C_below hr hb) hc hh, fun W0 A1 c1 hA hc1 => solve7_top hpub.sz hl hL (by omega) hW1 (by omega) (by omega) W0 hA hc1, fun W0 A1 c1 hA hc1 => solve8_top hpub.sz hl hL (by omega) hW1 (by omega) (by omega) W0 hA hc1, hk1, solT_len _ _ _, fun i hi hj => ⟨?_, ?_⟩⟩
  ·have := hpub.sz W[i] (List.getElem_mem hi)
   omega
  ·rcases solT_at (sz := m.size.toNat) (l := eqL m W H) hi with h | h
   ·exact .inl h.1
   ·exact .inr ⟨h.1, fun hk => h.2 (hk2 i hk)⟩⟩
 have HM : Aside0 (W.length ≤ 160) := ⟨by have := hpub.len; have := hpub.may.all_le; omega⟩
 clear hp hr hpub
 have b1 : Below w.heap.size w (w.alloc (.cells #[.int .i64 s0, .int .i64 s1, .int .i64 s2, .int .i64 s3, .int .i64 s4, .int .i64 s5] 27)) := below_alloc (Below.refl _ _) _
 obtain ⟨m0, m1, m2, m3, m4, m5, m6, m7⟩ := m
 unfold MF.v at HP HH
 simp only at HP HH
 go_enter Tryz.func3, Tryz.ntmps3
 go_wp2_with fail
 generalize w.alloc (.cells #[.int .i64 s0, .int .i64 s1, .int .i64 s2, .int .i64 s3, .int .i64 s4, .int .i64 s5] 27) = W1 at b1 ⊢
 with_reducible refine (HP.out W1).mono ?_
 rintro e w2 ⟨v8, rfl, ho2, hb2⟩
 obtain ⟨A8, c8, e8⟩ := Kd.R_slice ho2
 subst e8
 have hr8 := Kd.R_reads' ho2
 have H2 := jo (below_step b1 hb2)
 have HC8 := jo hr8.2.1
 have HR8 := jo hr8.2.2
 clear b1 hb2 HP ho2 hr8
 go_wp2_with (((with_reducible refine gate_store (t := 30) (p := 7) rfl ?_); refine store_arr rfl rfl rfl (vs := #[.int .i64 m0, .int .i64 m1, .int .i64 m2, .int .i64 m3, .int .i64 m4, .int .i64 m5, .int .i64 m6, .string m7]) rfl rfl (blk_new w2 _) (by simp) (by simp [Value.oneCell']) Tryz.sizeOf30 ?_; intro w3 hw3; have H3 : Aside0 (w3.heap[w2.heap.size]? = some (.cells #[.int .i64 m0, .int .i64 m1, .int .i64 m2, .int .i64 m3, .int .i64 m4, .int .i64 m5, .int .i64 m6, .string m7] 30 (0, 0)) ∧ Below w.heap.size w w3 ∧ Below w2.heap.size w2 w3) := ⟨by rw [hw3]; exact ⟨by rw [blk_setCells _ 0 _ _ (blk_new w2 _)]; rfl, below_setCells H2.out.size _ 0 _ (below_alloc H2.out _), below_setCells (Nat.le_refl _) _ 0 _ (below_alloc (Below.refl _ _) _)⟩⟩; clear hw3))
 with_reducible refine (fine_ok w3).mono ?_
 rintro e w4 ⟨rfl, hb4⟩
 have H4 := jo (And.intro (blk_below H3.out.1 hb4) (And.intro (below_step H3.out.2.1 hb4) (Kd.C_below HR8.out (below_step H3.out.2.2 hb4))))
 clear hb4 H3 H2 HR8
 go_wp2
 go_loopg [10] H.length (fun gk v10 wr => ∃ i : Nat, v10 = .int .i64 i ∧ Aside0 (i + gk = H.length ∧ Below w4.heap.size w4 wr ∧ ∀ j (hj : j < H.length), j < i → H[j].f2.size ≤ 100))
 case atStart => exact ⟨0, rfl, ⟨by omega, Below.refl _ _, fun j hj h => absurd h (Nat.not_lt_zero _)⟩⟩
 case round =>
  obtain ⟨i, rfl, HA⟩ := hrel
  by_cases hlt : i < H.length
  ·have a1 : decide ((i : Int) < (H.length : Int)) = true := decide_eq_true (by omega)
   have a2 : decide (i < H.length) = true := decide_eq_true hlt
   have a3 : (i : Int) < (H.length : Int) := by omega
   obtain ⟨gq, rfl⟩ : ∃ q, gk = q + 1 := ⟨gk - 1, by have := HA.out.1; omega⟩
   have hrH := Kd.C_below HR.out (below_step H4.out.2.1 HA.out.2.1)
   obtain ⟨ah, eA, f0, f1, f2⟩ := at_T36 hrH (i : Int) (by omega) a3
   subst eA
   have hrd : rd_T36 H (i : Int) = H[i] := by
    unfold rd_T36
    rw [Int.toNat_natCast, List.getD_eq_getElem?_getD, List.getElem?_eq_getElem hlt]
    rfl
   rw [hrd, Int.toNat_natCast] at f2
   clear f0 f1 hrd
   have HSZ := jo (show H[i].f2.size ≤ 9223372036854775807 ∨ True from .inr trivial)
   have wi : wrap64 ((i : Int) + 1) = ((i + 1 : Nat) : Int) := by have := hrH.2.1; unfold wrap64; omega
   clear hrH
   obtain ⟨x2, hx2⟩ : ∃ x, x = H[i].f2 := ⟨_, rfl⟩
   rw [← hx2] at f2
   by_cases hs : x2.size ≤ 100
   ·have d1 : decide ((100 : Int) < (x2.size : Int)) = false := decide_eq_false (by omega)
    have d2 : decide (100 < x2.size) = false := decide_eq_false (by omega)
    have HX := jo (And.intro hx2 hs)
    clear hx2 hs HSZ
    go_wp2
    go_roundg gq
    case measure => omega
    case rel => exact ⟨i + 1, congrArg (Value.int .i64) wi, ⟨by have := HA.out.1; omega, HA.out.2.1, fun j hj h => by
     by_cases e : j = i
     ·subst e
      rw [← HX.out.1]
      exact HX.out.2
     ·exact HA.out.2.2 j hj (by omega)⟩⟩
   ·have d1 : decide ((100 : Int) < (x2.size : Int)) = true := decide_eq_true (by omega)
    have d2 : decide (100 < x2.size) = true := decide_eq_true (by omega)
    clear hx2 hs HSZ
    go_wp2
    go_ret
    exact ⟨rfl, below_step H4.out.2.1 HA.out.2.1⟩
  ·have a1 : decide ((i : Int) < (H.length : Int)) = false := decide_eq_false (by omega)
   have a2 : decide (i < H.length) = false := decide_eq_false hlt
   have a3 : ¬ (i : Int) < (H.length : Int) := by omega
   have hi : i = H.length := by have := HA.out.1; omega
   obtain ⟨L, R, sz, kl, hsz, h6, h7, h8, h9, hl, hel⟩ := HH.out (fun x hx => by
    obtain ⟨j, hj, rfl⟩ := List.getElem_of_mem hx
    exact HA.out.2.2 j hj (by omega))
   subst hsz
   have HB5 := jo (And.intro (blk_below H4.out.1 HA.out.2.1) (And.intro (below_step H4.out.2.1 HA.out.2.1) (Kd.C_below H4.out.2.2 HA.out.2.1)))
   have H6 := jo h6
   have H7 := jo h7
   have H8 := jo h8
   have H9 := jo h9
   have HEL := jo (And.intro hl hel)
   generalize solT W sz L = sol at H7 H8 HEL
   clear h6 h7 h8 h9 hl hel HA HH H4 hi
   go_wp2_with ((with_reducible refine gate_dst (N := 49) rfl ?_); refine load_event rfl (N := 49) rfl (t := 30) rfl (cs := #[.int .i64 m0, .int .i64 (sz : Int), .int .i64 m2, .int .i64 m3, .int .i64 m4, .int .i64 m5, .int .i64 m6, .string m7]) rfl (blk_cells HB5.out.1) Tryz.isAgg30 Tryz.sizeOf30 ?_)
   with_reducible refine (H6.out wr A8 c8 HB5.out.2.2 HC8.out HB5.out.2.1).mono ?_
   rintro e w5 ⟨v1, v2, rfl, hE, hR, hb5⟩
   obtain ⟨A11, c11, e11, hl11, hk11⟩ := EJ_reads hE
   obtain ⟨A12, c12, e12, hl12, hk12⟩ := RJ_reads hR
   subst e11 e12
   have hk5 := blk_below HB5.out.1 hb5
   have kz : w5.cell? ⟨w2.heap.size, 1, none⟩ = some (.int .i64 (sz : Int)) := blk_cell hk5 1
   have J5 := jo (And.intro hk5 (And.intro (below_step HB5.out.2.1 hb5) (And.intro (Kd.C_below HB5.out.2.2 hb5) (And.intro hk11 (And.intro hl11 (And.intro hk12 hl12))))))
   have Q7 := jo (H7.out w5 A11 c11 hk11 hl11)
   clear hE hR hb5 hl11 hk11 hl12 hk12 hk5 H6 HB5 H7
   go_wp2_with fail
   with_reducible refine Q7.out.mono ?_
   rintro e w6 ⟨v14, rfl, ho14, hb6⟩
   obtain ⟨A14, c14, e14, hl14, hk14⟩ := Kd.R_reads ho14
   rw [HEL.out.1] at e14
   subst e14
   have hk6 := blk_below J5.out.1 hb6
   have J6 := jo (And.intro hk6 (And.intro (below_step J5.out.2.1 hb6) (And.intro (Kd.C_below J5.out.2.2.1 hb6) (And.intro (Kd.C_below J5.out.2.2.2.1 hb6) (And.intro J5.out.2.2.2.2.1 (And.intro (Kd.C_below J5.out.2.2.2.2.2.1 hb6) J5.out.2.2.2.2.2.2))))))
   have K14 := jo (And.intro hl14 hk14)
   have Q8 := jo (H8.out w6 A11 c11 J6.out.2.2.2.1 J6.out.2.2.2.2.1)
   replace kz : w6.cell? ⟨w2.heap.size, 1, none⟩ = some (.int .i64 (sz : Int)) := blk_cell hk6 1
   clear ho14 hb6 hl14 hk14 hk6 J5 Q7 H8
   go_wp2_with fail
   with_reducible refine Q8.out.mono ?_
   rintro e w7 ⟨v16, rfl, ho16, hb7⟩
   obtain ⟨A16, c16, e16, hl16, hk16⟩ := Kd.R_reads ho16
   rw [HEL.out.1] at e16
   subst e16
   have J7 := jo (And.intro (below_step J6.out.2.1 hb7) (And.intro (Kd.C_below J6.out.2.2.1 hb7) (And.intro (Kd.C_below K14.out.2 hb7) K14.out.1)))
   have K16 := jo (And.intro hl16 hk16)
   have Q9 := jo (peel_Known.calls 100000 (W.length : Int) A12 c12 R none 0 [] kl 0 w7 (Kd.C_below J6.out.2.2.2.2.2.1 hb7) J6.out.2.2.2.2.2.2 ⟨rfl, by decide, fun h => absurd h (Nat.lt_irrefl _)⟩ (Nat.le_refl _) H9.out)
   rw [show ([] : List Int).length = 0 from rfl] at Q9
   clear ho16 hb7 hl16 hk16 J6 Q8 K14 kz
   go_wp2_with fail
   with_reducible refine Q9.out.mono ?_
   rintro e w8 ⟨v18, rfl, ho18, hb8⟩
   obtain ⟨A18, c18, e18, hl18, hk18⟩ := Kd.R_reads ho18
   subst e18
   have Q10 := jo (mosaicref03_Same.calls (sol.length + 1) A14 c14 sol A16 c16 sol true w8 (Kd.C_below J7.out.2.2.1 hb8) J7.out.2.2.2 (Kd.C_below K16.out.2 hb8) K16.out.1 (same_spec sol (by rw [HEL.out.1]; have := HM.out; omega)))
   rw [HEL.out.1] at Q10
   have J8 := jo (And.intro (below_step J7.out.1 hb8) (And.intro (Kd.C_below J7.out.2.1 hb8) (And.intro (Kd.C_below J7.out.2.2.1 hb8) (And.intro hk18 hl18))))
   clear ho18 hb8 hl18 hk18 J7 Q9 K16
   go_wp2_with (go_at_call 10; (with_reducible refine Q10.out.mono ?_); rintro e w9 ⟨rfl, ⟨nd, rfl⟩⟩; have J9 := jo (And.intro (pw_below_drewN J8.out.1 nd) (And.intro (Kd.C_below J8.out.2.1 (pw_below_drewN (Below.refl _ _) nd)) (And.intro (Kd.C_below J8.out.2.2.1 (pw_below_drewN (Below.refl _ _) nd)) (And.intro (Kd.C_below J8.out.2.2.2.1 (pw_below_drewN (Below.refl _ _) nd)) J8.out.2.2.2.2)))); generalize w8.drewN nd = w9 at J9 ⊢; clear J8 Q10)
   go_loopg [20] W.length (fun gk v20 wr => ∃ i : Nat, v20 = .int .i64 i ∧ Aside0 (i + gk = W.length ∧ Below w9.heap.size w9 wr))
   case atStart => exact ⟨0, rfl, ⟨by omega, Below.refl _ _⟩⟩
   case round =>
    obtain ⟨i, rfl, HA⟩ := hrel
    by_cases hlt : i < W.length
    ·have b1 : decide ((i : Int) < (W.length : Int)) = true := decide_eq_true (by omega)
     have b2 : decide (i < W.length) = true := decide_eq_true hlt
     have b3 : (i : Int) < (W.length : Int) := by omega
     obtain ⟨gq, rfl⟩ : ∃ q, gk = q + 1 := ⟨gk - 1, by have := HA.out.1; omega⟩
     have hlS : i < sol.length := by rw [HEL.out.1]; exact hlt
     obtain ⟨aa, eA, f0⟩ := Kd.at_string (Kd.C_below J9.out.2.2.1 HA.out.2) (i : Int) (by omega) (by omega)
     subst eA
     obtain ⟨aw, eW, f1⟩ := Kd.at_string (Kd.C_below J9.out.2.1 HA.out.2) (i : Int) (by omega) b3
     subst eW
     have g0 : rdOf ByteArray.empty sol (i : Int) = sol[i] := by
      unfold rdOf
      rw [List.getD_eq_getElem?_getD, Int.toNat_natCast, List.getElem?_eq_getElem hlS]
      rfl
     have g1 : rdOf ByteArray.empty W (i : Int) = W[i] := by
      unfold rdOf
      rw [List.getD_eq_getElem?_getD, Int.toNat_natCast, List.getElem?_eq_getElem hlt]
      rfl
     rw [g0, Int.toNat_natCast] at f0
     rw [g1, Int.toNat_natCast] at f1
     have hel := HEL.out.2 i hlt hlS
     have hx0 : wr.drew.cell? (aa.add i) = some (.string sol[i]) := f0
     have hx1 : wr.drew.cell? (aw.add i) = some (.string W[i]) := f1
     clear f0 f1 g0 g1
     have f0 := hx0
     have f1 := hx1
     clear hx0 hx1
     generalize sol[i] = s at f0 hel
     generalize W[i] = y at f1 hel
     have HHS : Aside0 (∀ W0, Below wr.heap.size wr W0 → Calls Tryz.prog 11 #[.slice A18 kl.length c18, .int .i64 (i : Int)] W0 fun e w' => e = .returned (.bool (decide ((i : Int) ∈ kl))) ∧ Drawn0 W0 w') := ⟨fun W0 hb => mosaicref09_Has.calls (kl.length + 1) A18 c18 kl i _ W0 (Kd.C_below J9.out.2.2.2.1 (below_step HA.out.2 hb)) J9.out.2.2.2.2 (has_spec' kl i J9.out.2.2.2.1.2.1)⟩
     have wi : wrap64 ((i : Int) + 1) = ((i + 1 : Nat) : Int) := Deg.w64 (by omega) (by have := HM.out; omega)
     rcases hel with ⟨hy, rfl | ⟨rfl, hk⟩⟩
     ·have hne := nonempty hy
      have hne2 : ¬ s.toList = [] := fun e => by rw [e] at hne; exact absurd hne (by decide)
      clear hy
      by_cases hk : (i : Int) ∈ kl
      ·rw [decide_eq_true hk] at HHS
       clear hk
       go_wp2
       refine st_ (S := fun w' => w'.cell? (aa.add i) = some (.string s) ∧ w'.cell? (aw.add i) = some (.string s)) (ds := []) 28 ⟨f0, f1⟩ (fun hHeld => ?_)
       refine td_ [0, 1, 2] ?_
       repeat (first | refine pp_ ?_ | refine po_ ?_)
       refine tn_ ?_
       refine td_ [3] ?_
       repeat (refine pt_ hHeld ?_)
       refine tn_ ?_
       refine td_ [4, 5, 6, 7, 8, 10, 11, 12] ?_
       repeat (first | refine pp_ ?_ | refine po_ ?_)
       refine tn_ ?_
       refine td_ [9, 13] ?_
       repeat (refine pt_ hHeld ?_)
       refine tn_ ?_
       refine td_ [14, 15, 16, 17, 18] ?_
       repeat (first | refine pp_ ?_ | refine po_ ?_)
       refine tn_ ?_
       refine on_ 19 (fun K hK => ?_)
       refine gs_ Tryz.func11 #[.slice A18 kl.length c18, .int .i64 (i : Int)] ?_
       with_reducible refine ((HHS.out _ (below_drew (Below.refl _ _)))).mono ?_
       rintro e w5 ⟨rfl, ⟨nd, rfl⟩⟩
       refine ⟨_, rfl, ?_⟩
       refine hK.out _ _ ⟨hHeld.1, hHeld.2⟩ (fun hHeld => ?_)
       clear hK K
       refine nm_ (some 129) ?_
       refine td_ [20, 21, 22, 23] ?_
       repeat (first | refine pp_ ?_ | refine po_ ?_)
       refine tn_ ?_
       refine td_ [24] ?_
       repeat (refine pt_ hHeld ?_)
       refine tn_ ?_
       refine td_ [25, 26, 27] ?_
       repeat (first | refine pp_ ?_ | refine po_ ?_)
       refine tn_ ?_
       refine dn_ ?_
       go_wp2
       go_roundg gq
       case measure => omega
       case rel => exact ⟨i + 1, congrArg (Value.int .i64) wi, ⟨by have := HA.out.1; omega, pw_below_drewN HA.out.2 (1 + nd)⟩⟩
      ·rw [decide_eq_false hk] at HHS
       clear hk
       go_wp2
       refine st_ (S := fun w' => w'.cell? (aa.add i) = some (.string s) ∧ w'.cell? (aw.add i) = some (.string s)) (ds := []) 28 ⟨f0, f1⟩ (fun hHeld => ?_)
       refine td_ [0, 1, 2] ?_
       repeat (first | refine pp_ ?_ | refine po_ ?_)
       refine tn_ ?_
       refine td_ [3] ?_
       repeat (refine pt_ hHeld ?_)
       refine tn_ ?_
       refine td_ [4, 5, 6, 7, 8, 10, 11, 12] ?_
       repeat (first | refine pp_ ?_ | refine po_ ?_)
       refine tn_ ?_
       refine td_ [9, 13] ?_
       repeat (refine pt_ hHeld ?_)
       refine tn_ ?_
       refine td_ [14, 15, 16, 17, 18] ?_
       repeat (first | refine pp_ ?_ | refine po_ ?_)
       refine tn_ ?_
       refine on_ 19 (fun K hK => ?_)
       refine gs_ Tryz.func11 #[.slice A18 kl.length c18, .int .i64 (i : Int)] ?_
       with_reducible refine ((HHS.out _ (below_drew (Below.refl _ _)))).mono ?_
       rintro e w5 ⟨rfl, ⟨nd, rfl⟩⟩
       refine ⟨_, rfl, ?_⟩
       refine hK.out _ _ ⟨hHeld.1, hHeld.2⟩ (fun hHeld => ?_)
       clear hK K
       refine nm_ (some 129) ?_
       refine td_ [20, 21, 22, 23, 24, 25, 26, 27] ?_
       repeat (first | refine pp_ ?_ | refine po_ ?_)
       refine tn_ ?_
       refine dn_ ?_
       go_wp2
       go_roundg gq
       case measure => omega
       case rel => exact ⟨i + 1, congrArg (Value.int .i64) wi, ⟨by have := HA.out.1; omega, pw_below_drewN HA.out.2 (1 + nd)⟩⟩
     ·have hne : (⟨#[]⟩ : ByteArray).toList = [] := by rw [ByteArray.toList_eq]
      rw [decide_eq_false hk] at HHS
      clear hk
      go_wp2
      refine st_ (S := fun w' => w'.cell? (aa.add i) = some (.string ⟨#[]⟩) ∧ w'.cell? (aw.add i) = some (.string y)) (ds := []) 28 ⟨f0, f1⟩ (fun hHeld => ?_)
      refine td_ [0, 1, 2] ?_
      repeat (first | refine pp_ ?_ | refine po_ ?_)
      refine tn_ ?_
      refine td_ [3] ?_
      repeat (refine pt_ hHeld ?_)
      refine tn_ ?_
      refine td_ [4, 5, 6, 7, 8, 9, 10, 11, 12, 13, 14, 15, 16, 17, 18] ?_
      repeat (first | refine pp_ ?_ | refine po_ ?_)
      refine tn_ ?_
      refine on_ 19 (fun K hK => ?_)
      refine gs_ Tryz.func11 #[.slice A18 kl.length c18, .int .i64 (i : Int)] ?_
      with_reducible refine ((HHS.out _ (below_drew (Below.refl _ _)))).mono ?_
      rintro e w5 ⟨rfl, ⟨nd, rfl⟩⟩
      refine ⟨_, rfl, ?_⟩
      refine hK.out _ _ ⟨hHeld.1, hHeld.2⟩ (fun hHeld => ?_)
      clear hK K
      refine nm_ (some 129) ?_
      refine td_ [20, 21, 22, 23, 24, 25, 26, 27] ?_
      repeat (first | refine pp_ ?_ | refine po_ ?_)
      refine tn_ ?_
      refine dn_ ?_
      go_wp2
      go_roundg gq
      case measure => omega
      case rel => exact ⟨i + 1, congrArg (Value.int .i64) wi, ⟨by have := HA.out.1; omega, pw_below_drewN HA.out.2 (1 + nd)⟩⟩
    ·have b1 : decide ((i : Int) < (W.length : Int)) = false := decide_eq_false (by omega)
     have b2 : decide (i < W.length) = false := decide_eq_false hlt
     have b3 : ¬ (i : Int) < (W.length : Int) := by omega
     have H9' := jo (below_step J9.out.1 HA.out.2)
     clear HA
     go_wp2
     go_ret
     exact ⟨rfl, H9'.out⟩
theorem topSolves_ok {file : ByteArray} {s0 s1 s2 s3 s4 s5 : Int} {A : Option Addr} {c : Nat} {H : List S36} (w : World) (hr : Kd.C k36 w A H.length H) (hc : H.length ≤ c) :
  Calls Tryz.prog 3 #[.string file, .agg #[.int .i64 s0, .int .i64 s1, .int .i64 s2, .int .i64 s3, .int .i64 s4, .int .i64 s5], .slice A H.length c] w fun e w' => e = .returned (.bool true) ∧ Below w.heap.size w w' := by
 rcases pub_all file s0 s1 s2 s3 s4 s5 with h | ⟨m, W, bl, hp, h1, h⟩
 ·exact top_none h A H.length c w
 ·exact top_some hp h1 h w hr hc
end Go.Proofs.YtjmooillogojkaaGreat.Q
