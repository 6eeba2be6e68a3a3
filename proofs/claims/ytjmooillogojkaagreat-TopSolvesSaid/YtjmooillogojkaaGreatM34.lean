/- inner.index and inner.Index walked; Printed by a changed copy of a printer, shortened by a program: what these functions answer: block_Sum. No condition. -/
import Derived.Test.YtjmooillogojkaaGreatM33
set_option maxHeartbeats 8000000
set_option maxRecDepth 100000
set_option linter.unusedVariables false
set_option linter.unusedSimpArgs false
namespace Go.Proofs.YtjmooillogojkaaGreat.Q
open Go.RowKit Go.Proofs.YtjmooillogojkaaGreatW.PrintWords Go.Proofs.YtjmooillogojkaaGreatW.PrintLast Go.Proofs.YtjmooillogojkaaGreatW.PrintMore
open Go.Proofs.YtjmooillogojkaaGreat Plain Deg
attribute [local irreducible] pickF onB
theorem index_one {m : MF} {h : HD} (h2 : h.mode = 2) (w : World) :
  Calls Tryz.prog 45 #[m.v, h.v] w fun e w' => ∃ v, e = .returned v ∧ JR w' w.heap.size v (idxH m h) ∧ Below w.heap.size w w' := by
 have HJ : Aside0 (idxH m h = [h.seed]) := ⟨by unfold idxH; rw [if_pos h2]⟩
 obtain ⟨v, hv⟩ : ∃ v, v = idxH m h := ⟨_, rfl⟩
 rw [← hv] at HJ ⊢
 clear hv
 unfold MF.v HD.v
 obtain ⟨m0, m1, m2, m3, m4, m5, m6, m7⟩ := m
 obtain ⟨h0, h1, h2'⟩ := h
 simp only at *
 subst h2
 go_enter Tryz.func45, Tryz.ntmps45
 go_wp2
 go_ret
 rw [HJ.out]
 refine ⟨_, rfl, ⟨w.heap.size + 1 + 1, 1, 1, rfl, by simp, by omega, ⟨⟨#[.int .i64 h1], ?_, rfl, rfl⟩, by simp, by decide⟩⟩, ?_⟩
 ·have := blk_new ((w.alloc (.cells #[.int .i64 m0, .int .i64 m1, .int .i64 m2, .int .i64 m3, .int .i64 m4, .int .i64 m5, .int .i64 m6, .string m7] 30)).alloc (.cells #[.int .i64 2, .int .i64 h1, .string h2'] 36)) (.cells #[.int .i64 h1] 3)
  rw [World.size_alloc, World.size_alloc] at this
  exact this
 ·exact below_alloc (below_alloc (below_alloc (Below.refl _ _) _) _) _
def mixI (f : Int → Int) (l : List Int) (j : Nat) : List Int := (l.take j).map f ++ l.drop j
theorem mixI_length (f : Int → Int) (l : List Int) (j : Nat) : (mixI f l j).length = l.length := by
 simp [mixI]
 omega
theorem mixI_at (f : Int → Int) (l : List Int) (j : Nat) (hj : j < l.length) : (mixI f l j)[j]'(by rw [mixI_length]; exact hj) = l[j] := by
 simp only [mixI]
 rw [List.getElem_append_right (by simp; omega)]
 simp [Nat.min_eq_left (Nat.le_of_lt hj)]
theorem mixI_set (f : Int → Int) (l : List Int) (j : Nat) (hj : j < l.length) : (mixI f l j).set j (f l[j]) = mixI f l (j + 1) := by
 unfold mixI
 have h1 : ((l.take j).map f).length = j := by simp; omega
 rw [List.set_append_right _ _ (by omega), h1, Nat.sub_self, List.take_succ_eq_append_getElem hj, List.map_append, List.append_assoc]
 congr 1
 rw [List.drop_eq_getElem_cons hj]
 rfl
theorem mixI_all (f : Int → Int) (l : List Int) : mixI f l l.length = l.map f := by simp [mixI]
theorem mixI_zero (f : Int → Int) (l : List Int) : mixI f l 0 = l := by simp [mixI]
theorem index_some {m : MF} {h : HD} (hm : m.may) (hh : HOk m h) (n1 : h.mode = 1) (hs : h.have_.size ≤ 100) (w : World) :
  Calls Tryz.prog 45 #[m.v, h.v] w fun e w' => ∃ v, e = .returned v ∧ JR w' w.heap.size v (idxH m h) ∧ Below w.heap.size w w' := by
 have hall := hm.all_le
 obtain ⟨O, hO⟩ : ∃ O, O = onB h.have_ (8 * h.have_.size) := ⟨_, rfl⟩
 obtain ⟨n, hn⟩ : ∃ n, n = O.length := ⟨_, rfl⟩
 have hpos : 1 ≤ n ∧ n ≤ 800 := by
  have h1 := onB_le h.have_ (8 * h.have_.size)
  rw [← hO] at h1
  rcases hh.mode with a | a | a
  ·omega
  ·have := a.2.1
   rw [← hO] at this
   omega
  ·omega
 obtain ⟨P, hP⟩ : ∃ P, P = pickF m.n m.d m.f (seedI m.seed h.seed) n := ⟨_, rfl⟩
 obtain ⟨f, hf⟩ : ∃ f : Int → Int, f = fun k => ((O.getD k.toNat 0 : Nat) : Int) := ⟨_, rfl⟩
 have HJ : Aside0 (idxH m h = P.map f) := ⟨by unfold idxH; rw [if_neg (by omega), if_pos n1, ← hO, ← hn, hP, hf]⟩
 have hpk := pickF_ok m.n m.d m.f (seedI m.seed h.seed) n
 rw [← hP] at hpk
 have HC := jo (show bits_Count.f 100000 h.have_ = some (n : Int) by rw [count_spec' _ (by omega), ← hO, ← hn])
 have HN : Aside0 (∀ x ∈ P, bits_Nth.f 100000 h.have_ x = some (f x)) := ⟨fun x hx => by
  have hx2 := hpk.2.1 x hx
  obtain ⟨k, rfl⟩ := Int.eq_ofNat_of_zero_le hx2.1
  rw [nth_spec h.have_ (by omega) (by rw [← hO, ← hn]; omega), ← hO, hf]
  rfl⟩
 have HPL := jo (show P.length ≤ 800 by have := hpk.2.2; omega)
 have hsd := (seedB_iff _).1 hm.seed
 have HP := jo (fun W => ipick_ok (m0 := m.long) (m1 := m.size) (m2 := m.seed) (m3 := m.n) (m4 := m.d) (m5 := m.q) (m6 := m.f) (h0 := h.mode) (h1 := h.seed) (m7 := m.root) (h2 := h.have_) (n := n) hm.code hsd.1 (by omega) hh.seed0 (by have := hh.seed1; omega) (by omega) (by omega) W)
 rw [← hP] at HP
 obtain ⟨v, hv⟩ : ∃ v, v = idxH m h := ⟨_, rfl⟩
 rw [← hv] at HJ ⊢
 clear hv hm hh hn hall hsd hf hO hpk hpos hP hs
 unfold MF.v HD.v
 obtain ⟨m0, m1, m2, m3, m4, m5, m6, m7⟩ := m
 obtain ⟨h0, h1, h2⟩ := h
 simp only at *
 subst n1
 have b1 : Below w.heap.size w ((w.alloc (.cells #[.int .i64 m0, .int .i64 m1, .int .i64 m2, .int .i64 m3, .int .i64 m4, .int .i64 m5, .int .i64 m6, .string m7] 30)).alloc (.cells #[.int .i64 1, .int .i64 h1, .string h2] 36)) := below_alloc (below_alloc (Below.refl _ _) _) _
 have k1 : ((w.alloc (.cells #[.int .i64 m0, .int .i64 m1, .int .i64 m2, .int .i64 m3, .int .i64 m4, .int .i64 m5, .int .i64 m6, .string m7] 30)).alloc (.cells #[.int .i64 1, .int .i64 h1, .string h2] 36)).heap[w.heap.size]? = some (.cells #[.int .i64 m0, .int .i64 m1, .int .i64 m2, .int .i64 m3, .int .i64 m4, .int .i64 m5, .int .i64 m6, .string m7] 30 (0, 0)) := blk_alloc (blk_new w _) _
 have k2 : ((w.alloc (.cells #[.int .i64 m0, .int .i64 m1, .int .i64 m2, .int .i64 m3, .int .i64 m4, .int .i64 m5, .int .i64 m6, .string m7] 30)).alloc (.cells #[.int .i64 1, .int .i64 h1, .string h2] 36)).heap[w.heap.size + 1]? = some (.cells #[.int .i64 1, .int .i64 h1, .string h2] 36 (0, 0)) := by
  have := blk_new (w.alloc (.cells #[.int .i64 m0, .int .i64 m1, .int .i64 m2, .int .i64 m3, .int .i64 m4, .int .i64 m5, .int .i64 m6, .string m7] 30)) (.cells #[.int .i64 1, .int .i64 h1, .string h2] 36)
  rw [World.size_alloc] at this
  exact this
 go_enter Tryz.func45, Tryz.ntmps45
 go_wp2
 generalize (w.alloc (.cells #[.int .i64 m0, .int .i64 m1, .int .i64 m2, .int .i64 m3, .int .i64 m4, .int .i64 m5, .int .i64 m6, .string m7] 30)).alloc (.cells #[.int .i64 1, .int .i64 h1, .string h2] 36) = W1 at b1 k1 k2 ⊢
 have HB1 := jo (And.intro b1 (And.intro k1 k2))
 have c0 : W1.drew.cell? ⟨w.heap.size, 0, none⟩ = some (.int .i64 m0) := blk_cell k1 0
 have c1 : W1.drew.cell? ⟨w.heap.size, 1, none⟩ = some (.int .i64 m1) := blk_cell k1 1
 have c2 : W1.drew.cell? ⟨w.heap.size, 2, none⟩ = some (.int .i64 m2) := blk_cell k1 2
 have c3 : W1.drew.cell? ⟨w.heap.size, 3, none⟩ = some (.int .i64 m3) := blk_cell k1 3
 have c4 : W1.drew.cell? ⟨w.heap.size, 4, none⟩ = some (.int .i64 m4) := blk_cell k1 4
 have c5 : W1.drew.cell? ⟨w.heap.size, 5, none⟩ = some (.int .i64 m5) := blk_cell k1 5
 have c6 : W1.drew.cell? ⟨w.heap.size, 6, none⟩ = some (.int .i64 m6) := blk_cell k1 6
 have c7 : W1.drew.cell? ⟨w.heap.size, 7, none⟩ = some (.string m7) := blk_cell k1 7
 have d0 : W1.drew.cell? ⟨w.heap.size + 1, 0, none⟩ = some (.int .i64 1) := blk_cell k2 0
 have d1 : W1.drew.cell? ⟨w.heap.size + 1, 1, none⟩ = some (.int .i64 h1) := blk_cell k2 1
 have d2 : W1.drew.cell? ⟨w.heap.size + 1, 2, none⟩ = some (.string h2) := blk_cell k2 2
 clear b1 k1
 clear k2
 refine st_ (S := fun w' => w'.cell? ⟨w.heap.size, 0, none⟩ = some (.int .i64 m0) ∧ w'.cell? ⟨w.heap.size, 1, none⟩ = some (.int .i64 m1) ∧ w'.cell? ⟨w.heap.size, 2, none⟩ = some (.int .i64 m2) ∧ w'.cell? ⟨w.heap.size, 3, none⟩ = some (.int .i64 m3) ∧ w'.cell? ⟨w.heap.size, 4, none⟩ = some (.int .i64 m4) ∧ w'.cell? ⟨w.heap.size, 5, none⟩ = some (.int .i64 m5) ∧ w'.cell? ⟨w.heap.size, 6, none⟩ = some (.int .i64 m6) ∧ w'.cell? ⟨w.heap.size, 7, none⟩ = some (.string m7) ∧ w'.cell? ⟨w.heap.size + 1, 0, none⟩ = some (.int .i64 1) ∧ w'.cell? ⟨w.heap.size + 1, 1, none⟩ = some (.int .i64 h1) ∧ w'.cell? ⟨w.heap.size + 1, 2, none⟩ = some (.string h2)) (ds := [5]) 7 ⟨c0, c1, c2, c3, c4, c5, c6, c7, d0, d1, d2⟩ (fun hHeld => ?_)
 refine td_ [2] ?_
 repeat (first | refine pp_ ?_ | refine po_ ?_)
 refine tn_ ?_
 refine td_ [0, 1, 3] ?_
 repeat (refine pt_ hHeld ?_)
 refine tn_ ?_
 refine on_ 4 (fun K hK => ?_)
 refine gs_ Tryz.func87 #[.string h2] ?_
 with_reducible refine ((bits_Count.calls _ _ _ _ HC.out)).mono ?_
 rintro e w4 ⟨rfl, hb4⟩
 refine ⟨_, rfl, ?_⟩
 have H4 := jo (below_step (below_step HB1.out.1 (below_drew (Below.refl W1.heap.size W1))) hb4)
 have z0 := pw_cell_below hb4 hHeld.1
 have z1 := pw_cell_below hb4 hHeld.2.1
 have z2 := pw_cell_below hb4 hHeld.2.2.1
 have z3 := pw_cell_below hb4 hHeld.2.2.2.1
 have z4 := pw_cell_below hb4 hHeld.2.2.2.2.1
 have z5 := pw_cell_below hb4 hHeld.2.2.2.2.2.1
 have z6 := pw_cell_below hb4 hHeld.2.2.2.2.2.2.1
 have z7 := pw_cell_below hb4 hHeld.2.2.2.2.2.2.2.1
 have z8 := pw_cell_below hb4 hHeld.2.2.2.2.2.2.2.2.1
 have z9 := pw_cell_below hb4 hHeld.2.2.2.2.2.2.2.2.2.1
 have z10 := pw_cell_below hb4 hHeld.2.2.2.2.2.2.2.2.2.2
 have hq4 := hb4
 clear hb4
 refine hK.out _ _ ⟨z0, z1, z2, z3, z4, z5, z6, z7, z8, z9, z10⟩ (fun hHeld => ?_)
 clear hK K
 refine nm_ (some 21) ?_
 refine la_ 5 (fun K hK => ?_)
 refine gs_ Tryz.func86 #[.agg #[.int .i64 m0, .int .i64 m1, .int .i64 m2, .int .i64 m3, .int .i64 m4, .int .i64 m5, .int .i64 m6, .string m7], .agg #[.int .i64 1, .int .i64 h1, .string h2], .int .i64 (n : Int)] ?_
 with_reducible refine ((HP.out _)).mono ?_
 rintro e w5 ⟨v5, rfl, hj5, hb5⟩
 refine ⟨_, rfl, ?_⟩
 have H5 := jo (And.intro (J_lower hj5 H4.out.size) (below_step H4.out hb5))
 have hk5 := blk_below (blk_below (blk_below HB1.out.2.2 (below_drew (Below.refl W1.heap.size W1))) hq4) hb5
 clear hj5 hb5
 refine hK.out _ _ ?_
 clear hK K
 refine nm_ (some 22) ?_
 refine td_ [6] ?_
 repeat (first | refine pp_ ?_ | refine po_ ?_)
 refine tn_ ?_
 refine dn_ ?_
 obtain ⟨G, c, cap, rfl, hc5, hGb, hir⟩ := H5.out.1.out
 have HI := jo (And.intro hc5 hGb)
 have HD2 := jo hk5
 have HB5 := jo H5.out.2
 have HIR := jo hir
 have HNE : Aside0 (w.heap.size + 1 ≠ G) := ⟨fun e => by
  obtain ⟨cur, hh, _⟩ := hir.cur
  rw [← e, hk5] at hh
  injection hh with hh
  injection hh with _ hh
  exact absurd hh (by decide)⟩
 clear H5 hc5 hGb hir hk5 hHeld H4 HB1 HC HP
 clear c0 c1 c2 c3 c4 c5 c6 c7 d0 d1 d2
 go_wp2
 go_loopg [6, 7, 25] P.length (fun gk v6 v7 v25 wr => ∃ j : Nat, v25 = .int .i64 j ∧ Aside0 (j + gk = P.length ∧ IR wr G cap (mixI f P j) ∧ Below w.heap.size w wr ∧ wr.heap[w.heap.size + 1]? = some (.cells #[.int .i64 1, .int .i64 h1, .string h2] 36 (0, 0))))
 case atStart => exact ⟨0, rfl, ⟨by omega, by rw [mixI_zero]; exact HIR.out, HB5.out, HD2.out⟩⟩
 case round =>
  obtain ⟨j, rfl, HA⟩ := hrel
  clear HIR HB5 HD2
  by_cases hlt : j < P.length
  ·have a1 : decide ((j : Int) < (P.length : Int)) = true := decide_eq_true (by omega)
   have a2 : decide (j < P.length) = true := decide_eq_true hlt
   have a3 : (j : Int) < (P.length : Int) := by omega
   obtain ⟨gq, rfl⟩ : ∃ q, gk = q + 1 := ⟨gk - 1, by have := HA.out.1; omega⟩
   have hc := HA.out.2.1.cell (i := j) (by rw [mixI_length]; exact hlt)
   rw [mixI_at f P j hlt] at hc
   have hset := mixI_set f P j hlt
   have hmem := HN.out P[j] (List.getElem_mem hlt)
   obtain ⟨x, hx⟩ : ∃ x, x = P[j] := ⟨_, rfl⟩
   rw [← hx] at hc hset hmem
   have hd2 : wr.cell? ⟨w.heap.size + 1, 2, none⟩ = some (.string h2) := blk_cell HA.out.2.2.2 2
   have HM := jo hmem
   have HS := jo hset
   have wi : wrap64 ((j : Int) + 1) = ((j + 1 : Nat) : Int) := by unfold wrap64; have := HPL.out; omega
   clear hx hmem hset
   go_wp2_with fail
   with_reducible refine (bits_Nth.calls _ _ _ _ _ HM.out).mono ?_
   rintro e w2 ⟨rfl, ⟨nd, rfl⟩⟩
   have hI : IR (wr.drewN nd) G cap (mixI f P j) := HA.out.2.1.below (pw_below_drewN (Below.refl _ _) nd)
   have hB : Below w.heap.size w (wr.drewN nd) := pw_below_drewN HA.out.2.2.1 nd
   have hK : (wr.drewN nd).heap[w.heap.size + 1]? = some (.cells #[.int .i64 1, .int .i64 h1, .string h2] 36 (0, 0)) := blk_drewN HA.out.2.2.2 nd
   have hc2 := hI.cell (i := j) (by rw [mixI_length]; exact hlt)
   rw [mixI_at f P j hlt] at hc2
   have hf2 := hI.soft j
   have hput := hI.put (i := j) (by rw [mixI_length]; exact hlt) (f x)
   rw [HS.out] at hput
   generalize wr.drewN nd = w2 at hI hB hK hc2 hf2 hput ⊢
   obtain ⟨wn, hwn⟩ : ∃ wn, wn = w2.setCell ⟨G, j, none⟩ (.int .i64 (f x)) := ⟨_, rfl⟩
   have HN2 : Aside0 (j + 1 + gq = P.length ∧ IR wn G cap (mixI f P (j + 1)) ∧ Below w.heap.size w wn ∧ wn.heap[w.heap.size + 1]? = some (.cells #[.int .i64 1, .int .i64 h1, .string h2] 36 (0, 0))) := ⟨by have := HA.out.1; omega, by rw [hwn]; exact hput, by rw [hwn]; exact hB.setCell HI.out.2 _, by rw [hwn]; exact blk_far hK HNE.out _⟩
   have HWN := jo hwn
   generalize P[j] = old at hc2
   generalize f x = y at *
   clear HA hput hwn hI hB hK hc hd2 HM HS
   go_wp2_with ((with_reducible refine gate_store (t := 3) (p := 36) rfl ?_); refine store_event (t := 3) (p := 36) (v := ?vo) (w1 := wn) ?hg ?ho ?hn ?hr ?_; (case ho => rfl); (case hg => rfl); (case hn => rfl); (case hr => (rw [HWN.out]; first | (go_simp; done) | (go_simp; rfl))); intro wm hw; subst hw; clear hc2 hf2)
   go_roundg gq
   case measure => omega
   case rel => exact ⟨j + 1, congrArg (Value.int .i64) wi, HN2⟩
  ·have a1 : decide ((j : Int) < (P.length : Int)) = false := decide_eq_false (by omega)
   have a2 : decide (j < P.length) = false := decide_eq_false hlt
   have a3 : ¬ (j : Int) < (P.length : Int) := by omega
   have hj : j = P.length := by have := HA.out.1; omega
   subst hj
   have HZ := jo HA.out.2
   clear HA
   go_wp2
   go_ret
   have h1' := HZ.out.1
   rw [mixI_all] at h1'
   rw [HJ.out]
   exact ⟨_, rfl, ⟨G, c, cap, by rw [List.length_map]; rfl, by rw [List.length_map]; exact HI.out.1, HI.out.2, h1'⟩, HZ.out.2.1⟩
theorem index_all {m : MF} {h : HD} (hm : m.may) (hr : m.root.size = 32) (hh : HOk m h) (n2 : h.mode ≠ 2) (n1 : h.mode ≠ 1) (w : World) :
  Calls Tryz.prog 45 #[m.v, h.v] w fun e w' => ∃ v, e = .returned v ∧ JR w' w.heap.size v (idxH m h) ∧ Below w.heap.size w w' := by
 have hall := hm.all_le
 obtain ⟨n, hn⟩ := Int.eq_ofNat_of_zero_le (show 0 ≤ m.all by omega)
 have HJ : Aside0 (idxH m h = pickF m.n m.d m.f (seedI m.seed h.seed) n) := ⟨by unfold idxH; rw [if_neg n2, if_neg n1, hn]; rfl⟩
 have HA := jo (fun W => all_ok hm hr W)
 have hmn : m.N + m.A = (n : Int) := hn
 rw [hmn] at HA
 have hsd := (seedB_iff _).1 hm.seed
 have HP := jo (fun W => ipick_ok (m0 := m.long) (m1 := m.size) (m2 := m.seed) (m3 := m.n) (m4 := m.d) (m5 := m.q) (m6 := m.f) (h0 := h.mode) (h1 := h.seed) (m7 := m.root) (h2 := h.have_) (n := n) hm.code hsd.1 (by omega) hh.seed0 (by have := hh.seed1; omega) (by omega) (by omega) W)
 obtain ⟨v, hv⟩ : ∃ v, v = idxH m h := ⟨_, rfl⟩
 rw [← hv] at HJ ⊢
 clear hv hm hr hh hn hmn hall hsd
 unfold MF.v HD.v
 unfold MF.v at HA
 obtain ⟨m0, m1, m2, m3, m4, m5, m6, m7⟩ := m
 obtain ⟨h0, h1, h2⟩ := h
 simp only at *
 have e1 : (h0 == 2) = false := beq_eq_false_iff_ne.2 n2
 have e2 : (h0 == 1) = false := beq_eq_false_iff_ne.2 n1
 clear n1 n2
 have b1 : Below w.heap.size w ((w.alloc (.cells #[.int .i64 m0, .int .i64 m1, .int .i64 m2, .int .i64 m3, .int .i64 m4, .int .i64 m5, .int .i64 m6, .string m7] 30)).alloc (.cells #[.int .i64 h0, .int .i64 h1, .string h2] 36)) := below_alloc (below_alloc (Below.refl _ _) _) _
 have k1 : ((w.alloc (.cells #[.int .i64 m0, .int .i64 m1, .int .i64 m2, .int .i64 m3, .int .i64 m4, .int .i64 m5, .int .i64 m6, .string m7] 30)).alloc (.cells #[.int .i64 h0, .int .i64 h1, .string h2] 36)).heap[w.heap.size]? = some (.cells #[.int .i64 m0, .int .i64 m1, .int .i64 m2, .int .i64 m3, .int .i64 m4, .int .i64 m5, .int .i64 m6, .string m7] 30 (0, 0)) := blk_alloc (blk_new w _) _
 have k2 : ((w.alloc (.cells #[.int .i64 m0, .int .i64 m1, .int .i64 m2, .int .i64 m3, .int .i64 m4, .int .i64 m5, .int .i64 m6, .string m7] 30)).alloc (.cells #[.int .i64 h0, .int .i64 h1, .string h2] 36)).heap[w.heap.size + 1]? = some (.cells #[.int .i64 h0, .int .i64 h1, .string h2] 36 (0, 0)) := by
  have := blk_new (w.alloc (.cells #[.int .i64 m0, .int .i64 m1, .int .i64 m2, .int .i64 m3, .int .i64 m4, .int .i64 m5, .int .i64 m6, .string m7] 30)) (.cells #[.int .i64 h0, .int .i64 h1, .string h2] 36)
  rw [World.size_alloc] at this
  exact this
 go_enter Tryz.func45, Tryz.ntmps45
 go_wp2
 generalize (w.alloc (.cells #[.int .i64 m0, .int .i64 m1, .int .i64 m2, .int .i64 m3, .int .i64 m4, .int .i64 m5, .int .i64 m6, .string m7] 30)).alloc (.cells #[.int .i64 h0, .int .i64 h1, .string h2] 36) = W1 at b1 k1 k2 ⊢
 have HB1 := jo (And.intro b1 (And.intro k1 k2))
 have c0 : W1.drew.cell? ⟨w.heap.size, 0, none⟩ = some (.int .i64 m0) := blk_cell k1 0
 have c1 : W1.drew.cell? ⟨w.heap.size, 1, none⟩ = some (.int .i64 m1) := blk_cell k1 1
 have c2 : W1.drew.cell? ⟨w.heap.size, 2, none⟩ = some (.int .i64 m2) := blk_cell k1 2
 have c3 : W1.drew.cell? ⟨w.heap.size, 3, none⟩ = some (.int .i64 m3) := blk_cell k1 3
 have c4 : W1.drew.cell? ⟨w.heap.size, 4, none⟩ = some (.int .i64 m4) := blk_cell k1 4
 have c5 : W1.drew.cell? ⟨w.heap.size, 5, none⟩ = some (.int .i64 m5) := blk_cell k1 5
 have c6 : W1.drew.cell? ⟨w.heap.size, 6, none⟩ = some (.int .i64 m6) := blk_cell k1 6
 have c7 : W1.drew.cell? ⟨w.heap.size, 7, none⟩ = some (.string m7) := blk_cell k1 7
 have d0 : W1.drew.cell? ⟨w.heap.size + 1, 0, none⟩ = some (.int .i64 h0) := blk_cell k2 0
 have d1 : W1.drew.cell? ⟨w.heap.size + 1, 1, none⟩ = some (.int .i64 h1) := blk_cell k2 1
 have d2 : W1.drew.cell? ⟨w.heap.size + 1, 2, none⟩ = some (.string h2) := blk_cell k2 2
 clear b1 k1 k2
 refine st_ (S := fun w' => w'.cell? ⟨w.heap.size, 0, none⟩ = some (.int .i64 m0) ∧ w'.cell? ⟨w.heap.size, 1, none⟩ = some (.int .i64 m1) ∧ w'.cell? ⟨w.heap.size, 2, none⟩ = some (.int .i64 m2) ∧ w'.cell? ⟨w.heap.size, 3, none⟩ = some (.int .i64 m3) ∧ w'.cell? ⟨w.heap.size, 4, none⟩ = some (.int .i64 m4) ∧ w'.cell? ⟨w.heap.size, 5, none⟩ = some (.int .i64 m5) ∧ w'.cell? ⟨w.heap.size, 6, none⟩ = some (.int .i64 m6) ∧ w'.cell? ⟨w.heap.size, 7, none⟩ = some (.string m7) ∧ w'.cell? ⟨w.heap.size + 1, 0, none⟩ = some (.int .i64 h0) ∧ w'.cell? ⟨w.heap.size + 1, 1, none⟩ = some (.int .i64 h1) ∧ w'.cell? ⟨w.heap.size + 1, 2, none⟩ = some (.string h2)) (ds := [4]) 6 ⟨c0, c1, c2, c3, c4, c5, c6, c7, d0, d1, d2⟩ (fun hHeld => ?_)
 refine td_ [0, 1, 2] ?_
 repeat (refine pt_ hHeld ?_)
 refine tn_ ?_
 refine on_ 3 (fun K hK => ?_)
 refine gs_ Tryz.func79 #[.agg #[.int .i64 m0, .int .i64 m1, .int .i64 m2, .int .i64 m3, .int .i64 m4, .int .i64 m5, .int .i64 m6, .string m7]] ?_
 with_reducible refine ((HA.out _)).mono ?_
 rintro e w4 ⟨rfl, hb4⟩
 refine ⟨_, rfl, ?_⟩
 have H4 := jo (below_step (below_step HB1.out.1 (below_drew (Below.refl W1.heap.size W1))) hb4)
 have z0 := pw_cell_below hb4 hHeld.1
 have z1 := pw_cell_below hb4 hHeld.2.1
 have z2 := pw_cell_below hb4 hHeld.2.2.1
 have z3 := pw_cell_below hb4 hHeld.2.2.2.1
 have z4 := pw_cell_below hb4 hHeld.2.2.2.2.1
 have z5 := pw_cell_below hb4 hHeld.2.2.2.2.2.1
 have z6 := pw_cell_below hb4 hHeld.2.2.2.2.2.2.1
 have z7 := pw_cell_below hb4 hHeld.2.2.2.2.2.2.2.1
 have z8 := pw_cell_below hb4 hHeld.2.2.2.2.2.2.2.2.1
 have z9 := pw_cell_below hb4 hHeld.2.2.2.2.2.2.2.2.2.1
 have z10 := pw_cell_below hb4 hHeld.2.2.2.2.2.2.2.2.2.2
 clear hb4
 refine hK.out _ _ ⟨z0, z1, z2, z3, z4, z5, z6, z7, z8, z9, z10⟩ (fun hHeld => ?_)
 clear hK K
 refine nm_ (some 42) ?_
 refine la_ 4 (fun K hK => ?_)
 refine gs_ Tryz.func86 #[.agg #[.int .i64 m0, .int .i64 m1, .int .i64 m2, .int .i64 m3, .int .i64 m4, .int .i64 m5, .int .i64 m6, .string m7], .agg #[.int .i64 h0, .int .i64 h1, .string h2], .int .i64 (n : Int)] ?_
 with_reducible refine ((HP.out _)).mono ?_
 rintro e w5 ⟨v5, rfl, hj5, hb5⟩
 refine ⟨_, rfl, ?_⟩
 have H5 := jo (And.intro hj5 hb5)
 clear hj5 hb5
 refine hK.out _ _ ?_
 clear hK K
 refine nm_ (some 43) ?_
 refine td_ [5] ?_
 repeat (first | refine pp_ ?_ | refine po_ ?_)
 refine tn_ ?_
 refine dn_ ?_
 go_wp2
 go_ret
 rw [HJ.out]
 exact ⟨_, rfl, J_lower H5.out.1 (H4.out.size), below_step H4.out H5.out.2⟩
def errH (m : MF) (h : HD) : Int := (inner_Check.f 100000 m.long m.size m.seed m.n m.d m.q m.f m.root h.mode h.seed h.have_).getD 3
theorem errH_spec {m : MF} (hm : m.may) (hr : m.root.size = 32) (h : HD) (hs : h.have_.size ≤ 100) : inner_Check.f 100000 m.long m.size m.seed m.n m.d m.q m.f m.root h.mode h.seed h.have_ = some (errH m h) ∧ (errH m h = 0 ∨ errH m h = 3) ∧ (errH m h = 0 → HOk m h) := by
 obtain ⟨e, h1, h2, h3⟩ := check_head hm hr h hs
 have : errH m h = e := by unfold errH; rw [h1]; rfl
 rw [this]
 exact ⟨h1, h2, h3⟩
theorem index45_ok {m : MF} {h : HD} (hm : m.may) (hr : m.root.size = 32) (hh : HOk m h) (hs : h.have_.size ≤ 100) (w : World) :
  Calls Tryz.prog 45 #[m.v, h.v] w fun e w' => ∃ v, e = .returned v ∧ JR w' w.heap.size v (idxH m h) ∧ Below w.heap.size w w' := by
 by_cases h2 : h.mode = 2
 ·exact index_one h2 w
 ·by_cases h1 : h.mode = 1
  ·exact index_some hm hh h1 hs w
  ·exact index_all hm hr hh h2 h1 w
theorem idxH_len {m : MF} {h : HD} (hm : m.may) (hh : HOk m h) : (idxH m h).length < 1000000 := by
 have h1 := idxH_ok hm hh
 have h3 := hm.all_le
 obtain ⟨n, hn⟩ := Int.eq_ofNat_of_zero_le (show 0 ≤ m.all by omega)
 rw [hn] at h1
 have h2 := rowOk_len (sortI_ok (n := (n : Int)) h1.1 h1.2)
 rw [sortI_length] at h2
 omega
theorem Index_no {m : MF} {h : HD} (hm : m.may) (hr : m.root.size = 32) (hs : h.have_.size ≤ 100) (he : errH m h = 3) (w : World) :
  Calls Tryz.prog 16 #[m.v, h.v] w fun e w' => e = .returned (.tuple #[.slice none 0 0, .int .i64 3]) ∧ Below w.heap.size w w' := by
 have HE := jo (errH_spec hm hr h hs).1
 rw [he] at HE
 clear he hm hr hs
 unfold MF.v HD.v
 obtain ⟨m0, m1, m2, m3, m4, m5, m6, m7⟩ := m
 obtain ⟨h0, h1, h2⟩ := h
 simp only at *
 have b1 : Below w.heap.size w ((w.alloc (.cells #[.int .i64 m0, .int .i64 m1, .int .i64 m2, .int .i64 m3, .int .i64 m4, .int .i64 m5, .int .i64 m6, .string m7] 30)).alloc (.cells #[.int .i64 h0, .int .i64 h1, .string h2] 36)) := below_alloc (below_alloc (Below.refl _ _) _) _
 have k1 : ((w.alloc (.cells #[.int .i64 m0, .int .i64 m1, .int .i64 m2, .int .i64 m3, .int .i64 m4, .int .i64 m5, .int .i64 m6, .string m7] 30)).alloc (.cells #[.int .i64 h0, .int .i64 h1, .string h2] 36)).heap[w.heap.size]? = some (.cells #[.int .i64 m0, .int .i64 m1, .int .i64 m2, .int .i64 m3, .int .i64 m4, .int .i64 m5, .int .i64 m6, .string m7] 30 (0, 0)) := blk_alloc (blk_new w _) _
 have k2 : ((w.alloc (.cells #[.int .i64 m0, .int .i64 m1, .int .i64 m2, .int .i64 m3, .int .i64 m4, .int .i64 m5, .int .i64 m6, .string m7] 30)).alloc (.cells #[.int .i64 h0, .int .i64 h1, .string h2] 36)).heap[w.heap.size + 1]? = some (.cells #[.int .i64 h0, .int .i64 h1, .string h2] 36 (0, 0)) := by
  have := blk_new (w.alloc (.cells #[.int .i64 m0, .int .i64 m1, .int .i64 m2, .int .i64 m3, .int .i64 m4, .int .i64 m5, .int .i64 m6, .string m7] 30)) (.cells #[.int .i64 h0, .int .i64 h1, .string h2] 36)
  rw [World.size_alloc] at this
  exact this
 go_enter Tryz.func16, Tryz.ntmps16
 go_wp2_with fail
 generalize (w.alloc (.cells #[.int .i64 m0, .int .i64 m1, .int .i64 m2, .int .i64 m3, .int .i64 m4, .int .i64 m5, .int .i64 m6, .string m7] 30)).alloc (.cells #[.int .i64 h0, .int .i64 h1, .string h2] 36) = W1 at b1 k1 k2 ⊢
 with_reducible refine (inner_Check.calls _ _ _ _ _ _ _ _ _ _ _ _ _ _ HE.out).mono ?_
 rintro e w2 ⟨rfl, hb2⟩
 have H2 := jo (below_step b1 hb2)
 clear b1 k1 k2 hb2
 go_wp2
 go_ret2
 exact ⟨rfl, H2.out⟩
theorem Index_yes {m : MF} {h : HD} (hm : m.may) (hr : m.root.size = 32) (hs : h.have_.size ≤ 100) (he : errH m h = 0) (w : World) :
  Calls Tryz.prog 16 #[m.v, h.v] w fun e w' => ∃ v, e = .returned (.tuple #[v, .int .i64 0]) ∧ JR w' w.heap.size v (sortI (idxH m h)) ∧ Below w.heap.size w w' := by
 have h0 := errH_spec hm hr h hs
 have HE := jo h0.1
 rw [he] at HE
 have hh := h0.2.2 he
 have HX := jo (fun W => index45_ok hm hr hh hs W)
 have HL := jo (idxH_len hm hh)
 generalize idxH m h = P at *
 clear he hm hr hs h0 hh
 unfold MF.v HD.v
 unfold MF.v HD.v at HX
 obtain ⟨m0, m1, m2, m3, m4, m5, m6, m7⟩ := m
 obtain ⟨h0, h1, h2⟩ := h
 simp only at *
 have b1 : Below w.heap.size w ((w.alloc (.cells #[.int .i64 m0, .int .i64 m1, .int .i64 m2, .int .i64 m3, .int .i64 m4, .int .i64 m5, .int .i64 m6, .string m7] 30)).alloc (.cells #[.int .i64 h0, .int .i64 h1, .string h2] 36)) := below_alloc (below_alloc (Below.refl _ _) _) _
 have k1 : ((w.alloc (.cells #[.int .i64 m0, .int .i64 m1, .int .i64 m2, .int .i64 m3, .int .i64 m4, .int .i64 m5, .int .i64 m6, .string m7] 30)).alloc (.cells #[.int .i64 h0, .int .i64 h1, .string h2] 36)).heap[w.heap.size]? = some (.cells #[.int .i64 m0, .int .i64 m1, .int .i64 m2, .int .i64 m3, .int .i64 m4, .int .i64 m5, .int .i64 m6, .string m7] 30 (0, 0)) := blk_alloc (blk_new w _) _
 have k2 : ((w.alloc (.cells #[.int .i64 m0, .int .i64 m1, .int .i64 m2, .int .i64 m3, .int .i64 m4, .int .i64 m5, .int .i64 m6, .string m7] 30)).alloc (.cells #[.int .i64 h0, .int .i64 h1, .string h2] 36)).heap[w.heap.size + 1]? = some (.cells #[.int .i64 h0, .int .i64 h1, .string h2] 36 (0, 0)) := by
  have := blk_new (w.alloc (.cells #[.int .i64 m0, .int .i64 m1, .int .i64 m2, .int .i64 m3, .int .i64 m4, .int .i64 m5, .int .i64 m6, .string m7] 30)) (.cells #[.int .i64 h0, .int .i64 h1, .string h2] 36)
  rw [World.size_alloc] at this
  exact this
 go_enter Tryz.func16, Tryz.ntmps16
 go_wp2_with fail
 generalize (w.alloc (.cells #[.int .i64 m0, .int .i64 m1, .int .i64 m2, .int .i64 m3, .int .i64 m4, .int .i64 m5, .int .i64 m6, .string m7] 30)).alloc (.cells #[.int .i64 h0, .int .i64 h1, .string h2] 36) = W1 at b1 k1 k2 ⊢
 with_reducible refine (inner_Check.calls _ _ _ _ _ _ _ _ _ _ _ _ _ _ HE.out).mono ?_
 rintro e w2 ⟨rfl, hb2⟩
 have H2 := jo (below_step b1 hb2)
 have j1 := blk_below k1 hb2
 have j2 := blk_below k2 hb2
 have c0 : w2.cell? ⟨w.heap.size, 0, none⟩ = some (.int .i64 m0) := blk_cell j1 0
 have c1 : w2.cell? ⟨w.heap.size, 1, none⟩ = some (.int .i64 m1) := blk_cell j1 1
 have c2 : w2.cell? ⟨w.heap.size, 2, none⟩ = some (.int .i64 m2) := blk_cell j1 2
 have c3 : w2.cell? ⟨w.heap.size, 3, none⟩ = some (.int .i64 m3) := blk_cell j1 3
 have c4 : w2.cell? ⟨w.heap.size, 4, none⟩ = some (.int .i64 m4) := blk_cell j1 4
 have c5 : w2.cell? ⟨w.heap.size, 5, none⟩ = some (.int .i64 m5) := blk_cell j1 5
 have c6 : w2.cell? ⟨w.heap.size, 6, none⟩ = some (.int .i64 m6) := blk_cell j1 6
 have c7 : w2.cell? ⟨w.heap.size, 7, none⟩ = some (.string m7) := blk_cell j1 7
 have d0 : w2.cell? ⟨w.heap.size + 1, 0, none⟩ = some (.int .i64 h0) := blk_cell j2 0
 have d1 : w2.cell? ⟨w.heap.size + 1, 1, none⟩ = some (.int .i64 h1) := blk_cell j2 1
 have d2 : w2.cell? ⟨w.heap.size + 1, 2, none⟩ = some (.string h2) := blk_cell j2 2
 clear b1 k1 k2 hb2 j1 j2 HE
 go_wp2_with fail
 with_reducible refine (HX.out w2).mono ?_
 rintro e w3 ⟨v, rfl, hj, hb3⟩
 obtain ⟨G, c, cap, rfl, hc3, hGb, hir⟩ := hj.out
 have H3 := jo (below_step H2.out hb3)
 have HG := jo (And.intro hc3 (Nat.le_trans H2.out.size hGb))
 have HSO := jo (sort_ir (c := c) hir HL.out)
 clear hj hb3 hc3 hGb hir HX
 clear c0 c1 c2 c3 c4 c5 c6 c7 d0 d1 d2
 go_wp2_with (go_at_call 46; (with_reducible refine HSO.out.mono ?_); rintro e w8 ⟨rfl, h81, h82⟩; have H8 := jo (And.intro h81 h82); clear h81 h82)
 go_ret2
 refine ⟨_, rfl, ⟨G, c, cap, by rw [sortI_length]; rfl, by rw [sortI_length]; exact HG.out.1, HG.out.2, H8.out.1⟩, H3.out.grown H8.out.2 H3.out.size (fun q hq => by injection hq with hq; rw [← hq]; exact HG.out.2)⟩
end Go.Proofs.YtjmooillogojkaaGreat.Q
namespace Go.Proofs.YtjmooillogojkaaGreat.Q
open Go.RowKit Go.Proofs.YtjmooillogojkaaGreatW.PrintWords Go.Proofs.YtjmooillogojkaaGreatW.PrintLast Go.Proofs.YtjmooillogojkaaGreatW.PrintMore
open Go.Proofs.YtjmooillogojkaaGreat
def block_Sum.f (l0 : List ByteArray) (a1 : Int) : Option (ByteArray × Int) := some (block_SumR l0 a1)
theorem block_Sum.calls (A0 : Option Addr) (c0 : Nat) (l0 : List ByteArray) (a1 : Int) (r1 : ByteArray) (r2 : Int) (w : World) (hr0 : Kd.C Kd.string w A0 l0.length l0) (hc0 : l0.length ≤ c0) (h : block_Sum.f l0 a1 = some (r1, r2)) :
  Calls Tryz.prog 40 #[.slice A0 l0.length c0, .int .i64 a1] w fun e w' => e = .returned (.tuple #[.string r1, .int .i64 r2]) ∧ Below w.heap.size w w' := by
 have hp := Option.some.inj h
 have e1 : r1 = (block_SumR l0 a1).1 := by rw [hp]
 have e2 : r2 = (block_SumR l0 a1).2 := by rw [hp]
 rw [e1, e2]
 exact sum_own l0 a1 w hr0 hc0
end Go.Proofs.YtjmooillogojkaaGreat.Q
