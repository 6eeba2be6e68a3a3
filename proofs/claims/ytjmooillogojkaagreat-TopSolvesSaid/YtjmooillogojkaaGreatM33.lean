/- inner.pick, index, Index walked; Plain laws of package bits; Plain: what inner.Index makes of a head; Printed by a changed copy of a printer, shortened by a program: what these functions answer: b ... No condition. -/
import Derived.Test.YtjmooillogojkaaGreatM32
set_option maxHeartbeats 8000000
set_option maxRecDepth 100000
set_option linter.unusedVariables false
set_option linter.unusedSimpArgs false
namespace Go.Proofs.YtjmooillogojkaaGreat.Q
open Go.RowKit Go.Proofs.YtjmooillogojkaaGreatW.PrintWords Go.Proofs.YtjmooillogojkaaGreatW.PrintLast Go.Proofs.YtjmooillogojkaaGreatW.PrintMore
open Go.Proofs.YtjmooillogojkaaGreat
def bits_Nth.l0 : Nat → ByteArray → Int → Int → Int → Option (Int)
 | 0, _, _, _, _ => none
 | k + 1, x0, x1, x8, x9 => if x9 < x8 then ((bits_Has.f x0 x9).bind fun t403 => (if t403 = true then (if x1 = 0 then (some x9) else (bits_Nth.l0 k x0 (wrap64 (x1 - 1)) x8 (wrap64 (x9 + 1)))) else (bits_Nth.l0 k x0 x1 x8 (wrap64 (x9 + 1))))) else (some (-1))
def bits_Nth.f (k : Nat) (a0 : ByteArray) (a1 : Int) : Option (Int) := bits_Nth.l0 k a0 a1 (wrap64 (8 * (a0.size : Int))) 0
theorem bits_Nth.calls (k : Nat) (a0 : ByteArray) (a1 : Int) (r : Int) (w : World) (h : bits_Nth.f k a0 a1 = some r) :
  Calls Tryz.prog 88 #[.string a0, .int .i64 a1] w fun e w' => e = .returned (.int .i64 r) ∧ Drawn0 w w' := by
 have H : (bits_Nth.l0 k a0 a1 (wrap64 (8 * (a0.size : Int))) 0) = some r := h
 clear h
 have H' := jo H
 clear H
 go_enter Tryz.func88, Tryz.ntmps88
 go_wp2
 go_loopg [1, 9] k (fun kq v1 v9 w' => ∃ (x1_1 : Int) (x9_1 : Int), v1 = .int .i64 x1_1 ∧ v9 = .int .i64 x9_1 ∧ Aside0 (bits_Nth.l0 kq a0 x1_1 (wrap64 (8 * (a0.size : Int))) x9_1 = some r) ∧ Aside0 (kq ≤ k) ∧ Drawn0 w w')
 case atStart => exact ⟨(a1), (0), js, js, H', ⟨Nat.le_refl _⟩, jd⟩
 case round =>
  clear H'
  try clear p2
  obtain ⟨x1_1, x9_1, rfl, rfl, HA, HK1, ⟨m1, rfl⟩⟩ := hrel
  cases gk with
  | zero => exact absurd HA.out (by simp [bits_Nth.l0])
  | succ k1 =>
   have H := HA.out
   clear HA
   simp only [bits_Nth.l0] at H
   by_cases c3 : x9_1 < (wrap64 (8 * (a0.size : Int)))
   ·rw [if_pos c3] at H
    have c3b0 : decide (x9_1 < (wrap64 (8 * (a0.size : Int)))) = true := decide_eq_true c3
    clear c3
    replace H := Option.bind_eq_some_iff.mp H
    obtain ⟨t403, A40, H⟩ := H
    replace H : (if t403 = true then (if x1_1 = 0 then (some x9_1) else (bits_Nth.l0 k1 a0 (wrap64 (x1_1 - 1)) (wrap64 (8 * (a0.size : Int))) (wrap64 (x9_1 + 1)))) else (bits_Nth.l0 k1 a0 x1_1 (wrap64 (8 * (a0.size : Int))) (wrap64 (x9_1 + 1)))) = some r := H
    have A4 := jo A40
    clear A40
    by_cases c5 : t403 = true
    ·subst c5
     have H1 : (if x1_1 = 0 then (some x9_1) else (bits_Nth.l0 k1 a0 (wrap64 (x1_1 - 1)) (wrap64 (8 * (a0.size : Int))) (wrap64 (x9_1 + 1)))) = some r := by rw [if_pos rfl] at H; exact H
     clear H
     have H := H1
     clear H1
     by_cases c6 : x1_1 = 0
     ·rw [if_pos c6] at H
      have c6b0 : (x1_1 == 0) = true := beq_iff_eq.mpr c6
      have c6b1 : (x1_1 != 0) = false := bne_eq_false_iff_eq.mpr c6
      clear c6
      obtain rfl := Option.some.inj H
      go_wp2_with (first | ((with_reducible refine gate_callee (f := 121) rfl ?_); refine goesL_ (some 14) rfl rfl Tryz.func121 jw rfl #[.string a0, .int .i64 x9_1] rfl jm ?_; (with_reducible refine (bits_Has.calls a0 x9_1 true _ A4.out).mono ?_); rintro e w' ⟨rfl, ⟨nd, rfl⟩⟩; refine ⟨_, rfl, ?_⟩))
      go_ret
      exact ⟨by first | rfl | (simp; done) | (simp [*]; done), jd⟩
     ·rw [if_neg c6] at H
      have c6b0 : (x1_1 == 0) = false := beq_eq_false_iff_ne.mpr c6
      have c6b1 : (x1_1 != 0) = true := bne_iff_ne.mpr c6
      have H' := jo H
      clear H
      go_wp2_with (first | ((with_reducible refine gate_callee (f := 121) rfl ?_); refine goesL_ (some 14) rfl rfl Tryz.func121 jw rfl #[.string a0, .int .i64 x9_1] rfl jm ?_; (with_reducible refine (bits_Has.calls a0 x9_1 true _ A4.out).mono ?_); rintro e w' ⟨rfl, ⟨nd, rfl⟩⟩; refine ⟨_, rfl, ?_⟩))
      go_roundg k1
      case measure => have := HK1.out; omega
      case rel => exact ⟨(wrap64 (x1_1 - 1)), (wrap64 (x9_1 + 1)), js, js, H', ⟨by have := HK1.out; omega⟩, jd⟩
    ·replace c5 := Bool.eq_false_iff.mpr c5
     subst c5
     have H1 : (bits_Nth.l0 k1 a0 x1_1 (wrap64 (8 * (a0.size : Int))) (wrap64 (x9_1 + 1))) = some r := by rw [if_neg (show ¬ (false = true) by decide)] at H; exact H
     clear H
     have H := H1
     clear H1
     have H' := jo H
     clear H
     go_wp2_with (first | ((with_reducible refine gate_callee (f := 121) rfl ?_); refine goesL_ (some 14) rfl rfl Tryz.func121 jw rfl #[.string a0, .int .i64 x9_1] rfl jm ?_; (with_reducible refine (bits_Has.calls a0 x9_1 false _ A4.out).mono ?_); rintro e w' ⟨rfl, ⟨nd, rfl⟩⟩; refine ⟨_, rfl, ?_⟩))
     go_roundg k1
     case measure => have := HK1.out; omega
     case rel => exact ⟨(x1_1), (wrap64 (x9_1 + 1)), js, js, H', ⟨by have := HK1.out; omega⟩, jd⟩
   ·rw [if_neg c3] at H
    have c3b0 : decide (x9_1 < (wrap64 (8 * (a0.size : Int)))) = false := decide_eq_false c3
    clear c3
    obtain rfl := Option.some.inj H
    go_wp2
    go_ret
    exact ⟨by first | rfl | (simp; done) | (simp [*]; done), jd⟩
end Go.Proofs.YtjmooillogojkaaGreat.Q
namespace Go.Proofs.YtjmooillogojkaaGreat.Q
open Go.RowKit Go.Proofs.YtjmooillogojkaaGreatW.PrintWords Go.Proofs.YtjmooillogojkaaGreatW.PrintLast Go.Proofs.YtjmooillogojkaaGreatW.PrintMore
open Go.Proofs.YtjmooillogojkaaGreat
open Go.Proofs.YtjmooillogojkaaGreat.Plain
theorem degree_l0 (t : List Int) (x : Int) (hm : t.length < 100000) (h1 : 1 ≤ t.length) : ∀ (d j k : Nat), t.length - j = d → j ≤ t.length → d < k → ∃ r, degree_Degree.l0 k t x t (t.length : Int) (j : Int) = some r ∧ 1 ≤ r ∧ r ≤ (t.length : Int)
 | d, j, 0, _, _, h => absurd h (Nat.not_lt_zero _)
 | d, j, k + 1, hd, hj, hk => by
  simp only [degree_Degree.l0]
  by_cases hlt : j < t.length
  ·rw [if_pos (by omega), if_pos (by omega), if_pos (by omega), Deg.w64 (x := (j : Int) + 1) (by omega) (by omega)]
   split
   ·exact ⟨_, rfl, by omega, by omega⟩
   ·exact degree_l0 t x hm h1 (d - 1) (j + 1) k (by omega) (by omega) (by omega)
  ·rw [if_neg (by omega)]
   exact ⟨_, rfl, by omega, by omega⟩
theorem degree_spec (t : List Int) (x : Int) (hm : t.length < 1000) (h1 : 1 ≤ t.length) : ∃ r, degree_Degree.f 100000 t x = some r ∧ 1 ≤ r ∧ r ≤ (t.length : Int) := degree_l0 t x (by omega) h1 t.length 0 100000 (by omega) (by omega) (by omega)
def degI (N D F : Int) (key : ByteArray) : Int := (degree_Degree.f 100000 (table N D F) (wordAt key 0)).getD 1
def pickF (N D F : Int) (key : ByteArray) (n : Nat) : List Int := (pkN key n 1 (min (degI N D F key) n).toNat).1.take (min (degI N D F key) n).toNat
theorem ipick_ok {m0 m1 m2 m3 m4 m5 m6 h0 h1 : Int} {m7 h2 : ByteArray} {n : Nat} (hc : codeB m3 m4 m5 m6 = true) (p0 : 0 ≤ m2) (p1 : m2 < 72057594037927936) (p2 : 0 ≤ h1) (p3 : h1 < 72057594037927936) (n1 : 1 ≤ n) (n2 : n ≤ 4096) (w : World) :
  Calls Tryz.prog 86 #[.agg #[.int .i64 m0, .int .i64 m1, .int .i64 m2, .int .i64 m3, .int .i64 m4, .int .i64 m5, .int .i64 m6, .string m7], .agg #[.int .i64 h0, .int .i64 h1, .string h2], .int .i64 (n : Int)] w fun e w' => ∃ v, e = .returned v ∧ JR w' w.heap.size v (pickF m3 m4 m6 (seedI m2 h1) n) ∧ Below w.heap.size w w' := by
 have hF := (codeB_iff _ _ _ _).1 hc
 have htl : (table m3 m4 m6).length = (m6.toNat - 1) + 1 := tabs_length _ _ _ _ _
 obtain ⟨d, hd, d1, d2⟩ := degree_spec (table m3 m4 m6) (wordAt (seedI m2 h1) 0) (by rw [htl]; omega) (by rw [htl]; omega)
 have hdi : degI m3 m4 m6 (seedI m2 h1) = d := by unfold degI; rw [hd]; rfl
 obtain ⟨dn, rfl⟩ := Int.eq_ofNat_of_zero_le (show 0 ≤ d by omega)
 obtain ⟨k, hk⟩ : ∃ k, k = min dn n := ⟨_, rfl⟩
 have hmin : min (dn : Int) (n : Int) = (k : Int) := by omega
 have HK : Aside0 (1 ≤ k ∧ k ≤ n ∧ n ≤ 4096) := ⟨by omega, by omega, by omega⟩
 have HJ : Aside0 (pickF m3 m4 m6 (seedI m2 h1) n = (pkN (seedI m2 h1) n 1 k).1.take k) := ⟨by unfold pickF; rw [hdi, hmin]; rfl⟩
 have HTB := jo (show degree_Table.f 100070 m3 m4 m5 m6 = some (table m3 m4 m6, 0) by rw [show 100070 = 100000 + 70 from rfl, Deg.table_spec]; unfold Deg.tableP; rw [if_pos hc])
 have HDG := jo hd
 have HG := jo (fun W => igen_ok (m0 := m0) (m1 := m1) (m3 := m3) (m4 := m4) (m5 := m5) (m6 := m6) (h0 := h0) (m7 := m7) (h2 := h2) p0 p1 p2 p3 W)
 have b1 : Below w.heap.size w ((w.alloc (.cells #[.int .i64 m0, .int .i64 m1, .int .i64 m2, .int .i64 m3, .int .i64 m4, .int .i64 m5, .int .i64 m6, .string m7] 30)).alloc (.cells #[.int .i64 h0, .int .i64 h1, .string h2] 36)) := below_alloc (below_alloc (Below.refl _ _) _) _
 have k1 : ((w.alloc (.cells #[.int .i64 m0, .int .i64 m1, .int .i64 m2, .int .i64 m3, .int .i64 m4, .int .i64 m5, .int .i64 m6, .string m7] 30)).alloc (.cells #[.int .i64 h0, .int .i64 h1, .string h2] 36)).heap[w.heap.size]? = some (.cells #[.int .i64 m0, .int .i64 m1, .int .i64 m2, .int .i64 m3, .int .i64 m4, .int .i64 m5, .int .i64 m6, .string m7] 30 (0, 0)) := blk_alloc (blk_new w _) _
 have k2 : ((w.alloc (.cells #[.int .i64 m0, .int .i64 m1, .int .i64 m2, .int .i64 m3, .int .i64 m4, .int .i64 m5, .int .i64 m6, .string m7] 30)).alloc (.cells #[.int .i64 h0, .int .i64 h1, .string h2] 36)).heap[w.heap.size + 1]? = some (.cells #[.int .i64 h0, .int .i64 h1, .string h2] 36 (0, 0)) := by
  have := blk_new (w.alloc (.cells #[.int .i64 m0, .int .i64 m1, .int .i64 m2, .int .i64 m3, .int .i64 m4, .int .i64 m5, .int .i64 m6, .string m7] 30)) (.cells #[.int .i64 h0, .int .i64 h1, .string h2] 36)
  rw [World.size_alloc] at this
  exact this
 clear hF htl hd hdi d1 d2 hk hc p0 p1 p2 p3 n1 n2
 go_enter Tryz.func86, Tryz.ntmps86
 go_wp2_with fail
 generalize (w.alloc (.cells #[.int .i64 m0, .int .i64 m1, .int .i64 m2, .int .i64 m3, .int .i64 m4, .int .i64 m5, .int .i64 m6, .string m7] 30)).alloc (.cells #[.int .i64 h0, .int .i64 h1, .string h2] 36) = W1 at b1 k1 k2 ⊢
 have HB1 := jo (And.intro b1 (And.intro k1 k2))
 clear b1 k1 k2
 with_reducible refine (HG.out W1).mono ?_
 rintro e w2 ⟨g, rfl, hg2⟩
 have hk2 := blk_below HB1.out.2.1 hg2.bel
 have x3 : w2.cell? ⟨w.heap.size, 3, none⟩ = some (.int .i64 m3) := blk_cell hk2 3
 have x4 : w2.cell? ⟨w.heap.size, 4, none⟩ = some (.int .i64 m4) := blk_cell hk2 4
 have x5 : w2.cell? ⟨w.heap.size, 5, none⟩ = some (.int .i64 m5) := blk_cell hk2 5
 have x6 : w2.cell? ⟨w.heap.size, 6, none⟩ = some (.int .i64 m6) := blk_cell hk2 6
 have H2 : Aside0 (Gn w w2 g (seedI m2 h1) 0 ⟨#[]⟩) := ⟨⟨hg2.blk, below_step HB1.out.1 hg2.bel, Nat.le_trans HB1.out.1.size hg2.lo, hg2.buf, hg2.key⟩⟩
 clear hg2 hk2
 go_wp2_with (go_at_call 116; (with_reducible refine (degree_Table.calls _ _ _ _ _ _ _ _ HTB.out).mono ?_); rintro e w3 ⟨v3, rfl, ho3, hb3⟩; obtain ⟨A3, c3, e3, hl3, hr3⟩ := Kd.R_reads ho3; subst e3; have H3 := jo ho3; have HG3 := jo (H2.out.below hb3); clear ho3 hb3 hl3 hr3 x3 x4 x5 x6)
 with_reducible refine (word_ok (x := wordAt (seedI m2 h1) 0) rfl HG3.out (by decide)).mono ?_
 rintro e w4 ⟨rfl, hk4, bf4, hg4⟩
 have hr4 := Kd.R_keep (Kd.R_types H3.out HG3.out.blk (by decide)) hk4 (fun kk h => h.2)
 have h4 := Kd.R_reads' hr4
 have HG4 := jo hg4
 have HDC := jo (degree_Degree.calls 100000 A3 c3 (table m3 m4 m6) (wordAt (seedI m2 h1) 0) (dn : Int) w4 h4.2.2 h4.2.1 HDG.out)
 clear hk4 hg4 hr4 h4
 go_wp2_with fail
 with_reducible refine HDC.out.mono ?_
 rintro e w5 ⟨rfl, ⟨nd, rfl⟩⟩
 have HG5 := jo (HG4.out.below (pw_below_drewN (Below.refl w4.heap.size w4) nd))
 generalize w4.drewN nd = w5 at HG5 ⊢
 clear HDC
 go_wp2_with fail
 with_reducible refine (pick_ok HG5.out (by decide) HK.out.1 HK.out.2.1 HK.out.2.2 rfl).mono ?_
 rintro e w6 ⟨G, c6, rfl, hr6, hb6⟩
 have hpl : (pkN (seedI m2 h1) n 1 k).1.length = n := pkN_length _ _ _ _
 obtain ⟨P, hP⟩ : ∃ P, P = (pkN (seedI m2 h1) n 1 k).1 := ⟨_, rfl⟩
 rw [← hP] at hr6 hpl
 have HPL := jo (And.intro hpl hP)
 have H6 := jo (And.intro hr6 hb6)
 clear hr6 hb6 hpl hP
 go_wp2
 go_ret
 rcases IR.of H6.out.1 with ⟨_, e⟩ | ⟨g7, cap7, e, hgb, _, hir⟩
 ·have h1 := HPL.out.1
  rw [e] at h1
  have := HK.out.1
  have := HK.out.2.1
  simp at h1
  omega
 injection e with e1 e2 e3
 injection e1 with e1
 injection e1 with e1
 subst e1 e3
 have hkl : (P.take k).length = k := by rw [List.length_take, HPL.out.1]; exact Nat.min_eq_left HK.out.2.1
 refine ⟨_, rfl, ⟨G, k, c6, ?_, ?_, hgb, ?_⟩, H6.out.2⟩
 ·rw [HJ.out, ← HPL.out.2, hkl]
  rfl
 ·rw [HJ.out, ← HPL.out.2, hkl]
  exact Nat.le_refl _
 ·rw [HJ.out, ← HPL.out.2]
  exact hir.take k (by rw [HPL.out.1]; exact HK.out.2.1)
end Go.Proofs.YtjmooillogojkaaGreat.Q
namespace Go.Proofs.YtjmooillogojkaaGreat.Q
open Go.RowKit Go.Proofs.YtjmooillogojkaaGreatW.PrintWords
open Go.Proofs.YtjmooillogojkaaGreat
def hb (s : ByteArray) (i : Nat) : Bool := (bits_Has.f s (i : Int)).getD false
theorem tdiv8 (i : Nat) : Int.tdiv (i : Int) 8 = ((i / 8 : Nat) : Int) := (Int.ofNat_tdiv i 8).symm
theorem tmod8 (i : Nat) : Int.tmod (i : Int) 8 = ((i % 8 : Nat) : Int) := (Int.ofNat_tmod i 8).symm
theorem has_spec (s : ByteArray) {i : Nat} (hi : i ≤ 1000000) : bits_Has.f s (i : Int) = some (hb s i) ∧ (8 * s.size ≤ i → hb s i = false) := by
 have h : ∃ b, bits_Has.f s (i : Int) = some b ∧ (8 * s.size ≤ i → b = false) := by
  unfold bits_Has.f
  rw [if_pos (by omega), tdiv8, tmod8, Deg.w64 (x := ((i / 8 : Nat) : Int)) (by omega) (by omega)]
  by_cases h : ((i / 8 : Nat) : Int) < (s.size : Int)
  ·rw [if_pos h, if_pos (by omega), if_pos (by omega)]
   exact ⟨_, rfl, fun h2 => by omega⟩
  ·rw [if_neg h]
   exact ⟨_, rfl, fun _ => rfl⟩
 obtain ⟨b, h1, h2⟩ := h
 have : hb s i = b := by unfold hb; rw [h1]; rfl
 rw [this]
 exact ⟨h1, h2⟩
def onB (s : ByteArray) (m : Nat) : List Nat := (List.range m).filter (hb s)
theorem onB_succ (s : ByteArray) (m : Nat) : onB s (m + 1) = onB s m ++ (if hb s m then [m] else []) := by
 unfold onB
 rw [List.range_succ, List.filter_append]
 cases h : hb s m <;> simp [h]
theorem onB_lt {s : ByteArray} {m k : Nat} (h : k ∈ onB s m) : k < m := List.mem_range.1 (List.mem_filter.1 h).1
theorem onB_le (s : ByteArray) (m : Nat) : (onB s m).length ≤ m := Nat.le_trans (List.length_filter_le _ _) (by simp)
theorem rank_l0 (s : ByteArray) (m : Nat) (hm : m ≤ 100000) : ∀ (d j k : Nat), m - j = d → j ≤ m → d < k → bits_Rank.l0 k s ((onB s j).length : Int) (m : Int) (j : Int) = some ((onB s m).length : Int)
 | d, j, 0, _, _, h => absurd h (Nat.not_lt_zero _)
 | d, j, k + 1, hd, hj, hk => by
  simp only [bits_Rank.l0]
  by_cases hlt : j < m
  ·have hl := onB_le s j
   have hsn := onB_succ s j
   rw [if_pos (by omega), (has_spec s (i := j) (by omega)).1, Option.bind_some, Deg.w64 (x := (j : Int) + 1) (by omega) (by omega), Deg.w64 (x := ((onB s j).length : Int) + 1) (by omega) (by omega)]
   have ih := rank_l0 s m hm (d - 1) (j + 1) k (by omega) (by omega) (by omega)
   rw [hsn] at ih
   cases hh : hb s j with
   | true =>
    rw [hh] at ih
    simp only [if_true, List.length_append, List.length_singleton] at ih ⊢
    exact ih
   | false =>
    rw [hh] at ih
    simp only [Bool.false_eq_true, if_false, List.append_nil] at ih ⊢
    exact ih
  ·rw [if_neg (by omega)]
   have : j = m := by omega
   rw [this]
theorem count_spec' (s : ByteArray) (hs : s.size ≤ 1000) : bits_Count.f 100000 s = some ((onB s (8 * s.size)).length : Int) := by
 unfold bits_Count.f bits_Rank.f
 have h1 : wrap64 (8 * (s.size : Int)) = ((8 * s.size : Nat) : Int) := by rw [Deg.w64 (by omega) (by omega)]; omega
 rw [h1]
 have h2 : mn (mx ((8 * s.size : Nat) : Int) 0) ((8 * s.size : Nat) : Int) = ((8 * s.size : Nat) : Int) := by unfold mn mx; (repeat split) <;> omega
 rw [h2]
 have := rank_l0 s (8 * s.size) (by omega) (8 * s.size) 0 100000 (by omega) (by omega) (by omega)
 rw [show onB s 0 = [] from rfl] at this
 rw [show (([] : List Nat).length : Int) = 0 from rfl] at this
 rw [show ((0 : Nat) : Int) = 0 from rfl] at this
 rw [this, Option.bind_some]
theorem onB_prefix (s : ByteArray) : ∀ (d j : Nat), onB s j <+: onB s (j + d)
 | 0, j => List.prefix_rfl
 | d + 1, j => by
  have h := onB_prefix s d j
  rw [← Nat.add_assoc, onB_succ]
  exact h.trans (List.prefix_append _ _)
theorem nth_l0 (s : ByteArray) (m : Nat) (hm : m ≤ 100000) : ∀ (d j x k : Nat), m - j = d → j ≤ m → d < k → (onB s j).length + x < (onB s m).length → bits_Nth.l0 k s (x : Int) (m : Int) (j : Int) = some (((onB s m).getD ((onB s j).length + x) 0 : Nat) : Int)
 | d, j, x, 0, _, _, h, _ => absurd h (Nat.not_lt_zero _)
 | d, j, x, k + 1, hd, hj, hk, hx => by
  simp only [bits_Nth.l0]
  by_cases hlt : j < m
  ·have hsn := onB_succ s j
   have hle := onB_le s m
   rw [if_pos (by omega), (has_spec s (i := j) (by omega)).1, Option.bind_some, Deg.w64 (x := (j : Int) + 1) (by omega) (by omega), Deg.w64 (x := (x : Int) - 1) (by omega) (by omega)]
   cases hh : hb s j with
   | true =>
    rw [hh] at hsn
    simp only [if_true] at hsn ⊢
    by_cases h0 : x = 0
    ·subst h0
     rw [if_pos (by rfl)]
     obtain ⟨t, ht⟩ := onB_prefix s (m - (j + 1)) (j + 1)
     rw [show j + 1 + (m - (j + 1)) = m by omega, hsn] at ht
     rw [← ht, Nat.add_zero, List.append_assoc, List.getD_eq_getElem?_getD, List.getElem?_append_right (Nat.le_refl _), Nat.sub_self]
     rfl
    ·rw [if_neg (by omega), show (x : Int) - 1 = ((x - 1 : Nat) : Int) by omega]
     have ih := nth_l0 s m hm (d - 1) (j + 1) (x - 1) k (by omega) (by omega) (by omega) (by rw [hsn, List.length_append, List.length_singleton]; omega)
     rw [hsn, List.length_append, List.length_singleton, show (onB s j).length + 1 + (x - 1) = (onB s j).length + x by omega] at ih
     exact ih
   | false =>
    rw [hh] at hsn
    simp only [Bool.false_eq_true, if_false, List.append_nil] at hsn ⊢
    have ih := nth_l0 s m hm (d - 1) (j + 1) x k (by omega) (by omega) (by omega) (by rw [hsn]; exact hx)
    rw [hsn] at ih
    exact ih
  ·have : j = m := by omega
   rw [this] at hx
   omega
theorem nth_spec (s : ByteArray) (hs : s.size ≤ 1000) {x : Nat} (hx : x < (onB s (8 * s.size)).length) : bits_Nth.f 100000 s (x : Int) = some (((onB s (8 * s.size)).getD x 0 : Nat) : Int) := by
 unfold bits_Nth.f
 have h1 : wrap64 (8 * (s.size : Int)) = ((8 * s.size : Nat) : Int) := by rw [Deg.w64 (by omega) (by omega)]; omega
 rw [h1]
 have := nth_l0 s (8 * s.size) (by omega) (8 * s.size) 0 x 100000 (by omega) (by omega) (by omega) (by rw [show onB s 0 = [] from rfl]; simpa using hx)
 rw [show (onB s 0).length + x = x by rw [show onB s 0 = [] from rfl]; simp] at this
 exact this
theorem chk_l0 (s : ByteArray) (hs : s.size ≤ 1000) : ∀ (d j k : Nat), 8 * s.size - j = d → j ≤ 100000 → d < k → ∃ b, bits_Check.l0 k s (j : Int) = some b ∧ (b = true → ∀ i, j ≤ i → i ≤ 1000000 → hb s i = false)
 | d, j, 0, _, _, h => absurd h (Nat.not_lt_zero _)
 | d, j, k + 1, hd, hj, hk => by
  simp only [bits_Check.l0]
  rw [show wrap64 (8 * (s.size : Int)) = ((8 * s.size : Nat) : Int) by rw [Deg.w64 (by omega) (by omega)]; omega]
  by_cases hlt : j < 8 * s.size
  ·rw [if_pos (by omega), (has_spec s (i := j) (by omega)).1, Option.bind_some, Deg.w64 (x := (j : Int) + 1) (by omega) (by omega)]
   cases hh : hb s j with
   | true => exact ⟨false, rfl, fun h => absurd h (by decide)⟩
   | false =>
    obtain ⟨b, h1, h2⟩ := chk_l0 s hs (d - 1) (j + 1) k (by omega) (by omega) (by omega)
    refine ⟨b, by simpa using h1, fun hbt i hi hi2 => ?_⟩
    by_cases e : i = j
    ·rw [e]; exact hh
    ·exact h2 hbt i (by omega) hi2
  ·rw [if_neg (by omega)]
   exact ⟨true, rfl, fun _ i hi hi2 => (has_spec s hi2).2 (by omega)⟩
theorem bcheck_spec (s : ByteArray) (hs : s.size ≤ 1000) {n : Nat} (hn : n ≤ 100000) : ∃ b, bits_Check.f 100000 (n : Int) s = some b ∧ (b = true → ∀ i ∈ onB s (8 * s.size), i < n) := by
 have hj : ∀ q, ∃ b, bits_Check.j0 100000 (n : Int) s q = some b ∧ (b = true → ∀ i ∈ onB s (8 * s.size), i < n) := by
  intro q
  show ∃ b, bits_Check.j0 (99999 + 1) (n : Int) s q = some b ∧ _
  simp only [bits_Check.j0]
  cases q with
  | true => exact ⟨false, rfl, fun h => absurd h (by decide)⟩
  | false =>
   obtain ⟨b, h1, h2⟩ := chk_l0 s hs (8 * s.size - n) n 99999 rfl hn (by omega)
   refine ⟨b, by simpa using h1, fun hb i hi => ?_⟩
   have hl := onB_lt hi
   rcases Nat.lt_or_ge i n with h | h
   ·exact h
   ·have := h2 hb i h (by omega)
    have h3 := (List.mem_filter.1 hi).2
    rw [this] at h3
    exact absurd h3 (by decide)
 unfold bits_Check.f bits_may.f bits_long.f
 rw [if_pos (by omega), Option.bind_some]
 by_cases h : (n : Int) ≤ 160
 ·rw [decide_eq_true h, if_pos rfl, Option.bind_some]
  exact hj _
 ·rw [decide_eq_false h, if_neg (by decide)]
  exact hj _
end Go.Proofs.YtjmooillogojkaaGreat.Q
namespace Go.Proofs.YtjmooillogojkaaGreat.Q
open Go.RowKit Go.Proofs.YtjmooillogojkaaGreatW.PrintWords
open Go.Proofs.YtjmooillogojkaaGreat Plain Deg
structure HD where
 mode : Int
 seed : Int
 have_ : ByteArray
def HD.v (h : HD) : Value := .agg #[.int .i64 h.mode, .int .i64 h.seed, .string h.have_]
def MF.all (m : MF) : Int := m.N + m.A
def idxH (m : MF) (h : HD) : List Int :=
 if h.mode = 2 then [h.seed] else
 if h.mode = 1 then (pickF m.n m.d m.f (seedI m.seed h.seed) (onB h.have_ (8 * h.have_.size)).length).map (fun k => (((onB h.have_ (8 * h.have_.size)).getD k.toNat 0 : Nat) : Int))
 else pickF m.n m.d m.f (seedI m.seed h.seed) m.all.toNat
structure HOk (m : MF) (h : HD) : Prop where
 seed0 : 0 ≤ h.seed
 seed1 : h.seed ≤ 72057594037927935
 mode : (h.mode = 2 ∧ h.seed < m.all) ∨ (h.mode = 1 ∧ 0 < (onB h.have_ (8 * h.have_.size)).length ∧ ∀ i ∈ onB h.have_ (8 * h.have_.size), (i : Int) < m.all) ∨ h.mode = 0
theorem seedB_iff (n : Int) : seedB n = true ↔ 0 ≤ n ∧ n ≤ 72057594037927935 := by unfold seedB; exact decide_eq_true_iff
theorem MF.may.all_le {m : MF} (h : m.may) : 2 ≤ m.all ∧ m.all ≤ 160 := by
 have h1 := h.cnt
 have h2 := m.le
 have hc := (codeB_iff _ _ _ _).1 h.code
 unfold MF.all
 have h3 : m.A ≤ 64 := by
  unfold MF.A ceilM
  split <;> omega
 have h4 : 0 < m.A := by
  have t := top_bound h.code (n := m.N) (by omega) h2
  have hd := (codeB_iff ..).1 h.code
  unfold MF.A ceilM
  have : 0 < (55 * m.q * m.n * m.N + 100 * m.d - 1) / (100 * m.d) := by
   have := (Int.le_ediv_iff_mul_le (a := 1) (b := 55 * m.q * m.n * m.N + 100 * m.d - 1) (c := 100 * m.d) (by omega)).2 (by omega)
   omega
  split <;> omega
 omega
theorem check_head {m : MF} (hm : m.may) (hr : m.root.size = 32) (h : HD) (hs : h.have_.size ≤ 100) : ∃ e, inner_Check.f 100000 m.long m.size m.seed m.n m.d m.q m.f m.root h.mode h.seed h.have_ = some e ∧ (e = 0 ∨ e = 3) ∧ (e = 0 → HOk m h) := by
 have hB := (MF.B_iff m).2 hm
 have hall := hm.all_le
 obtain ⟨an, han⟩ := Int.eq_ofNat_of_zero_le (show 0 ≤ m.all by omega)
 have hj : ∀ b, ∃ e, inner_Check.j0 100000 b = some e ∧ (e = 0 ∨ e = 3) ∧ (e = 0 → b = false) := by
  intro b
  show ∃ e, inner_Check.j0 (99999 + 1) b = some e ∧ _
  simp only [inner_Check.j0]
  cases b
  ·exact ⟨0, rfl, .inl rfl, fun _ => rfl⟩
  ·exact ⟨3, rfl, .inr rfl, fun h => absurd h (by decide)⟩
 unfold inner_Check.f manifest_Check.f manifest_All.f
 rw [if_pos ⟨hB, hr⟩, Option.bind_some, if_pos rfl]
 by_cases h1 : h.seed < 0
 ·rw [if_pos h1]
  obtain ⟨e, e1, e2, e3⟩ := hj true
  exact ⟨e, e1, e2, fun h => absurd (e3 h) (by decide)⟩
 rw [if_neg h1]
 by_cases h2 : h.seed > 72057594037927935
 ·rw [if_pos h2]
  obtain ⟨e, e1, e2, e3⟩ := hj true
  exact ⟨e, e1, e2, fun h => absurd (e3 h) (by decide)⟩
 rw [if_neg h2, if_pos ⟨hB, hr⟩, Option.bind_some]
 have hmo : ∃ b, inner_moded.f 100000 m.all h.mode h.seed h.have_ = some b ∧ (b = true → HOk m h) := by
  unfold inner_moded.f
  by_cases m1 : h.mode = 1
  ·rw [if_pos m1, han]
   obtain ⟨b, b1, b2⟩ := bcheck_spec h.have_ (by omega) (n := an) (by omega)
   rw [b1, Option.bind_some]
   cases b with
   | false => exact ⟨false, rfl, fun h => absurd h (by decide)⟩
   | true =>
    rw [if_pos rfl, count_spec' _ (by omega), Option.bind_some]
    refine ⟨_, rfl, fun hd => ⟨by omega, by omega, .inr (.inl ⟨m1, ?_, fun i hi => ?_⟩)⟩⟩
    ·have := of_decide_eq_true hd
     omega
    ·have := b2 rfl i hi
     omega
  ·rw [if_neg m1]
   by_cases m2 : h.mode = 2
   ·rw [if_pos m2]
    by_cases h3 : h.seed ≥ m.all
    ·rw [if_pos h3]
     exact ⟨false, rfl, fun h => absurd h (by decide)⟩
    ·rw [if_neg h3]
     exact ⟨_, rfl, fun _ => ⟨by omega, by omega, .inl ⟨m2, by omega⟩⟩⟩
   ·rw [if_neg m2]
    by_cases m0 : h.mode = 0
    ·rw [if_pos m0]
     exact ⟨_, rfl, fun _ => ⟨by omega, by omega, .inr (.inr m0)⟩⟩
    ·rw [if_neg m0]
     exact ⟨false, rfl, fun h => absurd h (by decide)⟩
 obtain ⟨b, b1, b2⟩ := hmo
 have b1' : inner_moded.f 100000 (MF.N ⟨m.long, m.size, m.seed, m.n, m.d, m.q, m.f, m.root⟩ + MF.A ⟨m.long, m.size, m.seed, m.n, m.d, m.q, m.f, m.root⟩) h.mode h.seed h.have_ = some b := b1
 rw [b1', Option.bind_some]
 obtain ⟨e, e1, e2, e3⟩ := hj (!b)
 refine ⟨e, e1, e2, fun h => b2 ?_⟩
 have := e3 h
 cases b <;> simp at this ⊢
theorem ints_nodup (n : Nat) : (ints n).Nodup := by
 unfold ints
 refine List.Pairwise.map _ (R := fun a b : Nat => a ≠ b) (fun a b h1 h2 => h1 (by omega)) List.nodup_range
theorem pickF_ok (N D F : Int) (key : ByteArray) (n : Nat) : (pickF N D F key n).Nodup ∧ (∀ x ∈ pickF N D F key n, 0 ≤ x ∧ x < (n : Int)) ∧ (pickF N D F key n).length ≤ n := by
 have hk : (min (degI N D F key) n).toNat ≤ n := by omega
 have hp := pkN_perm key (n := n) (p0 := 1) _ hk
 unfold pickF
 refine ⟨(hp.nodup_iff.2 (ints_nodup n)).sublist (List.take_sublist _ _), fun x hx => ?_, ?_⟩
 ·have := hp.mem_iff.1 (List.mem_of_mem_take hx)
  unfold ints at this
  obtain ⟨k, hk, rfl⟩ := List.mem_map.1 this
  have := List.mem_range.1 hk
  omega
 ·rw [List.length_take, pkN_length]
  omega
theorem onB_nodup (s : ByteArray) (m : Nat) : (onB s m).Nodup := List.Nodup.sublist List.filter_sublist List.nodup_range
theorem idxH_ok {m : MF} {h : HD} (hm : m.may) (hh : HOk m h) : (idxH m h).Nodup ∧ ∀ i ∈ idxH m h, 0 ≤ i ∧ i < m.all := by
 have hall := hm.all_le
 unfold idxH
 split
 ·rename_i h2
  refine ⟨by simp, fun i hi => ?_⟩
  obtain rfl := List.mem_singleton.1 hi
  have := hh.seed0
  rcases hh.mode with a | a | a <;> omega
 ·rename_i h2
  split
  ·rename_i h1
   obtain ⟨p1, p2, p3⟩ := pickF_ok m.n m.d m.f (seedI m.seed h.seed) (onB h.have_ (8 * h.have_.size)).length
   have hb : ∀ i ∈ onB h.have_ (8 * h.have_.size), (i : Int) < m.all := by
    rcases hh.mode with a | a | a
    ·omega
    ·exact a.2.2
    ·omega
   have hn := onB_nodup h.have_ (8 * h.have_.size)
   generalize pickF m.n m.d m.f (seedI m.seed h.seed) (onB h.have_ (8 * h.have_.size)).length = P at *
   generalize onB h.have_ (8 * h.have_.size) = O at *
   have hg : ∀ x ∈ P, ∃ (k : Nat) (hk : k < O.length), x = (k : Int) ∧ O.getD x.toNat 0 = O[k] := fun x hx => by
    have := p2 x hx
    obtain ⟨k, rfl⟩ := Int.eq_ofNat_of_zero_le this.1
    have hk : k < O.length := by omega
    refine ⟨k, hk, rfl, ?_⟩
    rw [Int.toNat_natCast, List.getD_eq_getElem?_getD, List.getElem?_eq_getElem hk]
    rfl
   refine ⟨?_, fun i hi => ?_⟩
   ·rw [List.nodup_iff_pairwise_ne, List.pairwise_map]
    refine List.Pairwise.imp_of_mem (fun {a b} ha hb hab he => ?_) (List.nodup_iff_pairwise_ne.1 p1)
    obtain ⟨j, hj, rfl, ej⟩ := hg a ha
    obtain ⟨k, hk, rfl, ek⟩ := hg b hb
    rw [ej, ek] at he
    have := (List.getElem_inj hn).1 (show O[j] = O[k] by omega)
    omega
   ·obtain ⟨x, hx, rfl⟩ := List.mem_map.1 hi
    obtain ⟨k, hk, rfl, ek⟩ := hg x hx
    rw [ek]
    have := hb _ (List.getElem_mem hk)
    omega
  ·obtain ⟨p1, p2, p3⟩ := pickF_ok m.n m.d m.f (seedI m.seed h.seed) m.all.toNat
   refine ⟨p1, fun i hi => ?_⟩
   have := p2 i hi
   omega
end Go.Proofs.YtjmooillogojkaaGreat.Q
