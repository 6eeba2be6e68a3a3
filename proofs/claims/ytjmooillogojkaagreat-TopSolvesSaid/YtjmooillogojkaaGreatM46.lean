/- inact.reduced walked. No condition. -/
import Derived.Test.YtjmooillogojkaaGreatM28
import Derived.Test.YtjmooillogojkaaGreatM45
set_option maxHeartbeats 8000000
set_option maxRecDepth 100000
set_option linter.unusedVariables false
set_option linter.unusedSimpArgs false
namespace Go.Proofs.YtjmooillogojkaaGreat.Q
open Go.RowKit Go.Proofs.YtjmooillogojkaaGreatW.PrintWords Go.Proofs.YtjmooillogojkaaGreatW.PrintLast Go.Proofs.YtjmooillogojkaaGreatW.PrintMore
open Go.Proofs.YtjmooillogojkaaGreat
theorem kk_pred {k g n : Nat} (h : k + g = n) (hl : k < n) : g = g - 1 + 1 := by omega
theorem kk_next {k g n : Nat} (h : k + (g + 1) = n) : k + 1 + g = n := by omega
theorem kk_end {k g n : Nat} (h : k + g = n) (hl : ¬ k < n) : k = n := by omega
theorem w64n {k : Nat} (h : k ≤ 100000) : wrap64 (k : Int) = (k : Int) := Deg.w64 (by omega) (by omega)
theorem add_zero' (a : Addr) : a.add 0 = a := by cases a; rfl
theorem rd_head (l : List Int) : rd l 0 = l.headD 0 := by cases l <;> rfl
theorem SLI_head {W : World} {ap : Addr} {c : Nat} {l : List Int} (h : SLI W (.slice (some ap) l.length c) l) (h0 : 0 < l.length) : W.cell? ap = some (.int .i64 (l.headD 0)) := by
 obtain ⟨a, e, hc⟩ := Kd.at_int (Kd.R_reads' h).2.2 0 (Int.le_refl _) (Int.ofNat_lt.2 h0)
 injection e with e
 subst e
 rw [show (0 : Int).toNat = 0 from rfl, add_zero' ap, rd_head] at hc
 exact hc
theorem blk_set2 {W : World} {B : Nat} {u v : Value} {t : Nat} (h : W.heap[B]? = some (.cells #[u, v] t (0, 0))) (x y : Value) : (W.setCells B 0 [x, y]).heap[B]? = some (.cells #[x, y] t (0, 0)) := by
 exact blk_setCells _ _ _ _ h
theorem reduced_ok {n sz ci base0 : Nat} {A : Option Addr} {L res : List S62} (W : World) (hin : ER W base0 (.slice A L.length ci) L) (hn : n ≤ 160) (h1 : 1 ≤ sz) (h2 : sz ≤ 64) (hl : L.length ≤ 400) (hok : ∀ f ∈ L, fOk n f) (hres : redE sz [] L = some res) :
  Calls Tryz.prog 25 #[.slice A L.length ci, .int .i64 sz] W fun e w' => ∃ v, e = .returned (.tuple #[v, .bool true]) ∧ ER w' W.heap.size v res ∧ Below W.heap.size W w' := by
 have HIN := jo hin
 have HOK := jo hok
 have HRES := jo hres
 have HZ := jo (zero_spec h1 h2)
 have HLN : Aside0 (n ≤ 160 ∧ L.length ≤ 400) := ⟨hn, hl⟩
 clear hin hok hres hn h1 h2 hl
 go_enter Tryz.func25, Tryz.ntmps25
 go_wp2
 go_loopg [6, 15] L.length (fun gk v6 v15 wr => ∃ (k : Nat) (out : List S62), v15 = .int .i64 k ∧ Aside0 (k + gk = L.length ∧ ER wr W.heap.size v6 out ∧ Below W.heap.size W wr ∧ InvE n out ∧ out.length ≤ k ∧ redE sz out (L.drop k) = some res))
 case atStart => exact ⟨0, [], rfl, ⟨Nat.zero_add _, ER.nil _ _, Below.refl _ _, InvE.nil _, Nat.le_refl _, HRES.out⟩⟩
 case round =>
  obtain ⟨k0, out, rfl, HA⟩ := hrel
  clear HRES
  by_cases hlt : k0 < L.length
  ·have d1 : decide ((k0 : Int) < (L.length : Int)) = true := decide_eq_true (Int.ofNat_lt.2 hlt)
   have d2 : decide (k0 < L.length) = true := decide_eq_true hlt
   obtain ⟨gq0, rfl⟩ : ∃ q, gk = q + 1 := ⟨gk - 1, kk_pred HA.out.1 hlt⟩
   have hkk0 : Aside0 (k0 + 1 + gq0 = L.length) := ⟨kk_next HA.out.1⟩
   have HKM : Aside0 (k0 ≤ 100000) := ⟨Nat.le_trans (Nat.le_of_lt hlt) (Nat.le_trans HLN.out.2 (by decide))⟩
   have wk00 := w64n HKM.out
   obtain ⟨gi, capi, u0, ei, _, hs0, x1, x2, x3, cellsi, x4⟩ := (HIN.out.below HA.out.2.2.1).get hlt
   injection ei with e1 _ e3
   subst e1 e3
   have hfo := HOK.out _ (List.getElem_mem hlt)
   have hdr := List.drop_eq_getElem_cons hlt
   obtain ⟨f, hf⟩ : ∃ f, f = L[k0] := ⟨_, rfl⟩
   rw [← hf] at hs0 x2 hfo hdr
   clear hf
   obtain ⟨A0, c0, rfl, _, _⟩ := hs0.reads
   obtain ⟨A6, c6, e6⟩ := HA.out.2.1.slice
   subst e6
   have hb1 : Below wr.heap.size wr (wr.alloc (.cells #[.slice A0 f.f0.length c0, .string f.f1] 62)) := below_alloc (Below.refl _ _) _
   have hbn : wr.heap[wr.heap.size]? = none := by simp
   have HI : Aside0 (InvE n out ∧ fOk n f ∧ out.length ≤ 400 ∧ (∀ g, (Value.slice A6 out.length c6).ownBlock = some g → wr.heap.size ≠ g) ∧ n ≤ 160) := ⟨HA.out.2.2.2.1, hfo, Nat.le_trans HA.out.2.2.2.2.1 (Nat.le_trans (Nat.le_of_lt hlt) HLN.out.2), fun g hg e => by
    obtain ⟨_, cells, hc⟩ := HA.out.2.1.block g hg
    rw [← e, hbn] at hc
    exact absurd hc (by simp), HLN.out.1⟩
   have H1 : Aside0 ((wr.alloc (.cells #[.slice A0 f.f0.length c0, .string f.f1] 62)).heap[wr.heap.size]? = some (.cells #[.slice A0 f.f0.length c0, .string f.f1] 62 (0, 0)) ∧ SLI (wr.alloc (.cells #[.slice A0 f.f0.length c0, .string f.f1] 62)) (.slice A0 f.f0.length c0) f.f0 ∧ ER (wr.alloc (.cells #[.slice A0 f.f0.length c0, .string f.f1] 62)) W.heap.size (.slice A6 out.length c6) out ∧ Below W.heap.size W (wr.alloc (.cells #[.slice A0 f.f0.length c0, .string f.f1] 62))) := ⟨blk_new wr _, hs0.frame (Num3.below hb1), HA.out.2.1.below hb1, below_step HA.out.2.2.1 hb1⟩
   have HBP : Aside0 (W.heap.size ≤ wr.heap.size) := ⟨HA.out.2.2.1.size⟩
   have HRD : Aside0 (out.length ≤ k0 ∧ redE sz out (f :: L.drop (k0 + 1)) = some res) := ⟨HA.out.2.2.2.2.1, by rw [← hdr]; exact HA.out.2.2.2.2.2⟩
   clear hs0 hfo hdr hb1 hbn HA x4
   go_wp2
   clear x1 x2 x3 wk00 hlt d1 d2
   generalize wr.heap.size = Bp at HI H1 HBP ⊢
   generalize wr.alloc (.cells #[.slice A0 f.f0.length c0, .string f.f1] 62) = W1 at H1 ⊢
   go_loopg [21] out.length (fun gk vi wr => ∃ (k : Nat) (u : Value), vi = .int .i64 k ∧ Aside0 (k + gk = out.length ∧ wr.heap[Bp]? = some (.cells #[u, .string (subE f (out.take k)).f1] 62 (0, 0)) ∧ SLI wr u (subE f (out.take k)).f0 ∧ ER wr W.heap.size (.slice A6 out.length c6) out ∧ Below W.heap.size W wr))
   case atStart => exact ⟨0, _, rfl, ⟨Nat.zero_add _, H1.out⟩⟩
   case round =>
    obtain ⟨k, u, rfl, HA⟩ := hrel
    clear H1
    by_cases hlt : k < out.length
    ·have d1 : decide ((k : Int) < (out.length : Int)) = true := decide_eq_true (Int.ofNat_lt.2 hlt)
     have d2 : decide (k < out.length) = true := decide_eq_true hlt
     obtain ⟨gq, rfl⟩ : ∃ q, gk = q + 1 := ⟨gk - 1, kk_pred HA.out.1 hlt⟩
     have hkk : Aside0 (k + 1 + gq = out.length) := ⟨kk_next HA.out.1⟩
     have hkm : k ≤ 100000 := Nat.le_trans (Nat.le_of_lt hlt) (Nat.le_trans HI.out.2.2.1 (by decide))
     obtain ⟨hq1, _⟩ := subE_pre HI.out.1 HI.out.2.1 k (Nat.le_of_lt hlt)
     have hsn := subE_snoc f (out.take k) out[k]
     rw [← List.take_succ_eq_append_getElem hlt] at hsn
     obtain ⟨g6, cap, u2, e6, _, hs2, x1, x2, x3, cells6, x4⟩ := HA.out.2.2.2.1.get hlt
     injection e6 with e1 _ e3
     subst e1 e3
     have hyo := And.intro (HI.out.1.ok _ (List.getElem_mem hlt)) (HI.out.1.ne _ (List.getElem_mem hlt))
     generalize subE f (out.take k) = p at HA hq1 hsn
     obtain ⟨y, hy⟩ : ∃ y, y = out[k] := ⟨_, rfl⟩
     rw [← hy] at hs2 x2 hsn hyo
     clear hy
     obtain ⟨A2, c2, rfl, hc2, hr2⟩ := hs2.reads
     obtain ⟨Ap, cp, rfl, hcp, hrp⟩ := HA.out.2.2.1.reads
     obtain ⟨yi, yd⟩ := y
     replace hs2 : SLI wr (.slice A2 yi.length c2) yi := hs2
     replace hr2 : Kd.C (Kd.int .i64) wr A2 yi.length yi := hr2
     replace x1 : wr.cell? ⟨g6, k * 2, none⟩ = some (.slice A2 yi.length c2) := x1
     replace x2 : wr.cell? ⟨g6, k * 2 + 1, none⟩ = some (.string yd) := x2
     have hyl : 0 < yi.length := List.length_pos_iff.2 hyo.2
     obtain ⟨a2, rfl, hc0⟩ := Kd.at_int hr2 0 (Int.le_refl _) (Int.ofNat_lt.2 hyl)
     rw [show (0 : Int).toNat = 0 from rfl, add_zero' a2, rd_head] at hc0
     obtain ⟨hy0, hhy⟩ : ∃ h, h = yi.headD 0 := ⟨_, rfl⟩
     rw [← hhy] at hc0
     have hsn' : subE f (out.take (k + 1)) = if hy0 ∈ p.f0 then addF p ⟨yi, yd⟩ else p := by rw [hsn, hhy]; rfl
     have HSN := jo hsn'
     have HY := jo (And.intro hq1 (And.intro hyo.1 hs2))
     have d3 : decide ((0 : Int) < (yi.length : Int)) = true := decide_eq_true (Int.ofNat_lt.2 hyl)
     have d4 : decide (0 < yi.length) = true := decide_eq_true hyl
     have hml : p.f0.length < 1000000 := Nat.lt_of_le_of_lt (Nat.le_trans (rowOk_len hq1.1) HI.out.2.2.2.2) (by decide)
     have HCP := jo (And.intro hrp (And.intro hcp hml))
     have HC0 := jo hc0
     have HKM1 := jo hkm
     have wk0 := w64n hkm
     clear hsn hsn' hq1 hyo hs2 hr2 hrp hhy x4 hc0 hml hcp hc2 hkm
     go_wp2
     have HT : Aside0 (Below wr.heap.size wr (wr.alloc (.cells #[.slice (some a2) yi.length c2, .string yd] 62)) ∧ (wr.alloc (.cells #[.slice (some a2) yi.length c2, .string yd] 62)).heap[wr.heap.size]? = some (.cells #[.slice (some a2) yi.length c2, .string yd] 62 (0, 0))) := ⟨below_alloc (Below.refl _ _) _, blk_new wr _⟩
     generalize wr.alloc (.cells #[.slice (some a2) yi.length c2, .string yd] 62) = W3 at HT ⊢
     have HP3 : Aside0 (W3.heap[Bp]? = some (.cells #[.slice Ap p.f0.length cp, .string p.f1] 62 (0, 0)) ∧ SLI W3 (.slice Ap p.f0.length cp) p.f0 ∧ ER W3 W.heap.size (.slice (some ⟨g6, 0, none⟩) out.length c6) out ∧ Below W.heap.size W W3 ∧ SLI W3 (.slice (some a2) yi.length c2) yi) := ⟨blk_below HA.out.2.1 HT.out.1, HA.out.2.2.1.frame (Num3.below HT.out.1), HA.out.2.2.2.1.below HT.out.1, below_step HA.out.2.2.2.2 HT.out.1, HY.out.2.2.frame (Num3.below HT.out.1)⟩
     have HC27 : Aside0 (∀ W', Below W3.heap.size W3 W' → Calls Tryz.prog 27 #[.slice Ap p.f0.length cp, .int .i64 hy0] W' fun e w' => e = .returned (.bool (decide (hy0 ∈ p.f0))) ∧ Below W'.heap.size W' w') := ⟨fun W' hW => contains_ok W' (Kd.C_below (Kd.C_below HCP.out.1 HT.out.1) hW) HCP.out.2.1 HCP.out.2.2⟩
     have hnb : Aside0 (wr.heap.size ≠ Bp) := ⟨fun e => by have := blk_lt HA.out.2.1; rw [e] at this; exact absurd this (Nat.lt_irrefl _)⟩
     have z2 : W3.drew.cell? a2 = some (.int .i64 hy0) := pw_cell_below HT.out.1 HC0.out
     generalize wr.heap.size = Bg at HT hnb ⊢
     have HTB := jo HT.out.2
     have z0 : W3.drew.cell? ⟨Bp, 0, none⟩ = some (.slice Ap p.f0.length cp) := blk_cell HP3.out.1 0
     have z1 : W3.drew.cell? ⟨Bg, 0, none⟩ = some (.slice (some a2) yi.length c2) := blk_cell HT.out.2 0
     clear HT HA HCP HC0 x1 x2 x3
     go_wp2
     refine st_ (S := fun w' => w'.cell? ⟨Bp, 0, none⟩ = some (.slice Ap p.f0.length cp) ∧ w'.cell? ⟨Bg, 0, none⟩ = some (.slice (some a2) yi.length c2) ∧ w'.cell? a2 = some (.int .i64 hy0)) (ds := []) 7 ⟨z0, z1, z2⟩ (fun hHeld => ?_)
     refine td_ [0, 2] ?_
     repeat (first | refine pp_ ?_ | refine po_ ?_)
     refine tn_ ?_
     refine td_ [1, 3] ?_
     repeat (refine pt_ hHeld ?_)
     refine tn_ ?_
     refine td_ [4] ?_
     repeat (first | refine pp_ ?_ | refine po_ ?_)
     refine tn_ ?_
     refine td_ [5] ?_
     repeat (refine pt_ hHeld ?_)
     refine tn_ ?_
     refine on_ 6 (fun K hK => ?_)
     refine gs_ Tryz.func27 #[.slice Ap p.f0.length cp, .int .i64 hy0] ?_
     with_reducible refine ((HC27.out _ (below_drew (Below.refl _ _)))).mono ?_
     rintro e w6 ⟨rfl, hb6⟩
     refine ⟨_, rfl, ?_⟩
     have H6 := jo (below_step (below_drew (Below.refl W3.heap.size W3)) hb6)
     have y0 := pw_cell_below hb6 hHeld.1
     have y1 := pw_cell_below hb6 hHeld.2.1
     have y2 := pw_cell_below hb6 hHeld.2.2
     clear hb6
     refine hK.out _ _ ⟨y0, y1, y2⟩ (fun hHeld => ?_)
     clear hK K
     refine nm_ (some 31) ?_
     refine dn_ ?_
     have HP6 : Aside0 (w6.heap[Bp]? = some (.cells #[.slice Ap p.f0.length cp, .string p.f1] 62 (0, 0)) ∧ SLI w6 (.slice Ap p.f0.length cp) p.f0 ∧ ER w6 W.heap.size (.slice (some ⟨g6, 0, none⟩) out.length c6) out ∧ Below W.heap.size W w6) := ⟨blk_below HP3.out.1 H6.out, HP3.out.2.1.frame (Num3.below H6.out), HP3.out.2.2.1.below H6.out, below_step HP3.out.2.2.2.1 H6.out⟩
     by_cases hm : hy0 ∈ p.f0
     ·have dm : decide (hy0 ∈ p.f0) = true := decide_eq_true hm
      have HC28 := jo (add_ok (W := w6) HI.out.2.2.2.2 HY.out.1 HY.out.2.1 HP6.out.2.1 (HP3.out.2.2.2.2.frame (Num3.below H6.out)))
      have q0 : w6.cell? ⟨Bp, 0, none⟩ = some (.slice Ap p.f0.length cp) := blk_cell HP6.out.1 0
      have q1 : w6.cell? ⟨Bp, 1, none⟩ = some (.string p.f1) := blk_cell HP6.out.1 1
      have hbg := blk_below HTB.out H6.out
      have q2 : w6.cell? ⟨Bg, 0, none⟩ = some (.slice (some a2) yi.length c2) := blk_cell hbg 0
      have q3 : w6.cell? ⟨Bg, 1, none⟩ = some (.string yd) := blk_cell hbg 1
      rw [if_pos hm] at HSN
      clear hbg hHeld y0 y1 y2 z0 z1 z2 d3 d4
      go_wp2_with (first | (go_at_call 28; (with_reducible refine HC28.out.mono ?_); rintro e w7 ⟨v7, rfl, hs7, hb7⟩; obtain ⟨A7, c7, e7, _, _⟩ := hs7.reads; subst e7; have H7 := jo (And.intro hs7 hb7); have q4 := pw_cell_below hb7 q0; have q5 := pw_cell_below hb7 q1; have q6 : ∀ j, w7.frozen? ⟨Bp, j, none⟩ = false := (fun j => blk_frozen (blk_below HP6.out.1 hb7) j); clear hs7 hb7 q0 q1 q2 q3))
      go_roundg gq
      case measure => exact Nat.lt_succ_self _
      case rel =>
       have hb0 := blk_below HP6.out.1 H7.out.2
       have hn3 := Num3.sets hb0 (by decide) 0 [.slice A7 (addF p ⟨yi, yd⟩).f0.length c7, .string (addF p ⟨yi, yd⟩).f1]
       refine ⟨k + 1, .slice A7 (addF p ⟨yi, yd⟩).f0.length c7, congrArg (Value.int .i64) (w64s HKM1.out), ⟨hkk.out, ?_, ?_, ?_, ?_⟩⟩
       ·rw [HSN.out]
        exact blk_set2 hb0 _ _
       ·rw [HSN.out]
        exact H7.out.1.frame hn3
       ·exact ER.frame (HP6.out.2.2.1.below H7.out.2) hn3 (fun g hg => (show (w7.setCells Bp 0 [.slice A7 (addF p ⟨yi, yd⟩).f0.length c7, .string (addF p ⟨yi, yd⟩).f1]).heap[g]? = _ from heap_setCells (fun e => HI.out.2.2.2.1 g hg e.symm) _ _ _))
       ·exact (show Below W.heap.size W (w7.setCells Bp 0 [.slice A7 (addF p ⟨yi, yd⟩).f0.length c7, .string (addF p ⟨yi, yd⟩).f1]) from below_setCells HBP.out _ _ _ (below_step HP6.out.2.2.2 H7.out.2))
     ·have dm : decide (hy0 ∈ p.f0) = false := decide_eq_false hm
      rw [if_neg hm] at HSN
      clear hHeld y0 y1 y2 d3 d4 hyl
      go_wp2
      go_roundg gq
      case measure => exact Nat.lt_succ_self _
      case rel => exact ⟨k + 1, _, congrArg (Value.int .i64) (w64s HKM1.out), ⟨hkk.out, by rw [HSN.out]; exact HP6.out.1, by rw [HSN.out]; exact HP6.out.2.1, HP6.out.2.2⟩⟩
    ·have d1 : decide ((k : Int) < (out.length : Int)) = false := decide_eq_false (fun e => hlt (Int.ofNat_lt.1 e))
     have d2 : decide (k < out.length) = false := decide_eq_false hlt
     have e1 : k = out.length := kk_end HA.out.1 hlt
     have ha := HA.out.2
     rw [e1, List.take_length] at ha
     have HB := jo ha
     clear HA ha e1
     clear hlt
     have hb0 := HB.out.1
     obtain ⟨A9, c9, e9, _, _⟩ := HB.out.2.1.reads
     subst e9
     have HQ := subE_ok HI.out.1 HI.out.2.1
     have hrd := HRD.out.2
     unfold redE at hrd
     generalize subE f out = p at HB hb0 HQ hrd
     have z0 : wr.cell? ⟨Bp, 0, none⟩ = some (.slice A9 p.f0.length c9) := blk_cell hb0 0
     have z1 : wr.cell? ⟨Bp, 1, none⟩ = some (.string p.f1) := blk_cell hb0 1
     have HBC := jo HB.out.2
     have HBB := jo hb0
     have HQA := jo HQ
     clear HB hb0 HQ
     by_cases hpn : p.f0 = []
     ·rw [if_pos hpn] at hrd
      have hpz : p.f1 = zeros sz := by
       by_cases h : p.f1 = zeros sz
       ·exact h
       ·rw [if_neg h] at hrd
        exact absurd hrd (by simp)
      rw [if_pos hpz] at hrd
      have HR2 := jo hrd
      rw [hpn] at z0
      rw [hpz] at z1
      replace z0 : wr.cell? ⟨Bp, 0, none⟩ = some (.slice A9 0 c9) := z0
      clear hrd hpn hpz
      go_wp2
      replace z1 : wr.drew.cell? ⟨Bp, 1, none⟩ = some (.string (zeros sz)) := z1
      refine st_ (S := fun w' => w'.cell? ⟨Bp, 1, none⟩ = some (.string (zeros sz))) (ds := []) 5 (z1) (fun hHeld => ?_)
      refine td_ [0, 2] ?_
      repeat (first | refine pp_ ?_ | refine po_ ?_)
      refine tn_ ?_
      refine td_ [1] ?_
      repeat (refine pt_ hHeld ?_)
      refine tn_ ?_
      refine on_ 3 (fun K hK => ?_)
      refine gs_ Tryz.func21 #[.int .i64 (sz : Int)] ?_
      with_reducible refine ((block_Zero.calls _ _ _ HZ.out)).mono ?_
      rintro e w6 ⟨rfl, hb6⟩
      refine ⟨_, rfl, ?_⟩
      have H6 := jo (below_step (below_drew (Below.refl wr.heap.size wr)) hb6)
      have y0 := pw_cell_below hb6 hHeld
      clear hb6
      refine hK.out _ _ (y0) (fun hHeld => ?_)
      clear hK K
      refine nm_ (some 43) ?_
      refine td_ [4] ?_
      repeat (first | refine pp_ ?_ | refine po_ ?_)
      refine tn_ ?_
      refine dn_ ?_
      clear hHeld y0 z0 z1 d1 d2
      go_wp2
      go_roundg gq0
      case measure => exact Nat.lt_succ_self _
      case rel => exact ⟨k0 + 1, out, congrArg (Value.int .i64) (w64s HKM.out), ⟨hkk0.out, HBC.out.2.1.below H6.out, below_step HBC.out.2.2 H6.out, HI.out.1, Nat.le_trans HRD.out.1 (Nat.le_succ _), HR2.out⟩⟩
     ·rw [if_neg hpn] at hrd
      have HR2 := jo hrd
      have hpl : 0 < p.f0.length := List.length_pos_iff.2 hpn
      have b0 : ((p.f0.length : Int) == 0) = false := beq_eq_false_iff_ne.2 (fun e => Nat.lt_irrefl 0 (by rw [Int.ofNat_eq_zero.1 e] at hpl; exact hpl))
      clear hrd
      go_wp2
      obtain ⟨ap, rfl, hc9⟩ := Kd.at_int (Kd.R_reads' HBC.out.1).2.2 0 (Int.le_refl _) (Int.ofNat_lt.2 hpl)
      rw [show (0 : Int).toNat = 0 from rfl, add_zero' ap, rd_head] at hc9
      obtain ⟨hp0, hhp⟩ : ∃ h, h = hd p := ⟨_, rfl⟩
      have HHP := jo hhp
      have HPP := jo (And.intro hpl hpn)
      have HL2 : Aside0 (wr.heap[Bp]? = some (.cells #[.slice (some ap) p.f0.length c9, .string p.f1] 62 (0, 0)) ∧ SLI wr (.slice (some ap) p.f0.length c9) p.f0 ∧ ER wr W.heap.size (.slice A6 out.length c6) ((out.take 0).map (elimE p) ++ out.drop 0) ∧ Below W.heap.size W wr ∧ wr.cell? ap = some (.int .i64 hp0)) := ⟨HBB.out, HBC.out.1, by simpa using HBC.out.2.1, HBC.out.2.2, by rw [hc9, hhp]; rfl⟩
      have hApl : c9 = c9 := rfl
      clear hc9 hhp hpn hpl HBB HBC z0 z1 b0 d1 d2 hApl
      go_loopg [47] out.length (fun gk vi wr => ∃ (k : Nat), vi = .int .i64 k ∧ Aside0 (k + gk = out.length ∧ wr.heap[Bp]? = some (.cells #[.slice (some ap) p.f0.length c9, .string p.f1] 62 (0, 0)) ∧ SLI wr (.slice (some ap) p.f0.length c9) p.f0 ∧ ER wr W.heap.size (.slice A6 out.length c6) ((out.take k).map (elimE p) ++ out.drop k) ∧ Below W.heap.size W wr ∧ wr.cell? ap = some (.int .i64 hp0)))
      case atStart => exact ⟨0, rfl, ⟨Nat.zero_add _, HL2.out⟩⟩
      case round =>
       obtain ⟨k, rfl, HA⟩ := hrel
       clear HL2
       by_cases hlt : k < out.length
       ·have d1 : decide ((k : Int) < (out.length : Int)) = true := decide_eq_true (Int.ofNat_lt.2 hlt)
        have d2 : decide (k < out.length) = true := decide_eq_true hlt
        obtain ⟨gq, rfl⟩ : ∃ q, gk = q + 1 := ⟨gk - 1, kk_pred HA.out.1 hlt⟩
        have hkk : Aside0 (k + 1 + gq = out.length) := ⟨kk_next HA.out.1⟩
        have hkm : k ≤ 100000 := Nat.le_trans (Nat.le_of_lt hlt) (Nat.le_trans HI.out.2.2.1 (by decide))
        obtain ⟨M, hM⟩ : ∃ M, M = (out.take k).map (elimE p) ++ out.drop k := ⟨_, rfl⟩
        have hMl : M.length = out.length := by rw [hM, List.length_append, List.length_map, List.length_take, List.length_drop]; have := HA.out.1; clear HA; omega
        have hMk : M[k]'(by rw [hMl]; exact hlt) = out[k] := by
         subst hM
         rw [List.getElem_append_right (by rw [List.length_map, List.length_take]; exact Nat.min_le_left _ _)]
         simp only [List.length_map, List.length_take, List.getElem_drop]
         congr 1
         rw [Nat.min_eq_left (Nat.le_of_lt hlt)]
         omega
        have hMn : (out.take (k + 1)).map (elimE p) ++ out.drop (k + 1) = M.set k (elimE p out[k]) := by
         rw [hM, List.set_append_right _ _ (by rw [List.length_map, List.length_take]; exact Nat.min_le_left _ _), List.length_map, List.length_take, Nat.min_eq_left (Nat.le_of_lt hlt), Nat.sub_self, List.drop_eq_getElem_cons hlt, List.take_succ_eq_append_getElem hlt, List.map_append, List.append_assoc]
         rfl
        rw [← hM] at HA
        obtain ⟨g6, cap, u2, e6, hbg6, hs2, x1, x2, x3, cells6, x4⟩ := HA.out.2.2.2.1.get (i := k) (by rw [hMl]; exact hlt)
        injection e6 with e1 e2 e3
        subst e1 e3
        clear e2
        rw [hMk] at hs2 x2
        have hyo := And.intro (HI.out.1.ok _ (List.getElem_mem hlt)) (HI.out.1.ne _ (List.getElem_mem hlt))
        obtain ⟨y, hy⟩ : ∃ y, y = out[k] := ⟨_, rfl⟩
        rw [← hy] at hs2 x2 hyo hMn hMk
        clear hy
        obtain ⟨A2, c2, rfl, hc2, hr2⟩ := hs2.reads
        obtain ⟨yi, yd⟩ := y
        replace hs2 : SLI wr (.slice A2 yi.length c2) yi := hs2
        replace hr2 : Kd.C (Kd.int .i64) wr A2 yi.length yi := hr2
        replace hc2 : yi.length ≤ c2 := hc2
        replace x1 : wr.cell? ⟨g6, k * 2, none⟩ = some (.slice A2 yi.length c2) := x1
        replace x2 : wr.cell? ⟨g6, k * 2 + 1, none⟩ = some (.string yd) := x2
        have HSN : Aside0 (_ ∧ (∃ h : k < M.length, M[k]'h = ⟨yi, yd⟩) ∧ M.length = out.length) := ⟨hMn, ⟨_, hMk⟩, hMl⟩
        have HY := jo (And.intro hyo.1 (And.intro hs2 (And.intro hr2 hc2)))
        have HKM1 := jo hkm
        have wk0 := w64n hkm
        clear hM hMl hMk hMn hyo hs2 hr2 hc2 x4 hkm hbg6
        go_wp2
        have HT : Aside0 (Below wr.heap.size wr (wr.alloc (.cells #[.slice A2 yi.length c2, .string yd] 62)) ∧ (wr.alloc (.cells #[.slice A2 yi.length c2, .string yd] 62)).heap[wr.heap.size]? = some (.cells #[.slice A2 yi.length c2, .string yd] 62 (0, 0))) := ⟨below_alloc (Below.refl _ _) _, blk_new wr _⟩
        generalize wr.alloc (.cells #[.slice A2 yi.length c2, .string yd] 62) = W3 at HT ⊢
        have HP3 : Aside0 (W3.heap[Bp]? = some (.cells #[.slice (some ap) p.f0.length c9, .string p.f1] 62 (0, 0)) ∧ SLI W3 (.slice (some ap) p.f0.length c9) p.f0 ∧ ER W3 W.heap.size (.slice (some ⟨g6, 0, none⟩) out.length c6) M ∧ Below W.heap.size W W3 ∧ W3.cell? ap = some (.int .i64 hp0)) := ⟨blk_below HA.out.2.1 HT.out.1, HA.out.2.2.1.frame (Num3.below HT.out.1), HA.out.2.2.2.1.below HT.out.1, below_step HA.out.2.2.2.2.1 HT.out.1, pw_cell_below HT.out.1 HA.out.2.2.2.2.2⟩
        have HY3 := jo (HY.out.2.1.frame (Num3.below HT.out.1))
        have HC27 : Aside0 (∀ W', Below W3.heap.size W3 W' → Calls Tryz.prog 27 #[.slice A2 yi.length c2, .int .i64 hp0] W' fun e w' => e = .returned (.bool (decide (hp0 ∈ yi))) ∧ Below W'.heap.size W' w') := ⟨fun W' hW => contains_ok W' (Kd.C_below (Kd.C_below HY.out.2.2.1 HT.out.1) hW) HY.out.2.2.2 (Nat.lt_of_le_of_lt (Nat.le_trans (rowOk_len HY.out.1.1) HLN.out.1) (by decide))⟩
        generalize wr.heap.size = Bg at HT ⊢
        have HTB := jo HT.out.2
        have z0 : W3.drew.cell? ⟨Bg, 0, none⟩ = some (.slice A2 yi.length c2) := blk_cell HT.out.2 0
        have z1 : W3.drew.cell? ⟨Bp, 0, none⟩ = some (.slice (some ap) p.f0.length c9) := blk_cell HP3.out.1 0
        have z2 : W3.drew.cell? ap = some (.int .i64 hp0) := HP3.out.2.2.2.2
        clear HT HA x1 x2 x3 wk0
        have hpl := HPP.out.1
        go_wp2
        refine st_ (S := fun w' => w'.cell? ⟨Bg, 0, none⟩ = some (.slice A2 yi.length c2) ∧ w'.cell? ⟨Bp, 0, none⟩ = some (.slice (some ap) p.f0.length c9) ∧ w'.cell? ap = some (.int .i64 hp0)) (ds := []) 7 ⟨z0, z1, z2⟩ (fun hHeld => ?_)
        refine td_ [0, 2] ?_
        repeat (first | refine pp_ ?_ | refine po_ ?_)
        refine tn_ ?_
        refine td_ [1, 3] ?_
        repeat (refine pt_ hHeld ?_)
        refine tn_ ?_
        refine td_ [4] ?_
        repeat (first | refine pp_ ?_ | refine po_ ?_)
        refine tn_ ?_
        refine td_ [5] ?_
        repeat (refine pt_ hHeld ?_)
        refine tn_ ?_
        refine on_ 6 (fun K hK => ?_)
        refine gs_ Tryz.func27 #[.slice A2 yi.length c2, .int .i64 hp0] ?_
        with_reducible refine ((HC27.out _ (below_drew (Below.refl _ _)))).mono ?_
        rintro e w6 ⟨rfl, hb6⟩
        refine ⟨_, rfl, ?_⟩
        have H6 := jo (below_step (below_drew (Below.refl W3.heap.size W3)) hb6)
        have y0 := pw_cell_below hb6 hHeld.1
        have y1 := pw_cell_below hb6 hHeld.2.1
        have y2 := pw_cell_below hb6 hHeld.2.2
        clear hb6
        refine hK.out _ _ ⟨y0, y1, y2⟩ (fun hHeld => ?_)
        clear hK K
        refine nm_ (some 58) ?_
        refine dn_ ?_
        have HP6 : Aside0 (w6.heap[Bp]? = some (.cells #[.slice (some ap) p.f0.length c9, .string p.f1] 62 (0, 0)) ∧ SLI w6 (.slice (some ap) p.f0.length c9) p.f0 ∧ ER w6 W.heap.size (.slice (some ⟨g6, 0, none⟩) out.length c6) M ∧ Below W.heap.size W w6 ∧ w6.cell? ap = some (.int .i64 hp0)) := ⟨blk_below HP3.out.1 H6.out, HP3.out.2.1.frame (Num3.below H6.out), HP3.out.2.2.1.below H6.out, below_step HP3.out.2.2.2.1 H6.out, pw_cell_below H6.out HP3.out.2.2.2.2⟩
        by_cases hm : hp0 ∈ yi
        ·have dm : decide (hp0 ∈ yi) = true := decide_eq_true hm
         have HE : Aside0 (elimE p ⟨yi, yd⟩ = addF ⟨yi, yd⟩ p) := ⟨by unfold elimE; rw [if_pos (by rw [← HHP.out]; exact hm)]⟩
         have HC28 := jo (add_ok (W := w6) HLN.out.1 HY.out.1 HQA.out.1 (HY3.out.frame (Num3.below H6.out)) HP6.out.2.1)
         have q0 : w6.cell? ⟨Bp, 0, none⟩ = some (.slice (some ap) p.f0.length c9) := blk_cell HP6.out.1 0
         have q1 : w6.cell? ⟨Bp, 1, none⟩ = some (.string p.f1) := blk_cell HP6.out.1 1
         have hbg := blk_below HTB.out H6.out
         have q2 : w6.cell? ⟨Bg, 0, none⟩ = some (.slice A2 yi.length c2) := blk_cell hbg 0
         have q3 : w6.cell? ⟨Bg, 1, none⟩ = some (.string yd) := blk_cell hbg 1
         clear hbg hHeld y0 y1 y2 z0 z1 z2 hpl
         go_wp2_with (first | (go_at_call 28; (with_reducible refine HC28.out.mono ?_); rintro e w7 ⟨v7, rfl, hs7, hb7⟩; obtain ⟨A7, c7, e7, _, _⟩ := hs7.reads; subst e7; have H7 := jo (And.intro hs7 hb7); obtain ⟨g7, cap7, u7, e7', _, _, q4, q5, q6, cells7, _⟩ := (HP6.out.2.2.1.below hb7).get (i := k) (by rw [HSN.out.2.2]; exact hlt); injection e7' with e7a e7n e7b; injection e7a with e7a; injection e7a with e7a; subst e7a e7b; clear e7n hs7 hb7 q0 q1 q2 q3))
         go_roundg gq
         case measure => exact Nat.lt_succ_self _
         case rel =>
          have hER7 := HP6.out.2.2.1.below H7.out.2
          obtain ⟨hg6, cells, hcg⟩ := hER7.block g6 rfl
          have hn3 := Num3.sets hcg (by decide) (k * 2) [.slice A7 (addF ⟨yi, yd⟩ p).f0.length c7, .string (addF ⟨yi, yd⟩ p).f1]
          have hE : ER w7 W.heap.size (.slice (some ⟨g6, 0, none⟩) M.length c6) M := by rw [HSN.out.2.2]; exact hER7
          have hp := hE.put (i := k) (by rw [HSN.out.2.2]; exact hlt) (f := addF ⟨yi, yd⟩ p) ⟨_, rfl, H7.out.1⟩
          rw [HSN.out.2.2] at hp
          have hs9 := (HP6.out.2.1.frame (Num3.below H7.out.2)).frame hn3
          refine ⟨k + 1, congrArg (Value.int .i64) (w64s HKM1.out), ⟨hkk.out, ?_, hs9, ?_, ?_, ?_⟩⟩
          ·exact (show (w7.setCells g6 (k * 2) [.slice A7 (addF ⟨yi, yd⟩ p).f0.length c7, .string (addF ⟨yi, yd⟩ p).f1]).heap[Bp]? = _ from heap_setCells (HI.out.2.2.2.1 g6 rfl) _ _ _).trans (blk_below HP6.out.1 H7.out.2)
          ·rw [HSN.out.1, HE.out]
           exact hp
          ·exact (show Below W.heap.size W (w7.setCells g6 (k * 2) [.slice A7 (addF ⟨yi, yd⟩ p).f0.length c7, .string (addF ⟨yi, yd⟩ p).f1]) from below_setCells hg6 _ _ _ (below_step HP6.out.2.2.2.1 H7.out.2))
          ·rw [HHP.out]
           exact SLI_head hs9 HPP.out.1
        ·have dm : decide (hp0 ∈ yi) = false := decide_eq_false hm
         have HE : Aside0 (elimE p ⟨yi, yd⟩ = ⟨yi, yd⟩) := ⟨by unfold elimE; rw [if_neg (by rw [← HHP.out]; exact hm)]⟩
         clear hHeld y0 y1 y2 z0 z1 z2 hpl
         go_wp2
         go_roundg gq
         case measure => exact Nat.lt_succ_self _
         case rel =>
          refine ⟨k + 1, congrArg (Value.int .i64) (w64s HKM1.out), ⟨hkk.out, HP6.out.1, HP6.out.2.1, ?_, HP6.out.2.2.2⟩⟩
          obtain ⟨hk, ek⟩ := HSN.out.2.1
          rw [HSN.out.1, HE.out, ← ek, List.set_getElem_self]
          exact HP6.out.2.2.1
       ·have d1 : decide ((k : Int) < (out.length : Int)) = false := decide_eq_false (fun e => hlt (Int.ofNat_lt.1 e))
        have d2 : decide (k < out.length) = false := decide_eq_false hlt
        have e1 : k = out.length := kk_end HA.out.1 hlt
        have ha := HA.out.2
        rw [e1, List.take_length, List.drop_length, List.append_nil] at ha
        have HB := jo ha
        clear HA ha e1 hlt
        have z0 : wr.cell? ⟨Bp, 0, none⟩ = some (.slice (some ap) p.f0.length c9) := blk_cell HB.out.1 0
        have z1 : wr.cell? ⟨Bp, 1, none⟩ = some (.string p.f1) := blk_cell HB.out.1 1
        go_wp2_with (first | ((with_reducible refine gate_builtin (b := .append) (xs := #[.tmp 66, .tmp 68]) rfl ?_); at_builtin; refine ER_append (w0 := W) W.heap.size rfl (.tmp 66) (.tmp 68) 37 _ 40 rfl Tryz.underlying37 info62 rfl (by decide) (.slice A6 out.length c6) (out.map (elimE p)) p [.slice (some ap) p.f0.length c9, .string p.f1] rfl rfl ⟨_, rfl, HB.out.2.1⟩ HB.out.2.2.1 HB.out.2.2.2.1 HB.out.2.2.2.1.size (by rw [List.length_map]; exact lens48 (Nat.le_trans HI.out.2.2.1 (by decide))) ?_; intro v9 w9 ho hb hn9 hg hat; have R9 := jo (And.intro ho hb); clear ho hb hn9 hg hat))
        go_roundg gq0
        case measure => exact Nat.lt_succ_self _
        case rel => exact ⟨k0 + 1, _, congrArg (Value.int .i64) (w64s HKM.out), ⟨hkk0.out, R9.out.1, R9.out.2, HI.out.1.step HQA.out.1 HPP.out.2 HQA.out.2, by rw [List.length_append, List.length_map]; exact Nat.succ_le_succ HRD.out.1, HR2.out⟩⟩
  ·have d1 : decide ((k0 : Int) < (L.length : Int)) = false := decide_eq_false (fun e => hlt (Int.ofNat_lt.1 e))
   have d2 : decide (k0 < L.length) = false := decide_eq_false hlt
   have e1 : k0 = L.length := kk_end HA.out.1 hlt
   have ha := HA.out.2
   rw [e1, List.drop_length] at ha
   have HB := jo ha
   clear HA ha e1 hlt
   go_wp2
   go_ret2
   have h9 := HB.out.2.2.2.2
   unfold redE at h9
   injection h9 with h9
   exact ⟨_, rfl, by rw [← h9]; exact HB.out.1, HB.out.2.1⟩
end Go.Proofs.YtjmooillogojkaaGreat.Q
