/- Printed by a changed copy of a printer, shortened by a program: what these functions answer: inact_rows. No condition. -/
import Derived.Test.YtjmooillogojkaaGreatM05
set_option maxHeartbeats 8000000
set_option maxRecDepth 100000
set_option linter.unusedVariables false
set_option linter.unusedSimpArgs false
namespace Go.Proofs.YtjmooillogojkaaGreat.Q
open Go.RowKit Go.Proofs.YtjmooillogojkaaGreatW.PrintWords Go.Proofs.YtjmooillogojkaaGreatW.PrintLast Go.Proofs.YtjmooillogojkaaGreatW.PrintMore
open Go.Proofs.YtjmooillogojkaaGreat
def inact_rows.l0 : Nat → List (List Int) → List (S62) → Int → Int → Option ((List (List Int)))
 | 0, _, _, _, _ => none
 | k + 1, x3, x6, x7, x8 => if x8 < x7 then (if 0 ≤ x8 then (if x8 < (x6.length : Int) then (if x3.length < 5864062014805 then (inact_rows.l0 k (x3 ++ [(rd_T62 x6 x8).f0]) x6 x7 (wrap64 (x8 + 1))) else (none)) else (none)) else (none)) else (some x3)
def inact_rows.f (k : Nat) (l0 : List (S62)) : Option ((List (List Int))) := inact_rows.l0 k ([] : List (List Int)) l0 (l0.length : Int) 0
theorem inact_rows.calls (k : Nat) (P0_ : Nat → Prop) (A0 : Option Addr) (c0 : Nat) (l0 : List (S62)) (r : List (List Int)) (w : World) (hs0 : Kd.V k62 62 w w.heap.size (fun k_ => P0_ k_) (.slice A0 l0.length c0) l0) (h : inact_rows.f k l0 = some r) :
  Calls Tryz.prog 61 #[.slice A0 l0.length c0] w fun e w' => ∃ v0_ : Value, e = .returned (v0_) ∧ Kd.N (Kd.slice 3 (Kd.int .i64)) 44 w' w.heap.size (fun k_ => (P0_ k_ ∨ w.heap.size ≤ k_)) v0_ r ∧ Below w.heap.size w w' := by
 have hu62 := Tryz.underlying62
 have HO0 := jo (show Kd.V k62 62 w w.heap.size (fun k_ => (P0_ k_ ∨ w.heap.size ≤ k_)) (.slice A0 l0.length c0) l0 from Kd.V_mono hs0 (fun k_ hk => .inl hk))
 have HB := jo (Below.refl w.heap.size w)
 have H : (inact_rows.l0 k ([] : List (List Int)) l0 (l0.length : Int) 0) = some r := h
 clear h
 have H' := jo H
 clear H
 go_enter Tryz.func61, Tryz.ntmps61
 go_wp2
 go_loopg [3, 8] k (fun kq v3 v8 w' => ∃ (x3_1 : List (List Int)) (x8_1 : Int), v8 = .int .i64 x8_1 ∧ Aside0 (inact_rows.l0 kq x3_1 l0 (l0.length : Int) x8_1 = some r) ∧ Aside0 (kq ≤ k) ∧ Aside0 (Kd.N (Kd.slice 3 (Kd.int .i64)) 44 w' w.heap.size (fun k_ => (P0_ k_ ∨ w.heap.size ≤ k_)) v3 x3_1) ∧ Aside0 (Kd.V k62 62 w' w.heap.size (fun k_ => (P0_ k_ ∨ w.heap.size ≤ k_) ∧ some k_ ≠ (v3 : Value).ownBlock) (.slice A0 l0.length c0) l0) ∧ Aside0 (Below w.heap.size w w'))
 case atStart => exact ⟨(([] : List (List Int))), (0), js, H', ⟨Nat.le_refl _⟩, ⟨by first | exact Kd.S_nil _ _ _ _ _ | exact Kd.N_nil _ _ _ _ _ | exact Kd.V_nil _ _ _ _ _ | exact Kd.Q_nil _ _ _ _ _ | exact Kd.R_nil _ _ _ _ _⟩, ⟨by (with_reducible repeat (first | apply Kd.V_alloc | apply Kd.V_drewN | apply Kd.V_drew)); exact Kd.V_mono HO0.out (fun _ hk => ⟨hk, (by simp [Value.ownBlock])⟩)⟩, ⟨jb⟩⟩
 case round =>
  clear H'
  obtain ⟨x3_1, x8_1, rfl, HA, HK1, HO_3, HO_6, HB⟩ := hrel
  cases gk with
  | zero => exact absurd HA.out (by simp [inact_rows.l0])
  | succ k1 =>
   have H := HA.out
   clear HA
   simp only [inact_rows.l0] at H
   by_cases c2 : x8_1 < (l0.length : Int)
   ·rw [if_pos c2] at H
    have c2b0 : decide (x8_1 < (l0.length : Int)) = true := decide_eq_true c2
    clear c2
    by_cases c3 : 0 ≤ x8_1
    ·rw [if_pos c3] at H
     have c3b0 : decide (0 ≤ x8_1) = true := decide_eq_true c3
     clear c3
     by_cases c4 : x8_1 < (l0.length : Int)
     ·rw [if_pos c4] at H
      have c4b0 : decide (x8_1 < (l0.length : Int)) = true := decide_eq_true c4
      clear c4
      by_cases c5 : x3_1.length < 5864062014805
      ·rw [if_pos c5] at H
       have LMc5 := jo c5
       clear c5
       obtain ⟨y466, hy466⟩ : ∃ y_ : List (List Int), y_ = (x3_1 ++ [(rd_T62 l0 x8_1).f0]) := ⟨_, rfl⟩
       replace H : (inact_rows.l0 k1 y466 l0 (l0.length : Int) (wrap64 (x8_1 + 1))) = some r := by first | (rw [hy466]; with_reducible exact H) | (have H2_ := (Option.bind_some _ _).symm.trans H; rw [hy466]; with_reducible exact H2_) | (have H2_ := (Option.bind_some _ _).symm.trans H; with_reducible exact H2_) | with_reducible exact H | (rw [hy466]; exact H) | exact H
       have Ny466 := jo hy466
       clear hy466
       have H' := jo H
       clear H
       have p464 : 0 ≤ (x8_1 : Int) := of_decide_eq_true ja
       have q464 : x8_1 < (l0.length : Int) := of_decide_eq_true ja
       obtain ⟨ad464, A464_0, c464_0, e464, hx464_0, hx464_1, hl464_0, hi464_0⟩ := at_T62 (Kd.V_reads' HO_6.out).2.2 x8_1 p464 q464
       cases e464
       obtain ⟨ce464, hce464, hMe464, hcc464⟩ := Kd.V_get HO_6.out z62 x8_1 p464 (by first | exact q464 | exact of_decide_eq_true ja | (have e_ := (Kd.V_reads' HO_6.out).1; omega))
       obtain ⟨ua464_0, uc464_0, rfl, ul464_0, ge464_0⟩ := k62_openF hMe464
       have hv464_0 := hcc464 0 _ rfl
       rw [Nat.add_zero] at hv464_0
       replace hv464_0 := Option.some.inj (hv464_0.symm.trans hx464_0)
       injection hv464_0 with hva_ hvn_ hvc_
       rw [hva_] at ge464_0
       rw [hvc_] at ul464_0
       have HL464_0 := jo (show Kd.V (Kd.int .i64) 3 _ w.heap.size _ _ ((rd_T62 l0 x8_1).f0) from Kd.V_mk ul464_0 ge464_0)
       clear hva_ hvn_ hvc_ ge464_0 ul464_0
       clear hcc464 hce464
       have HR464_0 := jo hi464_0
       have HC464_0 := jo hl464_0
       clear hi464_0 hl464_0
       replace p464 := eq_true p464
       replace q464 := eq_true q464
       go_wp2_with (first | ((with_reducible refine gate_dst (N := 5) rfl ?_); refine box_event ?hg (N := 5) ?hd (cs := #[.slice none 0 0, .string (⟨#[]⟩ : ByteArray)]) (t := 62) ?hr ?_; (case hd => rfl); (case hg => rfl); (case hr => first | (go_simp; done) | (go_simp; rfl)); intro gb465 hg w6 hbox hb; have n0_ := jo (Kd.N_below (Kd.N_elderB (by (with_reducible repeat (first | apply Kd.N_alloc | apply Kd.N_drewN | apply Kd.N_drew)); exact HO_3.out) gb465 (Nat.le_of_eq hg.symm)) hb); have n1_ := jo (Kd.V_below (Kd.V_elderB (by (with_reducible repeat (first | apply Kd.V_alloc | apply Kd.V_drewN | apply Kd.V_drew)); exact HO_6.out) gb465 (Nat.le_of_eq hg.symm)) hb); have n2_ := jo (Kd.V_below (Kd.V_elderB (by (with_reducible repeat (first | apply Kd.V_alloc | apply Kd.V_drewN | apply Kd.V_drew)); exact HL464_0.out) gb465 (Nat.le_of_eq hg.symm)) hb); have n3_ := jo (Kd.C_below (by repeat (first | (with_reducible exact HR464_0.out) | (with_reducible refine Kd.C_alloc ?_ _) | (with_reducible refine Kd.C_drewN ?_ _) | (with_reducible refine Kd.C_drew ?_) | exact HR464_0.out)) hb); have n4_ := jo (below_step jb hb); have n5_ := jo (hbox); have n6_ := jo ((by rw [hg]; exact (below_size jb) : w.heap.size ≤ gb465)); have n7_ := jo ((by rw [hg]; exact (below_size jb) : w.heap.size ≤ gb465)); clear HO_3; clear HO_6; clear HL464_0; clear HR464_0; clear HB; have HO_3 := n0_; have HO_6 := n1_; have HL464_0 := n2_; have HR464_0 := n3_; have HB := n4_; have BK465 := n5_; have GW465 := n6_; have GE465 := n7_; clear n0_ n1_ n2_ n3_ n4_ n5_ n6_ n7_; clear hb hbox hg; have hcz7_0 := fun i => blk_cell BK465.out i; have hfz7_0 := fun i => blk_frozen BK465.out i) | ((with_reducible refine gate_store (t := 62) (p := 5) rfl ?_); refine store_event (t := 62) (p := 5) (v := ?vo_w8) (w1 := ((w6.setCell ⟨gb465, 0, none⟩ (.slice A464_0 ((rd_T62 l0 x8_1).f0).length c464_0)).setCell ⟨gb465, 1, none⟩ (.string ((rd_T62 l0 x8_1).f1)))) ?hg ?ho ?hn ?hr ?_; (case ho => rfl); (case hg => rfl); (case hn => rfl); (case hr => first | (go_simp; done) | (go_simp; rfl)); intro w8 hw; have n0_ : Aside0 (Kd.N (Kd.slice 3 (Kd.int .i64)) 44 w8 w.heap.size (fun k_ => (P0_ k_ ∨ w.heap.size ≤ k_) ∧ k_ ≠ gb465) u3 x3_1) := ⟨(by rw [hw]; exact (by (with_reducible repeat (first | apply Kd.N_alloc | apply Kd.N_drewN | apply Kd.N_drew)); exact Kd.N_mono (Kd.N_far (p := ⟨gb465, 1, none⟩) (Kd.N_far (p := ⟨gb465, 0, none⟩) (Kd.N_mono HO_3.out (fun k_ hk => (⟨hk, hk.2⟩ : _ ∧ k_ ≠ gb465))) (fun _ hk => hk.2) (.slice A464_0 ((rd_T62 l0 x8_1).f0).length c464_0)) (fun _ hk => hk.2) (.string ((rd_T62 l0 x8_1).f1))) (fun _ hk => ⟨hk.1.1, hk.1.2⟩)))⟩; have n1_ : Aside0 (Kd.V k62 62 w8 w.heap.size (fun k_ => (P0_ k_ ∨ w.heap.size ≤ k_) ∧ some k_ ≠ (u3 : Value).ownBlock ∧ k_ ≠ gb465) (.slice (some ad464) l0.length c0) l0) := ⟨(by rw [hw]; exact (by (with_reducible repeat (first | apply Kd.V_alloc | apply Kd.V_drewN | apply Kd.V_drew)); exact Kd.V_mono (Kd.V_far (p := ⟨gb465, 1, none⟩) (Kd.V_far (p := ⟨gb465, 0, none⟩) (Kd.V_mono HO_6.out (fun k_ hk => (⟨hk, hk.2⟩ : _ ∧ k_ ≠ gb465))) (fun _ hk => hk.2) (.slice A464_0 ((rd_T62 l0 x8_1).f0).length c464_0)) (fun _ hk => hk.2) (.string ((rd_T62 l0 x8_1).f1))) (fun _ hk => ⟨hk.1.1.1, ⟨hk.1.1.2, hk.1.2⟩⟩)))⟩; have n2_ : Aside0 (Kd.V (Kd.int .i64) 3 w8 w.heap.size (fun k_ => (P0_ k_ ∨ w.heap.size ≤ k_) ∧ some k_ ≠ (u3 : Value).ownBlock ∧ k_ ≠ gb465) (.slice A464_0 ((rd_T62 l0 x8_1).f0).length c464_0) ((rd_T62 l0 x8_1).f0)) := ⟨(by rw [hw]; exact (by (with_reducible repeat (first | apply Kd.V_alloc | apply Kd.V_drewN | apply Kd.V_drew)); exact Kd.V_mono (Kd.V_far (p := ⟨gb465, 1, none⟩) (Kd.V_far (p := ⟨gb465, 0, none⟩) (Kd.V_mono HL464_0.out (fun k_ hk => (⟨hk, hk.2⟩ : _ ∧ k_ ≠ gb465))) (fun _ hk => hk.2) (.slice A464_0 ((rd_T62 l0 x8_1).f0).length c464_0)) (fun _ hk => hk.2) (.string ((rd_T62 l0 x8_1).f1))) (fun _ hk => ⟨hk.1.1.1, ⟨hk.1.1.2, hk.1.2⟩⟩)))⟩; have n3_ : Aside0 (w8.heap[gb465]? = some (.cells #[.slice A464_0 ((rd_T62 l0 x8_1).f0).length c464_0, .string ((rd_T62 l0 x8_1).f1)] 62 (0, 0))) := ⟨(by rw [hw]; exact (by (with_reducible repeat (first | refine blk_drewN ?_ _ | refine blk_drew ?_ | refine blk_alloc ?_ _)); refine blk_put (cs := #[.slice A464_0 ((rd_T62 l0 x8_1).f0).length c464_0, .string (⟨#[]⟩ : ByteArray)]) ?_ 1 _ rfl; (with_reducible repeat (first | refine blk_drewN ?_ _ | refine blk_drew ?_ | refine blk_alloc ?_ _)); refine blk_put (cs := #[.slice none 0 0, .string (⟨#[]⟩ : ByteArray)]) ?_ 0 _ rfl; (with_reducible repeat (first | refine blk_drewN ?_ _ | refine blk_drew ?_ | refine blk_alloc ?_ _)); exact BK465.out))⟩; have n4_ : Aside0 (Below w.heap.size w w8) := ⟨(by rw [hw]; exact jb)⟩; clear hw; clear HO_3; clear HO_6; clear HL464_0; clear BK465; clear HB; have HO_3 := n0_; have HO_6 := n1_; have HL464_0 := n2_; have BK465 := n3_; have HB := n4_; clear n0_ n1_ n2_ n3_ n4_; have hcz9_0 := fun i => blk_cell BK465.out i; have hfz9_0 := fun i => blk_frozen BK465.out i) | ((with_reducible refine gate_builtin (b := .append) (xs := #[.tmp 12, .tmp 15]) rfl ?_); at_builtin; refine Kd.N_append (Kd.slice 3 (Kd.int .i64)) (w0 := w) w.heap.size rfl (.tmp 12) (.tmp 15) 38 44 (.slice none 0 0) 24 rfl Tryz.underlying38 info44 rfl (by decide) (by omega) u3 x3_1 ((rd_T62 l0 x8_1).f0) [.slice A464_0 ((rd_T62 l0 x8_1).f0).length c464_0] (fun k_ => (P0_ k_ ∨ w.heap.size ≤ k_) ∧ k_ ≠ gb465) (fun k_ => ((fun k_ => (P0_ k_ ∨ w.heap.size ≤ k_) ∧ k_ ≠ gb465)) k_ ∧ some k_ ≠ (u3 : Value).ownBlock) rfl rfl ?aP (fun _ hk => hk) ?aF ?aO ?aB ?aS ?aL ?_; (case aP => exact (Kd.FK_slice_mk (Kd.V_reads' (Kd.V_mono (ok' := (fun k_ => ((fun k_ => (P0_ k_ ∨ w.heap.size ≤ k_) ∧ k_ ≠ gb465)) k_ ∧ some k_ ≠ (u3 : Value).ownBlock)) (HL464_0.out) (fun k_ hk => ⟨⟨hk.1, hk.2.2⟩, hk.2.1⟩))).2.1 (Kd.V_F (Kd.V_mono (ok' := (fun k_ => ((fun k_ => (P0_ k_ ∨ w.heap.size ≤ k_) ∧ k_ ≠ gb465)) k_ ∧ some k_ ≠ (u3 : Value).ownBlock)) (HL464_0.out) (fun k_ hk => ⟨⟨hk.1, hk.2.2⟩, hk.2.1⟩))))); (case aB => exact jb); (case aF => exact (fun k_ hk => ⟨(.inr (Nat.le_trans (below_size jb) hk)), Kd.freshB (g := gb465) (o := .cells #[.slice A464_0 ((rd_T62 l0 x8_1).f0).length c464_0, .string ((rd_T62 l0 x8_1).f1)] 62 (0, 0)) (jk BK465.out) k_ hk⟩)); (case aO => exact (by (with_reducible repeat (first | apply Kd.N_alloc | apply Kd.N_drewN | apply Kd.N_drew)); exact HO_3.out)); (case aS => exact (below_size jb)); (case aL => have := LMc5.out; omega); intro v467 w10 ho hb hg hat; rw [← Ny466.out] at ho; have n0_ := jo (Kd.V_afterv (ok := (fun k_ => (P0_ k_ ∨ w.heap.size ≤ k_) ∧ k_ ≠ gb465)) (by (with_reducible repeat (first | apply Kd.V_alloc | apply Kd.V_drewN | apply Kd.V_drew)); exact Kd.V_mono HO_6.out (fun _ hk => ⟨⟨hk.1, hk.2.2⟩, hk.2.1⟩)) hg hat); have n1_ := jo (Kd.V_afterv (ok := (fun k_ => (P0_ k_ ∨ w.heap.size ≤ k_) ∧ k_ ≠ gb465)) (by (with_reducible repeat (first | apply Kd.V_alloc | apply Kd.V_drewN | apply Kd.V_drew)); exact Kd.V_mono HL464_0.out (fun _ hk => ⟨⟨hk.1, hk.2.2⟩, hk.2.1⟩)) hg hat); have n2_ := jo (blk_grown (g := gb465) (o := .cells #[.slice A464_0 ((rd_T62 l0 x8_1).f0).length c464_0, .string ((rd_T62 l0 x8_1).f1)] 62 (0, 0)) (jk BK465.out) hg (Kd.N_ne HO_3.out BK465.out (by decide))); have n3_ := jo (hb); have n4_ := jo (ho); clear HO_6; clear HL464_0; clear BK465; clear HB; clear HO_3; have HO_6 := n0_; have HL464_0 := n1_; have BK465 := n2_; have HB := n3_; have HO468 := n4_; clear n0_ n1_ n2_ n3_ n4_; clear ho hb hg hat))
       go_roundg k1
       case measure => have := HK1.out; omega
       case rel => exact ⟨(y466), (wrap64 (x8_1 + 1)), js, H', ⟨by have := HK1.out; omega⟩, ⟨by (with_reducible repeat (first | apply Kd.N_alloc | apply Kd.N_drewN | apply Kd.N_drew)); exact Kd.N_mono HO468.out (fun _ hk => hk.1)⟩, ⟨by (with_reducible repeat (first | apply Kd.V_alloc | apply Kd.V_drewN | apply Kd.V_drew)); exact Kd.V_mono HO_6.out (fun _ hk => ⟨hk.1.1, hk.2⟩)⟩, ⟨jb⟩⟩
      ·rw [if_neg c5] at H
       exact absurd H (by simp)
     ·rw [if_neg c4] at H
      exact absurd H (by simp)
    ·rw [if_neg c3] at H
     exact absurd H (by simp)
   ·rw [if_neg c2] at H
    have c2b0 : decide (x8_1 < (l0.length : Int)) = false := decide_eq_false c2
    clear c2
    obtain rfl := Option.some.inj H
    go_wp2
    go_ret
    exact ⟨_, je, by (with_reducible repeat (first | apply Kd.N_alloc | apply Kd.N_drewN | apply Kd.N_drew)); exact HO_3.out, jb⟩
end Go.Proofs.YtjmooillogojkaaGreat.Q
