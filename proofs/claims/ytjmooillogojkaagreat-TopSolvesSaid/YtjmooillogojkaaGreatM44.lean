/- mosaictop.eqns walked: the rules and the check blocks of heads, as equations. No condition. -/
import Derived.Test.YtjmooillogojkaaGreatM42
import Derived.Test.YtjmooillogojkaaGreatM43
set_option maxHeartbeats 8000000
set_option maxRecDepth 100000
set_option linter.unusedVariables false
set_option linter.unusedSimpArgs false
namespace Go.Proofs.YtjmooillogojkaaGreat.Q
open Go.RowKit Go.Proofs.YtjmooillogojkaaGreatW.PrintWords Go.Proofs.YtjmooillogojkaaGreatW.PrintLast Go.Proofs.YtjmooillogojkaaGreatW.PrintMore
open Go.Proofs.YtjmooillogojkaaGreat Plain Deg
def hdOf (x : S36) : HD := ⟨x.f0, x.f1, x.f2⟩
def rulesOf (m : MF) : List (List Int) := rulF (joinsF m.seed m.A m.q) m.A.toNat m.N.toNat
def eqR (sz : Nat) (L : List (List Int)) : List S62 := L.map (fun r => ⟨r, zeros sz⟩)
def hdE (m : MF) (W : List ByteArray) (x : S36) : S62 := ⟨sortI (idxH m (hdOf x)), sumB m.size.toNat (getsL W (sortI (idxH m (hdOf x))))⟩
def eqH (m : MF) (W : List ByteArray) (l : List S36) : List S62 := (l.filter (fun x => decide (errH m (hdOf x) = 0))).map (hdE m W)
def eqL (m : MF) (W : List ByteArray) (H : List S36) : List S62 := eqR m.size.toNat (rulesOf m) ++ eqH m W (H.take 40)
theorem eqH_snoc (m : MF) (W : List ByteArray) (l : List S36) {i : Nat} (hi : i < l.length) : eqH m W (l.take (i + 1)) = eqH m W (l.take i) ++ if errH m (hdOf l[i]) = 0 then [hdE m W l[i]] else [] := by
 unfold eqH
 rw [List.take_succ_eq_append_getElem hi, List.filter_append, List.map_append]
 congr 1
 by_cases h : errH m (hdOf l[i]) = 0 <;> simp [h]
theorem eqH_len (m : MF) (W : List ByteArray) (l : List S36) : (eqH m W l).length ≤ l.length := by
 unfold eqH
 rw [List.length_map]
 exact List.length_filter_le _ _
theorem rulesOf_len (m : MF) : (rulesOf m).length = m.A.toNat := by simp [rulesOf, rulF]
theorem eqR_snoc (sz : Nat) (L : List (List Int)) {i : Nat} (hi : i < L.length) : eqR sz (L.take (i + 1)) = eqR sz (L.take i) ++ [⟨L[i], zeros sz⟩] := by
 unfold eqR
 rw [List.take_succ_eq_append_getElem hi, List.map_append]
 rfl
theorem eqns_ok {m : MF} {W bl : List ByteArray} (hp : Pub m W bl) {A1 A2 : Option Addr} {ca cb : Nat} {H : List S36} (w : World) (hr1 : Kd.C Kd.string w A1 W.length W) (hc1 : W.length ≤ ca) (hr2 : Kd.C k36 w A2 H.length H) (hc2 : H.length ≤ cb) (hh : ∀ x ∈ H, x.f2.size ≤ 100) :
  Calls Tryz.prog 6 #[m.v, .slice A1 W.length ca, .slice A2 H.length cb] w fun e w' => ∃ v1 v2, e = .returned (.tuple #[v1, v2, .bool true]) ∧ NR EqJ 62 2 w' w.heap.size v1 (eqL m W H) ∧ NR RowJ 44 1 w' w.heap.size v2 ((eqL m W H).map (·.f0)) ∧ Below w.heap.size w w' := by
 have hm := hp.may
 have hA := hm.A_le
 have hN := m.le
 have hN1 := hm.cnt
 have hsd := (seedB_iff _).1 hm.seed
 have hcd := (codeB_iff _ _ _ _).1 hm.code
 have HPL := jo (fun W => mplan_ok hm hp.root W)
 have HRU := jo (rules_spec (a0 := m.seed) (n := m.N.toNat) (a := m.A.toNat) (a3 := m.q) hsd.1 (by omega) (by omega) (by omega) (by omega) (by omega) (by omega) (by omega))
 rw [show ((m.N.toNat : Nat) : Int) = m.N by omega, show ((m.A.toNat : Nat) : Int) = m.A by omega] at HRU
 change Aside0 (outer_Rules.f 100000 m.seed m.N m.A m.q = some (rulesOf m, 0)) at HRU
 have HLE := jo (show (rulesOf m).length ≤ 64 by rw [rulesOf_len]; omega)
 have HE0 := jo (show (eqL m W H) = eqR m.size.toNat (rulesOf m) ++ eqH m W (H.take 40) from rfl)
 have HSZ : ∃ z : Nat, m.size = (z : Int) ∧ m.size.toNat = z ∧ 1 ≤ z ∧ z ≤ 64 := ⟨m.size.toNat, by have := hp.z1; omega, rfl, by have := hp.z1; omega, by have := hp.z2; omega⟩
 have HIN : Aside0 (∀ x ∈ H, (errH m (hdOf x) = 3 ∧ (∀ W0, Calls Tryz.prog 16 #[m.v, (hdOf x).v] W0 fun e w' => e = .returned (.tuple #[.slice none 0 0, .int .i64 3]) ∧ Below W0.heap.size W0 w') ∧ (∀ W0, Calls Tryz.prog 13 #[m.v, (hdOf x).v, .slice A1 W.length ca] W0 fun e w' => e = .returned (.tuple #[.string ⟨#[]⟩, .int .i64 3]) ∧ Below W0.heap.size W0 w')) ∨
   (errH m (hdOf x) = 0 ∧ (∀ W0, Calls Tryz.prog 16 #[m.v, (hdOf x).v] W0 fun e w' => ∃ v, e = .returned (.tuple #[v, .int .i64 0]) ∧ JR w' W0.heap.size v (hdE m W x).f0 ∧ Below W0.heap.size W0 w') ∧ (∀ W0, Below w.heap.size w W0 → Calls Tryz.prog 13 #[m.v, (hdOf x).v, .slice A1 W.length ca] W0 fun e w' => e = .returned (.tuple #[.string (hdE m W x).f1, .int .i64 0]) ∧ Below W0.heap.size W0 w'))) := ⟨fun x hx => by
  have hs : (hdOf x).have_.size ≤ 100 := hh x hx
  rcases (errH_spec hm hp.root (hdOf x) hs).2.1 with he | he
  ·exact .inr ⟨he, fun W0 => Index_yes hm hp.root hs he W0, fun W0 hb => Encode_yes hm hp.root hs he W0 (Kd.C_below hr1 hb) hc1 hp.len hp.z1 hp.z2 (fun s hs => by rw [hp.sz s hs]; have := hp.z1; omega)⟩
  ·exact .inl ⟨he, fun W0 => Index_no hm hp.root hs he W0, fun W0 => Encode_no hm hp.root hs he A1 ca W.length W0⟩⟩
 have HR2 := jo hr2
 have HC2 := jo hc2
 obtain ⟨z, hz, hzn, hz1, hz2⟩ := HSZ
 have HS0 := jo (fun i => eqH_snoc m W H (i := i))
 have HS1 := jo (fun i => eqH_len m W (H.take i))
 rw [hzn] at HE0
 generalize hEQ : eqL m W H = EL at HE0 ⊢
 generalize rulesOf m = RL at HRU HLE HE0
 clear hp hm hA hN hN1 hsd hcd hr1 hr2 hh hEQ hzn
 generalize hEH : eqH m W = EH at HE0 HS0 HS1
 clear hEH
 generalize hHE : hdE m W = HE at HIN HS0
 clear hHE
 generalize hER : errH m = ER at HIN HS0
 clear hER
 unfold MF.v at *
 generalize m.N = N at HPL HRU
 generalize m.A = A at HPL HRU
 obtain ⟨m0, m1, m2, m3, m4, m5, m6, m7⟩ := m
 simp only at *
 subst hz
 have HZ := jo (And.intro hz1 hz2)
 have b1 : Below w.heap.size w (w.alloc (.cells #[.int .i64 m0, .int .i64 (z : Int), .int .i64 m2, .int .i64 m3, .int .i64 m4, .int .i64 m5, .int .i64 m6, .string m7] 30)) := below_alloc (Below.refl _ _) _
 have k1 : (w.alloc (.cells #[.int .i64 m0, .int .i64 (z : Int), .int .i64 m2, .int .i64 m3, .int .i64 m4, .int .i64 m5, .int .i64 m6, .string m7] 30)).heap[w.heap.size]? = some (.cells #[.int .i64 m0, .int .i64 (z : Int), .int .i64 m2, .int .i64 m3, .int .i64 m4, .int .i64 m5, .int .i64 m6, .string m7] 30 (0, 0)) := blk_new w _
 go_enter Tryz.func6, Tryz.ntmps6
 go_wp2_with fail
 generalize w.alloc (.cells #[.int .i64 m0, .int .i64 (z : Int), .int .i64 m2, .int .i64 m3, .int .i64 m4, .int .i64 m5, .int .i64 m6, .string m7] 30) = W1 at b1 k1 ⊢
 with_reducible refine (HPL.out W1).mono ?_
 rintro e w2 ⟨rfl, hb2⟩
 have H2 := jo (And.intro (below_step b1 hb2) (blk_below k1 hb2))
 clear b1 k1 hb2 HPL
 go_wp2_with (first | ((with_reducible refine gate_store (t := 55) (p := 9) rfl ?_); refine store_arr rfl rfl rfl (vs := #[.int .i64 m2, .int .i64 N, .int .i64 A, .int .i64 m5]) rfl rfl (blk_new w2 _) (by simp) (by simp [Value.oneCell']) Tryz.sizeOf55 ?_; intro w3 hw3; have H3 : Aside0 (w3.heap[w2.heap.size]? = some (.cells #[.int .i64 m2, .int .i64 N, .int .i64 A, .int .i64 m5] 55 (0, 0)) ∧ w3.heap[w.heap.size]? = some (.cells #[.int .i64 m0, .int .i64 (z : Int), .int .i64 m2, .int .i64 m3, .int .i64 m4, .int .i64 m5, .int .i64 m6, .string m7] 30 (0, 0)) ∧ Below w.heap.size w w3) := ⟨by rw [hw3]; exact ⟨by rw [blk_setCells _ 0 _ _ (blk_new w2 _)]; rfl, (heap_setCells (by have := blk_lt H2.out.2; omega) _ 0 _).trans (blk_alloc H2.out.2 _), below_setCells (by have := blk_lt H2.out.2; omega) _ 0 _ (below_alloc H2.out.1 _)⟩⟩; clear hw3) | ((with_reducible refine gate_dst (N := 27) rfl ?_); refine load_event rfl (N := 27) rfl (t := 55) rfl (cs := #[.int .i64 m2, .int .i64 N, .int .i64 A, .int .i64 m5]) rfl (blk_cells H3.out.1) Tryz.isAgg55 Tryz.sizeOf55 ?_))
 with_reducible refine (outer_Rules.calls _ _ _ _ _ _ _ w3 HRU.out).mono ?_
 rintro e w4 ⟨v11, rfl, ho4, hb4⟩
 obtain ⟨A11, c11, e11⟩ := Kd.S_slice ho4
 subst e11
 have H4 := jo (And.intro (below_step H3.out.2.2 hb4) (And.intro (blk_below H3.out.2.1 hb4) (NR.lower (RJ_of_S ho4) H3.out.2.2.size)))
 clear ho4 hb4 H3 H2
 go_wp2
 have hHA : Aside0 (NR EqJ 62 2 w4 w.heap.size (.slice none 0 0) (eqR z (RL.take 0))) := ⟨NR.nil _ _ _ _ _⟩
 go_loopg [13, 14] RL.length (fun gk v13 v14 wr => ∃ i : Nat, v14 = .int .i64 i ∧ Aside0 (i + gk = RL.length ∧ NR EqJ 62 2 wr w.heap.size v13 (eqR z (RL.take i)) ∧ NR RowJ 44 1 wr w.heap.size (.slice A11 RL.length c11) RL ∧ Below w.heap.size w wr ∧ wr.heap[w.heap.size]? = some (.cells #[.int .i64 m0, .int .i64 (z : Int), .int .i64 m2, .int .i64 m3, .int .i64 m4, .int .i64 m5, .int .i64 m6, .string m7] 30 (0, 0))))
 case atStart => exact ⟨0, rfl, ⟨by omega, hHA.out, H4.out.2.2, H4.out.1, H4.out.2.1⟩⟩
 case round =>
  obtain ⟨i, rfl, HA⟩ := hrel
  clear hHA H4
  by_cases hlt : i < RL.length
  ·have a1 : decide ((i : Int) < (RL.length : Int)) = true := decide_eq_true (by omega)
   have a2 : decide (i < RL.length) = true := decide_eq_true hlt
   have a3 : (i : Int) < (RL.length : Int) := by omega
   obtain ⟨gq, rfl⟩ : ∃ q, gk = q + 1 := ⟨gk - 1, by have := HA.out.1; omega⟩
   obtain ⟨G11, cap11, u11, e11, hri, hcell⟩ := RJ_get HA.out.2.2.1 hlt
   injection e11 with e1 e2 e3
   subst e1
   clear e2 e3
   have hsn := eqR_snoc z RL hlt
   have HEL := jo (show (eqR z (RL.take i)).length ≤ 64 by unfold eqR; rw [List.length_map, List.length_take]; have := HLE.out; omega)
   obtain ⟨r11, hr11⟩ : ∃ r, r = RL[i] := ⟨_, rfl⟩
   rw [← hr11] at hri hsn
   clear hr11
   obtain ⟨Ar, cr, eu, _, _⟩ := hri.reads
   subst eu
   obtain ⟨A13, c13, e13⟩ := NR.slice HA.out.2.1
   subst e13
   have HRI := jo hri
   have HSN := jo hsn
   have HE1 := jo HA.out.2.1
   have HB := jo HA.out.2.2.2.1
   have f0 : wr.drew.cell? ⟨G11, i, none⟩ = some (.slice Ar r11.length cr) := hcell
   have f1 : wr.drew.cell? ⟨w.heap.size, 1, none⟩ = some (.int .i64 (z : Int)) := blk_cell HA.out.2.2.2.2 1
   have wi : wrap64 ((i : Int) + 1) = ((i + 1 : Nat) : Int) := Deg.w64 (by omega) (by have := HLE.out; omega)
   clear hri hsn hcell
   go_wp2
   refine st_ (S := fun w' => w'.cell? ⟨G11, i, none⟩ = some (.slice Ar r11.length cr) ∧ w'.cell? ⟨w.heap.size, 1, none⟩ = some (.int .i64 (z : Int))) (ds := [11]) 13 ⟨f0, f1⟩ (fun hHeld => ?_)
   refine td_ [0, 1, 2, 3, 5] ?_
   repeat (first | refine pp_ ?_ | refine po_ ?_)
   refine tn_ ?_
   refine td_ [4, 6] ?_
   repeat (refine pt_ hHeld ?_)
   refine tn_ ?_
   refine on_ 7 (fun K hK => ?_)
   refine Kd.R_make_step (Kd.int .u8) (w0 := wr) wr.heap.size 5 rfl (N := 50) rfl 60 _ _ rfl (z : Int) rfl rfl Tryz.underlying60 (.int .u8 0) 1 info5 rfl (by decide) (by omega) 0 (ok := fun _ => True) (okp := fun _ => True) rfl (fun _ hk => hk) trivial (by omega) (by rw [Int.toNat_natCast]; clear hHeld; omega) (below_drew (Below.refl _ _)) (below_drew (Below.refl wr.heap.size wr)).size ?_
   intro v50 w4 ho hb hg hat
   rw [Int.toNat_natCast] at ho
   obtain ⟨g50, c50, e50, hg50, h8⟩ := B8.ofR ho (by clear hHeld; omega)
   subst e50
   have hcv := h8.str (c := c50)
   rw [List.length_replicate, ← zeros_eq] at hcv
   have HCV := jo hcv
   have H4 := jo hb
   have z0 := pw_cell_below (below_grown0 hg) hHeld.1
   have z1 := pw_cell_below (below_grown0 hg) hHeld.2
   clear ho hb hg hat h8 hcv
   refine hK.out _ _ ⟨z0, z1⟩ (fun hHeld => ?_)
   clear hK K
   refine nm_ (some 50) ?_
   refine on_ 8 (fun K hK => ?_)
   have hcv := HCV.out
   refine value_ (w1 := w4) (v := .string (zeros z)) (by rfl) rfl ?_ ?_
   ·go_simp
    first | done | rfl
   clear hcv
   refine hK.out _ _ ⟨hHeld.1, hHeld.2⟩ (fun hHeld => ?_)
   clear hK K
   refine nm_ (some 51) ?_
   refine td_ [9] ?_
   repeat (first | refine pp_ ?_ | refine po_ ?_)
   refine tn_ ?_
   refine on_ 10 (fun K hK => ?_)
   refine value_ (w1 := w4.alloc (.cells [(.slice Ar r11.length cr), .string (zeros z)].toArray 62)) (v := .slice (some ⟨w4.heap.size, 0, none⟩) 1 1) rfl rfl ?_ ?_
   ·go_simp
    first | done | rfl
   refine hK.out _ _ ⟨(pw_cell_below (below_alloc (Below.refl _ _) _) hHeld.1), (pw_cell_below (below_alloc (Below.refl _ _) _) hHeld.2)⟩ (fun hHeld => ?_)
   clear hK K
   refine nm_ (some 53) ?_
   refine la_ 11 (fun K hK => ?_)
   have HEJ := jo (show EqJ w4 (⟨r11, zeros z⟩ : S62) [.slice Ar r11.length cr, .string (zeros z)] from ⟨_, rfl, HRI.out.frame (Num3.below H4.out)⟩)
   refine NR_append_step (R := EqJ) EqJ.frame (w0 := w) w.heap.size 2 rfl (.tmp 43) (.tmp 53) 37 62 _ 40 rfl Tryz.underlying37 info62 rfl (by decide) (by decide) (by decide) (.slice A13 (eqR z (RL.take i)).length c13) (eqR z (RL.take i)) ⟨r11, zeros z⟩ [(.slice Ar r11.length cr), .string (zeros z)] rfl rfl HEJ.out (EqJ.one HEJ.out) (EJ_below HE1.out H4.out) (below_step HB.out H4.out) (below_step HB.out H4.out).size (by have := HEL.out; clear hHeld; omega) ?_
   intro v54 w6 ho hb hn hg hat
   have R6 := jo (And.intro ho (And.intro hb (And.intro hn hg)))
   clear ho hb hn hg hat
   refine hK.out _ _ ?_
   clear hK K
   refine nm_ (some 54) ?_
   refine td_ [12] ?_
   repeat (first | refine pp_ ?_ | refine po_ ?_)
   refine tn_ ?_
   refine dn_ ?_
   clear f0 f1
   go_wp2
   go_roundg gq
   case measure => omega
   case rel => exact ⟨i + 1, congrArg (Value.int .i64) wi, ⟨by have := HA.out.1; clear R6; omega, by rw [HSN.out]; exact R6.out.1, RJ_grown (RJ_below HA.out.2.2.1 H4.out) (EJ_below HE1.out H4.out) R6.out.2.2.1 R6.out.2.2.2, R6.out.2.1, EJ_blk (EJ_below HE1.out H4.out) (blk_below HA.out.2.2.2.2 H4.out) R6.out.2.2.2⟩⟩
  ·have a1 : decide ((i : Int) < (RL.length : Int)) = false := decide_eq_false (by omega)
   have a2 : decide (i < RL.length) = false := decide_eq_false hlt
   have a3 : ¬ (i : Int) < (RL.length : Int) := by omega
   have hi : i = RL.length := by have := HA.out.1; omega
   subst hi
   have hA := HA.out
   rw [List.take_length] at hA
   obtain ⟨A13, c13, e13⟩ := NR.slice hA.2.1
   subst e13
   have HB1 := jo hA.2
   clear HA hA
   obtain ⟨q, hq⟩ : ∃ q, q = min 40 H.length := ⟨_, rfl⟩
   have HQ := jo hq
   clear hq
   have h00 : EH (H.take 0) = [] := List.eq_nil_of_length_eq_zero (by have := HS1.out 0; simpa using this)
   have H00 : Aside0 (eqR z RL = eqR z RL ++ EH (H.take 0) ∧ RL = (eqR z RL ++ EH (H.take 0)).map (·.f0)) := ⟨by rw [h00, List.append_nil], by rw [h00, List.append_nil]; unfold eqR; rw [List.map_map]; exact (List.map_id _).symm⟩
   clear h00
   go_wp2
   go_loopg [13, 15, 16] q (fun gk v13 v15 v16 wr => ∃ i : Nat, v16 = .int .i64 i ∧ Aside0 (i + gk = q ∧ NR EqJ 62 2 wr w.heap.size v13 (eqR z RL ++ EH (H.take i)) ∧ NR RowJ 44 1 wr w.heap.size v15 ((eqR z RL ++ EH (H.take i)).map (·.f0)) ∧ Below w.heap.size w wr ∧ wr.heap[w.heap.size]? = some (.cells #[.int .i64 m0, .int .i64 (z : Int), .int .i64 m2, .int .i64 m3, .int .i64 m4, .int .i64 m5, .int .i64 m6, .string m7] 30 (0, 0))))
   case atStart => exact ⟨0, rfl, ⟨by omega, by rw [← H00.out.1]; exact HB1.out.1, by rw [← H00.out.2]; exact HB1.out.2.1, HB1.out.2.2.1, HB1.out.2.2.2⟩⟩
   case round =>
    obtain ⟨i, rfl, HA⟩ := hrel
    clear HB1 H00
    obtain ⟨LI, hLI⟩ : ∃ l, l = eqR z RL ++ EH (H.take i) := ⟨_, rfl⟩
    rw [← hLI] at HA
    have HLI := jo hLI
    clear hLI
    obtain ⟨A13, c13, e13⟩ := NR.slice HA.out.2.1
    subst e13
    obtain ⟨A15, c15, e15⟩ := NR.slice HA.out.2.2.1
    rw [List.length_map] at e15
    subst e15
    by_cases hlt : i < q
    ·have hiH : i < H.length := by have := HQ.out; omega
     have a1 : decide ((i : Int) < (H.length : Int)) = true := decide_eq_true (by omega)
     have a2 : decide (i < H.length) = true := decide_eq_true hiH
     have a3 : (i : Int) < (H.length : Int) := by omega
     have a4 : decide ((i : Int) < 40) = true := decide_eq_true (by have := HQ.out; omega)
     have a5 : decide (i < 40) = true := decide_eq_true (by have := HQ.out; omega)
     obtain ⟨gq, rfl⟩ : ∃ q, gk = q + 1 := ⟨gk - 1, by have := HA.out.1; omega⟩
     obtain ⟨ah, eA, f0, f1, f2⟩ := at_T36 (Kd.C_below HR2.out HA.out.2.2.2.1) (i : Int) (by omega) a3
     subst eA
     have hrd : rd_T36 H (i : Int) = H[i] := by
      unfold rd_T36
      rw [Int.toNat_natCast, List.getD_eq_getElem?_getD, List.getElem?_eq_getElem hiH]
      rfl
     rw [hrd, Int.toNat_natCast] at f0 f1 f2
     have hsn := HS0.out i hiH
     have hin := HIN.out H[i] (List.getElem_mem hiH)
     have HLN := jo (show LI.length ≤ 104 by
      rw [HLI.out]
      have h1 := HS1.out i
      have h2 := HLE.out
      rw [List.length_append]
      unfold eqR
      rw [List.length_map]
      rw [List.length_take] at h1
      have := HQ.out
      omega)
     obtain ⟨x, hx⟩ : ∃ x, x = H[i] := ⟨_, rfl⟩
     rw [← hx] at f0 f1 f2 hsn hin
     clear hx hrd
     have HSN := jo hsn
     obtain ⟨g0, hg0⟩ : ∃ s, s = HE x := ⟨_, rfl⟩
     rw [← hg0] at hin HSN
     obtain ⟨ex, hex⟩ : ∃ e, e = ER (hdOf x) := ⟨_, rfl⟩
     rw [← hex] at hin HSN
     clear hg0 hex hsn
     unfold hdOf HD.v at hin
     obtain ⟨x0, x1, x2⟩ := x
     simp only at f0 f1 f2 hin
     replace f0 : wr.drew.cell? (ah.add (i * 3)) = some (.int .i64 x0) := f0
     replace f1 : wr.drew.cell? ⟨(ah.add (i * 3)).block, (ah.add (i * 3)).off + 1, none⟩ = some (.int .i64 x1) := f1
     replace f2 : wr.drew.cell? ⟨(ah.add (i * 3)).block, (ah.add (i * 3)).off + 2, none⟩ = some (.string x2) := f2
     have c0 : wr.drew.cell? ⟨w.heap.size, 0, none⟩ = some (.int .i64 m0) := blk_cell HA.out.2.2.2.2 0
     have c1 : wr.drew.cell? ⟨w.heap.size, 1, none⟩ = some (.int .i64 (z : Int)) := blk_cell HA.out.2.2.2.2 1
     have c2 : wr.drew.cell? ⟨w.heap.size, 2, none⟩ = some (.int .i64 m2) := blk_cell HA.out.2.2.2.2 2
     have c3 : wr.drew.cell? ⟨w.heap.size, 3, none⟩ = some (.int .i64 m3) := blk_cell HA.out.2.2.2.2 3
     have c4 : wr.drew.cell? ⟨w.heap.size, 4, none⟩ = some (.int .i64 m4) := blk_cell HA.out.2.2.2.2 4
     have c5 : wr.drew.cell? ⟨w.heap.size, 5, none⟩ = some (.int .i64 m5) := blk_cell HA.out.2.2.2.2 5
     have c6 : wr.drew.cell? ⟨w.heap.size, 6, none⟩ = some (.int .i64 m6) := blk_cell HA.out.2.2.2.2 6
     have c7 : wr.drew.cell? ⟨w.heap.size, 7, none⟩ = some (.string m7) := blk_cell HA.out.2.2.2.2 7
     have wi : wrap64 ((i : Int) + 1) = ((i + 1 : Nat) : Int) := Deg.w64 (by omega) (by have := HQ.out; omega)
     rcases hin with ⟨he, h16, h13⟩ | ⟨he, h16, h13⟩
     ·subst he
      have HIX := jo h16
      have HEN := jo h13
      have hsn := HSN.out
      rw [if_neg (by decide), List.append_nil] at hsn
      replace HSN := jo hsn
      clear h16 h13 hsn
      go_wp2
      refine st_ (S := fun w' => w'.cell? ⟨w.heap.size, 0, none⟩ = some (.int .i64 m0) ∧ w'.cell? ⟨w.heap.size, 1, none⟩ = some (.int .i64 (z : Int)) ∧ w'.cell? ⟨w.heap.size, 2, none⟩ = some (.int .i64 m2) ∧ w'.cell? ⟨w.heap.size, 3, none⟩ = some (.int .i64 m3) ∧ w'.cell? ⟨w.heap.size, 4, none⟩ = some (.int .i64 m4) ∧ w'.cell? ⟨w.heap.size, 5, none⟩ = some (.int .i64 m5) ∧ w'.cell? ⟨w.heap.size, 6, none⟩ = some (.int .i64 m6) ∧ w'.cell? ⟨w.heap.size, 7, none⟩ = some (.string m7) ∧ w'.cell? (ah.add (i * 3)) = some (.int .i64 x0) ∧ w'.cell? ⟨(ah.add (i * 3)).block, (ah.add (i * 3)).off + 1, none⟩ = some (.int .i64 x1) ∧ w'.cell? ⟨(ah.add (i * 3)).block, (ah.add (i * 3)).off + 2, none⟩ = some (.string x2)) (ds := [5]) 11 ⟨c0, c1, c2, c3, c4, c5, c6, c7, f0, f1, f2⟩ (fun hHeld => ?_)
      refine td_ [1, 2, 3] ?_
      repeat (first | refine pp_ ?_ | refine po_ ?_)
      refine tn_ ?_
      refine td_ [0, 4] ?_
      repeat (refine pt_ hHeld ?_)
      refine tn_ ?_
      refine la_ 5 (fun K hK => ?_)
      refine gs_ Tryz.func16 #[.agg #[.int .i64 m0, .int .i64 (z : Int), .int .i64 m2, .int .i64 m3, .int .i64 m4, .int .i64 m5, .int .i64 m6, .string m7], .agg #[.int .i64 x0, .int .i64 x1, .string x2]] ?_
      with_reducible refine ((HIX.out _)).mono ?_
      rintro e w4 ⟨rfl, hb4⟩
      refine ⟨_, rfl, ?_⟩
      have H4 := jo (below_step (below_drew (Below.refl wr.heap.size wr)) hb4)
      have z0 := pw_cell_below hb4 hHeld.1
      have z1 := pw_cell_below hb4 hHeld.2.1
      have z2 := pw_cell_below hb4 hHeld.2.2.1
      have z3 := pw_cell_below hb4 hHeld.2.2.2.1
      have z4 := pw_cell_below hb4 hHeld.2.2.2.2.1
      have z5 := pw_cell_below hb4 hHeld.2.2.2.2.2.1
      have z6 := pw_cell_below hb4 hHeld.2.2.2.2.2.2.1
      have z7 := pw_cell_below hb4 hHeld.2.2.2.2.2.2.2.1
      have z8 := pw_cell_below hb4 hHeld.2.2.2.2.2.2.2.2.1
      have z9 := pw_cell_below hb4 hHeld.2.2.2.2.2.2.2.2.2.1
      have z10 := pw_cell_below hb4 hHeld.2.2.2.2.2.2.2.2.2.2
      clear hb4
      refine hK.out _ _ ?_
      clear hK K
      refine nm_ (some 72) ?_
      refine td_ [6, 7, 8, 9, 10] ?_
      repeat (first | refine pp_ ?_ | refine po_ ?_)
      refine tn_ ?_
      refine dn_ ?_
      clear c0 c1 c2 c3 c4 c5 c6 c7 f0 f1 f2
      have c0 := z0; have c1 := z1; have c2 := z2; have c3 := z3; have c4 := z4; have c5 := z5; have c6 := z6; have c7 := z7; have f0 := z8; have f1 := z9; have f2 := z10
      clear z0 z1 z2 z3 z4 z5 z6 z7 z8 z9 z10
      go_wp2
      refine st_ (S := fun w' => w'.cell? ⟨w.heap.size, 0, none⟩ = some (.int .i64 m0) ∧ w'.cell? ⟨w.heap.size, 1, none⟩ = some (.int .i64 (z : Int)) ∧ w'.cell? ⟨w.heap.size, 2, none⟩ = some (.int .i64 m2) ∧ w'.cell? ⟨w.heap.size, 3, none⟩ = some (.int .i64 m3) ∧ w'.cell? ⟨w.heap.size, 4, none⟩ = some (.int .i64 m4) ∧ w'.cell? ⟨w.heap.size, 5, none⟩ = some (.int .i64 m5) ∧ w'.cell? ⟨w.heap.size, 6, none⟩ = some (.int .i64 m6) ∧ w'.cell? ⟨w.heap.size, 7, none⟩ = some (.string m7) ∧ w'.cell? (ah.add (i * 3)) = some (.int .i64 x0) ∧ w'.cell? ⟨(ah.add (i * 3)).block, (ah.add (i * 3)).off + 1, none⟩ = some (.int .i64 x1) ∧ w'.cell? ⟨(ah.add (i * 3)).block, (ah.add (i * 3)).off + 2, none⟩ = some (.string x2)) (ds := [6]) 12 ⟨c0, c1, c2, c3, c4, c5, c6, c7, f0, f1, f2⟩ (fun hHeld => ?_)
      refine td_ [1, 2, 3, 5] ?_
      repeat (first | refine pp_ ?_ | refine po_ ?_)
      refine tn_ ?_
      refine td_ [0, 4] ?_
      repeat (refine pt_ hHeld ?_)
      refine tn_ ?_
      refine la_ 6 (fun K hK => ?_)
      refine gs_ Tryz.func13 #[.agg #[.int .i64 m0, .int .i64 (z : Int), .int .i64 m2, .int .i64 m3, .int .i64 m4, .int .i64 m5, .int .i64 m6, .string m7], .agg #[.int .i64 x0, .int .i64 x1, .string x2], .slice A1 W.length ca] ?_
      with_reducible refine ((HEN.out _)).mono ?_
      rintro e w5 ⟨rfl, hb5⟩
      refine ⟨_, rfl, ?_⟩
      have H5 := jo (below_step H4.out (below_step (below_drew (Below.refl w4.heap.size w4)) hb5))
      have z0 := pw_cell_below hb5 hHeld.1
      have z1 := pw_cell_below hb5 hHeld.2.1
      have z2 := pw_cell_below hb5 hHeld.2.2.1
      have z3 := pw_cell_below hb5 hHeld.2.2.2.1
      have z4 := pw_cell_below hb5 hHeld.2.2.2.2.1
      have z5 := pw_cell_below hb5 hHeld.2.2.2.2.2.1
      have z6 := pw_cell_below hb5 hHeld.2.2.2.2.2.2.1
      have z7 := pw_cell_below hb5 hHeld.2.2.2.2.2.2.2.1
      have z8 := pw_cell_below hb5 hHeld.2.2.2.2.2.2.2.2.1
      have z9 := pw_cell_below hb5 hHeld.2.2.2.2.2.2.2.2.2.1
      have z10 := pw_cell_below hb5 hHeld.2.2.2.2.2.2.2.2.2.2
      clear hb5
      refine hK.out _ _ ?_
      clear hK K
      refine nm_ (some 82) ?_
      refine td_ [7, 8, 9, 10, 11] ?_
      repeat (first | refine pp_ ?_ | refine po_ ?_)
      refine tn_ ?_
      refine dn_ ?_
      clear c0 c1 c2 c3 c4 c5 c6 c7 f0 f1 f2 z0 z1 z2 z3 z4 z5 z6 z7 z8 z9 z10
      go_wp2
      go_roundg gq
      case measure => omega
      case rel => exact ⟨i + 1, congrArg (Value.int .i64) wi, ⟨by have := HA.out.1; omega, by rw [HSN.out, ← HLI.out]; exact EJ_below HA.out.2.1 H5.out, by rw [HSN.out, ← HLI.out]; exact RJ_below HA.out.2.2.1 H5.out, below_step HA.out.2.2.2.1 H5.out, blk_below HA.out.2.2.2.2 H5.out⟩⟩
     ·subst he
      have HIX := jo h16
      have HEN := jo h13
      have hsn := HSN.out
      rw [if_pos rfl] at hsn
      replace HSN := jo hsn
      clear h16 h13 hsn
      go_wp2
      refine st_ (S := fun w' => w'.cell? ⟨w.heap.size, 0, none⟩ = some (.int .i64 m0) ∧ w'.cell? ⟨w.heap.size, 1, none⟩ = some (.int .i64 (z : Int)) ∧ w'.cell? ⟨w.heap.size, 2, none⟩ = some (.int .i64 m2) ∧ w'.cell? ⟨w.heap.size, 3, none⟩ = some (.int .i64 m3) ∧ w'.cell? ⟨w.heap.size, 4, none⟩ = some (.int .i64 m4) ∧ w'.cell? ⟨w.heap.size, 5, none⟩ = some (.int .i64 m5) ∧ w'.cell? ⟨w.heap.size, 6, none⟩ = some (.int .i64 m6) ∧ w'.cell? ⟨w.heap.size, 7, none⟩ = some (.string m7) ∧ w'.cell? (ah.add (i * 3)) = some (.int .i64 x0) ∧ w'.cell? ⟨(ah.add (i * 3)).block, (ah.add (i * 3)).off + 1, none⟩ = some (.int .i64 x1) ∧ w'.cell? ⟨(ah.add (i * 3)).block, (ah.add (i * 3)).off + 2, none⟩ = some (.string x2)) (ds := [5]) 11 ⟨c0, c1, c2, c3, c4, c5, c6, c7, f0, f1, f2⟩ (fun hHeld => ?_)
      refine td_ [1, 2, 3] ?_
      repeat (first | refine pp_ ?_ | refine po_ ?_)
      refine tn_ ?_
      refine td_ [0, 4] ?_
      repeat (refine pt_ hHeld ?_)
      refine tn_ ?_
      refine la_ 5 (fun K hK => ?_)
      refine gs_ Tryz.func16 #[.agg #[.int .i64 m0, .int .i64 (z : Int), .int .i64 m2, .int .i64 m3, .int .i64 m4, .int .i64 m5, .int .i64 m6, .string m7], .agg #[.int .i64 x0, .int .i64 x1, .string x2]] ?_
      with_reducible refine ((HIX.out _)).mono ?_
      rintro e w4 ⟨v4, rfl, hj4, hb4⟩
      refine ⟨_, rfl, ?_⟩
      have H4 := jo (below_step (below_drew (Below.refl wr.heap.size wr)) hb4)
      have HJ4 := jo hj4
      have z0 := pw_cell_below hb4 hHeld.1
      have z1 := pw_cell_below hb4 hHeld.2.1
      have z2 := pw_cell_below hb4 hHeld.2.2.1
      have z3 := pw_cell_below hb4 hHeld.2.2.2.1
      have z4 := pw_cell_below hb4 hHeld.2.2.2.2.1
      have z5 := pw_cell_below hb4 hHeld.2.2.2.2.2.1
      have z6 := pw_cell_below hb4 hHeld.2.2.2.2.2.2.1
      have z7 := pw_cell_below hb4 hHeld.2.2.2.2.2.2.2.1
      have z8 := pw_cell_below hb4 hHeld.2.2.2.2.2.2.2.2.1
      have z9 := pw_cell_below hb4 hHeld.2.2.2.2.2.2.2.2.2.1
      have z10 := pw_cell_below hb4 hHeld.2.2.2.2.2.2.2.2.2.2
      clear hb4 hj4
      refine hK.out _ _ ?_
      clear hK K
      refine nm_ (some 72) ?_
      refine td_ [6, 7, 8, 9, 10] ?_
      repeat (first | refine pp_ ?_ | refine po_ ?_)
      refine tn_ ?_
      refine dn_ ?_
      clear c0 c1 c2 c3 c4 c5 c6 c7 f0 f1 f2
      have c0 := z0; have c1 := z1; have c2 := z2; have c3 := z3; have c4 := z4; have c5 := z5; have c6 := z6; have c7 := z7; have f0 := z8; have f1 := z9; have f2 := z10
      clear z0 z1 z2 z3 z4 z5 z6 z7 z8 z9 z10
      obtain ⟨A4, c4', e4⟩ := J_slice HJ4.out
      subst e4
      go_wp2
      refine st_ (S := fun w' => w'.cell? ⟨w.heap.size, 0, none⟩ = some (.int .i64 m0) ∧ w'.cell? ⟨w.heap.size, 1, none⟩ = some (.int .i64 (z : Int)) ∧ w'.cell? ⟨w.heap.size, 2, none⟩ = some (.int .i64 m2) ∧ w'.cell? ⟨w.heap.size, 3, none⟩ = some (.int .i64 m3) ∧ w'.cell? ⟨w.heap.size, 4, none⟩ = some (.int .i64 m4) ∧ w'.cell? ⟨w.heap.size, 5, none⟩ = some (.int .i64 m5) ∧ w'.cell? ⟨w.heap.size, 6, none⟩ = some (.int .i64 m6) ∧ w'.cell? ⟨w.heap.size, 7, none⟩ = some (.string m7) ∧ w'.cell? (ah.add (i * 3)) = some (.int .i64 x0) ∧ w'.cell? ⟨(ah.add (i * 3)).block, (ah.add (i * 3)).off + 1, none⟩ = some (.int .i64 x1) ∧ w'.cell? ⟨(ah.add (i * 3)).block, (ah.add (i * 3)).off + 2, none⟩ = some (.string x2)) (ds := [6]) 12 ⟨c0, c1, c2, c3, c4, c5, c6, c7, f0, f1, f2⟩ (fun hHeld => ?_)
      refine td_ [1, 2, 3, 5] ?_
      repeat (first | refine pp_ ?_ | refine po_ ?_)
      refine tn_ ?_
      refine td_ [0, 4] ?_
      repeat (refine pt_ hHeld ?_)
      refine tn_ ?_
      refine la_ 6 (fun K hK => ?_)
      refine gs_ Tryz.func13 #[.agg #[.int .i64 m0, .int .i64 (z : Int), .int .i64 m2, .int .i64 m3, .int .i64 m4, .int .i64 m5, .int .i64 m6, .string m7], .agg #[.int .i64 x0, .int .i64 x1, .string x2], .slice A1 W.length ca] ?_
      with_reducible refine ((HEN.out _ (below_step (below_step HA.out.2.2.2.1 H4.out) (below_drew (Below.refl _ _))))).mono ?_
      rintro e w5 ⟨rfl, hb5⟩
      refine ⟨_, rfl, ?_⟩
      have H5 := jo (And.intro (below_step H4.out (below_step (below_drew (Below.refl w4.heap.size w4)) hb5)) (below_step (below_drew (Below.refl w4.heap.size w4)) hb5))
      have z0 := pw_cell_below hb5 hHeld.1
      have z1 := pw_cell_below hb5 hHeld.2.1
      have z2 := pw_cell_below hb5 hHeld.2.2.1
      have z3 := pw_cell_below hb5 hHeld.2.2.2.1
      have z4 := pw_cell_below hb5 hHeld.2.2.2.2.1
      have z5 := pw_cell_below hb5 hHeld.2.2.2.2.2.1
      have z6 := pw_cell_below hb5 hHeld.2.2.2.2.2.2.1
      have z7 := pw_cell_below hb5 hHeld.2.2.2.2.2.2.2.1
      have z8 := pw_cell_below hb5 hHeld.2.2.2.2.2.2.2.2.1
      have z9 := pw_cell_below hb5 hHeld.2.2.2.2.2.2.2.2.2.1
      have z10 := pw_cell_below hb5 hHeld.2.2.2.2.2.2.2.2.2.2
      clear hb5
      refine hK.out _ _ ?_
      clear hK K
      refine nm_ (some 82) ?_
      refine td_ [7, 8, 9, 10, 11] ?_
      repeat (first | refine pp_ ?_ | refine po_ ?_)
      refine tn_ ?_
      refine dn_ ?_
      clear c0 c1 c2 c3 c4 c5 c6 c7 f0 f1 f2 z0 z1 z2 z3 z4 z5 z6 z7 z8 z9 z10
      have HE5 := jo (EJ_below HA.out.2.1 H5.out.1)
      have HR5 := jo (RJ_below HA.out.2.2.1 H5.out.1)
      have HJ5 := jo ((RI.of_J HJ4.out).frame (Num3.below H5.out.2))
      have HEJ := jo (show EqJ w5 g0 [.slice A4 g0.f0.length c4', .string g0.f1] from ⟨_, rfl, HJ5.out⟩)
      have HB5 := jo (And.intro (below_step HA.out.2.2.2.1 H5.out.1) (blk_below HA.out.2.2.2.2 H5.out.1))
      go_wp2_with (first | ((with_reducible refine gate_builtin (b := .append) (xs := #[.tmp 90, .tmp 94]) rfl ?_); at_builtin; refine NR_append (R := EqJ) EqJ.frame (w0 := w) w.heap.size 2 rfl (.tmp 90) (.tmp 94) 37 62 _ 40 rfl Tryz.underlying37 info62 rfl (by decide) (by decide) (by decide) (.slice A13 LI.length c13) LI g0 [.slice A4 g0.f0.length c4', .string g0.f1] rfl rfl HEJ.out (EqJ.one HEJ.out) HE5.out HB5.out.1 HB5.out.1.size (by have := HLN.out; omega) ?_; intro v6 w6 ho hb hn hg hat; have HR6 := jo (RJ_grown HR5.out HE5.out hn hg); have HRJ := jo (show RowJ w6 g0.f0 [.slice A4 g0.f0.length c4'] from ⟨_, rfl, HJ5.out.frame hn⟩); have HK6 := jo (EJ_blk HE5.out HB5.out.2 hg); have HE6 := jo (And.intro ho hb); clear ho hb hn hg hat) | ((with_reducible refine gate_builtin (b := .append) (xs := #[.tmp 96, .tmp 98]) rfl ?_); at_builtin; refine NR_append (R := RowJ) RowJ.frame (w0 := w) w.heap.size 1 rfl (.tmp 96) (.tmp 98) 38 44 _ 24 rfl Tryz.underlying38 info44 rfl (by decide) (by decide) (by decide) (.slice A15 LI.length c15) (LI.map (·.f0)) g0.f0 [.slice A4 g0.f0.length c4'] rfl rfl HRJ.out (RowJ.one HRJ.out) HR6.out HE6.out.2 HE6.out.2.size (by rw [List.length_map]; have := HLN.out; omega) ?_; intro v7 w7 ho hb hn hg hat; have HE7 := jo (EJ_grown HE6.out.1 HR6.out hn hg); have HK7 := jo (RJ_blk HR6.out HK6.out hg); have HR7 := jo (And.intro ho hb); clear ho hb hn hg hat))
      go_roundg gq
      case measure => omega
      case rel => exact ⟨i + 1, congrArg (Value.int .i64) wi, ⟨by have := HA.out.1; omega, by rw [HSN.out, ← List.append_assoc, ← HLI.out]; exact HE7.out, by rw [HSN.out, ← List.append_assoc, ← HLI.out, List.map_append]; exact HR7.out.1, HR7.out.2, HK7.out⟩⟩
    ·have hi : i = q := by have := HA.out.1; omega
     have hfin : H.take i = H.take 40 := by
      rw [hi, HQ.out]
      rcases Nat.le_total 40 H.length with h | h
      ·rw [Nat.min_eq_left h]
      ·rw [Nat.min_eq_right h, List.take_length, List.take_of_length_le h]
     have hLE := HLI.out
     rw [hfin, ← HE0.out] at hLE
     subst hLE
     have HF := jo HA.out.2
     clear HA hfin
     subst hi
     by_cases hiH : i < H.length
     ·have a1 : decide ((i : Int) < (H.length : Int)) = true := decide_eq_true (by omega)
      have a2 : decide (i < H.length) = true := decide_eq_true hiH
      have a3 : (i : Int) < (H.length : Int) := by omega
      have a4 : decide ((i : Int) < 40) = false := decide_eq_false (by have := HQ.out; omega)
      have a5 : decide (i < 40) = false := decide_eq_false (by have := HQ.out; omega)
      go_wp2
      refine bodyPost_ret (results_tmp3 rfl _ _ _) rfl ?_
      exact ⟨_, _, rfl, HF.out.1, HF.out.2.1, HF.out.2.2.1⟩
     ·have a1 : decide ((i : Int) < (H.length : Int)) = false := decide_eq_false (by omega)
      have a2 : decide (i < H.length) = false := decide_eq_false hiH
      have a3 : ¬ (i : Int) < (H.length : Int) := by omega
      go_wp2
      refine bodyPost_ret (results_tmp3 rfl _ _ _) rfl ?_
      exact ⟨_, _, rfl, HF.out.1, HF.out.2.1, HF.out.2.2.1⟩
end Go.Proofs.YtjmooillogojkaaGreat.Q
