/- inact.may walked; inact.Solve walked. No condition. -/
import Derived.Test.YtjmooillogojkaaGreatM46
set_option maxHeartbeats 8000000
set_option maxRecDepth 100000
set_option linter.unusedVariables false
set_option linter.unusedSimpArgs false
namespace Go.Proofs.YtjmooillogojkaaGreat.Q
open Go.RowKit Go.Proofs.YtjmooillogojkaaGreatW.PrintWords Go.Proofs.YtjmooillogojkaaGreatW.PrintLast Go.Proofs.YtjmooillogojkaaGreatW.PrintMore
open Go.Proofs.YtjmooillogojkaaGreat
theorem pred60 {B sz : Nat} {l : List S62} {w : World} (h1 : 1 ≤ sz) (h2 : sz ≤ 64) (hB : B < w.heap.size) (hc : w.cell? ⟨B, 0, none⟩ = some (.int .i64 (sz : Int))) (h : ∀ x ∈ l, x.f1.size = sz) : PredEqn 60 #[.pointer (some ⟨B, 0, none⟩)] (fun _ => false) l w := by
 intro W i hi hb A0 c0 hl0 hg0
 have hc' := (hb.cell (p := ⟨B, 0, none⟩) hB).trans hc
 have hBW : B < W.heap.size := Nat.lt_of_lt_of_le hB hb.size
 have hro := h l[i] (List.getElem_mem hi)
 clear hc
 obtain ⟨x, hx⟩ : ∃ x, x = l[i] := ⟨_, rfl⟩
 rw [← hx] at hro hl0 hg0 ⊢
 clear hx h
 obtain ⟨xi, xd⟩ := x
 have HB := jo hb
 have HIS := jo (is_ok (s := xd) (n := sz) (Int.ofNat_le.2 h1) (Int.ofNat_le.2 h2) (congrArg Nat.cast hro))
 clear hb hg0 hro h1 h2 hi hB
 show Calls Tryz.prog 60 #[.agg #[.slice A0 xi.length c0, .string xd], .pointer (some ⟨B, 0, none⟩)] W _
 have b1 : Below W.heap.size W (W.alloc (.cells #[.slice A0 xi.length c0, .string xd] 62)) := below_alloc (Below.refl _ _) _
 have x0 : (W.alloc (.cells #[.slice A0 xi.length c0, .string xd] 62)).cell? ⟨B, 0, none⟩ = some (.int .i64 (sz : Int)) := pw_cell_below b1 hc'
 have x1 : (W.alloc (.cells #[.slice A0 xi.length c0, .string xd] 62)).cell? ⟨W.heap.size, 1, none⟩ = some (.string xd) := blk_cell (blk_new W _) 1
 have HB1 := jo (below_step HB.out b1)
 clear b1 hc' hl0 hBW
 go_enter Tryz.func60, Tryz.ntmps60
 go_wp2_with (go_at_call 47; (with_reducible refine (block_Is.calls _ _ true _ HIS.out).mono ?_); rintro e w1 ⟨rfl, ⟨k, rfl⟩⟩)
 go_ret
 exact ⟨rfl, pw_below_drewN HB1.out k⟩
theorem may23_ok {n sz c : Nat} {A : Option Addr} {l : List S62} (w : World) (hr : Kd.C k62 w A l.length l) (hc : l.length ≤ c) (hL : rowsIn n (l.map (·.f0))) (h1 : 1 ≤ sz) (h2 : sz ≤ 64) (hd : ∀ x ∈ l, x.f1.size = sz) :
  Calls Tryz.prog 23 #[.int .i64 n, .int .i64 sz, .slice A l.length c] w fun e w' => e = .returned (.bool true) ∧ Below w.heap.size w w' := by
 have HR := jo hr
 have HZ := jo (zero_spec h1 h2)
 have eg := enters_of (P := Tryz.prog) (f := 60) Tryz.func60 jw rfl
 have hll : l.length < 1000000 := by have := hL.2.1; rw [List.length_map] at this; omega
 have HRO := jo (fun W (hb : Below w.heap.size w W) => rows_ok (Kd.C_below HR.out hb) hc hll)
 have hlm : (l.map (·.f0)).length = l.length := List.length_map _
 have HM : Aside0 (∀ W A c, Kd.C (Kd.slice 3 (Kd.int .i64)) W A l.length (l.map (·.f0)) → l.length ≤ c → Calls Tryz.prog 48 #[.int .i64 n, .slice A l.length c] W fun e w' => e = .returned (.bool true) ∧ Below W.heap.size W w') := ⟨fun W A c g1 g2 => by
  have := may_ok (n := (n : Int)) (L := l.map (·.f0)) W (A := A) (c := c) (by rw [hlm]; exact g1) (by rw [hlm]; exact g2) (rowsIn_ok hL)
  rwa [hlm] at this⟩
 have p1 : Below w.heap.size w (w.alloc (.cells #[.int .i64 (sz : Int)] 3)) := below_alloc (Below.refl _ _) _
 have k1 : (w.alloc (.cells #[.int .i64 (sz : Int)] 3)).heap[w.heap.size]? = some (.cells #[.int .i64 (sz : Int)] 3 (0, 0)) := blk_new w _
 have hnz := nonempty (x := zeros sz) (by rw [zeros_size]; exact h1)
 have HH := jo (And.intro h1 (And.intro h2 hd))
 clear hr hL hll hlm hd
 go_enter Tryz.func23, Tryz.ntmps23
 go_wp2_with fail
 generalize w.alloc (.cells #[.int .i64 (sz : Int)] 3) = W1 at p1 k1 ⊢
 have x0 : W1.cell? ⟨w.heap.size, 0, none⟩ = some (.int .i64 (sz : Int)) := blk_cell k1 0
 have HP := jo (And.intro p1 k1)
 clear p1 k1 h1 h2
 clear x0
 with_reducible refine (block_Zero.calls _ _ _ HZ.out).mono ?_
 rintro e w2 ⟨rfl, hb2⟩
 have HB2 := jo (below_step HP.out.1 hb2)
 have HPR := jo (pred60 (l := l) HH.out.1 HH.out.2.1 (blk_lt (blk_below HP.out.2 hb2)) (blk_cell (blk_below HP.out.2 hb2) 0) HH.out.2.2)
 clear hb2
 go_wp2_with (first | (go_at_call 59; (with_reducible refine (con_eqn eg w2 (Kd.C_below HR.out HB2.out) hc HPR.out).mono ?_); rintro e w3 ⟨rfl, hb3⟩; rw [any_false (fun _ _ => rfl)]; have HB3 := jo (below_step HB2.out hb3); clear hb3) | (go_at_call 61; (with_reducible refine (HRO.out _ HB3.out).mono ?_); rintro e w4 ⟨A4, c4, rfl, h41, h42, h43⟩; have H4 := jo (And.intro h41 (And.intro h42 (below_step HB3.out h43))); clear h41 h42 h43) | (go_at_call 48; (with_reducible refine (HM.out _ _ _ H4.out.2.1 H4.out.1).mono ?_); rintro e w5 ⟨rfl, hb5⟩; have H5 := jo (below_step H4.out.2.2 hb5); clear hb5))
 go_ret
 exact ⟨rfl, H5.out⟩
def solF (res : List S62) (f : S62) : ByteArray := if (subE f res).f0 = [] then (subE f res).f1 else ⟨#[]⟩
def outK (res F : List S62) (n k : Nat) : List ByteArray := (F.take k).map (solF res) ++ List.replicate (n - k) ⟨#[]⟩
theorem outK_len {res F : List S62} {n k : Nat} (hF : F.length = n) (hk : k ≤ n) : (outK res F n k).length = n := by
 unfold outK
 rw [List.length_append, List.length_map, List.length_take, List.length_replicate]
 omega
theorem outK_set {res F : List S62} {n k : Nat} (hF : F.length = n) (hk : k < F.length) : (outK res F n k).set k (solF res F[k]) = outK res F n (k + 1) := by
 unfold outK
 rw [List.set_append_right _ _ (by rw [List.length_map, List.length_take]; exact Nat.min_le_left _ _), List.length_map, List.length_take, Nat.min_eq_left (Nat.le_of_lt hk), Nat.sub_self, show n - k = (n - (k + 1)) + 1 by omega, List.replicate_succ, List.set_cons_zero, List.take_succ_eq_append_getElem hk, List.map_append, List.append_assoc]
 rfl
theorem outK_none {res F : List S62} {n k : Nat} (hF : F.length = n) (hk : k < F.length) (h : solF res F[k] = ⟨#[]⟩) : outK res F n k = outK res F n (k + 1) := by
 unfold outK
 rw [show n - k = (n - (k + 1)) + 1 by omega, List.replicate_succ, List.take_succ_eq_append_getElem hk, List.map_append, List.append_assoc, List.map_singleton, h]
 rfl
structure Sol (n sz : Nat) (l : List S62) (U : List Int) (st : List S123) (s s' : List Bool) : Prop where
 unk : unkOk n (l.map (·.f0)) U
 peel : Peel (l.map (·.f0)) s st s'
 len : s.length = n
 mark : ∀ i, 0 ≤ i → (known s i ↔ i ∈ U)
def fin0 (n sz : Nat) (l : List S62) (U : List Int) (st : List S123) : List S62 × List Bool := stepsF l (unkF sz (List.replicate n z62) U, List.replicate l.length false) st
theorem solve8_ok {n sz cl : Nat} {Al : Option Addr} {l : List S62} (w : World) (hr : Kd.C k62 w Al l.length l) (hc : l.length ≤ cl) (hL : rowsIn n (l.map (·.f0))) (hn : 1 ≤ n) (h1 : 1 ≤ sz) (h2 : sz ≤ 64) (hd : ∀ x ∈ l, x.f1.size = sz) (h0 : 0 < l.length)
  (hres : ∀ U st s s', Sol n sz l U st s s' → ∃ res, redE sz [] (restK (fin0 n sz l U st).1 (fin0 n sz l U st).2 l l.length) = some res) :
  Calls Tryz.prog 8 #[.int .i64 n, .int .i64 sz, .slice Al l.length cl] w fun e w' => ∃ U st s s' res v, e = .returned (.tuple #[v, .int .i64 0]) ∧ Sol n sz l U st s s' ∧ redE sz [] (restK (fin0 n sz l U st).1 (fin0 n sz l U st).2 l l.length) = some res ∧ Kd.R Kd.string 9 w' w.heap.size (fun _ => True) v ((fin0 n sz l U st).1.map (solF res)) ∧ Below w.heap.size w w' := by
 have HR := jo hr
 have HM23 := jo (may23_ok w hr hc hL h1 h2 hd)
 have HB24 := jo (fun (W : World) (hb : Below w.heap.size w W) => begin_ok W (Kd.C_below hr hb) hc hL hn h1 h2 hd h0)
 have hll : l.length ≤ 400 := by have := hL.2.1; rwa [List.length_map] at this
 have hx : ∀ x ∈ l, fOk n x := fun x hx => ⟨hL.2.2 _ (List.mem_map_of_mem hx), by rw [hd x hx]; exact h2⟩
 have HRES := jo hres
 have HN := jo (And.intro hn (And.intro hL.1 (And.intro hll hx)))
 have HS := jo (And.intro h1 h2)
 clear hr hL hd hres hn hx h1 h2
 go_enter Tryz.func8, Tryz.ntmps8
 go_wp2_with (first | (go_at_call 23; (with_reducible refine HM23.out.mono ?_); rintro e w1 ⟨rfl, hb1⟩; have HB1 := jo hb1; clear hb1) | (go_at_call 24; (with_reducible refine (HB24.out _ HB1.out).mono ?_); rintro e w2 ⟨Bw, GF, cF, GD, cD, vu, U, st, s, s', rfl, h2a, h2b, h2c⟩; have H2 : Aside0 (Sol n sz l U st s s' ∧ Wk w1 w2 n sz Bw (.slice Al l.length cl) vu (.slice (some ⟨GF, 0, none⟩) n cF) (.slice (some ⟨GD, 0, none⟩) l.length cD) (fin0 n sz l U st).1 (fin0 n sz l U st).2) := ⟨⟨h2a.1, h2a.2.1, h2a.2.2.1, h2a.2.2.2⟩, h2c⟩; clear h2a h2b h2c))
 obtain ⟨res, hres⟩ := HRES.out U st s s' H2.out.1
 have HSOL := jo (And.intro H2.out.1 hres)
 obtain ⟨F, hF⟩ : ∃ F, F = (fin0 n sz l U st).1 := ⟨_, rfl⟩
 have HF := jo hF
 have h2w := H2.out.2
 rw [← hF] at h2w hres
 generalize (fin0 n sz l U st).2 = D at h2w hres
 have HW2 := jo h2w
 have HRS := jo hres
 have HB2 : Aside0 (Below w.heap.size w w2) := ⟨below_step HB1.out h2w.bel⟩
 have HFL : Aside0 (F.length = n ∧ (∀ f ∈ F, fOk n f)) := ⟨h2w.fl, h2w.fok⟩
 have HRK : Aside0 (∀ f ∈ restK F D l l.length, fOk n f) := ⟨restK_ok h2w.fok HN.out.2.2.2 _⟩
 have HRL := jo (restK_len F D l l.length)
 have HINV : Aside0 (InvE n res ∧ res.length ≤ 400) := ⟨redE_inv HRK.out (InvE.nil n) hres, by have := redE_len hres; have h9 := HRL.out; have h8 := HN.out.2.2.1; simp only [List.length_nil] at this; omega⟩
 clear hF h2w hres H2 HRES
 with_reducible refine (rest_ok w2 HW2.out (Kd.C_below HR.out HB2.out) HN.out.2.1 HN.out.2.2.1 HN.out.2.2.2).mono ?_
 rintro e w3 ⟨v3, rfl, h3a, h3b⟩
 obtain ⟨A3, c3, e3⟩ := h3a.slice
 subst e3
 have H3 := jo (And.intro h3a (And.intro h3b (below_step HB2.out h3b)))
 have HW3 := jo (HW2.out.below h3b)
 clear h3a h3b
 go_wp2_with fail
 with_reducible refine (reduced_ok w3 H3.out.1 HN.out.2.1 HS.out.1 HS.out.2 (Nat.le_trans HRL.out HN.out.2.2.1) HRK.out HRS.out).mono ?_
 rintro e w4 ⟨v4, rfl, h4a, h4b⟩
 obtain ⟨A6, c6, e6⟩ := h4a.slice
 subst e6
 have H4 := jo (And.intro (h4a.lower H3.out.2.2.size) (below_step H3.out.2.2 h4b))
 have HW4 := jo (HW3.out.below h4b)
 clear h4a h4b
 go_wp2_with ((with_reducible refine gate_dst (N := 35) rfl ?_); refine Kd.R_make Kd.string (w0 := w) w.heap.size 9 rfl (N := 35) rfl 31 _ _ rfl (n : Int) rfl rfl Tryz.underlying31 (.string ⟨#[]⟩) 16 info9 rfl (by decide) (by omega) ⟨#[]⟩ (ok := fun _ => True) (okp := fun _ => True) rfl (fun _ hk => hk) trivial (by omega) (by rw [Int.toNat_natCast]; have := HN.out.2.1; omega) H4.out.2 H4.out.2.size ?_; intro v35 w5 ho hb hg hat; rw [Int.toNat_natCast] at ho; obtain ⟨G, cG, ev, _, _, _⟩ := Kd.R_form ho (by rw [List.length_replicate]; exact HN.out.1); rw [List.length_replicate] at ev; subst ev; have H5 := jo (And.intro ho (And.intro hb (And.intro (H4.out.1.below (below_grown0 hg)) (HW4.out.below (below_grown0 hg))))); have hf3 : w5.cell? ⟨Bw, 3, none⟩ = some (.slice (some ⟨GF, 0, none⟩) n cF) := H5.out.2.2.2.cell 3; clear ho hb hg hat)
 have H50 : Aside0 (Kd.R Kd.string 9 w5 w.heap.size (fun _ => True) (.slice (some ⟨G, 0, none⟩) n cG) (outK res F n 0) ∧ Below w.heap.size w w5 ∧ ER w5 w.heap.size (.slice A6 res.length c6) res ∧ ER w5 w.heap.size (.slice (some ⟨GF, 0, none⟩) n cF) F) := ⟨by unfold outK; simpa using H5.out.1, H5.out.2.1, H5.out.2.2.1, H5.out.2.2.2.forms.lower HB1.out.size⟩
 clear H5 H4 H3 HW4 HW3 HW2 HRS HRK HRL HR HM23 HB24 hf3
 go_loopg [41] n (fun gk v41 wr => ∃ (k : Nat), v41 = .int .i64 k ∧ Aside0 (k + gk = n ∧ Kd.R Kd.string 9 wr w.heap.size (fun _ => True) (.slice (some ⟨G, 0, none⟩) n cG) (outK res F n k) ∧ Below w.heap.size w wr ∧ ER wr w.heap.size (.slice A6 res.length c6) res ∧ ER wr w.heap.size (.slice (some ⟨GF, 0, none⟩) n cF) F))
 case atStart => exact ⟨0, rfl, ⟨Nat.zero_add _, H50.out⟩⟩
 case round =>
  obtain ⟨k0, rfl, HA⟩ := hrel
  clear H50
  by_cases hlt : k0 < n
  ·have d1 : decide ((k0 : Int) < (n : Int)) = true := decide_eq_true (Int.ofNat_lt.2 hlt)
   have d2 : decide (k0 < n) = true := decide_eq_true hlt
   obtain ⟨gq0, rfl⟩ : ∃ q, gk = q + 1 := ⟨gk - 1, kk_pred HA.out.1 hlt⟩
   have hkk0 : Aside0 (k0 + 1 + gq0 = n) := ⟨kk_next HA.out.1⟩
   have HKM : Aside0 (k0 ≤ 100000) := ⟨Nat.le_trans (Nat.le_of_lt hlt) (Nat.le_trans HN.out.2.1 (by decide))⟩
   have wk00 := w64n HKM.out
   have hkF : k0 < F.length := by rw [HFL.out.1]; exact hlt
   obtain ⟨wo, hwo⟩ : ∃ x, x = wr := ⟨wr, rfl⟩
   subst hwo
   obtain ⟨gi, capi, u0, ei, _, hs0, x1, x2, x3, cellsi, x4⟩ := HA.out.2.2.2.2.get hkF
   injection ei with e1 e2 e3
   injection e1 with e1
   injection e1 with e1
   subst e1 e3
   have hfo := HFL.out.2 _ (List.getElem_mem hkF)
   obtain ⟨f, hf⟩ : ∃ f, f = F[k0] := ⟨_, rfl⟩
   have hos := outK_set (res := res) HFL.out.1 hkF
   have hon := outK_none (res := res) HFL.out.1 hkF
   rw [← hf] at hs0 x2 hfo hos hon
   have HOS := jo (And.intro hos hon)
   obtain ⟨A0, c0, rfl, _, _⟩ := hs0.reads
   have hb1 : Below wo.heap.size wo (wo.alloc (.cells #[.slice A0 f.f0.length c0, .string f.f1] 62)) := below_alloc (Below.refl _ _) _
   have hbn : wo.heap[wo.heap.size]? = none := by simp
   obtain ⟨Bp, hBp⟩ : ∃ Bp, Bp = wo.heap.size := ⟨_, rfl⟩
   have HI : Aside0 (InvE n res ∧ fOk n f ∧ res.length ≤ 400 ∧ (∀ g, (Value.slice A6 res.length c6).ownBlock = some g → Bp ≠ g) ∧ n ≤ 160) := ⟨HINV.out.1, hfo, HINV.out.2, fun g hg e => by
    obtain ⟨_, cells, hc⟩ := HA.out.2.2.2.1.block g hg
    rw [← e, hBp, hbn] at hc
    exact absurd hc (by simp), HN.out.2.1⟩
   have H1 : Aside0 ((wo.alloc (.cells #[.slice A0 f.f0.length c0, .string f.f1] 62)).heap[Bp]? = some (.cells #[.slice A0 f.f0.length c0, .string f.f1] 62 (0, 0)) ∧ SLI (wo.alloc (.cells #[.slice A0 f.f0.length c0, .string f.f1] 62)) (.slice A0 f.f0.length c0) f.f0 ∧ ER (wo.alloc (.cells #[.slice A0 f.f0.length c0, .string f.f1] 62)) w.heap.size (.slice A6 res.length c6) res ∧ Below wo.heap.size wo (wo.alloc (.cells #[.slice A0 f.f0.length c0, .string f.f1] 62))) := ⟨by rw [hBp]; exact blk_new wo _, hs0.frame (Num3.below hb1), HA.out.2.2.2.1.below hb1, hb1⟩
   have HBq := jo hBp
   have HLT := jo hlt
   have HAA := HA
   have HBP : Aside0 (wo.heap.size ≤ Bp) := ⟨by rw [hBp]; exact Nat.le_refl _⟩
   clear hs0 hfo hb1 hbn x4 e2 hos hon hf hkF hBp
   go_wp2
   clear x1 x2 x3 wk00 d1 d2
   rw [← HBq.out]
   generalize wo.alloc (.cells #[.slice A0 f.f0.length c0, .string f.f1] 62) = W1 at H1 ⊢
   have hres : res = res := rfl
   go_loopg [48] res.length (fun gk vi wr => ∃ (k : Nat) (u : Value), vi = .int .i64 k ∧ Aside0 (k + gk = res.length ∧ wr.heap[Bp]? = some (.cells #[u, .string (subE f (res.take k)).f1] 62 (0, 0)) ∧ SLI wr u (subE f (res.take k)).f0 ∧ ER wr w.heap.size (.slice A6 res.length c6) res ∧ Below wo.heap.size wo wr))
   case atStart => exact ⟨0, _, rfl, ⟨Nat.zero_add _, H1.out⟩⟩
   case round =>
    obtain ⟨k, u, rfl, HA⟩ := hrel
    clear H1
    by_cases hlt : k < res.length
    ·have d1 : decide ((k : Int) < (res.length : Int)) = true := decide_eq_true (Int.ofNat_lt.2 hlt)
     have d2 : decide (k < res.length) = true := decide_eq_true hlt
     obtain ⟨gq, rfl⟩ : ∃ q, gk = q + 1 := ⟨gk - 1, kk_pred HA.out.1 hlt⟩
     have hkk : Aside0 (k + 1 + gq = res.length) := ⟨kk_next HA.out.1⟩
     have hkm : k ≤ 100000 := Nat.le_trans (Nat.le_of_lt hlt) (Nat.le_trans HI.out.2.2.1 (by decide))
     obtain ⟨hq1, _⟩ := subE_pre HI.out.1 HI.out.2.1 k (Nat.le_of_lt hlt)
     have hsn := subE_snoc f (res.take k) res[k]
     rw [← List.take_succ_eq_append_getElem hlt] at hsn
     obtain ⟨g6, cap, u2, e6, _, hs2, x1, x2, x3, cells6, x4⟩ := HA.out.2.2.2.1.get hlt
     injection e6 with e1 _ e3
     subst e1 e3
     have hyo := And.intro (HI.out.1.ok _ (List.getElem_mem hlt)) (HI.out.1.ne _ (List.getElem_mem hlt))
     generalize subE f (res.take k) = p at HA hq1 hsn
     obtain ⟨y, hy⟩ : ∃ y, y = res[k] := ⟨_, rfl⟩
     rw [← hy] at hs2 x2 hsn hyo
     clear hy
     obtain ⟨A2, c2, rfl, hc2, hr2⟩ := hs2.reads
     obtain ⟨Ap, cp, rfl, hcp, hrp⟩ := HA.out.2.2.1.reads
     obtain ⟨yi, yd⟩ := y
     replace hs2 : SLI wr (.slice A2 yi.length c2) yi := hs2
     replace hr2 : Kd.C (Kd.int .i64) wr A2 yi.length yi := hr2
     replace x1 : wr.cell? ⟨g6, k * 2, none⟩ = some (.slice A2 yi.length c2) := x1
     replace x2 : wr.cell? ⟨g6, k * 2 + 1, none⟩ = some (.string yd) := x2
     have hyl : 0 < yi.length := List.length_pos_iff.2 hyo.2
     obtain ⟨a2, rfl, hc0⟩ := Kd.at_int hr2 0 (Int.le_refl _) (Int.ofNat_lt.2 hyl)
     rw [show (0 : Int).toNat = 0 from rfl, add_zero' a2, rd_head] at hc0
     obtain ⟨hy0, hhy⟩ : ∃ h, h = yi.headD 0 := ⟨_, rfl⟩
     rw [← hhy] at hc0
     have hsn' : subE f (res.take (k + 1)) = if hy0 ∈ p.f0 then addF p ⟨yi, yd⟩ else p := by rw [hsn, hhy]; rfl
     have HSN := jo hsn'
     have HY := jo (And.intro hq1 (And.intro hyo.1 hs2))
     have d3 : decide ((0 : Int) < (yi.length : Int)) = true := decide_eq_true (Int.ofNat_lt.2 hyl)
     have d4 : decide (0 < yi.length) = true := decide_eq_true hyl
     have hml : p.f0.length < 1000000 := Nat.lt_of_le_of_lt (Nat.le_trans (rowOk_len hq1.1) HI.out.2.2.2.2) (by decide)
     have HCP := jo (And.intro hrp (And.intro hcp hml))
     have HC0 := jo hc0
     have HKM1 := jo hkm
     have wk0 := w64n hkm
     clear hsn hsn' hq1 hyo hs2 hr2 hrp hhy x4 hc0 hml hcp hc2 hkm
     go_wp2
     have HT : Aside0 (Below wr.heap.size wr (wr.alloc (.cells #[.slice (some a2) yi.length c2, .string yd] 62)) ∧ (wr.alloc (.cells #[.slice (some a2) yi.length c2, .string yd] 62)).heap[wr.heap.size]? = some (.cells #[.slice (some a2) yi.length c2, .string yd] 62 (0, 0))) := ⟨below_alloc (Below.refl _ _) _, blk_new wr _⟩
     generalize wr.alloc (.cells #[.slice (some a2) yi.length c2, .string yd] 62) = W3 at HT ⊢
     have HP3 : Aside0 (W3.heap[Bp]? = some (.cells #[.slice Ap p.f0.length cp, .string p.f1] 62 (0, 0)) ∧ SLI W3 (.slice Ap p.f0.length cp) p.f0 ∧ ER W3 w.heap.size (.slice (some ⟨g6, 0, none⟩) res.length c6) res ∧ Below wo.heap.size wo W3 ∧ SLI W3 (.slice (some a2) yi.length c2) yi) := ⟨blk_below HA.out.2.1 HT.out.1, HA.out.2.2.1.frame (Num3.below HT.out.1), HA.out.2.2.2.1.below HT.out.1, below_step HA.out.2.2.2.2 HT.out.1, HY.out.2.2.frame (Num3.below HT.out.1)⟩
     have HC27 : Aside0 (∀ W', Below W3.heap.size W3 W' → Calls Tryz.prog 27 #[.slice Ap p.f0.length cp, .int .i64 hy0] W' fun e w' => e = .returned (.bool (decide (hy0 ∈ p.f0))) ∧ Below W'.heap.size W' w') := ⟨fun W' hW => contains_ok W' (Kd.C_below (Kd.C_below HCP.out.1 HT.out.1) hW) HCP.out.2.1 HCP.out.2.2⟩
     have hnb : Aside0 (wr.heap.size ≠ Bp) := ⟨fun e => by have := blk_lt HA.out.2.1; rw [e] at this; exact absurd this (Nat.lt_irrefl _)⟩
     have z2 : W3.drew.cell? a2 = some (.int .i64 hy0) := pw_cell_below HT.out.1 HC0.out
     generalize wr.heap.size = Bg at HT hnb ⊢
     have HTB := jo HT.out.2
     have z0 : W3.drew.cell? ⟨Bp, 0, none⟩ = some (.slice Ap p.f0.length cp) := blk_cell HP3.out.1 0
     have z1 : W3.drew.cell? ⟨Bg, 0, none⟩ = some (.slice (some a2) yi.length c2) := blk_cell HT.out.2 0
     clear HT HA HCP HC0 x1 x2 x3
     go_wp2
     refine st_ (S := fun w' => w'.cell? ⟨Bp, 0, none⟩ = some (.slice Ap p.f0.length cp) ∧ w'.cell? ⟨Bg, 0, none⟩ = some (.slice (some a2) yi.length c2) ∧ w'.cell? a2 = some (.int .i64 hy0)) (ds := []) 7 ⟨z0, z1, z2⟩ (fun hHeld => ?_)
     refine td_ [0, 2] ?_
     repeat (first | refine pp_ ?_ | refine po_ ?_)
     refine tn_ ?_
     refine td_ [1, 3] ?_
     repeat (refine pt_ hHeld ?_)
     refine tn_ ?_
     refine td_ [4] ?_
     repeat (first | refine pp_ ?_ | refine po_ ?_)
     refine tn_ ?_
     refine td_ [5] ?_
     repeat (refine pt_ hHeld ?_)
     refine tn_ ?_
     refine on_ 6 (fun K hK => ?_)
     refine gs_ Tryz.func27 #[.slice Ap p.f0.length cp, .int .i64 hy0] ?_
     with_reducible refine ((HC27.out _ (below_drew (Below.refl _ _)))).mono ?_
     rintro e w6 ⟨rfl, hb6⟩
     refine ⟨_, rfl, ?_⟩
     have H6 := jo (below_step (below_drew (Below.refl W3.heap.size W3)) hb6)
     have y0 := pw_cell_below hb6 hHeld.1
     have y1 := pw_cell_below hb6 hHeld.2.1
     have y2 := pw_cell_below hb6 hHeld.2.2
     clear hb6
     refine hK.out _ _ ⟨y0, y1, y2⟩ (fun hHeld => ?_)
     clear hK K
     refine nm_ (some 58) ?_
     refine dn_ ?_
     have HP6 : Aside0 (w6.heap[Bp]? = some (.cells #[.slice Ap p.f0.length cp, .string p.f1] 62 (0, 0)) ∧ SLI w6 (.slice Ap p.f0.length cp) p.f0 ∧ ER w6 w.heap.size (.slice (some ⟨g6, 0, none⟩) res.length c6) res ∧ Below wo.heap.size wo w6) := ⟨blk_below HP3.out.1 H6.out, HP3.out.2.1.frame (Num3.below H6.out), HP3.out.2.2.1.below H6.out, below_step HP3.out.2.2.2.1 H6.out⟩
     by_cases hm : hy0 ∈ p.f0
     ·have dm : decide (hy0 ∈ p.f0) = true := decide_eq_true hm
      have HC28 := jo (add_ok (W := w6) HI.out.2.2.2.2 HY.out.1 HY.out.2.1 HP6.out.2.1 (HP3.out.2.2.2.2.frame (Num3.below H6.out)))
      have q0 : w6.cell? ⟨Bp, 0, none⟩ = some (.slice Ap p.f0.length cp) := blk_cell HP6.out.1 0
      have q1 : w6.cell? ⟨Bp, 1, none⟩ = some (.string p.f1) := blk_cell HP6.out.1 1
      have hbg := blk_below HTB.out H6.out
      have q2 : w6.cell? ⟨Bg, 0, none⟩ = some (.slice (some a2) yi.length c2) := blk_cell hbg 0
      have q3 : w6.cell? ⟨Bg, 1, none⟩ = some (.string yd) := blk_cell hbg 1
      rw [if_pos hm] at HSN
      clear hbg hHeld y0 y1 y2 z0 z1 z2 d3 d4
      go_wp2_with (first | (go_at_call 28; (with_reducible refine HC28.out.mono ?_); rintro e w7 ⟨v7, rfl, hs7, hb7⟩; obtain ⟨A7, c7, e7, _, _⟩ := hs7.reads; subst e7; have H7 := jo (And.intro hs7 hb7); have q4 := pw_cell_below hb7 q0; have q5 := pw_cell_below hb7 q1; have q6 : ∀ j, w7.frozen? ⟨Bp, j, none⟩ = false := (fun j => blk_frozen (blk_below HP6.out.1 hb7) j); clear hs7 hb7 q0 q1 q2 q3))
      go_roundg gq
      case measure => exact Nat.lt_succ_self _
      case rel =>
       have hb0 := blk_below HP6.out.1 H7.out.2
       have hn3 := Num3.sets hb0 (by decide) 0 [.slice A7 (addF p ⟨yi, yd⟩).f0.length c7, .string (addF p ⟨yi, yd⟩).f1]
       refine ⟨k + 1, .slice A7 (addF p ⟨yi, yd⟩).f0.length c7, congrArg (Value.int .i64) (w64s HKM1.out), ⟨hkk.out, ?_, ?_, ?_, ?_⟩⟩
       ·rw [HSN.out]
        exact blk_set2 hb0 _ _
       ·rw [HSN.out]
        exact H7.out.1.frame hn3
       ·exact ER.frame (HP6.out.2.2.1.below H7.out.2) hn3 (fun g hg => (show (w7.setCells Bp 0 [.slice A7 (addF p ⟨yi, yd⟩).f0.length c7, .string (addF p ⟨yi, yd⟩).f1]).heap[g]? = _ from heap_setCells (fun e => HI.out.2.2.2.1 g hg e.symm) _ _ _))
       ·exact (show Below wo.heap.size wo (w7.setCells Bp 0 [.slice A7 (addF p ⟨yi, yd⟩).f0.length c7, .string (addF p ⟨yi, yd⟩).f1]) from below_setCells HBP.out _ _ _ (below_step HP6.out.2.2.2 H7.out.2))
     ·have dm : decide (hy0 ∈ p.f0) = false := decide_eq_false hm
      rw [if_neg hm] at HSN
      clear hHeld y0 y1 y2 d3 d4 hyl
      go_wp2
      go_roundg gq
      case measure => exact Nat.lt_succ_self _
      case rel => exact ⟨k + 1, _, congrArg (Value.int .i64) (w64s HKM1.out), ⟨hkk.out, by rw [HSN.out]; exact HP6.out.1, by rw [HSN.out]; exact HP6.out.2.1, HP6.out.2.2⟩⟩
    ·have d1 : decide ((k : Int) < (res.length : Int)) = false := decide_eq_false (fun e => hlt (Int.ofNat_lt.1 e))
     have d2 : decide (k < res.length) = false := decide_eq_false hlt
     have e1 : k = res.length := kk_end HA.out.1 hlt
     have ha := HA.out.2
     rw [e1, List.take_length] at ha
     have HB := jo ha
     clear HA ha e1
     have hpe : (if (subE f res).f0 = [] then (subE f res).f1 else (⟨#[]⟩ : ByteArray)) = solF res f := rfl
     have hb0 := HB.out.1
     obtain ⟨A9, c9, e9, _, _⟩ := HB.out.2.1.reads
     subst e9
     generalize subE f res = p at HB hb0 hpe
     have z0 : wr.cell? ⟨Bp, 0, none⟩ = some (.slice A9 p.f0.length c9) := blk_cell hb0 0
     have z1 : wr.cell? ⟨Bp, 1, none⟩ = some (.string p.f1) := blk_cell hb0 1
     have HBC : Aside0 (Kd.R Kd.string 9 wr w.heap.size (fun _ => True) (.slice (some ⟨G, 0, none⟩) n cG) (outK res F n k0) ∧ Below w.heap.size w wr ∧ ER wr w.heap.size (.slice A6 res.length c6) res ∧ ER wr w.heap.size (.slice (some ⟨GF, 0, none⟩) n cF) F) := ⟨Kd.R_below HAA.out.2.1 HB.out.2.2.2, below_step HAA.out.2.2.1 HB.out.2.2.2, HB.out.2.2.1, HAA.out.2.2.2.2.below HB.out.2.2.2⟩
     clear HB hb0
     by_cases hpn : p.f0 = []
     ·rw [if_pos hpn] at hpe
      have HPE := jo hpe
      rw [hpn] at z0
      replace z0 : wr.cell? ⟨Bp, 0, none⟩ = some (.slice A9 0 c9) := z0
      have hol := outK_len (res := res) HFL.out.1 (Nat.le_of_lt HLT.out)
      obtain ⟨hG1, hG2⟩ := Kd.R_celln (⟨#[]⟩ : ByteArray) HBC.out.1 (k0 : Int) (Int.natCast_nonneg _) (Int.ofNat_lt.2 HLT.out)
      rw [Int.toNat_natCast] at hG1 hG2
      generalize rdOf (⟨#[]⟩ : ByteArray) (outK res F n k0) (k0 : Int) = old at hG1
      have m2 : wr.cell? ⟨G, k0, none⟩ = some (.string old) := hG1
      have m3 : wr.frozen? ⟨G, k0, none⟩ = false := hG2
      have hkn := HLT.out
      have b3 : decide ((k0 : Int) < (n : Int)) = true := decide_eq_true (Int.ofNat_lt.2 hkn)
      clear hpe hpn hG1 hG2 hol
      go_wp2
      go_roundg gq0
      case measure => exact Nat.lt_succ_self _
      case rel =>
       have hput := Kd.R_putn HBC.out.1 (k0 : Int) p.f1
       rw [Int.toNat_natCast, HPE.out, HOS.out.1] at hput
       obtain ⟨cells, hcg⟩ := Kd.R_typed HBC.out.1 G rfl
       have hGb := Kd.R_base HBC.out.1 G rfl
       have hne : ∀ {v : Value} {L : List S62}, ER wr w.heap.size v L → ∀ g, v.ownBlock = some g → (wr.setCell ⟨G, k0, none⟩ (.string p.f1)).heap[g]? = wr.heap[g]? := fun h g hg => by
        obtain ⟨_, cells', hc'⟩ := h.block g hg
        exact Below.heap_setCell wr ⟨G, k0, none⟩ _ g (fun e => by
         rw [show g = G from e, hcg] at hc'
         injection hc' with hc'
         injection hc' with _ hc'
         exact absurd hc' (by decide))
       have hn3 := Num3.set hcg (by decide) k0 (.string p.f1)
       exact ⟨k0 + 1, congrArg (Value.int .i64) (w64s HKM.out), ⟨hkk0.out, by rw [← HPE.out] at hput; exact hput, HBC.out.2.1.setCell hGb _, HBC.out.2.2.1.frame hn3 (hne HBC.out.2.2.1), HBC.out.2.2.2.frame hn3 (hne HBC.out.2.2.2)⟩⟩
     ·rw [if_neg hpn] at hpe
      have HPE := jo hpe
      have hpl : 0 < p.f0.length := List.length_pos_iff.2 hpn
      have b0 : ((p.f0.length : Int) == 0) = false := beq_eq_false_iff_ne.2 (fun e => Nat.lt_irrefl 0 (by rw [Int.ofNat_eq_zero.1 e] at hpl; exact hpl))
      clear hpn hpe
      go_wp2
      go_roundg gq0
      case measure => exact Nat.lt_succ_self _
      case rel => exact ⟨k0 + 1, congrArg (Value.int .i64) (w64s HKM.out), ⟨hkk0.out, by rw [← HOS.out.2 HPE.out.symm]; exact HBC.out.1, HBC.out.2⟩⟩
  ·have d1 : decide ((k0 : Int) < (n : Int)) = false := decide_eq_false (fun e => hlt (Int.ofNat_lt.1 e))
   have d2 : decide (k0 < n) = false := decide_eq_false hlt
   have e1 : k0 = n := kk_end HA.out.1 hlt
   have ha := HA.out.2
   rw [e1] at ha
   have HB := jo ha
   clear HA ha e1 hlt
   go_wp2
   go_ret2
   have h9 := HB.out.1
   have e9 : outK res F n n = F.map (solF res) := by unfold outK; rw [← HFL.out.1, List.take_length, Nat.sub_self]; simp
   rw [e9, HF.out] at h9
   exact ⟨U, st, s, s', res, _, rfl, HSOL.out.1, HSOL.out.2, h9, HB.out.2.1⟩
end Go.Proofs.YtjmooillogojkaaGreat.Q
