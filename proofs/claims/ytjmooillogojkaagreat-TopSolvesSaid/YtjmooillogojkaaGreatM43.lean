/- gauss.Solve walked; Plain: blocks of one size as a group; the sum of the blocks whose numbers stand in a row of bits. No condition. -/
import Derived.Test.YtjmooillogojkaaGreatM25
set_option maxHeartbeats 8000000
set_option maxRecDepth 100000
set_option linter.unusedVariables false
set_option linter.unusedSimpArgs false
namespace Go.Proofs.YtjmooillogojkaaGreat.Q
open Go.RowKit Go.Proofs.YtjmooillogojkaaGreatW.PrintWords Go.Proofs.YtjmooillogojkaaGreatW.PrintLast Go.Proofs.YtjmooillogojkaaGreatW.PrintMore
open Go.Proofs.YtjmooillogojkaaGreat Lin
def gPut (o : List ByteArray) (s : Side) : List ByteArray := if (bitsTo s.1 160).length = 1 then o.set ((bitsTo s.1 160).headD 0).toNat s.2 else o
def gOut (n : Nat) (left : List Side) : List ByteArray := left.foldl gPut (List.replicate n ⟨#[]⟩)
theorem gPut_length (o : List ByteArray) (s : Side) : (gPut o s).length = o.length := by
 unfold gPut
 split
 ·exact List.length_set
 ·rfl
theorem gFold_length (l : List Side) : ∀ o : List ByteArray, (l.foldl gPut o).length = o.length := by
 induction l with
 | nil => exact fun _ => rfl
 | cons s l ih => exact fun o => (ih _).trans (gPut_length _ _)
theorem gOut_length (n : Nat) (l : List Side) : (gOut n l).length = n := by
 unfold gOut
 rw [gFold_length, List.length_replicate]
theorem bitsTo_mem {x k : Nat} {i : Int} (h : i ∈ bitsTo x k) : ∃ j : Nat, i = j ∧ j < k ∧ x.testBit j = true := by
 unfold bitsTo at h
 obtain ⟨j, hj, rfl⟩ := List.mem_map.1 h
 obtain ⟨h1, h2⟩ := List.mem_filter.1 hj
 exact ⟨j, rfl, List.mem_range.1 h1, h2⟩
theorem one_elem {l : List Int} (h : l.length = 1) : l = [l.headD 0] := by
 match l, h with
 | [x], _ => rfl
theorem pside20 {B sz : Nat} {w : World} (h1 : 1 ≤ sz) (h2 : sz ≤ 64) (hc : w.heap[B]? = some (.cells #[.int .i64 sz] 3 (0, 0))) (l : List Side) (hl : ∀ s ∈ l, s.2 = zeros sz) : PredSide 20 #[.pointer (some ⟨B, 0, none⟩)] (fun _ => false) l w := by
 intro W j hj hb
 have hs := hl l[j] (List.getElem_mem hj)
 obtain ⟨y, hy⟩ : ∃ y, y = l[j] := ⟨_, rfl⟩
 rw [← hy] at hs ⊢
 clear hy hl
 obtain ⟨x, z⟩ := y
 simp only at hs
 have HZ := jo (zero_spec h1 h2)
 rw [← hs] at HZ
 clear hs
 have hbc := blk_below hc hb
 have hcz : W.cell? ⟨B, 0, none⟩ = some (.int .i64 sz) := blk_cell hbc 0
 have HB := jo hb
 clear hb hc hbc
 unfold sideV
 show Calls Tryz.prog 20 #[.agg #[.int .u64 (gw x 0), .int .u64 (gw x 1), .int .u64 (gw x 2), .string z], .pointer (some ⟨B, 0, none⟩)] W _
 go_enter Tryz.func20, Tryz.ntmps20
 go_wp2_with fail
 have f3 : (W.alloc (.cells #[.int .u64 (gw x 0), .int .u64 (gw x 1), .int .u64 (gw x 2), .string z] 74)).drew.cell? ⟨W.heap.size, 3, none⟩ = some (.string z) := blk_cell (w := (W.alloc (.cells #[.int .u64 (gw x 0), .int .u64 (gw x 1), .int .u64 (gw x 2), .string z] 74)).drew) (blk_new W _) 3
 have fz : (W.alloc (.cells #[.int .u64 (gw x 0), .int .u64 (gw x 1), .int .u64 (gw x 2), .string z] 74)).drew.cell? ⟨B, 0, none⟩ = some (.int .i64 sz) := pw_cell_below (below_drew (below_alloc (Below.refl _ _) _)) hcz
 have HB1 := jo (below_alloc HB.out (.cells #[.int .u64 (gw x 0), .int .u64 (gw x 1), .int .u64 (gw x 2), .string z] 74))
 obtain ⟨g, hg⟩ : ∃ g, g = W.heap.size := ⟨_, rfl⟩
 rw [← hg] at f3 ⊢
 clear hg HB hcz
 generalize W.alloc (.cells #[.int .u64 (gw x 0), .int .u64 (gw x 1), .int .u64 (gw x 2), .string z] 74) = W1 at f3 fz HB1 ⊢
 refine st_ (S := fun w' => w'.cell? ⟨g, 3, none⟩ = some (.string z) ∧ w'.cell? ⟨B, 0, none⟩ = some (.int .i64 sz)) (ds := []) 6 ⟨f3, fz⟩ (fun hHeld => ?_)
 refine td_ [0] ?_
 repeat (first | refine pp_ ?_ | refine po_ ?_)
 refine tn_ ?_
 refine td_ [1, 2] ?_
 repeat (refine pt_ hHeld ?_)
 refine tn_ ?_
 refine on_ 3 (fun K hK => ?_)
 refine gs_ Tryz.func21 #[.int .i64 (sz : Int)] ?_
 with_reducible refine ((block_Zero.calls _ _ _ HZ.out)).mono ?_
 rintro e w6 ⟨rfl, hb6⟩
 refine ⟨_, rfl, ?_⟩
 have HB6 := jo hb6
 have z0 := pw_cell_below hb6 hHeld.1
 have z1 := pw_cell_below hb6 hHeld.2
 clear hb6
 refine hK.out _ _ ⟨z0, z1⟩ (fun hHeld => ?_)
 clear hK K
 refine nm_ (some 7) ?_
 refine td_ [4, 5] ?_
 repeat (first | refine pp_ ?_ | refine po_ ?_)
 refine tn_ ?_
 refine dn_ ?_
 go_wp2
 go_ret
 exact ⟨by simp, below_step HB1.out (below_step (below_drew (Below.refl _ _)) HB6.out)⟩
theorem OV.slice {w : World} {base : Nat} {v : Value} {l : List Side} (h : OV w base v l) : ∃ A c, v = .slice A l.length c := by
 rcases h.cases with ⟨rfl, rfl⟩ | ⟨g, cap, rfl, _⟩
 ·exact ⟨none, 0, rfl⟩
 ·exact ⟨_, _, rfl⟩
theorem OV.lower {w : World} {base base' : Nat} {v : Value} {l : List Side} (h : OV w base v l) (hb : base' ≤ base) : OV w base' v l := own_weaken h hb
theorem OV.at {w : World} {base n c : Nat} {A : Option Addr} {l : List Side} (h : OV w base (.slice A n c) l) (hl : 0 < l.length) : ∃ g, A = some ⟨g, 0, none⟩ ∧ base ≤ g ∧ SR w g c l := by
 rcases h.cases with ⟨_, rfl⟩ | ⟨g, cap, e, hb, hs⟩
 ·exact absurd hl (by simp)
 ·injection e with e1 e2 e3
  subst e3
  exact ⟨g, e1, hb, hs⟩
theorem con_ov {g base : Nat} {lb : Array Value} (eg : Enters Tryz.prog g) {v : Value} {l : List Side} {w : World} (h : OV w base v l) (hm : l.length ≤ 100000) (hp : PredSide g lb (fun _ => false) l w) :
  Calls Tryz.prog 19 #[v, .func (.func g) #[] lb] w fun e w' => e = .returned (.bool false) ∧ Below w.heap.size w w' := by
 rcases h.cases with ⟨rfl, rfl⟩ | ⟨g', cap, rfl, _, hs⟩
 ·exact con_none w
 ·have := con_side eg hs hm hp
  rwa [any_false (fun _ _ => rfl)] at this
theorem lens5 {a b c : Nat} (h : a + b = c) (hc : c ≤ 400) : b ≤ 100000 := by omega
theorem gsolve_ok {A : Option Addr} {c n sz : Nat} {l : List S62} (w : World) (hr : Kd.C k62 w A l.length l) (hc : l.length ≤ c) (h : rowsOk n (l.map (·.f0))) (h1 : 1 ≤ sz) (h2 : sz ≤ 64) (hd : ∀ x ∈ l, x.f1.size = sz) (h0 : 0 < l.length) (hn : 1 ≤ n)
  (hz : ∀ s ∈ (redN xop (l.map toSide) n).2, s.1 = 0 ∧ s.2 = zeros sz) (hlt : ∀ s ∈ (redN xop (l.map toSide) n).1, s.1 < 2 ^ n) :
  Calls Tryz.prog 7 #[.int .i64 n, .int .i64 sz, .slice A l.length c] w fun e w' => ∃ v, e = .returned (.tuple #[v, .int .i64 0]) ∧ Kd.R Kd.string 9 w' w.heap.size (fun _ => True) v (gOut n (redN xop (l.map toSide) n).1) ∧ Below w.heap.size w w' := by
 have HQ := jo (fun W (hb : Below w.heap.size w W) => geqns_ok W (Kd.C_below hr hb) hc h h1 h2 hd)
 have hn160 : n ≤ 160 := by have := h.2.1; omega
 have hll : l.length ≤ 400 := by have := h.2.2.1; rwa [List.length_map] at this
 have hlm : (l.map toSide).length = l.length := List.length_map _
 have HRD := jo (fun (W : World) g cap (hs : SR W g cap (l.map toSide)) => reduce_ok (n := n) (m := sz) hs (by rw [hlm]; exact h0) (by rw [hlm]; omega) hn160 (fun s hs => by obtain ⟨x, hx, rfl⟩ := List.mem_map.1 hs; exact hd x hx) (by omega) (fun s hs => (hz s hs).1))
 have HP := jo (fun (W : World) B (hc : W.heap[B]? = some (Obj.cells #[.int .i64 sz] 3 (0, 0))) => pside20 h1 h2 hc (redN xop (l.map toSide) n).2 (fun s hs => (hz s hs).2))
 have HLE := jo (redN_len (l.map toSide) n)
 rw [hlm] at HRD HLE
 have e20 := enters_of (P := Tryz.prog) (f := 20) Tryz.func20 jw rfl
 have HLT := jo hlt
 have HN := jo (And.intro hn (And.intro hn160 hll))
 obtain ⟨rd, hrd⟩ : ∃ rd, rd = redN xop (l.map toSide) n := ⟨_, rfl⟩
 rw [← hrd] at HRD HP HLE HLT ⊢
 obtain ⟨out, em⟩ := rd
 dsimp only at HRD HP HLE HLT ⊢
 clear hr h hd hz hlt hrd
 go_enter Tryz.func7, Tryz.ntmps7
 go_wp2_with fail
 (with_reducible refine (HQ.out _ (below_alloc (Below.refl _ _) _)).mono ?_)
 rintro e w1 ⟨v1, rfl, hov, hb1⟩
 obtain ⟨g1, c1, rfl, hg1, hs1⟩ := SR.of hov (by rw [hlm]; exact h0)
 have hk1 := blk_below (blk_new w (.cells #[.int .i64 sz] 3)) hb1
 have HB1 := jo (below_step (below_alloc (Below.refl w.heap.size w) (.cells #[.int .i64 sz] 3)) hb1)
 have HS1 := jo (And.intro hs1 hk1)
 rw [hlm]
 clear hov hb1 hs1 hk1 HQ hg1
 go_wp2_with (first | (go_at_call 18; (with_reducible refine (HRD.out _ _ _ HS1.out.1).mono ?_); rintro e w2 ⟨v4, v5, rfl, ho4, ho5, hb2⟩; obtain ⟨A4, c4, e4⟩ := OV.slice ho4; subst e4; have H2 := jo (And.intro (OV.lower ho4 HB1.out.size) (And.intro ho5 (And.intro (blk_below HS1.out.2 hb2) (below_step HB1.out hb2)))); clear ho4 ho5 hb2) | (go_at_call 19; (with_reducible refine (con_ov e20 H2.out.2.1 (lens5 HLE.out.1 hll) (HP.out _ _ H2.out.2.2.1)).mono ?_); rintro e w3 ⟨rfl, hb3⟩; have H3 := jo (And.intro (H2.out.1.below hb3) (below_step H2.out.2.2.2 hb3)); clear hb3) | ((with_reducible refine gate_dst (N := 35) rfl ?_); refine Kd.R_make Kd.string (w0 := w) w.heap.size 9 rfl (N := 35) rfl 31 _ _ rfl (n : Int) rfl rfl Tryz.underlying31 (.string ⟨#[]⟩) 16 info9 rfl (by decide) (by omega) ⟨#[]⟩ (ok := fun _ => True) (okp := fun _ => True) rfl (fun _ hk => hk) trivial (by omega) (by rw [Int.toNat_natCast]; have := HN.out; omega) H3.out.2 H3.out.2.size ?_; intro v35 w4 ho hb hg hat; rw [Int.toNat_natCast] at ho; have HO := jo (And.intro ho (And.intro hb (And.intro (H3.out.1.below (below_grown0 hg)) hat))); clear ho hb hg hat))
 obtain ⟨G, cG, ev, hGb, hGl, _⟩ := Kd.R_form HO.out.1 (by rw [List.length_replicate]; exact hn)
 rw [List.length_replicate] at ev
 subst ev
 clear hGb hGl
 go_loopg [14, 15, 38] out.length (fun gk v14 v15 v38 wr => ∃ k : Nat, v38 = .int .i64 k ∧ Aside0 (k + gk = out.length ∧ OV wr w.heap.size (.slice A4 out.length c4) out ∧ Kd.R Kd.string 9 wr w.heap.size (fun _ => True) (.slice (some ⟨G, 0, none⟩) n cG) ((out.take k).foldl gPut (List.replicate n ⟨#[]⟩)) ∧ Below w.heap.size w wr))
 case atStart => exact ⟨0, rfl, ⟨by omega, HO.out.2.2.1, HO.out.1, HO.out.2.1⟩⟩
 case round =>
  obtain ⟨k, rfl, HA⟩ := hrel
  clear HO H3 H2 HB1 HS1
  by_cases hlt : k < out.length
  ·have d1 : decide ((k : Int) < (out.length : Int)) = true := decide_eq_true (by omega)
   have d2 : decide (k < out.length) = true := decide_eq_true hlt
   have d3 : (k : Int) < (out.length : Int) := by omega
   have hkm : k ≤ 100000 := by have := HLE.out.2; have := HN.out; omega
   obtain ⟨gq, rfl⟩ : ∃ q, gk = q + 1 := ⟨gk - 1, by have := HA.out.1; omega⟩
   obtain ⟨g4, rfl, hg4, hs4⟩ := HA.out.2.1.at (by omega)
   have hcr := hs4.cells hlt
   have hxl := HLT.out out[k] (List.getElem_mem hlt)
   have htk : (out.take (k + 1)).foldl gPut (List.replicate n ⟨#[]⟩) = gPut ((out.take k).foldl gPut (List.replicate n ⟨#[]⟩)) out[k] := by rw [List.take_succ_eq_append_getElem hlt, List.foldl_append]; rfl
   obtain ⟨y, hy⟩ : ∃ y, y = out[k] := ⟨_, rfl⟩
   rw [← hy] at hcr hxl htk
   obtain ⟨x, b⟩ := y
   have c0 : wr.cell? ⟨g4, k * 4, none⟩ = some (.int .u64 (gw x 0)) := hcr 0 (by decide)
   have c1 : wr.cell? ⟨g4, k * 4 + 1, none⟩ = some (.int .u64 (gw x 1)) := hcr 1 (by decide)
   have c2 : wr.cell? ⟨g4, k * 4 + 2, none⟩ = some (.int .u64 (gw x 2)) := hcr 2 (by decide)
   have c3 : wr.cell? ⟨g4, k * 4 + 3, none⟩ = some (.string b) := hcr 3 (by decide)
   obtain ⟨acc, hacc⟩ : ∃ acc, acc = (out.take k).foldl gPut (List.replicate n ⟨#[]⟩) := ⟨_, rfl⟩
   have hal : acc.length = n := by rw [hacc, gFold_length, List.length_replicate]
   have hR := HA.out.2.2.1
   rw [← hacc] at htk hR
   have hne : some g4 ≠ (Value.slice (some ⟨G, 0, none⟩) n cG).ownBlock := by
    obtain ⟨cur, hh, _⟩ := hs4.cur
    exact Kd.R_ne hR hh (by decide)
   have HLI : Aside0 (∀ W, Calls Tryz.prog 22 #[.agg #[.int .u64 (gw x 0), .int .u64 (gw x 1), .int .u64 (gw x 2)]] W fun e w' => ∃ v : Value, e = .returned v ∧ Kd.R (Kd.int .i64) 3 w' W.heap.size (fun _ => True) v (bitsTo x 160) ∧ Below W.heap.size W w') := ⟨fun W => list_ok x W⟩
   have HT := jo (And.intro htk (And.intro hal (And.intro hne hxl)))
   have HR := jo hR
   have HAB := jo (And.intro HA.out.1 (And.intro HA.out.2.1 HA.out.2.2.2))
   clear hcr htk hal hne hxl hy hacc hR hs4 hg4 HA
   by_cases hone : (bitsTo x 160).length = 1
   ·have b1 : (((bitsTo x 160).length : Int) == 1) = true := by rw [hone]; rfl
    have b2 : ((bitsTo x 160).length == 1) = true := by rw [hone]; rfl
    go_wp2_with (go_at_call 22; (with_reducible refine (HLI.out _).mono ?_); rintro e w5 ⟨v5, rfl, ho5, hb5⟩; obtain ⟨A5, c5, e5⟩ := Kd.R_slice ho5; subst e5; have H5 := jo (And.intro ho5 (And.intro (below_step (below_alloc (Below.refl wr.heap.size wr) (.cells #[.int .u64 (gw x 0), .int .u64 (gw x 1), .int .u64 (gw x 2), .string b] 74)) hb5) (blk_below (blk_new wr (.cells #[.int .u64 (gw x 0), .int .u64 (gw x 1), .int .u64 (gw x 2), .string b] 74)) hb5))); clear ho5 hb5)
    obtain ⟨jz, hjz⟩ : ∃ jz, jz = (bitsTo x 160).headD 0 := ⟨_, rfl⟩
    have hbe : bitsTo x 160 = [jz] := by rw [hjz]; exact one_elem hone
    obtain ⟨j, rfl, hj160, hjt⟩ := bitsTo_mem (i := jz) (x := x) (k := 160) (by rw [hbe]; exact List.mem_singleton.2 rfl)
    have hjn : j < n := by
     rcases Nat.lt_or_ge j n with h | h
     ·exact h
     ·rw [Nat.testBit_lt_two_pow (Nat.lt_of_lt_of_le HT.out.2.2.2 (Nat.pow_le_pow_right (by decide) h))] at hjt
      exact absurd hjt (by decide)
    have hgp : gPut acc (x, b) = acc.set j b := by
     unfold gPut
     simp only
     rw [if_pos hone, ← hjz, Int.toNat_natCast]
    have h5 := H5.out.1
    rw [hbe] at h5
    obtain ⟨gm, cm, em', _, _, _⟩ := Kd.R_form h5 (by simp)
    injection em' with em1 em2 em3
    subst em1 em3
    have hm0 := (Kd.R_celln 0 h5 0 (by decide) (by simp)).1
    have hbx := H5.out.2.2
    have hR5 := Kd.R_below HR.out H5.out.2.1
    obtain ⟨hG1, hG2⟩ := Kd.R_celln (⟨#[]⟩ : ByteArray) hR5 (j : Int) (by omega) (by omega)
    rw [Int.toNat_natCast] at hG1 hG2
    have hput := Kd.R_putn (show Kd.R Kd.string 9 w5.drew w.heap.size (fun _ => True) _ acc from Kd.R_drew hR5) (j : Int) b
    rw [Int.toNat_natCast] at hput
    have m0 : w5.drew.cell? ⟨gm, 0, none⟩ = some (.int .i64 j) := hm0
    have m1 : w5.drew.cell? ⟨wr.heap.size, 3, none⟩ = some (.string b) := blk_cell (w := w5.drew) hbx 3
    generalize rdOf (⟨#[]⟩ : ByteArray) acc (j : Int) = old at hG1
    have m2 : w5.drew.cell? ⟨G, j, none⟩ = some (.string old) := hG1
    have m3 : w5.drew.frozen? ⟨G, j, none⟩ = false := hG2
    have hji : (j : Int) < (n : Int) := by omega
    have wj : wrap64 (j : Int) = (j : Int) := Deg.w64 (by omega) (by omega)
    obtain ⟨Bx, hBx⟩ : ∃ Bx, Bx = wr.heap.size := ⟨_, rfl⟩
    rw [← hBx] at m1 ⊢
    have HP2 := jo (And.intro hput hgp)
    clear hput hgp hm0 hbx hR5 hG1 hG2 h5 hbe hjt hBx hjz hone b1 b2 hj160
    refine st_ (S := fun w' => w'.cell? ⟨gm, 0, none⟩ = some (.int .i64 j) ∧ w'.cell? ⟨Bx, 3, none⟩ = some (.string b) ∧ w'.cell? ⟨G, j, none⟩ = some (.string old)) (ds := [7]) 8 ⟨m0, m1, m2⟩ (fun hHeld => ?_)
    refine td_ [0, 1, 2, 4] ?_
    repeat (first | refine pp_ ?_ | refine po_ ?_)
    refine tn_ ?_
    refine td_ [3, 5] ?_
    repeat (refine pt_ hHeld ?_)
    refine tn_ ?_
    refine td_ [6] ?_
    repeat (first | refine pp_ ?_ | refine po_ ?_)
    refine tn_ ?_
    refine la_ 7 (fun K hK => ?_)
    refine skip_ (w1 := w5.drew.setCell ⟨G, j, none⟩ (.string b)) (by rfl) rfl ?_ ?_
    ·go_simp
    refine hK.out _ _ ?_
    clear hK K
    refine dn_ ?_
    go_wp2
    go_roundg gq
    case measure => omega
    case rel =>
     have hb7 : Below w5.heap.size w5 w5.drew := below_drew (Below.refl _ _)
     refine ⟨k + 1, rfl, ⟨by have := HAB.out.1; clear HP2 H5; omega, ?_, ?_, ?_⟩⟩
     ·have h6 := (HAB.out.2.1.below H5.out.2.1).below hb7
      exact own_move h6 (fun q hq => Below.heap_setCell w5.drew ⟨G, j, none⟩ _ q (fun e => HT.out.2.2.1 (by rw [show q = G from e] at hq; exact hq)))
     ·rw [HT.out.1, HP2.out.2]
      exact HP2.out.1
     ·exact (below_step (below_step HAB.out.2.2 H5.out.2.1) hb7).setCell (by have := (Kd.R_form HR.out (by rw [HT.out.2.1]; exact HN.out.1)); obtain ⟨G', c', e', hb', _⟩ := this; injection e' with e1 e2 e3; injection e1 with e1; injection e1 with e1 e4; rw [e1]; exact hb') _
   ·have b1 : (((bitsTo x 160).length : Int) == 1) = false := beq_eq_false_iff_ne.2 (by omega)
    have b2 : ((bitsTo x 160).length == 1) = false := beq_eq_false_iff_ne.2 hone
    have hgp : gPut acc (x, b) = acc := by
     unfold gPut
     rw [if_neg hone]
    have HGP := jo hgp
    clear hgp
    go_wp2_with (go_at_call 22; (with_reducible refine (HLI.out _).mono ?_); rintro e w5 ⟨v5, rfl, ho5, hb5⟩; obtain ⟨A5, c5, e5⟩ := Kd.R_slice ho5; subst e5; have H5 := jo (below_step (below_alloc (Below.refl wr.heap.size wr) (.cells #[.int .u64 (gw x 0), .int .u64 (gw x 1), .int .u64 (gw x 2), .string b] 74)) hb5); clear ho5 hb5)
    go_roundg gq
    case measure => omega
    case rel => exact ⟨k + 1, rfl, ⟨by have := HAB.out.1; clear H5; omega, HAB.out.2.1.below H5.out, by rw [HT.out.1, HGP.out]; exact Kd.R_below HR.out H5.out, below_step HAB.out.2.2 H5.out⟩⟩
  ·have d1 : decide ((k : Int) < (out.length : Int)) = false := decide_eq_false (by omega)
   have d2 : decide (k < out.length) = false := decide_eq_false hlt
   have e1 : k = out.length := by have := HA.out.1; omega
   have ha := HA.out.2.2
   rw [e1, List.take_length] at ha
   have HF := jo ha
   clear HA ha
   go_wp2
   go_ret2
   exact ⟨_, rfl, HF.out.1, HF.out.2⟩
end Go.Proofs.YtjmooillogojkaaGreat.Q
namespace Go.Proofs.YtjmooillogojkaaGreat.Q
open Go.Proofs.YtjmooillogojkaaGreatW.PrintWords
open Go.Proofs.YtjmooillogojkaaGreat
open Go.Proofs.YtjmooillogojkaaGreat.Lin
theorem u8_comm (x y : UInt8) : x ^^^ y = y ^^^ x := UInt8.xor_comm x y
theorem xorL_comm : ∀ {a b : List UInt8}, a.length = b.length → xorL a b = xorL b a
 | [], [], _ => rfl
 | x :: a, y :: b, h => by
  simp only [xorL]
  rw [u8_comm, xorL_comm (by simpa using h)]
theorem xorL_assoc : ∀ {a b c : List UInt8}, a.length = b.length → b.length = c.length → xorL (xorL a b) c = xorL a (xorL b c)
 | [], [], [], _, _ => rfl
 | x :: a, y :: b, z :: c, h, h2 => by
  simp only [xorL]
  rw [UInt8.xor_assoc, xorL_assoc (by simpa using h) (by simpa using h2)]
theorem xorL_self : ∀ (a : List UInt8), xorL a a = List.replicate a.length 0
 | [] => rfl
 | x :: a => by
  simp only [xorL, List.length_cons, List.replicate_succ]
  rw [UInt8.xor_self, xorL_self a]
theorem xorL_zero : ∀ (a : List UInt8), xorL a (List.replicate a.length 0) = a
 | [] => rfl
 | x :: a => by
  simp only [xorL, List.length_cons, List.replicate_succ]
  rw [UInt8.xor_zero, xorL_zero a]
theorem zeros_list : ∀ n, Lib.repeatL (⟨#[0]⟩ : ByteArray).data.toList n = List.replicate n 0
 | 0 => rfl
 | n + 1 => by
  show (0 : UInt8) :: Lib.repeatL [0] n = _
  rw [List.replicate_succ, ← zeros_list n]
theorem zeros_eq (n : Nat) : zeros n = ⟨(List.replicate n 0).toArray⟩ := by
 unfold zeros
 rw [zeros_list]
theorem xop_eq {a b : ByteArray} {m : Nat} (ha : a.size = m) (hb : b.size = m) : xop a b = xorB a b := by
 unfold xop block_XorR
 rw [if_pos (by omega)]
theorem ba_len (a : ByteArray) : a.data.toList.length = a.size := Array.length_toList
theorem xop_comm {a b : ByteArray} {m : Nat} (ha : a.size = m) (hb : b.size = m) : xop a b = xop b a := by
 rw [xop_eq ha hb, xop_eq hb ha]
 unfold xorB
 rw [xorL_comm (by rw [ba_len, ba_len, ha, hb])]
theorem xop_assoc {a b c : ByteArray} {m : Nat} (ha : a.size = m) (hb : b.size = m) (hc : c.size = m) : xop (xop a b) c = xop a (xop b c) := by
 rw [xop_eq (xop_size ha hb) hc, xop_eq ha (xop_size hb hc), xop_eq ha hb, xop_eq hb hc]
 unfold xorB
 simp only
 rw [xorL_assoc (by rw [ba_len, ba_len, ha, hb]) (by rw [ba_len, ba_len, hb, hc])]
theorem xop_self {a : ByteArray} {m : Nat} (ha : a.size = m) : xop a a = zeros m := by
 rw [xop_eq ha ha, zeros_eq]
 unfold xorB
 rw [xorL_self, ba_len, ha]
theorem xop_zero {a : ByteArray} {m : Nat} (ha : a.size = m) : xop a (zeros m) = a := by
 rw [xop_eq ha (zeros_size m), zeros_eq]
 unfold xorB
 simp only
 have := xorL_zero a.data.toList
 rw [ba_len, ha] at this
 rw [this]
theorem zero_xop {a : ByteArray} {m : Nat} (ha : a.size = m) : xop (zeros m) a = a := by rw [xop_comm (zeros_size m) ha, xop_zero ha]
theorem xop_four {a b c d : ByteArray} {m : Nat} (ha : a.size = m) (hb : b.size = m) (hc : c.size = m) (hd : d.size = m) : xop (xop a b) (xop c d) = xop (xop a c) (xop b d) := by
 rw [xop_assoc ha hb (xop_size hc hd), ← xop_assoc hb hc hd, xop_comm hb hc, xop_assoc hc hb hd, ← xop_assoc ha hc (xop_size hb hd)]
def bsum (W : List ByteArray) (sz x : Nat) : Nat → ByteArray
 | 0 => zeros sz
 | k + 1 => if x.testBit k then xop (bsum W sz x k) (W.getD k (zeros sz)) else bsum W sz x k
theorem bsum_zero (W : List ByteArray) (sz : Nat) : ∀ k, bsum W sz 0 k = zeros sz
 | 0 => rfl
 | k + 1 => by
  unfold bsum
  rw [Nat.zero_testBit, if_neg (by decide), bsum_zero W sz k]
section
variable {W : List ByteArray} {sz : Nat} (hW : ∀ b ∈ W, b.size = sz)
include hW
theorem get_size (k : Nat) : (W.getD k (zeros sz)).size = sz := by
 rw [List.getD_eq_getElem?_getD]
 cases h : W[k]? with
 | none => exact zeros_size sz
 | some b => exact hW b (List.mem_of_getElem? h)
theorem bsum_size (x : Nat) : ∀ k, (bsum W sz x k).size = sz
 | 0 => zeros_size sz
 | k + 1 => by
  unfold bsum
  split
  ·exact xop_size (bsum_size x k) (get_size hW k)
  ·exact bsum_size x k
theorem bsum_xor (x y : Nat) : ∀ k, bsum W sz (x ^^^ y) k = xop (bsum W sz x k) (bsum W sz y k)
 | 0 => (xop_zero (zeros_size sz)).symm
 | k + 1 => by
  have h1 := bsum_size hW x k
  have h2 := bsum_size hW y k
  have h3 := get_size hW k
  unfold bsum
  rw [Nat.testBit_xor, bsum_xor x y k]
  cases x.testBit k <;> cases y.testBit k <;> simp only [Bool.false_xor, Bool.true_xor, Bool.not_true, Bool.not_false, if_true, if_false, Bool.false_eq_true]
  ·exact xop_assoc h1 h2 h3
  ·rw [xop_assoc h1 h2 h3, xop_comm h2 h3, ← xop_assoc h1 h3 h2]
  ·rw [xop_four h1 h3 h2 h3, xop_self h3, xop_zero (xop_size h1 h2)]
theorem bsum_pow (i : Nat) : ∀ k, bsum W sz (2 ^ i) k = if i < k then W.getD i (zeros sz) else zeros sz
 | 0 => rfl
 | k + 1 => by
  unfold bsum
  rw [bsum_pow i k, Nat.testBit_two_pow]
  by_cases e : i = k
  ·subst e
   rw [if_pos (decide_eq_true rfl), if_neg (Nat.lt_irrefl _), if_pos (Nat.lt_succ_self _), zero_xop (get_size hW i)]
  ·rw [if_neg (by simpa using e)]
   by_cases h : i < k
   ·rw [if_pos h, if_pos (Nat.lt_succ_of_lt h)]
   ·rw [if_neg h, if_neg (by omega)]
end
def SatB (W : List ByteArray) (sz : Nat) (x : Nat) (d : ByteArray) : Prop := d = bsum W sz x W.length
theorem SatB.xor {W : List ByteArray} {sz : Nat} (hW : ∀ b ∈ W, b.size = sz) {x y : Nat} {a b : ByteArray} (hx : SatB W sz x a) (hy : SatB W sz y b) : SatB W sz (x ^^^ y) (xop a b) := by
 unfold SatB at *
 rw [hx, hy, bsum_xor hW]
end Go.Proofs.YtjmooillogojkaaGreat.Q
