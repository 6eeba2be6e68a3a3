/- inner.Encode walked: the sum of a head's blocks, or the error; Printed by a changed copy of a printer, shortened by a program: what these functions answer: outer_in outer_Check outer_joins. No condition. -/
import Derived.Test.YtjmooillogojkaaGreatM34
set_option maxHeartbeats 8000000
set_option maxRecDepth 100000
set_option linter.unusedVariables false
set_option linter.unusedSimpArgs false
namespace Go.Proofs.YtjmooillogojkaaGreat.Q
open Go.RowKit Go.Proofs.YtjmooillogojkaaGreatW.PrintWords Go.Proofs.YtjmooillogojkaaGreatW.PrintLast Go.Proofs.YtjmooillogojkaaGreatW.PrintMore
open Go.Proofs.YtjmooillogojkaaGreat Plain Deg
def getsL (W : List ByteArray) (l : List Int) : List ByteArray := l.map (fun i => W.getD i.toNat ⟨#[]⟩)
theorem getsL_length (W : List ByteArray) (l : List Int) : (getsL W l).length = l.length := by simp [getsL]
theorem getsL_snoc (W : List ByteArray) (l : List Int) {j : Nat} (hj : j < l.length) : getsL W (l.take (j + 1)) = getsL W (l.take j) ++ [W.getD (l[j]).toNat ⟨#[]⟩] := by
 unfold getsL
 rw [List.take_succ_eq_append_getElem hj, List.map_append]
 rfl
theorem getsL_size {W : List ByteArray} {n : Int} (hs : ∀ s ∈ W, (s.size : Int) = n) {l : List Int} (hl : ∀ i ∈ l, 0 ≤ i ∧ i < (W.length : Int)) : ∀ s ∈ getsL W l, (s.size : Int) = n := by
 intro s hs'
 obtain ⟨i, hi, rfl⟩ := List.mem_map.1 hs'
 have := hl i hi
 obtain ⟨k, rfl⟩ := Int.eq_ofNat_of_zero_le this.1
 have hk : k < W.length := by omega
 rw [Int.toNat_natCast, List.getD_eq_getElem?_getD, List.getElem?_eq_getElem hk]
 exact hs _ (List.getElem_mem hk)
theorem sum_yes {l : List ByteArray} {n : Int} (h1 : 1 ≤ n) (h2 : n ≤ 64) (h : ∀ s ∈ l, (s.size : Int) = n) : block_Sum.f l n = some (sumB n.toNat l, 0) := by
 unfold block_Sum.f block_SumR
 have h3 : l.any (fun s => (s.size : Int) != n) = false := by
  rw [List.any_eq_false]
  intro x hx
  simp [h x hx]
 rw [if_pos ⟨h1, h2, h3⟩]
theorem Encode_no {m : MF} {h : HD} (hm : m.may) (hr : m.root.size = 32) (hs : h.have_.size ≤ 100) (he : errH m h = 3) (A : Option Addr) (c n : Nat) (w : World) :
  Calls Tryz.prog 13 #[m.v, h.v, .slice A n c] w fun e w' => e = .returned (.tuple #[.string ⟨#[]⟩, .int .i64 3]) ∧ Below w.heap.size w w' := by
 have HX := jo (fun W => Index_no hm hr hs he W)
 clear he hm hr hs
 unfold MF.v HD.v
 unfold MF.v HD.v at HX
 obtain ⟨m0, m1, m2, m3, m4, m5, m6, m7⟩ := m
 obtain ⟨h0, h1, h2⟩ := h
 simp only at *
 have b1 : Below w.heap.size w ((w.alloc (.cells #[.int .i64 m0, .int .i64 m1, .int .i64 m2, .int .i64 m3, .int .i64 m4, .int .i64 m5, .int .i64 m6, .string m7] 30)).alloc (.cells #[.int .i64 h0, .int .i64 h1, .string h2] 36)) := below_alloc (below_alloc (Below.refl _ _) _) _
 have k1 : ((w.alloc (.cells #[.int .i64 m0, .int .i64 m1, .int .i64 m2, .int .i64 m3, .int .i64 m4, .int .i64 m5, .int .i64 m6, .string m7] 30)).alloc (.cells #[.int .i64 h0, .int .i64 h1, .string h2] 36)).heap[w.heap.size]? = some (.cells #[.int .i64 m0, .int .i64 m1, .int .i64 m2, .int .i64 m3, .int .i64 m4, .int .i64 m5, .int .i64 m6, .string m7] 30 (0, 0)) := blk_alloc (blk_new w _) _
 have k2 : ((w.alloc (.cells #[.int .i64 m0, .int .i64 m1, .int .i64 m2, .int .i64 m3, .int .i64 m4, .int .i64 m5, .int .i64 m6, .string m7] 30)).alloc (.cells #[.int .i64 h0, .int .i64 h1, .string h2] 36)).heap[w.heap.size + 1]? = some (.cells #[.int .i64 h0, .int .i64 h1, .string h2] 36 (0, 0)) := by
  have := blk_new (w.alloc (.cells #[.int .i64 m0, .int .i64 m1, .int .i64 m2, .int .i64 m3, .int .i64 m4, .int .i64 m5, .int .i64 m6, .string m7] 30)) (.cells #[.int .i64 h0, .int .i64 h1, .string h2] 36)
  rw [World.size_alloc] at this
  exact this
 go_enter Tryz.func13, Tryz.ntmps13
 go_wp2_with fail
 generalize (w.alloc (.cells #[.int .i64 m0, .int .i64 m1, .int .i64 m2, .int .i64 m3, .int .i64 m4, .int .i64 m5, .int .i64 m6, .string m7] 30)).alloc (.cells #[.int .i64 h0, .int .i64 h1, .string h2] 36) = W1 at b1 k1 k2 ⊢
 with_reducible refine (HX.out W1).mono ?_
 rintro e w2 ⟨rfl, hb2⟩
 have H2 := jo (below_step b1 hb2)
 clear b1 k1 k2 hb2 HX
 go_wp2
 go_ret2
 exact ⟨rfl, H2.out⟩
theorem Encode_yes {m : MF} {h : HD} (hm : m.may) (hr : m.root.size = 32) (hs : h.have_.size ≤ 100) (he : errH m h = 0) {A : Option Addr} {c : Nat} {l : List ByteArray} (w : World) (hrl : Kd.C Kd.string w A l.length l) (hc : l.length ≤ c) (hl : (l.length : Int) = m.all) (z1 : 1 ≤ m.size) (z2 : m.size ≤ 64) (hz : ∀ s ∈ l, (s.size : Int) = m.size) :
  Calls Tryz.prog 13 #[m.v, h.v, .slice A l.length c] w fun e w' => e = .returned (.tuple #[.string (sumB m.size.toNat (getsL l (sortI (idxH m h)))), .int .i64 0]) ∧ Below w.heap.size w w' := by
 have HX := jo (fun W => Index_yes hm hr hs he W)
 have hh := (errH_spec hm hr h hs).2.2 he
 have hok := idxH_ok hm hh
 have HF := jo (fun W (hb : Below w.heap.size w W) => formed_ok hm hr W (Kd.C_below hrl hb) hc hl z1 hz)
 have HR := jo hrl
 obtain ⟨P, hP⟩ : ∃ P, P = sortI (idxH m h) := ⟨_, rfl⟩
 have hlen : P.length < 1000000 := by rw [hP, sortI_length]; exact idxH_len hm hh
 have hin : ∀ i ∈ P, 0 ≤ i ∧ i < (l.length : Int) := fun i hi => by
  rw [hP] at hi
  rw [hl]
  exact hok.2 i (sortI_mem.1 hi)
 rw [← hP] at HX ⊢
 have HS := jo (sum_yes (l := getsL l P) z1 z2 (getsL_size hz hin))
 have HIN := jo hin
 have HZ := jo (show ∀ s ∈ l, 0 < s.size from fun s hs => by have := hz s hs; omega)
 have HPL := jo hlen
 clear he hm hr hs hh hok hP hrl hl z1 z2 hz hin hlen
 generalize hout : sumB m.size.toNat (getsL l P) = out at HS ⊢
 clear hout
 unfold MF.v HD.v
 unfold MF.v HD.v at HX
 unfold MF.v at HF
 obtain ⟨m0, m1, m2, m3, m4, m5, m6, m7⟩ := m
 obtain ⟨h0, h1, h2⟩ := h
 simp only at *
 have b1 : Below w.heap.size w ((w.alloc (.cells #[.int .i64 m0, .int .i64 m1, .int .i64 m2, .int .i64 m3, .int .i64 m4, .int .i64 m5, .int .i64 m6, .string m7] 30)).alloc (.cells #[.int .i64 h0, .int .i64 h1, .string h2] 36)) := below_alloc (below_alloc (Below.refl _ _) _) _
 have k1 : ((w.alloc (.cells #[.int .i64 m0, .int .i64 m1, .int .i64 m2, .int .i64 m3, .int .i64 m4, .int .i64 m5, .int .i64 m6, .string m7] 30)).alloc (.cells #[.int .i64 h0, .int .i64 h1, .string h2] 36)).heap[w.heap.size]? = some (.cells #[.int .i64 m0, .int .i64 m1, .int .i64 m2, .int .i64 m3, .int .i64 m4, .int .i64 m5, .int .i64 m6, .string m7] 30 (0, 0)) := blk_alloc (blk_new w _) _
 have k2 : ((w.alloc (.cells #[.int .i64 m0, .int .i64 m1, .int .i64 m2, .int .i64 m3, .int .i64 m4, .int .i64 m5, .int .i64 m6, .string m7] 30)).alloc (.cells #[.int .i64 h0, .int .i64 h1, .string h2] 36)).heap[w.heap.size + 1]? = some (.cells #[.int .i64 h0, .int .i64 h1, .string h2] 36 (0, 0)) := by
  have := blk_new (w.alloc (.cells #[.int .i64 m0, .int .i64 m1, .int .i64 m2, .int .i64 m3, .int .i64 m4, .int .i64 m5, .int .i64 m6, .string m7] 30)) (.cells #[.int .i64 h0, .int .i64 h1, .string h2] 36)
  rw [World.size_alloc] at this
  exact this
 go_enter Tryz.func13, Tryz.ntmps13
 go_wp2_with fail
 generalize (w.alloc (.cells #[.int .i64 m0, .int .i64 m1, .int .i64 m2, .int .i64 m3, .int .i64 m4, .int .i64 m5, .int .i64 m6, .string m7] 30)).alloc (.cells #[.int .i64 h0, .int .i64 h1, .string h2] 36) = W1 at b1 k1 k2 ⊢
 with_reducible refine (HX.out W1).mono ?_
 rintro e w2 ⟨v, rfl, hj, hb2⟩
 obtain ⟨A8, c8, e8⟩ := J_slice hj
 subst e8
 have j8 := J_reads' hj
 have hB2 := below_step b1 hb2
 have j1 := blk_below k1 hb2
 have H2 := jo (And.intro hB2 (And.intro j8.2.1 (And.intro j8.2.2 j1)))
 have c0 : w2.cell? ⟨w.heap.size, 0, none⟩ = some (.int .i64 m0) := blk_cell j1 0
 have c1 : w2.cell? ⟨w.heap.size, 1, none⟩ = some (.int .i64 m1) := blk_cell j1 1
 have c2 : w2.cell? ⟨w.heap.size, 2, none⟩ = some (.int .i64 m2) := blk_cell j1 2
 have c3 : w2.cell? ⟨w.heap.size, 3, none⟩ = some (.int .i64 m3) := blk_cell j1 3
 have c4 : w2.cell? ⟨w.heap.size, 4, none⟩ = some (.int .i64 m4) := blk_cell j1 4
 have c5 : w2.cell? ⟨w.heap.size, 5, none⟩ = some (.int .i64 m5) := blk_cell j1 5
 have c6 : w2.cell? ⟨w.heap.size, 6, none⟩ = some (.int .i64 m6) := blk_cell j1 6
 have c7 : w2.cell? ⟨w.heap.size, 7, none⟩ = some (.string m7) := blk_cell j1 7
 clear b1 k1 k2 hb2 j1 HX hj j8 hB2
 go_wp2_with fail
 with_reducible refine (HF.out w2 H2.out.1).mono ?_
 rintro e w3 ⟨rfl, hb3⟩
 have H3 := jo (And.intro (below_step H2.out.1 hb3) (And.intro (Kd.C_below H2.out.2.2.1 hb3) (blk_below H2.out.2.2.2 hb3)))
 have H8 := jo H2.out.2.1
 clear hb3 HF H2
 clear c0 c1 c2 c3 c4 c5 c6 c7
 go_wp2
 go_loopg [10, 12, 30] P.length (fun gk v10 v12 v30 wr => ∃ j : Nat, v30 = .int .i64 j ∧ Aside0 (j + gk = P.length ∧ Below w3.heap.size w3 wr ∧ Kd.R Kd.string 9 wr w3.heap.size (fun _ => True) v10 (getsL l (P.take j))))
 case atStart => exact ⟨0, rfl, ⟨by omega, Below.refl _ _, Kd.R_nil _ _ _ _ _⟩⟩
 case round =>
  obtain ⟨j, rfl, HA⟩ := hrel
  by_cases hlt : j < P.length
  ·have a1 : decide ((j : Int) < (P.length : Int)) = true := decide_eq_true (by omega)
   have a2 : decide (j < P.length) = true := decide_eq_true hlt
   have a3 : (j : Int) < (P.length : Int) := by omega
   obtain ⟨gq, rfl⟩ : ∃ q, gk = q + 1 := ⟨gk - 1, by have := HA.out.1; omega⟩
   obtain ⟨ad, e8, hcell⟩ := Kd.at_int (Kd.C_below H3.out.2.1 HA.out.2.1) (j : Int) (by omega) (by omega)
   subst e8
   rw [rd_get hlt, Int.toNat_natCast] at hcell
   have hx0 := HIN.out P[j] (List.getElem_mem hlt)
   have hsn := getsL_snoc l P hlt
   have hgl : (getsL l (P.take j)).length ≤ 1000000 := by rw [getsL_length, List.length_take]; have := HPL.out; omega
   obtain ⟨x, hx⟩ : ∃ x, x = P[j] := ⟨_, rfl⟩
   rw [← hx] at hcell hx0 hsn
   obtain ⟨xn, rfl⟩ := Int.eq_ofNat_of_zero_le hx0.1
   have hxn : xn < l.length := by omega
   obtain ⟨aw, eA, hcw⟩ := Kd.at_string (Kd.C_below HR.out (below_step H3.out.1 HA.out.2.1)) (xn : Int) (by omega) hx0.2
   subst eA
   have hy0 : rdOf ByteArray.empty l (xn : Int) = l[xn] := by
    unfold rdOf
    rw [List.getD_eq_getElem?_getD, Int.toNat_natCast, List.getElem?_eq_getElem hxn]
    rfl
   rw [hy0, Int.toNat_natCast] at hcw
   have hne := nonempty (HZ.out l[xn] (List.getElem_mem hxn))
   rw [Int.toNat_natCast, List.getD_eq_getElem?_getD, List.getElem?_eq_getElem hxn, Option.getD_some] at hsn
   obtain ⟨y, hy⟩ : ∃ y, y = l[xn] := ⟨_, rfl⟩
   rw [← hy] at hcw hne hsn
   have hne2 : ¬ y.toList = [] := fun e => by rw [e] at hne; exact absurd hne (by decide)
   have a4 : decide ((xn : Int) < (l.length : Int)) = true := decide_eq_true hx0.2
   have a5 : decide (xn < l.length) = true := decide_eq_true hxn
   have a6 : (xn : Int) < (l.length : Int) := hx0.2
   have HSN := jo hsn
   have HB1 := jo HA.out.2.1
   have HO1 := jo HA.out.2.2
   have HK := jo HA.out.1
   have HGL := jo hgl
   obtain ⟨A10, c10, e10⟩ := Kd.R_slice HA.out.2.2
   subst e10
   have wi : wrap64 ((j : Int) + 1) = ((j + 1 : Nat) : Int) := by unfold wrap64; have := HPL.out; omega
   clear HA hsn hx hy hy0 hgl hx0
   go_wp2_with ((with_reducible refine gate_builtin (b := .append) (xs := #[.tmp 39, .tmp 44]) rfl ?_); at_builtin; refine Kd.R_append Kd.string (w0 := w3) w3.heap.size rfl (.tmp 39) (.tmp 44) 31 9 (.string ⟨#[]⟩) 16 rfl Tryz.underlying31 info9 rfl (by decide) (by omega) (.slice A10 (getsL l (P.take j)).length c10) (getsL l (P.take j)) y [.string y] (fun _ => True) (fun _ => False) rfl (rfl) ?aP (fun _ hk => hk.elim) ?aF ?aO ?aB ?aS ?aL ?_; (case aP => exact rfl); (case aB => exact (by repeat (first | (with_reducible first | exact HB1.out | apply below_alloc) | exact HB1.out))); (case aF => exact (fun _ _ => trivial)); (case aO => exact (jr HO1.out)); (case aS => exact (below_size (by repeat (first | (with_reducible first | exact HB1.out | apply below_alloc) | exact HB1.out)))); (case aL => have := HGL.out; omega); intro v5 w5 ho hb hg hat; rw [← HSN.out] at ho; have HO2 := jo ho; have HB2 := jo hb; clear ho hb hg hat)
   go_roundg gq
   case measure => omega
   case rel => exact ⟨j + 1, congrArg (Value.int .i64) wi, ⟨by have := HK.out; omega, HB2.out, HO2.out⟩⟩
  ·have a1 : decide ((j : Int) < (P.length : Int)) = false := decide_eq_false (by omega)
   have a2 : decide (j < P.length) = false := decide_eq_false hlt
   have a3 : ¬ (j : Int) < (P.length : Int) := by omega
   have hj : j = P.length := by have := HA.out.1; omega
   subst hj
   rw [List.take_length] at HA
   obtain ⟨A10, c10, e10⟩ := Kd.R_slice HA.out.2.2
   subst e10
   have hr10 := Kd.R_reads' HA.out.2.2
   have HQ := jo (block_Sum.calls _ _ _ _ _ _ wr hr10.2.2 hr10.2.1 HS.out)
   have HBR := jo (below_step H3.out.1 HA.out.2.1)
   have hk1 : wr.cell? ⟨w.heap.size, 1, none⟩ = some (.int .i64 m1) := blk_cell (blk_below H3.out.2.2 HA.out.2.1) 1
   clear HA hr10 HS
   go_wp2_with fail
   with_reducible refine HQ.out.mono ?_
   rintro e w9 ⟨rfl, hb9⟩
   have H9 := jo (below_step HBR.out hb9)
   clear hb9 hk1
   go_wp2
   go_ret2
   exact ⟨rfl, H9.out⟩
end Go.Proofs.YtjmooillogojkaaGreat.Q
namespace Go.Proofs.YtjmooillogojkaaGreat.Q
open Go.RowKit Go.Proofs.YtjmooillogojkaaGreatW.PrintWords Go.Proofs.YtjmooillogojkaaGreatW.PrintLast Go.Proofs.YtjmooillogojkaaGreatW.PrintMore
open Go.Proofs.YtjmooillogojkaaGreat
def outer_in.f (a0 : Int) (a1 : Int) (a2 : Int) : Option (Bool) := if a0 ≥ a1 then (some (decide (a0 ≤ a2))) else (some false)
theorem outer_in.calls (a0 : Int) (a1 : Int) (a2 : Int) (r : Bool) (w : World) (h : outer_in.f a0 a1 a2 = some r) :
  Calls Tryz.prog 84 #[.int .i64 a0, .int .i64 a1, .int .i64 a2] w fun e w' => e = .returned (.bool r) ∧ Drawn0 w w' := by
 have H : (if a0 ≥ a1 then (some (decide (a0 ≤ a2))) else (some false)) = some r := h
 clear h
 by_cases c4 : a0 ≥ a1
 ·rw [if_pos c4] at H
  have c4b0 : decide (a1 ≤ a0) = true := decide_eq_true c4
  clear c4
  obtain rfl := Option.some.inj H
  go_enter Tryz.func84, Tryz.ntmps84
  go_wp2
  go_ret
  exact ⟨by first | rfl | (simp; done) | (simp [*]; done), jd⟩
 ·rw [if_neg c4] at H
  have c4b0 : decide (a1 ≤ a0) = false := decide_eq_false c4
  clear c4
  obtain rfl := Option.some.inj H
  go_enter Tryz.func84, Tryz.ntmps84
  go_wp2
  go_ret
  exact ⟨by first | rfl | (simp; done) | (simp [*]; done), jd⟩
def outer_Check.f (a0_0 : Int) (a0_1 : Int) (a0_2 : Int) (a0_3 : Int) : Option (Bool) := (outer_in.f a0_0 0 72057594037927935).bind fun t112 => (if t112 = true then ((outer_in.f a0_1 1 96).bind fun t113 => (if t113 = true then ((outer_in.f a0_2 1 64).bind fun t114 => (if t114 = true then ((outer_in.f a0_3 1 8).bind fun t115 => (some t115)) else (some false))) else (some false))) else (some false))
theorem outer_Check.calls (a0_0 : Int) (a0_1 : Int) (a0_2 : Int) (a0_3 : Int) (r : Bool) (w : World) (h : outer_Check.f a0_0 a0_1 a0_2 a0_3 = some r) :
  Calls Tryz.prog 42 #[.agg #[.int .i64 a0_0, .int .i64 a0_1, .int .i64 a0_2, .int .i64 a0_3]] w fun e w' => e = .returned (.bool r) ∧ Below w.heap.size w w' := by
 unfold outer_Check.f at h
 have HH := jo h
 clear h
 have HB := jo (below_alloc (Below.refl w.heap.size w) (.cells #[.int .i64 a0_0, .int .i64 a0_1, .int .i64 a0_2, .int .i64 a0_3] 55))
 go_enter Tryz.func42, Tryz.ntmps42
 obtain ⟨t1, A1, H⟩ := Option.bind_eq_some_iff.mp HH.out
 have A1 := jo A1
 clear HH
 have HH := jo H
 clear H
 go_wp2_with fail
 (with_reducible refine (outer_in.calls _ _ _ _ _ A1.out).mono ?_)
 rintro e w2 ⟨rfl, ⟨n1, rfl⟩⟩
 by_cases e1 : t1 = true
 rotate_left
 ·obtain rfl : t1 = false := by simpa using e1
  obtain rfl := Option.some.inj HH.out
  go_wp2
  go_ret
  exact ⟨rfl, pw_below_drewN HB.out _⟩
 subst e1
 obtain ⟨t2, A2, H⟩ := Option.bind_eq_some_iff.mp HH.out
 have A2 := jo A2
 clear HH
 have HH := jo H
 clear H
 go_wp2_with fail
 (with_reducible refine (outer_in.calls _ _ _ _ _ A2.out).mono ?_)
 rintro e w2 ⟨rfl, ⟨n2, rfl⟩⟩
 by_cases e2 : t2 = true
 rotate_left
 ·obtain rfl : t2 = false := by simpa using e2
  obtain rfl := Option.some.inj HH.out
  go_wp2
  go_ret
  exact ⟨rfl, pw_below_drewN HB.out _⟩
 subst e2
 obtain ⟨t3, A3, H⟩ := Option.bind_eq_some_iff.mp HH.out
 have A3 := jo A3
 clear HH
 have HH := jo H
 clear H
 go_wp2_with fail
 (with_reducible refine (outer_in.calls _ _ _ _ _ A3.out).mono ?_)
 rintro e w2 ⟨rfl, ⟨n3, rfl⟩⟩
 by_cases e3 : t3 = true
 rotate_left
 ·obtain rfl : t3 = false := by simpa using e3
  obtain rfl := Option.some.inj HH.out
  go_wp2
  go_ret
  exact ⟨rfl, pw_below_drewN HB.out _⟩
 subst e3
 obtain ⟨t4, A4, H⟩ := Option.bind_eq_some_iff.mp HH.out
 have A4 := jo A4
 clear HH
 have HH := jo H
 clear H
 go_wp2_with fail
 (with_reducible refine (outer_in.calls _ _ _ _ _ A4.out).mono ?_)
 rintro e w2 ⟨rfl, ⟨n4, rfl⟩⟩
 obtain rfl := Option.some.inj HH.out
 go_wp2
 go_ret
 exact ⟨rfl, pw_below_drewN HB.out _⟩
def joinsB (a0 a2 a3 i : Int) : Bool := decide (0 ≤ a0) && (decide (a0 < 72057594037927936) && (decide (0 ≤ i) && (decide (i < 65536) && (decide (1 ≤ a2) && (decide (a2 ≤ 4096) && (decide (1 ≤ a3) && decide (a3 ≤ 4096)))))))
def outer_joins.f (a0_0 : Int) (a0_1 : Int) (a0_2 : Int) (a0_3 : Int) (a1 : Int) : Option (List Int) := if joinsB a0_0 a0_2 a0_3 a1 = true then some (joinsF a0_0 a0_2 a0_3 a1) else none
theorem outer_joins.calls (a0_0 : Int) (a0_1 : Int) (a0_2 : Int) (a0_3 : Int) (a1 : Int) (r : List Int) (w : World) (h : outer_joins.f a0_0 a0_1 a0_2 a0_3 a1 = some r) :
  Calls Tryz.prog 109 #[.agg #[.int .i64 a0_0, .int .i64 a0_1, .int .i64 a0_2, .int .i64 a0_3], .int .i64 a1] w fun e w' => ∃ v0_ : Value, e = .returned (v0_) ∧ JR w' w.heap.size v0_ r ∧ Below w.heap.size w w' := by
 unfold outer_joins.f at h
 by_cases hb : joinsB a0_0 a0_2 a0_3 a1 = true
 ·rw [if_pos hb] at h
  injection h with h
  rw [← h]
  unfold joinsB at hb
  simp only [Bool.and_eq_true, decide_eq_true_eq] at hb
  obtain ⟨h0, h1, h2, h3, h4, h5, h6, h7⟩ := hb
  exact joins_ok h0 h1 h2 h3 h4 h5 h6 h7 w
 ·rw [if_neg hb] at h
  exact absurd h (by simp)
end Go.Proofs.YtjmooillogojkaaGreat.Q
