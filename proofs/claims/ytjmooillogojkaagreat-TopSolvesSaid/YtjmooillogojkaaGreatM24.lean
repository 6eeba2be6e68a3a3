/- The sum of bytes, part four: a text is written, chunk by chunk; Printed by a changed copy of a printer, shortened by a program: what these functions answer: sha_Pad. No condition. -/
import Derived.Test.YtjmooillogojkaaGreatM23
set_option maxHeartbeats 8000000
set_option maxRecDepth 100000
set_option linter.unusedVariables false
set_option linter.unusedSimpArgs false
namespace Go.Proofs.YtjmooillogojkaaGreat.Q
open Go.RowKit Go.Proofs.YtjmooillogojkaaGreatW.PrintWords Go.Proofs.YtjmooillogojkaaGreatW.PrintLast Go.Proofs.YtjmooillogojkaaGreatW.PrintMore
open Go.Proofs.YtjmooillogojkaaGreat
attribute [local go_sem] max2_int min2_int
structure Hs (w W : World) (g : Nat) (st : List Int) (v : Value) (p : List Int) (n : Int) : Prop where
 blk : W.heap[g]? = some (.cells (arr32 st ++ #[v, .int .i64 n]) 233 (0, 0))
 row : Kd.R (Kd.int .u8) 5 W w.heap.size (fun _ => True) v p
 bel : Below w.heap.size w W
 lo : w.heap.size ≤ g
 len : st.length = 8
section
variable {w W W1 : World} {g : Nat} {st st' : List Int} {v v' : Value} {p p' : List Int} {n n' : Int}
theorem Hs.cell8 (h : Hs w W g st v p n) : W.cell? ⟨g, 8, none⟩ = some v := by
 rw [blk_cell h.blk, Array.getElem?_append_right (by rw [arr32_size, h.len]; exact Nat.le_refl _), arr32_size, h.len]
 rfl
theorem Hs.cell9 (h : Hs w W g st v p n) : W.cell? ⟨g, 9, none⟩ = some (.int .i64 n) := by
 rw [blk_cell h.blk, Array.getElem?_append_right (by rw [arr32_size, h.len]; omega), arr32_size, h.len]
 rfl
theorem Hs.cells (h : Hs w W g st v p n) : ∀ i u, (arr32 st)[i]? = some u → W.cell? ⟨g, 0 + i, none⟩ = some u := fun i u hu => by
 have hi := (Array.getElem?_eq_some_iff.1 hu).1
 rw [Nat.zero_add, blk_cell h.blk, Array.getElem?_append_left hi, hu]
theorem Hs.soft (h : Hs w W g st v p n) (i : Nat) : W.frozen? ⟨g, i, none⟩ = false := blk_frozen h.blk i
theorem Hs.size (h : Hs w W g st v p n) : (arr32 st ++ #[v, .int .i64 n]).size = 10 := by
 rw [Array.size_append, arr32_size, h.len]
 rfl
theorem Hs.below (h : Hs w W g st v p n) (hb : Below W.heap.size W W1) : Hs w W1 g st v p n :=
 ⟨blk_below h.blk hb, Kd.R_below h.row hb, below_step h.bel hb, h.lo, h.len⟩
theorem Hs.set9 (h : Hs w W g st v p n) (n' : Int) : Hs w (W.setCell ⟨g, 9, none⟩ (.int .i64 n')) g st v p n' :=
 ⟨blk_put h.blk 9 _ (by
  rw [Array.setIfInBounds_append_right (by rw [arr32_size, h.len]; omega), arr32_size, h.len]
  rfl), Kd.R_set h.row h.blk (by decide) 9 _, h.bel.setCell h.lo _, h.lo, h.len⟩
theorem Hs.set8 (h : Hs w W g st v p n) (hr : Kd.R (Kd.int .u8) 5 W w.heap.size (fun _ => True) v' p') : Hs w (W.setCell ⟨g, 8, none⟩ v') g st v' p' n :=
 ⟨blk_put h.blk 8 _ (by
  rw [Array.setIfInBounds_append_right (by rw [arr32_size, h.len]; omega), arr32_size, h.len]
  rfl), Kd.R_set hr h.blk (by decide) 8 _, h.bel.setCell h.lo _, h.lo, h.len⟩
theorem putC_head {a b c : Array Value} (h : b.size = a.size) : putC (a ++ c) 0 b.toList = b ++ c := by
 apply Array.ext_getElem?
 intro i
 rw [putC_at _ _ _ _ (by simp [h])]
 by_cases hi : i < b.size
 ·rw [if_pos (by simpa using hi), Array.getElem?_append_left hi]
  simp
 ·rw [if_neg (by simpa using hi), Array.getElem?_append_right (by omega), Array.getElem?_append_right (by omega), h]
theorem Hs.setS (h : Hs w W g st v p n) (hl : st'.length = 8) : Hs w (W.setCells g 0 (arr32 st').toList) g st' v p n :=
 ⟨by rw [blk_setCells _ 0 _ _ h.blk, putC_head (by rw [arr32_size, arr32_size, hl, h.len])], by
  refine Kd.R_mono (Kd.R_step (Kd.R_types h.row h.blk (by decide)) (fun k hk _ => heap_setCells hk.2 _ 0 W)) (fun _ _ => trivial), below_setCells h.lo _ 0 _ h.bel, h.lo, hl⟩
theorem Hs.put8 (h : Hs w W g st v p n) (hg : W.grownBy W1 v.ownBlock) (hr : Kd.R (Kd.int .u8) 5 W1 w.heap.size (fun _ => True) v' p') : (W1.cell? ⟨g, 8, none⟩ = some v ∧ ∀ i, W1.frozen? ⟨g, i, none⟩ = false) ∧ Hs w (W1.setCell ⟨g, 8, none⟩ v') g st v' p' n := by
 have hb := blk_grown h.blk hg (Kd.R_ne h.row h.blk (by decide))
 have hbel : Below w.heap.size w W1 := h.bel.grown hg h.bel.size (fun k hk => by
  obtain ⟨inner, ho⟩ := Kd.R_own h.row
  exact own_base ho k hk)
 refine ⟨⟨?_, fun i => blk_frozen hb i⟩, ?_⟩
 ·rw [blk_cell hb, Array.getElem?_append_right (by rw [arr32_size, h.len]; exact Nat.le_refl _), arr32_size, h.len]
  rfl
 ·exact ⟨blk_put hb 8 _ (by
   rw [Array.setIfInBounds_append_right (by rw [arr32_size, h.len]; omega), arr32_size, h.len]
   rfl), Kd.R_set hr hb (by decide) 8 _, hbel.setCell h.lo _, h.lo, h.len⟩
end
def foldC : Nat → List Int → List Int → List Int
 | 0, st, _ => st
 | m + 1, st, l => foldC m (mixF st (l.take 64)) (l.drop 64)
theorem foldC_length (m : Nat) : ∀ (st l : List Int), st.length = 8 → (foldC m st l).length = 8 := by
 induction m with
 | zero => intro st l h; exact h
 | succ m ih => intro st l h; exact ih _ _ (mixF_length h)
theorem new_ok (w : World) : Calls Tryz.prog 165 #[] w fun e w' => ∃ g, e = .returned (.pointer (some ⟨g, 0, none⟩)) ∧ Hs w w' g stL (.slice none 0 0) [] 0 := by
 go_enter Tryz.func165, Tryz.ntmps165
 go_wp2_with (go_at_call 174; (with_reducible refine (start_ok _).mono ?_); rintro e w1 ⟨rfl, hb⟩; simp only [nums, stL, List.map_cons, List.map_nil])
 go_ret
 refine ⟨w1.heap.size, rfl, ⟨blk_new w1 _, Kd.R_nil _ _ _ _ _, below_alloc hb _, hb.size, rfl⟩⟩
section
variable {ops : Array Oper} {o : Oper} {a : Act} {Kc : Act → World → Prop} {Q' : Exit → Act → World → Prop} {W : World} {base : Nat}
theorem str_append_step (hw : Region.wanted o (yielded ops a.tmps) = true) (sl x : Operand) (ho : o.op = .call { callee := .builtin .append, args := #[sl, x], argTypes := #[60, 9] }) (v : Value) (p : List Int) (s : ByteArray)
  (hs : a.eval sl = v) (hx : a.eval x = .string s) (HO : Kd.R (Kd.int .u8) 5 W base (fun _ => True) v p) (hbase : base ≤ W.heap.size) (hl : p.length + s.size < 1000000)
  (h : ∀ v1 w1, Kd.R (Kd.int .u8) 5 w1 base (fun _ => True) v1 (p ++ bytesOf s) → W.grownBy w1 v.ownBlock → Kc (a.put o.dst v1) w1) :
  if Region.wanted o (yielded ops a.tmps) = true then Oper.wp Tryz.prog o a W Kc Q' else Kc (a.put o.dst undef) W := by
 obtain ⟨i0, hi, hzz⟩ := Option.map_eq_some_iff.1 info5
 simp only [Prod.mk.injEq] at hzz
 obtain ⟨v1, w1, hr, h1, h2, _⟩ := Lib.run_append_own_string (P := Tryz.prog) W base 60 9 o.type 5 i0 Tryz.underlying60 Tryz.underlying9 hi hzz.1 hzz.2.1 hzz.2.2 v p.length (nums .u8 p) (Kd.own_of_R HO) s (by unfold maxLen; omega) (by omega) hbase
 rw [if_pos hw]
 unfold Oper.wp execOp
 simp only [ho, resolve, invoke, builtin, Sem.run_bind, Sem.run_pure, Result.andThen_ok, List.map_toArray, List.map_cons, List.map_nil, hs, hx, hr]
 refine h v1 w1 (Kd.R_of_own (enc := Value.int .u8) (h1 := fun _ => rfl) ?_ (fun _ _ => trivial)) h2
 have hc : encs (Value.int .u8) (p ++ bytesOf s) = nums .u8 p ++ Lib.strCells s := by simp [encs, nums, bytesOf, Lib.strCells]
 rw [hc, List.length_append, bytesOf_length]
 exact h1
end
theorem foldC_succ (m : Nat) : ∀ (st l : List Int), foldC (m + 1) st l = mixF (foldC m st l) ((l.drop (64 * m)).take 64) := by
 induction m with
 | zero => intro st l; simp [foldC]
 | succ m ih =>
  intro st l
  show foldC (m + 1) (mixF st (l.take 64)) (l.drop 64) = _
  rw [ih]
  show _ = mixF (foldC m (mixF st (l.take 64)) (l.drop 64)) _
  rw [List.drop_drop, show 64 + 64 * m = 64 * (m + 1) by omega]
theorem bytes_extract (r : ByteArray) (a b : Nat) : bytesOf (r.extract a b) = ((bytesOf r).take b).drop a := by
 unfold bytesOf
 rw [ByteArray.data_extract]
 simp [List.map_take, List.map_drop, Array.toList_extract, List.extract_eq_take_drop]
 exact (List.drop_take ..).symm
theorem mix64 {A : Option Addr} {c base : Nat} {st b out : List Int} {W : World} (hst : st.length = 8) (hr : Kd.R (Kd.int .u8) 5 W base (fun _ => True) (.slice A 64 c) b) (ho : out = mixF st b) :
  Calls Tryz.prog 175 #[.agg (arr32 st), .slice A 64 c] W fun e w' => e = .returned (.agg (arr32 out)) ∧ Below W.heap.size W w' := by
 obtain ⟨h1, h2, h3⟩ := Kd.R_reads' hr
 have := mix_ok (A := A) (c := c) W hst h3 (by omega) h1.symm ho
 rw [← h1] at this
 exact this
theorem write_ok {w : World} {g : Nat} (s : ByteArray) (W : World) (h : Hs w W g stL (.slice none 0 0) [] 0) (hs : s.size ≤ 60000) :
  Calls Tryz.prog 166 #[.pointer (some ⟨g, 0, none⟩), .string s] W fun e w' => e = .returned (.int .i64 0) ∧ ∃ v, Hs w w' g (foldC (s.size / 64) stL (bytesOf s)) v ((bytesOf s).drop (64 * (s.size / 64))) s.size := by
 have c9 := h.cell9
 have ff := fun i => h.soft i
 have H := jo h
 have HS := jo hs
 have b1 : decide (65536 < s.size) = false := decide_eq_false (by omega)
 have b2 : decide ((65536 : Int) < (s.size : Int)) = false := decide_eq_false (by omega)
 have b3 : decide ((s.size : Int) > 65536) = false := decide_eq_false (by omega)
 clear h hs
 go_enter Tryz.func166, Tryz.ntmps166
 go_wp2
 refine Goto.wp_scope_lazy 0 rfl ?_
 intro KG HKG
 go_wp2
 have H0 := jo (H.out.set9 (s.size : Int))
 have hsw : wrap64 (s.size : Int) = (s.size : Int) := by have := HS.out; unfold wrap64; omega
 rw [hsw]
 clear H c9 ff hsw
 refine Goto.label_ghost_put HKG (by assumption) [false, true, false, false, false, true, false, false, false, false, false, false, false, false, false, false, false, false, false, false, false, false, false, false, false, false, false, true, true, true, true, true, true, true, true, true, true, true, true, true, true, true, true, true, true, true, true, true, true, true, true, true, true, true, true, true, true, true, true, true, true, true, true, true, true, true, true, true, true, true, true, true, true, true, true, true] (fun n vs_ w' => ∃ (u1 u5 u27 u28 u29 u30 u31 u32 u33 u34 u35 u36 u37 u38 u39 u40 u41 u42 u43 u44 u45 u46 u47 u48 u49 u50 u51 u52 u53 u54 u55 u56 u57 u58 u59 u60 u61 u62 u63 u64 u65 u66 u67 u68 u69 u70 u71 u72 u73 u74 u75 : Value) (r : ByteArray) (v : Value), vs_ = [u1, u5, u27, u28, u29, u30, u31, u32, u33, u34, u35, u36, u37, u38, u39, u40, u41, u42, u43, u44, u45, u46, u47, u48, u49, u50, u51, u52, u53, u54, u55, u56, u57, u58, u59, u60, u61, u62, u63, u64, u65, u66, u67, u68, u69, u70, u71, u72, u73, u74, u75] ∧ u1 = .string r ∧ Aside0 (n ≤ s.size / 64 ∧ bytesOf r = (bytesOf s).drop (64 * (s.size / 64 - n)) ∧ Hs w w' g (foldC (s.size / 64 - n) stL (bytesOf s)) v [] s.size)) (s.size / 64) [_, _, _, _, _, _, _, _, _, _, _, _, _, _, _, _, _, _, _, _, _, _, _, _, _, _, _, _, _, _, _, _, _, _, _, _, _, _, _, _, _, _, _, _, _, _, _, _, _, _, _] ?atStart rfl ?round
 case atStart =>
  exact ⟨_, _, _, _, _, _, _, _, _, _, _, _, _, _, _, _, _, _, _, _, _, _, _, _, _, _, _, _, _, _, _, _, _, _, _, _, _, _, _, _, _, _, _, _, _, _, _, _, _, _, _, s, .slice none 0 0, rfl, rfl, ⟨Nat.le_refl _, by rw [Nat.sub_self]; rfl, by rw [Nat.sub_self]; exact H0.out⟩⟩
 case round =>
  clear HKG
  intro n vs_ wr hrel JG KG1 HJG HKG1
  obtain ⟨u1, u5, u27, u28, u29, u30, u31, u32, u33, u34, u35, u36, u37, u38, u39, u40, u41, u42, u43, u44, u45, u46, u47, u48, u49, u50, u51, u52, u53, u54, u55, u56, u57, u58, u59, u60, u61, u62, u63, u64, u65, u66, u67, u68, u69, u70, u71, u72, u73, u74, u75, r, v, rfl, rfl, HA⟩ := hrel
  clear H0
  simp only [Goto.putFrame_mk, Goto.putAll_true, Goto.putAll_false, Goto.putAll_nil]
  obtain ⟨st, hst⟩ : ∃ st, st = foldC (s.size / 64 - n) stL (bytesOf s) := ⟨_, rfl⟩
  rw [← hst] at HA
  have HST := jo hst
  clear hst
  obtain ⟨A, c, e8⟩ := Kd.R_slice HA.out.2.2.row
  subst e8
  have c8 := HA.out.2.2.cell8
  have hlen : r.size = s.size - 64 * (s.size / 64 - n) := by
   rw [← bytesOf_length, HA.out.2.1, List.length_drop, bytesOf_length]
  have hn := HA.out.1
  have HLN := jo hlen
  by_cases hbig : 64 ≤ r.size
  ·have hk : min (64 : Int) (r.size : Int) = 64 := by omega
   have hk2 : (if (r.size : Int) < 64 then (r.size : Int) else 64) = 64 := by rw [if_neg (by omega)]
   obtain ⟨m, rfl⟩ : ∃ m, n = m + 1 := ⟨n - 1, by omega⟩
   have hbz : w.heap.size ≤ wr.drew.heap.size := HA.out.2.2.bel.size
   have hl64 : ([] ++ bytesOf (r.extract 0 64)).length = 64 := by rw [List.nil_append, bytesOf_length, ByteArray.size_extract]; omega
   have HR7 := jo (Kd.R_drew HA.out.2.2.row)
   have HBZ := jo hbz
   have HE7 := jo hl64
   have HL7 : Aside0 (([] : List Int).length + (r.extract 0 64).size < 1000000) := ⟨by rw [ByteArray.size_extract, List.length_nil]; omega⟩
   have HX7 := jo (HA.out.2.2.below (below_drew (Below.refl _ _)))
   have h64 : (64 : Int) ≤ (r.size : Int) := by omega
   have ff := fun i => HA.out.2.2.soft i
   clear hbz hl64 hn hlen
   go_wp2
   refine st_ (S := fun w' => w'.cell? ⟨g, 8, none⟩ = some (.slice A 0 c)) (ds := [11]) 12 (c8) (fun hHeld => ?_)
   refine td_ [0, 1, 2, 3, 5, 6, 7] ?_
   repeat (first | refine pp_ ?_ | refine po_ ?_)
   refine tn_ ?_
   refine td_ [4] ?_
   repeat (refine pt_ hHeld ?_)
   refine tn_ ?_
   refine on_ 8 (fun K hK => ?_)
   refine str_append_step rfl _ _ rfl (.slice A 0 c) [] (r.extract 0 64) rfl rfl HR7.out HBZ.out HL7.out ?_
   intro v1 w1 hq1 hg1
   obtain ⟨A1, c1, e1⟩ := Kd.R_slice hq1
   subst e1
   rw [HE7.out] at hq1 ⊢
   have HG1 := jo (HX7.out.put8 hg1 hq1)
   have f8 : w1.cell? ⟨g, 8, none⟩ = some (.slice A 0 c) := HG1.out.1.1
   have f8f : w1.frozen? ⟨g, 8, none⟩ = false := HG1.out.1.2 8
   clear hq1 hg1
   refine hK.out _ _ (f8) (fun hHeld => ?_)
   clear hK K
   refine nm_ (some 44) ?_
   refine td_ [9, 10] ?_
   repeat (first | refine pp_ ?_ | refine po_ ?_)
   refine tn_ ?_
   refine la_ 11 (fun K hK => ?_)
   refine skip_ (w1 := ?_) (by rfl) rfl ?_ ?_
   rotate_left
   ·go_simp
    rfl
   refine hK.out _ _ ?_
   clear hK K
   refine dn_ ?_
   go_wp2
   have hx8 := HG1.out.2
   generalize w1.setCell ⟨g, 8, none⟩ (.slice A1 64 c1) = W8 at hx8 ⊢
   have HS10 := jo (hx8.below (below_drew (Below.refl _ _)))
   have f10 : W8.drew.cell? ⟨g, 8, none⟩ = some (.slice A1 64 c1) := HS10.out.cell8
   obtain ⟨so, hso⟩ : ∃ so, so = mixF st ([] ++ bytesOf (r.extract 0 64)) := ⟨_, rfl⟩
   have HO10 := jo hso
   have HO10L : Aside0 (so.length = 8) := ⟨by rw [hso]; exact mixF_length HS10.out.len⟩
   have HZ10 : Aside0 (∀ w, (sizeOf 230).run Tryz.prog w = .ok (arr32 st).size w) := ⟨fun w => by rw [arr32_size, HS10.out.len]; exact Tryz.sizeOf230 w⟩
   have HZ10b : Aside0 (∀ w, (sizeOf 230).run Tryz.prog w = .ok (arr32 so).size w) := ⟨fun w => by rw [arr32_size, HO10L.out]; exact Tryz.sizeOf230 w⟩
   have HRB : Aside0 (bytesOf (r.extract 64 r.size) = (bytesOf s).drop (64 * (s.size / 64 - m)) ∧ so = foldC (s.size / 64 - m) stL (bytesOf s)) := ⟨by
    have hn := HA.out.1
    have e1 : s.size / 64 - m = (s.size / 64 - (m + 1)) + 1 := by omega
    rw [e1, foldC_succ, hso, HST.out, List.nil_append, bytes_extract, bytes_extract, HA.out.2.1]
    constructor
    ·rw [List.take_of_length_le (by rw [List.length_drop, bytesOf_length]; have := HLN.out; omega), List.drop_drop]
     congr 1
    ·rw [List.drop_zero]⟩
   clear hx8 f8 f8f hHeld c8 ff hso
   refine st_ (S := fun w' => w'.cell? ⟨g, 8, none⟩ = some (.slice A1 64 c1)) (ds := [12]) 13 (f10) (fun hHeld => ?_)
   refine td_ [0, 1, 2, 3, 5, 6, 7] ?_
   repeat (first | refine pp_ ?_ | refine po_ ?_)
   refine tn_ ?_
   refine td_ [8] ?_
   repeat (refine pt_ hHeld ?_)
   refine tn_ ?_
   refine on_ 4 (fun K hK => ?_)
   refine value_ (w1 := W8.drew) (v := .agg (arr32 st)) (by rfl) rfl ?_ ?_
   ·exact load_run rfl rfl HS10.out.cells Tryz.isAgg230 HZ10.out
   refine hK.out _ _ (hHeld) (fun hHeld => ?_)
   clear hK K
   refine nm_ (some 60) ?_
   refine on_ 9 (fun K hK => ?_)
   refine gs_ Tryz.func175 #[.agg (arr32 st), .slice A1 64 c1] ?_
   with_reducible refine ((mix64 HS10.out.len HS10.out.row HO10.out)).mono ?_
   rintro er w6 ⟨rfl, hb6⟩
   refine ⟨_, rfl, ?_⟩
   have H6 := jo (HS10.out.below hb6)
   have f6 : w6.cell? ⟨g, 8, none⟩ = some (.slice A1 64 c1) := H6.out.cell8
   clear hb6
   refine hK.out _ _ (f6) (fun hHeld => ?_)
   clear hK K
   refine nm_ (some 65) ?_
   refine td_ [10, 11] ?_
   repeat (first | refine pp_ ?_ | refine po_ ?_)
   refine tn_ ?_
   refine la_ 12 (fun K hK => ?_)
   refine skip_ (w1 := w6.setCells g 0 (arr32 so).toList) (by rfl) rfl ?_ ?_
   ·exact store_run (off := 0) (vs := arr32 so) rfl rfl rfl H6.out.blk (by rw [H6.out.size, arr32_size, HO10L.out]; decide) arr32_one HZ10b.out
   refine hK.out _ _ ?_
   clear hK K
   refine dn_ ?_
   have HS11 := jo (H6.out.setS HO10L.out)
   generalize w6.setCells g 0 (arr32 so).toList = W9 at HS11 ⊢
   have f11 := HS11.out.cell8
   have ff11 := fun i => HS11.out.soft i
   have HT0 := jo (Kd.R_take (m := 0) HS11.out.row (Nat.zero_le _))
   clear f6
   go_wp2
   apply wp_goto
   (try simp only [Exit.then, Exit.inBlock])
   refine Goto.goto_put HKG1 HJG m [_, _, _, _, _, _, _, _, _, _, _, _, _, _, _, _, _, _, _, _, _, _, _, _, _, _, _, _, _, _, _, _, _, _, _, _, _, _, _, _, _, _, _, _, _, _, _, _, _, _, _] ?measure rfl ?rel
   case measure => omega
   case rel => exact ⟨_, _, _, _, _, _, _, _, _, _, _, _, _, _, _, _, _, _, _, _, _, _, _, _, _, _, _, _, _, _, _, _, _, _, _, _, _, _, _, _, _, _, _, _, _, _, _, _, _, _, _, r.extract 64 r.size, .slice A1 0 c1, rfl, rfl, ⟨by have := HA.out.1; omega, HRB.out.1, by
    rw [← HRB.out.2]
    exact HS11.out.set8 HT0.out⟩⟩
  ·have hk : min (64 : Int) (r.size : Int) = (r.size : Int) := by omega
   have hk2 : (if (r.size : Int) < 64 then (r.size : Int) else 64) = (r.size : Int) := by rw [if_pos (by omega)]
   have hn0 : n = 0 := by omega
   have hbz : w.heap.size ≤ wr.drew.heap.size := HA.out.2.2.bel.size
   have hlr : ([] ++ bytesOf r).length = r.size := by rw [List.nil_append, bytesOf_length]
   have HR7 := jo (Kd.R_drew HA.out.2.2.row)
   have HBZ := jo hbz
   have HE7 := jo hlr
   have HL7 : Aside0 (([] : List Int).length + r.size < 1000000) := ⟨by rw [List.length_nil]; omega⟩
   have HX7 := jo (HA.out.2.2.below (below_drew (Below.refl _ _)))
   have ff := fun i => HA.out.2.2.soft i
   have HN0 := jo hn0
   have hne : ((r.size : Int) == 64) = false := beq_eq_false_iff_ne.2 (by omega)
   have hne2 : (r.size == 64) = false := beq_eq_false_iff_ne.2 (by omega)
   have hne3 : ¬ r.size = 64 := by omega
   clear hbz hlr hn hlen hn0
   go_wp2
   refine st_ (S := fun w' => w'.cell? ⟨g, 8, none⟩ = some (.slice A 0 c)) (ds := [11]) 12 (c8) (fun hHeld => ?_)
   refine td_ [0, 1, 2, 3, 5, 6, 7] ?_
   repeat (first | refine pp_ ?_ | refine po_ ?_)
   refine tn_ ?_
   refine td_ [4] ?_
   repeat (refine pt_ hHeld ?_)
   refine tn_ ?_
   refine on_ 8 (fun K hK => ?_)
   refine str_append_step rfl _ _ rfl (.slice A 0 c) [] r rfl rfl HR7.out HBZ.out HL7.out ?_
   intro v1 w1 hq1 hg1
   obtain ⟨A1, c1, e1⟩ := Kd.R_slice hq1
   subst e1
   rw [HE7.out] at hq1 ⊢
   have HG1 := jo (HX7.out.put8 hg1 hq1)
   have f8 : w1.cell? ⟨g, 8, none⟩ = some (.slice A 0 c) := HG1.out.1.1
   have f8f : w1.frozen? ⟨g, 8, none⟩ = false := HG1.out.1.2 8
   clear hq1 hg1
   refine hK.out _ _ (f8) (fun hHeld => ?_)
   clear hK K
   refine nm_ (some 44) ?_
   refine td_ [9, 10] ?_
   repeat (first | refine pp_ ?_ | refine po_ ?_)
   refine tn_ ?_
   refine la_ 11 (fun K hK => ?_)
   refine skip_ (w1 := ?_) (by rfl) rfl ?_ ?_
   rotate_left
   ·go_simp
    rfl
   refine hK.out _ _ ?_
   clear hK K
   refine dn_ ?_
   have hx8 := HG1.out.2
   have c8' := hx8.cell8
   go_wp2
   (try simp only [Goto.jump_ret, Exit.then, Exit.inBlock])
   go_ret
   refine ⟨rfl, .slice A1 r.size c1, ?_⟩
   have h9 := hx8
   rw [List.nil_append, HA.out.2.1, HST.out, HN0.out, Nat.sub_zero] at h9
   exact h9
end Go.Proofs.YtjmooillogojkaaGreat.Q
namespace Go.Proofs.YtjmooillogojkaaGreat.Q
open Go.RowKit Go.Proofs.YtjmooillogojkaaGreatW.PrintWords Go.Proofs.YtjmooillogojkaaGreatW.PrintLast Go.Proofs.YtjmooillogojkaaGreatW.PrintMore
open Go.Proofs.YtjmooillogojkaaGreat
attribute [local go_sem] max2_int min2_int max_two min_two max_three min_three max_four min_four
mutual
def sha_Pad.j0 : Nat → Int → Bool → Option (ByteArray)
 | 0, _, _ => none
 | k + 1, x0, x11 => if x11 = true then (some (⟨#[]⟩ : ByteArray)) else ((some (([128] : List Int) : List Int)).bind fun y222 => (if 0 ≤ (Int.tmod (wrap64 (119 - (Int.tmod x0 64))) 64) then (if y222.length + (Int.tmod (wrap64 (119 - (Int.tmod x0 64))) 64 : Int).toNat < 140737488355328 then (sha_Pad.l0 k x0 (y222 ++ List.replicate (Int.tmod (wrap64 (119 - (Int.tmod x0 64))) 64 : Int).toNat 0) 56) else (none)) else (none)))
def sha_Pad.l0 : Nat → Int → List Int → Int → Option (ByteArray)
 | 0, _, _, _ => none
 | k + 1, x0, x4, x5 => if x5 ≥ 0 then (if 0 ≤ x5 then (if x4.length < 140737488355328 then (sha_Pad.l0 k x0 (x4 ++ [(shr .u64 (IntKind.u64.wrap ((IntKind.u64.wrap (x0)) * 8)) x5) % 256]) (wrap64 (x5 - 8))) else (none)) else (none)) else (some (strOfNums x4))
end
def sha_Pad.f (k : Nat) (a0 : Int) : Option (ByteArray) := if a0 < 0 then (sha_Pad.j0 k a0 true) else (sha_Pad.j0 k a0 (decide (a0 > 65536)))
theorem sha_Pad.calls (k : Nat) (a0 : Int) (r : ByteArray) (w : World) (h : sha_Pad.f k a0 = some r) :
  Calls Tryz.prog 176 #[.int .i64 a0] w fun e w' => e = .returned (.string r) ∧ Below w.heap.size w w' := by
 have HB := jo (Below.refl w.heap.size w)
 have H : (if a0 < 0 then (sha_Pad.j0 k a0 true) else (sha_Pad.j0 k a0 (decide (a0 > 65536)))) = some r := h
 clear h
 have HC2 := jo H
 clear H
 go_enter Tryz.func176, Tryz.ntmps176
 go_upto_region 1 with (fail)
 go_cut [11] (fun v11 wc => ∃ (kq : Nat) (x11_1 : Bool), v11 = .bool x11_1 ∧ Aside0 (sha_Pad.j0 kq a0 x11_1 = some r) ∧ Aside0 (kq ≤ k) ∧ Aside0 (Below w.heap.size w wc))
 case first =>
  have H := HC2.out
  clear HC2
  by_cases c3 : a0 < 0
  ·rw [if_pos c3] at H
   have c3b0 : decide (a0 < 0) = true := decide_eq_true c3
   clear c3
   (first | rw [c3b0] | (simp only [i64_w, i32_w]; rw [c3b0]) | skip)
   have H' := jo H
   clear H
   go_wp2
   go_meet
   case rel => exact ⟨_, (true), js, H', ⟨by first | omega | exact Nat.le_refl _⟩, ⟨jb⟩⟩
  ·rw [if_neg c3] at H
   have c3b0 : decide (a0 < 0) = false := decide_eq_false c3
   clear c3
   (first | rw [c3b0] | (simp only [i64_w, i32_w]; rw [c3b0]) | skip)
   have H' := jo H
   clear H
   go_wp2
   go_meet
   case rel => exact ⟨_, (decide (a0 > 65536)), js, H', ⟨by first | omega | exact Nat.le_refl _⟩, ⟨jb⟩⟩
 case rest =>
  clear HC2
  try clear c1
  try clear p2
  try clear c3
  try clear c3b0
  obtain ⟨kq, x11_1, rfl, HA, HJ1, HB⟩ := hcut
  cases kq with
  | zero => exact absurd HA.out (by simp [sha_Pad.j0])
  | succ kj1 =>
   have H := HA.out
   clear HA
   simp only [sha_Pad.j0] at H
   by_cases c4 : x11_1 = true
   ·subst c4
    have H1 : (some (⟨#[]⟩ : ByteArray)) = some r := by rw [if_pos rfl] at H; exact H
    clear H
    have H := H1
    clear H1
    obtain rfl := Option.some.inj H
    go_wp2
    go_ret
    exact ⟨je, jb⟩
   ·replace c4 := Bool.eq_false_iff.mpr c4
    subst c4
    have H1 : ((some (([128] : List Int) : List Int)).bind fun y222 => (if 0 ≤ (Int.tmod (wrap64 (119 - (Int.tmod a0 64))) 64) then (if y222.length + (Int.tmod (wrap64 (119 - (Int.tmod a0 64))) 64 : Int).toNat < 140737488355328 then (sha_Pad.l0 kj1 a0 (y222 ++ List.replicate (Int.tmod (wrap64 (119 - (Int.tmod a0 64))) 64 : Int).toNat 0) 56) else (none)) else (none))) = some r := by rw [if_neg (show ¬ (false = true) by decide)] at H; exact H
    clear H
    have H := H1
    clear H1
    obtain ⟨y222, hy222⟩ : ∃ y_ : List Int, y_ = (([128] : List Int)) := ⟨_, rfl⟩
    replace H : (if 0 ≤ (Int.tmod (wrap64 (119 - (Int.tmod a0 64))) 64) then (if y222.length + (Int.tmod (wrap64 (119 - (Int.tmod a0 64))) 64 : Int).toNat < 140737488355328 then (sha_Pad.l0 kj1 a0 (y222 ++ List.replicate (Int.tmod (wrap64 (119 - (Int.tmod a0 64))) 64 : Int).toNat 0) 56) else (none)) else (none)) = some r := by first | (rw [hy222]; with_reducible exact H) | (have H2_ := (Option.bind_some _ _).symm.trans H; rw [hy222]; with_reducible exact H2_) | (have H2_ := (Option.bind_some _ _).symm.trans H; with_reducible exact H2_) | with_reducible exact H | (rw [hy222]; exact H) | exact H
    have Ny222 := jo hy222
    clear hy222
    obtain ⟨ji5, hji5⟩ : ∃ j_ : Int, (Int.tmod (wrap64 (119 - (Int.tmod a0 64))) 64) = j_ := ⟨_, rfl⟩
    replace H : (if 0 ≤ (ji5) then (if y222.length + (ji5 : Int).toNat < 140737488355328 then (sha_Pad.l0 kj1 a0 (y222 ++ List.replicate (ji5 : Int).toNat 0) 56) else (none)) else (none)) = some r := by first | (rw [hji5] at H; exact H) | (simp only [hji5] at H ⊢; exact H)
    by_cases c6 : 0 ≤ (ji5)
    ·rw [if_pos c6] at H
     have c6b0 := eq_true c6
     have c6b1 : decide (0 ≤ (ji5)) = true := decide_eq_true c6
     clear c6
     by_cases c7 : y222.length + (ji5 : Int).toNat < 140737488355328
     ·rw [if_pos c7] at H
      have LMc7 := jo c7
      clear c7
      obtain ⟨y225, hy225⟩ : ∃ y_ : List Int, y_ = (y222 ++ List.replicate (ji5 : Int).toNat 0) := ⟨_, rfl⟩
      replace H : (sha_Pad.l0 kj1 a0 y225 56) = some r := by first | (rw [hy225]; with_reducible exact H) | (have H2_ := (Option.bind_some _ _).symm.trans H; rw [hy225]; with_reducible exact H2_) | (have H2_ := (Option.bind_some _ _).symm.trans H; with_reducible exact H2_) | with_reducible exact H | (rw [hy225]; exact H) | exact H
      have Ny225 := jo hy225
      clear hy225
      have H' := jo H
      clear H
      go_wp2_with (first | ((with_reducible refine gate_dst (N := 16) rfl ?_); refine Kd.R_lit (Kd.int .u8) _ 5 ?hg (N := 16) ?hd (xs := ([128] : List Int)) (inner := [.int .u8 128]) (ok := fun _ => True) (okp := fun _ => True) ?hr ?hp (fun _ hk => hk) trivial (Below.refl _ _) (Nat.le_refl _) (by simp) ?_; (case hd => rfl); (case hg => rfl); (case hr => first | (go_simp; done) | (go_simp; rfl)); (case hp => exact (Reps.one (show Kd.M (Kd.int .u8) _ _ _ 128 [.int .u8 128] from rfl) (Reps.none _ _))); intro v223 w8 ho9 hb hg_ hnew_; clear hg_ hnew_; (first | rw [← Ny222.out] at ho9 | (simp only [Int.reduceToNat] at ho9; rw [← Ny222.out] at ho9)); have n0_ := jo (Kd.R_lower ho9 (below_size jb)); have n1_ := jo (below_step jb hb); clear HB; have HO224 := n0_; have HB := n1_; clear n0_ n1_; clear hb ho9) | (at_builtin; refine Kd.R_append_zeros (Kd.int .u8) (w0 := w) w.heap.size rfl (.tmp 16) (.tmp 17) 60 3 5 (.int .u8 0) 1 rfl Tryz.underlying60 Tryz.underlying3 info5 rfl (by decide) (by omega) v223 y222 0 (ji5 : Int) (fun _ => True) rfl rfl rfl ?aF ?aO (of_decide_eq_true ja) ?aB ?aS ?aL ?_; (case aB => exact jb); (case aF => exact (fun _ _ => trivial)); (case aO => exact (jr HO224.out)); (case aS => exact (below_size jb)); (case aL => have := LMc7.out; omega); intro v226 w10 ho hb hg hat; rw [← Ny225.out] at ho; have n0_ := jo (hb); have n1_ := jo (ho); clear HB; clear HO224; have HB := n0_; have HO227 := n1_; clear n0_ n1_; clear ho hb hg hat))
      go_loopg [4, 5] kj1 (fun kq v4 v5 w' => ∃ (x4_2 : List Int) (x5_2 : Int), v5 = .int .i64 x5_2 ∧ Aside0 (sha_Pad.l0 kq a0 x4_2 x5_2 = some r) ∧ Aside0 (kq ≤ kj1) ∧ Aside0 (Kd.R (Kd.int .u8) 5 w' w.heap.size (fun _ => True) v4 x4_2) ∧ Aside0 (Below w.heap.size w w'))
      case atStart => exact ⟨(y225), (56), js, H', ⟨Nat.le_refl _⟩, ⟨jr HO227.out⟩, ⟨jb⟩⟩
      case round =>
       clear H'
       try clear c1
       try clear p2
       try clear c3
       try clear c3b0
       try clear c4
       try clear c6
       try clear c6b0
       try clear c6b1
       try clear p6
       try clear c7
       try clear p2
       obtain ⟨x4_2, x5_2, rfl, HA, HK2, HO_4, HB⟩ := hrel
       cases gk with
       | zero => exact absurd HA.out (by simp [sha_Pad.l0])
       | succ k2 =>
        have H := HA.out
        clear HA
        simp only [sha_Pad.l0] at H
        by_cases c11 : x5_2 ≥ 0
        ·rw [if_pos c11] at H
         have c11b0 : decide (0 ≤ x5_2) = true := decide_eq_true c11
         clear c11
         by_cases c12 : 0 ≤ x5_2
         ·rw [if_pos c12] at H
          have c12b0 := eq_true c12
          have c12b1 : decide (0 ≤ x5_2) = true := decide_eq_true c12
          clear c12
          obtain ⟨ji13, hji13⟩ : ∃ j_ : Int, (shr .u64 (IntKind.u64.wrap ((IntKind.u64.wrap (a0)) * 8)) x5_2) = j_ := ⟨_, rfl⟩
          replace H : (if x4_2.length < 140737488355328 then (sha_Pad.l0 k2 a0 (x4_2 ++ [(ji13) % 256]) (wrap64 (x5_2 - 8))) else (none)) = some r := by first | (rw [hji13] at H; exact H) | (simp only [hji13] at H ⊢; exact H)
          have hji13_ : ((IntKind.u64.wrap ((IntKind.u64.wrap (a0)) * 8)) / 2 ^ min x5_2.toNat 64) = ji13 := hji13
          have hji13z : x5_2 ≤ 64 → ((IntKind.u64.wrap ((IntKind.u64.wrap (a0)) * 8)) / 2 ^ x5_2.toNat) = ji13 := shr_small hji13
          by_cases c14 : x4_2.length < 140737488355328
          ·rw [if_pos c14] at H
           have LMc14 := jo c14
           clear c14
           obtain ⟨y228, hy228⟩ : ∃ y_ : List Int, y_ = (x4_2 ++ [(ji13) % 256]) := ⟨_, rfl⟩
           replace H : (sha_Pad.l0 k2 a0 y228 (wrap64 (x5_2 - 8))) = some r := by first | (rw [hy228]; with_reducible exact H) | (have H2_ := (Option.bind_some _ _).symm.trans H; rw [hy228]; with_reducible exact H2_) | (have H2_ := (Option.bind_some _ _).symm.trans H; with_reducible exact H2_) | with_reducible exact H | (rw [hy228]; exact H) | exact H
           have Ny228 := jo hy228
           clear hy228
           have H' := jo H
           clear H
           go_wp2_with (first | ((with_reducible refine gate_builtin (b := .append) (xs := #[.tmp 23, .tmp 30]) rfl ?_); at_builtin; refine Kd.R_append (Kd.int .u8) (w0 := w) w.heap.size rfl (.tmp 23) (.tmp 30) 60 5 (.int .u8 0) 1 rfl Tryz.underlying60 info5 rfl (by decide) (by omega) u4 x4_2 ((ji13) % 256) [.int .u8 ((ji13) % 256)] (fun _ => True) (fun _ => False) rfl rfl ?aP (fun _ hk => hk.elim) ?aF ?aO ?aB ?aS ?aL ?_; (case aP => exact rfl); (case aB => exact jb); (case aF => exact (fun _ _ => trivial)); (case aO => exact (jr HO_4.out)); (case aS => exact (below_size jb)); (case aL => have := LMc14.out; omega); intro v229 w15 ho hb hg hat; rw [← Ny228.out] at ho; have n0_ := jo (hb); have n1_ := jo (ho); clear HB; clear HO_4; have HB := n0_; have HO230 := n1_; clear n0_ n1_; clear ho hb hg hat))
           go_roundg k2
           case measure => have := HJ1.out; have := HK2.out; omega
           case rel => exact ⟨(y228), (wrap64 (x5_2 - 8)), js, H', ⟨by have := HJ1.out; have := HK2.out; omega⟩, ⟨jr HO230.out⟩, ⟨jb⟩⟩
          ·rw [if_neg c14] at H
           exact absurd H (by simp)
         ·rw [if_neg c12] at H
          exact absurd H (by simp)
        ·rw [if_neg c11] at H
         have c11b0 : decide (0 ≤ x5_2) = false := decide_eq_false c11
         clear c11
         obtain rfl := Option.some.inj H
         have hcv16 := own_string (P := Tryz.prog) Tryz.underlying60 Tryz.underlying5 Tryz.underlying9 (Kd.own_of_R HO_4.out)
         go_wp2
         go_ret
         exact ⟨by first | rfl | (simp [errW_none, errW_some] <;> rfl) | (simp only [← hji5]; first | rfl | (simp [errW_none, errW_some] <;> rfl)) | (simp [*, errW_none, errW_some] <;> rfl), jb⟩
     ·rw [if_neg c7] at H
      exact absurd H (by simp)
    ·rw [if_neg c6] at H
     exact absurd H (by simp)
end Go.Proofs.YtjmooillogojkaaGreat.Q
