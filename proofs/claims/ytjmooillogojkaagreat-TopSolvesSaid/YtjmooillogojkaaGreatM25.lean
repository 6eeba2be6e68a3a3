/- The sum of bytes, part five: the padding; the chunks of a padded row; The sum of bytes, part six: the sum is closed. No condition. -/
import Derived.Test.YtjmooillogojkaaGreatM24
set_option maxHeartbeats 8000000
set_option maxRecDepth 100000
set_option linter.unusedVariables false
set_option linter.unusedSimpArgs false
namespace Go.Proofs.YtjmooillogojkaaGreat.Q
open Go.RowKit Go.Proofs.YtjmooillogojkaaGreatW.PrintWords Go.Proofs.YtjmooillogojkaaGreatW.PrintLast Go.Proofs.YtjmooillogojkaaGreatW.PrintMore
open Go.Proofs.YtjmooillogojkaaGreat
def padX (n : Int) : Int := IntKind.u64.wrap ((IntKind.u64.wrap n) * 8)
def padT (n : Int) (j : Int) : Int := (shr .u64 (padX n) j) % 256
def padL (n : Nat) : List Int := [128] ++ List.replicate ((119 - n % 64) % 64) 0 ++ [padT n 56] ++ [padT n 48] ++ [padT n 40] ++ [padT n 32] ++ [padT n 24] ++ [padT n 16] ++ [padT n 8] ++ [padT n 0]
def padB (n : Nat) : ByteArray := strOfNums (padL n)
theorem padL_length (n : Nat) : (padL n).length = (119 - n % 64) % 64 + 9 := by
 unfold padL
 simp only [List.length_append, List.length_cons, List.length_nil, List.length_replicate]
 omega
theorem strOfNums_size (l : List Int) : (strOfNums l).size = l.length := by
 unfold strOfNums
 show (List.map _ l).toArray.size = _
 rw [List.size_toArray, List.length_map]
theorem padB_size (n : Nat) : (padB n).size = (119 - n % 64) % 64 + 9 := by
 unfold padB
 rw [strOfNums_size, padL_length]
theorem pad_round (k : Nat) (x : Int) (xs : List Int) (j : Int) (h0 : 0 ≤ j) (h1 : j ≤ 56) (hl : xs.length < 1000) : sha_Pad.l0 (k + 1) x xs j = sha_Pad.l0 k x (xs ++ [padT x j]) (j - 8) := by
 have hw : wrap64 (j - 8) = j - 8 := by unfold wrap64; omega
 rw [sha_Pad.l0.eq_2, if_pos h0, if_pos h0, if_pos (by omega), hw]
 rfl
theorem pad_spec {n : Nat} (hn : n ≤ 65536) : sha_Pad.f 20 (n : Int) = some (padB n) := by
 have hd : decide ((n : Int) > 65536) = false := decide_eq_false (by omega)
 have t1 : Int.tmod (n : Int) 64 = ((n % 64 : Nat) : Int) := (Int.ofNat_tmod n 64).symm
 have hw : wrap64 (119 - ((n % 64 : Nat) : Int)) = ((119 - n % 64 : Nat) : Int) := by unfold wrap64; omega
 have t2 : Int.tmod ((119 - n % 64 : Nat) : Int) 64 = (((119 - n % 64) % 64 : Nat) : Int) := (Int.ofNat_tmod _ 64).symm
 unfold sha_Pad.f
 rw [if_neg (by omega), hd]
 rw [sha_Pad.j0.eq_2, if_neg (by decide), Option.bind_some, t1, hw, t2, if_pos (by omega), if_pos (by
  rw [Int.toNat_natCast]
  simp only [List.length_cons, List.length_nil]
  omega), Int.toNat_natCast]
 have L : ∀ (xs : List Int) (m : Nat), xs.length = (119 - n % 64) % 64 + m → m ≤ 20 → xs.length < 1000 := fun xs m h1 h2 => by omega
 have b1 : ([128] ++ List.replicate ((119 - n % 64) % 64) (0 : Int)).length < 1000 := by
  simp only [List.length_append, List.length_cons, List.length_nil, List.length_replicate]
  omega
 generalize hX : [128] ++ List.replicate ((119 - n % 64) % 64) (0 : Int) = X at b1 ⊢
 have b0 : X.length ≤ 64 := by
  rw [← hX]
  simp only [List.length_append, List.length_cons, List.length_nil, List.length_replicate]
  omega
 have E : padB n = strOfNums (X ++ [padT n 56] ++ [padT n 48] ++ [padT n 40] ++ [padT n 32] ++ [padT n 24] ++ [padT n 16] ++ [padT n 8] ++ [padT n 0]) := by
  unfold padB padL
  rw [hX]
 rw [E]
 rw [pad_round 18 _ _ _ (by omega) (by omega) (by (try simp only [List.length_append, List.length_cons, List.length_nil]); omega),
  pad_round 17 _ _ _ (by omega) (by omega) (by (try simp only [List.length_append, List.length_cons, List.length_nil]); omega),
  pad_round 16 _ _ _ (by omega) (by omega) (by (try simp only [List.length_append, List.length_cons, List.length_nil]); omega),
  pad_round 15 _ _ _ (by omega) (by omega) (by (try simp only [List.length_append, List.length_cons, List.length_nil]); omega),
  pad_round 14 _ _ _ (by omega) (by omega) (by (try simp only [List.length_append, List.length_cons, List.length_nil]); omega),
  pad_round 13 _ _ _ (by omega) (by omega) (by (try simp only [List.length_append, List.length_cons, List.length_nil]); omega),
  pad_round 12 _ _ _ (by omega) (by omega) (by (try simp only [List.length_append, List.length_cons, List.length_nil]); omega),
  pad_round 11 _ _ _ (by omega) (by omega) (by (try simp only [List.length_append, List.length_cons, List.length_nil]); omega)]
 rw [sha_Pad.l0.eq_2, if_neg (by decide)]
 rfl
structure Sm (W wr : World) (g3 : Nat) (st l : List Int) (A : Option Addr) (c : Nat) : Prop where
 blk : wr.heap[g3]? = some (.cells (arr32 st) 230 (0, 0))
 row : ∀ W', KeepBut wr W' g3 none → (Kd.int .u8).C W' A l.length l
 cap : l.length ≤ c
 bel : Below W.heap.size W wr
 lo : W.heap.size ≤ g3
section
variable {W wr w1 : World} {g3 c : Nat} {st st' l : List Int} {A : Option Addr}
theorem Sm.cut (h : Sm W wr g3 st l A c) (h64 : 64 ≤ l.length) : Sm W wr g3 st (l.drop 64) (if c = 64 then A else A.map (·.add 64)) (c - 64) :=
 ⟨h.blk, fun W' hk => Kd.C_drop (h.row W' hk) h64 h.cap, by rw [List.length_drop]; have := h.cap; omega, h.bel, h.lo⟩
theorem keepBut_setCells {g : Nat} (vs : List Value) (o : Nat) (w : World) : KeepBut w (w.setCells g o vs) g none :=
 ⟨Nat.le_of_eq (size_setCells' vs o w).symm, fun k _ hk _ => heap_setCells hk vs o w⟩
theorem Sm.mixed (h : Sm W wr g3 st l A c) (hb : Below wr.heap.size wr w1) (h8 : st.length = 8) (hl : st'.length = 8) : Sm W (w1.setCells g3 0 (arr32 st').toList) g3 st' l A c := by
 have k1 := KeepBut.of_below hb g3 none
 have k2 := k1.trans (keepBut_setCells (g := g3) (arr32 st').toList 0 w1) (.inl rfl)
 exact ⟨by rw [blk_setCells _ 0 _ _ (blk_below h.blk hb), putC_all (by rw [arr32_size, arr32_size, h8, hl])], fun W' hk => h.row W' (k2.trans hk (.inl rfl)), h.cap, below_setCells h.lo _ 0 _ (below_step h.bel hb), h.lo⟩
theorem Sm.below (h : Sm W wr g3 st l A c) (hb : Below wr.heap.size wr w1) : Sm W w1 g3 st l A c :=
 ⟨blk_below h.blk hb, fun W' hk => h.row W' ((KeepBut.of_below hb g3 none).trans hk (.inl rfl)), h.cap, below_step h.bel hb, h.lo⟩
end
def by4 (x : Int) : List Int := [x / 16777216 % 256, x / 65536 % 256, x / 256 % 256, x % 256]
def outL (st : List Int) : Nat → List Int
 | 0 => []
 | i + 1 => outL st i ++ by4 (rd st i)
theorem outL_length (st : List Int) (i : Nat) : (outL st i).length = 4 * i := by
 induction i with
 | zero => rfl
 | succ i ih =>
  unfold outL
  rw [List.length_append, ih]
  show 4 * i + 4 = _
  omega
def shaT (st p : List Int) (n : Nat) : List Int := foldC ((p.length + (padB n).size) / 64) st (p ++ bytesOf (padB n))
def shaF (s : ByteArray) : ByteArray := strOfNums (outL (shaT (foldC (s.size / 64) stL (bytesOf s)) ((bytesOf s).drop (64 * (s.size / 64))) s.size) 8)
theorem shaF_size (s : ByteArray) : (shaF s).size = 32 := by
 unfold shaF
 rw [strOfNums_size, outL_length]
theorem below_grown0 {a b : World} (h : a.grownBy b none) : Below a.heap.size a b := (Below.refl _ _).grown h (Nat.le_refl _) (fun k hk => by cases hk)
theorem mix_cut {W wr : World} {g3 c : Nat} {st l out : List Int} {A : Option Addr} (hst : st.length = 8) (h : Sm W wr g3 st l A c) (h64 : 64 ≤ l.length) (ho : out = mixF st (l.take 64)) :
  Calls Tryz.prog 175 #[.agg (arr32 st), .slice A 64 c] wr fun e w' => e = .returned (.agg (arr32 out)) ∧ Below wr.heap.size wr w' := by
 have hl : (l.take 64).length = 64 := by rw [List.length_take]; omega
 have hr := Kd.C_take (h.row wr (KeepBut.refl _ _ _)) h64
 have := mix_ok (A := A) (c := c) wr hst hr (by have := h.cap; omega) hl ho
 rw [hl] at this
 exact this
theorem by4_reps (W : World) (base : Nat) (ok : Nat → Prop) (x : Int) : Reps ((Kd.int .u8).M W base ok) (Kd.int .u8).sz (by4 x) (nums .u8 (by4 x)) := by
 refine ⟨rfl, ?_⟩
 intro j p hj
 unfold nums
 have hj' := (List.getElem?_eq_some_iff.1 hj).1
 have h2 := (List.getElem?_eq_some_iff.1 hj).2
 show _ = _
 rw [show (Kd.int .u8).sz = 1 from rfl, Nat.mul_one, ← h2]
 simp [List.take_one, List.head?_drop, hj']
theorem index_run {st : List Int} {j : Nat} {x : Int} (hx : (arr32 st)[j]? = some (.int .u32 x)) (hj : j < 8) (W : World) : (Instr.index 230 (.agg (arr32 st)) (.int .i64 (j : Int))).run Tryz.prog W = .ok (.int .u32 x) W := by
 have hn : (0 : Int) ≤ (j : Int) ∧ (j : Int) < ((8 : Nat) : Int) := by omega
 simp [Instr.index, run_underlying Tryz.underlying230, asIntOf, hn, go_sem, Tryz.sizeOf180, part, hx]
 intro h
 omega
theorem hsum_ok {w W : World} {g n : Nat} {st p : List Int} {v : Value} (h : Hs w W g st v p (n : Int)) (hn : n ≤ 65536) (hp : p.length ≤ 1000) (hm : (p.length + (padB n).size) % 64 = 0) :
  Calls Tryz.prog 167 #[.pointer (some ⟨g, 0, none⟩)] W fun e w' => e = .returned (.string (strOfNums (outL (shaT st p n) 8))) ∧ Below W.heap.size W w' := by
 have HS := jo h
 have HPD := jo (pad_spec hn)
 have HL := jo hp
 have HM0 := jo hm
 have HN := jo hn
 have HZ : Aside0 (∀ w, (sizeOf 230).run Tryz.prog w = .ok (arr32 st).size w) := ⟨fun w => by rw [arr32_size, HS.out.len]; exact Tryz.sizeOf230 w⟩
 have HST0 := jo HS.out.len
 obtain ⟨A8, c8, e8⟩ := Kd.R_slice h.row
 subst e8
 clear hn hp hm h
 go_enter Tryz.func167, Tryz.ntmps167
 go_wp2_with (first
  | ((with_reducible refine gate_dst (N := 13) rfl ?_); refine load_event rfl (N := 13) rfl (t := 230) rfl (cs := arr32 st) rfl HS.out.cells Tryz.isAgg230 HZ.out ?_)
  | ((with_reducible refine gate_dst (N := 3) rfl ?_); refine box_event ?hg (N := 3) ?hd (cs := arr32 (List.replicate 8 0)) (t := 230) ?hr ?_; (case hd => rfl); (case hg => rfl); (case hr => (go_simp; rfl)); intro g3 hg3 w2 hx2 hb2)
  | ((with_reducible refine gate_store (t := 230) (p := 3) rfl ?_); refine store_arr rfl rfl rfl (vs := arr32 st) rfl rfl hx2 (by rw [arr32_size, HS.out.len]; exact Nat.le_refl 8) arr32_one HZ.out ?_; intro W3 hW3))
 have k3 : W3.heap[g3]? = some (.cells (arr32 st) 230 (0, 0)) := by
  rw [hW3, blk_setCells _ 0 _ _ hx2, putC_all (by rw [arr32_size, HS.out.len]; rfl)]
 have b3 : Below W.heap.size W W3 := by
  rw [hW3]
  exact below_setCells (Nat.le_of_eq hg3.symm) _ 0 _ hb2
 have HS3 := jo (HS.out.below b3)
 have H3 := jo (And.intro k3 (And.intro b3 hg3))
 have f8 := HS3.out.cell8
 have f9 := HS3.out.cell9
 clear hW3 hx2 hb2 k3 b3 hg3
 refine st_ (S := fun w' => w'.cell? ⟨g, 8, none⟩ = some (.slice A8 p.length c8) ∧ w'.cell? ⟨g, 9, none⟩ = some (.int .i64 (n : Int))) (ds := []) 13 ⟨f8, f9⟩ (fun hHeld => ?_)
 refine td_ [1, 2, 3, 6, 7, 8] ?_
 repeat (first | refine pp_ ?_ | refine po_ ?_)
 refine tn_ ?_
 refine td_ [4, 9] ?_
 repeat (refine pt_ hHeld ?_)
 refine tn_ ?_
 refine on_ 0 (fun K hK => ?_)
 refine Kd.R_lit_step (Kd.int .u8) (w0 := W3) W3.heap.size 5 rfl (N := 14) rfl (xs := ([] : List Int)) (inner := []) (ok := fun _ => True) (okp := fun _ => True) ?lr (Reps.none _ _) (fun _ hk => hk) trivial (below_drew (Below.refl _ _)) (below_drew (Below.refl W3.heap.size W3)).size (by simp) ?_
 case lr => first | (go_simp; done) | (go_simp; rfl)
 intro v14 w14 ho hb hg hat
 have HO5 := jo ho
 have HB5 := jo hb
 have HS5 := jo (HS3.out.below hb)
 have f8 := HS5.out.cell8
 have f9 := HS5.out.cell9
 clear ho hb hg hat
 refine hK.out _ _ ⟨f8, f9⟩ (fun hHeld => ?_)
 clear hK K
 refine nm_ (some 14) ?_
 refine on_ 5 (fun K hK => ?_)
 refine Kd.R_append_rows_step (Kd.int .u8) (Rr := (Kd.int .u8).K w14) (w0 := W3) W3.heap.size rfl (.tmp 14) (.tmp 18) 60 5 (.int .u8 0) 1 rfl Tryz.underlying60 info5 rfl (by decide) (by omega) v14 [] p A8 p.length c8 (fun _ => True) (fun _ => False) rfl rfl HO5.out (Kd.R_reads' HS5.out.row).2.2 (fun x cs hx => hx) (fun _ hk => hk.elim) (fun _ _ => trivial) HB5.out HB5.out.size (by have := HL.out; simp only [List.length_nil]; omega) ?_
 intro v19 w19 ho hb hg hat
 have HO6 := jo ho
 have HB6 := jo hb
 have HS6 := jo (HS3.out.below hb)
 have f8 := HS6.out.cell8
 have f9 := HS6.out.cell9
 clear ho hb hg hat HS5 HO5 HB5
 refine hK.out _ _ ⟨f8, f9⟩ (fun hHeld => ?_)
 clear hK K
 refine nm_ (some 19) ?_
 refine on_ 10 (fun K hK => ?_)
 refine gs_ Tryz.func176 #[.int .i64 (n : Int)] ?_
 with_reducible refine ((sha_Pad.calls 20 _ _ _ HPD.out)).mono ?_
 rintro er w24 ⟨rfl, hb24⟩
 refine ⟨_, rfl, ?_⟩
 have HO7 := jo (Kd.R_below HO6.out hb24)
 have hb := below_step HB6.out hb24
 have HB7 := jo hb
 have HS7 := jo (HS3.out.below hb)
 have f8 := HS7.out.cell8
 have f9 := HS7.out.cell9
 clear hb hb24 HS6 HO6 HB6
 refine hK.out _ _ ⟨f8, f9⟩ (fun hHeld => ?_)
 clear hK K
 refine nm_ (some 24) ?_
 refine on_ 11 (fun K hK => ?_)
 refine str_append_step rfl _ _ rfl v19 ([] ++ p) (padB n) rfl rfl HO7.out HB7.out.size (by have := HL.out; have := padB_size n; rw [List.nil_append]; omega) ?_
 intro v25 w25 ho hg
 have hb : Below W3.heap.size W3 w25 := HB7.out.grown hg HB7.out.size (fun k hk => by obtain ⟨inner, hoo⟩ := Kd.R_own HO7.out; exact own_base hoo k hk)
 have HO8 := jo ho
 have HB8 := jo hb
 have HS8 := jo (HS3.out.below hb)
 have f8 := HS8.out.cell8
 have f9 := HS8.out.cell9
 clear ho hb hg HS7 HO7 HB7
 refine hK.out _ _ ⟨f8, f9⟩ (fun hHeld => ?_)
 clear hK K
 refine nm_ (some 25) ?_
 refine td_ [12] ?_
 repeat (first | refine pp_ ?_ | refine po_ ?_)
 refine tn_ ?_
 refine dn_ ?_
 obtain ⟨A25, c25, e25⟩ := Kd.R_slice HO8.out
 subst e25
 obtain ⟨l0, hl0⟩ : ∃ l, l = [] ++ p ++ bytesOf (padB n) := ⟨_, rfl⟩
 have hll : l0.length = p.length + (padB n).size := by rw [hl0, List.nil_append, List.length_append, bytesOf_length]
 have HLE := jo (And.intro hll hl0)
 have HM9 : Aside0 (Sm W w25 g3 st l0 A25 c25) := ⟨by
  rw [← hl0] at HO8
  have hr := HO8.out
  exact ⟨blk_below H3.out.1 HB8.out, Kd.C_foot_own (Kd.R_bound hr) (fun k hk => by have := blk_lt H3.out.1; omega), (Kd.R_reads' hr).2.1, below_step H3.out.2.1 HB8.out, by rw [H3.out.2.2]; exact Nat.le_refl _⟩⟩
 obtain ⟨i0, hi5, hzz⟩ := Option.map_eq_some_iff.1 info5
 simp only [Prod.mk.injEq] at hzz
 have HI5 := jo (And.intro hi5 hzz.2.1)
 rw [← hl0]
 clear hll hl0 HO8 HB8 HS8 HS3 f8 f9 HS hi5 hzz
 go_wp2
 go_loopg [4] (l0.length / 64) (fun gk v4 wr => ∃ (i : Nat) (l : List Int) (A : Option Addr) (c : Nat), v4 = .slice A l.length c ∧ Aside0 (i + gk = l0.length / 64 ∧ l = l0.drop (64 * i) ∧ Sm W wr g3 (foldC i st l0) l A c))
 case atStart => exact ⟨0, l0, A25, c25, rfl, ⟨by omega, by rw [Nat.mul_zero, List.drop_zero], HM9.out⟩⟩
 case round =>
  obtain ⟨i, l, A, c, rfl, HA⟩ := hrel
  clear HM9
  have hlen : l.length = l0.length - 64 * i := by rw [HA.out.2.1, List.length_drop]
  have h0 := HLE.out.1
  have h1 := HM0.out
  have hi := HA.out.1
  by_cases hpos : 0 < l.length
  ·have d1 : decide ((0 : Int) < (l.length : Int)) = true := decide_eq_true (by omega)
   have d2 : decide (0 < l.length) = true := decide_eq_true hpos
   have d3 : (0 : Int) < (l.length : Int) := by omega
   have h64 : 64 ≤ l.length := by omega
   obtain ⟨gq, rfl⟩ : ∃ q, gk = q + 1 := ⟨gk - 1, by omega⟩
   obtain ⟨sx, hsx⟩ : ∃ s, s = foldC i st l0 := ⟨_, rfl⟩
   rw [← hsx] at HA
   have HM7 := jo (HA.out.2.2.below (below_drew (Below.refl _ _)))
   have HST : Aside0 (sx.length = 8) := ⟨by rw [hsx]; exact foldC_length _ _ _ HST0.out⟩
   obtain ⟨so, hso⟩ : ∃ so, so = mixF sx (l.take 64) := ⟨_, rfl⟩
   have HO10 := jo hso
   have HO10L : Aside0 (so.length = 8) := ⟨by rw [hso]; exact mixF_length HST.out⟩
   have HZ10 : Aside0 (∀ w, (sizeOf 230).run Tryz.prog w = .ok (arr32 sx).size w) := ⟨fun w => by rw [arr32_size, HST.out]; exact Tryz.sizeOf230 w⟩
   have HZ10b : Aside0 (∀ w, (sizeOf 230).run Tryz.prog w = .ok (arr32 so).size w) := ⟨fun w => by rw [arr32_size, HO10L.out]; exact Tryz.sizeOf230 w⟩
   have hct : ∀ W : World, (Instr.slice 60 (.slice A l.length c) none (some (.int .i64 64)) none).run Tryz.prog W = .ok (.slice A 64 c) W := cut_to 60 5 .i64 Tryz.underlying60 HI5.out.1 A l.length c 64 (by decide) (by omega) HA.out.2.2.cap
   have hcf := cut_from (P := Tryz.prog) 60 5 .i64 Tryz.underlying60 HI5.out.1 1 HI5.out.2 A l.length c 64 (by decide) (by omega)
   obtain ⟨A2, hA2⟩ : ∃ A2, A2 = (if c = 64 then A else A.map (·.add 64)) := ⟨_, rfl⟩
   have hcf' : ∀ W : World, (Instr.slice 60 (.slice A l.length c) (some (.int .i64 64)) none none).run Tryz.prog W = .ok (.slice A2 (l.length - 64) (c - 64)) W := by
    rw [hA2]
    exact hcf
   have HL64 := jo h64
   have HA2 := jo hA2
   have HSX := jo hsx
   have HNX : Aside0 (so = foldC (i + 1) st l0 ∧ l.drop 64 = l0.drop (64 * (i + 1)) ∧ i + 1 + gq = l0.length / 64) := ⟨by rw [foldC_succ, hso, hsx, HA.out.2.1], by rw [HA.out.2.1, List.drop_drop]; congr 1, by omega⟩
   clear hcf hA2 hso hsx hlen h0 h1 hi h64
   go_wp2
   refine st_ (S := fun w' => True) (ds := [4]) 5 trivial (fun hHeld => ?_)
   refine td_ [1, 2] ?_
   repeat (first | refine pp_ ?_ | refine po_ ?_)
   refine tn_ ?_
   refine on_ 0 (fun K hK => ?_)
   refine value_ (w1 := wr.drew) (v := .agg (arr32 sx)) (by rfl) rfl ?_ ?_
   ·exact load_run rfl rfl (blk_cells HM7.out.blk) Tryz.isAgg230 HZ10.out
   refine hK.out _ _ trivial (fun hHeld => ?_)
   clear hK K
   refine nm_ (some 31) ?_
   refine on_ 3 (fun K hK => ?_)
   refine gs_ Tryz.func175 #[.agg (arr32 sx), .slice A 64 c] ?_
   with_reducible refine ((mix_cut HST.out HM7.out HL64.out HO10.out)).mono ?_
   rintro er w6 ⟨rfl, hb6⟩
   refine ⟨_, rfl, ?_⟩
   have H6 := jo (HM7.out.below hb6)
   have H6b := jo (HM7.out.mixed hb6 HST.out HO10L.out)
   clear hb6
   refine hK.out _ _ trivial (fun hHeld => ?_)
   clear hK K
   refine nm_ (some 34) ?_
   refine la_ 4 (fun K hK => ?_)
   refine skip_ (w1 := w6.setCells g3 0 (arr32 so).toList) (by rfl) rfl ?_ ?_
   ·exact store_run (off := 0) (vs := arr32 so) rfl rfl rfl H6.out.blk (by rw [arr32_size, arr32_size, HST.out, HO10L.out]; decide) arr32_one HZ10b.out
   refine hK.out _ _ ?_
   clear hK K
   refine dn_ ?_
   go_wp2
   go_roundg gq
   case measure => omega
   case rel =>
    refine ⟨i + 1, l.drop 64, A2, c - 64, by rw [List.length_drop], ⟨HNX.out.2.2, HNX.out.2.1, ?_⟩⟩
    rw [← HNX.out.1, HA2.out]
    exact H6b.out.cut HL64.out
  ·have d1 : decide ((0 : Int) < (l.length : Int)) = false := decide_eq_false (by omega)
   have d2 : decide (0 < l.length) = false := decide_eq_false hpos
   have d3 : ¬ (0 : Int) < (l.length : Int) := by omega
   have hiK : i = l0.length / 64 := by omega
   have HIK := jo hiK
   obtain ⟨sf, hsf⟩ : ∃ s, s = foldC i st l0 := ⟨_, rfl⟩
   rw [← hsf] at HA
   have HMF := jo HA.out.2.2
   have HSF : Aside0 (sf.length = 8) := ⟨by rw [hsf]; exact foldC_length _ _ _ HST0.out⟩
   have HZF : Aside0 (∀ w, (sizeOf 230).run Tryz.prog w = .ok (arr32 sf).size w) := ⟨fun w => by rw [arr32_size, HSF.out]; exact Tryz.sizeOf230 w⟩
   have HSD : Aside0 (sf = shaT st p n) := ⟨by
    rw [hsf, hiK]
    unfold shaT
    rw [HLE.out.2, HLE.out.1.symm.trans (congrArg List.length HLE.out.2) |>.symm]
    rfl⟩
   clear hiK hlen h0 h1 hi hsf HA
   go_wp2_with ((with_reducible refine gate_dst (N := 35) rfl ?_); refine load_event rfl (N := 35) rfl (t := 230) rfl (cs := arr32 sf) rfl (blk_cells HMF.out.blk) Tryz.isAgg230 HZF.out ?_)
   go_loopg [5, 7, 36] 8 (fun gk v5 v7 v36 wq => ∃ j : Nat, v36 = .int .i64 j ∧ Aside0 (j + gk = 8 ∧ Below W.heap.size W wq ∧ Kd.R (Kd.int .u8) 5 wq W.heap.size (fun _ => True) v5 (outL sf j)))
   case atStart => exact ⟨0, rfl, ⟨rfl, HMF.out.bel, Kd.R_nil _ _ _ _ _⟩⟩
   case round =>
    obtain ⟨j, rfl, HJ⟩ := hrel
    clear HMF
    by_cases hj8 : j < 8
    ·have d1 : decide ((j : Int) < 8) = true := decide_eq_true (by omega)
     have d2 : decide (j < 8) = true := decide_eq_true hj8
     have d3 : (j : Int) < 8 := by omega
     obtain ⟨gq, rfl⟩ : ∃ q, gk = q + 1 := ⟨gk - 1, by have := HJ.out.1; omega⟩
     obtain ⟨x, hx⟩ : ∃ x, x = rd sf (j : Nat) := ⟨_, rfl⟩
     have hix : (arr32 sf)[j]? = some (.int .u32 x) := by
      rw [hx]
      exact arr32_at (by rw [HSF.out]; exact hj8)
     have hir := fun W => index_run hix hj8 W
     have HX := jo hx
     have HLL := jo (show (outL sf j).length ≤ 32 by rw [outL_length]; omega)
     clear hx hix
     obtain ⟨xs, hxs⟩ : ∃ xs, xs = outL sf j := ⟨_, rfl⟩
     rw [← hxs] at HJ HLL
     have HXS := jo hxs
     have HO12 := jo HJ.out.2.2
     have HB12 := jo HJ.out.2.1
     have HJ1 := jo HJ.out.1
     clear hxs HJ
     go_wp2_with (first
      | ((with_reducible refine gate_dst (N := 51) rfl ?_); refine Kd.R_lit (Kd.int .u8) (w0 := W) W.heap.size 5 ?hg (N := 51) ?hd (xs := ([x / 16777216 % 256, x / 65536 % 256, x / 256 % 256, x % 256] : List Int)) (inner := [.int .u8 (x / 16777216 % 256), .int .u8 (x / 65536 % 256), .int .u8 (x / 256 % 256), .int .u8 (x % 256)]) (ok := fun _ => True) (okp := fun _ => True) ?hr ?hp (fun _ hk => hk) trivial HB12.out HB12.out.size (by simp) ?_; (case hd => rfl); (case hg => rfl); (case hr => first | (go_simp; done) | (go_simp; rfl)); (case hp => exact by4_reps _ _ _ x); intro v51 w51 ho hb hg hat; replace ho : Kd.R (Kd.int .u8) 5 w51 W.heap.size (fun _ => True) v51 (by4 x) := ho; obtain ⟨A51, c51, e51⟩ := Kd.R_slice ho; subst e51; have HO51 := jo ho; have HB51 := jo hb; have HR12 := jo (Kd.R_below HO12.out (below_grown0 hg)); clear ho hb hg hat HO12 HB12)
      | ((with_reducible refine gate_builtin (b := .append) (xs := #[.tmp 39, .tmp 51]) rfl ?_); at_builtin; refine Kd.R_append_rows (Kd.int .u8) (Rr := (Kd.int .u8).K w51) (w0 := W) W.heap.size rfl (.tmp 39) (.tmp 51) 60 5 (.int .u8 0) 1 rfl Tryz.underlying60 info5 rfl (by decide) (by omega) u5 xs (by4 x) A51 (by4 x).length c51 (fun _ => True) (fun _ => False) rfl rfl HR12.out (Kd.R_reads' HO51.out).2.2 (fun x cs hx => hx) (fun _ hk => hk.elim) (fun _ _ => trivial) HB51.out HB51.out.size (by have := HLL.out; have : (by4 x).length = 4 := rfl; omega) ?_; intro v52 w52 ho hb hg hat; have HO52 := jo ho; have HB52 := jo hb; clear ho hb hg hat HO51 HB51 HR12))
     go_roundg gq
     case measure => omega
     case rel => exact ⟨j + 1, rfl, ⟨by have := HJ1.out; omega, HB52.out, by
      show Kd.R _ _ _ _ _ _ (outL sf j ++ by4 (rd sf j))
      rw [← HXS.out, ← HX.out]
      exact HO52.out⟩⟩
    ·have d1 : decide ((j : Int) < 8) = false := decide_eq_false (by omega)
     have d2 : decide (j < 8) = false := decide_eq_false hj8
     have d3 : ¬ (j : Int) < 8 := by omega
     have hj : j = 8 := by have := HJ.out.1; omega
     subst hj
     have hcv := own_string (P := Tryz.prog) Tryz.underlying60 Tryz.underlying5 Tryz.underlying9 (Kd.own_of_R HJ.out.2.2)
     have HB8 := jo HJ.out.2.1
     obtain ⟨o, ho⟩ : ∃ o, o = outL sf 8 := ⟨_, rfl⟩
     rw [← ho] at hcv
     have HOO := jo ho
     clear ho HJ
     go_wp2
     go_ret
     exact ⟨by rw [HOO.out, HSD.out]; rfl, HB8.out⟩
theorem shasum_ok {s : ByteArray} (hs : s.size ≤ 60000) (w : World) : Calls Tryz.prog 145 #[.string s] w fun e w' => e = .returned (.string (shaF s)) ∧ Below w.heap.size w w' := by
 have HS := jo hs
 clear hs
 go_enter Tryz.func145, Tryz.ntmps145
 go_wp2_with fail
 (with_reducible refine (new_ok w).mono ?_)
 rintro e w1 ⟨g, rfl, h1⟩
 have H1 := jo h1
 clear h1
 go_wp2_with fail
 (with_reducible refine (write_ok s w1 H1.out HS.out).mono ?_)
 rintro e w2 ⟨rfl, v, h2⟩
 have H2 := jo h2
 clear h2
 have hl : ((bytesOf s).drop (64 * (s.size / 64))).length = s.size - 64 * (s.size / 64) := by rw [List.length_drop, bytesOf_length]
 have HX := jo (hsum_ok H2.out (by have := HS.out; omega) (by omega) (by rw [hl, padB_size]; omega))
 clear hl
 go_wp2_with fail
 (with_reducible refine HX.out.mono ?_)
 rintro e w3 ⟨rfl, h3⟩
 have HB := jo (below_step H2.out.bel h3)
 clear h3
 go_wp2
 go_ret
 exact ⟨rfl, HB.out⟩
end Go.Proofs.YtjmooillogojkaaGreat.Q
