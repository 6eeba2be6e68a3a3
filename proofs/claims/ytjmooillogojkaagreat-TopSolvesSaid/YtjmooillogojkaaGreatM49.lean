/- Plain: the rules and the check blocks of a published file are equations that its whole fulfills; both solvers say the same of them; mosaictop.fine: a published file, a check block of it, a peeling ... No condition. -/
import Derived.Test.YtjmooillogojkaaGreatM44
import Derived.Test.YtjmooillogojkaaGreatM48
set_option maxHeartbeats 8000000
set_option maxRecDepth 100000
set_option linter.unusedVariables false
set_option linter.unusedSimpArgs false
namespace Go.Proofs.YtjmooillogojkaaGreat.Q
open Go.RowKit Go.Proofs.YtjmooillogojkaaGreatW.PrintWords
open Go.Proofs.YtjmooillogojkaaGreat Plain Deg
open Go.Proofs.YtjmooillogojkaaGreat.Lin
theorem sumB_nil (n : Nat) : sumB n [] = zeros n := by
 rw [zeros_eq]
 rfl
theorem sumB_snoc {n : Nat} {l : List ByteArray} {x : ByteArray} (hx : x.size = n) : sumB n (l ++ [x]) = xop (sumB n l) x := by
 rw [xop_eq (sumB_size n l) hx]
 unfold sumB xorB
 rw [sumL_snoc]
theorem bsum_ofN {W : List ByteArray} {sz : Nat} (hW : ∀ b ∈ W, b.size = sz) (l : List Int) (hn : l.Nodup) (hb : ∀ i ∈ l, 0 ≤ i ∧ i < (W.length : Int)) : bsum W sz (ofN l) W.length = sumB sz (getsL W l) := by
 revert hn hb
 refine snoc_ind (P := fun l => l.Nodup → (∀ i ∈ l, 0 ≤ i ∧ i < (W.length : Int)) → bsum W sz (ofN l) W.length = sumB sz (getsL W l)) ?_ ?_ l
 ·intro _ _
  rw [ofN_nil, bsum_zero]
  exact (sumB_nil sz).symm
 ·intro l i ih hn hb
  have hn' := List.nodup_append.1 hn
  have hi := hb i (by simp)
  have hni : i ∉ l := fun h => hn'.2.2 i h i (by simp) rfl
  have hb' : ∀ j ∈ l, 0 ≤ j ∧ j < (W.length : Int) := fun j hj => hb j (by simp [hj])
  have hlt : i.toNat < W.length := by omega
  have hg : W.getD i.toNat (zeros sz) = W.getD i.toNat ⟨#[]⟩ := by
   rw [List.getD_eq_getElem?_getD, List.getD_eq_getElem?_getD, List.getElem?_eq_getElem hlt]
   rfl
  have hgs : (W.getD i.toNat ⟨#[]⟩).size = sz := by rw [← hg]; exact get_size hW _
  rw [ofN_add (fun j hj => (hb' j hj).1) hi.1 hni, bsum_xor hW, ih hn'.1 hb', bsum_pow hW, if_pos hlt, hg]
  unfold getsL
  rw [List.map_append]
  exact (sumB_snoc hgs).symm
theorem getsL_app {bl : List ByteArray} (X : List ByteArray) {l : List Int} (h : ∀ i ∈ l, 0 ≤ i ∧ i < (bl.length : Int)) : getsL (bl ++ X) l = getsL bl l := by
 unfold getsL
 refine List.map_congr_left (fun i hi => ?_)
 have := h i hi
 rw [List.getD_eq_getElem?_getD, List.getD_eq_getElem?_getD, List.getElem?_append_left (by omega)]
theorem rule_sat {J : Int → List Int} {a n j sz : Nat} {bl : List ByteArray} (hbl : bl.length = n) (hj : j < a) : sumB sz (getsL (wholeF J a n bl sz) (rulI J n j)) = zeros sz := by
 have h1 : getsL (wholeF J a n bl sz) (memI J n j) = getsL bl (memI J n j) := by
  unfold wholeF
  exact getsL_app _ (fun i hi => by rw [hbl]; exact (memI_mem.1 hi).1)
 have h2 : (wholeF J a n bl sz).getD (n + j) ⟨#[]⟩ = sumB sz (getsL bl (memI J n j)) := by
  unfold wholeF memF
  rw [List.getD_eq_getElem?_getD, List.getElem?_append_right (by omega), hbl, Nat.add_sub_cancel_left, List.getElem?_map, List.getElem?_map, List.getElem?_range hj]
  rfl
 have h3 : getsL (wholeF J a n bl sz) (rulI J n j) = getsL bl (memI J n j) ++ [sumB sz (getsL bl (memI J n j))] := by
  unfold rulI
  have : getsL (wholeF J a n bl sz) (memI J n j ++ [((n + j : Nat) : Int)]) = getsL (wholeF J a n bl sz) (memI J n j) ++ [(wholeF J a n bl sz).getD (n + j) ⟨#[]⟩] := by
   unfold getsL
   rw [List.map_append]
   rfl
  rw [this, h1, h2]
 rw [h3, sumB_snoc (sumB_size _ _), xop_self (sumB_size _ _)]
theorem eqL_ok {m : MF} {W bl : List ByteArray} (hp : Pub m W bl) {H : List S36} (hh : ∀ x ∈ H, x.f2.size ≤ 100) :
  ∀ x ∈ eqL m W H, fOk W.length x ∧ x.f1.size = m.size.toNat ∧ SatB W m.size.toNat (ofN x.f0) x.f1 := by
 have hm := hp.may
 have hA := hm.A_le
 have hN := hm.cnt
 have hz1 := hp.z1
 have hz2 := hp.z2
 have hlen := hp.len
 have hW := hp.sz
 have key : ∀ l : List Int, rowOk (W.length : Int) l → SatB W m.size.toNat (ofN l) (sumB m.size.toNat (getsL W l)) := fun l hl => by
  unfold SatB
  rw [bsum_ofN hW l (rowOk_nodup hl) (fun i hi => rowOk_in hl i hi)]
 intro x hx
 unfold eqL at hx
 rcases List.mem_append.1 hx with hx | hx
 ·unfold eqR at hx
  obtain ⟨r, hr, rfl⟩ := List.mem_map.1 hx
  unfold rulesOf rulF at hr
  obtain ⟨j, hj, rfl⟩ := List.mem_map.1 hr
  have hja := List.mem_range.1 hj
  have hbl := hp.bln
  have hwl : W.length = m.N.toNat + m.A.toNat := by
   unfold MF.all at hlen
   omega
  have hro : rowOk (W.length : Int) (rulI (joinsF m.seed m.A m.q) m.N.toNat j) := by
   rw [hwl]
   exact rulI_ok hja
  have hs := rule_sat (J := joinsF m.seed m.A m.q) (a := m.A.toNat) (n := m.N.toNat) (j := j) (sz := m.size.toNat) (bl := bl) (by omega) hja
  rw [← hp.whole] at hs
  have hk := key _ hro
  rw [hs] at hk
  exact ⟨⟨hro, by show (zeros m.size.toNat).size ≤ 64; rw [zeros_size]; omega⟩, zeros_size _, hk⟩
 ·unfold eqH at hx
  obtain ⟨y, hy, rfl⟩ := List.mem_map.1 hx
  obtain ⟨hyH, he⟩ := List.mem_filter.1 hy
  have he := of_decide_eq_true he
  have hok := idxH_ok hm ((errH_spec hm hp.root (hdOf y) (hh y (List.mem_of_mem_take hyH))).2.2 he)
  have hro : rowOk (W.length : Int) (sortI (idxH m (hdOf y))) := by
   rw [hlen]
   exact sortI_ok hok.1 hok.2
  exact ⟨⟨hro, by show (sumB _ _).size ≤ 64; rw [sumB_size]; omega⟩, sumB_size _ _, key _ hro⟩
theorem eqL_len {m : MF} {W bl : List ByteArray} (hp : Pub m W bl) (H : List S36) : 1 ≤ (eqL m W H).length ∧ (eqL m W H).length ≤ 104 := by
 have hA := hp.may.A_le
 have h1 := eqH_len m W (H.take 40)
 have h2 : (H.take 40).length ≤ 40 := by rw [List.length_take]; omega
 unfold eqL
 rw [List.length_append]
 unfold eqR
 rw [List.length_map, rulesOf_len]
 omega
theorem eqL_rows {m : MF} {W bl : List ByteArray} (hp : Pub m W bl) {H : List S36} (hh : ∀ x ∈ H, x.f2.size ≤ 100) : rowsIn W.length ((eqL m W H).map (·.f0)) := by
 have h1 := hp.len
 have h2 := hp.may.all_le
 refine ⟨by omega, by rw [List.length_map]; have := eqL_len hp H; omega, fun l hl => ?_⟩
 obtain ⟨x, hx, rfl⟩ := List.mem_map.1 hl
 exact (eqL_ok hp hh x hx).1.1
noncomputable def solT (W : List ByteArray) (sz : Nat) (l : List S62) : List ByteArray := open Classical in (List.range W.length).map (fun i => if Span (rowN l) (2 ^ i) then W.getD i (zeros sz) else ⟨#[]⟩)
theorem solT_of {W : List ByteArray} {sz : Nat} {l : List S62} {a : List ByteArray} (hl : a.length = W.length) (h : ∀ i, i < W.length → a.getD i ⟨#[]⟩ = (open Classical in if Span (rowN l) (2 ^ i) then W.getD i (zeros sz) else ⟨#[]⟩)) : a = solT W sz l := by
 classical
 refine List.ext_getElem (by rw [hl]; simp [solT]) (fun i h1 h2 => ?_)
 have := h i (by omega)
 rw [List.getD_eq_getElem?_getD, List.getElem?_eq_getElem h1, Option.getD_some] at this
 rw [this]
 simp only [solT, List.getElem_map, List.getElem_range]
theorem solT_len (W : List ByteArray) (sz : Nat) (l : List S62) : (solT W sz l).length = W.length := by simp [solT]
theorem solT_at {W : List ByteArray} {sz : Nat} {l : List S62} {i : Nat} (hi : i < W.length) : ((solT W sz l)[i]'(by rw [solT_len]; exact hi) = W[i] ∧ Span (rowN l) (2 ^ i)) ∨ ((solT W sz l)[i]'(by rw [solT_len]; exact hi) = ⟨#[]⟩ ∧ ¬ Span (rowN l) (2 ^ i)) := by
 classical
 simp only [solT, List.getElem_map, List.getElem_range]
 by_cases h : Span (rowN l) (2 ^ i)
 ·left
  rw [if_pos h, List.getD_eq_getElem?_getD, List.getElem?_eq_getElem hi]
  exact ⟨rfl, h⟩
 ·right
  rw [if_neg h]
  exact ⟨rfl, h⟩
theorem solve7_top {W : List ByteArray} {sz : Nat} {l : List S62} {A : Option Addr} {c : Nat} (hW : ∀ b ∈ W, b.size = sz) (hl : ∀ x ∈ l, fOk W.length x ∧ x.f1.size = sz ∧ SatB W sz (ofN x.f0) x.f1) (hL : rowsIn W.length (l.map (·.f0))) (h0 : 0 < l.length) (hn : 1 ≤ W.length) (h1 : 1 ≤ sz) (h2 : sz ≤ 64) (w : World) (hr : Kd.C k62 w A l.length l) (hc : l.length ≤ c) :
  Calls Tryz.prog 7 #[.int .i64 (W.length : Int), .int .i64 (sz : Int), .slice A l.length c] w fun e w' => ∃ v, e = .returned (.tuple #[v, .int .i64 0]) ∧ Kd.R Kd.string 9 w' w.heap.size (fun _ => True) v (solT W sz l) ∧ Below w.heap.size w w' := by
 have hg := gauss_law (W := W) (sz := sz) (n := W.length) (l := l) hW rfl hL.1 (fun x hx => ⟨(hl x hx).2.2, ofN_lt (rowOk_in (hl x hx).1.1)⟩)
 have he : gOut W.length (redN xop (l.map toSide) W.length).1 = solT W sz l := solT_of (gOut_length _ _) hg.2.2
 have := gsolve_ok (n := W.length) (sz := sz) w hr hc (rowsIn_ok hL) h1 h2 (fun x hx => (hl x hx).2.1) h0 hn hg.1 hg.2.1
 rw [he] at this
 exact this
theorem solve8_top {W : List ByteArray} {sz : Nat} {l : List S62} {A : Option Addr} {c : Nat} (hW : ∀ b ∈ W, b.size = sz) (hl : ∀ x ∈ l, fOk W.length x ∧ x.f1.size = sz ∧ SatB W sz (ofN x.f0) x.f1) (hL : rowsIn W.length (l.map (·.f0))) (h0 : 0 < l.length) (hn : 1 ≤ W.length) (h1 : 1 ≤ sz) (h2 : sz ≤ 64) (w : World) (hr : Kd.C k62 w A l.length l) (hc : l.length ≤ c) :
  Calls Tryz.prog 8 #[.int .i64 (W.length : Int), .int .i64 (sz : Int), .slice A l.length c] w fun e w' => ∃ v, e = .returned (.tuple #[v, .int .i64 0]) ∧ Kd.R Kd.string 9 w' w.heap.size (fun _ => True) v (solT W sz l) ∧ Below w.heap.size w w' := by
 have hi := fun U st s s' (h : Sol W.length sz l U st s s') => inact_law (W := W) (sz := sz) (n := W.length) hW rfl h2 (fun x hx => ⟨(hl x hx).1, (hl x hx).2.2⟩) h
 refine (solve8_ok w hr hc hL hn h1 h2 (fun x hx => (hl x hx).2.1) h0 (fun U st s s' h => by
  obtain ⟨res, h1, _⟩ := hi U st s s' h
  exact ⟨res, h1⟩)).mono ?_
 rintro e w' ⟨U, st, s, s', res, v, rfl, hS, hres, hR, hb⟩
 obtain ⟨res', h3, h4, h5⟩ := hi U st s s' hS
 rw [hres] at h3
 obtain rfl := Option.some.inj h3
 refine ⟨v, rfl, ?_, hb⟩
 have he : (fin0 W.length sz l U st).1.map (solF res) = solT W sz l := solT_of (by rw [List.length_map, h4]) (fun i hi => by
  rw [← h5 i hi, List.getD_eq_getElem?_getD, List.getElem?_map, List.getD_eq_getElem?_getD, List.getElem?_eq_getElem (by rw [h4]; exact hi)]
  rfl)
 rw [← he]
 exact hR
theorem known_top {W : List ByteArray} {sz : Nat} {l : List S62} (hl : ∀ x ∈ l, fOk W.length x) (hL : rowsIn W.length (l.map (·.f0))) : ∃ k, peel_Known.f 100000 (W.length : Int) (l.map (·.f0)) [] = some (k, 0) ∧ ∀ i : Nat, (i : Int) ∈ k → Span (rowN l) (2 ^ i) := by
 obtain ⟨k, h1, h2⟩ := known_spec hL
 exact ⟨k, h1, fun i hi => cl_span hl (h2 i hi)⟩
end Go.Proofs.YtjmooillogojkaaGreat.Q
namespace Go.Proofs.YtjmooillogojkaaGreat.Q
open Go.RowKit Go.Proofs.YtjmooillogojkaaGreatW.PrintWords Go.Proofs.YtjmooillogojkaaGreatW.PrintLast Go.Proofs.YtjmooillogojkaaGreatW.PrintMore
open Go.Proofs.YtjmooillogojkaaGreat Plain Deg
def helloB : ByteArray := ⟨#[104, 101, 108, 108, 111]⟩
def llB : ByteArray := ⟨#[108, 108]⟩
def headB : HD := ⟨2, 1, ⟨#[]⟩⟩
theorem fine_piece : sumB 2 [piece helloB 2 1] = llB := by decide +kernel
theorem fine_known : peel_Known.f 1000 4 [[0], [0, 1]] [] = some ([0, 1], 0) := by decide +kernel
theorem fine_err {m : MF} (hm : m.may) (hr : m.root.size = 32) (ha : m.all = 4) : errH m headB = 0 := by
 have hB := (MF.B_iff m).2 hm
 have ha' : MF.N ⟨m.long, m.size, m.seed, m.n, m.d, m.q, m.f, m.root⟩ + MF.A ⟨m.long, m.size, m.seed, m.n, m.d, m.q, m.f, m.root⟩ = 4 := ha
 unfold errH headB inner_Check.f manifest_Check.f manifest_All.f inner_moded.f
 simp only
 rw [if_pos ⟨hB, hr⟩, Option.bind_some, if_pos rfl, if_neg (by decide), if_neg (by decide), if_pos ⟨hB, hr⟩, Option.bind_some, ha', if_neg (by decide), if_pos (by decide), if_neg (by decide), Option.bind_some]
 have e : (⟨#[]⟩ : ByteArray).toList = [] := by rw [ByteArray.toList_eq]
 rw [e]
 show (inner_Check.j0 (99999 + 1) _).getD 3 = 0
 simp only [inner_Check.j0]
 rfl
theorem fine_all {m : MF} {W bl : List ByteArray} (hp : Pub m W bl) (hl : m.long = 5) (hs : m.size = 2) (h1 : m.n = 1) (h2 : m.d = 2) (h3 : m.q = 1) : m.all = 4 := by
 have hN : m.N = 3 := by unfold MF.N; rw [hl, hs]; decide
 unfold MF.all MF.A
 rw [hN, h1, h2, h3]
 decide
theorem fine_sum {m : MF} {W : List ByteArray} (hp : Pub m W (pieces helloB 2 3)) (hs : m.size = 2) : sumB m.size.toNat (getsL W (sortI (idxH m headB))) = llB := by
 have e1 : idxH m headB = [1] := by unfold idxH headB; rw [if_pos rfl]
 have e2 : sortI [(1 : Int)] = [1] := by simp [sortI]
 rw [e1, e2, hs]
 have e3 : getsL W [1] = [piece helloB 2 1] := by
  rw [hp.whole]
  unfold getsL wholeF
  rw [List.map_singleton, List.getD_eq_getElem?_getD, List.getElem?_append_left (by rw [pieces_length]; decide)]
  unfold pieces
  rw [List.getElem?_map]
  rfl
 rw [e3]
 exact fine_piece
theorem fine_ok (w : World) : Calls Tryz.prog 5 #[] w fun e w' => e = .returned (.bool true) ∧ Below w.heap.size w w' := by
 obtain ⟨m, W, hp, hs, hl, h1, h2, h3, h4, hc⟩ := publish_good (file := helloB) (s0 := 2) (s1 := 0) (s2 := 1) (s3 := 2) (s4 := 1) (s5 := 4) (by decide) (by decide) (by decide)
 have hp' : Pub m W (pieces helloB 2 3) := hp
 have hall := fine_all hp' hl hs h1 h2 h3
 have hlen := hp'.len
 rw [hall] at hlen
 have hsum := fine_sum hp' hs
 have HP := jo hc
 have HEN := jo (fun (W0 : World) (A : Option Addr) (c : Nat) (hr : Kd.C Kd.string W0 A W.length W) (hc : W.length ≤ c) => Encode_yes hp'.may hp'.root (h := headB) (by decide) (fine_err hp'.may hp'.root hall) W0 hr hc hp'.len hp'.z1 hp'.z2 (fun s hs => by rw [hp'.sz s hs]; have := hp'.z1; omega))
 rw [hsum] at HEN
 clear hp hp' hs hl h1 h2 h3 h4 hc hall hsum
 unfold MF.v at HP HEN
 unfold helloB at HP
 unfold llB at HEN
 unfold HD.v headB at HEN
 have hl4 : W.length = 4 := by omega
 obtain ⟨m0, m1, m2, m3, m4, m5, m6, m7⟩ := m
 simp only at HP HEN
 rw [hl4] at HEN
 clear hlen
 go_enter Tryz.func5, Tryz.ntmps5
 go_wp2_with fail
 with_reducible refine (HP.out w).mono ?_
 rintro e w2 ⟨v2, rfl, ho2, hb2⟩
 obtain ⟨A2, c2, e2⟩ := Kd.R_slice ho2
 subst e2
 have hrd := Kd.R_reads' ho2
 rw [hl4] at hrd
 have H2 := jo (And.intro hb2 (And.intro hrd.2.1 hrd.2.2))
 rw [hl4]
 clear ho2 hb2 hrd HP
 go_wp2_with (first | ((with_reducible refine gate_store (t := 30) (p := 1) rfl ?_); refine store_arr rfl rfl rfl (vs := #[.int .i64 m0, .int .i64 m1, .int .i64 m2, .int .i64 m3, .int .i64 m4, .int .i64 m5, .int .i64 m6, .string m7]) rfl rfl (blk_new w2 _) (by simp) (by simp [Value.oneCell']) Tryz.sizeOf30 ?_; intro w3 hw3; have H3 : Aside0 (w3.heap[w2.heap.size]? = some (.cells #[.int .i64 m0, .int .i64 m1, .int .i64 m2, .int .i64 m3, .int .i64 m4, .int .i64 m5, .int .i64 m6, .string m7] 30 (0, 0)) ∧ Below w2.heap.size w2 w3) := ⟨by rw [hw3]; exact ⟨by rw [blk_setCells _ 0 _ _ (blk_new w2 _)]; rfl, below_setCells (Nat.le_refl _) _ 0 _ (below_alloc (Below.refl _ _) _)⟩⟩; clear hw3) | ((with_reducible refine gate_dst (N := 17) rfl ?_); refine load_event rfl (N := 17) rfl (t := 30) rfl (cs := #[.int .i64 m0, .int .i64 m1, .int .i64 m2, .int .i64 m3, .int .i64 m4, .int .i64 m5, .int .i64 m6, .string m7]) rfl (blk_cells H3.out.1) Tryz.isAgg30 Tryz.sizeOf30 ?_))
 with_reducible refine (HEN.out w3 A2 c2 (Kd.C_below H2.out.2.2 H3.out.2) H2.out.2.1).mono ?_
 rintro e w4 ⟨rfl, hb4⟩
 have H4 := jo (below_step (below_step H2.out.1 H3.out.2) hb4)
 clear hb4 H3 H2 HEN
 go_wp2_with fail
 have b1 : Below w.heap.size w (((w4.alloc (.cells #[.int .i64 0] 3)).alloc (.cells #[.int .i64 0, .int .i64 1] 3)).alloc (.cells #[.slice (some ⟨w4.heap.size, 0, none⟩) 1 1, .slice (some ⟨w4.heap.size + 1, 0, none⟩) 2 2] 44)) := below_alloc (below_alloc (below_alloc H4.out _) _) _
 have hC : Kd.C (Kd.slice 3 (Kd.int .i64)) (((w4.alloc (.cells #[.int .i64 0] 3)).alloc (.cells #[.int .i64 0, .int .i64 1] 3)).alloc (.cells #[.slice (some ⟨w4.heap.size, 0, none⟩) 1 1, .slice (some ⟨w4.heap.size + 1, 0, none⟩) 2 2] 44)) (some ⟨w4.heap.size + 1 + 1, 0, none⟩) [[(0 : Int)], [0, 1]].length [[(0 : Int)], [0, 1]] := by
  have j1 : JR ((w4.alloc (.cells #[.int .i64 0] 3)).alloc (.cells #[.int .i64 0, .int .i64 1] 3)) 0 (.slice (some ⟨w4.heap.size, 0, none⟩) 1 1) [0] := ⟨w4.heap.size, 1, 1, rfl, by simp, by omega, ⟨⟨#[.int .i64 0], blk_alloc (blk_new w4 _) _, rfl, rfl⟩, by simp, by decide⟩⟩
  have j2 : JR ((w4.alloc (.cells #[.int .i64 0] 3)).alloc (.cells #[.int .i64 0, .int .i64 1] 3)) 0 (.slice (some ⟨w4.heap.size + 1, 0, none⟩) 2 2) [0, 1] := ⟨w4.heap.size + 1, 2, 2, rfl, by simp, by omega, ⟨⟨#[.int .i64 0, .int .i64 1], by
   have := blk_new (w4.alloc (.cells #[.int .i64 0] 3)) (.cells #[.int .i64 0, .int .i64 1] 3)
   rw [World.size_alloc] at this
   exact this, rfl, rfl⟩, by simp, by decide⟩⟩
  have hL := OwnRow.lit (R := RowJ ((w4.alloc (.cells #[.int .i64 0] 3)).alloc (.cells #[.int .i64 0, .int .i64 1] 3))) (e := 44) (size := 1) (ps := [[(0 : Int)], [0, 1]]) ((w4.alloc (.cells #[.int .i64 0] 3)).alloc (.cells #[.int .i64 0, .int .i64 1] 3)) 0 (inner := [.slice (some ⟨w4.heap.size, 0, none⟩) 1 1, .slice (some ⟨w4.heap.size + 1, 0, none⟩) 2 2]) ⟨rfl, fun j p hj => by
   match j, hj with
   | 0, hj =>
    simp only [List.getElem?_cons_zero, Option.some.injEq] at hj
    subst hj
    exact ⟨_, rfl, .inr j1⟩
   | 1, hj =>
    simp only [List.getElem?_cons_succ, List.getElem?_cons_zero, Option.some.injEq] at hj
    subst hj
    exact ⟨_, rfl, .inr j2⟩
   | j + 2, hj => simp at hj⟩ (Nat.zero_le _) (by decide)
  have hL2 : NR RowJ 44 1 _ 0 _ [[(0 : Int)], [0, 1]] := hL.imp_ (fun l cs h => RowJ.frame (Num3.below (below_alloc (Below.refl _ _) _)) h)
  obtain ⟨A, c, e, _, hr⟩ := RJ_reads hL2
  injection e with e1 e2 e3
  rw [World.size_alloc, World.size_alloc] at e1
  rw [e1]
  exact hr
 have HC := jo (And.intro b1 hC)
 clear b1 hC
 generalize ((w4.alloc (.cells #[.int .i64 0] 3)).alloc (.cells #[.int .i64 0, .int .i64 1] 3)).alloc (.cells #[.slice (some ⟨w4.heap.size, 0, none⟩) 1 1, .slice (some ⟨w4.heap.size + 1, 0, none⟩) 2 2] 44) = w5 at HC ⊢
 have HK := jo (show Calls Tryz.prog 9 #[.int .i64 4, .slice (some ⟨w4.heap.size + 1 + 1, 0, none⟩) 2 2, .slice none 0 0] w5 _ from peel_Known.calls 1000 4 (some ⟨w4.heap.size + 1 + 1, 0, none⟩) 2 [[(0 : Int)], [0, 1]] none 0 [] [0, 1] 0 w5 HC.out.2 (by decide) ⟨rfl, by decide, fun h => absurd h (by decide)⟩ (by decide) fine_known)
 with_reducible refine HK.out.mono ?_
 rintro e w6 ⟨v6, rfl, ho6, hb6⟩
 obtain ⟨A6, c6, e6⟩ := Kd.R_slice ho6
 subst e6
 have H6 := jo (below_step HC.out.1 hb6)
 clear ho6 hb6 HK HC
 go_wp2
 go_ret
 exact ⟨rfl, H6.out⟩
end Go.Proofs.YtjmooillogojkaaGreat.Q
namespace Go.Proofs.YtjmooillogojkaaGreat.Q
open Go.RowKit Go.Proofs.YtjmooillogojkaaGreatW.PrintWords Go.Proofs.YtjmooillogojkaaGreatW.PrintLast Go.Proofs.YtjmooillogojkaaGreatW.PrintMore
open Go.Proofs.YtjmooillogojkaaGreat
def mosaicref03_Same.l0 : Nat → List ByteArray → List ByteArray → Int → Option (Bool)
 | 0, _, _, _ => none
 | k + 1, x0, x1, x5 => if x5 < (x0.length : Int) then (if 0 ≤ x5 then (if x5 < (x1.length : Int) then (if (rdOf ByteArray.empty x0 x5).toList = (rdOf ByteArray.empty x1 x5).toList then (mosaicref03_Same.l0 k x0 x1 (wrap64 (x5 + 1))) else (some false)) else (none)) else (none)) else (some true)
def mosaicref03_Same.f (k : Nat) (l0 : List ByteArray) (l1 : List ByteArray) : Option (Bool) := if (l0.length : Int) = (l1.length : Int) then (mosaicref03_Same.l0 k l0 l1 0) else (some false)
theorem mosaicref03_Same.calls (k : Nat) (A0 : Option Addr) (c0 : Nat) (l0 : List ByteArray) (A1 : Option Addr) (c1 : Nat) (l1 : List ByteArray) (r : Bool) (w : World) (hr0 : Kd.C Kd.string w A0 l0.length l0) (hc0 : l0.length ≤ c0) (hr1 : Kd.C Kd.string w A1 l1.length l1) (hc1 : l1.length ≤ c1) (h : mosaicref03_Same.f k l0 l1 = some r) :
  Calls Tryz.prog 10 #[.slice A0 l0.length c0, .slice A1 l1.length c1] w fun e w' => e = .returned (.bool r) ∧ Drawn0 w w' := by
 have HR0 := jo hr0
 have HC0 := jo hc0
 clear hr0 hc0
 have HR1 := jo hr1
 have HC1 := jo hc1
 clear hr1 hc1
 have H : (if (l0.length : Int) = (l1.length : Int) then (mosaicref03_Same.l0 k l0 l1 0) else (some false)) = some r := h
 clear h
 by_cases c3 : (l0.length : Int) = (l1.length : Int)
 ·rw [if_pos c3] at H
  have c3b0 : ((l0.length : Int) == (l1.length : Int)) = true := beq_iff_eq.mpr c3
  have c3b1 : ((l0.length : Int) != (l1.length : Int)) = false := bne_eq_false_iff_eq.mpr c3
  have c3b2 : (l0.length == l1.length) = true := by first | simpa using c3 | (simp at c3 ⊢; omega)
  clear c3
  have H' := jo H
  clear H
  go_enter Tryz.func10, Tryz.ntmps10
  go_wp2
  repeat (go_quiet (fail); try go_wp2)
  go_loopg [5] k (fun kq v5 w' => ∃ (x5_1 : Int), v5 = .int .i64 x5_1 ∧ Aside0 (mosaicref03_Same.l0 kq l0 l1 x5_1 = some r) ∧ Aside0 (kq ≤ k) ∧ Drawn0 w w')
  case atStart => exact ⟨(0), js, H', ⟨Nat.le_refl _⟩, jd⟩
  case round =>
   clear H'
   try clear c1
   try clear p2
   try clear c3
   try clear c3b0
   try clear c3b1
   try clear c3b2
   obtain ⟨x5_1, rfl, HA, HK1, ⟨m1, rfl⟩⟩ := hrel
   cases gk with
   | zero => exact absurd HA.out (by simp [mosaicref03_Same.l0])
   | succ k1 =>
    have H := HA.out
    clear HA
    simp only [mosaicref03_Same.l0] at H
    by_cases c4 : x5_1 < (l0.length : Int)
    ·rw [if_pos c4] at H
     have c4b0 : decide (x5_1 < (l0.length : Int)) = true := decide_eq_true c4
     clear c4
     by_cases c5 : 0 ≤ x5_1
     ·rw [if_pos c5] at H
      have c5b0 : decide (0 ≤ x5_1) = true := decide_eq_true c5
      clear c5
      by_cases c6 : x5_1 < (l1.length : Int)
      ·rw [if_pos c6] at H
       have c6b0 : decide (x5_1 < (l1.length : Int)) = true := decide_eq_true c6
       clear c6
       by_cases c7 : (rdOf ByteArray.empty l0 x5_1).toList = (rdOf ByteArray.empty l1 x5_1).toList
       ·rw [if_pos c7] at H
        have c7b0 : ((rdOf ByteArray.empty l0 x5_1).toList == (rdOf ByteArray.empty l1 x5_1).toList) = true := beq_iff_eq.mpr c7
        have c7b1 : ((rdOf ByteArray.empty l0 x5_1).toList != (rdOf ByteArray.empty l1 x5_1).toList) = false := bne_eq_false_iff_eq.mpr c7
        clear c7
        have H' := jo H
        clear H
        have p532 : 0 ≤ (x5_1 : Int) := of_decide_eq_true ja
        have q532 : x5_1 < (l0.length : Int) := of_decide_eq_true ja
        obtain ⟨ad532, e532, hx532_0⟩ := Kd.at_string HR0.out x5_1 p532 q532
        cases e532
        replace p532 := eq_true p532
        replace q532 := eq_true q532
        have p533 : 0 ≤ (x5_1 : Int) := of_decide_eq_true ja
        have q533 : x5_1 < (l1.length : Int) := of_decide_eq_true ja
        obtain ⟨ad533, e533, hx533_0⟩ := Kd.at_string HR1.out x5_1 p533 q533
        cases e533
        replace p533 := eq_true p533
        replace q533 := eq_true q533
        go_wp2
        repeat (go_quiet (fail); try go_wp2)
        go_roundg k1
        case measure => have := HK1.out; omega
        case rel => exact ⟨(wrap64 (x5_1 + 1)), js, H', ⟨by have := HK1.out; omega⟩, jd⟩
       ·rw [if_neg c7] at H
        have c7b0 : ((rdOf ByteArray.empty l0 x5_1).toList == (rdOf ByteArray.empty l1 x5_1).toList) = false := beq_eq_false_iff_ne.mpr c7
        have c7b1 : ((rdOf ByteArray.empty l0 x5_1).toList != (rdOf ByteArray.empty l1 x5_1).toList) = true := bne_iff_ne.mpr c7
        obtain rfl := Option.some.inj H
        have p532 : 0 ≤ (x5_1 : Int) := of_decide_eq_true ja
        have q532 : x5_1 < (l0.length : Int) := of_decide_eq_true ja
        obtain ⟨ad532, e532, hx532_0⟩ := Kd.at_string HR0.out x5_1 p532 q532
        cases e532
        replace p532 := eq_true p532
        replace q532 := eq_true q532
        have p533 : 0 ≤ (x5_1 : Int) := of_decide_eq_true ja
        have q533 : x5_1 < (l1.length : Int) := of_decide_eq_true ja
        obtain ⟨ad533, e533, hx533_0⟩ := Kd.at_string HR1.out x5_1 p533 q533
        cases e533
        replace p533 := eq_true p533
        replace q533 := eq_true q533
        go_wp2
        repeat (go_quiet (fail); try go_wp2)
        go_ret
        exact ⟨by first | rfl | (simp; done) | (simp [*]; done), jd⟩
      ·rw [if_neg c6] at H
       exact absurd H (by simp)
     ·rw [if_neg c5] at H
      exact absurd H (by simp)
    ·rw [if_neg c4] at H
     have c4b0 : decide (x5_1 < (l0.length : Int)) = false := decide_eq_false c4
     clear c4
     obtain rfl := Option.some.inj H
     go_wp2
     repeat (go_quiet (fail); try go_wp2)
     go_ret
     exact ⟨by first | rfl | (simp; done) | (simp [*]; done), jd⟩
 ·rw [if_neg c3] at H
  have c3b0 : ((l0.length : Int) == (l1.length : Int)) = false := beq_eq_false_iff_ne.mpr c3
  have c3b1 : ((l0.length : Int) != (l1.length : Int)) = true := bne_iff_ne.mpr c3
  have c3b2 : (l0.length == l1.length) = false := by first | simpa using c3 | (simp at c3 ⊢; omega)
  obtain rfl := Option.some.inj H
  go_enter Tryz.func10, Tryz.ntmps10
  go_wp2
  repeat (go_quiet (fail); try go_wp2)
  go_ret
  exact ⟨by first | rfl | (simp; done) | (simp [*]; done), jd⟩
def mosaicref09_Has.l0 : Nat → List Int → Int → Int → Option (Bool)
 | 0, _, _, _ => none
 | k + 1, x0, x1, x5 => if x5 < (x0.length : Int) then (if 0 ≤ x5 then (if (rd x0 x5) = x1 then (some true) else (mosaicref09_Has.l0 k x0 x1 (wrap64 (x5 + 1)))) else (none)) else (some false)
def mosaicref09_Has.f (k : Nat) (l0 : List Int) (a1 : Int) : Option (Bool) := mosaicref09_Has.l0 k l0 a1 0
theorem mosaicref09_Has.calls (k : Nat) (A0 : Option Addr) (c0 : Nat) (l0 : List Int) (a1 : Int) (r : Bool) (w : World) (hr0 : Kd.C (Kd.int .i64) w A0 l0.length l0) (hc0 : l0.length ≤ c0) (h : mosaicref09_Has.f k l0 a1 = some r) :
  Calls Tryz.prog 11 #[.slice A0 l0.length c0, .int .i64 a1] w fun e w' => e = .returned (.bool r) ∧ Drawn0 w w' := by
 have HR0 := jo hr0
 have HC0 := jo hc0
 clear hr0 hc0
 have H : (mosaicref09_Has.l0 k l0 a1 0) = some r := h
 clear h
 have H' := jo H
 clear H
 go_enter Tryz.func11, Tryz.ntmps11
 go_wp2
 go_loopg [5] k (fun kq v5 w' => ∃ (x5_1 : Int), v5 = .int .i64 x5_1 ∧ Aside0 (mosaicref09_Has.l0 kq l0 a1 x5_1 = some r) ∧ Aside0 (kq ≤ k) ∧ Drawn0 w w')
 case atStart => exact ⟨(0), js, H', ⟨Nat.le_refl _⟩, jd⟩
 case round =>
  clear H'
  try clear c1
  try clear p2
  obtain ⟨x5_1, rfl, HA, HK1, ⟨m1, rfl⟩⟩ := hrel
  cases gk with
  | zero => exact absurd HA.out (by simp [mosaicref09_Has.l0])
  | succ k1 =>
   have H := HA.out
   clear HA
   simp only [mosaicref09_Has.l0] at H
   by_cases c3 : x5_1 < (l0.length : Int)
   ·rw [if_pos c3] at H
    have c3b0 : decide (x5_1 < (l0.length : Int)) = true := decide_eq_true c3
    clear c3
    by_cases c4 : 0 ≤ x5_1
    ·rw [if_pos c4] at H
     have c4b0 : decide (0 ≤ x5_1) = true := decide_eq_true c4
     clear c4
     by_cases c5 : (rd l0 x5_1) = a1
     ·rw [if_pos c5] at H
      have c5b0 : ((rd l0 x5_1) == a1) = true := beq_iff_eq.mpr c5
      have c5b1 : ((rd l0 x5_1) != a1) = false := bne_eq_false_iff_eq.mpr c5
      clear c5
      obtain rfl := Option.some.inj H
      have p534 : 0 ≤ (x5_1 : Int) := of_decide_eq_true ja
      have q534 : x5_1 < (l0.length : Int) := of_decide_eq_true ja
      obtain ⟨ad534, e534, hx534_0⟩ := Kd.at_int HR0.out x5_1 p534 q534
      cases e534
      replace p534 := eq_true p534
      replace q534 := eq_true q534
      go_wp2
      go_ret
      exact ⟨by first | rfl | (simp; done) | (simp [*]; done), jd⟩
     ·rw [if_neg c5] at H
      have c5b0 : ((rd l0 x5_1) == a1) = false := beq_eq_false_iff_ne.mpr c5
      have c5b1 : ((rd l0 x5_1) != a1) = true := bne_iff_ne.mpr c5
      have H' := jo H
      clear H
      have p534 : 0 ≤ (x5_1 : Int) := of_decide_eq_true ja
      have q534 : x5_1 < (l0.length : Int) := of_decide_eq_true ja
      obtain ⟨ad534, e534, hx534_0⟩ := Kd.at_int HR0.out x5_1 p534 q534
      cases e534
      replace p534 := eq_true p534
      replace q534 := eq_true q534
      go_wp2
      go_roundg k1
      case measure => have := HK1.out; omega
      case rel => exact ⟨(wrap64 (x5_1 + 1)), js, H', ⟨by have := HK1.out; omega⟩, jd⟩
    ·rw [if_neg c4] at H
     exact absurd H (by simp)
   ·rw [if_neg c3] at H
    have c3b0 : decide (x5_1 < (l0.length : Int)) = false := decide_eq_false c3
    clear c3
    obtain rfl := Option.some.inj H
    go_wp2
    go_ret
    exact ⟨by first | rfl | (simp; done) | (simp [*]; done), jd⟩
end Go.Proofs.YtjmooillogojkaaGreat.Q
