/- inact.begin walked: each number gets its form. No condition. -/
import Derived.Test.YtjmooillogojkaaGreatM25
import Derived.Test.YtjmooillogojkaaGreatM26
set_option maxHeartbeats 8000000
set_option maxRecDepth 100000
set_option linter.unusedVariables false
set_option linter.unusedSimpArgs false
namespace Go.Proofs.YtjmooillogojkaaGreat.Q
open Go.RowKit Go.Proofs.YtjmooillogojkaaGreatW.PrintWords Go.Proofs.YtjmooillogojkaaGreatW.PrintLast Go.Proofs.YtjmooillogojkaaGreatW.PrintMore
open Go.Proofs.YtjmooillogojkaaGreat
structure Wk (w W : World) (n sz Bw : Nat) (vl vu vF vD : Value) (F : List S62) (D : List Bool) : Prop where
 blk : W.heap[Bw]? = some (.cells #[.int .i64 sz, vl, vu, vF, vD] 86 (0, 0))
 forms : ER W w.heap.size vF F
 used : Kd.R Kd.bool 4 W w.heap.size (fun _ => True) vD D
 bel : Below w.heap.size w W
 lo : w.heap.size ≤ Bw
 fl : F.length = n
 fok : ∀ f ∈ F, fOk n f
theorem ER.of {W : World} {base : Nat} {ok : Nat → Prop} {v : Value} {L : List S62} (h : Kd.R k62 62 W base ok v L) : ER W base v L := by
 obtain ⟨_, inner, ho, hr⟩ := h
 refine ⟨inner, ho, hr.imp_ (fun f cs hm => ?_)⟩
 obtain ⟨v0, hc, hv⟩ := k62_openM hm
 exact ⟨v0, hc, SLI.of hv⟩
section
variable {w W W' : World} {n sz Bw : Nat} {vl vu vF vD : Value} {F : List S62} {D : List Bool}
theorem Wk.below (h : Wk w W n sz Bw vl vu vF vD F D) (hb : Below W.heap.size W W') : Wk w W' n sz Bw vl vu vF vD F D :=
 ⟨blk_below h.blk hb, h.forms.below hb, Kd.R_below h.used hb, below_step h.bel hb, h.lo, h.fl, h.fok⟩
theorem Wk.setU (h : Wk w W n sz Bw vl vu vF vD F D) (v : Value) : Wk w (W.setCell ⟨Bw, 2, none⟩ v) n sz Bw vl v vF vD F D :=
 ⟨blk_put h.blk 2 v rfl, h.forms.frame (Num3.set h.blk (by decide) 2 v) (fun g hg => by
   obtain ⟨_, cells, hc⟩ := h.forms.block g hg
   exact Below.heap_setCell W ⟨Bw, 2, none⟩ v g (fun e => by
    rw [show g = Bw from e, h.blk] at hc
    injection hc with hc
    injection hc with _ hc
    exact absurd hc (by decide))), Kd.R_set h.used h.blk (by decide) 2 v, h.bel.setCell h.lo v, h.lo, h.fl, h.fok⟩
theorem Wk.put {GF cF i : Nat} (h : Wk w W n sz Bw vl vu (.slice (some ⟨GF, 0, none⟩) n cF) vD F D) (hi : i < n) {f : S62} {cs : List Value} (hf : EqV W f cs) (hok : fOk n f) :
  Wk w (W.setCells GF (i * 2) cs) n sz Bw vl vu (.slice (some ⟨GF, 0, none⟩) n cF) vD (F.set i f) D := by
 obtain ⟨hg, cells, hc⟩ := h.forms.block GF rfl
 have hne : Bw ≠ GF := fun e => by
  rw [← e, h.blk] at hc
  injection hc with hc
  injection hc with _ hc
  exact absurd hc (by decide)
 have hE := h.forms
 rw [← h.fl] at hE
 have hp := hE.put (by rw [h.fl]; exact hi) hf
 rw [h.fl] at hp
 refine ⟨(heap_setCells hne cs _ W).trans h.blk, hp, Kd.R_step (Kd.R_types h.used hc (by decide)) (fun k hk _ => heap_setCells hk.2 cs _ W) |> fun h' => Kd.R_mono h' (fun _ _ => trivial), below_setCells hg _ _ _ h.bel, h.lo, by rw [List.length_set]; exact h.fl, fun x hx => ?_⟩
 rcases List.mem_or_eq_of_mem_set hx with hx | rfl
 ·exact h.fok x hx
 ·exact hok
theorem Wk.mark {GD m cD k : Nat} (h : Wk w W n sz Bw vl vu vF (.slice (some ⟨GD, 0, none⟩) m cD) F D) : Wk w (W.setCell ⟨GD, k, none⟩ (.bool true)) n sz Bw vl vu vF (.slice (some ⟨GD, 0, none⟩) m cD) F (D.set k true) := by
 obtain ⟨cells, hc⟩ := Kd.R_typed h.used GD rfl
 have hb := Kd.R_base h.used GD rfl
 have hne : Bw ≠ GD := fun e => by
  rw [← e, h.blk] at hc
  injection hc with hc
  injection hc with _ hc
  exact absurd hc (by decide)
 have hp := Kd.R_putn h.used (k : Int) true
 rw [Int.toNat_natCast] at hp
 exact ⟨blk_far h.blk (p := ⟨GD, k, none⟩) hne _, h.forms.frame (Num3.set hc (by decide) k _) (fun g hg => by
   obtain ⟨_, cells', hc'⟩ := h.forms.block g hg
   exact Below.heap_setCell W ⟨GD, k, none⟩ _ g (fun e => by
    rw [show g = GD from e, hc] at hc'
    injection hc' with hc'
    injection hc' with _ hc'
    exact absurd hc' (by decide))), hp, h.bel.setCell hb _, h.lo, h.fl, h.fok⟩
theorem Wk.cell (h : Wk w W n sz Bw vl vu vF vD F D) (j : Nat) : W.cell? ⟨Bw, j, none⟩ = #[Value.int .i64 sz, vl, vu, vF, vD][j]? := blk_cell h.blk j
theorem Wk.soft (h : Wk w W n sz Bw vl vu vF vD F D) (j : Nat) : W.frozen? ⟨Bw, j, none⟩ = false := blk_frozen h.blk j
end
theorem Wk.at {w W : World} {n sz Bw GF cF i : Nat} {vl vu vD : Value} {F : List S62} {D : List Bool} (h : Wk w W n sz Bw vl vu (.slice (some ⟨GF, 0, none⟩) n cF) vD F D) (hi : i < n) :
  ∃ u d, W.cell? ⟨GF, i * 2, none⟩ = some u ∧ W.cell? ⟨GF, i * 2 + 1, none⟩ = some (.string d) ∧ ∀ j, W.frozen? ⟨GF, j, none⟩ = false := by
 obtain ⟨g, cap, u, e, _, _, h1, h2, h3, _⟩ := h.forms.get (i := i) (by rw [h.fl]; exact hi)
 injection e with e1 _ _
 injection e1 with e1
 injection e1 with e1 _
 subst e1
 exact ⟨u, _, h1, h2, h3⟩
theorem one_reps (W : World) (base : Nat) (ok : Nat → Prop) (x : Int) : Reps ((Kd.int .i64).M W base ok) (Kd.int .i64).sz [x] [.int .i64 x] := by
 refine ⟨rfl, fun j p hj => ?_⟩
 match j, hj with
 | 0, hj =>
  simp only [List.getElem?_cons_zero, Option.some.injEq] at hj
  subst hj
  rfl
 | j + 1, hj => simp at hj
def unkF (sz : Nat) (F : List S62) (U : List Int) : List S62 := U.foldl (fun F i => F.set i.toNat ⟨[i], zeros sz⟩) F
theorem unkF_snoc (sz : Nat) (F : List S62) (U : List Int) (i : Int) : unkF sz F (U ++ [i]) = (unkF sz F U).set i.toNat ⟨[i], zeros sz⟩ := by simp [unkF]
theorem one_ok {n : Nat} {i : Int} (h0 : 0 ≤ i) (hi : i < (n : Int)) {d : ByteArray} (hd : d.size ≤ 64) : fOk n ⟨[i], d⟩ := by
 refine ⟨fun k hk => ?_, hd⟩
 have : k = 0 := by simp at hk; omega
 subst this
 exact ⟨h0, hi, fun j hj => by omega⟩
def stepF (l : List S62) (a : List S62 × List Bool) (t : S123) : List S62 × List Bool := (a.1.set t.f1.toNat (sumF a.1 (l.getD t.f0.toNat z62) t.f1), a.2.set t.f0.toNat true)
def stepsF (l : List S62) (a : List S62 × List Bool) (st : List S123) : List S62 × List Bool := st.foldl (stepF l) a
def stOk (n m : Nat) (t : S123) : Prop := (0 ≤ t.f0 ∧ t.f0 < (m : Int)) ∧ 0 ≤ t.f1 ∧ t.f1 < (n : Int)
theorem Peel.steps {n : Nat} {L : List (List Int)} {s s' : List Bool} {st : List S123} (hL : rowsIn n L) (h : Peel L s st s') : ∀ t ∈ st, stOk n L.length t := by
 induction h with
 | done _ => exact fun t ht => absurd ht (by simp)
 | step hk hr _ ih =>
  intro t ht
  rcases List.mem_cons.1 ht with rfl | ht
  ·have := rowOk_in (hL.2.2 _ (List.getElem_mem hk)) _ hr.1
   exact ⟨⟨Int.natCast_nonneg _, Int.ofNat_lt.2 hk⟩, this⟩
  ·exact ih t ht
theorem Peel.count {n : Nat} {L : List (List Int)} {s s' : List Bool} {st : List S123} (hL : rowsIn n L) (hs : s.length = n) (h : Peel L s st s') : st.length ≤ n := by
 have key : ∀ {s s' : List Bool} {st : List S123}, Peel L s st s' → s.length = n → st.length ≤ Q.falses s := by
  intro s s' st h
  induction h with
  | done _ => exact fun _ => Nat.zero_le _
  | step hk hr _ ih =>
   rename_i s s' st k i hp
   intro hs
   have hh := rowOk_in (hL.2.2 _ (List.getElem_mem hk)) _ hr.1
   have h1 := ih (by rw [List.length_set]; exact hs)
   have h2 := falses_set s i.toNat (by omega) (by
    have := hr.2.1
    unfold known rdOf at this
    simpa using this)
   rw [List.length_cons]
   omega
 have := key h hs
 have := falses_le s
 omega
theorem rows_l0 (l : List S62) (hm : l.length < 1000000) : ∀ (d j k : Nat) (acc : List (List Int)), l.length - j = d → j ≤ l.length → d < k → acc.length ≤ j → inact_rows.l0 k acc l (l.length : Int) (j : Int) = some (acc ++ (l.drop j).map (·.f0))
 | d, j, 0, _, _, _, h, _ => absurd h (Nat.not_lt_zero _)
 | d, j, k + 1, acc, hd, hj, hk, ha => by
  simp only [inact_rows.l0]
  by_cases hlt : j < l.length
  ·have hg : rd_T62 l (j : Int) = l[j] := by
    unfold rd_T62
    rw [List.getD_eq_getElem?_getD, Int.toNat_natCast, List.getElem?_eq_getElem hlt]
    rfl
   rw [if_pos (by omega), if_pos (by omega), if_pos (by omega), if_pos (by omega), hg, Deg.w64 (by omega) (by omega)]
   have := rows_l0 l hm (d - 1) (j + 1) k (acc ++ [l[j].f0]) (by omega) (by omega) (by omega) (by simp; omega)
   rw [List.drop_eq_getElem_cons hlt, List.map_cons]
   rw [List.append_assoc] at this
   exact this
  ·rw [if_neg (by omega), List.drop_eq_nil_of_le (by omega)]
   simp
theorem rows_ok {W : World} {Al : Option Addr} {cl : Nat} {l : List S62} (hr : Kd.C k62 W Al l.length l) (hc : l.length ≤ cl) (hm : l.length < 1000000) :
  Calls Tryz.prog 61 #[.slice Al l.length cl] W fun e w' => ∃ A c, e = .returned (.slice A l.length c) ∧ l.length ≤ c ∧ Kd.C (Kd.slice 3 (Kd.int .i64)) w' A l.length (l.map (·.f0)) ∧ Below W.heap.size W w' := by
 have hf : inact_rows.f (l.length + 1) l = some (l.map (·.f0)) := by
  have := rows_l0 l hm l.length 0 (l.length + 1) [] (by omega) (by omega) (by omega) (by simp)
  rw [List.nil_append, List.drop_zero] at this
  exact this
 refine (inact_rows.calls _ (fun _ => True) Al cl l _ W (Kd.V_mk hc (fun W' hW => k62_heap.C (fun k hlt => hW k trivial hlt) hr)) hf).mono ?_
 rintro e w' ⟨v, rfl, hv, hb⟩
 obtain ⟨A, c, rfl, h1, h2⟩ := Kd.N_reads hv
 rw [List.length_map] at h1 h2
 exact ⟨A, c, by rw [List.length_map], h1, h2, hb⟩
theorem begin_ok {n sz cl : Nat} {Al : Option Addr} {l : List S62} (w : World) (hr : Kd.C k62 w Al l.length l) (hc : l.length ≤ cl) (hL : rowsIn n (l.map (·.f0))) (hn : 1 ≤ n) (h1 : 1 ≤ sz) (h2 : sz ≤ 64) (hd : ∀ x ∈ l, x.f1.size = sz) (h0 : 0 < l.length) :
  Calls Tryz.prog 24 #[.int .i64 n, .int .i64 sz, .slice Al l.length cl] w fun e w' => ∃ (Bw GF cF GD cD : Nat) (vu : Value) (U : List Int) (st : List S123) (s s' : List Bool), e = .returned (.pointer (some ⟨Bw, 0, none⟩)) ∧ (unkOk n (l.map (·.f0)) U ∧ Peel (l.map (·.f0)) s st s' ∧ s.length = n ∧ ∀ i, 0 ≤ i → (known s i ↔ i ∈ U)) ∧ SLI w' vu U ∧
   Wk w w' n sz Bw (.slice Al l.length cl) vu (.slice (some ⟨GF, 0, none⟩) n cF) (.slice (some ⟨GD, 0, none⟩) l.length cD) (stepsF l (unkF sz (List.replicate n z62) U, List.replicate l.length false) st).1 (stepsF l (unkF sz (List.replicate n z62) U, List.replicate l.length false) st).2 := by
 have HR := jo hr
 have hll : l.length ≤ 400 := by have := hL.2.1; rwa [List.length_map] at this
 have hn160 := hL.1
 have HL := jo hL
 clear hr hL
 go_enter Tryz.func24, Tryz.ntmps24
 go_wp2_with (fail)
 refine Goto.wp_scope_lazy 0 rfl ?_
 intro KG HKG
 have s0 : Below w.heap.size w w.drew := below_drew (Below.refl _ _)
 go_wp2
 refine st_ (S := fun w' => Below w.heap.size w w') (ds := []) 10 (s0) (fun hHeld => ?_)
 refine td_ [0, 1, 2, 4, 5] ?_
 repeat (first | refine pp_ ?_ | refine po_ ?_)
 refine tn_ ?_
 refine join_ (σ := Nat × Nat × Nat × Nat) 3 #[true, true, true, true, true, true, true, false, false, false] (fun s_ => [(16, .slice (some ⟨s_.1, 0, none⟩) n s_.2.1), (19, .slice (some ⟨s_.2.2.1, 0, none⟩) l.length s_.2.2.2)]) (fun s_ w' => Below w.heap.size w w' ∧ ER w' w.heap.size (.slice (some ⟨s_.1, 0, none⟩) n s_.2.1) (List.replicate n z62) ∧ Kd.R Kd.bool 4 w' w.heap.size (fun _ => True) (.slice (some ⟨s_.2.2.1, 0, none⟩) l.length s_.2.2.2) (List.replicate l.length false)) ?_ ?_
 rotate_left
 ·intro hCont
  refine two_ (i := 3) (j := 6) (Ni := some 16) (Nj := some 19) #[true, true, true, true, true, true, false, false, false, false] #[true, true, true, false, true, true, true, false, false, false] rfl rfl rfl rfl jw (by decide) (by decide) (fun K hK => ?_) (fun K hK => ?_)
  ·skip
   refine Kd.R_make_step k62 (w0 := w) w.heap.size 62 rfl (N := 16) rfl 37 _ _ rfl (n : Int) rfl rfl Tryz.underlying37 _ 40 info62 rfl (by decide) (by omega) z62 (ok := fun _ => True) (okp := fun _ => True) (k62_mkM _ _ _ z62 (Kd.R_nil _ _ _ _ _)) (fun _ hk => hk) trivial (by omega) (by rw [Int.toNat_natCast]; clear hHeld; omega) hHeld hHeld.size ?_
   intro v16 w4 ho hb hg hat
   rw [Int.toNat_natCast] at ho
   obtain ⟨GF, cF, e16, _, _, _⟩ := Kd.R_form ho (by rw [List.length_replicate]; exact hn)
   rw [List.length_replicate] at e16
   subst e16
   have HFo := jo (ER.of ho)
   replace hHeld := hb
   clear ho hb hg hat
   refine hK.out _ _ (hHeld) (fun hHeld => ?_)
   clear hK K
   refine nm_ (some 16) ?_
   refine on_ 6 (fun K hK => ?_)
   refine Kd.R_make_step Kd.bool (w0 := w) w.heap.size 4 rfl (N := 19) rfl 84 _ _ rfl (l.length : Int) rfl rfl Tryz.underlying84 _ 1 info4 rfl (by decide) (by omega) false (ok := fun _ => True) (okp := fun _ => True) rfl (fun _ hk => hk) trivial (by omega) (by rw [Int.toNat_natCast]; clear hHeld; omega) hHeld hHeld.size ?_
   intro v19 w4 ho hb hg hat
   rw [Int.toNat_natCast] at ho
   obtain ⟨GD, cD, e19, _, _, _⟩ := Kd.R_form ho (by rw [List.length_replicate]; exact h0)
   rw [List.length_replicate] at e19
   subst e19
   have HDo := jo ho
   have HF := jo (HFo.out.below (below_grown0 hg))
   replace hHeld := hb
   clear ho hb hg hat
   refine hK.out _ _ (hHeld) (fun hHeld => ?_)
   clear hK K
   refine nm_ (some 19) ?_
   exact norm_ (by simp only [putAll, Act.put, List.setIfInBounds_toArray, List.set_cons_zero, List.set_cons_succ]) (hCont (GF, cF, GD, cD) _ ⟨hHeld, HF.out, HDo.out⟩)
  ·skip
   refine Kd.R_make_step Kd.bool (w0 := w) w.heap.size 4 rfl (N := 19) rfl 84 _ _ rfl (l.length : Int) rfl rfl Tryz.underlying84 _ 1 info4 rfl (by decide) (by omega) false (ok := fun _ => True) (okp := fun _ => True) rfl (fun _ hk => hk) trivial (by omega) (by rw [Int.toNat_natCast]; clear hHeld; omega) hHeld hHeld.size ?_
   intro v19 w4 ho hb hg hat
   rw [Int.toNat_natCast] at ho
   obtain ⟨GD, cD, e19, _, _, _⟩ := Kd.R_form ho (by rw [List.length_replicate]; exact h0)
   rw [List.length_replicate] at e19
   subst e19
   have HDo := jo ho
   replace hHeld := hb
   clear ho hb hg hat
   refine hK.out _ _ (hHeld) (fun hHeld => ?_)
   clear hK K
   refine nm_ (some 19) ?_
   refine on_ 3 (fun K hK => ?_)
   refine Kd.R_make_step k62 (w0 := w) w.heap.size 62 rfl (N := 16) rfl 37 _ _ rfl (n : Int) rfl rfl Tryz.underlying37 _ 40 info62 rfl (by decide) (by omega) z62 (ok := fun _ => True) (okp := fun _ => True) (k62_mkM _ _ _ z62 (Kd.R_nil _ _ _ _ _)) (fun _ hk => hk) trivial (by omega) (by rw [Int.toNat_natCast]; clear hHeld; omega) hHeld hHeld.size ?_
   intro v16 w4 ho hb hg hat
   rw [Int.toNat_natCast] at ho
   obtain ⟨GF, cF, e16, _, _, _⟩ := Kd.R_form ho (by rw [List.length_replicate]; exact hn)
   rw [List.length_replicate] at e16
   subst e16
   have HFo := jo (ER.of ho)
   have HD := jo (Kd.R_below HDo.out (below_grown0 hg))
   replace hHeld := hb
   clear ho hb hg hat
   refine hK.out _ _ (hHeld) (fun hHeld => ?_)
   clear hK K
   refine nm_ (some 16) ?_
   exact norm_ (by simp only [putAll, Act.put, List.setIfInBounds_toArray, List.set_cons_zero, List.set_cons_succ]) (hCont (GF, cF, GD, cD) _ ⟨hHeld, HFo.out, HD.out⟩)
 rintro ⟨GF, cF, GD, cD⟩ w6 ⟨hHeld, hF6, hD6⟩
 have H6 := jo (And.intro hF6 (And.intro hD6 hHeld))
 clear hF6 hD6
 refine norm_ (a' := ?_) ?_ ?_
 rotate_left
 ·simp only [putAll, Act.put, List.setIfInBounds_toArray, List.set_cons_zero, List.set_cons_succ]
  rfl
 refine td_ [7] ?_
 repeat (first | refine pp_ ?_ | refine po_ ?_)
 refine tn_ ?_
 refine on_ 8 (fun K hK => ?_)
 refine box_step ?hg (N := 21) ?hd (cs := #[.int .i64 (sz : Int), .slice Al l.length cl, .slice none 0 0, .slice (some ⟨GF, 0, none⟩) n cF, .slice (some ⟨GD, 0, none⟩) l.length cD]) (t := 86) ?hr ?_; (case hd => rfl); (case hg => rfl); (case hr => first | (go_simp; done) | (go_simp; rfl))
 intro Bw hgb w7 hb0 hb5
 have H7 := jo (And.intro hb0 (And.intro hb5 hgb))
 replace hHeld := below_step hHeld hb5
 clear hb0 hb5 hgb
 refine hK.out _ _ (hHeld) (fun hHeld => ?_)
 clear hK K
 refine nm_ (some 21) ?_
 refine td_ [9] ?_
 repeat (first | refine pp_ ?_ | refine po_ ?_)
 refine tn_ ?_
 refine dn_ ?_
 have HW7 : Aside0 (Wk w w7 n sz Bw (.slice Al l.length cl) (.slice none 0 0) (.slice (some ⟨GF, 0, none⟩) n cF) (.slice (some ⟨GD, 0, none⟩) l.length cD) (List.replicate n z62) (List.replicate l.length false)) :=
  ⟨⟨H7.out.1, H6.out.1.below H7.out.2.1, Kd.R_below H6.out.2.1 H7.out.2.1, below_step H6.out.2.2 H7.out.2.1, by rw [H7.out.2.2]; exact H6.out.2.2.size, List.length_replicate, fun f hf => by rw [List.eq_of_mem_replicate hf]; exact z62_ok n⟩⟩
 clear H6 H7 s0
 have HRO := jo (fun W (hb : Below w.heap.size w W) => rows_ok (Kd.C_below HR.out hb) hc (by omega))
 have hlm : (l.map (·.f0)).length = l.length := List.length_map _
 have HUN : Aside0 (∀ W A c, Kd.C (Kd.slice 3 (Kd.int .i64)) W A l.length (l.map (·.f0)) → l.length ≤ c → Calls Tryz.prog 62 #[.int .i64 n, .slice A l.length c] W fun e w' => ∃ v U, e = .returned (.tuple #[v, .int .i64 0]) ∧ Kd.R (Kd.int .i64) 3 w' W.heap.size (fun _ => True) v U ∧ Below W.heap.size W w' ∧ unkOk n (l.map (·.f0)) U) := ⟨fun W A c h1 h2 => by
  have := unknowns_ok (n := n) (L := l.map (·.f0)) W (A := A) (c := c) (by rw [hlm]; exact h1) (by rw [hlm]; exact h2) HL.out hn
  rwa [hlm] at this⟩
 have HZ := jo (zero_spec h1 h2)
 have hz64 : (zeros sz).size ≤ 64 := by rw [zeros_size]; exact h2
 have hf2 := HW7.out.soft 2
 have hc2 : w7.cell? ⟨Bw, 2, none⟩ = some (.slice none 0 0) := HW7.out.cell 2
 go_wp2_with (first | (go_at_call 61; (with_reducible refine (HRO.out _ HW7.out.bel).mono ?_); rintro e w8 ⟨A8, c8, rfl, hl8, hr8, hb8⟩; have H8 := jo (And.intro hl8 (And.intro hr8 hb8)); clear hl8 hr8 hb8) | (go_at_call 62; (with_reducible refine (HUN.out _ _ _ H8.out.2.1 H8.out.1).mono ?_); rintro e w9 ⟨v9, U, rfl, ho9, hb9, hu9⟩; obtain ⟨AU, cU, eU, _, _⟩ := Kd.R_reads ho9; subst eU; have H9 := jo (And.intro ((HW7.out.below H8.out.2.2).below hb9) (And.intro (SLI.of ho9) hu9)); have hd2 : w9.cell? ⟨Bw, 2, none⟩ = some (.slice none 0 0) := H9.out.1.cell 2; have hg2 := H9.out.1.soft 2; clear ho9 hb9 hu9 hc2 hf2))
 have HA0 : Aside0 (Wk w (w9.setCell ⟨Bw, 2, none⟩ (.slice AU U.length cU)) n sz Bw (.slice Al l.length cl) (.slice AU U.length cU) (.slice (some ⟨GF, 0, none⟩) n cF) (.slice (some ⟨GD, 0, none⟩) l.length cD) (List.replicate n z62) (List.replicate l.length false) ∧ SLI (w9.setCell ⟨Bw, 2, none⟩ (.slice AU U.length cU)) (.slice AU U.length cU) U) := ⟨⟨H9.out.1.setU _, H9.out.2.1.frame (Num3.set H9.out.1.blk (by decide) 2 _)⟩⟩
 have HU := jo H9.out.2.2
 generalize w9.setCell ⟨Bw, 2, none⟩ (.slice AU U.length cU) = WA at HA0 ⊢
 have hv2 : WA.cell? ⟨Bw, 2, none⟩ = some (.slice AU U.length cU) := HA0.out.1.cell 2
 clear H9 H8 HW7 HUN hd2 hg2
 go_wp2
 go_loopg [9, 37] U.length (fun gk v9 v37 wr => ∃ k : Nat, v37 = .int .i64 k ∧ Aside0 (k + gk = U.length ∧ Wk w wr n sz Bw (.slice Al l.length cl) (.slice AU U.length cU) (.slice (some ⟨GF, 0, none⟩) n cF) (.slice (some ⟨GD, 0, none⟩) l.length cD) (unkF sz (List.replicate n z62) (U.take k)) (List.replicate l.length false) ∧ SLI wr (.slice AU U.length cU) U))
 case atStart => exact ⟨0, rfl, ⟨by omega, HA0.out.1, HA0.out.2⟩⟩
 case round =>
  obtain ⟨k, rfl, HA⟩ := hrel
  clear HA0
  by_cases hlt : k < U.length
  ·have d1 : decide ((k : Int) < (U.length : Int)) = true := decide_eq_true (by omega)
   have d2 : decide (k < U.length) = true := decide_eq_true hlt
   obtain ⟨gq, rfl⟩ : ∃ q, gk = q + 1 := ⟨gk - 1, by have := HA.out.1; omega⟩
   have hkk : Aside0 (k + 1 + gq = U.length) := ⟨by have := HA.out.1; omega⟩
   obtain ⟨hi0, hin⟩ := rowOk_in HU.out.1 U[k] (List.getElem_mem hlt)
   obtain ⟨ad, rfl, hcell⟩ := Kd.at_int (Kd.R_reads' HA.out.2.2).2.2 (k : Int) (by omega) (by omega)
   rw [rd_get hlt, Int.toNat_natCast] at hcell
   have hsn := unkF_snoc sz (List.replicate n z62) (U.take k) U[k]
   rw [← List.take_succ_eq_append_getElem hlt] at hsn
   obtain ⟨iz, hiz⟩ : ∃ iz, iz = U[k] := ⟨_, rfl⟩
   rw [← hiz] at hcell hi0 hin hsn
   obtain ⟨i, rfl⟩ := Int.eq_ofNat_of_zero_le hi0
   rw [Int.toNat_natCast] at hsn
   have hin' : i < n := by omega
   have hiFi : (i : Int) < (n : Int) := by omega
   have wri : wrap64 (i : Int) = (i : Int) := Deg.w64 (by omega) (by omega)
   generalize unkF sz (List.replicate n z62) (U.take k) = F at HA hsn
   have HS := jo hsn
   have HI := jo (And.intro hin' (And.intro hi0 hin))
   have x0 : wr.drew.cell? ⟨Bw, 3, none⟩ = some (.slice (some ⟨GF, 0, none⟩) n cF) := HA.out.2.1.cell 3
   have x1 : Below wr.heap.size wr wr.drew := below_drew (Below.refl _ _)
   clear hsn hiz hi0 hin
   have hUl := rowOk_len HU.out.1
   have wk1 := w64s (k := k) (by clear HS HI HA; omega)
   go_wp2
   refine st_ (S := fun w' => w'.cell? ⟨Bw, 3, none⟩ = some (.slice (some ⟨GF, 0, none⟩) n cF) ∧ Below wr.heap.size wr w') (ds := [11]) 12 ⟨x0, x1⟩ (fun hHeld => ?_)
   refine td_ [0, 1, 2, 4, 5, 7] ?_
   repeat (first | refine pp_ ?_ | refine po_ ?_)
   refine tn_ ?_
   refine td_ [3] ?_
   repeat (refine pt_ hHeld ?_)
   refine tn_ ?_
   refine join_ (σ := Nat × Nat) 3 #[true, true, true, true, true, true, true, true, true, false, false, false] (fun s_ => [(47, .slice (some ⟨s_.1, 0, none⟩) 1 s_.2), (49, .string (zeros sz))]) (fun s_ w' => w'.cell? ⟨Bw, 3, none⟩ = some (.slice (some ⟨GF, 0, none⟩) n cF) ∧ Below wr.heap.size wr w' ∧ SLI w' (.slice (some ⟨s_.1, 0, none⟩) 1 s_.2) [(i : Int)]) ?_ ?_
   rotate_left
   ·intro hCont
    refine two_ (i := 6) (j := 8) (Ni := some 47) (Nj := some 49) #[true, true, true, true, true, true, true, true, false, false, false, false] #[true, true, true, true, true, true, false, true, true, false, false, false] rfl rfl rfl rfl jw (by decide) (by decide) (fun K hK => ?_) (fun K hK => ?_)
    ·skip
     refine Kd.R_lit_step (Kd.int .i64) (w0 := wr) wr.heap.size 3 rfl (N := 47) rfl (xs := [(i : Int)]) (inner := [.int .i64 (i : Int)]) (ok := fun _ => True) (okp := fun _ => True) ?lr (one_reps _ _ _ _) (fun _ hk => hk) trivial hHeld.2 hHeld.2.size (by simp) ?_
     case lr => first | (go_simp; done) | (go_simp; rfl)
     intro v47 w5 ho hb hg hat
     obtain ⟨GI, cI, e47, _, _, _⟩ := Kd.R_form ho (by simp)
     replace e47 : v47 = .slice (some ⟨GI, 0, none⟩) 1 cI := e47
     subst e47
     have HIo := jo (SLI.of ho)
     have z0 := pw_cell_below (below_grown0 hg) hHeld.1
     have z1 := hb
     clear ho hb hg hat
     refine hK.out _ _ ⟨z0, z1⟩ (fun hHeld => ?_)
     clear hK K
     refine nm_ (some 47) ?_
     refine on_ 8 (fun K hK => ?_)
     refine gs_ Tryz.func21 #[.int .i64 (sz : Int)] ?_
     with_reducible refine ((block_Zero.calls _ _ _ HZ.out)).mono ?_
     rintro e w5 ⟨rfl, hb6⟩
     refine ⟨_, rfl, ?_⟩
     have HIp := jo (HIo.out.frame (Num3.below hb6))
     have z0 := pw_cell_below hb6 hHeld.1
     have z1 := below_step hHeld.2 hb6
     clear hb6
     refine hK.out _ _ ⟨z0, z1⟩ (fun hHeld => ?_)
     clear hK K
     refine nm_ (some 49) ?_
     exact norm_ (by simp only [putAll, Act.put, List.setIfInBounds_toArray, List.set_cons_zero, List.set_cons_succ]) (hCont (GI, cI) _ ⟨hHeld.1, hHeld.2, HIp.out⟩)
    ·skip
     refine gs_ Tryz.func21 #[.int .i64 (sz : Int)] ?_
     with_reducible refine ((block_Zero.calls _ _ _ HZ.out)).mono ?_
     rintro e w5 ⟨rfl, hb6⟩
     refine ⟨_, rfl, ?_⟩
     have z0 := pw_cell_below hb6 hHeld.1
     have z1 := below_step hHeld.2 hb6
     clear hb6
     refine hK.out _ _ ⟨z0, z1⟩ (fun hHeld => ?_)
     clear hK K
     refine nm_ (some 49) ?_
     refine on_ 6 (fun K hK => ?_)
     refine Kd.R_lit_step (Kd.int .i64) (w0 := wr) wr.heap.size 3 rfl (N := 47) rfl (xs := [(i : Int)]) (inner := [.int .i64 (i : Int)]) (ok := fun _ => True) (okp := fun _ => True) ?lr (one_reps _ _ _ _) (fun _ hk => hk) trivial hHeld.2 hHeld.2.size (by simp) ?_
     case lr => first | (go_simp; done) | (go_simp; rfl)
     intro v47 w5 ho hb hg hat
     obtain ⟨GI, cI, e47, _, _, _⟩ := Kd.R_form ho (by simp)
     replace e47 : v47 = .slice (some ⟨GI, 0, none⟩) 1 cI := e47
     subst e47
     have HIo := jo (SLI.of ho)
     have z0 := pw_cell_below (below_grown0 hg) hHeld.1
     have z1 := hb
     clear ho hb hg hat
     refine hK.out _ _ ⟨z0, z1⟩ (fun hHeld => ?_)
     clear hK K
     refine nm_ (some 47) ?_
     exact norm_ (by simp only [putAll, Act.put, List.setIfInBounds_toArray, List.set_cons_zero, List.set_cons_succ]) (hCont (GI, cI) _ ⟨hHeld.1, hHeld.2, HIo.out⟩)
   rintro ⟨GI, cI⟩ w6 ⟨h61, h62, h63⟩
   have HI6 := jo h63
   have HB6 := jo h62
   obtain ⟨u6, d6, y0, y1, y2⟩ := (HA.out.2.1.below h62).at HI.out.1
   have hHeld := And.intro h61 h62
   clear h61 h62 h63
   refine norm_ (a' := ?_) ?_ ?_
   rotate_left
   ·simp only [putAll, Act.put, List.setIfInBounds_toArray, List.set_cons_zero, List.set_cons_succ]
    rfl
   refine td_ [9, 10] ?_
   repeat (first | refine pp_ ?_ | refine po_ ?_)
   refine tn_ ?_
   refine la_ 11 (fun K hK => ?_)
   refine skip_ (w1 := w6.setCells GF (i * 2) [.slice (some ⟨GI, 0, none⟩) 1 cI, .string (zeros sz)]) (by rfl) rfl ?_ ?_
   ·go_simp
    first | done | rfl
   refine hK.out _ _ ?_
   clear hK K
   refine dn_ ?_
   clear hUl hcell hHeld y0 y1 y2
   go_wp2
   go_roundg gq
   case measure => exact Nat.lt_succ_self _
   case rel =>
    have hwk := HA.out.2.1.below HB6.out
    have hev : EqV w6 ⟨[(i : Int)], zeros sz⟩ [.slice (some ⟨GI, 0, none⟩) 1 cI, .string (zeros sz)] := ⟨_, rfl, HI6.out⟩
    have hp := hwk.put HI.out.1 hev (one_ok HI.out.2.1 HI.out.2.2 hz64)
    obtain ⟨_, cells, hgc⟩ := hwk.forms.block GF rfl
    exact ⟨k + 1, rfl, ⟨hkk.out, by rw [HS.out]; exact hp, (HA.out.2.2.frame (Num3.below HB6.out)).frame (Num3.sets hgc (by decide) _ _)⟩⟩
  ·have d1 : decide ((k : Int) < (U.length : Int)) = false := decide_eq_false (by omega)
   have d2 : decide (k < U.length) = false := decide_eq_false hlt
   have e1 : k = U.length := by have := HA.out.1; omega
   have ha := HA.out.2
   rw [e1, List.take_length] at ha
   obtain ⟨FU, hFU⟩ : ∃ FU, FU = unkF sz (List.replicate n z62) U := ⟨_, rfl⟩
   rw [← hFU] at ha
   have HFU := jo hFU
   have HB := jo ha
   clear HA ha e1 hlt hFU
   have hv3 : wr.drew.cell? ⟨Bw, 2, none⟩ = some (.slice AU U.length cU) := HB.out.1.cell 2
   obtain ⟨st, s1, s2, hst1, hst2⟩ := steps_spec HL.out HU.out.1
   have HP := jo hst2
   have HR8 := jo (HRO.out _ (below_drew HB.out.1.bel))
   have hsl : st.length ≤ n := hst2.1.count HL.out hst2.2.1
   have HR9 : Aside0 (∀ W A c, Kd.C (Kd.slice 3 (Kd.int .i64)) W A l.length (l.map (·.f0)) → l.length ≤ c → SLI W (.slice AU U.length cU) U → Calls Tryz.prog 63 #[.int .i64 n, .slice A l.length c, .slice AU U.length cU] W fun e w' => ∃ A' c', e = .returned (.tuple #[.slice A' st.length c', .int .i64 0]) ∧ st.length ≤ c' ∧ Kd.R k123 123 w' W.heap.size (fun _ => True) (.slice A' st.length c') st ∧ Below W.heap.size W w') := ⟨fun W A c h1 h2 h3 => by
    have hu := Kd.R_reads' h3
    have := peel_Steps.calls 100000 (n : Int) A c (l.map (·.f0)) AU cU U st 0 W (by rw [hlm]; exact h1) (by rw [hlm]; exact h2) hu.2.2 hu.2.1 hst1
    rw [hlm] at this
    refine this.mono ?_
    rintro e w' ⟨v, rfl, hv, hb⟩
    obtain ⟨A', c', rfl, h4, h5⟩ := Kd.R_reads hv
    exact ⟨A', c', rfl, h4, hv, hb⟩⟩
   clear HRO hst1 hst2
   go_wp2
   refine st_ (S := fun w' => w'.cell? ⟨Bw, 2, none⟩ = some (.slice AU U.length cU)) (ds := []) 13 (hv3) (fun hHeld => ?_)
   refine td_ [0, 1, 3, 4, 5] ?_
   repeat (first | refine pp_ ?_ | refine po_ ?_)
   refine tn_ ?_
   refine td_ [6] ?_
   repeat (refine pt_ hHeld ?_)
   refine tn_ ?_
   refine on_ 2 (fun K hK => ?_)
   refine gs_ Tryz.func61 #[.slice Al l.length cl] ?_
   with_reducible refine (HR8.out).mono ?_
   rintro e w10 ⟨A10, c10, rfl, hl10, hr10, hb10⟩
   refine ⟨_, rfl, ?_⟩
   have H10 := jo (And.intro hl10 (And.intro hr10 (below_step (below_drew (Below.refl wr.heap.size wr)) hb10)))
   have z0 := pw_cell_below hb10 hHeld
   clear hl10 hr10 hb10
   refine hK.out _ _ (z0) (fun hHeld => ?_)
   clear hK K
   refine nm_ (some 56) ?_
   refine on_ 7 (fun K hK => ?_)
   refine gs_ Tryz.func63 #[.int .i64 (n : Int), .slice A10 l.length c10, .slice AU U.length cU] ?_
   with_reducible refine ((HR9.out _ _ _ H10.out.2.1 H10.out.1 (HB.out.2.frame (Num3.below H10.out.2.2)))).mono ?_
   rintro e w11 ⟨A11, c11, rfl, hl11, hr11, hb11⟩
   refine ⟨_, rfl, ?_⟩
   have H11 := jo (And.intro hl11 (And.intro hr11 (And.intro hb11 (below_step H10.out.2.2 hb11))))
   have z0 := pw_cell_below hb11 hHeld
   clear hl11 hr11 hb11
   refine hK.out _ _ (z0) (fun hHeld => ?_)
   clear hK K
   refine nm_ (some 61) ?_
   refine td_ [8, 9, 10, 11, 12] ?_
   repeat (first | refine pp_ ?_ | refine po_ ?_)
   refine tn_ ?_
   refine dn_ ?_
   have HS0 : Aside0 (st = [] ++ st ∧ st.length = st.length ∧ st.length ≤ c11 ∧ Kd.F k123 w11 (fun k => k ≠ GF ∧ k ≠ GD) A11 st.length st ∧ Wk w w11 n sz Bw (.slice Al l.length cl) (.slice AU U.length cU) (.slice (some ⟨GF, 0, none⟩) n cF) (.slice (some ⟨GD, 0, none⟩) l.length cD) (stepsF l (FU, List.replicate l.length false) []).1 (stepsF l (FU, List.replicate l.length false) []).2 ∧ SLI w11 (.slice AU U.length cU) U) := ⟨rfl, rfl, H11.out.1, by
    have hwk := HB.out.1.below H11.out.2.2.2
    obtain ⟨_, cells, hgF⟩ := hwk.forms.block GF rfl
    obtain ⟨cells2, hgD⟩ := Kd.R_typed hwk.used GD rfl
    have hR := Kd.R_types (Kd.R_types H11.out.2.1 hgF (by decide)) hgD (by decide)
    exact fun W' hW => (Kd.R_reads' (Kd.R_step hR (fun k hk hlt => hW k ⟨hk.1.2, hk.2⟩ hlt))).2.2, HB.out.1.below H11.out.2.2.2, HB.out.2.frame (Num3.below H11.out.2.2.2)⟩
   clear hHeld z0 H11 H10 HR8 HR9 hv3 hv2
   go_wp2
   refine Goto.label_ghost_put HKG (by assumption) [false, false, false, false, false, false, true, false, false, false, true, false, true, false, false, false, false, false, false, false, false, false, false, false, false, false, false, false, false, false, false, false, false, false, false, false, false, false, false, false, false, false, false, false, false, false, false, false, false, false, false, false, false, false, false, false, false, false, false, false, false, false, false, false, true, true, true, true, true, true, true, true, true, true, true, true, true, true, true, true, true, true, true, true, true, true, true, true, true, true, true, true, true, true, true, true] (fun kq vs_ w' => ∃ q0 q1 q2 q3 q4 q5 q6 q7 q8 q9 q10 q11 q12 q13 q14 q15 q16 q17 q18 q19 q20 q21 q22 q23 q24 q25 q26 q27 q28 q29 q30 q31 q32 q33 q34 : Value, vs_ = [q0, q1, q2, q3, q4, q5, q6, q7, q8, q9, q10, q11, q12, q13, q14, q15, q16, q17, q18, q19, q20, q21, q22, q23, q24, q25, q26, q27, q28, q29, q30, q31, q32, q33, q34] ∧ ∃ (dn rem : List S123) (A : Option Addr) (c : Nat), q1 = .slice A kq c ∧ Aside0 (st = dn ++ rem ∧ rem.length = kq ∧ kq ≤ c ∧ Kd.F k123 w' (fun k => k ≠ GF ∧ k ≠ GD) A kq rem ∧ Wk w w' n sz Bw (.slice Al l.length cl) (.slice AU U.length cU) (.slice (some ⟨GF, 0, none⟩) n cF) (.slice (some ⟨GD, 0, none⟩) l.length cD) (stepsF l (FU, List.replicate l.length false) dn).1 (stepsF l (FU, List.replicate l.length false) dn).2 ∧ SLI w' (.slice AU U.length cU) U)) st.length [_, _, _, _, _, _, _, _, _, _, _, _, _, _, _, _, _, _, _, _, _, _, _, _, _, _, _, _, _, _, _, _, _, _, _] ?atStart rfl ?round
   case atStart => exact ⟨_, _, _, _, _, _, _, _, _, _, _, _, _, _, _, _, _, _, _, _, _, _, _, _, _, _, _, _, _, _, _, _, _, _, _, rfl, [], st, A11, c11, rfl, ⟨rfl, rfl, HS0.out.2.2⟩⟩
   case round =>
    clear HKG HS0
    intro gk vs_ wr hrel JG1 KG1 HJG1 HKG1
    obtain ⟨q0, q1, q2, q3, q4, q5, q6, q7, q8, q9, q10, q11, q12, q13, q14, q15, q16, q17, q18, q19, q20, q21, q22, q23, q24, q25, q26, q27, q28, q29, q30, q31, q32, q33, q34, hvs_, dn, rem, A, c, rfl, HA⟩ := hrel
    subst hvs_
    simp only [Goto.putFrame_mk, Goto.putAll_true, Goto.putAll_false, Goto.putAll_nil]
    cases gk with
    | zero =>
     go_wp2
     (try simp only [Goto.jump_ret, Goto.jump_normal, Exit.then, Exit.inBlock])
     go_ret
     have hr0 : rem = [] := List.length_eq_zero_iff.1 HA.out.2.1
     have hst : st = dn := by rw [HA.out.1, hr0, List.append_nil]
     refine ⟨Bw, GF, cF, GD, cD, .slice AU U.length cU, U, st, s1, s2, rfl, ⟨HU.out, HP.out⟩, HA.out.2.2.2.2.2, ?_⟩
     rw [← HFU.out, hst]
     exact HA.out.2.2.2.2.1
    | succ k1 =>
     have b0 : (((k1 + 1 : Nat) : Int) == 0) = false := beq_eq_false_iff_ne.2 (by omega)
     have b1 : ((k1 : Int) + 1 == 0) = false := beq_eq_false_iff_ne.2 (by omega)
     have d3 : decide ((0 : Int) < ((k1 + 1 : Nat) : Int)) = true := decide_eq_true (by omega)
     have d4 : decide ((0 : Int) < (k1 : Int) + 1) = true := decide_eq_true (by omega)
     obtain ⟨t, r2, rfl⟩ : ∃ t r2, rem = t :: r2 := by
      cases rem with
      | nil => exact absurd HA.out.2.1 (by simp)
      | cons t r2 => exact ⟨t, r2, rfl⟩
     have hmem : t ∈ st := by rw [HA.out.1]; exact List.mem_append_right _ (List.mem_cons_self ..)
     have hok := HP.out.1.steps HL.out t hmem
     rw [hlm] at hok
     clear hmem
     obtain ⟨t0, t1⟩ := t
     obtain ⟨⟨p0, p1⟩, p2, p3⟩ := hok
     replace p0 : 0 ≤ t0 := p0
     replace p1 : t0 < (l.length : Int) := p1
     replace p2 : 0 ≤ t1 := p2
     replace p3 : t1 < (n : Int) := p3
     obtain ⟨tk, rfl⟩ := Int.eq_ofNat_of_zero_le p0
     obtain ⟨i, rfl⟩ := Int.eq_ofNat_of_zero_le p2
     have hkn : tk < l.length := Int.ofNat_lt.1 p1
     have hin : i < n := Int.ofNat_lt.1 p3
     have wri : wrap64 (i : Int) = (i : Int) := Deg.w64 (by omega) (by omega)
     have wrk : wrap64 (tk : Int) = (tk : Int) := Deg.w64 (by omega) (by omega)
     have HKI := jo (And.intro hkn hin)
     have hsn : ∀ a, stepsF l a (dn ++ [⟨(tk : Int), (i : Int)⟩]) = stepF l (stepsF l a dn) ⟨(tk : Int), (i : Int)⟩ := fun a => by simp [stepsF]
     have HSN := jo (hsn (FU, List.replicate l.length false))
     clear p0 p2 hkn hin hsn
     have hkl : k1 + 1 = (⟨(tk : Int), (i : Int)⟩ :: r2 : List S123).length := HA.out.2.1.symm
     have hC := Kd.F_now HA.out.2.2.2.1
     obtain ⟨ad, rfl, y0, y1⟩ := at_T123 hC 0 (by omega) (by omega)
     obtain ⟨i5, hi5, hs5⟩ : ∃ i, Tryz.prog.info? 123 = some i ∧ i.size = 2 := by
      have := info123
      cases h : Tryz.prog.info? 123 with
      | none => rw [h] at this; simp at this
      | some i => rw [h] at this; simp only [Option.map_some, Option.some.injEq, Prod.mk.injEq] at this; exact ⟨i, rfl, this.2.1⟩
     have HI5 := jo (And.intro hi5 hs5)
     clear hi5 hs5
     have hcut := cut_from (P := Tryz.prog) 90 123 .i64 Tryz.underlying90 HI5.out.1 2 HI5.out.2 (some ad) (k1 + 1) c 1 (by decide) (by omega)
     have had : ad.add 0 = ad := by cases ad; rfl
     rw [show rd_T123 (⟨(tk : Int), (i : Int)⟩ :: r2) 0 = ⟨(tk : Int), (i : Int)⟩ from rfl, show (0 : Int).toNat * 2 = 0 from rfl, had] at y0 y1
     clear had
     obtain ⟨A2, hA2⟩ : ∃ A2, A2 = (if c = 1 then some ad else (some ad).map (·.add 2)) := ⟨_, rfl⟩
     have hcf : ∀ W : World, (Instr.slice 90 (.slice (some ad) (k1 + 1) c) (some (.int .i64 1)) none none).run Tryz.prog W = .ok (.slice A2 k1 (c - 1)) W := by
      rw [hA2]
      exact hcut
     have HA2 := jo hA2
     clear hkl hC hcut hA2
     go_wp2
     clear y0 y1 hcf
     have HT : Aside0 (Below wr.heap.size wr (wr.alloc (Obj.cells #[Value.int IntKind.i64 (tk : Int), Value.int IntKind.i64 (i : Int)] 123)) ∧ (wr.alloc (Obj.cells #[Value.int IntKind.i64 (tk : Int), Value.int IntKind.i64 (i : Int)] 123)).heap[wr.heap.size]? = some (.cells #[Value.int IntKind.i64 (tk : Int), Value.int IntKind.i64 (i : Int)] 123 (0, 0))) := ⟨below_alloc (Below.refl _ _) _, blk_new wr _⟩
     generalize wr.alloc (Obj.cells #[Value.int IntKind.i64 (tk : Int), Value.int IntKind.i64 (i : Int)] 123) = W2 at HT ⊢
     have HS := jo HA.out.2.2.2.2
     have HF := jo (Kd.F_below HA.out.2.2.2.1 HT.out.1)
     have HN : Aside0 (st = dn ++ ⟨(tk : Int), (i : Int)⟩ :: r2 ∧ r2.length = k1 ∧ k1 + 1 ≤ c) := ⟨HA.out.1, Nat.succ.inj HA.out.2.1, HA.out.2.2.1⟩
     clear HA
     generalize stepsF l (FU, List.replicate l.length false) dn = FD at HSN HS
     obtain ⟨F, D⟩ := FD
     have hwk := HS.out.1.below HT.out.1
     have hsl := HS.out.2.frame (Num3.below HT.out.1)
     have HBt : Aside0 (w.heap.size ≤ wr.heap.size) := ⟨HS.out.1.bel.size⟩
     have HTB := HT.out.2
     have HWB : Aside0 (Below wr.heap.size wr W2) := ⟨HT.out.1⟩
     clear HS HT
     generalize wr.heap.size = Bt at HBt HWB HTB ⊢
     have HTb := jo HTB
     have HV := jo (And.intro hwk hsl)
     have x0 : W2.drew.cell? ⟨Bw, 3, none⟩ = some (.slice (some ⟨GF, 0, none⟩) n cF) := hwk.cell 3
     have x1 : W2.drew.cell? ⟨Bt, 0, none⟩ = some (.int .i64 (tk : Int)) := blk_cell HTB 0
     have x2 : W2.drew.cell? ⟨Bt, 1, none⟩ = some (.int .i64 (i : Int)) := blk_cell HTB 1
     obtain ⟨al, A0, c0, rfl, x3, x4, hx5, hx6⟩ := at_T62 (Kd.C_below HR.out hwk.bel) (tk : Int) (Int.natCast_nonneg _) p1
     have hxe : rd_T62 l (tk : Int) = l.getD tk z62 := rfl
     have hxl : rd_T62 l (tk : Int) ∈ l := by
      rw [hxe, List.getD_eq_getElem?_getD, List.getElem?_eq_getElem HKI.out.1]
      exact List.getElem_mem _
     rw [Int.toNat_natCast] at x3 x4
     generalize rd_T62 l (tk : Int) = x at x3 x4 hx5 hx6 hxe hxl
     have HX : Aside0 (x = l.getD tk z62 ∧ fOk n x) := ⟨hxe, HL.out.2.2 _ (List.mem_map_of_mem hxl), by rw [hd x hxl]; exact h2⟩
     clear hxe hxl
     have HC : Aside0 (∀ W', Below W2.heap.size W2 W' → Calls Tryz.prog 64 #[.pointer (some ⟨Bw, 0, none⟩), .agg #[.slice A0 x.f0.length c0, .string x.f1], .int .i64 (i : Int)] W' fun e w' => ∃ A c, e = .returned (.agg #[.slice A (sumF F x (i : Int)).f0.length c, .string (sumF F x (i : Int)).f1]) ∧ SLI w' (.slice A (sumF F x (i : Int)).f0.length c) (sumF F x (i : Int)).f0 ∧ Below W'.heap.size W' w') := ⟨fun W' hW => by
      have hw' := HV.out.1.below hW
      refine (sum_ok (base := w.heap.size) (Bw := Bw) hn160 hw'.blk hw'.forms hw'.fok hw'.fl HX.out.2 (Kd.C_below hx6 hW) hx5).mono ?_
      rintro e w' ⟨v, rfl, hs, hb⟩
      obtain ⟨A, c, rfl, _, _⟩ := hs.reads
      exact ⟨A, c, rfl, hs, hb⟩⟩
     have x5 : W2.drew.cell? (al.add (tk * 2)) = some (.slice A0 x.f0.length c0) := x3
     have x6 : W2.drew.cell? ⟨(al.add (tk * 2)).block, (al.add (tk * 2)).off + 1, none⟩ = some (.string x.f1) := x4
     clear hwk hsl HTB hx5 hx6 HR x3 x4
     go_wp2
     refine st_ (S := fun w' => w'.cell? ⟨Bw, 3, none⟩ = some (.slice (some ⟨GF, 0, none⟩) n cF) ∧ w'.cell? ⟨Bt, 0, none⟩ = some (.int .i64 (tk : Int)) ∧ w'.cell? ⟨Bt, 1, none⟩ = some (.int .i64 (i : Int)) ∧ w'.cell? (al.add (tk * 2)) = some (.slice A0 x.f0.length c0) ∧ w'.cell? ⟨(al.add (tk * 2)).block, (al.add (tk * 2)).off + 1, none⟩ = some (.string x.f1)) (ds := [16]) 17 ⟨x0, x1, x2, x5, x6⟩ (fun hHeld => ?_)
     refine td_ [0, 1, 2, 4, 6, 7, 8, 12] ?_
     repeat (first | refine pp_ ?_ | refine po_ ?_)
     refine tn_ ?_
     refine td_ [3, 5, 9] ?_
     repeat (refine pt_ hHeld ?_)
     refine tn_ ?_
     refine td_ [10] ?_
     repeat (first | refine pp_ ?_ | refine po_ ?_)
     refine tn_ ?_
     refine td_ [11, 13] ?_
     repeat (refine pt_ hHeld ?_)
     refine tn_ ?_
     refine on_ 14 (fun K hK => ?_)
     refine gs_ Tryz.func64 #[.pointer (some ⟨Bw, 0, none⟩), .agg #[.slice A0 x.f0.length c0, .string x.f1], .int .i64 (i : Int)] ?_
     with_reducible refine ((HC.out _ (below_drew (Below.refl _ _)))).mono ?_
     rintro e w6 ⟨A6, c6, rfl, hs6, hb6⟩
     refine ⟨_, rfl, ?_⟩
     have H6 := jo (And.intro hs6 (below_step (below_drew (Below.refl W2.heap.size W2)) hb6))
     have z0 := pw_cell_below hb6 hHeld.1
     have z1 := pw_cell_below hb6 hHeld.2.1
     have z2 := pw_cell_below hb6 hHeld.2.2.1
     have z3 := pw_cell_below hb6 hHeld.2.2.2.1
     have z4 := pw_cell_below hb6 hHeld.2.2.2.2
     clear hb6 hs6
     obtain ⟨u6, d6, k0, k1_, k2⟩ := (HV.out.1.below H6.out.2).at HKI.out.2
     refine hK.out _ _ ⟨z0, z1, z2, z3, z4⟩ (fun hHeld => ?_)
     clear hK K
     refine nm_ (some 87) ?_
     refine td_ [15] ?_
     repeat (first | refine pp_ ?_ | refine po_ ?_)
     refine tn_ ?_
     refine la_ 16 (fun K hK => ?_)
     refine skip_ (w1 := w6.setCells GF (i * 2) [.slice A6 (sumF F x (i : Int)).f0.length c6, .string (sumF F x (i : Int)).f1]) (by rfl) rfl ?_ ?_
     ·go_simp
      first | done | rfl
     refine hK.out _ _ ?_
     clear hK K
     refine dn_ ?_
     have H7 : Aside0 (Wk w (w6.setCells GF (i * 2) [.slice A6 (sumF F x (i : Int)).f0.length c6, .string (sumF F x (i : Int)).f1]) n sz Bw (.slice (some al) l.length cl) (.slice AU U.length cU) (.slice (some ⟨GF, 0, none⟩) n cF) (.slice (some ⟨GD, 0, none⟩) l.length cD) (F.set i (sumF F x (i : Int))) D ∧ SLI (w6.setCells GF (i * 2) [.slice A6 (sumF F x (i : Int)).f0.length c6, .string (sumF F x (i : Int)).f1]) (.slice AU U.length cU) U ∧ Kd.F k123 (w6.setCells GF (i * 2) [.slice A6 (sumF F x (i : Int)).f0.length c6, .string (sumF F x (i : Int)).f1]) (fun k => k ≠ GF ∧ k ≠ GD) A2 k1 r2 ∧ (w6.setCells GF (i * 2) [.slice A6 (sumF F x (i : Int)).f0.length c6, .string (sumF F x (i : Int)).f1]).heap[Bt]? = some (.cells #[.int .i64 (tk : Int), .int .i64 (i : Int)] 123 (0, 0))) := by
      have hwk6 := HV.out.1.below H6.out.2
      obtain ⟨_, cells, hgF⟩ := hwk6.forms.block GF rfl
      have hfo : fOk n (sumF F x (i : Int)) := accF_ok hwk6.fok (a := ⟨[], x.f1⟩) ⟨fun k hk => absurd hk (Nat.not_lt_zero _), HX.out.2.2⟩ x.f0
      refine ⟨hwk6.put HKI.out.2 ⟨_, rfl, H6.out.1⟩ hfo, (HV.out.2.frame (Num3.below H6.out.2)).frame (Num3.sets hgF (by decide) _ _), ?_, ?_⟩
      ·have h1 := HF.out
       have hl2 : k1 + 1 = (⟨(tk : Int), (i : Int)⟩ :: r2 : List S123).length := by rw [List.length_cons, HN.out.2.1]
       rw [hl2] at h1
       have h2 := Kd.F_cut (c := c) h1 (m := 1) (by simp) (by rw [← hl2]; exact HN.out.2.2)
       rw [show ((⟨(tk : Int), (i : Int)⟩ :: r2 : List S123).drop 1) = r2 from rfl, HN.out.2.1] at h2
       rw [HA2.out]
       exact Kd.F_step (Kd.F_below h2 H6.out.2) (fun k hk _ => heap_setCells hk.1 _ _ _)
      ·have hb := blk_below HTb.out H6.out.2
       refine (heap_setCells (fun e => ?_) _ _ _).trans hb
       rw [← e, hb] at hgF
       injection hgF with hgF
       injection hgF with _ hgF
       exact absurd hgF (by decide)
     have hDl := (Kd.R_reads' H7.out.1.used).1
     obtain ⟨bo, x2, x3⟩ : ∃ bo, (w6.setCells GF (i * 2) [.slice A6 (sumF F x (i : Int)).f0.length c6, .string (sumF F x (i : Int)).f1]).drew.cell? ⟨GD, tk, none⟩ = some (.bool bo) ∧ ∀ j, (w6.setCells GF (i * 2) [.slice A6 (sumF F x (i : Int)).f0.length c6, .string (sumF F x (i : Int)).f1]).drew.frozen? ⟨GD, j, none⟩ = false := by
      obtain ⟨ad, e, hc⟩ := Kd.at_bool (Kd.R_reads' H7.out.1.used).2.2 (tk : Int) (Int.natCast_nonneg _) (by rw [← hDl]; exact p1)
      injection e with e
      subst e
      obtain ⟨cells, hg⟩ := Kd.R_typed H7.out.1.used GD rfl
      refine ⟨rdOf false D (tk : Int), ?_, fun j => blk_frozen hg j⟩
      rw [Int.toNat_natCast] at hc
      have hz : (⟨GD, 0, none⟩ : Addr).add tk = ⟨GD, tk, none⟩ := by rw [Addr.add_lit, Nat.zero_add]
      rw [hz] at hc
      exact hc
     clear hHeld k0 k1_ k2 hDl
     generalize w6.setCells GF (i * 2) [.slice A6 (sumF F x (i : Int)).f0.length c6, .string (sumF F x (i : Int)).f1] = W7 at H7 x2 x3 ⊢
     have x0 : W7.drew.cell? ⟨Bw, 4, none⟩ = some (.slice (some ⟨GD, 0, none⟩) l.length cD) := H7.out.1.cell 4
     have x1 : W7.drew.cell? ⟨Bt, 0, none⟩ = some (.int .i64 (tk : Int)) := blk_cell H7.out.2.2.2 0
     go_wp2
     refine st_ (S := fun w' => w'.cell? ⟨Bw, 4, none⟩ = some (.slice (some ⟨GD, 0, none⟩) l.length cD) ∧ w'.cell? ⟨Bt, 0, none⟩ = some (.int .i64 (tk : Int)) ∧ w'.cell? ⟨GD, tk, none⟩ = some (.bool bo) ∧ ∀ j, w'.frozen? ⟨GD, j, none⟩ = false) (ds := [7]) 8 ⟨x0, x1, x2, x3⟩ (fun hHeld => ?_)
     refine td_ [0, 1, 2, 4] ?_
     repeat (first | refine pp_ ?_ | refine po_ ?_)
     refine tn_ ?_
     refine td_ [3, 5] ?_
     repeat (refine pt_ hHeld ?_)
     refine tn_ ?_
     refine td_ [6] ?_
     repeat (first | refine pp_ ?_ | refine po_ ?_)
     refine tn_ ?_
     refine la_ 7 (fun K hK => ?_)
     refine skip_ (w1 := W7.drew.setCell ⟨GD, tk, none⟩ (.bool true)) (by rfl) rfl ?_ ?_
     ·go_simp
      first | done | rfl
     refine hK.out _ _ ?_
     clear hK K
     refine dn_ ?_
     go_wp2
     apply wp_goto
     (try simp only [Exit.then, Exit.inBlock])
     refine Goto.goto_put HKG1 HJG1 k1 [_, _, _, _, _, _, _, _, _, _, _, _, _, _, _, _, _, _, _, _, _, _, _, _, _, _, _, _, _, _, _, _, _, _, _] ?measure rfl ?rel
     case measure => exact Nat.lt_succ_self _
     case rel =>
      have hw := (H7.out.1.below (below_drew (Below.refl _ _))).mark (k := tk)
      obtain ⟨cells, hgD⟩ := Kd.R_typed H7.out.1.used GD rfl
      have h1 := HN.out.1
      have e1 : stepsF l (FU, List.replicate l.length false) (dn ++ [⟨(tk : Int), (i : Int)⟩]) = (F.set i (sumF F x (i : Int)), D.set tk true) := by
       rw [HSN.out, HX.out.1]
       simp only [stepF, Int.toNat_natCast]
      refine ⟨_, _, _, _, _, _, _, _, _, _, _, _, _, _, _, _, _, _, _, _, _, _, _, _, _, _, _, _, _, _, _, _, _, _, _, rfl, dn ++ [⟨(tk : Int), (i : Int)⟩], r2, A2, c - 1, rfl, ⟨by rw [h1]; simp, HN.out.2.1, by have := HN.out.2.2; clear h1 hw; omega, Kd.F_step H7.out.2.2.1 (fun k hk _ => Below.heap_setCell _ ⟨GD, tk, none⟩ _ k hk.2), ?_, H7.out.2.1.frame (Num3.set hgD (by decide) _ _)⟩⟩
      rw [e1]
      exact hw
end Go.Proofs.YtjmooillogojkaaGreat.Q
