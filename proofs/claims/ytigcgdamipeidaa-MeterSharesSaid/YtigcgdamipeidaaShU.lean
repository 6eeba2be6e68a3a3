/- The turn of one peer, walked: what it sends, and what stands behind it. -/
import Derived.Test.YtigcgdamipeidaaShT
namespace Go.Proofs.Ytigcgdamipeidaa.Shr
open Go.RowKit Go.Proofs.YtigcgdamipeidaaW.PrintWords Go.Proofs.YtigcgdamipeidaaW.PrintLast Go.Proofs.YtigcgdamipeidaaW.PrintMore Go.Proofs.Ytigcgdamipeidaa Go.Proofs.Ytigcgdamipeidaa.Q
variable {B g : Nat} {S : Sh} {vs : Nat → Value}

/-- What holds at the label: the credit, what waits, what was sent so far. -/
def AtLabel (w : World) (B g : Nat) (S : Sh) (vs : Nat → Value) (p : Nat) (node : Int) (r : Int × List Int × List Int) (k : Nat) (v : Value) (w' : World) : Prop :=
  ∃ (c : Int) (l o : List Int) (vs' : Nat → Value), Has w' B g { S with cr := up S.cr p c, l := up S.l p l } vs' ∧ After w w' B g vs vs' ∧ Qst w' w.heap.size v (of node o) ∧
    (∀ i, v.ownBlock = some i → ¬ Own g vs' i) ∧ (turnL c l).1 = r.1 ∧ (turnL c l).2.1 = r.2.1 ∧ o ++ (turnL c l).2.2 = r.2.2 ∧ l.length ≤ k ∧ 0 ≤ c ∧ c ≤ 16777216 ∧ l.length ≤ 100 ∧ (∀ x ∈ l, 1 ≤ x ∧ x ≤ 65536) ∧ o.length + l.length ≤ 100

set_option linter.unusedVariables false
set_option linter.unusedSimpArgs false
attribute [local go_sem] max2_int min2_int max_two min_two max_three min_three max_four min_four

set_option maxHeartbeats 4000000 in
set_option maxRecDepth 100000 in
theorem turn_yes {p : Nat} (hp : p < 16) {node qn : Int} (hq : 1 ≤ qn ∧ qn ≤ 65536) (hw0 : 0 ≤ S.wt p ∧ S.wt p ≤ 16) (hc0 : 0 ≤ S.cr p ∧ S.cr p ≤ 16777216) (hl0 : (S.l p).length ≤ 100) (hx0 : ∀ x ∈ S.l p, 1 ≤ x ∧ x ≤ 65536)
    {w : World} (h : Has w B g S vs) (hB : B ≤ w.heap.size) :
    Calls Try.prog 35 #[.pointer (some ⟨g, 1 + p * 3, none⟩), .int .i64 node, .int .i64 qn] w fun e w' => ∃ v vs', e = .returned v ∧
      Qst w' w.heap.size v (of node (turnL (mn (S.cr p + S.wt p * qn) 16777216) (S.l p)).2.2) ∧
      Has w' B g { S with cr := up S.cr p (turnL (mn (S.cr p + S.wt p * qn) 16777216) (S.l p)).1, l := up S.l p (turnL (mn (S.cr p + S.wt p * qn) 16777216) (S.l p)).2.1 } vs' ∧ After w w' B g vs vs' ∧ (∀ i, v.ownBlock = some i → ¬ Own g vs' i) := by
  have hcr := h.cell_cr hp
  have hwt := h.cell_wt hp
  have hfr := h.frozen (1 + p * 3 + 1)
  have m0 : 0 ≤ S.wt p * qn := Int.mul_nonneg hw0.1 (by omega)
  have m1 : S.wt p * qn ≤ 16 * 65536 := Int.mul_le_mul hw0.2 hq.2 (by omega) (by omega)
  generalize hc1 : mn (S.cr p + S.wt p * qn) 16777216 = c1
  have hN : 0 ≤ c1 ∧ c1 ≤ 16777216 := by
    rw [← hc1]
    unfold mn
    split <;> omega
  have hif : (if 16777216 < S.cr p + S.wt p * qn then 16777216 else S.cr p + S.wt p * qn) = c1 := hc1
  clear hc1
  generalize hr : turnL c1 (S.l p) = r
  have HR := Aside0.mk hr
  have H := Aside0.mk h
  have HB := Aside0.mk hB
  have HL := Aside0.mk hl0
  have HX := Aside0.mk hx0
  generalize hwt0 : S.wt p = wt0 at *
  generalize hcr0 : S.cr p = cr0 at *
  generalize hmul : wt0 * qn = mw at *
  have HW := Aside0.mk hwt0
  have HC := Aside0.mk hcr0
  have HN := Aside0.mk hN
  have hA : wrap64 mw = mw := by unfold wrap64; omega
  have hA2 : IntKind.i64.wrap mw = mw := (i64_w _).trans hA
  have hAA : wrap64 (cr0 + mw) = cr0 + mw := by unfold wrap64; omega
  have hAA2 : IntKind.i64.wrap (cr0 + mw) = cr0 + mw := (i64_w _).trans hAA
  obtain ⟨hw1, hw2⟩ := hw0
  obtain ⟨hc2, hc3⟩ := hc0
  obtain ⟨hq1, hq2⟩ := hq
  clear h hB hr hl0 hx0 hwt0 hcr0 hN
  go_enter Try.func35, Try.ntmps35
  go_wp2
  refine Goto.wp_scope_lazy 0 rfl ?_
  intro KG HKG
  go_wp2
  refine start_ (n := 16) (S := fun w' => w'.cell? ⟨g, 1 + p * 3 + 1, none⟩ = some (.int .i64 cr0) ∧ w'.cell? ⟨g, 1 + p * 3, none⟩ = some (.int .i64 wt0)) (ds := [15]) #[false, false, false, false, false, false, false, false, false, false, false, false, false, false, false, false] (by kernel_rfl) rfl rfl ⟨hcr, hwt⟩ (fun hHeld => ?_)
  refine pure_ (i := 0) (N := (some 8)) (v := ?_) (a' := ?_) #[true, false, false, false, false, false, false, false, false, false, false, false, false, false, false, false] rfl rfl (by kernel_rfl) (fun _ _ _ h => h) (Or.inl ⟨by rfl, ?_⟩) ?_ ?_
  rotate_left
  · intro w'
    go_simp
    with_reducible rfl
  rotate_left
  · simp only [Act.put, List.setIfInBounds_toArray, List.set_cons_zero, List.set_cons_succ, i64_w, i32_w]
    rfl
  refine pure_ (i := 1) (N := (some 9)) (v := ?_) (a' := ?_) #[true, true, false, false, false, false, false, false, false, false, false, false, false, false, false, false] rfl rfl (by kernel_rfl) (fun _ _ _ h => h) (Or.inl ⟨by rfl, ?_⟩) ?_ ?_
  rotate_left
  · intro w'
    go_simp
    with_reducible rfl
  rotate_left
  · simp only [Act.put, List.setIfInBounds_toArray, List.set_cons_zero, List.set_cons_succ, i64_w, i32_w]
    rfl
  refine pure_ (i := 2) (N := (some 10)) (v := ?_) (a' := ?_) #[true, true, true, false, false, false, false, false, false, false, false, false, false, false, false, false] rfl rfl (by kernel_rfl) (fun _ _ _ h => h) (Or.inl ⟨by rfl, ?_⟩) ?_ ?_
  rotate_left
  · intro w'
    go_simp
    with_reducible rfl
  rotate_left
  · simp only [Act.put, List.setIfInBounds_toArray, List.set_cons_zero, List.set_cons_succ, i64_w, i32_w]
    rfl
  refine pure_ (i := 3) (N := (some 11)) (v := ?_) (a' := ?_) #[true, true, true, true, false, false, false, false, false, false, false, false, false, false, false, false] rfl rfl (by kernel_rfl) (fun _ _ _ h => h) (Or.inl ⟨by rfl, ?_⟩) ?_ ?_
  rotate_left
  · intro w'
    go_simp
    with_reducible rfl
  rotate_left
  · simp only [Act.put, List.setIfInBounds_toArray, List.set_cons_zero, List.set_cons_succ, i64_w, i32_w]
    rfl
  refine take_ (i := 4) (N := (some 12)) (v := ?_) (a' := ?_) #[true, true, true, true, true, false, false, false, false, false, false, false, false, false, false, false] rfl rfl (by kernel_rfl) (fun _ _ _ h => h) (Or.inl ⟨by rfl, ?_⟩) hHeld ?_ ?_
  rotate_left
  · rintro w' ⟨s0, s1⟩
    go_simp
    with_reducible rfl
  rotate_left
  · simp only [Act.put, List.setIfInBounds_toArray, List.set_cons_zero, List.set_cons_succ, i64_w, i32_w]
    rfl
  refine pure_ (i := 5) (N := (some 13)) (v := ?_) (a' := ?_) #[true, true, true, true, true, true, false, false, false, false, false, false, false, false, false, false] rfl rfl (by kernel_rfl) (fun _ _ _ h => h) (Or.inl ⟨by rfl, ?_⟩) ?_ ?_
  rotate_left
  · intro w'
    go_simp
    with_reducible rfl
  rotate_left
  · simp only [Act.put, List.setIfInBounds_toArray, List.set_cons_zero, List.set_cons_succ, i64_w, i32_w]
    rfl
  refine pure_ (i := 6) (N := (some 14)) (v := ?_) (a' := ?_) #[true, true, true, true, true, true, true, false, false, false, false, false, false, false, false, false] rfl rfl (by kernel_rfl) (fun _ _ _ h => h) (Or.inl ⟨by rfl, ?_⟩) ?_ ?_
  rotate_left
  · intro w'
    go_simp
    with_reducible rfl
  rotate_left
  · simp only [Act.put, List.setIfInBounds_toArray, List.set_cons_zero, List.set_cons_succ, i64_w, i32_w]
    rfl
  refine pure_ (i := 7) (N := (some 15)) (v := ?_) (a' := ?_) #[true, true, true, true, true, true, true, true, false, false, false, false, false, false, false, false] rfl rfl (by kernel_rfl) (fun _ _ _ h => h) (Or.inl ⟨by rfl, ?_⟩) ?_ ?_
  rotate_left
  · intro w'
    go_simp
    with_reducible rfl
  rotate_left
  · simp only [Act.put, List.setIfInBounds_toArray, List.set_cons_zero, List.set_cons_succ, i64_w, i32_w]
    rfl
  refine take_ (i := 8) (N := (some 16)) (v := ?_) (a' := ?_) #[true, true, true, true, true, true, true, true, true, false, false, false, false, false, false, false] rfl rfl (by kernel_rfl) (fun _ _ _ h => h) (Or.inl ⟨by rfl, ?_⟩) hHeld ?_ ?_
  rotate_left
  · rintro w' ⟨s0, s1⟩
    go_simp
    with_reducible rfl
  rotate_left
  · simp only [Act.put, List.setIfInBounds_toArray, List.set_cons_zero, List.set_cons_succ, i64_w, i32_w]
    rfl
  refine pure_ (i := 9) (N := (some 17)) (v := ?_) (a' := ?_) #[true, true, true, true, true, true, true, true, true, true, false, false, false, false, false, false] rfl rfl (by kernel_rfl) (fun _ _ _ h => h) (Or.inl ⟨by rfl, ?_⟩) ?_ ?_
  rotate_left
  · intro w'
    go_simp
    with_reducible rfl
  rotate_left
  · simp only [Act.put, List.setIfInBounds_toArray, List.set_cons_zero, List.set_cons_succ, i64_w, i32_w]
    rfl
  refine pure_ (i := 10) (N := (some 18)) (v := ?_) (a' := ?_) #[true, true, true, true, true, true, true, true, true, true, true, false, false, false, false, false] rfl rfl (by kernel_rfl) (fun _ _ _ h => h) (Or.inl ⟨by rfl, ?_⟩) ?_ ?_
  rotate_left
  · intro w'
    go_simp
    with_reducible rfl
  rotate_left
  · simp only [Act.put, List.setIfInBounds_toArray, List.set_cons_zero, List.set_cons_succ, i64_w, i32_w]
    rfl
  refine pure_ (i := 11) (N := (some 19)) (v := ?_) (a' := ?_) #[true, true, true, true, true, true, true, true, true, true, true, true, false, false, false, false] rfl rfl (by kernel_rfl) (fun _ _ _ h => h) (Or.inl ⟨by rfl, ?_⟩) ?_ ?_
  rotate_left
  · intro w'
    go_simp
    with_reducible rfl
  rotate_left
  · simp only [Act.put, List.setIfInBounds_toArray, List.set_cons_zero, List.set_cons_succ, i64_w, i32_w]
    rfl
  refine pure_ (i := 12) (N := (some 20)) (v := ?_) (a' := ?_) #[true, true, true, true, true, true, true, true, true, true, true, true, true, false, false, false] rfl rfl (by kernel_rfl) (fun _ _ _ h => h) (Or.inl ⟨by rfl, ?_⟩) ?_ ?_
  rotate_left
  · intro w'
    go_simp
    with_reducible rfl
  rotate_left
  · simp only [Act.put, List.setIfInBounds_toArray, List.set_cons_zero, List.set_cons_succ, i64_w, i32_w]
    rfl
  refine pure_ (i := 13) (N := (some 21)) (v := ?_) (a' := ?_) #[true, true, true, true, true, true, true, true, true, true, true, true, true, true, false, false] rfl rfl (by kernel_rfl) (fun _ _ _ h => h) (Or.inl ⟨by rfl, ?_⟩) ?_ ?_
  rotate_left
  · intro w'
    go_simp
    with_reducible rfl
  rotate_left
  · simp only [Act.put, List.setIfInBounds_toArray, List.set_cons_zero, List.set_cons_succ, i64_w, i32_w]
    rfl
  refine pure_ (i := 14) (N := (some 22)) (v := ?_) (a' := ?_) #[true, true, true, true, true, true, true, true, true, true, true, true, true, true, true, false] rfl rfl (by kernel_rfl) (fun _ _ _ h => h) (Or.inl ⟨by rfl, ?_⟩) ?_ ?_
  rotate_left
  · intro w'
    go_simp
    with_reducible rfl
  rotate_left
  · simp only [Act.put, List.setIfInBounds_toArray, List.set_cons_zero, List.set_cons_succ, i64_w, i32_w]
    rfl
  refine last_ (i := 15) (N := none) #[true, true, true, true, true, true, true, true, true, true, true, true, true, true, true, true] rfl rfl (by kernel_rfl) (by decide) (fun K hK => ?_)
  refine skip_ (w1 := w.drew.setCell ⟨g, 1 + p * 3 + 1, none⟩ (.int .i64 c1)) (by rfl) rfl ?_ ?_
  · go_simp
  refine hK.out _ _ ?_
  clear hK K
  refine done_ (by kernel_rfl) ?_
  clear hA hA2 hAA hAA2 hif hcr hwt hfr
  go_wp2
  refine Goto.label_ghost_put HKG (by assumption) [false, false, false, false, false, false, true, true, false, false, false, false, false, false, false, false, false, false, false, false, false, false, false, true, true, true, true, true, true, true, true, true, true, true, true, true, true, true, true, true, true, true, true, true, true, true, true, true, true, true, true, true, true, true, true, true, true, true, true, true, true, true, true, true, true, true, true, true, true, true, true, true, true, true, true, true, true] (fun k vs_ w' => ∃ u6 u7 u23 u24 u25 u26 u27 u28 u29 u30 u31 u32 u33 u34 u35 u36 u37 u38 u39 u40 u41 u42 u43 u44 u45 u46 u47 u48 u49 u50 u51 u52 u53 u54 u55 u56 u57 u58 u59 u60 u61 u62 u63 u64 u65 u66 u67 u68 u69 u70 u71 u72 u73 u74 u75 u76 : Value, vs_ = [u6, u7, u23, u24, u25, u26, u27, u28, u29, u30, u31, u32, u33, u34, u35, u36, u37, u38, u39, u40, u41, u42, u43, u44, u45, u46, u47, u48, u49, u50, u51, u52, u53, u54, u55, u56, u57, u58, u59, u60, u61, u62, u63, u64, u65, u66, u67, u68, u69, u70, u71, u72, u73, u74, u75, u76] ∧ AtLabel w B g S vs p node r k u7 w') (S.l p).length [_, _, _, _, _, _, _, _, _, _, _, _, _, _, _, _, _, _, _, _, _, _, _, _, _, _, _, _, _, _, _, _, _, _, _, _, _, _, _, _, _, _, _, _, _, _, _, _, _, _, _, _, _, _, _, _] ?atStart rfl ?round
  case atStart =>
    refine ⟨_, _, _, _, _, _, _, _, _, _, _, _, _, _, _, _, _, _, _, _, _, _, _, _, _, _, _, _, _, _, _, _, _, _, _, _, _, _, _, _, _, _, _, _, _, _, _, _, _, _, _, _, _, _, _, _, rfl, ?_⟩
    refine ⟨c1, S.l p, [], vs, ?_, ?_, Qst_nil _ _, fun i hi => (by cases hi), by rw [HR.out], by rw [HR.out], by rw [HR.out]; rfl, Nat.le_refl _, HN.out.1, HN.out.2, HL.out, HX.out, by simpa using HL.out⟩
    · rw [up_self]
      exact (H.out.drewN 1).set_cr p c1
    · exact ((After.refl w B g vs).drewN 1).set H.out.base _ _
  case round =>
    clear HKG
    intro gk vs_ wr hrel JG KG1 HJG HKG1
    obtain ⟨u6, u7, u23, u24, u25, u26, u27, u28, u29, u30, u31, u32, u33, u34, u35, u36, u37, u38, u39, u40, u41, u42, u43, u44, u45, u46, u47, u48, u49, u50, u51, u52, u53, u54, u55, u56, u57, u58, u59, u60, u61, u62, u63, u64, u65, u66, u67, u68, u69, u70, u71, u72, u73, u74, u75, u76, hvs_, hrel⟩ := hrel
    subst hvs_
    obtain ⟨c, l, o, vs', hH, hA, hO, hD, h1, h2, h3, hk, hc0, hc9, hl9, hlx, hol⟩ := hrel
    simp only [Goto.putFrame_mk, Goto.putAll_true, Goto.putAll_false, Goto.putAll_nil]
    have hcr := hH.cell_cr hp
    have hcl := hH.cell_l hp
    have hrow := hH.row p hp
    simp only [up_same] at hcr hrow
    have hfr := hH.frozen (1 + p * 3 + 1)
    have hfl := hH.frozen (1 + p * 3 + 2)
    have HH := Aside0.mk hH
    have HA := Aside0.mk hA
    have HO := Aside0.mk hO
    have HD := Aside0.mk hD
    have HLX := Aside0.mk hlx
    have HLO := Aside0.mk hol
    have HK := Aside0.mk hk
    have HL9 := Aside0.mk hl9
    clear hH hA hO hD hlx hol hk hl9
    cases l with
    | nil =>
      obtain ⟨A, cc, he⟩ := qi_slice hrow
      rw [he] at hcl
      have H123 := Aside0.mk (And.intro h1 (And.intro h2 h3))
      clear h1 h2 h3 he hrow
      go_wp2
      (try simp only [Goto.jump_ret, Exit.then, Exit.inBlock])
      go_ret
      obtain ⟨e1, e2, e3⟩ := H123.out
      simp only [turnL, List.append_nil] at e1 e2 e3
      rw [← e1, ← e2, ← e3]
      refine ⟨u7, vs', rfl, ?_, ?_, HA.out.set HH.out.base _ _, HD.out⟩
      · exact q_move HO.out (fun k hk => Below.heap_setCell wr _ _ k (fun hc => HD.out k hk (.inl hc)))
      · have := HH.out.set_cr p 0
        rw [show up (up S.cr p c) p 0 = up S.cr p 0 from up_up ..] at this
        exact this
    | cons x xs =>
      obtain ⟨b, off, cc, he, hx, hcap⟩ := qi_head hrow
      have HE := Aside0.mk he
      have HROW := Aside0.mk hrow
      have hbg : b ≠ g := fun hc => HH.out.far p hp (by rw [he, ← hc]; rfl)
      rw [he] at hcl
      have H123 := Aside0.mk (And.intro h1 (And.intro h2 h3))
      have hx1 : 1 ≤ x ∧ x ≤ 65536 := HLX.out x List.mem_cons_self
      obtain ⟨hx1, hx2⟩ := hx1
      clear h1 h2 h3 he hrow
      by_cases hle : x ≤ c
      · have hleb : decide (x ≤ c) = true := decide_eq_true hle
        go_wp2
        go_quiet (fail)
        have HBS := Aside0.mk HA.out.1.size
        go_wp2_with (at_builtin; refine step_append rfl _ _ rfl u7 node (of node o) x rfl rfl (q_move HO.out (fun _ _ => rfl)) HBS.out (by have := HLO.out; simp [of]; omega) ?_; intro v1 w1 hq hg hat; have HQ := Aside0.mk hq; have HG := Aside0.mk hg; have HT := Aside0.mk hat; clear hq hg hat)
        have HOWN := Aside0.mk (show Own g vs' b from .inr ⟨p, hp, by rw [HE.out]; rfl⟩)
        have hm : ∀ k, Own g vs' k → w1.heap[k]? = wr.heap[k]? := fun k hk => HG.out.block k (HH.out.lt hk) (fun hc => HD.out k hc.symm hk)
        have hH1 := HH.out.move hm
        have hA1 : After w w1 B g vs vs' := (HA.out.drewN nq).grown (Nat.le_trans HB.out HBS.out) HG.out (fun k hk => .inr (q_typed HO.out k hk).1) (fun k hk => Nat.le_trans HB.out (q_typed HO.out k hk).1)
        have hcr1 := hH1.cell_cr hp
        have hcl1 := hH1.cell_l hp
        rw [HE.out] at hcl1
        simp only [up_same] at hcr1
        have hfr1 := hH1.frozen (1 + p * 3 + 1)
        have hfl1 := hH1.frozen (1 + p * 3 + 2)
        have hxc : w1.cell? ⟨b, off, none⟩ = some (.int .i64 x) := by
          have := hm b HOWN.out
          simpa [World.cell?, this] using hx
        have HH1 := Aside0.mk hH1
        have HA1 := Aside0.mk hA1
        have hsub : wrap64 (c - x) = c - x := by unfold wrap64; omega
        have hsub2 : IntKind.i64.wrap (c - x) = c - x := (i64_w _).trans hsub
        have HM := Aside0.mk hm
        clear hm hH1 hA1 hcr hcl hfr hfl hx
        refine start_ (n := 14) (S := fun w' => w'.cell? ⟨g, 1 + p * 3 + 1, none⟩ = some (.int .i64 c) ∧ w'.cell? ⟨g, 1 + p * 3 + 2, none⟩ = some (.slice (some ⟨b, off, none⟩) (xs.length + 1) cc) ∧ w'.cell? ⟨b, off, none⟩ = some (.int .i64 x)) (ds := [13]) #[false, false, false, false, false, false, false, false, false, false, false, false, false, false] (by kernel_rfl) rfl rfl ⟨hcr1, hcl1, hxc⟩ (fun hHeld => ?_)
        refine pure_ (i := 0) (N := (some 55)) (v := ?_) (a' := ?_) #[true, false, false, false, false, false, false, false, false, false, false, false, false, false] rfl rfl (by kernel_rfl) (fun _ _ _ h => h) (Or.inl ⟨by rfl, ?_⟩) ?_ ?_
        rotate_left
        · intro w'
          go_simp
          with_reducible rfl
        rotate_left
        · simp only [Act.put, List.setIfInBounds_toArray, List.set_cons_zero, List.set_cons_succ, i64_w, i32_w]
          rfl
        refine pure_ (i := 1) (N := (some 56)) (v := ?_) (a' := ?_) #[true, true, false, false, false, false, false, false, false, false, false, false, false, false] rfl rfl (by kernel_rfl) (fun _ _ _ h => h) (Or.inl ⟨by rfl, ?_⟩) ?_ ?_
        rotate_left
        · intro w'
          go_simp
          with_reducible rfl
        rotate_left
        · simp only [Act.put, List.setIfInBounds_toArray, List.set_cons_zero, List.set_cons_succ, i64_w, i32_w]
          rfl
        refine pure_ (i := 2) (N := (some 57)) (v := ?_) (a' := ?_) #[true, true, true, false, false, false, false, false, false, false, false, false, false, false] rfl rfl (by kernel_rfl) (fun _ _ _ h => h) (Or.inl ⟨by rfl, ?_⟩) ?_ ?_
        rotate_left
        · intro w'
          go_simp
          with_reducible rfl
        rotate_left
        · simp only [Act.put, List.setIfInBounds_toArray, List.set_cons_zero, List.set_cons_succ, i64_w, i32_w]
          rfl
        refine take_ (i := 3) (N := (some 58)) (v := ?_) (a' := ?_) #[true, true, true, true, false, false, false, false, false, false, false, false, false, false] rfl rfl (by kernel_rfl) (fun _ _ _ h => h) (Or.inl ⟨by rfl, ?_⟩) hHeld ?_ ?_
        rotate_left
        · rintro w' ⟨s0, s1, s2⟩
          go_simp
          with_reducible rfl
        rotate_left
        · simp only [Act.put, List.setIfInBounds_toArray, List.set_cons_zero, List.set_cons_succ, i64_w, i32_w]
          rfl
        refine pure_ (i := 4) (N := (some 59)) (v := ?_) (a' := ?_) #[true, true, true, true, true, false, false, false, false, false, false, false, false, false] rfl rfl (by kernel_rfl) (fun _ _ _ h => h) (Or.inl ⟨by rfl, ?_⟩) ?_ ?_
        rotate_left
        · intro w'
          go_simp
          with_reducible rfl
        rotate_left
        · simp only [Act.put, List.setIfInBounds_toArray, List.set_cons_zero, List.set_cons_succ, i64_w, i32_w]
          rfl
        refine pure_ (i := 5) (N := (some 60)) (v := ?_) (a' := ?_) #[true, true, true, true, true, true, false, false, false, false, false, false, false, false] rfl rfl (by kernel_rfl) (fun _ _ _ h => h) (Or.inl ⟨by rfl, ?_⟩) ?_ ?_
        rotate_left
        · intro w'
          go_simp
          with_reducible rfl
        rotate_left
        · simp only [Act.put, List.setIfInBounds_toArray, List.set_cons_zero, List.set_cons_succ, i64_w, i32_w]
          rfl
        refine pure_ (i := 6) (N := (some 61)) (v := ?_) (a' := ?_) #[true, true, true, true, true, true, true, false, false, false, false, false, false, false] rfl rfl (by kernel_rfl) (fun _ _ _ h => h) (Or.inl ⟨by rfl, ?_⟩) ?_ ?_
        rotate_left
        · intro w'
          go_simp
          with_reducible rfl
        rotate_left
        · simp only [Act.put, List.setIfInBounds_toArray, List.set_cons_zero, List.set_cons_succ, i64_w, i32_w]
          rfl
        refine take_ (i := 7) (N := (some 62)) (v := ?_) (a' := ?_) #[true, true, true, true, true, true, true, true, false, false, false, false, false, false] rfl rfl (by kernel_rfl) (fun _ _ _ h => h) (Or.inl ⟨by rfl, ?_⟩) hHeld ?_ ?_
        rotate_left
        · rintro w' ⟨s0, s1, s2⟩
          go_simp
          with_reducible rfl
        rotate_left
        · simp only [Act.put, List.setIfInBounds_toArray, List.set_cons_zero, List.set_cons_succ, i64_w, i32_w]
          rfl
        refine pure_ (i := 8) (N := (some 63)) (v := ?_) (a' := ?_) #[true, true, true, true, true, true, true, true, true, false, false, false, false, false] rfl rfl (by kernel_rfl) (fun _ _ _ h => h) (Or.inl ⟨by rfl, ?_⟩) ?_ ?_
        rotate_left
        · intro w'
          go_simp
          with_reducible rfl
        rotate_left
        · simp only [Act.put, List.setIfInBounds_toArray, List.set_cons_zero, List.set_cons_succ, i64_w, i32_w]
          rfl
        refine take_ (i := 9) (N := (some 64)) (v := ?_) (a' := ?_) #[true, true, true, true, true, true, true, true, true, true, false, false, false, false] rfl rfl (by kernel_rfl) (fun _ _ _ h => h) (Or.inl ⟨by rfl, ?_⟩) hHeld ?_ ?_
        rotate_left
        · rintro w' ⟨s0, s1, s2⟩
          go_simp
          with_reducible rfl
        rotate_left
        · simp only [Act.put, List.setIfInBounds_toArray, List.set_cons_zero, List.set_cons_succ, i64_w, i32_w]
          rfl
        refine pure_ (i := 10) (N := (some 65)) (v := ?_) (a' := ?_) #[true, true, true, true, true, true, true, true, true, true, true, false, false, false] rfl rfl (by kernel_rfl) (fun _ _ _ h => h) (Or.inl ⟨by rfl, ?_⟩) ?_ ?_
        rotate_left
        · intro w'
          go_simp
          with_reducible rfl
        rotate_left
        · simp only [Act.put, List.setIfInBounds_toArray, List.set_cons_zero, List.set_cons_succ, i64_w, i32_w]
          rfl
        refine pure_ (i := 11) (N := (some 66)) (v := ?_) (a' := ?_) #[true, true, true, true, true, true, true, true, true, true, true, true, false, false] rfl rfl (by kernel_rfl) (fun _ _ _ h => h) (Or.inl ⟨by rfl, ?_⟩) ?_ ?_
        rotate_left
        · intro w'
          go_simp
          with_reducible rfl
        rotate_left
        · simp only [Act.put, List.setIfInBounds_toArray, List.set_cons_zero, List.set_cons_succ, i64_w, i32_w]
          rfl
        refine pure_ (i := 12) (N := (some 67)) (v := ?_) (a' := ?_) #[true, true, true, true, true, true, true, true, true, true, true, true, true, false] rfl rfl (by kernel_rfl) (fun _ _ _ h => h) (Or.inl ⟨by rfl, ?_⟩) ?_ ?_
        rotate_left
        · intro w'
          go_simp
          with_reducible rfl
        rotate_left
        · simp only [Act.put, List.setIfInBounds_toArray, List.set_cons_zero, List.set_cons_succ, i64_w, i32_w]
          rfl
        refine last_ (i := 13) (N := none) #[true, true, true, true, true, true, true, true, true, true, true, true, true, true] rfl rfl (by kernel_rfl) (by decide) (fun K hK => ?_)
        refine skip_ (w1 := w1.drew.setCell ⟨g, 1 + p * 3 + 1, none⟩ (.int .i64 (c - x))) (by rfl) rfl ?_ ?_
        · go_simp
        refine hK.out _ _ ?_
        clear hK K
        refine done_ (by kernel_rfl) ?_
        clear hsub hsub2 hxc
        have hcut2 : ∀ W : World, (Instr.slice 43 (.slice (some ⟨b, off, none⟩) (xs.length + 1) cc) (some (.int .i64 1)) none none).run Try.prog W = .ok (.slice (if cc = 1 then some ⟨b, off, none⟩ else some ⟨b, off + 1, none⟩) xs.length (cc - 1)) W := cut_one b off xs.length cc
        have hq2 := qi_tail (by have := HROW.out; rw [HE.out] at this; exact this)
        have hb2 := tail_block b off xs.length cc
        generalize hA2 : (if cc = 1 then some ⟨b, off, none⟩ else some ⟨b, off + 1, none⟩ : Option Addr) = A2 at hq2 hb2 hcut2
        have HQ2 := Aside0.mk hq2
        have HB2 := Aside0.mk hb2
        clear hA2 hq2 hb2
        go_wp2
        apply wp_goto
        (try simp only [Exit.then, Exit.inBlock])
        refine Goto.goto_put HKG1 HJG xs.length [_, _, _, _, _, _, _, _, _, _, _, _, _, _, _, _, _, _, _, _, _, _, _, _, _, _, _, _, _, _, _, _, _, _, _, _, _, _, _, _, _, _, _, _, _, _, _, _, _, _, _, _, _, _, _, _] ?measure rfl ?rel
        case measure => have := HK.out; simp at this; omega
        case rel =>
          refine ⟨_, _, _, _, _, _, _, _, _, _, _, _, _, _, _, _, _, _, _, _, _, _, _, _, _, _, _, _, _, _, _, _, _, _, _, _, _, _, _, _, _, _, _, _, _, _, _, _, _, _, _, _, _, _, _, _, rfl, ?_⟩
          have hv : Qi (w1.setCell ⟨g, 1 + p * 3 + 1, none⟩ (.int .i64 (c - x))) B (.slice A2 xs.length (cc - 1)) xs := q_move HQ2.out (fun k hk => by
            rw [HB2.out] at hk
            injection hk with hk
            subst hk
            exact (Below.heap_setCell w1 _ _ _ hbg).trans (HM.out _ HOWN.out))
          have h2 := (HH1.out.set_cr p (c - x)).set_l (p := p) (v := .slice A2 xs.length (cc - 1)) (xs := xs) hv (fun k hk i hi hne => by
            rw [HB2.out] at hk
            exact HH.out.dist p i hp hi (fun hc => hne hc.symm) k (by rw [HE.out]; exact hk))
          simp only [up_up] at h2
          have h3 := h2.drewN 1
          have hrows : ∀ k, Own g (up vs' p (.slice A2 xs.length (cc - 1))) k → Own g vs' k := by
            rintro k (rfl | ⟨i, hi, hk⟩)
            · exact .inl rfl
            · by_cases he : i = p
              · subst he
                rw [up_same, HB2.out] at hk
                injection hk with hk
                subst hk
                exact HOWN.out
              · rw [up_other _ _ he] at hk
                exact .inr ⟨i, hi, hk⟩
          have hnot : ∀ i, v1.ownBlock = some i → ¬ Own g vs' i := by
            intro i hi ho
            rcases HT.out with he | ⟨b', he, hlt⟩
            · exact HD.out i (by rw [← he]; exact hi) ho
            · rw [hi] at he
              injection he with he
              subst he
              exact absurd (HH.out.lt ho) (by simp at hlt; omega)
          obtain ⟨e1, e2, e3⟩ := H123.out
          simp only [turnL] at e1 e2 e3
          rw [if_pos hle] at e1 e2 e3
          have hlo := HLO.out
          have hl9 := HL9.out
          simp only [List.length_cons] at hlo hl9
          refine ⟨c - x, xs, o ++ [x], up vs' p (.slice A2 xs.length (cc - 1)), h3, ?_, ?_, fun i hi ho => hnot i hi (hrows i ho), e1, e2, by rw [← e3, List.append_assoc]; rfl, Nat.le_refl _, by omega, by omega, by omega, fun y hy => HLX.out y (List.mem_cons_of_mem _ hy), by simp; omega⟩
          · exact ((((HA1.out.set HH.out.base _ _).set HH.out.base _ _).drewN 1).rows (fun k hk => HA1.out.2.2 k (hrows k hk)))
          · have hof : of node (o ++ [x]) = of node o ++ [(node, x)] := by simp [of]
            rw [hof]
            exact q_move HQ.out (fun k hk => (Below.heap_setCell _ _ _ _ (fun hc => hnot k hk (.inl hc))).trans (Below.heap_setCell _ _ _ _ (fun hc => hnot k hk (.inl hc))))
      · have hleb : decide (x ≤ c) = false := decide_eq_false hle
        go_wp2
        go_quiet (fail)
        go_wp2
        (try simp only [Goto.jump_ret, Exit.then, Exit.inBlock])
        go_ret
        obtain ⟨e1, e2, e3⟩ := H123.out
        simp only [turnL] at e1 e2 e3
        rw [if_neg (by omega)] at e1 e2 e3
        simp only [List.append_nil] at e3
        rw [← e1, ← e2, ← e3]
        exact ⟨u7, vs', rfl, q_move HO.out (fun _ _ => rfl), HH.out.drewN _, HA.out.drewN _, HD.out⟩
end Go.Proofs.Ytigcgdamipeidaa.Shr
