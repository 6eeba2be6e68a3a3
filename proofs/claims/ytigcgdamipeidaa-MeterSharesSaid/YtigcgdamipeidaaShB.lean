/- What Add does to a share. -/
import Derived.Test.YtigcgdamipeidaaShA
import Derived.Test.YtigcgdamipeidaaShQ
namespace Go.Proofs.Ytigcgdamipeidaa.Shr
open Go.RowKit Go.Proofs.YtigcgdamipeidaaW.PrintWords Go.Proofs.YtigcgdamipeidaaW.PrintLast Go.Proofs.YtigcgdamipeidaaW.PrintMore Go.Proofs.Ytigcgdamipeidaa Go.Proofs.Ytigcgdamipeidaa.Q
set_option linter.unusedVariables false
set_option linter.unusedSimpArgs false
variable {B g : Nat} {S : Sh} {vs : Nat → Value}

set_option maxHeartbeats 1000000 in
set_option maxRecDepth 100000 in
theorem add_bad {n x : Int} (hn : ¬ (1 ≤ n ∧ n ≤ 15 ∧ 1 ≤ x ∧ x ≤ 65536)) (w : World) :
    Calls Try.prog 15 #[.pointer (some ⟨g, 0, none⟩), .int .i64 n, .int .i64 x] w fun e w' => e = .returned (.int .i64 1) ∧ Drawn0 w w' := by
  by_cases h1 : 1 ≤ n ∧ n ≤ 15
  · have h2 : ¬ (1 ≤ x ∧ x ≤ 65536) := by omega
    have H1 := Aside0.mk h1
    have H2 := Aside0.mk h2
    clear h1 h2 hn
    go_enter Try.func15, Try.ntmps15
    go_wp2_with (first | (go_at_call 34; (with_reducible refine (peer_yes H1.out _).mono ?_); rintro e w1 ⟨rfl, ⟨k1, rfl⟩⟩) | (go_at_call 32; (with_reducible refine (in_no H2.out _).mono ?_); rintro e w1 ⟨rfl, ⟨k2, rfl⟩⟩))
    go_ret
    exact ⟨rfl, ⟨⟨_, rfl⟩⟩⟩
  · have H1 := Aside0.mk h1
    clear h1 hn
    go_enter Try.func15, Try.ntmps15
    go_wp2_with (go_at_call 34; (with_reducible refine (peer_no H1.out _).mono ?_); rintro e w1 ⟨rfl, ⟨k1, rfl⟩⟩)
    go_ret
    exact ⟨rfl, Drawn0.step (Drawn0.refl _) _⟩
set_option maxHeartbeats 1000000 in
set_option maxRecDepth 100000 in
theorem add_none {n x : Int} (hn : 1 ≤ n ∧ n ≤ 15) (hx : 1 ≤ x ∧ x ≤ 65536) {w : World} (h : Has w B g S vs) (h0 : S.wt n.toNat = 0) :
    Calls Try.prog 15 #[.pointer (some ⟨g, 0, none⟩), .int .i64 n, .int .i64 x] w fun e w' => e = .returned (.int .i64 4) ∧ Drawn0 w w' := by
  have hc := h.cell_wt (p := n.toNat) (by omega)
  rw [h0] at hc
  have H1 := Aside0.mk hn
  have H2 := Aside0.mk hx
  obtain ⟨h1, h2⟩ := hn
  clear h hx h0
  go_enter Try.func15, Try.ntmps15
  go_wp2_with (first | (go_at_call 34; (with_reducible refine (peer_yes H1.out _).mono ?_); rintro e w1 ⟨rfl, ⟨k1, rfl⟩⟩) | (go_at_call 32; (with_reducible refine (in_yes H2.out _).mono ?_); rintro e w1 ⟨rfl, ⟨k2, rfl⟩⟩))
  go_ret
  exact ⟨rfl, ⟨⟨_, rfl⟩⟩⟩
set_option maxHeartbeats 1000000 in
set_option maxRecDepth 100000 in
theorem add_full {n x : Int} (hn : 1 ≤ n ∧ n ≤ 15) (hx : 1 ≤ x ∧ x ≤ 65536) {w : World} (h : Has w B g S vs) (h0 : S.wt n.toNat ≠ 0) (hl : 100 ≤ (S.l n.toNat).length) :
    Calls Try.prog 15 #[.pointer (some ⟨g, 0, none⟩), .int .i64 n, .int .i64 x] w fun e w' => e = .returned (.int .i64 6) ∧ Drawn0 w w' := by
  have hc := h.cell_wt (p := n.toNat) (by omega)
  have hc3 := h.cell_l (p := n.toNat) (by omega)
  obtain ⟨A, c, he⟩ := h.slice (p := n.toNat) (by omega)
  rw [he] at hc3
  have H1 := Aside0.mk hn
  have H2 := Aside0.mk hx
  have hz : (S.wt n.toNat == 0) = false := beq_eq_false_iff_ne.2 h0
  have hlb : decide (100 ≤ (S.l n.toNat).length) = true := decide_eq_true hl
  have hlb2 : decide (100 ≤ ((S.l n.toNat).length : Int)) = true := decide_eq_true (by omega)
  obtain ⟨h1, h2⟩ := hn
  clear h hx h0 he
  go_enter Try.func15, Try.ntmps15
  go_wp2_with (first | (go_at_call 34; (with_reducible refine (peer_yes H1.out _).mono ?_); rintro e w1 ⟨rfl, ⟨k1, rfl⟩⟩) | (go_at_call 32; (with_reducible refine (in_yes H2.out _).mono ?_); rintro e w1 ⟨rfl, ⟨k2, rfl⟩⟩))
  go_ret
  exact ⟨rfl, ⟨⟨_, rfl⟩⟩⟩
set_option maxHeartbeats 2000000 in
set_option maxRecDepth 100000 in
theorem add_yes {n x : Int} (hn : 1 ≤ n ∧ n ≤ 15) (hx : 1 ≤ x ∧ x ≤ 65536) {w : World} (h : Has w B g S vs) (h0 : S.wt n.toNat ≠ 0) (hl : (S.l n.toNat).length < 100) (hBw : B ≤ w.heap.size) :
    Calls Try.prog 15 #[.pointer (some ⟨g, 0, none⟩), .int .i64 n, .int .i64 x] w fun e w' => e = .returned (.int .i64 0) ∧ ∃ vs', Has w' B g { S with l := up S.l n.toNat (S.l n.toNat ++ [x]) } vs' ∧ After w w' B g vs vs' := by
  have hc := h.cell_wt (p := n.toNat) (by omega)
  have hc3 := h.cell_l (p := n.toNat) (by omega)
  have hf3 := h.frozen (1 + n.toNat * 3 + 2)
  have hrow := h.row n.toNat (by omega)
  obtain ⟨A, c, he⟩ := h.slice (p := n.toNat) (by omega)
  rw [he] at hc3 hrow
  have H1 := Aside0.mk hn
  have H2 := Aside0.mk hx
  have H := Aside0.mk h
  have HR := Aside0.mk hrow
  have HE := Aside0.mk he
  have HB := Aside0.mk hBw
  have hz : (S.wt n.toNat == 0) = false := beq_eq_false_iff_ne.2 h0
  have hlb : decide (100 ≤ (S.l n.toNat).length) = false := decide_eq_false (by omega)
  have hlb2 : decide (100 ≤ ((S.l n.toNat).length : Int)) = false := decide_eq_false (by omega)
  obtain ⟨h1, h2⟩ := hn
  have hn0 : 0 ≤ n := by omega
  have hn16 : n < 16 := by omega
  clear h hx h0 he hrow hBw
  go_enter Try.func15, Try.ntmps15
  go_wp2_with (first | (go_at_call 34; (with_reducible refine (peer_yes H1.out _).mono ?_); rintro e w1 ⟨rfl, ⟨k1, rfl⟩⟩) | (go_at_call 32; (with_reducible refine (in_yes H2.out _).mono ?_); rintro e w1 ⟨rfl, ⟨k2, rfl⟩⟩))
  replace H := Aside0.mk (H.out.drewN (k1 + k2))
  replace HR := Aside0.mk (q_move (w1 := w.drewN (k1 + k2)) HR.out (fun _ _ => rfl))
  refine start_ (n := 17) (S := fun w' => w'.cell? ⟨g, 1 + n.toNat * 3 + 2, none⟩ = some (.slice A (S.l n.toNat).length c)) (ds := [11, 16]) #[false, false, false, false, false, false, false, false, false, false, false, false, false, false, false, false, false] (by kernel_rfl) rfl rfl hc3 (fun hHeld => ?_)
  refine pure_ (i := 0) (N := (some 39)) (v := ?_) (a' := ?_) #[true, false, false, false, false, false, false, false, false, false, false, false, false, false, false, false, false] rfl rfl (by kernel_rfl) (fun _ _ _ h => h) (Or.inl ⟨by rfl, ?_⟩) ?_ ?_
  rotate_left
  · intro w'
    go_simp
    with_reducible rfl
  rotate_left
  · simp only [Act.put, List.setIfInBounds_toArray, List.set_cons_zero, List.set_cons_succ, i64_w, i32_w]
    rfl
  refine pure_ (i := 1) (N := (some 40)) (v := ?_) (a' := ?_) #[true, true, false, false, false, false, false, false, false, false, false, false, false, false, false, false, false] rfl rfl (by kernel_rfl) (fun _ _ _ h => h) (Or.inl ⟨by rfl, ?_⟩) ?_ ?_
  rotate_left
  · intro w'
    go_simp
    with_reducible rfl
  rotate_left
  · simp only [Act.put, List.setIfInBounds_toArray, List.set_cons_zero, List.set_cons_succ, i64_w, i32_w]
    rfl
  refine pure_ (i := 2) (N := (some 41)) (v := ?_) (a' := ?_) #[true, true, true, false, false, false, false, false, false, false, false, false, false, false, false, false, false] rfl rfl (by kernel_rfl) (fun _ _ _ h => h) (Or.inl ⟨by rfl, ?_⟩) ?_ ?_
  rotate_left
  · intro w'
    go_simp
    with_reducible rfl
  rotate_left
  · simp only [Act.put, List.setIfInBounds_toArray, List.set_cons_zero, List.set_cons_succ, i64_w, i32_w]
    rfl
  refine pure_ (i := 3) (N := (some 42)) (v := ?_) (a' := ?_) #[true, true, true, true, false, false, false, false, false, false, false, false, false, false, false, false, false] rfl rfl (by kernel_rfl) (fun _ _ _ h => h) (Or.inl ⟨by rfl, ?_⟩) ?_ ?_
  rotate_left
  · intro w'
    go_simp
    with_reducible rfl
  rotate_left
  · simp only [Act.put, List.setIfInBounds_toArray, List.set_cons_zero, List.set_cons_succ, i64_w, i32_w]
    rfl
  refine pure_ (i := 4) (N := (some 43)) (v := ?_) (a' := ?_) #[true, true, true, true, true, false, false, false, false, false, false, false, false, false, false, false, false] rfl rfl (by kernel_rfl) (fun _ _ _ h => h) (Or.inl ⟨by rfl, ?_⟩) ?_ ?_
  rotate_left
  · intro w'
    go_simp
    with_reducible rfl
  rotate_left
  · simp only [Act.put, List.setIfInBounds_toArray, List.set_cons_zero, List.set_cons_succ, i64_w, i32_w]
    rfl
  refine pure_ (i := 5) (N := (some 44)) (v := ?_) (a' := ?_) #[true, true, true, true, true, true, false, false, false, false, false, false, false, false, false, false, false] rfl rfl (by kernel_rfl) (fun _ _ _ h => h) (Or.inl ⟨by rfl, ?_⟩) ?_ ?_
  rotate_left
  · intro w'
    go_simp
    with_reducible rfl
  rotate_left
  · simp only [Act.put, List.setIfInBounds_toArray, List.set_cons_zero, List.set_cons_succ, i64_w, i32_w]
    rfl
  refine pure_ (i := 6) (N := (some 45)) (v := ?_) (a' := ?_) #[true, true, true, true, true, true, true, false, false, false, false, false, false, false, false, false, false] rfl rfl (by kernel_rfl) (fun _ _ _ h => h) (Or.inl ⟨by rfl, ?_⟩) ?_ ?_
  rotate_left
  · intro w'
    go_simp
    with_reducible rfl
  rotate_left
  · simp only [Act.put, List.setIfInBounds_toArray, List.set_cons_zero, List.set_cons_succ, i64_w, i32_w]
    rfl
  refine pure_ (i := 7) (N := (some 46)) (v := ?_) (a' := ?_) #[true, true, true, true, true, true, true, true, false, false, false, false, false, false, false, false, false] rfl rfl (by kernel_rfl) (fun _ _ _ h => h) (Or.inl ⟨by rfl, ?_⟩) ?_ ?_
  rotate_left
  · intro w'
    go_simp
    with_reducible rfl
  rotate_left
  · simp only [Act.put, List.setIfInBounds_toArray, List.set_cons_zero, List.set_cons_succ, i64_w, i32_w]
    rfl
  refine take_ (i := 8) (N := (some 47)) (v := ?_) (a' := ?_) #[true, true, true, true, true, true, true, true, true, false, false, false, false, false, false, false, false] rfl rfl (by kernel_rfl) (fun _ _ _ h => h) (Or.inl ⟨by rfl, ?_⟩) hHeld ?_ ?_
  rotate_left
  · intro w' s0
    go_simp
    with_reducible rfl
  rotate_left
  · simp only [Act.put, List.setIfInBounds_toArray, List.set_cons_zero, List.set_cons_succ, i64_w, i32_w]
    rfl
  refine pure_ (i := 9) (N := (some 48)) (v := ?_) (a' := ?_) #[true, true, true, true, true, true, true, true, true, true, false, false, false, false, false, false, false] rfl rfl (by kernel_rfl) (fun _ _ _ h => h) (Or.inl ⟨by rfl, ?_⟩) ?_ ?_
  rotate_left
  · intro w'
    go_simp
    with_reducible rfl
  rotate_left
  · simp only [Act.put, List.setIfInBounds_toArray, List.set_cons_zero, List.set_cons_succ, i64_w, i32_w]
    rfl
  refine pure_ (i := 12) (N := (some 51)) (v := ?_) (a' := ?_) #[true, true, true, true, true, true, true, true, true, true, false, false, true, false, false, false, false] rfl rfl (by kernel_rfl) (fun _ _ _ h => h) (Or.inl ⟨by rfl, ?_⟩) ?_ ?_
  rotate_left
  · intro w'
    go_simp
    with_reducible rfl
  rotate_left
  · simp only [Act.put, List.setIfInBounds_toArray, List.set_cons_zero, List.set_cons_succ, i64_w, i32_w]
    rfl
  refine pure_ (i := 13) (N := (some 52)) (v := ?_) (a' := ?_) #[true, true, true, true, true, true, true, true, true, true, false, false, true, true, false, false, false] rfl rfl (by kernel_rfl) (fun _ _ _ h => h) (Or.inl ⟨by rfl, ?_⟩) ?_ ?_
  rotate_left
  · intro w'
    go_simp
    with_reducible rfl
  rotate_left
  · simp only [Act.put, List.setIfInBounds_toArray, List.set_cons_zero, List.set_cons_succ, i64_w, i32_w]
    rfl
  refine one_ (i := 10) (N := (some 49)) #[true, true, true, true, true, true, true, true, true, true, true, false, true, true, false, false, false] rfl rfl (by kernel_rfl) (by decide) (fun K hK => ?_)
  refine value_ (w1 := (w.drewN (k1 + k2)).drew.alloc (.cells #[.int .i64 x] 3)) (v := .slice (some ⟨(w.drewN (k1 + k2)).drew.heap.size, 0, none⟩) 1 1) rfl rfl ?_ ?_
  · go_simp
  refine hK.out _ _ (pw_cell_below (below_alloc (Below.refl _ _) _) hHeld) (fun _ => ?_)
  clear hK K
  refine norm_ (a' := ?_) ?_ ?_
  rotate_left
  · show Act.put _ (some 49) _ = _
    simp only [Act.put, List.setIfInBounds_toArray, List.set_cons_zero, List.set_cons_succ, i64_w, i32_w]
    rfl
  refine last_ (i := 11) (N := (some 50)) #[true, true, true, true, true, true, true, true, true, true, true, true, true, true, false, false, false] rfl rfl (by kernel_rfl) (by decide) (fun K hK => ?_)
  refine qi_append_step rfl _ _ rfl (.slice A (S.l n.toNat).length c) (S.l n.toNat) x rfl rfl (q_move HR.out (fun _ _ => rfl)) HB.out (by omega) ?_
  intro v1 w1 hq hg hat
  obtain ⟨A1, c1, rfl⟩ := qi_slice hq
  have HQ := Aside0.mk hq
  have HG := Aside0.mk hg
  have HT := Aside0.mk hat
  have hb1 : w1.heap[g]? = some (.cells (cellsOf S vs) 78 (0, 0)) := (hg.block g (blk_lt H.out.blk) (fun hc => H.out.far n.toNat (by omega) (by rw [HE.out]; exact hc.symm))).trans H.out.blk
  have hcw : w1.cell? ⟨g, 1 + n.toNat * 3 + 2, none⟩ = some (cellAt S vs (1 + n.toNat * 3 + 2)) := (blk_cell hb1 _).trans (cells_at S vs (by omega))
  have hfw := blk_frozen hb1 (1 + n.toNat * 3 + 2)
  clear hq hg hat hb1
  refine hK.out _ _ ?_
  clear hK K
  refine norm_ (a' := ?_) ?_ ?_
  rotate_left
  · show Act.put _ (some 50) _ = _
    simp only [Act.put, List.setIfInBounds_toArray, List.set_cons_zero, List.set_cons_succ, i64_w, i32_w]
    rfl
  refine pure_ (i := 14) (N := (some 53)) (v := ?_) (a' := ?_) #[true, true, true, true, true, true, true, true, true, true, true, true, true, true, true, false, false] rfl rfl (by kernel_rfl) (fun _ _ _ h => h) (Or.inl ⟨by rfl, ?_⟩) ?_ ?_
  rotate_left
  · intro w'
    go_simp
    with_reducible rfl
  rotate_left
  · simp only [Act.put, List.setIfInBounds_toArray, List.set_cons_zero, List.set_cons_succ, i64_w, i32_w]
    rfl
  refine pure_ (i := 15) (N := (some 54)) (v := ?_) (a' := ?_) #[true, true, true, true, true, true, true, true, true, true, true, true, true, true, true, true, false] rfl rfl (by kernel_rfl) (fun _ _ _ h => h) (Or.inl ⟨by rfl, ?_⟩) ?_ ?_
  rotate_left
  · intro w'
    go_simp
    with_reducible rfl
  rotate_left
  · simp only [Act.put, List.setIfInBounds_toArray, List.set_cons_zero, List.set_cons_succ, i64_w, i32_w]
    rfl
  refine last_ (i := 16) (N := none) #[true, true, true, true, true, true, true, true, true, true, true, true, true, true, true, true, true] rfl rfl (by kernel_rfl) (by decide) (fun K hK => ?_)
  refine skip_ (w1 := w1.setCell ⟨g, 1 + n.toNat * 3 + 2, none⟩ (.slice A1 (S.l n.toNat ++ [x]).length c1)) (by rfl) rfl ?_ ?_
  · go_simp
  refine hK.out _ _ ?_
  clear hK K
  refine done_ (by kernel_rfl) ?_
  go_wp2
  go_ret
  have hg' : (w.drewN (k1 + k2)).grownBy w1 (vs n.toNat).ownBlock := by
    rw [HE.out]
    exact ⟨HG.out.os, HG.out.tape, HG.out.output, HG.out.size, HG.out.block⟩
  have hat' : (Value.slice A1 (S.l n.toNat ++ [x]).length c1).ownBlock = (vs n.toNat).ownBlock ∨ ∃ b, (Value.slice A1 (S.l n.toNat ++ [x]).length c1).ownBlock = some b ∧ w.heap.size ≤ b := by
    rw [HE.out]
    exact HT.out
  refine ⟨rfl, _, H.out.put_back (by omega) hg' HQ.out hat', ?_⟩
  refine (After.rows (((((After.refl w B g vs).drewN (k1 + k2))).grown HB.out hg' (fun k hk => .inl (.inr ⟨n.toNat, by omega, hk⟩)) (fun k hk => H.out.ge (.inr ⟨n.toNat, by omega, hk⟩))).set H.out.base _ _) ?_)
  rintro k (rfl | ⟨p, hp, hk⟩)
  · exact .inl (.inl rfl)
  · by_cases he : p = n.toNat
    · subst he
      rw [up_same] at hk
      rcases hat' with hh | ⟨b, hh, hlt⟩
      · exact .inl (.inr ⟨_, hp, by rw [← hh]; exact hk⟩)
      · rw [hk] at hh
        injection hh with hh
        subst hh
        exact .inr hlt
    · rw [up_other _ _ he] at hk
      exact .inl (.inr ⟨p, hp, hk⟩)
end Go.Proofs.Ytigcgdamipeidaa.Shr
