/- What Weigh, Waits and Credit do to a share. -/
import Derived.Test.YtigcgdamipeidaaSh
namespace Go.Proofs.Ytigcgdamipeidaa.Shr
open Go.RowKit Go.Proofs.YtigcgdamipeidaaW.PrintWords Go.Proofs.YtigcgdamipeidaaW.PrintLast Go.Proofs.YtigcgdamipeidaaW.PrintMore Go.Proofs.Ytigcgdamipeidaa Go.Proofs.Ytigcgdamipeidaa.Q

theorem in_spec (a lo hi : Int) : meter_in_int.f a lo hi = some (decide (lo ≤ a ∧ a ≤ hi)) := by
  unfold meter_in_int.f
  split
  · rename_i h
    congr 1
    rw [Bool.eq_iff_iff, decide_eq_true_eq, decide_eq_true_eq]
    exact ⟨fun h' => ⟨h, h'⟩, fun h' => h'.2⟩
  · rename_i h
    congr 1
    symm
    rw [decide_eq_false_iff_not]
    exact fun h' => h h'.1
theorem peer_spec (a : Int) : meter_peer.f a = some (decide (1 ≤ a ∧ a ≤ 15)) := by
  unfold meter_peer.f
  rw [in_spec]
  rfl
theorem peer_yes {a : Int} (h : 1 ≤ a ∧ a ≤ 15) (w : World) : Calls Try.prog 34 #[.int .i64 a] w fun e w' => e = .returned (.bool true) ∧ Drawn0 w w' := meter_peer.calls a true w (by rw [peer_spec, decide_eq_true h])
theorem peer_no {a : Int} (h : ¬ (1 ≤ a ∧ a ≤ 15)) (w : World) : Calls Try.prog 34 #[.int .i64 a] w fun e w' => e = .returned (.bool false) ∧ Drawn0 w w' := meter_peer.calls a false w (by rw [peer_spec, decide_eq_false h])
theorem in_yes {a lo hi : Int} (h : lo ≤ a ∧ a ≤ hi) (w : World) : Calls Try.prog 32 #[.int .i64 a, .int .i64 lo, .int .i64 hi] w fun e w' => e = .returned (.bool true) ∧ Drawn0 w w' := meter_in_int.calls a lo hi true w (by rw [in_spec, decide_eq_true h])
theorem in_no {a lo hi : Int} (h : ¬ (lo ≤ a ∧ a ≤ hi)) (w : World) : Calls Try.prog 32 #[.int .i64 a, .int .i64 lo, .int .i64 hi] w fun e w' => e = .returned (.bool false) ∧ Drawn0 w w' := meter_in_int.calls a lo hi false w (by rw [in_spec, decide_eq_false h])

variable {B g : Nat} {S : Sh} {vs : Nat → Value}

set_option maxHeartbeats 400000 in
set_option maxRecDepth 100000 in
theorem waits_yes {n : Int} (hn : 1 ≤ n ∧ n ≤ 15) {w : World} (h : Has w B g S vs) :
    Calls Try.prog 20 #[.pointer (some ⟨g, 0, none⟩), .int .i64 n] w fun e w' => e = .returned (.int .i64 ((S.l n.toNat).length : Int)) ∧ Drawn0 w w' := by
  obtain ⟨A, c, he⟩ := h.slice (p := n.toNat) (by omega)
  have hc := h.cell_l (p := n.toNat) (by omega)
  rw [he] at hc
  obtain ⟨h1, h2⟩ := hn
  clear he h
  go_enter Try.func20, Try.ntmps20
  go_wp2_with (go_at_call 34; (with_reducible refine (peer_yes ⟨h1, h2⟩ _).mono ?_); rintro e w1 ⟨rfl, ⟨k1, rfl⟩⟩)
  go_ret
  exact ⟨rfl, Drawn0.step (Drawn0.refl _) _⟩
set_option maxHeartbeats 400000 in
set_option maxRecDepth 100000 in
theorem waits_no {n : Int} (hn : ¬ (1 ≤ n ∧ n ≤ 15)) (w : World) :
    Calls Try.prog 20 #[.pointer (some ⟨g, 0, none⟩), .int .i64 n] w fun e w' => e = .returned (.int .i64 0) ∧ Drawn0 w w' := by
  have HN := Aside0.mk hn
  clear hn
  go_enter Try.func20, Try.ntmps20
  go_wp2_with (go_at_call 34; (with_reducible refine (peer_no HN.out _).mono ?_); rintro e w1 ⟨rfl, ⟨k1, rfl⟩⟩)
  go_ret
  exact ⟨rfl, Drawn0.step (Drawn0.refl _) _⟩
set_option maxHeartbeats 400000 in
set_option maxRecDepth 100000 in
theorem credit_yes {n : Int} (hn : 1 ≤ n ∧ n ≤ 15) {w : World} (h : Has w B g S vs) :
    Calls Try.prog 21 #[.pointer (some ⟨g, 0, none⟩), .int .i64 n] w fun e w' => e = .returned (.int .i64 (S.cr n.toNat)) ∧ Drawn0 w w' := by
  have hc := h.cell_cr (p := n.toNat) (by omega)
  obtain ⟨h1, h2⟩ := hn
  clear h
  go_enter Try.func21, Try.ntmps21
  go_wp2_with (go_at_call 34; (with_reducible refine (peer_yes ⟨h1, h2⟩ _).mono ?_); rintro e w1 ⟨rfl, ⟨k1, rfl⟩⟩)
  go_ret
  exact ⟨rfl, Drawn0.step (Drawn0.refl _) _⟩
set_option maxHeartbeats 400000 in
set_option maxRecDepth 100000 in
theorem credit_no {n : Int} (hn : ¬ (1 ≤ n ∧ n ≤ 15)) (w : World) :
    Calls Try.prog 21 #[.pointer (some ⟨g, 0, none⟩), .int .i64 n] w fun e w' => e = .returned (.int .i64 0) ∧ Drawn0 w w' := by
  have HN := Aside0.mk hn
  clear hn
  go_enter Try.func21, Try.ntmps21
  go_wp2_with (go_at_call 34; (with_reducible refine (peer_no HN.out _).mono ?_); rintro e w1 ⟨rfl, ⟨k1, rfl⟩⟩)
  go_ret
  exact ⟨rfl, Drawn0.step (Drawn0.refl _) _⟩

set_option maxHeartbeats 400000 in
set_option maxRecDepth 100000 in
theorem weigh_bad {n x : Int} (hn : ¬ (1 ≤ n ∧ n ≤ 15 ∧ 0 ≤ x ∧ x ≤ 16)) (w : World) :
    Calls Try.prog 13 #[.pointer (some ⟨g, 0, none⟩), .int .i64 n, .int .i64 x] w fun e w' => e = .returned (.int .i64 1) ∧ Drawn0 w w' := by
  by_cases h1 : 1 ≤ n ∧ n ≤ 15
  · have h2 : ¬ (0 ≤ x ∧ x ≤ 16) := by omega
    have H1 := Aside0.mk h1
    have H2 := Aside0.mk h2
    clear h1 h2 hn
    go_enter Try.func13, Try.ntmps13
    go_wp2_with (first | (go_at_call 34; (with_reducible refine (peer_yes H1.out _).mono ?_); rintro e w1 ⟨rfl, ⟨k1, rfl⟩⟩) | (go_at_call 32; (with_reducible refine (in_no H2.out _).mono ?_); rintro e w1 ⟨rfl, ⟨k2, rfl⟩⟩))
    go_ret
    exact ⟨rfl, ⟨⟨_, rfl⟩⟩⟩
  · have H1 := Aside0.mk h1
    clear h1 hn
    go_enter Try.func13, Try.ntmps13
    go_wp2_with (go_at_call 34; (with_reducible refine (peer_no H1.out _).mono ?_); rintro e w1 ⟨rfl, ⟨k1, rfl⟩⟩)
    go_ret
    exact ⟨rfl, Drawn0.step (Drawn0.refl _) _⟩
set_option maxHeartbeats 400000 in
set_option maxRecDepth 100000 in
theorem weigh_yes {n x : Int} (hn : 1 ≤ n ∧ n ≤ 15) (hx : 1 ≤ x ∧ x ≤ 16) {w : World} (h : Has w B g S vs) :
    Calls Try.prog 13 #[.pointer (some ⟨g, 0, none⟩), .int .i64 n, .int .i64 x] w fun e w' => e = .returned (.int .i64 0) ∧ Has w' B g { S with wt := up S.wt n.toNat x } vs ∧ After w w' B g vs vs := by
  have hc := h.cell_wt (p := n.toNat) (by omega)
  have hf := h.frozen (1 + n.toNat * 3)
  have H1 := Aside0.mk hn
  have H2 := Aside0.mk (show 0 ≤ x ∧ x ≤ 16 by omega)
  have H := Aside0.mk h
  have hx0 : (x == 0) = false := by
    rw [beq_eq_false_iff_ne]
    omega
  obtain ⟨h1, h2⟩ := hn
  clear h hx
  go_enter Try.func13, Try.ntmps13
  go_wp2_with (first | (go_at_call 34; (with_reducible refine (peer_yes H1.out _).mono ?_); rintro e w1 ⟨rfl, ⟨k1, rfl⟩⟩) | (go_at_call 32; (with_reducible refine (in_yes H2.out _).mono ?_); rintro e w1 ⟨rfl, ⟨k2, rfl⟩⟩))
  go_ret
  exact ⟨rfl, (H.out.drewN _).set_wt _ _, (((After.refl w B g vs).drewN _).set H.out.base _ _)⟩
set_option maxHeartbeats 400000 in
set_option maxRecDepth 100000 in
theorem weigh_zero {n : Int} (hn : 1 ≤ n ∧ n ≤ 15) {w : World} (h : Has w B g S vs) :
    Calls Try.prog 13 #[.pointer (some ⟨g, 0, none⟩), .int .i64 n, .int .i64 0] w fun e w' => e = .returned (.int .i64 0) ∧ Has w' B g { S with wt := up S.wt n.toNat 0, cr := up S.cr n.toNat 0, l := up S.l n.toNat [] } (up vs n.toNat (.slice none 0 0)) ∧
      After w w' B g vs (up vs n.toNat (.slice none 0 0)) := by
  have hc := h.cell_wt (p := n.toNat) (by omega)
  have hc2 := h.cell_cr (p := n.toNat) (by omega)
  have hc3 := h.cell_l (p := n.toNat) (by omega)
  have hf := h.frozen (1 + n.toNat * 3)
  have hf2 := h.frozen (1 + n.toNat * 3 + 1)
  have hf3 := h.frozen (1 + n.toNat * 3 + 2)
  have H1 := Aside0.mk hn
  have H2 := Aside0.mk (show (0 : Int) ≤ 0 ∧ (0 : Int) ≤ 16 by omega)
  have H := Aside0.mk h
  obtain ⟨h1, h2⟩ := hn
  clear h
  go_enter Try.func13, Try.ntmps13
  go_wp2_with (first | (go_at_call 34; (with_reducible refine (peer_yes H1.out _).mono ?_); rintro e w1 ⟨rfl, ⟨k1, rfl⟩⟩) | (go_at_call 32; (with_reducible refine (in_yes H2.out _).mono ?_); rintro e w1 ⟨rfl, ⟨k2, rfl⟩⟩))
  go_ret
  refine ⟨rfl, ((((H.out.drewN _).set_wt _ _).set_cr _ _).set_l (p := n.toNat) (Qi_nil _ _) (fun k hk => by cases hk)), ?_⟩
  refine (((((After.refl w B g vs).drewN _).set H.out.base _ _).set H.out.base _ _).set H.out.base _ _).rows ?_
  rintro k (rfl | ⟨p, hp, hk⟩)
  · exact .inl (.inl rfl)
  · by_cases he : p = n.toNat
    · subst he
      rw [up_same] at hk
      cases hk
    · rw [up_other _ _ he] at hk
      exact .inl (.inr ⟨p, hp, hk⟩)
end Go.Proofs.Ytigcgdamipeidaa.Shr
