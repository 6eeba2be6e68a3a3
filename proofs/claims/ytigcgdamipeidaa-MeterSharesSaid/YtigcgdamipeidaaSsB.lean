/- The law MeterShares, walked. -/
import Derived.Test.YtigcgdamipeidaaSsA
import Derived.Test.YtigcgdamipeidaaWaA
namespace Go.Proofs.Ytigcgdamipeidaa.Rf
open Go.RowKit Go.Proofs.YtigcgdamipeidaaW.PrintWords Go.Proofs.YtigcgdamipeidaaW.PrintLast Go.Proofs.YtigcgdamipeidaaW.PrintMore Go.Proofs.Ytigcgdamipeidaa Go.Proofs.Ytigcgdamipeidaa.Q Go.Proofs.Ytigcgdamipeidaa.Shr Go.Proofs.Ytigcgdamipeidaa.Args
set_option linter.unusedVariables false
set_option linter.unusedSimpArgs false
set_option maxHeartbeats 8000000
set_option maxRecDepth 100000
theorem add_next3 (a : Addr) (m j : Nat) : a.add (m + (j + 1)) = ⟨(a.add m).block, (a.add m).off + (j + 1), none⟩ := by
  unfold Addr.add
  rw [if_neg (by omega)]
  split
  · rename_i h
    subst h
    simp
  · simp only [Addr.mk.injEq, true_and, and_true]
    omega
theorem ms_start {w W : World} {B g : Nat} {S : Sh} (hs : SS w W B g (fun _ => False) S) : MS w (W.alloc (.cells #[.int .i64 S.q, .slice none 0 0] 28 (0, 0))) B g W.heap.size (fun _ => False) S none 0 [] := by
  refine ⟨⟨fun _ => False, hs.more (below_alloc (Below.refl _ _) _) (fun k hk => ?_), Kd.V_nil _ _ _ _ _, fun k hk => hk.elim, hs.bel.size⟩, blk_new _ _⟩
  rcases hk with (hk | hk) | hk
  · exact .inr ⟨by omega, by rw [World.size_alloc]; omega⟩
  · exact hk.elim
  · exact hk.elim
theorem ms_more {w W W' : World} {B g h : Nat} {X X' : Nat → Prop} {S : Sh} {A : Option Addr} {c : Nat} {l : List S45} (k : MS w W B g h X S A c l) (hb : Below W.heap.size W W') (hX : ∀ i, X' i → X i ∨ (W.heap.size ≤ i ∧ i < W'.heap.size)) : MS w W' B g h X' S A c l := ⟨k.1.more hb hX, blk_below k.2 hb⟩
theorem ms_less {w W : World} {B g h : Nat} {X : Nat → Prop} {S : Sh} {A : Option Addr} {c : Nat} {l : List S45} (k : MS w W B g h X S A c l) : MS w W B g h (fun _ => False) S A c l := by
  obtain ⟨⟨P, hs, hv, hn, hw⟩, hb⟩ := k
  exact ⟨⟨P, hs.less (fun i hi => by
    rcases hi with hi | hi
    · exact .inl hi
    · exact hi.elim), hv, hn, hw⟩, hb⟩
def K0 (w W : World) (B g h : Nat) : Prop := ∃ S A c l, MS w W B g h (fun _ => False) S A c l ∧ RS l S
theorem shares_yes {q : Int} (hq : 1 ≤ q ∧ q ≤ 65536) (A0 : Option Addr) (c0 : Nat) (ls : List (Int × Int × Int)) (w : World) (hp : Trips w A0 ls) :
    Calls Try.prog 3 #[.int .i64 q, .slice A0 ls.length c0] w fun e w' => e = .returned (.bool true) ∧ Below w.heap.size w w' := by
  have HQ := Aside0.mk hq
  have HP := Aside0.mk hp
  have HB0 := Aside0.mk (Below.refl w.heap.size w)
  have q1 : decide (q < 1) = false := decide_eq_false (by omega)
  have q2 : decide (65536 < q) = false := decide_eq_false (by omega)
  clear hq hp
  go_enter Try.func3, Try.ntmps3
  go_wp2_with fail
  (with_reducible refine (new_ss HQ.out HB0.out).mono ?_)
  rintro e w1 ⟨g, rfl, hs, hb⟩
  have HS := Aside0.mk hs
  clear hs hb
  go_wp2_with fail
  have HM0 := Aside0.mk (ms_start HS.out)
  (with_reducible refine (awake_ _).mono ?_)
  rintro e w2 ⟨rfl, ha⟩
  have H0 : Aside0 (K0 w w2 w.heap.size g w1.heap.size) := ⟨⟨S0 q, none, 0, [], HM0.out.step ha, rs_start q⟩⟩
  clear ha HM0 HS
  obtain ⟨h, hh⟩ : ∃ h, h = w1.heap.size := ⟨_, rfl⟩
  rw [← hh] at H0
  go_wp2_with fail
  rw [← hh]
  clear hh
  obtain ⟨B, hB⟩ : ∃ B, B = w.heap.size := ⟨_, rfl⟩
  rw [← hB] at H0
  clear hB
  go_loopg [7] 80 (fun iq v7 w' => ∃ i : Nat, v7 = .int .i64 (i : Int) ∧ Aside0 (i + iq = 80) ∧ Aside0 (K0 w w' B g h))
  case atStart => exact ⟨0, rfl, ⟨rfl⟩, H0⟩
  case round =>
    obtain ⟨i, rfl, HI, HR0⟩ := hrel
    clear H0
    obtain ⟨S, A, c, l, hm, hr⟩ := HR0.out
    have HM := Aside0.mk hm
    have HR := Aside0.mk hr
    have HIB : Aside0 (i ≤ 80) := ⟨by have := HI.out; omega⟩
    clear hm hr
    by_cases hx : i < ls.length ∧ i < 80
    · obtain ⟨hlt, hi⟩ := hx
      have hlb : decide (i < ls.length) = true := decide_eq_true hlt
      have h80 : decide ((i : Int) < 80) = true := decide_eq_true (by omega)
      have h80n : decide (i < 80) = true := decide_eq_true hi
      obtain ⟨iq, hiq⟩ : ∃ iq, gk = iq + 1 := ⟨gk - 1, by have := HI.out; omega⟩
      subst hiq
      obtain ⟨a, rfl, hk0, hp0, hn0⟩ := HP.out i ls[i] (List.getElem?_eq_getElem hlt)
      generalize ls[i] = x at hk0 hp0 hn0
      obtain ⟨kd, pe, n⟩ := x
      rw [add_next3 a (i * 3) 0] at hp0
      rw [add_next3 a (i * 3) 1] at hn0
      have x0 := HM.out.1.cell hk0
      have x1 := HM.out.1.cell hp0
      have x2 := HM.out.1.cell hn0
      simp only at x0 x1 x2
      have y0 : wr.cell? ⟨h, 0, none⟩ = some (.int .i64 S.q) := blk_cell HM.out.2 0
      have y1 : wr.cell? ⟨h, 1, none⟩ = some (.slice A l.length c) := blk_cell HM.out.2 1
      have hlh := HM.out.1.lt
      have hne8 : h ≠ wr.heap.size := Nat.ne_of_lt hlh
      clear hk0 hp0 hn0 hi
      have HM1 := Aside0.mk (HM.out.step (below_alloc (Below.refl _ _) (.cells #[.int .i64 kd, .int .i64 pe, .int .i64 n] 30 (0, 0))))
      have B8 := Aside0.mk (blk_new wr (.cells #[.int .i64 kd, .int .i64 pe, .int .i64 n] 30 (0, 0)))
      by_cases k0 : kd = 0
      · subst k0
        go_wp2_with fail
        (with_reducible refine (weighR_ms HM1.out HR.out pe n).mono ?_)
        rintro e w3 ⟨A1, c1, rfl, hmv, hb3⟩
        have HMV := Aside0.mk hmv
        have bh := blk_below HM1.out.2 hb3
        have b8 := blk_below B8.out hb3
        have BH := Aside0.mk bh
        have B8b := Aside0.mk b8
        have z8 := blk_lt b8
        have zh := blk_lt bh
        have z8n : wr.heap.size ≠ w3.heap.size := Nat.ne_of_lt z8
        have zhn : h ≠ w3.heap.size := Nat.ne_of_lt zh
        have v1 : w3.cell? ⟨wr.heap.size, 1, none⟩ = some (.int .i64 pe) := blk_cell b8 1
        have v2 : w3.cell? ⟨wr.heap.size, 2, none⟩ = some (.int .i64 n) := blk_cell b8 2
        have v3 : w3.cell? ⟨h, 0, none⟩ = some (.int .i64 S.q) := blk_cell bh 0
        have v4 : w3.cell? ⟨h, 1, none⟩ = some (.slice A l.length c) := blk_cell bh 1
        have fh := fun j => blk_frozen bh j
        have er := (rs_weighT HR.out pe n).2
        have HRS := Aside0.mk (rs_weighT HR.out pe n).1
        rw [er]
        clear er hmv hb3 bh b8 x0 x1 x2 y0 y1
        go_wp2_with fail
        have HM2 := Aside0.mk ((MV.store HMV.out BH.out).step (below_alloc (Below.refl _ _) (.cells #[.int .i64 S.q, .slice A1 (weighR l pe n).1.length c1] 28 (0, 0))))
        (with_reducible refine (weigh_ms HM2.out pe n).mono ?_)
        rintro e w4 ⟨rfl, h4, _⟩
        have HZ : Aside0 (K0 w w4 B g h) := ⟨⟨_, _, _, _, h4, HRS.out⟩⟩
        clear h4 v1 v2 v3 v4 fh HM2 HMV HRS
        go_wp2_with fail
        obtain ⟨S', A', c', l', hm', hr'⟩ := HZ.out
        have HR' := Aside0.mk hr'
        have HMP := Aside0.mk hm'
        clear hm' hr'
        go_loopg [16] 17 (fun pq v16 w' => ∃ p : Nat, v16 = .int .i64 (p : Int) ∧ Aside0 (p + pq = 17) ∧ Aside0 (MS w w' B g h (fun _ => False) S' A' c' l'))
        case atStart => exact ⟨0, rfl, ⟨rfl⟩, HMP⟩
        case round =>
          obtain ⟨p, rfl, HPI, HM3⟩ := hrel
          clear HMP
          cases gk with
          | zero =>
            have hp17 : p = 17 := by have := HPI.out; omega
            subst hp17
            go_wp2
            go_roundg iq
            case measure => omega
            case rel => exact ⟨i + 1, next_i (by have := HIB.out; omega), ⟨by have := HI.out; omega⟩, ⟨⟨S', A', c', l', HM3.out, HR'.out⟩⟩⟩
          | succ pq =>
            have hp16 : p ≤ 16 := by have := HPI.out; omega
            have d16 : decide ((p : Int) ≤ 16) = true := decide_eq_true (by omega)
            have d16n : decide (p ≤ 16) = true := decide_eq_true hp16
            have k0 : wr.cell? ⟨h, 0, none⟩ = some (.int .i64 S'.q) := blk_cell HM3.out.2 0
            have k1 : wr.cell? ⟨h, 1, none⟩ = some (.slice A' l'.length c') := blk_cell HM3.out.2 1
            have HP16 := Aside0.mk hp16
            clear hp16
            go_wp2_with fail
            (with_reducible refine (find_ms HM3.out HR'.out (p : Int)).mono ?_)
            rintro e w6 ⟨A6, c6, rfl, hb6⟩
            have HM4 := Aside0.mk (HM3.out.step hb6)
            clear hb6 k0 k1
            go_wp2_with fail
            have HM5 := Aside0.mk (HM4.out.step (below_alloc (Below.refl _ _) (.cells #[.int .i64 (getQ l' (p : Int)).f0, .int .i64 (getQ l' (p : Int)).f1, .int .i64 (getQ l' (p : Int)).f2, .slice A6 (getQ l' (p : Int)).f3.length c6] 45 (0, 0))))
            have nb := blk_new w6 (.cells #[.int .i64 (getQ l' (p : Int)).f0, .int .i64 (getQ l' (p : Int)).f1, .int .i64 (getQ l' (p : Int)).f2, .slice A6 (getQ l' (p : Int)).f3.length c6] 45 (0, 0))
            generalize w6.alloc (.cells #[.int .i64 (getQ l' (p : Int)).f0, .int .i64 (getQ l' (p : Int)).f1, .int .i64 (getQ l' (p : Int)).f2, .slice A6 (getQ l' (p : Int)).f3.length c6] 45 (0, 0)) = W7 at HM5 nb ⊢
            generalize w6.heap.size = h7 at nb ⊢
            have HWT := Aside0.mk (waits_ms (HM5.out.step (Below.refl _ _).drew) HR'.out (p : Int))
            have HCT := Aside0.mk (fun (W8 : World) (hb : Below W7.drew.heap.size W7.drew W8) => credit_ms ((HM5.out.step (Below.refl _ _).drew).step hb) HR'.out (p : Int))
            generalize (getQ l' (p : Int)).f2 = f2 at nb HCT ⊢
            generalize (getQ l' (p : Int)).f3.length = m3 at nb HWT ⊢
            have z2 : W7.cell? ⟨h7, 2, none⟩ = some (.int .i64 f2) := blk_cell nb 2
            have z3 : W7.cell? ⟨h7, 3, none⟩ = some (.slice A6 m3 c6) := blk_cell nb 3
            clear nb
            refine start_ (n := 15) (S := fun w' => w'.cell? ⟨h7, 2, none⟩ = some (.int .i64 f2) ∧ w'.cell? ⟨h7, 3, none⟩ = some (.slice A6 m3 c6)) (ds := []) #[false, false, false, false, false, false, false, false, false, false, false, false, false, false, false] (by kernel_rfl) rfl rfl ⟨z2, z3⟩ (fun hHeld => ?_)
            refine pure_ (i := 0) (N := some 124) (v := ?_) (a' := ?_) #[true, false, false, false, false, false, false, false, false, false, false, false, false, false, false] rfl rfl (by kernel_rfl) (fun _ _ _ h => h) (Or.inl ⟨by rfl, ?_⟩) ?_ ?_
            rotate_left
            · intro w'
              go_simp
              with_reducible rfl
            rotate_left
            · simp only [Act.put, List.setIfInBounds_toArray, List.set_cons_zero, List.set_cons_succ, i64_w, i32_w]
              rfl
            refine pure_ (i := 1) (N := some 125) (v := ?_) (a' := ?_) #[true, true, false, false, false, false, false, false, false, false, false, false, false, false, false] rfl rfl (by kernel_rfl) (fun _ _ _ h => h) (Or.inl ⟨by rfl, ?_⟩) ?_ ?_
            rotate_left
            · intro w'
              go_simp
              with_reducible rfl
            rotate_left
            · simp only [Act.put, List.setIfInBounds_toArray, List.set_cons_zero, List.set_cons_succ, i64_w, i32_w]
              rfl
            refine pure_ (i := 3) (N := some 127) (v := ?_) (a' := ?_) #[true, true, false, true, false, false, false, false, false, false, false, false, false, false, false] rfl rfl (by kernel_rfl) (fun _ _ _ h => h) (Or.inl ⟨by rfl, ?_⟩) ?_ ?_
            rotate_left
            · intro w'
              go_simp
              with_reducible rfl
            rotate_left
            · simp only [Act.put, List.setIfInBounds_toArray, List.set_cons_zero, List.set_cons_succ, i64_w, i32_w]
              rfl
            refine take_ (i := 4) (N := some 128) (v := ?_) (a' := ?_) #[true, true, false, true, true, false, false, false, false, false, false, false, false, false, false] rfl rfl (by kernel_rfl) (fun _ _ _ h => h) (Or.inl ⟨by rfl, ?_⟩) hHeld ?_ ?_
            rotate_left
            · rintro w' ⟨s0, s1⟩
              go_simp
              with_reducible rfl
            rotate_left
            · simp only [Act.put, List.setIfInBounds_toArray, List.set_cons_zero, List.set_cons_succ, i64_w, i32_w]
              rfl
            refine pure_ (i := 5) (N := some 129) (v := ?_) (a' := ?_) #[true, true, false, true, true, true, false, false, false, false, false, false, false, false, false] rfl rfl (by kernel_rfl) (fun _ _ _ h => h) (Or.inl ⟨by rfl, ?_⟩) ?_ ?_
            rotate_left
            · intro w'
              go_simp
              with_reducible rfl
            rotate_left
            · simp only [Act.put, List.setIfInBounds_toArray, List.set_cons_zero, List.set_cons_succ, i64_w, i32_w]
              rfl
            refine one_ (i := 2) (N := some 126) #[true, true, true, true, true, true, false, false, false, false, false, false, false, false, false] rfl rfl (by kernel_rfl) (by decide) (fun K hK => ?_)
            refine goes_ Try.func20 (by kernel_rfl) rfl #[.pointer (some ⟨g, 0, none⟩), .int .i64 (p : Int)] (by rfl) rfl rfl (by (try simp only [List.map_toArray, List.map_cons, List.map_nil]); first | done | rfl) ?_
            with_reducible refine (HWT.out).mono ?_
            rintro e W8 ⟨rfl, h8⟩
            refine ⟨_, rfl, ?_⟩
            have HM8 := Aside0.mk ((HM5.out.step (Below.refl _ _).drew).step h8)
            have HCC := Aside0.mk (HCT.out W8 h8)
            have z4 := pw_cell_below h8 hHeld.1
            have z5 := pw_cell_below h8 hHeld.2
            clear h8
            refine hK.out _ _ ⟨z4, z5⟩ (fun hHeld => ?_)
            clear hK K
            refine norm_ (a' := ?_) ?_ ?_
            rotate_left
            · show Act.put _ (some 126) _ = _
              simp only [Act.put, List.setIfInBounds_toArray, List.set_cons_zero, List.set_cons_succ, i64_w, i32_w]
              rfl
            refine pure_ (i := 6) (N := some 130) (v := ?_) (a' := ?_) #[true, true, true, true, true, true, true, false, false, false, false, false, false, false, false] rfl rfl (by kernel_rfl) (fun _ _ _ h => h) (Or.inl ⟨by rfl, ?_⟩) ?_ ?_
            rotate_left
            · intro w'
              go_simp
              with_reducible rfl
            rotate_left
            · simp only [Act.put, List.setIfInBounds_toArray, List.set_cons_zero, List.set_cons_succ, i64_w, i32_w]
              rfl
            refine pure_ (i := 7) (N := some 131) (v := ?_) (a' := ?_) #[true, true, true, true, true, true, true, true, false, false, false, false, false, false, false] rfl rfl (by kernel_rfl) (fun _ _ _ h => h) (Or.inl ⟨by rfl, ?_⟩) ?_ ?_
            rotate_left
            · intro w'
              go_simp
              with_reducible rfl
            rotate_left
            · simp only [Act.put, List.setIfInBounds_toArray, List.set_cons_zero, List.set_cons_succ, i64_w, i32_w]
              rfl
            refine pure_ (i := 8) (N := some 132) (v := ?_) (a' := ?_) #[true, true, true, true, true, true, true, true, true, false, false, false, false, false, false] rfl rfl (by kernel_rfl) (fun _ _ _ h => h) (Or.inl ⟨by rfl, ?_⟩) ?_ ?_
            rotate_left
            · intro w'
              go_simp
              with_reducible rfl
            rotate_left
            · simp only [Act.put, List.setIfInBounds_toArray, List.set_cons_zero, List.set_cons_succ, i64_w, i32_w]
              rfl
            refine pure_ (i := 9) (N := some 133) (v := ?_) (a' := ?_) #[true, true, true, true, true, true, true, true, true, true, false, false, false, false, false] rfl rfl (by kernel_rfl) (fun _ _ _ h => h) (Or.inl ⟨by rfl, ?_⟩) ?_ ?_
            rotate_left
            · intro w'
              go_simp
              with_reducible rfl
            rotate_left
            · simp only [Act.put, List.setIfInBounds_toArray, List.set_cons_zero, List.set_cons_succ, i64_w, i32_w]
              rfl
            refine pure_ (i := 11) (N := some 135) (v := ?_) (a' := ?_) #[true, true, true, true, true, true, true, true, true, true, false, true, false, false, false] rfl rfl (by kernel_rfl) (fun _ _ _ h => h) (Or.inl ⟨by rfl, ?_⟩) ?_ ?_
            rotate_left
            · intro w'
              go_simp
              with_reducible rfl
            rotate_left
            · simp only [Act.put, List.setIfInBounds_toArray, List.set_cons_zero, List.set_cons_succ, i64_w, i32_w]
              rfl
            refine take_ (i := 12) (N := some 136) (v := ?_) (a' := ?_) #[true, true, true, true, true, true, true, true, true, true, false, true, true, false, false] rfl rfl (by kernel_rfl) (fun _ _ _ h => h) (Or.inl ⟨by rfl, ?_⟩) hHeld ?_ ?_
            rotate_left
            · rintro w' ⟨s0, s1⟩
              go_simp
              with_reducible rfl
            rotate_left
            · simp only [Act.put, List.setIfInBounds_toArray, List.set_cons_zero, List.set_cons_succ, i64_w, i32_w]
              rfl
            refine one_ (i := 10) (N := some 134) #[true, true, true, true, true, true, true, true, true, true, true, true, true, false, false] rfl rfl (by kernel_rfl) (by decide) (fun K hK => ?_)
            refine goes_ Try.func21 (by kernel_rfl) rfl #[.pointer (some ⟨g, 0, none⟩), .int .i64 (p : Int)] (by rfl) rfl rfl (by (try simp only [List.map_toArray, List.map_cons, List.map_nil]); first | done | rfl) ?_
            with_reducible refine (HCC.out).mono ?_
            rintro e W9 ⟨rfl, h9⟩
            refine ⟨_, rfl, ?_⟩
            have z6 := pw_cell_below h9 hHeld.1
            have z7 := pw_cell_below h9 hHeld.2
            refine hK.out _ _ ⟨z6, z7⟩ (fun hHeld => ?_)
            clear hK K
            refine norm_ (a' := ?_) ?_ ?_
            rotate_left
            · show Act.put _ (some 134) _ = _
              simp only [Act.put, List.setIfInBounds_toArray, List.set_cons_zero, List.set_cons_succ, i64_w, i32_w]
              rfl
            refine pure_ (i := 13) (N := some 137) (v := ?_) (a' := ?_) #[true, true, true, true, true, true, true, true, true, true, true, true, true, true, false] rfl rfl (by kernel_rfl) (fun _ _ _ h => h) (Or.inl ⟨by rfl, ?_⟩) ?_ ?_
            rotate_left
            · intro w'
              go_simp
              with_reducible rfl
            rotate_left
            · simp only [Act.put, List.setIfInBounds_toArray, List.set_cons_zero, List.set_cons_succ, i64_w, i32_w]
              rfl
            refine pure_ (i := 14) (N := some 138) (v := ?_) (a' := ?_) #[true, true, true, true, true, true, true, true, true, true, true, true, true, true, true] rfl rfl (by kernel_rfl) (fun _ _ _ h => h) (Or.inl ⟨by rfl, ?_⟩) ?_ ?_
            rotate_left
            · intro w'
              go_simp
              with_reducible rfl
            rotate_left
            · simp only [Act.put, List.setIfInBounds_toArray, List.set_cons_zero, List.set_cons_succ, i64_w, i32_w]
              rfl
            refine done_ (by kernel_rfl) ?_
            clear z2 z3 hHeld
            have HM9 := Aside0.mk (HM8.out.step h9)
            clear h9
            go_wp2_with fail
            go_roundg pq
            case measure => omega
            case rel => exact ⟨p + 1, next_i (by have := HP16.out; omega), ⟨by have := HPI.out; omega⟩, HM9⟩
      · have e0 : (kd == 0) = false := beq_eq_false_iff_ne.2 k0
        by_cases k1 : kd = 1
        · subst k1
          go_wp2_with fail
          (with_reducible refine (addR_ms HM1.out HR.out pe n).mono ?_)
          rintro e w3 ⟨A1, c1, rfl, hmv, hb3⟩
          have HMV := Aside0.mk hmv
          have bh := blk_below HM1.out.2 hb3
          have b8 := blk_below B8.out hb3
          have BH := Aside0.mk bh
          have B8b := Aside0.mk b8
          have z8 := blk_lt b8
          have zh := blk_lt bh
          have z8n : wr.heap.size ≠ w3.heap.size := Nat.ne_of_lt z8
          have zhn : h ≠ w3.heap.size := Nat.ne_of_lt zh
          have v1 : w3.cell? ⟨wr.heap.size, 1, none⟩ = some (.int .i64 pe) := blk_cell b8 1
          have v2 : w3.cell? ⟨wr.heap.size, 2, none⟩ = some (.int .i64 n) := blk_cell b8 2
          have v3 : w3.cell? ⟨h, 0, none⟩ = some (.int .i64 S.q) := blk_cell bh 0
          have v4 : w3.cell? ⟨h, 1, none⟩ = some (.slice A l.length c) := blk_cell bh 1
          have fh := fun j => blk_frozen bh j
          have er := (rs_addT HR.out pe n).2
          have HRS := Aside0.mk (rs_addT HR.out pe n).1
          rw [er]
          clear er hmv hb3 bh b8 x0 x1 x2 y0 y1
          go_wp2_with fail
          have HM2 := Aside0.mk ((MV.store HMV.out BH.out).step (below_alloc (Below.refl _ _) (.cells #[.int .i64 S.q, .slice A1 (addR l pe n).1.length c1] 28 (0, 0))))
          (with_reducible refine (add_ms HM2.out pe n).mono ?_)
          rintro e w4 ⟨rfl, h4, _⟩
          have HZ : Aside0 (K0 w w4 B g h) := ⟨⟨_, _, _, _, h4, HRS.out⟩⟩
          clear h4 v1 v2 v3 v4 fh HM2 HMV HRS
          go_wp2_with fail
          obtain ⟨S', A', c', l', hm', hr'⟩ := HZ.out
          have HR' := Aside0.mk hr'
          have HMP := Aside0.mk hm'
          clear hm' hr'
          go_loopg [16] 17 (fun pq v16 w' => ∃ p : Nat, v16 = .int .i64 (p : Int) ∧ Aside0 (p + pq = 17) ∧ Aside0 (MS w w' B g h (fun _ => False) S' A' c' l'))
          case atStart => exact ⟨0, rfl, ⟨rfl⟩, HMP⟩
          case round =>
            obtain ⟨p, rfl, HPI, HM3⟩ := hrel
            clear HMP
            cases gk with
            | zero =>
              have hp17 : p = 17 := by have := HPI.out; omega
              subst hp17
              go_wp2
              go_roundg iq
              case measure => omega
              case rel => exact ⟨i + 1, next_i (by have := HIB.out; omega), ⟨by have := HI.out; omega⟩, ⟨⟨S', A', c', l', HM3.out, HR'.out⟩⟩⟩
            | succ pq =>
              have hp16 : p ≤ 16 := by have := HPI.out; omega
              have d16 : decide ((p : Int) ≤ 16) = true := decide_eq_true (by omega)
              have d16n : decide (p ≤ 16) = true := decide_eq_true hp16
              have k0 : wr.cell? ⟨h, 0, none⟩ = some (.int .i64 S'.q) := blk_cell HM3.out.2 0
              have k1 : wr.cell? ⟨h, 1, none⟩ = some (.slice A' l'.length c') := blk_cell HM3.out.2 1
              have HP16 := Aside0.mk hp16
              clear hp16
              go_wp2_with fail
              (with_reducible refine (find_ms HM3.out HR'.out (p : Int)).mono ?_)
              rintro e w6 ⟨A6, c6, rfl, hb6⟩
              have HM4 := Aside0.mk (HM3.out.step hb6)
              clear hb6 k0 k1
              go_wp2_with fail
              have HM5 := Aside0.mk (HM4.out.step (below_alloc (Below.refl _ _) (.cells #[.int .i64 (getQ l' (p : Int)).f0, .int .i64 (getQ l' (p : Int)).f1, .int .i64 (getQ l' (p : Int)).f2, .slice A6 (getQ l' (p : Int)).f3.length c6] 45 (0, 0))))
              have nb := blk_new w6 (.cells #[.int .i64 (getQ l' (p : Int)).f0, .int .i64 (getQ l' (p : Int)).f1, .int .i64 (getQ l' (p : Int)).f2, .slice A6 (getQ l' (p : Int)).f3.length c6] 45 (0, 0))
              generalize w6.alloc (.cells #[.int .i64 (getQ l' (p : Int)).f0, .int .i64 (getQ l' (p : Int)).f1, .int .i64 (getQ l' (p : Int)).f2, .slice A6 (getQ l' (p : Int)).f3.length c6] 45 (0, 0)) = W7 at HM5 nb ⊢
              generalize w6.heap.size = h7 at nb ⊢
              have HWT := Aside0.mk (waits_ms (HM5.out.step (Below.refl _ _).drew) HR'.out (p : Int))
              have HCT := Aside0.mk (fun (W8 : World) (hb : Below W7.drew.heap.size W7.drew W8) => credit_ms ((HM5.out.step (Below.refl _ _).drew).step hb) HR'.out (p : Int))
              generalize (getQ l' (p : Int)).f2 = f2 at nb HCT ⊢
              generalize (getQ l' (p : Int)).f3.length = m3 at nb HWT ⊢
              have z2 : W7.cell? ⟨h7, 2, none⟩ = some (.int .i64 f2) := blk_cell nb 2
              have z3 : W7.cell? ⟨h7, 3, none⟩ = some (.slice A6 m3 c6) := blk_cell nb 3
              clear nb
              refine start_ (n := 15) (S := fun w' => w'.cell? ⟨h7, 2, none⟩ = some (.int .i64 f2) ∧ w'.cell? ⟨h7, 3, none⟩ = some (.slice A6 m3 c6)) (ds := []) #[false, false, false, false, false, false, false, false, false, false, false, false, false, false, false] (by kernel_rfl) rfl rfl ⟨z2, z3⟩ (fun hHeld => ?_)
              refine pure_ (i := 0) (N := some 124) (v := ?_) (a' := ?_) #[true, false, false, false, false, false, false, false, false, false, false, false, false, false, false] rfl rfl (by kernel_rfl) (fun _ _ _ h => h) (Or.inl ⟨by rfl, ?_⟩) ?_ ?_
              rotate_left
              · intro w'
                go_simp
                with_reducible rfl
              rotate_left
              · simp only [Act.put, List.setIfInBounds_toArray, List.set_cons_zero, List.set_cons_succ, i64_w, i32_w]
                rfl
              refine pure_ (i := 1) (N := some 125) (v := ?_) (a' := ?_) #[true, true, false, false, false, false, false, false, false, false, false, false, false, false, false] rfl rfl (by kernel_rfl) (fun _ _ _ h => h) (Or.inl ⟨by rfl, ?_⟩) ?_ ?_
              rotate_left
              · intro w'
                go_simp
                with_reducible rfl
              rotate_left
              · simp only [Act.put, List.setIfInBounds_toArray, List.set_cons_zero, List.set_cons_succ, i64_w, i32_w]
                rfl
              refine pure_ (i := 3) (N := some 127) (v := ?_) (a' := ?_) #[true, true, false, true, false, false, false, false, false, false, false, false, false, false, false] rfl rfl (by kernel_rfl) (fun _ _ _ h => h) (Or.inl ⟨by rfl, ?_⟩) ?_ ?_
              rotate_left
              · intro w'
                go_simp
                with_reducible rfl
              rotate_left
              · simp only [Act.put, List.setIfInBounds_toArray, List.set_cons_zero, List.set_cons_succ, i64_w, i32_w]
                rfl
              refine take_ (i := 4) (N := some 128) (v := ?_) (a' := ?_) #[true, true, false, true, true, false, false, false, false, false, false, false, false, false, false] rfl rfl (by kernel_rfl) (fun _ _ _ h => h) (Or.inl ⟨by rfl, ?_⟩) hHeld ?_ ?_
              rotate_left
              · rintro w' ⟨s0, s1⟩
                go_simp
                with_reducible rfl
              rotate_left
              · simp only [Act.put, List.setIfInBounds_toArray, List.set_cons_zero, List.set_cons_succ, i64_w, i32_w]
                rfl
              refine pure_ (i := 5) (N := some 129) (v := ?_) (a' := ?_) #[true, true, false, true, true, true, false, false, false, false, false, false, false, false, false] rfl rfl (by kernel_rfl) (fun _ _ _ h => h) (Or.inl ⟨by rfl, ?_⟩) ?_ ?_
              rotate_left
              · intro w'
                go_simp
                with_reducible rfl
              rotate_left
              · simp only [Act.put, List.setIfInBounds_toArray, List.set_cons_zero, List.set_cons_succ, i64_w, i32_w]
                rfl
              refine one_ (i := 2) (N := some 126) #[true, true, true, true, true, true, false, false, false, false, false, false, false, false, false] rfl rfl (by kernel_rfl) (by decide) (fun K hK => ?_)
              refine goes_ Try.func20 (by kernel_rfl) rfl #[.pointer (some ⟨g, 0, none⟩), .int .i64 (p : Int)] (by rfl) rfl rfl (by (try simp only [List.map_toArray, List.map_cons, List.map_nil]); first | done | rfl) ?_
              with_reducible refine (HWT.out).mono ?_
              rintro e W8 ⟨rfl, h8⟩
              refine ⟨_, rfl, ?_⟩
              have HM8 := Aside0.mk ((HM5.out.step (Below.refl _ _).drew).step h8)
              have HCC := Aside0.mk (HCT.out W8 h8)
              have z4 := pw_cell_below h8 hHeld.1
              have z5 := pw_cell_below h8 hHeld.2
              clear h8
              refine hK.out _ _ ⟨z4, z5⟩ (fun hHeld => ?_)
              clear hK K
              refine norm_ (a' := ?_) ?_ ?_
              rotate_left
              · show Act.put _ (some 126) _ = _
                simp only [Act.put, List.setIfInBounds_toArray, List.set_cons_zero, List.set_cons_succ, i64_w, i32_w]
                rfl
              refine pure_ (i := 6) (N := some 130) (v := ?_) (a' := ?_) #[true, true, true, true, true, true, true, false, false, false, false, false, false, false, false] rfl rfl (by kernel_rfl) (fun _ _ _ h => h) (Or.inl ⟨by rfl, ?_⟩) ?_ ?_
              rotate_left
              · intro w'
                go_simp
                with_reducible rfl
              rotate_left
              · simp only [Act.put, List.setIfInBounds_toArray, List.set_cons_zero, List.set_cons_succ, i64_w, i32_w]
                rfl
              refine pure_ (i := 7) (N := some 131) (v := ?_) (a' := ?_) #[true, true, true, true, true, true, true, true, false, false, false, false, false, false, false] rfl rfl (by kernel_rfl) (fun _ _ _ h => h) (Or.inl ⟨by rfl, ?_⟩) ?_ ?_
              rotate_left
              · intro w'
                go_simp
                with_reducible rfl
              rotate_left
              · simp only [Act.put, List.setIfInBounds_toArray, List.set_cons_zero, List.set_cons_succ, i64_w, i32_w]
                rfl
              refine pure_ (i := 8) (N := some 132) (v := ?_) (a' := ?_) #[true, true, true, true, true, true, true, true, true, false, false, false, false, false, false] rfl rfl (by kernel_rfl) (fun _ _ _ h => h) (Or.inl ⟨by rfl, ?_⟩) ?_ ?_
              rotate_left
              · intro w'
                go_simp
                with_reducible rfl
              rotate_left
              · simp only [Act.put, List.setIfInBounds_toArray, List.set_cons_zero, List.set_cons_succ, i64_w, i32_w]
                rfl
              refine pure_ (i := 9) (N := some 133) (v := ?_) (a' := ?_) #[true, true, true, true, true, true, true, true, true, true, false, false, false, false, false] rfl rfl (by kernel_rfl) (fun _ _ _ h => h) (Or.inl ⟨by rfl, ?_⟩) ?_ ?_
              rotate_left
              · intro w'
                go_simp
                with_reducible rfl
              rotate_left
              · simp only [Act.put, List.setIfInBounds_toArray, List.set_cons_zero, List.set_cons_succ, i64_w, i32_w]
                rfl
              refine pure_ (i := 11) (N := some 135) (v := ?_) (a' := ?_) #[true, true, true, true, true, true, true, true, true, true, false, true, false, false, false] rfl rfl (by kernel_rfl) (fun _ _ _ h => h) (Or.inl ⟨by rfl, ?_⟩) ?_ ?_
              rotate_left
              · intro w'
                go_simp
                with_reducible rfl
              rotate_left
              · simp only [Act.put, List.setIfInBounds_toArray, List.set_cons_zero, List.set_cons_succ, i64_w, i32_w]
                rfl
              refine take_ (i := 12) (N := some 136) (v := ?_) (a' := ?_) #[true, true, true, true, true, true, true, true, true, true, false, true, true, false, false] rfl rfl (by kernel_rfl) (fun _ _ _ h => h) (Or.inl ⟨by rfl, ?_⟩) hHeld ?_ ?_
              rotate_left
              · rintro w' ⟨s0, s1⟩
                go_simp
                with_reducible rfl
              rotate_left
              · simp only [Act.put, List.setIfInBounds_toArray, List.set_cons_zero, List.set_cons_succ, i64_w, i32_w]
                rfl
              refine one_ (i := 10) (N := some 134) #[true, true, true, true, true, true, true, true, true, true, true, true, true, false, false] rfl rfl (by kernel_rfl) (by decide) (fun K hK => ?_)
              refine goes_ Try.func21 (by kernel_rfl) rfl #[.pointer (some ⟨g, 0, none⟩), .int .i64 (p : Int)] (by rfl) rfl rfl (by (try simp only [List.map_toArray, List.map_cons, List.map_nil]); first | done | rfl) ?_
              with_reducible refine (HCC.out).mono ?_
              rintro e W9 ⟨rfl, h9⟩
              refine ⟨_, rfl, ?_⟩
              have z6 := pw_cell_below h9 hHeld.1
              have z7 := pw_cell_below h9 hHeld.2
              refine hK.out _ _ ⟨z6, z7⟩ (fun hHeld => ?_)
              clear hK K
              refine norm_ (a' := ?_) ?_ ?_
              rotate_left
              · show Act.put _ (some 134) _ = _
                simp only [Act.put, List.setIfInBounds_toArray, List.set_cons_zero, List.set_cons_succ, i64_w, i32_w]
                rfl
              refine pure_ (i := 13) (N := some 137) (v := ?_) (a' := ?_) #[true, true, true, true, true, true, true, true, true, true, true, true, true, true, false] rfl rfl (by kernel_rfl) (fun _ _ _ h => h) (Or.inl ⟨by rfl, ?_⟩) ?_ ?_
              rotate_left
              · intro w'
                go_simp
                with_reducible rfl
              rotate_left
              · simp only [Act.put, List.setIfInBounds_toArray, List.set_cons_zero, List.set_cons_succ, i64_w, i32_w]
                rfl
              refine pure_ (i := 14) (N := some 138) (v := ?_) (a' := ?_) #[true, true, true, true, true, true, true, true, true, true, true, true, true, true, true] rfl rfl (by kernel_rfl) (fun _ _ _ h => h) (Or.inl ⟨by rfl, ?_⟩) ?_ ?_
              rotate_left
              · intro w'
                go_simp
                with_reducible rfl
              rotate_left
              · simp only [Act.put, List.setIfInBounds_toArray, List.set_cons_zero, List.set_cons_succ, i64_w, i32_w]
                rfl
              refine done_ (by kernel_rfl) ?_
              clear z2 z3 hHeld
              have HM9 := Aside0.mk (HM8.out.step h9)
              clear h9
              go_wp2_with fail
              go_roundg pq
              case measure => omega
              case rel => exact ⟨p + 1, next_i (by have := HP16.out; omega), ⟨by have := HPI.out; omega⟩, HM9⟩
        · have e1 : (kd == 1) = false := beq_eq_false_iff_ne.2 k1
          by_cases k2 : kd = 2
          · subst k2
            go_wp2_with fail
            (with_reducible refine (turnR_ms HM1.out HR.out).mono ?_)
            rintro e w3 ⟨A1, c1, l1, vL, rfl, hmv, hq, hrs, hb3⟩
            obtain ⟨A6, c6, rfl⟩ := sn_slice hq
            have HMV := Aside0.mk hmv
            have HQN := Aside0.mk hq
            have HRS := Aside0.mk hrs
            have bh := blk_below HM1.out.2 hb3
            have BH := Aside0.mk bh
            have zh := blk_lt bh
            have zhn : h ≠ w3.heap.size := Nat.ne_of_lt zh
            have v3 : w3.cell? ⟨h, 0, none⟩ = some (.int .i64 S.q) := blk_cell bh 0
            have v4 : w3.cell? ⟨h, 1, none⟩ = some (.slice A l.length c) := blk_cell bh 1
            have fh := fun j => blk_frozen bh j
            clear hmv hq hrs hb3 bh x0 x1 x2 y0 y1
            have HLH := Aside0.mk hlh
            go_wp2_with fail
            have HS2 := Aside0.mk (MV.store HMV.out BH.out)
            have HQ2 : Aside0 (Qsn ((w3.setCell ⟨h, 0, none⟩ (.int .i64 S.q)).setCell ⟨h, 1, none⟩ (.slice A1 l1.length c1)) (wr.alloc (.cells #[.int .i64 2, .int .i64 pe, .int .i64 n] 30 (0, 0))).heap.size (.slice A6 (turnTo S 16).2.1.length c6) (turnTo S 16).2.1) := ⟨by
                have hne : ∀ k, (Value.slice A6 (turnTo S 16).2.1.length c6).ownBlock = some k → k ≠ h := by
                  intro k hk e
                  have h1 := (q_typed HQN.out k hk).1
                  have h2 := HLH.out
                  rw [World.size_alloc] at h1
                  omega
                refine q_move (q_move HQN.out (fun k hk => Below.heap_setCell w3 ⟨h, 0, none⟩ _ k (fun e => hne k hk e))) (fun k hk => Below.heap_setCell _ ⟨h, 1, none⟩ _ k (fun e => hne k hk e))⟩
            have hsz : ((w3.setCell ⟨h, 0, none⟩ (.int .i64 S.q)).setCell ⟨h, 1, none⟩ (.slice A1 l1.length c1)).heap.size = w3.heap.size := by rw [World.size_setCell, World.size_setCell]
            generalize (w3.setCell ⟨h, 0, none⟩ (.int .i64 S.q)).setCell ⟨h, 1, none⟩ (.slice A1 l1.length c1) = W2 at HS2 HQ2 hsz ⊢
            clear v3 v4 fh
            have HX := Aside0.mk (ms_more (X' := fun i => (Value.slice A6 (turnTo S 16).2.1.length c6).ownBlock = some i ∨ i = W2.heap.size) HS2.out (below_alloc (Below.refl _ _) (.cells #[.int .i64 S.q, .slice A1 l1.length c1, .slice A6 (turnTo S 16).2.1.length c6, .int .i64 (tErr (turnTo S 16).2.2)] 37 (0, 0))) (fun i hi => by
                rcases hi with hi | hi
                · exact .inl (.inr hi)
                · exact .inr ⟨by omega, by rw [World.size_alloc]; omega⟩))
            (with_reducible refine (turn_ms HX.out).mono ?_)
            rintro e w4 ⟨A5, c5, rfl, h4, hsame, hq5⟩
            have b13 := hsame.blk (.inr rfl) (blk_new W2 _)
            have HQ4 : Aside0 (Qsn w4 (wr.alloc (.cells #[.int .i64 2, .int .i64 pe, .int .i64 n] 30 (0, 0))).heap.size (.slice A6 (turnTo S 16).2.1.length c6) (turnTo S 16).2.1) := Aside0.mk (q_move (q_move HQ2.out (fun k hk => Below.heap_alloc W2 _ k (q_lt HQ2.out k hk))) (fun k hk => hsame k (.inl hk)))
            have HQ5 := Aside0.mk hq5
            have H4 := Aside0.mk h4
            have B13 := Aside0.mk b13
            have t2 : w4.cell? ⟨W2.heap.size, 2, none⟩ = some (.slice A6 (turnTo S 16).2.1.length c6) := blk_cell b13 2
            have t3 : w4.cell? ⟨W2.heap.size, 3, none⟩ = some (.int .i64 (tErr (turnTo S 16).2.2)) := blk_cell b13 3
            rw [hsz] at t2 t3
            clear hsz
            have HLN : Aside0 ((turnTo S 16).2.1.length < 1000000) := ⟨by have := turnTo_long HM.out.1.fit 16 (Nat.le_refl _); omega⟩
            clear hsame hq5 h4 b13
            go_wp2_with fail
            (with_reducible refine (same_ms HQ5.out HQ4.out HLN.out).mono ?_)
            rintro e w5 ⟨rfl, hb5⟩
            have t4 := pw_cell_below hb5 t3
            have HZ : Aside0 (K0 w w5 B g h) := ⟨⟨_, _, _, _, ms_less (H4.out.step hb5), HRS.out⟩⟩
            clear t2 t3 hb5
            go_wp2_with fail
            clear t4
            obtain ⟨S', A', c', l', hm', hr'⟩ := HZ.out
            have HR' := Aside0.mk hr'
            have HMP := Aside0.mk hm'
            clear hm' hr'
            go_loopg [16] 17 (fun pq v16 w' => ∃ p : Nat, v16 = .int .i64 (p : Int) ∧ Aside0 (p + pq = 17) ∧ Aside0 (MS w w' B g h (fun _ => False) S' A' c' l'))
            case atStart => exact ⟨0, rfl, ⟨rfl⟩, HMP⟩
            case round =>
              obtain ⟨p, rfl, HPI, HM3⟩ := hrel
              clear HMP
              cases gk with
              | zero =>
                have hp17 : p = 17 := by have := HPI.out; omega
                subst hp17
                go_wp2
                go_roundg iq
                case measure => omega
                case rel => exact ⟨i + 1, next_i (by have := HIB.out; omega), ⟨by have := HI.out; omega⟩, ⟨⟨S', A', c', l', HM3.out, HR'.out⟩⟩⟩
              | succ pq =>
                have hp16 : p ≤ 16 := by have := HPI.out; omega
                have d16 : decide ((p : Int) ≤ 16) = true := decide_eq_true (by omega)
                have d16n : decide (p ≤ 16) = true := decide_eq_true hp16
                have k0 : wr.cell? ⟨h, 0, none⟩ = some (.int .i64 S'.q) := blk_cell HM3.out.2 0
                have k1 : wr.cell? ⟨h, 1, none⟩ = some (.slice A' l'.length c') := blk_cell HM3.out.2 1
                have HP16 := Aside0.mk hp16
                clear hp16
                go_wp2_with fail
                (with_reducible refine (find_ms HM3.out HR'.out (p : Int)).mono ?_)
                rintro e w6 ⟨A6, c6, rfl, hb6⟩
                have HM4 := Aside0.mk (HM3.out.step hb6)
                clear hb6 k0 k1
                go_wp2_with fail
                have HM5 := Aside0.mk (HM4.out.step (below_alloc (Below.refl _ _) (.cells #[.int .i64 (getQ l' (p : Int)).f0, .int .i64 (getQ l' (p : Int)).f1, .int .i64 (getQ l' (p : Int)).f2, .slice A6 (getQ l' (p : Int)).f3.length c6] 45 (0, 0))))
                have nb := blk_new w6 (.cells #[.int .i64 (getQ l' (p : Int)).f0, .int .i64 (getQ l' (p : Int)).f1, .int .i64 (getQ l' (p : Int)).f2, .slice A6 (getQ l' (p : Int)).f3.length c6] 45 (0, 0))
                generalize w6.alloc (.cells #[.int .i64 (getQ l' (p : Int)).f0, .int .i64 (getQ l' (p : Int)).f1, .int .i64 (getQ l' (p : Int)).f2, .slice A6 (getQ l' (p : Int)).f3.length c6] 45 (0, 0)) = W7 at HM5 nb ⊢
                generalize w6.heap.size = h7 at nb ⊢
                have HWT := Aside0.mk (waits_ms (HM5.out.step (Below.refl _ _).drew) HR'.out (p : Int))
                have HCT := Aside0.mk (fun (W8 : World) (hb : Below W7.drew.heap.size W7.drew W8) => credit_ms ((HM5.out.step (Below.refl _ _).drew).step hb) HR'.out (p : Int))
                generalize (getQ l' (p : Int)).f2 = f2 at nb HCT ⊢
                generalize (getQ l' (p : Int)).f3.length = m3 at nb HWT ⊢
                have z2 : W7.cell? ⟨h7, 2, none⟩ = some (.int .i64 f2) := blk_cell nb 2
                have z3 : W7.cell? ⟨h7, 3, none⟩ = some (.slice A6 m3 c6) := blk_cell nb 3
                clear nb
                refine start_ (n := 15) (S := fun w' => w'.cell? ⟨h7, 2, none⟩ = some (.int .i64 f2) ∧ w'.cell? ⟨h7, 3, none⟩ = some (.slice A6 m3 c6)) (ds := []) #[false, false, false, false, false, false, false, false, false, false, false, false, false, false, false] (by kernel_rfl) rfl rfl ⟨z2, z3⟩ (fun hHeld => ?_)
                refine pure_ (i := 0) (N := some 124) (v := ?_) (a' := ?_) #[true, false, false, false, false, false, false, false, false, false, false, false, false, false, false] rfl rfl (by kernel_rfl) (fun _ _ _ h => h) (Or.inl ⟨by rfl, ?_⟩) ?_ ?_
                rotate_left
                · intro w'
                  go_simp
                  with_reducible rfl
                rotate_left
                · simp only [Act.put, List.setIfInBounds_toArray, List.set_cons_zero, List.set_cons_succ, i64_w, i32_w]
                  rfl
                refine pure_ (i := 1) (N := some 125) (v := ?_) (a' := ?_) #[true, true, false, false, false, false, false, false, false, false, false, false, false, false, false] rfl rfl (by kernel_rfl) (fun _ _ _ h => h) (Or.inl ⟨by rfl, ?_⟩) ?_ ?_
                rotate_left
                · intro w'
                  go_simp
                  with_reducible rfl
                rotate_left
                · simp only [Act.put, List.setIfInBounds_toArray, List.set_cons_zero, List.set_cons_succ, i64_w, i32_w]
                  rfl
                refine pure_ (i := 3) (N := some 127) (v := ?_) (a' := ?_) #[true, true, false, true, false, false, false, false, false, false, false, false, false, false, false] rfl rfl (by kernel_rfl) (fun _ _ _ h => h) (Or.inl ⟨by rfl, ?_⟩) ?_ ?_
                rotate_left
                · intro w'
                  go_simp
                  with_reducible rfl
                rotate_left
                · simp only [Act.put, List.setIfInBounds_toArray, List.set_cons_zero, List.set_cons_succ, i64_w, i32_w]
                  rfl
                refine take_ (i := 4) (N := some 128) (v := ?_) (a' := ?_) #[true, true, false, true, true, false, false, false, false, false, false, false, false, false, false] rfl rfl (by kernel_rfl) (fun _ _ _ h => h) (Or.inl ⟨by rfl, ?_⟩) hHeld ?_ ?_
                rotate_left
                · rintro w' ⟨s0, s1⟩
                  go_simp
                  with_reducible rfl
                rotate_left
                · simp only [Act.put, List.setIfInBounds_toArray, List.set_cons_zero, List.set_cons_succ, i64_w, i32_w]
                  rfl
                refine pure_ (i := 5) (N := some 129) (v := ?_) (a' := ?_) #[true, true, false, true, true, true, false, false, false, false, false, false, false, false, false] rfl rfl (by kernel_rfl) (fun _ _ _ h => h) (Or.inl ⟨by rfl, ?_⟩) ?_ ?_
                rotate_left
                · intro w'
                  go_simp
                  with_reducible rfl
                rotate_left
                · simp only [Act.put, List.setIfInBounds_toArray, List.set_cons_zero, List.set_cons_succ, i64_w, i32_w]
                  rfl
                refine one_ (i := 2) (N := some 126) #[true, true, true, true, true, true, false, false, false, false, false, false, false, false, false] rfl rfl (by kernel_rfl) (by decide) (fun K hK => ?_)
                refine goes_ Try.func20 (by kernel_rfl) rfl #[.pointer (some ⟨g, 0, none⟩), .int .i64 (p : Int)] (by rfl) rfl rfl (by (try simp only [List.map_toArray, List.map_cons, List.map_nil]); first | done | rfl) ?_
                with_reducible refine (HWT.out).mono ?_
                rintro e W8 ⟨rfl, h8⟩
                refine ⟨_, rfl, ?_⟩
                have HM8 := Aside0.mk ((HM5.out.step (Below.refl _ _).drew).step h8)
                have HCC := Aside0.mk (HCT.out W8 h8)
                have z4 := pw_cell_below h8 hHeld.1
                have z5 := pw_cell_below h8 hHeld.2
                clear h8
                refine hK.out _ _ ⟨z4, z5⟩ (fun hHeld => ?_)
                clear hK K
                refine norm_ (a' := ?_) ?_ ?_
                rotate_left
                · show Act.put _ (some 126) _ = _
                  simp only [Act.put, List.setIfInBounds_toArray, List.set_cons_zero, List.set_cons_succ, i64_w, i32_w]
                  rfl
                refine pure_ (i := 6) (N := some 130) (v := ?_) (a' := ?_) #[true, true, true, true, true, true, true, false, false, false, false, false, false, false, false] rfl rfl (by kernel_rfl) (fun _ _ _ h => h) (Or.inl ⟨by rfl, ?_⟩) ?_ ?_
                rotate_left
                · intro w'
                  go_simp
                  with_reducible rfl
                rotate_left
                · simp only [Act.put, List.setIfInBounds_toArray, List.set_cons_zero, List.set_cons_succ, i64_w, i32_w]
                  rfl
                refine pure_ (i := 7) (N := some 131) (v := ?_) (a' := ?_) #[true, true, true, true, true, true, true, true, false, false, false, false, false, false, false] rfl rfl (by kernel_rfl) (fun _ _ _ h => h) (Or.inl ⟨by rfl, ?_⟩) ?_ ?_
                rotate_left
                · intro w'
                  go_simp
                  with_reducible rfl
                rotate_left
                · simp only [Act.put, List.setIfInBounds_toArray, List.set_cons_zero, List.set_cons_succ, i64_w, i32_w]
                  rfl
                refine pure_ (i := 8) (N := some 132) (v := ?_) (a' := ?_) #[true, true, true, true, true, true, true, true, true, false, false, false, false, false, false] rfl rfl (by kernel_rfl) (fun _ _ _ h => h) (Or.inl ⟨by rfl, ?_⟩) ?_ ?_
                rotate_left
                · intro w'
                  go_simp
                  with_reducible rfl
                rotate_left
                · simp only [Act.put, List.setIfInBounds_toArray, List.set_cons_zero, List.set_cons_succ, i64_w, i32_w]
                  rfl
                refine pure_ (i := 9) (N := some 133) (v := ?_) (a' := ?_) #[true, true, true, true, true, true, true, true, true, true, false, false, false, false, false] rfl rfl (by kernel_rfl) (fun _ _ _ h => h) (Or.inl ⟨by rfl, ?_⟩) ?_ ?_
                rotate_left
                · intro w'
                  go_simp
                  with_reducible rfl
                rotate_left
                · simp only [Act.put, List.setIfInBounds_toArray, List.set_cons_zero, List.set_cons_succ, i64_w, i32_w]
                  rfl
                refine pure_ (i := 11) (N := some 135) (v := ?_) (a' := ?_) #[true, true, true, true, true, true, true, true, true, true, false, true, false, false, false] rfl rfl (by kernel_rfl) (fun _ _ _ h => h) (Or.inl ⟨by rfl, ?_⟩) ?_ ?_
                rotate_left
                · intro w'
                  go_simp
                  with_reducible rfl
                rotate_left
                · simp only [Act.put, List.setIfInBounds_toArray, List.set_cons_zero, List.set_cons_succ, i64_w, i32_w]
                  rfl
                refine take_ (i := 12) (N := some 136) (v := ?_) (a' := ?_) #[true, true, true, true, true, true, true, true, true, true, false, true, true, false, false] rfl rfl (by kernel_rfl) (fun _ _ _ h => h) (Or.inl ⟨by rfl, ?_⟩) hHeld ?_ ?_
                rotate_left
                · rintro w' ⟨s0, s1⟩
                  go_simp
                  with_reducible rfl
                rotate_left
                · simp only [Act.put, List.setIfInBounds_toArray, List.set_cons_zero, List.set_cons_succ, i64_w, i32_w]
                  rfl
                refine one_ (i := 10) (N := some 134) #[true, true, true, true, true, true, true, true, true, true, true, true, true, false, false] rfl rfl (by kernel_rfl) (by decide) (fun K hK => ?_)
                refine goes_ Try.func21 (by kernel_rfl) rfl #[.pointer (some ⟨g, 0, none⟩), .int .i64 (p : Int)] (by rfl) rfl rfl (by (try simp only [List.map_toArray, List.map_cons, List.map_nil]); first | done | rfl) ?_
                with_reducible refine (HCC.out).mono ?_
                rintro e W9 ⟨rfl, h9⟩
                refine ⟨_, rfl, ?_⟩
                have z6 := pw_cell_below h9 hHeld.1
                have z7 := pw_cell_below h9 hHeld.2
                refine hK.out _ _ ⟨z6, z7⟩ (fun hHeld => ?_)
                clear hK K
                refine norm_ (a' := ?_) ?_ ?_
                rotate_left
                · show Act.put _ (some 134) _ = _
                  simp only [Act.put, List.setIfInBounds_toArray, List.set_cons_zero, List.set_cons_succ, i64_w, i32_w]
                  rfl
                refine pure_ (i := 13) (N := some 137) (v := ?_) (a' := ?_) #[true, true, true, true, true, true, true, true, true, true, true, true, true, true, false] rfl rfl (by kernel_rfl) (fun _ _ _ h => h) (Or.inl ⟨by rfl, ?_⟩) ?_ ?_
                rotate_left
                · intro w'
                  go_simp
                  with_reducible rfl
                rotate_left
                · simp only [Act.put, List.setIfInBounds_toArray, List.set_cons_zero, List.set_cons_succ, i64_w, i32_w]
                  rfl
                refine pure_ (i := 14) (N := some 138) (v := ?_) (a' := ?_) #[true, true, true, true, true, true, true, true, true, true, true, true, true, true, true] rfl rfl (by kernel_rfl) (fun _ _ _ h => h) (Or.inl ⟨by rfl, ?_⟩) ?_ ?_
                rotate_left
                · intro w'
                  go_simp
                  with_reducible rfl
                rotate_left
                · simp only [Act.put, List.setIfInBounds_toArray, List.set_cons_zero, List.set_cons_succ, i64_w, i32_w]
                  rfl
                refine done_ (by kernel_rfl) ?_
                clear z2 z3 hHeld
                have HM9 := Aside0.mk (HM8.out.step h9)
                clear h9
                go_wp2_with fail
                go_roundg pq
                case measure => omega
                case rel => exact ⟨p + 1, next_i (by have := HP16.out; omega), ⟨by have := HPI.out; omega⟩, HM9⟩
          · have e2 : (kd == 2) = false := beq_eq_false_iff_ne.2 k2
            clear k0 k1 k2
            go_wp2_with fail
            have HZ : Aside0 (K0 w (wr.alloc (.cells #[.int .i64 kd, .int .i64 pe, .int .i64 n] 30 (0, 0))) B g h) := ⟨⟨S, A, c, l, HM1.out, HR.out⟩⟩
            clear x0 x1 x2 y0 y1
            obtain ⟨S', A', c', l', hm', hr'⟩ := HZ.out
            have HR' := Aside0.mk hr'
            have HMP := Aside0.mk hm'
            clear hm' hr'
            go_loopg [16] 17 (fun pq v16 w' => ∃ p : Nat, v16 = .int .i64 (p : Int) ∧ Aside0 (p + pq = 17) ∧ Aside0 (MS w w' B g h (fun _ => False) S' A' c' l'))
            case atStart => exact ⟨0, rfl, ⟨rfl⟩, HMP⟩
            case round =>
              obtain ⟨p, rfl, HPI, HM3⟩ := hrel
              clear HMP
              cases gk with
              | zero =>
                have hp17 : p = 17 := by have := HPI.out; omega
                subst hp17
                go_wp2
                go_roundg iq
                case measure => omega
                case rel => exact ⟨i + 1, next_i (by have := HIB.out; omega), ⟨by have := HI.out; omega⟩, ⟨⟨S', A', c', l', HM3.out, HR'.out⟩⟩⟩
              | succ pq =>
                have hp16 : p ≤ 16 := by have := HPI.out; omega
                have d16 : decide ((p : Int) ≤ 16) = true := decide_eq_true (by omega)
                have d16n : decide (p ≤ 16) = true := decide_eq_true hp16
                have k0 : wr.cell? ⟨h, 0, none⟩ = some (.int .i64 S'.q) := blk_cell HM3.out.2 0
                have k1 : wr.cell? ⟨h, 1, none⟩ = some (.slice A' l'.length c') := blk_cell HM3.out.2 1
                have HP16 := Aside0.mk hp16
                clear hp16
                go_wp2_with fail
                (with_reducible refine (find_ms HM3.out HR'.out (p : Int)).mono ?_)
                rintro e w6 ⟨A6, c6, rfl, hb6⟩
                have HM4 := Aside0.mk (HM3.out.step hb6)
                clear hb6 k0 k1
                go_wp2_with fail
                have HM5 := Aside0.mk (HM4.out.step (below_alloc (Below.refl _ _) (.cells #[.int .i64 (getQ l' (p : Int)).f0, .int .i64 (getQ l' (p : Int)).f1, .int .i64 (getQ l' (p : Int)).f2, .slice A6 (getQ l' (p : Int)).f3.length c6] 45 (0, 0))))
                have nb := blk_new w6 (.cells #[.int .i64 (getQ l' (p : Int)).f0, .int .i64 (getQ l' (p : Int)).f1, .int .i64 (getQ l' (p : Int)).f2, .slice A6 (getQ l' (p : Int)).f3.length c6] 45 (0, 0))
                generalize w6.alloc (.cells #[.int .i64 (getQ l' (p : Int)).f0, .int .i64 (getQ l' (p : Int)).f1, .int .i64 (getQ l' (p : Int)).f2, .slice A6 (getQ l' (p : Int)).f3.length c6] 45 (0, 0)) = W7 at HM5 nb ⊢
                generalize w6.heap.size = h7 at nb ⊢
                have HWT := Aside0.mk (waits_ms (HM5.out.step (Below.refl _ _).drew) HR'.out (p : Int))
                have HCT := Aside0.mk (fun (W8 : World) (hb : Below W7.drew.heap.size W7.drew W8) => credit_ms ((HM5.out.step (Below.refl _ _).drew).step hb) HR'.out (p : Int))
                generalize (getQ l' (p : Int)).f2 = f2 at nb HCT ⊢
                generalize (getQ l' (p : Int)).f3.length = m3 at nb HWT ⊢
                have z2 : W7.cell? ⟨h7, 2, none⟩ = some (.int .i64 f2) := blk_cell nb 2
                have z3 : W7.cell? ⟨h7, 3, none⟩ = some (.slice A6 m3 c6) := blk_cell nb 3
                clear nb
                refine start_ (n := 15) (S := fun w' => w'.cell? ⟨h7, 2, none⟩ = some (.int .i64 f2) ∧ w'.cell? ⟨h7, 3, none⟩ = some (.slice A6 m3 c6)) (ds := []) #[false, false, false, false, false, false, false, false, false, false, false, false, false, false, false] (by kernel_rfl) rfl rfl ⟨z2, z3⟩ (fun hHeld => ?_)
                refine pure_ (i := 0) (N := some 124) (v := ?_) (a' := ?_) #[true, false, false, false, false, false, false, false, false, false, false, false, false, false, false] rfl rfl (by kernel_rfl) (fun _ _ _ h => h) (Or.inl ⟨by rfl, ?_⟩) ?_ ?_
                rotate_left
                · intro w'
                  go_simp
                  with_reducible rfl
                rotate_left
                · simp only [Act.put, List.setIfInBounds_toArray, List.set_cons_zero, List.set_cons_succ, i64_w, i32_w]
                  rfl
                refine pure_ (i := 1) (N := some 125) (v := ?_) (a' := ?_) #[true, true, false, false, false, false, false, false, false, false, false, false, false, false, false] rfl rfl (by kernel_rfl) (fun _ _ _ h => h) (Or.inl ⟨by rfl, ?_⟩) ?_ ?_
                rotate_left
                · intro w'
                  go_simp
                  with_reducible rfl
                rotate_left
                · simp only [Act.put, List.setIfInBounds_toArray, List.set_cons_zero, List.set_cons_succ, i64_w, i32_w]
                  rfl
                refine pure_ (i := 3) (N := some 127) (v := ?_) (a' := ?_) #[true, true, false, true, false, false, false, false, false, false, false, false, false, false, false] rfl rfl (by kernel_rfl) (fun _ _ _ h => h) (Or.inl ⟨by rfl, ?_⟩) ?_ ?_
                rotate_left
                · intro w'
                  go_simp
                  with_reducible rfl
                rotate_left
                · simp only [Act.put, List.setIfInBounds_toArray, List.set_cons_zero, List.set_cons_succ, i64_w, i32_w]
                  rfl
                refine take_ (i := 4) (N := some 128) (v := ?_) (a' := ?_) #[true, true, false, true, true, false, false, false, false, false, false, false, false, false, false] rfl rfl (by kernel_rfl) (fun _ _ _ h => h) (Or.inl ⟨by rfl, ?_⟩) hHeld ?_ ?_
                rotate_left
                · rintro w' ⟨s0, s1⟩
                  go_simp
                  with_reducible rfl
                rotate_left
                · simp only [Act.put, List.setIfInBounds_toArray, List.set_cons_zero, List.set_cons_succ, i64_w, i32_w]
                  rfl
                refine pure_ (i := 5) (N := some 129) (v := ?_) (a' := ?_) #[true, true, false, true, true, true, false, false, false, false, false, false, false, false, false] rfl rfl (by kernel_rfl) (fun _ _ _ h => h) (Or.inl ⟨by rfl, ?_⟩) ?_ ?_
                rotate_left
                · intro w'
                  go_simp
                  with_reducible rfl
                rotate_left
                · simp only [Act.put, List.setIfInBounds_toArray, List.set_cons_zero, List.set_cons_succ, i64_w, i32_w]
                  rfl
                refine one_ (i := 2) (N := some 126) #[true, true, true, true, true, true, false, false, false, false, false, false, false, false, false] rfl rfl (by kernel_rfl) (by decide) (fun K hK => ?_)
                refine goes_ Try.func20 (by kernel_rfl) rfl #[.pointer (some ⟨g, 0, none⟩), .int .i64 (p : Int)] (by rfl) rfl rfl (by (try simp only [List.map_toArray, List.map_cons, List.map_nil]); first | done | rfl) ?_
                with_reducible refine (HWT.out).mono ?_
                rintro e W8 ⟨rfl, h8⟩
                refine ⟨_, rfl, ?_⟩
                have HM8 := Aside0.mk ((HM5.out.step (Below.refl _ _).drew).step h8)
                have HCC := Aside0.mk (HCT.out W8 h8)
                have z4 := pw_cell_below h8 hHeld.1
                have z5 := pw_cell_below h8 hHeld.2
                clear h8
                refine hK.out _ _ ⟨z4, z5⟩ (fun hHeld => ?_)
                clear hK K
                refine norm_ (a' := ?_) ?_ ?_
                rotate_left
                · show Act.put _ (some 126) _ = _
                  simp only [Act.put, List.setIfInBounds_toArray, List.set_cons_zero, List.set_cons_succ, i64_w, i32_w]
                  rfl
                refine pure_ (i := 6) (N := some 130) (v := ?_) (a' := ?_) #[true, true, true, true, true, true, true, false, false, false, false, false, false, false, false] rfl rfl (by kernel_rfl) (fun _ _ _ h => h) (Or.inl ⟨by rfl, ?_⟩) ?_ ?_
                rotate_left
                · intro w'
                  go_simp
                  with_reducible rfl
                rotate_left
                · simp only [Act.put, List.setIfInBounds_toArray, List.set_cons_zero, List.set_cons_succ, i64_w, i32_w]
                  rfl
                refine pure_ (i := 7) (N := some 131) (v := ?_) (a' := ?_) #[true, true, true, true, true, true, true, true, false, false, false, false, false, false, false] rfl rfl (by kernel_rfl) (fun _ _ _ h => h) (Or.inl ⟨by rfl, ?_⟩) ?_ ?_
                rotate_left
                · intro w'
                  go_simp
                  with_reducible rfl
                rotate_left
                · simp only [Act.put, List.setIfInBounds_toArray, List.set_cons_zero, List.set_cons_succ, i64_w, i32_w]
                  rfl
                refine pure_ (i := 8) (N := some 132) (v := ?_) (a' := ?_) #[true, true, true, true, true, true, true, true, true, false, false, false, false, false, false] rfl rfl (by kernel_rfl) (fun _ _ _ h => h) (Or.inl ⟨by rfl, ?_⟩) ?_ ?_
                rotate_left
                · intro w'
                  go_simp
                  with_reducible rfl
                rotate_left
                · simp only [Act.put, List.setIfInBounds_toArray, List.set_cons_zero, List.set_cons_succ, i64_w, i32_w]
                  rfl
                refine pure_ (i := 9) (N := some 133) (v := ?_) (a' := ?_) #[true, true, true, true, true, true, true, true, true, true, false, false, false, false, false] rfl rfl (by kernel_rfl) (fun _ _ _ h => h) (Or.inl ⟨by rfl, ?_⟩) ?_ ?_
                rotate_left
                · intro w'
                  go_simp
                  with_reducible rfl
                rotate_left
                · simp only [Act.put, List.setIfInBounds_toArray, List.set_cons_zero, List.set_cons_succ, i64_w, i32_w]
                  rfl
                refine pure_ (i := 11) (N := some 135) (v := ?_) (a' := ?_) #[true, true, true, true, true, true, true, true, true, true, false, true, false, false, false] rfl rfl (by kernel_rfl) (fun _ _ _ h => h) (Or.inl ⟨by rfl, ?_⟩) ?_ ?_
                rotate_left
                · intro w'
                  go_simp
                  with_reducible rfl
                rotate_left
                · simp only [Act.put, List.setIfInBounds_toArray, List.set_cons_zero, List.set_cons_succ, i64_w, i32_w]
                  rfl
                refine take_ (i := 12) (N := some 136) (v := ?_) (a' := ?_) #[true, true, true, true, true, true, true, true, true, true, false, true, true, false, false] rfl rfl (by kernel_rfl) (fun _ _ _ h => h) (Or.inl ⟨by rfl, ?_⟩) hHeld ?_ ?_
                rotate_left
                · rintro w' ⟨s0, s1⟩
                  go_simp
                  with_reducible rfl
                rotate_left
                · simp only [Act.put, List.setIfInBounds_toArray, List.set_cons_zero, List.set_cons_succ, i64_w, i32_w]
                  rfl
                refine one_ (i := 10) (N := some 134) #[true, true, true, true, true, true, true, true, true, true, true, true, true, false, false] rfl rfl (by kernel_rfl) (by decide) (fun K hK => ?_)
                refine goes_ Try.func21 (by kernel_rfl) rfl #[.pointer (some ⟨g, 0, none⟩), .int .i64 (p : Int)] (by rfl) rfl rfl (by (try simp only [List.map_toArray, List.map_cons, List.map_nil]); first | done | rfl) ?_
                with_reducible refine (HCC.out).mono ?_
                rintro e W9 ⟨rfl, h9⟩
                refine ⟨_, rfl, ?_⟩
                have z6 := pw_cell_below h9 hHeld.1
                have z7 := pw_cell_below h9 hHeld.2
                refine hK.out _ _ ⟨z6, z7⟩ (fun hHeld => ?_)
                clear hK K
                refine norm_ (a' := ?_) ?_ ?_
                rotate_left
                · show Act.put _ (some 134) _ = _
                  simp only [Act.put, List.setIfInBounds_toArray, List.set_cons_zero, List.set_cons_succ, i64_w, i32_w]
                  rfl
                refine pure_ (i := 13) (N := some 137) (v := ?_) (a' := ?_) #[true, true, true, true, true, true, true, true, true, true, true, true, true, true, false] rfl rfl (by kernel_rfl) (fun _ _ _ h => h) (Or.inl ⟨by rfl, ?_⟩) ?_ ?_
                rotate_left
                · intro w'
                  go_simp
                  with_reducible rfl
                rotate_left
                · simp only [Act.put, List.setIfInBounds_toArray, List.set_cons_zero, List.set_cons_succ, i64_w, i32_w]
                  rfl
                refine pure_ (i := 14) (N := some 138) (v := ?_) (a' := ?_) #[true, true, true, true, true, true, true, true, true, true, true, true, true, true, true] rfl rfl (by kernel_rfl) (fun _ _ _ h => h) (Or.inl ⟨by rfl, ?_⟩) ?_ ?_
                rotate_left
                · intro w'
                  go_simp
                  with_reducible rfl
                rotate_left
                · simp only [Act.put, List.setIfInBounds_toArray, List.set_cons_zero, List.set_cons_succ, i64_w, i32_w]
                  rfl
                refine done_ (by kernel_rfl) ?_
                clear z2 z3 hHeld
                have HM9 := Aside0.mk (HM8.out.step h9)
                clear h9
                go_wp2_with fail
                go_roundg pq
                case measure => omega
                case rel => exact ⟨p + 1, next_i (by have := HP16.out; omega), ⟨by have := HPI.out; omega⟩, HM9⟩
    · by_cases hlt : i < ls.length
      · have hlb : decide (i < ls.length) = true := decide_eq_true hlt
        have h80 : decide ((i : Int) < 80) = false := decide_eq_false (by omega)
        have h80n : decide (i < 80) = false := decide_eq_false (by omega)
        clear hx hlt
        go_wp2
        go_ret
        exact ⟨rfl, HM.out.1.bel⟩
      · have hlb : decide (i < ls.length) = false := decide_eq_false hlt
        clear hx hlt
        go_wp2
        go_ret
        exact ⟨rfl, HM.out.1.bel⟩
end Go.Proofs.Ytigcgdamipeidaa.Rf
