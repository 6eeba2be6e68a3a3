/- The law MeterGives, walked. -/
import Derived.Test.YtigcgdamipeidaaBkE
import Derived.Outline
namespace Go.Proofs.Ytigcgdamipeidaa.Bkt
open Go.RowKit Go.Proofs.YtigcgdamipeidaaW.PrintWords Go.Proofs.YtigcgdamipeidaaW.PrintLast Go.Proofs.YtigcgdamipeidaaW.PrintMore Go.Proofs.Ytigcgdamipeidaa Go.Proofs.Ytigcgdamipeidaa.Q Go.Proofs.Ytigcgdamipeidaa.Shr Go.Proofs.Ytigcgdamipeidaa.Args
set_option linter.unusedVariables false
set_option linter.unusedSimpArgs false
set_option maxHeartbeats 8000000
set_option maxRecDepth 100000
theorem add_next (a : Addr) (m j : Nat) : a.add (m + (j + 1)) = ⟨(a.add m).block, (a.add m).off + (j + 1), none⟩ := by
  unfold Addr.add
  rw [if_neg (by omega)]
  split
  · rename_i h
    subst h
    simp
  · simp only [Addr.mk.injEq, true_and, and_true]
    omega
theorem next_i {i : Nat} (h : i ≤ 40000) : Value.int .i64 (wrap64 ((i : Int) + 1)) = Value.int .i64 ((i + 1 : Nat) : Int) := by
  congr 1
  unfold wrap64
  omega
theorem tk_ok {s l n : Int} (h : takeE s l n = 0) : (0 ≤ n ∧ n ≤ l) ∧ takeL s l n = l - n := by
  unfold takeE at h
  unfold takeL
  split at h
  · omega
  · split at h
    · omega
    · split at h
      · omega
      · rename_i c1 c2 c3
        rw [if_neg c1, if_neg c2, if_neg c3]
        exact ⟨by omega, rfl⟩
theorem tk_no {s l n e : Int} (h : takeE s l n = e) (he : e ≠ 0) : takeL s l n = l := by
  unfold takeE at h
  unfold takeL
  split at h
  · rename_i c1
    rw [if_pos c1]
  · split at h
    · rename_i c1 c2
      rw [if_neg c1, if_pos c2]
    · split at h
      · rename_i c1 c2 c3
        rw [if_neg c1, if_neg c2, if_pos c3]
      · omega

theorem gives_yes {r s : Int} (hr : 1 ≤ r ∧ r ≤ 65536) (hs : 1 ≤ s ∧ s ≤ 65536) (A : Option Addr) (c : Nat) (ls : List (Int × Int)) (w : World) (hp : Pairs w A ls) :
    Calls Try.prog 8 #[.int .i64 r, .int .i64 s, .slice A ls.length c] w fun e w' => e = .returned (.bool true) ∧ Below w.heap.size w w' := by
  have HR := Aside0.mk hr
  have HS := Aside0.mk hs
  have HP := Aside0.mk hp
  clear hr hs hp
  go_enter Try.func8, Try.ntmps8
  go_wp2_with (first
    | (go_at_call 24; (with_reducible refine (bnew_yes HR.out HS.out _).mono ?_); rintro e w1 ⟨g, rfl, hg, hb, hw⟩; have HG := Aside0.mk hg; have HB := Aside0.mk hb; have HW := Aside0.mk hw; clear hg hb hw)
    | (go_at_call 11; (with_reducible refine (awake_ _).mono ?_); rintro e w2 ⟨rfl, ha⟩; have HA := Aside0.mk ha; clear ha))
  have h0 : GR w w2 g r s 0 s 0 := by
    have hs := HS.out
    exact ⟨s, ⟨below_step HW.out HA.out, blk_below HB.out HA.out, ⟨HR.out, HS.out, ⟨by omega, Int.le_refl _⟩⟩, HG.out⟩, by omega, by omega, by omega⟩
  have H0 := Aside0.mk h0
  clear h0
  go_loopg [8, 9, 10] 40 (fun kq v8 v9 v10 w' => ∃ (i : Nat) (gv may : Int), v8 = .int .i64 gv ∧ v9 = .int .i64 may ∧ v10 = .int .i64 (i : Int) ∧ Aside0 (i + kq = 40) ∧ Aside0 (GR w w' g r s gv may i))
  case atStart => exact ⟨0, 0, s, rfl, rfl, rfl, ⟨rfl⟩, H0⟩
  case round =>
    obtain ⟨i, gv, may, rfl, rfl, rfl, HI, HR1⟩ := hrel
    obtain ⟨l, hgs, hg0, hg1, hg2⟩ := HR1.out
    clear H0
    have HX0 := Aside0.mk hgs
    have HGV0 : Aside0 (0 ≤ gv ∧ gv + l ≤ may ∧ may ≤ 65536 * (i + 1)) := ⟨⟨hg0, hg1, hg2⟩⟩
    have HIB : Aside0 (i ≤ 40) := ⟨by have := HI.out; omega⟩
    clear hg0 hg1 hg2 HR1
    by_cases hlt : i < ls.length
    · have hlb : decide (i < ls.length) = true := decide_eq_true hlt
      cases gk with
      | zero =>
        have hi : i = 40 := by have := HI.out; omega
        have h40 : decide ((i : Int) < 40) = false := decide_eq_false (by omega)
        have h40n : decide (i < 40) = false := decide_eq_false (by omega)
        clear hi hlt hgs
        go_wp2
        go_ret
        exact ⟨rfl, HX0.out.bel⟩
      | succ kq =>
        have hi : i < 40 := by have := HI.out; omega
        have h40 : decide ((i : Int) < 40) = true := decide_eq_true (by omega)
        have h40n : decide (i < 40) = true := decide_eq_true (by omega)
        obtain ⟨a, rfl, hk0, hn0⟩ := HP.out i ls[i] (List.getElem?_eq_getElem hlt)
        generalize ls[i] = x at hk0 hn0
        obtain ⟨kd, n⟩ := x
        rw [add_next a (i * 2) 0] at hn0
        have CK := Aside0.mk hk0
        have CN := Aside0.mk hn0
        have nr := hgs.cell CN.out
        have kr := hgs.cell CK.out
        clear hk0 hn0 hgs hi
        by_cases k0 : kd = 0
        · subst k0
          go_wp2_with fail
          (with_reducible refine (tick_gs HX0.out).mono ?_)
          rintro e X ⟨rfl, hx⟩
          have HX := Aside0.mk hx
          have kx := hx.cell CK.out
          have nx := hx.cell CN.out
          clear hx kr nr
          have HGV : Aside0 (0 ≤ gv ∧ gv + mn (l + r) s ≤ may + r ∧ may + r ≤ 65536 * (i + 2)) := ⟨by have h1 := HGV0.out; have h2 := HX0.out.fit.rb; refine ⟨h1.1, ?_, by omega⟩; unfold mn; split <;> omega⟩
          have sw : wrap64 (may + r) = may + r := by have h1 := HGV.out; have h2 := HX0.out.fit; have h3 := h2.rb; have h4 := h2.lb; have h5 := HIB.out; have h6 := HGV0.out; unfold wrap64; omega
          have cG : decide (((may + r)) < (gv)) = false := decide_eq_false (by have := HGV.out; have := HX.out.fit.lb; omega)
          have cL : decide ((mn (l + r) s) < 0) = false := decide_eq_false (by have := HX.out.fit.lb; omega)
          have cS : decide (s < (mn (l + r) s)) = false := decide_eq_false (by have := HX.out.fit.lb; omega)
          go_wp2_with fail
          (with_reducible refine (level_gs HX.out).mono ?_)
          rintro e Xa ⟨rfl, ha⟩
          have HXa := Aside0.mk ha
          clear ha
          go_wp2_with fail
          (with_reducible refine (level_gs HXa.out).mono ?_)
          rintro e Xb ⟨rfl, hb⟩
          have HXb := Aside0.mk hb
          have nb := hb.cell CN.out
          clear hb
          go_wp2_with fail
          (with_reducible refine (wait_gs HXb.out n).mono ?_)
          rintro e Xc ⟨rfl, hc⟩
          have HXc := Aside0.mk hc
          have nc := hc.cell CN.out
          clear hc nb
          obtain ⟨kw, hkw⟩ : ∃ x, waitN r s (mn (l + r) s) n = x := ⟨_, rfl⟩
          rw [hkw]
          have HKW := Aside0.mk hkw
          clear hkw
          by_cases cw : kw < 0
          · have cb : decide (kw < 0) = true := decide_eq_true cw
            clear cw
            go_wp2
            go_roundg kq
            case measure => omega
            case rel => exact ⟨i + 1, gv, (may + r), rfl, rfl, next_i (by have := HIB.out; omega), ⟨by have := HI.out; omega⟩, ⟨⟨mn (l + r) s, HXc.out, by have := HGV.out; omega, by have := HGV.out; omega, by have := HGV.out; omega⟩⟩⟩
          · have cb : decide (kw < 0) = false := decide_eq_false cw
            by_cases cv : 300 < kw
            · have cd : decide (300 < kw) = true := decide_eq_true cv
              clear cw cv
              go_wp2
              go_roundg kq
              case measure => omega
              case rel => exact ⟨i + 1, gv, (may + r), rfl, rfl, next_i (by have := HIB.out; omega), ⟨by have := HI.out; omega⟩, ⟨⟨mn (l + r) s, HXc.out, by have := HGV.out; omega, by have := HGV.out; omega, by have := HGV.out; omega⟩⟩⟩
            · have cd : decide (300 < kw) = false := decide_eq_false cv
              obtain ⟨m, rfl⟩ : ∃ m : Nat, kw = m := ⟨kw.toNat, by omega⟩
              have HM := Aside0.mk (show m ≤ 300 by omega)
              clear cw cv
              go_wp2_with fail
              (with_reducible refine (new_gc HXc.out).mono ?_)
              rintro e Xd ⟨gc, rfl, hd⟩
              have HXd := Aside0.mk hd
              clear hd nc
              go_wp2_with fail
              (with_reducible refine (level_gc HXd.out).mono ?_)
              rintro e Xe ⟨rfl, he⟩
              have HXe := Aside0.mk he
              clear he
              have sb : IntKind.i64.wrap (s - (mn (l + r) s)) = s - (mn (l + r) s) := (i64_w _).trans (by have := HX.out.fit.lb; have := HX.out.fit.sb; unfold wrap64; omega)
              have sb2 : wrap64 (s - (mn (l + r) s)) = s - (mn (l + r) s) := (i64_w _).symm.trans sb
              go_wp2_with fail
              (with_reducible refine (takec_rest HXe.out).mono ?_)
              rintro e Xf ⟨rfl, hf⟩
              have HJ0 : Aside0 (GJ w Xf g gc r s (mn (l + r) s) n m) := ⟨⟨_, hf, HKW.out⟩⟩
              clear hf sb sb2
              go_wp2
              go_loopg [13] m (fun jq v13 w' => ∃ j : Nat, v13 = .int .i64 (j : Int) ∧ Aside0 (j + jq = m) ∧ Aside0 (GJ w w' g gc r s (mn (l + r) s) n jq))
              case atStart => exact ⟨0, rfl, ⟨by omega⟩, HJ0⟩
              case round =>
                obtain ⟨j, rfl, HJI, HJJ⟩ := hrel
                obtain ⟨lc, hj, hw⟩ := HJJ.out
                have hn := hj.cell CN.out
                have HJS := Aside0.mk hj
                have HJW := Aside0.mk hw
                have hm0 := HM.out
                have hji := HJI.out
                clear hj hw HJ0
                cases gk with
                | zero =>
                  obtain rfl : j = m := by omega
                  have cj : decide ((j : Int) < (j : Int)) = false := decide_eq_false (by omega)
                  have cjn : decide (j < j) = false := decide_eq_false (by omega)
                  clear hm0 hji HJI
                  have hz := waitN_zero HJS.out.fitc HJW.out
                  by_cases c0 : 0 ≤ n
                  · have cn : decide (0 ≤ n) = true := decide_eq_true c0
                    have HZE := Aside0.mk hz
                    clear hz
                    go_wp2_with fail
                    (with_reducible refine (takec_ok HJS.out c0 HZE.out).mono ?_)
                    rintro e Xg ⟨rfl, hg⟩
                    have HXg := Aside0.mk hg
                    clear hg c0 hn
                    go_wp2
                    go_roundg kq
                    case measure => omega
                    case rel => exact ⟨i + 1, gv, (may + r), rfl, rfl, next_i (by have := HIB.out; omega), ⟨by have := HI.out; omega⟩, ⟨⟨mn (l + r) s, HXg.out.gs, by have := HGV.out; omega, by have := HGV.out; omega, by have := HGV.out; omega⟩⟩⟩
                  · have cn : decide (0 ≤ n) = false := decide_eq_false c0
                    clear hz c0
                    go_wp2
                    go_roundg kq
                    case measure => omega
                    case rel => exact ⟨i + 1, gv, (may + r), rfl, rfl, next_i (by have := HIB.out; omega), ⟨by have := HI.out; omega⟩, ⟨⟨mn (l + r) s, HJS.out.gs, by have := HGV.out; omega, by have := HGV.out; omega, by have := HGV.out; omega⟩⟩⟩
                | succ jk =>
                  have cj : decide ((j : Int) < (m : Int)) = true := decide_eq_true (by omega)
                  have cjn : decide (j < m) = true := decide_eq_true (by omega)
                  clear hm0 hji
                  obtain ⟨hl1, hl2, hl3⟩ := waitN_pos HJS.out.fitc (by rw [HJW.out]; omega)
                  rw [HJW.out] at hl3
                  have HL3 := Aside0.mk hl3
                  have cl : decide (n ≤ lc) = false := decide_eq_false (by omega)
                  clear hl1 hl2 hl3
                  obtain ⟨Wq, hWq⟩ : ∃ W : World, W = wr := ⟨_, rfl⟩
                  subst hWq
                  have HCn := Aside0.mk hn
                  have HLn := Aside0.mk (World.block_lt_of_cell? Wq _ hn)
                  have HJd : Aside0 (GC w Wq.drew g gc r s (mn (l + r) s) lc) := ⟨HJS.out.step (Below.refl _ _).drew⟩
                  clear hn
                  go_wp2
                  by_cases c0 : 0 ≤ n
                  · have cn : decide (0 ≤ n) = true := decide_eq_true c0
                    clear c0
                    refine start_ (n := 16) (S := fun w' => Below Wq.heap.size Wq w') (ds := []) #[false, false, false, false, false, false, false, false, false, false, false, false, false, false, false, false] (by kernel_rfl) rfl rfl ((Below.refl _ _).drew) (fun hHeld => ?_)
                    refine pure_ (i := 0) (N := some 127) (v := ?_) (a' := ?_) #[true, false, false, false, false, false, false, false, false, false, false, false, false, false, false, false] rfl rfl (by kernel_rfl) (fun _ _ _ h => h) (Or.inl ⟨by rfl, ?_⟩) ?_ ?_
                    rotate_left
                    · intro w'
                      go_simp
                      with_reducible rfl
                    rotate_left
                    · simp only [Act.put, List.setIfInBounds_toArray, List.set_cons_zero, List.set_cons_succ, i64_w, i32_w]
                      rfl
                    refine pure_ (i := 1) (N := some 128) (v := ?_) (a' := ?_) #[true, true, false, false, false, false, false, false, false, false, false, false, false, false, false, false] rfl rfl (by kernel_rfl) (fun _ _ _ h => h) (Or.inl ⟨by rfl, ?_⟩) ?_ ?_
                    rotate_left
                    · intro w'
                      go_simp
                      with_reducible rfl
                    rotate_left
                    · simp only [Act.put, List.setIfInBounds_toArray, List.set_cons_zero, List.set_cons_succ, i64_w, i32_w]
                      rfl
                    refine pure_ (i := 2) (N := some 129) (v := ?_) (a' := ?_) #[true, true, true, false, false, false, false, false, false, false, false, false, false, false, false, false] rfl rfl (by kernel_rfl) (fun _ _ _ h => h) (Or.inl ⟨by rfl, ?_⟩) ?_ ?_
                    rotate_left
                    · intro w'
                      go_simp
                      with_reducible rfl
                    rotate_left
                    · simp only [Act.put, List.setIfInBounds_toArray, List.set_cons_zero, List.set_cons_succ, i64_w, i32_w]
                      rfl
                    refine pure_ (i := 3) (N := some 130) (v := ?_) (a' := ?_) #[true, true, true, true, false, false, false, false, false, false, false, false, false, false, false, false] rfl rfl (by kernel_rfl) (fun _ _ _ h => h) (Or.inl ⟨by rfl, ?_⟩) ?_ ?_
                    rotate_left
                    · intro w'
                      go_simp
                      with_reducible rfl
                    rotate_left
                    · simp only [Act.put, List.setIfInBounds_toArray, List.set_cons_zero, List.set_cons_succ, i64_w, i32_w]
                      rfl
                    refine take_ (i := 4) (N := some 131) (v := ?_) (a' := ?_) #[true, true, true, true, true, false, false, false, false, false, false, false, false, false, false, false] rfl rfl (by kernel_rfl) (fun _ _ _ h => h) (Or.inl ⟨by rfl, ?_⟩) hHeld ?_ ?_
                    rotate_left
                    · intro w' s0; have q3 := (s0.cell (p := ⟨(a.add (i * 2)).block, (a.add (i * 2)).off + (0 + 1), none⟩) HLn.out).trans HCn.out
                      go_simp
                      with_reducible rfl
                    rotate_left
                    · simp only [Act.put, List.setIfInBounds_toArray, List.set_cons_zero, List.set_cons_succ, i64_w, i32_w]
                      rfl
                    refine pure_ (i := 5) (N := some 132) (v := ?_) (a' := ?_) #[true, true, true, true, true, true, false, false, false, false, false, false, false, false, false, false] rfl rfl (by kernel_rfl) (fun _ _ _ h => h) (Or.inl ⟨by rfl, ?_⟩) ?_ ?_
                    rotate_left
                    · intro w'
                      go_simp
                      with_reducible rfl
                    rotate_left
                    · simp only [Act.put, List.setIfInBounds_toArray, List.set_cons_zero, List.set_cons_succ, i64_w, i32_w]
                      rfl
                    refine pure_ (i := 6) (N := some 133) (v := ?_) (a' := ?_) #[true, true, true, true, true, true, true, false, false, false, false, false, false, false, false, false] rfl rfl (by kernel_rfl) (fun _ _ _ h => h) (Or.inl ⟨by rfl, ?_⟩) ?_ ?_
                    rotate_left
                    · intro w'
                      go_simp
                      with_reducible rfl
                    rotate_left
                    · simp only [Act.put, List.setIfInBounds_toArray, List.set_cons_zero, List.set_cons_succ, i64_w, i32_w]
                      rfl
                    refine pure_ (i := 7) (N := some 134) (v := ?_) (a' := ?_) #[true, true, true, true, true, true, true, true, false, false, false, false, false, false, false, false] rfl rfl (by kernel_rfl) (fun _ _ _ h => h) (Or.inl ⟨by rfl, ?_⟩) ?_ ?_
                    rotate_left
                    · intro w'
                      go_simp
                      with_reducible rfl
                    rotate_left
                    · simp only [Act.put, List.setIfInBounds_toArray, List.set_cons_zero, List.set_cons_succ, i64_w, i32_w]
                      rfl
                    refine pure_ (i := 9) (N := some 136) (v := ?_) (a' := ?_) #[true, true, true, true, true, true, true, true, false, true, false, false, false, false, false, false] rfl rfl (by kernel_rfl) (fun _ _ _ h => h) (Or.inl ⟨by rfl, ?_⟩) ?_ ?_
                    rotate_left
                    · intro w'
                      go_simp
                      with_reducible rfl
                    rotate_left
                    · simp only [Act.put, List.setIfInBounds_toArray, List.set_cons_zero, List.set_cons_succ, i64_w, i32_w]
                      rfl
                    refine pure_ (i := 10) (N := some 137) (v := ?_) (a' := ?_) #[true, true, true, true, true, true, true, true, false, true, true, false, false, false, false, false] rfl rfl (by kernel_rfl) (fun _ _ _ h => h) (Or.inl ⟨by rfl, ?_⟩) ?_ ?_
                    rotate_left
                    · intro w'
                      go_simp
                      with_reducible rfl
                    rotate_left
                    · simp only [Act.put, List.setIfInBounds_toArray, List.set_cons_zero, List.set_cons_succ, i64_w, i32_w]
                      rfl
                    refine pure_ (i := 11) (N := some 138) (v := ?_) (a' := ?_) #[true, true, true, true, true, true, true, true, false, true, true, true, false, false, false, false] rfl rfl (by kernel_rfl) (fun _ _ _ h => h) (Or.inl ⟨by rfl, ?_⟩) ?_ ?_
                    rotate_left
                    · intro w'
                      go_simp
                      with_reducible rfl
                    rotate_left
                    · simp only [Act.put, List.setIfInBounds_toArray, List.set_cons_zero, List.set_cons_succ, i64_w, i32_w]
                      rfl
                    refine pure_ (i := 12) (N := some 139) (v := ?_) (a' := ?_) #[true, true, true, true, true, true, true, true, false, true, true, true, true, false, false, false] rfl rfl (by kernel_rfl) (fun _ _ _ h => h) (Or.inl ⟨by rfl, ?_⟩) ?_ ?_
                    rotate_left
                    · intro w'
                      go_simp
                      with_reducible rfl
                    rotate_left
                    · simp only [Act.put, List.setIfInBounds_toArray, List.set_cons_zero, List.set_cons_succ, i64_w, i32_w]
                      rfl
                    refine take_ (i := 13) (N := some 140) (v := ?_) (a' := ?_) #[true, true, true, true, true, true, true, true, false, true, true, true, true, true, false, false] rfl rfl (by kernel_rfl) (fun _ _ _ h => h) (Or.inl ⟨by rfl, ?_⟩) hHeld ?_ ?_
                    rotate_left
                    · intro w' s0; have q3 := (s0.cell (p := ⟨(a.add (i * 2)).block, (a.add (i * 2)).off + (0 + 1), none⟩) HLn.out).trans HCn.out
                      go_simp
                      with_reducible rfl
                    rotate_left
                    · simp only [Act.put, List.setIfInBounds_toArray, List.set_cons_zero, List.set_cons_succ, i64_w, i32_w]
                      rfl
                    refine one_ (i := 8) (N := some 135) #[true, true, true, true, true, true, true, true, true, true, true, true, true, true, false, false] rfl rfl (by kernel_rfl) (by decide) (fun K hK => ?_)
                    refine goes_ Try.func31 (by kernel_rfl) rfl #[.pointer (some ⟨gc, 0, none⟩)] (by rfl) rfl rfl (by (try simp only [List.map_toArray, List.map_cons, List.map_nil]); first | done | rfl) ?_
                    with_reducible refine (levelc_gc HJd.out).mono ?_
                    rintro e Wr ⟨rfl, hr⟩
                    refine ⟨_, rfl, ?_⟩
                    have HXr := Aside0.mk hr.1
                    replace hHeld := below_step hHeld hr.2
                    clear hr
                    refine hK.out _ _ (hHeld) (fun hHeld => ?_)
                    clear hK K
                    refine norm_ (a' := ?_) ?_ ?_
                    rotate_left
                    · show Act.put _ (some 135) _ = _
                      simp only [Act.put, List.setIfInBounds_toArray, List.set_cons_zero, List.set_cons_succ, i64_w, i32_w]
                      rfl
                    refine pure_ (i := 14) (N := some 141) (v := ?_) (a' := ?_) #[true, true, true, true, true, true, true, true, true, true, true, true, true, true, true, false] rfl rfl (by kernel_rfl) (fun _ _ _ h => h) (Or.inl ⟨by rfl, ?_⟩) ?_ ?_
                    rotate_left
                    · intro w'
                      go_simp
                      with_reducible rfl
                    rotate_left
                    · simp only [Act.put, List.setIfInBounds_toArray, List.set_cons_zero, List.set_cons_succ, i64_w, i32_w]
                      rfl
                    refine pure_ (i := 15) (N := some 142) (v := ?_) (a' := ?_) #[true, true, true, true, true, true, true, true, true, true, true, true, true, true, true, true] rfl rfl (by kernel_rfl) (fun _ _ _ h => h) (Or.inl ⟨by rfl, ?_⟩) ?_ ?_
                    rotate_left
                    · intro w'
                      go_simp
                      with_reducible rfl
                    rotate_left
                    · simp only [Act.put, List.setIfInBounds_toArray, List.set_cons_zero, List.set_cons_succ, i64_w, i32_w]
                      rfl
                    refine done_ (by kernel_rfl) ?_
                    have HJ1 := HXr
                    clear HXr
                    go_wp2_with fail
                    (with_reducible refine (tickc_gc HJ1.out).mono ?_)
                    rintro e Wt ⟨rfl, ht⟩
                    have HT := Aside0.mk ht
                    clear ht
                    go_wp2
                    go_roundg jk
                    case measure => omega
                    case rel => exact ⟨j + 1, next_i (by have := HJI.out; have := HM.out; omega), ⟨by have := HJI.out; omega⟩, ⟨⟨_, HT.out, by rw [HL3.out]; omega⟩⟩⟩
                  · have cn : decide (0 ≤ n) = false := decide_eq_false c0
                    clear c0
                    refine start_ (n := 16) (S := fun w' => Below Wq.heap.size Wq w') (ds := []) #[false, false, false, false, false, false, false, false, false, false, false, false, false, false, false, false] (by kernel_rfl) rfl rfl ((Below.refl _ _).drew) (fun hHeld => ?_)
                    refine pure_ (i := 0) (N := some 127) (v := ?_) (a' := ?_) #[true, false, false, false, false, false, false, false, false, false, false, false, false, false, false, false] rfl rfl (by kernel_rfl) (fun _ _ _ h => h) (Or.inl ⟨by rfl, ?_⟩) ?_ ?_
                    rotate_left
                    · intro w'
                      go_simp
                      with_reducible rfl
                    rotate_left
                    · simp only [Act.put, List.setIfInBounds_toArray, List.set_cons_zero, List.set_cons_succ, i64_w, i32_w]
                      rfl
                    refine pure_ (i := 1) (N := some 128) (v := ?_) (a' := ?_) #[true, true, false, false, false, false, false, false, false, false, false, false, false, false, false, false] rfl rfl (by kernel_rfl) (fun _ _ _ h => h) (Or.inl ⟨by rfl, ?_⟩) ?_ ?_
                    rotate_left
                    · intro w'
                      go_simp
                      with_reducible rfl
                    rotate_left
                    · simp only [Act.put, List.setIfInBounds_toArray, List.set_cons_zero, List.set_cons_succ, i64_w, i32_w]
                      rfl
                    refine pure_ (i := 2) (N := some 129) (v := ?_) (a' := ?_) #[true, true, true, false, false, false, false, false, false, false, false, false, false, false, false, false] rfl rfl (by kernel_rfl) (fun _ _ _ h => h) (Or.inl ⟨by rfl, ?_⟩) ?_ ?_
                    rotate_left
                    · intro w'
                      go_simp
                      with_reducible rfl
                    rotate_left
                    · simp only [Act.put, List.setIfInBounds_toArray, List.set_cons_zero, List.set_cons_succ, i64_w, i32_w]
                      rfl
                    refine pure_ (i := 3) (N := some 130) (v := ?_) (a' := ?_) #[true, true, true, true, false, false, false, false, false, false, false, false, false, false, false, false] rfl rfl (by kernel_rfl) (fun _ _ _ h => h) (Or.inl ⟨by rfl, ?_⟩) ?_ ?_
                    rotate_left
                    · intro w'
                      go_simp
                      with_reducible rfl
                    rotate_left
                    · simp only [Act.put, List.setIfInBounds_toArray, List.set_cons_zero, List.set_cons_succ, i64_w, i32_w]
                      rfl
                    refine take_ (i := 4) (N := some 131) (v := ?_) (a' := ?_) #[true, true, true, true, true, false, false, false, false, false, false, false, false, false, false, false] rfl rfl (by kernel_rfl) (fun _ _ _ h => h) (Or.inl ⟨by rfl, ?_⟩) hHeld ?_ ?_
                    rotate_left
                    · intro w' s0; have q3 := (s0.cell (p := ⟨(a.add (i * 2)).block, (a.add (i * 2)).off + (0 + 1), none⟩) HLn.out).trans HCn.out
                      go_simp
                      with_reducible rfl
                    rotate_left
                    · simp only [Act.put, List.setIfInBounds_toArray, List.set_cons_zero, List.set_cons_succ, i64_w, i32_w]
                      rfl
                    refine pure_ (i := 5) (N := some 132) (v := ?_) (a' := ?_) #[true, true, true, true, true, true, false, false, false, false, false, false, false, false, false, false] rfl rfl (by kernel_rfl) (fun _ _ _ h => h) (Or.inl ⟨by rfl, ?_⟩) ?_ ?_
                    rotate_left
                    · intro w'
                      go_simp
                      with_reducible rfl
                    rotate_left
                    · simp only [Act.put, List.setIfInBounds_toArray, List.set_cons_zero, List.set_cons_succ, i64_w, i32_w]
                      rfl
                    refine pure_ (i := 6) (N := some 133) (v := ?_) (a' := ?_) #[true, true, true, true, true, true, true, false, false, false, false, false, false, false, false, false] rfl rfl (by kernel_rfl) (fun _ _ _ h => h) (Or.inl ⟨by rfl, ?_⟩) ?_ ?_
                    rotate_left
                    · intro w'
                      go_simp
                      with_reducible rfl
                    rotate_left
                    · simp only [Act.put, List.setIfInBounds_toArray, List.set_cons_zero, List.set_cons_succ, i64_w, i32_w]
                      rfl
                    refine pure_ (i := 7) (N := some 134) (v := undef) (a' := ?_) #[true, true, true, true, true, true, true, true, false, false, false, false, false, false, false, false] rfl rfl (by kernel_rfl) (fun _ _ _ h => h) (Or.inr ⟨by rfl, rfl⟩) ?_ ?_
                    rotate_left
                    · simp only [Act.put, List.setIfInBounds_toArray, List.set_cons_zero, List.set_cons_succ, i64_w, i32_w]
                      rfl
                    refine pure_ (i := 8) (N := some 135) (v := undef) (a' := ?_) #[true, true, true, true, true, true, true, true, true, false, false, false, false, false, false, false] rfl rfl (by kernel_rfl) (fun _ _ _ h => h) (Or.inr ⟨by rfl, rfl⟩) ?_ ?_
                    rotate_left
                    · simp only [Act.put, List.setIfInBounds_toArray, List.set_cons_zero, List.set_cons_succ, i64_w, i32_w]
                      rfl
                    refine pure_ (i := 9) (N := some 136) (v := undef) (a' := ?_) #[true, true, true, true, true, true, true, true, true, true, false, false, false, false, false, false] rfl rfl (by kernel_rfl) (fun _ _ _ h => h) (Or.inr ⟨by rfl, rfl⟩) ?_ ?_
                    rotate_left
                    · simp only [Act.put, List.setIfInBounds_toArray, List.set_cons_zero, List.set_cons_succ, i64_w, i32_w]
                      rfl
                    refine pure_ (i := 10) (N := some 137) (v := undef) (a' := ?_) #[true, true, true, true, true, true, true, true, true, true, true, false, false, false, false, false] rfl rfl (by kernel_rfl) (fun _ _ _ h => h) (Or.inr ⟨by rfl, rfl⟩) ?_ ?_
                    rotate_left
                    · simp only [Act.put, List.setIfInBounds_toArray, List.set_cons_zero, List.set_cons_succ, i64_w, i32_w]
                      rfl
                    refine pure_ (i := 11) (N := some 138) (v := undef) (a' := ?_) #[true, true, true, true, true, true, true, true, true, true, true, true, false, false, false, false] rfl rfl (by kernel_rfl) (fun _ _ _ h => h) (Or.inr ⟨by rfl, rfl⟩) ?_ ?_
                    rotate_left
                    · simp only [Act.put, List.setIfInBounds_toArray, List.set_cons_zero, List.set_cons_succ, i64_w, i32_w]
                      rfl
                    refine pure_ (i := 12) (N := some 139) (v := undef) (a' := ?_) #[true, true, true, true, true, true, true, true, true, true, true, true, true, false, false, false] rfl rfl (by kernel_rfl) (fun _ _ _ h => h) (Or.inr ⟨by rfl, rfl⟩) ?_ ?_
                    rotate_left
                    · simp only [Act.put, List.setIfInBounds_toArray, List.set_cons_zero, List.set_cons_succ, i64_w, i32_w]
                      rfl
                    refine pure_ (i := 13) (N := some 140) (v := undef) (a' := ?_) #[true, true, true, true, true, true, true, true, true, true, true, true, true, true, false, false] rfl rfl (by kernel_rfl) (fun _ _ _ h => h) (Or.inr ⟨by rfl, rfl⟩) ?_ ?_
                    rotate_left
                    · simp only [Act.put, List.setIfInBounds_toArray, List.set_cons_zero, List.set_cons_succ, i64_w, i32_w]
                      rfl
                    refine pure_ (i := 14) (N := some 141) (v := undef) (a' := ?_) #[true, true, true, true, true, true, true, true, true, true, true, true, true, true, true, false] rfl rfl (by kernel_rfl) (fun _ _ _ h => h) (Or.inr ⟨by rfl, rfl⟩) ?_ ?_
                    rotate_left
                    · simp only [Act.put, List.setIfInBounds_toArray, List.set_cons_zero, List.set_cons_succ, i64_w, i32_w]
                      rfl
                    refine pure_ (i := 15) (N := some 142) (v := ?_) (a' := ?_) #[true, true, true, true, true, true, true, true, true, true, true, true, true, true, true, true] rfl rfl (by kernel_rfl) (fun _ _ _ h => h) (Or.inl ⟨by rfl, ?_⟩) ?_ ?_
                    rotate_left
                    · intro w'
                      go_simp
                      with_reducible rfl
                    rotate_left
                    · simp only [Act.put, List.setIfInBounds_toArray, List.set_cons_zero, List.set_cons_succ, i64_w, i32_w]
                      rfl
                    refine done_ (by kernel_rfl) ?_
                    have HJ1 := HJd
                    go_wp2_with fail
                    (with_reducible refine (tickc_gc HJ1.out).mono ?_)
                    rintro e Wt ⟨rfl, ht⟩
                    have HT := Aside0.mk ht
                    clear ht
                    go_wp2
                    go_roundg jk
                    case measure => omega
                    case rel => exact ⟨j + 1, next_i (by have := HJI.out; have := HM.out; omega), ⟨by have := HJI.out; omega⟩, ⟨⟨_, HT.out, by rw [HL3.out]; omega⟩⟩⟩
        · have e0 : (kd == 0) = false := beq_eq_false_iff_ne.2 k0
          by_cases k1 : kd = 1
          · subst k1
            clear k0 e0
            obtain ⟨te, hte⟩ : ∃ x, takeE s l n = x := ⟨_, rfl⟩
            have HTE := Aside0.mk hte
            clear hte
            by_cases ct : te = 0
            · subst ct
              go_wp2_with fail
              (with_reducible refine (take_gs HX0.out n).mono ?_)
              rintro e X ⟨rfl, hx⟩
              rw [HTE.out]
              have htk := tk_ok HTE.out
              rw [htk.2] at hx
              have HX := Aside0.mk hx
              have nx := hx.cell CN.out
              have HN0 := Aside0.mk htk.1
              clear hx kr nr htk
              have HGV : Aside0 (0 ≤ gv + n ∧ gv + n + (l - n) ≤ may ∧ may ≤ 65536 * (i + 2)) := ⟨by have h1 := HGV0.out; have h2 := HN0.out; omega⟩
              have sw : wrap64 (gv + n) = gv + n := by have h1 := HGV0.out; have h3 := HN0.out; have h5 := HIB.out; unfold wrap64; omega
              have cG : decide ((may) < ((gv + n))) = false := decide_eq_false (by have := HGV.out; have := HX.out.fit.lb; omega)
              have cL : decide ((l - n) < 0) = false := decide_eq_false (by have := HX.out.fit.lb; omega)
              have cS : decide (s < (l - n)) = false := decide_eq_false (by have := HX.out.fit.lb; omega)
              go_wp2_with fail
              (with_reducible refine (level_gs HX.out).mono ?_)
              rintro e Xa ⟨rfl, ha⟩
              have HXa := Aside0.mk ha
              clear ha
              go_wp2_with fail
              (with_reducible refine (level_gs HXa.out).mono ?_)
              rintro e Xb ⟨rfl, hb⟩
              have HXb := Aside0.mk hb
              have nb := hb.cell CN.out
              clear hb
              go_wp2_with fail
              (with_reducible refine (wait_gs HXb.out n).mono ?_)
              rintro e Xc ⟨rfl, hc⟩
              have HXc := Aside0.mk hc
              have nc := hc.cell CN.out
              clear hc nb
              obtain ⟨kw, hkw⟩ : ∃ x, waitN r s (l - n) n = x := ⟨_, rfl⟩
              rw [hkw]
              have HKW := Aside0.mk hkw
              clear hkw
              by_cases cw : kw < 0
              · have cb : decide (kw < 0) = true := decide_eq_true cw
                clear cw
                go_wp2
                go_roundg kq
                case measure => omega
                case rel => exact ⟨i + 1, (gv + n), may, rfl, rfl, next_i (by have := HIB.out; omega), ⟨by have := HI.out; omega⟩, ⟨⟨l - n, HXc.out, by have := HGV.out; omega, by have := HGV.out; omega, by have := HGV.out; omega⟩⟩⟩
              · have cb : decide (kw < 0) = false := decide_eq_false cw
                by_cases cv : 300 < kw
                · have cd : decide (300 < kw) = true := decide_eq_true cv
                  clear cw cv
                  go_wp2
                  go_roundg kq
                  case measure => omega
                  case rel => exact ⟨i + 1, (gv + n), may, rfl, rfl, next_i (by have := HIB.out; omega), ⟨by have := HI.out; omega⟩, ⟨⟨l - n, HXc.out, by have := HGV.out; omega, by have := HGV.out; omega, by have := HGV.out; omega⟩⟩⟩
                · have cd : decide (300 < kw) = false := decide_eq_false cv
                  obtain ⟨m, rfl⟩ : ∃ m : Nat, kw = m := ⟨kw.toNat, by omega⟩
                  have HM := Aside0.mk (show m ≤ 300 by omega)
                  clear cw cv
                  go_wp2_with fail
                  (with_reducible refine (new_gc HXc.out).mono ?_)
                  rintro e Xd ⟨gc, rfl, hd⟩
                  have HXd := Aside0.mk hd
                  clear hd nc
                  go_wp2_with fail
                  (with_reducible refine (level_gc HXd.out).mono ?_)
                  rintro e Xe ⟨rfl, he⟩
                  have HXe := Aside0.mk he
                  clear he
                  have sb : IntKind.i64.wrap (s - (l - n)) = s - (l - n) := (i64_w _).trans (by have := HX.out.fit.lb; have := HX.out.fit.sb; unfold wrap64; omega)
                  have sb2 : wrap64 (s - (l - n)) = s - (l - n) := (i64_w _).symm.trans sb
                  go_wp2_with fail
                  (with_reducible refine (takec_rest HXe.out).mono ?_)
                  rintro e Xf ⟨rfl, hf⟩
                  have HJ0 : Aside0 (GJ w Xf g gc r s (l - n) n m) := ⟨⟨_, hf, HKW.out⟩⟩
                  clear hf sb sb2
                  go_wp2
                  go_loopg [13] m (fun jq v13 w' => ∃ j : Nat, v13 = .int .i64 (j : Int) ∧ Aside0 (j + jq = m) ∧ Aside0 (GJ w w' g gc r s (l - n) n jq))
                  case atStart => exact ⟨0, rfl, ⟨by omega⟩, HJ0⟩
                  case round =>
                    obtain ⟨j, rfl, HJI, HJJ⟩ := hrel
                    obtain ⟨lc, hj, hw⟩ := HJJ.out
                    have hn := hj.cell CN.out
                    have HJS := Aside0.mk hj
                    have HJW := Aside0.mk hw
                    have hm0 := HM.out
                    have hji := HJI.out
                    clear hj hw HJ0
                    cases gk with
                    | zero =>
                      obtain rfl : j = m := by omega
                      have cj : decide ((j : Int) < (j : Int)) = false := decide_eq_false (by omega)
                      have cjn : decide (j < j) = false := decide_eq_false (by omega)
                      clear hm0 hji HJI
                      have hz := waitN_zero HJS.out.fitc HJW.out
                      by_cases c0 : 0 ≤ n
                      · have cn : decide (0 ≤ n) = true := decide_eq_true c0
                        have HZE := Aside0.mk hz
                        clear hz
                        go_wp2_with fail
                        (with_reducible refine (takec_ok HJS.out c0 HZE.out).mono ?_)
                        rintro e Xg ⟨rfl, hg⟩
                        have HXg := Aside0.mk hg
                        clear hg c0 hn
                        go_wp2
                        go_roundg kq
                        case measure => omega
                        case rel => exact ⟨i + 1, (gv + n), may, rfl, rfl, next_i (by have := HIB.out; omega), ⟨by have := HI.out; omega⟩, ⟨⟨l - n, HXg.out.gs, by have := HGV.out; omega, by have := HGV.out; omega, by have := HGV.out; omega⟩⟩⟩
                      · have cn : decide (0 ≤ n) = false := decide_eq_false c0
                        clear hz c0
                        go_wp2
                        go_roundg kq
                        case measure => omega
                        case rel => exact ⟨i + 1, (gv + n), may, rfl, rfl, next_i (by have := HIB.out; omega), ⟨by have := HI.out; omega⟩, ⟨⟨l - n, HJS.out.gs, by have := HGV.out; omega, by have := HGV.out; omega, by have := HGV.out; omega⟩⟩⟩
                    | succ jk =>
                      have cj : decide ((j : Int) < (m : Int)) = true := decide_eq_true (by omega)
                      have cjn : decide (j < m) = true := decide_eq_true (by omega)
                      clear hm0 hji
                      obtain ⟨hl1, hl2, hl3⟩ := waitN_pos HJS.out.fitc (by rw [HJW.out]; omega)
                      rw [HJW.out] at hl3
                      have HL3 := Aside0.mk hl3
                      have cl : decide (n ≤ lc) = false := decide_eq_false (by omega)
                      clear hl1 hl2 hl3
                      obtain ⟨Wq, hWq⟩ : ∃ W : World, W = wr := ⟨_, rfl⟩
                      subst hWq
                      have HCn := Aside0.mk hn
                      have HLn := Aside0.mk (World.block_lt_of_cell? Wq _ hn)
                      have HJd : Aside0 (GC w Wq.drew g gc r s (l - n) lc) := ⟨HJS.out.step (Below.refl _ _).drew⟩
                      clear hn
                      go_wp2
                      by_cases c0 : 0 ≤ n
                      · have cn : decide (0 ≤ n) = true := decide_eq_true c0
                        clear c0
                        refine start_ (n := 16) (S := fun w' => Below Wq.heap.size Wq w') (ds := []) #[false, false, false, false, false, false, false, false, false, false, false, false, false, false, false, false] (by kernel_rfl) rfl rfl ((Below.refl _ _).drew) (fun hHeld => ?_)
                        refine pure_ (i := 0) (N := some 127) (v := ?_) (a' := ?_) #[true, false, false, false, false, false, false, false, false, false, false, false, false, false, false, false] rfl rfl (by kernel_rfl) (fun _ _ _ h => h) (Or.inl ⟨by rfl, ?_⟩) ?_ ?_
                        rotate_left
                        · intro w'
                          go_simp
                          with_reducible rfl
                        rotate_left
                        · simp only [Act.put, List.setIfInBounds_toArray, List.set_cons_zero, List.set_cons_succ, i64_w, i32_w]
                          rfl
                        refine pure_ (i := 1) (N := some 128) (v := ?_) (a' := ?_) #[true, true, false, false, false, false, false, false, false, false, false, false, false, false, false, false] rfl rfl (by kernel_rfl) (fun _ _ _ h => h) (Or.inl ⟨by rfl, ?_⟩) ?_ ?_
                        rotate_left
                        · intro w'
                          go_simp
                          with_reducible rfl
                        rotate_left
                        · simp only [Act.put, List.setIfInBounds_toArray, List.set_cons_zero, List.set_cons_succ, i64_w, i32_w]
                          rfl
                        refine pure_ (i := 2) (N := some 129) (v := ?_) (a' := ?_) #[true, true, true, false, false, false, false, false, false, false, false, false, false, false, false, false] rfl rfl (by kernel_rfl) (fun _ _ _ h => h) (Or.inl ⟨by rfl, ?_⟩) ?_ ?_
                        rotate_left
                        · intro w'
                          go_simp
                          with_reducible rfl
                        rotate_left
                        · simp only [Act.put, List.setIfInBounds_toArray, List.set_cons_zero, List.set_cons_succ, i64_w, i32_w]
                          rfl
                        refine pure_ (i := 3) (N := some 130) (v := ?_) (a' := ?_) #[true, true, true, true, false, false, false, false, false, false, false, false, false, false, false, false] rfl rfl (by kernel_rfl) (fun _ _ _ h => h) (Or.inl ⟨by rfl, ?_⟩) ?_ ?_
                        rotate_left
                        · intro w'
                          go_simp
                          with_reducible rfl
                        rotate_left
                        · simp only [Act.put, List.setIfInBounds_toArray, List.set_cons_zero, List.set_cons_succ, i64_w, i32_w]
                          rfl
                        refine take_ (i := 4) (N := some 131) (v := ?_) (a' := ?_) #[true, true, true, true, true, false, false, false, false, false, false, false, false, false, false, false] rfl rfl (by kernel_rfl) (fun _ _ _ h => h) (Or.inl ⟨by rfl, ?_⟩) hHeld ?_ ?_
                        rotate_left
                        · intro w' s0; have q3 := (s0.cell (p := ⟨(a.add (i * 2)).block, (a.add (i * 2)).off + (0 + 1), none⟩) HLn.out).trans HCn.out
                          go_simp
                          with_reducible rfl
                        rotate_left
                        · simp only [Act.put, List.setIfInBounds_toArray, List.set_cons_zero, List.set_cons_succ, i64_w, i32_w]
                          rfl
                        refine pure_ (i := 5) (N := some 132) (v := ?_) (a' := ?_) #[true, true, true, true, true, true, false, false, false, false, false, false, false, false, false, false] rfl rfl (by kernel_rfl) (fun _ _ _ h => h) (Or.inl ⟨by rfl, ?_⟩) ?_ ?_
                        rotate_left
                        · intro w'
                          go_simp
                          with_reducible rfl
                        rotate_left
                        · simp only [Act.put, List.setIfInBounds_toArray, List.set_cons_zero, List.set_cons_succ, i64_w, i32_w]
                          rfl
                        refine pure_ (i := 6) (N := some 133) (v := ?_) (a' := ?_) #[true, true, true, true, true, true, true, false, false, false, false, false, false, false, false, false] rfl rfl (by kernel_rfl) (fun _ _ _ h => h) (Or.inl ⟨by rfl, ?_⟩) ?_ ?_
                        rotate_left
                        · intro w'
                          go_simp
                          with_reducible rfl
                        rotate_left
                        · simp only [Act.put, List.setIfInBounds_toArray, List.set_cons_zero, List.set_cons_succ, i64_w, i32_w]
                          rfl
                        refine pure_ (i := 7) (N := some 134) (v := ?_) (a' := ?_) #[true, true, true, true, true, true, true, true, false, false, false, false, false, false, false, false] rfl rfl (by kernel_rfl) (fun _ _ _ h => h) (Or.inl ⟨by rfl, ?_⟩) ?_ ?_
                        rotate_left
                        · intro w'
                          go_simp
                          with_reducible rfl
                        rotate_left
                        · simp only [Act.put, List.setIfInBounds_toArray, List.set_cons_zero, List.set_cons_succ, i64_w, i32_w]
                          rfl
                        refine pure_ (i := 9) (N := some 136) (v := ?_) (a' := ?_) #[true, true, true, true, true, true, true, true, false, true, false, false, false, false, false, false] rfl rfl (by kernel_rfl) (fun _ _ _ h => h) (Or.inl ⟨by rfl, ?_⟩) ?_ ?_
                        rotate_left
                        · intro w'
                          go_simp
                          with_reducible rfl
                        rotate_left
                        · simp only [Act.put, List.setIfInBounds_toArray, List.set_cons_zero, List.set_cons_succ, i64_w, i32_w]
                          rfl
                        refine pure_ (i := 10) (N := some 137) (v := ?_) (a' := ?_) #[true, true, true, true, true, true, true, true, false, true, true, false, false, false, false, false] rfl rfl (by kernel_rfl) (fun _ _ _ h => h) (Or.inl ⟨by rfl, ?_⟩) ?_ ?_
                        rotate_left
                        · intro w'
                          go_simp
                          with_reducible rfl
                        rotate_left
                        · simp only [Act.put, List.setIfInBounds_toArray, List.set_cons_zero, List.set_cons_succ, i64_w, i32_w]
                          rfl
                        refine pure_ (i := 11) (N := some 138) (v := ?_) (a' := ?_) #[true, true, true, true, true, true, true, true, false, true, true, true, false, false, false, false] rfl rfl (by kernel_rfl) (fun _ _ _ h => h) (Or.inl ⟨by rfl, ?_⟩) ?_ ?_
                        rotate_left
                        · intro w'
                          go_simp
                          with_reducible rfl
                        rotate_left
                        · simp only [Act.put, List.setIfInBounds_toArray, List.set_cons_zero, List.set_cons_succ, i64_w, i32_w]
                          rfl
                        refine pure_ (i := 12) (N := some 139) (v := ?_) (a' := ?_) #[true, true, true, true, true, true, true, true, false, true, true, true, true, false, false, false] rfl rfl (by kernel_rfl) (fun _ _ _ h => h) (Or.inl ⟨by rfl, ?_⟩) ?_ ?_
                        rotate_left
                        · intro w'
                          go_simp
                          with_reducible rfl
                        rotate_left
                        · simp only [Act.put, List.setIfInBounds_toArray, List.set_cons_zero, List.set_cons_succ, i64_w, i32_w]
                          rfl
                        refine take_ (i := 13) (N := some 140) (v := ?_) (a' := ?_) #[true, true, true, true, true, true, true, true, false, true, true, true, true, true, false, false] rfl rfl (by kernel_rfl) (fun _ _ _ h => h) (Or.inl ⟨by rfl, ?_⟩) hHeld ?_ ?_
                        rotate_left
                        · intro w' s0; have q3 := (s0.cell (p := ⟨(a.add (i * 2)).block, (a.add (i * 2)).off + (0 + 1), none⟩) HLn.out).trans HCn.out
                          go_simp
                          with_reducible rfl
                        rotate_left
                        · simp only [Act.put, List.setIfInBounds_toArray, List.set_cons_zero, List.set_cons_succ, i64_w, i32_w]
                          rfl
                        refine one_ (i := 8) (N := some 135) #[true, true, true, true, true, true, true, true, true, true, true, true, true, true, false, false] rfl rfl (by kernel_rfl) (by decide) (fun K hK => ?_)
                        refine goes_ Try.func31 (by kernel_rfl) rfl #[.pointer (some ⟨gc, 0, none⟩)] (by rfl) rfl rfl (by (try simp only [List.map_toArray, List.map_cons, List.map_nil]); first | done | rfl) ?_
                        with_reducible refine (levelc_gc HJd.out).mono ?_
                        rintro e Wr ⟨rfl, hr⟩
                        refine ⟨_, rfl, ?_⟩
                        have HXr := Aside0.mk hr.1
                        replace hHeld := below_step hHeld hr.2
                        clear hr
                        refine hK.out _ _ (hHeld) (fun hHeld => ?_)
                        clear hK K
                        refine norm_ (a' := ?_) ?_ ?_
                        rotate_left
                        · show Act.put _ (some 135) _ = _
                          simp only [Act.put, List.setIfInBounds_toArray, List.set_cons_zero, List.set_cons_succ, i64_w, i32_w]
                          rfl
                        refine pure_ (i := 14) (N := some 141) (v := ?_) (a' := ?_) #[true, true, true, true, true, true, true, true, true, true, true, true, true, true, true, false] rfl rfl (by kernel_rfl) (fun _ _ _ h => h) (Or.inl ⟨by rfl, ?_⟩) ?_ ?_
                        rotate_left
                        · intro w'
                          go_simp
                          with_reducible rfl
                        rotate_left
                        · simp only [Act.put, List.setIfInBounds_toArray, List.set_cons_zero, List.set_cons_succ, i64_w, i32_w]
                          rfl
                        refine pure_ (i := 15) (N := some 142) (v := ?_) (a' := ?_) #[true, true, true, true, true, true, true, true, true, true, true, true, true, true, true, true] rfl rfl (by kernel_rfl) (fun _ _ _ h => h) (Or.inl ⟨by rfl, ?_⟩) ?_ ?_
                        rotate_left
                        · intro w'
                          go_simp
                          with_reducible rfl
                        rotate_left
                        · simp only [Act.put, List.setIfInBounds_toArray, List.set_cons_zero, List.set_cons_succ, i64_w, i32_w]
                          rfl
                        refine done_ (by kernel_rfl) ?_
                        have HJ1 := HXr
                        clear HXr
                        go_wp2_with fail
                        (with_reducible refine (tickc_gc HJ1.out).mono ?_)
                        rintro e Wt ⟨rfl, ht⟩
                        have HT := Aside0.mk ht
                        clear ht
                        go_wp2
                        go_roundg jk
                        case measure => omega
                        case rel => exact ⟨j + 1, next_i (by have := HJI.out; have := HM.out; omega), ⟨by have := HJI.out; omega⟩, ⟨⟨_, HT.out, by rw [HL3.out]; omega⟩⟩⟩
                      · have cn : decide (0 ≤ n) = false := decide_eq_false c0
                        clear c0
                        refine start_ (n := 16) (S := fun w' => Below Wq.heap.size Wq w') (ds := []) #[false, false, false, false, false, false, false, false, false, false, false, false, false, false, false, false] (by kernel_rfl) rfl rfl ((Below.refl _ _).drew) (fun hHeld => ?_)
                        refine pure_ (i := 0) (N := some 127) (v := ?_) (a' := ?_) #[true, false, false, false, false, false, false, false, false, false, false, false, false, false, false, false] rfl rfl (by kernel_rfl) (fun _ _ _ h => h) (Or.inl ⟨by rfl, ?_⟩) ?_ ?_
                        rotate_left
                        · intro w'
                          go_simp
                          with_reducible rfl
                        rotate_left
                        · simp only [Act.put, List.setIfInBounds_toArray, List.set_cons_zero, List.set_cons_succ, i64_w, i32_w]
                          rfl
                        refine pure_ (i := 1) (N := some 128) (v := ?_) (a' := ?_) #[true, true, false, false, false, false, false, false, false, false, false, false, false, false, false, false] rfl rfl (by kernel_rfl) (fun _ _ _ h => h) (Or.inl ⟨by rfl, ?_⟩) ?_ ?_
                        rotate_left
                        · intro w'
                          go_simp
                          with_reducible rfl
                        rotate_left
                        · simp only [Act.put, List.setIfInBounds_toArray, List.set_cons_zero, List.set_cons_succ, i64_w, i32_w]
                          rfl
                        refine pure_ (i := 2) (N := some 129) (v := ?_) (a' := ?_) #[true, true, true, false, false, false, false, false, false, false, false, false, false, false, false, false] rfl rfl (by kernel_rfl) (fun _ _ _ h => h) (Or.inl ⟨by rfl, ?_⟩) ?_ ?_
                        rotate_left
                        · intro w'
                          go_simp
                          with_reducible rfl
                        rotate_left
                        · simp only [Act.put, List.setIfInBounds_toArray, List.set_cons_zero, List.set_cons_succ, i64_w, i32_w]
                          rfl
                        refine pure_ (i := 3) (N := some 130) (v := ?_) (a' := ?_) #[true, true, true, true, false, false, false, false, false, false, false, false, false, false, false, false] rfl rfl (by kernel_rfl) (fun _ _ _ h => h) (Or.inl ⟨by rfl, ?_⟩) ?_ ?_
                        rotate_left
                        · intro w'
                          go_simp
                          with_reducible rfl
                        rotate_left
                        · simp only [Act.put, List.setIfInBounds_toArray, List.set_cons_zero, List.set_cons_succ, i64_w, i32_w]
                          rfl
                        refine take_ (i := 4) (N := some 131) (v := ?_) (a' := ?_) #[true, true, true, true, true, false, false, false, false, false, false, false, false, false, false, false] rfl rfl (by kernel_rfl) (fun _ _ _ h => h) (Or.inl ⟨by rfl, ?_⟩) hHeld ?_ ?_
                        rotate_left
                        · intro w' s0; have q3 := (s0.cell (p := ⟨(a.add (i * 2)).block, (a.add (i * 2)).off + (0 + 1), none⟩) HLn.out).trans HCn.out
                          go_simp
                          with_reducible rfl
                        rotate_left
                        · simp only [Act.put, List.setIfInBounds_toArray, List.set_cons_zero, List.set_cons_succ, i64_w, i32_w]
                          rfl
                        refine pure_ (i := 5) (N := some 132) (v := ?_) (a' := ?_) #[true, true, true, true, true, true, false, false, false, false, false, false, false, false, false, false] rfl rfl (by kernel_rfl) (fun _ _ _ h => h) (Or.inl ⟨by rfl, ?_⟩) ?_ ?_
                        rotate_left
                        · intro w'
                          go_simp
                          with_reducible rfl
                        rotate_left
                        · simp only [Act.put, List.setIfInBounds_toArray, List.set_cons_zero, List.set_cons_succ, i64_w, i32_w]
                          rfl
                        refine pure_ (i := 6) (N := some 133) (v := ?_) (a' := ?_) #[true, true, true, true, true, true, true, false, false, false, false, false, false, false, false, false] rfl rfl (by kernel_rfl) (fun _ _ _ h => h) (Or.inl ⟨by rfl, ?_⟩) ?_ ?_
                        rotate_left
                        · intro w'
                          go_simp
                          with_reducible rfl
                        rotate_left
                        · simp only [Act.put, List.setIfInBounds_toArray, List.set_cons_zero, List.set_cons_succ, i64_w, i32_w]
                          rfl
                        refine pure_ (i := 7) (N := some 134) (v := undef) (a' := ?_) #[true, true, true, true, true, true, true, true, false, false, false, false, false, false, false, false] rfl rfl (by kernel_rfl) (fun _ _ _ h => h) (Or.inr ⟨by rfl, rfl⟩) ?_ ?_
                        rotate_left
                        · simp only [Act.put, List.setIfInBounds_toArray, List.set_cons_zero, List.set_cons_succ, i64_w, i32_w]
                          rfl
                        refine pure_ (i := 8) (N := some 135) (v := undef) (a' := ?_) #[true, true, true, true, true, true, true, true, true, false, false, false, false, false, false, false] rfl rfl (by kernel_rfl) (fun _ _ _ h => h) (Or.inr ⟨by rfl, rfl⟩) ?_ ?_
                        rotate_left
                        · simp only [Act.put, List.setIfInBounds_toArray, List.set_cons_zero, List.set_cons_succ, i64_w, i32_w]
                          rfl
                        refine pure_ (i := 9) (N := some 136) (v := undef) (a' := ?_) #[true, true, true, true, true, true, true, true, true, true, false, false, false, false, false, false] rfl rfl (by kernel_rfl) (fun _ _ _ h => h) (Or.inr ⟨by rfl, rfl⟩) ?_ ?_
                        rotate_left
                        · simp only [Act.put, List.setIfInBounds_toArray, List.set_cons_zero, List.set_cons_succ, i64_w, i32_w]
                          rfl
                        refine pure_ (i := 10) (N := some 137) (v := undef) (a' := ?_) #[true, true, true, true, true, true, true, true, true, true, true, false, false, false, false, false] rfl rfl (by kernel_rfl) (fun _ _ _ h => h) (Or.inr ⟨by rfl, rfl⟩) ?_ ?_
                        rotate_left
                        · simp only [Act.put, List.setIfInBounds_toArray, List.set_cons_zero, List.set_cons_succ, i64_w, i32_w]
                          rfl
                        refine pure_ (i := 11) (N := some 138) (v := undef) (a' := ?_) #[true, true, true, true, true, true, true, true, true, true, true, true, false, false, false, false] rfl rfl (by kernel_rfl) (fun _ _ _ h => h) (Or.inr ⟨by rfl, rfl⟩) ?_ ?_
                        rotate_left
                        · simp only [Act.put, List.setIfInBounds_toArray, List.set_cons_zero, List.set_cons_succ, i64_w, i32_w]
                          rfl
                        refine pure_ (i := 12) (N := some 139) (v := undef) (a' := ?_) #[true, true, true, true, true, true, true, true, true, true, true, true, true, false, false, false] rfl rfl (by kernel_rfl) (fun _ _ _ h => h) (Or.inr ⟨by rfl, rfl⟩) ?_ ?_
                        rotate_left
                        · simp only [Act.put, List.setIfInBounds_toArray, List.set_cons_zero, List.set_cons_succ, i64_w, i32_w]
                          rfl
                        refine pure_ (i := 13) (N := some 140) (v := undef) (a' := ?_) #[true, true, true, true, true, true, true, true, true, true, true, true, true, true, false, false] rfl rfl (by kernel_rfl) (fun _ _ _ h => h) (Or.inr ⟨by rfl, rfl⟩) ?_ ?_
                        rotate_left
                        · simp only [Act.put, List.setIfInBounds_toArray, List.set_cons_zero, List.set_cons_succ, i64_w, i32_w]
                          rfl
                        refine pure_ (i := 14) (N := some 141) (v := undef) (a' := ?_) #[true, true, true, true, true, true, true, true, true, true, true, true, true, true, true, false] rfl rfl (by kernel_rfl) (fun _ _ _ h => h) (Or.inr ⟨by rfl, rfl⟩) ?_ ?_
                        rotate_left
                        · simp only [Act.put, List.setIfInBounds_toArray, List.set_cons_zero, List.set_cons_succ, i64_w, i32_w]
                          rfl
                        refine pure_ (i := 15) (N := some 142) (v := ?_) (a' := ?_) #[true, true, true, true, true, true, true, true, true, true, true, true, true, true, true, true] rfl rfl (by kernel_rfl) (fun _ _ _ h => h) (Or.inl ⟨by rfl, ?_⟩) ?_ ?_
                        rotate_left
                        · intro w'
                          go_simp
                          with_reducible rfl
                        rotate_left
                        · simp only [Act.put, List.setIfInBounds_toArray, List.set_cons_zero, List.set_cons_succ, i64_w, i32_w]
                          rfl
                        refine done_ (by kernel_rfl) ?_
                        have HJ1 := HJd
                        go_wp2_with fail
                        (with_reducible refine (tickc_gc HJ1.out).mono ?_)
                        rintro e Wt ⟨rfl, ht⟩
                        have HT := Aside0.mk ht
                        clear ht
                        go_wp2
                        go_roundg jk
                        case measure => omega
                        case rel => exact ⟨j + 1, next_i (by have := HJI.out; have := HM.out; omega), ⟨by have := HJI.out; omega⟩, ⟨⟨_, HT.out, by rw [HL3.out]; omega⟩⟩⟩
            · have et : (te == 0) = false := beq_eq_false_iff_ne.2 ct
              clear ct
              go_wp2_with fail
              (with_reducible refine (take_gs HX0.out n).mono ?_)
              rintro e X ⟨rfl, hx⟩
              rw [HTE.out]
              rw [tk_no HTE.out (by simpa using et)] at hx
              have HX := Aside0.mk hx
              have nx := hx.cell CN.out
              clear hx kr nr
              have HGV : Aside0 (0 ≤ gv ∧ gv + l ≤ may ∧ may ≤ 65536 * (i + 2)) := ⟨by have h1 := HGV0.out; omega⟩
              have cG : decide ((may) < (gv)) = false := decide_eq_false (by have := HGV.out; have := HX.out.fit.lb; omega)
              have cL : decide ((l) < 0) = false := decide_eq_false (by have := HX.out.fit.lb; omega)
              have cS : decide (s < (l)) = false := decide_eq_false (by have := HX.out.fit.lb; omega)
              go_wp2_with fail
              (with_reducible refine (level_gs HX.out).mono ?_)
              rintro e Xa ⟨rfl, ha⟩
              have HXa := Aside0.mk ha
              clear ha
              go_wp2_with fail
              (with_reducible refine (level_gs HXa.out).mono ?_)
              rintro e Xb ⟨rfl, hb⟩
              have HXb := Aside0.mk hb
              have nb := hb.cell CN.out
              clear hb
              go_wp2_with fail
              (with_reducible refine (wait_gs HXb.out n).mono ?_)
              rintro e Xc ⟨rfl, hc⟩
              have HXc := Aside0.mk hc
              have nc := hc.cell CN.out
              clear hc nb
              obtain ⟨kw, hkw⟩ : ∃ x, waitN r s (l) n = x := ⟨_, rfl⟩
              rw [hkw]
              have HKW := Aside0.mk hkw
              clear hkw
              by_cases cw : kw < 0
              · have cb : decide (kw < 0) = true := decide_eq_true cw
                clear cw
                go_wp2
                go_roundg kq
                case measure => omega
                case rel => exact ⟨i + 1, gv, may, rfl, rfl, next_i (by have := HIB.out; omega), ⟨by have := HI.out; omega⟩, ⟨⟨l, HXc.out, by have := HGV.out; omega, by have := HGV.out; omega, by have := HGV.out; omega⟩⟩⟩
              · have cb : decide (kw < 0) = false := decide_eq_false cw
                by_cases cv : 300 < kw
                · have cd : decide (300 < kw) = true := decide_eq_true cv
                  clear cw cv
                  go_wp2
                  go_roundg kq
                  case measure => omega
                  case rel => exact ⟨i + 1, gv, may, rfl, rfl, next_i (by have := HIB.out; omega), ⟨by have := HI.out; omega⟩, ⟨⟨l, HXc.out, by have := HGV.out; omega, by have := HGV.out; omega, by have := HGV.out; omega⟩⟩⟩
                · have cd : decide (300 < kw) = false := decide_eq_false cv
                  obtain ⟨m, rfl⟩ : ∃ m : Nat, kw = m := ⟨kw.toNat, by omega⟩
                  have HM := Aside0.mk (show m ≤ 300 by omega)
                  clear cw cv
                  go_wp2_with fail
                  (with_reducible refine (new_gc HXc.out).mono ?_)
                  rintro e Xd ⟨gc, rfl, hd⟩
                  have HXd := Aside0.mk hd
                  clear hd nc
                  go_wp2_with fail
                  (with_reducible refine (level_gc HXd.out).mono ?_)
                  rintro e Xe ⟨rfl, he⟩
                  have HXe := Aside0.mk he
                  clear he
                  have sb : IntKind.i64.wrap (s - (l)) = s - (l) := (i64_w _).trans (by have := HX.out.fit.lb; have := HX.out.fit.sb; unfold wrap64; omega)
                  have sb2 : wrap64 (s - (l)) = s - (l) := (i64_w _).symm.trans sb
                  go_wp2_with fail
                  (with_reducible refine (takec_rest HXe.out).mono ?_)
                  rintro e Xf ⟨rfl, hf⟩
                  have HJ0 : Aside0 (GJ w Xf g gc r s (l) n m) := ⟨⟨_, hf, HKW.out⟩⟩
                  clear hf sb sb2
                  go_wp2
                  go_loopg [13] m (fun jq v13 w' => ∃ j : Nat, v13 = .int .i64 (j : Int) ∧ Aside0 (j + jq = m) ∧ Aside0 (GJ w w' g gc r s (l) n jq))
                  case atStart => exact ⟨0, rfl, ⟨by omega⟩, HJ0⟩
                  case round =>
                    obtain ⟨j, rfl, HJI, HJJ⟩ := hrel
                    obtain ⟨lc, hj, hw⟩ := HJJ.out
                    have hn := hj.cell CN.out
                    have HJS := Aside0.mk hj
                    have HJW := Aside0.mk hw
                    have hm0 := HM.out
                    have hji := HJI.out
                    clear hj hw HJ0
                    cases gk with
                    | zero =>
                      obtain rfl : j = m := by omega
                      have cj : decide ((j : Int) < (j : Int)) = false := decide_eq_false (by omega)
                      have cjn : decide (j < j) = false := decide_eq_false (by omega)
                      clear hm0 hji HJI
                      have hz := waitN_zero HJS.out.fitc HJW.out
                      by_cases c0 : 0 ≤ n
                      · have cn : decide (0 ≤ n) = true := decide_eq_true c0
                        have HZE := Aside0.mk hz
                        clear hz
                        go_wp2_with fail
                        (with_reducible refine (takec_ok HJS.out c0 HZE.out).mono ?_)
                        rintro e Xg ⟨rfl, hg⟩
                        have HXg := Aside0.mk hg
                        clear hg c0 hn
                        go_wp2
                        go_roundg kq
                        case measure => omega
                        case rel => exact ⟨i + 1, gv, may, rfl, rfl, next_i (by have := HIB.out; omega), ⟨by have := HI.out; omega⟩, ⟨⟨l, HXg.out.gs, by have := HGV.out; omega, by have := HGV.out; omega, by have := HGV.out; omega⟩⟩⟩
                      · have cn : decide (0 ≤ n) = false := decide_eq_false c0
                        clear hz c0
                        go_wp2
                        go_roundg kq
                        case measure => omega
                        case rel => exact ⟨i + 1, gv, may, rfl, rfl, next_i (by have := HIB.out; omega), ⟨by have := HI.out; omega⟩, ⟨⟨l, HJS.out.gs, by have := HGV.out; omega, by have := HGV.out; omega, by have := HGV.out; omega⟩⟩⟩
                    | succ jk =>
                      have cj : decide ((j : Int) < (m : Int)) = true := decide_eq_true (by omega)
                      have cjn : decide (j < m) = true := decide_eq_true (by omega)
                      clear hm0 hji
                      obtain ⟨hl1, hl2, hl3⟩ := waitN_pos HJS.out.fitc (by rw [HJW.out]; omega)
                      rw [HJW.out] at hl3
                      have HL3 := Aside0.mk hl3
                      have cl : decide (n ≤ lc) = false := decide_eq_false (by omega)
                      clear hl1 hl2 hl3
                      obtain ⟨Wq, hWq⟩ : ∃ W : World, W = wr := ⟨_, rfl⟩
                      subst hWq
                      have HCn := Aside0.mk hn
                      have HLn := Aside0.mk (World.block_lt_of_cell? Wq _ hn)
                      have HJd : Aside0 (GC w Wq.drew g gc r s (l) lc) := ⟨HJS.out.step (Below.refl _ _).drew⟩
                      clear hn
                      go_wp2
                      by_cases c0 : 0 ≤ n
                      · have cn : decide (0 ≤ n) = true := decide_eq_true c0
                        clear c0
                        refine start_ (n := 16) (S := fun w' => Below Wq.heap.size Wq w') (ds := []) #[false, false, false, false, false, false, false, false, false, false, false, false, false, false, false, false] (by kernel_rfl) rfl rfl ((Below.refl _ _).drew) (fun hHeld => ?_)
                        refine pure_ (i := 0) (N := some 127) (v := ?_) (a' := ?_) #[true, false, false, false, false, false, false, false, false, false, false, false, false, false, false, false] rfl rfl (by kernel_rfl) (fun _ _ _ h => h) (Or.inl ⟨by rfl, ?_⟩) ?_ ?_
                        rotate_left
                        · intro w'
                          go_simp
                          with_reducible rfl
                        rotate_left
                        · simp only [Act.put, List.setIfInBounds_toArray, List.set_cons_zero, List.set_cons_succ, i64_w, i32_w]
                          rfl
                        refine pure_ (i := 1) (N := some 128) (v := ?_) (a' := ?_) #[true, true, false, false, false, false, false, false, false, false, false, false, false, false, false, false] rfl rfl (by kernel_rfl) (fun _ _ _ h => h) (Or.inl ⟨by rfl, ?_⟩) ?_ ?_
                        rotate_left
                        · intro w'
                          go_simp
                          with_reducible rfl
                        rotate_left
                        · simp only [Act.put, List.setIfInBounds_toArray, List.set_cons_zero, List.set_cons_succ, i64_w, i32_w]
                          rfl
                        refine pure_ (i := 2) (N := some 129) (v := ?_) (a' := ?_) #[true, true, true, false, false, false, false, false, false, false, false, false, false, false, false, false] rfl rfl (by kernel_rfl) (fun _ _ _ h => h) (Or.inl ⟨by rfl, ?_⟩) ?_ ?_
                        rotate_left
                        · intro w'
                          go_simp
                          with_reducible rfl
                        rotate_left
                        · simp only [Act.put, List.setIfInBounds_toArray, List.set_cons_zero, List.set_cons_succ, i64_w, i32_w]
                          rfl
                        refine pure_ (i := 3) (N := some 130) (v := ?_) (a' := ?_) #[true, true, true, true, false, false, false, false, false, false, false, false, false, false, false, false] rfl rfl (by kernel_rfl) (fun _ _ _ h => h) (Or.inl ⟨by rfl, ?_⟩) ?_ ?_
                        rotate_left
                        · intro w'
                          go_simp
                          with_reducible rfl
                        rotate_left
                        · simp only [Act.put, List.setIfInBounds_toArray, List.set_cons_zero, List.set_cons_succ, i64_w, i32_w]
                          rfl
                        refine take_ (i := 4) (N := some 131) (v := ?_) (a' := ?_) #[true, true, true, true, true, false, false, false, false, false, false, false, false, false, false, false] rfl rfl (by kernel_rfl) (fun _ _ _ h => h) (Or.inl ⟨by rfl, ?_⟩) hHeld ?_ ?_
                        rotate_left
                        · intro w' s0; have q3 := (s0.cell (p := ⟨(a.add (i * 2)).block, (a.add (i * 2)).off + (0 + 1), none⟩) HLn.out).trans HCn.out
                          go_simp
                          with_reducible rfl
                        rotate_left
                        · simp only [Act.put, List.setIfInBounds_toArray, List.set_cons_zero, List.set_cons_succ, i64_w, i32_w]
                          rfl
                        refine pure_ (i := 5) (N := some 132) (v := ?_) (a' := ?_) #[true, true, true, true, true, true, false, false, false, false, false, false, false, false, false, false] rfl rfl (by kernel_rfl) (fun _ _ _ h => h) (Or.inl ⟨by rfl, ?_⟩) ?_ ?_
                        rotate_left
                        · intro w'
                          go_simp
                          with_reducible rfl
                        rotate_left
                        · simp only [Act.put, List.setIfInBounds_toArray, List.set_cons_zero, List.set_cons_succ, i64_w, i32_w]
                          rfl
                        refine pure_ (i := 6) (N := some 133) (v := ?_) (a' := ?_) #[true, true, true, true, true, true, true, false, false, false, false, false, false, false, false, false] rfl rfl (by kernel_rfl) (fun _ _ _ h => h) (Or.inl ⟨by rfl, ?_⟩) ?_ ?_
                        rotate_left
                        · intro w'
                          go_simp
                          with_reducible rfl
                        rotate_left
                        · simp only [Act.put, List.setIfInBounds_toArray, List.set_cons_zero, List.set_cons_succ, i64_w, i32_w]
                          rfl
                        refine pure_ (i := 7) (N := some 134) (v := ?_) (a' := ?_) #[true, true, true, true, true, true, true, true, false, false, false, false, false, false, false, false] rfl rfl (by kernel_rfl) (fun _ _ _ h => h) (Or.inl ⟨by rfl, ?_⟩) ?_ ?_
                        rotate_left
                        · intro w'
                          go_simp
                          with_reducible rfl
                        rotate_left
                        · simp only [Act.put, List.setIfInBounds_toArray, List.set_cons_zero, List.set_cons_succ, i64_w, i32_w]
                          rfl
                        refine pure_ (i := 9) (N := some 136) (v := ?_) (a' := ?_) #[true, true, true, true, true, true, true, true, false, true, false, false, false, false, false, false] rfl rfl (by kernel_rfl) (fun _ _ _ h => h) (Or.inl ⟨by rfl, ?_⟩) ?_ ?_
                        rotate_left
                        · intro w'
                          go_simp
                          with_reducible rfl
                        rotate_left
                        · simp only [Act.put, List.setIfInBounds_toArray, List.set_cons_zero, List.set_cons_succ, i64_w, i32_w]
                          rfl
                        refine pure_ (i := 10) (N := some 137) (v := ?_) (a' := ?_) #[true, true, true, true, true, true, true, true, false, true, true, false, false, false, false, false] rfl rfl (by kernel_rfl) (fun _ _ _ h => h) (Or.inl ⟨by rfl, ?_⟩) ?_ ?_
                        rotate_left
                        · intro w'
                          go_simp
                          with_reducible rfl
                        rotate_left
                        · simp only [Act.put, List.setIfInBounds_toArray, List.set_cons_zero, List.set_cons_succ, i64_w, i32_w]
                          rfl
                        refine pure_ (i := 11) (N := some 138) (v := ?_) (a' := ?_) #[true, true, true, true, true, true, true, true, false, true, true, true, false, false, false, false] rfl rfl (by kernel_rfl) (fun _ _ _ h => h) (Or.inl ⟨by rfl, ?_⟩) ?_ ?_
                        rotate_left
                        · intro w'
                          go_simp
                          with_reducible rfl
                        rotate_left
                        · simp only [Act.put, List.setIfInBounds_toArray, List.set_cons_zero, List.set_cons_succ, i64_w, i32_w]
                          rfl
                        refine pure_ (i := 12) (N := some 139) (v := ?_) (a' := ?_) #[true, true, true, true, true, true, true, true, false, true, true, true, true, false, false, false] rfl rfl (by kernel_rfl) (fun _ _ _ h => h) (Or.inl ⟨by rfl, ?_⟩) ?_ ?_
                        rotate_left
                        · intro w'
                          go_simp
                          with_reducible rfl
                        rotate_left
                        · simp only [Act.put, List.setIfInBounds_toArray, List.set_cons_zero, List.set_cons_succ, i64_w, i32_w]
                          rfl
                        refine take_ (i := 13) (N := some 140) (v := ?_) (a' := ?_) #[true, true, true, true, true, true, true, true, false, true, true, true, true, true, false, false] rfl rfl (by kernel_rfl) (fun _ _ _ h => h) (Or.inl ⟨by rfl, ?_⟩) hHeld ?_ ?_
                        rotate_left
                        · intro w' s0; have q3 := (s0.cell (p := ⟨(a.add (i * 2)).block, (a.add (i * 2)).off + (0 + 1), none⟩) HLn.out).trans HCn.out
                          go_simp
                          with_reducible rfl
                        rotate_left
                        · simp only [Act.put, List.setIfInBounds_toArray, List.set_cons_zero, List.set_cons_succ, i64_w, i32_w]
                          rfl
                        refine one_ (i := 8) (N := some 135) #[true, true, true, true, true, true, true, true, true, true, true, true, true, true, false, false] rfl rfl (by kernel_rfl) (by decide) (fun K hK => ?_)
                        refine goes_ Try.func31 (by kernel_rfl) rfl #[.pointer (some ⟨gc, 0, none⟩)] (by rfl) rfl rfl (by (try simp only [List.map_toArray, List.map_cons, List.map_nil]); first | done | rfl) ?_
                        with_reducible refine (levelc_gc HJd.out).mono ?_
                        rintro e Wr ⟨rfl, hr⟩
                        refine ⟨_, rfl, ?_⟩
                        have HXr := Aside0.mk hr.1
                        replace hHeld := below_step hHeld hr.2
                        clear hr
                        refine hK.out _ _ (hHeld) (fun hHeld => ?_)
                        clear hK K
                        refine norm_ (a' := ?_) ?_ ?_
                        rotate_left
                        · show Act.put _ (some 135) _ = _
                          simp only [Act.put, List.setIfInBounds_toArray, List.set_cons_zero, List.set_cons_succ, i64_w, i32_w]
                          rfl
                        refine pure_ (i := 14) (N := some 141) (v := ?_) (a' := ?_) #[true, true, true, true, true, true, true, true, true, true, true, true, true, true, true, false] rfl rfl (by kernel_rfl) (fun _ _ _ h => h) (Or.inl ⟨by rfl, ?_⟩) ?_ ?_
                        rotate_left
                        · intro w'
                          go_simp
                          with_reducible rfl
                        rotate_left
                        · simp only [Act.put, List.setIfInBounds_toArray, List.set_cons_zero, List.set_cons_succ, i64_w, i32_w]
                          rfl
                        refine pure_ (i := 15) (N := some 142) (v := ?_) (a' := ?_) #[true, true, true, true, true, true, true, true, true, true, true, true, true, true, true, true] rfl rfl (by kernel_rfl) (fun _ _ _ h => h) (Or.inl ⟨by rfl, ?_⟩) ?_ ?_
                        rotate_left
                        · intro w'
                          go_simp
                          with_reducible rfl
                        rotate_left
                        · simp only [Act.put, List.setIfInBounds_toArray, List.set_cons_zero, List.set_cons_succ, i64_w, i32_w]
                          rfl
                        refine done_ (by kernel_rfl) ?_
                        have HJ1 := HXr
                        clear HXr
                        go_wp2_with fail
                        (with_reducible refine (tickc_gc HJ1.out).mono ?_)
                        rintro e Wt ⟨rfl, ht⟩
                        have HT := Aside0.mk ht
                        clear ht
                        go_wp2
                        go_roundg jk
                        case measure => omega
                        case rel => exact ⟨j + 1, next_i (by have := HJI.out; have := HM.out; omega), ⟨by have := HJI.out; omega⟩, ⟨⟨_, HT.out, by rw [HL3.out]; omega⟩⟩⟩
                      · have cn : decide (0 ≤ n) = false := decide_eq_false c0
                        clear c0
                        refine start_ (n := 16) (S := fun w' => Below Wq.heap.size Wq w') (ds := []) #[false, false, false, false, false, false, false, false, false, false, false, false, false, false, false, false] (by kernel_rfl) rfl rfl ((Below.refl _ _).drew) (fun hHeld => ?_)
                        refine pure_ (i := 0) (N := some 127) (v := ?_) (a' := ?_) #[true, false, false, false, false, false, false, false, false, false, false, false, false, false, false, false] rfl rfl (by kernel_rfl) (fun _ _ _ h => h) (Or.inl ⟨by rfl, ?_⟩) ?_ ?_
                        rotate_left
                        · intro w'
                          go_simp
                          with_reducible rfl
                        rotate_left
                        · simp only [Act.put, List.setIfInBounds_toArray, List.set_cons_zero, List.set_cons_succ, i64_w, i32_w]
                          rfl
                        refine pure_ (i := 1) (N := some 128) (v := ?_) (a' := ?_) #[true, true, false, false, false, false, false, false, false, false, false, false, false, false, false, false] rfl rfl (by kernel_rfl) (fun _ _ _ h => h) (Or.inl ⟨by rfl, ?_⟩) ?_ ?_
                        rotate_left
                        · intro w'
                          go_simp
                          with_reducible rfl
                        rotate_left
                        · simp only [Act.put, List.setIfInBounds_toArray, List.set_cons_zero, List.set_cons_succ, i64_w, i32_w]
                          rfl
                        refine pure_ (i := 2) (N := some 129) (v := ?_) (a' := ?_) #[true, true, true, false, false, false, false, false, false, false, false, false, false, false, false, false] rfl rfl (by kernel_rfl) (fun _ _ _ h => h) (Or.inl ⟨by rfl, ?_⟩) ?_ ?_
                        rotate_left
                        · intro w'
                          go_simp
                          with_reducible rfl
                        rotate_left
                        · simp only [Act.put, List.setIfInBounds_toArray, List.set_cons_zero, List.set_cons_succ, i64_w, i32_w]
                          rfl
                        refine pure_ (i := 3) (N := some 130) (v := ?_) (a' := ?_) #[true, true, true, true, false, false, false, false, false, false, false, false, false, false, false, false] rfl rfl (by kernel_rfl) (fun _ _ _ h => h) (Or.inl ⟨by rfl, ?_⟩) ?_ ?_
                        rotate_left
                        · intro w'
                          go_simp
                          with_reducible rfl
                        rotate_left
                        · simp only [Act.put, List.setIfInBounds_toArray, List.set_cons_zero, List.set_cons_succ, i64_w, i32_w]
                          rfl
                        refine take_ (i := 4) (N := some 131) (v := ?_) (a' := ?_) #[true, true, true, true, true, false, false, false, false, false, false, false, false, false, false, false] rfl rfl (by kernel_rfl) (fun _ _ _ h => h) (Or.inl ⟨by rfl, ?_⟩) hHeld ?_ ?_
                        rotate_left
                        · intro w' s0; have q3 := (s0.cell (p := ⟨(a.add (i * 2)).block, (a.add (i * 2)).off + (0 + 1), none⟩) HLn.out).trans HCn.out
                          go_simp
                          with_reducible rfl
                        rotate_left
                        · simp only [Act.put, List.setIfInBounds_toArray, List.set_cons_zero, List.set_cons_succ, i64_w, i32_w]
                          rfl
                        refine pure_ (i := 5) (N := some 132) (v := ?_) (a' := ?_) #[true, true, true, true, true, true, false, false, false, false, false, false, false, false, false, false] rfl rfl (by kernel_rfl) (fun _ _ _ h => h) (Or.inl ⟨by rfl, ?_⟩) ?_ ?_
                        rotate_left
                        · intro w'
                          go_simp
                          with_reducible rfl
                        rotate_left
                        · simp only [Act.put, List.setIfInBounds_toArray, List.set_cons_zero, List.set_cons_succ, i64_w, i32_w]
                          rfl
                        refine pure_ (i := 6) (N := some 133) (v := ?_) (a' := ?_) #[true, true, true, true, true, true, true, false, false, false, false, false, false, false, false, false] rfl rfl (by kernel_rfl) (fun _ _ _ h => h) (Or.inl ⟨by rfl, ?_⟩) ?_ ?_
                        rotate_left
                        · intro w'
                          go_simp
                          with_reducible rfl
                        rotate_left
                        · simp only [Act.put, List.setIfInBounds_toArray, List.set_cons_zero, List.set_cons_succ, i64_w, i32_w]
                          rfl
                        refine pure_ (i := 7) (N := some 134) (v := undef) (a' := ?_) #[true, true, true, true, true, true, true, true, false, false, false, false, false, false, false, false] rfl rfl (by kernel_rfl) (fun _ _ _ h => h) (Or.inr ⟨by rfl, rfl⟩) ?_ ?_
                        rotate_left
                        · simp only [Act.put, List.setIfInBounds_toArray, List.set_cons_zero, List.set_cons_succ, i64_w, i32_w]
                          rfl
                        refine pure_ (i := 8) (N := some 135) (v := undef) (a' := ?_) #[true, true, true, true, true, true, true, true, true, false, false, false, false, false, false, false] rfl rfl (by kernel_rfl) (fun _ _ _ h => h) (Or.inr ⟨by rfl, rfl⟩) ?_ ?_
                        rotate_left
                        · simp only [Act.put, List.setIfInBounds_toArray, List.set_cons_zero, List.set_cons_succ, i64_w, i32_w]
                          rfl
                        refine pure_ (i := 9) (N := some 136) (v := undef) (a' := ?_) #[true, true, true, true, true, true, true, true, true, true, false, false, false, false, false, false] rfl rfl (by kernel_rfl) (fun _ _ _ h => h) (Or.inr ⟨by rfl, rfl⟩) ?_ ?_
                        rotate_left
                        · simp only [Act.put, List.setIfInBounds_toArray, List.set_cons_zero, List.set_cons_succ, i64_w, i32_w]
                          rfl
                        refine pure_ (i := 10) (N := some 137) (v := undef) (a' := ?_) #[true, true, true, true, true, true, true, true, true, true, true, false, false, false, false, false] rfl rfl (by kernel_rfl) (fun _ _ _ h => h) (Or.inr ⟨by rfl, rfl⟩) ?_ ?_
                        rotate_left
                        · simp only [Act.put, List.setIfInBounds_toArray, List.set_cons_zero, List.set_cons_succ, i64_w, i32_w]
                          rfl
                        refine pure_ (i := 11) (N := some 138) (v := undef) (a' := ?_) #[true, true, true, true, true, true, true, true, true, true, true, true, false, false, false, false] rfl rfl (by kernel_rfl) (fun _ _ _ h => h) (Or.inr ⟨by rfl, rfl⟩) ?_ ?_
                        rotate_left
                        · simp only [Act.put, List.setIfInBounds_toArray, List.set_cons_zero, List.set_cons_succ, i64_w, i32_w]
                          rfl
                        refine pure_ (i := 12) (N := some 139) (v := undef) (a' := ?_) #[true, true, true, true, true, true, true, true, true, true, true, true, true, false, false, false] rfl rfl (by kernel_rfl) (fun _ _ _ h => h) (Or.inr ⟨by rfl, rfl⟩) ?_ ?_
                        rotate_left
                        · simp only [Act.put, List.setIfInBounds_toArray, List.set_cons_zero, List.set_cons_succ, i64_w, i32_w]
                          rfl
                        refine pure_ (i := 13) (N := some 140) (v := undef) (a' := ?_) #[true, true, true, true, true, true, true, true, true, true, true, true, true, true, false, false] rfl rfl (by kernel_rfl) (fun _ _ _ h => h) (Or.inr ⟨by rfl, rfl⟩) ?_ ?_
                        rotate_left
                        · simp only [Act.put, List.setIfInBounds_toArray, List.set_cons_zero, List.set_cons_succ, i64_w, i32_w]
                          rfl
                        refine pure_ (i := 14) (N := some 141) (v := undef) (a' := ?_) #[true, true, true, true, true, true, true, true, true, true, true, true, true, true, true, false] rfl rfl (by kernel_rfl) (fun _ _ _ h => h) (Or.inr ⟨by rfl, rfl⟩) ?_ ?_
                        rotate_left
                        · simp only [Act.put, List.setIfInBounds_toArray, List.set_cons_zero, List.set_cons_succ, i64_w, i32_w]
                          rfl
                        refine pure_ (i := 15) (N := some 142) (v := ?_) (a' := ?_) #[true, true, true, true, true, true, true, true, true, true, true, true, true, true, true, true] rfl rfl (by kernel_rfl) (fun _ _ _ h => h) (Or.inl ⟨by rfl, ?_⟩) ?_ ?_
                        rotate_left
                        · intro w'
                          go_simp
                          with_reducible rfl
                        rotate_left
                        · simp only [Act.put, List.setIfInBounds_toArray, List.set_cons_zero, List.set_cons_succ, i64_w, i32_w]
                          rfl
                        refine done_ (by kernel_rfl) ?_
                        have HJ1 := HJd
                        go_wp2_with fail
                        (with_reducible refine (tickc_gc HJ1.out).mono ?_)
                        rintro e Wt ⟨rfl, ht⟩
                        have HT := Aside0.mk ht
                        clear ht
                        go_wp2
                        go_roundg jk
                        case measure => omega
                        case rel => exact ⟨j + 1, next_i (by have := HJI.out; have := HM.out; omega), ⟨by have := HJI.out; omega⟩, ⟨⟨_, HT.out, by rw [HL3.out]; omega⟩⟩⟩
          · have e1 : (kd == 1) = false := beq_eq_false_iff_ne.2 k1
            clear k0 k1
            have HX := HX0
            have HGV : Aside0 (0 ≤ gv ∧ gv + l ≤ may ∧ may ≤ 65536 * (i + 2)) := ⟨by have h1 := HGV0.out; omega⟩
            have cG : decide ((may) < (gv)) = false := decide_eq_false (by have := HGV.out; have := HX.out.fit.lb; omega)
            have cL : decide ((l) < 0) = false := decide_eq_false (by have := HX.out.fit.lb; omega)
            have cS : decide (s < (l)) = false := decide_eq_false (by have := HX.out.fit.lb; omega)
            go_wp2_with fail
            (with_reducible refine (level_gs HX.out).mono ?_)
            rintro e Xa ⟨rfl, ha⟩
            have HXa := Aside0.mk ha
            clear ha
            go_wp2_with fail
            (with_reducible refine (level_gs HXa.out).mono ?_)
            rintro e Xb ⟨rfl, hb⟩
            have HXb := Aside0.mk hb
            have nb := hb.cell CN.out
            clear hb
            go_wp2_with fail
            (with_reducible refine (wait_gs HXb.out n).mono ?_)
            rintro e Xc ⟨rfl, hc⟩
            have HXc := Aside0.mk hc
            have nc := hc.cell CN.out
            clear hc nb
            obtain ⟨kw, hkw⟩ : ∃ x, waitN r s (l) n = x := ⟨_, rfl⟩
            rw [hkw]
            have HKW := Aside0.mk hkw
            clear hkw
            by_cases cw : kw < 0
            · have cb : decide (kw < 0) = true := decide_eq_true cw
              clear cw
              go_wp2
              go_roundg kq
              case measure => omega
              case rel => exact ⟨i + 1, gv, may, rfl, rfl, next_i (by have := HIB.out; omega), ⟨by have := HI.out; omega⟩, ⟨⟨l, HXc.out, by have := HGV.out; omega, by have := HGV.out; omega, by have := HGV.out; omega⟩⟩⟩
            · have cb : decide (kw < 0) = false := decide_eq_false cw
              by_cases cv : 300 < kw
              · have cd : decide (300 < kw) = true := decide_eq_true cv
                clear cw cv
                go_wp2
                go_roundg kq
                case measure => omega
                case rel => exact ⟨i + 1, gv, may, rfl, rfl, next_i (by have := HIB.out; omega), ⟨by have := HI.out; omega⟩, ⟨⟨l, HXc.out, by have := HGV.out; omega, by have := HGV.out; omega, by have := HGV.out; omega⟩⟩⟩
              · have cd : decide (300 < kw) = false := decide_eq_false cv
                obtain ⟨m, rfl⟩ : ∃ m : Nat, kw = m := ⟨kw.toNat, by omega⟩
                have HM := Aside0.mk (show m ≤ 300 by omega)
                clear cw cv
                go_wp2_with fail
                (with_reducible refine (new_gc HXc.out).mono ?_)
                rintro e Xd ⟨gc, rfl, hd⟩
                have HXd := Aside0.mk hd
                clear hd nc
                go_wp2_with fail
                (with_reducible refine (level_gc HXd.out).mono ?_)
                rintro e Xe ⟨rfl, he⟩
                have HXe := Aside0.mk he
                clear he
                have sb : IntKind.i64.wrap (s - (l)) = s - (l) := (i64_w _).trans (by have := HX.out.fit.lb; have := HX.out.fit.sb; unfold wrap64; omega)
                have sb2 : wrap64 (s - (l)) = s - (l) := (i64_w _).symm.trans sb
                go_wp2_with fail
                (with_reducible refine (takec_rest HXe.out).mono ?_)
                rintro e Xf ⟨rfl, hf⟩
                have HJ0 : Aside0 (GJ w Xf g gc r s (l) n m) := ⟨⟨_, hf, HKW.out⟩⟩
                clear hf sb sb2
                go_wp2
                go_loopg [13] m (fun jq v13 w' => ∃ j : Nat, v13 = .int .i64 (j : Int) ∧ Aside0 (j + jq = m) ∧ Aside0 (GJ w w' g gc r s (l) n jq))
                case atStart => exact ⟨0, rfl, ⟨by omega⟩, HJ0⟩
                case round =>
                  obtain ⟨j, rfl, HJI, HJJ⟩ := hrel
                  obtain ⟨lc, hj, hw⟩ := HJJ.out
                  have hn := hj.cell CN.out
                  have HJS := Aside0.mk hj
                  have HJW := Aside0.mk hw
                  have hm0 := HM.out
                  have hji := HJI.out
                  clear hj hw HJ0
                  cases gk with
                  | zero =>
                    obtain rfl : j = m := by omega
                    have cj : decide ((j : Int) < (j : Int)) = false := decide_eq_false (by omega)
                    have cjn : decide (j < j) = false := decide_eq_false (by omega)
                    clear hm0 hji HJI
                    have hz := waitN_zero HJS.out.fitc HJW.out
                    by_cases c0 : 0 ≤ n
                    · have cn : decide (0 ≤ n) = true := decide_eq_true c0
                      have HZE := Aside0.mk hz
                      clear hz
                      go_wp2_with fail
                      (with_reducible refine (takec_ok HJS.out c0 HZE.out).mono ?_)
                      rintro e Xg ⟨rfl, hg⟩
                      have HXg := Aside0.mk hg
                      clear hg c0 hn
                      go_wp2
                      go_roundg kq
                      case measure => omega
                      case rel => exact ⟨i + 1, gv, may, rfl, rfl, next_i (by have := HIB.out; omega), ⟨by have := HI.out; omega⟩, ⟨⟨l, HXg.out.gs, by have := HGV.out; omega, by have := HGV.out; omega, by have := HGV.out; omega⟩⟩⟩
                    · have cn : decide (0 ≤ n) = false := decide_eq_false c0
                      clear hz c0
                      go_wp2
                      go_roundg kq
                      case measure => omega
                      case rel => exact ⟨i + 1, gv, may, rfl, rfl, next_i (by have := HIB.out; omega), ⟨by have := HI.out; omega⟩, ⟨⟨l, HJS.out.gs, by have := HGV.out; omega, by have := HGV.out; omega, by have := HGV.out; omega⟩⟩⟩
                  | succ jk =>
                    have cj : decide ((j : Int) < (m : Int)) = true := decide_eq_true (by omega)
                    have cjn : decide (j < m) = true := decide_eq_true (by omega)
                    clear hm0 hji
                    obtain ⟨hl1, hl2, hl3⟩ := waitN_pos HJS.out.fitc (by rw [HJW.out]; omega)
                    rw [HJW.out] at hl3
                    have HL3 := Aside0.mk hl3
                    have cl : decide (n ≤ lc) = false := decide_eq_false (by omega)
                    clear hl1 hl2 hl3
                    obtain ⟨Wq, hWq⟩ : ∃ W : World, W = wr := ⟨_, rfl⟩
                    subst hWq
                    have HCn := Aside0.mk hn
                    have HLn := Aside0.mk (World.block_lt_of_cell? Wq _ hn)
                    have HJd : Aside0 (GC w Wq.drew g gc r s (l) lc) := ⟨HJS.out.step (Below.refl _ _).drew⟩
                    clear hn
                    go_wp2
                    by_cases c0 : 0 ≤ n
                    · have cn : decide (0 ≤ n) = true := decide_eq_true c0
                      clear c0
                      refine start_ (n := 16) (S := fun w' => Below Wq.heap.size Wq w') (ds := []) #[false, false, false, false, false, false, false, false, false, false, false, false, false, false, false, false] (by kernel_rfl) rfl rfl ((Below.refl _ _).drew) (fun hHeld => ?_)
                      refine pure_ (i := 0) (N := some 127) (v := ?_) (a' := ?_) #[true, false, false, false, false, false, false, false, false, false, false, false, false, false, false, false] rfl rfl (by kernel_rfl) (fun _ _ _ h => h) (Or.inl ⟨by rfl, ?_⟩) ?_ ?_
                      rotate_left
                      · intro w'
                        go_simp
                        with_reducible rfl
                      rotate_left
                      · simp only [Act.put, List.setIfInBounds_toArray, List.set_cons_zero, List.set_cons_succ, i64_w, i32_w]
                        rfl
                      refine pure_ (i := 1) (N := some 128) (v := ?_) (a' := ?_) #[true, true, false, false, false, false, false, false, false, false, false, false, false, false, false, false] rfl rfl (by kernel_rfl) (fun _ _ _ h => h) (Or.inl ⟨by rfl, ?_⟩) ?_ ?_
                      rotate_left
                      · intro w'
                        go_simp
                        with_reducible rfl
                      rotate_left
                      · simp only [Act.put, List.setIfInBounds_toArray, List.set_cons_zero, List.set_cons_succ, i64_w, i32_w]
                        rfl
                      refine pure_ (i := 2) (N := some 129) (v := ?_) (a' := ?_) #[true, true, true, false, false, false, false, false, false, false, false, false, false, false, false, false] rfl rfl (by kernel_rfl) (fun _ _ _ h => h) (Or.inl ⟨by rfl, ?_⟩) ?_ ?_
                      rotate_left
                      · intro w'
                        go_simp
                        with_reducible rfl
                      rotate_left
                      · simp only [Act.put, List.setIfInBounds_toArray, List.set_cons_zero, List.set_cons_succ, i64_w, i32_w]
                        rfl
                      refine pure_ (i := 3) (N := some 130) (v := ?_) (a' := ?_) #[true, true, true, true, false, false, false, false, false, false, false, false, false, false, false, false] rfl rfl (by kernel_rfl) (fun _ _ _ h => h) (Or.inl ⟨by rfl, ?_⟩) ?_ ?_
                      rotate_left
                      · intro w'
                        go_simp
                        with_reducible rfl
                      rotate_left
                      · simp only [Act.put, List.setIfInBounds_toArray, List.set_cons_zero, List.set_cons_succ, i64_w, i32_w]
                        rfl
                      refine take_ (i := 4) (N := some 131) (v := ?_) (a' := ?_) #[true, true, true, true, true, false, false, false, false, false, false, false, false, false, false, false] rfl rfl (by kernel_rfl) (fun _ _ _ h => h) (Or.inl ⟨by rfl, ?_⟩) hHeld ?_ ?_
                      rotate_left
                      · intro w' s0; have q3 := (s0.cell (p := ⟨(a.add (i * 2)).block, (a.add (i * 2)).off + (0 + 1), none⟩) HLn.out).trans HCn.out
                        go_simp
                        with_reducible rfl
                      rotate_left
                      · simp only [Act.put, List.setIfInBounds_toArray, List.set_cons_zero, List.set_cons_succ, i64_w, i32_w]
                        rfl
                      refine pure_ (i := 5) (N := some 132) (v := ?_) (a' := ?_) #[true, true, true, true, true, true, false, false, false, false, false, false, false, false, false, false] rfl rfl (by kernel_rfl) (fun _ _ _ h => h) (Or.inl ⟨by rfl, ?_⟩) ?_ ?_
                      rotate_left
                      · intro w'
                        go_simp
                        with_reducible rfl
                      rotate_left
                      · simp only [Act.put, List.setIfInBounds_toArray, List.set_cons_zero, List.set_cons_succ, i64_w, i32_w]
                        rfl
                      refine pure_ (i := 6) (N := some 133) (v := ?_) (a' := ?_) #[true, true, true, true, true, true, true, false, false, false, false, false, false, false, false, false] rfl rfl (by kernel_rfl) (fun _ _ _ h => h) (Or.inl ⟨by rfl, ?_⟩) ?_ ?_
                      rotate_left
                      · intro w'
                        go_simp
                        with_reducible rfl
                      rotate_left
                      · simp only [Act.put, List.setIfInBounds_toArray, List.set_cons_zero, List.set_cons_succ, i64_w, i32_w]
                        rfl
                      refine pure_ (i := 7) (N := some 134) (v := ?_) (a' := ?_) #[true, true, true, true, true, true, true, true, false, false, false, false, false, false, false, false] rfl rfl (by kernel_rfl) (fun _ _ _ h => h) (Or.inl ⟨by rfl, ?_⟩) ?_ ?_
                      rotate_left
                      · intro w'
                        go_simp
                        with_reducible rfl
                      rotate_left
                      · simp only [Act.put, List.setIfInBounds_toArray, List.set_cons_zero, List.set_cons_succ, i64_w, i32_w]
                        rfl
                      refine pure_ (i := 9) (N := some 136) (v := ?_) (a' := ?_) #[true, true, true, true, true, true, true, true, false, true, false, false, false, false, false, false] rfl rfl (by kernel_rfl) (fun _ _ _ h => h) (Or.inl ⟨by rfl, ?_⟩) ?_ ?_
                      rotate_left
                      · intro w'
                        go_simp
                        with_reducible rfl
                      rotate_left
                      · simp only [Act.put, List.setIfInBounds_toArray, List.set_cons_zero, List.set_cons_succ, i64_w, i32_w]
                        rfl
                      refine pure_ (i := 10) (N := some 137) (v := ?_) (a' := ?_) #[true, true, true, true, true, true, true, true, false, true, true, false, false, false, false, false] rfl rfl (by kernel_rfl) (fun _ _ _ h => h) (Or.inl ⟨by rfl, ?_⟩) ?_ ?_
                      rotate_left
                      · intro w'
                        go_simp
                        with_reducible rfl
                      rotate_left
                      · simp only [Act.put, List.setIfInBounds_toArray, List.set_cons_zero, List.set_cons_succ, i64_w, i32_w]
                        rfl
                      refine pure_ (i := 11) (N := some 138) (v := ?_) (a' := ?_) #[true, true, true, true, true, true, true, true, false, true, true, true, false, false, false, false] rfl rfl (by kernel_rfl) (fun _ _ _ h => h) (Or.inl ⟨by rfl, ?_⟩) ?_ ?_
                      rotate_left
                      · intro w'
                        go_simp
                        with_reducible rfl
                      rotate_left
                      · simp only [Act.put, List.setIfInBounds_toArray, List.set_cons_zero, List.set_cons_succ, i64_w, i32_w]
                        rfl
                      refine pure_ (i := 12) (N := some 139) (v := ?_) (a' := ?_) #[true, true, true, true, true, true, true, true, false, true, true, true, true, false, false, false] rfl rfl (by kernel_rfl) (fun _ _ _ h => h) (Or.inl ⟨by rfl, ?_⟩) ?_ ?_
                      rotate_left
                      · intro w'
                        go_simp
                        with_reducible rfl
                      rotate_left
                      · simp only [Act.put, List.setIfInBounds_toArray, List.set_cons_zero, List.set_cons_succ, i64_w, i32_w]
                        rfl
                      refine take_ (i := 13) (N := some 140) (v := ?_) (a' := ?_) #[true, true, true, true, true, true, true, true, false, true, true, true, true, true, false, false] rfl rfl (by kernel_rfl) (fun _ _ _ h => h) (Or.inl ⟨by rfl, ?_⟩) hHeld ?_ ?_
                      rotate_left
                      · intro w' s0; have q3 := (s0.cell (p := ⟨(a.add (i * 2)).block, (a.add (i * 2)).off + (0 + 1), none⟩) HLn.out).trans HCn.out
                        go_simp
                        with_reducible rfl
                      rotate_left
                      · simp only [Act.put, List.setIfInBounds_toArray, List.set_cons_zero, List.set_cons_succ, i64_w, i32_w]
                        rfl
                      refine one_ (i := 8) (N := some 135) #[true, true, true, true, true, true, true, true, true, true, true, true, true, true, false, false] rfl rfl (by kernel_rfl) (by decide) (fun K hK => ?_)
                      refine goes_ Try.func31 (by kernel_rfl) rfl #[.pointer (some ⟨gc, 0, none⟩)] (by rfl) rfl rfl (by (try simp only [List.map_toArray, List.map_cons, List.map_nil]); first | done | rfl) ?_
                      with_reducible refine (levelc_gc HJd.out).mono ?_
                      rintro e Wr ⟨rfl, hr⟩
                      refine ⟨_, rfl, ?_⟩
                      have HXr := Aside0.mk hr.1
                      replace hHeld := below_step hHeld hr.2
                      clear hr
                      refine hK.out _ _ (hHeld) (fun hHeld => ?_)
                      clear hK K
                      refine norm_ (a' := ?_) ?_ ?_
                      rotate_left
                      · show Act.put _ (some 135) _ = _
                        simp only [Act.put, List.setIfInBounds_toArray, List.set_cons_zero, List.set_cons_succ, i64_w, i32_w]
                        rfl
                      refine pure_ (i := 14) (N := some 141) (v := ?_) (a' := ?_) #[true, true, true, true, true, true, true, true, true, true, true, true, true, true, true, false] rfl rfl (by kernel_rfl) (fun _ _ _ h => h) (Or.inl ⟨by rfl, ?_⟩) ?_ ?_
                      rotate_left
                      · intro w'
                        go_simp
                        with_reducible rfl
                      rotate_left
                      · simp only [Act.put, List.setIfInBounds_toArray, List.set_cons_zero, List.set_cons_succ, i64_w, i32_w]
                        rfl
                      refine pure_ (i := 15) (N := some 142) (v := ?_) (a' := ?_) #[true, true, true, true, true, true, true, true, true, true, true, true, true, true, true, true] rfl rfl (by kernel_rfl) (fun _ _ _ h => h) (Or.inl ⟨by rfl, ?_⟩) ?_ ?_
                      rotate_left
                      · intro w'
                        go_simp
                        with_reducible rfl
                      rotate_left
                      · simp only [Act.put, List.setIfInBounds_toArray, List.set_cons_zero, List.set_cons_succ, i64_w, i32_w]
                        rfl
                      refine done_ (by kernel_rfl) ?_
                      have HJ1 := HXr
                      clear HXr
                      go_wp2_with fail
                      (with_reducible refine (tickc_gc HJ1.out).mono ?_)
                      rintro e Wt ⟨rfl, ht⟩
                      have HT := Aside0.mk ht
                      clear ht
                      go_wp2
                      go_roundg jk
                      case measure => omega
                      case rel => exact ⟨j + 1, next_i (by have := HJI.out; have := HM.out; omega), ⟨by have := HJI.out; omega⟩, ⟨⟨_, HT.out, by rw [HL3.out]; omega⟩⟩⟩
                    · have cn : decide (0 ≤ n) = false := decide_eq_false c0
                      clear c0
                      refine start_ (n := 16) (S := fun w' => Below Wq.heap.size Wq w') (ds := []) #[false, false, false, false, false, false, false, false, false, false, false, false, false, false, false, false] (by kernel_rfl) rfl rfl ((Below.refl _ _).drew) (fun hHeld => ?_)
                      refine pure_ (i := 0) (N := some 127) (v := ?_) (a' := ?_) #[true, false, false, false, false, false, false, false, false, false, false, false, false, false, false, false] rfl rfl (by kernel_rfl) (fun _ _ _ h => h) (Or.inl ⟨by rfl, ?_⟩) ?_ ?_
                      rotate_left
                      · intro w'
                        go_simp
                        with_reducible rfl
                      rotate_left
                      · simp only [Act.put, List.setIfInBounds_toArray, List.set_cons_zero, List.set_cons_succ, i64_w, i32_w]
                        rfl
                      refine pure_ (i := 1) (N := some 128) (v := ?_) (a' := ?_) #[true, true, false, false, false, false, false, false, false, false, false, false, false, false, false, false] rfl rfl (by kernel_rfl) (fun _ _ _ h => h) (Or.inl ⟨by rfl, ?_⟩) ?_ ?_
                      rotate_left
                      · intro w'
                        go_simp
                        with_reducible rfl
                      rotate_left
                      · simp only [Act.put, List.setIfInBounds_toArray, List.set_cons_zero, List.set_cons_succ, i64_w, i32_w]
                        rfl
                      refine pure_ (i := 2) (N := some 129) (v := ?_) (a' := ?_) #[true, true, true, false, false, false, false, false, false, false, false, false, false, false, false, false] rfl rfl (by kernel_rfl) (fun _ _ _ h => h) (Or.inl ⟨by rfl, ?_⟩) ?_ ?_
                      rotate_left
                      · intro w'
                        go_simp
                        with_reducible rfl
                      rotate_left
                      · simp only [Act.put, List.setIfInBounds_toArray, List.set_cons_zero, List.set_cons_succ, i64_w, i32_w]
                        rfl
                      refine pure_ (i := 3) (N := some 130) (v := ?_) (a' := ?_) #[true, true, true, true, false, false, false, false, false, false, false, false, false, false, false, false] rfl rfl (by kernel_rfl) (fun _ _ _ h => h) (Or.inl ⟨by rfl, ?_⟩) ?_ ?_
                      rotate_left
                      · intro w'
                        go_simp
                        with_reducible rfl
                      rotate_left
                      · simp only [Act.put, List.setIfInBounds_toArray, List.set_cons_zero, List.set_cons_succ, i64_w, i32_w]
                        rfl
                      refine take_ (i := 4) (N := some 131) (v := ?_) (a' := ?_) #[true, true, true, true, true, false, false, false, false, false, false, false, false, false, false, false] rfl rfl (by kernel_rfl) (fun _ _ _ h => h) (Or.inl ⟨by rfl, ?_⟩) hHeld ?_ ?_
                      rotate_left
                      · intro w' s0; have q3 := (s0.cell (p := ⟨(a.add (i * 2)).block, (a.add (i * 2)).off + (0 + 1), none⟩) HLn.out).trans HCn.out
                        go_simp
                        with_reducible rfl
                      rotate_left
                      · simp only [Act.put, List.setIfInBounds_toArray, List.set_cons_zero, List.set_cons_succ, i64_w, i32_w]
                        rfl
                      refine pure_ (i := 5) (N := some 132) (v := ?_) (a' := ?_) #[true, true, true, true, true, true, false, false, false, false, false, false, false, false, false, false] rfl rfl (by kernel_rfl) (fun _ _ _ h => h) (Or.inl ⟨by rfl, ?_⟩) ?_ ?_
                      rotate_left
                      · intro w'
                        go_simp
                        with_reducible rfl
                      rotate_left
                      · simp only [Act.put, List.setIfInBounds_toArray, List.set_cons_zero, List.set_cons_succ, i64_w, i32_w]
                        rfl
                      refine pure_ (i := 6) (N := some 133) (v := ?_) (a' := ?_) #[true, true, true, true, true, true, true, false, false, false, false, false, false, false, false, false] rfl rfl (by kernel_rfl) (fun _ _ _ h => h) (Or.inl ⟨by rfl, ?_⟩) ?_ ?_
                      rotate_left
                      · intro w'
                        go_simp
                        with_reducible rfl
                      rotate_left
                      · simp only [Act.put, List.setIfInBounds_toArray, List.set_cons_zero, List.set_cons_succ, i64_w, i32_w]
                        rfl
                      refine pure_ (i := 7) (N := some 134) (v := undef) (a' := ?_) #[true, true, true, true, true, true, true, true, false, false, false, false, false, false, false, false] rfl rfl (by kernel_rfl) (fun _ _ _ h => h) (Or.inr ⟨by rfl, rfl⟩) ?_ ?_
                      rotate_left
                      · simp only [Act.put, List.setIfInBounds_toArray, List.set_cons_zero, List.set_cons_succ, i64_w, i32_w]
                        rfl
                      refine pure_ (i := 8) (N := some 135) (v := undef) (a' := ?_) #[true, true, true, true, true, true, true, true, true, false, false, false, false, false, false, false] rfl rfl (by kernel_rfl) (fun _ _ _ h => h) (Or.inr ⟨by rfl, rfl⟩) ?_ ?_
                      rotate_left
                      · simp only [Act.put, List.setIfInBounds_toArray, List.set_cons_zero, List.set_cons_succ, i64_w, i32_w]
                        rfl
                      refine pure_ (i := 9) (N := some 136) (v := undef) (a' := ?_) #[true, true, true, true, true, true, true, true, true, true, false, false, false, false, false, false] rfl rfl (by kernel_rfl) (fun _ _ _ h => h) (Or.inr ⟨by rfl, rfl⟩) ?_ ?_
                      rotate_left
                      · simp only [Act.put, List.setIfInBounds_toArray, List.set_cons_zero, List.set_cons_succ, i64_w, i32_w]
                        rfl
                      refine pure_ (i := 10) (N := some 137) (v := undef) (a' := ?_) #[true, true, true, true, true, true, true, true, true, true, true, false, false, false, false, false] rfl rfl (by kernel_rfl) (fun _ _ _ h => h) (Or.inr ⟨by rfl, rfl⟩) ?_ ?_
                      rotate_left
                      · simp only [Act.put, List.setIfInBounds_toArray, List.set_cons_zero, List.set_cons_succ, i64_w, i32_w]
                        rfl
                      refine pure_ (i := 11) (N := some 138) (v := undef) (a' := ?_) #[true, true, true, true, true, true, true, true, true, true, true, true, false, false, false, false] rfl rfl (by kernel_rfl) (fun _ _ _ h => h) (Or.inr ⟨by rfl, rfl⟩) ?_ ?_
                      rotate_left
                      · simp only [Act.put, List.setIfInBounds_toArray, List.set_cons_zero, List.set_cons_succ, i64_w, i32_w]
                        rfl
                      refine pure_ (i := 12) (N := some 139) (v := undef) (a' := ?_) #[true, true, true, true, true, true, true, true, true, true, true, true, true, false, false, false] rfl rfl (by kernel_rfl) (fun _ _ _ h => h) (Or.inr ⟨by rfl, rfl⟩) ?_ ?_
                      rotate_left
                      · simp only [Act.put, List.setIfInBounds_toArray, List.set_cons_zero, List.set_cons_succ, i64_w, i32_w]
                        rfl
                      refine pure_ (i := 13) (N := some 140) (v := undef) (a' := ?_) #[true, true, true, true, true, true, true, true, true, true, true, true, true, true, false, false] rfl rfl (by kernel_rfl) (fun _ _ _ h => h) (Or.inr ⟨by rfl, rfl⟩) ?_ ?_
                      rotate_left
                      · simp only [Act.put, List.setIfInBounds_toArray, List.set_cons_zero, List.set_cons_succ, i64_w, i32_w]
                        rfl
                      refine pure_ (i := 14) (N := some 141) (v := undef) (a' := ?_) #[true, true, true, true, true, true, true, true, true, true, true, true, true, true, true, false] rfl rfl (by kernel_rfl) (fun _ _ _ h => h) (Or.inr ⟨by rfl, rfl⟩) ?_ ?_
                      rotate_left
                      · simp only [Act.put, List.setIfInBounds_toArray, List.set_cons_zero, List.set_cons_succ, i64_w, i32_w]
                        rfl
                      refine pure_ (i := 15) (N := some 142) (v := ?_) (a' := ?_) #[true, true, true, true, true, true, true, true, true, true, true, true, true, true, true, true] rfl rfl (by kernel_rfl) (fun _ _ _ h => h) (Or.inl ⟨by rfl, ?_⟩) ?_ ?_
                      rotate_left
                      · intro w'
                        go_simp
                        with_reducible rfl
                      rotate_left
                      · simp only [Act.put, List.setIfInBounds_toArray, List.set_cons_zero, List.set_cons_succ, i64_w, i32_w]
                        rfl
                      refine done_ (by kernel_rfl) ?_
                      have HJ1 := HJd
                      go_wp2_with fail
                      (with_reducible refine (tickc_gc HJ1.out).mono ?_)
                      rintro e Wt ⟨rfl, ht⟩
                      have HT := Aside0.mk ht
                      clear ht
                      go_wp2
                      go_roundg jk
                      case measure => omega
                      case rel => exact ⟨j + 1, next_i (by have := HJI.out; have := HM.out; omega), ⟨by have := HJI.out; omega⟩, ⟨⟨_, HT.out, by rw [HL3.out]; omega⟩⟩⟩
    · have hlb : decide (i < ls.length) = false := decide_eq_false hlt
      clear hlt hgs
      go_wp2
      go_ret
      exact ⟨rfl, HX0.out.bel⟩
end Go.Proofs.Ytigcgdamipeidaa.Bkt
