/- The reference share's Turn, walked. -/
import Derived.Test.YtigcgdamipeidaaTuB
import Derived.Outline
namespace Go.Proofs.Ytigcgdamipeidaa.Rf
open Go.RowKit Go.Proofs.YtigcgdamipeidaaW.PrintWords Go.Proofs.YtigcgdamipeidaaW.PrintLast Go.Proofs.YtigcgdamipeidaaW.PrintMore Go.Proofs.Ytigcgdamipeidaa Go.Proofs.Ytigcgdamipeidaa.Q Go.Proofs.Ytigcgdamipeidaa.Shr
set_option linter.unusedVariables false
set_option linter.unusedSimpArgs false
set_option maxHeartbeats 8000000
set_option maxRecDepth 100000
theorem next_i {i : Nat} (h : i ≤ 40000) : Value.int .i64 (wrap64 ((i : Int) + 1)) = Value.int .i64 ((i + 1 : Nat) : Int) := by
  congr 1
  unfold wrap64
  omega
theorem int_at {W : World} {ok : Nat → Prop} {A : Option Addr} {l : List Int} (h : Kd.F (Kd.int .i64) W ok A l.length l) {k : Nat} {y : Int} (hy : l[k]? = some y) : ∃ ad, A = some ad ∧ W.cell? (ad.add k) = some (.int .i64 y) := by
  have hk := (List.getElem?_eq_some_iff.1 hy).1
  obtain ⟨ad, he, hc⟩ := Kd.at_int (Kd.F_now h) (k : Int) (by omega) (by omega)
  refine ⟨ad, he, ?_⟩
  rw [Int.toNat_natCast] at hc
  rw [hc]
  unfold rd
  rw [List.getD_eq_getElem?_getD, Int.toNat_natCast, hy]
  rfl
theorem sn_form {w : World} {B : Nat} {v : Value} {l : List (Int × Int)} (h : Qsn w B v l) : ∃ A n c, v = .slice A n c := by
  obtain ⟨A, c, he⟩ := sn_slice h
  exact ⟨A, _, c, he⟩
theorem of_next {f0 y : Int} {l : List Int} {k : Nat} (h : l[k]? = some y) : of f0 (l.take k) ++ [(f0, y)] = of f0 (l.take (k + 1)) := by
  obtain ⟨hk, rfl⟩ := List.getElem?_eq_some_iff.1 h
  unfold of
  rw [List.take_succ_eq_append_getElem hk, List.map_append]
  rfl
def T2 (w W : World) (P : Nat → Prop) (Q : Int) (A : Option Addr) (c : Nat) (l : List S45) (h : Nat) (x : S45) (A3 : Option Addr) (c3 : Nat) (c0 : Int) (lS : List S45) (lL : List (Int × Int)) (k : Nat) : Prop :=
  ∃ ck vS vL, T1 w W P Q A c l h lS (lL ++ of x.f0 (x.f3.take k)) 0 vS vL ∧ W.heap[h]? = some (.cells #[.int .i64 x.f0, .int .i64 x.f1, .int .i64 ck, .slice A3 x.f3.length c3] 45 (0, 0)) ∧ Tk c0 x.f3 k ck ∧ w.heap.size + 3 ≤ h
def TR (w W : World) (P : Nat → Prop) (Q : Int) (A : Option Addr) (c : Nat) (l : List S45) (i : Nat) : Prop := ∃ h vS vL, T1 w W P Q A c l h (rTo Q l i).1 (rTo Q l i).2.1 (tErr (rTo Q l i).2.2) vS vL
theorem turn_ref {Q : Int} {P : Nat → Prop} {A : Option Addr} {c : Nat} {l : List S45} (hf : RFit Q l) (w : World) (hv : Kd.V k45 45 w w.heap.size (fun k_ => P k_) (.slice A l.length c) l) :
    Calls Try.prog 16 #[.agg #[.int .i64 Q, .slice A l.length c]] w fun e w' => ∃ vS vL : Value, e = .returned (.agg #[.int .i64 Q, vS, vL, .int .i64 (tErr (rTo Q l l.length).2.2)]) ∧
      Kd.V k45 45 w' 0 (fun k_ => P k_ ∨ w.heap.size ≤ k_) vS (rTo Q l l.length).1 ∧ Qsn w' w.heap.size vL (rTo Q l l.length).2.1 ∧ Below w.heap.size w w' := by
  have HF := Aside0.mk hf
  have HV := Aside0.mk (Kd.V_bound hv)
  have HLL : Aside0 (l.length ≤ 15) := ⟨hf.len⟩
  clear hf hv
  go_enter Try.func16, Try.ntmps16
  go_wp2_with fail
  obtain ⟨W3, hW3⟩ : ∃ W3, ((w.alloc (.cells #[.int .i64 Q, .slice A l.length c] 28 (0, 0))).alloc (.cells #[.int .i64 0, .slice none 0 0, .slice none 0 0, .int .i64 0] 37 (0, 0))).alloc (.cells #[.int .i64 Q, .slice A l.length c, .slice none 0 0, .int .i64 4] 37 (0, 0)) = W3 := ⟨_, rfl⟩
  have H0 : Aside0 (TR w W3 P Q A c l 0) := by
    have e1 : Below w.heap.size w W3 := by rw [← hW3]; exact below_alloc (below_alloc (below_alloc (Below.refl _ _) _) _) _
    refine ⟨⟨w.heap.size, .slice A l.length c, .slice none 0 0, e1, by rw [← hW3]; simp, ?_, ?_, ?_, ?_, Qsn_nil _ _⟩⟩
    · rw [← hW3]
      exact blk_alloc (blk_alloc (blk_new w _) _) _
    · rw [← hW3]
      have := blk_new (w.alloc (.cells #[.int .i64 Q, .slice A l.length c] 28 (0, 0))) (.cells #[.int .i64 0, .slice none 0 0, .slice none 0 0, .int .i64 0] 37 (0, 0))
      exact blk_alloc (by simpa using this) _
    · rw [← hW3]
      have := blk_new ((w.alloc (.cells #[.int .i64 Q, .slice A l.length c] 28 (0, 0))).alloc (.cells #[.int .i64 0, .slice none 0 0, .slice none 0 0, .int .i64 0] 37 (0, 0))) (.cells #[.int .i64 Q, .slice A l.length c, .slice none 0 0, .int .i64 4] 37 (0, 0))
      simpa [tErr, rTo] using this
    · exact Kd.V_mono (Kd.V_below HV.out e1) (fun k hk => ⟨⟨.inl hk, by have := hk.2; omega⟩, by simp [Value.ownBlock]⟩)
  rw [hW3]
  clear hW3
  go_loopg [4] l.length (fun iq v4 w' => ∃ i : Nat, v4 = .int .i64 (i : Int) ∧ Aside0 (i + iq = l.length) ∧ Aside0 (TR w w' P Q A c l i))
  case atStart => exact ⟨0, rfl, ⟨by omega⟩, H0⟩
  case round =>
    obtain ⟨i, rfl, HI, HR⟩ := hrel
    clear H0
    obtain ⟨h, vS, vL, ht⟩ := HR.out
    have HT := Aside0.mk ht
    have x1 : wr.cell? ⟨w.heap.size, 0, none⟩ = some (.int .i64 Q) := blk_cell ht.b1 0
    have x2 : wr.cell? ⟨w.heap.size, 1, none⟩ = some (.slice A l.length c) := blk_cell ht.b1 1
    have y0 : wr.cell? ⟨w.heap.size + 2, 0, none⟩ = some (.int .i64 Q) := blk_cell ht.b3 0
    have y1 : wr.cell? ⟨w.heap.size + 2, 1, none⟩ = some vS := blk_cell ht.b3 1
    have y2 : wr.cell? ⟨w.heap.size + 2, 2, none⟩ = some vL := blk_cell ht.b3 2
    have y3 : wr.cell? ⟨w.heap.size + 2, 3, none⟩ = some (.int .i64 (tErr (rTo Q l i).2.2)) := blk_cell ht.b3 3
    have fy := fun j => blk_frozen ht.b3 j
    have sz := ht.sz
    have sz0 : w.heap.size < wr.heap.size := by omega
    have sz2 : w.heap.size + 2 < wr.heap.size := by omega
    cases gk with
    | zero =>
      obtain rfl : i = l.length := by have := HI.out; omega
      have dl : decide (l.length < l.length) = false := decide_eq_false (by omega)
      have dli : decide ((l.length : Int) < (l.length : Int)) = false := decide_eq_false (by omega)
      clear x1 sz sz0 sz2
      have u0 : wr.cell? ⟨w.heap.size + 1, 0, none⟩ = some (.int .i64 0) := blk_cell HT.out.b2 0
      have u1 : wr.cell? ⟨w.heap.size + 1, 1, none⟩ = some (.slice none 0 0) := blk_cell HT.out.b2 1
      have u2 : wr.cell? ⟨w.heap.size + 1, 2, none⟩ = some (.slice none 0 0) := blk_cell HT.out.b2 2
      have u3 : wr.cell? ⟨w.heap.size + 1, 3, none⟩ = some (.int .i64 0) := blk_cell HT.out.b2 3
      have fu := fun j => blk_frozen HT.out.b2 j
      have HU := Aside0.mk HT.out.b2
      obtain ⟨A5, c5, rfl⟩ := Kd.V_slice HT.out.s
      obtain ⟨A6, n6, c6, rfl⟩ := sn_form HT.out.r
      go_wp2_with fail
      refine bodyPost_ret (results_cell_row rfl _ _ (w.heap.size + 1) 37 #[.int .i64 Q, .slice A5 (rTo Q l l.length).1.length c5, .slice A6 n6 c6, .int .i64 (tErr (rTo Q l l.length).2.2)] (0, 0) _ rfl (blk_put (blk_put (blk_put (blk_put HU.out 0 _ rfl) 1 _ rfl) 2 _ rfl) 3 _ rfl) Try.underlying37 rfl (by kernel_rfl)) rfl ?_
      have hne : ∀ k, okT w P h (.slice A6 n6 c6) k → k ≠ w.heap.size + 1 := by
          intro k hk e
          have := hk.1.1
          omega
      have hr := q_lower (base' := w.heap.size) HT.out.r (by omega)
      have hst : ∀ (W : World) (j : Nat) (u : Value), Qsn W (w.heap.size + 3) (.slice A6 n6 c6) (rTo Q l l.length).2.1 → Qsn (W.setCell ⟨w.heap.size + 1, j, none⟩ u) (w.heap.size + 3) (.slice A6 n6 c6) (rTo Q l l.length).2.1 := fun W j u hq => q_move hq (fun k hk => Below.heap_setCell W ⟨w.heap.size + 1, j, none⟩ u k (fun e => by
          have := (q_typed hq k hk).1
          have e' : k = w.heap.size + 1 := e
          omega))
      refine ⟨.slice A5 (rTo Q l l.length).1.length c5, .slice A6 n6 c6, rfl, Kd.V_mono (Kd.V_far (Kd.V_far (Kd.V_far (Kd.V_far HT.out.s hne _) hne _) hne _) hne _) (fun k hk => ?_), q_lower (hst _ _ _ (hst _ _ _ (hst _ _ _ (hst _ _ _ HT.out.r)))) (by omega), ?_⟩
      · rcases hk.1.1 with h1 | h1
        · exact .inl h1.1
        · exact .inr (by omega)
      · have b1 : ∀ (W : World) (j : Nat) (u : Value), Below w.heap.size w W → Below w.heap.size w (W.setCell ⟨w.heap.size + 1, j, none⟩ u) := fun W j u hb => hb.setCell (p := ⟨w.heap.size + 1, j, none⟩) (Nat.le_succ _) u
        exact b1 _ _ _ (b1 _ _ _ (b1 _ _ _ (b1 _ _ _ HT.out.bel)))
    | succ iq =>
      have hil : i < l.length := by have := HI.out; omega
      have dl : decide (i < l.length) = true := decide_eq_true hil
      obtain ⟨x, hx⟩ : ∃ x, l[i]? = some x := ⟨l[i], List.getElem?_eq_getElem hil⟩
      have HX := Aside0.mk hx
      obtain ⟨a, A3, c3, rfl, q0', q1', q2', q3', l3, g3⟩ := el45 HV.out hx
      have q0 := pw_cell_below ht.bel q0'
      have q1 := pw_cell_below ht.bel q1'
      have q2 := pw_cell_below ht.bel q2'
      have q3 := pw_cell_below ht.bel q3'
      clear q0' q1' q2' q3'
      have HE := Aside0.mk (HF.out.el x (List.mem_of_getElem? hx))
      have HG3 := Aside0.mk g3
      have HL3 := Aside0.mk l3
      clear ht g3 hx l3
      by_cases he : x.f3 = []
      · have hel : x.f3.length = 0 := by rw [he]; rfl
        rw [he] at q3
        simp only [List.length_nil] at q3
        clear hel
        have HE0 := Aside0.mk he
        go_wp2
        go_roundg iq
        case measure => omega
        case rel =>
            refine ⟨i + 1, next_i (by have := HLL.out; have := HI.out; omega), ⟨by have := HI.out; omega⟩, ⟨⟨h, vS, vL, ?_⟩⟩⟩
            have e1 := rTo_next (Q := Q) HX.out
            unfold rStep at e1
            rw [if_pos HE0.out] at e1
            rw [e1]
            exact HT.out.step (below_alloc (Below.refl _ _) _)
      · have hne : ((x.f3.length : Int) == 0) = false := by rw [beq_eq_false_iff_ne]; have := List.length_pos_iff.2 he; omega
        have hne2 : ¬ (x.f3 = []) := he
        have HNE := Aside0.mk he
        obtain ⟨m, hm⟩ : ∃ m, x.f1 * Q = m := ⟨_, rfl⟩
        have hmb : 0 ≤ m ∧ m ≤ 1048576 := by
            have h1 := HE.out.1
            have h2 := HF.out.q
            have h3 : x.f1 * Q ≤ 16 * 65536 := Int.mul_le_mul h1.2 h2.2 (by omega) (by omega)
            have h4 : 0 ≤ x.f1 * Q := Int.mul_nonneg (by omega) (by omega)
            omega
        have f1 : wrap64 (x.f1 * Q) = m := by rw [hm]; unfold wrap64; omega
        obtain ⟨s, hs⟩ : ∃ s, x.f2 + m = s := ⟨_, rfl⟩
        have hsb : 0 ≤ s ∧ s ≤ 20000000 := by have := HE.out.2.1; omega
        have f2 : wrap64 (x.f2 + m) = s := by rw [hs]; unfold wrap64; omega
        have HMS : Aside0 (mn (x.f2 + x.f1 * Q) 16777216 = mn s 16777216) := ⟨by rw [hm, hs]⟩
        have HSB := Aside0.mk hsb
        clear hm hs hmb hsb he
        by_cases hcap : 16777216 < s
        · skip
          have dc : decide (16777216 < s) = true := decide_eq_true hcap
          have HC0 : Aside0 (mn (x.f2 + x.f1 * Q) 16777216 = (16777216 : Int) ∧ 0 ≤ (16777216 : Int) ∧ (16777216 : Int) ≤ 16777216) := ⟨by rw [HMS.out]; have := HSB.out; unfold mn; split <;> omega⟩
          clear hcap
          go_wp2_with fail
          have H5 : Aside0 (T2 w ((wr.setCell ⟨w.heap.size + 1 + 1, 3, none⟩ (.int .i64 0)).alloc (.cells #[.int .i64 x.f0, .int .i64 x.f1, .int .i64 ((16777216 : Int)), .slice A3 x.f3.length c3] 45 (0, 0))) P Q (some a) c l wr.heap.size x A3 c3 ((16777216 : Int)) (rTo Q l i).1 (rTo Q l i).2.1 0) := by
              have hsz : (wr.setCell ⟨w.heap.size + 2, 3, none⟩ (.int .i64 0)).heap.size = wr.heap.size := by simp [World.setCell]
              have t1 := (HT.out.out 3 (.int .i64 0) rfl HT.out.s HT.out.r).apart wr.heap.size (Nat.le_of_eq hsz)
              have t2 := t1.step (below_alloc (Below.refl _ _) (.cells #[.int .i64 x.f0, .int .i64 x.f1, .int .i64 ((16777216 : Int)), .slice A3 x.f3.length c3] 45 (0, 0)))
              have nb := blk_new (wr.setCell ⟨w.heap.size + 2, 3, none⟩ (.int .i64 0)) (.cells #[.int .i64 x.f0, .int .i64 x.f1, .int .i64 ((16777216 : Int)), .slice A3 x.f3.length c3] 45 (0, 0))
              rw [hsz] at nb
              exact ⟨((16777216 : Int)), vS, vL, by simpa [of] using t2, nb, tk_start x.f3 HC0.out.2, HT.out.sz⟩
          obtain ⟨h5, hh5⟩ : ∃ h5, h5 = wr.heap.size := ⟨_, rfl⟩
          rw [← hh5] at H5 ⊢
          clear hh5
          go_loopg [6] x.f3.length (fun kq v6 w' => ∃ k : Nat, v6 = .int .i64 (k : Int) ∧ Aside0 (k + kq = x.f3.length) ∧ Aside0 (T2 w w' P Q (some a) c l h5 x A3 c3 ((16777216 : Int)) (rTo Q l i).1 (rTo Q l i).2.1 k))
          case atStart => exact ⟨0, rfl, ⟨by omega⟩, H5⟩
          case round =>
            obtain ⟨k, rfl, HK, HR2⟩ := hrel
            clear H5
            obtain ⟨ck, vT, vM, ht, hb5, htk, hh5⟩ := HR2.out
            have HT2 := Aside0.mk ht
            have HB5 := Aside0.mk hb5
            have HTK := Aside0.mk htk
            have HH5 := Aside0.mk hh5
            have z0 : wr.cell? ⟨h5, 0, none⟩ = some (.int .i64 x.f0) := blk_cell hb5 0
            have z1 : wr.cell? ⟨h5, 1, none⟩ = some (.int .i64 x.f1) := blk_cell hb5 1
            have z2 : wr.cell? ⟨h5, 2, none⟩ = some (.int .i64 ck) := blk_cell hb5 2
            have z3 : wr.cell? ⟨h5, 3, none⟩ = some (.slice A3 x.f3.length c3) := blk_cell hb5 3
            have fz := fun j => blk_frozen hb5 j
            clear htk hh5
            cases gk with
            | zero =>
              obtain rfl : k = x.f3.length := by have := HK.out; omega
              have kl : decide (x.f3.length < x.f3.length) = false := decide_eq_false (by omega)
              have kli : decide ((x.f3.length : Int) < (x.f3.length : Int)) = false := decide_eq_false (by omega)
              clear ht hb5
              go_wp2
              refine start_ (n := 15) (S := fun w' => w'.cell? ⟨h5, 3, none⟩ = some (.slice A3 x.f3.length c3)) (ds := []) #[false, false, false, false, false, false, false, false, false, false, false, false, false, false, false] (by kernel_rfl) rfl rfl (z3) (fun hHeld => ?_)
              refine pure_ (i := 0) (N := some 39) (v := ?_) (a' := ?_) #[true, false, false, false, false, false, false, false, false, false, false, false, false, false, false] rfl rfl (by kernel_rfl) (fun _ _ _ h => h) (Or.inl ⟨by rfl, ?_⟩) ?_ ?_
              rotate_left
              · intro w'
                go_simp
                with_reducible rfl
              rotate_left
              · simp only [Act.put, List.setIfInBounds_toArray, List.set_cons_zero, List.set_cons_succ, i64_w, i32_w]
                rfl
              refine pure_ (i := 1) (N := some 40) (v := ?_) (a' := ?_) #[true, true, false, false, false, false, false, false, false, false, false, false, false, false, false] rfl rfl (by kernel_rfl) (fun _ _ _ h => h) (Or.inl ⟨by rfl, ?_⟩) ?_ ?_
              rotate_left
              · intro w'
                go_simp
                with_reducible rfl
              rotate_left
              · simp only [Act.put, List.setIfInBounds_toArray, List.set_cons_zero, List.set_cons_succ, i64_w, i32_w]
                rfl
              refine take_ (i := 2) (N := some 41) (v := ?_) (a' := ?_) #[true, true, true, false, false, false, false, false, false, false, false, false, false, false, false] rfl rfl (by kernel_rfl) (fun _ _ _ h => h) (Or.inl ⟨by rfl, ?_⟩) hHeld ?_ ?_
              rotate_left
              · intro w' s0
                go_simp
                with_reducible rfl
              rotate_left
              · simp only [Act.put, List.setIfInBounds_toArray, List.set_cons_zero, List.set_cons_succ, i64_w, i32_w]
                rfl
              refine pure_ (i := 3) (N := some 42) (v := ?_) (a' := ?_) #[true, true, true, true, false, false, false, false, false, false, false, false, false, false, false] rfl rfl (by kernel_rfl) (fun _ _ _ h => h) (Or.inl ⟨by rfl, ?_⟩) ?_ ?_
              rotate_left
              · intro w'
                go_simp
                with_reducible rfl
              rotate_left
              · simp only [Act.put, List.setIfInBounds_toArray, List.set_cons_zero, List.set_cons_succ, i64_w, i32_w]
                rfl
              refine pure_ (i := 4) (N := some 43) (v := ?_) (a' := ?_) #[true, true, true, true, true, false, false, false, false, false, false, false, false, false, false] rfl rfl (by kernel_rfl) (fun _ _ _ h => h) (Or.inl ⟨by rfl, ?_⟩) ?_ ?_
              rotate_left
              · intro w'
                go_simp
                with_reducible rfl
              rotate_left
              · simp only [Act.put, List.setIfInBounds_toArray, List.set_cons_zero, List.set_cons_succ, i64_w, i32_w]
                rfl
              refine pure_ (i := 5) (N := some 44) (v := ?_) (a' := ?_) #[true, true, true, true, true, true, false, false, false, false, false, false, false, false, false] rfl rfl (by kernel_rfl) (fun _ _ _ h => h) (Or.inl ⟨by rfl, ?_⟩) ?_ ?_
              rotate_left
              · intro w'
                go_simp
                with_reducible rfl
              rotate_left
              · simp only [Act.put, List.setIfInBounds_toArray, List.set_cons_zero, List.set_cons_succ, i64_w, i32_w]
                rfl
              refine pure_ (i := 6) (N := some 45) (v := undef) (a' := ?_) #[true, true, true, true, true, true, true, false, false, false, false, false, false, false, false] rfl rfl (by kernel_rfl) (fun _ _ _ h => h) (Or.inr ⟨by rfl, rfl⟩) ?_ ?_
              rotate_left
              · simp only [Act.put, List.setIfInBounds_toArray, List.set_cons_zero, List.set_cons_succ, i64_w, i32_w]
                rfl
              refine pure_ (i := 7) (N := some 46) (v := undef) (a' := ?_) #[true, true, true, true, true, true, true, true, false, false, false, false, false, false, false] rfl rfl (by kernel_rfl) (fun _ _ _ h => h) (Or.inr ⟨by rfl, rfl⟩) ?_ ?_
              rotate_left
              · simp only [Act.put, List.setIfInBounds_toArray, List.set_cons_zero, List.set_cons_succ, i64_w, i32_w]
                rfl
              refine pure_ (i := 8) (N := some 47) (v := undef) (a' := ?_) #[true, true, true, true, true, true, true, true, true, false, false, false, false, false, false] rfl rfl (by kernel_rfl) (fun _ _ _ h => h) (Or.inr ⟨by rfl, rfl⟩) ?_ ?_
              rotate_left
              · simp only [Act.put, List.setIfInBounds_toArray, List.set_cons_zero, List.set_cons_succ, i64_w, i32_w]
                rfl
              refine pure_ (i := 9) (N := some 48) (v := undef) (a' := ?_) #[true, true, true, true, true, true, true, true, true, true, false, false, false, false, false] rfl rfl (by kernel_rfl) (fun _ _ _ h => h) (Or.inr ⟨by rfl, rfl⟩) ?_ ?_
              rotate_left
              · simp only [Act.put, List.setIfInBounds_toArray, List.set_cons_zero, List.set_cons_succ, i64_w, i32_w]
                rfl
              refine pure_ (i := 10) (N := some 49) (v := undef) (a' := ?_) #[true, true, true, true, true, true, true, true, true, true, true, false, false, false, false] rfl rfl (by kernel_rfl) (fun _ _ _ h => h) (Or.inr ⟨by rfl, rfl⟩) ?_ ?_
              rotate_left
              · simp only [Act.put, List.setIfInBounds_toArray, List.set_cons_zero, List.set_cons_succ, i64_w, i32_w]
                rfl
              refine pure_ (i := 11) (N := some 50) (v := undef) (a' := ?_) #[true, true, true, true, true, true, true, true, true, true, true, true, false, false, false] rfl rfl (by kernel_rfl) (fun _ _ _ h => h) (Or.inr ⟨by rfl, rfl⟩) ?_ ?_
              rotate_left
              · simp only [Act.put, List.setIfInBounds_toArray, List.set_cons_zero, List.set_cons_succ, i64_w, i32_w]
                rfl
              refine pure_ (i := 12) (N := some 51) (v := undef) (a' := ?_) #[true, true, true, true, true, true, true, true, true, true, true, true, true, false, false] rfl rfl (by kernel_rfl) (fun _ _ _ h => h) (Or.inr ⟨by rfl, rfl⟩) ?_ ?_
              rotate_left
              · simp only [Act.put, List.setIfInBounds_toArray, List.set_cons_zero, List.set_cons_succ, i64_w, i32_w]
                rfl
              refine pure_ (i := 13) (N := some 52) (v := undef) (a' := ?_) #[true, true, true, true, true, true, true, true, true, true, true, true, true, true, false] rfl rfl (by kernel_rfl) (fun _ _ _ h => h) (Or.inr ⟨by rfl, rfl⟩) ?_ ?_
              rotate_left
              · simp only [Act.put, List.setIfInBounds_toArray, List.set_cons_zero, List.set_cons_succ, i64_w, i32_w]
                rfl
              refine pure_ (i := 14) (N := some 53) (v := ?_) (a' := ?_) #[true, true, true, true, true, true, true, true, true, true, true, true, true, true, true] rfl rfl (by kernel_rfl) (fun _ _ _ h => h) (Or.inl ⟨by rfl, ?_⟩) ?_ ?_
              rotate_left
              · intro w'
                go_simp
                with_reducible rfl
              rotate_left
              · simp only [Act.put, List.setIfInBounds_toArray, List.set_cons_zero, List.set_cons_succ, i64_w, i32_w]
                rfl
              refine done_ (by kernel_rfl) ?_
              clear hHeld
              obtain ⟨i0, hi0, hzz⟩ := Option.map_eq_some_iff.1 Shr.info3
              simp only [Prod.mk.injEq] at hzz
              have hcut := cut_from (P := Try.prog) 43 3 .i64 Try.underlying43 hi0 1 hzz.2.1 A3 x.f3.length c3 (x.f3.length : Int) (by omega) (by have := HTK.out.2.1; omega)
              have hfc := Kd.F_cut (m := x.f3.length) HG3.out HTK.out.2.1 HL3.out
              simp only [Int.toNat_natCast, Nat.mul_one] at hcut
              have hfc' : Kd.F (Kd.int .i64) w (fun k => P k ∧ k < w.heap.size) (if c3 = x.f3.length then A3 else A3.map (·.add x.f3.length)) (x.f3.drop x.f3.length).length (x.f3.drop x.f3.length) := by
                have h1 := hfc
                rw [show (Kd.int .i64).sz = 1 from rfl, Nat.mul_one] at h1
                exact h1
              clear hfc
              generalize hA4 : (if c3 = x.f3.length then A3 else A3.map (·.add x.f3.length)) = A4 at hcut hfc'
              have HFC := Aside0.mk hfc'
              clear hfc' hA4 hzz hi0
              obtain ⟨lf, hlf⟩ : ∃ lf, x.f3.drop x.f3.length = lf := ⟨_, rfl⟩
              obtain ⟨n4, hn4⟩ : ∃ n4, x.f3.length - x.f3.length = n4 := ⟨_, rfl⟩
              obtain ⟨c4, hc4⟩ : ∃ c4, c3 - x.f3.length = c4 := ⟨_, rfl⟩
              have hln : n4 = lf.length := by rw [← hlf, ← hn4, List.length_drop]
              have hlc : lf.length ≤ c4 := by rw [← hln, ← hn4, ← hc4]; have := HL3.out; omega
              have hz4 : n4 = 0 := by omega
              subst hz4
              have HRT : Aside0 (rT Q x = (0, lf, x.f3)) := ⟨by unfold rT; rw [HC0.out.1, tk_end HTK.out, ← hlf, List.drop_length]⟩
              have HLF := Aside0.mk hlf
              have HLN4 := Aside0.mk hln
              have HLC := Aside0.mk hlc
              rw [hn4, hc4] at hcut
              clear hlf hn4 hc4 hln hlc
              obtain ⟨A5, c5, rfl⟩ := Kd.V_slice HT2.out.s
              have w0 : wr.cell? ⟨w.heap.size + 1 + 1, 0, none⟩ = some (.int .i64 Q) := blk_cell HT2.out.b3 0
              have w1' : wr.cell? ⟨w.heap.size + 1 + 1, 1, none⟩ = some (.slice A5 (rTo Q l i).1.length c5) := blk_cell HT2.out.b3 1
              have fw := fun j => blk_frozen HT2.out.b3 j
              have hne5 : h5 ≠ w.heap.size + 1 + 1 := by have := HH5.out; omega
              have hne6 : w.heap.size + 1 + 1 ≠ h5 := by have := HH5.out; omega
              go_wp2_with fail
              have tx0 := (HT2.out.set HB5.out (by decide) HH5.out 3 (.slice A4 0 c4)).set (blk_put HB5.out 3 (.slice A4 0 c4) rfl) (by decide) HH5.out 2 (.int .i64 0)
              have bx0 := blk_put (blk_put HB5.out 3 (.slice A4 0 c4) rfl) 2 (.int .i64 0) rfl
              have tx := tx0.step (Below.refl _ _).drew
              have hx5 := blk_lt (w := ((wr.setCell ⟨h5, 3, none⟩ (.slice A4 0 c4)).setCell ⟨h5, 2, none⟩ (.int .i64 0)).drew) bx0
              clear tx0 bx0
              generalize ((wr.setCell ⟨h5, 3, none⟩ (.slice A4 0 c4)).setCell ⟨h5, 2, none⟩ (.int .i64 0)).drew = Wx at tx hx5 ⊢
              have hq := Kd.V_mk (e := 3) (base := Wx.heap.size) HLC.out (show Kd.F (Kd.int .i64) Wx (fun k => P k ∧ k < w.heap.size) A4 lf.length lf from by have h1 := Kd.F_below HFC.out tx.bel; rw [HLF.out] at h1; exact h1)
              have hlen : (rTo Q l i).1.length ≤ 30 := by have h1 := rTo_len (Q := Q) (l := l) i; have h2 := HLL.out; have h3 := HI.out; omega
              have HWS := Aside0.mk (with_spec Q x.f0 x.f1 0 lf (l := (rTo Q l i).1) (k := 200) (by omega) (by omega))
              have HTX := Aside0.mk tx
              have HQ4 := Aside0.mk hq
              have HX5 := Aside0.mk hx5
              obtain rfl : lf = [] := List.eq_nil_of_length_eq_zero HLN4.out.symm
              clear tx hq hlen hx5
              refine (mosaicref30_Share_with.calls 200 Q _ A5 c5 (rTo Q l i).1 x.f0 x.f1 0 _ A4 c4 [] _ _ _ HTX.out.s HQ4.out HWS.out).mono ?_
              rintro e W9 ⟨v9, rfl, hn, hb9⟩
              have t9 := HTX.out.step hb9
              have r0 : W9.cell? ⟨w.heap.size + 1 + 1, 0, none⟩ = some (.int .i64 Q) := blk_cell t9.b3 0
              have r1 : W9.cell? ⟨w.heap.size + 1 + 1, 1, none⟩ = some (.slice A5 (rTo Q l i).1.length c5) := blk_cell t9.b3 1
              have fr := fun j => blk_frozen t9.b3 j
              obtain ⟨A9, c9, rfl⟩ := Kd.N_slice hn
              have hs9 : Kd.V k45 45 W9 0 (okT w P h5 vM) _ _ := Kd.V_mono (Kd.N_V (base' := 0) hn) (fun k hk => by
                  rcases hk with (h1 | h1) | h1
                  · exact h1
                  · refine ⟨⟨.inl h1, by have := HH5.out; omega⟩, fun e => ?_⟩
                    have := (q_typed HTX.out.r k e.symm).1
                    omega
                  · refine ⟨⟨.inr (by have := HTX.out.sz; omega), by have := HX5.out; omega⟩, fun e => ?_⟩
                    have := q_lt HTX.out.r k e.symm
                    omega)
              have T9 := Aside0.mk t9
              have HS9 := Aside0.mk hs9
              clear hn hb9 hs9 t9
              go_wp2
              have HZ : Aside0 (TR w ((W9.setCell ⟨w.heap.size + 1 + 1, 0, none⟩ (.int .i64 Q)).setCell ⟨w.heap.size + 1 + 1, 1, none⟩ (.slice A9 (withP ⟨x.f0, x.f1, 0, []⟩ false (rTo Q l i).1).length c9)) P Q (some a) c l (i + 1)) := by
                  have e1 := rTo_next (Q := Q) HX.out
                  have e2 : rStep Q (rTo Q l i) x = (withP ⟨x.f0, x.f1, 0, []⟩ false (rTo Q l i).1, (rTo Q l i).2.1 ++ of x.f0 x.f3, true) := by
                    unfold rStep rq
                    rw [if_neg HNE.out, HRT.out]
                  rw [e2] at e1
                  have u1 := T9.out.out 0 (.int .i64 Q) rfl T9.out.s T9.out.r
                  have u2 := u1.out 1 (.slice A9 (withP ⟨x.f0, x.f1, 0, []⟩ false (rTo Q l i).1).length c9) rfl (Kd.V_far (p := ⟨w.heap.size + 2, 0, none⟩) HS9.out (fun k hk => by
                    show k ≠ w.heap.size + 2
                    have := hk.1.1
                    omega) _) u1.r
                  rw [List.take_length] at u2
                  refine ⟨⟨h5, .slice A9 (withP ⟨x.f0, x.f1, 0, []⟩ false (rTo Q l i).1).length c9, vM, ?_⟩⟩
                  rw [e1]
                  exact u2
              go_roundg iq
              case measure => omega
              case rel => exact ⟨i + 1, next_i (by have := HLL.out; have := HI.out; omega), ⟨by have := HI.out; omega⟩, HZ⟩
            | succ kq =>
              have hk : k < x.f3.length := by have := HK.out; omega
              have kl : decide (k < x.f3.length) = true := decide_eq_true hk
              obtain ⟨y, hy⟩ : ∃ y, x.f3[k]? = some y := ⟨x.f3[k], List.getElem?_eq_getElem hk⟩
              have HY := Aside0.mk hy
              have HYB := Aside0.mk (HE.out.2.2.2 y (List.mem_of_getElem? hy))
              obtain ⟨ad, hA3, zy0⟩ := int_at HG3.out hy
              subst hA3
              have zy := pw_cell_below ht.bel zy0
              have HZ0 := Aside0.mk zy0
              clear hy zy0 ht hb5
              by_cases hle : y ≤ ck
              · have dle : decide (y ≤ ck) = true := decide_eq_true hle
                have HLE := Aside0.mk hle
                have sw : wrap64 (ck - y) = ck - y := by have h1 := HTK.out.2.2; have h2 := HYB.out; unfold wrap64; omega
                have gw : IntKind.i64.wrap (ck - y) = ck - y := (i64_w _).trans sw
                clear hle
                go_wp2
                refine start_ (n := 15) (S := fun w' => w'.cell? ⟨h5, 3, none⟩ = some (.slice (some ad) x.f3.length c3) ∧ w'.cell? (ad.add k) = some (.int .i64 y) ∧ w'.cell? ⟨h5, 2, none⟩ = some (.int .i64 ck)) (ds := []) #[false, false, false, false, false, false, false, false, false, false, false, false, false, false, false] (by kernel_rfl) rfl rfl ⟨z3, zy, z2⟩ (fun hHeld => ?_)
                refine pure_ (i := 0) (N := some 39) (v := ?_) (a' := ?_) #[true, false, false, false, false, false, false, false, false, false, false, false, false, false, false] rfl rfl (by kernel_rfl) (fun _ _ _ h => h) (Or.inl ⟨by rfl, ?_⟩) ?_ ?_
                rotate_left
                · intro w'
                  go_simp
                  with_reducible rfl
                rotate_left
                · simp only [Act.put, List.setIfInBounds_toArray, List.set_cons_zero, List.set_cons_succ, i64_w, i32_w]
                  rfl
                refine pure_ (i := 1) (N := some 40) (v := ?_) (a' := ?_) #[true, true, false, false, false, false, false, false, false, false, false, false, false, false, false] rfl rfl (by kernel_rfl) (fun _ _ _ h => h) (Or.inl ⟨by rfl, ?_⟩) ?_ ?_
                rotate_left
                · intro w'
                  go_simp
                  with_reducible rfl
                rotate_left
                · simp only [Act.put, List.setIfInBounds_toArray, List.set_cons_zero, List.set_cons_succ, i64_w, i32_w]
                  rfl
                refine take_ (i := 2) (N := some 41) (v := ?_) (a' := ?_) #[true, true, true, false, false, false, false, false, false, false, false, false, false, false, false] rfl rfl (by kernel_rfl) (fun _ _ _ h => h) (Or.inl ⟨by rfl, ?_⟩) hHeld ?_ ?_
                rotate_left
                · rintro w' ⟨s0, s1, s2⟩
                  go_simp
                  with_reducible rfl
                rotate_left
                · simp only [Act.put, List.setIfInBounds_toArray, List.set_cons_zero, List.set_cons_succ, i64_w, i32_w]
                  rfl
                refine pure_ (i := 3) (N := some 42) (v := ?_) (a' := ?_) #[true, true, true, true, false, false, false, false, false, false, false, false, false, false, false] rfl rfl (by kernel_rfl) (fun _ _ _ h => h) (Or.inl ⟨by rfl, ?_⟩) ?_ ?_
                rotate_left
                · intro w'
                  go_simp
                  with_reducible rfl
                rotate_left
                · simp only [Act.put, List.setIfInBounds_toArray, List.set_cons_zero, List.set_cons_succ, i64_w, i32_w]
                  rfl
                refine pure_ (i := 4) (N := some 43) (v := ?_) (a' := ?_) #[true, true, true, true, true, false, false, false, false, false, false, false, false, false, false] rfl rfl (by kernel_rfl) (fun _ _ _ h => h) (Or.inl ⟨by rfl, ?_⟩) ?_ ?_
                rotate_left
                · intro w'
                  go_simp
                  with_reducible rfl
                rotate_left
                · simp only [Act.put, List.setIfInBounds_toArray, List.set_cons_zero, List.set_cons_succ, i64_w, i32_w]
                  rfl
                refine pure_ (i := 5) (N := some 44) (v := ?_) (a' := ?_) #[true, true, true, true, true, true, false, false, false, false, false, false, false, false, false] rfl rfl (by kernel_rfl) (fun _ _ _ h => h) (Or.inl ⟨by rfl, ?_⟩) ?_ ?_
                rotate_left
                · intro w'
                  go_simp
                  with_reducible rfl
                rotate_left
                · simp only [Act.put, List.setIfInBounds_toArray, List.set_cons_zero, List.set_cons_succ, i64_w, i32_w]
                  rfl
                refine pure_ (i := 6) (N := some 45) (v := ?_) (a' := ?_) #[true, true, true, true, true, true, true, false, false, false, false, false, false, false, false] rfl rfl (by kernel_rfl) (fun _ _ _ h => h) (Or.inl ⟨by rfl, ?_⟩) ?_ ?_
                rotate_left
                · intro w'
                  go_simp
                  with_reducible rfl
                rotate_left
                · simp only [Act.put, List.setIfInBounds_toArray, List.set_cons_zero, List.set_cons_succ, i64_w, i32_w]
                  rfl
                refine pure_ (i := 8) (N := some 47) (v := ?_) (a' := ?_) #[true, true, true, true, true, true, true, false, true, false, false, false, false, false, false] rfl rfl (by kernel_rfl) (fun _ _ _ h => h) (Or.inl ⟨by rfl, ?_⟩) ?_ ?_
                rotate_left
                · intro w'
                  go_simp
                  with_reducible rfl
                rotate_left
                · simp only [Act.put, List.setIfInBounds_toArray, List.set_cons_zero, List.set_cons_succ, i64_w, i32_w]
                  rfl
                refine pure_ (i := 11) (N := some 50) (v := ?_) (a' := ?_) #[true, true, true, true, true, true, true, false, true, false, false, true, false, false, false] rfl rfl (by kernel_rfl) (fun _ _ _ h => h) (Or.inl ⟨by rfl, ?_⟩) ?_ ?_
                rotate_left
                · intro w'
                  go_simp
                  with_reducible rfl
                rotate_left
                · simp only [Act.put, List.setIfInBounds_toArray, List.set_cons_zero, List.set_cons_succ, i64_w, i32_w]
                  rfl
                refine take_ (i := 7) (N := some 46) (v := ?_) (a' := ?_) #[true, true, true, true, true, true, true, true, true, false, false, true, false, false, false] rfl rfl (by kernel_rfl) (fun _ _ _ h => h) (Or.inl ⟨by rfl, ?_⟩) hHeld ?_ ?_
                rotate_left
                · rintro w' ⟨s0, s1, s2⟩
                  go_simp
                  with_reducible rfl
                rotate_left
                · simp only [Act.put, List.setIfInBounds_toArray, List.set_cons_zero, List.set_cons_succ, i64_w, i32_w]
                  rfl
                refine pure_ (i := 9) (N := some 48) (v := ?_) (a' := ?_) #[true, true, true, true, true, true, true, true, true, true, false, true, false, false, false] rfl rfl (by kernel_rfl) (fun _ _ _ h => h) (Or.inl ⟨by rfl, ?_⟩) ?_ ?_
                rotate_left
                · intro w'
                  go_simp
                  with_reducible rfl
                rotate_left
                · simp only [Act.put, List.setIfInBounds_toArray, List.set_cons_zero, List.set_cons_succ, i64_w, i32_w]
                  rfl
                refine take_ (i := 10) (N := some 49) (v := ?_) (a' := ?_) #[true, true, true, true, true, true, true, true, true, true, true, true, false, false, false] rfl rfl (by kernel_rfl) (fun _ _ _ h => h) (Or.inl ⟨by rfl, ?_⟩) hHeld ?_ ?_
                rotate_left
                · rintro w' ⟨s0, s1, s2⟩
                  go_simp
                  with_reducible rfl
                rotate_left
                · simp only [Act.put, List.setIfInBounds_toArray, List.set_cons_zero, List.set_cons_succ, i64_w, i32_w]
                  rfl
                refine take_ (i := 12) (N := some 51) (v := ?_) (a' := ?_) #[true, true, true, true, true, true, true, true, true, true, true, true, true, false, false] rfl rfl (by kernel_rfl) (fun _ _ _ h => h) (Or.inl ⟨by rfl, ?_⟩) hHeld ?_ ?_
                rotate_left
                · rintro w' ⟨s0, s1, s2⟩
                  go_simp
                  with_reducible rfl
                rotate_left
                · simp only [Act.put, List.setIfInBounds_toArray, List.set_cons_zero, List.set_cons_succ, i64_w, i32_w]
                  rfl
                refine pure_ (i := 13) (N := some 52) (v := ?_) (a' := ?_) #[true, true, true, true, true, true, true, true, true, true, true, true, true, true, false] rfl rfl (by kernel_rfl) (fun _ _ _ h => h) (Or.inl ⟨by rfl, ?_⟩) ?_ ?_
                rotate_left
                · intro w'
                  go_simp
                  with_reducible rfl
                rotate_left
                · simp only [Act.put, List.setIfInBounds_toArray, List.set_cons_zero, List.set_cons_succ, i64_w, i32_w]
                  rfl
                refine pure_ (i := 14) (N := some 53) (v := ?_) (a' := ?_) #[true, true, true, true, true, true, true, true, true, true, true, true, true, true, true] rfl rfl (by kernel_rfl) (fun _ _ _ h => h) (Or.inl ⟨by rfl, ?_⟩) ?_ ?_
                rotate_left
                · intro w'
                  go_simp
                  with_reducible rfl
                rotate_left
                · simp only [Act.put, List.setIfInBounds_toArray, List.set_cons_zero, List.set_cons_succ, i64_w, i32_w]
                  rfl
                refine done_ (by kernel_rfl) ?_
                clear hHeld
                go_wp2
                refine start_ (n := 10) (S := fun w' => w'.cell? ⟨h5, 2, none⟩ = some (.int .i64 ck) ∧ w'.cell? ⟨h5, 3, none⟩ = some (.slice (some ad) x.f3.length c3) ∧ w'.cell? (ad.add k) = some (.int .i64 y)) (ds := [9]) #[false, false, false, false, false, false, false, false, false, false] (by kernel_rfl) rfl rfl ⟨z2, z3, zy⟩ (fun hHeld => ?_)
                refine pure_ (i := 0) (N := some 54) (v := ?_) (a' := ?_) #[true, false, false, false, false, false, false, false, false, false] rfl rfl (by kernel_rfl) (fun _ _ _ h => h) (Or.inl ⟨by rfl, ?_⟩) ?_ ?_
                rotate_left
                · intro w'
                  go_simp
                  with_reducible rfl
                rotate_left
                · simp only [Act.put, List.setIfInBounds_toArray, List.set_cons_zero, List.set_cons_succ, i64_w, i32_w]
                  rfl
                refine pure_ (i := 2) (N := some 56) (v := ?_) (a' := ?_) #[true, false, true, false, false, false, false, false, false, false] rfl rfl (by kernel_rfl) (fun _ _ _ h => h) (Or.inl ⟨by rfl, ?_⟩) ?_ ?_
                rotate_left
                · intro w'
                  go_simp
                  with_reducible rfl
                rotate_left
                · simp only [Act.put, List.setIfInBounds_toArray, List.set_cons_zero, List.set_cons_succ, i64_w, i32_w]
                  rfl
                refine pure_ (i := 4) (N := some 58) (v := ?_) (a' := ?_) #[true, false, true, false, true, false, false, false, false, false] rfl rfl (by kernel_rfl) (fun _ _ _ h => h) (Or.inl ⟨by rfl, ?_⟩) ?_ ?_
                rotate_left
                · intro w'
                  go_simp
                  with_reducible rfl
                rotate_left
                · simp only [Act.put, List.setIfInBounds_toArray, List.set_cons_zero, List.set_cons_succ, i64_w, i32_w]
                  rfl
                refine take_ (i := 1) (N := some 55) (v := ?_) (a' := ?_) #[true, true, true, false, true, false, false, false, false, false] rfl rfl (by kernel_rfl) (fun _ _ _ h => h) (Or.inl ⟨by rfl, ?_⟩) hHeld ?_ ?_
                rotate_left
                · rintro w' ⟨s0, s1, s2⟩
                  go_simp
                  with_reducible rfl
                rotate_left
                · simp only [Act.put, List.setIfInBounds_toArray, List.set_cons_zero, List.set_cons_succ, i64_w, i32_w]
                  rfl
                refine take_ (i := 3) (N := some 57) (v := ?_) (a' := ?_) #[true, true, true, true, true, false, false, false, false, false] rfl rfl (by kernel_rfl) (fun _ _ _ h => h) (Or.inl ⟨by rfl, ?_⟩) hHeld ?_ ?_
                rotate_left
                · rintro w' ⟨s0, s1, s2⟩
                  go_simp
                  with_reducible rfl
                rotate_left
                · simp only [Act.put, List.setIfInBounds_toArray, List.set_cons_zero, List.set_cons_succ, i64_w, i32_w]
                  rfl
                refine pure_ (i := 5) (N := some 59) (v := ?_) (a' := ?_) #[true, true, true, true, true, true, false, false, false, false] rfl rfl (by kernel_rfl) (fun _ _ _ h => h) (Or.inl ⟨by rfl, ?_⟩) ?_ ?_
                rotate_left
                · intro w'
                  go_simp
                  with_reducible rfl
                rotate_left
                · simp only [Act.put, List.setIfInBounds_toArray, List.set_cons_zero, List.set_cons_succ, i64_w, i32_w]
                  rfl
                refine take_ (i := 6) (N := some 60) (v := ?_) (a' := ?_) #[true, true, true, true, true, true, true, false, false, false] rfl rfl (by kernel_rfl) (fun _ _ _ h => h) (Or.inl ⟨by rfl, ?_⟩) hHeld ?_ ?_
                rotate_left
                · rintro w' ⟨s0, s1, s2⟩
                  go_simp
                  with_reducible rfl
                rotate_left
                · simp only [Act.put, List.setIfInBounds_toArray, List.set_cons_zero, List.set_cons_succ, i64_w, i32_w]
                  rfl
                refine pure_ (i := 7) (N := some 61) (v := ?_) (a' := ?_) #[true, true, true, true, true, true, true, true, false, false] rfl rfl (by kernel_rfl) (fun _ _ _ h => h) (Or.inl ⟨by rfl, ?_⟩) ?_ ?_
                rotate_left
                · intro w'
                  go_simp
                  with_reducible rfl
                rotate_left
                · simp only [Act.put, List.setIfInBounds_toArray, List.set_cons_zero, List.set_cons_succ, i64_w, i32_w]
                  rfl
                refine pure_ (i := 8) (N := some 62) (v := ?_) (a' := ?_) #[true, true, true, true, true, true, true, true, true, false] rfl rfl (by kernel_rfl) (fun _ _ _ h => h) (Or.inl ⟨by rfl, ?_⟩) ?_ ?_
                rotate_left
                · intro w'
                  go_simp
                  with_reducible rfl
                rotate_left
                · simp only [Act.put, List.setIfInBounds_toArray, List.set_cons_zero, List.set_cons_succ, i64_w, i32_w]
                  rfl
                refine last_ (i := 9) (N := none) #[true, true, true, true, true, true, true, true, true, true] rfl rfl (by kernel_rfl) (by decide) (fun K hK => ?_)
                refine skip_ (w1 := wr.drew.drew.setCell ⟨h5, 2, none⟩ (.int .i64 (ck - y))) (by rfl) rfl ?_ ?_
                · go_simp
                refine hK.out _ _ ?_
                clear hK K
                refine done_ (by kernel_rfl) ?_
                have tb := (HT2.out.step (Below.refl _ _).drew.drew).set (W := wr.drew.drew) HB5.out (by decide) HH5.out 2 (.int .i64 (ck - y))
                have bb : (wr.drew.drew.setCell ⟨h5, 2, none⟩ (.int .i64 (ck - y))).heap[h5]? = some (.cells #[.int .i64 x.f0, .int .i64 x.f1, .int .i64 (ck - y), .slice (some ad) x.f3.length c3] 45 (0, 0)) := blk_put (w := wr.drew.drew) HB5.out 2 _ rfl
                generalize wr.drew.drew.setCell ⟨h5, 2, none⟩ (.int .i64 (ck - y)) = Wb at tb bb ⊢
                have v2 : Wb.cell? ⟨w.heap.size + 1 + 1, 2, none⟩ = some vM := blk_cell tb.b3 2
                have p0 : Wb.cell? ⟨h5, 0, none⟩ = some (.int .i64 x.f0) := blk_cell bb 0
                have p3 : Wb.cell? ⟨h5, 3, none⟩ = some (.slice (some ad) x.f3.length c3) := blk_cell bb 3
                have py := pw_cell_below tb.bel HZ0.out
                have HTb := Aside0.mk tb
                have HBB := Aside0.mk bb
                have HRW : Aside0 (Qsn Wb.drew (w.heap.size + 3) vM ((rTo Q l i).2.1 ++ of x.f0 (x.f3.take k))) := ⟨tb.r⟩
                have HBZ : Aside0 (w.heap.size + 3 ≤ Wb.drew.heap.size) := ⟨tb.sz⟩
                have HLN : Aside0 (((rTo Q l i).2.1 ++ of x.f0 (x.f3.take k)).length < 1000000) := ⟨by
                      have h1 := rTo_sent HF.out i
                      have h2 := HE.out.2.2.1
                      have h3 := HLL.out
                      have h4 := HI.out
                      simp only [List.length_append, of, List.length_map, List.length_take]
                      omega⟩
                clear tb bb z0 z1 z2 z3 fz zy sw gw dle
                go_wp2
                refine start_ (n := 14) (S := fun w' => w'.cell? ⟨w.heap.size + 1 + 1, 2, none⟩ = some vM ∧ w'.cell? ⟨h5, 0, none⟩ = some (.int .i64 x.f0) ∧ w'.cell? ⟨h5, 3, none⟩ = some (.slice (some ad) x.f3.length c3) ∧ w'.cell? (ad.add k) = some (.int .i64 y)) (ds := [11, 13]) #[false, false, false, false, false, false, false, false, false, false, false, false, false, false] (by kernel_rfl) rfl rfl ⟨v2, p0, p3, py⟩ (fun hHeld => ?_)
                refine pure_ (i := 0) (N := some 63) (v := ?_) (a' := ?_) #[true, false, false, false, false, false, false, false, false, false, false, false, false, false] rfl rfl (by kernel_rfl) (fun _ _ _ h => h) (Or.inl ⟨by rfl, ?_⟩) ?_ ?_
                rotate_left
                · intro w'
                  go_simp
                  with_reducible rfl
                rotate_left
                · simp only [Act.put, List.setIfInBounds_toArray, List.set_cons_zero, List.set_cons_succ, i64_w, i32_w]
                  rfl
                refine pure_ (i := 2) (N := some 65) (v := ?_) (a' := ?_) #[true, false, true, false, false, false, false, false, false, false, false, false, false, false] rfl rfl (by kernel_rfl) (fun _ _ _ h => h) (Or.inl ⟨by rfl, ?_⟩) ?_ ?_
                rotate_left
                · intro w'
                  go_simp
                  with_reducible rfl
                rotate_left
                · simp only [Act.put, List.setIfInBounds_toArray, List.set_cons_zero, List.set_cons_succ, i64_w, i32_w]
                  rfl
                refine pure_ (i := 4) (N := some 67) (v := ?_) (a' := ?_) #[true, false, true, false, true, false, false, false, false, false, false, false, false, false] rfl rfl (by kernel_rfl) (fun _ _ _ h => h) (Or.inl ⟨by rfl, ?_⟩) ?_ ?_
                rotate_left
                · intro w'
                  go_simp
                  with_reducible rfl
                rotate_left
                · simp only [Act.put, List.setIfInBounds_toArray, List.set_cons_zero, List.set_cons_succ, i64_w, i32_w]
                  rfl
                refine pure_ (i := 6) (N := some 69) (v := ?_) (a' := ?_) #[true, false, true, false, true, false, true, false, false, false, false, false, false, false] rfl rfl (by kernel_rfl) (fun _ _ _ h => h) (Or.inl ⟨by rfl, ?_⟩) ?_ ?_
                rotate_left
                · intro w'
                  go_simp
                  with_reducible rfl
                rotate_left
                · simp only [Act.put, List.setIfInBounds_toArray, List.set_cons_zero, List.set_cons_succ, i64_w, i32_w]
                  rfl
                refine take_ (i := 1) (N := some 64) (v := ?_) (a' := ?_) #[true, true, true, false, true, false, true, false, false, false, false, false, false, false] rfl rfl (by kernel_rfl) (fun _ _ _ h => h) (Or.inl ⟨by rfl, ?_⟩) hHeld ?_ ?_
                rotate_left
                · rintro w' ⟨s0, s1, s2, s3⟩
                  go_simp
                  with_reducible rfl
                rotate_left
                · simp only [Act.put, List.setIfInBounds_toArray, List.set_cons_zero, List.set_cons_succ, i64_w, i32_w]
                  rfl
                refine take_ (i := 3) (N := some 66) (v := ?_) (a' := ?_) #[true, true, true, true, true, false, true, false, false, false, false, false, false, false] rfl rfl (by kernel_rfl) (fun _ _ _ h => h) (Or.inl ⟨by rfl, ?_⟩) hHeld ?_ ?_
                rotate_left
                · rintro w' ⟨s0, s1, s2, s3⟩
                  go_simp
                  with_reducible rfl
                rotate_left
                · simp only [Act.put, List.setIfInBounds_toArray, List.set_cons_zero, List.set_cons_succ, i64_w, i32_w]
                  rfl
                refine take_ (i := 5) (N := some 68) (v := ?_) (a' := ?_) #[true, true, true, true, true, true, true, false, false, false, false, false, false, false] rfl rfl (by kernel_rfl) (fun _ _ _ h => h) (Or.inl ⟨by rfl, ?_⟩) hHeld ?_ ?_
                rotate_left
                · rintro w' ⟨s0, s1, s2, s3⟩
                  go_simp
                  with_reducible rfl
                rotate_left
                · simp only [Act.put, List.setIfInBounds_toArray, List.set_cons_zero, List.set_cons_succ, i64_w, i32_w]
                  rfl
                refine pure_ (i := 7) (N := some 70) (v := ?_) (a' := ?_) #[true, true, true, true, true, true, true, true, false, false, false, false, false, false] rfl rfl (by kernel_rfl) (fun _ _ _ h => h) (Or.inl ⟨by rfl, ?_⟩) ?_ ?_
                rotate_left
                · intro w'
                  go_simp
                  with_reducible rfl
                rotate_left
                · simp only [Act.put, List.setIfInBounds_toArray, List.set_cons_zero, List.set_cons_succ, i64_w, i32_w]
                  rfl
                refine take_ (i := 8) (N := some 71) (v := ?_) (a' := ?_) #[true, true, true, true, true, true, true, true, true, false, false, false, false, false] rfl rfl (by kernel_rfl) (fun _ _ _ h => h) (Or.inl ⟨by rfl, ?_⟩) hHeld ?_ ?_
                rotate_left
                · rintro w' ⟨s0, s1, s2, s3⟩
                  go_simp
                  with_reducible rfl
                rotate_left
                · simp only [Act.put, List.setIfInBounds_toArray, List.set_cons_zero, List.set_cons_succ, i64_w, i32_w]
                  rfl
                refine pure_ (i := 9) (N := some 72) (v := ?_) (a' := ?_) #[true, true, true, true, true, true, true, true, true, true, false, false, false, false] rfl rfl (by kernel_rfl) (fun _ _ _ h => h) (Or.inl ⟨by rfl, ?_⟩) ?_ ?_
                rotate_left
                · intro w'
                  go_simp
                  with_reducible rfl
                rotate_left
                · simp only [Act.put, List.setIfInBounds_toArray, List.set_cons_zero, List.set_cons_succ, i64_w, i32_w]
                  rfl
                refine one_ (i := 10) (N := some 73) #[true, true, true, true, true, true, true, true, true, true, true, false, false, false] rfl rfl (by kernel_rfl) (by decide) (fun K hK => ?_)
                refine value_ (w1 := Wb.drew.alloc (.cells #[.int .i64 x.f0, .int .i64 y] 82)) (v := .slice (some ⟨Wb.drew.heap.size, 0, none⟩) 1 1) rfl rfl ?_ ?_
                · go_simp
                have bl := below_alloc (Below.refl Wb.drew.heap.size Wb.drew) (.cells #[.int .i64 x.f0, .int .i64 y] 82)
                refine hK.out _ _ ⟨pw_cell_below bl hHeld.1, pw_cell_below bl hHeld.2.1, pw_cell_below bl hHeld.2.2.1, pw_cell_below bl hHeld.2.2.2⟩ (fun hHeld => ?_)
                clear hK K
                refine norm_ (a' := ?_) ?_ ?_
                rotate_left
                · show Act.put _ (some 73) _ = _
                  simp only [Act.put, List.setIfInBounds_toArray, List.set_cons_zero, List.set_cons_succ, i64_w, i32_w]
                  rfl
                refine last_ (i := 11) (N := some 74) #[true, true, true, true, true, true, true, true, true, true, true, true, false, false] rfl rfl (by kernel_rfl) (by decide) (fun K hK => ?_)
                refine sn_append_step rfl _ _ rfl vM _ x.f0 y rfl rfl HRW.out HBZ.out HLN.out ?_
                intro v1 w1 hq1 hg1 hat1
                obtain ⟨A1, n1, c1, rfl⟩ := sn_form hq1
                have HQ1 := Aside0.mk hq1
                have HG1 := Aside0.mk hg1
                have HT1 := Aside0.mk hat1
                have f5 := blk_grown (w := Wb.drew) HTb.out.b3 hg1 (fun e => HTb.out.rne HTb.out.b3 (by decide) e.symm)
                have f6 : w1.cell? ⟨w.heap.size + 1 + 1, 2, none⟩ = some vM := blk_cell f5 2
                have f7 : w1.frozen? ⟨w.heap.size + 1 + 1, 2, none⟩ = false := blk_frozen f5 2
                clear hq1 hg1 hat1 f5
                refine hK.out _ _ ?_
                clear hK K
                refine norm_ (a' := ?_) ?_ ?_
                rotate_left
                · show Act.put _ (some 74) _ = _
                  simp only [Act.put, List.setIfInBounds_toArray, List.set_cons_zero, List.set_cons_succ, i64_w, i32_w]
                  rfl
                refine pure_ (i := 12) (N := some 75) (v := ?_) (a' := ?_) #[true, true, true, true, true, true, true, true, true, true, true, true, true, false] rfl rfl (by kernel_rfl) (fun _ _ _ h => h) (Or.inl ⟨by rfl, ?_⟩) ?_ ?_
                rotate_left
                · intro w'
                  go_simp
                  with_reducible rfl
                rotate_left
                · simp only [Act.put, List.setIfInBounds_toArray, List.set_cons_zero, List.set_cons_succ, i64_w, i32_w]
                  rfl
                refine last_ (i := 13) (N := none) #[true, true, true, true, true, true, true, true, true, true, true, true, true, true] rfl rfl (by kernel_rfl) (by decide) (fun K hK => ?_)
                refine skip_ (w1 := w1.setCell ⟨w.heap.size + 1 + 1, 2, none⟩ (.slice A1 n1 c1)) (by rfl) rfl ?_ ?_
                · go_simp
                refine hK.out _ _ ?_
                clear hK K
                refine done_ (by kernel_rfl) ?_
                have HZ : Aside0 (T2 w (w1.setCell ⟨w.heap.size + 1 + 1, 2, none⟩ (.slice A1 n1 c1)) P Q (some a) c l h5 x (some ad) c3 ((16777216 : Int)) (rTo Q l i).1 (rTo Q l i).2.1 (k + 1)) := by
                      have tc := (HTb.out.step (Below.refl _ _).drew).app (W := Wb.drew) HQ1.out HG1.out HT1.out
                      have bc := blk_far (blk_grown (w := Wb.drew) HBB.out HG1.out (fun e => HTb.out.rne HBB.out (by decide) e.symm)) (p := ⟨w.heap.size + 2, 2, none⟩) (by show h5 ≠ w.heap.size + 2; have := HH5.out; omega) (.slice A1 n1 c1)
                      rw [List.append_assoc, of_next HY.out] at tc
                      exact ⟨⟨_, _, _, tc, bc, tk_next HTK.out HY.out HLE.out (by have := HYB.out; omega), HH5.out⟩⟩
                clear v2 p0 p3 py f6 f7 bl
                go_wp2
                go_roundg kq
                case measure => omega
                case rel => exact ⟨k + 1, next_i (by have := HE.out.2.2.1; have := HK.out; omega), ⟨by have := HK.out; omega⟩, HZ⟩
              · have dle : decide (y ≤ ck) = false := decide_eq_false hle
                have HLE : Aside0 (¬ y ≤ ck) := ⟨hle⟩
                clear hle
                go_wp2
                refine start_ (n := 15) (S := fun w' => w'.cell? ⟨h5, 3, none⟩ = some (.slice (some ad) x.f3.length c3) ∧ w'.cell? (ad.add k) = some (.int .i64 y) ∧ w'.cell? ⟨h5, 2, none⟩ = some (.int .i64 ck)) (ds := []) #[false, false, false, false, false, false, false, false, false, false, false, false, false, false, false] (by kernel_rfl) rfl rfl ⟨z3, zy, z2⟩ (fun hHeld => ?_)
                refine pure_ (i := 0) (N := some 39) (v := ?_) (a' := ?_) #[true, false, false, false, false, false, false, false, false, false, false, false, false, false, false] rfl rfl (by kernel_rfl) (fun _ _ _ h => h) (Or.inl ⟨by rfl, ?_⟩) ?_ ?_
                rotate_left
                · intro w'
                  go_simp
                  with_reducible rfl
                rotate_left
                · simp only [Act.put, List.setIfInBounds_toArray, List.set_cons_zero, List.set_cons_succ, i64_w, i32_w]
                  rfl
                refine pure_ (i := 1) (N := some 40) (v := ?_) (a' := ?_) #[true, true, false, false, false, false, false, false, false, false, false, false, false, false, false] rfl rfl (by kernel_rfl) (fun _ _ _ h => h) (Or.inl ⟨by rfl, ?_⟩) ?_ ?_
                rotate_left
                · intro w'
                  go_simp
                  with_reducible rfl
                rotate_left
                · simp only [Act.put, List.setIfInBounds_toArray, List.set_cons_zero, List.set_cons_succ, i64_w, i32_w]
                  rfl
                refine take_ (i := 2) (N := some 41) (v := ?_) (a' := ?_) #[true, true, true, false, false, false, false, false, false, false, false, false, false, false, false] rfl rfl (by kernel_rfl) (fun _ _ _ h => h) (Or.inl ⟨by rfl, ?_⟩) hHeld ?_ ?_
                rotate_left
                · rintro w' ⟨s0, s1, s2⟩
                  go_simp
                  with_reducible rfl
                rotate_left
                · simp only [Act.put, List.setIfInBounds_toArray, List.set_cons_zero, List.set_cons_succ, i64_w, i32_w]
                  rfl
                refine pure_ (i := 3) (N := some 42) (v := ?_) (a' := ?_) #[true, true, true, true, false, false, false, false, false, false, false, false, false, false, false] rfl rfl (by kernel_rfl) (fun _ _ _ h => h) (Or.inl ⟨by rfl, ?_⟩) ?_ ?_
                rotate_left
                · intro w'
                  go_simp
                  with_reducible rfl
                rotate_left
                · simp only [Act.put, List.setIfInBounds_toArray, List.set_cons_zero, List.set_cons_succ, i64_w, i32_w]
                  rfl
                refine pure_ (i := 4) (N := some 43) (v := ?_) (a' := ?_) #[true, true, true, true, true, false, false, false, false, false, false, false, false, false, false] rfl rfl (by kernel_rfl) (fun _ _ _ h => h) (Or.inl ⟨by rfl, ?_⟩) ?_ ?_
                rotate_left
                · intro w'
                  go_simp
                  with_reducible rfl
                rotate_left
                · simp only [Act.put, List.setIfInBounds_toArray, List.set_cons_zero, List.set_cons_succ, i64_w, i32_w]
                  rfl
                refine pure_ (i := 5) (N := some 44) (v := ?_) (a' := ?_) #[true, true, true, true, true, true, false, false, false, false, false, false, false, false, false] rfl rfl (by kernel_rfl) (fun _ _ _ h => h) (Or.inl ⟨by rfl, ?_⟩) ?_ ?_
                rotate_left
                · intro w'
                  go_simp
                  with_reducible rfl
                rotate_left
                · simp only [Act.put, List.setIfInBounds_toArray, List.set_cons_zero, List.set_cons_succ, i64_w, i32_w]
                  rfl
                refine pure_ (i := 6) (N := some 45) (v := ?_) (a' := ?_) #[true, true, true, true, true, true, true, false, false, false, false, false, false, false, false] rfl rfl (by kernel_rfl) (fun _ _ _ h => h) (Or.inl ⟨by rfl, ?_⟩) ?_ ?_
                rotate_left
                · intro w'
                  go_simp
                  with_reducible rfl
                rotate_left
                · simp only [Act.put, List.setIfInBounds_toArray, List.set_cons_zero, List.set_cons_succ, i64_w, i32_w]
                  rfl
                refine pure_ (i := 8) (N := some 47) (v := ?_) (a' := ?_) #[true, true, true, true, true, true, true, false, true, false, false, false, false, false, false] rfl rfl (by kernel_rfl) (fun _ _ _ h => h) (Or.inl ⟨by rfl, ?_⟩) ?_ ?_
                rotate_left
                · intro w'
                  go_simp
                  with_reducible rfl
                rotate_left
                · simp only [Act.put, List.setIfInBounds_toArray, List.set_cons_zero, List.set_cons_succ, i64_w, i32_w]
                  rfl
                refine pure_ (i := 11) (N := some 50) (v := ?_) (a' := ?_) #[true, true, true, true, true, true, true, false, true, false, false, true, false, false, false] rfl rfl (by kernel_rfl) (fun _ _ _ h => h) (Or.inl ⟨by rfl, ?_⟩) ?_ ?_
                rotate_left
                · intro w'
                  go_simp
                  with_reducible rfl
                rotate_left
                · simp only [Act.put, List.setIfInBounds_toArray, List.set_cons_zero, List.set_cons_succ, i64_w, i32_w]
                  rfl
                refine take_ (i := 7) (N := some 46) (v := ?_) (a' := ?_) #[true, true, true, true, true, true, true, true, true, false, false, true, false, false, false] rfl rfl (by kernel_rfl) (fun _ _ _ h => h) (Or.inl ⟨by rfl, ?_⟩) hHeld ?_ ?_
                rotate_left
                · rintro w' ⟨s0, s1, s2⟩
                  go_simp
                  with_reducible rfl
                rotate_left
                · simp only [Act.put, List.setIfInBounds_toArray, List.set_cons_zero, List.set_cons_succ, i64_w, i32_w]
                  rfl
                refine pure_ (i := 9) (N := some 48) (v := ?_) (a' := ?_) #[true, true, true, true, true, true, true, true, true, true, false, true, false, false, false] rfl rfl (by kernel_rfl) (fun _ _ _ h => h) (Or.inl ⟨by rfl, ?_⟩) ?_ ?_
                rotate_left
                · intro w'
                  go_simp
                  with_reducible rfl
                rotate_left
                · simp only [Act.put, List.setIfInBounds_toArray, List.set_cons_zero, List.set_cons_succ, i64_w, i32_w]
                  rfl
                refine take_ (i := 10) (N := some 49) (v := ?_) (a' := ?_) #[true, true, true, true, true, true, true, true, true, true, true, true, false, false, false] rfl rfl (by kernel_rfl) (fun _ _ _ h => h) (Or.inl ⟨by rfl, ?_⟩) hHeld ?_ ?_
                rotate_left
                · rintro w' ⟨s0, s1, s2⟩
                  go_simp
                  with_reducible rfl
                rotate_left
                · simp only [Act.put, List.setIfInBounds_toArray, List.set_cons_zero, List.set_cons_succ, i64_w, i32_w]
                  rfl
                refine take_ (i := 12) (N := some 51) (v := ?_) (a' := ?_) #[true, true, true, true, true, true, true, true, true, true, true, true, true, false, false] rfl rfl (by kernel_rfl) (fun _ _ _ h => h) (Or.inl ⟨by rfl, ?_⟩) hHeld ?_ ?_
                rotate_left
                · rintro w' ⟨s0, s1, s2⟩
                  go_simp
                  with_reducible rfl
                rotate_left
                · simp only [Act.put, List.setIfInBounds_toArray, List.set_cons_zero, List.set_cons_succ, i64_w, i32_w]
                  rfl
                refine pure_ (i := 13) (N := some 52) (v := ?_) (a' := ?_) #[true, true, true, true, true, true, true, true, true, true, true, true, true, true, false] rfl rfl (by kernel_rfl) (fun _ _ _ h => h) (Or.inl ⟨by rfl, ?_⟩) ?_ ?_
                rotate_left
                · intro w'
                  go_simp
                  with_reducible rfl
                rotate_left
                · simp only [Act.put, List.setIfInBounds_toArray, List.set_cons_zero, List.set_cons_succ, i64_w, i32_w]
                  rfl
                refine pure_ (i := 14) (N := some 53) (v := ?_) (a' := ?_) #[true, true, true, true, true, true, true, true, true, true, true, true, true, true, true] rfl rfl (by kernel_rfl) (fun _ _ _ h => h) (Or.inl ⟨by rfl, ?_⟩) ?_ ?_
                rotate_left
                · intro w'
                  go_simp
                  with_reducible rfl
                rotate_left
                · simp only [Act.put, List.setIfInBounds_toArray, List.set_cons_zero, List.set_cons_succ, i64_w, i32_w]
                  rfl
                refine done_ (by kernel_rfl) ?_
                clear hHeld
                obtain ⟨i0, hi0, hzz⟩ := Option.map_eq_some_iff.1 Shr.info3
                simp only [Prod.mk.injEq] at hzz
                have hcut := cut_from (P := Try.prog) 43 3 .i64 Try.underlying43 hi0 1 hzz.2.1 (some ad) x.f3.length c3 (k : Int) (by omega) (by have := HTK.out.2.1; omega)
                have hfc := Kd.F_cut (m := k) HG3.out HTK.out.2.1 HL3.out
                simp only [Int.toNat_natCast, Nat.mul_one] at hcut
                have hfc' : Kd.F (Kd.int .i64) w (fun k => P k ∧ k < w.heap.size) (if c3 = k then (some ad) else (some ad).map (·.add k)) (x.f3.drop k).length (x.f3.drop k) := by
                  have h1 := hfc
                  rw [show (Kd.int .i64).sz = 1 from rfl, Nat.mul_one] at h1
                  exact h1
                clear hfc
                generalize hA4 : (if c3 = k then (some ad) else (some ad).map (·.add k)) = A4 at hcut hfc'
                have HFC := Aside0.mk hfc'
                clear hfc' hA4 hzz hi0
                obtain ⟨lf, hlf⟩ : ∃ lf, x.f3.drop k = lf := ⟨_, rfl⟩
                obtain ⟨n4, hn4⟩ : ∃ n4, x.f3.length - k = n4 := ⟨_, rfl⟩
                obtain ⟨c4, hc4⟩ : ∃ c4, c3 - k = c4 := ⟨_, rfl⟩
                have hln : n4 = lf.length := by rw [← hlf, ← hn4, List.length_drop]
                have hlc : lf.length ≤ c4 := by rw [← hln, ← hn4, ← hc4]; have := HL3.out; omega
                have hkl := (List.getElem?_eq_some_iff.1 HY.out).1
                have n40 : (n4 == 0) = false := by rw [beq_eq_false_iff_ne]; omega
                have n41 : ((n4 : Int) == 0) = false := by rw [beq_eq_false_iff_ne]; omega
                have n42 : ¬ (n4 = 0) := by omega
                have HRT : Aside0 (rT Q x = (ck, lf, x.f3.take k)) := ⟨by unfold rT; rw [HC0.out.1, tk_stop HTK.out HY.out (by have := HLE.out; omega), ← hlf]⟩
                clear hkl
                have HLF := Aside0.mk hlf
                have HLN4 := Aside0.mk hln
                have HLC := Aside0.mk hlc
                rw [hn4, hc4] at hcut
                clear hlf hn4 hc4 hln hlc
                obtain ⟨A5, c5, rfl⟩ := Kd.V_slice HT2.out.s
                have w0 : wr.cell? ⟨w.heap.size + 1 + 1, 0, none⟩ = some (.int .i64 Q) := blk_cell HT2.out.b3 0
                have w1' : wr.cell? ⟨w.heap.size + 1 + 1, 1, none⟩ = some (.slice A5 (rTo Q l i).1.length c5) := blk_cell HT2.out.b3 1
                have fw := fun j => blk_frozen HT2.out.b3 j
                have hne5 : h5 ≠ w.heap.size + 1 + 1 := by have := HH5.out; omega
                have hne6 : w.heap.size + 1 + 1 ≠ h5 := by have := HH5.out; omega
                go_wp2_with fail
                have tx0 := HT2.out.set HB5.out (by decide) HH5.out 3 (.slice A4 n4 c4)
                have bx0 := blk_put HB5.out 3 (.slice A4 n4 c4) rfl
                have tx := tx0.step (Below.refl _ _).drew
                have hx5 := blk_lt (w := (wr.setCell ⟨h5, 3, none⟩ (.slice A4 n4 c4)).drew) bx0
                clear tx0 bx0
                generalize (wr.setCell ⟨h5, 3, none⟩ (.slice A4 n4 c4)).drew = Wx at tx hx5 ⊢
                have hq := Kd.V_mk (e := 3) (base := Wx.heap.size) HLC.out (show Kd.F (Kd.int .i64) Wx (fun k => P k ∧ k < w.heap.size) A4 lf.length lf from by have h1 := Kd.F_below HFC.out tx.bel; rw [HLF.out] at h1; exact h1)
                have hlen : (rTo Q l i).1.length ≤ 30 := by have h1 := rTo_len (Q := Q) (l := l) i; have h2 := HLL.out; have h3 := HI.out; omega
                have HWS := Aside0.mk (with_spec Q x.f0 x.f1 ck lf (l := (rTo Q l i).1) (k := 200) (by omega) (by omega))
                have HTX := Aside0.mk tx
                have HQ4 := Aside0.mk hq
                have HX5 := Aside0.mk hx5
                have hn4e := HLN4.out
                subst hn4e
                clear tx hq hlen hx5
                refine (mosaicref30_Share_with.calls 200 Q _ A5 c5 (rTo Q l i).1 x.f0 x.f1 ck _ A4 c4 lf _ _ _ HTX.out.s HQ4.out HWS.out).mono ?_
                rintro e W9 ⟨v9, rfl, hn, hb9⟩
                have t9 := HTX.out.step hb9
                have r0 : W9.cell? ⟨w.heap.size + 1 + 1, 0, none⟩ = some (.int .i64 Q) := blk_cell t9.b3 0
                have r1 : W9.cell? ⟨w.heap.size + 1 + 1, 1, none⟩ = some (.slice A5 (rTo Q l i).1.length c5) := blk_cell t9.b3 1
                have fr := fun j => blk_frozen t9.b3 j
                obtain ⟨A9, c9, rfl⟩ := Kd.N_slice hn
                have hs9 : Kd.V k45 45 W9 0 (okT w P h5 vM) _ _ := Kd.V_mono (Kd.N_V (base' := 0) hn) (fun k hk => by
                    rcases hk with (h1 | h1) | h1
                    · exact h1
                    · refine ⟨⟨.inl h1, by have := HH5.out; omega⟩, fun e => ?_⟩
                      have := (q_typed HTX.out.r k e.symm).1
                      omega
                    · refine ⟨⟨.inr (by have := HTX.out.sz; omega), by have := HX5.out; omega⟩, fun e => ?_⟩
                      have := q_lt HTX.out.r k e.symm
                      omega)
                have T9 := Aside0.mk t9
                have HS9 := Aside0.mk hs9
                clear hn hb9 hs9 t9
                go_wp2
                have HZ : Aside0 (TR w ((W9.setCell ⟨w.heap.size + 1 + 1, 0, none⟩ (.int .i64 Q)).setCell ⟨w.heap.size + 1 + 1, 1, none⟩ (.slice A9 (withP ⟨x.f0, x.f1, ck, lf⟩ false (rTo Q l i).1).length c9)) P Q (some a) c l (i + 1)) := by
                    have e1 := rTo_next (Q := Q) HX.out
                    have e2 : rStep Q (rTo Q l i) x = (withP ⟨x.f0, x.f1, ck, lf⟩ false (rTo Q l i).1, (rTo Q l i).2.1 ++ of x.f0 (x.f3.take k), true) := by
                      unfold rStep rq
                      rw [if_neg HNE.out, HRT.out]
                    rw [e2] at e1
                    have u1 := T9.out.out 0 (.int .i64 Q) rfl T9.out.s T9.out.r
                    have u2 := u1.out 1 (.slice A9 (withP ⟨x.f0, x.f1, ck, lf⟩ false (rTo Q l i).1).length c9) rfl (Kd.V_far (p := ⟨w.heap.size + 2, 0, none⟩) HS9.out (fun k hk => by
                      show k ≠ w.heap.size + 2
                      have := hk.1.1
                      omega) _) u1.r
                    refine ⟨⟨h5, .slice A9 (withP ⟨x.f0, x.f1, ck, lf⟩ false (rTo Q l i).1).length c9, vM, ?_⟩⟩
                    rw [e1]
                    exact u2
                go_roundg iq
                case measure => omega
                case rel => exact ⟨i + 1, next_i (by have := HLL.out; have := HI.out; omega), ⟨by have := HI.out; omega⟩, HZ⟩
        · skip
          have dc : decide (16777216 < s) = false := decide_eq_false hcap
          have HC0 : Aside0 (mn (x.f2 + x.f1 * Q) 16777216 = s ∧ 0 ≤ s ∧ s ≤ 16777216) := ⟨by rw [HMS.out]; have := HSB.out; unfold mn; split <;> omega⟩
          clear hcap
          go_wp2_with fail
          have H5 : Aside0 (T2 w ((wr.setCell ⟨w.heap.size + 1 + 1, 3, none⟩ (.int .i64 0)).alloc (.cells #[.int .i64 x.f0, .int .i64 x.f1, .int .i64 (s), .slice A3 x.f3.length c3] 45 (0, 0))) P Q (some a) c l wr.heap.size x A3 c3 (s) (rTo Q l i).1 (rTo Q l i).2.1 0) := by
              have hsz : (wr.setCell ⟨w.heap.size + 2, 3, none⟩ (.int .i64 0)).heap.size = wr.heap.size := by simp [World.setCell]
              have t1 := (HT.out.out 3 (.int .i64 0) rfl HT.out.s HT.out.r).apart wr.heap.size (Nat.le_of_eq hsz)
              have t2 := t1.step (below_alloc (Below.refl _ _) (.cells #[.int .i64 x.f0, .int .i64 x.f1, .int .i64 (s), .slice A3 x.f3.length c3] 45 (0, 0)))
              have nb := blk_new (wr.setCell ⟨w.heap.size + 2, 3, none⟩ (.int .i64 0)) (.cells #[.int .i64 x.f0, .int .i64 x.f1, .int .i64 (s), .slice A3 x.f3.length c3] 45 (0, 0))
              rw [hsz] at nb
              exact ⟨(s), vS, vL, by simpa [of] using t2, nb, tk_start x.f3 HC0.out.2, HT.out.sz⟩
          obtain ⟨h5, hh5⟩ : ∃ h5, h5 = wr.heap.size := ⟨_, rfl⟩
          rw [← hh5] at H5 ⊢
          clear hh5
          go_loopg [6] x.f3.length (fun kq v6 w' => ∃ k : Nat, v6 = .int .i64 (k : Int) ∧ Aside0 (k + kq = x.f3.length) ∧ Aside0 (T2 w w' P Q (some a) c l h5 x A3 c3 (s) (rTo Q l i).1 (rTo Q l i).2.1 k))
          case atStart => exact ⟨0, rfl, ⟨by omega⟩, H5⟩
          case round =>
            obtain ⟨k, rfl, HK, HR2⟩ := hrel
            clear H5
            obtain ⟨ck, vT, vM, ht, hb5, htk, hh5⟩ := HR2.out
            have HT2 := Aside0.mk ht
            have HB5 := Aside0.mk hb5
            have HTK := Aside0.mk htk
            have HH5 := Aside0.mk hh5
            have z0 : wr.cell? ⟨h5, 0, none⟩ = some (.int .i64 x.f0) := blk_cell hb5 0
            have z1 : wr.cell? ⟨h5, 1, none⟩ = some (.int .i64 x.f1) := blk_cell hb5 1
            have z2 : wr.cell? ⟨h5, 2, none⟩ = some (.int .i64 ck) := blk_cell hb5 2
            have z3 : wr.cell? ⟨h5, 3, none⟩ = some (.slice A3 x.f3.length c3) := blk_cell hb5 3
            have fz := fun j => blk_frozen hb5 j
            clear htk hh5
            cases gk with
            | zero =>
              obtain rfl : k = x.f3.length := by have := HK.out; omega
              have kl : decide (x.f3.length < x.f3.length) = false := decide_eq_false (by omega)
              have kli : decide ((x.f3.length : Int) < (x.f3.length : Int)) = false := decide_eq_false (by omega)
              clear ht hb5
              go_wp2
              refine start_ (n := 15) (S := fun w' => w'.cell? ⟨h5, 3, none⟩ = some (.slice A3 x.f3.length c3)) (ds := []) #[false, false, false, false, false, false, false, false, false, false, false, false, false, false, false] (by kernel_rfl) rfl rfl (z3) (fun hHeld => ?_)
              refine pure_ (i := 0) (N := some 39) (v := ?_) (a' := ?_) #[true, false, false, false, false, false, false, false, false, false, false, false, false, false, false] rfl rfl (by kernel_rfl) (fun _ _ _ h => h) (Or.inl ⟨by rfl, ?_⟩) ?_ ?_
              rotate_left
              · intro w'
                go_simp
                with_reducible rfl
              rotate_left
              · simp only [Act.put, List.setIfInBounds_toArray, List.set_cons_zero, List.set_cons_succ, i64_w, i32_w]
                rfl
              refine pure_ (i := 1) (N := some 40) (v := ?_) (a' := ?_) #[true, true, false, false, false, false, false, false, false, false, false, false, false, false, false] rfl rfl (by kernel_rfl) (fun _ _ _ h => h) (Or.inl ⟨by rfl, ?_⟩) ?_ ?_
              rotate_left
              · intro w'
                go_simp
                with_reducible rfl
              rotate_left
              · simp only [Act.put, List.setIfInBounds_toArray, List.set_cons_zero, List.set_cons_succ, i64_w, i32_w]
                rfl
              refine take_ (i := 2) (N := some 41) (v := ?_) (a' := ?_) #[true, true, true, false, false, false, false, false, false, false, false, false, false, false, false] rfl rfl (by kernel_rfl) (fun _ _ _ h => h) (Or.inl ⟨by rfl, ?_⟩) hHeld ?_ ?_
              rotate_left
              · intro w' s0
                go_simp
                with_reducible rfl
              rotate_left
              · simp only [Act.put, List.setIfInBounds_toArray, List.set_cons_zero, List.set_cons_succ, i64_w, i32_w]
                rfl
              refine pure_ (i := 3) (N := some 42) (v := ?_) (a' := ?_) #[true, true, true, true, false, false, false, false, false, false, false, false, false, false, false] rfl rfl (by kernel_rfl) (fun _ _ _ h => h) (Or.inl ⟨by rfl, ?_⟩) ?_ ?_
              rotate_left
              · intro w'
                go_simp
                with_reducible rfl
              rotate_left
              · simp only [Act.put, List.setIfInBounds_toArray, List.set_cons_zero, List.set_cons_succ, i64_w, i32_w]
                rfl
              refine pure_ (i := 4) (N := some 43) (v := ?_) (a' := ?_) #[true, true, true, true, true, false, false, false, false, false, false, false, false, false, false] rfl rfl (by kernel_rfl) (fun _ _ _ h => h) (Or.inl ⟨by rfl, ?_⟩) ?_ ?_
              rotate_left
              · intro w'
                go_simp
                with_reducible rfl
              rotate_left
              · simp only [Act.put, List.setIfInBounds_toArray, List.set_cons_zero, List.set_cons_succ, i64_w, i32_w]
                rfl
              refine pure_ (i := 5) (N := some 44) (v := ?_) (a' := ?_) #[true, true, true, true, true, true, false, false, false, false, false, false, false, false, false] rfl rfl (by kernel_rfl) (fun _ _ _ h => h) (Or.inl ⟨by rfl, ?_⟩) ?_ ?_
              rotate_left
              · intro w'
                go_simp
                with_reducible rfl
              rotate_left
              · simp only [Act.put, List.setIfInBounds_toArray, List.set_cons_zero, List.set_cons_succ, i64_w, i32_w]
                rfl
              refine pure_ (i := 6) (N := some 45) (v := undef) (a' := ?_) #[true, true, true, true, true, true, true, false, false, false, false, false, false, false, false] rfl rfl (by kernel_rfl) (fun _ _ _ h => h) (Or.inr ⟨by rfl, rfl⟩) ?_ ?_
              rotate_left
              · simp only [Act.put, List.setIfInBounds_toArray, List.set_cons_zero, List.set_cons_succ, i64_w, i32_w]
                rfl
              refine pure_ (i := 7) (N := some 46) (v := undef) (a' := ?_) #[true, true, true, true, true, true, true, true, false, false, false, false, false, false, false] rfl rfl (by kernel_rfl) (fun _ _ _ h => h) (Or.inr ⟨by rfl, rfl⟩) ?_ ?_
              rotate_left
              · simp only [Act.put, List.setIfInBounds_toArray, List.set_cons_zero, List.set_cons_succ, i64_w, i32_w]
                rfl
              refine pure_ (i := 8) (N := some 47) (v := undef) (a' := ?_) #[true, true, true, true, true, true, true, true, true, false, false, false, false, false, false] rfl rfl (by kernel_rfl) (fun _ _ _ h => h) (Or.inr ⟨by rfl, rfl⟩) ?_ ?_
              rotate_left
              · simp only [Act.put, List.setIfInBounds_toArray, List.set_cons_zero, List.set_cons_succ, i64_w, i32_w]
                rfl
              refine pure_ (i := 9) (N := some 48) (v := undef) (a' := ?_) #[true, true, true, true, true, true, true, true, true, true, false, false, false, false, false] rfl rfl (by kernel_rfl) (fun _ _ _ h => h) (Or.inr ⟨by rfl, rfl⟩) ?_ ?_
              rotate_left
              · simp only [Act.put, List.setIfInBounds_toArray, List.set_cons_zero, List.set_cons_succ, i64_w, i32_w]
                rfl
              refine pure_ (i := 10) (N := some 49) (v := undef) (a' := ?_) #[true, true, true, true, true, true, true, true, true, true, true, false, false, false, false] rfl rfl (by kernel_rfl) (fun _ _ _ h => h) (Or.inr ⟨by rfl, rfl⟩) ?_ ?_
              rotate_left
              · simp only [Act.put, List.setIfInBounds_toArray, List.set_cons_zero, List.set_cons_succ, i64_w, i32_w]
                rfl
              refine pure_ (i := 11) (N := some 50) (v := undef) (a' := ?_) #[true, true, true, true, true, true, true, true, true, true, true, true, false, false, false] rfl rfl (by kernel_rfl) (fun _ _ _ h => h) (Or.inr ⟨by rfl, rfl⟩) ?_ ?_
              rotate_left
              · simp only [Act.put, List.setIfInBounds_toArray, List.set_cons_zero, List.set_cons_succ, i64_w, i32_w]
                rfl
              refine pure_ (i := 12) (N := some 51) (v := undef) (a' := ?_) #[true, true, true, true, true, true, true, true, true, true, true, true, true, false, false] rfl rfl (by kernel_rfl) (fun _ _ _ h => h) (Or.inr ⟨by rfl, rfl⟩) ?_ ?_
              rotate_left
              · simp only [Act.put, List.setIfInBounds_toArray, List.set_cons_zero, List.set_cons_succ, i64_w, i32_w]
                rfl
              refine pure_ (i := 13) (N := some 52) (v := undef) (a' := ?_) #[true, true, true, true, true, true, true, true, true, true, true, true, true, true, false] rfl rfl (by kernel_rfl) (fun _ _ _ h => h) (Or.inr ⟨by rfl, rfl⟩) ?_ ?_
              rotate_left
              · simp only [Act.put, List.setIfInBounds_toArray, List.set_cons_zero, List.set_cons_succ, i64_w, i32_w]
                rfl
              refine pure_ (i := 14) (N := some 53) (v := ?_) (a' := ?_) #[true, true, true, true, true, true, true, true, true, true, true, true, true, true, true] rfl rfl (by kernel_rfl) (fun _ _ _ h => h) (Or.inl ⟨by rfl, ?_⟩) ?_ ?_
              rotate_left
              · intro w'
                go_simp
                with_reducible rfl
              rotate_left
              · simp only [Act.put, List.setIfInBounds_toArray, List.set_cons_zero, List.set_cons_succ, i64_w, i32_w]
                rfl
              refine done_ (by kernel_rfl) ?_
              clear hHeld
              obtain ⟨i0, hi0, hzz⟩ := Option.map_eq_some_iff.1 Shr.info3
              simp only [Prod.mk.injEq] at hzz
              have hcut := cut_from (P := Try.prog) 43 3 .i64 Try.underlying43 hi0 1 hzz.2.1 A3 x.f3.length c3 (x.f3.length : Int) (by omega) (by have := HTK.out.2.1; omega)
              have hfc := Kd.F_cut (m := x.f3.length) HG3.out HTK.out.2.1 HL3.out
              simp only [Int.toNat_natCast, Nat.mul_one] at hcut
              have hfc' : Kd.F (Kd.int .i64) w (fun k => P k ∧ k < w.heap.size) (if c3 = x.f3.length then A3 else A3.map (·.add x.f3.length)) (x.f3.drop x.f3.length).length (x.f3.drop x.f3.length) := by
                have h1 := hfc
                rw [show (Kd.int .i64).sz = 1 from rfl, Nat.mul_one] at h1
                exact h1
              clear hfc
              generalize hA4 : (if c3 = x.f3.length then A3 else A3.map (·.add x.f3.length)) = A4 at hcut hfc'
              have HFC := Aside0.mk hfc'
              clear hfc' hA4 hzz hi0
              obtain ⟨lf, hlf⟩ : ∃ lf, x.f3.drop x.f3.length = lf := ⟨_, rfl⟩
              obtain ⟨n4, hn4⟩ : ∃ n4, x.f3.length - x.f3.length = n4 := ⟨_, rfl⟩
              obtain ⟨c4, hc4⟩ : ∃ c4, c3 - x.f3.length = c4 := ⟨_, rfl⟩
              have hln : n4 = lf.length := by rw [← hlf, ← hn4, List.length_drop]
              have hlc : lf.length ≤ c4 := by rw [← hln, ← hn4, ← hc4]; have := HL3.out; omega
              have hz4 : n4 = 0 := by omega
              subst hz4
              have HRT : Aside0 (rT Q x = (0, lf, x.f3)) := ⟨by unfold rT; rw [HC0.out.1, tk_end HTK.out, ← hlf, List.drop_length]⟩
              have HLF := Aside0.mk hlf
              have HLN4 := Aside0.mk hln
              have HLC := Aside0.mk hlc
              rw [hn4, hc4] at hcut
              clear hlf hn4 hc4 hln hlc
              obtain ⟨A5, c5, rfl⟩ := Kd.V_slice HT2.out.s
              have w0 : wr.cell? ⟨w.heap.size + 1 + 1, 0, none⟩ = some (.int .i64 Q) := blk_cell HT2.out.b3 0
              have w1' : wr.cell? ⟨w.heap.size + 1 + 1, 1, none⟩ = some (.slice A5 (rTo Q l i).1.length c5) := blk_cell HT2.out.b3 1
              have fw := fun j => blk_frozen HT2.out.b3 j
              have hne5 : h5 ≠ w.heap.size + 1 + 1 := by have := HH5.out; omega
              have hne6 : w.heap.size + 1 + 1 ≠ h5 := by have := HH5.out; omega
              go_wp2_with fail
              have tx0 := (HT2.out.set HB5.out (by decide) HH5.out 3 (.slice A4 0 c4)).set (blk_put HB5.out 3 (.slice A4 0 c4) rfl) (by decide) HH5.out 2 (.int .i64 0)
              have bx0 := blk_put (blk_put HB5.out 3 (.slice A4 0 c4) rfl) 2 (.int .i64 0) rfl
              have tx := tx0.step (Below.refl _ _).drew
              have hx5 := blk_lt (w := ((wr.setCell ⟨h5, 3, none⟩ (.slice A4 0 c4)).setCell ⟨h5, 2, none⟩ (.int .i64 0)).drew) bx0
              clear tx0 bx0
              generalize ((wr.setCell ⟨h5, 3, none⟩ (.slice A4 0 c4)).setCell ⟨h5, 2, none⟩ (.int .i64 0)).drew = Wx at tx hx5 ⊢
              have hq := Kd.V_mk (e := 3) (base := Wx.heap.size) HLC.out (show Kd.F (Kd.int .i64) Wx (fun k => P k ∧ k < w.heap.size) A4 lf.length lf from by have h1 := Kd.F_below HFC.out tx.bel; rw [HLF.out] at h1; exact h1)
              have hlen : (rTo Q l i).1.length ≤ 30 := by have h1 := rTo_len (Q := Q) (l := l) i; have h2 := HLL.out; have h3 := HI.out; omega
              have HWS := Aside0.mk (with_spec Q x.f0 x.f1 0 lf (l := (rTo Q l i).1) (k := 200) (by omega) (by omega))
              have HTX := Aside0.mk tx
              have HQ4 := Aside0.mk hq
              have HX5 := Aside0.mk hx5
              obtain rfl : lf = [] := List.eq_nil_of_length_eq_zero HLN4.out.symm
              clear tx hq hlen hx5
              refine (mosaicref30_Share_with.calls 200 Q _ A5 c5 (rTo Q l i).1 x.f0 x.f1 0 _ A4 c4 [] _ _ _ HTX.out.s HQ4.out HWS.out).mono ?_
              rintro e W9 ⟨v9, rfl, hn, hb9⟩
              have t9 := HTX.out.step hb9
              have r0 : W9.cell? ⟨w.heap.size + 1 + 1, 0, none⟩ = some (.int .i64 Q) := blk_cell t9.b3 0
              have r1 : W9.cell? ⟨w.heap.size + 1 + 1, 1, none⟩ = some (.slice A5 (rTo Q l i).1.length c5) := blk_cell t9.b3 1
              have fr := fun j => blk_frozen t9.b3 j
              obtain ⟨A9, c9, rfl⟩ := Kd.N_slice hn
              have hs9 : Kd.V k45 45 W9 0 (okT w P h5 vM) _ _ := Kd.V_mono (Kd.N_V (base' := 0) hn) (fun k hk => by
                  rcases hk with (h1 | h1) | h1
                  · exact h1
                  · refine ⟨⟨.inl h1, by have := HH5.out; omega⟩, fun e => ?_⟩
                    have := (q_typed HTX.out.r k e.symm).1
                    omega
                  · refine ⟨⟨.inr (by have := HTX.out.sz; omega), by have := HX5.out; omega⟩, fun e => ?_⟩
                    have := q_lt HTX.out.r k e.symm
                    omega)
              have T9 := Aside0.mk t9
              have HS9 := Aside0.mk hs9
              clear hn hb9 hs9 t9
              go_wp2
              have HZ : Aside0 (TR w ((W9.setCell ⟨w.heap.size + 1 + 1, 0, none⟩ (.int .i64 Q)).setCell ⟨w.heap.size + 1 + 1, 1, none⟩ (.slice A9 (withP ⟨x.f0, x.f1, 0, []⟩ false (rTo Q l i).1).length c9)) P Q (some a) c l (i + 1)) := by
                  have e1 := rTo_next (Q := Q) HX.out
                  have e2 : rStep Q (rTo Q l i) x = (withP ⟨x.f0, x.f1, 0, []⟩ false (rTo Q l i).1, (rTo Q l i).2.1 ++ of x.f0 x.f3, true) := by
                    unfold rStep rq
                    rw [if_neg HNE.out, HRT.out]
                  rw [e2] at e1
                  have u1 := T9.out.out 0 (.int .i64 Q) rfl T9.out.s T9.out.r
                  have u2 := u1.out 1 (.slice A9 (withP ⟨x.f0, x.f1, 0, []⟩ false (rTo Q l i).1).length c9) rfl (Kd.V_far (p := ⟨w.heap.size + 2, 0, none⟩) HS9.out (fun k hk => by
                    show k ≠ w.heap.size + 2
                    have := hk.1.1
                    omega) _) u1.r
                  rw [List.take_length] at u2
                  refine ⟨⟨h5, .slice A9 (withP ⟨x.f0, x.f1, 0, []⟩ false (rTo Q l i).1).length c9, vM, ?_⟩⟩
                  rw [e1]
                  exact u2
              go_roundg iq
              case measure => omega
              case rel => exact ⟨i + 1, next_i (by have := HLL.out; have := HI.out; omega), ⟨by have := HI.out; omega⟩, HZ⟩
            | succ kq =>
              have hk : k < x.f3.length := by have := HK.out; omega
              have kl : decide (k < x.f3.length) = true := decide_eq_true hk
              obtain ⟨y, hy⟩ : ∃ y, x.f3[k]? = some y := ⟨x.f3[k], List.getElem?_eq_getElem hk⟩
              have HY := Aside0.mk hy
              have HYB := Aside0.mk (HE.out.2.2.2 y (List.mem_of_getElem? hy))
              obtain ⟨ad, hA3, zy0⟩ := int_at HG3.out hy
              subst hA3
              have zy := pw_cell_below ht.bel zy0
              have HZ0 := Aside0.mk zy0
              clear hy zy0 ht hb5
              by_cases hle : y ≤ ck
              · have dle : decide (y ≤ ck) = true := decide_eq_true hle
                have HLE := Aside0.mk hle
                have sw : wrap64 (ck - y) = ck - y := by have h1 := HTK.out.2.2; have h2 := HYB.out; unfold wrap64; omega
                have gw : IntKind.i64.wrap (ck - y) = ck - y := (i64_w _).trans sw
                clear hle
                go_wp2
                refine start_ (n := 15) (S := fun w' => w'.cell? ⟨h5, 3, none⟩ = some (.slice (some ad) x.f3.length c3) ∧ w'.cell? (ad.add k) = some (.int .i64 y) ∧ w'.cell? ⟨h5, 2, none⟩ = some (.int .i64 ck)) (ds := []) #[false, false, false, false, false, false, false, false, false, false, false, false, false, false, false] (by kernel_rfl) rfl rfl ⟨z3, zy, z2⟩ (fun hHeld => ?_)
                refine pure_ (i := 0) (N := some 39) (v := ?_) (a' := ?_) #[true, false, false, false, false, false, false, false, false, false, false, false, false, false, false] rfl rfl (by kernel_rfl) (fun _ _ _ h => h) (Or.inl ⟨by rfl, ?_⟩) ?_ ?_
                rotate_left
                · intro w'
                  go_simp
                  with_reducible rfl
                rotate_left
                · simp only [Act.put, List.setIfInBounds_toArray, List.set_cons_zero, List.set_cons_succ, i64_w, i32_w]
                  rfl
                refine pure_ (i := 1) (N := some 40) (v := ?_) (a' := ?_) #[true, true, false, false, false, false, false, false, false, false, false, false, false, false, false] rfl rfl (by kernel_rfl) (fun _ _ _ h => h) (Or.inl ⟨by rfl, ?_⟩) ?_ ?_
                rotate_left
                · intro w'
                  go_simp
                  with_reducible rfl
                rotate_left
                · simp only [Act.put, List.setIfInBounds_toArray, List.set_cons_zero, List.set_cons_succ, i64_w, i32_w]
                  rfl
                refine take_ (i := 2) (N := some 41) (v := ?_) (a' := ?_) #[true, true, true, false, false, false, false, false, false, false, false, false, false, false, false] rfl rfl (by kernel_rfl) (fun _ _ _ h => h) (Or.inl ⟨by rfl, ?_⟩) hHeld ?_ ?_
                rotate_left
                · rintro w' ⟨s0, s1, s2⟩
                  go_simp
                  with_reducible rfl
                rotate_left
                · simp only [Act.put, List.setIfInBounds_toArray, List.set_cons_zero, List.set_cons_succ, i64_w, i32_w]
                  rfl
                refine pure_ (i := 3) (N := some 42) (v := ?_) (a' := ?_) #[true, true, true, true, false, false, false, false, false, false, false, false, false, false, false] rfl rfl (by kernel_rfl) (fun _ _ _ h => h) (Or.inl ⟨by rfl, ?_⟩) ?_ ?_
                rotate_left
                · intro w'
                  go_simp
                  with_reducible rfl
                rotate_left
                · simp only [Act.put, List.setIfInBounds_toArray, List.set_cons_zero, List.set_cons_succ, i64_w, i32_w]
                  rfl
                refine pure_ (i := 4) (N := some 43) (v := ?_) (a' := ?_) #[true, true, true, true, true, false, false, false, false, false, false, false, false, false, false] rfl rfl (by kernel_rfl) (fun _ _ _ h => h) (Or.inl ⟨by rfl, ?_⟩) ?_ ?_
                rotate_left
                · intro w'
                  go_simp
                  with_reducible rfl
                rotate_left
                · simp only [Act.put, List.setIfInBounds_toArray, List.set_cons_zero, List.set_cons_succ, i64_w, i32_w]
                  rfl
                refine pure_ (i := 5) (N := some 44) (v := ?_) (a' := ?_) #[true, true, true, true, true, true, false, false, false, false, false, false, false, false, false] rfl rfl (by kernel_rfl) (fun _ _ _ h => h) (Or.inl ⟨by rfl, ?_⟩) ?_ ?_
                rotate_left
                · intro w'
                  go_simp
                  with_reducible rfl
                rotate_left
                · simp only [Act.put, List.setIfInBounds_toArray, List.set_cons_zero, List.set_cons_succ, i64_w, i32_w]
                  rfl
                refine pure_ (i := 6) (N := some 45) (v := ?_) (a' := ?_) #[true, true, true, true, true, true, true, false, false, false, false, false, false, false, false] rfl rfl (by kernel_rfl) (fun _ _ _ h => h) (Or.inl ⟨by rfl, ?_⟩) ?_ ?_
                rotate_left
                · intro w'
                  go_simp
                  with_reducible rfl
                rotate_left
                · simp only [Act.put, List.setIfInBounds_toArray, List.set_cons_zero, List.set_cons_succ, i64_w, i32_w]
                  rfl
                refine pure_ (i := 8) (N := some 47) (v := ?_) (a' := ?_) #[true, true, true, true, true, true, true, false, true, false, false, false, false, false, false] rfl rfl (by kernel_rfl) (fun _ _ _ h => h) (Or.inl ⟨by rfl, ?_⟩) ?_ ?_
                rotate_left
                · intro w'
                  go_simp
                  with_reducible rfl
                rotate_left
                · simp only [Act.put, List.setIfInBounds_toArray, List.set_cons_zero, List.set_cons_succ, i64_w, i32_w]
                  rfl
                refine pure_ (i := 11) (N := some 50) (v := ?_) (a' := ?_) #[true, true, true, true, true, true, true, false, true, false, false, true, false, false, false] rfl rfl (by kernel_rfl) (fun _ _ _ h => h) (Or.inl ⟨by rfl, ?_⟩) ?_ ?_
                rotate_left
                · intro w'
                  go_simp
                  with_reducible rfl
                rotate_left
                · simp only [Act.put, List.setIfInBounds_toArray, List.set_cons_zero, List.set_cons_succ, i64_w, i32_w]
                  rfl
                refine take_ (i := 7) (N := some 46) (v := ?_) (a' := ?_) #[true, true, true, true, true, true, true, true, true, false, false, true, false, false, false] rfl rfl (by kernel_rfl) (fun _ _ _ h => h) (Or.inl ⟨by rfl, ?_⟩) hHeld ?_ ?_
                rotate_left
                · rintro w' ⟨s0, s1, s2⟩
                  go_simp
                  with_reducible rfl
                rotate_left
                · simp only [Act.put, List.setIfInBounds_toArray, List.set_cons_zero, List.set_cons_succ, i64_w, i32_w]
                  rfl
                refine pure_ (i := 9) (N := some 48) (v := ?_) (a' := ?_) #[true, true, true, true, true, true, true, true, true, true, false, true, false, false, false] rfl rfl (by kernel_rfl) (fun _ _ _ h => h) (Or.inl ⟨by rfl, ?_⟩) ?_ ?_
                rotate_left
                · intro w'
                  go_simp
                  with_reducible rfl
                rotate_left
                · simp only [Act.put, List.setIfInBounds_toArray, List.set_cons_zero, List.set_cons_succ, i64_w, i32_w]
                  rfl
                refine take_ (i := 10) (N := some 49) (v := ?_) (a' := ?_) #[true, true, true, true, true, true, true, true, true, true, true, true, false, false, false] rfl rfl (by kernel_rfl) (fun _ _ _ h => h) (Or.inl ⟨by rfl, ?_⟩) hHeld ?_ ?_
                rotate_left
                · rintro w' ⟨s0, s1, s2⟩
                  go_simp
                  with_reducible rfl
                rotate_left
                · simp only [Act.put, List.setIfInBounds_toArray, List.set_cons_zero, List.set_cons_succ, i64_w, i32_w]
                  rfl
                refine take_ (i := 12) (N := some 51) (v := ?_) (a' := ?_) #[true, true, true, true, true, true, true, true, true, true, true, true, true, false, false] rfl rfl (by kernel_rfl) (fun _ _ _ h => h) (Or.inl ⟨by rfl, ?_⟩) hHeld ?_ ?_
                rotate_left
                · rintro w' ⟨s0, s1, s2⟩
                  go_simp
                  with_reducible rfl
                rotate_left
                · simp only [Act.put, List.setIfInBounds_toArray, List.set_cons_zero, List.set_cons_succ, i64_w, i32_w]
                  rfl
                refine pure_ (i := 13) (N := some 52) (v := ?_) (a' := ?_) #[true, true, true, true, true, true, true, true, true, true, true, true, true, true, false] rfl rfl (by kernel_rfl) (fun _ _ _ h => h) (Or.inl ⟨by rfl, ?_⟩) ?_ ?_
                rotate_left
                · intro w'
                  go_simp
                  with_reducible rfl
                rotate_left
                · simp only [Act.put, List.setIfInBounds_toArray, List.set_cons_zero, List.set_cons_succ, i64_w, i32_w]
                  rfl
                refine pure_ (i := 14) (N := some 53) (v := ?_) (a' := ?_) #[true, true, true, true, true, true, true, true, true, true, true, true, true, true, true] rfl rfl (by kernel_rfl) (fun _ _ _ h => h) (Or.inl ⟨by rfl, ?_⟩) ?_ ?_
                rotate_left
                · intro w'
                  go_simp
                  with_reducible rfl
                rotate_left
                · simp only [Act.put, List.setIfInBounds_toArray, List.set_cons_zero, List.set_cons_succ, i64_w, i32_w]
                  rfl
                refine done_ (by kernel_rfl) ?_
                clear hHeld
                go_wp2
                refine start_ (n := 10) (S := fun w' => w'.cell? ⟨h5, 2, none⟩ = some (.int .i64 ck) ∧ w'.cell? ⟨h5, 3, none⟩ = some (.slice (some ad) x.f3.length c3) ∧ w'.cell? (ad.add k) = some (.int .i64 y)) (ds := [9]) #[false, false, false, false, false, false, false, false, false, false] (by kernel_rfl) rfl rfl ⟨z2, z3, zy⟩ (fun hHeld => ?_)
                refine pure_ (i := 0) (N := some 54) (v := ?_) (a' := ?_) #[true, false, false, false, false, false, false, false, false, false] rfl rfl (by kernel_rfl) (fun _ _ _ h => h) (Or.inl ⟨by rfl, ?_⟩) ?_ ?_
                rotate_left
                · intro w'
                  go_simp
                  with_reducible rfl
                rotate_left
                · simp only [Act.put, List.setIfInBounds_toArray, List.set_cons_zero, List.set_cons_succ, i64_w, i32_w]
                  rfl
                refine pure_ (i := 2) (N := some 56) (v := ?_) (a' := ?_) #[true, false, true, false, false, false, false, false, false, false] rfl rfl (by kernel_rfl) (fun _ _ _ h => h) (Or.inl ⟨by rfl, ?_⟩) ?_ ?_
                rotate_left
                · intro w'
                  go_simp
                  with_reducible rfl
                rotate_left
                · simp only [Act.put, List.setIfInBounds_toArray, List.set_cons_zero, List.set_cons_succ, i64_w, i32_w]
                  rfl
                refine pure_ (i := 4) (N := some 58) (v := ?_) (a' := ?_) #[true, false, true, false, true, false, false, false, false, false] rfl rfl (by kernel_rfl) (fun _ _ _ h => h) (Or.inl ⟨by rfl, ?_⟩) ?_ ?_
                rotate_left
                · intro w'
                  go_simp
                  with_reducible rfl
                rotate_left
                · simp only [Act.put, List.setIfInBounds_toArray, List.set_cons_zero, List.set_cons_succ, i64_w, i32_w]
                  rfl
                refine take_ (i := 1) (N := some 55) (v := ?_) (a' := ?_) #[true, true, true, false, true, false, false, false, false, false] rfl rfl (by kernel_rfl) (fun _ _ _ h => h) (Or.inl ⟨by rfl, ?_⟩) hHeld ?_ ?_
                rotate_left
                · rintro w' ⟨s0, s1, s2⟩
                  go_simp
                  with_reducible rfl
                rotate_left
                · simp only [Act.put, List.setIfInBounds_toArray, List.set_cons_zero, List.set_cons_succ, i64_w, i32_w]
                  rfl
                refine take_ (i := 3) (N := some 57) (v := ?_) (a' := ?_) #[true, true, true, true, true, false, false, false, false, false] rfl rfl (by kernel_rfl) (fun _ _ _ h => h) (Or.inl ⟨by rfl, ?_⟩) hHeld ?_ ?_
                rotate_left
                · rintro w' ⟨s0, s1, s2⟩
                  go_simp
                  with_reducible rfl
                rotate_left
                · simp only [Act.put, List.setIfInBounds_toArray, List.set_cons_zero, List.set_cons_succ, i64_w, i32_w]
                  rfl
                refine pure_ (i := 5) (N := some 59) (v := ?_) (a' := ?_) #[true, true, true, true, true, true, false, false, false, false] rfl rfl (by kernel_rfl) (fun _ _ _ h => h) (Or.inl ⟨by rfl, ?_⟩) ?_ ?_
                rotate_left
                · intro w'
                  go_simp
                  with_reducible rfl
                rotate_left
                · simp only [Act.put, List.setIfInBounds_toArray, List.set_cons_zero, List.set_cons_succ, i64_w, i32_w]
                  rfl
                refine take_ (i := 6) (N := some 60) (v := ?_) (a' := ?_) #[true, true, true, true, true, true, true, false, false, false] rfl rfl (by kernel_rfl) (fun _ _ _ h => h) (Or.inl ⟨by rfl, ?_⟩) hHeld ?_ ?_
                rotate_left
                · rintro w' ⟨s0, s1, s2⟩
                  go_simp
                  with_reducible rfl
                rotate_left
                · simp only [Act.put, List.setIfInBounds_toArray, List.set_cons_zero, List.set_cons_succ, i64_w, i32_w]
                  rfl
                refine pure_ (i := 7) (N := some 61) (v := ?_) (a' := ?_) #[true, true, true, true, true, true, true, true, false, false] rfl rfl (by kernel_rfl) (fun _ _ _ h => h) (Or.inl ⟨by rfl, ?_⟩) ?_ ?_
                rotate_left
                · intro w'
                  go_simp
                  with_reducible rfl
                rotate_left
                · simp only [Act.put, List.setIfInBounds_toArray, List.set_cons_zero, List.set_cons_succ, i64_w, i32_w]
                  rfl
                refine pure_ (i := 8) (N := some 62) (v := ?_) (a' := ?_) #[true, true, true, true, true, true, true, true, true, false] rfl rfl (by kernel_rfl) (fun _ _ _ h => h) (Or.inl ⟨by rfl, ?_⟩) ?_ ?_
                rotate_left
                · intro w'
                  go_simp
                  with_reducible rfl
                rotate_left
                · simp only [Act.put, List.setIfInBounds_toArray, List.set_cons_zero, List.set_cons_succ, i64_w, i32_w]
                  rfl
                refine last_ (i := 9) (N := none) #[true, true, true, true, true, true, true, true, true, true] rfl rfl (by kernel_rfl) (by decide) (fun K hK => ?_)
                refine skip_ (w1 := wr.drew.drew.setCell ⟨h5, 2, none⟩ (.int .i64 (ck - y))) (by rfl) rfl ?_ ?_
                · go_simp
                refine hK.out _ _ ?_
                clear hK K
                refine done_ (by kernel_rfl) ?_
                have tb := (HT2.out.step (Below.refl _ _).drew.drew).set (W := wr.drew.drew) HB5.out (by decide) HH5.out 2 (.int .i64 (ck - y))
                have bb : (wr.drew.drew.setCell ⟨h5, 2, none⟩ (.int .i64 (ck - y))).heap[h5]? = some (.cells #[.int .i64 x.f0, .int .i64 x.f1, .int .i64 (ck - y), .slice (some ad) x.f3.length c3] 45 (0, 0)) := blk_put (w := wr.drew.drew) HB5.out 2 _ rfl
                generalize wr.drew.drew.setCell ⟨h5, 2, none⟩ (.int .i64 (ck - y)) = Wb at tb bb ⊢
                have v2 : Wb.cell? ⟨w.heap.size + 1 + 1, 2, none⟩ = some vM := blk_cell tb.b3 2
                have p0 : Wb.cell? ⟨h5, 0, none⟩ = some (.int .i64 x.f0) := blk_cell bb 0
                have p3 : Wb.cell? ⟨h5, 3, none⟩ = some (.slice (some ad) x.f3.length c3) := blk_cell bb 3
                have py := pw_cell_below tb.bel HZ0.out
                have HTb := Aside0.mk tb
                have HBB := Aside0.mk bb
                have HRW : Aside0 (Qsn Wb.drew (w.heap.size + 3) vM ((rTo Q l i).2.1 ++ of x.f0 (x.f3.take k))) := ⟨tb.r⟩
                have HBZ : Aside0 (w.heap.size + 3 ≤ Wb.drew.heap.size) := ⟨tb.sz⟩
                have HLN : Aside0 (((rTo Q l i).2.1 ++ of x.f0 (x.f3.take k)).length < 1000000) := ⟨by
                      have h1 := rTo_sent HF.out i
                      have h2 := HE.out.2.2.1
                      have h3 := HLL.out
                      have h4 := HI.out
                      simp only [List.length_append, of, List.length_map, List.length_take]
                      omega⟩
                clear tb bb z0 z1 z2 z3 fz zy sw gw dle
                go_wp2
                refine start_ (n := 14) (S := fun w' => w'.cell? ⟨w.heap.size + 1 + 1, 2, none⟩ = some vM ∧ w'.cell? ⟨h5, 0, none⟩ = some (.int .i64 x.f0) ∧ w'.cell? ⟨h5, 3, none⟩ = some (.slice (some ad) x.f3.length c3) ∧ w'.cell? (ad.add k) = some (.int .i64 y)) (ds := [11, 13]) #[false, false, false, false, false, false, false, false, false, false, false, false, false, false] (by kernel_rfl) rfl rfl ⟨v2, p0, p3, py⟩ (fun hHeld => ?_)
                refine pure_ (i := 0) (N := some 63) (v := ?_) (a' := ?_) #[true, false, false, false, false, false, false, false, false, false, false, false, false, false] rfl rfl (by kernel_rfl) (fun _ _ _ h => h) (Or.inl ⟨by rfl, ?_⟩) ?_ ?_
                rotate_left
                · intro w'
                  go_simp
                  with_reducible rfl
                rotate_left
                · simp only [Act.put, List.setIfInBounds_toArray, List.set_cons_zero, List.set_cons_succ, i64_w, i32_w]
                  rfl
                refine pure_ (i := 2) (N := some 65) (v := ?_) (a' := ?_) #[true, false, true, false, false, false, false, false, false, false, false, false, false, false] rfl rfl (by kernel_rfl) (fun _ _ _ h => h) (Or.inl ⟨by rfl, ?_⟩) ?_ ?_
                rotate_left
                · intro w'
                  go_simp
                  with_reducible rfl
                rotate_left
                · simp only [Act.put, List.setIfInBounds_toArray, List.set_cons_zero, List.set_cons_succ, i64_w, i32_w]
                  rfl
                refine pure_ (i := 4) (N := some 67) (v := ?_) (a' := ?_) #[true, false, true, false, true, false, false, false, false, false, false, false, false, false] rfl rfl (by kernel_rfl) (fun _ _ _ h => h) (Or.inl ⟨by rfl, ?_⟩) ?_ ?_
                rotate_left
                · intro w'
                  go_simp
                  with_reducible rfl
                rotate_left
                · simp only [Act.put, List.setIfInBounds_toArray, List.set_cons_zero, List.set_cons_succ, i64_w, i32_w]
                  rfl
                refine pure_ (i := 6) (N := some 69) (v := ?_) (a' := ?_) #[true, false, true, false, true, false, true, false, false, false, false, false, false, false] rfl rfl (by kernel_rfl) (fun _ _ _ h => h) (Or.inl ⟨by rfl, ?_⟩) ?_ ?_
                rotate_left
                · intro w'
                  go_simp
                  with_reducible rfl
                rotate_left
                · simp only [Act.put, List.setIfInBounds_toArray, List.set_cons_zero, List.set_cons_succ, i64_w, i32_w]
                  rfl
                refine take_ (i := 1) (N := some 64) (v := ?_) (a' := ?_) #[true, true, true, false, true, false, true, false, false, false, false, false, false, false] rfl rfl (by kernel_rfl) (fun _ _ _ h => h) (Or.inl ⟨by rfl, ?_⟩) hHeld ?_ ?_
                rotate_left
                · rintro w' ⟨s0, s1, s2, s3⟩
                  go_simp
                  with_reducible rfl
                rotate_left
                · simp only [Act.put, List.setIfInBounds_toArray, List.set_cons_zero, List.set_cons_succ, i64_w, i32_w]
                  rfl
                refine take_ (i := 3) (N := some 66) (v := ?_) (a' := ?_) #[true, true, true, true, true, false, true, false, false, false, false, false, false, false] rfl rfl (by kernel_rfl) (fun _ _ _ h => h) (Or.inl ⟨by rfl, ?_⟩) hHeld ?_ ?_
                rotate_left
                · rintro w' ⟨s0, s1, s2, s3⟩
                  go_simp
                  with_reducible rfl
                rotate_left
                · simp only [Act.put, List.setIfInBounds_toArray, List.set_cons_zero, List.set_cons_succ, i64_w, i32_w]
                  rfl
                refine take_ (i := 5) (N := some 68) (v := ?_) (a' := ?_) #[true, true, true, true, true, true, true, false, false, false, false, false, false, false] rfl rfl (by kernel_rfl) (fun _ _ _ h => h) (Or.inl ⟨by rfl, ?_⟩) hHeld ?_ ?_
                rotate_left
                · rintro w' ⟨s0, s1, s2, s3⟩
                  go_simp
                  with_reducible rfl
                rotate_left
                · simp only [Act.put, List.setIfInBounds_toArray, List.set_cons_zero, List.set_cons_succ, i64_w, i32_w]
                  rfl
                refine pure_ (i := 7) (N := some 70) (v := ?_) (a' := ?_) #[true, true, true, true, true, true, true, true, false, false, false, false, false, false] rfl rfl (by kernel_rfl) (fun _ _ _ h => h) (Or.inl ⟨by rfl, ?_⟩) ?_ ?_
                rotate_left
                · intro w'
                  go_simp
                  with_reducible rfl
                rotate_left
                · simp only [Act.put, List.setIfInBounds_toArray, List.set_cons_zero, List.set_cons_succ, i64_w, i32_w]
                  rfl
                refine take_ (i := 8) (N := some 71) (v := ?_) (a' := ?_) #[true, true, true, true, true, true, true, true, true, false, false, false, false, false] rfl rfl (by kernel_rfl) (fun _ _ _ h => h) (Or.inl ⟨by rfl, ?_⟩) hHeld ?_ ?_
                rotate_left
                · rintro w' ⟨s0, s1, s2, s3⟩
                  go_simp
                  with_reducible rfl
                rotate_left
                · simp only [Act.put, List.setIfInBounds_toArray, List.set_cons_zero, List.set_cons_succ, i64_w, i32_w]
                  rfl
                refine pure_ (i := 9) (N := some 72) (v := ?_) (a' := ?_) #[true, true, true, true, true, true, true, true, true, true, false, false, false, false] rfl rfl (by kernel_rfl) (fun _ _ _ h => h) (Or.inl ⟨by rfl, ?_⟩) ?_ ?_
                rotate_left
                · intro w'
                  go_simp
                  with_reducible rfl
                rotate_left
                · simp only [Act.put, List.setIfInBounds_toArray, List.set_cons_zero, List.set_cons_succ, i64_w, i32_w]
                  rfl
                refine one_ (i := 10) (N := some 73) #[true, true, true, true, true, true, true, true, true, true, true, false, false, false] rfl rfl (by kernel_rfl) (by decide) (fun K hK => ?_)
                refine value_ (w1 := Wb.drew.alloc (.cells #[.int .i64 x.f0, .int .i64 y] 82)) (v := .slice (some ⟨Wb.drew.heap.size, 0, none⟩) 1 1) rfl rfl ?_ ?_
                · go_simp
                have bl := below_alloc (Below.refl Wb.drew.heap.size Wb.drew) (.cells #[.int .i64 x.f0, .int .i64 y] 82)
                refine hK.out _ _ ⟨pw_cell_below bl hHeld.1, pw_cell_below bl hHeld.2.1, pw_cell_below bl hHeld.2.2.1, pw_cell_below bl hHeld.2.2.2⟩ (fun hHeld => ?_)
                clear hK K
                refine norm_ (a' := ?_) ?_ ?_
                rotate_left
                · show Act.put _ (some 73) _ = _
                  simp only [Act.put, List.setIfInBounds_toArray, List.set_cons_zero, List.set_cons_succ, i64_w, i32_w]
                  rfl
                refine last_ (i := 11) (N := some 74) #[true, true, true, true, true, true, true, true, true, true, true, true, false, false] rfl rfl (by kernel_rfl) (by decide) (fun K hK => ?_)
                refine sn_append_step rfl _ _ rfl vM _ x.f0 y rfl rfl HRW.out HBZ.out HLN.out ?_
                intro v1 w1 hq1 hg1 hat1
                obtain ⟨A1, n1, c1, rfl⟩ := sn_form hq1
                have HQ1 := Aside0.mk hq1
                have HG1 := Aside0.mk hg1
                have HT1 := Aside0.mk hat1
                have f5 := blk_grown (w := Wb.drew) HTb.out.b3 hg1 (fun e => HTb.out.rne HTb.out.b3 (by decide) e.symm)
                have f6 : w1.cell? ⟨w.heap.size + 1 + 1, 2, none⟩ = some vM := blk_cell f5 2
                have f7 : w1.frozen? ⟨w.heap.size + 1 + 1, 2, none⟩ = false := blk_frozen f5 2
                clear hq1 hg1 hat1 f5
                refine hK.out _ _ ?_
                clear hK K
                refine norm_ (a' := ?_) ?_ ?_
                rotate_left
                · show Act.put _ (some 74) _ = _
                  simp only [Act.put, List.setIfInBounds_toArray, List.set_cons_zero, List.set_cons_succ, i64_w, i32_w]
                  rfl
                refine pure_ (i := 12) (N := some 75) (v := ?_) (a' := ?_) #[true, true, true, true, true, true, true, true, true, true, true, true, true, false] rfl rfl (by kernel_rfl) (fun _ _ _ h => h) (Or.inl ⟨by rfl, ?_⟩) ?_ ?_
                rotate_left
                · intro w'
                  go_simp
                  with_reducible rfl
                rotate_left
                · simp only [Act.put, List.setIfInBounds_toArray, List.set_cons_zero, List.set_cons_succ, i64_w, i32_w]
                  rfl
                refine last_ (i := 13) (N := none) #[true, true, true, true, true, true, true, true, true, true, true, true, true, true] rfl rfl (by kernel_rfl) (by decide) (fun K hK => ?_)
                refine skip_ (w1 := w1.setCell ⟨w.heap.size + 1 + 1, 2, none⟩ (.slice A1 n1 c1)) (by rfl) rfl ?_ ?_
                · go_simp
                refine hK.out _ _ ?_
                clear hK K
                refine done_ (by kernel_rfl) ?_
                have HZ : Aside0 (T2 w (w1.setCell ⟨w.heap.size + 1 + 1, 2, none⟩ (.slice A1 n1 c1)) P Q (some a) c l h5 x (some ad) c3 (s) (rTo Q l i).1 (rTo Q l i).2.1 (k + 1)) := by
                      have tc := (HTb.out.step (Below.refl _ _).drew).app (W := Wb.drew) HQ1.out HG1.out HT1.out
                      have bc := blk_far (blk_grown (w := Wb.drew) HBB.out HG1.out (fun e => HTb.out.rne HBB.out (by decide) e.symm)) (p := ⟨w.heap.size + 2, 2, none⟩) (by show h5 ≠ w.heap.size + 2; have := HH5.out; omega) (.slice A1 n1 c1)
                      rw [List.append_assoc, of_next HY.out] at tc
                      exact ⟨⟨_, _, _, tc, bc, tk_next HTK.out HY.out HLE.out (by have := HYB.out; omega), HH5.out⟩⟩
                clear v2 p0 p3 py f6 f7 bl
                go_wp2
                go_roundg kq
                case measure => omega
                case rel => exact ⟨k + 1, next_i (by have := HE.out.2.2.1; have := HK.out; omega), ⟨by have := HK.out; omega⟩, HZ⟩
              · have dle : decide (y ≤ ck) = false := decide_eq_false hle
                have HLE : Aside0 (¬ y ≤ ck) := ⟨hle⟩
                clear hle
                go_wp2
                refine start_ (n := 15) (S := fun w' => w'.cell? ⟨h5, 3, none⟩ = some (.slice (some ad) x.f3.length c3) ∧ w'.cell? (ad.add k) = some (.int .i64 y) ∧ w'.cell? ⟨h5, 2, none⟩ = some (.int .i64 ck)) (ds := []) #[false, false, false, false, false, false, false, false, false, false, false, false, false, false, false] (by kernel_rfl) rfl rfl ⟨z3, zy, z2⟩ (fun hHeld => ?_)
                refine pure_ (i := 0) (N := some 39) (v := ?_) (a' := ?_) #[true, false, false, false, false, false, false, false, false, false, false, false, false, false, false] rfl rfl (by kernel_rfl) (fun _ _ _ h => h) (Or.inl ⟨by rfl, ?_⟩) ?_ ?_
                rotate_left
                · intro w'
                  go_simp
                  with_reducible rfl
                rotate_left
                · simp only [Act.put, List.setIfInBounds_toArray, List.set_cons_zero, List.set_cons_succ, i64_w, i32_w]
                  rfl
                refine pure_ (i := 1) (N := some 40) (v := ?_) (a' := ?_) #[true, true, false, false, false, false, false, false, false, false, false, false, false, false, false] rfl rfl (by kernel_rfl) (fun _ _ _ h => h) (Or.inl ⟨by rfl, ?_⟩) ?_ ?_
                rotate_left
                · intro w'
                  go_simp
                  with_reducible rfl
                rotate_left
                · simp only [Act.put, List.setIfInBounds_toArray, List.set_cons_zero, List.set_cons_succ, i64_w, i32_w]
                  rfl
                refine take_ (i := 2) (N := some 41) (v := ?_) (a' := ?_) #[true, true, true, false, false, false, false, false, false, false, false, false, false, false, false] rfl rfl (by kernel_rfl) (fun _ _ _ h => h) (Or.inl ⟨by rfl, ?_⟩) hHeld ?_ ?_
                rotate_left
                · rintro w' ⟨s0, s1, s2⟩
                  go_simp
                  with_reducible rfl
                rotate_left
                · simp only [Act.put, List.setIfInBounds_toArray, List.set_cons_zero, List.set_cons_succ, i64_w, i32_w]
                  rfl
                refine pure_ (i := 3) (N := some 42) (v := ?_) (a' := ?_) #[true, true, true, true, false, false, false, false, false, false, false, false, false, false, false] rfl rfl (by kernel_rfl) (fun _ _ _ h => h) (Or.inl ⟨by rfl, ?_⟩) ?_ ?_
                rotate_left
                · intro w'
                  go_simp
                  with_reducible rfl
                rotate_left
                · simp only [Act.put, List.setIfInBounds_toArray, List.set_cons_zero, List.set_cons_succ, i64_w, i32_w]
                  rfl
                refine pure_ (i := 4) (N := some 43) (v := ?_) (a' := ?_) #[true, true, true, true, true, false, false, false, false, false, false, false, false, false, false] rfl rfl (by kernel_rfl) (fun _ _ _ h => h) (Or.inl ⟨by rfl, ?_⟩) ?_ ?_
                rotate_left
                · intro w'
                  go_simp
                  with_reducible rfl
                rotate_left
                · simp only [Act.put, List.setIfInBounds_toArray, List.set_cons_zero, List.set_cons_succ, i64_w, i32_w]
                  rfl
                refine pure_ (i := 5) (N := some 44) (v := ?_) (a' := ?_) #[true, true, true, true, true, true, false, false, false, false, false, false, false, false, false] rfl rfl (by kernel_rfl) (fun _ _ _ h => h) (Or.inl ⟨by rfl, ?_⟩) ?_ ?_
                rotate_left
                · intro w'
                  go_simp
                  with_reducible rfl
                rotate_left
                · simp only [Act.put, List.setIfInBounds_toArray, List.set_cons_zero, List.set_cons_succ, i64_w, i32_w]
                  rfl
                refine pure_ (i := 6) (N := some 45) (v := ?_) (a' := ?_) #[true, true, true, true, true, true, true, false, false, false, false, false, false, false, false] rfl rfl (by kernel_rfl) (fun _ _ _ h => h) (Or.inl ⟨by rfl, ?_⟩) ?_ ?_
                rotate_left
                · intro w'
                  go_simp
                  with_reducible rfl
                rotate_left
                · simp only [Act.put, List.setIfInBounds_toArray, List.set_cons_zero, List.set_cons_succ, i64_w, i32_w]
                  rfl
                refine pure_ (i := 8) (N := some 47) (v := ?_) (a' := ?_) #[true, true, true, true, true, true, true, false, true, false, false, false, false, false, false] rfl rfl (by kernel_rfl) (fun _ _ _ h => h) (Or.inl ⟨by rfl, ?_⟩) ?_ ?_
                rotate_left
                · intro w'
                  go_simp
                  with_reducible rfl
                rotate_left
                · simp only [Act.put, List.setIfInBounds_toArray, List.set_cons_zero, List.set_cons_succ, i64_w, i32_w]
                  rfl
                refine pure_ (i := 11) (N := some 50) (v := ?_) (a' := ?_) #[true, true, true, true, true, true, true, false, true, false, false, true, false, false, false] rfl rfl (by kernel_rfl) (fun _ _ _ h => h) (Or.inl ⟨by rfl, ?_⟩) ?_ ?_
                rotate_left
                · intro w'
                  go_simp
                  with_reducible rfl
                rotate_left
                · simp only [Act.put, List.setIfInBounds_toArray, List.set_cons_zero, List.set_cons_succ, i64_w, i32_w]
                  rfl
                refine take_ (i := 7) (N := some 46) (v := ?_) (a' := ?_) #[true, true, true, true, true, true, true, true, true, false, false, true, false, false, false] rfl rfl (by kernel_rfl) (fun _ _ _ h => h) (Or.inl ⟨by rfl, ?_⟩) hHeld ?_ ?_
                rotate_left
                · rintro w' ⟨s0, s1, s2⟩
                  go_simp
                  with_reducible rfl
                rotate_left
                · simp only [Act.put, List.setIfInBounds_toArray, List.set_cons_zero, List.set_cons_succ, i64_w, i32_w]
                  rfl
                refine pure_ (i := 9) (N := some 48) (v := ?_) (a' := ?_) #[true, true, true, true, true, true, true, true, true, true, false, true, false, false, false] rfl rfl (by kernel_rfl) (fun _ _ _ h => h) (Or.inl ⟨by rfl, ?_⟩) ?_ ?_
                rotate_left
                · intro w'
                  go_simp
                  with_reducible rfl
                rotate_left
                · simp only [Act.put, List.setIfInBounds_toArray, List.set_cons_zero, List.set_cons_succ, i64_w, i32_w]
                  rfl
                refine take_ (i := 10) (N := some 49) (v := ?_) (a' := ?_) #[true, true, true, true, true, true, true, true, true, true, true, true, false, false, false] rfl rfl (by kernel_rfl) (fun _ _ _ h => h) (Or.inl ⟨by rfl, ?_⟩) hHeld ?_ ?_
                rotate_left
                · rintro w' ⟨s0, s1, s2⟩
                  go_simp
                  with_reducible rfl
                rotate_left
                · simp only [Act.put, List.setIfInBounds_toArray, List.set_cons_zero, List.set_cons_succ, i64_w, i32_w]
                  rfl
                refine take_ (i := 12) (N := some 51) (v := ?_) (a' := ?_) #[true, true, true, true, true, true, true, true, true, true, true, true, true, false, false] rfl rfl (by kernel_rfl) (fun _ _ _ h => h) (Or.inl ⟨by rfl, ?_⟩) hHeld ?_ ?_
                rotate_left
                · rintro w' ⟨s0, s1, s2⟩
                  go_simp
                  with_reducible rfl
                rotate_left
                · simp only [Act.put, List.setIfInBounds_toArray, List.set_cons_zero, List.set_cons_succ, i64_w, i32_w]
                  rfl
                refine pure_ (i := 13) (N := some 52) (v := ?_) (a' := ?_) #[true, true, true, true, true, true, true, true, true, true, true, true, true, true, false] rfl rfl (by kernel_rfl) (fun _ _ _ h => h) (Or.inl ⟨by rfl, ?_⟩) ?_ ?_
                rotate_left
                · intro w'
                  go_simp
                  with_reducible rfl
                rotate_left
                · simp only [Act.put, List.setIfInBounds_toArray, List.set_cons_zero, List.set_cons_succ, i64_w, i32_w]
                  rfl
                refine pure_ (i := 14) (N := some 53) (v := ?_) (a' := ?_) #[true, true, true, true, true, true, true, true, true, true, true, true, true, true, true] rfl rfl (by kernel_rfl) (fun _ _ _ h => h) (Or.inl ⟨by rfl, ?_⟩) ?_ ?_
                rotate_left
                · intro w'
                  go_simp
                  with_reducible rfl
                rotate_left
                · simp only [Act.put, List.setIfInBounds_toArray, List.set_cons_zero, List.set_cons_succ, i64_w, i32_w]
                  rfl
                refine done_ (by kernel_rfl) ?_
                clear hHeld
                obtain ⟨i0, hi0, hzz⟩ := Option.map_eq_some_iff.1 Shr.info3
                simp only [Prod.mk.injEq] at hzz
                have hcut := cut_from (P := Try.prog) 43 3 .i64 Try.underlying43 hi0 1 hzz.2.1 (some ad) x.f3.length c3 (k : Int) (by omega) (by have := HTK.out.2.1; omega)
                have hfc := Kd.F_cut (m := k) HG3.out HTK.out.2.1 HL3.out
                simp only [Int.toNat_natCast, Nat.mul_one] at hcut
                have hfc' : Kd.F (Kd.int .i64) w (fun k => P k ∧ k < w.heap.size) (if c3 = k then (some ad) else (some ad).map (·.add k)) (x.f3.drop k).length (x.f3.drop k) := by
                  have h1 := hfc
                  rw [show (Kd.int .i64).sz = 1 from rfl, Nat.mul_one] at h1
                  exact h1
                clear hfc
                generalize hA4 : (if c3 = k then (some ad) else (some ad).map (·.add k)) = A4 at hcut hfc'
                have HFC := Aside0.mk hfc'
                clear hfc' hA4 hzz hi0
                obtain ⟨lf, hlf⟩ : ∃ lf, x.f3.drop k = lf := ⟨_, rfl⟩
                obtain ⟨n4, hn4⟩ : ∃ n4, x.f3.length - k = n4 := ⟨_, rfl⟩
                obtain ⟨c4, hc4⟩ : ∃ c4, c3 - k = c4 := ⟨_, rfl⟩
                have hln : n4 = lf.length := by rw [← hlf, ← hn4, List.length_drop]
                have hlc : lf.length ≤ c4 := by rw [← hln, ← hn4, ← hc4]; have := HL3.out; omega
                have hkl := (List.getElem?_eq_some_iff.1 HY.out).1
                have n40 : (n4 == 0) = false := by rw [beq_eq_false_iff_ne]; omega
                have n41 : ((n4 : Int) == 0) = false := by rw [beq_eq_false_iff_ne]; omega
                have n42 : ¬ (n4 = 0) := by omega
                have HRT : Aside0 (rT Q x = (ck, lf, x.f3.take k)) := ⟨by unfold rT; rw [HC0.out.1, tk_stop HTK.out HY.out (by have := HLE.out; omega), ← hlf]⟩
                clear hkl
                have HLF := Aside0.mk hlf
                have HLN4 := Aside0.mk hln
                have HLC := Aside0.mk hlc
                rw [hn4, hc4] at hcut
                clear hlf hn4 hc4 hln hlc
                obtain ⟨A5, c5, rfl⟩ := Kd.V_slice HT2.out.s
                have w0 : wr.cell? ⟨w.heap.size + 1 + 1, 0, none⟩ = some (.int .i64 Q) := blk_cell HT2.out.b3 0
                have w1' : wr.cell? ⟨w.heap.size + 1 + 1, 1, none⟩ = some (.slice A5 (rTo Q l i).1.length c5) := blk_cell HT2.out.b3 1
                have fw := fun j => blk_frozen HT2.out.b3 j
                have hne5 : h5 ≠ w.heap.size + 1 + 1 := by have := HH5.out; omega
                have hne6 : w.heap.size + 1 + 1 ≠ h5 := by have := HH5.out; omega
                go_wp2_with fail
                have tx0 := HT2.out.set HB5.out (by decide) HH5.out 3 (.slice A4 n4 c4)
                have bx0 := blk_put HB5.out 3 (.slice A4 n4 c4) rfl
                have tx := tx0.step (Below.refl _ _).drew
                have hx5 := blk_lt (w := (wr.setCell ⟨h5, 3, none⟩ (.slice A4 n4 c4)).drew) bx0
                clear tx0 bx0
                generalize (wr.setCell ⟨h5, 3, none⟩ (.slice A4 n4 c4)).drew = Wx at tx hx5 ⊢
                have hq := Kd.V_mk (e := 3) (base := Wx.heap.size) HLC.out (show Kd.F (Kd.int .i64) Wx (fun k => P k ∧ k < w.heap.size) A4 lf.length lf from by have h1 := Kd.F_below HFC.out tx.bel; rw [HLF.out] at h1; exact h1)
                have hlen : (rTo Q l i).1.length ≤ 30 := by have h1 := rTo_len (Q := Q) (l := l) i; have h2 := HLL.out; have h3 := HI.out; omega
                have HWS := Aside0.mk (with_spec Q x.f0 x.f1 ck lf (l := (rTo Q l i).1) (k := 200) (by omega) (by omega))
                have HTX := Aside0.mk tx
                have HQ4 := Aside0.mk hq
                have HX5 := Aside0.mk hx5
                have hn4e := HLN4.out
                subst hn4e
                clear tx hq hlen hx5
                refine (mosaicref30_Share_with.calls 200 Q _ A5 c5 (rTo Q l i).1 x.f0 x.f1 ck _ A4 c4 lf _ _ _ HTX.out.s HQ4.out HWS.out).mono ?_
                rintro e W9 ⟨v9, rfl, hn, hb9⟩
                have t9 := HTX.out.step hb9
                have r0 : W9.cell? ⟨w.heap.size + 1 + 1, 0, none⟩ = some (.int .i64 Q) := blk_cell t9.b3 0
                have r1 : W9.cell? ⟨w.heap.size + 1 + 1, 1, none⟩ = some (.slice A5 (rTo Q l i).1.length c5) := blk_cell t9.b3 1
                have fr := fun j => blk_frozen t9.b3 j
                obtain ⟨A9, c9, rfl⟩ := Kd.N_slice hn
                have hs9 : Kd.V k45 45 W9 0 (okT w P h5 vM) _ _ := Kd.V_mono (Kd.N_V (base' := 0) hn) (fun k hk => by
                    rcases hk with (h1 | h1) | h1
                    · exact h1
                    · refine ⟨⟨.inl h1, by have := HH5.out; omega⟩, fun e => ?_⟩
                      have := (q_typed HTX.out.r k e.symm).1
                      omega
                    · refine ⟨⟨.inr (by have := HTX.out.sz; omega), by have := HX5.out; omega⟩, fun e => ?_⟩
                      have := q_lt HTX.out.r k e.symm
                      omega)
                have T9 := Aside0.mk t9
                have HS9 := Aside0.mk hs9
                clear hn hb9 hs9 t9
                go_wp2
                have HZ : Aside0 (TR w ((W9.setCell ⟨w.heap.size + 1 + 1, 0, none⟩ (.int .i64 Q)).setCell ⟨w.heap.size + 1 + 1, 1, none⟩ (.slice A9 (withP ⟨x.f0, x.f1, ck, lf⟩ false (rTo Q l i).1).length c9)) P Q (some a) c l (i + 1)) := by
                    have e1 := rTo_next (Q := Q) HX.out
                    have e2 : rStep Q (rTo Q l i) x = (withP ⟨x.f0, x.f1, ck, lf⟩ false (rTo Q l i).1, (rTo Q l i).2.1 ++ of x.f0 (x.f3.take k), true) := by
                      unfold rStep rq
                      rw [if_neg HNE.out, HRT.out]
                    rw [e2] at e1
                    have u1 := T9.out.out 0 (.int .i64 Q) rfl T9.out.s T9.out.r
                    have u2 := u1.out 1 (.slice A9 (withP ⟨x.f0, x.f1, ck, lf⟩ false (rTo Q l i).1).length c9) rfl (Kd.V_far (p := ⟨w.heap.size + 2, 0, none⟩) HS9.out (fun k hk => by
                      show k ≠ w.heap.size + 2
                      have := hk.1.1
                      omega) _) u1.r
                    refine ⟨⟨h5, .slice A9 (withP ⟨x.f0, x.f1, ck, lf⟩ false (rTo Q l i).1).length c9, vM, ?_⟩⟩
                    rw [e1]
                    exact u2
                go_roundg iq
                case measure => omega
                case rel => exact ⟨i + 1, next_i (by have := HLL.out; have := HI.out; omega), ⟨by have := HI.out; omega⟩, HZ⟩
end Go.Proofs.Ytigcgdamipeidaa.Rf
