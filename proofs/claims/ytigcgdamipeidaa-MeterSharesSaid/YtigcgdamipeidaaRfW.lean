/- The reference share's Weigh, walked by hand (as the printer's contract would have it). -/
import Derived.Test.YtigcgdamipeidaaQx10
import Derived.Test.YtigcgdamipeidaaQx11
namespace Go.Proofs.Ytigcgdamipeidaa.Rf
open Go.RowKit Go.Proofs.YtigcgdamipeidaaW.PrintWords Go.Proofs.YtigcgdamipeidaaW.PrintLast Go.Proofs.YtigcgdamipeidaaW.PrintMore Go.Proofs.Ytigcgdamipeidaa Go.Proofs.Ytigcgdamipeidaa.Q
set_option linter.unusedVariables false
set_option linter.unusedSimpArgs false
set_option maxHeartbeats 4000000
set_option maxRecDepth 100000
theorem weigh_set {Q p x : Int} {P : Nat → Prop} {A : Option Addr} {c k : Nat} {l : List S45} {f0 f1 f2 r1 : Int} {f3 : List Int} {r2 : List S45} (hp : 1 ≤ p ∧ p ≤ 15) (hx : 1 ≤ x ∧ x ≤ 16) (w : World)
    (hv : Kd.V k45 45 w w.heap.size (fun k_ => P k_) (.slice A l.length c) l) (hf : mosaicref30_Share_Find.f k Q l p = some (f0, f1, f2, f3)) (hw : mosaicref30_Share_with.f k Q l f0 x f2 f3 = some (r1, r2)) :
    Calls Try.prog 12 #[.agg #[.int .i64 Q, .slice A l.length c], .int .i64 p, .int .i64 x] w fun e w' => ∃ v1_ : Value, e = .returned (.tuple #[.agg #[.int .i64 r1, v1_], .int .i64 0]) ∧
      Kd.V k45 45 w' w.heap.size (fun k_ => P k_ ∨ w.heap.size ≤ k_) v1_ r2 ∧ Below w.heap.size w w' := by
  have HV := Aside0.mk (Kd.V_bound hv)
  have HF := Aside0.mk hf
  have HW := Aside0.mk hw
  have d1 : decide (p < 1) = false := decide_eq_false (by omega)
  have d2 : decide (15 < p) = false := decide_eq_false (by omega)
  have d3 : decide (x < 0) = false := decide_eq_false (by omega)
  have d4 : decide (16 < x) = false := decide_eq_false (by omega)
  have d5 : (x == 0) = false := by rw [beq_eq_false_iff_ne]; omega
  clear hv hf hw hp hx
  go_enter Try.func12, Try.ntmps12
  go_wp2_with fail
  have h1 := Aside0.mk (Kd.V_alloc (Kd.V_alloc HV.out (.cells #[.int .i64 Q, .slice A l.length c] 28 (0, 0))) (.cells #[.int .i64 0, .slice none 0 0] 28 (0, 0)))
  (with_reducible refine (mosaicref30_Share_Find.calls k Q _ A c l p _ _ _ _ _ h1.out HF.out).mono ?_)
  rintro e w1 ⟨v3, rfl, hv3, hb1⟩
  obtain ⟨A3, c3, rfl⟩ := Kd.V_slice hv3
  have k3 : w1.heap[w.heap.size]? = some (.cells #[.int .i64 Q, .slice A l.length c] 28 (0, 0)) := blk_below (blk_alloc (blk_new w _) _) hb1
  have k6 : w1.heap[w.heap.size + 1]? = some (.cells #[.int .i64 0, .slice none 0 0] 28 (0, 0)) := blk_below (by have := blk_new (w.alloc (.cells #[.int .i64 Q, .slice A l.length c] 28 (0, 0))) (.cells #[.int .i64 0, .slice none 0 0] 28 (0, 0)); simpa using this) hb1
  have hz := blk_lt k6
  have hz3 := blk_lt k3
  have hz4 : w.heap.size ≠ w1.heap.size := Nat.ne_of_lt hz3
  have hz5 : w.heap.size + 1 ≠ w1.heap.size := Nat.ne_of_lt hz
  have c30 : w1.cell? ⟨w.heap.size, 0, none⟩ = some (.int .i64 Q) := blk_cell k3 0
  have c31 : w1.cell? ⟨w.heap.size, 1, none⟩ = some (.slice A l.length c) := blk_cell k3 1
  have c60 : w1.cell? ⟨w.heap.size + 1, 0, none⟩ = some (.int .i64 0) := blk_cell k6 0
  have c61 : w1.cell? ⟨w.heap.size + 1, 1, none⟩ = some (.slice none 0 0) := blk_cell k6 1
  have z60 := blk_frozen k6 0
  have z61 := blk_frozen k6 1
  have K3 := Aside0.mk k3
  have K6 := Aside0.mk k6
  have HV3 := Aside0.mk hv3
  have HVw := Aside0.mk (Kd.V_below h1.out hb1)
  have HB1 := Aside0.mk (below_step (below_alloc (below_alloc (Below.refl _ _) _) _) hb1)
  clear hv3 hb1 k3 k6 h1
  go_wp2_with fail
  have h2 := Aside0.mk (Kd.V_alloc HVw.out (.cells #[.int .i64 f0, .int .i64 x, .int .i64 f2, .slice A3 f3.length c3] 45 (0, 0)))
  have h3 := Aside0.mk (Kd.V_alloc HV3.out (.cells #[.int .i64 f0, .int .i64 x, .int .i64 f2, .slice A3 f3.length c3] 45 (0, 0)))
  (with_reducible refine (mosaicref30_Share_with.calls k Q _ A c l f0 x f2 _ A3 c3 f3 _ _ _ h2.out h3.out HW.out).mono ?_)
  rintro e w2 ⟨v1, rfl, hn, hb2⟩
  obtain ⟨A4, c4, rfl⟩ := Kd.N_slice hn
  have k6 : w2.heap[w.heap.size + 1]? = some (.cells #[.int .i64 0, .slice none 0 0] 28 (0, 0)) := blk_below (blk_alloc K6.out _) hb2
  have c60' : w2.cell? ⟨w.heap.size + 1, 0, none⟩ = some (.int .i64 0) := blk_cell k6 0
  have c61' : w2.cell? ⟨w.heap.size + 1, 1, none⟩ = some (.slice none 0 0) := blk_cell k6 1
  have z60' := blk_frozen k6 0
  have z61' := blk_frozen k6 1
  have hv2 := Kd.N_V (base' := w.heap.size) hn
  have HS1 : Aside0 (w.heap.size + 1 < w1.heap.size) := ⟨hz⟩
  have HB2 := Aside0.mk (below_step (below_alloc HB1.out _) hb2)
  have HV2 := Aside0.mk hv2
  have HZ1 := Aside0.mk HB1.out.size
  have K6' := Aside0.mk k6
  have NE := Aside0.mk (Kd.N_typed hn)
  clear hn hb2 k6 hv2 c30 c31 c60 c61 z60 z61
  go_wp2
  refine bodyPost_ret (results_ct rfl _ _ (w.heap.size + 1) 28 #[.int .i64 r1, .slice A4 r2.length c4] (0, 0) _ rfl (blk_put (blk_put K6'.out 0 _ rfl) 1 _ rfl) Try.underlying28 rfl (by kernel_rfl)) rfl ?_
  have hs1 := HS1.out
  refine ⟨_, rfl, Kd.V_mono (ok := fun k => (((P k ∧ k < w.heap.size) ∨ ((P k ∧ k < w.heap.size) ∨ w.heap.size + 2 ≤ k)) ∨ w1.heap.size + 1 ≤ k)) (Kd.V_far (Kd.V_far (Kd.V_mono HV2.out (fun k hk => ?_)) (fun k hk => ?_) _) (fun k hk => ?_) _) (fun k hk => ?_), (HB2.out.setCell (p := ⟨w.heap.size + 1, 0, none⟩) (Nat.le_succ _) _).setCell (p := ⟨w.heap.size + 1, 1, none⟩) (Nat.le_succ _) _⟩
  · simpa using hk
  · show k ≠ w.heap.size + 1
    rcases hk with (h | h | h) | h <;> omega
  · show k ≠ w.heap.size + 1
    rcases hk with (h | h | h) | h <;> omega
  · rcases hk with (h | h | h) | h
    · exact .inl h.1
    · exact .inl h.1
    · exact .inr (by omega)
    · exact .inr (by omega)
theorem weigh_zero {Q p : Int} {P : Nat → Prop} {A : Option Addr} {c k : Nat} {l : List S45} {f0 f1 f2 r1 : Int} {f3 : List Int} {r2 : List S45} (hp : 1 ≤ p ∧ p ≤ 15) (w : World)
    (hv : Kd.V k45 45 w w.heap.size (fun k_ => P k_) (.slice A l.length c) l) (hf : mosaicref30_Share_Find.f k Q l p = some (f0, f1, f2, f3)) (hw : mosaicref30_Share_with.f k Q l p 0 0 [] = some (r1, r2)) :
    Calls Try.prog 12 #[.agg #[.int .i64 Q, .slice A l.length c], .int .i64 p, .int .i64 0] w fun e w' => ∃ v1_ : Value, e = .returned (.tuple #[.agg #[.int .i64 r1, v1_], .int .i64 0]) ∧
      Kd.V k45 45 w' w.heap.size (fun k_ => P k_ ∨ w.heap.size ≤ k_) v1_ r2 ∧ Below w.heap.size w w' := by
  have HV := Aside0.mk (Kd.V_bound hv)
  have HF := Aside0.mk hf
  have HW := Aside0.mk hw
  have d1 : decide (p < 1) = false := decide_eq_false (by omega)
  have d2 : decide (15 < p) = false := decide_eq_false (by omega)
  clear hv hf hw hp
  go_enter Try.func12, Try.ntmps12
  go_wp2_with fail
  have h1 := Aside0.mk (Kd.V_alloc (Kd.V_alloc HV.out (.cells #[.int .i64 Q, .slice A l.length c] 28 (0, 0))) (.cells #[.int .i64 0, .slice none 0 0] 28 (0, 0)))
  (with_reducible refine (mosaicref30_Share_Find.calls k Q _ A c l p _ _ _ _ _ h1.out HF.out).mono ?_)
  rintro e w1 ⟨v3, rfl, hv3, hb1⟩
  obtain ⟨A3, c3, rfl⟩ := Kd.V_slice hv3
  have k3 : w1.heap[w.heap.size]? = some (.cells #[.int .i64 Q, .slice A l.length c] 28 (0, 0)) := blk_below (blk_alloc (blk_new w _) _) hb1
  have k6 : w1.heap[w.heap.size + 1]? = some (.cells #[.int .i64 0, .slice none 0 0] 28 (0, 0)) := blk_below (by have := blk_new (w.alloc (.cells #[.int .i64 Q, .slice A l.length c] 28 (0, 0))) (.cells #[.int .i64 0, .slice none 0 0] 28 (0, 0)); simpa using this) hb1
  have hz := blk_lt k6
  have hz3 := blk_lt k3
  have hz4 : w.heap.size ≠ w1.heap.size := Nat.ne_of_lt hz3
  have hz5 : w.heap.size + 1 ≠ w1.heap.size := Nat.ne_of_lt hz
  have c30 : w1.cell? ⟨w.heap.size, 0, none⟩ = some (.int .i64 Q) := blk_cell k3 0
  have c31 : w1.cell? ⟨w.heap.size, 1, none⟩ = some (.slice A l.length c) := blk_cell k3 1
  have c60 : w1.cell? ⟨w.heap.size + 1, 0, none⟩ = some (.int .i64 0) := blk_cell k6 0
  have c61 : w1.cell? ⟨w.heap.size + 1, 1, none⟩ = some (.slice none 0 0) := blk_cell k6 1
  have z60 := blk_frozen k6 0
  have z61 := blk_frozen k6 1
  have K3 := Aside0.mk k3
  have K6 := Aside0.mk k6
  have HV3 := Aside0.mk hv3
  have HVw := Aside0.mk (Kd.V_below h1.out hb1)
  have HB1 := Aside0.mk (below_step (below_alloc (below_alloc (Below.refl _ _) _) _) hb1)
  clear hv3 hb1 k3 k6 h1
  go_wp2_with fail
  have h2 := Aside0.mk (Kd.V_alloc HVw.out (.cells #[.int .i64 p, .int .i64 0, .int .i64 0, .slice none 0 0] 45 (0, 0)))
  have h3 : Aside0 (Kd.V (Kd.int .i64) 3 (w1.alloc (.cells #[.int .i64 p, .int .i64 0, .int .i64 0, .slice none 0 0] 45 (0, 0))) (w1.alloc (.cells #[.int .i64 p, .int .i64 0, .int .i64 0, .slice none 0 0] 45 (0, 0))).heap.size (fun _ => False) (.slice none ([] : List Int).length 0) []) := ⟨Kd.V_nil _ _ _ _ _⟩
  refine (mosaicref30_Share_with.calls k Q _ A c l p 0 0 _ none 0 [] _ _ _ h2.out h3.out HW.out).mono ?_
  rintro e w2 ⟨v1, rfl, hn, hb2⟩
  obtain ⟨A4, c4, rfl⟩ := Kd.N_slice hn
  have k6 : w2.heap[w.heap.size + 1]? = some (.cells #[.int .i64 0, .slice none 0 0] 28 (0, 0)) := blk_below (blk_alloc K6.out _) hb2
  have c60' : w2.cell? ⟨w.heap.size + 1, 0, none⟩ = some (.int .i64 0) := blk_cell k6 0
  have c61' : w2.cell? ⟨w.heap.size + 1, 1, none⟩ = some (.slice none 0 0) := blk_cell k6 1
  have z60' := blk_frozen k6 0
  have z61' := blk_frozen k6 1
  have hv2 := Kd.N_V (base' := w.heap.size) hn
  have HS1 : Aside0 (w.heap.size + 1 < w1.heap.size) := ⟨hz⟩
  have HB2 := Aside0.mk (below_step (below_alloc HB1.out _) hb2)
  have HV2 := Aside0.mk hv2
  have HZ1 := Aside0.mk HB1.out.size
  have K6' := Aside0.mk k6
  have NE := Aside0.mk (Kd.N_typed hn)
  clear hn hb2 k6 hv2 c30 c31 c60 c61 z60 z61
  go_wp2
  refine bodyPost_ret (results_ct rfl _ _ (w.heap.size + 1) 28 #[.int .i64 r1, .slice A4 r2.length c4] (0, 0) _ rfl (blk_put (blk_put K6'.out 0 _ rfl) 1 _ rfl) Try.underlying28 rfl (by kernel_rfl)) rfl ?_
  have hs1 := HS1.out
  refine ⟨_, rfl, Kd.V_mono (ok := fun k => ((P k ∧ k < w.heap.size) ∨ w1.heap.size + 1 ≤ k)) (Kd.V_far (Kd.V_far (Kd.V_mono HV2.out (fun k hk => ?_)) (fun k hk => ?_) _) (fun k hk => ?_) _) (fun k hk => ?_), (HB2.out.setCell (p := ⟨w.heap.size + 1, 0, none⟩) (Nat.le_succ _) _).setCell (p := ⟨w.heap.size + 1, 1, none⟩) (Nat.le_succ _) _⟩
  · simpa using hk
  · show k ≠ w.heap.size + 1
    rcases hk with h | h <;> omega
  · show k ≠ w.heap.size + 1
    rcases hk with h | h <;> omega
  · rcases hk with h | h
    · exact .inl h.1
    · exact .inr (by omega)
theorem weigh_no {Q p x : Int} {P : Nat → Prop} {A : Option Addr} {c : Nat} {l : List S45} (h : ¬ (1 ≤ p ∧ p ≤ 15 ∧ 0 ≤ x ∧ x ≤ 16)) (w : World)
    (hv : Kd.V k45 45 w w.heap.size (fun k_ => P k_) (.slice A l.length c) l) :
    Calls Try.prog 12 #[.agg #[.int .i64 Q, .slice A l.length c], .int .i64 p, .int .i64 x] w fun e w' => ∃ v1_ : Value, e = .returned (.tuple #[.agg #[.int .i64 Q, v1_], .int .i64 1]) ∧
      Kd.V k45 45 w' w.heap.size (fun k_ => P k_ ∨ w.heap.size ≤ k_) v1_ l ∧ Below w.heap.size w w' := by
  have HV := Aside0.mk (Kd.V_bound hv)
  have K : ∀ (tmps : Array Value), tmps.getD 6 undef = .pointer (some ⟨w.heap.size + 1, 0, none⟩) → tmps.getD 7 undef = .int .i64 1 →
      bodyPost Try.prog Try.f12 (fun e w' => ∃ v1_ : Value, e = .returned (.tuple #[.agg #[.int .i64 Q, v1_], .int .i64 1]) ∧ Kd.V k45 45 w' w.heap.size (fun k_ => P k_ ∨ w.heap.size ≤ k_) v1_ l ∧ Below w.heap.size w w') .ret ⟨tmps, []⟩
        ((w.alloc (.cells #[.int .i64 Q, .slice A l.length c] 28 (0, 0))).alloc (.cells #[.int .i64 Q, .slice A l.length c] 28 (0, 0))) := by
    intro tmps h6 h7
    have k6 : ((w.alloc (.cells #[.int .i64 Q, .slice A l.length c] 28 (0, 0))).alloc (.cells #[.int .i64 Q, .slice A l.length c] 28 (0, 0))).heap[w.heap.size + 1]? = some (.cells #[.int .i64 Q, .slice A l.length c] 28 (0, 0)) := by
      have := blk_new (w.alloc (.cells #[.int .i64 Q, .slice A l.length c] 28 (0, 0))) (.cells #[.int .i64 Q, .slice A l.length c] 28 (0, 0))
      simpa using this
    have hr := results_ct (P := Try.prog) (fn := Try.f12) (p := 6) (u := 7) (ty := 28) rfl tmps _ (w.heap.size + 1) 28 #[.int .i64 Q, .slice A l.length c] (0, 0) _ h6 k6 Try.underlying28 rfl (by kernel_rfl)
    rw [h7] at hr
    refine bodyPost_ret hr rfl ?_
    exact ⟨_, rfl, Kd.V_mono (Kd.V_alloc (Kd.V_alloc HV.out _) _) (fun k hk => .inl hk.1), below_alloc (below_alloc (Below.refl _ _) _) _⟩
  have HK := Aside0.mk K
  clear hv K
  by_cases c1 : p < 1
  · have d1 : decide (p < 1) = true := decide_eq_true c1
    clear h c1
    go_enter Try.func12, Try.ntmps12
    go_wp2
    exact HK.out _ rfl rfl
  · have d1 : decide (p < 1) = false := decide_eq_false c1
    by_cases c2 : 15 < p
    · have d2 : decide (15 < p) = true := decide_eq_true c2
      clear h c1 c2
      go_enter Try.func12, Try.ntmps12
      go_wp2
      exact HK.out _ rfl rfl
    · have d2 : decide (15 < p) = false := decide_eq_false c2
      by_cases c3 : x < 0
      · have d3 : decide (x < 0) = true := decide_eq_true c3
        clear h c1 c2 c3
        go_enter Try.func12, Try.ntmps12
        go_wp2
        exact HK.out _ rfl rfl
      · have d3 : decide (x < 0) = false := decide_eq_false c3
        have d4 : decide (16 < x) = true := decide_eq_true (by omega)
        clear h c1 c2 c3
        go_enter Try.func12, Try.ntmps12
        go_wp2
        exact HK.out _ rfl rfl
end Go.Proofs.Ytigcgdamipeidaa.Rf
