/- Plain laws of peeling, part two: marks, numbers, steps, what is known; Which numbers stand in some row: slices.Contains, the closures of peel.Needs and inact.Unknowns, inact.inRow; Printed by a ch ... No condition. -/
import Derived.Test.YtjmooillogojkaaGreatM10
set_option maxHeartbeats 8000000
set_option maxRecDepth 100000
set_option linter.unusedVariables false
set_option linter.unusedSimpArgs false
namespace Go.Proofs.YtjmooillogojkaaGreat.Q
open Go.RowKit Go.Proofs.YtjmooillogojkaaGreatW.PrintWords Go.Proofs.YtjmooillogojkaaGreatW.PrintLast Go.Proofs.YtjmooillogojkaaGreatW.PrintMore
open Go.Proofs.YtjmooillogojkaaGreat
def peel_Steps.f (k : Nat) (a0 : Int) (l1 : List (List Int)) (l2 : List Int) : Option ((List (S123)) × Int) := (peel_may.f a0 l1 l2).bind fun t469 => (if t469 = true then ((peel_marks.f k a0 l2).bind fun t470 => ((peel_peel.f k l1 t470).bind fun bt473 => (some (bt473.1, 0)))) else (some (([] : List (S123)), 1)))
theorem peel_Steps.calls (k : Nat) (a0 : Int) (A1 : Option Addr) (c1 : Nat) (l1 : List (List Int)) (A2 : Option Addr) (c2 : Nat) (l2 : List Int) (r1 : List (S123)) (r2 : Int) (w : World) (hr1 : Kd.C (Kd.slice 3 (Kd.int .i64)) w A1 l1.length l1) (hc1 : l1.length ≤ c1) (hr2 : Kd.C (Kd.int .i64) w A2 l2.length l2) (hc2 : l2.length ≤ c2) (h : peel_Steps.f k a0 l1 l2 = some (r1, r2)) :
  Calls Tryz.prog 63 #[.int .i64 a0, .slice A1 l1.length c1, .slice A2 l2.length c2] w fun e w' => ∃ v0_ : Value, e = .returned (.tuple #[v0_, .int .i64 r2]) ∧ Kd.R k123 123 w' w.heap.size (fun _ => True) v0_ r1 ∧ Below w.heap.size w w' := by
 have HR1 := jo hr1
 have HC1 := jo hc1
 clear hr1 hc1
 have HR2 := jo hr2
 have HC2 := jo hc2
 clear hr2 hc2
 have HB := jo (Below.refl w.heap.size w)
 have H : ((peel_may.f a0 l1 l2).bind fun t469 => (if t469 = true then ((peel_marks.f k a0 l2).bind fun t470 => ((peel_peel.f k l1 t470).bind fun bt473 => (some (bt473.1, 0)))) else (some (([] : List (S123)), 1)))) = some (r1, r2) := h
 clear h
 replace H := Option.bind_eq_some_iff.mp H
 obtain ⟨t469, A40, H⟩ := H
 replace H : (if t469 = true then ((peel_marks.f k a0 l2).bind fun t470 => ((peel_peel.f k l1 t470).bind fun bt473 => (some (bt473.1, 0)))) else (some (([] : List (S123)), 1))) = some (r1, r2) := H
 have A4 := jo A40
 clear A40
 by_cases c5 : t469 = true
 ·subst c5
  have H1 : ((peel_marks.f k a0 l2).bind fun t470 => ((peel_peel.f k l1 t470).bind fun bt473 => (some (bt473.1, 0)))) = some (r1, r2) := by rw [if_pos rfl] at H; exact H
  clear H
  have H := H1
  clear H1
  replace H := Option.bind_eq_some_iff.mp H
  obtain ⟨t470, A60, H⟩ := H
  replace H : ((peel_peel.f k l1 t470).bind fun bt473 => (some (bt473.1, 0))) = some (r1, r2) := H
  have A6 := jo A60
  clear A60
  replace H := Option.bind_eq_some_iff.mp H
  obtain ⟨⟨t473, t476⟩, A70, H⟩ := H
  replace H : (some (t473, 0)) = some (r1, r2) := H
  have A7 := jo A70
  clear A70
  simp only [Option.some.injEq, Prod.mk.injEq] at H
  obtain ⟨rfl, rfl⟩ := H
  go_enter Tryz.func63, Tryz.ntmps63
  go_wp2_with (first | ((with_reducible refine gate_callee (f := 29) rfl ?_); refine goesL_ (some 11) rfl rfl Tryz.func29 jw rfl #[.int .i64 a0, .slice A1 l1.length c1, .slice A2 l2.length c2] rfl jm ?_; (with_reducible refine (peel_may.calls a0 _ _ l1 (fun k_ => k_ < w.heap.size) _ _ l2 true _ ?side1 ?side2 ?side3 A4.out).mono ?_); (case side1 => repeat (first | exact HR1.out | (with_reducible refine Kd.C_alloc ?_ _) | (with_reducible refine Kd.C_drewN ?_ _) | (with_reducible refine Kd.C_drew ?_))); (case side2 => exact HC1.out); (case side3 => exact Kd.V_mk HC2.out (Kd.F_below (Kd.C_F (Kd.heap_int .i64) HR2.out) jb)); rintro e w8 ⟨rfl, hb⟩; refine ⟨_, rfl, ?_⟩; have n0_ := jo (below_step jb hb); clear HB; have HB := n0_; clear n0_; (try clear hb); (try clear hb2); (try clear hk); (try clear hi)) | ((with_reducible refine gate_callee (f := 30) rfl ?_); refine goesL_ (some 16) rfl rfl Tryz.func30 jw rfl #[.int .i64 a0, .slice A2 l2.length c2] rfl jm ?_; (with_reducible refine (peel_marks.calls k a0 _ _ l2 t470 _ ?side1 ?side2 A6.out).mono ?_); (case side1 => repeat (first | exact (Kd.C_below HR2.out HB.out) | (with_reducible refine Kd.C_alloc ?_ _) | (with_reducible refine Kd.C_drewN ?_ _) | (with_reducible refine Kd.C_drew ?_))); (case side2 => exact HC2.out); rintro e w9 ⟨v471, rfl, ho0, hb⟩; refine ⟨_, rfl, ?_⟩; have n0_ := jo (Kd.R_lower ho0 (below_size jb)); have n1_ := jo (below_step jb hb); clear HB; have HO472 := n0_; have HB := n1_; clear n0_ n1_; (try clear hb); (try clear hb2); (try clear hk); (try clear hi); (try clear ho0); obtain ⟨Ao10, co10, eo10⟩ := Kd.R_slice HO472.out; subst eo10) | ((with_reducible refine gate_callee (f := 31) rfl ?_); refine goesL_ (some 17) rfl rfl Tryz.func31 jw rfl #[.slice A1 l1.length c1, .slice Ao10 t470.length co10] rfl jm ?_; (with_reducible refine (peel_peel.calls k _ _ l1 (fun k_ => some k_ = (.slice Ao10 t470.length co10 : Value).ownBlock) (.slice Ao10 t470.length co10) t470 t473 t476 w _ ?side1 ?side2 ?side3 ?side4 A7.out).mono ?_); (case side1 => repeat (first | (with_reducible first | exact HB.out | apply below_alloc | apply pw_below_drewN | apply below_drew1) | exact HB.out)); (case side2 => exact Kd.C_kept_came (Kd.heap_slice 3 (Kd.heap_int .i64)) HR1.out jb (fun k_ hs_ => (fun e_ => Kd.R_base HO472.out k_ e_.symm) hs_)); (case side3 => exact HC1.out); (case side4 => exact Kd.R_tight rfl HO472.out); rintro e w11 ⟨v474, rfl, ho0, hy0, hb, hkp⟩; refine ⟨_, rfl, ?_⟩; have n0_ := jo (Kd.R_reok rfl hy0 (fun k_ e_ => HO472.out.1 k_ e_)); have n1_ := jo (Kd.R_mono (ok' := fun k_ => True) ho0 (fun k_ hk_ => trivial)); have n2_ := jo (hb); clear HO472; clear HB; have HO472 := n0_; have HO475 := n1_; have HB := n2_; clear n0_ n1_ n2_; (try clear hb); (try clear hkp); (try clear ho0); (try clear hy0)))
  go_ret2
  exact ⟨_, je, jr HO475.out, jb⟩
 ·replace c5 := Bool.eq_false_iff.mpr c5
  subst c5
  have H1 : (some (([] : List (S123)), 1)) = some (r1, r2) := by rw [if_neg (show ¬ (false = true) by decide)] at H; exact H
  clear H
  have H := H1
  clear H1
  simp only [Option.some.injEq, Prod.mk.injEq] at H
  obtain ⟨rfl, rfl⟩ := H
  go_enter Tryz.func63, Tryz.ntmps63
  go_wp2_with (first | ((with_reducible refine gate_callee (f := 29) rfl ?_); refine goesL_ (some 11) rfl rfl Tryz.func29 jw rfl #[.int .i64 a0, .slice A1 l1.length c1, .slice A2 l2.length c2] rfl jm ?_; (with_reducible refine (peel_may.calls a0 _ _ l1 (fun k_ => k_ < w.heap.size) _ _ l2 false _ ?side1 ?side2 ?side3 A4.out).mono ?_); (case side1 => repeat (first | exact HR1.out | (with_reducible refine Kd.C_alloc ?_ _) | (with_reducible refine Kd.C_drewN ?_ _) | (with_reducible refine Kd.C_drew ?_))); (case side2 => exact HC1.out); (case side3 => exact Kd.V_mk HC2.out (Kd.F_below (Kd.C_F (Kd.heap_int .i64) HR2.out) jb)); rintro e w12 ⟨rfl, hb⟩; refine ⟨_, rfl, ?_⟩; have n0_ := jo (below_step jb hb); clear HB; have HB := n0_; clear n0_; (try clear hb); (try clear hb2); (try clear hk); (try clear hi)))
  go_ret2
  exact ⟨_, je, by first | exact Kd.R_nil _ _ _ _ _ | exact Kd.N_nil _ _ _ _ _ | exact Kd.V_nil _ _ _ _ _ | exact Kd.Q_nil _ _ _ _ _ | exact Kd.S_nil _ _ _ _ _, jb⟩
end Go.Proofs.YtjmooillogojkaaGreat.Q
namespace Go.Proofs.YtjmooillogojkaaGreat.Q
open Go.Proofs.YtjmooillogojkaaGreatW.PrintWords
open Go.Proofs.YtjmooillogojkaaGreat
theorem known_replicate (n : Nat) (i : Int) : ¬ known (List.replicate n false) i := by
 unfold known rdOf
 rw [List.getD_eq_getElem?_getD, List.getElem?_replicate]
 split <;> simp
theorem marks_l0 (n : Nat) (l : List Int) (hm : l.length < 1000000) (hb : ∀ i ∈ l, 0 ≤ i ∧ i < n) : ∀ (d j k : Nat) (s : List Bool), l.length - j = d → j ≤ l.length → d < k → s.length = n →
  ∃ s', peel_marks.l0 k s l (l.length : Int) (j : Int) = some s' ∧ s'.length = n ∧ ∀ i, 0 ≤ i → (known s' i ↔ known s i ∨ i ∈ l.drop j)
 | d, j, 0, _, _, _, h, _ => absurd h (Nat.not_lt_zero _)
 | d, j, k + 1, s, hd, hj, hk, hs => by
  simp only [peel_marks.l0]
  by_cases hlt : j < l.length
  ·have hg : rd l (j : Int) = l[j] := rd_get hlt
   obtain ⟨h0, h1⟩ := hb l[j] (List.getElem_mem hlt)
   have hdr : l.drop j = l[j] :: l.drop (j + 1) := List.drop_eq_getElem_cons hlt
   rw [if_pos (by omega), if_pos (by omega), if_pos (by omega), hg, if_pos h0, if_pos (by omega), Deg.w64 (by omega) (by omega)]
   obtain ⟨s', h2, h3, h4⟩ := marks_l0 n l hm hb (d - 1) (j + 1) k (s.set l[j].toNat true) (by omega) (by omega) (by omega) (by rw [List.length_set]; exact hs)
   refine ⟨s', h2, h3, fun i hi => ?_⟩
   rw [h4 i hi, known_set h0 (by omega) i hi, hdr, List.mem_cons]
   constructor
   ·rintro ((h | h) | h)
    ·exact .inr (.inl h)
    ·exact .inl h
    ·exact .inr (.inr h)
   ·rintro (h | h | h)
    ·exact .inl (.inr h)
    ·exact .inl (.inl h)
    ·exact .inr h
  ·rw [if_neg (by omega)]
   exact ⟨s, rfl, hs, fun i _ => by rw [List.drop_eq_nil_of_le (by omega)]; simp⟩
theorem marks_spec {n k : Nat} {l : List Int} (hn : n ≤ 160) (hm : l.length < 1000000) (hb : ∀ i ∈ l, 0 ≤ i ∧ i < n) (hk : l.length < k) : ∃ s, peel_marks.f k (n : Int) l = some s ∧ s.length = n ∧ ∀ i, 0 ≤ i → (known s i ↔ i ∈ l) := by
 unfold peel_marks.f
 rw [if_pos (by omega), Int.toNat_natCast, if_pos (by omega)]
 obtain ⟨s, h1, h2, h3⟩ := marks_l0 n l hm hb l.length 0 k (List.replicate n false) (by omega) (by omega) hk (by simp)
 refine ⟨s, h1, h2, fun i hi => ?_⟩
 rw [h3 i hi, List.drop_zero]
 exact ⟨fun h => h.resolve_left (known_replicate n i), fun h => .inr h⟩
theorem numbers_l0 (s : List Bool) (so : Bool) (hm : s.length < 1000000) : ∀ (d j k : Nat) (acc : List Int), s.length - j = d → j ≤ s.length → d < k → acc.length ≤ j →
  ∃ l, peel_numbers.l0 k so acc s (s.length : Int) (j : Int) = some l ∧ ∀ i, i ∈ l ↔ i ∈ acc ∨ ((j : Int) ≤ i ∧ i < s.length ∧ rdOf false s i = so)
 | d, j, 0, _, _, _, h, _ => absurd h (Nat.not_lt_zero _)
 | d, j, k + 1, acc, hd, hj, hk, ha => by
  simp only [peel_numbers.l0]
  by_cases hlt : j < s.length
  ·rw [if_pos (by omega), if_pos (by omega), if_pos (by omega)]
   by_cases e : rdOf false s (j : Int) = so
   ·rw [if_pos (by rw [e]; exact beq_self_eq_true so), if_pos (by omega), Deg.w64 (by omega) (by omega)]
    obtain ⟨l, h1, h2⟩ := numbers_l0 s so hm (d - 1) (j + 1) k (acc ++ [(j : Int)]) (by omega) (by omega) (by omega) (by simp; omega)
    refine ⟨l, h1, fun i => ?_⟩
    rw [h2 i, List.mem_append, List.mem_singleton]
    constructor
    ·rintro ((h | rfl) | ⟨h3, h4, h5⟩)
     ·exact .inl h
     ·exact .inr ⟨Int.le_refl _, by omega, e⟩
     ·exact .inr ⟨by omega, h4, h5⟩
    ·rintro (h | ⟨h3, h4, h5⟩)
     ·exact .inl (.inl h)
     ·by_cases e2 : i = (j : Int)
      ·exact .inl (.inr e2)
      ·exact .inr ⟨by omega, h4, h5⟩
   ·rw [if_neg (by intro h; exact e (eq_of_beq h)), Deg.w64 (by omega) (by omega)]
    obtain ⟨l, h1, h2⟩ := numbers_l0 s so hm (d - 1) (j + 1) k acc (by omega) (by omega) (by omega) (by omega)
    refine ⟨l, h1, fun i => ?_⟩
    rw [h2 i]
    constructor
    ·rintro (h | ⟨h3, h4, h5⟩)
     ·exact .inl h
     ·exact .inr ⟨by omega, h4, h5⟩
    ·rintro (h | ⟨h3, h4, h5⟩)
     ·exact .inl h
     ·by_cases e2 : i = (j : Int)
      ·exact absurd (e2 ▸ h5) e
      ·exact .inr ⟨by omega, h4, h5⟩
  ·rw [if_neg (by omega)]
   exact ⟨acc, rfl, fun i => ⟨fun h => .inl h, fun h => h.resolve_right (fun h => by omega)⟩⟩
theorem numbers_spec {s : List Bool} {k : Nat} (so : Bool) (hm : s.length < 1000000) (hk : s.length < k) : ∃ l, peel_numbers.f k s so = some l ∧ ∀ i, i ∈ l ↔ 0 ≤ i ∧ i < s.length ∧ rdOf false s i = so := by
 obtain ⟨l, h1, h2⟩ := numbers_l0 s so hm s.length 0 k [] (by omega) (by omega) hk (by simp)
 refine ⟨l, h1, fun i => ?_⟩
 rw [h2 i]
 simp
theorem rowsIn_ok {n : Nat} {L : List (List Int)} (h : rowsIn n L) : rowsOk (n : Int) L := ⟨Int.natCast_nonneg n, by have := h.1; omega, h.2.1, h.2.2⟩
theorem may_spec {n : Nat} {L : List (List Int)} {U : List Int} (h : rowsIn n L) (hu : rowOk n U) : peel_may.f (n : Int) L U = some true := by
 unfold peel_may.f gauss_May.f
 rw [if_pos ((rowsB_iff _ _).2 (rowsIn_ok h)), Option.bind_some, if_pos rfl, if_pos ((rowsB_iff _ _).2 ⟨Int.natCast_nonneg n, by have := h.1; omega, by simp, fun l hl => by rw [List.mem_singleton.1 hl]; exact hu⟩)]
 rfl
theorem steps_spec {n : Nat} {L : List (List Int)} {U : List Int} (h : rowsIn n L) (hu : rowOk n U) : ∃ st s s', peel_Steps.f 100000 (n : Int) L U = some (st, 0) ∧ Peel L s st s' ∧ s.length = n ∧ ∀ i, 0 ≤ i → (known s i ↔ i ∈ U) := by
 have hl := rowOk_len hu
 obtain ⟨s, h1, h2, h3⟩ := marks_spec (k := 100000) h.1 (by have := h.1; omega) (rowOk_in hu) (by have := h.1; omega)
 obtain ⟨st, s', h4, h5⟩ := peel_spec h h2
 refine ⟨st, s, s', ?_, h5, h2, h3⟩
 unfold peel_Steps.f
 rw [may_spec h hu, Option.bind_some, if_pos rfl, h1, Option.bind_some, h4, Option.bind_some]
theorem known_spec {n : Nat} {L : List (List Int)} (h : rowsIn n L) : ∃ l, peel_Known.f 100000 (n : Int) L [] = some (l, 0) ∧ ∀ i ∈ l, Cl L (fun _ => False) i := by
 obtain ⟨s, h1, h2, h3⟩ := marks_spec (n := n) (k := 100000) (l := []) h.1 (by simp) (fun i hi => absurd hi (by simp)) (by simp)
 obtain ⟨st, s', h4, h5⟩ := peel_spec h h2
 have hs' := h5.length
 obtain ⟨l, h6, h7⟩ := numbers_spec (s := s') (k := 100000) true (by have := h.1; omega) (by have := h.1; omega)
 refine ⟨l, ?_, fun i hi => ?_⟩
 ·unfold peel_Known.f
  rw [may_spec h (fun k hk => absurd hk (by simp)), Option.bind_some, if_pos rfl, h1, Option.bind_some, h4, Option.bind_some, h6, Option.bind_some]
 ·obtain ⟨h8, h9, h10⟩ := (h7 i).1 hi
  refine h5.sound (fun r hr j hj => ?_) (fun j hj hk => ?_) i h8 h10
  ·have := rowOk_in (h.2.2 r hr) j hj
   exact ⟨this.1, by have := this.2; omega⟩
  ·exact absurd ((h3 j hj).1 hk) (by simp)
end Go.Proofs.YtjmooillogojkaaGreat.Q
namespace Go.Proofs.YtjmooillogojkaaGreat.Q
open Go.RowKit Go.Proofs.YtjmooillogojkaaGreatW.PrintWords Go.Proofs.YtjmooillogojkaaGreatW.PrintLast Go.Proofs.YtjmooillogojkaaGreatW.PrintMore
open Go.Proofs.YtjmooillogojkaaGreat
def slices_Index_int_int.l0 : Nat → List Int → Int → Int → Int → Option (Int)
 | 0, _, _, _, _ => none
 | k + 1, x0, x1, x7, x8 => if x8 < x7 then (if 0 ≤ x8 then (if x8 < (x0.length : Int) then (if x1 = (rd x0 x8) then (some x8) else (slices_Index_int_int.l0 k x0 x1 x7 (wrap64 (x8 + 1)))) else (none)) else (none)) else (some (-1))
def slices_Index_int_int.f (k : Nat) (l0 : List Int) (a1 : Int) : Option (Int) := slices_Index_int_int.l0 k l0 a1 (l0.length : Int) 0
theorem slices_Index_int_int.calls (k : Nat) (A0 : Option Addr) (c0 : Nat) (l0 : List Int) (a1 : Int) (r : Int) (w : World) (hr0 : Kd.C (Kd.int .i64) w A0 l0.length l0) (hc0 : l0.length ≤ c0) (h : slices_Index_int_int.f k l0 a1 = some r) :
  Calls Tryz.prog 65 #[.slice A0 l0.length c0, .int .i64 a1] w fun e w' => e = .returned (.int .i64 r) ∧ Drawn0 w w' := by
 have HR0 := jo hr0
 have HC0 := jo hc0
 clear hr0 hc0
 have H : (slices_Index_int_int.l0 k l0 a1 (l0.length : Int) 0) = some r := h
 clear h
 have H' := jo H
 clear H
 go_enter Tryz.func65, Tryz.ntmps65
 go_wp2
 go_loopg [8] k (fun kq v8 w' => ∃ (x8_1 : Int), v8 = .int .i64 x8_1 ∧ Aside0 (slices_Index_int_int.l0 kq l0 a1 (l0.length : Int) x8_1 = some r) ∧ Aside0 (kq ≤ k) ∧ Drawn0 w w')
 case atStart => exact ⟨(0), js, H', ⟨Nat.le_refl _⟩, jd⟩
 case round =>
  clear H'
  try clear p2
  obtain ⟨x8_1, rfl, HA, HK1, ⟨m1, rfl⟩⟩ := hrel
  cases gk with
  | zero => exact absurd HA.out (by simp [slices_Index_int_int.l0])
  | succ k1 =>
   have H := HA.out
   clear HA
   simp only [slices_Index_int_int.l0] at H
   by_cases c3 : x8_1 < (l0.length : Int)
   ·rw [if_pos c3] at H
    have c3b0 : decide (x8_1 < (l0.length : Int)) = true := decide_eq_true c3
    clear c3
    by_cases c4 : 0 ≤ x8_1
    ·rw [if_pos c4] at H
     have c4b0 : decide (0 ≤ x8_1) = true := decide_eq_true c4
     clear c4
     by_cases c5 : x8_1 < (l0.length : Int)
     ·rw [if_pos c5] at H
      have c5b0 : decide (x8_1 < (l0.length : Int)) = true := decide_eq_true c5
      clear c5
      by_cases c6 : a1 = (rd l0 x8_1)
      ·rw [if_pos c6] at H
       have c6b0 : (a1 == (rd l0 x8_1)) = true := beq_iff_eq.mpr c6
       have c6b1 : (a1 != (rd l0 x8_1)) = false := bne_eq_false_iff_eq.mpr c6
       clear c6
       obtain rfl := Option.some.inj H
       have p477 : 0 ≤ (x8_1 : Int) := of_decide_eq_true ja
       have q477 : x8_1 < (l0.length : Int) := of_decide_eq_true ja
       obtain ⟨ad477, e477, hx477_0⟩ := Kd.at_int HR0.out x8_1 p477 q477
       cases e477
       replace p477 := eq_true p477
       replace q477 := eq_true q477
       go_wp2
       go_ret
       exact ⟨by first | rfl | (simp; done) | (simp [*]; done), jd⟩
      ·rw [if_neg c6] at H
       have c6b0 : (a1 == (rd l0 x8_1)) = false := beq_eq_false_iff_ne.mpr c6
       have c6b1 : (a1 != (rd l0 x8_1)) = true := bne_iff_ne.mpr c6
       have H' := jo H
       clear H
       have p477 : 0 ≤ (x8_1 : Int) := of_decide_eq_true ja
       have q477 : x8_1 < (l0.length : Int) := of_decide_eq_true ja
       obtain ⟨ad477, e477, hx477_0⟩ := Kd.at_int HR0.out x8_1 p477 q477
       cases e477
       replace p477 := eq_true p477
       replace q477 := eq_true q477
       go_wp2
       go_roundg k1
       case measure => have := HK1.out; omega
       case rel => exact ⟨(wrap64 (x8_1 + 1)), js, H', ⟨by have := HK1.out; omega⟩, jd⟩
     ·rw [if_neg c5] at H
      exact absurd H (by simp)
    ·rw [if_neg c4] at H
     exact absurd H (by simp)
   ·rw [if_neg c3] at H
    have c3b0 : decide (x8_1 < (l0.length : Int)) = false := decide_eq_false c3
    clear c3
    obtain rfl := Option.some.inj H
    go_wp2
    go_ret
    exact ⟨by first | rfl | (simp; done) | (simp [*]; done), jd⟩
def slices_Contains_int_int.f (k : Nat) (l0 : List Int) (a1 : Int) : Option (Bool) := (slices_Index_int_int.f k l0 a1).bind fun t478 => (some (decide (t478 ≥ 0)))
theorem slices_Contains_int_int.calls (k : Nat) (A0 : Option Addr) (c0 : Nat) (l0 : List Int) (a1 : Int) (r : Bool) (w : World) (hr0 : Kd.C (Kd.int .i64) w A0 l0.length l0) (hc0 : l0.length ≤ c0) (h : slices_Contains_int_int.f k l0 a1 = some r) :
  Calls Tryz.prog 27 #[.slice A0 l0.length c0, .int .i64 a1] w fun e w' => e = .returned (.bool r) ∧ Drawn0 w w' := by
 have HR0 := jo hr0
 have HC0 := jo hc0
 clear hr0 hc0
 have H : ((slices_Index_int_int.f k l0 a1).bind fun t478 => (some (decide (t478 ≥ 0)))) = some r := h
 clear h
 replace H := Option.bind_eq_some_iff.mp H
 obtain ⟨t478, A30, H⟩ := H
 replace H : (some (decide (t478 ≥ 0))) = some r := H
 have A3 := jo A30
 clear A30
 obtain rfl := Option.some.inj H
 go_enter Tryz.func27, Tryz.ntmps27
 go_wp2_with (first | ((with_reducible refine gate_callee (f := 65) rfl ?_); refine goesL_ (some 7) rfl rfl Tryz.func65 jw rfl #[.slice A0 l0.length c0, .int .i64 a1] rfl jm ?_; (with_reducible refine (slices_Index_int_int.calls k _ _ l0 a1 t478 _ ?side1 ?side2 A3.out).mono ?_); (case side1 => repeat (first | exact HR0.out | (with_reducible refine Kd.C_alloc ?_ _) | (with_reducible refine Kd.C_drewN ?_ _) | (with_reducible refine Kd.C_drew ?_))); (case side2 => exact HC0.out); rintro e w' ⟨rfl, ⟨nd, rfl⟩⟩; refine ⟨_, rfl, ?_⟩))
 go_ret
 exact ⟨by first | rfl | (simp; done) | (simp [*]; done), jd⟩
theorem index_l0 (l : List Int) (a : Int) (hm : l.length < 1000000) : ∀ (d j k : Nat), l.length - j = d → j ≤ l.length → d < k → ∃ r, slices_Index_int_int.l0 k l a (l.length : Int) (j : Int) = some r ∧ (0 ≤ r ↔ a ∈ l.drop j)
 | d, j, 0, _, _, h => absurd h (Nat.not_lt_zero _)
 | d, j, k + 1, hd, hj, hk => by
  by_cases hlt : j < l.length
  ·have hg : rd l (j : Int) = l[j] := rd_get hlt
   have hdr : l.drop j = l[j] :: l.drop (j + 1) := List.drop_eq_getElem_cons hlt
   simp only [slices_Index_int_int.l0]
   rw [if_pos (by omega), if_pos (by omega), if_pos (by omega), hg]
   by_cases e : a = l[j]
   ·rw [if_pos e]
    exact ⟨j, rfl, fun _ => by rw [hdr, e]; exact List.mem_cons_self, fun _ => Int.natCast_nonneg j⟩
   ·rw [if_neg e, Deg.w64 (by omega) (by omega)]
    obtain ⟨r, hr, hi⟩ := index_l0 l a hm (d - 1) (j + 1) k (by omega) (by omega) (by omega)
    exact ⟨r, hr, by rw [hi, hdr, List.mem_cons]; exact ⟨fun h => .inr h, fun h => h.resolve_left e⟩⟩
  ·simp only [slices_Index_int_int.l0]
   rw [if_neg (by omega)]
   exact ⟨-1, rfl, by rw [List.drop_eq_nil_of_le (by omega)]; simp⟩
theorem contains_spec (l : List Int) (a : Int) (hm : l.length < 1000000) : slices_Contains_int_int.f (l.length + 1) l a = some (decide (a ∈ l)) := by
 obtain ⟨r, hr, hi⟩ := index_l0 l a hm l.length 0 (l.length + 1) (by omega) (by omega) (by omega)
 unfold slices_Contains_int_int.f slices_Index_int_int.f
 rw [show ((0 : Nat) : Int) = 0 from rfl] at hr
 rw [hr, Option.bind_some]
 rw [List.drop_zero] at hi
 by_cases h : a ∈ l
 ·rw [decide_eq_true h, decide_eq_true (hi.2 h)]
 ·rw [decide_eq_false h, decide_eq_false (fun e => h (hi.1 e))]
theorem contains_ok {A : Option Addr} {c : Nat} {l : List Int} {a : Int} (w : World) (hr : Kd.C (Kd.int .i64) w A l.length l) (hc : l.length ≤ c) (hm : l.length < 1000000) :
  Calls Tryz.prog 27 #[.slice A l.length c, .int .i64 a] w fun e w' => e = .returned (.bool (decide (a ∈ l))) ∧ Below w.heap.size w w' := by
 refine (slices_Contains_int_int.calls _ _ _ _ _ _ _ hr hc (contains_spec l a hm)).mono ?_
 rintro e w' ⟨rfl, ⟨k, rfl⟩⟩
 exact ⟨rfl, pw_below_drewN (Below.refl _ _) k⟩
def inAny (L : List (List Int)) (i : Int) : Bool := L.any fun r => decide (i ∈ r)
theorem pred141 {B : Nat} {i : Int} {L : List (List Int)} {w : World} (hc : w.heap[B]? = some (.cells #[.int .i64 i] 3 (0, 0))) (hm : ∀ l ∈ L, l.length < 1000000) : PredRow 141 #[.pointer (some ⟨B, 0, none⟩)] (fun r => decide (i ∈ r)) L w := by
 intro W j hj hb A0 c0 hl0 hg0
 have hc' : W.cell? ⟨B, 0, none⟩ = some (.int .i64 i) := blk_cell (blk_below hc hb) 0
 have hml := hm L[j] (List.getElem_mem hj)
 obtain ⟨x, hx⟩ : ∃ x, x = L[j] := ⟨_, rfl⟩
 rw [← hx] at hml hl0 hg0 ⊢
 have HC := jo (contains_ok (a := i) W hg0 hl0 hml)
 have HB := jo hb
 clear hx hc hm hml hl0 hg0 hb
 show Calls Tryz.prog 141 #[.slice A0 x.length c0, .pointer (some ⟨B, 0, none⟩)] W _
 go_enter Tryz.func141, Tryz.ntmps141
 go_wp2_with (go_at_call 27; (with_reducible refine HC.out.mono ?_); rintro e w1 ⟨rfl, hb1⟩; have H1 := jo (below_step HB.out hb1); clear hb1)
 go_ret
 exact ⟨rfl, H1.out⟩
theorem pred142 {B : Nat} {i : Int} {L : List (List Int)} {w : World} (hc : w.heap[B]? = some (.cells #[.int .i64 i] 3 (0, 0))) (hm : ∀ l ∈ L, l.length < 1000000) : PredRow 142 #[.pointer (some ⟨B, 0, none⟩)] (fun r => decide (i ∈ r)) L w := by
 intro W j hj hb A0 c0 hl0 hg0
 have hc' : W.cell? ⟨B, 0, none⟩ = some (.int .i64 i) := blk_cell (blk_below hc hb) 0
 have hml := hm L[j] (List.getElem_mem hj)
 obtain ⟨x, hx⟩ : ∃ x, x = L[j] := ⟨_, rfl⟩
 rw [← hx] at hml hl0 hg0 ⊢
 have HC := jo (contains_ok (a := i) W hg0 hl0 hml)
 have HB := jo hb
 clear hx hc hm hml hl0 hg0 hb
 show Calls Tryz.prog 142 #[.slice A0 x.length c0, .pointer (some ⟨B, 0, none⟩)] W _
 go_enter Tryz.func142, Tryz.ntmps142
 go_wp2_with (go_at_call 27; (with_reducible refine HC.out.mono ?_); rintro e w1 ⟨rfl, hb1⟩; have H1 := jo (below_step HB.out hb1); clear hb1)
 go_ret
 exact ⟨rfl, H1.out⟩
theorem inRow_ok {A : Option Addr} {c : Nat} {L : List (List Int)} {i : Int} (w : World) (hr : Kd.C (Kd.slice 3 (Kd.int .i64)) w A L.length L) (hc : L.length ≤ c) (hm : ∀ l ∈ L, l.length < 1000000) :
  Calls Tryz.prog 105 #[.slice A L.length c, .int .i64 i] w fun e w' => e = .returned (.bool (inAny L i)) ∧ Below w.heap.size w w' := by
 have HR := jo hr
 have eg := enters_of (P := Tryz.prog) (f := 142) Tryz.func142 jw rfl
 have HP := jo (fun (W : World) (hb : W.heap[w.heap.size]? = some (Obj.cells #[.int .i64 i] 3 (0, 0))) => pred142 hb hm)
 clear hr hm
 go_enter Tryz.func105, Tryz.ntmps105
 go_wp2_with fail
 have p1 : Below w.heap.size w (w.alloc (.cells #[.int .i64 i] 3)) := below_alloc (Below.refl _ _) _
 have k1 : (w.alloc (.cells #[.int .i64 i] 3)).heap[w.heap.size]? = some (.cells #[.int .i64 i] 3 (0, 0)) := blk_new w _
 generalize w.alloc (.cells #[.int .i64 i] 3) = W1 at p1 k1 ⊢
 (with_reducible refine (con_row eg W1 (Kd.C_below HR.out p1) hc (HP.out _ k1)).mono ?_)
 rintro e w2 ⟨rfl, hb2⟩
 have HB2 := jo (below_step p1 hb2)
 clear p1 k1 hb2
 go_wp2
 go_ret
 exact ⟨rfl, HB2.out⟩
def PredN (g : Nat) (lb : Array Value) (p : Int → Bool) (w : World) : Prop :=
 ∀ (W : World) (i : Int), Below w.heap.size w W → Calls Tryz.prog g (#[.int .i64 i] ++ lb) W fun e w' => e = .returned (.bool (p i)) ∧ Below w.heap.size w w'
theorem pred140 {B : Nat} {A : Option Addr} {c : Nat} {L : List (List Int)} {w : World} (hB : w.heap[B]? = some (.cells #[.slice A L.length c] 38 (0, 0))) (hr : Kd.C (Kd.slice 3 (Kd.int .i64)) w A L.length L) (hc : L.length ≤ c) (hm : ∀ l ∈ L, l.length < 1000000) : PredN 140 #[.pointer (some ⟨B, 0, none⟩)] (fun i => !inAny L i) w := by
 intro W i hb
 have hc' : W.cell? ⟨B, 0, none⟩ = some (.slice A L.length c) := blk_cell (blk_below hB hb) 0
 have hr' := Kd.C_below hr hb
 have HP := jo (fun (W' : World) (hb : W'.heap[W.heap.size]? = some (Obj.cells #[.int .i64 i] 3 (0, 0))) => pred141 (L := L) hb hm)
 have eg := enters_of (P := Tryz.prog) (f := 141) Tryz.func141 jw rfl
 have HR := jo hr'
 have HB := jo hb
 clear hB hr hm hb hr'
 show Calls Tryz.prog 140 #[.int .i64 i, .pointer (some ⟨B, 0, none⟩)] W _
 have hcw : (W.alloc (.cells #[.int .i64 i] 3)).cell? ⟨B, 0, none⟩ = some (.slice A L.length c) := pw_cell_below (below_alloc (Below.refl _ _) _) hc'
 go_enter Tryz.func140, Tryz.ntmps140
 go_wp2_with fail
 have p1 : Below W.heap.size W (W.alloc (.cells #[.int .i64 i] 3)) := below_alloc (Below.refl _ _) _
 have k1 : (W.alloc (.cells #[.int .i64 i] 3)).heap[W.heap.size]? = some (.cells #[.int .i64 i] 3 (0, 0)) := blk_new W _
 generalize W.alloc (.cells #[.int .i64 i] 3) = W1 at p1 k1 hcw ⊢
 (with_reducible refine (con_row eg W1 (Kd.C_below HR.out p1) hc (HP.out _ k1)).mono ?_)
 rintro e w2 ⟨rfl, hb2⟩
 have HB2 := jo (below_step HB.out (below_step p1 hb2))
 clear p1 k1 hb2 hcw
 go_wp2
 go_ret
 exact ⟨rfl, HB2.out⟩
theorem predN_int {g : Nat} {lb : Array Value} {p : Int → Bool} {w : World} (h : PredN g lb p w) (l : List Int) : PredInt g lb p l w := fun W i hi hb => h W l[i] hb
end Go.Proofs.YtjmooillogojkaaGreat.Q
