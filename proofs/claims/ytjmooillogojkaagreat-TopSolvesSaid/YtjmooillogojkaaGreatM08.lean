/- What the printed functions of the layers ratio and degree answer, in plain numbers; Printed by a changed copy of a printer, shortened by a program: what these functions answer: degree_scaled degre ... No condition. -/
import Derived.Test.YtjmooillogojkaaGreatM07
set_option maxHeartbeats 8000000
set_option maxRecDepth 100000
set_option linter.unusedVariables false
set_option linter.unusedSimpArgs false
namespace Go.Proofs.YtjmooillogojkaaGreat.Q
open Go.RowKit Go.Proofs.YtjmooillogojkaaGreatW.PrintWords Go.Proofs.YtjmooillogojkaaGreatW.PrintLast Go.Proofs.YtjmooillogojkaaGreatW.PrintMore
open Go.Proofs.YtjmooillogojkaaGreat
def degree_scaled.f (a0_0 : Int) (a0_1 : Int) (a0_2 : Int) (a0_3 : Int) (a1 : Int) : Option (Int) := (degree_parts.f a0_0 a0_1 a0_2 a0_3 a1).bind fun bt391 => ((ratio_Gcd.f bt391.1 bt391.2).bind fun t393 => (if t393 = 0 then (none) else (if (wrap64 (Int.tdiv bt391.2 t393)) = 0 then (none) else (some (wrap64 (4294967296 - (wrap64 (Int.tdiv (wrap64 ((wrap64 ((wrap64 (4294967296 * (wrap64 (Int.tdiv bt391.1 t393)))) + (wrap64 (Int.tdiv bt391.2 t393)))) - 1)) (wrap64 (Int.tdiv bt391.2 t393))))))))))
theorem degree_scaled.calls (a0_0 : Int) (a0_1 : Int) (a0_2 : Int) (a0_3 : Int) (a1 : Int) (r : Int) (w : World) (h : degree_scaled.f a0_0 a0_1 a0_2 a0_3 a1 = some r) :
  Calls Tryz.prog 153 #[.agg #[.int .i64 a0_0, .int .i64 a0_1, .int .i64 a0_2, .int .i64 a0_3], .int .i64 a1] w fun e w' => e = .returned (.int .i64 r) ∧ Below w.heap.size w w' := by
 unfold degree_scaled.f at h
 obtain ⟨⟨n, d⟩, A1, H⟩ := Option.bind_eq_some_iff.mp h
 obtain ⟨g, A2, H⟩ := Option.bind_eq_some_iff.mp H
 dsimp only at A2 H
 split at H
 ·cases H
 rename_i c1
 split at H
 ·cases H
 rename_i c2
 obtain rfl := Option.some.inj H
 have A1 := jo A1
 have A2 := jo A2
 have d1 : (g == 0) = false := beq_eq_false_iff_ne.2 c1
 have d2 : (wrap64 (d.tdiv g) == 0) = false := beq_eq_false_iff_ne.2 c2
 clear H h
 go_enter Tryz.func153, Tryz.ntmps153
 go_wp2_with fail
 (with_reducible refine (degree_parts.calls _ _ _ _ _ _ _ _ A1.out).mono ?_)
 rintro e w2 ⟨rfl, hb⟩
 have HB := jo (below_step (below_alloc (Below.refl w.heap.size w) (.cells #[.int .i64 a0_0, .int .i64 a0_1, .int .i64 a0_2, .int .i64 a0_3] 25)) hb)
 clear hb A1
 go_wp2_with fail
 (with_reducible refine (ratio_Gcd.calls _ _ _ _ A2.out).mono ?_)
 rintro e w3 ⟨rfl, ⟨n1, rfl⟩⟩
 go_wp2
 go_quiet (fail)
 go_wp2
 go_ret
 exact ⟨rfl, pw_below_drewN HB.out _⟩
def degree_Table.l0 : Nat → List Int → Int → Int → Int → Int → Int → Option (List Int × Int)
 | 0, _, _, _, _, _, _ => none
 | k + 1, x4, x5, x395000, x395001, x395002, x395003 => (degree_scaled.f x395000 x395001 x395002 x395003 x5).bind fun t396 => (if x4.length < 17592186044416 then ((some (x4 ++ [t396] : List Int)).bind fun y397 => (if x5 < x395003 then (degree_Table.l0 k y397 (wrap64 (x5 + 1)) x395000 x395001 x395002 x395003) else (some (y397, 0)))) else (none))
def degree_Table.f (k : Nat) (a0_0 : Int) (a0_1 : Int) (a0_2 : Int) (a0_3 : Int) : Option (List Int × Int) := (degree_Check.f a0_0 a0_1 a0_2 a0_3).bind fun t395 => (if t395 = true then (degree_Table.l0 k ([] : List Int) 1 a0_0 a0_1 a0_2 a0_3) else (some (([] : List Int), 1)))
theorem degree_Table.calls (k : Nat) (a0_0 : Int) (a0_1 : Int) (a0_2 : Int) (a0_3 : Int) (r1 : List Int) (r2 : Int) (w : World) (h : degree_Table.f k a0_0 a0_1 a0_2 a0_3 = some (r1, r2)) :
  Calls Tryz.prog 116 #[.agg #[.int .i64 a0_0, .int .i64 a0_1, .int .i64 a0_2, .int .i64 a0_3]] w fun e w' => ∃ v0_ : Value, e = .returned (.tuple #[v0_, .int .i64 r2]) ∧ Kd.R (Kd.int .i64) 3 w' w.heap.size (fun _ => True) v0_ r1 ∧ Below w.heap.size w w' := by
 unfold degree_Table.f at h
 obtain ⟨t, ht, H⟩ := Option.bind_eq_some_iff.mp h
 have HT := jo ht
 have HH := jo H
 clear h ht H
 go_enter Tryz.func116, Tryz.ntmps116
 go_wp2
 refine Goto.wp_scope_lazy 0 rfl ?_
 intro KG HKG
 go_wp2_with fail
 (with_reducible refine (degree_Check.calls a0_0 a0_1 a0_2 a0_3 t _ HT.out).mono ?_)
 rintro e w2 ⟨rfl, hb⟩
 have B1 := jo (And.intro (blk_below (blk_new w (.cells #[.int .i64 a0_0, .int .i64 a0_1, .int .i64 a0_2, .int .i64 a0_3] 25)) hb) (below_step (below_alloc (Below.refl w.heap.size w) (.cells #[.int .i64 a0_0, .int .i64 a0_1, .int .i64 a0_2, .int .i64 a0_3] 25)) hb))
 clear hb HT
 by_cases ct : t = true
 rotate_left
 ·obtain rfl : t = false := by simpa using ct
  have H := HH.out
  rw [if_neg (by decide)] at H
  simp only [Option.some.injEq, Prod.mk.injEq] at H
  obtain ⟨rfl, rfl⟩ := H
  go_wp2
  (try simp only [Goto.jump_ret, Goto.jump_normal, Exit.then, Exit.inBlock])
  go_ret2
  exact ⟨_, rfl, Kd.R_nil _ _ _ _ _, B1.out.2⟩
 subst ct
 have H' := HH.out
 rw [if_pos rfl] at H'
 replace H' := jo H'
 clear HH
 go_wp2
 refine Goto.label_ghost_put HKG (by assumption) [false, false, true, true, true, true, false, false, false, true, true, true, true, true, true, true, true, true, true, true, true, true] (fun kq vs_ w' => ∃ u2 u3 u4 u5 u9 u10 u11 u12 u13 u14 u15 u16 u17 u18 u19 u20 u21 : Value, vs_ = [u2, u3, u4, u5, u9, u10, u11, u12, u13, u14, u15, u16, u17, u18, u19, u20, u21] ∧ ∃ (x4_1 : List Int) (x5_1 : Int), u5 = .int .i64 x5_1 ∧ Aside0 (degree_Table.l0 kq x4_1 x5_1 a0_0 a0_1 a0_2 a0_3 = some (r1, r2)) ∧ Aside0 (kq ≤ k) ∧ Aside0 (Kd.R (Kd.int .i64) 3 w' w.heap.size (fun _ => True) u4 x4_1) ∧ Aside0 (w'.heap[w.heap.size]? = some (.cells #[.int .i64 a0_0, .int .i64 a0_1, .int .i64 a0_2, .int .i64 a0_3] 25 (0, 0)) ∧ Below w.heap.size w w')) k [_, _, _, _, _, _, _, _, _, _, _, _, _, _, _, _, _] ?atStart rfl ?round
 case atStart => exact ⟨_, _, _, _, _, _, _, _, _, _, _, _, _, _, _, _, _, rfl, [], 1, rfl, H', ⟨Nat.le_refl _⟩, ⟨Kd.R_nil _ _ _ _ _⟩, B1⟩
 case round =>
  clear HKG
  intro gk vs_ wr hrel JG1 KG1 HJG1 HKG1
  clear H' B1
  obtain ⟨u2, u3, u4, u5, u9, u10, u11, u12, u13, u14, u15, u16, u17, u18, u19, u20, u21, hvs_, hrel⟩ := hrel
  subst hvs_
  obtain ⟨x, i, rfl, HA, HK1, HO, HB⟩ := hrel
  simp only [Goto.putFrame_mk, Goto.putAll_true, Goto.putAll_false, Goto.putAll_nil]
  cases gk with
  | zero => exact absurd HA.out (by simp [degree_Table.l0])
  | succ k1 =>
   have H := HA.out
   clear HA
   simp only [degree_Table.l0] at H
   obtain ⟨t6, A7, H⟩ := Option.bind_eq_some_iff.mp H
   split at H
   rotate_left
   ·cases H
   rename_i c8
   have LM := jo c8
   have A7 := jo A7
   rw [Option.bind_some] at H
   have HH := jo H
   clear H c8
   obtain ⟨A4, c4, e4⟩ := Kd.R_slice HO.out
   subst e4
   have k0 := fun i => blk_cell HB.out.1 i
   go_wp2_with fail
   (with_reducible refine (degree_scaled.calls _ _ _ _ _ _ _ A7.out).mono ?_)
   rintro e w3 ⟨rfl, hb⟩
   have HO3 := jo (Kd.R_below HO.out hb)
   have HB3 := jo (And.intro (blk_below HB.out.1 hb) (below_step HB.out.2 hb))
   clear hb HO HB k0 A7
   go_wp2_with ((with_reducible refine gate_builtin (b := .append) (xs := #[.tmp 9, .tmp 13]) rfl ?_); at_builtin; refine Kd.R_append (Kd.int .i64) (w0 := w) w.heap.size rfl (.tmp 9) (.tmp 13) 44 3 (.int .i64 0) 8 rfl Tryz.underlying44 info3 rfl (by decide) (by omega) (.slice A4 x.length c4) x t6 [.int .i64 t6] (fun _ => True) (fun _ => False) rfl rfl rfl (fun _ hk => hk.elim) (fun _ _ => trivial) HO3.out HB3.out.2 (below_size HB3.out.2) (by have := LM.out; omega) ?_; intro v4 w4 ho hb hg hat; have B4 := jo (And.intro (blk_grown HB3.out.1 hg (Kd.R_ne HO3.out HB3.out.1 (by decide))) hb); have HO4 := jo ho; have k4 := fun i => blk_cell B4.out.1 i; clear ho hb hg hat)
   ·have H := HH.out
    rw [if_pos (by assumption)] at H
    have H' := jo H
    clear H HH
    go_wp2
    apply wp_goto
    (try simp only [Exit.then, Exit.inBlock])
    refine Goto.goto_put HKG1 HJG1 k1 [_, _, _, _, _, _, _, _, _, _, _, _, _, _, _, _, _] ?measure rfl ?rel
    case measure => have := HK1.out; omega
    case rel => exact ⟨_, _, _, _, _, _, _, _, _, _, _, _, _, _, _, _, _, rfl, _, _, rfl, H', ⟨by have := HK1.out; omega⟩, HO4, B4⟩
   ·have H := HH.out
    rw [if_neg (by first | assumption | omega)] at H
    simp only [Option.some.injEq, Prod.mk.injEq] at H
    obtain ⟨rfl, rfl⟩ := H
    (try simp only [Goto.jump_ret, Goto.jump_normal, Exit.then, Exit.inBlock])
    go_ret2
    exact ⟨_, rfl, HO4.out, B4.out.2⟩
end Go.Proofs.YtjmooillogojkaaGreat.Q
namespace Go.Proofs.YtjmooillogojkaaGreat.Deg
open Go.RowKit Plain Q Go.Proofs.YtjmooillogojkaaGreatW.PrintWords Go.Proofs.YtjmooillogojkaaGreatW.PrintMore
theorem w64 {x : Int} (h : -9223372036854775808 ≤ x) (h' : x ≤ 9223372036854775807) : wrap64 x = x := by
 unfold wrap64
 omega
theorem abs_spec {a : Int} (h : -9223372036854775808 < a) (h' : a ≤ 9223372036854775807) : ratio_abs.f a = some (a.natAbs : Int) := by
 unfold ratio_abs.f
 split
 ·rw [w64 (by omega) (by omega)]
  congr 1
  omega
 ·congr 1
  omega
theorem check_spec (n d : Int) : ratio_Check.f n d = some (okB n d) := by
 unfold ratio_Check.f
 by_cases h1 : 0 < d
 ·by_cases h2 : d ≤ 2147483647
  ·by_cases h3 : -2147483647 ≤ n
   ·by_cases h4 : n ≤ 2147483647
    ·rw [if_pos h1, if_pos h2, if_pos h3, if_pos h4, abs_spec (by omega) (by omega)]
     simp only [Option.bind_some, ratio_Gcd.f]
     have e : Plain.gcdI (n.natAbs : Int) d = (Int.gcd n d : Int) := by
      have := gcdI_abs n d
      rw [show ((d.natAbs : Int)) = d by omega] at this
      exact this
     rw [e]
     congr 1
     rw [Bool.eq_iff_iff, okB_iff, beq_iff_eq]
     constructor
     ·intro h
      exact ⟨h1, h2, h3, h4, by omega⟩
     ·rintro ⟨_, _, _, _, h⟩
      omega
    ·rw [if_pos h1, if_pos h2, if_pos h3, if_neg h4]
     congr 1
     symm
     rw [Bool.eq_false_iff]
     intro h
     exact h4 ((okB_iff n d).1 h).2.2.2.1
   ·rw [if_pos h1, if_pos h2, if_neg h3]
    congr 1
    symm
    rw [Bool.eq_false_iff]
    intro h
    exact h3 ((okB_iff n d).1 h).2.2.1
  ·rw [if_pos h1, if_neg h2]
   congr 1
   symm
   rw [Bool.eq_false_iff]
   intro h
   exact h2 ((okB_iff n d).1 h).2.1
 ·rw [if_neg h1]
  congr 1
  symm
  rw [Bool.eq_false_iff]
  intro h
  exact h1 ((okB_iff n d).1 h).1
theorem part_spec {a g : Int} (hg : 0 < g) (hd : g ∣ a) (h : -9223372036854775808 < a) (h' : a ≤ 9223372036854775807) : wrap64 (Int.tdiv a g) = a / g := by
 rw [tdiv_dvd hd]
 have := div_abs_le a hg hd
 exact w64 (by omega) (by omega)
theorem check6 (N D Q F : Int) : degree_Check.f N D Q F = some (codeB N D Q F) := by
 unfold degree_Check.f
 rw [check_spec]
 simp only [Option.bind_some]
 by_cases h0 : okB N D = true
 ·rw [if_pos h0]
  by_cases h1 : 0 < N
  ·by_cases h2 : N ≤ D
   ·by_cases h3 : D ≤ 1000
    ·by_cases h4 : 1 ≤ Q
     ·by_cases h5 : Q ≤ 8
      ·by_cases h6 : 2 ≤ F
       ·by_cases h7 : F ≤ 64
        ·rw [if_pos h1, if_pos h2, if_pos h3, if_pos h4, if_pos h5, if_pos h6, if_pos h7]
         have m := mulb (a := F) (A := 64) (b := N) (B := 1000) (by omega) (by omega) (by omega) (by omega)
         rw [w64 (by omega) (by omega)]
         congr 1
         rw [Bool.eq_iff_iff, codeB_iff, decide_eq_true_eq]
         exact ⟨fun h => ⟨h0, h1, h2, h3, h4, h5, h6, h7, h⟩, fun h => h.2.2.2.2.2.2.2.2⟩
        ·rw [if_pos h1, if_pos h2, if_pos h3, if_pos h4, if_pos h5, if_pos h6, if_neg h7]
         congr 1
         symm
         rw [Bool.eq_false_iff]
         exact fun h => h7 ((codeB_iff ..).1 h).2.2.2.2.2.2.2.1
       ·rw [if_pos h1, if_pos h2, if_pos h3, if_pos h4, if_pos h5, if_neg h6]
        congr 1
        symm
        rw [Bool.eq_false_iff]
        exact fun h => h6 ((codeB_iff ..).1 h).2.2.2.2.2.2.1
      ·rw [if_pos h1, if_pos h2, if_pos h3, if_pos h4, if_neg h5]
       congr 1
       symm
       rw [Bool.eq_false_iff]
       exact fun h => h5 ((codeB_iff ..).1 h).2.2.2.2.2.1
     ·rw [if_pos h1, if_pos h2, if_pos h3, if_neg h4]
      congr 1
      symm
      rw [Bool.eq_false_iff]
      exact fun h => h4 ((codeB_iff ..).1 h).2.2.2.2.1
    ·rw [if_pos h1, if_pos h2, if_neg h3]
     congr 1
     symm
     rw [Bool.eq_false_iff]
     exact fun h => h3 ((codeB_iff ..).1 h).2.2.2.1
   ·rw [if_pos h1, if_neg h2]
    congr 1
    symm
    rw [Bool.eq_false_iff]
    exact fun h => h2 ((codeB_iff ..).1 h).2.2.1
  ·rw [if_neg h1]
   congr 1
   symm
   rw [Bool.eq_false_iff]
   exact fun h => h1 ((codeB_iff ..).1 h).2.1
 ·rw [if_neg h0]
  congr 1
  symm
  rw [Bool.eq_false_iff]
  exact fun h => h0 ((codeB_iff ..).1 h).1
theorem parts_spec {N D Q F k : Int} (h : codeB N D Q F = true) (k1 : 1 ≤ k) (k2 : k ≤ F) : degree_parts.f N D Q F k = some (nP D F k, dP N D F k) := by
 have a := nP_bound h k1 k2
 have b := dP_bound h k1 k2
 obtain ⟨_, h1, h2, h3, h4, h5, h6, h7, h8⟩ := (codeB_iff ..).1 h
 unfold degree_parts.f
 unfold nP dP at *
 rw [w64 (x := F + 1) (by omega) (by omega), w64 (x := (F + 1) * D) (by omega) (by omega), w64 (x := F - k) (by omega) (by omega), w64 (x := (F + 1) * D * (F - k)) (by omega) (by omega),
  w64 (x := D + N) (by omega) (by omega), w64 (x := F * (D + N)) (by omega) (by omega), w64 (x := F - 1) (by omega) (by omega), w64 (x := F * (D + N) * (F - 1)) (by omega) (by omega),
  w64 (x := F * (D + N) * (F - 1) * k) (by omega) (by omega)]
theorem scaled_spec {N D Q F k : Int} (h : codeB N D Q F = true) (k1 : 1 ≤ k) (k2 : k ≤ F) : degree_scaled.f N D Q F k = some (tab N D F k) := by
 have a := nP_bound h k1 k2
 have b := dP_bound h k1 k2
 have c := n_le_d h k1 k2
 have t := tab_bound h k1 k2
 unfold degree_scaled.f
 rw [parts_spec h k1 k2]
 simp only [Option.bind_some, ratio_Gcd.f]
 unfold tab at *
 generalize nP D F k = n at *
 generalize dP N D F k = d at *
 rw [gcdI_pos (by omega) (by omega)]
 have hg := gcd_pos (n := n) (show d ≠ 0 by omega)
 have e1 := part_spec (a := n) hg (Int.gcd_dvd_left ..) (by omega) (by omega)
 have e2 := part_spec (a := d) hg (Int.gcd_dvd_right ..) (by omega) (by omega)
 rw [e1, e2]
 have hn : (Int.gcd n d : Int) * (n / (Int.gcd n d : Int)) = n := Int.mul_ediv_cancel' (Int.gcd_dvd_left ..)
 have hd : (Int.gcd n d : Int) * (d / (Int.gcd n d : Int)) = d := Int.mul_ediv_cancel' (Int.gcd_dvd_right ..)
 have bn := div_abs_le n hg (Int.gcd_dvd_left ..)
 have bd := div_abs_le d hg (Int.gcd_dvd_right ..)
 have pn := Int.ediv_nonneg (show 0 ≤ n by omega) (Int.le_of_lt hg)
 have pd := Int.ediv_nonneg (show 0 ≤ d by omega) (Int.le_of_lt hg)
 generalize n / (Int.gcd n d : Int) = p at *
 generalize d / (Int.gcd n d : Int) = q at *
 generalize (Int.gcd n d : Int) = g at *
 have q1 : 0 < q := by
  by_cases h0 : q = 0
  ·rw [h0, Int.mul_zero] at hd
   omega
  ·omega
 rw [if_neg (by omega), if_neg (by omega), w64 (x := 4294967296 * p) (by omega) (by omega), w64 (x := 4294967296 * p + q) (by omega) (by omega), w64 (x := 4294967296 * p + q - 1) (by omega) (by omega),
  Int.tdiv_eq_ediv_of_nonneg (by omega)]
 have eq := scaled_eq (n := p) (d := q) hg q1
 rw [hn, hd] at eq
 have b2 := ediv_abs' (4294967296 * p + q - 1) q1
 rw [w64 (x := (4294967296 * p + q - 1) / q) (by omega) (by omega), w64 (by omega) (by omega), eq]
theorem table_l0 {N D Q F : Int} (h : codeB N D Q F = true) (m : Nat) : ∀ (j : Int) (acc : List Int) (k : Nat), 1 ≤ j → F - j = m → m < k → acc.length + m < 1000 →
  degree_Table.l0 k acc j N D Q F = some (acc ++ tabs N D F m j, 0) := by
 obtain ⟨_, h1, h2, h3, h4, h5, h6, h7, h8⟩ := (codeB_iff ..).1 h
 induction m with
 | zero =>
  intro j acc k j1 hj hk ha
  obtain ⟨k, rfl⟩ : ∃ z, k = z + 1 := ⟨k - 1, by omega⟩
  simp only [degree_Table.l0]
  rw [scaled_spec h j1 (by omega)]
  simp only [Option.bind_some]
  rw [if_pos (by omega), if_neg (by omega)]
  rfl
 | succ m ih =>
  intro j acc k j1 hj hk ha
  obtain ⟨k, rfl⟩ : ∃ z, k = z + 1 := ⟨k - 1, by omega⟩
  simp only [degree_Table.l0]
  rw [scaled_spec h j1 (by omega)]
  simp only [Option.bind_some]
  rw [if_pos (by omega), if_pos (by omega), w64 (by omega) (by omega), ih (j + 1) _ k (by omega) (by omega) (by omega) (by simp; omega)]
  simp [tabs]
def tableP (N D Q F : Int) : List Int × Int := if codeB N D Q F = true then (table N D F, 0) else ([], 1)
theorem table_spec (k : Nat) (N D Q F : Int) : degree_Table.f (k + 70) N D Q F = some (tableP N D Q F) := by
 unfold degree_Table.f tableP
 rw [check6]
 simp only [Option.bind_some]
 split
 ·rename_i h
  obtain ⟨_, h1, h2, h3, h4, h5, h6, h7, h8⟩ := (codeB_iff ..).1 h
  rw [table_l0 h (F.toNat - 1) 1 [] _ (by omega) (by omega) (by omega) (by simp; omega)]
  rfl
 ·rfl
def ceilM (p q : Int) : Int := if (p + q - 1) / q < 64 then (p + q - 1) / q else 64
def auxP (N D Q F n : Int) : Int × Int := if codeB N D Q F = true ∧ 1 ≤ n ∧ n ≤ 96 then (ceilM (55 * Q * N * n) (100 * D), 0) else (0, 1)
theorem top_bound {N D Q F n : Int} (h : codeB N D Q F = true) (n1 : 1 ≤ n) (n2 : n ≤ 96) :
  (0 < 55 * Q ∧ 55 * Q ≤ 440) ∧ (0 < 55 * Q * N ∧ 55 * Q * N ≤ 440000) ∧ 0 < 55 * Q * N * n ∧ 55 * Q * N * n ≤ 42240000 := by
 obtain ⟨_, h1, h2, h3, h4, h5, h6, h7, h8⟩ := (codeB_iff ..).1 h
 have b := mulb (a := 55 * Q) (A := 440) (b := N) (B := 1000) (by omega) (by omega) (by omega) (by omega)
 have b0 : 0 < 55 * Q * N := Int.mul_pos (by omega) h1
 have c := mulb (a := 55 * Q * N) (A := 440000) (b := n) (B := 96) (by omega) (by omega) (by omega) (by omega)
 have c0 : 0 < 55 * Q * N * n := Int.mul_pos b0 (by omega)
 exact ⟨by omega, by omega, by omega⟩
theorem aux_spec (k : Nat) (N D Q F n : Int) : degree_Aux.f (k + 1) N D Q F n = some (auxP N D Q F n) := by
 unfold degree_Aux.f auxP
 rw [check6]
 simp only [Option.bind_some]
 by_cases h : codeB N D Q F = true
 ·rw [if_pos h]
  by_cases k1 : n < 1
  ·rw [if_pos k1, if_neg (by omega)]
   simp [degree_Aux.j0]
  ·rw [if_neg k1]
   by_cases k2 : n > 96
   ·rw [decide_eq_true k2, if_neg (by omega)]
    simp [degree_Aux.j0]
   ·rw [decide_eq_false k2, if_pos ⟨h, by omega, by omega⟩]
    simp only [degree_Aux.j0]
    have t := top_bound (n := n) h (by omega) (by omega)
    obtain ⟨_, h1, h2, h3, h4, h5, h6, h7, h8⟩ := (codeB_iff ..).1 h
    have hb := ediv_abs' (55 * Q * N * n + 100 * D - 1) (b := 100 * D) (by omega)
    rw [if_neg (by decide), w64 (x := 100 * D) (by omega) (by omega), if_neg (by omega), w64 (x := 55 * Q) (by omega) (by omega), w64 (x := 55 * Q * N) (by omega) (by omega), w64 (x := 55 * Q * N * n) (by omega) (by omega),
     w64 (x := 55 * Q * N * n + 100 * D) (by omega) (by omega), w64 (x := 55 * Q * N * n + 100 * D - 1) (by omega) (by omega), Int.tdiv_eq_ediv_of_nonneg (by omega), w64 (by omega) (by omega)]
    unfold ceilM mn
    congr 2
    split <;> split <;> omega
 ·rw [if_neg h, if_neg (fun hc => h hc.1)]
  simp [degree_Aux.j0]
theorem count_spec (k : Nat) (long size : Int) : block_Count.f (k + 1) long size = some (cntI long size) := by
 unfold block_Count.f cntI block_may.f
 by_cases h1 : long < 1
 ·rw [if_pos h1, if_pos (.inl h1)]
  simp [block_Count.j0]
 ·rw [if_neg h1]
  by_cases h2 : long > 4096
  ·rw [if_pos h2, if_pos (.inr (.inl h2))]
   simp [block_Count.j0]
  ·rw [if_neg h2]
   by_cases h3 : size ≥ 1
   ·rw [if_pos h3]
    simp only [Option.bind_some]
    by_cases h4 : size ≤ 64
    ·rw [decide_eq_true h4, if_neg (by omega)]
     simp only [block_Count.j0]
     have e0 := ediv_abs' (long + size - 1) (b := size) (by omega)
     rw [if_neg (by decide), if_neg (by omega), w64 (x := long + size) (by omega) (by omega), w64 (x := long + size - 1) (by omega) (by omega), Int.tdiv_eq_ediv_of_nonneg (by omega), w64 (by omega) (by omega)]
     by_cases h5 : (long + size - 1) / size > 96
     ·rw [if_pos h5, if_pos h5]
     ·rw [if_neg h5, if_neg (by omega)]
    ·rw [decide_eq_false h4, if_pos (by omega)]
     simp [block_Count.j0]
   ·rw [if_neg h3, if_pos (by omega)]
    simp [block_Count.j0]
def seedB (n : Int) : Bool := decide (0 ≤ n ∧ n ≤ 72057594037927935)
theorem seeded_spec (n : Int) : manifest_seeded.f n = some (seedB n) := by
 unfold manifest_seeded.f seedB
 split
 ·simp
  omega
 ·simp
  omega
end Go.Proofs.YtjmooillogojkaaGreat.Deg
namespace Go.Proofs.YtjmooillogojkaaGreat.Q
open Go.RowKit Go.Proofs.YtjmooillogojkaaGreatW.PrintWords Go.Proofs.YtjmooillogojkaaGreatW.PrintLast Go.Proofs.YtjmooillogojkaaGreatW.PrintMore
open Go.Proofs.YtjmooillogojkaaGreat
def peel_marks.l0 : Nat → List Bool → List Int → Int → Int → Option (List Bool)
 | 0, _, _, _, _ => none
 | k + 1, x5, x10, x11, x12 => if x12 < x11 then (if 0 ≤ x12 then (if x12 < (x10.length : Int) then (if 0 ≤ (rd x10 x12) then (if (rd x10 x12) < (x5.length : Int) then (peel_marks.l0 k (x5.set ((rd x10 x12) : Int).toNat true) x10 x11 (wrap64 (x12 + 1))) else (none)) else (none)) else (none)) else (none)) else (some x5)
def peel_marks.f (k : Nat) (a0 : Int) (l1 : List Int) : Option (List Bool) := if 0 ≤ a0 then (if (a0 : Int).toNat ≤ 281474976710656 then (peel_marks.l0 k (List.replicate (a0 : Int).toNat false) l1 (l1.length : Int) 0) else (none)) else (none)
theorem peel_marks.calls (k : Nat) (a0 : Int) (A1 : Option Addr) (c1 : Nat) (l1 : List Int) (r : List Bool) (w : World) (hr1 : Kd.C (Kd.int .i64) w A1 l1.length l1) (hc1 : l1.length ≤ c1) (h : peel_marks.f k a0 l1 = some r) :
  Calls Tryz.prog 30 #[.int .i64 a0, .slice A1 l1.length c1] w fun e w' => ∃ v0_ : Value, e = .returned (v0_) ∧ Kd.R Kd.bool 4 w' w.heap.size (fun _ => True) v0_ r ∧ Below w.heap.size w w' := by
 have HR1 := jo hr1
 have HC1 := jo hc1
 clear hr1 hc1
 have HB := jo (Below.refl w.heap.size w)
 have H : (if 0 ≤ a0 then (if (a0 : Int).toNat ≤ 281474976710656 then (peel_marks.l0 k (List.replicate (a0 : Int).toNat false) l1 (l1.length : Int) 0) else (none)) else (none)) = some r := h
 clear h
 by_cases c3 : 0 ≤ a0
 ·rw [if_pos c3] at H
  have c3b0 := eq_true c3
  have c3b1 : decide (0 ≤ a0) = true := decide_eq_true c3
  clear c3
  by_cases c4 : (a0 : Int).toNat ≤ 281474976710656
  ·rw [if_pos c4] at H
   have c4b0 := eq_true c4
   have c4b1 : decide ((a0 : Int).toNat ≤ 281474976710656) = true := decide_eq_true c4
   clear c4
   obtain ⟨y344, hy344⟩ : ∃ y_ : List Bool, y_ = (List.replicate (a0 : Int).toNat false) := ⟨_, rfl⟩
   replace H : (peel_marks.l0 k y344 l1 (l1.length : Int) 0) = some r := by first | (rw [hy344]; with_reducible exact H) | (have H2_ := (Option.bind_some _ _).symm.trans H; rw [hy344]; with_reducible exact H2_) | (have H2_ := (Option.bind_some _ _).symm.trans H; with_reducible exact H2_) | with_reducible exact H | (rw [hy344]; exact H) | exact H
   have Ny344 := jo hy344
   clear hy344
   have H' := jo H
   clear H
   go_enter Tryz.func30, Tryz.ntmps30
   go_wp2_with (first | ((with_reducible refine gate_dst (N := 9) rfl ?_); refine Kd.R_make Kd.bool _ 4 rfl (N := 9) rfl 84 _ _ rfl a0 rfl rfl Tryz.underlying84 (.bool false) 1 info4 rfl (by decide) (by omega) false (ok := fun _ => True) (okp := fun _ => True) rfl (fun _ hk => hk) trivial (of_decide_eq_true ja) (Nat.le_trans (Nat.mul_le_mul_right _ (of_decide_eq_true ja : a0.toNat ≤ 281474976710656)) (by omega)) (Below.refl _ _) (Nat.le_refl _) ?_; intro v345 w5 ho6 hb hg_ hnew_; clear hg_ hnew_; (first | rw [← Ny344.out] at ho6 | (simp only [Int.reduceToNat] at ho6; rw [← Ny344.out] at ho6)); have n0_ := jo (Kd.R_lower ho6 (below_size jb)); have n1_ := jo (below_step jb hb); clear HB; have HO346 := n0_; have HB := n1_; clear n0_ n1_; clear hb ho6))
   go_loopg [12] k (fun kq v12 w' => ∃ (x5_1 : List Bool) (x12_1 : Int), v12 = .int .i64 x12_1 ∧ Aside0 (peel_marks.l0 kq x5_1 l1 (l1.length : Int) x12_1 = some r) ∧ Aside0 (kq ≤ k) ∧ Aside0 (Kd.R Kd.bool 4 w' w.heap.size (fun _ => True) v345 x5_1) ∧ Aside0 (Below w.heap.size w w'))
   case atStart => exact ⟨(y344), (0), js, H', ⟨Nat.le_refl _⟩, ⟨jr HO346.out⟩, ⟨jb⟩⟩
   case round =>
    clear H'
    try clear c1
    try clear p2
    try clear c3
    try clear c3b0
    try clear c3b1
    try clear c4
    try clear c4b0
    try clear c4b1
    obtain ⟨x5_1, x12_1, rfl, HA, HK1, HO_5, HB⟩ := hrel
    cases gk with
    | zero => exact absurd HA.out (by simp [peel_marks.l0])
    | succ k1 =>
     have H := HA.out
     clear HA
     simp only [peel_marks.l0] at H
     by_cases c7 : x12_1 < (l1.length : Int)
     ·rw [if_pos c7] at H
      have c7b0 : decide (x12_1 < (l1.length : Int)) = true := decide_eq_true c7
      clear c7
      by_cases c8 : 0 ≤ x12_1
      ·rw [if_pos c8] at H
       have c8b0 : decide (0 ≤ x12_1) = true := decide_eq_true c8
       clear c8
       by_cases c9 : x12_1 < (l1.length : Int)
       ·rw [if_pos c9] at H
        have c9b0 : decide (x12_1 < (l1.length : Int)) = true := decide_eq_true c9
        clear c9
        by_cases c10 : 0 ≤ (rd l1 x12_1)
        ·rw [if_pos c10] at H
         have c10b0 : decide (0 ≤ (rd l1 x12_1)) = true := decide_eq_true c10
         clear c10
         by_cases c11 : (rd l1 x12_1) < (x5_1.length : Int)
         ·rw [if_pos c11] at H
          have c11b0 : decide ((rd l1 x12_1) < (x5_1.length : Int)) = true := decide_eq_true c11
          clear c11
          obtain ⟨y348, hy348⟩ : ∃ y_ : List Bool, y_ = (x5_1.set ((rd l1 x12_1) : Int).toNat true) := ⟨_, rfl⟩
          replace H : (peel_marks.l0 k1 y348 l1 (l1.length : Int) (wrap64 (x12_1 + 1))) = some r := by first | (rw [hy348]; with_reducible exact H) | (have H2_ := (Option.bind_some _ _).symm.trans H; rw [hy348]; with_reducible exact H2_) | (have H2_ := (Option.bind_some _ _).symm.trans H; with_reducible exact H2_) | with_reducible exact H | (rw [hy348]; exact H) | exact H
          have Ny348 := jo hy348
          clear hy348
          have H' := jo H
          clear H
          have p347 : 0 ≤ (x12_1 : Int) := of_decide_eq_true ja
          have q347 : x12_1 < (l1.length : Int) := of_decide_eq_true ja
          obtain ⟨ad347, e347, hx347_0⟩ := Kd.at_int HR1.out x12_1 p347 q347
          cases e347
          replace hx347_0 := (HB.out.cell (World.block_lt_of_cell? w _ hx347_0)).trans hx347_0
          replace p347 := eq_true p347
          replace q347 := eq_true q347
          have p12 : 0 ≤ ((rd l1 x12_1) : Int) := of_decide_eq_true ja
          have q12 : ((rd l1 x12_1) : Int) < ((x5_1.length : Int) : Int) := of_decide_eq_true ja
          obtain ⟨go12, co12, eo12, gb12, gl12, cl12, HG12⟩ := Kd.R_form HO_5.out (by omega)
          (first | cases eo12 | (injection eo12 with ea_ en_ ec_; (first | subst ea_ | (injection ea_ with ea_; subst ea_)); subst ec_; clear en_))
          have GB12 := jo gb12
          have GG12 := jo HG12
          clear gb12 gl12 HG12
          obtain ⟨hx12_0, hf12_0⟩ := Kd.R_celln false HO_5.out ((rd l1 x12_1) : Int) p12 q12
          replace p12 := eq_true p12
          replace q12 := eq_true q12
          have HP13 := Kd.R_putg HO_5.out ((rd l1 x12_1) : Int) true
          go_wp2_with (first | ((with_reducible refine gate_store (t := 4) (p := 18) rfl ?_); refine store_event (t := 4) (p := 18) (v := ?vo_w14) (w1 := (wr.setCell ⟨go12, ((rd l1 x12_1) : Int).toNat, none⟩ (.bool true))) ?hg ?ho ?hn ?hr ?_; (case ho => rfl); (case hg => rfl); (case hn => rfl); (case hr => first | (go_simp; done) | (go_simp; rfl)); intro w14 hw; have hg : wr.grownBy w14 (some go12) := (by rw [hw]; exact HP13.2); have hp_ : Kd.R Kd.bool 4 w14 w.heap.size (fun _ => True) (.slice (some ⟨go12, 0, none⟩) x5_1.length co12) y348 := (by rw [hw, Ny348.out]; exact HP13.1); clear HP13; have n0_ := jo (hp_); have n1_ := jo ((by rw [hw]; exact below_set (HB.out) GB12.out : Below w.heap.size w w14)); clear HO_5; clear HB; have HO_5 := n0_; have HB := n1_; clear n0_ n1_; clear hg hw hp_))
          go_roundg k1
          case measure => have := HK1.out; omega
          case rel => exact ⟨(y348), (wrap64 (x12_1 + 1)), js, H', ⟨by have := HK1.out; omega⟩, ⟨jr HO_5.out⟩, ⟨jb⟩⟩
         ·rw [if_neg c11] at H
          exact absurd H (by simp)
        ·rw [if_neg c10] at H
         exact absurd H (by simp)
       ·rw [if_neg c9] at H
        exact absurd H (by simp)
      ·rw [if_neg c8] at H
       exact absurd H (by simp)
     ·rw [if_neg c7] at H
      have c7b0 : decide (x12_1 < (l1.length : Int)) = false := decide_eq_false c7
      clear c7
      obtain rfl := Option.some.inj H
      go_wp2
      go_ret
      exact ⟨_, je, jr HO_5.out, jb⟩
  ·rw [if_neg c4] at H
   exact absurd H (by simp)
 ·rw [if_neg c3] at H
  exact absurd H (by simp)
end Go.Proofs.YtjmooillogojkaaGreat.Q
