/- Printed by a changed copy of a printer, shortened by a program: what these functions answer: merkle_knot merkle_Knot merkle_pairs merkle_Root. No condition. -/
import Derived.Test.YtjmooillogojkaaGreatM37
set_option maxHeartbeats 8000000
set_option maxRecDepth 100000
set_option linter.unusedVariables false
set_option linter.unusedSimpArgs false
namespace Go.Proofs.YtjmooillogojkaaGreat.Q
open Go.RowKit Go.Proofs.YtjmooillogojkaaGreatW.PrintWords Go.Proofs.YtjmooillogojkaaGreatW.PrintLast Go.Proofs.YtjmooillogojkaaGreatW.PrintMore
open Go.Proofs.YtjmooillogojkaaGreat
def merkle_knot.f (a0 : ByteArray) (a1 : ByteArray) : Option (ByteArray) := if 1 + a0.size ≤ 9223372036854775807 then (if ((⟨#[1]⟩ : ByteArray) ++ a0).size + a1.size ≤ 9223372036854775807 then (some (((⟨#[1]⟩ : ByteArray) ++ a0) ++ a1)) else (none)) else (none)
theorem merkle_knot.calls (a0 : ByteArray) (a1 : ByteArray) (r : ByteArray) (w : World) (h : merkle_knot.f a0 a1 = some r) :
  Calls Tryz.prog 146 #[.string a0, .string a1] w fun e w' => e = .returned (.string r) ∧ Drawn0 w w' := by
 have H : (if 1 + a0.size ≤ 9223372036854775807 then (if ((⟨#[1]⟩ : ByteArray) ++ a0).size + a1.size ≤ 9223372036854775807 then (some (((⟨#[1]⟩ : ByteArray) ++ a0) ++ a1)) else (none)) else (none)) = some r := h
 clear h
 by_cases c3 : 1 + a0.size ≤ 9223372036854775807
 ·rw [if_pos c3] at H
  have c3b0 := eq_true c3
  have c3b1 : decide (1 + a0.size ≤ 9223372036854775807) = true := decide_eq_true c3
  try have c3b2 : (9223372036854775807 < 1 + a0.size) = False := eq_false (Nat.not_lt.2 c3)
  by_cases c4 : ((⟨#[1]⟩ : ByteArray) ++ a0).size + a1.size ≤ 9223372036854775807
  ·rw [if_pos c4] at H
   have c4b0 := eq_true c4
   have c4b1 : decide (((⟨#[1]⟩ : ByteArray) ++ a0).size + a1.size ≤ 9223372036854775807) = true := decide_eq_true c4
   try have c4b2 : (9223372036854775807 < ((⟨#[1]⟩ : ByteArray) ++ a0).size + a1.size) = False := eq_false (Nat.not_lt.2 c4)
   obtain rfl := Option.some.inj H
   go_enter Tryz.func146, Tryz.ntmps146
   go_wp2
   go_ret
   exact ⟨by first | rfl | (simp; done) | (simp [*]; done), jd⟩
  ·rw [if_neg c4] at H
   exact absurd H (by simp)
 ·rw [if_neg c3] at H
  exact absurd H (by simp)
def merkle_Knot.f (a0 : ByteArray) (a1 : ByteArray) : Option (ByteArray) := (merkle_knot.f a0 a1).bind fun t286 => ((sha_Sum.f t286).bind fun t287 => (some t287))
theorem merkle_Knot.calls (a0 : ByteArray) (a1 : ByteArray) (r : ByteArray) (w : World) (h : merkle_Knot.f a0 a1 = some r) :
  Calls Tryz.prog 112 #[.string a0, .string a1] w fun e w' => e = .returned (.string r) ∧ Below w.heap.size w w' := by
 have HB := jo (Below.refl w.heap.size w)
 have H : ((merkle_knot.f a0 a1).bind fun t286 => ((sha_Sum.f t286).bind fun t287 => (some t287))) = some r := h
 clear h
 replace H := Option.bind_eq_some_iff.mp H
 obtain ⟨t286, A30, H⟩ := H
 replace H : ((sha_Sum.f t286).bind fun t287 => (some t287)) = some r := H
 have A3 := jo A30
 clear A30
 replace H := Option.bind_eq_some_iff.mp H
 obtain ⟨t287, A40, H⟩ := H
 replace H : (some t287) = some r := H
 have A4 := jo A40
 clear A40
 obtain rfl := Option.some.inj H
 go_enter Tryz.func112, Tryz.ntmps112
 go_wp2_with (first | ((with_reducible refine gate_callee (f := 146) rfl ?_); refine goesL_ (some 7) rfl rfl Tryz.func146 jw rfl #[.string a0, .string a1] rfl jm ?_; (with_reducible refine (merkle_knot.calls a0 a1 t286 _ A3.out).mono ?_); rintro e w' ⟨rfl, ⟨nd, rfl⟩⟩; refine ⟨_, rfl, ?_⟩) | ((with_reducible refine gate_callee (f := 145) rfl ?_); refine goesL_ (some 8) rfl rfl Tryz.func145 jw rfl #[.string t286] rfl jm ?_; (with_reducible refine (sha_Sum.calls t286 t287 _ A4.out).mono ?_); rintro e w5 ⟨rfl, hb⟩; refine ⟨_, rfl, ?_⟩; have n0_ := jo (below_step jb hb); clear HB; have HB := n0_; clear n0_; (try clear hb); (try clear hb2); (try clear hk); (try clear hi)))
 go_ret
 exact ⟨je, jb⟩
def merkle_pairs.l0 : Nat → List ByteArray → List ByteArray → Int → Option (List ByteArray)
 | 0, _, _, _ => none
 | k + 1, x0, x3, x4 => if x4 < (x0.length : Int) then (if (wrap64 (x4 + 1)) = (x0.length : Int) then (if 0 ≤ x4 then (if x3.length < 8796093022208 then (merkle_pairs.l0 k x0 (x3 ++ [rdOf ByteArray.empty x0 x4]) (wrap64 (x4 + 2))) else (none)) else (none)) else (if 0 ≤ x4 then (if 0 ≤ (wrap64 (x4 + 1)) then (if (wrap64 (x4 + 1)) < (x0.length : Int) then ((merkle_Knot.f (rdOf ByteArray.empty x0 x4) (rdOf ByteArray.empty x0 (wrap64 (x4 + 1)))).bind fun t294 => (if x3.length < 8796093022208 then (merkle_pairs.l0 k x0 (x3 ++ [t294]) (wrap64 (x4 + 2))) else (none))) else (none)) else (none)) else (none))) else (some x3)
def merkle_pairs.f (k : Nat) (l0 : List ByteArray) : Option (List ByteArray) := merkle_pairs.l0 k l0 ([] : List ByteArray) 0
def merkle_pairs.T7 : Bool × List (List Nat × List Nat) := (true, [([], []), ([], []), ([], []), ([1, 2], [1, 2]), ([3], [3]), ([], []), ([], []), ([6], [6]), ([5, 7], [5, 7]), ([8], [8]), ([4, 9], [4, 9]), ([10], [10]), ([0, 11, 10], [0, 11]), ([12, 12, 0, 1, 2, 3, 4, 5, 6, 7, 8, 9, 10, 11, 12], [0, 12])])
def merkle_pairs.B7 : List Nat := [0, 0, 0, 6, 14, 0, 0, 64, 224, 480, 1022, 2046, 4095, 8191]
theorem merkle_pairs.tab7 : rtab .any (opsOf Tryz.f78 7) = merkle_pairs.T7 := by kernel_rfl
theorem merkle_pairs.bits7 : waitsOk merkle_pairs.T7.2 merkle_pairs.B7 = true := by kernel_rfl
theorem merkle_pairs.calls (k : Nat) (A0 : Option Addr) (c0 : Nat) (l0 : List ByteArray) (r : List ByteArray) (w : World) (hr0 : Kd.C Kd.string w A0 l0.length l0) (hc0 : l0.length ≤ c0) (h : merkle_pairs.f k l0 = some r) :
  Calls Tryz.prog 78 #[.slice A0 l0.length c0] w fun e w' => ∃ v0_ : Value, e = .returned (v0_) ∧ Kd.R Kd.string 9 w' w.heap.size (fun _ => True) v0_ r ∧ Below w.heap.size w w' := by
 have HR0 := jo hr0
 have HC0 := jo hc0
 clear hr0 hc0
 have HB := jo (Below.refl w.heap.size w)
 have H : (merkle_pairs.l0 k l0 ([] : List ByteArray) 0) = some r := h
 clear h
 have H' := jo H
 clear H
 go_enter Tryz.func78, Tryz.ntmps78
 go_wp2
 go_loopg [3, 4] k (fun kq v3 v4 w' => ∃ (x3_1 : List ByteArray) (x4_1 : Int), v4 = .int .i64 x4_1 ∧ Aside0 (merkle_pairs.l0 kq l0 x3_1 x4_1 = some r) ∧ Aside0 (kq ≤ k) ∧ Aside0 (Kd.R Kd.string 9 w' w.heap.size (fun _ => True) v3 x3_1) ∧ Aside0 (Below w.heap.size w w'))
 case atStart => exact ⟨(([] : List ByteArray)), (0), js, H', ⟨Nat.le_refl _⟩, ⟨by first | exact Kd.R_nil _ _ _ _ _ | exact Kd.N_nil _ _ _ _ _ | exact Kd.V_nil _ _ _ _ _ | exact Kd.Q_nil _ _ _ _ _ | exact Kd.S_nil _ _ _ _ _⟩, ⟨jb⟩⟩
 case round =>
  clear H'
  obtain ⟨x3_1, x4_1, rfl, HA, HK1, HO_3, HB⟩ := hrel
  cases gk with
  | zero => exact absurd HA.out (by simp [merkle_pairs.l0])
  | succ k1 =>
   have H := HA.out
   clear HA
   simp only [merkle_pairs.l0] at H
   by_cases c2 : x4_1 < (l0.length : Int)
   ·rw [if_pos c2] at H
    have c2b0 : decide (x4_1 < (l0.length : Int)) = true := decide_eq_true c2
    clear c2
    by_cases c3 : (wrap64 (x4_1 + 1)) = (l0.length : Int)
    ·rw [if_pos c3] at H
     have c3b0 : ((wrap64 (x4_1 + 1)) == (l0.length : Int)) = true := beq_iff_eq.mpr c3
     have c3b1 : ((wrap64 (x4_1 + 1)) != (l0.length : Int)) = false := bne_eq_false_iff_eq.mpr c3
     clear c3
     by_cases c4 : 0 ≤ x4_1
     ·rw [if_pos c4] at H
      have c4b0 : decide (0 ≤ x4_1) = true := decide_eq_true c4
      clear c4
      by_cases c5 : x3_1.length < 8796093022208
      ·rw [if_pos c5] at H
       have LMc5 := jo c5
       clear c5
       obtain ⟨y289, hy289⟩ : ∃ y_ : List ByteArray, y_ = (x3_1 ++ [rdOf ByteArray.empty l0 x4_1]) := ⟨_, rfl⟩
       replace H : (merkle_pairs.l0 k1 l0 y289 (wrap64 (x4_1 + 2))) = some r := by first | (rw [hy289]; with_reducible exact H) | (have H2_ := (Option.bind_some _ _).symm.trans H; rw [hy289]; with_reducible exact H2_) | (have H2_ := (Option.bind_some _ _).symm.trans H; with_reducible exact H2_) | with_reducible exact H | (rw [hy289]; exact H) | exact H
       have Ny289 := jo hy289
       clear hy289
       have H' := jo H
       clear H
       have p288 : 0 ≤ (x4_1 : Int) := of_decide_eq_true ja
       have q288 : x4_1 < (l0.length : Int) := of_decide_eq_true ja
       obtain ⟨ad288, e288, hx288_0⟩ := Kd.at_string HR0.out x4_1 p288 q288
       cases e288
       replace hx288_0 := (HB.out.cell (World.block_lt_of_cell? w _ hx288_0)).trans hx288_0
       replace p288 := eq_true p288
       replace q288 := eq_true q288
       go_wp2_with (first | ((with_reducible refine gate_builtin (b := .append) (xs := #[.tmp 16, .tmp 21]) rfl ?_); at_builtin; refine Kd.R_append Kd.string (w0 := w) w.heap.size rfl (.tmp 16) (.tmp 21) 31 9 (.string ⟨#[]⟩) 16 rfl Tryz.underlying31 info9 rfl (by decide) (by omega) u3 x3_1 (rdOf ByteArray.empty l0 x4_1) [.string (rdOf ByteArray.empty l0 x4_1)] (fun _ => True) (fun _ => False) rfl rfl ?aP (fun _ hk => hk.elim) ?aF ?aO ?aB ?aS ?aL ?_; (case aP => exact rfl); (case aB => exact jb); (case aF => exact (fun _ _ => trivial)); (case aO => exact (jr HO_3.out)); (case aS => exact (below_size jb)); (case aL => have := LMc5.out; omega); intro v290 w6 ho hb hg hat; rw [← Ny289.out] at ho; have n0_ := jo (hb); have n1_ := jo (ho); clear HB; clear HO_3; have HB := n0_; have HO291 := n1_; clear n0_ n1_; clear ho hb hg hat))
       go_roundg k1
       case measure => have := HK1.out; omega
       case rel => exact ⟨(y289), (wrap64 (x4_1 + 2)), js, H', ⟨by have := HK1.out; omega⟩, ⟨jr HO291.out⟩, ⟨jb⟩⟩
      ·rw [if_neg c5] at H
       exact absurd H (by simp)
     ·rw [if_neg c4] at H
      exact absurd H (by simp)
    ·rw [if_neg c3] at H
     have c3b0 : ((wrap64 (x4_1 + 1)) == (l0.length : Int)) = false := beq_eq_false_iff_ne.mpr c3
     have c3b1 : ((wrap64 (x4_1 + 1)) != (l0.length : Int)) = true := bne_iff_ne.mpr c3
     by_cases c7 : 0 ≤ x4_1
     ·rw [if_pos c7] at H
      have c7b0 : decide (0 ≤ x4_1) = true := decide_eq_true c7
      clear c7
      obtain ⟨ji8, hji8⟩ : ∃ j_ : Int, (wrap64 (x4_1 + 1)) = j_ := ⟨_, rfl⟩
      replace H : (if 0 ≤ (ji8) then (if (ji8) < (l0.length : Int) then ((merkle_Knot.f (rdOf ByteArray.empty l0 x4_1) (rdOf ByteArray.empty l0 (ji8))).bind fun t294 => (if x3_1.length < 8796093022208 then (merkle_pairs.l0 k1 l0 (x3_1 ++ [t294]) (wrap64 (x4_1 + 2))) else (none))) else (none)) else (none)) = some r := by first | (rw [hji8] at H; exact H) | (simp only [hji8] at H ⊢; exact H)
      (try rw [hji8] at c3b0)
      (try rw [hji8] at c3b1)
      have hji8w : (IntKind.i64.wrap (x4_1 + 1)) = ji8 := (i64_w _).trans hji8
      by_cases c9 : 0 ≤ (ji8)
      ·rw [if_pos c9] at H
       have c9b0 : decide (0 ≤ (ji8)) = true := decide_eq_true c9
       clear c9
       by_cases c10 : (ji8) < (l0.length : Int)
       ·rw [if_pos c10] at H
        have c10b0 : decide ((ji8) < (l0.length : Int)) = true := decide_eq_true c10
        clear c10
        replace H := Option.bind_eq_some_iff.mp H
        obtain ⟨t294, A110, H⟩ := H
        replace H : (if x3_1.length < 8796093022208 then (merkle_pairs.l0 k1 l0 (x3_1 ++ [t294]) (wrap64 (x4_1 + 2))) else (none)) = some r := H
        have A11 := jo A110
        clear A110
        by_cases c12 : x3_1.length < 8796093022208
        ·rw [if_pos c12] at H
         have LMc12 := jo c12
         clear c12
         obtain ⟨y295, hy295⟩ : ∃ y_ : List ByteArray, y_ = (x3_1 ++ [t294]) := ⟨_, rfl⟩
         replace H : (merkle_pairs.l0 k1 l0 y295 (wrap64 (x4_1 + 2))) = some r := by first | (rw [hy295]; with_reducible exact H) | (have H2_ := (Option.bind_some _ _).symm.trans H; rw [hy295]; with_reducible exact H2_) | (have H2_ := (Option.bind_some _ _).symm.trans H; with_reducible exact H2_) | with_reducible exact H | (rw [hy295]; exact H) | exact H
         have Ny295 := jo hy295
         clear hy295
         have H' := jo H
         clear H
         try go_wp2
         have n0_ := jo (Kd.R_drew HO_3.out)
         have n1_ := jo (below_drew1 HB.out)
         clear HO_3
         clear HB
         have HO_3 := n0_
         have HB := n1_
         clear n0_ n1_
         have p292 : 0 ≤ (x4_1 : Int) := of_decide_eq_true ja
         have q292 : x4_1 < (l0.length : Int) := of_decide_eq_true ja
         obtain ⟨ad292, e292, hx292_0⟩ := Kd.at_string HR0.out x4_1 p292 q292
         have hw292_0 := hx292_0
         cases e292
         replace hx292_0 := (HB.out.cell (World.block_lt_of_cell? w _ hx292_0)).trans hx292_0
         replace p292 := eq_true p292
         replace q292 := eq_true q292
         have p293 : 0 ≤ ((ji8) : Int) := of_decide_eq_true ja
         have q293 : (ji8) < (l0.length : Int) := of_decide_eq_true ja
         obtain ⟨ad293, e293, hx293_0⟩ := Kd.at_string HR0.out (ji8) p293 q293
         have hw293_0 := hx293_0
         obtain rfl : ad292 = ad293 := (by injection e293)
         replace hx293_0 := (HB.out.cell (World.block_lt_of_cell? w _ hx293_0)).trans hx293_0
         replace p293 := eq_true p293
         replace q293 := eq_true q293
         refine start_ (n := 14) (S := fun w' => w'.cell? (ad292.add (x4_1).toNat) = some (.string (rdOf ByteArray.empty l0 x4_1)) ∧ w'.cell? (ad292.add ((ji8)).toNat) = some (.string (rdOf ByteArray.empty l0 (ji8)))) (ds := []) #[false, false, false, false, false, false, false, false, false, false, false, false, false, false] jw rfl rfl ⟨((HB.out.cell (World.block_lt_of_cell? w _ hw292_0)).trans hw292_0), ((HB.out.cell (World.block_lt_of_cell? w _ hw293_0)).trans hw293_0)⟩ (fun hHeld => ?_); refine with_tabW merkle_pairs.tab7 merkle_pairs.bits7 (fun HT_ HW_ => ?_)
         generalize wr.drew = w13 at HO_3 HB hx292_0 hx293_0 hHeld ⊢
         refine td_ [0, 1, 2, 3, 5, 6, 7, 8] ?_
         repeat (first | refine pp_ ?_ | refine po_ ?_)
         refine tn_ ?_
         refine td_ [4, 9] ?_
         repeat (refine pt_ hHeld ?_)
         refine tn_ ?_
         refine on_ 10 (fun K hK => ?_)
         refine goes_ Tryz.func112 jw rfl #[.string (rdOf ByteArray.empty l0 x4_1), .string (rdOf ByteArray.empty l0 (ji8))] (by rfl) rfl rfl (by (try simp only [List.map_toArray, List.map_cons, List.map_nil]); first | done | (simp only [hji8]; rfl) | rfl | (simp only [List.length_drop, List.length_take]; rfl)) ?_
         with_reducible refine (merkle_Knot.calls (rdOf ByteArray.empty l0 x4_1) (rdOf ByteArray.empty l0 (ji8)) t294 _ A11.out).mono ?_
         rintro e w14 ⟨rfl, hb⟩
         refine ⟨_, rfl, ?_⟩
         have n0_ := jo (Kd.R_below (jr HO_3.out) hb)
         have n1_ := jo (below_step jb hb)
         clear HO_3
         clear HB
         have HO_3 := n0_
         have HB := n1_
         clear n0_ n1_
         (try clear hb)
         (try clear hb2)
         (try clear hk)
         (try clear hi)
         refine hK.out _ _ ⟨((HB.out.cell (World.block_lt_of_cell? w _ hw292_0)).trans hw292_0), ((HB.out.cell (World.block_lt_of_cell? w _ hw293_0)).trans hw293_0)⟩ (fun hHeld => ?_)
         clear hK K
         refine nm_ (some 33) ?_
         refine on_ 11 (fun K hK => ?_)
         refine value_ (w1 := ?_) (v := ?_) (by rfl) rfl ?_ ?_
         rotate_left 2
         ·go_simp
          constructor
          ·rfl
          ·rfl
         refine hK.out _ _ ⟨(World.cell?_alloc_lt _ _ _ (World.block_lt_of_cell? _ _ (((HB.out.cell (World.block_lt_of_cell? w _ hw292_0)).trans hw292_0)))).trans (((HB.out.cell (World.block_lt_of_cell? w _ hw292_0)).trans hw292_0)), (World.cell?_alloc_lt _ _ _ (World.block_lt_of_cell? _ _ (((HB.out.cell (World.block_lt_of_cell? w _ hw293_0)).trans hw293_0)))).trans (((HB.out.cell (World.block_lt_of_cell? w _ hw293_0)).trans hw293_0))⟩ (fun hHeld => ?_)
         clear hK K
         refine nm_ (some 34) ?_
         refine on_ 12 (fun K hK => ?_)
         refine Kd.R_append_step Kd.string (w0 := w) w.heap.size (by rfl) (.tmp 23) (.tmp 34) 31 9 (.string ⟨#[]⟩) 16 rfl Tryz.underlying31 info9 rfl (by decide) (by omega) u3 x3_1 t294 [.string t294] (fun _ => True) (fun _ => False) rfl rfl ?aP (fun _ hk => hk.elim) ?aF ?aO ?aB ?aS ?aL ?_
         (case aP => exact rfl)
         (case aB => exact jb)
         (case aF => exact (fun _ _ => trivial))
         (case aO => exact (jr HO_3.out))
         (case aS => exact (below_size jb))
         (case aL => have := LMc12.out; omega)
         intro v296 w15 ho hb hg hat
         rw [← Ny295.out] at ho
         have n0_ := jo (hb)
         have n1_ := jo (ho)
         clear HB
         clear HO_3
         have HB := n0_
         have HO297 := n1_
         clear n0_ n1_
         clear ho hb hg hat
         refine hK.out _ _ ⟨((HB.out.cell (World.block_lt_of_cell? w _ hw292_0)).trans hw292_0), ((HB.out.cell (World.block_lt_of_cell? w _ hw293_0)).trans hw293_0)⟩ (fun hHeld => ?_)
         clear hK K
         refine nm_ (some 35) ?_
         refine td_ [13] ?_
         repeat (first | refine pp_ ?_ | refine po_ ?_)
         refine tn_ ?_
         refine dn_ ?_
         try go_wp2
         go_roundg k1
         case measure => have := HK1.out; omega
         case rel => exact ⟨(y295), (wrap64 (x4_1 + 2)), js, H', ⟨by have := HK1.out; omega⟩, ⟨jr HO297.out⟩, ⟨jb⟩⟩
        ·rw [if_neg c12] at H
         exact absurd H (by simp)
       ·rw [if_neg c10] at H
        exact absurd H (by simp)
      ·rw [if_neg c9] at H
       exact absurd H (by simp)
     ·rw [if_neg c7] at H
      exact absurd H (by simp)
   ·rw [if_neg c2] at H
    have c2b0 : decide (x4_1 < (l0.length : Int)) = false := decide_eq_false c2
    clear c2
    obtain rfl := Option.some.inj H
    go_wp2
    go_ret
    exact ⟨_, je, jr HO_3.out, jb⟩
def merkle_Root.l0 : Nat → List ByteArray → Option (ByteArray × Int)
 | 0, _ => none
 | k + 1, x5 => if (x5.length : Int) = 1 then (if 0 < (x5.length : Int) then (some (rdOf ByteArray.empty x5 0, 0)) else (none)) else ((merkle_pairs.f k x5).bind fun t303 => (merkle_Root.l0 k t303))
def merkle_Root.f (k : Nat) (l0 : List ByteArray) : Option (ByteArray × Int) := (merkle_may.f l0).bind fun t298 => (if t298 = 0 then ((merkle_digests.f k l0).bind fun t299 => (merkle_Root.l0 k t299)) else (some ((⟨#[]⟩ : ByteArray), t298)))
theorem merkle_Root.calls (k : Nat) (A0 : Option Addr) (c0 : Nat) (l0 : List ByteArray) (r1 : ByteArray) (r2 : Int) (w : World) (hr0 : Kd.C Kd.string w A0 l0.length l0) (hc0 : l0.length ≤ c0) (h : merkle_Root.f k l0 = some (r1, r2)) :
  Calls Tryz.prog 38 #[.slice A0 l0.length c0] w fun e w' => e = .returned (.tuple #[.string r1, .int .i64 r2]) ∧ Below w.heap.size w w' := by
 have HR0 := jo hr0
 have HC0 := jo hc0
 clear hr0 hc0
 have HB := jo (Below.refl w.heap.size w)
 have H : ((merkle_may.f l0).bind fun t298 => (if t298 = 0 then ((merkle_digests.f k l0).bind fun t299 => (merkle_Root.l0 k t299)) else (some ((⟨#[]⟩ : ByteArray), t298)))) = some (r1, r2) := h
 clear h
 replace H := Option.bind_eq_some_iff.mp H
 obtain ⟨t298, A20, H⟩ := H
 replace H : (if t298 = 0 then ((merkle_digests.f k l0).bind fun t299 => (merkle_Root.l0 k t299)) else (some ((⟨#[]⟩ : ByteArray), t298))) = some (r1, r2) := H
 have A2 := jo A20
 clear A20
 by_cases c3 : t298 = 0
 ·rw [if_pos c3] at H
  have c3b0 : (t298 == 0) = true := beq_iff_eq.mpr c3
  have c3b1 : (t298 != 0) = false := bne_eq_false_iff_eq.mpr c3
  clear c3
  replace H := Option.bind_eq_some_iff.mp H
  obtain ⟨t299, A40, H⟩ := H
  replace H : (merkle_Root.l0 k t299) = some (r1, r2) := H
  have A4 := jo A40
  clear A40
  have H' := jo H
  clear H
  go_enter Tryz.func38, Tryz.ntmps38
  go_wp2_with (first | ((with_reducible refine gate_callee (f := 76) rfl ?_); refine goesL_ (some 7) rfl rfl Tryz.func76 jw rfl #[.slice A0 l0.length c0] rfl jm ?_; (with_reducible refine (merkle_may.calls _ _ l0 t298 _ ?side1 ?side2 A2.out).mono ?_); (case side1 => repeat (first | exact HR0.out | (with_reducible refine Kd.C_alloc ?_ _) | (with_reducible refine Kd.C_drewN ?_ _) | (with_reducible refine Kd.C_drew ?_))); (case side2 => exact HC0.out); rintro e w5 ⟨rfl, hb⟩; refine ⟨_, rfl, ?_⟩; have n0_ := jo (below_step jb hb); clear HB; have HB := n0_; clear n0_; (try clear hb); (try clear hb2); (try clear hk); (try clear hi)) | ((with_reducible refine gate_callee (f := 77) rfl ?_); refine goesL_ (some 12) rfl rfl Tryz.func77 jw rfl #[.slice A0 l0.length c0] rfl jm ?_; (with_reducible refine (merkle_digests.calls k _ _ l0 t299 _ ?side1 ?side2 A4.out).mono ?_); (case side1 => repeat (first | exact (Kd.C_below HR0.out HB.out) | (with_reducible refine Kd.C_alloc ?_ _) | (with_reducible refine Kd.C_drewN ?_ _) | (with_reducible refine Kd.C_drew ?_))); (case side2 => exact HC0.out); rintro e w6 ⟨v300, rfl, ho0, hb⟩; refine ⟨_, rfl, ?_⟩; have n0_ := jo (Kd.R_lower ho0 (below_size jb)); have n1_ := jo (below_step jb hb); clear HB; have HO301 := n0_; have HB := n1_; clear n0_ n1_; (try clear hb); (try clear hb2); (try clear hk); (try clear hi); (try clear ho0)))
  refine Goto.wp_scope_lazy 0 rfl ?_
  intro KG HKG
  go_wp2_with (first | ((with_reducible refine gate_callee (f := 76) rfl ?_); refine goesL_ (some 7) rfl rfl Tryz.func76 jw rfl #[.slice A0 l0.length c0] rfl jm ?_; (with_reducible refine (merkle_may.calls _ _ l0 t298 _ ?side1 ?side2 A2.out).mono ?_); (case side1 => repeat (first | exact HR0.out | (with_reducible refine Kd.C_alloc ?_ _) | (with_reducible refine Kd.C_drewN ?_ _) | (with_reducible refine Kd.C_drew ?_))); (case side2 => exact HC0.out); rintro e w5 ⟨rfl, hb⟩; refine ⟨_, rfl, ?_⟩; have n0_ := jo (below_step jb hb); clear HB; have HB := n0_; clear n0_; (try clear hb); (try clear hb2); (try clear hk); (try clear hi)) | ((with_reducible refine gate_callee (f := 77) rfl ?_); refine goesL_ (some 12) rfl rfl Tryz.func77 jw rfl #[.slice A0 l0.length c0] rfl jm ?_; (with_reducible refine (merkle_digests.calls k _ _ l0 t299 _ ?side1 ?side2 A4.out).mono ?_); (case side1 => repeat (first | exact (Kd.C_below HR0.out HB.out) | (with_reducible refine Kd.C_alloc ?_ _) | (with_reducible refine Kd.C_drewN ?_ _) | (with_reducible refine Kd.C_drew ?_))); (case side2 => exact HC0.out); rintro e w6 ⟨v300, rfl, ho0, hb⟩; refine ⟨_, rfl, ?_⟩; have n0_ := jo (Kd.R_lower ho0 (below_size jb)); have n1_ := jo (below_step jb hb); clear HB; have HO301 := n0_; have HB := n1_; clear n0_ n1_; (try clear hb); (try clear hb2); (try clear hk); (try clear hi); (try clear ho0)))
  refine Goto.label_ghost_put HKG (by assumption) [false, false, true, true, false, true, false, false, false, false, false, false, false, true, true, true, true, true, true, true, true] (fun kq vs_ w' => ∃ u2 u3 u5 u13 u14 u15 u16 u17 u18 u19 u20 : Value, vs_ = [u2, u3, u5, u13, u14, u15, u16, u17, u18, u19, u20] ∧ ∃ (x5_1 : List ByteArray), Aside0 (merkle_Root.l0 kq x5_1 = some (r1, r2)) ∧ Aside0 (kq ≤ k) ∧ Aside0 (Kd.R Kd.string 9 w' w.heap.size (fun _ => True) u5 x5_1) ∧ Aside0 (Below w.heap.size w w')) k [_, _, _, _, _, _, _, _, _, _, _] ?atStart rfl ?round
  case atStart => exact ⟨_, _, _, _, _, _, _, _, _, _, _, rfl, (t299), H', ⟨Nat.le_refl _⟩, ⟨jr HO301.out⟩, ⟨jb⟩⟩
  case round =>
   clear HKG
   intro gk vs_ wr hrel JG1 KG1 HJG1 HKG1
   clear H'
   try clear p2
   try clear c3
   try clear c3b0
   try clear c3b1
   obtain ⟨u2, u3, u5, u13, u14, u15, u16, u17, u18, u19, u20, hvs_, hrel⟩ := hrel
   subst hvs_
   obtain ⟨x5_1, HA, HK1, HO_5, HB⟩ := hrel
   simp only [Goto.putFrame_mk, Goto.putAll_true, Goto.putAll_false, Goto.putAll_nil]
   cases gk with
   | zero => exact absurd HA.out (by simp [merkle_Root.l0])
   | succ k1 =>
    have H := HA.out
    clear HA
    simp only [merkle_Root.l0] at H
    by_cases c7 : (x5_1.length : Int) = 1
    ·rw [if_pos c7] at H
     have c7b0 : ((x5_1.length : Int) == 1) = true := beq_iff_eq.mpr c7
     have c7b1 : ((x5_1.length : Int) != 1) = false := bne_eq_false_iff_eq.mpr c7
     clear c7
     by_cases c8 : 0 < (x5_1.length : Int)
     ·rw [if_pos c8] at H
      have c8b0 : decide (0 < (x5_1.length : Int)) = true := decide_eq_true c8
      have c8b1 : decide (0 < x5_1.length) = true := decide_eq_true (by omega)
      clear c8
      simp only [Option.some.injEq, Prod.mk.injEq] at H
      obtain ⟨rfl, rfl⟩ := H
      obtain ⟨Ao9, co9, eo9⟩ := Kd.R_slice HO_5.out
      subst eo9
      have p302 : 0 ≤ (0 : Int) := (by omega)
      have q302 : 0 < (x5_1.length : Int) := of_decide_eq_true ja
      obtain ⟨ad302, e302, hx302_0⟩ := Kd.at_string (Kd.R_reads' HO_5.out).2.2 0 p302 q302
      cases e302
      have qi302 : (0 < x5_1.length) = True := eq_true (by omega)
      (try rw [show ((0 : Int)).toNat = 0 from rfl] at hx302_0)
      (try rw [Addr.add_zero'] at hx302_0)
      replace p302 := eq_true p302
      replace q302 := eq_true q302
      go_wp2
      (try simp only [Goto.jump_ret, Goto.jump_normal, Exit.then, Exit.inBlock])
      go_ret2
      exact ⟨je, jb⟩
     ·rw [if_neg c8] at H
      exact absurd H (by simp)
    ·rw [if_neg c7] at H
     have c7b0 : ((x5_1.length : Int) == 1) = false := beq_eq_false_iff_ne.mpr c7
     have c7b1 : ((x5_1.length : Int) != 1) = true := bne_iff_ne.mpr c7
     replace H := Option.bind_eq_some_iff.mp H
     obtain ⟨t303, A100, H⟩ := H
     replace H : (merkle_Root.l0 k1 t303) = some (r1, r2) := H
     have A10 := jo A100
     clear A100
     have H' := jo H
     clear H
     obtain ⟨Ao11, co11, eo11⟩ := Kd.R_slice HO_5.out
     subst eo11
     go_wp2_with (first | ((with_reducible refine gate_callee (f := 78) rfl ?_); refine goesL_ (some 20) rfl rfl Tryz.func78 jw rfl #[.slice Ao11 x5_1.length co11] rfl jm ?_; (with_reducible refine (merkle_pairs.calls k1 _ _ x5_1 t303 _ ?side1 ?side2 A10.out).mono ?_); (case side1 => repeat (first | exact (Kd.R_reads' HO_5.out).2.2 | (with_reducible refine Kd.C_alloc ?_ _) | (with_reducible refine Kd.C_drewN ?_ _) | (with_reducible refine Kd.C_drew ?_))); (case side2 => exact (Kd.R_reads' HO_5.out).2.1); rintro e w12 ⟨v304, rfl, ho0, hb⟩; refine ⟨_, rfl, ?_⟩; have n0_ := jo (Kd.R_elder' (jr HO_5.out) (Kd.R_base ho0) hb); have n1_ := jo (Kd.R_lower (Kd.R_new' ho0 (Kd.R_lt (jr HO_5.out))) (below_size jb)); have n2_ := jo (below_step jb hb); clear HO_5; clear HB; have HO_5 := n0_; have HO305 := n1_; have HB := n2_; clear n0_ n1_ n2_; (try clear hb); (try clear hb2); (try clear hk); (try clear hi); (try clear ho0)))
     apply wp_goto
     (try simp only [Exit.then, Exit.inBlock])
     refine Goto.goto_put HKG1 HJG1 k1 [_, _, _, _, _, _, _, _, _, _, _] ?measure rfl ?rel
     case measure => have := HK1.out; omega
     case rel => exact ⟨_, _, _, _, _, _, _, _, _, _, _, rfl, (t303), H', ⟨by have := HK1.out; omega⟩, ⟨by (with_reducible repeat (first | apply Kd.R_alloc | apply Kd.R_drewN | apply Kd.R_drew)); exact Kd.R_mono HO305.out (fun _ hk => trivial)⟩, ⟨jb⟩⟩
 ·rw [if_neg c3] at H
  have c3b0 : (t298 == 0) = false := beq_eq_false_iff_ne.mpr c3
  have c3b1 : (t298 != 0) = true := bne_iff_ne.mpr c3
  simp only [Option.some.injEq, Prod.mk.injEq] at H
  obtain ⟨rfl, rfl⟩ := H
  go_enter Tryz.func38, Tryz.ntmps38
  go_wp2_with (first | ((with_reducible refine gate_callee (f := 76) rfl ?_); refine goesL_ (some 7) rfl rfl Tryz.func76 jw rfl #[.slice A0 l0.length c0] rfl jm ?_; (with_reducible refine (merkle_may.calls _ _ l0 t298 _ ?side1 ?side2 A2.out).mono ?_); (case side1 => repeat (first | exact HR0.out | (with_reducible refine Kd.C_alloc ?_ _) | (with_reducible refine Kd.C_drewN ?_ _) | (with_reducible refine Kd.C_drew ?_))); (case side2 => exact HC0.out); rintro e w13 ⟨rfl, hb⟩; refine ⟨_, rfl, ?_⟩; have n0_ := jo (below_step jb hb); clear HB; have HB := n0_; clear n0_; (try clear hb); (try clear hb2); (try clear hk); (try clear hi)))
  refine Goto.wp_scope_lazy 0 rfl ?_
  intro KG HKG
  go_wp2_with (first | ((with_reducible refine gate_callee (f := 76) rfl ?_); refine goesL_ (some 7) rfl rfl Tryz.func76 jw rfl #[.slice A0 l0.length c0] rfl jm ?_; (with_reducible refine (merkle_may.calls _ _ l0 t298 _ ?side1 ?side2 A2.out).mono ?_); (case side1 => repeat (first | exact HR0.out | (with_reducible refine Kd.C_alloc ?_ _) | (with_reducible refine Kd.C_drewN ?_ _) | (with_reducible refine Kd.C_drew ?_))); (case side2 => exact HC0.out); rintro e w13 ⟨rfl, hb⟩; refine ⟨_, rfl, ?_⟩; have n0_ := jo (below_step jb hb); clear HB; have HB := n0_; clear n0_; (try clear hb); (try clear hb2); (try clear hk); (try clear hi)))
  (try simp only [Goto.jump_ret, Goto.jump_normal, Exit.then, Exit.inBlock])
  go_ret2
  exact ⟨je, jb⟩
end Go.Proofs.YtjmooillogojkaaGreat.Q
