/- inact: what is left of the rows that are not used; The writer of octets: a builder and an error in one block; Printed by a changed copy of a printer, shortened by a program: what these functions a ... No condition. -/
import Derived.Test.YtjmooillogojkaaGreatM27
set_option maxHeartbeats 8000000
set_option maxRecDepth 100000
set_option linter.unusedVariables false
set_option linter.unusedSimpArgs false
namespace Go.Proofs.YtjmooillogojkaaGreat.Q
open Go.RowKit Go.Proofs.YtjmooillogojkaaGreatW.PrintWords Go.Proofs.YtjmooillogojkaaGreatW.PrintLast Go.Proofs.YtjmooillogojkaaGreatW.PrintMore
open Go.Proofs.YtjmooillogojkaaGreat
section
variable {P : Program} {ops : Array Oper} {rest : List Oper} {o : Oper} {a : Act} {Q : Exit → Act → World → Prop}
theorem ER_append {w0 W : World} (base : Nat) (hgd : o.guard = none) (s x : Operand) (t : TypeId) (z : Value) (bytes : Nat)
  (ho : o.op = .call { callee := .builtin .append, args := #[s, x], argTypes := #[t, t] })
  (ht : P.underlying t = some (.slice 62)) (hinfo : (P.info? 62).map (fun i => (i.zero, i.size, i.bytes)) = some (some z, 2, bytes)) (hz : z.cells.size = 2) (hb0 : 0 < bytes)
  (v : Value) (xs : List S62) (p : S62) (cs : List Value) (hs : a.eval s = v) (hx : a.eval x = .slice (some ⟨W.heap.size, 0, none⟩) 1 1) (hp : EqV W p cs)
  (HO : ER W base v xs) (HB : Below base w0 W) (hbase : base ≤ W.heap.size) (hl : (xs.length + 1) * bytes ≤ 140737488355328)
  (h : ∀ v1 w1, ER w1 base v1 (xs ++ [p]) → Below base w0 w1 → Num3 W w1 → W.grownBy w1 v.ownBlock → (v1.ownBlock = v.ownBlock ∨ ∃ b, v1.ownBlock = some b ∧ W.heap.size ≤ b) → wpList P ops Q rest (a.put o.dst v1) w1) :
  wpList P ops Q (o :: rest) a (W.alloc (.cells cs.toArray 62)) := by
 have hcl : cs.length = 2 ∧ ∀ u ∈ cs, u.oneCell' = true := by
  obtain ⟨v, rfl, h⟩ := hp
  refine ⟨rfl, fun u hu => ?_⟩
  rcases List.mem_cons.1 hu with rfl | hu
  ·exact h.one
  ·rw [List.mem_singleton.1 hu]; rfl
 refine OR_append (w0 := w0) base 2 hgd s x t 62 z bytes ho ht hinfo hz (by decide) hb0 v xs p cs hs hx hp hcl.1 hcl.2 HO HB hbase hl ?_
 intro v1 w1 h1 h2 h3 h4
 have hn : Num3 W w1 := Num3.grown h3 (fun g hg => by
  obtain ⟨_, cells, hc⟩ := HO.block g hg
  exact ⟨cells, 62, hc, by decide⟩)
 exact h v1 w1 (h1.imp_ (fun f c hf => hf.frame hn)) h2 hn h3 h4
end
def restK (F : List S62) (D : List Bool) (l : List S62) : Nat → List S62
 | 0 => []
 | k + 1 => if D.getD k false = true then restK F D l k else restK F D l k ++ [sumF F (l.getD k z62) (-1)]
theorem restK_len (F : List S62) (D : List Bool) (l : List S62) : ∀ k, (restK F D l k).length ≤ k
 | 0 => Nat.le_refl _
 | k + 1 => by
  unfold restK
  have := restK_len F D l k
  split
  ·omega
  ·rw [List.length_append, List.length_singleton]; omega
theorem restK_ok {n : Nat} {F : List S62} {D : List Bool} {l : List S62} (hF : ∀ f ∈ F, fOk n f) (hx : ∀ x ∈ l, fOk n x) : ∀ k, ∀ f ∈ restK F D l k, fOk n f
 | 0 => fun f hf => absurd hf (by simp [restK])
 | k + 1 => by
  unfold restK
  split
  ·exact restK_ok hF hx k
  ·intro f hf
   rcases List.mem_append.1 hf with hf | hf
   ·exact restK_ok hF hx k f hf
   ·rw [List.mem_singleton.1 hf]
    have : fOk n (l.getD k z62) := by
     rw [List.getD_eq_getElem?_getD]
     cases h : l[k]? with
     | none => exact z62_ok n
     | some f => exact hx f (List.mem_of_getElem? h)
    exact accF_ok hF (a := ⟨[], (l.getD k z62).f1⟩) ⟨fun k hk => absurd hk (Nat.not_lt_zero _), this.2⟩ _
theorem lens48 {k : Nat} (h : k ≤ 100000) : (k + 1) * 40 ≤ 140737488355328 := by omega
theorem rest_ok {w : World} {n sz Bw GF cF GD cD cl : Nat} {Al : Option Addr} {l : List S62} {vu : Value} {F : List S62} {D : List Bool} (W : World) (h : Wk w W n sz Bw (.slice Al l.length cl) vu (.slice (some ⟨GF, 0, none⟩) n cF) (.slice (some ⟨GD, 0, none⟩) l.length cD) F D) (hr : Kd.C k62 W Al l.length l) (hn : n ≤ 160) (hl : l.length ≤ 400) (hx : ∀ x ∈ l, fOk n x) :
  Calls Tryz.prog 26 #[.pointer (some ⟨Bw, 0, none⟩)] W fun e w' => ∃ v, e = .returned v ∧ ER w' W.heap.size v (restK F D l l.length) ∧ Below W.heap.size W w' := by
 have HR := jo hr
 have HW := jo h
 have HX := jo hx
 have hDl := (Kd.R_reads' h.used).1
 have HD := jo hDl
 have c1 : W.cell? ⟨Bw, 1, none⟩ = some (.slice Al l.length cl) := h.cell 1
 clear hr h hx hDl
 go_enter Tryz.func26, Tryz.ntmps26
 go_wp2
 go_loopg [3, 4, 5, 11] l.length (fun gk v3 v4 v5 v11 wr => ∃ (k : Nat) , v11 = .int .i64 k ∧ Aside0 (k + gk = l.length ∧ ER wr W.heap.size v3 (restK F D l k) ∧ Below W.heap.size W wr))
 case atStart => exact ⟨0, rfl, ⟨by omega, ER.nil _ _, Below.refl _ _⟩⟩
 case round =>
  obtain ⟨k, rfl, HA⟩ := hrel
  by_cases hlt : k < l.length
  ·have d1 : decide ((k : Int) < (l.length : Int)) = true := decide_eq_true (by omega)
   have d2 : decide (k < l.length) = true := decide_eq_true hlt
   obtain ⟨gq, rfl⟩ : ∃ q, gk = q + 1 := ⟨gk - 1, by have := HA.out.1; omega⟩
   have hkk : Aside0 (k + 1 + gq = l.length) := ⟨by have := HA.out.1; omega⟩
   have hkm : k ≤ 100000 := by omega
   have wk1 := w64s (k := k) hkm
   have wk0 : wrap64 (k : Int) = (k : Int) := Deg.w64 (by omega) (by omega)
   have p1 : (k : Int) < (l.length : Int) := by omega
   have hwk := HW.out.below HA.out.2.2
   obtain ⟨al, A0, c0, rfl, x3, x4, hx5, hx6⟩ := at_T62 (Kd.C_below HR.out HA.out.2.2) (k : Int) (Int.natCast_nonneg _) p1
   have hxe : rd_T62 l (k : Int) = l.getD k z62 := rfl
   have hxl : rd_T62 l (k : Int) ∈ l := by
    rw [hxe, List.getD_eq_getElem?_getD, List.getElem?_eq_getElem hlt]
    exact List.getElem_mem _
   rw [Int.toNat_natCast] at x3 x4
   generalize rd_T62 l (k : Int) = x at x3 x4 hx5 hx6 hxe hxl
   have HX1 : Aside0 (x = l.getD k z62 ∧ fOk n x) := ⟨hxe, HX.out _ hxl⟩
   obtain ⟨xi, xd⟩ := x
   replace x3 : wr.cell? (al.add (k * 2)) = some (.slice A0 xi.length c0) := x3
   replace x4 : wr.cell? ⟨(al.add (k * 2)).block, (al.add (k * 2)).off + 1, none⟩ = some (.string xd) := x4
   have hb2 : Below wr.heap.size wr (wr.alloc (.cells #[.slice A0 xi.length c0, .string xd] 62)) := below_alloc (Below.refl _ _) _
   have hwk2 := hwk.below hb2
   obtain ⟨bo, hbo, x2⟩ : ∃ bo, bo = D.getD k false ∧ (wr.alloc (.cells #[.slice A0 xi.length c0, .string xd] 62)).cell? ⟨GD, k, none⟩ = some (.bool bo) := by
    obtain ⟨ad, e, hc⟩ := Kd.at_bool (Kd.R_reads' hwk2.used).2.2 (k : Int) (Int.natCast_nonneg _) (by rw [← HD.out]; exact p1)
    injection e with e
    subst e
    refine ⟨rdOf false D (k : Int), rfl, ?_⟩
    rw [Int.toNat_natCast] at hc
    have hz : (⟨GD, 0, none⟩ : Addr).add k = ⟨GD, k, none⟩ := by rw [Addr.add_lit, Nat.zero_add]
    rw [hz] at hc
    exact hc
   have x5 : (wr.alloc (.cells #[.slice A0 xi.length c0, .string xd] 62)).cell? ⟨Bw, 4, none⟩ = some (.slice (some ⟨GD, 0, none⟩) l.length cD) := hwk2.cell 4
   have x6 : (wr.alloc (.cells #[.slice A0 xi.length c0, .string xd] 62)).cell? ⟨wr.heap.size, 0, none⟩ = some (.slice A0 xi.length c0) := blk_cell (blk_new wr _) 0
   have x7 : (wr.alloc (.cells #[.slice A0 xi.length c0, .string xd] 62)).cell? ⟨wr.heap.size, 1, none⟩ = some (.string xd) := blk_cell (blk_new wr _) 1
   have HC : Aside0 (Calls Tryz.prog 64 #[.pointer (some ⟨Bw, 0, none⟩), .agg #[.slice A0 xi.length c0, .string xd], .int .i64 (-1)] (wr.alloc (.cells #[.slice A0 xi.length c0, .string xd] 62)) fun e w' => ∃ v, e = .returned (.agg #[v, .string (sumF F ⟨xi, xd⟩ (-1)).f1]) ∧ SLI w' v (sumF F ⟨xi, xd⟩ (-1)).f0 ∧ Below (wr.alloc (.cells #[.slice A0 xi.length c0, .string xd] 62)).heap.size (wr.alloc (.cells #[.slice A0 xi.length c0, .string xd] 62)) w') := ⟨sum_ok (base := w.heap.size) (Bw := Bw) hn hwk2.blk hwk2.forms hwk2.fok hwk2.fl HX1.out.2 (Kd.C_below hx6 hb2) hx5⟩
   have HE : Aside0 (ER (wr.alloc (.cells #[.slice A0 xi.length c0, .string xd] 62)) W.heap.size u3 (restK F D l k)) := ⟨HA.out.2.1.below hb2⟩
   have HBB : Aside0 (Below W.heap.size W (wr.alloc (.cells #[.slice A0 xi.length c0, .string xd] 62))) := ⟨below_step HA.out.2.2 hb2⟩
   have hlk : (restK F D l k).length ≤ 100000 := by have := restK_len F D l k; omega
   have HL := jo hlk
   have hsn : restK F D l (k + 1) = if bo = true then restK F D l k else restK F D l k ++ [sumF F ⟨xi, xd⟩ (-1)] := by rw [restK, hbo, HX1.out.1]
   have HSN := jo hsn
   clear hsn hlk hbo hb2 hwk2 hx5 hx6 hxe hxl hwk
   cases bo with
   | true =>
    go_wp2
    go_roundg gq
    case measure => exact Nat.lt_succ_self _
    case rel => exact ⟨k + 1, rfl, ⟨hkk.out, by rw [HSN.out]; exact HE.out, HBB.out⟩⟩
   | false =>
    go_wp2_with (first | (go_at_call 64; (with_reducible refine HC.out.mono ?_); rintro e w6 ⟨v6, rfl, hs6, hb6⟩; have H6 := jo (And.intro (HE.out.below hb6) (And.intro (below_step HBB.out hb6) hs6)); clear hb6 hs6) | ((with_reducible refine gate_builtin (b := .append) (xs := #[.tmp 24, .tmp 28]) rfl ?_); at_builtin; refine ER_append (w0 := W) W.heap.size rfl (.tmp 24) (.tmp 28) 37 _ 40 rfl Tryz.underlying37 info62 rfl (by decide) u3 (restK F D l k) (sumF F ⟨xi, xd⟩ (-1)) [v6, .string (sumF F ⟨xi, xd⟩ (-1)).f1] rfl rfl ⟨v6, rfl, H6.out.2.2⟩ H6.out.1 H6.out.2.1 H6.out.2.1.size (lens48 HL.out) ?_; intro v9 w9 ho hb hn9 hg hat; have R9 := jo (And.intro ho hb); clear ho hb hn9 hg hat))
    go_roundg gq
    case measure => exact Nat.lt_succ_self _
    case rel => exact ⟨k + 1, rfl, ⟨hkk.out, by rw [HSN.out]; exact R9.out.1, R9.out.2⟩⟩
  ·have d1 : decide ((k : Int) < (l.length : Int)) = false := decide_eq_false (by omega)
   have d2 : decide (k < l.length) = false := decide_eq_false hlt
   have e1 : k = l.length := by have := HA.out.1; omega
   have ha := HA.out.2
   rw [e1] at ha
   have HB := jo ha
   clear HA ha e1
   go_wp2
   go_ret
   exact ⟨_, rfl, HB.out⟩
end Go.Proofs.YtjmooillogojkaaGreat.Q
namespace Go.Proofs.YtjmooillogojkaaGreat.Q
open Go.RowKit Go.Proofs.YtjmooillogojkaaGreatW.PrintWords Go.Proofs.YtjmooillogojkaaGreatW.PrintLast Go.Proofs.YtjmooillogojkaaGreatW.PrintMore
open Go.Proofs.YtjmooillogojkaaGreat
attribute [local go_sem] max2_int min2_int max_two min_two max_three min_three max_four min_four
mutual
def oct_Put.j0 : Nat → Int → Int → Bool → Option (ByteArray × Int)
 | 0, _, _, _ => none
 | k + 1, x0, x1, x8 => if x8 = true then (some ((⟨#[]⟩ : ByteArray), 1)) else (if x0 < 0 then (some ((⟨#[]⟩ : ByteArray), 8)) else (if 0 ≤ (wrap64 (8 * x1)) then (if (shr .i64 x0 (wrap64 (8 * x1))) = 0 then (oct_Put.l0 k x0 ([] : List Int) (wrap64 (x1 - 1))) else (some ((⟨#[]⟩ : ByteArray), 8))) else (none)))
def oct_Put.l0 : Nat → Int → List Int → Int → Option (ByteArray × Int)
 | 0, _, _, _ => none
 | k + 1, x0, x6, x7 => if x7 ≥ 0 then (if 0 ≤ (wrap64 (8 * x7)) then (if x6.length < 140737488355328 then (oct_Put.l0 k x0 (x6 ++ [(shr .i64 x0 (wrap64 (8 * x7))) % 256]) (wrap64 (x7 - 1))) else (none)) else (none)) else (some (strOfNums x6, 0))
end
def oct_Put.f (k : Nat) (a0 : Int) (a1 : Int) : Option (ByteArray × Int) := if a1 < 1 then (oct_Put.j0 k a0 a1 true) else (oct_Put.j0 k a0 a1 (decide (a1 > 7)))
theorem oct_Put.calls (k : Nat) (a0 : Int) (a1 : Int) (r1 : ByteArray) (r2 : Int) (w : World) (h : oct_Put.f k a0 a1 = some (r1, r2)) :
  Calls Tryz.prog 169 #[.int .i64 a0, .int .i64 a1] w fun e w' => e = .returned (.tuple #[.string r1, .int .i64 r2]) ∧ Below w.heap.size w w' := by
 have HB := jo (Below.refl w.heap.size w)
 have H : (if a1 < 1 then (oct_Put.j0 k a0 a1 true) else (oct_Put.j0 k a0 a1 (decide (a1 > 7)))) = some (r1, r2) := h
 clear h
 have HC3 := jo H
 clear H
 go_enter Tryz.func169, Tryz.ntmps169
 go_upto_region 1 with (fail)
 go_cut [8] (fun v8 wc => ∃ (kq : Nat) (x8_2 : Bool), v8 = .bool x8_2 ∧ Aside0 (oct_Put.j0 kq a0 a1 x8_2 = some (r1, r2)) ∧ Aside0 (kq ≤ k) ∧ Aside0 (Below w.heap.size w wc))
 case first =>
  have H := HC3.out
  clear HC3
  by_cases c4 : a1 < 1
  ·rw [if_pos c4] at H
   have c4b0 : decide (a1 < 1) = true := decide_eq_true c4
   clear c4
   (first | rw [c4b0] | (simp only [i64_w, i32_w]; rw [c4b0]) | skip)
   have H' := jo H
   clear H
   go_wp2
   go_meet
   case rel => exact ⟨_, (true), js, H', ⟨by first | omega | exact Nat.le_refl _⟩, ⟨jb⟩⟩
  ·rw [if_neg c4] at H
   have c4b0 : decide (a1 < 1) = false := decide_eq_false c4
   clear c4
   (first | rw [c4b0] | (simp only [i64_w, i32_w]; rw [c4b0]) | skip)
   have H' := jo H
   clear H
   go_wp2
   go_meet
   case rel => exact ⟨_, (decide (a1 > 7)), js, H', ⟨by first | omega | exact Nat.le_refl _⟩, ⟨jb⟩⟩
 case rest =>
  clear HC3
  try clear c1
  try clear p2
  try clear c4
  try clear c4b0
  obtain ⟨kq, x8_2, rfl, HA, HJ2, HB⟩ := hcut
  cases kq with
  | zero => exact absurd HA.out (by simp [oct_Put.j0])
  | succ kj2 =>
   have H := HA.out
   clear HA
   simp only [oct_Put.j0] at H
   by_cases c5 : x8_2 = true
   ·subst c5
    have H1 : (some ((⟨#[]⟩ : ByteArray), 1)) = some (r1, r2) := by rw [if_pos rfl] at H; exact H
    clear H
    have H := H1
    clear H1
    simp only [Option.some.injEq, Prod.mk.injEq] at H
    obtain ⟨rfl, rfl⟩ := H
    go_wp2
    go_ret2
    exact ⟨je, jb⟩
   ·replace c5 := Bool.eq_false_iff.mpr c5
    subst c5
    have H1 : (if a0 < 0 then (some ((⟨#[]⟩ : ByteArray), 8)) else (if 0 ≤ (wrap64 (8 * a1)) then (if (shr .i64 a0 (wrap64 (8 * a1))) = 0 then (oct_Put.l0 kj2 a0 ([] : List Int) (wrap64 (a1 - 1))) else (some ((⟨#[]⟩ : ByteArray), 8))) else (none))) = some (r1, r2) := by rw [if_neg (show ¬ (false = true) by decide)] at H; exact H
    clear H
    have H := H1
    clear H1
    by_cases c6 : a0 < 0
    ·rw [if_pos c6] at H
     have c6b0 : decide (a0 < 0) = true := decide_eq_true c6
     clear c6
     simp only [Option.some.injEq, Prod.mk.injEq] at H
     obtain ⟨rfl, rfl⟩ := H
     go_wp2
     go_ret2
     exact ⟨je, jb⟩
    ·rw [if_neg c6] at H
     have c6b0 : decide (a0 < 0) = false := decide_eq_false c6
     clear c6
     obtain ⟨ji7, hji7⟩ : ∃ j_ : Int, (wrap64 (8 * a1)) = j_ := ⟨_, rfl⟩
     replace H : (if 0 ≤ (ji7) then (if (shr .i64 a0 (ji7)) = 0 then (oct_Put.l0 kj2 a0 ([] : List Int) (wrap64 (a1 - 1))) else (some ((⟨#[]⟩ : ByteArray), 8))) else (none)) = some (r1, r2) := by first | (rw [hji7] at H; exact H) | (simp only [hji7] at H ⊢; exact H)
     have hji7w : (IntKind.i64.wrap (8 * a1)) = ji7 := (i64_w _).trans hji7
     by_cases c8 : 0 ≤ (ji7)
     ·rw [if_pos c8] at H
      have c8b0 := eq_true c8
      have c8b1 : decide (0 ≤ (ji7)) = true := decide_eq_true c8
      clear c8
      obtain ⟨ji9, hji9⟩ : ∃ j_ : Int, (shr .i64 a0 (ji7)) = j_ := ⟨_, rfl⟩
      replace H : (if (ji9) = 0 then (oct_Put.l0 kj2 a0 ([] : List Int) (wrap64 (a1 - 1))) else (some ((⟨#[]⟩ : ByteArray), 8))) = some (r1, r2) := by first | (rw [hji9] at H; exact H) | (simp only [hji9] at H ⊢; exact H)
      have hji9_ : (a0 / 2 ^ min (ji7).toNat 64) = ji9 := hji9
      have hji9z : (ji7) ≤ 64 → (a0 / 2 ^ (ji7).toNat) = ji9 := shr_small hji9
      by_cases c10 : (ji9) = 0
      ·rw [if_pos c10] at H
       have c10b0 : ((ji9) == 0) = true := beq_iff_eq.mpr c10
       have c10b1 : ((ji9) != 0) = false := bne_eq_false_iff_eq.mpr c10
       clear c10
       have H' := jo H
       clear H
       go_wp2
       go_loopg [6, 7] kj2 (fun kq v6 v7 w' => ∃ (x6_2 : List Int) (x7_2 : Int), v7 = .int .i64 x7_2 ∧ Aside0 (oct_Put.l0 kq a0 x6_2 x7_2 = some (r1, r2)) ∧ Aside0 (kq ≤ kj2) ∧ Aside0 (Kd.R (Kd.int .u8) 5 w' w.heap.size (fun _ => True) v6 x6_2) ∧ Aside0 (Below w.heap.size w w'))
       case atStart => exact ⟨(([] : List Int)), (wrap64 (a1 - 1)), js, H', ⟨Nat.le_refl _⟩, ⟨by first | exact Kd.R_nil _ _ _ _ _ | exact Kd.N_nil _ _ _ _ _ | exact Kd.V_nil _ _ _ _ _ | exact Kd.Q_nil _ _ _ _ _ | exact Kd.S_nil _ _ _ _ _⟩, ⟨jb⟩⟩
       case round =>
        clear H'
        try clear c1
        try clear p2
        try clear c4
        try clear c4b0
        try clear c5
        try clear c6
        try clear c6b0
        try clear p6
        try clear c8
        try clear c8b0
        try clear c8b1
        try clear c10
        try clear c10b0
        try clear c10b1
        try clear p2
        obtain ⟨x6_2, x7_2, rfl, HA, HK2, HO_6, HB⟩ := hrel
        cases gk with
        | zero => exact absurd HA.out (by simp [oct_Put.l0])
        | succ k2 =>
         have H := HA.out
         clear HA
         simp only [oct_Put.l0] at H
         by_cases c11 : x7_2 ≥ 0
         ·rw [if_pos c11] at H
          have c11b0 : decide (0 ≤ x7_2) = true := decide_eq_true c11
          clear c11
          obtain ⟨ji12, hji12⟩ : ∃ j_ : Int, (wrap64 (8 * x7_2)) = j_ := ⟨_, rfl⟩
          replace H : (if 0 ≤ (ji12) then (if x6_2.length < 140737488355328 then (oct_Put.l0 k2 a0 (x6_2 ++ [(shr .i64 a0 (ji12)) % 256]) (wrap64 (x7_2 - 1))) else (none)) else (none)) = some (r1, r2) := by first | (rw [hji12] at H; exact H) | (simp only [hji12] at H ⊢; exact H)
          have hji12w : (IntKind.i64.wrap (8 * x7_2)) = ji12 := (i64_w _).trans hji12
          by_cases c13 : 0 ≤ (ji12)
          ·rw [if_pos c13] at H
           have c13b0 := eq_true c13
           have c13b1 : decide (0 ≤ (ji12)) = true := decide_eq_true c13
           clear c13
           obtain ⟨ji14, hji14⟩ : ∃ j_ : Int, (shr .i64 a0 (ji12)) = j_ := ⟨_, rfl⟩
           replace H : (if x6_2.length < 140737488355328 then (oct_Put.l0 k2 a0 (x6_2 ++ [(ji14) % 256]) (wrap64 (x7_2 - 1))) else (none)) = some (r1, r2) := by first | (rw [hji14] at H; exact H) | (simp only [hji14] at H ⊢; exact H)
           have hji14_ : (a0 / 2 ^ min (ji12).toNat 64) = ji14 := hji14
           have hji14z : (ji12) ≤ 64 → (a0 / 2 ^ (ji12).toNat) = ji14 := shr_small hji14
           by_cases c15 : x6_2.length < 140737488355328
           ·rw [if_pos c15] at H
            have LMc15 := jo c15
            clear c15
            obtain ⟨y231, hy231⟩ : ∃ y_ : List Int, y_ = (x6_2 ++ [(ji14) % 256]) := ⟨_, rfl⟩
            replace H : (oct_Put.l0 k2 a0 y231 (wrap64 (x7_2 - 1))) = some (r1, r2) := by first | (rw [hy231]; with_reducible exact H) | (have H2_ := (Option.bind_some _ _).symm.trans H; rw [hy231]; with_reducible exact H2_) | (have H2_ := (Option.bind_some _ _).symm.trans H; with_reducible exact H2_) | with_reducible exact H | (rw [hy231]; exact H) | exact H
            have Ny231 := jo hy231
            clear hy231
            have H' := jo H
            clear H
            go_wp2_with (first | ((with_reducible refine gate_builtin (b := .append) (xs := #[.tmp 31, .tmp 37]) rfl ?_); at_builtin; refine Kd.R_append (Kd.int .u8) (w0 := w) w.heap.size rfl (.tmp 31) (.tmp 37) 60 5 (.int .u8 0) 1 rfl Tryz.underlying60 info5 rfl (by decide) (by omega) u6 x6_2 ((ji14) % 256) [.int .u8 ((ji14) % 256)] (fun _ => True) (fun _ => False) rfl rfl ?aP (fun _ hk => hk.elim) ?aF ?aO ?aB ?aS ?aL ?_; (case aP => exact rfl); (case aB => exact jb); (case aF => exact (fun _ _ => trivial)); (case aO => exact (jr HO_6.out)); (case aS => exact (below_size jb)); (case aL => have := LMc15.out; omega); intro v232 w16 ho hb hg hat; rw [← Ny231.out] at ho; have n0_ := jo (hb); have n1_ := jo (ho); clear HB; clear HO_6; have HB := n0_; have HO233 := n1_; clear n0_ n1_; clear ho hb hg hat))
            go_roundg k2
            case measure => have := HJ2.out; have := HK2.out; omega
            case rel => exact ⟨(y231), (wrap64 (x7_2 - 1)), js, H', ⟨by have := HJ2.out; have := HK2.out; omega⟩, ⟨jr HO233.out⟩, ⟨jb⟩⟩
           ·rw [if_neg c15] at H
            exact absurd H (by simp)
          ·rw [if_neg c13] at H
           exact absurd H (by simp)
         ·rw [if_neg c11] at H
          have c11b0 : decide (0 ≤ x7_2) = false := decide_eq_false c11
          clear c11
          simp only [Option.some.injEq, Prod.mk.injEq] at H
          obtain ⟨rfl, rfl⟩ := H
          have hcv17 := own_string (P := Tryz.prog) Tryz.underlying60 Tryz.underlying5 Tryz.underlying9 (Kd.own_of_R HO_6.out)
          go_wp2
          go_ret2
          exact ⟨by first | rfl | (simp [errW_none, errW_some] <;> rfl) | (simp only [← hji7, ← hji9]; first | rfl | (simp [errW_none, errW_some] <;> rfl)) | (simp [*, errW_none, errW_some] <;> rfl), jb⟩
      ·rw [if_neg c10] at H
       have c10b0 : ((ji9) == 0) = false := beq_eq_false_iff_ne.mpr c10
       have c10b1 : ((ji9) != 0) = true := bne_iff_ne.mpr c10
       simp only [Option.some.injEq, Prod.mk.injEq] at H
       obtain ⟨rfl, rfl⟩ := H
       go_wp2
       go_ret2
       exact ⟨by first | rfl | (simp [errW_none, errW_some] <;> rfl) | (simp only [← hji7, ← hji9]; first | rfl | (simp [errW_none, errW_some] <;> rfl)) | (simp [*, errW_none, errW_some] <;> rfl), jb⟩
     ·rw [if_neg c8] at H
      exact absurd H (by simp)
end Go.Proofs.YtjmooillogojkaaGreat.Q
namespace Go.Proofs.YtjmooillogojkaaGreat.Q
open Go.RowKit Go.Proofs.YtjmooillogojkaaGreatW.PrintWords Go.Proofs.YtjmooillogojkaaGreatW.PrintLast Go.Proofs.YtjmooillogojkaaGreatW.PrintMore
open Go.Proofs.YtjmooillogojkaaGreat
structure Wt (w W : World) (g : Nat) (q v : Value) (b : ByteArray) : Prop where
 blk : W.heap[g]? = some (.cells #[q, v, .int .i64 0] 223 (0, 0))
 row : Kd.R (Kd.int .u8) 5 W w.heap.size (fun _ => True) v (bytesOf b)
 bel : Below w.heap.size w W
 lo : w.heap.size ≤ g
 adr : q = .pointer none ∨ q = .pointer (some ⟨g, 0, none⟩)
section
variable {w W W1 : World} {g : Nat} {q v v' : Value} {b b' : ByteArray}
theorem Wt.cell0 (h : Wt w W g q v b) : W.cell? ⟨g, 0, none⟩ = some q := by rw [blk_cell h.blk]; rfl
theorem Wt.cell1 (h : Wt w W g q v b) : W.cell? ⟨g, 1, none⟩ = some v := by rw [blk_cell h.blk]; rfl
theorem Wt.cell2 (h : Wt w W g q v b) : W.cell? ⟨g, 2, none⟩ = some (.int .i64 0) := by rw [blk_cell h.blk]; rfl
theorem Wt.soft (h : Wt w W g q v b) (i : Nat) : W.frozen? ⟨g, i, none⟩ = false := blk_frozen h.blk i
theorem Wt.shape (h : Wt w W g q v b) : W.shape? g = some (223, 3) := by simp [World.shape?, h.blk]
theorem Wt.below (h : Wt w W g q v b) (hb : Below W.heap.size W W1) : Wt w W1 g q v b :=
 ⟨blk_below h.blk hb, Kd.R_below h.row hb, below_step h.bel hb, h.lo, h.adr⟩
theorem Wt.used (h : Wt w W g q v b) : Wt w (W.setCell ⟨g, 0, none⟩ (.pointer (some ⟨g, 0, none⟩))) g (.pointer (some ⟨g, 0, none⟩)) v b :=
 ⟨blk_put h.blk 0 _ rfl, Kd.R_set h.row h.blk (by decide) 0 _, h.bel.setCell h.lo _, h.lo, .inr rfl⟩
theorem Wt.grow (h : Wt w W g q v b) (hg : W.grownBy W1 v.ownBlock) (hr : Kd.R (Kd.int .u8) 5 W1 w.heap.size (fun _ => True) v' (bytesOf b')) : (∀ i, W1.frozen? ⟨g, i, none⟩ = false) ∧ Wt w (W1.setCell ⟨g, 1, none⟩ v') g q v' b' := by
 have hb := blk_grown h.blk hg (Kd.R_ne h.row h.blk (by decide))
 have hbel : Below w.heap.size w W1 := h.bel.grown hg h.bel.size (fun k hk => by
  obtain ⟨inner, ho⟩ := Kd.R_own h.row
  exact own_base ho k hk)
 exact ⟨fun i => blk_frozen hb i, blk_put hb 1 _ rfl, Kd.R_set hr hb (by decide) 1 _, hbel.setCell h.lo _, h.lo, h.adr⟩
theorem Wt.cell1_grow (h : Wt w W g q v b) (hg : W.grownBy W1 v.ownBlock) : W1.cell? ⟨g, 1, none⟩ = some v := by
 rw [blk_cell (blk_grown h.blk hg (Kd.R_ne h.row h.blk (by decide)))]
 rfl
end
theorem bytesOf_append (a b : ByteArray) : bytesOf (a ++ b) = bytesOf a ++ bytesOf b := by
 simp [bytesOf]
theorem info159 : (Tryz.prog.info? 159).map (·.size) = some 2 := by kernel_rfl
theorem lies159 : liesAt Tryz.prog Tryz.prog.depth 223 (3 / Tryz.prog.cellsOf 223) 0 159 1 = true := by kernel_rfl
theorem to_ok (w : World) : Calls Tryz.prog 149 #[] w fun e w' => ∃ g, e = .returned (.pointer (some ⟨g, 0, none⟩)) ∧ Wt w w' g (.pointer none) (.slice none 0 0) ⟨#[]⟩ := by
 go_enter Tryz.func149, Tryz.ntmps149
 go_wp2
 go_ret
 exact ⟨w.heap.size, rfl, ⟨blk_new w _, Kd.R_nil _ _ _ _ _, below_alloc (Below.refl _ _) _, Nat.le_refl _, .inl rfl⟩⟩
theorem copyCheck_ok {w W : World} {g : Nat} {q v : Value} {b : ByteArray} (h : Wt w W g q v b) :
  Calls Tryz.prog 137 #[.pointer (some ⟨g, 0, none⟩)] W fun e w' => e = .returned (.tuple #[]) ∧ Wt w w' g (.pointer (some ⟨g, 0, none⟩)) v b := by
 obtain ⟨j, hj, hjs⟩ := Option.map_eq_some_iff.1 info159
 have c0 := h.cell0
 have f0 := h.soft 0
 have hsh := h.shape
 rcases h.adr with rfl | rfl
 ·have H := jo h
  clear h
  go_enter Tryz.func137, Tryz.ntmps137
  go_wp2
  rw [Lib.run_to_unsafe W ⟨g, 0, none⟩ Tryz.underlying157 Tryz.underlying216 hj (by rw [hjs]; decide) hsh (Nat.zero_lt_succ 2)]
  simp only [Result.andThen]
  rw [Oper.upon_value]
  go_wp2
  rw [run_callFunc_extern Tryz.func163 jw jw jw (e := Extern.AbiNoEscape.same) jw]
  rw [Lib.run_noEscape]
  simp only [Result.andThen]
  rw [Oper.upon_value]
  go_wp2
  rw [Lib.run_from_unsafe W ⟨g, 0, none⟩ Tryz.underlying216 Tryz.underlying157 hj hsh lies159]
  simp only [Result.andThen]
  rw [Oper.upon_value]
  go_wp2
  go_end0
  exact ⟨rfl, H.out.used⟩
 ·have H := jo h
  clear h
  go_enter Tryz.func137, Tryz.ntmps137
  go_wp2
  rw [Lib.run_neq_ptr_same W _ Tryz.underlying157 hj]
  go_wp2
  go_end0
  exact ⟨rfl, H.out⟩
section
variable {ops : Array Oper} {rest : List Oper} {o : Oper} {a : Act} {Q' : Exit → Act → World → Prop} {W : World} {base : Nat}
theorem str_append_list (hgd : o.guard = none) (sl x : Operand) (ho : o.op = .call { callee := .builtin .append, args := #[sl, x], argTypes := #[60, 9] }) (v : Value) (p : List Int) (s : ByteArray)
  (hs : a.eval sl = v) (hx : a.eval x = .string s) (HO : Kd.R (Kd.int .u8) 5 W base (fun _ => True) v p) (hbase : base ≤ W.heap.size) (hl : p.length + s.size < 1000000)
  (h : ∀ v1 w1, Kd.R (Kd.int .u8) 5 w1 base (fun _ => True) v1 (p ++ bytesOf s) → W.grownBy w1 v.ownBlock → wpList Tryz.prog ops Q' rest (a.put o.dst v1) w1) :
  wpList Tryz.prog ops Q' (o :: rest) a W := by
 obtain ⟨i0, hi, hzz⟩ := Option.map_eq_some_iff.1 info5
 simp only [Prod.mk.injEq] at hzz
 obtain ⟨v1, w1, hr, h1, h2, _⟩ := Lib.run_append_own_string (P := Tryz.prog) W base 60 9 o.type 5 i0 Tryz.underlying60 Tryz.underlying9 hi hzz.1 hzz.2.1 hzz.2.2 v p.length (nums .u8 p) (Kd.own_of_R HO) s (by unfold maxLen; omega) (by omega) hbase
 refine wpList_plain hgd fun K hK => ?_
 unfold Oper.wp execOp
 simp only [ho, resolve, invoke, builtin, Sem.run_bind, Sem.run_pure, Result.andThen_ok, List.map_toArray, List.map_cons, List.map_nil, hs, hx, hr]
 refine hK _ _ (h v1 w1 (Kd.R_of_own (enc := Value.int .u8) (h1 := fun _ => rfl) ?_ (fun _ _ => trivial)) h2)
 have hc : encs (Value.int .u8) (p ++ bytesOf s) = nums .u8 p ++ Lib.strCells s := by simp [encs, nums, bytesOf, Lib.strCells]
 rw [hc, List.length_append, bytesOf_length]
 exact h1
end
theorem writeString_ok {w W : World} {g : Nat} {q v : Value} {b : ByteArray} (s : ByteArray) (h : Wt w W g q v b) (hl : b.size + s.size ≤ 1000) :
  Calls Tryz.prog 98 #[.pointer (some ⟨g, 0, none⟩), .string s] W fun e w' => e = .returned (.tuple #[.int .i64 s.size, .nilIface]) ∧ ∃ q' v', Wt w w' g q' v' (b ++ s) := by
 have H := jo h
 have HL := jo hl
 clear h hl
 go_enter Tryz.func98, Tryz.ntmps98
 go_wp2_with fail
 (with_reducible refine (copyCheck_ok H.out).mono ?_)
 rintro e w1 ⟨rfl, h1⟩
 have H1 := jo h1
 have c1 := h1.cell1
 obtain ⟨A, c, ev⟩ := Kd.R_slice h1.row
 subst ev
 clear h1
 go_wp2_with ((with_reducible refine gate_builtin (b := .append) (xs := #[.tmp 12, .tmp 13]) rfl ?_); at_builtin; refine str_append_list rfl _ _ rfl _ (bytesOf b) s rfl rfl H1.out.row H1.out.bel.size (by have := HL.out; rw [bytesOf_length]; omega) ?_; intro v2 w2 ho2 hg2; obtain ⟨A2, c2, ev2⟩ := Kd.R_slice ho2; obtain ⟨L2, hL2⟩ : ∃ L, L = (bytesOf b ++ bytesOf s).length := ⟨_, rfl⟩; rw [← hL2] at ev2; clear hL2; subst ev2; obtain ⟨f1, h2⟩ := H1.out.grow hg2 (by rw [← bytesOf_append] at ho2; exact ho2); have H2 := jo h2; have f11 := f1 1; have c11 := H1.out.cell1_grow hg2; clear ho2 hg2 h2 f1)
 go_ret2
 exact ⟨rfl, _, _, H2.out⟩
end Go.Proofs.YtjmooillogojkaaGreat.Q
