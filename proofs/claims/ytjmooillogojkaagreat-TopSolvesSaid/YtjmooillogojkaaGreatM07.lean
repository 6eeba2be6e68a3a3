/- gauss.May, merkle.may, outer.sized: where all is as it may be, they answer so; Printed by a changed copy of a printer, shortened by a program: what these functions answer: block_Count manifest_see ... No condition. -/
import Derived.Test.YtjmooillogojkaaGreatM06
set_option maxHeartbeats 8000000
set_option maxRecDepth 100000
set_option linter.unusedVariables false
set_option linter.unusedSimpArgs false
namespace Go.Proofs.YtjmooillogojkaaGreat.Q
open Go.RowKit Go.Proofs.YtjmooillogojkaaGreatW.PrintWords Go.Proofs.YtjmooillogojkaaGreatW.PrintLast Go.Proofs.YtjmooillogojkaaGreatW.PrintMore
open Go.Proofs.YtjmooillogojkaaGreat
def rowOk (n : Int) (l : List Int) : Prop := ∀ k (h : k < l.length), 0 ≤ l[k] ∧ l[k] < n ∧ ∀ j (hj : j + 1 = k), l[j] < l[k]
theorem rd_get {l : List Int} {k : Nat} (h : k < l.length) : rd l (k : Int) = l[k] := by
 unfold rd
 rw [List.getD_eq_getElem?_getD, Int.toNat_natCast, List.getElem?_eq_getElem h]
 rfl
theorem mayRow_ok {A : Option Addr} {c : Nat} {n : Int} {l : List Int} (w : World) (hr : Kd.C (Kd.int .i64) w A l.length l) (hc : l.length ≤ c) (h : rowOk n l) :
  Calls Tryz.prog 93 #[.int .i64 n, .slice A l.length c] w fun e w' => e = .returned (.bool true) ∧ Drawn0 w w' := by
 have HR := jo hr
 have H := jo h
 have hmx := hr.2.1
 clear hr h
 go_enter Tryz.func93, Tryz.ntmps93
 go_wp2
 go_loopg [5, 6, 9] l.length (fun gk v5 v6 v9 wr => ∃ kk : Nat, v9 = .int .i64 kk ∧ Aside0 (kk + gk = l.length ∧ Drawn0 w wr))
 case atStart => exact ⟨0, rfl, ⟨by omega, Drawn0.refl _⟩⟩
 case round =>
  obtain ⟨kk, rfl, HA⟩ := hrel
  obtain ⟨hk1, ⟨m, rfl⟩⟩ := HA.out
  clear HA
  by_cases hlt : kk < l.length
  ·have d1 : decide ((kk : Int) < (l.length : Int)) = true := decide_eq_true (by omega)
   have d2 : decide (kk < l.length) = true := decide_eq_true hlt
   obtain ⟨gq, rfl⟩ : ∃ q, gk = q + 1 := ⟨gk - 1, by omega⟩
   obtain ⟨ad, rfl, hcell⟩ := Kd.at_int HR.out (kk : Int) (by omega) (by omega)
   rw [rd_get hlt, Int.toNat_natCast] at hcell
   obtain ⟨h0, h1, h2⟩ := H.out kk hlt
   obtain ⟨x, hx⟩ : ∃ x, x = l[kk] := ⟨_, rfl⟩
   rw [← hx] at hcell h0 h1 h2
   clear hx
   have b0 : decide (x < 0) = false := decide_eq_false (by omega)
   have b1 : decide (n ≤ x) = false := decide_eq_false (by omega)
   by_cases hz : kk = 0
   ·have b2 : decide ((0 : Int) < (kk : Int)) = false := decide_eq_false (by omega)
    have b3 : decide (0 < kk) = false := decide_eq_false (by omega)
    have b4 : decide ((kk : Int) > 0) = false := decide_eq_false (by omega)
    clear h2 hz
    go_wp2
    go_roundg gq
    case measure => omega
    case rel => exact ⟨kk + 1, rfl, ⟨by omega, jd⟩⟩
   ·obtain ⟨j, rfl⟩ : ∃ j, kk = j + 1 := ⟨kk - 1, by omega⟩
    have hj := h2 j rfl
    obtain ⟨ad', e', hcell2⟩ := Kd.at_int HR.out (j : Int) (by omega) (by omega)
    cases e'
    rw [rd_get (by omega), Int.toNat_natCast] at hcell2
    obtain ⟨y, hy⟩ : ∃ y, y = l[j] := ⟨_, rfl⟩
    rw [← hy] at hcell2 hj
    clear hy h2
    have b2 : decide (x ≤ y) = false := decide_eq_false (by omega)
    have b3 : decide ((0 : Int) < ((j + 1 : Nat) : Int)) = true := decide_eq_true (by omega)
    have b4 : decide (((j + 1 : Nat) : Int) > 0) = true := decide_eq_true (by omega)
    have hcell' : (w.drewN m).cell? ⟨ad.block, ad.off + (j + 1), none⟩ = some (.int .i64 x) := by
     have := hcell
     unfold Addr.add at this
     rw [if_neg (by omega)] at this
     exact this
    have d3 : decide ((j : Int) + 1 < (l.length : Int)) = true := decide_eq_true (by omega)
    clear hj h0 h1
    go_wp2
    go_roundg gq
    case measure => omega
    case rel => exact ⟨j + 1 + 1, rfl, ⟨by omega, jd⟩⟩
  ·have d1 : decide ((kk : Int) < (l.length : Int)) = false := decide_eq_false (by omega)
   have d2 : decide (kk < l.length) = false := decide_eq_false hlt
   go_wp2
   go_ret
   exact ⟨rfl, jd⟩
def rowsOk (n : Int) (L : List (List Int)) : Prop := 0 ≤ n ∧ n ≤ 160 ∧ L.length ≤ 400 ∧ ∀ l ∈ L, rowOk n l
def rowB (n : Int) (l : List Int) : Bool := (List.range l.length).all fun k => decide (0 ≤ l.getD k 0) && decide (l.getD k 0 < n) && (k == 0 || decide (l.getD (k - 1) 0 < l.getD k 0))
def rowsB (n : Int) (L : List (List Int)) : Bool := decide (0 ≤ n) && decide (n ≤ 160) && decide (L.length ≤ 400) && L.all (rowB n)
theorem rowB_iff (n : Int) (l : List Int) : rowB n l = true ↔ rowOk n l := by
 have g : ∀ k (h : k < l.length), l.getD k 0 = l[k] := fun k h => by rw [List.getD_eq_getElem?_getD, List.getElem?_eq_getElem h]; rfl
 unfold rowB rowOk
 rw [List.all_eq_true]
 constructor
 ·intro h k hk
  have := h k (List.mem_range.2 hk)
  rw [g k hk] at this
  simp only [Bool.and_eq_true, decide_eq_true_eq, Bool.or_eq_true, beq_iff_eq] at this
  refine ⟨this.1.1, this.1.2, fun j hj => ?_⟩
  rcases this.2 with h0 | h0
  ·omega
  ·have e : k - 1 = j := by omega
   rw [e, g j (by omega)] at h0
   exact h0
 ·intro h k hk
  have hk := List.mem_range.1 hk
  obtain ⟨h1, h2, h3⟩ := h k hk
  rw [g k hk]
  simp only [Bool.and_eq_true, decide_eq_true_eq, Bool.or_eq_true, beq_iff_eq]
  refine ⟨⟨h1, h2⟩, ?_⟩
  by_cases h0 : k = 0
  ·exact .inl h0
  ·refine .inr ?_
   rw [g (k - 1) (by omega)]
   exact h3 (k - 1) (by omega)
theorem rowsB_iff (n : Int) (L : List (List Int)) : rowsB n L = true ↔ rowsOk n L := by
 unfold rowsB rowsOk
 simp only [Bool.and_eq_true, decide_eq_true_eq, List.all_eq_true]
 constructor
 ·rintro ⟨⟨⟨h1, h2⟩, h3⟩, h4⟩
  exact ⟨h1, h2, h3, fun l hl => (rowB_iff n l).1 (h4 l hl)⟩
 ·rintro ⟨h1, h2, h3, h4⟩
  exact ⟨⟨⟨h1, h2⟩, h3⟩, fun l hl => (rowB_iff n l).2 (h4 l hl)⟩
theorem any_false {α : Type} {p : α → Bool} {l : List α} (h : ∀ x ∈ l, p x = false) : l.any p = false := List.any_eq_false.2 (fun x hx => by rw [h x hx]; decide)
theorem pred92 {B : Nat} {n : Int} {L : List (List Int)} {w : World} (hB : B < w.heap.size) (hc : w.cell? ⟨B, 0, none⟩ = some (.int .i64 n)) (h : ∀ l ∈ L, rowOk n l) : PredRow 92 #[.pointer (some ⟨B, 0, none⟩)] (fun _ => false) L w := by
 intro W i hi hb A0 c0 hl0 hg0
 have hc' := (hb.cell (p := ⟨B, 0, none⟩) hB).trans hc
 have hro := h L[i] (List.getElem_mem hi)
 clear hc
 obtain ⟨x, hx⟩ : ∃ x, x = L[i] := ⟨_, rfl⟩
 rw [← hx] at hro hl0 hg0 ⊢
 clear hx h
 have HB := jo hb
 have HC := jo (fun W => mayRow_ok (n := n) (l := x) (A := A0) (c := c0) W)
 have HG := jo hg0
 have HO := jo hro
 clear hb hg0 hro
 show Calls Tryz.prog 92 #[.slice A0 x.length c0, .pointer (some ⟨B, 0, none⟩)] W _
 go_enter Tryz.func92, Tryz.ntmps92
 go_wp2_with (go_at_call 93; (with_reducible refine (HC.out _ HG.out hl0 HO.out).mono ?_); rintro e w1 ⟨rfl, ⟨k, rfl⟩⟩)
 go_ret
 exact ⟨rfl, pw_below_drewN HB.out k⟩
theorem may_ok {A : Option Addr} {c : Nat} {n : Int} {L : List (List Int)} (w : World) (hr : Kd.C (Kd.slice 3 (Kd.int .i64)) w A L.length L) (hc : L.length ≤ c) (h : rowsOk n L) :
  Calls Tryz.prog 48 #[.int .i64 n, .slice A L.length c] w fun e w' => e = .returned (.bool true) ∧ Below w.heap.size w w' := by
 have HR := jo hr
 obtain ⟨h1, h2, h3, h4⟩ := h
 have H4 := jo h4
 have b1 : decide (0 ≤ n) = true := decide_eq_true h1
 have b2 : decide (n ≤ 160) = true := decide_eq_true h2
 have b3 : decide (L.length ≤ 400) = true := decide_eq_true h3
 have b4 : decide ((L.length : Int) ≤ 400) = true := decide_eq_true (by omega)
 have eg := enters_of (P := Tryz.prog) (f := 92) Tryz.func92 jw rfl
 clear hr h4 h1 h2 h3
 go_enter Tryz.func48, Tryz.ntmps48
 go_wp2_with fail
 have p1 : Below w.heap.size w (w.alloc (.cells #[.int .i64 n] 3)) := below_alloc (Below.refl _ _) _
 have k1 : (w.alloc (.cells #[.int .i64 n] 3)).heap[w.heap.size]? = some (.cells #[.int .i64 n] 3 (0, 0)) := blk_new w _
 generalize w.alloc (.cells #[.int .i64 n] 3) = W1 at p1 k1 ⊢
 have kc : W1.cell? ⟨w.heap.size, 0, none⟩ = some (.int .i64 n) := blk_cell k1 0
 (with_reducible refine (con_row eg W1 (Kd.C_below HR.out p1) hc (pred92 (n := n) (blk_lt k1) kc H4.out)).mono ?_)
 rintro e w2 ⟨rfl, hb2⟩
 rw [any_false (fun _ _ => rfl)]
 have HB2 := jo (below_step p1 hb2)
 clear p1 k1 kc hb2
 go_wp2
 go_ret
 exact ⟨rfl, HB2.out⟩
theorem pred110 {l : List ByteArray} {w : World} (h : ∀ s ∈ l, s.size ≤ 1024) : PredS 110 #[] (fun _ => false) l w := by
 intro W i hi hb
 have hs := h l[i] (List.getElem_mem hi)
 obtain ⟨x, hx⟩ : ∃ x, x = l[i] := ⟨_, rfl⟩
 rw [← hx] at hs ⊢
 clear hx h
 have HB := jo hb
 clear hb
 have b1 : decide (1024 < x.size) = false := decide_eq_false (by omega)
 have b2 : decide (1024 < (x.size : Int)) = false := decide_eq_false (by omega)
 have b3 : decide ((x.size : Int) > 1024) = false := decide_eq_false (by omega)
 show Calls Tryz.prog 110 #[.string x] W _
 go_enter Tryz.func110, Tryz.ntmps110
 go_wp2
 go_ret
 exact ⟨rfl, HB.out⟩
theorem merkle_ok {A : Option Addr} {c : Nat} {l : List ByteArray} (w : World) (hr : Kd.C Kd.string w A l.length l) (hc : l.length ≤ c) (h1 : 0 < l.length) (h2 : l.length ≤ 256) (h : ∀ s ∈ l, s.size ≤ 1024) :
  Calls Tryz.prog 76 #[.slice A l.length c] w fun e w' => e = .returned (.int .i64 0) ∧ Below w.heap.size w w' := by
 have HR := jo hr
 have H := jo h
 have b1 : ((l.length : Int) == 0) = false := beq_eq_false_iff_ne.2 (by omega)
 have b2 : decide (256 < l.length) = false := decide_eq_false (by omega)
 have b3 : decide ((l.length : Int) > 256) = false := decide_eq_false (by omega)
 have b4 : decide (256 < (l.length : Int)) = false := decide_eq_false (by omega)
 have b5 : (l.length == 0) = false := beq_eq_false_iff_ne.2 (by omega)
 have eg := enters_of (P := Tryz.prog) (f := 110) Tryz.func110 jw rfl
 clear hr h
 go_enter Tryz.func76, Tryz.ntmps76
 go_wp2_with fail
 (with_reducible refine (con_str eg _ HR.out hc (pred110 H.out)).mono ?_)
 rintro e w2 ⟨rfl, hb2⟩
 rw [any_false (fun _ _ => rfl)]
 have HB2 := jo hb2
 clear hb2
 go_wp2
 go_ret
 exact ⟨rfl, HB2.out⟩
theorem is_ok {s : ByteArray} {n : Int} (h1 : 1 ≤ n) (h2 : n ≤ 64) (h : (s.size : Int) = n) : block_Is.f s n = some true := by
 unfold block_Is.f block_may.f
 rw [if_pos h1]
 simp [h2, h]
theorem pred108 {B : Nat} {A : Option Addr} {c : Nat} {l : List ByteArray} {n : Int} {w : World} (hB : B < w.heap.size) (hcell : w.cell? ⟨B, 0, none⟩ = some (.slice A l.length c)) (hr : Kd.C Kd.string w A l.length l) (hc : l.length ≤ c) (h1 : 1 ≤ n) (h2 : n ≤ 64) (h : ∀ s ∈ l, (s.size : Int) = n) : PredS 108 #[.pointer (some ⟨B, 0, none⟩)] (fun _ => false) l w := by
 intro W i hi hb
 have hc' := (hb.cell (p := ⟨B, 0, none⟩) hB).trans hcell
 obtain ⟨ad, rfl, hx0⟩ := Kd.at_string (Kd.C_below hr hb) (0 : Int) (by omega) (by omega)
 have hs := h l[i] (List.getElem_mem hi)
 have hs0 : ((rdOf ByteArray.empty l 0).size : Int) = n := by
  unfold rdOf
  rw [List.getD_eq_getElem?_getD, show (0 : Int).toNat = 0 from rfl, List.getElem?_eq_getElem (by omega)]
  exact h _ (List.getElem_mem _)
 have d1 : decide (0 < l.length) = true := decide_eq_true (by omega)
 have d2 : decide ((0 : Int) < (l.length : Int)) = true := decide_eq_true (by omega)
 obtain ⟨x, hx⟩ : ∃ x, x = l[i] := ⟨_, rfl⟩
 obtain ⟨y, hy⟩ : ∃ y, y = rdOf ByteArray.empty l 0 := ⟨_, rfl⟩
 rw [← hx] at hs ⊢
 rw [← hy] at hx0 hs0
 have hx0' : W.cell? (ad.add 0) = some (.string y) := hx0
 have hx0'' : W.cell? ad = some (.string y) := hx0
 clear hx hy h hr hcell hx0
 have HB := jo hb
 have HI := jo (is_ok (s := x) (n := n) h1 h2 hs)
 clear hs
 clear hb
 show Calls Tryz.prog 108 #[.string x, .pointer (some ⟨B, 0, none⟩)] W _
 go_enter Tryz.func108, Tryz.ntmps108
 go_wp2_with (go_at_call 47; (with_reducible refine (block_Is.calls _ _ true _ HI.out).mono ?_); rintro e w1 ⟨rfl, ⟨k, rfl⟩⟩)
 go_ret
 exact ⟨rfl, pw_below_drewN HB.out k⟩
theorem sized_ok {A : Option Addr} {c : Nat} {l : List ByteArray} {n : Int} (w : World) (hr : Kd.C Kd.string w A l.length l) (hc : l.length ≤ c) (h0 : 0 < l.length) (h1 : 1 ≤ n) (h2 : n ≤ 64) (h : ∀ s ∈ l, (s.size : Int) = n) :
  Calls Tryz.prog 71 #[.slice A l.length c] w fun e w' => e = .returned (.bool true) ∧ Below w.heap.size w w' := by
 have HR := jo hr
 have H := jo h
 have HN := jo (And.intro h1 h2)
 have d1 : decide (0 < l.length) = true := decide_eq_true (by omega)
 have d2 : decide ((0 : Int) < (l.length : Int)) = true := decide_eq_true (by omega)
 have eg := enters_of (P := Tryz.prog) (f := 108) Tryz.func108 jw rfl
 clear hr h h1 h2
 go_enter Tryz.func71, Tryz.ntmps71
 go_wp2_with fail
 have p1 : Below w.heap.size w (w.alloc (.cells #[.slice A l.length c] 31)) := below_alloc (Below.refl _ _) _
 have k1 : (w.alloc (.cells #[.slice A l.length c] 31)).heap[w.heap.size]? = some (.cells #[.slice A l.length c] 31 (0, 0)) := blk_new w _
 generalize w.alloc (.cells #[.slice A l.length c] 31) = W1 at p1 k1 ⊢
 have kc : W1.cell? ⟨w.heap.size, 0, none⟩ = some (.slice A l.length c) := blk_cell k1 0
 (with_reducible refine (con_str eg W1 (Kd.C_below HR.out p1) hc (pred108 (n := n) (blk_lt k1) kc (Kd.C_below HR.out p1) hc HN.out.1 HN.out.2 H.out)).mono ?_)
 rintro e w2 ⟨rfl, hb2⟩
 rw [any_false (fun _ _ => rfl)]
 have HB2 := jo (below_step p1 hb2)
 clear p1 k1 kc hb2
 go_wp2
 go_ret
 exact ⟨rfl, HB2.out⟩
def block_Count.j0 : Nat → Int → Int → Bool → Option (Int)
 | 0, _, _, _ => none
 | k + 1, x0, x1, x16 => if x16 = true then (some 0) else (if x1 = 0 then (none) else (if (wrap64 (Int.tdiv (wrap64 ((wrap64 (x0 + x1)) - 1)) x1)) > 96 then (some 0) else (some (wrap64 (Int.tdiv (wrap64 ((wrap64 (x0 + x1)) - 1)) x1)))))
def block_Count.f (k : Nat) (a0 : Int) (a1 : Int) : Option (Int) := if a0 < 1 then (block_Count.j0 k a0 a1 true) else (if a0 > 4096 then (block_Count.j0 k a0 a1 true) else ((block_may.f a1).bind fun t104 => (block_Count.j0 k a0 a1 (!t104))))
theorem block_Count.calls (k : Nat) (a0 : Int) (a1 : Int) (r : Int) (w : World) (h : block_Count.f k a0 a1 = some r) :
  Calls Tryz.prog 69 #[.int .i64 a0, .int .i64 a1] w fun e w' => e = .returned (.int .i64 r) ∧ Drawn0 w w' := by
 have H : (if a0 < 1 then (block_Count.j0 k a0 a1 true) else (if a0 > 4096 then (block_Count.j0 k a0 a1 true) else ((block_may.f a1).bind fun t104 => (block_Count.j0 k a0 a1 (!t104))))) = some r := h
 clear h
 have HC3 := jo H
 clear H
 go_enter Tryz.func69, Tryz.ntmps69
 go_upto_region 1 with (fail)
 go_cut [16] (fun v16 wc => ∃ (kq : Nat) (x16_2 : Bool), v16 = .bool x16_2 ∧ Aside0 (block_Count.j0 kq a0 a1 x16_2 = some r) ∧ Aside0 (kq ≤ k) ∧ Drawn0 w wc)
 case first =>
  have H := HC3.out
  clear HC3
  by_cases c4 : a0 < 1
  ·rw [if_pos c4] at H
   have c4b0 : decide (a0 < 1) = true := decide_eq_true c4
   clear c4
   (first | rw [c4b0] | (simp only [i64_w, i32_w]; rw [c4b0]) | skip)
   have H' := jo H
   clear H
   go_wp2
   go_meet
   case rel => exact ⟨_, (true), js, H', ⟨by first | omega | exact Nat.le_refl _⟩, jd⟩
  ·rw [if_neg c4] at H
   have c4b0 : decide (a0 < 1) = false := decide_eq_false c4
   clear c4
   (first | rw [c4b0] | (simp only [i64_w, i32_w]; rw [c4b0]) | skip)
   by_cases c5 : a0 > 4096
   ·rw [if_pos c5] at H
    have c5b0 : decide (4096 < a0) = true := decide_eq_true c5
    clear c5
    have H' := jo H
    clear H
    go_wp2
    go_meet
    case rel => exact ⟨_, (true), js, H', ⟨by first | omega | exact Nat.le_refl _⟩, jd⟩
   ·rw [if_neg c5] at H
    have c5b0 : decide (4096 < a0) = false := decide_eq_false c5
    clear c5
    replace H := Option.bind_eq_some_iff.mp H
    obtain ⟨t104, A60, H⟩ := H
    replace H : (block_Count.j0 k a0 a1 (!t104)) = some r := H
    have A6 := jo A60
    clear A60
    have H' := jo H
    clear H
    go_wp2_with (first | (go_at_call 57; (with_reducible refine (block_may.calls a1 t104 _ A6.out).mono ?_); rintro e w' ⟨rfl, ⟨nd, rfl⟩⟩))
    go_meet
    case rel => exact ⟨_, (!t104), js, H', ⟨by first | omega | exact Nat.le_refl _⟩, jd⟩
 case rest =>
  clear HC3
  try clear p2
  try clear c4
  try clear c4b0
  try clear c5
  try clear c5b0
  try clear c6
  obtain ⟨kq, x16_2, rfl, HA, HJ2, ⟨mc2, rfl⟩⟩ := hcut
  cases kq with
  | zero => exact absurd HA.out (by simp [block_Count.j0])
  | succ kj2 =>
   have H := HA.out
   clear HA
   simp only [block_Count.j0] at H
   by_cases c7 : x16_2 = true
   ·subst c7
    have H1 : (some 0) = some r := by rw [if_pos rfl] at H; exact H
    clear H
    have H := H1
    clear H1
    obtain rfl := Option.some.inj H
    go_wp2
    go_ret
    exact ⟨by first | rfl | (simp; done) | (simp [*]; done), jd⟩
   ·replace c7 := Bool.eq_false_iff.mpr c7
    subst c7
    have H1 : (if a1 = 0 then (none) else (if (wrap64 (Int.tdiv (wrap64 ((wrap64 (a0 + a1)) - 1)) a1)) > 96 then (some 0) else (some (wrap64 (Int.tdiv (wrap64 ((wrap64 (a0 + a1)) - 1)) a1))))) = some r := by rw [if_neg (show ¬ (false = true) by decide)] at H; exact H
    clear H
    have H := H1
    clear H1
    by_cases c8 : a1 = 0
    ·rw [if_pos c8] at H
     exact absurd H (by simp)
    ·rw [if_neg c8] at H
     have c8b0 : (a1 == 0) = false := beq_eq_false_iff_ne.mpr c8
     have c8b1 : (a1 != 0) = true := bne_iff_ne.mpr c8
     by_cases c9 : (wrap64 (Int.tdiv (wrap64 ((wrap64 (a0 + a1)) - 1)) a1)) > 96
     ·rw [if_pos c9] at H
      have c9b0 : decide (96 < (wrap64 (Int.tdiv (wrap64 ((wrap64 (a0 + a1)) - 1)) a1))) = true := decide_eq_true c9
      clear c9
      obtain rfl := Option.some.inj H
      go_wp2
      go_ret
      exact ⟨by first | rfl | (simp; done) | (simp [*]; done), jd⟩
     ·rw [if_neg c9] at H
      have c9b0 : decide (96 < (wrap64 (Int.tdiv (wrap64 ((wrap64 (a0 + a1)) - 1)) a1))) = false := decide_eq_false c9
      clear c9
      obtain rfl := Option.some.inj H
      go_wp2
      go_ret
      exact ⟨by first | rfl | (simp; done) | (simp [*]; done), jd⟩
def manifest_seeded.f (a0 : Int) : Option (Bool) := if a0 ≥ 0 then (some (decide (a0 ≤ 72057594037927935))) else (some false)
theorem manifest_seeded.calls (a0 : Int) (r : Bool) (w : World) (h : manifest_seeded.f a0 = some r) :
  Calls Tryz.prog 34 #[.int .i64 a0] w fun e w' => e = .returned (.bool r) ∧ Drawn0 w w' := by
 have H : (if a0 ≥ 0 then (some (decide (a0 ≤ 72057594037927935))) else (some false)) = some r := h
 clear h
 by_cases c2 : a0 ≥ 0
 ·rw [if_pos c2] at H
  have c2b0 : decide (0 ≤ a0) = true := decide_eq_true c2
  clear c2
  obtain rfl := Option.some.inj H
  go_enter Tryz.func34, Tryz.ntmps34
  go_wp2
  go_ret
  exact ⟨by first | rfl | (simp; done) | (simp [*]; done), jd⟩
 ·rw [if_neg c2] at H
  have c2b0 : decide (0 ≤ a0) = false := decide_eq_false c2
  clear c2
  obtain rfl := Option.some.inj H
  go_enter Tryz.func34, Tryz.ntmps34
  go_wp2
  go_ret
  exact ⟨by first | rfl | (simp; done) | (simp [*]; done), jd⟩
def ratio_Gcd.f (a0 : Int) (a1 : Int) : Option Int := some (Plain.gcdI a0 a1)
theorem ratio_Gcd.calls (a0 : Int) (a1 : Int) (r : Int) (w : World) (h : ratio_Gcd.f a0 a1 = some r) :
  Calls Tryz.prog 106 #[.int .i64 a0, .int .i64 a1] w fun e w' => e = .returned (.int .i64 r) ∧ Drawn0 w w' := by
 obtain rfl := Option.some.inj h
 clear h
 by_cases c0 : a0 < 0
 ·have H : Plain.gcdI a0 a1 = 0 := by unfold Plain.gcdI; rw [if_pos c0]
  rw [H]
  clear H
  have c0b : decide (a0 < 0) = true := decide_eq_true c0
  go_enter Tryz.func106, Tryz.ntmps106
  go_wp2
  go_step3
  go_wp2
  rw [Exit.noGoto_ret]
  go_ret
  exact ⟨rfl, Drawn0.refl _⟩
 ·by_cases c1 : a1 < 0
  ·have H : Plain.gcdI a0 a1 = 0 := by unfold Plain.gcdI; rw [if_neg c0, if_pos c1]
   rw [H]
   clear H
   have c0b : decide (a0 < 0) = false := decide_eq_false c0
   have c1b : decide (a1 < 0) = true := decide_eq_true c1
   go_enter Tryz.func106, Tryz.ntmps106
   go_wp2
   go_step3
   go_wp2
   rw [Exit.noGoto_ret]
   go_ret
   exact ⟨rfl, Drawn0.refl _⟩
  ·have c0b : decide (a0 < 0) = false := decide_eq_false c0
   have c1b : decide (a1 < 0) = false := decide_eq_false c1
   go_enter Tryz.func106, Tryz.ntmps106
   go_wp2
   refine Goto.wp_scope_lazy 0 rfl ?_
   intro K hK
   go_wp2
   refine Goto.label_ghost hK (by assumption) (fun n a' w' => ∃ (x y : Int) (u11 u12 u13 u14 u15 u16 u17 : Value), Aside0 (0 ≤ x ∧ 0 ≤ y ∧ y.toNat ≤ n ∧ Nat.gcd x.toNat y.toNat = Nat.gcd a0.toNat a1.toNat ∧ Drawn0 w w') ∧
    a' = { tmps := #[.int .i64 x, .int .i64 y, undef, undef, .int .i64 0, .int .i64 a0, .bool false, .bool false, .int .i64 a1, .bool false, .bool false, u11, u12, u13, u14, u15, u16, u17], defers := [] }) a1.toNat
    ⟨a0, a1, undef, undef, undef, undef, undef, undef, undef, ⟨by omega, by omega, Nat.le_refl _, rfl, Drawn0.refl _⟩, rfl⟩ ?_
   clear hK
   rintro n _ wr ⟨x, y, u11, u12, u13, u14, u15, u16, u17, HA, rfl⟩ J K' hJ hK'
   obtain ⟨x0, y0, hn, hg, ⟨m, rfl⟩⟩ := HA.out
   clear HA
   by_cases hy : y = 0
   ·have hg' : Plain.gcdI a0 a1 = x := by
     unfold Plain.gcdI
     rw [if_neg (by omega), if_neg (by omega), ← hg, hy]
     simp
     omega
    have hyb : (y == 0) = true := by simpa using hy
    have HG := jo hg'
    have HG2 := jo hg
    clear hg hg' hn hy
    go_wp2
    rw [Goto.jump_ret]
    go_ret
    exact ⟨by rw [HG.out]; rfl, Drawn0.step (Drawn0.refl _) _⟩
   ·have hyb : (y == 0) = false := by simpa using hy
    have y1 : 0 < y := by omega
    have HG := jo (show Nat.gcd y.toNat (x % y).toNat = Nat.gcd a0.toNat a1.toNat from by
     rw [← hg, Nat.gcd_comm x.toNat y.toNat, Nat.gcd_rec y.toNat x.toNat]
     rw [Nat.gcd_comm]
     congr 1
     rw [Int.toNat_emod x0 y0])
    have hm : 0 ≤ x % y := Int.emod_nonneg _ hy
    have hm2 : x % y < y := Int.emod_lt_of_pos _ y1
    clear hg
    go_wp2
    go_quiet (fail)
    go_wp2
    apply wp_goto
    refine Goto.jump_goto (Goto.handed_step hK' (x % y).toNat (by omega) (hJ _ _ _ ?_))
    exact ⟨y, x % y, _, _, _, _, _, _, _, ⟨y0, hm, Nat.le_refl _, HG.out, jd⟩, rfl⟩
def ratio_abs.f (a0 : Int) : Option (Int) := if a0 < 0 then (some (wrap64 (-a0))) else (some a0)
theorem ratio_abs.calls (a0 : Int) (r : Int) (w : World) (h : ratio_abs.f a0 = some r) :
  Calls Tryz.prog 107 #[.int .i64 a0] w fun e w' => e = .returned (.int .i64 r) ∧ Drawn0 w w' := by
 have H : (if a0 < 0 then (some (wrap64 (-a0))) else (some a0)) = some r := h
 clear h
 by_cases c2 : a0 < 0
 ·rw [if_pos c2] at H
  have c2b0 : decide (a0 < 0) = true := decide_eq_true c2
  clear c2
  obtain rfl := Option.some.inj H
  go_enter Tryz.func107, Tryz.ntmps107
  go_wp2
  go_ret
  exact ⟨by first | rfl | (simp; done) | (simp [*]; done), jd⟩
 ·rw [if_neg c2] at H
  have c2b0 : decide (a0 < 0) = false := decide_eq_false c2
  clear c2
  obtain rfl := Option.some.inj H
  go_enter Tryz.func107, Tryz.ntmps107
  go_wp2
  go_ret
  exact ⟨by first | rfl | (simp; done) | (simp [*]; done), jd⟩
def ratio_Check.f (a0_0 : Int) (a0_1 : Int) : Option (Bool) := if a0_1 > 0 then (if a0_1 ≤ 2147483647 then (if a0_0 ≥ (-2147483647) then (if a0_0 ≤ 2147483647 then ((ratio_abs.f a0_0).bind fun t106 => ((ratio_Gcd.f t106 a0_1).bind fun t107 => (some (t107 == 1)))) else (some false)) else (some false)) else (some false)) else (some false)
theorem ratio_Check.calls (a0_0 : Int) (a0_1 : Int) (r : Bool) (w : World) (h : ratio_Check.f a0_0 a0_1 = some r) :
  Calls Tryz.prog 70 #[.agg #[.int .i64 a0_0, .int .i64 a0_1]] w fun e w' => e = .returned (.bool r) ∧ Below w.heap.size w w' := by
 unfold ratio_Check.f at h
 have HB := jo (below_alloc (Below.refl w.heap.size w) (.cells #[.int .i64 a0_0, .int .i64 a0_1] 23))
 have HH := jo h
 clear h
 go_enter Tryz.func70, Tryz.ntmps70
 go_wp2
 have H := HH.out
 clear HH
 repeat' split at H
 ·obtain ⟨t6, A6, H⟩ := Option.bind_eq_some_iff.mp H
  obtain ⟨t7, A7, H⟩ := Option.bind_eq_some_iff.mp H
  obtain rfl := Option.some.inj H
  have A6 := jo A6
  have A7 := jo A7
  clear H
  simp only [gt_iff_lt, ge_iff_le] at *
  go_quiet (first | (go_at_call 107; (with_reducible refine (ratio_abs.calls _ _ _ A6.out).mono ?_); rintro e w' ⟨rfl, ⟨nd, rfl⟩⟩; (try first | exact ⟨rfl, _, World.drewN_drewN _ _ _⟩ | exact ⟨rfl, _, Eq.trans (World.drewN_drewN _ _ _) (congrArg (World.drewN _) (Nat.add_assoc _ _ _))⟩)) | (go_at_call 106; (with_reducible refine (ratio_Gcd.calls _ _ _ _ A7.out).mono ?_); rintro e w' ⟨rfl, ⟨nd, rfl⟩⟩; (try first | exact ⟨rfl, _, World.drewN_drewN _ _ _⟩ | exact ⟨rfl, _, Eq.trans (World.drewN_drewN _ _ _) (congrArg (World.drewN _) (Nat.add_assoc _ _ _))⟩)))
  go_wp2
  go_ret
  exact ⟨rfl, pw_below_drewN HB.out _⟩
 all_goals
  obtain rfl := Option.some.inj H
  clear H
  simp only [gt_iff_lt, ge_iff_le] at *
  go_quiet (fail)
  go_wp2
  go_ret
  exact ⟨rfl, pw_below_drewN HB.out _⟩
def degree_Check.f (a0_0 : Int) (a0_1 : Int) (a0_2 : Int) (a0_3 : Int) : Option (Bool) := (ratio_Check.f a0_0 a0_1).bind fun t110 => (if t110 = true then (if a0_0 > 0 then (if a0_0 ≤ a0_1 then (if a0_1 ≤ 1000 then (if a0_2 ≥ 1 then (if a0_2 ≤ 8 then (if a0_3 ≥ 2 then (if a0_3 ≤ 64 then (some (decide ((wrap64 (a0_3 * a0_0)) ≥ a0_1))) else (some false)) else (some false)) else (some false)) else (some false)) else (some false)) else (some false)) else (some false)) else (some false))
theorem degree_Check.calls (a0_0 : Int) (a0_1 : Int) (a0_2 : Int) (a0_3 : Int) (r : Bool) (w : World) (h : degree_Check.f a0_0 a0_1 a0_2 a0_3 = some r) :
  Calls Tryz.prog 35 #[.agg #[.int .i64 a0_0, .int .i64 a0_1, .int .i64 a0_2, .int .i64 a0_3]] w fun e w' => e = .returned (.bool r) ∧ Below w.heap.size w w' := by
 unfold degree_Check.f at h
 obtain ⟨t, ht, H⟩ := Option.bind_eq_some_iff.mp h
 have HT := jo ht
 have HH := jo H
 clear h ht H
 go_enter Tryz.func35, Tryz.ntmps35
 go_wp2_with fail
 (with_reducible refine (ratio_Check.calls a0_0 a0_1 t _ HT.out).mono ?_)
 rintro e w2 ⟨rfl, hb⟩
 have k1 := fun i => blk_cell (blk_below (blk_alloc (blk_new w (.cells #[.int .i64 a0_0, .int .i64 a0_1, .int .i64 a0_2, .int .i64 a0_3] 25)) (.cells #[.int .i64 a0_0, .int .i64 a0_1] 23)) hb) i
 have k2 := fun i => blk_cell (blk_below (blk_new (w.alloc (.cells #[.int .i64 a0_0, .int .i64 a0_1, .int .i64 a0_2, .int .i64 a0_3] 25)) (.cells #[.int .i64 a0_0, .int .i64 a0_1] 23)) hb) i
 rw [World.size_alloc] at k2
 have HB := jo (below_step (below_alloc (below_alloc (Below.refl w.heap.size w) _) _) hb)
 clear hb HT
 have H := HH.out
 clear HH
 repeat' split at H
 all_goals obtain rfl := Option.some.inj H; clear H
 all_goals (try simp only [gt_iff_lt, ge_iff_le] at *)
 all_goals first | (go_wp2; go_ret; exact ⟨rfl, HB.out⟩) | skip
end Go.Proofs.YtjmooillogojkaaGreat.Q
namespace Go.Proofs.YtjmooillogojkaaGreat.Q
open Go.RowKit Go.Proofs.YtjmooillogojkaaGreatW.PrintWords Go.Proofs.YtjmooillogojkaaGreatW.PrintLast Go.Proofs.YtjmooillogojkaaGreatW.PrintMore
open Go.Proofs.YtjmooillogojkaaGreat
attribute [local go_sem] max2_int min2_int max_two min_two max_three min_three max_four min_four
def degree_Aux.j0 : Nat → Int → Bool → Int → Int → Int → Int → Option (Int × Int)
 | 0, _, _, _, _, _, _ => none
 | k + 1, x1, x18, x279000, x279001, x279002, x279003 => if x18 = true then (some (0, 1)) else (if (wrap64 (100 * x279001)) = 0 then (none) else (some (mn (wrap64 (Int.tdiv (wrap64 ((wrap64 ((wrap64 ((wrap64 ((wrap64 (55 * x279002)) * x279000)) * x1)) + (wrap64 (100 * x279001)))) - 1)) (wrap64 (100 * x279001)))) 64, 0)))
def degree_Aux.f (k : Nat) (a0_0 : Int) (a0_1 : Int) (a0_2 : Int) (a0_3 : Int) (a1 : Int) : Option (Int × Int) := (degree_Check.f a0_0 a0_1 a0_2 a0_3).bind fun t279 => (if t279 = true then (if a1 < 1 then (degree_Aux.j0 k a1 true a0_0 a0_1 a0_2 a0_3) else (degree_Aux.j0 k a1 (decide (a1 > 96)) a0_0 a0_1 a0_2 a0_3)) else (degree_Aux.j0 k a1 true a0_0 a0_1 a0_2 a0_3))
theorem degree_Aux.calls (k : Nat) (a0_0 : Int) (a0_1 : Int) (a0_2 : Int) (a0_3 : Int) (a1 : Int) (r1 : Int) (r2 : Int) (w : World) (h : degree_Aux.f k a0_0 a0_1 a0_2 a0_3 a1 = some (r1, r2)) :
  Calls Tryz.prog 75 #[.agg #[.int .i64 a0_0, .int .i64 a0_1, .int .i64 a0_2, .int .i64 a0_3], .int .i64 a1] w fun e w' => e = .returned (.tuple #[.int .i64 r1, .int .i64 r2]) ∧ Below w.heap.size w w' := by
 unfold degree_Aux.f at h
 obtain ⟨t, ht, H⟩ := Option.bind_eq_some_iff.mp h
 have HT := jo ht
 have HH := jo H
 clear h ht H
 go_enter Tryz.func75, Tryz.ntmps75
 go_wp2_with fail
 (with_reducible refine (degree_Check.calls a0_0 a0_1 a0_2 a0_3 t _ HT.out).mono ?_)
 rintro e w2 ⟨rfl, hb⟩
 have k1 := fun i => blk_cell (blk_below (blk_new w (.cells #[.int .i64 a0_0, .int .i64 a0_1, .int .i64 a0_2, .int .i64 a0_3] 25)) hb) i
 have HB := jo (below_step (below_alloc (Below.refl w.heap.size w) _) hb)
 clear hb HT
 have H := HH.out
 clear HH
 cases k with
 | zero => simp [degree_Aux.j0] at H
 | succ k =>
  simp only [degree_Aux.j0] at H
  repeat' split at H
  all_goals (try simp only [gt_iff_lt, ge_iff_le, Bool.not_eq_true, decide_eq_true_eq] at *)
  all_goals first | (cases H; done) | (injection H with H; injection H with e1 e2; subst e1 e2; subst_vars; go_wp2; done) | (injection H with H; injection H with e1 e2; subst e1 e2; subst_vars; go_wp2 <;> (go_ret2; refine ⟨?_, HB.out⟩; first | rfl | (simp only [mn]; (repeat' split) <;> first | rfl | (exfalso; omega) | (simp; omega))))
end Go.Proofs.YtjmooillogojkaaGreat.Q
namespace Go.Proofs.YtjmooillogojkaaGreat.Q
open Go.RowKit Go.Proofs.YtjmooillogojkaaGreatW.PrintWords Go.Proofs.YtjmooillogojkaaGreatW.PrintLast Go.Proofs.YtjmooillogojkaaGreatW.PrintMore
open Go.Proofs.YtjmooillogojkaaGreat
def degree_parts.f (a0_0 : Int) (a0_1 : Int) (a0_2 : Int) (a0_3 : Int) (a1 : Int) : Option (Int × Int) := some (wrap64 ((wrap64 ((wrap64 (a0_3 + 1)) * a0_1)) * (wrap64 (a0_3 - a1))), wrap64 ((wrap64 ((wrap64 (a0_3 * (wrap64 (a0_1 + a0_0)))) * (wrap64 (a0_3 - 1)))) * a1))
theorem degree_parts.calls (a0_0 : Int) (a0_1 : Int) (a0_2 : Int) (a0_3 : Int) (a1 : Int) (r1 : Int) (r2 : Int) (w : World) (h : degree_parts.f a0_0 a0_1 a0_2 a0_3 a1 = some (r1, r2)) :
  Calls Tryz.prog 170 #[.agg #[.int .i64 a0_0, .int .i64 a0_1, .int .i64 a0_2, .int .i64 a0_3], .int .i64 a1] w fun e w' => e = .returned (.tuple #[.int .i64 r1, .int .i64 r2]) ∧ Below w.heap.size w w' := by
 unfold degree_parts.f at h
 injection h with h
 injection h with e1 e2
 subst e1 e2
 have HB := jo (below_alloc (below_alloc (Below.refl w.heap.size w) (.cells #[.int .i64 a0_0, .int .i64 a0_1, .int .i64 a0_2, .int .i64 a0_3] 25)) (.cells #[.int .i64 a0_0, .int .i64 a0_1] 23))
 go_enter Tryz.func170, Tryz.ntmps170
 go_wp2
 go_quiet (fail)
 go_wp2
 go_ret2
 exact ⟨rfl, pw_below_drewN HB.out _⟩
end Go.Proofs.YtjmooillogojkaaGreat.Q
