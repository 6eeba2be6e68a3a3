/- slices.IndexFunc and slices.ContainsFunc at strings: the first place at which a predicate holds. No condition but what the predicate answers; slices.IndexFunc and slices.ContainsFunc at rows of nu ... No condition. -/
import Derived.Shelf.Abstract
import Derived.Test.YtjmooillogojkaaGreatM05
set_option maxHeartbeats 8000000
set_option maxRecDepth 100000
set_option linter.unusedVariables false
set_option linter.unusedSimpArgs false
namespace Go.Proofs.YtjmooillogojkaaGreat.Q
open Go.RowKit Go.Proofs.YtjmooillogojkaaGreatW.PrintWords Go.Proofs.YtjmooillogojkaaGreatW.PrintLast Go.Proofs.YtjmooillogojkaaGreatW.PrintMore
open Go.Proofs.YtjmooillogojkaaGreat
def rd_L3 (xs : List (List Int)) (i : Int) : (List Int) := xs.getD i.toNat ([] : List Int)
theorem at_L3 {w : World} {A : Option Addr} {n : Nat} {xs : List (List Int)} (h : Kd.C (Kd.slice 3 (Kd.int .i64)) w A n xs) (i : Int) (h0 : 0 ≤ i) (h1 : i < n) : ∃ ad A0 c0, A = some ad ∧ w.cell? (ad.add i.toNat) = some (.slice A0 (rd_L3 xs i).length c0) ∧ (rd_L3 xs i).length ≤ c0 ∧ (Kd.int .i64).C w A0 (rd_L3 xs i).length (rd_L3 xs i) := by
 obtain ⟨ad, c, e, _, hK, hc0⟩ := Kd.C_get h ([] : List Int) i h0 h1
 have hc : ∀ j u, c[j]? = some u → w.cell? (ad.add (i.toNat * 1 + j)) = some u := hc0
 obtain ⟨A0, c0, rfl, l0, g0⟩ := hK
 exact ⟨ad, A0, c0, e, by have hq := hc 0 _ rfl; rwa [Nat.mul_one, Nat.add_zero] at hq, l0, g0⟩
def PredS (g : Nat) (lb : Array Value) (p : ByteArray → Bool) (l : List ByteArray) (w : World) : Prop :=
 ∀ (W : World) (i : Nat) (h : i < l.length), Below w.heap.size w W → Calls Tryz.prog g (#[.string l[i]] ++ lb) W fun e w' => e = .returned (.bool (p l[i])) ∧ Below w.heap.size w w'
def idxF {α : Type} (p : α → Bool) : List α → Int
 | [] => -1
 | x :: l => if p x then 0 else (let r := idxF p l; if r < 0 then -1 else r + 1)
theorem idxF_lo {α : Type} (p : α → Bool) : ∀ l : List α, -1 ≤ idxF p l
 | [] => Int.le_refl _
 | x :: l => by
  have := idxF_lo p l
  unfold idxF
  split
  ·omega
  ·simp only
   split <;> omega
theorem idxF_hit {α : Type} (p : α → Bool) : ∀ (l : List α) (i : Nat) (h : i < l.length), p l[i] = true → (∀ j (hj : j < i), p (l[j]'(by omega)) = false) → idxF p l = i
 | x :: l, 0, h, hp, _ => by
  unfold idxF
  rw [if_pos (by simpa using hp)]
  rfl
 | x :: l, i + 1, h, hp, hn => by
  have h0 : p x = false := hn 0 (by omega)
  have := idxF_hit p l i (by simpa using h) (by simpa using hp) (fun j hj => by have := hn (j + 1) (by omega); simpa using this)
  unfold idxF
  rw [if_neg (by simp [h0])]
  simp only [this]
  rw [if_neg (by omega)]
  rfl
theorem idxF_miss {α : Type} (p : α → Bool) : ∀ (l : List α), (∀ j (hj : j < l.length), p l[j] = false) → idxF p l = -1
 | [], _ => rfl
 | x :: l, hn => by
  have h0 : p x = false := hn 0 (by simp)
  have := idxF_miss p l (fun j hj => by have := hn (j + 1) (by simpa using hj); simpa using this)
  unfold idxF
  rw [if_neg (by simp [h0])]
  simp only [this]
  rw [if_pos (by omega)]
theorem idxF_any {α : Type} (p : α → Bool) (l : List α) : decide (idxF p l ≥ 0) = l.any p := by
 induction l with
 | nil => rfl
 | cons x l ih =>
  unfold idxF
  rw [List.any_cons, ← ih]
  cases hx : p x
  ·have := idxF_lo p l
   simp only [Bool.false_eq_true, if_false, Bool.false_or]
   split <;> simp <;> omega
  ·simp
theorem idx_str {g : Nat} {lb : Array Value} (eg : Enters Tryz.prog g) {p : ByteArray → Bool} {A : Option Addr} {c : Nat} {l : List ByteArray} (w : World) (hr : Kd.C Kd.string w A l.length l) (hc : l.length ≤ c) (hp : PredS g lb p l w) :
  Calls Tryz.prog 113 #[.slice A l.length c, .func (.func g) #[] lb] w fun e w' => e = .returned (.int .i64 (idxF p l)) ∧ Below w.heap.size w w' := by
 replace eg : ∀ args w, (callFunc g args).run Tryz.prog w = .ok (.enter g args) w := fun a w => eg a w
 have HR := jo hr
 have HP := jo hp
 have hmx := hr.2.1
 clear hr hp
 go_enter Tryz.func113, Tryz.ntmps113
 go_wp2
 go_loopg [5, 8] l.length (fun gk v5 v8 wr => ∃ kk : Nat, v8 = .int .i64 kk ∧ Aside0 (kk + gk = l.length ∧ Below w.heap.size w wr ∧ ∀ j (hj : j < kk) (hl : j < l.length), p l[j] = false))
 case atStart => exact ⟨0, rfl, ⟨by omega, Below.refl _ _, fun j hj => absurd hj (Nat.not_lt_zero _)⟩⟩
 case round =>
  obtain ⟨kk, rfl, HA⟩ := hrel
  by_cases hlt : kk < l.length
  ·have d1 : decide ((kk : Int) < (l.length : Int)) = true := decide_eq_true (by omega)
   have d2 : decide (kk < l.length) = true := decide_eq_true hlt
   obtain ⟨gq, rfl⟩ : ∃ q, gk = q + 1 := ⟨gk - 1, by have := HA.out.1; omega⟩
   have hcr := Kd.C_below HR.out HA.out.2.1
   obtain ⟨ad, rfl, hcell⟩ := Kd.at_string hcr (kk : Int) (by omega) (by omega)
   have hx : rdOf ByteArray.empty l (kk : Int) = l[kk] := by
    unfold rdOf
    rw [List.getD_eq_getElem?_getD, Int.toNat_natCast, List.getElem?_eq_getElem hlt]
    rfl
   rw [hx] at hcell
   rw [Int.toNat_natCast] at hcell
   have hcall := HP.out wr kk hlt HA.out.2.1
   clear hcr hx
   obtain ⟨y, hy⟩ : ∃ y, y = l[kk] := ⟨_, rfl⟩
   rw [← hy] at hcell hcall
   have HY := jo hy
   clear hy
   cases hq : p y with
   | true =>
    rw [hq] at hcall
    have HQ := jo hq
    clear hq
    go_wp2_with (go_at_fn g; refine hcall.mono ?_; rintro e w' ⟨rfl, hb'⟩)
    go_ret
    exact ⟨by rw [idxF_hit p l kk hlt (HY.out ▸ HQ.out) (fun j hj => HA.out.2.2 j hj (by omega))]; rfl, hb'⟩
   | false =>
    rw [hq] at hcall
    have HQ := jo hq
    clear hq
    go_wp2_with (go_at_fn g; refine hcall.mono ?_; rintro e w' ⟨rfl, hb'⟩)
    go_roundg gq
    case measure => omega
    case rel => exact ⟨kk + 1, rfl, ⟨by have := HA.out.1; omega, hb', fun j hj hl => by
     by_cases e : j = kk
     ·subst e
      exact HY.out ▸ HQ.out
     ·exact HA.out.2.2 j (by omega) hl⟩⟩
  ·have d1 : decide ((kk : Int) < (l.length : Int)) = false := decide_eq_false (by omega)
   have d2 : decide (kk < l.length) = false := decide_eq_false hlt
   go_wp2
   go_ret
   exact ⟨by rw [idxF_miss p l (fun j hj => HA.out.2.2 j (by omega) hj)]; rfl, HA.out.2.1⟩
theorem con_str {g : Nat} {lb : Array Value} (eg : Enters Tryz.prog g) {p : ByteArray → Bool} {A : Option Addr} {c : Nat} {l : List ByteArray} (w : World) (hr : Kd.C Kd.string w A l.length l) (hc : l.length ≤ c) (hp : PredS g lb p l w) :
  Calls Tryz.prog 80 #[.slice A l.length c, .func (.func g) #[] lb] w fun e w' => e = .returned (.bool (l.any p)) ∧ Below w.heap.size w w' := by
 rw [← idxF_any p l]
 have HI := jo (idx_str eg w hr hc hp)
 clear hr hp
 go_enter Tryz.func80, Tryz.ntmps80
 go_wp2_with (go_at_call 113; refine HI.out.mono ?_; rintro e w' ⟨rfl, hb'⟩)
 go_ret
 exact ⟨rfl, hb'⟩
def PredInt (g : Nat) (lb : Array Value) (p : Int → Bool) (l : List (Int)) (w : World) : Prop :=
 ∀ (W : World) (i : Nat) (h : i < l.length), Below w.heap.size w W → Calls Tryz.prog g (#[.int .i64 l[i]] ++ lb) W fun e w' => e = .returned (.bool (p l[i])) ∧ Below w.heap.size w w'
theorem idx_int {g : Nat} {lb : Array Value} (eg : Enters Tryz.prog g) {p : Int → Bool} {A : Option Addr} {c : Nat} {l : List (Int)} (w : World) (hr : Kd.C (Kd.int .i64) w A l.length l) (hc : l.length ≤ c) (hp : PredInt g lb p l w) :
  Calls Tryz.prog 139 #[.slice A l.length c, .func (.func g) #[] lb] w fun e w' => e = .returned (.int .i64 (idxF p l)) ∧ Below w.heap.size w w' := by
 replace eg : ∀ args w, (callFunc g args).run Tryz.prog w = .ok (.enter g args) w := fun a w => eg a w
 have HR := jo hr
 have HP := jo hp
 have hmx := hr.2.1
 clear hr hp
 go_enter Tryz.func139, Tryz.ntmps139
 go_wp2
 go_loopg [5, 8] l.length (fun gk v5 v8 wr => ∃ kk : Nat, v8 = .int .i64 kk ∧ Aside0 (kk + gk = l.length ∧ Below w.heap.size w wr ∧ ∀ j (hj : j < kk) (hl : j < l.length), p l[j] = false))
 case atStart => exact ⟨0, rfl, ⟨by omega, Below.refl _ _, fun j hj => absurd hj (Nat.not_lt_zero _)⟩⟩
 case round =>
  obtain ⟨kk, rfl, HA⟩ := hrel
  by_cases hlt : kk < l.length
  ·have d1 : decide ((kk : Int) < (l.length : Int)) = true := decide_eq_true (by omega)
   have d2 : decide (kk < l.length) = true := decide_eq_true hlt
   obtain ⟨gq, rfl⟩ : ∃ q, gk = q + 1 := ⟨gk - 1, by have := HA.out.1; omega⟩
   have hcr := Kd.C_below HR.out HA.out.2.1
   obtain ⟨ad, rfl, hcell⟩ := Kd.at_int hcr (kk : Int) (by omega) (by omega)
   have hx : rd l (kk : Int) = l[kk] := by
    unfold rd
    rw [List.getD_eq_getElem?_getD, Int.toNat_natCast, List.getElem?_eq_getElem hlt]
    rfl
   rw [hx, Int.toNat_natCast] at hcell
   have hcall := HP.out wr kk hlt HA.out.2.1
   clear hx
   clear hcr
   obtain ⟨y, hy⟩ : ∃ y, y = l[kk] := ⟨_, rfl⟩
   rw [← hy] at hcell hcall
   have HY := jo hy
   clear hy
   cases hq : p y with
   | true =>
    rw [hq] at hcall
    have HQ := jo hq
    clear hq
    go_wp2_with (go_at_fn g; refine hcall.mono ?_; rintro e w' ⟨rfl, hb'⟩)
    go_ret
    exact ⟨by rw [idxF_hit p l kk hlt (HY.out ▸ HQ.out) (fun j hj => HA.out.2.2 j hj (by omega))]; rfl, hb'⟩
   | false =>
    rw [hq] at hcall
    have HQ := jo hq
    clear hq
    go_wp2_with (go_at_fn g; refine hcall.mono ?_; rintro e w' ⟨rfl, hb'⟩)
    go_roundg gq
    case measure => omega
    case rel => exact ⟨kk + 1, rfl, ⟨by have := HA.out.1; omega, hb', fun j hj hl => by
     by_cases e : j = kk
     ·subst e
      exact HY.out ▸ HQ.out
     ·exact HA.out.2.2 j (by omega) hl⟩⟩
  ·have d1 : decide ((kk : Int) < (l.length : Int)) = false := decide_eq_false (by omega)
   have d2 : decide (kk < l.length) = false := decide_eq_false hlt
   go_wp2
   go_ret
   exact ⟨by rw [idxF_miss p l (fun j hj => HA.out.2.2 j (by omega) hj)]; rfl, HA.out.2.1⟩
def PredRow (g : Nat) (lb : Array Value) (p : List Int → Bool) (l : List (List Int)) (w : World) : Prop :=
 ∀ (W : World) (i : Nat) (h : i < l.length), Below w.heap.size w W → ∀ A0 c0, l[i].length ≤ c0 → Kd.C (Kd.int .i64) W A0 l[i].length l[i] → Calls Tryz.prog g (#[.slice A0 l[i].length c0] ++ lb) W fun e w' => e = .returned (.bool (p l[i])) ∧ Below w.heap.size w w'
theorem idx_row {g : Nat} {lb : Array Value} (eg : Enters Tryz.prog g) {p : List Int → Bool} {A : Option Addr} {c : Nat} {l : List (List Int)} (w : World) (hr : Kd.C (Kd.slice 3 (Kd.int .i64)) w A l.length l) (hc : l.length ≤ c) (hp : PredRow g lb p l w) :
  Calls Tryz.prog 133 #[.slice A l.length c, .func (.func g) #[] lb] w fun e w' => e = .returned (.int .i64 (idxF p l)) ∧ Below w.heap.size w w' := by
 replace eg : ∀ args w, (callFunc g args).run Tryz.prog w = .ok (.enter g args) w := fun a w => eg a w
 have HR := jo hr
 have HP := jo hp
 have hmx := hr.2.1
 clear hr hp
 go_enter Tryz.func133, Tryz.ntmps133
 go_wp2
 go_loopg [5, 8] l.length (fun gk v5 v8 wr => ∃ kk : Nat, v8 = .int .i64 kk ∧ Aside0 (kk + gk = l.length ∧ Below w.heap.size w wr ∧ ∀ j (hj : j < kk) (hl : j < l.length), p l[j] = false))
 case atStart => exact ⟨0, rfl, ⟨by omega, Below.refl _ _, fun j hj => absurd hj (Nat.not_lt_zero _)⟩⟩
 case round =>
  obtain ⟨kk, rfl, HA⟩ := hrel
  by_cases hlt : kk < l.length
  ·have d1 : decide ((kk : Int) < (l.length : Int)) = true := decide_eq_true (by omega)
   have d2 : decide (kk < l.length) = true := decide_eq_true hlt
   obtain ⟨gq, rfl⟩ : ∃ q, gk = q + 1 := ⟨gk - 1, by have := HA.out.1; omega⟩
   have hcr := Kd.C_below HR.out HA.out.2.1
   obtain ⟨ad, A0, c0, rfl, hcell, hl0, hg0⟩ := at_L3 hcr (kk : Int) (by omega) (by omega)
   have hx : rd_L3 l (kk : Int) = l[kk] := by
    unfold rd_L3
    rw [List.getD_eq_getElem?_getD, Int.toNat_natCast, List.getElem?_eq_getElem hlt]
    rfl
   rw [hx] at hcell hl0 hg0
   rw [Int.toNat_natCast] at hcell
   have hcall := HP.out wr kk hlt HA.out.2.1 A0 c0 hl0 hg0
   clear hx hl0 hg0
   clear hcr
   obtain ⟨y, hy⟩ : ∃ y, y = l[kk] := ⟨_, rfl⟩
   rw [← hy] at hcell hcall
   have HY := jo hy
   clear hy
   cases hq : p y with
   | true =>
    rw [hq] at hcall
    have HQ := jo hq
    clear hq
    go_wp2_with (go_at_fn g; refine hcall.mono ?_; rintro e w' ⟨rfl, hb'⟩)
    go_ret
    exact ⟨by rw [idxF_hit p l kk hlt (HY.out ▸ HQ.out) (fun j hj => HA.out.2.2 j hj (by omega))]; rfl, hb'⟩
   | false =>
    rw [hq] at hcall
    have HQ := jo hq
    clear hq
    go_wp2_with (go_at_fn g; refine hcall.mono ?_; rintro e w' ⟨rfl, hb'⟩)
    go_roundg gq
    case measure => omega
    case rel => exact ⟨kk + 1, rfl, ⟨by have := HA.out.1; omega, hb', fun j hj hl => by
     by_cases e : j = kk
     ·subst e
      exact HY.out ▸ HQ.out
     ·exact HA.out.2.2 j (by omega) hl⟩⟩
  ·have d1 : decide ((kk : Int) < (l.length : Int)) = false := decide_eq_false (by omega)
   have d2 : decide (kk < l.length) = false := decide_eq_false hlt
   go_wp2
   go_ret
   exact ⟨by rw [idxF_miss p l (fun j hj => HA.out.2.2 j (by omega) hj)]; rfl, HA.out.2.1⟩
theorem con_row {g : Nat} {lb : Array Value} (eg : Enters Tryz.prog g) {p : List Int → Bool} {A : Option Addr} {c : Nat} {l : List (List Int)} (w : World) (hr : Kd.C (Kd.slice 3 (Kd.int .i64)) w A l.length l) (hc : l.length ≤ c) (hp : PredRow g lb p l w) :
  Calls Tryz.prog 91 #[.slice A l.length c, .func (.func g) #[] lb] w fun e w' => e = .returned (.bool (l.any p)) ∧ Below w.heap.size w w' := by
 rw [← idxF_any p l]
 have HI := jo (idx_row eg w hr hc hp)
 clear hr hp
 go_enter Tryz.func91, Tryz.ntmps91
 go_wp2_with (go_at_call 133; refine HI.out.mono ?_; rintro e w' ⟨rfl, hb'⟩)
 go_ret
 exact ⟨rfl, hb'⟩
def PredEqn (g : Nat) (lb : Array Value) (p : S62 → Bool) (l : List (S62)) (w : World) : Prop :=
 ∀ (W : World) (i : Nat) (h : i < l.length), Below w.heap.size w W → ∀ A0 c0, l[i].f0.length ≤ c0 → Kd.C (Kd.int .i64) W A0 l[i].f0.length l[i].f0 → Calls Tryz.prog g (#[.agg #[.slice A0 l[i].f0.length c0, .string l[i].f1]] ++ lb) W fun e w' => e = .returned (.bool (p l[i])) ∧ Below w.heap.size w w'
theorem idx_eqn {g : Nat} {lb : Array Value} (eg : Enters Tryz.prog g) {p : S62 → Bool} {A : Option Addr} {c : Nat} {l : List (S62)} (w : World) (hr : Kd.C k62 w A l.length l) (hc : l.length ≤ c) (hp : PredEqn g lb p l w) :
  Calls Tryz.prog 101 #[.slice A l.length c, .func (.func g) #[] lb] w fun e w' => e = .returned (.int .i64 (idxF p l)) ∧ Below w.heap.size w w' := by
 replace eg : ∀ args w, (callFunc g args).run Tryz.prog w = .ok (.enter g args) w := fun a w => eg a w
 have HR := jo hr
 have HP := jo hp
 have hmx := hr.2.1
 clear hr hp
 go_enter Tryz.func101, Tryz.ntmps101
 go_wp2
 go_loopg [5, 8] l.length (fun gk v5 v8 wr => ∃ kk : Nat, v8 = .int .i64 kk ∧ Aside0 (kk + gk = l.length ∧ Below w.heap.size w wr ∧ ∀ j (hj : j < kk) (hl : j < l.length), p l[j] = false))
 case atStart => exact ⟨0, rfl, ⟨by omega, Below.refl _ _, fun j hj => absurd hj (Nat.not_lt_zero _)⟩⟩
 case round =>
  obtain ⟨kk, rfl, HA⟩ := hrel
  by_cases hlt : kk < l.length
  ·have d1 : decide ((kk : Int) < (l.length : Int)) = true := decide_eq_true (by omega)
   have d2 : decide (kk < l.length) = true := decide_eq_true hlt
   obtain ⟨gq, rfl⟩ : ∃ q, gk = q + 1 := ⟨gk - 1, by have := HA.out.1; omega⟩
   have hcr := Kd.C_below HR.out HA.out.2.1
   obtain ⟨ad, A0, c0, rfl, hcell, hcell2, hl0, hg0⟩ := at_T62 hcr (kk : Int) (by omega) (by omega)
   have hx : rd_T62 l (kk : Int) = l[kk] := by
    unfold rd_T62
    rw [List.getD_eq_getElem?_getD, Int.toNat_natCast, List.getElem?_eq_getElem hlt]
    rfl
   rw [hx] at hcell hcell2 hl0 hg0
   rw [Int.toNat_natCast] at hcell hcell2
   have hcall := HP.out wr kk hlt HA.out.2.1 A0 c0 hl0 hg0
   clear hx hl0 hg0
   clear hcr
   obtain ⟨y, hy⟩ : ∃ y, y = l[kk] := ⟨_, rfl⟩
   rw [← hy] at hcell hcell2 hcall
   have HY := jo hy
   clear hy
   cases hq : p y with
   | true =>
    rw [hq] at hcall
    have HQ := jo hq
    clear hq
    go_wp2_with (go_at_fn g; refine hcall.mono ?_; rintro e w' ⟨rfl, hb'⟩)
    go_ret
    exact ⟨by rw [idxF_hit p l kk hlt (HY.out ▸ HQ.out) (fun j hj => HA.out.2.2 j hj (by omega))]; rfl, hb'⟩
   | false =>
    rw [hq] at hcall
    have HQ := jo hq
    clear hq
    go_wp2_with (go_at_fn g; refine hcall.mono ?_; rintro e w' ⟨rfl, hb'⟩)
    go_roundg gq
    case measure => omega
    case rel => exact ⟨kk + 1, rfl, ⟨by have := HA.out.1; omega, hb', fun j hj hl => by
     by_cases e : j = kk
     ·subst e
      exact HY.out ▸ HQ.out
     ·exact HA.out.2.2 j (by omega) hl⟩⟩
  ·have d1 : decide ((kk : Int) < (l.length : Int)) = false := decide_eq_false (by omega)
   have d2 : decide (kk < l.length) = false := decide_eq_false hlt
   go_wp2
   go_ret
   exact ⟨by rw [idxF_miss p l (fun j hj => HA.out.2.2 j (by omega) hj)]; rfl, HA.out.2.1⟩
theorem con_eqn {g : Nat} {lb : Array Value} (eg : Enters Tryz.prog g) {p : S62 → Bool} {A : Option Addr} {c : Nat} {l : List (S62)} (w : World) (hr : Kd.C k62 w A l.length l) (hc : l.length ≤ c) (hp : PredEqn g lb p l w) :
  Calls Tryz.prog 59 #[.slice A l.length c, .func (.func g) #[] lb] w fun e w' => e = .returned (.bool (l.any p)) ∧ Below w.heap.size w w' := by
 rw [← idxF_any p l]
 have HI := jo (idx_eqn eg w hr hc hp)
 clear hr hp
 go_enter Tryz.func59, Tryz.ntmps59
 go_wp2_with (go_at_call 101; refine HI.out.mono ?_; rintro e w' ⟨rfl, hb'⟩)
 go_ret
 exact ⟨rfl, hb'⟩
def block_may.f (a0 : Int) : Option (Bool) := if a0 ≥ 1 then (some (decide (a0 ≤ 64))) else (some false)
theorem block_may.calls (a0 : Int) (r : Bool) (w : World) (h : block_may.f a0 = some r) :
  Calls Tryz.prog 57 #[.int .i64 a0] w fun e w' => e = .returned (.bool r) ∧ Drawn0 w w' := by
 have H : (if a0 ≥ 1 then (some (decide (a0 ≤ 64))) else (some false)) = some r := h
 clear h
 by_cases c2 : a0 ≥ 1
 ·rw [if_pos c2] at H
  have c2b0 : decide (1 ≤ a0) = true := decide_eq_true c2
  clear c2
  obtain rfl := Option.some.inj H
  go_enter Tryz.func57, Tryz.ntmps57
  go_wp2
  go_ret
  exact ⟨by first | rfl | (simp; done) | (simp [*]; done), jd⟩
 ·rw [if_neg c2] at H
  have c2b0 : decide (1 ≤ a0) = false := decide_eq_false c2
  clear c2
  obtain rfl := Option.some.inj H
  go_enter Tryz.func57, Tryz.ntmps57
  go_wp2
  go_ret
  exact ⟨by first | rfl | (simp; done) | (simp [*]; done), jd⟩
def block_Is.f (a0 : ByteArray) (a1 : Int) : Option (Bool) := (block_may.f a1).bind fun t463 => (if t463 = true then (some ((a0.size : Int) == a1)) else (some false))
theorem block_Is.calls (a0 : ByteArray) (a1 : Int) (r : Bool) (w : World) (h : block_Is.f a0 a1 = some r) :
  Calls Tryz.prog 47 #[.string a0, .int .i64 a1] w fun e w' => e = .returned (.bool r) ∧ Drawn0 w w' := by
 have H : ((block_may.f a1).bind fun t463 => (if t463 = true then (some ((a0.size : Int) == a1)) else (some false))) = some r := h
 clear h
 replace H := Option.bind_eq_some_iff.mp H
 obtain ⟨t463, A30, H⟩ := H
 replace H : (if t463 = true then (some ((a0.size : Int) == a1)) else (some false)) = some r := H
 have A3 := jo A30
 clear A30
 by_cases c4 : t463 = true
 ·subst c4
  have H1 : (some ((a0.size : Int) == a1)) = some r := by rw [if_pos rfl] at H; exact H
  clear H
  have H := H1
  clear H1
  obtain rfl := Option.some.inj H
  go_enter Tryz.func47, Tryz.ntmps47
  go_wp2_with (first | ((with_reducible refine gate_callee (f := 57) rfl ?_); refine goesL_ (some 6) rfl rfl Tryz.func57 jw rfl #[.int .i64 a1] rfl jm ?_; (with_reducible refine (block_may.calls a1 true _ A3.out).mono ?_); rintro e w' ⟨rfl, ⟨nd, rfl⟩⟩; refine ⟨_, rfl, ?_⟩))
  go_ret
  exact ⟨by first | rfl | (simp; done) | (simp [*]; done), jd⟩
 ·replace c4 := Bool.eq_false_iff.mpr c4
  subst c4
  have H1 : (some false) = some r := by rw [if_neg (show ¬ (false = true) by decide)] at H; exact H
  clear H
  have H := H1
  clear H1
  obtain rfl := Option.some.inj H
  go_enter Tryz.func47, Tryz.ntmps47
  go_wp2_with (first | ((with_reducible refine gate_callee (f := 57) rfl ?_); refine goesL_ (some 6) rfl rfl Tryz.func57 jw rfl #[.int .i64 a1] rfl jm ?_; (with_reducible refine (block_may.calls a1 false _ A3.out).mono ?_); rintro e w' ⟨rfl, ⟨nd, rfl⟩⟩; refine ⟨_, rfl, ?_⟩))
  go_ret
  exact ⟨by first | rfl | (simp; done) | (simp [*]; done), jd⟩
end Go.Proofs.YtjmooillogojkaaGreat.Q
