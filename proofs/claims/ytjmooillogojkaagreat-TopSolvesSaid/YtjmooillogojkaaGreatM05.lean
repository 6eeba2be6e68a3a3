/- The rule by which a scope with one label is walked: at the label a relation that bears a number, which each jump lowers; Plain numbers: the greatest number that divides both of two; ratios, codes  ... No condition. -/
import Derived.ScopeJumps
import Derived.Test.YtjmooillogojkaaGreatProg
import Derived.Test.YtjmooillogojkaaGreatM04
set_option maxHeartbeats 8000000
set_option maxRecDepth 100000
set_option linter.unusedVariables false
set_option linter.unusedSimpArgs false
namespace Go.Proofs.YtjmooillogojkaaGreat.Goto
open Go
section
variable {P : Program} {a : Act} {w : World} {Q : Exit → Act → World → Prop}
theorem wp_scope_lazy {c rest : Code} (l : Nat) (hf : findLabel c l = some rest)
  (h : ∀ K : Act → World → Prop, (∀ a w, rest.wp P (Exit.jump l K Q) a w → K a w) → c.wp P (Exit.jump l K Q) a w) : (Code.scope c).wp P Q a w := by
 let K : Act → World → Prop := fun a w => ∀ b k cs, ∃ e a' w', Q e a' w' ∧ Arrives P (lone (b.at a (.code rest :: .inScope c :: k)) cs w) b k cs e a' w'
 have hg : ∀ k : List Item, gotoIn l (.inScope c :: k) = some (.code rest :: .inScope c :: k) := fun k => by simp [gotoIn, hf]
 have hK : ∀ a w, rest.wp P (Exit.jump l K Q) a w → K a w := by
  intro a w hr b k cs
  obtain ⟨e, a₁, w₁, hq, harr⟩ := hr b (.inScope c :: k) cs
  cases e with
  | normal => exact ⟨.normal, a₁, w₁, hq, Steps.trans harr (.one step_inScope)⟩
  | exit id => exact ⟨.exit id, a₁, w₁, hq, fun k' hk => harr k' (by simp [exitTo, hk])⟩
  | goto l' =>
   obtain ⟨rfl, hk⟩ := hq
   obtain ⟨e₂, a₂, w₂, hq₂, harr₂⟩ := hk b k cs
   exact ⟨e₂, a₂, w₂, hq₂, .of_steps (harr _ (hg k)) harr₂⟩
  | ret => exact ⟨_, a₁, w₁, hq, harr⟩
  | panic ch => exact ⟨_, a₁, w₁, hq, harr⟩
  | outgrown => exact ⟨_, a₁, w₁, hq, harr⟩
 intro b k cs
 obtain ⟨e, a₁, w₁, hq, harr⟩ := h K hK b (.inScope c :: k) cs
 cases e with
 | normal => exact ⟨.normal, a₁, w₁, hq, .head step_scope (Steps.trans harr (.one step_inScope))⟩
 | exit id => exact ⟨.exit id, a₁, w₁, hq, fun k' hk => .head step_scope (harr k' (by simp [exitTo, hk]))⟩
 | goto l' =>
  obtain ⟨rfl, hk⟩ := hq
  obtain ⟨e₂, a₂, w₂, hq₂, harr₂⟩ := hk b k cs
  exact ⟨e₂, a₂, w₂, hq₂, .of_steps (.head step_scope (harr _ (hg k))) harr₂⟩
 | ret => exact ⟨_, a₁, w₁, hq, .of_steps (.one step_scope) harr⟩
 | panic ch => exact ⟨_, a₁, w₁, hq, .of_steps (.one step_scope) harr⟩
 | outgrown => exact ⟨_, a₁, w₁, hq, .of_steps (.one step_scope) harr⟩
theorem wp_label_ghost {rest : Code} {l : Nat} {K : Act → World → Prop} (hK : ∀ a w, rest.wp P (Exit.jump l K Q) a w → K a w)
  (I : Nat → Act → World → Prop) (n₀ : Nat) (h₀ : I n₀ a w)
  (round : ∀ n a w, I n a w → ∀ (J : Nat → Act → World → Prop) (K' : Act → World → Prop), (∀ k a' w', I k a' w' → J k a' w') → (∀ a' w', Handed J n a' w' → K' a' w') → rest.wp P (Exit.jump l K' Q) a w) :
  rest.wp P (Exit.jump l K Q) a w := by
 induction n₀ using Nat.strongRecOn generalizing a w with
 | _ n ih =>
  refine wp_mono (round n a w h₀ I _ (fun _ _ _ q => q) (fun _ _ q => q)) ?_
  intro e a' w' hq
  cases e with
  | goto l' =>
   obtain ⟨rfl, n', hlt, hI⟩ := hq
   exact ⟨rfl, hK _ _ (ih n' hlt hI)⟩
  | normal => exact hq
  | exit id => exact hq
  | ret => exact hq
  | panic ch => exact hq
  | outgrown => exact hq
theorem label_ghost {B : Code} {l l' : Nat} {K K1 : Act → World → Prop} {R : Exit → Act → World → Prop} (hK : ∀ a w, (Code.seq .skip B).wp P (Exit.jump l K Q) a w → K a w)
  (hy : ∀ a w, B.wp P (Exit.jump l K Q) a w → K1 a w) (I : Nat → Act → World → Prop) (n₀ : Nat) (h₀ : I n₀ a w)
  (round : ∀ n a w, I n a w → ∀ (J : Nat → Act → World → Prop) (K' : Act → World → Prop), (∀ k a' w', I k a' w' → J k a' w') → (∀ a' w', Handed J n a' w' → K' a' w') → B.wp P (Exit.jump l K' Q) a w) :
  (Code.label l').wp P (Exit.then K1 R) a w :=
 wp_label (hy _ _ (wp_label_ghost (fun a w h => hK a w (wp_seq (wp_skip h))) I n₀ h₀ round))
theorem jump_ret {l : Nat} {K : Act → World → Prop} : Exit.jump l K Q .ret a w = Q .ret a w := rfl
theorem jump_normal {l : Nat} {K : Act → World → Prop} : Exit.jump l K Q .normal a w = Q .normal a w := rfl
theorem jump_goto {l : Nat} {K : Act → World → Prop} (h : K a w) : Exit.jump l K Q (.goto l) a w := ⟨rfl, h⟩
theorem handed_step {J : Nat → Act → World → Prop} {K' : Act → World → Prop} {n : Nat} (hK : ∀ a' w', Handed J n a' w' → K' a' w') (k : Nat) (h1 : k < n) (h2 : J k a w) : K' a w := hK _ _ ⟨k, h1, h2⟩
def putAll : List Value → List Bool → List Value → List Value
 | _ :: xs, true :: m, v :: vs => v :: putAll xs m vs
 | x :: xs, false :: m, vs => x :: putAll xs m vs
 | xs, _, _ => xs
theorem putAll_true (x v : Value) (xs vs : List Value) (m : List Bool) : putAll (x :: xs) (true :: m) (v :: vs) = v :: putAll xs m vs := rfl
theorem putAll_false (x : Value) (xs vs : List Value) (m : List Bool) : putAll (x :: xs) (false :: m) vs = x :: putAll xs m vs := by cases vs <;> rfl
theorem putAll_nil (m : List Bool) (vs : List Value) : putAll [] m vs = [] := by cases m <;> cases vs <;> rfl
def putFrame (a : Act) (m : List Bool) (vs : List Value) : Act := { tmps := (putAll a.tmps.toList m vs).toArray, defers := a.defers }
theorem putFrame_mk (xs : List Value) (m : List Bool) (vs : List Value) (d : List Deferred) : putFrame { tmps := xs.toArray, defers := d } m vs = { tmps := (putAll xs m vs).toArray, defers := d } := rfl
theorem label_ghost_put {B : Code} {l l' : Nat} {K K1 : Act → World → Prop} {R : Exit → Act → World → Prop} (hK : ∀ a w, (Code.seq .skip B).wp P (Exit.jump l K Q) a w → K a w)
  (hy : ∀ a w, B.wp P (Exit.jump l K Q) a w → K1 a w) (ds : List Bool) (I : Nat → List Value → World → Prop) (n₀ : Nat) (vs₀ : List Value) (h₀ : I n₀ vs₀ w) (he : a = putFrame a ds vs₀)
  (round : ∀ n vs wr, I n vs wr → ∀ (J : Nat → List Value → World → Prop) (K' : Act → World → Prop), (∀ k vs' w', I k vs' w' → J k vs' w') →
   (∀ k vs' w', k < n → J k vs' w' → K' (putFrame a ds vs') w') → B.wp P (Exit.jump l K' Q) (putFrame a ds vs) wr) :
  (Code.label l').wp P (Exit.then K1 R) a w := by
 refine label_ghost hK hy (fun k a' w' => ∃ vs, I k vs w' ∧ a' = putFrame a ds vs) n₀ ⟨vs₀, h₀, he⟩ ?_
 rintro n a' wr ⟨vs, hI, rfl⟩ J K' hJ hK'
 refine round n vs wr hI (fun k vs' w' => J k (putFrame a ds vs') w') K' (fun k vs' w' h => hJ _ _ _ ⟨vs', h, rfl⟩) ?_
 intro k vs' w' hlt h
 exact hK' _ _ ⟨k, hlt, h⟩
theorem goto_put {l : Nat} {a0 : Act} {ds : List Bool} {n : Nat} {I J : Nat → List Value → World → Prop} {K' : Act → World → Prop}
  (hK' : ∀ k vs' w', k < n → J k vs' w' → K' (putFrame a0 ds vs') w') (hJ : ∀ k vs' w', I k vs' w' → J k vs' w') (k : Nat) (vs : List Value)
  (hlt : k < n) (he : a = putFrame a0 ds vs) (h : I k vs w) : Exit.jump l K' Q (.goto l) a w := by
 subst he
 exact ⟨rfl, hK' k vs w hlt (hJ _ _ _ h)⟩
end
end Go.Proofs.YtjmooillogojkaaGreat.Goto

namespace Go.Proofs.YtjmooillogojkaaGreat.Plain
def gcdI (a b : Int) : Int := if a < 0 then 0 else if b < 0 then 0 else (Nat.gcd a.toNat b.toNat : Int)
theorem gcdI_pos {a b : Int} (ha : 0 ≤ a) (hb : 0 ≤ b) : gcdI a b = (Int.gcd a b : Int) := by
 unfold gcdI
 rw [if_neg (by omega), if_neg (by omega)]
 obtain ⟨m, rfl⟩ := Int.eq_ofNat_of_zero_le ha
 obtain ⟨n, rfl⟩ := Int.eq_ofNat_of_zero_le hb
 simp [Int.gcd]
theorem gcdI_abs (a b : Int) : gcdI a.natAbs b.natAbs = (Int.gcd a b : Int) := by
 rw [gcdI_pos (by omega) (by omega)]
 simp [Int.gcd]
def okB (n d : Int) : Bool := decide (0 < d ∧ d ≤ 2147483647 ∧ -2147483647 ≤ n ∧ n ≤ 2147483647 ∧ Int.gcd n d = 1)
theorem okB_iff (n d : Int) : okB n d = true ↔ 0 < d ∧ d ≤ 2147483647 ∧ -2147483647 ≤ n ∧ n ≤ 2147483647 ∧ Int.gcd n d = 1 := by simp [okB]
theorem tdiv_dvd {a g : Int} (h : g ∣ a) : Int.tdiv a g = a / g := Int.tdiv_eq_ediv_of_dvd h
theorem div_abs_le (a : Int) {g : Int} (hg : 0 < g) (h : g ∣ a) : -(a.natAbs : Int) ≤ a / g ∧ a / g ≤ (a.natAbs : Int) := by
 obtain ⟨k, rfl⟩ := h
 rw [Int.mul_ediv_cancel_left _ (by omega)]
 have : k.natAbs ≤ (g * k).natAbs := by
  rw [Int.natAbs_mul]
  exact Nat.le_mul_of_pos_left _ (by omega)
 omega
def codeB (N D Q F : Int) : Bool := okB N D && decide (0 < N ∧ N ≤ D ∧ D ≤ 1000 ∧ 1 ≤ Q ∧ Q ≤ 8 ∧ 2 ≤ F ∧ F ≤ 64 ∧ D ≤ F * N)
theorem codeB_iff (N D Q F : Int) : codeB N D Q F = true ↔ okB N D = true ∧ 0 < N ∧ N ≤ D ∧ D ≤ 1000 ∧ 1 ≤ Q ∧ Q ≤ 8 ∧ 2 ≤ F ∧ F ≤ 64 ∧ D ≤ F * N := by
 simp [codeB]
def nP (D F k : Int) : Int := (F + 1) * D * (F - k)
def dP (N D F k : Int) : Int := F * (D + N) * (F - 1) * k
theorem mulb {a b A B : Int} (h1 : 0 ≤ a) (h2 : a ≤ A) (h3 : 0 ≤ b) (h4 : b ≤ B) : 0 ≤ a * b ∧ a * b ≤ A * B :=
 ⟨Int.mul_nonneg h1 h3, Int.mul_le_mul h2 h4 h3 (by omega)⟩
theorem nP_bound {N D Q F k : Int} (h : codeB N D Q F = true) (k1 : 1 ≤ k) (k2 : k ≤ F) : (0 ≤ (F + 1) * D ∧ (F + 1) * D ≤ 65000) ∧ 0 ≤ nP D F k ∧ nP D F k ≤ 4095000 := by
 obtain ⟨_, h1, h2, h3, h4, h5, h6, h7, h8⟩ := (codeB_iff ..).1 h
 have a := mulb (a := F + 1) (A := 65) (b := D) (B := 1000) (by omega) (by omega) (by omega) (by omega)
 have b := mulb (a := (F + 1) * D) (A := 65000) (b := F - k) (B := 63) (by omega) (by omega) (by omega) (by omega)
 exact ⟨⟨a.1, by omega⟩, b.1, by unfold nP; omega⟩
theorem dP_bound {N D Q F k : Int} (h : codeB N D Q F = true) (k1 : 1 ≤ k) (k2 : k ≤ F) :
  (0 < F * (D + N) ∧ F * (D + N) ≤ 128000) ∧ (0 < F * (D + N) * (F - 1) ∧ F * (D + N) * (F - 1) ≤ 8064000) ∧ 0 < dP N D F k ∧ dP N D F k ≤ 516096000 := by
 obtain ⟨_, h1, h2, h3, h4, h5, h6, h7, h8⟩ := (codeB_iff ..).1 h
 have a := mulb (a := F) (A := 64) (b := D + N) (B := 2000) (by omega) (by omega) (by omega) (by omega)
 have a0 : 0 < F * (D + N) := Int.mul_pos (by omega) (by omega)
 have b := mulb (a := F * (D + N)) (A := 128000) (b := F - 1) (B := 63) (by omega) (by omega) (by omega) (by omega)
 have b0 : 0 < F * (D + N) * (F - 1) := Int.mul_pos a0 (by omega)
 have c := mulb (a := F * (D + N) * (F - 1)) (A := 8064000) (b := k) (B := 64) (by omega) (by omega) (by omega) (by omega)
 have c0 : 0 < F * (D + N) * (F - 1) * k := Int.mul_pos b0 (by omega)
 exact ⟨⟨a0, by omega⟩, ⟨b0, by omega⟩, c0, by unfold dP; omega⟩
theorem n_le_d {N D Q F k : Int} (h : codeB N D Q F = true) (k1 : 1 ≤ k) (k2 : k ≤ F) : nP D F k ≤ dP N D F k := by
 obtain ⟨_, h1, h2, h3, h4, h5, h6, h7, h8⟩ := (codeB_iff ..).1 h
 have e1 : (F + 1) * D ≤ F * (D + N) := by
  have : F * (D + N) = F * D + F * N := Int.mul_add ..
  have : (F + 1) * D = F * D + D := by grind
  omega
 have e2 : F - k ≤ (F - 1) * k := by
  have : (F - 1) * 1 ≤ (F - 1) * k := Int.mul_le_mul_of_nonneg_left k1 (by omega)
  have e : (F - 1) * k = F * k - k := by grind
  have : F * 1 ≤ F * k := Int.mul_le_mul_of_nonneg_left k1 (by omega)
  omega
 have p := Int.mul_le_mul e1 e2 (by omega) (by
  have := (dP_bound h k1 k2).1
  omega)
 have e : F * (D + N) * ((F - 1) * k) = dP N D F k := by unfold dP; grind
 unfold nP
 omega
def tab (N D F k : Int) : Int := 4294967296 * (dP N D F k - nP D F k) / dP N D F k
def tabs (N D F : Int) : Nat → Int → List Int
 | 0, j => [tab N D F j]
 | m + 1, j => tab N D F j :: tabs N D F m (j + 1)
def table (N D F : Int) : List Int := tabs N D F (F.toNat - 1) 1
theorem tabs_length (N D F : Int) (m : Nat) (j : Int) : (tabs N D F m j).length = m + 1 := by
 induction m generalizing j with
 | zero => rfl
 | succ m ih => simp [tabs, ih]
theorem tab_bound {N D Q F k : Int} (h : codeB N D Q F = true) (k1 : 1 ≤ k) (k2 : k ≤ F) : 0 ≤ tab N D F k ∧ tab N D F k ≤ 4294967296 := by
 have a := nP_bound h k1 k2
 have b := dP_bound h k1 k2
 have c := n_le_d h k1 k2
 unfold tab
 constructor
 ·exact Int.ediv_nonneg (Int.mul_nonneg (by omega) (by omega)) (by omega)
 ·apply Int.le_of_lt_add_one
  rw [Int.ediv_lt_iff_lt_mul (by omega)]
  have : 4294967296 * (dP N D F k - nP D F k) ≤ 4294967296 * dP N D F k := Int.mul_le_mul_of_nonneg_left (by omega) (by omega)
  have : (4294967296 + 1) * dP N D F k = 4294967296 * dP N D F k + dP N D F k := by grind
  omega
theorem scaled_eq {n d g : Int} (hg : 0 < g) (hd : 0 < d) : 4294967296 - (4294967296 * n + d - 1) / d = 4294967296 * (g * d - g * n) / (g * d) := by
 have e1 : 4294967296 * (g * d - g * n) = g * (4294967296 * (d - n)) := by grind
 rw [e1, Int.mul_ediv_mul_of_pos _ _ hg]
 symm
 rw [Int.ediv_eq_iff_of_pos hd]
 have h1 := Int.emod_add_mul_ediv (4294967296 * n + d - 1) d
 have h2 := Int.emod_nonneg (4294967296 * n + d - 1) (show d ≠ 0 by omega)
 have h3 := Int.emod_lt_of_pos (4294967296 * n + d - 1) hd
 generalize (4294967296 * n + d - 1) / d = q at *
 generalize (4294967296 * n + d - 1) % d = r at *
 have e2 : (4294967296 - q) * d = 4294967296 * d - d * q := by grind
 have e3 : 4294967296 * (d - n) = 4294967296 * d - 4294967296 * n := by grind
 rw [e2, e3]
 omega
theorem ediv_abs' (a : Int) {b : Int} (hb : 0 < b) : -(a.natAbs : Int) ≤ a / b ∧ a / b ≤ (a.natAbs : Int) := by
 have h : (a.natAbs : Int) ≤ (a.natAbs : Int) * b := by
  have := Int.mul_le_mul_of_nonneg_left (show (1 : Int) ≤ b by omega) (show (0 : Int) ≤ a.natAbs by omega)
  omega
 refine ⟨?_, Int.le_of_lt_add_one ?_⟩
 ·rw [Int.le_ediv_iff_mul_le hb, Int.neg_mul]
  omega
 ·rw [Int.ediv_lt_iff_lt_mul hb, Int.add_mul]
  omega
theorem gcd_pos {n d : Int} (hd : d ≠ 0) : (0 : Int) < (Int.gcd n d : Int) := by
 have := Int.gcd_pos_of_ne_zero_right n hd
 omega
def cntI (long size : Int) : Int := if long < 1 ∨ 4096 < long ∨ size < 1 ∨ 64 < size then 0 else if 96 < (long + size - 1) / size then 0 else (long + size - 1) / size
end Go.Proofs.YtjmooillogojkaaGreat.Plain
namespace Go.Proofs.YtjmooillogojkaaGreat.Q
open Go.RowKit Go.Proofs.YtjmooillogojkaaGreatW.PrintWords Go.Proofs.YtjmooillogojkaaGreatW.PrintLast Go.Proofs.YtjmooillogojkaaGreatW.PrintMore
open Go.Proofs.YtjmooillogojkaaGreat
def errW : Option Int → Value
 | none => .nilIface
 | some c => .iface 0 (.int .i64 c)
theorem errW_none : errW none = .nilIface := rfl
theorem errW_some (c : Int) : errW (some c) = .iface 0 (.int .i64 c) := rfl
theorem info3 : (Tryz.prog.info? 3).map (fun i => (i.zero, i.size, i.bytes)) = some (some (.int .i64 0), 1, 8) := by kernel_rfl
theorem info4 : (Tryz.prog.info? 4).map (fun i => (i.zero, i.size, i.bytes)) = some (some (.bool false), 1, 1) := by kernel_rfl
theorem info5 : (Tryz.prog.info? 5).map (fun i => (i.zero, i.size, i.bytes)) = some (some (.int .u8 0), 1, 1) := by kernel_rfl
theorem info9 : (Tryz.prog.info? 9).map (fun i => (i.zero, i.size, i.bytes)) = some (some (.string ⟨#[]⟩), 1, 16) := by kernel_rfl
theorem info44 : (Tryz.prog.info? 44).map (fun i => (i.zero, i.size, i.bytes)) = some (some (.slice none 0 0), 1, 24) := by kernel_rfl
theorem info123 : (Tryz.prog.info? 123).map (fun i => (i.zero, i.size, i.bytes)) = some (some (.agg #[(.int .i64 0), (.int .i64 0)]), 2, 16) := by kernel_rfl
def rd_L2 (xs : List (List Int)) (i : Int) : (List Int) := xs.getD i.toNat ([] : List Int)
theorem at_L2 {w : World} {A : Option Addr} {n : Nat} {xs : List (List Int)} (h : Kd.C (Kd.slice 3 (Kd.int .i64)) w A n xs) (i : Int) (h0 : 0 ≤ i) (h1 : i < n) : ∃ ad A0 c0, A = some ad ∧ w.cell? (ad.add i.toNat) = some (.slice A0 (rd_L2 xs i).length c0) ∧ (rd_L2 xs i).length ≤ c0 ∧ (Kd.int .i64).C w A0 (rd_L2 xs i).length (rd_L2 xs i) := by
 obtain ⟨ad, c, e, _, hK, hc0⟩ := Kd.C_get h ([] : List Int) i h0 h1
 have hc : ∀ j u, c[j]? = some u → w.cell? (ad.add (i.toNat * 1 + j)) = some u := hc0
 obtain ⟨A0, c0, rfl, l0, g0⟩ := hK
 exact ⟨ad, A0, c0, e, by have hq := hc 0 _ rfl; rwa [Nat.mul_one, Nat.add_zero] at hq, l0, g0⟩
structure S123 where
 f0 : Int
 f1 : Int
def z123 : S123 := ⟨(0 : Int), (0 : Int)⟩
def k123 : Kd S123 := Kd.iso (Kd.pair (Kd.int .i64) (Kd.int .i64)) (fun x : S123 => (x.f0, x.f1))
theorem k123_open {w : World} {x : S123} {cs : List Value} (h : k123.K w x cs) : cs = [.int .i64 x.f0, .int .i64 x.f1] := by
 obtain ⟨_, _, rfl, rfl, rfl⟩ := h
 exact rfl
theorem k123_mkM (w : World) (base : Nat) (ok : Nat → Prop) (x : S123)  : k123.M w base ok x [.int .i64 x.f0, .int .i64 x.f1] := ⟨[.int .i64 x.f0], [.int .i64 x.f1], rfl, rfl, rfl⟩
def rd_T123 (xs : List S123) (i : Int) : S123 := xs.getD i.toNat z123
theorem at_T123 {w : World} {A : Option Addr} {n : Nat} {xs : List S123} (h : Kd.C k123 w A n xs) (i : Int) (h0 : 0 ≤ i) (h1 : i < n) : ∃ ad , A = some ad ∧ w.cell? (ad.add (i.toNat * 2)) = some (.int .i64 (rd_T123 xs i).f0) ∧ w.cell? ⟨(ad.add (i.toNat * 2)).block, (ad.add (i.toNat * 2)).off + 1, none⟩ = some (.int .i64 (rd_T123 xs i).f1) := by
 obtain ⟨ad, c, e, _, hK, hc0⟩ := Kd.C_get h z123 i h0 h1
 have hc : ∀ j u, c[j]? = some u → w.cell? (ad.add (i.toNat * 2 + j)) = some u := hc0
 obtain rfl := k123_open hK
 exact ⟨ad, e, hc 0 _ rfl, by rw [← add_field _ _ 1 (by omega)]; exact hc 1 _ rfl⟩
structure S36 where
 f0 : Int
 f1 : Int
 f2 : ByteArray
def z36 : S36 := ⟨(0 : Int), (0 : Int), (⟨#[]⟩ : ByteArray)⟩
def k36 : Kd S36 := Kd.iso (Kd.pair (Kd.int .i64) (Kd.pair (Kd.int .i64) Kd.string)) (fun x : S36 => (x.f0, x.f1, x.f2))
theorem k36_open {w : World} {x : S36} {cs : List Value} (h : k36.K w x cs) : cs = [.int .i64 x.f0, .int .i64 x.f1, .string x.f2] := by
 obtain ⟨_, _, rfl, rfl, ⟨_, _, rfl, rfl, rfl⟩⟩ := h
 exact rfl
theorem k36_mk (w : World) (x : S36)  : k36.K w x [.int .i64 x.f0, .int .i64 x.f1, .string x.f2] := ⟨[.int .i64 x.f0], [.int .i64 x.f1, .string x.f2], rfl, rfl, ⟨[.int .i64 x.f1], [.string x.f2], rfl, rfl, rfl⟩⟩
def rd_T36 (xs : List S36) (i : Int) : S36 := xs.getD i.toNat z36
theorem at_T36 {w : World} {A : Option Addr} {n : Nat} {xs : List S36} (h : Kd.C k36 w A n xs) (i : Int) (h0 : 0 ≤ i) (h1 : i < n) : ∃ ad , A = some ad ∧ w.cell? (ad.add (i.toNat * 3)) = some (.int .i64 (rd_T36 xs i).f0) ∧ w.cell? ⟨(ad.add (i.toNat * 3)).block, (ad.add (i.toNat * 3)).off + 1, none⟩ = some (.int .i64 (rd_T36 xs i).f1) ∧ w.cell? ⟨(ad.add (i.toNat * 3)).block, (ad.add (i.toNat * 3)).off + 2, none⟩ = some (.string (rd_T36 xs i).f2) := by
 obtain ⟨ad, c, e, _, hK, hc0⟩ := Kd.C_get h z36 i h0 h1
 have hc : ∀ j u, c[j]? = some u → w.cell? (ad.add (i.toNat * 3 + j)) = some u := hc0
 obtain rfl := k36_open hK
 exact ⟨ad, e, hc 0 _ rfl, by rw [← add_field _ _ 1 (by omega)]; exact hc 1 _ rfl, by rw [← add_field _ _ 2 (by omega)]; exact hc 2 _ rfl⟩
structure S62 where
 f0 : (List Int)
 f1 : ByteArray
def z62 : S62 := ⟨([] : List Int), (⟨#[]⟩ : ByteArray)⟩
def k62 : Kd S62 := Kd.iso (Kd.pair (Kd.slice 3 (Kd.int .i64)) Kd.string) (fun x : S62 => (x.f0, x.f1))
theorem k62_heap : Kd.Heap k62 := Kd.heap_iso _ (Kd.heap_pair (Kd.heap_slice 3 (Kd.heap_int .i64)) Kd.heap_string)
theorem k62_open {w : World} {x : S62} {cs : List Value} (h : k62.K w x cs) : ∃ A0 c0, cs = [.slice A0 x.f0.length c0, .string x.f1] ∧ x.f0.length ≤ c0 ∧ (Kd.int .i64).C w A0 x.f0.length x.f0 := by
 obtain ⟨_, _, rfl, ⟨A0, c0, rfl, l0, g0⟩, rfl⟩ := h
 exact ⟨A0, c0, rfl, l0, g0⟩
theorem k62_openM {w : World} {base : Nat} {ok : Nat → Prop} {x : S62} {cs : List Value} (h : k62.M w base ok x cs) : ∃ v0, cs = [v0, .string x.f1] ∧ (Kd.int .i64).R 3 w base ok v0 x.f0 := by
 obtain ⟨_, _, rfl, ⟨v0, rfl, g0⟩, rfl⟩ := h
 exact ⟨v0, rfl, g0⟩
theorem k62_mk (w : World) (x : S62) {A0 : Option Addr} {c0 : Nat} (l0 : x.f0.length ≤ c0) (g0 : (Kd.int .i64).C w A0 x.f0.length x.f0) : k62.K w x [.slice A0 x.f0.length c0, .string x.f1] := ⟨[.slice A0 x.f0.length c0], [.string x.f1], rfl, ⟨A0, c0, rfl, l0, g0⟩, rfl⟩
theorem k62_mkM (w : World) (base : Nat) (ok : Nat → Prop) (x : S62) {v0 : Value} (g0 : (Kd.int .i64).R 3 w base ok v0 x.f0) : k62.M w base ok x [v0, .string x.f1] := ⟨[v0], [.string x.f1], rfl, ⟨v0, rfl, g0⟩, rfl⟩
theorem k62_openF {W : World} {ok : Nat → Prop} {x : S62} {cs : List Value} (h : Kd.FK k62 W ok x cs) : ∃ A0 c0, cs = [.slice A0 x.f0.length c0, .string x.f1] ∧ x.f0.length ≤ c0 ∧ Kd.F (Kd.int .i64) W ok A0 x.f0.length x.f0 := by
 obtain ⟨A0, c0, rfl, l0, _⟩ := k62_open (Kd.FK_now h)
 exact ⟨A0, c0, rfl, l0, (fun W' hW => by obtain ⟨A0_, c0_, he, l0_, g0_⟩ := k62_open (h W' hW); injection (Option.some.inj (show some (Value.slice A0 x.f0.length c0) = some (Value.slice A0_ x.f0.length c0_) from congrArg (fun l => l[0]?) he)) with ha_ _ _; rw [ha_]; exact g0_)⟩
def rd_T62 (xs : List S62) (i : Int) : S62 := xs.getD i.toNat z62
theorem at_T62 {w : World} {A : Option Addr} {n : Nat} {xs : List S62} (h : Kd.C k62 w A n xs) (i : Int) (h0 : 0 ≤ i) (h1 : i < n) : ∃ ad A0 c0, A = some ad ∧ w.cell? (ad.add (i.toNat * 2)) = some (.slice A0 (rd_T62 xs i).f0.length c0) ∧ w.cell? ⟨(ad.add (i.toNat * 2)).block, (ad.add (i.toNat * 2)).off + 1, none⟩ = some (.string (rd_T62 xs i).f1) ∧ (rd_T62 xs i).f0.length ≤ c0 ∧ (Kd.int .i64).C w A0 (rd_T62 xs i).f0.length (rd_T62 xs i).f0 := by
 obtain ⟨ad, c, e, _, hK, hc0⟩ := Kd.C_get h z62 i h0 h1
 have hc : ∀ j u, c[j]? = some u → w.cell? (ad.add (i.toNat * 2 + j)) = some u := hc0
 obtain ⟨A0, c0, rfl, l0, g0⟩ := k62_open hK
 exact ⟨ad, A0, c0, e, hc 0 _ rfl, by rw [← add_field _ _ 1 (by omega)]; exact hc 1 _ rfl, l0, g0⟩
theorem jw {p : Prop} (h : p := by kernel_rfl) : p := h
theorem below_setA {g i : Nat} {w0 w : World} {u : Value} (h : Below w0.heap.size w0 w) (hg : Aside0 (w0.heap.size ≤ g)) : Below w0.heap.size w0 (w.setCell ⟨g, i, none⟩ u) := below_set h hg.out
theorem jb {p : Prop} (h : p := by repeat (first | (with_reducible first | exact HB.out | apply below_alloc | apply pw_below_drewN | apply below_drew1 | refine below_setA ?_ (by assumption)) | exact HB.out)) : p := h
theorem jm {p : Prop} (h : p := by (try simp only [List.map_toArray, List.map_cons, List.map_nil]); first | done | rfl | (simp only [List.length_drop, List.length_take]; rfl)) : p := h
theorem ja {p : Prop} (h : p := by first | (with_reducible assumption) | assumption) : p := h
theorem js {p : Prop} (h : p := by first | rfl | (simp; done) | (simp [*]; done)) : p := h
theorem jk {p q : Prop} (x : q) (h : q → p := by (intro x_; (with_reducible repeat (first | refine blk_drewN ?_ _ | refine blk_drew ?_ | refine blk_alloc ?_ _)); exact x_)) : p := h x
theorem jr {p q : Prop} (x : q) (h : q → p := by (intro x_; (with_reducible repeat (first | apply Kd.R_alloc | apply Kd.R_drewN | apply Kd.R_drew)); exact x_)) : p := h x
theorem je {p : Prop} (h : p := by first | rfl | (simp [errW_none, errW_some] <;> rfl) | (simp [*, errW_none, errW_some] <;> rfl)) : p := h
theorem jd {p : Prop} (h : p := by repeat (first | exact Drawn0.refl _ | apply Drawn0.step)) : p := h
theorem jo {p : Prop} (h : p) : Aside0 p := ⟨h⟩
theorem jx {P : Program} {ops : Array Oper} {rest : List Oper} {o : Oper} {a : Act} {Q : Exit → Act → World → Prop} {W : World} (N : Tmp) (cs : Array Value) (t : TypeId)
  (h : ∀ g, g = W.heap.size → ∀ w1, w1.heap[g]? = some (.cells cs t (0, 0)) → Below W.heap.size W w1 → wpList P ops Q rest (a.put o.dst (.pointer (some ⟨g, 0, none⟩))) w1) (hd : o.dst = some N := by rfl) (hgd : o.guard = none := by rfl)
  (hrun : (execOp a.eval o).run P W = .ok (.value (.pointer (some ⟨W.heap.size, 0, none⟩))) (W.alloc (.cells cs t (0, 0))) := by first | (go_simp; done) | (go_simp; rfl)) : wpList P ops Q (o :: rest) a W := box_event hgd hd hrun h
section
variable {P : Program} {ops : Array Oper} {Q : Exit → Act → World → Prop} {md : Region.Mode} {S : World → Prop} {ds : List Nat} {is : List Nat} {fuel i : Nat} {l : Array Bool} {a a' : Act} {w : World} {oi : Oper} {v : Value} {N : Option Tmp}
def Todo (P : Program) (md : Region.Mode) (ops : Array Oper) (Q : Exit → Act → World → Prop) (S : World → Prop) (ds : List Nat) (_is : List Nat) (fuel : Nat) (l : Array Bool) (a : Act) (w : World) : Prop := wpAnyLast P md ops Q S ds fuel l a w
theorem td_ (is : List Nat) (h : Todo P md ops Q S ds is fuel l a w) : wpAnyLast P md ops Q S ds fuel l a w := h
theorem tn_ (h : wpAnyLast P md ops Q S ds fuel l a w) : Todo P md ops Q S ds [] fuel l a w := h
theorem pp_ (h : Todo P md ops Q S ds is fuel (l.setIfInBounds i true) a' w) (hi : ops[i]? = some oi := by first | (simp only [List.getElem?_toArray, List.getElem?_cons_zero, List.getElem?_cons_succ]; done) | (simp only [List.getElem?_toArray, List.getElem?_cons_zero, List.getElem?_cons_succ]; rfl)) (hc : anyB md ops l (l.setIfInBounds i true) i = true := by kernel_rfl) (hQ : ∀ c a w, Q (.panic c) (a.put oi.dst v) w → Q (.panic c) a w := by exact fun _ _ _ h => h)
  (hw : Region.wanted oi (yielded ops a.tmps) = true := by rfl) (hy : ∀ w', (execOp a.eval oi).run P w' = .ok (.value v) w' := by (intro w'; go_simp; with_reducible rfl))
  (hN : oi.dst = N := by first | (dsimp only; done) | rfl) (ha : a.put N v = a' := by (simp only [Act.put, List.setIfInBounds_toArray, List.set_cons_zero, List.set_cons_succ, i64_w, i32_w]; rfl)) : Todo P md ops Q S ds (i :: is) (fuel + 1) l a w :=
 pure_ (l.setIfInBounds i true) hi hN hc hQ (.inl ⟨hw, hy⟩) ha h
theorem po_ (h : Todo P md ops Q S ds is fuel (l.setIfInBounds i true) a' w) (hi : ops[i]? = some oi := by first | (simp only [List.getElem?_toArray, List.getElem?_cons_zero, List.getElem?_cons_succ]; done) | (simp only [List.getElem?_toArray, List.getElem?_cons_zero, List.getElem?_cons_succ]; rfl)) (hc : anyB md ops l (l.setIfInBounds i true) i = true := by kernel_rfl) (hQ : ∀ c a w, Q (.panic c) (a.put oi.dst undef) w → Q (.panic c) a w := by exact fun _ _ _ h => h)
  (hw : Region.wanted oi (yielded ops a.tmps) = false := by rfl)
  (hN : oi.dst = N := by first | (dsimp only; done) | rfl) (ha : a.put N undef = a' := by (simp only [Act.put, List.setIfInBounds_toArray, List.set_cons_zero, List.set_cons_succ, i64_w, i32_w]; rfl)) : Todo P md ops Q S ds (i :: is) (fuel + 1) l a w :=
 pure_ (l.setIfInBounds i true) hi hN hc hQ (.inr ⟨hw, rfl⟩) ha h
theorem pt_ (hS : S w) (h : Todo P md ops Q S ds is fuel (l.setIfInBounds i true) a' w) (hi : ops[i]? = some oi := by first | (simp only [List.getElem?_toArray, List.getElem?_cons_zero, List.getElem?_cons_succ]; done) | (simp only [List.getElem?_toArray, List.getElem?_cons_zero, List.getElem?_cons_succ]; rfl)) (hc : takeB md ops ds l (l.setIfInBounds i true) i = true := by kernel_rfl) (hQ : ∀ c a w, Q (.panic c) (a.put oi.dst v) w → Q (.panic c) a w := by exact fun _ _ _ h => h)
  (hw : Region.wanted oi (yielded ops a.tmps) = true := by rfl) (hy : ∀ w', S w' → (execOp a.eval oi).run P w' = .ok (.value v) w' := by (intro w' hs; (try simp only at hs); (repeat (obtain ⟨_, hs⟩ := hs)); go_simp; with_reducible rfl))
  (hN : oi.dst = N := by first | (dsimp only; done) | rfl) (ha : a.put N v = a' := by (simp only [Act.put, List.setIfInBounds_toArray, List.set_cons_zero, List.set_cons_succ, i64_w, i32_w]; rfl)) : Todo P md ops Q S ds (i :: is) (fuel + 1) l a w :=
 take_ (l.setIfInBounds i true) hi hN hc hQ (.inl ⟨hw, hy⟩) hS ha h
theorem nm_ (N : Option Tmp) (h : wpAnyLast P md ops Q S ds fuel l a' w) (ha : a.put N v = a' := by (simp only [Act.put, List.setIfInBounds_toArray, List.set_cons_zero, List.set_cons_succ, i64_w, i32_w]; rfl)) : wpAnyLast P md ops Q S ds fuel l (a.put N v) w := norm_ ha h
theorem on_ (i : Nat) (h : ∀ K : Act → World → Prop, Shut (∀ a' w', S w' → (S w' → wpAnyLast P md ops Q S ds fuel (l.setIfInBounds i true) a' w') → K a' w') → if Region.wanted oi (yielded ops a.tmps) = true then Oper.wp P oi a w K Q else K (a.put N undef) w)
  (hi : ops[i]? = some oi := by first | (simp only [List.getElem?_toArray, List.getElem?_cons_zero, List.getElem?_cons_succ]; done) | (simp only [List.getElem?_toArray, List.getElem?_cons_zero, List.getElem?_cons_succ]; rfl)) (hN : oi.dst = N := by first | (dsimp only; done) | rfl) (hc : readyB md ops l (l.setIfInBounds i true) i = true := by kernel_rfl) (hd : i ∉ ds := by decide) : wpAnyLast P md ops Q S ds (fuel + 1) l a w := one_ (l.setIfInBounds i true) hi hN hc hd h
theorem la_ (i : Nat) (h : ∀ K : Act → World → Prop, Shut (∀ a' w', wpAnyLast P md ops Q S ds fuel (l.setIfInBounds i true) a' w' → K a' w') → if Region.wanted oi (yielded ops a.tmps) = true then Oper.wp P oi a w K Q else K (a.put N undef) w)
  (hi : ops[i]? = some oi := by first | (simp only [List.getElem?_toArray, List.getElem?_cons_zero, List.getElem?_cons_succ]; done) | (simp only [List.getElem?_toArray, List.getElem?_cons_zero, List.getElem?_cons_succ]; rfl)) (hN : oi.dst = N := by first | (dsimp only; done) | rfl) (hc : readyB md ops l (l.setIfInBounds i true) i = true := by kernel_rfl) (hd : i ∈ ds := by decide) : wpAnyLast P md ops Q S ds (fuel + 1) l a w := last_ (l.setIfInBounds i true) hi hN hc hd h
theorem dn_ {n : Nat} (h : Q .normal a w) (hr : (Region.ready md ops l == []) = true := by kernel_rfl) : wpAnyLast P md ops Q S ds n l a w := done_ hr h
theorem st_ {id : Nat} (n : Nat) (hS : S w.drew) (h : S w.drew → wpAnyLast P .any ops Q S ds n (Array.replicate n false) a w.drew) (hm : P.follows .mixedOrders = true := by kernel_rfl) (hn : ops.size = n := by rfl) : (Code.region id ops true).wp P Q a w := start_ (Array.replicate n false) hm hn rfl hS h
theorem gs_ {K : Act → World → Prop} {f : FuncId} {fn : Func} {ao : Array Operand} {ts : Array TypeId} (hf : P.funcs[f]? = some fn) (args : Array Value)
  (h : Calls P f args w fun e w' => ∃ v, e = .returned v ∧ K (a.put N v) w') (hname : (fn.name == "runtime.NumGoroutine") = false := by kernel_rfl) (hb : fn.body.isSome = true := by rfl)
  (hw : Region.wanted oi (yielded ops a.tmps) = true := by rfl) (hN : oi.dst = N := by rfl) (hop : oi.op = .call { callee := .value (.func f), args := ao, argTypes := ts } := by rfl) (hargs : ao.map a.eval = args := by (try simp only [List.map_toArray, List.map_cons, List.map_nil]); first | done | rfl) : if Region.wanted oi (yielded ops a.tmps) = true then Oper.wp P oi a w K Q else K (a.put N undef) w :=
 goes_ hf hname hb args hw hN hop hargs h
end
end Go.Proofs.YtjmooillogojkaaGreat.Q
