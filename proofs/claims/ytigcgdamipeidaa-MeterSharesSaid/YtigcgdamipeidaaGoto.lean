/- The rule by which a scope with one label is walked: at the label a relation that bears a number, which each jump lowers. -/
import Derived.ScopeJumps
import Derived.Deep.LoopGhost
namespace Go.Proofs.Ytigcgdamipeidaa.Goto
open Go
section
variable {P : Program} {a : Act} {w : World} {Q : Exit → Act → World → Prop}

theorem wp_scope_lazy {c rest : Code} (l : Nat) (hf : findLabel c l = some rest)
    (h : ∀ K : Act → World → Prop, (∀ a w, rest.wp P (Exit.jump l K Q) a w → K a w) → c.wp P (Exit.jump l K Q) a w) : (Code.scope c).wp P Q a w := by
  let K : Act → World → Prop := fun a w => ∀ b k cs, ∃ e a' w', Q e a' w' ∧ Arrives P (lone (b.at a (.code rest :: .inScope c :: k)) cs w) b k cs e a' w'
  have hg : ∀ k : List Item, gotoIn l (.inScope c :: k) = some (.code rest :: .inScope c :: k) := fun k => by simp [gotoIn, hf]
  have hK : ∀ a w, rest.wp P (Exit.jump l K Q) a w → K a w := by
    intro a w hr b k cs
    obtain ⟨e, a₁, w₁, hq, harr⟩ := hr b (.inScope c :: k) cs
    cases e with
    | normal => exact ⟨.normal, a₁, w₁, hq, Steps.trans harr (.one step_inScope)⟩
    | exit id => exact ⟨.exit id, a₁, w₁, hq, fun k' hk => harr k' (by simp [exitTo, hk])⟩
    | goto l' =>
      obtain ⟨rfl, hk⟩ := hq
      obtain ⟨e₂, a₂, w₂, hq₂, harr₂⟩ := hk b k cs
      exact ⟨e₂, a₂, w₂, hq₂, .of_steps (harr _ (hg k)) harr₂⟩
    | ret => exact ⟨_, a₁, w₁, hq, harr⟩
    | panic ch => exact ⟨_, a₁, w₁, hq, harr⟩
    | outgrown => exact ⟨_, a₁, w₁, hq, harr⟩
  intro b k cs
  obtain ⟨e, a₁, w₁, hq, harr⟩ := h K hK b (.inScope c :: k) cs
  cases e with
  | normal => exact ⟨.normal, a₁, w₁, hq, .head step_scope (Steps.trans harr (.one step_inScope))⟩
  | exit id => exact ⟨.exit id, a₁, w₁, hq, fun k' hk => .head step_scope (harr k' (by simp [exitTo, hk]))⟩
  | goto l' =>
    obtain ⟨rfl, hk⟩ := hq
    obtain ⟨e₂, a₂, w₂, hq₂, harr₂⟩ := hk b k cs
    exact ⟨e₂, a₂, w₂, hq₂, .of_steps (.head step_scope (harr _ (hg k))) harr₂⟩
  | ret => exact ⟨_, a₁, w₁, hq, .of_steps (.one step_scope) harr⟩
  | panic ch => exact ⟨_, a₁, w₁, hq, .of_steps (.one step_scope) harr⟩
  | outgrown => exact ⟨_, a₁, w₁, hq, .of_steps (.one step_scope) harr⟩

/-- At the label: the relation bears a number; each jump hands on the relation at a smaller one. -/
theorem wp_label_ghost {rest : Code} {l : Nat} {K : Act → World → Prop} (hK : ∀ a w, rest.wp P (Exit.jump l K Q) a w → K a w)
    (I : Nat → Act → World → Prop) (n₀ : Nat) (h₀ : I n₀ a w)
    (round : ∀ n a w, I n a w → ∀ (J : Nat → Act → World → Prop) (K' : Act → World → Prop), (∀ k a' w', I k a' w' → J k a' w') → (∀ a' w', Handed J n a' w' → K' a' w') → rest.wp P (Exit.jump l K' Q) a w) :
    rest.wp P (Exit.jump l K Q) a w := by
  induction n₀ using Nat.strongRecOn generalizing a w with
  | _ n ih =>
    refine wp_mono (round n a w h₀ I _ (fun _ _ _ q => q) (fun _ _ q => q)) ?_
    intro e a' w' hq
    cases e with
    | goto l' =>
      obtain ⟨rfl, n', hlt, hI⟩ := hq
      exact ⟨rfl, hK _ _ (ih n' hlt hI)⟩
    | normal => exact hq
    | exit id => exact hq
    | ret => exact hq
    | panic ch => exact hq
    | outgrown => exact hq

/-- The same at the label itself: B is the code behind it. -/
theorem label_ghost {B : Code} {l l' : Nat} {K K1 : Act → World → Prop} {R : Exit → Act → World → Prop} (hK : ∀ a w, (Code.seq .skip B).wp P (Exit.jump l K Q) a w → K a w)
    (hy : ∀ a w, B.wp P (Exit.jump l K Q) a w → K1 a w) (I : Nat → Act → World → Prop) (n₀ : Nat) (h₀ : I n₀ a w)
    (round : ∀ n a w, I n a w → ∀ (J : Nat → Act → World → Prop) (K' : Act → World → Prop), (∀ k a' w', I k a' w' → J k a' w') → (∀ a' w', Handed J n a' w' → K' a' w') → B.wp P (Exit.jump l K' Q) a w) :
    (Code.label l').wp P (Exit.then K1 R) a w :=
  wp_label (hy _ _ (wp_label_ghost (fun a w h => hK a w (wp_seq (wp_skip h))) I n₀ h₀ round))

theorem jump_ret {l : Nat} {K : Act → World → Prop} : Exit.jump l K Q .ret a w = Q .ret a w := rfl
theorem jump_normal {l : Nat} {K : Act → World → Prop} : Exit.jump l K Q .normal a w = Q .normal a w := rfl
theorem jump_goto {l : Nat} {K : Act → World → Prop} (h : K a w) : Exit.jump l K Q (.goto l) a w := ⟨rfl, h⟩
theorem handed_step {J : Nat → Act → World → Prop} {K' : Act → World → Prop} {n : Nat} (hK : ∀ a' w', Handed J n a' w' → K' a' w') (k : Nat) (h1 : k < n) (h2 : J k a w) : K' a w := hK _ _ ⟨k, h1, h2⟩

/-- Some slots of a frame, written anew: those that the mask names. -/
def putAll : List Value → List Bool → List Value → List Value
  | _ :: xs, true :: m, v :: vs => v :: putAll xs m vs
  | x :: xs, false :: m, vs => x :: putAll xs m vs
  | xs, _, _ => xs
theorem putAll_true (x v : Value) (xs vs : List Value) (m : List Bool) : putAll (x :: xs) (true :: m) (v :: vs) = v :: putAll xs m vs := rfl
theorem putAll_false (x : Value) (xs vs : List Value) (m : List Bool) : putAll (x :: xs) (false :: m) vs = x :: putAll xs m vs := by cases vs <;> rfl
theorem putAll_nil (m : List Bool) (vs : List Value) : putAll [] m vs = [] := by cases m <;> cases vs <;> rfl

/-- The frame a, its slots under the mask written anew. -/
def putFrame (a : Act) (m : List Bool) (vs : List Value) : Act := { tmps := (putAll a.tmps.toList m vs).toArray, defers := a.defers }
theorem putFrame_mk (xs : List Value) (m : List Bool) (vs : List Value) (d : List Deferred) : putFrame { tmps := xs.toArray, defers := d } m vs = { tmps := (putAll xs m vs).toArray, defers := d } := rfl

/-- At the label, the relation being told of the slots ds alone: the others stay as they are. -/
theorem label_ghost_put {B : Code} {l l' : Nat} {K K1 : Act → World → Prop} {R : Exit → Act → World → Prop} (hK : ∀ a w, (Code.seq .skip B).wp P (Exit.jump l K Q) a w → K a w)
    (hy : ∀ a w, B.wp P (Exit.jump l K Q) a w → K1 a w) (ds : List Bool) (I : Nat → List Value → World → Prop) (n₀ : Nat) (vs₀ : List Value) (h₀ : I n₀ vs₀ w) (he : a = putFrame a ds vs₀)
    (round : ∀ n vs wr, I n vs wr → ∀ (J : Nat → List Value → World → Prop) (K' : Act → World → Prop), (∀ k vs' w', I k vs' w' → J k vs' w') →
      (∀ k vs' w', k < n → J k vs' w' → K' (putFrame a ds vs') w') → B.wp P (Exit.jump l K' Q) (putFrame a ds vs) wr) :
    (Code.label l').wp P (Exit.then K1 R) a w := by
  refine label_ghost hK hy (fun k a' w' => ∃ vs, I k vs w' ∧ a' = putFrame a ds vs) n₀ ⟨vs₀, h₀, he⟩ ?_
  rintro n a' wr ⟨vs, hI, rfl⟩ J K' hJ hK'
  refine round n vs wr hI (fun k vs' w' => J k (putFrame a ds vs') w') K' (fun k vs' w' h => hJ _ _ _ ⟨vs', h, rfl⟩) ?_
  intro k vs' w' hlt h
  exact hK' _ _ ⟨k, hlt, h⟩

/-- At a goto: the slots' new values, and the relation of them. -/
theorem goto_put {l : Nat} {a0 : Act} {ds : List Bool} {n : Nat} {I J : Nat → List Value → World → Prop} {K' : Act → World → Prop}
    (hK' : ∀ k vs' w', k < n → J k vs' w' → K' (putFrame a0 ds vs') w') (hJ : ∀ k vs' w', I k vs' w' → J k vs' w') (k : Nat) (vs : List Value)
    (hlt : k < n) (he : a = putFrame a0 ds vs) (h : I k vs w) : Exit.jump l K' Q (.goto l) a w := by
  subst he
  exact ⟨rfl, hK' k vs w hlt (hJ _ _ _ h)⟩
end
end Go.Proofs.Ytigcgdamipeidaa.Goto
