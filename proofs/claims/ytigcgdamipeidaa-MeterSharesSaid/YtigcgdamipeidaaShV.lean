/- All peers' turns in plain numbers, and the row of all that was sent. -/
import Derived.Test.YtigcgdamipeidaaShT
import Derived.Deep.Upon
namespace Go.Proofs.Ytigcgdamipeidaa.Shr
open Go.RowKit Go.Proofs.YtigcgdamipeidaaW.PrintWords Go.Proofs.YtigcgdamipeidaaW.PrintLast Go.Proofs.YtigcgdamipeidaaW.PrintMore Go.Proofs.Ytigcgdamipeidaa Go.Proofs.Ytigcgdamipeidaa.Q

/-- What may be in a share. -/
structure Fit (S : Sh) : Prop where
  q : 1 ≤ S.q ∧ S.q ≤ 65536
  wt : ∀ p, p < 16 → 0 ≤ S.wt p ∧ S.wt p ≤ 16
  cr : ∀ p, p < 16 → 0 ≤ S.cr p ∧ S.cr p ≤ 16777216
  long : ∀ p, p < 16 → (S.l p).length ≤ 100
  size : ∀ p, p < 16 → ∀ x ∈ S.l p, 1 ≤ x ∧ x ≤ 65536

/-- One peer's turn: the credit, what waits, what was sent. -/
def turnP (S : Sh) (p : Nat) : Int × List Int × List Int := turnL (mn (S.cr p + S.wt p * S.q) 16777216) (S.l p)
/-- Behind it. -/
def afterP (S : Sh) (p : Nat) : Sh := { S with cr := up S.cr p (turnP S p).1, l := up S.l p (turnP S p).2.1 }
/-- The turns of the peers below i: the share, what was sent, and whether anything waited. -/
def turnTo (S : Sh) : Nat → Sh × List (Int × Int) × Bool
  | 0 => (S, [], false)
  | i + 1 => if ((turnTo S i).1.l i).length = 0 then turnTo S i else (afterP (turnTo S i).1 i, (turnTo S i).2.1 ++ of i (turnP (turnTo S i).1 i).2.2, true)

theorem turnL_fit (l : List Int) : ∀ c : Int, 0 ≤ c → c ≤ 16777216 → (∀ x ∈ l, 1 ≤ x ∧ x ≤ 65536) →
    (0 ≤ (turnL c l).1 ∧ (turnL c l).1 ≤ 16777216) ∧ (turnL c l).2.1.length + (turnL c l).2.2.length = l.length ∧ l = (turnL c l).2.2 ++ (turnL c l).2.1 := by
  induction l with
  | nil => intro c _ _ _; simp [turnL]
  | cons x xs ih =>
    intro c h0 h1 h2
    simp only [turnL]
    split
    · obtain ⟨a, b, d⟩ := ih (c - x) (by omega) (by have := h2 x List.mem_cons_self; omega) (fun y hy => h2 y (List.mem_cons_of_mem _ hy))
      refine ⟨a, ?_, ?_⟩
      · simp only [List.length_cons]
        omega
      · rw [List.cons_append]
        congr 1
    · exact ⟨⟨h0, h1⟩, by simp, by simp⟩
theorem mn_fit {a : Int} (h : 0 ≤ a) : 0 ≤ mn a 16777216 ∧ mn a 16777216 ≤ 16777216 := by
  unfold mn
  split <;> omega
theorem prod_fit {S : Sh} (h : Fit S) {p : Nat} (hp : p < 16) : 0 ≤ S.cr p + S.wt p * S.q := by
  have := Int.mul_nonneg (h.wt p hp).1 (show 0 ≤ S.q by have := h.q; omega)
  have := (h.cr p hp).1
  omega
theorem turnP_fit {S : Sh} (h : Fit S) {p : Nat} (hp : p < 16) :
    (0 ≤ (turnP S p).1 ∧ (turnP S p).1 ≤ 16777216) ∧ (turnP S p).2.1.length + (turnP S p).2.2.length = (S.l p).length ∧ S.l p = (turnP S p).2.2 ++ (turnP S p).2.1 :=
  turnL_fit (S.l p) _ (mn_fit (prod_fit h hp)).1 (mn_fit (prod_fit h hp)).2 (h.size p hp)
theorem afterP_fit {S : Sh} (h : Fit S) {p : Nat} (hp : p < 16) : Fit (afterP S p) := by
  obtain ⟨h1, h2, h3⟩ := turnP_fit h hp
  refine ⟨h.q, h.wt, ?_, ?_, ?_⟩
  · intro i hi
    show 0 ≤ up S.cr p _ i ∧ up S.cr p _ i ≤ _
    unfold up
    split
    · exact h1
    · exact h.cr i hi
  · intro i hi
    show (up S.l p _ i).length ≤ 100
    unfold up
    split
    · have := h.long p hp
      omega
    · exact h.long i hi
  · intro i hi
    show ∀ x ∈ up S.l p _ i, _
    unfold up
    split
    · intro x hx
      exact h.size p hp x (by rw [h3]; exact List.mem_append_right _ hx)
    · exact h.size i hi
theorem turnTo_fit {S : Sh} (h : Fit S) : ∀ i, i ≤ 16 → Fit (turnTo S i).1 := by
  intro i
  induction i with
  | zero => exact fun _ => h
  | succ i ih =>
    intro hi
    simp only [turnTo]
    split
    · exact ih (by omega)
    · exact afterP_fit (ih (by omega)) (by omega)
theorem turnTo_long {S : Sh} (h : Fit S) : ∀ i, i ≤ 16 → (turnTo S i).2.1.length ≤ 100 * i := by
  intro i
  induction i with
  | zero => exact fun _ => Nat.le_refl _
  | succ i ih =>
    intro hi
    have := ih (by omega)
    simp only [turnTo]
    split
    · omega
    · have hf := turnTo_fit h i (by omega)
      have h2 := (turnP_fit hf (p := i) (by omega)).2.1
      have h3 := hf.long i (by omega)
      simp only [List.length_append, of, List.length_map]
      omega

theorem qst_slice {w : World} {B : Nat} {v : Value} {l : List (Int × Int)} (h : Qst w B v l) : ∃ A c, v = .slice A l.length c := by
  obtain ⟨_, h2⟩ := h
  rcases h2 with ⟨h0, A, he, _⟩ | ⟨b, off, cap, cur, he, _⟩
  · exact ⟨A, 0, by rw [he, h0]⟩
  · exact ⟨_, cap, he⟩
/-- What lies in a row of steps. -/
theorem qst_cells {w : World} {B : Nat} {ad : Option Addr} {n c : Nat} {l : List (Int × Int)} (h : Qst w B (.slice ad n c) l) (hl : 0 < l.length) : n = l.length ∧ ∃ a, ad = some a ∧ ∀ j u, (stCells l)[j]? = some u → w.cell? (a.add j) = some u := by
  obtain ⟨_, h2⟩ := h
  rcases h2 with ⟨h0, _⟩ | ⟨b, off, cap, cur, he, _, hh, _, _, _, ht⟩
  · omega
  · injection he with ha hn hc
    refine ⟨hn, _, ha, fun j u hj => ?_⟩
    rw [show (⟨b, off * 2, none⟩ : Addr).add j = ⟨b, off * 2 + j, none⟩ by simp [Addr.add]]
    rw [blk_cell hh, ← hj, ← ht]
    have hj2 : j < l.length * 2 := by
      have := (List.getElem?_eq_some_iff.1 hj).1
      rw [stCells_length] at this
      exact this
    rw [List.getElem?_take, if_pos hj2, List.getElem?_drop]
    simp
end Go.Proofs.Ytigcgdamipeidaa.Shr
