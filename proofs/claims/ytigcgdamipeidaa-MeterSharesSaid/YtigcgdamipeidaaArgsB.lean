/- How a slice of structs of whole numbers reads: the cells of each. -/
import Derived.Test.YtigcgdamipeidaaArgs
import Derived.Deep.SlicePairs
namespace Go.Proofs.Ytigcgdamipeidaa.Args
open Go.ChangeShapes Go.WideShapes Go.ChangeAt Go.RowKit Go.Joins Go.Deep
variable {H : Type} {enc : TypeId × Value → H} {w : World} {base : Nat} {spare : Nat → Bool} {held : Bool}

def numV : Value → Int
  | .int _ n => n
  | _ => 0
/-- The cells behind an address: pairs of whole numbers. -/
def Pairs (w : World) (A : Option Addr) (l : List (Int × Int)) : Prop :=
  ∀ i x, l[i]? = some x → ∃ a, A = some a ∧ w.cell? (a.add (i * 2)) = some (.int .i64 x.1) ∧ w.cell? (a.add (i * 2 + 1)) = some (.int .i64 x.2)
def Wf2 (l : List (Int × Int)) : Prop := ∀ x ∈ l, (Lit.int .i64 x.1).wf = true ∧ (Lit.int .i64 x.2).wf = true

theorem cells65 : Try.prog.cellsOf 65 = 2 := by kernel_rfl

theorem open_drops {r : Reach} {b0 : Nat} {v : Value} {d : DataW H} {p : List MemPlace} (hv : Value.okWide Try.prog w r b0 59 v) (h : DataW.Trod enc Try.prog w base spare held 59 v d p) :
    ∃ A c, ∃ l : List (Int × Int), v = .slice A l.length c ∧ l.length ≤ c ∧ Pairs w A l ∧ Wf2 l := by
  obtain ⟨A, len, cap, rfl⟩ := okWide_slice Try.underlying59 hv
  obtain ⟨fuel, hf⟩ := h
  rcases open_slice_pairs Try.underlying59 Try.underlying65 cells65 rfl rfl cells3 cells3 hf with ⟨hcs, _⟩ | ⟨a, len', cap', m, n, V0, V1, D0, D1, P0, P1, hcs, _, hl, _, hm, _, hcell⟩
  · simp [Value.cells] at hcs
    obtain ⟨rfl, rfl, rfl⟩ := hcs
    exact ⟨none, 0, [], rfl, Nat.le_refl _, fun i x hx => by simp at hx, fun x hx => by simp at hx⟩
  · simp [Value.cells] at hcs
    obtain ⟨rfl, rfl, rfl⟩ := hcs
    have hlm : len ≤ m := by rw [hm]; split <;> omega
    refine ⟨some a, cap, (List.range len).map fun i => (numV (V0 i), numV (V1 i)), by simp, by simpa using hl, ?_, ?_⟩
    · intro i x hx
      simp only [List.getElem?_map, Option.map_eq_some_iff] at hx
      obtain ⟨j, hj, rfl⟩ := hx
      obtain ⟨hi, rfl⟩ := List.getElem?_eq_some_iff.1 hj
      simp only [List.length_range] at hi
      simp only [List.getElem_range]
      obtain ⟨h0, h1, t0, t1⟩ := hcell i (by omega)
      obtain ⟨a0, e0, _, wa⟩ := DataW.trod_int Try.underlying3 t0
      obtain ⟨b0, e1, _, wb⟩ := DataW.trod_int Try.underlying3 t1
      simp at e0 e1
      rw [e0] at h0 ⊢
      rw [e1] at h1 ⊢
      exact ⟨a, rfl, h0, h1⟩
    · intro x hx
      simp only [List.mem_map, List.mem_range] at hx
      obtain ⟨i, hi, rfl⟩ := hx
      obtain ⟨h0, h1, t0, t1⟩ := hcell i (by omega)
      obtain ⟨a0, e0, _, wa⟩ := DataW.trod_int Try.underlying3 t0
      obtain ⟨b0, e1, _, wb⟩ := DataW.trod_int Try.underlying3 t1
      simp at e0 e1
      rw [e0, e1]
      exact ⟨wa, wb⟩

/-- The cells behind an address: triples of whole numbers. -/
def Trips (w : World) (A : Option Addr) (l : List (Int × Int × Int)) : Prop :=
  ∀ i x, l[i]? = some x → ∃ a, A = some a ∧ w.cell? (a.add (i * 3)) = some (.int .i64 x.1) ∧ w.cell? (a.add (i * 3 + 1)) = some (.int .i64 x.2.1) ∧ w.cell? (a.add (i * 3 + 2)) = some (.int .i64 x.2.2)
def Wf3 (l : List (Int × Int × Int)) : Prop := ∀ x ∈ l, (Lit.int .i64 x.1).wf = true ∧ (Lit.int .i64 x.2.1).wf = true ∧ (Lit.int .i64 x.2.2).wf = true

theorem open_acts {r : Reach} {b0 : Nat} {v : Value} {d : DataW H} {p : List MemPlace} (hv : Value.okWide Try.prog w r b0 22 v) (h : DataW.Trod enc Try.prog w base spare held 22 v d p) :
    ∃ A c, ∃ l : List (Int × Int × Int), v = .slice A l.length c ∧ l.length ≤ c ∧ Trips w A l ∧ Wf3 l := by
  obtain ⟨A, len, cap, rfl⟩ := okWide_slice Try.underlying22 hv
  obtain ⟨fuel, hf⟩ := h
  rcases open_slice Try.underlying22 hf with ⟨hcs, _⟩ | ⟨a, len', cap', m, n, D, Pl, hcs, _, hl, _, hm, _, hx⟩
  · simp [Value.cells] at hcs
    obtain ⟨rfl, rfl, rfl⟩ := hcs
    exact ⟨none, 0, [], rfl, Nat.le_refl _, fun i x hx => by simp at hx, fun x hx => by simp at hx⟩
  · simp [Value.cells] at hcs
    obtain ⟨rfl, rfl, rfl⟩ := hcs
    have hlm : len ≤ m := by rw [hm]; split <;> omega
    have each : ∀ i, i < m → ∃ q : Int × Int × Int, w.cell? (a.add (i * 3)) = some (.int .i64 q.1) ∧ w.cell? (a.add (i * 3 + 1)) = some (.int .i64 q.2.1) ∧ w.cell? (a.add (i * 3 + 2)) = some (.int .i64 q.2.2) ∧
        (Lit.int .i64 q.1).wf = true ∧ (Lit.int .i64 q.2.1).wf = true ∧ (Lit.int .i64 q.2.2).wf = true := by
      intro i hi
      obtain ⟨cs', h1, h2⟩ := hx i hi
      rw [cells30] at h1
      obtain ⟨_, hlen, hcell⟩ := World.cells?_some h1
      match cs', hlen with
      | [c0, c1, c2], _ =>
        obtain ⟨x, y, z, rfl, rfl, rfl, _, wx, wy, wz⟩ := read_act h2
        have e0 := hcell 0 (by omega)
        have e1 := hcell 1 (by omega)
        have e2 := hcell 2 (by omega)
        rw [add_add] at e0 e1 e2
        exact ⟨(x, y, z), by simpa using e0, by simpa using e1, by simpa using e2, wx, wy, wz⟩
    obtain ⟨q, hq⟩ := choose_lt each
    refine ⟨some a, cap, (List.range len).map q, by simp, by simpa using hl, ?_, ?_⟩
    · intro i x hx
      simp only [List.getElem?_map, Option.map_eq_some_iff] at hx
      obtain ⟨j, hj, rfl⟩ := hx
      obtain ⟨hi, rfl⟩ := List.getElem?_eq_some_iff.1 hj
      simp only [List.length_range] at hi
      simp only [List.getElem_range]
      obtain ⟨h0, h1, h2, _⟩ := hq i (by omega)
      exact ⟨a, rfl, h0, h1, h2⟩
    · intro x hx
      simp only [List.mem_map, List.mem_range] at hx
      obtain ⟨i, hi, rfl⟩ := hx
      exact (hq i (by omega)).2.2.2
end Go.Proofs.Ytigcgdamipeidaa.Args
