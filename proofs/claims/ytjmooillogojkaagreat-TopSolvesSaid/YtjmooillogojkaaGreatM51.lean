/- How the arguments of TopSolves read. No condition. -/
import Derived.ProofKit
import Derived.OpenShut
import Derived.Lib.SmallJoins
import Derived.Deep.SlicePairs
import Derived.ChangeMaps5
import Derived.Test.YtjmooillogojkaaGreatM05
set_option maxHeartbeats 8000000
set_option maxRecDepth 100000
set_option linter.unusedVariables false
set_option linter.unusedSimpArgs false
set_option linter.constructorNameAsVariable false
namespace Go.Proofs.YtjmooillogojkaaGreat.Args
open Go.ChangeShapes Go.WideShapes Go.ChangeAt Go.RowKit Go.Joins Go.Deep
open Go.Proofs.YtjmooillogojkaaGreat.Q Go.Proofs.YtjmooillogojkaaGreatW.PrintWords
variable {H : Type} {enc : TypeId × Value → H} {w : World} {base : Nat} {spare : Nat → Bool} {held : Bool}
theorem cells3 : Tryz.prog.cellsOf 3 = 1 := by kernel_rfl
theorem cells9 : Tryz.prog.cellsOf 9 = 1 := by kernel_rfl
theorem cells23 : Tryz.prog.cellsOf 23 = 2 := by kernel_rfl
theorem cells25 : Tryz.prog.cellsOf 25 = 4 := by kernel_rfl
theorem cells27 : Tryz.prog.cellsOf 27 = 6 := by kernel_rfl
theorem cells36 : Tryz.prog.cellsOf 36 = 3 := by kernel_rfl
theorem array6 {cs : Array Value} (h : cs.size = 6) : ∃ a b c d e f, cs = #[a, b, c, d, e, f] := by
 obtain ⟨l⟩ := cs
 match l, h with
 | [a, b, c, d, e, f], _ => exact ⟨a, b, c, d, e, f, rfl⟩
theorem open_want {r : Reach} {b0 : Nat} {v : Value} {d : DataW H} {p : List MemPlace} (hv : Value.okWide Tryz.prog w r b0 27 v) (h : DataW.Trod enc Tryz.prog w base spare held 27 v d p) :
  ∃ a b c e f g : Int, v = .agg #[.int .i64 a, .int .i64 b, .int .i64 c, .int .i64 e, .int .i64 f, .int .i64 g] := by
 obtain ⟨cs, rfl, hsz⟩ := okWide_struct Tryz.underlying27 hv
 obtain ⟨c0, c1, c2, c3, c4, c5, rfl⟩ := array6 (hsz.trans cells27)
 obtain ⟨fuel, hf⟩ := h
 obtain ⟨y0, y1, y2, n, hx, _, h0, h1, h2⟩ := trod_struct3 Tryz.underlying27 hf
 simp only [Value.cells, cells3, cells25, List.drop_zero, List.drop_succ_cons, List.take_succ_cons, List.take_zero] at h0 h1 h2
 obtain ⟨a, e0, rfl, _⟩ := DataW.trod_int Tryz.underlying3 h0
 obtain ⟨b, e1, rfl, _⟩ := DataW.trod_int Tryz.underlying3 h1
 obtain ⟨z0, z1, z2, n2, hx2, _, g0, g1, g2⟩ := trod_struct3 Tryz.underlying25 h2
 simp only [cells3, cells23, List.drop_zero, List.drop_succ_cons, List.take_succ_cons, List.take_zero] at g0 g1 g2
 obtain ⟨u0, u1, n3, hx3, _, k0, k1⟩ := trod_struct2 Tryz.underlying23 g0
 simp only [cells3, List.drop_zero, List.drop_succ_cons, List.take_succ_cons, List.take_zero] at k0 k1
 obtain ⟨c, e2, rfl, _⟩ := DataW.trod_int Tryz.underlying3 k0
 obtain ⟨e, e3, rfl, _⟩ := DataW.trod_int Tryz.underlying3 k1
 obtain ⟨f, e4, rfl, _⟩ := DataW.trod_int Tryz.underlying3 g1
 obtain ⟨g, e5, rfl, _⟩ := DataW.trod_int Tryz.underlying3 g2
 simp at e0 e1 e2 e3 e4 e5
 subst e0 e1 e2 e3 e4 e5
 exact ⟨a, b, c, e, f, g, rfl⟩
theorem read_head {fuel : Nat} {c0 c1 c2 : Value} {y : DataW H × List MemPlace} (hf : DataW.trod enc Tryz.prog w base spare held fuel 36 [c0, c1, c2] = some y) :
  ∃ x : S36, c0 = .int .i64 x.f0 ∧ c1 = .int .i64 x.f1 ∧ c2 = .string x.f2 := by
 obtain ⟨y0, y1, y2, n, hx, _, h0, h1, h2⟩ := trod_struct3 Tryz.underlying36 hf
 simp only [cells3, cells9, List.drop_zero, List.drop_succ_cons, List.take_succ_cons, List.take_zero] at h0 h1 h2
 obtain ⟨a, e0, rfl, _⟩ := DataW.trod_int Tryz.underlying3 h0
 obtain ⟨b, e1, rfl, _⟩ := DataW.trod_int Tryz.underlying3 h1
 obtain ⟨c, e2, rfl, _⟩ := DataW.trod_string Tryz.underlying9 h2
 simp at e0 e1 e2
 exact ⟨⟨a, b, c⟩, e0, e1, e2⟩
theorem open_heads {r : Reach} {b0 : Nat} {v : Value} {d : DataW H} {p : List MemPlace} (hv : Value.okWide Tryz.prog w r b0 28 v) (h : DataW.Trod enc Tryz.prog w base spare held 28 v d p) :
  ∃ A c, ∃ l : List S36, v = .slice A l.length c ∧ l.length ≤ c ∧ Kd.C k36 w A l.length l := by
 obtain ⟨A, len, cap, rfl⟩ := okWide_slice Tryz.underlying28 hv
 obtain ⟨fuel, hf⟩ := h
 rcases open_slice Tryz.underlying28 hf with ⟨hcs, _⟩ | ⟨a, len', cap', m, n, D, Pl, hcs, _, hl, hm0, hm, _, hx⟩
 ·simp [Value.cells] at hcs
  obtain ⟨rfl, rfl, rfl⟩ := hcs
  exact ⟨none, 0, [], rfl, Nat.le_refl _, rfl, by decide, fun h => absurd h (Nat.lt_irrefl _)⟩
 ·simp [Value.cells] at hcs
  obtain ⟨rfl, rfl, rfl⟩ := hcs
  have hlm : len ≤ m := by rw [hm]; split <;> omega
  have each : ∀ i, i < m → ∃ q : S36, w.cell? (a.add (i * 3)) = some (.int .i64 q.f0) ∧ w.cell? (a.add (i * 3 + 1)) = some (.int .i64 q.f1) ∧ w.cell? (a.add (i * 3 + 2)) = some (.string q.f2) := by
   intro i hi
   obtain ⟨cs', h1, h2⟩ := hx i hi
   rw [cells36] at h1
   obtain ⟨_, hlen, hcell⟩ := World.cells?_some h1
   match cs', hlen with
   | [c0, c1, c2], _ =>
    obtain ⟨x, rfl, rfl, rfl⟩ := read_head h2
    have e0 := hcell 0 (by omega)
    have e1 := hcell 1 (by omega)
    have e2 := hcell 2 (by omega)
    rw [Go.Deep.add_add] at e0 e1 e2
    exact ⟨x, by simpa using e0, by simpa using e1, by simpa using e2⟩
  have inh : Inhabited S36 := ⟨z36⟩
  obtain ⟨q, hq⟩ := choose_lt each
  refine ⟨some a, cap, (List.range len).map q, by simp, by simpa using hl, by simp, ?_, fun _ => ⟨a, rfl, fun j x hj => ?_⟩⟩
  ·simp only [List.length_map, List.length_range]
   exact Nat.le_trans hl (Nat.le_trans hm0 (by decide))
  ·simp only [List.getElem?_map, Option.map_eq_some_iff] at hj
   obtain ⟨j', hj', rfl⟩ := hj
   obtain ⟨hi, rfl⟩ := List.getElem?_eq_some_iff.1 hj'
   simp only [List.length_range] at hi
   simp only [List.getElem_range]
   obtain ⟨h0, h1, h2⟩ := hq j (by omega)
   refine ⟨_, rfl, k36_mk w (q j), fun i u hu => ?_⟩
   match i, hu with
   | 0, hu => obtain rfl := Option.some.inj hu; exact h0
   | 1, hu => obtain rfl := Option.some.inj hu; exact h1
   | 2, hu => obtain rfl := Option.some.inj hu; exact h2
   | i + 3, hu => simp at hu
end Go.Proofs.YtjmooillogojkaaGreat.Args
