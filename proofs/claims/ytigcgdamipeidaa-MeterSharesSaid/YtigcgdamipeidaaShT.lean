/- A turn in plain numbers, and what a step's row is. -/
import Derived.Test.YtigcgdamipeidaaShA
import Derived.Test.YtigcgdamipeidaaShQ
namespace Go.Proofs.Ytigcgdamipeidaa.Shr
open Go.RowKit Go.Proofs.YtigcgdamipeidaaW.PrintWords Go.Proofs.YtigcgdamipeidaaW.PrintLast Go.Proofs.YtigcgdamipeidaaW.PrintMore Go.Proofs.Ytigcgdamipeidaa Go.Proofs.Ytigcgdamipeidaa.Q

theorem up_self {α : Type} (f : Nat → α) (p : Nat) : up f p (f p) = f := by
  funext i
  unfold up
  split
  · rename_i h
    rw [h]
  · rfl
theorem up_up {α : Type} (f : Nat → α) (p : Nat) (x y : α) : up (up f p x) p y = up f p y := by
  funext i
  unfold up
  split <;> rfl
/-- As long as something waits, and the first size is at most the credit, that is sent: the credit, what waits, what was sent. -/
def turnL : Int → List Int → Int × List Int × List Int
  | _, [] => (0, [], [])
  | c, x :: xs => if x ≤ c then ((turnL (c - x) xs).1, (turnL (c - x) xs).2.1, x :: (turnL (c - x) xs).2.2) else (c, x :: xs, [])

/-- What is sent, as cells: a step is a peer and a size. -/
def stCells (l : List (Int × Int)) : List Value := l.flatMap fun x => [.int .i64 x.1, .int .i64 x.2]
theorem stCells_append (l m : List (Int × Int)) : stCells (l ++ m) = stCells l ++ stCells m := by simp [stCells]
theorem stCells_length (l : List (Int × Int)) : (stCells l).length = l.length * 2 := by
  induction l with
  | nil => rfl
  | cons x xs ih =>
    simp only [stCells, List.flatMap_cons, List.length_append, List.length_cons, List.length_nil] at *
    omega
/-- The steps of one peer. -/
def of (node : Int) (o : List Int) : List (Int × Int) := o.map fun x => (node, x)
/-- A slice value that is a row of the call's own, with these steps. -/
def Qst (w : World) (B : Nat) (v : Value) (l : List (Int × Int)) : Prop := QRow w B 51 2 v l.length (stCells l)
theorem Qst_nil (w : World) (B : Nat) : Qst w B (.slice none 0 0) [] := q_of_own (own_nil w B 51 2)

theorem qi_head {w : World} {B : Nat} {v : Value} {x : Int} {xs : List Int} (h : Qi w B v (x :: xs)) :
    ∃ b off c, v = .slice (some ⟨b, off, none⟩) (xs.length + 1) c ∧ w.cell? ⟨b, off, none⟩ = some (.int .i64 x) ∧ xs.length + 1 ≤ c := by
  obtain ⟨_, h2⟩ := h
  rcases h2 with ⟨h0, _⟩ | ⟨b, off, cap, cur, he, _, hh, hn, _, hs, ht⟩
  · simp at h0
  · refine ⟨b, off * 1, cap, he, ?_, hn⟩
    rw [blk_cell hh]
    have hl := congrArg (fun l => l[0]?) ht
    simp [nums] at hl
    simpa using hl
theorem qi_tail {w : World} {B : Nat} {b off c : Nat} {x : Int} {xs : List Int} (h : Qi w B (.slice (some ⟨b, off, none⟩) (xs.length + 1) c) (x :: xs)) :
    Qi w B (.slice (if c = 1 then some ⟨b, off, none⟩ else some ⟨b, off + 1, none⟩) xs.length (c - 1)) xs := by
  have := q_drop (k := 1) (c := c) h (by simp)
  simp only [Nat.add_sub_cancel, Nat.one_mul] at this
  have e : (nums .i64 (x :: xs)).drop 1 = nums .i64 xs := by simp [nums]
  rw [e] at this
  have e2 : (Option.map (fun a : Addr => a.add 1) (some ⟨b, off, none⟩)) = some ⟨b, off + 1, none⟩ := by simp [Addr.add]
  rw [e2] at this
  exact this
theorem cut_one (b off n c : Nat) (W : World) : (Instr.slice 43 (.slice (some ⟨b, off, none⟩) (n + 1) c) (some (.int .i64 1)) none none).run Try.prog W = .ok (.slice (if c = 1 then some ⟨b, off, none⟩ else some ⟨b, off + 1, none⟩) n (c - 1)) W := by
  obtain ⟨i0, hi, hzz⟩ := Option.map_eq_some_iff.1 info3
  simp only [Prod.mk.injEq] at hzz
  rw [cut_from (P := Try.prog) 43 3 .i64 Try.underlying43 hi 1 hzz.2.1 (some ⟨b, off, none⟩) (n + 1) c 1 (by omega) (by omega)]
  simp [Addr.add]
theorem tail_block (b off n c : Nat) : (Value.slice (if c = 1 then some ⟨b, off, none⟩ else some ⟨b, off + 1, none⟩) n (c - 1)).ownBlock = some b := by
  split <;> rfl

theorem info51 : (Try.prog.info? 51).map (fun i => (i.zero, i.size, i.bytes)) = some (some (.agg #[.int .i64 0, .int .i64 0]), 2, 16) := by kernel_rfl
section
variable {ops : Array Oper} {o : Oper} {rest : List Oper} {a : Act} {Q' : Exit → Act → World → Prop} {W : World} {B : Nat}
/-- Steps more at the end of what was sent: out of a row that lies in the world. -/
theorem steps_run (v : Value) (l m : List (Int × Int)) (ad : Addr) (c : Nat) (ty : TypeId) (hm : 0 < m.length) (hc : ∀ j u, (stCells m)[j]? = some u → W.cell? (ad.add j) = some u) (HO : Qst W B v l) (hbase : B ≤ W.heap.size) (hl : l.length + m.length < 1000000) :
    ∃ v1 w1, (Builtin.append_ #[39, 39] ty #[v, .slice (some ad) m.length c]).run Try.prog W = .ok v1 w1 ∧ Qst w1 B v1 (l ++ m) ∧ W.grownBy w1 v.ownBlock ∧ (v1.ownBlock = v.ownBlock ∨ ∃ b, v1.ownBlock = some b ∧ W.heap.size ≤ b) := by
  obtain ⟨i0, hi, hzz⟩ := Option.map_eq_some_iff.1 info51
  simp only [Prod.mk.injEq] at hzz
  obtain ⟨hz0, hz1, hz2⟩ := hzz
  obtain ⟨v1, w1, hrun, hq1, hg1, hat⟩ := q_append (P := Try.prog) W B 39 ty 51 i0 (.agg #[.int .i64 0, .int .i64 0]) 2 16 Try.underlying39 hi hz0 hz1 hz2 rfl (by decide) v l.length (stCells l) HO ad m.length c (stCells m) (stCells_length m) hc
    (by
      intro u hu
      simp only [stCells, List.mem_flatMap, List.mem_cons, List.not_mem_nil, or_false] at hu
      obtain ⟨x, _, rfl | rfl⟩ := hu <;> rfl) hm (by simp only [maxLen]; omega) (by omega) hbase
  refine ⟨v1, w1, hrun, ?_, hg1, hat⟩
  show QRow w1 B 51 2 v1 (l ++ m).length (stCells (l ++ m))
  rw [List.length_append, stCells_append]
  exact hq1
/-- One step more. -/
theorem step_append (hgd : o.guard = none) (s x : Operand) (ho : o.op = .call { callee := .builtin .append, args := #[s, x], argTypes := #[39, 39] }) (v : Value) (node : Int) (l : List (Int × Int)) (y : Int)
    (hs : a.eval s = v) (hx : a.eval x = .slice (some ⟨W.heap.size, 0, none⟩) 1 1) (HO : Qst W B v l) (hbase : B ≤ W.heap.size) (hl : l.length < 900000)
    (h : ∀ v1 w1, Qst w1 B v1 (l ++ [(node, y)]) → W.grownBy w1 v.ownBlock → (v1.ownBlock = v.ownBlock ∨ ∃ b, v1.ownBlock = some b ∧ W.heap.size ≤ b) → wpList Try.prog ops Q' rest (a.put o.dst v1) w1) :
    wpList Try.prog ops Q' (o :: rest) a (W.alloc (.cells #[.int .i64 node, .int .i64 y] 51)) := by
  have HO' : Qst (W.alloc (.cells #[.int .i64 node, .int .i64 y] 51)) B v l := q_move HO (fun k hk => Below.heap_alloc W _ k (q_lt HO k hk))
  obtain ⟨v1, w1, hr, h1, h2, h3⟩ := steps_run v l [(node, y)] ⟨W.heap.size, 0, none⟩ 1 o.type (by simp) (by simpa [stCells] using World.news_of_block (cs := #[.int .i64 node, .int .i64 y]) (t := 51) (fr := (0, 0)) (heap_alloc_new W (.cells #[.int .i64 node, .int .i64 y] 51)))
    HO' (by simp; omega) (by simp; omega)
  refine wpList_plain hgd fun K hK => ?_
  unfold Oper.wp execOp
  simp only [ho, resolve, invoke, builtin, Sem.run_bind, Sem.run_pure, Result.andThen_ok, List.map_toArray, List.map_cons, List.map_nil, hs, hx]
  rw [show ([(node, y)] : List (Int × Int)).length = 1 from rfl] at hr
  rw [hr]
  simp only [Result.andThen_ok]
  refine hK _ _ (h v1 w1 h1 (World.grownBy.trans (World.grownBy_alloc W _ _) h2) ?_)
  rcases h3 with h3 | ⟨b, hb, hle⟩
  · exact .inl h3
  · exact .inr ⟨b, hb, by rw [World.size_alloc] at hle; omega⟩
end
end Go.Proofs.Ytigcgdamipeidaa.Shr
