/- One size more at the end of a row: the append, inside a region and outside. -/
import Derived.Test.YtigcgdamipeidaaSh
namespace Go.Proofs.Ytigcgdamipeidaa.Shr
open Go.RowKit Go.Proofs.YtigcgdamipeidaaW.PrintWords Go.Proofs.YtigcgdamipeidaaW.PrintLast Go.Proofs.YtigcgdamipeidaaW.PrintMore Go.Proofs.Ytigcgdamipeidaa Go.Proofs.Ytigcgdamipeidaa.Q

theorem info3 : (Try.prog.info? 3).map (fun i => (i.zero, i.size, i.bytes)) = some (some (.int .i64 0), 1, 8) := by kernel_rfl

theorem qi_run {W : World} {B : Nat} {v : Value} {xs : List Int} (y : Int) (ty : TypeId) (HO : Qi W B v xs) (hbase : B ≤ W.heap.size) (hl : xs.length < 1000000) :
    ∃ v1 w1, (Builtin.append_ #[43, 43] ty #[v, .slice (some ⟨W.heap.size, 0, none⟩) 1 1]).run Try.prog (W.alloc (.cells #[.int .i64 y] 3)) = .ok v1 w1 ∧ Qi w1 B v1 (xs ++ [y]) ∧ W.grownBy w1 v.ownBlock ∧
      (v1.ownBlock = v.ownBlock ∨ ∃ b, v1.ownBlock = some b ∧ W.heap.size ≤ b) := by
  obtain ⟨i0, hi, hzz⟩ := Option.map_eq_some_iff.1 info3
  simp only [Prod.mk.injEq] at hzz
  obtain ⟨hz0, hz1, hz2⟩ := hzz
  have hq : QRow (W.alloc (.cells #[.int .i64 y] 3)) B 3 1 v xs.length (nums .i64 xs) := q_move HO (fun k hk => Below.heap_alloc W _ k (q_lt HO k hk))
  obtain ⟨v1, w1, hrun, hq1, hg1, hat⟩ := q_append (P := Try.prog) (W.alloc (.cells #[.int .i64 y] 3)) B 43 ty 3 i0 (.int .i64 0) 1 8 Try.underlying43 hi hz0 hz1 hz2 rfl (by decide) v xs.length (nums .i64 xs) hq ⟨W.heap.size, 0, none⟩ 1 1 [.int .i64 y] rfl
    (by simpa using World.news_of_block (cs := #[.int .i64 y]) (t := 3) (fr := (0, 0)) (heap_alloc_new W (.cells #[.int .i64 y] 3))) (by intro u hu; rw [List.mem_singleton.1 hu]; rfl) (by omega) (by simp only [maxLen]; omega) (by omega) (by simp; omega)
  refine ⟨v1, w1, hrun, ?_, World.grownBy.trans (World.grownBy_alloc W _ _) hg1, ?_⟩
  · show QRow w1 B 3 1 v1 (xs ++ [y]).length (nums .i64 (xs ++ [y]))
    rw [nums_append, List.length_append]
    exact hq1
  · rcases hat with hat | ⟨b, hb, hle⟩
    · exact .inl hat
    · exact .inr ⟨b, hb, by rw [World.size_alloc] at hle; omega⟩

section
variable {ops : Array Oper} {o : Oper} {a : Act} {Q' : Exit → Act → World → Prop} {Kc : Act → World → Prop} {W : World} {B : Nat}
theorem qi_append_step (hw : Region.wanted o (yielded ops a.tmps) = true) (s x : Operand) (ho : o.op = .call { callee := .builtin .append, args := #[s, x], argTypes := #[43, 43] }) (v : Value) (xs : List Int) (y : Int)
    (hs : a.eval s = v) (hx : a.eval x = .slice (some ⟨W.heap.size, 0, none⟩) 1 1) (HO : Qi W B v xs) (hbase : B ≤ W.heap.size) (hl : xs.length < 1000000)
    (h : ∀ v1 w1, Qi w1 B v1 (xs ++ [y]) → W.grownBy w1 v.ownBlock → (v1.ownBlock = v.ownBlock ∨ ∃ b, v1.ownBlock = some b ∧ W.heap.size ≤ b) → Kc (a.put o.dst v1) w1) :
    if Region.wanted o (yielded ops a.tmps) = true then Oper.wp Try.prog o a (W.alloc (.cells #[.int .i64 y] 3)) Kc Q' else Kc (a.put o.dst undef) (W.alloc (.cells #[.int .i64 y] 3)) := by
  obtain ⟨v1, w1, hr, h1, h2, h3⟩ := qi_run y o.type HO hbase hl
  rw [if_pos hw]
  unfold Oper.wp execOp
  simp only [ho, resolve, invoke, builtin, Sem.run_bind, Sem.run_pure, Result.andThen_ok, List.map_toArray, List.map_cons, List.map_nil, hs, hx, hr]
  exact h v1 w1 h1 h2 h3
end
end Go.Proofs.Ytigcgdamipeidaa.Shr
