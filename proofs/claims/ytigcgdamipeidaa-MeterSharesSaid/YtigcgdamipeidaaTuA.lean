/- The reference share's Turn: plain lists, and the row of what it sends. -/
import Derived.Test.YtigcgdamipeidaaRfA
import Derived.Test.YtigcgdamipeidaaShY
namespace Go.Proofs.Ytigcgdamipeidaa.Rf
open Go.RowKit Go.Proofs.YtigcgdamipeidaaW.PrintWords Go.Proofs.YtigcgdamipeidaaW.PrintLast Go.Proofs.YtigcgdamipeidaaW.PrintMore Go.Proofs.Ytigcgdamipeidaa Go.Proofs.Ytigcgdamipeidaa.Q Go.Proofs.Ytigcgdamipeidaa.Shr

/-- One queue's turn: its credit, what is left, what is sent. -/
def rT (Q : Int) (x : S45) : Int × List Int × List Int := turnL (mn (x.f2 + x.f1 * Q) 16777216) x.f3
/-- The queue behind it. -/
def rq (Q : Int) (x : S45) : S45 := ⟨x.f0, x.f1, (rT Q x).1, (rT Q x).2.1⟩
def rStep (Q : Int) (t : List S45 × List (Int × Int) × Bool) (x : S45) : List S45 × List (Int × Int) × Bool :=
  if x.f3 = [] then t else (withP (rq Q x) false t.1, t.2.1 ++ of x.f0 (rT Q x).2.2, true)
/-- Behind the turns of the first i queues. -/
def rTo (Q : Int) (l : List S45) : Nat → List S45 × List (Int × Int) × Bool
  | 0 => (l, [], false)
  | i + 1 => match l[i]? with
    | some x => rStep Q (rTo Q l i) x
    | none => rTo Q l i
theorem rTo_next {Q : Int} {l : List S45} {i : Nat} {x : S45} (h : l[i]? = some x) : rTo Q l (i + 1) = rStep Q (rTo Q l i) x := by
  simp only [rTo, h]
/-- What may be in a list of queues. -/
structure RFit (Q : Int) (l : List S45) : Prop where
  q : 1 ≤ Q ∧ Q ≤ 65536
  len : l.length ≤ 15
  el : ∀ x ∈ l, (0 ≤ x.f1 ∧ x.f1 ≤ 16) ∧ (0 ≤ x.f2 ∧ x.f2 ≤ 16777216) ∧ x.f3.length ≤ 100 ∧ ∀ y ∈ x.f3, 1 ≤ y ∧ y ≤ 65536
theorem withP_len (q : S45) (l : List S45) : ∀ b, (withP q b l).length ≤ l.length + 1 := by
  induction l with
  | nil => intro b; cases b <;> simp [withP]
  | cons x l ih =>
    intro b
    have h1 := ih true
    have h2 := ih false
    have h3 : (withP q true l).length ≤ l.length := by
      clear ih h1 h2
      induction l with
      | nil => simp [withP]
      | cons y l ih => simp only [withP]; split <;> simp <;> omega
    cases b with
    | true => simp only [withP]; split <;> simp <;> omega
    | false =>
      simp only [withP]
      split
      · split <;> simp <;> omega
      · simp; omega
theorem rTo_len {Q : Int} {l : List S45} : ∀ i, (rTo Q l i).1.length ≤ l.length + i := by
  intro i
  induction i with
  | zero => exact Nat.le_refl _
  | succ i ih =>
    simp only [rTo]
    split
    · unfold rStep
      split
      · omega
      · have := withP_len (rq Q ‹S45›) (rTo Q l i).1 false
        simp only
        omega
    · omega
theorem turnL_sent_len (l : List Int) : ∀ c, (turnL c l).2.2.length ≤ l.length := by
  induction l with
  | nil => intro c; simp [turnL]
  | cons x xs ih =>
    intro c
    simp only [turnL]
    split
    · have := ih (c - x)
      simp only [List.length_cons]
      omega
    · simp
theorem rTo_sent {Q : Int} {l : List S45} (h : RFit Q l) : ∀ i, (rTo Q l i).2.1.length ≤ 100 * i := by
  intro i
  induction i with
  | zero => simp [rTo]
  | succ i ih =>
    simp only [rTo]
    split
    · rename_i x hx
      unfold rStep
      split
      · omega
      · simp only [List.length_append, of, List.length_map]
        have h1 := turnL_sent_len x.f3 (mn (x.f2 + x.f1 * Q) 16777216)
        have h2 := (h.el x (List.mem_of_getElem? hx)).2.2.1
        have h3 : (rT Q x).2.2.length ≤ 100 := Nat.le_trans h1 h2
        omega
    · omega

/-- A row of what is sent, the reference's. -/
def Qsn (w : World) (B : Nat) (v : Value) (l : List (Int × Int)) : Prop := QRow w B 82 2 v l.length (stCells l)
theorem Qsn_nil (w : World) (B : Nat) : Qsn w B (.slice none 0 0) [] := q_of_own (own_nil w B 82 2)
theorem sn_slice {w : World} {B : Nat} {v : Value} {l : List (Int × Int)} (h : Qsn w B v l) : ∃ A c, v = .slice A l.length c := by
  obtain ⟨A, c, he, _⟩ := q_slice h
  exact ⟨A, c, he⟩
theorem info82 : (Try.prog.info? 82).map (fun i => (i.zero, i.size, i.bytes)) = some (some (.agg #[.int .i64 0, .int .i64 0]), 2, 16) := by kernel_rfl
theorem sn_run {W : World} {B : Nat} {v : Value} {l : List (Int × Int)} (node y : Int) (ty : TypeId) (HO : Qsn W B v l) (hbase : B ≤ W.heap.size) (hl : l.length < 1000000) :
    ∃ v1 w1, (Builtin.append_ #[35, 35] ty #[v, .slice (some ⟨W.heap.size, 0, none⟩) 1 1]).run Try.prog (W.alloc (.cells #[.int .i64 node, .int .i64 y] 82)) = .ok v1 w1 ∧ Qsn w1 B v1 (l ++ [(node, y)]) ∧ W.grownBy w1 v.ownBlock ∧
      (v1.ownBlock = v.ownBlock ∨ ∃ b, v1.ownBlock = some b ∧ W.heap.size ≤ b) := by
  obtain ⟨i0, hi, hzz⟩ := Option.map_eq_some_iff.1 info82
  simp only [Prod.mk.injEq] at hzz
  obtain ⟨hz0, hz1, hz2⟩ := hzz
  have hq : QRow (W.alloc (.cells #[.int .i64 node, .int .i64 y] 82)) B 82 2 v l.length (stCells l) := q_move HO (fun k hk => Below.heap_alloc W _ k (q_lt HO k hk))
  obtain ⟨v1, w1, hrun, hq1, hg1, hat⟩ := q_append (P := Try.prog) (W.alloc (.cells #[.int .i64 node, .int .i64 y] 82)) B 35 ty 82 i0 (.agg #[.int .i64 0, .int .i64 0]) 2 16 Try.underlying35 hi hz0 hz1 hz2 rfl (by decide) v l.length (stCells l) hq ⟨W.heap.size, 0, none⟩ 1 1 [.int .i64 node, .int .i64 y] rfl
    (by simpa using World.news_of_block (cs := #[.int .i64 node, .int .i64 y]) (t := 82) (fr := (0, 0)) (heap_alloc_new W (.cells #[.int .i64 node, .int .i64 y] 82)))
    (by intro u hu; simp only [List.mem_cons, List.not_mem_nil, or_false] at hu; rcases hu with rfl | rfl <;> rfl) (by omega) (by simp only [maxLen]; omega) (by omega) (by simp; omega)
  refine ⟨v1, w1, hrun, ?_, World.grownBy.trans (World.grownBy_alloc W _ _) hg1, ?_⟩
  · show QRow w1 B 82 2 v1 (l ++ [(node, y)]).length (stCells (l ++ [(node, y)]))
    rw [stCells_append, List.length_append]
    exact hq1
  · rcases hat with hat | ⟨b, hb, hle⟩
    · exact .inl hat
    · exact .inr ⟨b, hb, by rw [World.size_alloc] at hle; omega⟩
section
variable {ops : Array Oper} {o : Oper} {a : Act} {Q' : Exit → Act → World → Prop} {Kc : Act → World → Prop} {W : World} {B : Nat}
theorem sn_append_step (hw : Region.wanted o (yielded ops a.tmps) = true) (s x : Operand) (ho : o.op = .call { callee := .builtin .append, args := #[s, x], argTypes := #[35, 35] }) (v : Value) (l : List (Int × Int)) (node y : Int)
    (hs : a.eval s = v) (hx : a.eval x = .slice (some ⟨W.heap.size, 0, none⟩) 1 1) (HO : Qsn W B v l) (hbase : B ≤ W.heap.size) (hl : l.length < 1000000)
    (h : ∀ v1 w1, Qsn w1 B v1 (l ++ [(node, y)]) → W.grownBy w1 v.ownBlock → (v1.ownBlock = v.ownBlock ∨ ∃ b, v1.ownBlock = some b ∧ W.heap.size ≤ b) → Kc (a.put o.dst v1) w1) :
    if Region.wanted o (yielded ops a.tmps) = true then Oper.wp Try.prog o a (W.alloc (.cells #[.int .i64 node, .int .i64 y] 82)) Kc Q' else Kc (a.put o.dst undef) (W.alloc (.cells #[.int .i64 node, .int .i64 y] 82)) := by
  obtain ⟨v1, w1, hr, h1, h2, h3⟩ := sn_run node y o.type HO hbase hl
  rw [if_pos hw]
  unfold Oper.wp execOp
  simp only [ho, resolve, invoke, builtin, Sem.run_bind, Sem.run_pure, Result.andThen_ok, List.map_toArray, List.map_cons, List.map_nil, hs, hx, hr]
  exact h v1 w1 h1 h2 h3
end
/-- The k-th step of a queue's turn: what was sent so far, and the rest. -/
theorem turnL_step {c x : Int} {xs : List Int} (h : x ≤ c) : turnL c (x :: xs) = ((turnL (c - x) xs).1, (turnL (c - x) xs).2.1, x :: (turnL (c - x) xs).2.2) := by
  simp only [turnL, if_pos h]
theorem turnL_stop {c x : Int} {xs : List Int} (h : ¬ x ≤ c) : turnL c (x :: xs) = (c, x :: xs, []) := by
  simp only [turnL, if_neg h]
/-- Behind k of a queue's sizes: the credit is ck. -/
def Tk (c0 : Int) (l : List Int) (k : Nat) (ck : Int) : Prop := turnL c0 l = ((turnL ck (l.drop k)).1, (turnL ck (l.drop k)).2.1, l.take k ++ (turnL ck (l.drop k)).2.2) ∧ k ≤ l.length ∧ 0 ≤ ck ∧ ck ≤ 16777216
theorem tk_start {c0 : Int} (l : List Int) (h : 0 ≤ c0 ∧ c0 ≤ 16777216) : Tk c0 l 0 c0 := ⟨by simp, Nat.zero_le _, h⟩
theorem tk_next {c0 ck x : Int} {l : List Int} {k : Nat} (h : Tk c0 l k ck) (hx : l[k]? = some x) (hle : x ≤ ck) (h0 : 0 ≤ x) : Tk c0 l (k + 1) (ck - x) := by
  obtain ⟨hk, rfl⟩ := List.getElem?_eq_some_iff.1 hx
  obtain ⟨h1, h2, h3⟩ := h
  refine ⟨?_, hk, by omega, by omega⟩
  rw [h1, List.drop_eq_getElem_cons hk, turnL_step hle, List.take_succ_eq_append_getElem hk, List.append_assoc]
  rfl
theorem tk_end {c0 ck : Int} {l : List Int} (h : Tk c0 l l.length ck) : turnL c0 l = (0, [], l) := by
  rw [h.1, List.drop_length, List.take_length]
  simp [turnL]
theorem tk_stop {c0 ck x : Int} {l : List Int} {k : Nat} (h : Tk c0 l k ck) (hx : l[k]? = some x) (hle : ¬ x ≤ ck) : turnL c0 l = (ck, l.drop k, l.take k) := by
  obtain ⟨hk, rfl⟩ := List.getElem?_eq_some_iff.1 hx
  rw [h.1, List.drop_eq_getElem_cons hk, turnL_stop hle]
  simp
end Go.Proofs.Ytigcgdamipeidaa.Rf
