/- All peers' turns, walked. -/
import Derived.Test.YtigcgdamipeidaaShU
import Derived.Test.YtigcgdamipeidaaShV
namespace Go.Proofs.Ytigcgdamipeidaa.Shr
open Go.RowKit Go.Proofs.YtigcgdamipeidaaW.PrintWords Go.Proofs.YtigcgdamipeidaaW.PrintLast Go.Proofs.YtigcgdamipeidaaW.PrintMore Go.Proofs.Ytigcgdamipeidaa Go.Proofs.Ytigcgdamipeidaa.Q

theorem World.grownBy_refl (W : World) (row : Option Nat) : W.grownBy W row := ⟨rfl, rfl, rfl, Nat.le_refl _, fun _ _ _ => rfl⟩

theorem steps_all {W : World} {B B2 : Nat} (v v2 : Value) (l m : List (Int × Int)) (ty : TypeId) (h2 : Qst W B2 v2 m) (HO : Qst W B v l) (hbase : B ≤ W.heap.size) (hl : l.length + m.length < 1000000) :
    ∃ v1 w1, (Builtin.append_ #[39, 39] ty #[v, v2]).run Try.prog W = .ok v1 w1 ∧ Qst w1 B v1 (l ++ m) ∧ W.grownBy w1 v.ownBlock ∧ (v1.ownBlock = v.ownBlock ∨ ∃ b, v1.ownBlock = some b ∧ W.heap.size ≤ b) := by
  obtain ⟨A2, c2, e2⟩ := qst_slice h2
  by_cases hm : 0 < m.length
  · subst e2
    obtain ⟨_, a, ha, hc⟩ := qst_cells h2 hm
    subst ha
    exact steps_run v l m a c2 ty hm hc HO hbase hl
  · obtain rfl : m = [] := List.eq_nil_of_length_eq_zero (by omega)
    obtain ⟨i0, hi, hzz⟩ := Option.map_eq_some_iff.1 info51
    simp only [Prod.mk.injEq] at hzz
    obtain ⟨hz0, hz1, hz2⟩ := hzz
    have hs : Src Try.prog i0.size 39 v2 0 [] W := by
      rw [e2]
      cases A2 with
      | none => exact Src.ofNil (P := Try.prog) W Try.underlying39 c2
      | some a => exact Src.ofSlice (P := Try.prog) W Try.underlying39 a 0 c2 [] (by simp) (by intro j u hj; simp at hj) (by simp)
    have hv : ∃ A c, v = .slice A l.length c ∧ l.length ≤ c := by
      obtain ⟨_, h3⟩ := HO
      rcases h3 with ⟨h0, A, he, _⟩ | ⟨b, off, cap, cur, he, _, _, hn, _⟩
      · exact ⟨A, 0, by rw [he, h0], by omega⟩
      · exact ⟨_, cap, he, hn⟩
    obtain ⟨A, c, hv, hle⟩ := hv
    refine ⟨v, W, ?_, by rw [List.append_nil]; exact HO, World.grownBy_refl _ _, .inl rfl⟩
    rw [hv]
    exact run_append_nothing (P := Try.prog) W 39 39 ty 51 i0 Try.underlying39 hi A l.length c hle v2 hs

section
variable {ops : Array Oper} {o : Oper} {rest : List Oper} {a : Act} {Q' : Exit → Act → World → Prop} {W : World} {B B2 : Nat}
/-- Steps more, of another row. -/
theorem steps_append (hgd : o.guard = none) (s x : Operand) (ho : o.op = .call { callee := .builtin .append, args := #[s, x], argTypes := #[39, 39] }) (v v2 : Value) (l m : List (Int × Int))
    (hs : a.eval s = v) (hx : a.eval x = v2) (HO : Qst W B v l) (H2 : Qst W B2 v2 m) (hbase : B ≤ W.heap.size) (hl : l.length + m.length < 900000)
    (h : ∀ v1 w1, Qst w1 B v1 (l ++ m) → W.grownBy w1 v.ownBlock → (v1.ownBlock = v.ownBlock ∨ ∃ b, v1.ownBlock = some b ∧ W.heap.size ≤ b) → wpList Try.prog ops Q' rest (a.put o.dst v1) w1) :
    wpList Try.prog ops Q' (o :: rest) a W := by
  obtain ⟨v1, w1, hr, h1, h2, h3⟩ := steps_all v v2 l m o.type H2 HO hbase (by omega)
  refine wpList_plain hgd fun K hK => ?_
  unfold Oper.wp execOp
  simp only [ho, resolve, invoke, builtin, Sem.run_bind, Sem.run_pure, Result.andThen_ok, List.map_toArray, List.map_cons, List.map_nil, hs, hx]
  rw [hr]
  simp only [Result.andThen_ok]
  exact hK _ _ (h v1 w1 h1 h2 h3)
end

variable {B g : Nat} {S : Sh} {vs : Nat → Value}
theorem turnTo_q (S : Sh) (i : Nat) : (turnTo S i).1.q = S.q := by
  induction i with
  | zero => rfl
  | succ i ih =>
    simp only [turnTo]
    split
    · exact ih
    · exact ih
theorem turnTo_none {S : Sh} {i : Nat} (h : (turnTo S i).1.l i = []) : turnTo S (i + 1) = turnTo S i := by
  simp only [turnTo]
  rw [h]
  simp
theorem turnTo_some {S : Sh} {i : Nat} (h : ((turnTo S i).1.l i).length ≠ 0) : turnTo S (i + 1) = (afterP (turnTo S i).1 i, (turnTo S i).2.1 ++ of i (turnP (turnTo S i).1 i).2.2, true) := by
  simp only [turnTo]
  rw [if_neg h]

def tErr (b : Bool) : Int := if b then 0 else 4
/-- What holds before slot i's turn. -/
def AtSlot (w : World) (B g : Nat) (S : Sh) (vs : Nat → Value) (i : Nat) (v : Value) (w' : World) : Prop :=
  ∃ vs', Has w' B g (turnTo S i).1 vs' ∧ After w w' B g vs vs' ∧ Qst w' w.heap.size v (turnTo S i).2.1 ∧ ∀ k, v.ownBlock = some k → ¬ Own g vs' k

set_option linter.unusedVariables false
set_option linter.unusedSimpArgs false
set_option maxHeartbeats 4000000 in
set_option maxRecDepth 100000 in
theorem share_turn (hf : Fit S) {w : World} (h : Has w B g S vs) (hB : B ≤ w.heap.size) :
    Calls Try.prog 17 #[.pointer (some ⟨g, 0, none⟩)] w fun e w' => ∃ v, e = .returned (.tuple #[v, .int .i64 (tErr (turnTo S 16).2.2)]) ∧ AtSlot w B g S vs 16 v w' := by
  have H := Aside0.mk h
  have HF := Aside0.mk hf
  have HB := Aside0.mk hB
  clear h hf hB
  go_enter Try.func17, Try.ntmps17
  go_wp2
  go_loopg [2, 3, 8] 16 (fun kq v2 v3 v8 w' => ∃ i : Nat, v8 = .int .i64 (i : Int) ∧ v3 = .int .i64 (tErr (turnTo S i).2.2) ∧ Aside0 (i + kq = 16) ∧ Aside0 (AtSlot w B g S vs i v2 w'))
  case atStart => exact ⟨0, rfl, rfl, ⟨rfl⟩, ⟨⟨vs, H.out, After.refl _ _ _ _, Qst_nil _ _, fun k hk => by cases hk⟩⟩⟩
  case round =>
    obtain ⟨i, rfl, rfl, HI, HA⟩ := hrel
    obtain ⟨vs', hH, hA, hO, hD⟩ := HA.out
    clear HA
    cases gk with
    | zero =>
      have hi : i = 16 := by have := HI.out; omega
      subst hi
      have HR := Aside0.mk (show AtSlot w B g S vs 16 u2 _ from ⟨vs', hH, hA, hO, hD⟩)
      clear hH hA hO hD
      go_wp2
      go_ret2
      exact ⟨u2, rfl, HR.out⟩
    | succ k =>
      have hi : i < 16 := by have := HI.out; omega
      have hi0 : (0 : Int) ≤ (i : Int) := by omega
      have hi1 : (i : Int) < 16 := by omega
      have hb : decide ((i : Int) < 16) = true := decide_eq_true hi1
      obtain ⟨A, c, he⟩ := hH.slice hi
      have hcl := hH.cell_l hi
      have hcq := hH.cell_q
      rw [he] at hcl
      rw [turnTo_q] at hcq
      have HH := Aside0.mk hH
      have HA := Aside0.mk hA
      have HO := Aside0.mk hO
      have HD := Aside0.mk hD
      have HE := Aside0.mk he
      have HI1 := Aside0.mk hi
      clear hH hA hO hD he hi
      by_cases hl : ((turnTo S i).1.l i).length = 0
      · have HL := Aside0.mk hl
        rw [hl] at hcl
        clear hl
        go_wp2
        go_roundg k
        case measure => omega
        case rel =>
          have e1 : turnTo S (i + 1) = turnTo S i := turnTo_none (List.eq_nil_of_length_eq_zero HL.out)
          refine ⟨i + 1, rfl, by rw [e1], ⟨by have := HI.out; omega⟩, ⟨vs', ?_, HA.out, ?_, HD.out⟩⟩
          · rw [e1]
            exact HH.out
          · rw [e1]
            exact HO.out
      · have HL := Aside0.mk hl
        have hlb : decide (0 < ((turnTo S i).1.l i).length) = true := decide_eq_true (by omega)
        clear hl
        have hf := turnTo_fit HF.out i (by have := HI1.out; omega)
        have HF1 := Aside0.mk hf
        have HS := Aside0.mk HA.out.1.size
        have hlong := turnTo_long HF.out i (by have := HI1.out; omega)
        have hsent := (turnP_fit hf HI1.out).2.1
        have hlo := hf.long i HI1.out
        have HLO := Aside0.mk (show (turnTo S i).2.1.length + (of i (turnP (turnTo S i).1 i).2.2).length < 900000 by
          simp only [of, List.length_map]
          have := HI1.out
          omega)
        have hturn := turn_yes (B := B) HI1.out (node := i) (qn := S.q) HF.out.q (hf.wt i HI1.out) (hf.cr i HI1.out) (hf.long i HI1.out) (hf.size i HI1.out) HH.out (Nat.le_trans HB.out HS.out)
        have hP : turnL (mn ((turnTo S i).1.cr i + (turnTo S i).1.wt i * S.q) 16777216) ((turnTo S i).1.l i) = turnP (turnTo S i).1 i := by
          unfold turnP
          rw [turnTo_q]
        rw [hP] at hturn
        have HT := Aside0.mk hturn
        clear hf hlong hsent hlo hturn hP
        go_wp2_with (first | (go_at_call 35; (with_reducible refine HT.out.mono ?_); rintro e w1 ⟨v3, vs3, rfl, hq3, hh3, ha3, hd3⟩; have HQ3 := Aside0.mk hq3; have HH3 := Aside0.mk hh3; have HA3 := Aside0.mk ha3; have HD3 := Aside0.mk hd3; clear hq3 hh3 ha3 hd3) |
          (at_builtin; refine steps_append rfl _ _ rfl u2 v3 (turnTo S i).2.1 (of i (turnP (turnTo S i).1 i).2.2) rfl rfl (B := w.heap.size) (q_move HO.out (fun k hk => HA3.out.2.1.2 k (q_lt HO.out k hk) (HD.out k hk))) HQ3.out (Nat.le_trans HS.out HA3.out.1.size) HLO.out ?_; intro v4 w4 hq4 hg4 hat4; have HQ4 := Aside0.mk hq4; have HG4 := Aside0.mk hg4; have HAT4 := Aside0.mk hat4; clear hq4 hg4 hat4))
        go_roundg k
        case measure => omega
        case rel =>
          have e1 := turnTo_some HL.out
          have hnu : ∀ k, u2.ownBlock = some k → ¬ Own g vs3 k := by
            intro k hk ho
            rcases HA3.out.2.2 k ho with hc | hc
            · exact HD.out k hk hc
            · have := q_lt HO.out k hk
              omega
          have hmove : ∀ k, Own g vs3 k → w4.heap[k]? = w1.heap[k]? := fun k hk => HG4.out.block k (HH3.out.lt hk) (fun hc => hnu k hc.symm hk)
          refine ⟨i + 1, rfl, by rw [e1]; rfl, ⟨by have := HI.out; omega⟩, ⟨vs3, ?_, ?_, ?_, ?_⟩⟩
          · rw [e1]
            exact HH3.out.move hmove
          · exact (HA.out.trans HA3.out).grown (Nat.le_trans HB.out (Nat.le_trans HS.out HA3.out.1.size)) HG4.out (fun k hk => .inr (q_typed HO.out k hk).1) (fun k hk => Nat.le_trans HB.out (q_typed HO.out k hk).1)
          · rw [e1]
            exact HQ4.out
          · intro k hk ho
            rcases HAT4.out with he | ⟨b, he, hlt⟩
            · exact hnu k (by rw [← he]; exact hk) ho
            · rw [hk] at he
              injection he with he
              subst he
              have := HH3.out.lt ho
              omega
end Go.Proofs.Ytigcgdamipeidaa.Shr
