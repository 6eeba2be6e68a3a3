import Derived.Test.YtajkonnamldjaaaPlainLaws
import Derived.Test.YtajkonnamldjaaaSpecC
import Derived.Test.YtajkonnamldjaaaQx52
namespace Go.Proofs.Ytajkonnamldjaaa.Pure
open Go.RowKit Plain Q RatioSpec

theorem sumP_form {a b c d s : Int} (hx : okB a b = true) (hy : okB c d = true) : (∃ p q, sumP a b c d s = (p, q, 0)) ∨ sumP a b c d s = (0, 0, 8) := by
  unfold sumP
  rw [if_pos ⟨hx, hy⟩]
  unfold mk
  split
  · exact .inl ⟨_, _, rfl⟩
  · exact .inr rfl
theorem mulP_form {a b c d : Int} (hx : okB a b = true) (hy : okB c d = true) : (∃ p q, mulP a b c d = (p, q, 0)) ∨ mulP a b c d = (0, 0, 8) := by
  unfold mulP
  rw [if_pos ⟨hx, hy⟩]
  unfold mk
  split
  · exact .inl ⟨_, _, rfl⟩
  · exact .inr rfl

theorem turns_j3 (a b c d p q : Int) (hx : okB a b = true) (hy : okB c d = true) (h : mulP a b c d = (p, q, 0)) : mosaiclaw05_RatioTurns.j3 6 (c != 0) a b c d p q = some true := by
  simp only [mosaiclaw05_RatioTurns.j3]
  have A : mosaiclaw05_RatioTurns.j4 5 = some true := by
    simp only [mosaiclaw05_RatioTurns.j4]
    rw [awake05 2]
    rfl
  rw [A]
  by_cases hc : c = 0
  · rw [if_neg (by simpa using hc)]
  · rw [if_pos (by simpa using hc), div_spec 3, mul_back hx hy hc h]
    simp
theorem turns_j2 (e a b c d p q : Int) (hx : okB a b = true) (hy : okB c d = true) (h : mulP a b c d = (p, q, e)) : mosaiclaw05_RatioTurns.j2 7 e a b c d p q = some true := by
  simp only [mosaiclaw05_RatioTurns.j2]
  by_cases he : e = 0
  · subst he
    rw [if_pos rfl]
    exact turns_j3 a b c d p q hx hy h
  · rw [if_neg he]
    simp only [mosaiclaw05_RatioTurns.j3, mosaiclaw05_RatioTurns.j4]
    rw [if_neg (by decide), awake05 2]
    rfl

theorem RatioTurns (a b c d : Int) (_ : (Lit.int .i64 a).wf = true) (_ : (Lit.int .i64 b).wf = true) (_ : (Lit.int .i64 c).wf = true) (_ : (Lit.int .i64 d).wf = true) :
    ∃ k, mosaiclaw05_RatioTurns.f k a b c d = some true := by
  refine ⟨9, ?_⟩
  unfold mosaiclaw05_RatioTurns.f
  rw [check_spec, check_spec]
  simp only [Option.bind_some]
  have J : mosaiclaw05_RatioTurns.j0 9 true a b c d = some true := by
    simp only [mosaiclaw05_RatioTurns.j0]
    rw [if_pos trivial, awake05 6]
    rfl
  by_cases hx : okB a b = true
  · rw [if_pos hx]
    by_cases hy : okB c d = true
    · rw [hy]
      simp only [mosaiclaw05_RatioTurns.j0]
      rw [if_neg (by decide), add_spec, add_spec, mul_spec 6, mul_spec 6, sumP_comm c d a b, mulP_comm c d a b]
      simp only [Option.bind_some, bne_self_eq_false, beq_self_eq_true, Bool.not_true, Bool.or_self, if_true]
      rw [if_neg (by decide), if_neg (by decide)]
      simp only [mosaiclaw05_RatioTurns.j1]
      rw [if_neg (by decide)]
      have hm := turns_j2 (mulP a b c d).2.2 a b c d (mulP a b c d).1 (mulP a b c d).2.1 hx hy rfl
      rcases sumP_form (s := 1) hx hy with ⟨p, q, h⟩ | h
      · rw [h]
        simp only [if_true]
        rw [sub_spec, sum_back hx hy h]
        simpa using hm
      · rw [h]
        simpa using hm
    · rw [Bool.eq_false_iff.2 hy]
      exact J
  · rw [if_neg hx]
    exact J
end Go.Proofs.Ytajkonnamldjaaa.Pure
