import Derived.Test.YtajkonnamldjaaaPlainLaws
import Derived.Test.YtajkonnamldjaaaAwake05
import Derived.Test.YtajkonnamldjaaaSpecD
import Derived.Test.YtajkonnamldjaaaQx62
namespace Go.Proofs.Ytajkonnamldjaaa.Pure
open Go.RowKit Plain Q RatioSpec

theorem RatioOrder (a b c d e f : Int) (_ : (Lit.int .i64 a).wf = true) (_ : (Lit.int .i64 b).wf = true) (_ : (Lit.int .i64 c).wf = true) (_ : (Lit.int .i64 d).wf = true) (_ : (Lit.int .i64 e).wf = true) (_ : (Lit.int .i64 f).wf = true) :
    ∃ k, mosaiclaw05_RatioOrder.f k a b c d e f = some true := by
  refine ⟨9, ?_⟩
  unfold mosaiclaw05_RatioOrder.f
  rw [check_spec, check_spec, check_spec]
  simp only [Option.bind_some]
  have J : mosaiclaw05_RatioOrder.j0 9 true a b c d e f = some true := by
    simp only [mosaiclaw05_RatioOrder.j0]
    rw [if_pos trivial, awake05 6]
    rfl
  by_cases hx : okB a b = true
  · rw [if_pos hx]
    by_cases hy : okB c d = true
    · rw [if_pos hy]
      by_cases hz : okB e f = true
      · rw [hz]
        simp only [mosaiclaw05_RatioOrder.j0]
        rw [if_neg (by decide), cmp_spec, cmp_spec, cmp_spec, Floor_spec, Ceil_spec]
        simp only [Option.bind_some]
        obtain ⟨b1, b2, a1, a2⟩ := okB_bounds hx
        obtain ⟨n1, n2, n3, n4, n5, n6, n7⟩ := next_to hx
        have m1 := prod31 (a := floorP a b) (b := b) (by omega) (by omega) (by omega) (by omega)
        have m2 := prod31 (a := ceilP a b) (b := b) (by omega) (by omega) (by omega) (by omega)
        have hb : ((floorP a b == ceilP a b) != (b == 1)) = false := by
          rw [bne_eq_false_iff_eq, Bool.eq_iff_iff, beq_iff_eq, beq_iff_eq]
          exact n3
        rw [if_neg (by omega), w64 (by omega) (by omega), if_neg (by omega), hb, if_neg (by decide), w64 (by omega) (by omega), if_neg (by omega), w64 (by omega) (by omega), decide_eq_false (by omega)]
        simp only [mosaiclaw05_RatioOrder.j1]
        rw [if_neg (by decide), awake05 5, cmp_spec]
        simp only [Option.bind_some, if_true]
        have r := cmp_range hy hx
        rw [w64 (by omega) (by omega), if_pos (cmp_turn hx hy)]
        have h0 : ((cmpP a b c d == 0) == (a == c && b == d)) = true := by
          rw [beq_iff_eq, Bool.eq_iff_iff, beq_iff_eq, and_true_iff, beq_iff_eq, beq_iff_eq]
          exact cmp_zero hx hy
        rw [if_pos h0]
        by_cases k1 : cmpP a b c d > 0
        · rw [if_pos k1, if_pos (by omega)]
        · rw [if_neg k1]
          by_cases k2 : cmpP c d e f > 0
          · rw [if_pos k2]
            split <;> rfl
          · rw [if_neg k2, if_pos (cmp_le hx hy hz k1 k2)]
            split
            · rfl
            · rename_i k3
              rw [decide_eq_true (cmp_lt hx hy hz k3 k2)]
      · rw [Bool.eq_false_iff.2 hz]
        exact J
    · rw [if_neg hy]
      exact J
  · rw [if_neg hx]
    exact J
end Go.Proofs.Ytajkonnamldjaaa.Pure
