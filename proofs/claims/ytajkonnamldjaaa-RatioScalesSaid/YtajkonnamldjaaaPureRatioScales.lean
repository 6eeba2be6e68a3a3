import Derived.Test.YtajkonnamldjaaaPlainLaws
import Derived.Test.YtajkonnamldjaaaAwake05
import Derived.Test.YtajkonnamldjaaaSpecD
import Derived.Test.YtajkonnamldjaaaQx54
namespace Go.Proofs.Ytajkonnamldjaaa.Pure
open Go.RowKit Plain Q RatioSpec

theorem scales_j3 (k : Nat) {a b c d n : Int} (hx : okB a b = true) (hy : okB c d = true) (n0 : 0 ≤ n) : mosaiclaw05_RatioScales.j3 (k + 3) (a * n / b) (c * n / d) a b c d = some true := by
  simp only [mosaiclaw05_RatioScales.j3]
  rw [awake05 k, cmp_spec]
  simp only [Option.bind_some, if_true]
  split
  · rfl
  · rename_i h
    rw [cmp_pos hx hy] at h
    rw [decide_eq_true (scale_mono (okB_bounds hx).1 (okB_bounds hy).1 n0 (Int.not_lt.1 h))]

theorem RatioScales (a b c d n : Int) (_ : (Lit.int .i64 a).wf = true) (_ : (Lit.int .i64 b).wf = true) (_ : (Lit.int .i64 c).wf = true) (_ : (Lit.int .i64 d).wf = true) (_ : (Lit.int .i64 n).wf = true) :
    ∃ k, mosaiclaw05_RatioScales.f k a b c d n = some true := by
  refine ⟨9, ?_⟩
  unfold mosaiclaw05_RatioScales.f
  rw [check_spec, check_spec]
  simp only [Option.bind_some]
  have J : mosaiclaw05_RatioScales.j0 9 n true a b c d = some true := by
    simp only [mosaiclaw05_RatioScales.j0]
    rw [if_pos trivial, awake05 6]
    rfl
  by_cases hx : okB a b = true
  · rw [if_pos hx]
    by_cases hy : okB c d = true
    · rw [if_pos hy]
      by_cases n0 : n < 0
      · rw [if_pos n0]
        exact J
      · rw [if_neg n0]
        by_cases n1 : n > 4294967296
        · rw [decide_eq_true n1]
          exact J
        · rw [decide_eq_false n1]
          have n0' : 0 ≤ n := by omega
          have n1' : n ≤ 4294967296 := by omega
          simp only [mosaiclaw05_RatioScales.j0]
          have h1 : okB 1 1 = true := by decide +kernel
          rw [if_neg (by decide), scale_spec 7, scale_spec 7, scale_spec 7, scale_spec 7, scaleP_of hx n0' n1', scaleP_of hy n0' n1', scaleP_of hx (Int.le_refl 0) (by omega), scaleP_of h1 n0' n1']
          simp only [Option.bind_some]
          have e1 : wrap64 (wrap64 (wrap64 (0 + 0) + 0) + 0) = 0 := by decide +kernel
          have e2 : a * 0 / b = 0 := by rw [Int.mul_zero, Int.zero_ediv]
          have e3 : 1 * n / 1 = n := by omega
          have s1 := scale_bound hx n0' n1'
          have s2 := scale_bound hy n0' n1'
          rw [if_pos e1, if_pos e2, e3, bne_self_eq_false]
          simp only [mosaiclaw05_RatioScales.j1]
          rw [if_neg (by decide), add_spec]
          simp only [Option.bind_some]
          have F := scales_j3 3 hx hy n0'
          have F2 := scales_j3 4 hx hy n0'
          rcases (show (∃ p q, sumP a b c d 1 = (p, q, 0)) ∨ sumP a b c d 1 = (0, 0, 8) by
            unfold sumP
            rw [if_pos ⟨hx, hy⟩]
            unfold mk
            split
            · exact .inl ⟨_, _, rfl⟩
            · exact .inr rfl) with ⟨p, q, h⟩ | h
          · obtain ⟨hp, e⟩ := sumP_ok hx hy h
            obtain ⟨u1, u2⟩ := scale_sum (a := a) (b := b) (c := c) (d := d) (p := p) (q := q) (k := n) (okB_bounds hx).1 (okB_bounds hy).1 (okB_bounds hp).1 n0' (by rw [e, Int.one_mul])
            have s3 := scale_bound hp n0' n1'
            rw [h]
            simp only [if_true]
            rw [scale_spec 6, scaleP_of hp n0' n1']
            simp only [Option.bind_some, if_true]
            rw [w64 (x := a * n / b + c * n / d) (by omega) (by omega), w64 (x := a * n / b + c * n / d + 1) (by omega) (by omega), if_neg (by omega), decide_eq_false (by omega)]
            simp only [mosaiclaw05_RatioScales.j2]
            rw [if_neg (by decide)]
            exact F
          · rw [h]
            simp only [Int.reduceEq, if_false]
            exact F2
    · rw [if_neg hy]
      exact J
  · rw [if_neg hx]
    exact J
end Go.Proofs.Ytajkonnamldjaaa.Pure
