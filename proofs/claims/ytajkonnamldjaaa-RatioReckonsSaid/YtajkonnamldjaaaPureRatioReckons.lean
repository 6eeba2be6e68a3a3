import Derived.Test.YtajkonnamldjaaaSpecC
import Derived.Test.YtajkonnamldjaaaRk
namespace Go.Proofs.Ytajkonnamldjaaa.Pure
open Go.RowKit Plain Q RatioSpec

theorem RatioReckons (a b c d : Int) (_ : (Lit.int .i64 a).wf = true) (_ : (Lit.int .i64 b).wf = true) (_ : (Lit.int .i64 c).wf = true) (_ : (Lit.int .i64 d).wf = true) :
    ∃ k, mosaiclaw05_RatioReckons.f k a b c d = some true := by
  refine ⟨9, ?_⟩
  unfold mosaiclaw05_RatioReckons.f
  simp only [mosaiclaw05_Ref.f, Option.bind_some]
  rw [add_spec, sum_spec' 8 a b c d (.inl rfl), sub_spec, sum_spec' 8 a b c d (.inr rfl), mul_spec 7, mul_spec' 8, div_spec 7, div_spec' 7, awake05 7]
  simp
end Go.Proofs.Ytajkonnamldjaaa.Pure
