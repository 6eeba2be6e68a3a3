import Derived.Test.YtajkonnamldjaaaSpecD
import Derived.Test.YtajkonnamldjaaaSpecE
import Derived.Test.YtajkonnamldjaaaQx61
namespace Go.Proofs.Ytajkonnamldjaaa.Pure
open Go.RowKit Plain Q RatioSpec

theorem RatioStands (a b c d n : Int) (_ : (Lit.int .i64 a).wf = true) (_ : (Lit.int .i64 b).wf = true) (_ : (Lit.int .i64 c).wf = true) (_ : (Lit.int .i64 d).wf = true) (_ : (Lit.int .i64 n).wf = true) :
    ∃ k, mosaiclaw05_RatioStands.f k a b c d n = some true := by
  refine ⟨9, ?_⟩
  unfold mosaiclaw05_RatioStands.f
  simp only [mosaiclaw05_Ref.f, Option.bind_some]
  rw [scale_spec 8, scale_spec' 8, awake05 7, cmp_spec, cmp_spec' 8, Floor_spec, Floor_spec', Ceil_spec, Ceil_spec']
  simp
end Go.Proofs.Ytajkonnamldjaaa.Pure
