import Derived.Test.YtajkonnamldjaaaAwake05
import Derived.Test.YtajkonnamldjaaaQx37
namespace Go.Proofs.Ytajkonnamldjaaa.Pure
open Go.RowKit Plain Q RatioSpec

theorem RatioMakes (n d a b : Int) (_ : (Lit.int .i64 n).wf = true) (_ : (Lit.int .i64 d).wf = true) (_ : (Lit.int .i64 a).wf = true) (_ : (Lit.int .i64 b).wf = true) :
    ∃ k, mosaiclaw05_RatioMakes.f k n d a b = some true := by
  refine ⟨2, ?_⟩
  unfold mosaiclaw05_RatioMakes.f
  rw [of_spec 0, of_spec' 0, awake05 0, check_spec]
  simp only [Option.bind_some, mosaiclaw05_Ref.f, if_true, ratio_Gcd.f, mosaicref05_Gcd.f, check_spec']
  simp
end Go.Proofs.Ytajkonnamldjaaa.Pure
