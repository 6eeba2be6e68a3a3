/- The example of the page, as the printed function answers it. -/
import Derived.Test.YtajkonnamldjaaaSpecB
import Derived.Test.YtajkonnamldjaaaQx36
namespace Go.Proofs.Ytajkonnamldjaaa.Pure
open Go.RowKit Plain Q RatioSpec

theorem awake05 (k : Nat) : mosaiclaw05_awake.f (k + 2) = some true := by
  unfold mosaiclaw05_awake.f
  rw [of_spec, add_spec, scale_spec]
  have e1 : ofP 6 (-4) = (-3, 2, 0) := by decide +kernel
  have e2 : sumP 1 2 1 3 1 = (5, 6, 0) := by decide +kernel
  have e3 : scaleP 1 3 4294967296 = (1431655765, 0) := by decide +kernel
  have e4 : floorP (-3) 2 = -2 := by decide +kernel
  rw [e1, e2, e3]
  simp only [Option.bind_some]
  rw [Floor_spec, e4]
  decide +kernel
end Go.Proofs.Ytajkonnamldjaaa.Pure
