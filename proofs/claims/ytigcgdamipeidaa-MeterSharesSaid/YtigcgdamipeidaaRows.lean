/-
  No cell of these rows narrows 'for every input' (looked for: loops, veiled, ifaces, maps, wideKeys, modest, calm, conditions, laid).
  DERIVED. THE GIVEN ROWS OF THIS SEAT. 7 by the template 'for every input the law returns true; each argument reads behind the call as it read before'; 0 by the template 'total and deterministic' (their statements: YtigcgdamipeidaaTotals.lean).
  GIVEN WITH THE SEED: the statements are not yours to turn. If you find one false, say at which input.
  Laid BY PROGRAM, IN A SANDBOX (cutbox-rows.mjs): the forced cells as the released guide's own fill.sh prints them over the translation 5f9b96a43d9f9d4a… (all of the seat's roots in one cut). By AI agents, Wed Nov 11 2026. No macro, syntax, notation, axiom, sorry.
-/
import Derived.Test.YtigcgdamipeidaaChecked
import GoSem.Claim
import GoSem.ClaimJoined
import GoSem.ClaimMapViews
import Derived.JoinedTies
import Derived.KernelRfl
namespace Go.Proofs.Ytigcgdamipeidaa
/- THE CELL 'sum', in the pinned program and in every row, IS THE sha256 OF THE DUMP (.gsa) THAT YtigcgdamipeidaaProg.lean LOADS. Nothing in Lean hashes anything: it is a label: what it is worth is what the hold of that sum in a sandbox is worth. -/
noncomputable def Try.pinned : Pinned := { name := "ytigcgdamipeidaa", sum := "5f9b96a43d9f9d4a672c012eedb0517ae1272968c71310c2ed0fbb1c91cc6ae5", checked := Try.checked }
namespace Rows
def none {H : Type} : Left H := { results := [], args := [] }

/-- 'mosaiclaw30.MeterShares': WHATEVER THE INPUT: true; the input reads as it did. -/
def meterSharesSpec : ChangeSpec := { name := "meterShares", fn := fun _ => fun
  | [d1, d2] => { results := [.lit (.bool true)], args := [d1, d2] }
  | _ => none }
def meterSharesRow : OpenClaim := { program := "ytigcgdamipeidaa", sum := "5f9b96a43d9f9d4a672c012eedb0517ae1272968c71310c2ed0fbb1c91cc6ae5", func := "mosaic/mosaiclaw30.MeterShares", spec := "meterShares", apart := false }
def MeterSharesSaid : Prop := meterSharesRow.holds Try.pinned (OpenSpec.ofChange meterSharesSpec)

/-- ITS FALSE NEIGHBOUR: 'it returns false'. Refute it at one input. -/
def meterSharesWrong : ChangeSpec := { name := "meterShares", fn := fun _ => fun
  | [d1, d2] => { results := [.lit (.bool false)], args := [d1, d2] }
  | _ => none }
def MeterSharesWrongFalsely : Prop := meterSharesRow.holds Try.pinned (OpenSpec.ofChange meterSharesWrong)

/-- 'mosaiclaw30.MeterAll': WHATEVER THE INPUT: true; the input reads as it did. -/
def meterAllSpec : ChangeSpec := { name := "meterAll", fn := fun _ => fun
  | [d1, d2] => { results := [.lit (.bool true)], args := [d1, d2] }
  | _ => none }
def meterAllRow : OpenClaim := { program := "ytigcgdamipeidaa", sum := "5f9b96a43d9f9d4a672c012eedb0517ae1272968c71310c2ed0fbb1c91cc6ae5", func := "mosaic/mosaiclaw30.MeterAll", spec := "meterAll", apart := false }
def MeterAllSaid : Prop := meterAllRow.holds Try.pinned (OpenSpec.ofChange meterAllSpec)

/-- ITS FALSE NEIGHBOUR: 'it returns false'. Refute it at one input. -/
def meterAllWrong : ChangeSpec := { name := "meterAll", fn := fun _ => fun
  | [d1, d2] => { results := [.lit (.bool false)], args := [d1, d2] }
  | _ => none }
def MeterAllWrongFalsely : Prop := meterAllRow.holds Try.pinned (OpenSpec.ofChange meterAllWrong)

/-- 'mosaiclaw30.MeterFair': WHATEVER THE INPUT: true; the input reads as it did. -/
def meterFairSpec : ChangeSpec := { name := "meterFair", fn := fun _ => fun
  | [d1, d2, d3] => { results := [.lit (.bool true)], args := [d1, d2, d3] }
  | _ => none }
def meterFairRow : OpenClaim := { program := "ytigcgdamipeidaa", sum := "5f9b96a43d9f9d4a672c012eedb0517ae1272968c71310c2ed0fbb1c91cc6ae5", func := "mosaic/mosaiclaw30.MeterFair", spec := "meterFair", apart := false }
def MeterFairSaid : Prop := meterFairRow.holds Try.pinned (OpenSpec.ofChange meterFairSpec)

/-- ITS FALSE NEIGHBOUR: 'it returns false'. Refute it at one input. -/
def meterFairWrong : ChangeSpec := { name := "meterFair", fn := fun _ => fun
  | [d1, d2, d3] => { results := [.lit (.bool false)], args := [d1, d2, d3] }
  | _ => none }
def MeterFairWrongFalsely : Prop := meterFairRow.holds Try.pinned (OpenSpec.ofChange meterFairWrong)

/-- 'mosaiclaw30.MeterMeans': WHATEVER THE INPUT: true; the input reads as it did. -/
def meterMeansSpec : ChangeSpec := { name := "meterMeans", fn := fun _ => fun
  | [d1, d2] => { results := [.lit (.bool true)], args := [d1, d2] }
  | _ => none }
def meterMeansRow : OpenClaim := { program := "ytigcgdamipeidaa", sum := "5f9b96a43d9f9d4a672c012eedb0517ae1272968c71310c2ed0fbb1c91cc6ae5", func := "mosaic/mosaiclaw30.MeterMeans", spec := "meterMeans", apart := false }
def MeterMeansSaid : Prop := meterMeansRow.holds Try.pinned (OpenSpec.ofChange meterMeansSpec)

/-- ITS FALSE NEIGHBOUR: 'it returns false'. Refute it at one input. -/
def meterMeansWrong : ChangeSpec := { name := "meterMeans", fn := fun _ => fun
  | [d1, d2] => { results := [.lit (.bool false)], args := [d1, d2] }
  | _ => none }
def MeterMeansWrongFalsely : Prop := meterMeansRow.holds Try.pinned (OpenSpec.ofChange meterMeansWrong)

/-- 'mosaiclaw30.MeterBuckets': WHATEVER THE INPUT: true; the input reads as it did. -/
def meterBucketsSpec : ChangeSpec := { name := "meterBuckets", fn := fun _ => fun
  | [d1, d2, d3] => { results := [.lit (.bool true)], args := [d1, d2, d3] }
  | _ => none }
def meterBucketsRow : OpenClaim := { program := "ytigcgdamipeidaa", sum := "5f9b96a43d9f9d4a672c012eedb0517ae1272968c71310c2ed0fbb1c91cc6ae5", func := "mosaic/mosaiclaw30.MeterBuckets", spec := "meterBuckets", apart := false }
def MeterBucketsSaid : Prop := meterBucketsRow.holds Try.pinned (OpenSpec.ofChange meterBucketsSpec)

/-- ITS FALSE NEIGHBOUR: 'it returns false'. Refute it at one input. -/
def meterBucketsWrong : ChangeSpec := { name := "meterBuckets", fn := fun _ => fun
  | [d1, d2, d3] => { results := [.lit (.bool false)], args := [d1, d2, d3] }
  | _ => none }
def MeterBucketsWrongFalsely : Prop := meterBucketsRow.holds Try.pinned (OpenSpec.ofChange meterBucketsWrong)

/-- 'mosaiclaw30.MeterGives': WHATEVER THE INPUT: true; the input reads as it did. -/
def meterGivesSpec : ChangeSpec := { name := "meterGives", fn := fun _ => fun
  | [d1, d2, d3] => { results := [.lit (.bool true)], args := [d1, d2, d3] }
  | _ => none }
def meterGivesRow : OpenClaim := { program := "ytigcgdamipeidaa", sum := "5f9b96a43d9f9d4a672c012eedb0517ae1272968c71310c2ed0fbb1c91cc6ae5", func := "mosaic/mosaiclaw30.MeterGives", spec := "meterGives", apart := false }
def MeterGivesSaid : Prop := meterGivesRow.holds Try.pinned (OpenSpec.ofChange meterGivesSpec)

/-- ITS FALSE NEIGHBOUR: 'it returns false'. Refute it at one input. -/
def meterGivesWrong : ChangeSpec := { name := "meterGives", fn := fun _ => fun
  | [d1, d2, d3] => { results := [.lit (.bool false)], args := [d1, d2, d3] }
  | _ => none }
def MeterGivesWrongFalsely : Prop := meterGivesRow.holds Try.pinned (OpenSpec.ofChange meterGivesWrong)

/-- 'mosaiclaw30.MeterNil': WHATEVER THE INPUT: true; the input reads as it did. -/
def meterNilSpec : ChangeSpec := { name := "meterNil", fn := fun _ => fun
  | [d] => { results := [.lit (.bool true)], args := [d] }
  | _ => none }
def meterNilRow : OpenClaim := { program := "ytigcgdamipeidaa", sum := "5f9b96a43d9f9d4a672c012eedb0517ae1272968c71310c2ed0fbb1c91cc6ae5", func := "mosaic/mosaiclaw30.MeterNil", spec := "meterNil", apart := false }
def MeterNilSaid : Prop := meterNilRow.holds Try.pinned (OpenSpec.ofChange meterNilSpec)

/-- ITS FALSE NEIGHBOUR: 'it returns false'. Refute it at one input. -/
def meterNilWrong : ChangeSpec := { name := "meterNil", fn := fun _ => fun
  | [d] => { results := [.lit (.bool false)], args := [d] }
  | _ => none }
def MeterNilWrongFalsely : Prop := meterNilRow.holds Try.pinned (OpenSpec.ofChange meterNilWrong)

/- THE SECOND FORM. 'bulk': how many values and letters a reading holds, each counted each time it is reached (what is shared counts as often as it is met; a slice's spare places count too). A statement '..UptoSaid' is the law's where the arguments, and the package variables that the reading takes, are together of bulk at most 1048576: NARROWER than '..Said'. Prove '..Said' where nothing that the law and all that it calls make is longer than what came in: it says more and counts as full. Else prove '..UptoSaid'. A law counts once. -/
mutual
def uptoBulk {H : Type} : DataW H → Nat
  | .lit (.string bytes) => bytes.length + 1
  | .lit _ => 1
  | .nil => 1
  | .ptr d => uptoBulk d + 1
  | .slice elems spare => uptoBulkAll elems + uptoBulkAll spare + 1
  | .agg parts => uptoBulkAll parts + 1
  | .iface _ d => uptoBulk d + 1
  | .map entries => uptoBulkEntries entries + 1
  | .held _ => 1
def uptoBulkAll {H : Type} : List (DataW H) → Nat
  | [] => 0
  | d :: r => uptoBulk d + uptoBulkAll r
def uptoBulkEntries {H : Type} : List (Lit × DataW H) → Nat
  | [] => 0
  | x :: r => uptoBulkEntry x + uptoBulkEntries r
def uptoBulkEntry {H : Type} : Lit × DataW H → Nat
  | (.string bytes, d) => bytes.length + uptoBulk d + 1
  | (_, d) => uptoBulk d + 1
 end
def uptoSmall : (H : Type) → List (DataW H) → Bool := fun _ ds => decide (uptoBulkAll ds ≤ 1048576)
def OpenSpec.upto (s : _root_.Go.ChangeSpec) : _root_.Go.OpenSpec := { _root_.Go.OpenSpec.ofChange s with cond := some uptoSmall }

/-- 'mosaiclaw30.MeterShares', WHERE WHAT IT READS IS OF BULK AT MOST 1048576: true; the input reads as it did. -/
def meterSharesUptoRow : OpenClaim := { program := "ytigcgdamipeidaa", sum := "5f9b96a43d9f9d4a672c012eedb0517ae1272968c71310c2ed0fbb1c91cc6ae5", func := "mosaic/mosaiclaw30.MeterShares", spec := "meterShares", apart := false, narrowed := true }
def MeterSharesUptoSaid : Prop := meterSharesUptoRow.holds Try.pinned (OpenSpec.upto meterSharesSpec)

/-- 'mosaiclaw30.MeterAll', WHERE WHAT IT READS IS OF BULK AT MOST 1048576: true; the input reads as it did. -/
def meterAllUptoRow : OpenClaim := { program := "ytigcgdamipeidaa", sum := "5f9b96a43d9f9d4a672c012eedb0517ae1272968c71310c2ed0fbb1c91cc6ae5", func := "mosaic/mosaiclaw30.MeterAll", spec := "meterAll", apart := false, narrowed := true }
def MeterAllUptoSaid : Prop := meterAllUptoRow.holds Try.pinned (OpenSpec.upto meterAllSpec)

/-- 'mosaiclaw30.MeterFair', WHERE WHAT IT READS IS OF BULK AT MOST 1048576: true; the input reads as it did. -/
def meterFairUptoRow : OpenClaim := { program := "ytigcgdamipeidaa", sum := "5f9b96a43d9f9d4a672c012eedb0517ae1272968c71310c2ed0fbb1c91cc6ae5", func := "mosaic/mosaiclaw30.MeterFair", spec := "meterFair", apart := false, narrowed := true }
def MeterFairUptoSaid : Prop := meterFairUptoRow.holds Try.pinned (OpenSpec.upto meterFairSpec)

/-- 'mosaiclaw30.MeterMeans', WHERE WHAT IT READS IS OF BULK AT MOST 1048576: true; the input reads as it did. -/
def meterMeansUptoRow : OpenClaim := { program := "ytigcgdamipeidaa", sum := "5f9b96a43d9f9d4a672c012eedb0517ae1272968c71310c2ed0fbb1c91cc6ae5", func := "mosaic/mosaiclaw30.MeterMeans", spec := "meterMeans", apart := false, narrowed := true }
def MeterMeansUptoSaid : Prop := meterMeansUptoRow.holds Try.pinned (OpenSpec.upto meterMeansSpec)

/-- 'mosaiclaw30.MeterBuckets', WHERE WHAT IT READS IS OF BULK AT MOST 1048576: true; the input reads as it did. -/
def meterBucketsUptoRow : OpenClaim := { program := "ytigcgdamipeidaa", sum := "5f9b96a43d9f9d4a672c012eedb0517ae1272968c71310c2ed0fbb1c91cc6ae5", func := "mosaic/mosaiclaw30.MeterBuckets", spec := "meterBuckets", apart := false, narrowed := true }
def MeterBucketsUptoSaid : Prop := meterBucketsUptoRow.holds Try.pinned (OpenSpec.upto meterBucketsSpec)

/-- 'mosaiclaw30.MeterGives', WHERE WHAT IT READS IS OF BULK AT MOST 1048576: true; the input reads as it did. -/
def meterGivesUptoRow : OpenClaim := { program := "ytigcgdamipeidaa", sum := "5f9b96a43d9f9d4a672c012eedb0517ae1272968c71310c2ed0fbb1c91cc6ae5", func := "mosaic/mosaiclaw30.MeterGives", spec := "meterGives", apart := false, narrowed := true }
def MeterGivesUptoSaid : Prop := meterGivesUptoRow.holds Try.pinned (OpenSpec.upto meterGivesSpec)

/-- 'mosaiclaw30.MeterNil', WHERE WHAT IT READS IS OF BULK AT MOST 1048576: true; the input reads as it did. -/
def meterNilUptoRow : OpenClaim := { program := "ytigcgdamipeidaa", sum := "5f9b96a43d9f9d4a672c012eedb0517ae1272968c71310c2ed0fbb1c91cc6ae5", func := "mosaic/mosaiclaw30.MeterNil", spec := "meterNil", apart := false, narrowed := true }
def MeterNilUptoSaid : Prop := meterNilUptoRow.holds Try.pinned (OpenSpec.upto meterNilSpec)

end Rows
end Go.Proofs.Ytigcgdamipeidaa
