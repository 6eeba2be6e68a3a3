/-
  No cell of these rows narrows 'for every input' (looked for: loops, veiled, ifaces, maps, wideKeys, modest, calm, conditions, laid).
  DERIVED. THE GIVEN ROWS OF THIS SEAT. 12 by the template 'for every input the law returns true; each argument reads behind the call as it read before'; 0 by the template 'total and deterministic' (their statements: YtajkonnamldjaaaTotals.lean).
  GIVEN WITH THE SEED: the statements are not yours to turn. If you find one false, say at which input.
  Laid BY PROGRAM, IN A SANDBOX (cutbox-rows.mjs): the forced cells as the released guide's own fill.sh prints them over the translation 1286c0f8cad2c9d9… (all of the seat's roots in one cut). By AI agents, Wed Nov 11 2026. No macro, syntax, notation, axiom, sorry.
-/
import Derived.Test.YtajkonnamldjaaaChecked
import GoSem.Claim
import GoSem.ClaimJoined
import GoSem.ClaimMapViews
import Derived.JoinedTies
import Derived.KernelRfl
namespace Go.Proofs.Ytajkonnamldjaaa
/- THE CELL 'sum', in the pinned program and in every row, IS THE sha256 OF THE DUMP (.gsa) THAT YtajkonnamldjaaaProg.lean LOADS. Nothing in Lean hashes anything: it is a label: what it is worth is what the hold of that sum in a sandbox is worth. -/
noncomputable def Try.pinned : Pinned := { name := "ytajkonnamldjaaa", sum := "1286c0f8cad2c9d96ea1b01a4ef4fb88fe6b568999d773e74c9d033b0ef50637", checked := Try.checked }
namespace Rows
def none {H : Type} : Left H := { results := [], args := [] }

/-- 'mosaiclaw06.DegreeTables': WHATEVER THE INPUT: true; the input reads as it did. -/
def degreeTablesSpec : ChangeSpec := { name := "degreeTables", fn := fun _ => fun
  | [d] => { results := [.lit (.bool true)], args := [d] }
  | _ => none }
def degreeTablesRow : OpenClaim := { program := "ytajkonnamldjaaa", sum := "1286c0f8cad2c9d96ea1b01a4ef4fb88fe6b568999d773e74c9d033b0ef50637", func := "mosaic/mosaiclaw06.DegreeTables", spec := "degreeTables", apart := false }
def DegreeTablesSaid : Prop := degreeTablesRow.holds Try.pinned (OpenSpec.ofChange degreeTablesSpec)

/-- ITS FALSE NEIGHBOUR: 'it returns false'. Refute it at one input. -/
def degreeTablesWrong : ChangeSpec := { name := "degreeTables", fn := fun _ => fun
  | [d] => { results := [.lit (.bool false)], args := [d] }
  | _ => none }
def DegreeTablesWrongFalsely : Prop := degreeTablesRow.holds Try.pinned (OpenSpec.ofChange degreeTablesWrong)

/-- 'mosaiclaw06.DegreeChances': WHATEVER THE INPUT: true; the input reads as it did. -/
def degreeChancesSpec : ChangeSpec := { name := "degreeChances", fn := fun _ => fun
  | [d1, d2] => { results := [.lit (.bool true)], args := [d1, d2] }
  | _ => none }
def degreeChancesRow : OpenClaim := { program := "ytajkonnamldjaaa", sum := "1286c0f8cad2c9d96ea1b01a4ef4fb88fe6b568999d773e74c9d033b0ef50637", func := "mosaic/mosaiclaw06.DegreeChances", spec := "degreeChances", apart := false }
def DegreeChancesSaid : Prop := degreeChancesRow.holds Try.pinned (OpenSpec.ofChange degreeChancesSpec)

/-- ITS FALSE NEIGHBOUR: 'it returns false'. Refute it at one input. -/
def degreeChancesWrong : ChangeSpec := { name := "degreeChances", fn := fun _ => fun
  | [d1, d2] => { results := [.lit (.bool false)], args := [d1, d2] }
  | _ => none }
def DegreeChancesWrongFalsely : Prop := degreeChancesRow.holds Try.pinned (OpenSpec.ofChange degreeChancesWrong)

/-- 'mosaiclaw05.RatioMakes': WHATEVER THE INPUT: true; the input reads as it did. -/
def ratioMakesSpec : ChangeSpec := { name := "ratioMakes", fn := fun _ => fun
  | [d1, d2, d3] => { results := [.lit (.bool true)], args := [d1, d2, d3] }
  | _ => none }
def ratioMakesRow : OpenClaim := { program := "ytajkonnamldjaaa", sum := "1286c0f8cad2c9d96ea1b01a4ef4fb88fe6b568999d773e74c9d033b0ef50637", func := "mosaic/mosaiclaw05.RatioMakes", spec := "ratioMakes", apart := false }
def RatioMakesSaid : Prop := ratioMakesRow.holds Try.pinned (OpenSpec.ofChange ratioMakesSpec)

/-- ITS FALSE NEIGHBOUR: 'it returns false'. Refute it at one input. -/
def ratioMakesWrong : ChangeSpec := { name := "ratioMakes", fn := fun _ => fun
  | [d1, d2, d3] => { results := [.lit (.bool false)], args := [d1, d2, d3] }
  | _ => none }
def RatioMakesWrongFalsely : Prop := ratioMakesRow.holds Try.pinned (OpenSpec.ofChange ratioMakesWrong)

/-- 'mosaiclaw06.DegreeWords': WHATEVER THE INPUT: true; the input reads as it did. -/
def degreeWordsSpec : ChangeSpec := { name := "degreeWords", fn := fun _ => fun
  | [d1, d2] => { results := [.lit (.bool true)], args := [d1, d2] }
  | _ => none }
def degreeWordsRow : OpenClaim := { program := "ytajkonnamldjaaa", sum := "1286c0f8cad2c9d96ea1b01a4ef4fb88fe6b568999d773e74c9d033b0ef50637", func := "mosaic/mosaiclaw06.DegreeWords", spec := "degreeWords", apart := false }
def DegreeWordsSaid : Prop := degreeWordsRow.holds Try.pinned (OpenSpec.ofChange degreeWordsSpec)

/-- ITS FALSE NEIGHBOUR: 'it returns false'. Refute it at one input. -/
def degreeWordsWrong : ChangeSpec := { name := "degreeWords", fn := fun _ => fun
  | [d1, d2] => { results := [.lit (.bool false)], args := [d1, d2] }
  | _ => none }
def DegreeWordsWrongFalsely : Prop := degreeWordsRow.holds Try.pinned (OpenSpec.ofChange degreeWordsWrong)

/-- 'mosaiclaw06.DegreeAux': WHATEVER THE INPUT: true; the input reads as it did. -/
def degreeAuxSpec : ChangeSpec := { name := "degreeAux", fn := fun _ => fun
  | [d1, d2] => { results := [.lit (.bool true)], args := [d1, d2] }
  | _ => none }
def degreeAuxRow : OpenClaim := { program := "ytajkonnamldjaaa", sum := "1286c0f8cad2c9d96ea1b01a4ef4fb88fe6b568999d773e74c9d033b0ef50637", func := "mosaic/mosaiclaw06.DegreeAux", spec := "degreeAux", apart := false }
def DegreeAuxSaid : Prop := degreeAuxRow.holds Try.pinned (OpenSpec.ofChange degreeAuxSpec)

/-- ITS FALSE NEIGHBOUR: 'it returns false'. Refute it at one input. -/
def degreeAuxWrong : ChangeSpec := { name := "degreeAux", fn := fun _ => fun
  | [d1, d2] => { results := [.lit (.bool false)], args := [d1, d2] }
  | _ => none }
def DegreeAuxWrongFalsely : Prop := degreeAuxRow.holds Try.pinned (OpenSpec.ofChange degreeAuxWrong)

/-- 'mosaiclaw06.DegreeEach': WHATEVER THE INPUT: true; the input reads as it did. -/
def degreeEachSpec : ChangeSpec := { name := "degreeEach", fn := fun _ => fun
  | [d1, d2, d3] => { results := [.lit (.bool true)], args := [d1, d2, d3] }
  | _ => none }
def degreeEachRow : OpenClaim := { program := "ytajkonnamldjaaa", sum := "1286c0f8cad2c9d96ea1b01a4ef4fb88fe6b568999d773e74c9d033b0ef50637", func := "mosaic/mosaiclaw06.DegreeEach", spec := "degreeEach", apart := false }
def DegreeEachSaid : Prop := degreeEachRow.holds Try.pinned (OpenSpec.ofChange degreeEachSpec)

/-- ITS FALSE NEIGHBOUR: 'it returns false'. Refute it at one input. -/
def degreeEachWrong : ChangeSpec := { name := "degreeEach", fn := fun _ => fun
  | [d1, d2, d3] => { results := [.lit (.bool false)], args := [d1, d2, d3] }
  | _ => none }
def DegreeEachWrongFalsely : Prop := degreeEachRow.holds Try.pinned (OpenSpec.ofChange degreeEachWrong)

/-- 'mosaiclaw05.RatioReckons': WHATEVER THE INPUT: true; the input reads as it did. -/
def ratioReckonsSpec : ChangeSpec := { name := "ratioReckons", fn := fun _ => fun
  | [d1, d2] => { results := [.lit (.bool true)], args := [d1, d2] }
  | _ => none }
def ratioReckonsRow : OpenClaim := { program := "ytajkonnamldjaaa", sum := "1286c0f8cad2c9d96ea1b01a4ef4fb88fe6b568999d773e74c9d033b0ef50637", func := "mosaic/mosaiclaw05.RatioReckons", spec := "ratioReckons", apart := false }
def RatioReckonsSaid : Prop := ratioReckonsRow.holds Try.pinned (OpenSpec.ofChange ratioReckonsSpec)

/-- ITS FALSE NEIGHBOUR: 'it returns false'. Refute it at one input. -/
def ratioReckonsWrong : ChangeSpec := { name := "ratioReckons", fn := fun _ => fun
  | [d1, d2] => { results := [.lit (.bool false)], args := [d1, d2] }
  | _ => none }
def RatioReckonsWrongFalsely : Prop := ratioReckonsRow.holds Try.pinned (OpenSpec.ofChange ratioReckonsWrong)

/-- 'mosaiclaw05.RatioTurns': WHATEVER THE INPUT: true; the input reads as it did. -/
def ratioTurnsSpec : ChangeSpec := { name := "ratioTurns", fn := fun _ => fun
  | [d1, d2] => { results := [.lit (.bool true)], args := [d1, d2] }
  | _ => none }
def ratioTurnsRow : OpenClaim := { program := "ytajkonnamldjaaa", sum := "1286c0f8cad2c9d96ea1b01a4ef4fb88fe6b568999d773e74c9d033b0ef50637", func := "mosaic/mosaiclaw05.RatioTurns", spec := "ratioTurns", apart := false }
def RatioTurnsSaid : Prop := ratioTurnsRow.holds Try.pinned (OpenSpec.ofChange ratioTurnsSpec)

/-- ITS FALSE NEIGHBOUR: 'it returns false'. Refute it at one input. -/
def ratioTurnsWrong : ChangeSpec := { name := "ratioTurns", fn := fun _ => fun
  | [d1, d2] => { results := [.lit (.bool false)], args := [d1, d2] }
  | _ => none }
def RatioTurnsWrongFalsely : Prop := ratioTurnsRow.holds Try.pinned (OpenSpec.ofChange ratioTurnsWrong)

/-- 'mosaiclaw05.RatioScales': WHATEVER THE INPUT: true; the input reads as it did. -/
def ratioScalesSpec : ChangeSpec := { name := "ratioScales", fn := fun _ => fun
  | [d1, d2, d3] => { results := [.lit (.bool true)], args := [d1, d2, d3] }
  | _ => none }
def ratioScalesRow : OpenClaim := { program := "ytajkonnamldjaaa", sum := "1286c0f8cad2c9d96ea1b01a4ef4fb88fe6b568999d773e74c9d033b0ef50637", func := "mosaic/mosaiclaw05.RatioScales", spec := "ratioScales", apart := false }
def RatioScalesSaid : Prop := ratioScalesRow.holds Try.pinned (OpenSpec.ofChange ratioScalesSpec)

/-- ITS FALSE NEIGHBOUR: 'it returns false'. Refute it at one input. -/
def ratioScalesWrong : ChangeSpec := { name := "ratioScales", fn := fun _ => fun
  | [d1, d2, d3] => { results := [.lit (.bool false)], args := [d1, d2, d3] }
  | _ => none }
def RatioScalesWrongFalsely : Prop := ratioScalesRow.holds Try.pinned (OpenSpec.ofChange ratioScalesWrong)

/-- 'mosaiclaw06.DegreeRises': WHATEVER THE INPUT: true; the input reads as it did. -/
def degreeRisesSpec : ChangeSpec := { name := "degreeRises", fn := fun _ => fun
  | [d] => { results := [.lit (.bool true)], args := [d] }
  | _ => none }
def degreeRisesRow : OpenClaim := { program := "ytajkonnamldjaaa", sum := "1286c0f8cad2c9d96ea1b01a4ef4fb88fe6b568999d773e74c9d033b0ef50637", func := "mosaic/mosaiclaw06.DegreeRises", spec := "degreeRises", apart := false }
def DegreeRisesSaid : Prop := degreeRisesRow.holds Try.pinned (OpenSpec.ofChange degreeRisesSpec)

/-- ITS FALSE NEIGHBOUR: 'it returns false'. Refute it at one input. -/
def degreeRisesWrong : ChangeSpec := { name := "degreeRises", fn := fun _ => fun
  | [d] => { results := [.lit (.bool false)], args := [d] }
  | _ => none }
def DegreeRisesWrongFalsely : Prop := degreeRisesRow.holds Try.pinned (OpenSpec.ofChange degreeRisesWrong)

/-- 'mosaiclaw05.RatioStands': WHATEVER THE INPUT: true; the input reads as it did. -/
def ratioStandsSpec : ChangeSpec := { name := "ratioStands", fn := fun _ => fun
  | [d1, d2, d3] => { results := [.lit (.bool true)], args := [d1, d2, d3] }
  | _ => none }
def ratioStandsRow : OpenClaim := { program := "ytajkonnamldjaaa", sum := "1286c0f8cad2c9d96ea1b01a4ef4fb88fe6b568999d773e74c9d033b0ef50637", func := "mosaic/mosaiclaw05.RatioStands", spec := "ratioStands", apart := false }
def RatioStandsSaid : Prop := ratioStandsRow.holds Try.pinned (OpenSpec.ofChange ratioStandsSpec)

/-- ITS FALSE NEIGHBOUR: 'it returns false'. Refute it at one input. -/
def ratioStandsWrong : ChangeSpec := { name := "ratioStands", fn := fun _ => fun
  | [d1, d2, d3] => { results := [.lit (.bool false)], args := [d1, d2, d3] }
  | _ => none }
def RatioStandsWrongFalsely : Prop := ratioStandsRow.holds Try.pinned (OpenSpec.ofChange ratioStandsWrong)

/-- 'mosaiclaw05.RatioOrder': WHATEVER THE INPUT: true; the input reads as it did. -/
def ratioOrderSpec : ChangeSpec := { name := "ratioOrder", fn := fun _ => fun
  | [d1, d2, d3] => { results := [.lit (.bool true)], args := [d1, d2, d3] }
  | _ => none }
def ratioOrderRow : OpenClaim := { program := "ytajkonnamldjaaa", sum := "1286c0f8cad2c9d96ea1b01a4ef4fb88fe6b568999d773e74c9d033b0ef50637", func := "mosaic/mosaiclaw05.RatioOrder", spec := "ratioOrder", apart := false }
def RatioOrderSaid : Prop := ratioOrderRow.holds Try.pinned (OpenSpec.ofChange ratioOrderSpec)

/-- ITS FALSE NEIGHBOUR: 'it returns false'. Refute it at one input. -/
def ratioOrderWrong : ChangeSpec := { name := "ratioOrder", fn := fun _ => fun
  | [d1, d2, d3] => { results := [.lit (.bool false)], args := [d1, d2, d3] }
  | _ => none }
def RatioOrderWrongFalsely : Prop := ratioOrderRow.holds Try.pinned (OpenSpec.ofChange ratioOrderWrong)

/- THE SECOND FORM. 'bulk': how many values and letters a reading holds, each counted each time it is reached (what is shared counts as often as it is met; a slice's spare places count too). A statement '..UptoSaid' is the law's where the arguments, and the package variables that the reading takes, are together of bulk at most 1048576: NARROWER than '..Said'. Prove '..Said' where nothing that the law and all that it calls make is longer than what came in: it says more and counts as full. Else prove '..UptoSaid'. A law counts once. -/
mutual
def uptoBulk {H : Type} : DataW H → Nat
  | .lit (.string bytes) => bytes.length + 1
  | .lit _ => 1
  | .nil => 1
  | .ptr d => uptoBulk d + 1
  | .slice elems spare => uptoBulkAll elems + uptoBulkAll spare + 1
  | .agg parts => uptoBulkAll parts + 1
  | .iface _ d => uptoBulk d + 1
  | .map entries => uptoBulkEntries entries + 1
  | .held _ => 1
def uptoBulkAll {H : Type} : List (DataW H) → Nat
  | [] => 0
  | d :: r => uptoBulk d + uptoBulkAll r
def uptoBulkEntries {H : Type} : List (Lit × DataW H) → Nat
  | [] => 0
  | x :: r => uptoBulkEntry x + uptoBulkEntries r
def uptoBulkEntry {H : Type} : Lit × DataW H → Nat
  | (.string bytes, d) => bytes.length + uptoBulk d + 1
  | (_, d) => uptoBulk d + 1
 end
def uptoSmall : (H : Type) → List (DataW H) → Bool := fun _ ds => decide (uptoBulkAll ds ≤ 1048576)
def OpenSpec.upto (s : _root_.Go.ChangeSpec) : _root_.Go.OpenSpec := { _root_.Go.OpenSpec.ofChange s with cond := some uptoSmall }

/-- 'mosaiclaw06.DegreeTables', WHERE WHAT IT READS IS OF BULK AT MOST 1048576: true; the input reads as it did. -/
def degreeTablesUptoRow : OpenClaim := { program := "ytajkonnamldjaaa", sum := "1286c0f8cad2c9d96ea1b01a4ef4fb88fe6b568999d773e74c9d033b0ef50637", func := "mosaic/mosaiclaw06.DegreeTables", spec := "degreeTables", apart := false, narrowed := true }
def DegreeTablesUptoSaid : Prop := degreeTablesUptoRow.holds Try.pinned (OpenSpec.upto degreeTablesSpec)

/-- 'mosaiclaw06.DegreeChances', WHERE WHAT IT READS IS OF BULK AT MOST 1048576: true; the input reads as it did. -/
def degreeChancesUptoRow : OpenClaim := { program := "ytajkonnamldjaaa", sum := "1286c0f8cad2c9d96ea1b01a4ef4fb88fe6b568999d773e74c9d033b0ef50637", func := "mosaic/mosaiclaw06.DegreeChances", spec := "degreeChances", apart := false, narrowed := true }
def DegreeChancesUptoSaid : Prop := degreeChancesUptoRow.holds Try.pinned (OpenSpec.upto degreeChancesSpec)

/-- 'mosaiclaw05.RatioMakes', WHERE WHAT IT READS IS OF BULK AT MOST 1048576: true; the input reads as it did. -/
def ratioMakesUptoRow : OpenClaim := { program := "ytajkonnamldjaaa", sum := "1286c0f8cad2c9d96ea1b01a4ef4fb88fe6b568999d773e74c9d033b0ef50637", func := "mosaic/mosaiclaw05.RatioMakes", spec := "ratioMakes", apart := false, narrowed := true }
def RatioMakesUptoSaid : Prop := ratioMakesUptoRow.holds Try.pinned (OpenSpec.upto ratioMakesSpec)

/-- 'mosaiclaw06.DegreeWords', WHERE WHAT IT READS IS OF BULK AT MOST 1048576: true; the input reads as it did. -/
def degreeWordsUptoRow : OpenClaim := { program := "ytajkonnamldjaaa", sum := "1286c0f8cad2c9d96ea1b01a4ef4fb88fe6b568999d773e74c9d033b0ef50637", func := "mosaic/mosaiclaw06.DegreeWords", spec := "degreeWords", apart := false, narrowed := true }
def DegreeWordsUptoSaid : Prop := degreeWordsUptoRow.holds Try.pinned (OpenSpec.upto degreeWordsSpec)

/-- 'mosaiclaw06.DegreeAux', WHERE WHAT IT READS IS OF BULK AT MOST 1048576: true; the input reads as it did. -/
def degreeAuxUptoRow : OpenClaim := { program := "ytajkonnamldjaaa", sum := "1286c0f8cad2c9d96ea1b01a4ef4fb88fe6b568999d773e74c9d033b0ef50637", func := "mosaic/mosaiclaw06.DegreeAux", spec := "degreeAux", apart := false, narrowed := true }
def DegreeAuxUptoSaid : Prop := degreeAuxUptoRow.holds Try.pinned (OpenSpec.upto degreeAuxSpec)

/-- 'mosaiclaw06.DegreeEach', WHERE WHAT IT READS IS OF BULK AT MOST 1048576: true; the input reads as it did. -/
def degreeEachUptoRow : OpenClaim := { program := "ytajkonnamldjaaa", sum := "1286c0f8cad2c9d96ea1b01a4ef4fb88fe6b568999d773e74c9d033b0ef50637", func := "mosaic/mosaiclaw06.DegreeEach", spec := "degreeEach", apart := false, narrowed := true }
def DegreeEachUptoSaid : Prop := degreeEachUptoRow.holds Try.pinned (OpenSpec.upto degreeEachSpec)

/-- 'mosaiclaw05.RatioReckons', WHERE WHAT IT READS IS OF BULK AT MOST 1048576: true; the input reads as it did. -/
def ratioReckonsUptoRow : OpenClaim := { program := "ytajkonnamldjaaa", sum := "1286c0f8cad2c9d96ea1b01a4ef4fb88fe6b568999d773e74c9d033b0ef50637", func := "mosaic/mosaiclaw05.RatioReckons", spec := "ratioReckons", apart := false, narrowed := true }
def RatioReckonsUptoSaid : Prop := ratioReckonsUptoRow.holds Try.pinned (OpenSpec.upto ratioReckonsSpec)

/-- 'mosaiclaw05.RatioTurns', WHERE WHAT IT READS IS OF BULK AT MOST 1048576: true; the input reads as it did. -/
def ratioTurnsUptoRow : OpenClaim := { program := "ytajkonnamldjaaa", sum := "1286c0f8cad2c9d96ea1b01a4ef4fb88fe6b568999d773e74c9d033b0ef50637", func := "mosaic/mosaiclaw05.RatioTurns", spec := "ratioTurns", apart := false, narrowed := true }
def RatioTurnsUptoSaid : Prop := ratioTurnsUptoRow.holds Try.pinned (OpenSpec.upto ratioTurnsSpec)

/-- 'mosaiclaw05.RatioScales', WHERE WHAT IT READS IS OF BULK AT MOST 1048576: true; the input reads as it did. -/
def ratioScalesUptoRow : OpenClaim := { program := "ytajkonnamldjaaa", sum := "1286c0f8cad2c9d96ea1b01a4ef4fb88fe6b568999d773e74c9d033b0ef50637", func := "mosaic/mosaiclaw05.RatioScales", spec := "ratioScales", apart := false, narrowed := true }
def RatioScalesUptoSaid : Prop := ratioScalesUptoRow.holds Try.pinned (OpenSpec.upto ratioScalesSpec)

/-- 'mosaiclaw06.DegreeRises', WHERE WHAT IT READS IS OF BULK AT MOST 1048576: true; the input reads as it did. -/
def degreeRisesUptoRow : OpenClaim := { program := "ytajkonnamldjaaa", sum := "1286c0f8cad2c9d96ea1b01a4ef4fb88fe6b568999d773e74c9d033b0ef50637", func := "mosaic/mosaiclaw06.DegreeRises", spec := "degreeRises", apart := false, narrowed := true }
def DegreeRisesUptoSaid : Prop := degreeRisesUptoRow.holds Try.pinned (OpenSpec.upto degreeRisesSpec)

/-- 'mosaiclaw05.RatioStands', WHERE WHAT IT READS IS OF BULK AT MOST 1048576: true; the input reads as it did. -/
def ratioStandsUptoRow : OpenClaim := { program := "ytajkonnamldjaaa", sum := "1286c0f8cad2c9d96ea1b01a4ef4fb88fe6b568999d773e74c9d033b0ef50637", func := "mosaic/mosaiclaw05.RatioStands", spec := "ratioStands", apart := false, narrowed := true }
def RatioStandsUptoSaid : Prop := ratioStandsUptoRow.holds Try.pinned (OpenSpec.upto ratioStandsSpec)

/-- 'mosaiclaw05.RatioOrder', WHERE WHAT IT READS IS OF BULK AT MOST 1048576: true; the input reads as it did. -/
def ratioOrderUptoRow : OpenClaim := { program := "ytajkonnamldjaaa", sum := "1286c0f8cad2c9d96ea1b01a4ef4fb88fe6b568999d773e74c9d033b0ef50637", func := "mosaic/mosaiclaw05.RatioOrder", spec := "ratioOrder", apart := false, narrowed := true }
def RatioOrderUptoSaid : Prop := ratioOrderUptoRow.holds Try.pinned (OpenSpec.upto ratioOrderSpec)

end Rows
end Go.Proofs.Ytajkonnamldjaaa
