-- The kit's printed words, cut down by a program of this seat to what this claim names.
import Derived.Test.YtajkonnamldjaaaWWords
/-! ### 58. A guarded operation whose guard is known to want it: the same goal without the guard -/
namespace Go.Proofs.YtajkonnamldjaaaW.PrintWords
open Go.RowKit
section
variable {P : Program} {ops : Array Oper} {rest : List Oper} {o : Oper} {a : Act} {Q : Exit → Act → World → Prop} {W : World}
end
end Go.Proofs.YtajkonnamldjaaaW.PrintWords
