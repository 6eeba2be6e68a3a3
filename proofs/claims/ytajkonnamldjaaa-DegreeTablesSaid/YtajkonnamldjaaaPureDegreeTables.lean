import Derived.Test.YtajkonnamldjaaaDegC
import Derived.Test.YtajkonnamldjaaaQx25
namespace Go.Proofs.Ytajkonnamldjaaa.Pure
open Go.RowKit Plain Q RatioSpec DegSpec

theorem DegreeTables (a b c d : Int) (_ : (Lit.int .i64 a).wf = true) (_ : (Lit.int .i64 b).wf = true) (_ : (Lit.int .i64 c).wf = true) (_ : (Lit.int .i64 d).wf = true) :
    ∃ k, mosaiclaw06_DegreeTables.f k a b c d = some true := by
  refine ⟨3000, ?_⟩
  unfold mosaiclaw06_DegreeTables.f
  simp only [mosaiclaw06_Ref.f, mosaiclaw05_Ref.f, Option.bind_some]
  rw [table_spec 2930, table_spec' 0, awake06 2928, check6, check6' 2999]
  simp only [Option.bind_some, if_true, beq_self_eq_true]
  have hl : (tableP a b c d).1.length ≤ 70 := by
    unfold tableP
    split
    · rename_i h
      have := table_length h
      have := ((codeB_iff ..).1 h).2.2.2.2.2.2.2.1
      show (table a b d).length ≤ 70
      omega
    · simp
  rw [same_spec 2928 _ hl]
  simp
end Go.Proofs.Ytajkonnamldjaaa.Pure
