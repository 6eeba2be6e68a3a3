-- Written by a program of this seat (a changed copy of a printer, cut in three by split2.py), not by hand.
import Derived.Test.YtajkonnamldjaaaQx0
import Derived.Test.YtajkonnamldjaaaQx2
import Derived.Test.YtajkonnamldjaaaQx17
import Derived.Test.YtajkonnamldjaaaQx32
import Derived.Test.YtajkonnamldjaaaQx36
import Derived.Test.YtajkonnamldjaaaQx45
import Derived.Test.YtajkonnamldjaaaQx46
import Derived.Test.YtajkonnamldjaaaQx47
import Derived.Test.YtajkonnamldjaaaQx48
import Derived.Test.YtajkonnamldjaaaQx49
import Derived.Test.YtajkonnamldjaaaQx50
namespace Go.Proofs.Ytajkonnamldjaaa.Q
open Go.RowKit Go.Proofs.YtajkonnamldjaaaW.PrintWords Go.Proofs.YtajkonnamldjaaaW.PrintLast Go.Proofs.YtajkonnamldjaaaW.PrintMore
open Go.Proofs.Ytajkonnamldjaaa
attribute [local go_sem] max2_int min2_int max_two min_two max_three min_three max_four min_four   -- for this text's walks alone
set_option linter.unusedVariables false
set_option linter.unusedSimpArgs false

attribute [local go_sem high] eqA32
def mosaiclaw05_RatioReckons.tl : Nat → Code → Code
  | 0, c => c
  | n + 1, .seq _ c => mosaiclaw05_RatioReckons.tl n c
  | _, c => c
/-- What is left of the body behind so many regions. -/
noncomputable def mosaiclaw05_RatioReckons.code (n : Nat) : Code := mosaiclaw05_RatioReckons.tl n (Try.f9.body.getD .skip)
def mosaiclaw05_RatioReckons.T9 : Bool × List (List Nat × List Nat) := (true, [([], []), ([0, 0], [0]), ([1], [1]), ([2, 1, 1], [1, 2]), ([1], [1]), ([3, 4, 1], [1, 3, 4]), ([1, 5], [1, 5]), ([6, 3], [6]), ([7], [7]), ([7], [7]), ([8, 9, 7], [7, 8, 9]), ([7, 10], [7, 10]), ([11, 7], [11]), ([12], [12]), ([13, 12, 12], [12, 13]), ([12], [12]), ([14, 15, 12], [12, 14, 15]), ([12, 16], [12, 16]), ([17, 14], [17]), ([18], [18]), ([18], [18]), ([19, 20, 18], [18, 19, 20]), ([18, 21], [18, 21]), ([22, 18], [22]), ([23], [23]), ([24, 23, 23], [23, 24]), ([23], [23]), ([25, 26, 23], [23, 25, 26]), ([23, 27], [23, 27]), ([28, 25], [28]), ([29], [29]), ([29], [29]), ([30, 31, 29], [29, 30, 31]), ([29, 32], [29, 32]), ([33, 29], [33]), ([34], [34]), ([35, 34, 34], [34, 35]), ([34], [34]), ([36, 37, 34], [34, 36, 37]), ([34, 38], [34, 38]), ([39, 36], [39]), ([40], [40]), ([40], [40]), ([41, 42, 40], [40, 41, 42]), ([40, 43], [40, 43]), ([44, 40, 0, 1, 2, 3, 4, 5, 6, 7, 8, 9, 10, 11, 12, 13, 14, 15, 16, 17, 18, 19, 20, 21, 22, 23, 24, 25, 26, 27, 28, 29, 30, 31, 32, 33, 34, 35, 36, 37, 38, 39, 40, 41, 42, 43, 44], [44])])
def mosaiclaw05_RatioReckons.B9 : List Nat := [0, 1, 3, 7, 3, 31, 63, 127, 255, 255, 1023, 2047, 4095, 8191, 16383, 8191, 65535, 131071, 262143, 524287, 524287, 2097151, 4194303, 8388607, 16777215, 33554431, 16777215, 134217727, 268435455, 536870911, 1073741823, 1073741823, 4294967295, 8589934591, 17179869183, 34359738367, 68719476735, 34359738367, 274877906943, 549755813887, 1099511627775, 2199023255551, 2199023255551, 8796093022207, 17592186044415, 35184372088831]
theorem mosaiclaw05_RatioReckons.tab9 : rtab .any (opsOf Try.f9 9) = mosaiclaw05_RatioReckons.T9 := by kernel_rfl
theorem mosaiclaw05_RatioReckons.bits9 : waitsOk mosaiclaw05_RatioReckons.T9.2 mosaiclaw05_RatioReckons.B9 = true := by kernel_rfl
set_option maxHeartbeats 8000000 in
set_option maxRecDepth 100000 in
theorem mosaiclaw05_RatioReckons.rest9 (k : Nat) (a0_0 a0_1 a1_0 a1_1 : Int) (w : Go.World) (t205 t206 t207 : Int) (t209 t210 : Int) (t211 t212 : Int) (t213 t214 t215 : Int) (t217 t218 t219 : Int) (t221 t222 : Int) (t223 t224 : Int) (t225 t226 t227 : Int) (t229 t230 t231 : Int) (t233 t234 : Int) (t235 t236 : Int) (t237 t238 t239 : Int) (t241 t242 t243 : Int) (t245 t246 : Int) (t247 t248 : Int) (t249 t250 t251 : Int) (t254 t255 : Int) (t256 t257 : Int) (t258 t259 : Int) (t260 t261 : Int) (gb203 : Nat) (gb204 : Nat) (gb208 : Nat) (gb216 : Nat) (gb220 : Nat) (gb228 : Nat) (gb232 : Nat) (gb240 : Nat) (gb244 : Nat) (gb252 : Nat) (w114 : Go.World)
    (A19 : Go.Proofs.YtajkonnamldjaaaW.PrintWords.Aside0
    (Go.Proofs.Ytajkonnamldjaaa.Q.mosaiclaw05_awake.f k = Option.some Bool.true))
    (A21 : Go.Proofs.YtajkonnamldjaaaW.PrintWords.Aside0
    (Go.Proofs.Ytajkonnamldjaaa.Q.mosaiclaw05_Ref.f t205 t206 = Option.some (t254, t255)))
    (c22b0 : (t254 == t213 && t255 == t214) = Bool.true)
    (c22b1 : Decidable.decide ((Decidable.decide (t254 = t213) && t255 == t214) = Bool.true) = Bool.true)
    (c22b2 : (t254 == t213 && t255 == t214) = Bool.true)
    (c23b0 : (t207 == t215) = Bool.true)
    (c23b1 : (t207 != t215) = Bool.false)
    (A24 : Go.Proofs.YtajkonnamldjaaaW.PrintWords.Aside0
    (Go.Proofs.Ytajkonnamldjaaa.Q.mosaiclaw05_Ref.f t217 t218 = Option.some (t256, t257)))
    (c25b0 : (t256 == t225 && t257 == t226) = Bool.true)
    (c25b1 : Decidable.decide ((Decidable.decide (t256 = t225) && t257 == t226) = Bool.true) = Bool.true)
    (c25b2 : (t256 == t225 && t257 == t226) = Bool.true)
    (c26b0 : (t219 == t227) = Bool.true)
    (c26b1 : (t219 != t227) = Bool.false)
    (A27 : Go.Proofs.YtajkonnamldjaaaW.PrintWords.Aside0
    (Go.Proofs.Ytajkonnamldjaaa.Q.mosaiclaw05_Ref.f t229 t230 = Option.some (t258, t259)))
    (c28b0 : (t258 == t237 && t259 == t238) = Bool.true)
    (c28b1 : Decidable.decide ((Decidable.decide (t258 = t237) && t259 == t238) = Bool.true) = Bool.true)
    (c28b2 : (t258 == t237 && t259 == t238) = Bool.true)
    (c29b0 : (t231 == t239) = Bool.true)
    (c29b1 : (t231 != t239) = Bool.false)
    (A30 : Go.Proofs.YtajkonnamldjaaaW.PrintWords.Aside0
    (Go.Proofs.Ytajkonnamldjaaa.Q.mosaiclaw05_Ref.f t241 t242 = Option.some (t260, t261)))
    (c31b0 : (t260 == t249 && t261 == t250) = Bool.true)
    (c31b1 : Decidable.decide ((Decidable.decide (t260 = t249) && t261 == t250) = Bool.true) = Bool.true)
    (c31b2 : (t260 == t249 && t261 == t250) = Bool.true)
    (GW203 GE203 : Go.Proofs.YtajkonnamldjaaaW.PrintWords.Aside0 (w.heap.size ≤ gb203))
    (GW204 GE204 : Go.Proofs.YtajkonnamldjaaaW.PrintWords.Aside0 (w.heap.size ≤ gb204))
    (hnb34 : gb203 ≠ gb204)
    (hnc34 : gb204 ≠ gb203)
    (GW208 GE208 : Go.Proofs.YtajkonnamldjaaaW.PrintWords.Aside0 (w.heap.size ≤ gb208))
    (hnb39 : gb208 ≠ gb203)
    (hnc39 : gb203 ≠ gb208)
    (hnb40 : gb208 ≠ gb204)
    (hnc40 : gb204 ≠ gb208)
    (GW216 GE216 : Go.Proofs.YtajkonnamldjaaaW.PrintWords.Aside0 (w.heap.size ≤ gb216))
    (hns49_0 : gb203 ≠ gb216)
    (hns49_1 : gb204 ≠ gb216)
    (hns49_2 : gb208 ≠ gb216)
    (hms49_0 : gb216 ≠ gb203)
    (hms49_1 : gb216 ≠ gb204)
    (hms49_2 : gb216 ≠ gb208)
    (hns50_0 : gb203 ≠ gb216)
    (hns50_1 : gb204 ≠ gb216)
    (hns50_2 : gb208 ≠ gb216)
    (hms50_0 : gb216 ≠ gb203)
    (hms50_1 : gb216 ≠ gb204)
    (hms50_2 : gb216 ≠ gb208)
    (hnb51 : gb203 ≠ gb216)
    (hnc51 : gb216 ≠ gb203)
    (hnb53 : gb204 ≠ gb216)
    (hnc53 : gb216 ≠ gb204)
    (GW220 GE220 : Go.Proofs.YtajkonnamldjaaaW.PrintWords.Aside0 (w.heap.size ≤ gb220))
    (hnb57 : gb220 ≠ gb203)
    (hnc57 : gb203 ≠ gb220)
    (hnb58 : gb220 ≠ gb204)
    (hnc58 : gb204 ≠ gb220)
    (hnb59 : gb220 ≠ gb208)
    (hnc59 : gb208 ≠ gb220)
    (hnb60 : gb220 ≠ gb216)
    (hnc60 : gb216 ≠ gb220)
    (GW228 GE228 : Go.Proofs.YtajkonnamldjaaaW.PrintWords.Aside0 (w.heap.size ≤ gb228))
    (hns69_0 : gb203 ≠ gb228)
    (hns69_1 : gb204 ≠ gb228)
    (hns69_2 : gb208 ≠ gb228)
    (hns69_3 : gb216 ≠ gb228)
    (hns69_4 : gb220 ≠ gb228)
    (hms69_0 : gb228 ≠ gb203)
    (hms69_1 : gb228 ≠ gb204)
    (hms69_2 : gb228 ≠ gb208)
    (hms69_3 : gb228 ≠ gb216)
    (hms69_4 : gb228 ≠ gb220)
    (hns70_0 : gb203 ≠ gb228)
    (hns70_1 : gb204 ≠ gb228)
    (hns70_2 : gb208 ≠ gb228)
    (hns70_3 : gb216 ≠ gb228)
    (hns70_4 : gb220 ≠ gb228)
    (hms70_0 : gb228 ≠ gb203)
    (hms70_1 : gb228 ≠ gb204)
    (hms70_2 : gb228 ≠ gb208)
    (hms70_3 : gb228 ≠ gb216)
    (hms70_4 : gb228 ≠ gb220)
    (hnb71 : gb203 ≠ gb228)
    (hnc71 : gb228 ≠ gb203)
    (hnb73 : gb204 ≠ gb228)
    (hnc73 : gb228 ≠ gb204)
    (GW232 GE232 : Go.Proofs.YtajkonnamldjaaaW.PrintWords.Aside0 (w.heap.size ≤ gb232))
    (hnb77 : gb232 ≠ gb203)
    (hnc77 : gb203 ≠ gb232)
    (hnb78 : gb232 ≠ gb204)
    (hnc78 : gb204 ≠ gb232)
    (hnb79 : gb232 ≠ gb208)
    (hnc79 : gb208 ≠ gb232)
    (hnb80 : gb232 ≠ gb216)
    (hnc80 : gb216 ≠ gb232)
    (hnb81 : gb232 ≠ gb220)
    (hnc81 : gb220 ≠ gb232)
    (hnb82 : gb232 ≠ gb228)
    (hnc82 : gb228 ≠ gb232)
    (GW240 GE240 : Go.Proofs.YtajkonnamldjaaaW.PrintWords.Aside0 (w.heap.size ≤ gb240))
    (hns91_0 : gb203 ≠ gb240)
    (hns91_1 : gb204 ≠ gb240)
    (hns91_2 : gb208 ≠ gb240)
    (hns91_3 : gb216 ≠ gb240)
    (hns91_4 : gb220 ≠ gb240)
    (hns91_5 : gb228 ≠ gb240)
    (hns91_6 : gb232 ≠ gb240)
    (hms91_0 : gb240 ≠ gb203)
    (hms91_1 : gb240 ≠ gb204)
    (hms91_2 : gb240 ≠ gb208)
    (hms91_3 : gb240 ≠ gb216)
    (hms91_4 : gb240 ≠ gb220)
    (hms91_5 : gb240 ≠ gb228)
    (hms91_6 : gb240 ≠ gb232)
    (hns92_0 : gb203 ≠ gb240)
    (hns92_1 : gb204 ≠ gb240)
    (hns92_2 : gb208 ≠ gb240)
    (hns92_3 : gb216 ≠ gb240)
    (hns92_4 : gb220 ≠ gb240)
    (hns92_5 : gb228 ≠ gb240)
    (hns92_6 : gb232 ≠ gb240)
    (hms92_0 : gb240 ≠ gb203)
    (hms92_1 : gb240 ≠ gb204)
    (hms92_2 : gb240 ≠ gb208)
    (hms92_3 : gb240 ≠ gb216)
    (hms92_4 : gb240 ≠ gb220)
    (hms92_5 : gb240 ≠ gb228)
    (hms92_6 : gb240 ≠ gb232)
    (hnb93 : gb203 ≠ gb240)
    (hnc93 : gb240 ≠ gb203)
    (hnb95 : gb204 ≠ gb240)
    (hnc95 : gb240 ≠ gb204)
    (GW244 GE244 : Go.Proofs.YtajkonnamldjaaaW.PrintWords.Aside0 (w.heap.size ≤ gb244))
    (hnb99 : gb244 ≠ gb203)
    (hnc99 : gb203 ≠ gb244)
    (hnb100 : gb244 ≠ gb204)
    (hnc100 : gb204 ≠ gb244)
    (hnb101 : gb244 ≠ gb208)
    (hnc101 : gb208 ≠ gb244)
    (hnb102 : gb244 ≠ gb216)
    (hnc102 : gb216 ≠ gb244)
    (hnb103 : gb244 ≠ gb220)
    (hnc103 : gb220 ≠ gb244)
    (hnb104 : gb244 ≠ gb228)
    (hnc104 : gb228 ≠ gb244)
    (hnb105 : gb244 ≠ gb232)
    (hnc105 : gb232 ≠ gb244)
    (hnb106 : gb244 ≠ gb240)
    (hnc106 : gb240 ≠ gb244)
    (BK203 : Go.Proofs.YtajkonnamldjaaaW.PrintWords.Aside0
    (w114.heap[gb203]? =
      Option.some (Go.Obj.cells #[Go.Value.int Go.IntKind.i64 a0_0, Go.Value.int Go.IntKind.i64 a0_1] 23)))
    (BK204 : Go.Proofs.YtajkonnamldjaaaW.PrintWords.Aside0
    (w114.heap[gb204]? =
      Option.some (Go.Obj.cells #[Go.Value.int Go.IntKind.i64 a1_0, Go.Value.int Go.IntKind.i64 a1_1] 23)))
    (BK208 : Go.Proofs.YtajkonnamldjaaaW.PrintWords.Aside0
    (w114.heap[gb208]? =
      Option.some (Go.Obj.cells #[Go.Value.int Go.IntKind.i64 t205, Go.Value.int Go.IntKind.i64 t206] 23)))
    (BK216 : Go.Proofs.YtajkonnamldjaaaW.PrintWords.Aside0
    (w114.heap[gb216]? =
      Option.some (Go.Obj.cells #[Go.Value.int Go.IntKind.i64 t213, Go.Value.int Go.IntKind.i64 t214] 32)))
    (BK220 : Go.Proofs.YtajkonnamldjaaaW.PrintWords.Aside0
    (w114.heap[gb220]? =
      Option.some (Go.Obj.cells #[Go.Value.int Go.IntKind.i64 t217, Go.Value.int Go.IntKind.i64 t218] 23)))
    (BK228 : Go.Proofs.YtajkonnamldjaaaW.PrintWords.Aside0
    (w114.heap[gb228]? =
      Option.some (Go.Obj.cells #[Go.Value.int Go.IntKind.i64 t225, Go.Value.int Go.IntKind.i64 t226] 32)))
    (BK232 : Go.Proofs.YtajkonnamldjaaaW.PrintWords.Aside0
    (w114.heap[gb232]? =
      Option.some (Go.Obj.cells #[Go.Value.int Go.IntKind.i64 t229, Go.Value.int Go.IntKind.i64 t230] 23)))
    (BK240 : Go.Proofs.YtajkonnamldjaaaW.PrintWords.Aside0
    (w114.heap[gb240]? =
      Option.some (Go.Obj.cells #[Go.Value.int Go.IntKind.i64 t237, Go.Value.int Go.IntKind.i64 t238] 32)))
    (BK244 : Go.Proofs.YtajkonnamldjaaaW.PrintWords.Aside0
    (w114.heap[gb244]? =
      Option.some (Go.Obj.cells #[Go.Value.int Go.IntKind.i64 t241, Go.Value.int Go.IntKind.i64 t242] 23)))
    (BK252 : Go.Proofs.YtajkonnamldjaaaW.PrintWords.Aside0
    (w114.heap[gb252]? = Option.some (Go.Obj.cells #[Go.Value.int Go.IntKind.i64 0, Go.Value.int Go.IntKind.i64 0] 32)))
    (GW252 GE252 : Go.Proofs.YtajkonnamldjaaaW.PrintWords.Aside0 (w.heap.size ≤ gb252))
    (NB203_252 : Go.Proofs.YtajkonnamldjaaaW.PrintWords.Aside0 (gb203 ≠ gb252))
    (NB204_252 : Go.Proofs.YtajkonnamldjaaaW.PrintWords.Aside0 (gb204 ≠ gb252))
    (NB208_252 : Go.Proofs.YtajkonnamldjaaaW.PrintWords.Aside0 (gb208 ≠ gb252))
    (NB216_252 : Go.Proofs.YtajkonnamldjaaaW.PrintWords.Aside0 (gb216 ≠ gb252))
    (NB220_252 : Go.Proofs.YtajkonnamldjaaaW.PrintWords.Aside0 (gb220 ≠ gb252))
    (NB228_252 : Go.Proofs.YtajkonnamldjaaaW.PrintWords.Aside0 (gb228 ≠ gb252))
    (NB232_252 : Go.Proofs.YtajkonnamldjaaaW.PrintWords.Aside0 (gb232 ≠ gb252))
    (NB240_252 : Go.Proofs.YtajkonnamldjaaaW.PrintWords.Aside0 (gb240 ≠ gb252))
    (NB244_252 : Go.Proofs.YtajkonnamldjaaaW.PrintWords.Aside0 (gb244 ≠ gb252))
    (HB : Go.Proofs.YtajkonnamldjaaaW.PrintWords.Aside0 (Go.RowKit.Below w.heap.size w w114))
    (hfs115 : w114.frozen? { block := gb252, off := 0 } = Bool.false)
    (hns115_0 : gb203 ≠ gb252)
    (hns115_1 : gb204 ≠ gb252)
    (hns115_2 : gb208 ≠ gb252)
    (hns115_3 : gb216 ≠ gb252)
    (hns115_4 : gb220 ≠ gb252)
    (hns115_5 : gb228 ≠ gb252)
    (hns115_6 : gb232 ≠ gb252)
    (hns115_7 : gb240 ≠ gb252)
    (hns115_8 : gb244 ≠ gb252)
    (hms115_0 : gb252 ≠ gb203)
    (hms115_1 : gb252 ≠ gb204)
    (hms115_2 : gb252 ≠ gb208)
    (hms115_3 : gb252 ≠ gb216)
    (hms115_4 : gb252 ≠ gb220)
    (hms115_5 : gb252 ≠ gb228)
    (hms115_6 : gb252 ≠ gb232)
    (hms115_7 : gb252 ≠ gb240)
    (hms115_8 : gb252 ≠ gb244)
    (hfs116 : w114.frozen? { block := gb252, off := 1 } = Bool.false)
    (hns116_0 : gb203 ≠ gb252)
    (hns116_1 : gb204 ≠ gb252)
    (hns116_2 : gb208 ≠ gb252)
    (hns116_3 : gb216 ≠ gb252)
    (hns116_4 : gb220 ≠ gb252)
    (hns116_5 : gb228 ≠ gb252)
    (hns116_6 : gb232 ≠ gb252)
    (hns116_7 : gb240 ≠ gb252)
    (hns116_8 : gb244 ≠ gb252)
    (hms116_0 : gb252 ≠ gb203)
    (hms116_1 : gb252 ≠ gb204)
    (hms116_2 : gb252 ≠ gb208)
    (hms116_3 : gb252 ≠ gb216)
    (hms116_4 : gb252 ≠ gb220)
    (hms116_5 : gb252 ≠ gb228)
    (hms116_6 : gb252 ≠ gb232)
    (hms116_7 : gb252 ≠ gb240)
    (hms116_8 : gb252 ≠ gb244) :
    Code.wp Try.prog (mosaiclaw05_RatioReckons.code 9) (bodyPost Try.prog Try.f9 fun e w' => e = .returned (.bool (t243 == t251)) ∧ Below w.heap.size w w')
 {
      tmps :=
        #[Go.Value.agg #[Go.Value.int Go.IntKind.i64 a0_0, Go.Value.int Go.IntKind.i64 a0_1],
          Go.Value.agg #[Go.Value.int Go.IntKind.i64 a1_0, Go.Value.int Go.IntKind.i64 a1_1],
          Go.Value.pointer (Option.some { block := gb203, off := 0 }),
          Go.Value.pointer (Option.some { block := gb204, off := 0 }), Go.Value.bool Bool.false,
          Go.Value.pointer (Option.some { block := gb208, off := 0 }), Go.Value.int Go.IntKind.i64 t207,
          Go.Value.pointer (Option.some { block := gb216, off := 0 }), Go.Value.int Go.IntKind.i64 t215,
          Go.Value.pointer (Option.some { block := gb220, off := 0 }), Go.Value.int Go.IntKind.i64 t219,
          Go.Value.pointer (Option.some { block := gb228, off := 0 }), Go.Value.int Go.IntKind.i64 t227,
          Go.Value.pointer (Option.some { block := gb232, off := 0 }), Go.Value.int Go.IntKind.i64 t231,
          Go.Value.pointer (Option.some { block := gb240, off := 0 }), Go.Value.int Go.IntKind.i64 t239,
          Go.Value.pointer (Option.some { block := gb244, off := 0 }), Go.Value.int Go.IntKind.i64 t243,
          Go.Value.pointer (Option.some { block := gb252, off := 0 }), Go.Value.int Go.IntKind.i64 t251,
          Go.Value.tuple
            #[Go.Value.agg #[Go.Value.int Go.IntKind.i64 t205, Go.Value.int Go.IntKind.i64 t206],
              Go.Value.int Go.IntKind.i64 t207],
          Go.Value.agg #[Go.Value.int Go.IntKind.i64 a0_0, Go.Value.int Go.IntKind.i64 a0_1],
          Go.Value.agg #[Go.Value.int Go.IntKind.i64 a1_0, Go.Value.int Go.IntKind.i64 a1_1],
          Go.Value.tuple
            #[Go.Value.agg #[Go.Value.int Go.IntKind.i64 t205, Go.Value.int Go.IntKind.i64 t206],
              Go.Value.int Go.IntKind.i64 t207],
          Go.Value.agg #[Go.Value.int Go.IntKind.i64 t205, Go.Value.int Go.IntKind.i64 t206],
          Go.Value.int Go.IntKind.i64 t207,
          Go.Value.tuple
            #[Go.Value.agg #[Go.Value.int Go.IntKind.i64 t213, Go.Value.int Go.IntKind.i64 t214],
              Go.Value.int Go.IntKind.i64 t215],
          Go.Value.agg #[Go.Value.int Go.IntKind.i64 a0_0, Go.Value.int Go.IntKind.i64 a0_1],
          Go.Value.agg #[Go.Value.int Go.IntKind.i64 t209, Go.Value.int Go.IntKind.i64 t210],
          Go.Value.agg #[Go.Value.int Go.IntKind.i64 a1_0, Go.Value.int Go.IntKind.i64 a1_1],
          Go.Value.agg #[Go.Value.int Go.IntKind.i64 t211, Go.Value.int Go.IntKind.i64 t212],
          Go.Value.tuple
            #[Go.Value.agg #[Go.Value.int Go.IntKind.i64 t213, Go.Value.int Go.IntKind.i64 t214],
              Go.Value.int Go.IntKind.i64 t215],
          Go.Value.agg #[Go.Value.int Go.IntKind.i64 t213, Go.Value.int Go.IntKind.i64 t214],
          Go.Value.int Go.IntKind.i64 t215,
          Go.Value.tuple
            #[Go.Value.agg #[Go.Value.int Go.IntKind.i64 t217, Go.Value.int Go.IntKind.i64 t218],
              Go.Value.int Go.IntKind.i64 t219],
          Go.Value.agg #[Go.Value.int Go.IntKind.i64 a0_0, Go.Value.int Go.IntKind.i64 a0_1],
          Go.Value.agg #[Go.Value.int Go.IntKind.i64 a1_0, Go.Value.int Go.IntKind.i64 a1_1],
          Go.Value.tuple
            #[Go.Value.agg #[Go.Value.int Go.IntKind.i64 t217, Go.Value.int Go.IntKind.i64 t218],
              Go.Value.int Go.IntKind.i64 t219],
          Go.Value.agg #[Go.Value.int Go.IntKind.i64 t217, Go.Value.int Go.IntKind.i64 t218],
          Go.Value.int Go.IntKind.i64 t219,
          Go.Value.tuple
            #[Go.Value.agg #[Go.Value.int Go.IntKind.i64 t225, Go.Value.int Go.IntKind.i64 t226],
              Go.Value.int Go.IntKind.i64 t227],
          Go.Value.agg #[Go.Value.int Go.IntKind.i64 a0_0, Go.Value.int Go.IntKind.i64 a0_1],
          Go.Value.agg #[Go.Value.int Go.IntKind.i64 t221, Go.Value.int Go.IntKind.i64 t222],
          Go.Value.agg #[Go.Value.int Go.IntKind.i64 a1_0, Go.Value.int Go.IntKind.i64 a1_1],
          Go.Value.agg #[Go.Value.int Go.IntKind.i64 t223, Go.Value.int Go.IntKind.i64 t224],
          Go.Value.tuple
            #[Go.Value.agg #[Go.Value.int Go.IntKind.i64 t225, Go.Value.int Go.IntKind.i64 t226],
              Go.Value.int Go.IntKind.i64 t227],
          Go.Value.agg #[Go.Value.int Go.IntKind.i64 t225, Go.Value.int Go.IntKind.i64 t226],
          Go.Value.int Go.IntKind.i64 t227,
          Go.Value.tuple
            #[Go.Value.agg #[Go.Value.int Go.IntKind.i64 t229, Go.Value.int Go.IntKind.i64 t230],
              Go.Value.int Go.IntKind.i64 t231],
          Go.Value.agg #[Go.Value.int Go.IntKind.i64 a0_0, Go.Value.int Go.IntKind.i64 a0_1],
          Go.Value.agg #[Go.Value.int Go.IntKind.i64 a1_0, Go.Value.int Go.IntKind.i64 a1_1],
          Go.Value.tuple
            #[Go.Value.agg #[Go.Value.int Go.IntKind.i64 t229, Go.Value.int Go.IntKind.i64 t230],
              Go.Value.int Go.IntKind.i64 t231],
          Go.Value.agg #[Go.Value.int Go.IntKind.i64 t229, Go.Value.int Go.IntKind.i64 t230],
          Go.Value.int Go.IntKind.i64 t231,
          Go.Value.tuple
            #[Go.Value.agg #[Go.Value.int Go.IntKind.i64 t237, Go.Value.int Go.IntKind.i64 t238],
              Go.Value.int Go.IntKind.i64 t239],
          Go.Value.agg #[Go.Value.int Go.IntKind.i64 a0_0, Go.Value.int Go.IntKind.i64 a0_1],
          Go.Value.agg #[Go.Value.int Go.IntKind.i64 t233, Go.Value.int Go.IntKind.i64 t234],
          Go.Value.agg #[Go.Value.int Go.IntKind.i64 a1_0, Go.Value.int Go.IntKind.i64 a1_1],
          Go.Value.agg #[Go.Value.int Go.IntKind.i64 t235, Go.Value.int Go.IntKind.i64 t236],
          Go.Value.tuple
            #[Go.Value.agg #[Go.Value.int Go.IntKind.i64 t237, Go.Value.int Go.IntKind.i64 t238],
              Go.Value.int Go.IntKind.i64 t239],
          Go.Value.agg #[Go.Value.int Go.IntKind.i64 t237, Go.Value.int Go.IntKind.i64 t238],
          Go.Value.int Go.IntKind.i64 t239,
          Go.Value.tuple
            #[Go.Value.agg #[Go.Value.int Go.IntKind.i64 t241, Go.Value.int Go.IntKind.i64 t242],
              Go.Value.int Go.IntKind.i64 t243],
          Go.Value.agg #[Go.Value.int Go.IntKind.i64 a0_0, Go.Value.int Go.IntKind.i64 a0_1],
          Go.Value.agg #[Go.Value.int Go.IntKind.i64 a1_0, Go.Value.int Go.IntKind.i64 a1_1],
          Go.Value.tuple
            #[Go.Value.agg #[Go.Value.int Go.IntKind.i64 t241, Go.Value.int Go.IntKind.i64 t242],
              Go.Value.int Go.IntKind.i64 t243],
          Go.Value.agg #[Go.Value.int Go.IntKind.i64 t241, Go.Value.int Go.IntKind.i64 t242],
          Go.Value.int Go.IntKind.i64 t243,
          Go.Value.tuple
            #[Go.Value.agg #[Go.Value.int Go.IntKind.i64 t249, Go.Value.int Go.IntKind.i64 t250],
              Go.Value.int Go.IntKind.i64 t251],
          Go.Value.agg #[Go.Value.int Go.IntKind.i64 a0_0, Go.Value.int Go.IntKind.i64 a0_1],
          Go.Value.agg #[Go.Value.int Go.IntKind.i64 t245, Go.Value.int Go.IntKind.i64 t246],
          Go.Value.agg #[Go.Value.int Go.IntKind.i64 a1_0, Go.Value.int Go.IntKind.i64 a1_1],
          Go.Value.agg #[Go.Value.int Go.IntKind.i64 t247, Go.Value.int Go.IntKind.i64 t248],
          Go.Value.tuple
            #[Go.Value.agg #[Go.Value.int Go.IntKind.i64 t249, Go.Value.int Go.IntKind.i64 t250],
              Go.Value.int Go.IntKind.i64 t251],
          Go.Value.agg #[Go.Value.int Go.IntKind.i64 t249, Go.Value.int Go.IntKind.i64 t250],
          Go.Value.int Go.IntKind.i64 t251, Go.undef, Go.undef, Go.undef, Go.undef, Go.undef, Go.undef, Go.undef,
          Go.undef, Go.undef, Go.undef, Go.undef, Go.undef, Go.undef, Go.undef, Go.undef, Go.undef, Go.undef, Go.undef,
          Go.undef, Go.undef, Go.undef, Go.undef, Go.undef, Go.undef, Go.undef, Go.undef, Go.undef, Go.undef, Go.undef,
          Go.undef, Go.undef, Go.undef, Go.undef, Go.undef, Go.undef, Go.undef, Go.undef, Go.undef, Go.undef, Go.undef,
          Go.undef, Go.undef, Go.undef, Go.undef, Go.undef],
      defers := [] }
 ((w114.setCell { block := gb252, off := 0 } (Go.Value.int Go.IntKind.i64 t249)).setCell { block := gb252, off := 1 }
      (Go.Value.int Go.IntKind.i64 t250)) := by
  conv => arg 2; whnf
  try go_wp2
  have n0_ : Aside0 (((w114.setCell ⟨gb252, 0, none⟩ (.int .i64 t249)).setCell ⟨gb252, 1, none⟩ (.int .i64 t250)).heap[gb203]? = some (.cells #[.int .i64 a0_0, .int .i64 a0_1] 23 (0, 0))) := ⟨by (with_reducible repeat (first | refine blk_drewN ?_ _ | refine blk_drew ?_ | refine blk_alloc ?_ _)); refine blk_far ?_ NB203_252.out _; (with_reducible repeat (first | refine blk_drewN ?_ _ | refine blk_drew ?_ | refine blk_alloc ?_ _)); refine blk_far ?_ NB203_252.out _; (with_reducible repeat (first | refine blk_drewN ?_ _ | refine blk_drew ?_ | refine blk_alloc ?_ _)); exact BK203.out⟩
  have n1_ : Aside0 (((w114.setCell ⟨gb252, 0, none⟩ (.int .i64 t249)).setCell ⟨gb252, 1, none⟩ (.int .i64 t250)).heap[gb204]? = some (.cells #[.int .i64 a1_0, .int .i64 a1_1] 23 (0, 0))) := ⟨by (with_reducible repeat (first | refine blk_drewN ?_ _ | refine blk_drew ?_ | refine blk_alloc ?_ _)); refine blk_far ?_ NB204_252.out _; (with_reducible repeat (first | refine blk_drewN ?_ _ | refine blk_drew ?_ | refine blk_alloc ?_ _)); refine blk_far ?_ NB204_252.out _; (with_reducible repeat (first | refine blk_drewN ?_ _ | refine blk_drew ?_ | refine blk_alloc ?_ _)); exact BK204.out⟩
  have n2_ : Aside0 (((w114.setCell ⟨gb252, 0, none⟩ (.int .i64 t249)).setCell ⟨gb252, 1, none⟩ (.int .i64 t250)).heap[gb208]? = some (.cells #[.int .i64 t205, .int .i64 t206] 23 (0, 0))) := ⟨by (with_reducible repeat (first | refine blk_drewN ?_ _ | refine blk_drew ?_ | refine blk_alloc ?_ _)); refine blk_far ?_ NB208_252.out _; (with_reducible repeat (first | refine blk_drewN ?_ _ | refine blk_drew ?_ | refine blk_alloc ?_ _)); refine blk_far ?_ NB208_252.out _; (with_reducible repeat (first | refine blk_drewN ?_ _ | refine blk_drew ?_ | refine blk_alloc ?_ _)); exact BK208.out⟩
  have n3_ : Aside0 (((w114.setCell ⟨gb252, 0, none⟩ (.int .i64 t249)).setCell ⟨gb252, 1, none⟩ (.int .i64 t250)).heap[gb216]? = some (.cells #[.int .i64 t213, .int .i64 t214] 32 (0, 0))) := ⟨by (with_reducible repeat (first | refine blk_drewN ?_ _ | refine blk_drew ?_ | refine blk_alloc ?_ _)); refine blk_far ?_ NB216_252.out _; (with_reducible repeat (first | refine blk_drewN ?_ _ | refine blk_drew ?_ | refine blk_alloc ?_ _)); refine blk_far ?_ NB216_252.out _; (with_reducible repeat (first | refine blk_drewN ?_ _ | refine blk_drew ?_ | refine blk_alloc ?_ _)); exact BK216.out⟩
  have n4_ : Aside0 (((w114.setCell ⟨gb252, 0, none⟩ (.int .i64 t249)).setCell ⟨gb252, 1, none⟩ (.int .i64 t250)).heap[gb220]? = some (.cells #[.int .i64 t217, .int .i64 t218] 23 (0, 0))) := ⟨by (with_reducible repeat (first | refine blk_drewN ?_ _ | refine blk_drew ?_ | refine blk_alloc ?_ _)); refine blk_far ?_ NB220_252.out _; (with_reducible repeat (first | refine blk_drewN ?_ _ | refine blk_drew ?_ | refine blk_alloc ?_ _)); refine blk_far ?_ NB220_252.out _; (with_reducible repeat (first | refine blk_drewN ?_ _ | refine blk_drew ?_ | refine blk_alloc ?_ _)); exact BK220.out⟩
  have n5_ : Aside0 (((w114.setCell ⟨gb252, 0, none⟩ (.int .i64 t249)).setCell ⟨gb252, 1, none⟩ (.int .i64 t250)).heap[gb228]? = some (.cells #[.int .i64 t225, .int .i64 t226] 32 (0, 0))) := ⟨by (with_reducible repeat (first | refine blk_drewN ?_ _ | refine blk_drew ?_ | refine blk_alloc ?_ _)); refine blk_far ?_ NB228_252.out _; (with_reducible repeat (first | refine blk_drewN ?_ _ | refine blk_drew ?_ | refine blk_alloc ?_ _)); refine blk_far ?_ NB228_252.out _; (with_reducible repeat (first | refine blk_drewN ?_ _ | refine blk_drew ?_ | refine blk_alloc ?_ _)); exact BK228.out⟩
  have n6_ : Aside0 (((w114.setCell ⟨gb252, 0, none⟩ (.int .i64 t249)).setCell ⟨gb252, 1, none⟩ (.int .i64 t250)).heap[gb232]? = some (.cells #[.int .i64 t229, .int .i64 t230] 23 (0, 0))) := ⟨by (with_reducible repeat (first | refine blk_drewN ?_ _ | refine blk_drew ?_ | refine blk_alloc ?_ _)); refine blk_far ?_ NB232_252.out _; (with_reducible repeat (first | refine blk_drewN ?_ _ | refine blk_drew ?_ | refine blk_alloc ?_ _)); refine blk_far ?_ NB232_252.out _; (with_reducible repeat (first | refine blk_drewN ?_ _ | refine blk_drew ?_ | refine blk_alloc ?_ _)); exact BK232.out⟩
  have n7_ : Aside0 (((w114.setCell ⟨gb252, 0, none⟩ (.int .i64 t249)).setCell ⟨gb252, 1, none⟩ (.int .i64 t250)).heap[gb240]? = some (.cells #[.int .i64 t237, .int .i64 t238] 32 (0, 0))) := ⟨by (with_reducible repeat (first | refine blk_drewN ?_ _ | refine blk_drew ?_ | refine blk_alloc ?_ _)); refine blk_far ?_ NB240_252.out _; (with_reducible repeat (first | refine blk_drewN ?_ _ | refine blk_drew ?_ | refine blk_alloc ?_ _)); refine blk_far ?_ NB240_252.out _; (with_reducible repeat (first | refine blk_drewN ?_ _ | refine blk_drew ?_ | refine blk_alloc ?_ _)); exact BK240.out⟩
  have n8_ : Aside0 (((w114.setCell ⟨gb252, 0, none⟩ (.int .i64 t249)).setCell ⟨gb252, 1, none⟩ (.int .i64 t250)).heap[gb244]? = some (.cells #[.int .i64 t241, .int .i64 t242] 23 (0, 0))) := ⟨by (with_reducible repeat (first | refine blk_drewN ?_ _ | refine blk_drew ?_ | refine blk_alloc ?_ _)); refine blk_far ?_ NB244_252.out _; (with_reducible repeat (first | refine blk_drewN ?_ _ | refine blk_drew ?_ | refine blk_alloc ?_ _)); refine blk_far ?_ NB244_252.out _; (with_reducible repeat (first | refine blk_drewN ?_ _ | refine blk_drew ?_ | refine blk_alloc ?_ _)); exact BK244.out⟩
  have n9_ : Aside0 (((w114.setCell ⟨gb252, 0, none⟩ (.int .i64 t249)).setCell ⟨gb252, 1, none⟩ (.int .i64 t250)).heap[gb252]? = some (.cells #[.int .i64 t249, .int .i64 t250] 32 (0, 0))) := ⟨by (with_reducible repeat (first | refine blk_drewN ?_ _ | refine blk_drew ?_ | refine blk_alloc ?_ _)); refine blk_put (cs := #[.int .i64 t249, .int .i64 0]) ?_ 1 _ rfl; (with_reducible repeat (first | refine blk_drewN ?_ _ | refine blk_drew ?_ | refine blk_alloc ?_ _)); refine blk_put (cs := #[.int .i64 0, .int .i64 0]) ?_ 0 _ rfl; (with_reducible repeat (first | refine blk_drewN ?_ _ | refine blk_drew ?_ | refine blk_alloc ?_ _)); exact BK252.out⟩
  have n10_ : Aside0 (Below w.heap.size w ((w114.setCell ⟨gb252, 0, none⟩ (.int .i64 t249)).setCell ⟨gb252, 1, none⟩ (.int .i64 t250))) := ⟨by repeat (first | (with_reducible first | exact HB.out | apply below_alloc | apply pw_below_drewN | apply below_drew1 | refine below_set ?_ GE203.out | refine below_set ?_ GE204.out | refine below_set ?_ GE208.out | refine below_set ?_ GE216.out | refine below_set ?_ GE220.out | refine below_set ?_ GE228.out | refine below_set ?_ GE232.out | refine below_set ?_ GE240.out | refine below_set ?_ GE244.out | refine below_set ?_ GE252.out) | exact HB.out)⟩
  (try clear BK203)
  (try clear BK204)
  (try clear BK208)
  (try clear BK216)
  (try clear BK220)
  (try clear BK228)
  (try clear BK232)
  (try clear BK240)
  (try clear BK244)
  (try clear BK252)
  (try clear HB)
  generalize ((w114.setCell ⟨gb252, 0, none⟩ (.int .i64 t249)).setCell ⟨gb252, 1, none⟩ (.int .i64 t250)) = w117 at n0_ n1_ n2_ n3_ n4_ n5_ n6_ n7_ n8_ n9_ n10_ ⊢
  have BK203 := n0_
  have BK204 := n1_
  have BK208 := n2_
  have BK216 := n3_
  have BK220 := n4_
  have BK228 := n5_
  have BK232 := n6_
  have BK240 := n7_
  have BK244 := n8_
  have BK252 := n9_
  have HB := n10_
  clear n0_ n1_ n2_ n3_ n4_ n5_ n6_ n7_ n8_ n9_ n10_
  have n0_ := Aside0.mk (blk_drew BK203.out)
  have n1_ := Aside0.mk (blk_drew BK204.out)
  have n2_ := Aside0.mk (blk_drew BK208.out)
  have n3_ := Aside0.mk (blk_drew BK216.out)
  have n4_ := Aside0.mk (blk_drew BK220.out)
  have n5_ := Aside0.mk (blk_drew BK228.out)
  have n6_ := Aside0.mk (blk_drew BK232.out)
  have n7_ := Aside0.mk (blk_drew BK240.out)
  have n8_ := Aside0.mk (blk_drew BK244.out)
  have n9_ := Aside0.mk (blk_drew BK252.out)
  have n10_ := Aside0.mk (below_drew1 HB.out)
  clear BK203
  clear BK204
  clear BK208
  clear BK216
  clear BK220
  clear BK228
  clear BK232
  clear BK240
  clear BK244
  clear BK252
  clear HB
  have BK203 := n0_
  have BK204 := n1_
  have BK208 := n2_
  have BK216 := n3_
  have BK220 := n4_
  have BK228 := n5_
  have BK232 := n6_
  have BK240 := n7_
  have BK244 := n8_
  have BK252 := n9_
  have HB := n10_
  clear n0_ n1_ n2_ n3_ n4_ n5_ n6_ n7_ n8_ n9_ n10_
  refine start_ (n := 46) (S := fun w' => w'.cell? ⟨gb208, 0, none⟩ = some (.int .i64 t205) ∧ w'.cell? ⟨gb208, 1, none⟩ = some (.int .i64 t206) ∧ w'.cell? ⟨gb216, 0, none⟩ = some (.int .i64 t213) ∧ w'.cell? ⟨gb216, 1, none⟩ = some (.int .i64 t214) ∧ w'.cell? ⟨gb220, 0, none⟩ = some (.int .i64 t217) ∧ w'.cell? ⟨gb220, 1, none⟩ = some (.int .i64 t218) ∧ w'.cell? ⟨gb228, 0, none⟩ = some (.int .i64 t225) ∧ w'.cell? ⟨gb228, 1, none⟩ = some (.int .i64 t226) ∧ w'.cell? ⟨gb232, 0, none⟩ = some (.int .i64 t229) ∧ w'.cell? ⟨gb232, 1, none⟩ = some (.int .i64 t230) ∧ w'.cell? ⟨gb240, 0, none⟩ = some (.int .i64 t237) ∧ w'.cell? ⟨gb240, 1, none⟩ = some (.int .i64 t238) ∧ w'.cell? ⟨gb244, 0, none⟩ = some (.int .i64 t241) ∧ w'.cell? ⟨gb244, 1, none⟩ = some (.int .i64 t242) ∧ w'.cell? ⟨gb252, 0, none⟩ = some (.int .i64 t249) ∧ w'.cell? ⟨gb252, 1, none⟩ = some (.int .i64 t250)) (ds := []) #[false, false, false, false, false, false, false, false, false, false, false, false, false, false, false, false, false, false, false, false, false, false, false, false, false, false, false, false, false, false, false, false, false, false, false, false, false, false, false, false, false, false, false, false, false, false] (by kernel_rfl) rfl rfl ⟨(blk_cell BK208.out 0).trans rfl, (blk_cell BK208.out 1).trans rfl, (blk_cell BK216.out 0).trans rfl, (blk_cell BK216.out 1).trans rfl, (blk_cell BK220.out 0).trans rfl, (blk_cell BK220.out 1).trans rfl, (blk_cell BK228.out 0).trans rfl, (blk_cell BK228.out 1).trans rfl, (blk_cell BK232.out 0).trans rfl, (blk_cell BK232.out 1).trans rfl, (blk_cell BK240.out 0).trans rfl, (blk_cell BK240.out 1).trans rfl, (blk_cell BK244.out 0).trans rfl, (blk_cell BK244.out 1).trans rfl, (blk_cell BK252.out 0).trans rfl, (blk_cell BK252.out 1).trans rfl⟩ (fun hHeld => ?_); refine with_tabW mosaiclaw05_RatioReckons.tab9 mosaiclaw05_RatioReckons.bits9 (fun HT_ HW_ => ?_)
  generalize w117.drew = w118 at BK203 BK204 BK208 BK216 BK220 BK228 BK232 BK240 BK244 BK252 HB hHeld ⊢
  refine one_ (i := 0) (N := some 77) #[true, false, false, false, false, false, false, false, false, false, false, false, false, false, false, false, false, false, false, false, false, false, false, false, false, false, false, false, false, false, false, false, false, false, false, false, false, false, false, false, false, false, false, false, false, false] rfl rfl (one_of HT_.out (by kernel_rfl)) (by decide) (fun K hK => ?_)
  refine goes_ Try.func27 (by kernel_rfl) rfl #[] (by rfl) rfl rfl (by (try simp only [List.map_toArray, List.map_cons, List.map_nil]); first | done | rfl | (simp only [List.length_drop, List.length_take]; rfl)) ?_
  with_reducible refine (mosaiclaw05_awake.calls k  true _ A19.out).mono ?_
  rintro e w119 ⟨rfl, hb⟩
  refine ⟨_, rfl, ?_⟩
  have n0_ := Aside0.mk (blk_below (g := gb203) (o := .cells #[.int .i64 a0_0, .int .i64 a0_1] 23 (0, 0)) (by (with_reducible repeat (first | refine blk_drewN ?_ _ | refine blk_drew ?_ | refine blk_alloc ?_ _)); exact BK203.out) hb)
  have n1_ := Aside0.mk (blk_below (g := gb204) (o := .cells #[.int .i64 a1_0, .int .i64 a1_1] 23 (0, 0)) (by (with_reducible repeat (first | refine blk_drewN ?_ _ | refine blk_drew ?_ | refine blk_alloc ?_ _)); exact BK204.out) hb)
  have n2_ := Aside0.mk (blk_below (g := gb208) (o := .cells #[.int .i64 t205, .int .i64 t206] 23 (0, 0)) (by (with_reducible repeat (first | refine blk_drewN ?_ _ | refine blk_drew ?_ | refine blk_alloc ?_ _)); exact BK208.out) hb)
  have n3_ := Aside0.mk (blk_below (g := gb216) (o := .cells #[.int .i64 t213, .int .i64 t214] 32 (0, 0)) (by (with_reducible repeat (first | refine blk_drewN ?_ _ | refine blk_drew ?_ | refine blk_alloc ?_ _)); exact BK216.out) hb)
  have n4_ := Aside0.mk (blk_below (g := gb220) (o := .cells #[.int .i64 t217, .int .i64 t218] 23 (0, 0)) (by (with_reducible repeat (first | refine blk_drewN ?_ _ | refine blk_drew ?_ | refine blk_alloc ?_ _)); exact BK220.out) hb)
  have n5_ := Aside0.mk (blk_below (g := gb228) (o := .cells #[.int .i64 t225, .int .i64 t226] 32 (0, 0)) (by (with_reducible repeat (first | refine blk_drewN ?_ _ | refine blk_drew ?_ | refine blk_alloc ?_ _)); exact BK228.out) hb)
  have n6_ := Aside0.mk (blk_below (g := gb232) (o := .cells #[.int .i64 t229, .int .i64 t230] 23 (0, 0)) (by (with_reducible repeat (first | refine blk_drewN ?_ _ | refine blk_drew ?_ | refine blk_alloc ?_ _)); exact BK232.out) hb)
  have n7_ := Aside0.mk (blk_below (g := gb240) (o := .cells #[.int .i64 t237, .int .i64 t238] 32 (0, 0)) (by (with_reducible repeat (first | refine blk_drewN ?_ _ | refine blk_drew ?_ | refine blk_alloc ?_ _)); exact BK240.out) hb)
  have n8_ := Aside0.mk (blk_below (g := gb244) (o := .cells #[.int .i64 t241, .int .i64 t242] 23 (0, 0)) (by (with_reducible repeat (first | refine blk_drewN ?_ _ | refine blk_drew ?_ | refine blk_alloc ?_ _)); exact BK244.out) hb)
  have n9_ := Aside0.mk (blk_below (g := gb252) (o := .cells #[.int .i64 t249, .int .i64 t250] 32 (0, 0)) (by (with_reducible repeat (first | refine blk_drewN ?_ _ | refine blk_drew ?_ | refine blk_alloc ?_ _)); exact BK252.out) hb)
  have n10_ := Aside0.mk (below_step (by repeat (first | (with_reducible first | exact HB.out | apply below_alloc | apply pw_below_drewN | apply below_drew1 | refine below_set ?_ GE203.out | refine below_set ?_ GE204.out | refine below_set ?_ GE208.out | refine below_set ?_ GE216.out | refine below_set ?_ GE220.out | refine below_set ?_ GE228.out | refine below_set ?_ GE232.out | refine below_set ?_ GE240.out | refine below_set ?_ GE244.out | refine below_set ?_ GE252.out) | exact HB.out)) hb)
  clear BK203
  clear BK204
  clear BK208
  clear BK216
  clear BK220
  clear BK228
  clear BK232
  clear BK240
  clear BK244
  clear BK252
  clear HB
  have BK203 := n0_
  have BK204 := n1_
  have BK208 := n2_
  have BK216 := n3_
  have BK220 := n4_
  have BK228 := n5_
  have BK232 := n6_
  have BK240 := n7_
  have BK244 := n8_
  have BK252 := n9_
  have HB := n10_
  clear n0_ n1_ n2_ n3_ n4_ n5_ n6_ n7_ n8_ n9_ n10_
  (try clear hb)
  (try clear hb2)
  (try clear hk)
  (try clear hi)
  refine hK.out _ _ ⟨(blk_cell BK208.out 0).trans rfl, (blk_cell BK208.out 1).trans rfl, (blk_cell BK216.out 0).trans rfl, (blk_cell BK216.out 1).trans rfl, (blk_cell BK220.out 0).trans rfl, (blk_cell BK220.out 1).trans rfl, (blk_cell BK228.out 0).trans rfl, (blk_cell BK228.out 1).trans rfl, (blk_cell BK232.out 0).trans rfl, (blk_cell BK232.out 1).trans rfl, (blk_cell BK240.out 0).trans rfl, (blk_cell BK240.out 1).trans rfl, (blk_cell BK244.out 0).trans rfl, (blk_cell BK244.out 1).trans rfl, (blk_cell BK252.out 0).trans rfl, (blk_cell BK252.out 1).trans rfl⟩ (fun hHeld => ?_)
  clear hK K
  refine norm_ (a' := ?_) ?_ ?_
  rotate_left
  · show Act.put _ (some 77) _ = _
    simp only [Act.put, List.setIfInBounds_toArray, List.set_cons_zero, List.set_cons_succ, i64_w, i32_w]
    rfl
  refine pure_ (i := 1) (N := some 78) (v := ?_) (a' := ?_) #[true, true, false, false, false, false, false, false, false, false, false, false, false, false, false, false, false, false, false, false, false, false, false, false, false, false, false, false, false, false, false, false, false, false, false, false, false, false, false, false, false, false, false, false, false, false] rfl rfl (any_of HT_.out (by kernel_rfl)) (fun _ _ _ h => h) (Or.inl ⟨by rfl, ?_⟩) ?_ ?_
  rotate_left
  · intro w'
    go_simp
    with_reducible rfl
  rotate_left
  · simp only [Act.put, List.setIfInBounds_toArray, List.set_cons_zero, List.set_cons_succ, i64_w, i32_w]
    rfl
  refine take_ (i := 2) (N := some 79) (v := ?_) (a' := ?_) #[true, true, true, false, false, false, false, false, false, false, false, false, false, false, false, false, false, false, false, false, false, false, false, false, false, false, false, false, false, false, false, false, false, false, false, false, false, false, false, false, false, false, false, false, false, false] rfl rfl (take_ofW HT_.out HW_.out (by kernel_rfl)) (fun _ _ _ h => h) (Or.inl ⟨by rfl, ?_⟩) hHeld ?_ ?_
  rotate_left
  · rintro w' ⟨s0, s1, s2, s3, s4, s5, s6, s7, s8, s9, s10, s11, s12, s13, s14, s15⟩
    go_simp
    with_reducible rfl
  rotate_left
  · simp only [Act.put, List.setIfInBounds_toArray, List.set_cons_zero, List.set_cons_succ, i64_w, i32_w]
    rfl
  refine take_ (i := 4) (N := some 81) (v := ?_) (a' := ?_) #[true, true, true, false, true, false, false, false, false, false, false, false, false, false, false, false, false, false, false, false, false, false, false, false, false, false, false, false, false, false, false, false, false, false, false, false, false, false, false, false, false, false, false, false, false, false] rfl rfl (take_ofW HT_.out HW_.out (by kernel_rfl)) (fun _ _ _ h => h) (Or.inl ⟨by rfl, ?_⟩) hHeld ?_ ?_
  rotate_left
  · rintro w' ⟨s0, s1, s2, s3, s4, s5, s6, s7, s8, s9, s10, s11, s12, s13, s14, s15⟩
    go_simp
    with_reducible rfl
  rotate_left
  · simp only [Act.put, List.setIfInBounds_toArray, List.set_cons_zero, List.set_cons_succ, i64_w, i32_w]
    rfl
  refine one_ (i := 3) (N := some 80) #[true, true, true, true, true, false, false, false, false, false, false, false, false, false, false, false, false, false, false, false, false, false, false, false, false, false, false, false, false, false, false, false, false, false, false, false, false, false, false, false, false, false, false, false, false, false] rfl rfl (one_of HT_.out (by kernel_rfl)) (by decide) (fun K hK => ?_)
  refine goes_ Try.func24 (by kernel_rfl) rfl #[.agg #[.int .i64 t205, .int .i64 t206]] (by rfl) rfl rfl (by (try simp only [List.map_toArray, List.map_cons, List.map_nil]); first | done | rfl | (simp only [List.length_drop, List.length_take]; rfl)) ?_
  with_reducible refine (mosaiclaw05_Ref.calls t205 t206 t254 t255 _ A21.out).mono ?_
  rintro e w120 ⟨rfl, hb⟩
  refine ⟨_, rfl, ?_⟩
  have n0_ := Aside0.mk (blk_below (g := gb203) (o := .cells #[.int .i64 a0_0, .int .i64 a0_1] 23 (0, 0)) (by (with_reducible repeat (first | refine blk_drewN ?_ _ | refine blk_drew ?_ | refine blk_alloc ?_ _)); exact BK203.out) hb)
  have n1_ := Aside0.mk (blk_below (g := gb204) (o := .cells #[.int .i64 a1_0, .int .i64 a1_1] 23 (0, 0)) (by (with_reducible repeat (first | refine blk_drewN ?_ _ | refine blk_drew ?_ | refine blk_alloc ?_ _)); exact BK204.out) hb)
  have n2_ := Aside0.mk (blk_below (g := gb208) (o := .cells #[.int .i64 t205, .int .i64 t206] 23 (0, 0)) (by (with_reducible repeat (first | refine blk_drewN ?_ _ | refine blk_drew ?_ | refine blk_alloc ?_ _)); exact BK208.out) hb)
  have n3_ := Aside0.mk (blk_below (g := gb216) (o := .cells #[.int .i64 t213, .int .i64 t214] 32 (0, 0)) (by (with_reducible repeat (first | refine blk_drewN ?_ _ | refine blk_drew ?_ | refine blk_alloc ?_ _)); exact BK216.out) hb)
  have n4_ := Aside0.mk (blk_below (g := gb220) (o := .cells #[.int .i64 t217, .int .i64 t218] 23 (0, 0)) (by (with_reducible repeat (first | refine blk_drewN ?_ _ | refine blk_drew ?_ | refine blk_alloc ?_ _)); exact BK220.out) hb)
  have n5_ := Aside0.mk (blk_below (g := gb228) (o := .cells #[.int .i64 t225, .int .i64 t226] 32 (0, 0)) (by (with_reducible repeat (first | refine blk_drewN ?_ _ | refine blk_drew ?_ | refine blk_alloc ?_ _)); exact BK228.out) hb)
  have n6_ := Aside0.mk (blk_below (g := gb232) (o := .cells #[.int .i64 t229, .int .i64 t230] 23 (0, 0)) (by (with_reducible repeat (first | refine blk_drewN ?_ _ | refine blk_drew ?_ | refine blk_alloc ?_ _)); exact BK232.out) hb)
  have n7_ := Aside0.mk (blk_below (g := gb240) (o := .cells #[.int .i64 t237, .int .i64 t238] 32 (0, 0)) (by (with_reducible repeat (first | refine blk_drewN ?_ _ | refine blk_drew ?_ | refine blk_alloc ?_ _)); exact BK240.out) hb)
  have n8_ := Aside0.mk (blk_below (g := gb244) (o := .cells #[.int .i64 t241, .int .i64 t242] 23 (0, 0)) (by (with_reducible repeat (first | refine blk_drewN ?_ _ | refine blk_drew ?_ | refine blk_alloc ?_ _)); exact BK244.out) hb)
  have n9_ := Aside0.mk (blk_below (g := gb252) (o := .cells #[.int .i64 t249, .int .i64 t250] 32 (0, 0)) (by (with_reducible repeat (first | refine blk_drewN ?_ _ | refine blk_drew ?_ | refine blk_alloc ?_ _)); exact BK252.out) hb)
  have n10_ := Aside0.mk (below_step (by repeat (first | (with_reducible first | exact HB.out | apply below_alloc | apply pw_below_drewN | apply below_drew1 | refine below_set ?_ GE203.out | refine below_set ?_ GE204.out | refine below_set ?_ GE208.out | refine below_set ?_ GE216.out | refine below_set ?_ GE220.out | refine below_set ?_ GE228.out | refine below_set ?_ GE232.out | refine below_set ?_ GE240.out | refine below_set ?_ GE244.out | refine below_set ?_ GE252.out) | exact HB.out)) hb)
  clear BK203
  clear BK204
  clear BK208
  clear BK216
  clear BK220
  clear BK228
  clear BK232
  clear BK240
  clear BK244
  clear BK252
  clear HB
  have BK203 := n0_
  have BK204 := n1_
  have BK208 := n2_
  have BK216 := n3_
  have BK220 := n4_
  have BK228 := n5_
  have BK232 := n6_
  have BK240 := n7_
  have BK244 := n8_
  have BK252 := n9_
  have HB := n10_
  clear n0_ n1_ n2_ n3_ n4_ n5_ n6_ n7_ n8_ n9_ n10_
  (try clear hb)
  (try clear hb2)
  (try clear hk)
  (try clear hi)
  refine hK.out _ _ ⟨(blk_cell BK208.out 0).trans rfl, (blk_cell BK208.out 1).trans rfl, (blk_cell BK216.out 0).trans rfl, (blk_cell BK216.out 1).trans rfl, (blk_cell BK220.out 0).trans rfl, (blk_cell BK220.out 1).trans rfl, (blk_cell BK228.out 0).trans rfl, (blk_cell BK228.out 1).trans rfl, (blk_cell BK232.out 0).trans rfl, (blk_cell BK232.out 1).trans rfl, (blk_cell BK240.out 0).trans rfl, (blk_cell BK240.out 1).trans rfl, (blk_cell BK244.out 0).trans rfl, (blk_cell BK244.out 1).trans rfl, (blk_cell BK252.out 0).trans rfl, (blk_cell BK252.out 1).trans rfl⟩ (fun hHeld => ?_)
  clear hK K
  refine norm_ (a' := ?_) ?_ ?_
  rotate_left
  · show Act.put _ (some 80) _ = _
    simp only [Act.put, List.setIfInBounds_toArray, List.set_cons_zero, List.set_cons_succ, i64_w, i32_w]
    rfl
  refine pure_ (i := 5) (N := some 82) (v := ?_) (a' := ?_) #[true, true, true, true, true, true, false, false, false, false, false, false, false, false, false, false, false, false, false, false, false, false, false, false, false, false, false, false, false, false, false, false, false, false, false, false, false, false, false, false, false, false, false, false, false, false] rfl rfl (any_of HT_.out (by kernel_rfl)) (fun _ _ _ h => h) (Or.inl ⟨by rfl, ?_⟩) ?_ ?_
  rotate_left
  · intro w'
    go_simp
    with_reducible rfl
  rotate_left
  · simp only [Act.put, List.setIfInBounds_toArray, List.set_cons_zero, List.set_cons_succ, i64_w, i32_w]
    rfl
  refine pure_ (i := 6) (N := some 83) (v := ?_) (a' := ?_) #[true, true, true, true, true, true, true, false, false, false, false, false, false, false, false, false, false, false, false, false, false, false, false, false, false, false, false, false, false, false, false, false, false, false, false, false, false, false, false, false, false, false, false, false, false, false] rfl rfl (any_of HT_.out (by kernel_rfl)) (fun _ _ _ h => h) (Or.inl ⟨by rfl, ?_⟩) ?_ ?_
  rotate_left
  · intro w'
    go_simp
    with_reducible rfl
  rotate_left
  · simp only [Act.put, List.setIfInBounds_toArray, List.set_cons_zero, List.set_cons_succ, i64_w, i32_w]
    rfl
  refine pure_ (i := 7) (N := some 84) (v := ?_) (a' := ?_) #[true, true, true, true, true, true, true, true, false, false, false, false, false, false, false, false, false, false, false, false, false, false, false, false, false, false, false, false, false, false, false, false, false, false, false, false, false, false, false, false, false, false, false, false, false, false] rfl rfl (any_of HT_.out (by kernel_rfl)) (fun _ _ _ h => h) (Or.inl ⟨by rfl, ?_⟩) ?_ ?_
  rotate_left
  · intro w'
    go_simp
    with_reducible rfl
  rotate_left
  · simp only [Act.put, List.setIfInBounds_toArray, List.set_cons_zero, List.set_cons_succ, i64_w, i32_w]
    rfl
  refine pure_ (i := 8) (N := some 85) (v := ?_) (a' := ?_) #[true, true, true, true, true, true, true, true, true, false, false, false, false, false, false, false, false, false, false, false, false, false, false, false, false, false, false, false, false, false, false, false, false, false, false, false, false, false, false, false, false, false, false, false, false, false] rfl rfl (any_of HT_.out (by kernel_rfl)) (fun _ _ _ h => h) (Or.inl ⟨by rfl, ?_⟩) ?_ ?_
  rotate_left
  · intro w'
    go_simp
    with_reducible rfl
  rotate_left
  · simp only [Act.put, List.setIfInBounds_toArray, List.set_cons_zero, List.set_cons_succ, i64_w, i32_w]
    rfl
  refine pure_ (i := 9) (N := some 86) (v := ?_) (a' := ?_) #[true, true, true, true, true, true, true, true, true, true, false, false, false, false, false, false, false, false, false, false, false, false, false, false, false, false, false, false, false, false, false, false, false, false, false, false, false, false, false, false, false, false, false, false, false, false] rfl rfl (any_of HT_.out (by kernel_rfl)) (fun _ _ _ h => h) (Or.inl ⟨by rfl, ?_⟩) ?_ ?_
  rotate_left
  · intro w'
    go_simp
    with_reducible rfl
  rotate_left
  · simp only [Act.put, List.setIfInBounds_toArray, List.set_cons_zero, List.set_cons_succ, i64_w, i32_w]
    rfl
  refine pure_ (i := 10) (N := some 87) (v := ?_) (a' := ?_) #[true, true, true, true, true, true, true, true, true, true, true, false, false, false, false, false, false, false, false, false, false, false, false, false, false, false, false, false, false, false, false, false, false, false, false, false, false, false, false, false, false, false, false, false, false, false] rfl rfl (any_of HT_.out (by kernel_rfl)) (fun _ _ _ h => h) (Or.inl ⟨by rfl, ?_⟩) ?_ ?_
  rotate_left
  · intro w'
    go_simp
    with_reducible rfl
  rotate_left
  · simp only [Act.put, List.setIfInBounds_toArray, List.set_cons_zero, List.set_cons_succ, i64_w, i32_w]
    rfl
  refine pure_ (i := 11) (N := some 88) (v := ?_) (a' := ?_) #[true, true, true, true, true, true, true, true, true, true, true, true, false, false, false, false, false, false, false, false, false, false, false, false, false, false, false, false, false, false, false, false, false, false, false, false, false, false, false, false, false, false, false, false, false, false] rfl rfl (any_of HT_.out (by kernel_rfl)) (fun _ _ _ h => h) (Or.inl ⟨by rfl, ?_⟩) ?_ ?_
  rotate_left
  · intro w'
    go_simp
    with_reducible rfl
  rotate_left
  · simp only [Act.put, List.setIfInBounds_toArray, List.set_cons_zero, List.set_cons_succ, i64_w, i32_w]
    rfl
  refine pure_ (i := 12) (N := some 89) (v := ?_) (a' := ?_) #[true, true, true, true, true, true, true, true, true, true, true, true, true, false, false, false, false, false, false, false, false, false, false, false, false, false, false, false, false, false, false, false, false, false, false, false, false, false, false, false, false, false, false, false, false, false] rfl rfl (any_of HT_.out (by kernel_rfl)) (fun _ _ _ h => h) (Or.inl ⟨by rfl, ?_⟩) ?_ ?_
  rotate_left
  · intro w'
    go_simp
    with_reducible rfl
  rotate_left
  · simp only [Act.put, List.setIfInBounds_toArray, List.set_cons_zero, List.set_cons_succ, i64_w, i32_w]
    rfl
  refine take_ (i := 13) (N := some 90) (v := ?_) (a' := ?_) #[true, true, true, true, true, true, true, true, true, true, true, true, true, true, false, false, false, false, false, false, false, false, false, false, false, false, false, false, false, false, false, false, false, false, false, false, false, false, false, false, false, false, false, false, false, false] rfl rfl (take_ofW HT_.out HW_.out (by kernel_rfl)) (fun _ _ _ h => h) (Or.inl ⟨by rfl, ?_⟩) hHeld ?_ ?_
  rotate_left
  · rintro w' ⟨s0, s1, s2, s3, s4, s5, s6, s7, s8, s9, s10, s11, s12, s13, s14, s15⟩
    go_simp
    with_reducible rfl
  rotate_left
  · simp only [Act.put, List.setIfInBounds_toArray, List.set_cons_zero, List.set_cons_succ, i64_w, i32_w]
    rfl
  refine take_ (i := 15) (N := some 92) (v := ?_) (a' := ?_) #[true, true, true, true, true, true, true, true, true, true, true, true, true, true, false, true, false, false, false, false, false, false, false, false, false, false, false, false, false, false, false, false, false, false, false, false, false, false, false, false, false, false, false, false, false, false] rfl rfl (take_ofW HT_.out HW_.out (by kernel_rfl)) (fun _ _ _ h => h) (Or.inl ⟨by rfl, ?_⟩) hHeld ?_ ?_
  rotate_left
  · rintro w' ⟨s0, s1, s2, s3, s4, s5, s6, s7, s8, s9, s10, s11, s12, s13, s14, s15⟩
    go_simp
    with_reducible rfl
  rotate_left
  · simp only [Act.put, List.setIfInBounds_toArray, List.set_cons_zero, List.set_cons_succ, i64_w, i32_w]
    rfl
  refine one_ (i := 14) (N := some 91) #[true, true, true, true, true, true, true, true, true, true, true, true, true, true, true, true, false, false, false, false, false, false, false, false, false, false, false, false, false, false, false, false, false, false, false, false, false, false, false, false, false, false, false, false, false, false] rfl rfl (one_of HT_.out (by kernel_rfl)) (by decide) (fun K hK => ?_)
  refine goes_ Try.func24 (by kernel_rfl) rfl #[.agg #[.int .i64 t217, .int .i64 t218]] (by rfl) rfl rfl (by (try simp only [List.map_toArray, List.map_cons, List.map_nil]); first | done | rfl | (simp only [List.length_drop, List.length_take]; rfl)) ?_
  with_reducible refine (mosaiclaw05_Ref.calls t217 t218 t256 t257 _ A24.out).mono ?_
  rintro e w121 ⟨rfl, hb⟩
  refine ⟨_, rfl, ?_⟩
  have n0_ := Aside0.mk (blk_below (g := gb203) (o := .cells #[.int .i64 a0_0, .int .i64 a0_1] 23 (0, 0)) (by (with_reducible repeat (first | refine blk_drewN ?_ _ | refine blk_drew ?_ | refine blk_alloc ?_ _)); exact BK203.out) hb)
  have n1_ := Aside0.mk (blk_below (g := gb204) (o := .cells #[.int .i64 a1_0, .int .i64 a1_1] 23 (0, 0)) (by (with_reducible repeat (first | refine blk_drewN ?_ _ | refine blk_drew ?_ | refine blk_alloc ?_ _)); exact BK204.out) hb)
  have n2_ := Aside0.mk (blk_below (g := gb208) (o := .cells #[.int .i64 t205, .int .i64 t206] 23 (0, 0)) (by (with_reducible repeat (first | refine blk_drewN ?_ _ | refine blk_drew ?_ | refine blk_alloc ?_ _)); exact BK208.out) hb)
  have n3_ := Aside0.mk (blk_below (g := gb216) (o := .cells #[.int .i64 t213, .int .i64 t214] 32 (0, 0)) (by (with_reducible repeat (first | refine blk_drewN ?_ _ | refine blk_drew ?_ | refine blk_alloc ?_ _)); exact BK216.out) hb)
  have n4_ := Aside0.mk (blk_below (g := gb220) (o := .cells #[.int .i64 t217, .int .i64 t218] 23 (0, 0)) (by (with_reducible repeat (first | refine blk_drewN ?_ _ | refine blk_drew ?_ | refine blk_alloc ?_ _)); exact BK220.out) hb)
  have n5_ := Aside0.mk (blk_below (g := gb228) (o := .cells #[.int .i64 t225, .int .i64 t226] 32 (0, 0)) (by (with_reducible repeat (first | refine blk_drewN ?_ _ | refine blk_drew ?_ | refine blk_alloc ?_ _)); exact BK228.out) hb)
  have n6_ := Aside0.mk (blk_below (g := gb232) (o := .cells #[.int .i64 t229, .int .i64 t230] 23 (0, 0)) (by (with_reducible repeat (first | refine blk_drewN ?_ _ | refine blk_drew ?_ | refine blk_alloc ?_ _)); exact BK232.out) hb)
  have n7_ := Aside0.mk (blk_below (g := gb240) (o := .cells #[.int .i64 t237, .int .i64 t238] 32 (0, 0)) (by (with_reducible repeat (first | refine blk_drewN ?_ _ | refine blk_drew ?_ | refine blk_alloc ?_ _)); exact BK240.out) hb)
  have n8_ := Aside0.mk (blk_below (g := gb244) (o := .cells #[.int .i64 t241, .int .i64 t242] 23 (0, 0)) (by (with_reducible repeat (first | refine blk_drewN ?_ _ | refine blk_drew ?_ | refine blk_alloc ?_ _)); exact BK244.out) hb)
  have n9_ := Aside0.mk (blk_below (g := gb252) (o := .cells #[.int .i64 t249, .int .i64 t250] 32 (0, 0)) (by (with_reducible repeat (first | refine blk_drewN ?_ _ | refine blk_drew ?_ | refine blk_alloc ?_ _)); exact BK252.out) hb)
  have n10_ := Aside0.mk (below_step (by repeat (first | (with_reducible first | exact HB.out | apply below_alloc | apply pw_below_drewN | apply below_drew1 | refine below_set ?_ GE203.out | refine below_set ?_ GE204.out | refine below_set ?_ GE208.out | refine below_set ?_ GE216.out | refine below_set ?_ GE220.out | refine below_set ?_ GE228.out | refine below_set ?_ GE232.out | refine below_set ?_ GE240.out | refine below_set ?_ GE244.out | refine below_set ?_ GE252.out) | exact HB.out)) hb)
  clear BK203
  clear BK204
  clear BK208
  clear BK216
  clear BK220
  clear BK228
  clear BK232
  clear BK240
  clear BK244
  clear BK252
  clear HB
  have BK203 := n0_
  have BK204 := n1_
  have BK208 := n2_
  have BK216 := n3_
  have BK220 := n4_
  have BK228 := n5_
  have BK232 := n6_
  have BK240 := n7_
  have BK244 := n8_
  have BK252 := n9_
  have HB := n10_
  clear n0_ n1_ n2_ n3_ n4_ n5_ n6_ n7_ n8_ n9_ n10_
  (try clear hb)
  (try clear hb2)
  (try clear hk)
  (try clear hi)
  refine hK.out _ _ ⟨(blk_cell BK208.out 0).trans rfl, (blk_cell BK208.out 1).trans rfl, (blk_cell BK216.out 0).trans rfl, (blk_cell BK216.out 1).trans rfl, (blk_cell BK220.out 0).trans rfl, (blk_cell BK220.out 1).trans rfl, (blk_cell BK228.out 0).trans rfl, (blk_cell BK228.out 1).trans rfl, (blk_cell BK232.out 0).trans rfl, (blk_cell BK232.out 1).trans rfl, (blk_cell BK240.out 0).trans rfl, (blk_cell BK240.out 1).trans rfl, (blk_cell BK244.out 0).trans rfl, (blk_cell BK244.out 1).trans rfl, (blk_cell BK252.out 0).trans rfl, (blk_cell BK252.out 1).trans rfl⟩ (fun hHeld => ?_)
  clear hK K
  refine norm_ (a' := ?_) ?_ ?_
  rotate_left
  · show Act.put _ (some 91) _ = _
    simp only [Act.put, List.setIfInBounds_toArray, List.set_cons_zero, List.set_cons_succ, i64_w, i32_w]
    rfl
  refine pure_ (i := 16) (N := some 93) (v := ?_) (a' := ?_) #[true, true, true, true, true, true, true, true, true, true, true, true, true, true, true, true, true, false, false, false, false, false, false, false, false, false, false, false, false, false, false, false, false, false, false, false, false, false, false, false, false, false, false, false, false, false] rfl rfl (any_of HT_.out (by kernel_rfl)) (fun _ _ _ h => h) (Or.inl ⟨by rfl, ?_⟩) ?_ ?_
  rotate_left
  · intro w'
    go_simp
    with_reducible rfl
  rotate_left
  · simp only [Act.put, List.setIfInBounds_toArray, List.set_cons_zero, List.set_cons_succ, i64_w, i32_w]
    rfl
  refine pure_ (i := 17) (N := some 94) (v := ?_) (a' := ?_) #[true, true, true, true, true, true, true, true, true, true, true, true, true, true, true, true, true, true, false, false, false, false, false, false, false, false, false, false, false, false, false, false, false, false, false, false, false, false, false, false, false, false, false, false, false, false] rfl rfl (any_of HT_.out (by kernel_rfl)) (fun _ _ _ h => h) (Or.inl ⟨by rfl, ?_⟩) ?_ ?_
  rotate_left
  · intro w'
    go_simp
    with_reducible rfl
  rotate_left
  · simp only [Act.put, List.setIfInBounds_toArray, List.set_cons_zero, List.set_cons_succ, i64_w, i32_w]
    rfl
  refine pure_ (i := 18) (N := some 95) (v := ?_) (a' := ?_) #[true, true, true, true, true, true, true, true, true, true, true, true, true, true, true, true, true, true, true, false, false, false, false, false, false, false, false, false, false, false, false, false, false, false, false, false, false, false, false, false, false, false, false, false, false, false] rfl rfl (any_of HT_.out (by kernel_rfl)) (fun _ _ _ h => h) (Or.inl ⟨by rfl, ?_⟩) ?_ ?_
  rotate_left
  · intro w'
    go_simp
    with_reducible rfl
  rotate_left
  · simp only [Act.put, List.setIfInBounds_toArray, List.set_cons_zero, List.set_cons_succ, i64_w, i32_w]
    rfl
  refine pure_ (i := 19) (N := some 96) (v := ?_) (a' := ?_) #[true, true, true, true, true, true, true, true, true, true, true, true, true, true, true, true, true, true, true, true, false, false, false, false, false, false, false, false, false, false, false, false, false, false, false, false, false, false, false, false, false, false, false, false, false, false] rfl rfl (any_of HT_.out (by kernel_rfl)) (fun _ _ _ h => h) (Or.inl ⟨by rfl, ?_⟩) ?_ ?_
  rotate_left
  · intro w'
    go_simp
    with_reducible rfl
  rotate_left
  · simp only [Act.put, List.setIfInBounds_toArray, List.set_cons_zero, List.set_cons_succ, i64_w, i32_w]
    rfl
  refine pure_ (i := 20) (N := some 97) (v := ?_) (a' := ?_) #[true, true, true, true, true, true, true, true, true, true, true, true, true, true, true, true, true, true, true, true, true, false, false, false, false, false, false, false, false, false, false, false, false, false, false, false, false, false, false, false, false, false, false, false, false, false] rfl rfl (any_of HT_.out (by kernel_rfl)) (fun _ _ _ h => h) (Or.inl ⟨by rfl, ?_⟩) ?_ ?_
  rotate_left
  · intro w'
    go_simp
    with_reducible rfl
  rotate_left
  · simp only [Act.put, List.setIfInBounds_toArray, List.set_cons_zero, List.set_cons_succ, i64_w, i32_w]
    rfl
  refine pure_ (i := 21) (N := some 98) (v := ?_) (a' := ?_) #[true, true, true, true, true, true, true, true, true, true, true, true, true, true, true, true, true, true, true, true, true, true, false, false, false, false, false, false, false, false, false, false, false, false, false, false, false, false, false, false, false, false, false, false, false, false] rfl rfl (any_of HT_.out (by kernel_rfl)) (fun _ _ _ h => h) (Or.inl ⟨by rfl, ?_⟩) ?_ ?_
  rotate_left
  · intro w'
    go_simp
    with_reducible rfl
  rotate_left
  · simp only [Act.put, List.setIfInBounds_toArray, List.set_cons_zero, List.set_cons_succ, i64_w, i32_w]
    rfl
  refine pure_ (i := 22) (N := some 99) (v := ?_) (a' := ?_) #[true, true, true, true, true, true, true, true, true, true, true, true, true, true, true, true, true, true, true, true, true, true, true, false, false, false, false, false, false, false, false, false, false, false, false, false, false, false, false, false, false, false, false, false, false, false] rfl rfl (any_of HT_.out (by kernel_rfl)) (fun _ _ _ h => h) (Or.inl ⟨by rfl, ?_⟩) ?_ ?_
  rotate_left
  · intro w'
    go_simp
    with_reducible rfl
  rotate_left
  · simp only [Act.put, List.setIfInBounds_toArray, List.set_cons_zero, List.set_cons_succ, i64_w, i32_w]
    rfl
  refine pure_ (i := 23) (N := some 100) (v := ?_) (a' := ?_) #[true, true, true, true, true, true, true, true, true, true, true, true, true, true, true, true, true, true, true, true, true, true, true, true, false, false, false, false, false, false, false, false, false, false, false, false, false, false, false, false, false, false, false, false, false, false] rfl rfl (any_of HT_.out (by kernel_rfl)) (fun _ _ _ h => h) (Or.inl ⟨by rfl, ?_⟩) ?_ ?_
  rotate_left
  · intro w'
    go_simp
    with_reducible rfl
  rotate_left
  · simp only [Act.put, List.setIfInBounds_toArray, List.set_cons_zero, List.set_cons_succ, i64_w, i32_w]
    rfl
  refine take_ (i := 24) (N := some 101) (v := ?_) (a' := ?_) #[true, true, true, true, true, true, true, true, true, true, true, true, true, true, true, true, true, true, true, true, true, true, true, true, true, false, false, false, false, false, false, false, false, false, false, false, false, false, false, false, false, false, false, false, false, false] rfl rfl (take_ofW HT_.out HW_.out (by kernel_rfl)) (fun _ _ _ h => h) (Or.inl ⟨by rfl, ?_⟩) hHeld ?_ ?_
  rotate_left
  · rintro w' ⟨s0, s1, s2, s3, s4, s5, s6, s7, s8, s9, s10, s11, s12, s13, s14, s15⟩
    go_simp
    with_reducible rfl
  rotate_left
  · simp only [Act.put, List.setIfInBounds_toArray, List.set_cons_zero, List.set_cons_succ, i64_w, i32_w]
    rfl
  refine take_ (i := 26) (N := some 103) (v := ?_) (a' := ?_) #[true, true, true, true, true, true, true, true, true, true, true, true, true, true, true, true, true, true, true, true, true, true, true, true, true, false, true, false, false, false, false, false, false, false, false, false, false, false, false, false, false, false, false, false, false, false] rfl rfl (take_ofW HT_.out HW_.out (by kernel_rfl)) (fun _ _ _ h => h) (Or.inl ⟨by rfl, ?_⟩) hHeld ?_ ?_
  rotate_left
  · rintro w' ⟨s0, s1, s2, s3, s4, s5, s6, s7, s8, s9, s10, s11, s12, s13, s14, s15⟩
    go_simp
    with_reducible rfl
  rotate_left
  · simp only [Act.put, List.setIfInBounds_toArray, List.set_cons_zero, List.set_cons_succ, i64_w, i32_w]
    rfl
  refine one_ (i := 25) (N := some 102) #[true, true, true, true, true, true, true, true, true, true, true, true, true, true, true, true, true, true, true, true, true, true, true, true, true, true, true, false, false, false, false, false, false, false, false, false, false, false, false, false, false, false, false, false, false, false] rfl rfl (one_of HT_.out (by kernel_rfl)) (by decide) (fun K hK => ?_)
  refine goes_ Try.func24 (by kernel_rfl) rfl #[.agg #[.int .i64 t229, .int .i64 t230]] (by rfl) rfl rfl (by (try simp only [List.map_toArray, List.map_cons, List.map_nil]); first | done | rfl | (simp only [List.length_drop, List.length_take]; rfl)) ?_
  with_reducible refine (mosaiclaw05_Ref.calls t229 t230 t258 t259 _ A27.out).mono ?_
  rintro e w122 ⟨rfl, hb⟩
  refine ⟨_, rfl, ?_⟩
  have n0_ := Aside0.mk (blk_below (g := gb203) (o := .cells #[.int .i64 a0_0, .int .i64 a0_1] 23 (0, 0)) (by (with_reducible repeat (first | refine blk_drewN ?_ _ | refine blk_drew ?_ | refine blk_alloc ?_ _)); exact BK203.out) hb)
  have n1_ := Aside0.mk (blk_below (g := gb204) (o := .cells #[.int .i64 a1_0, .int .i64 a1_1] 23 (0, 0)) (by (with_reducible repeat (first | refine blk_drewN ?_ _ | refine blk_drew ?_ | refine blk_alloc ?_ _)); exact BK204.out) hb)
  have n2_ := Aside0.mk (blk_below (g := gb208) (o := .cells #[.int .i64 t205, .int .i64 t206] 23 (0, 0)) (by (with_reducible repeat (first | refine blk_drewN ?_ _ | refine blk_drew ?_ | refine blk_alloc ?_ _)); exact BK208.out) hb)
  have n3_ := Aside0.mk (blk_below (g := gb216) (o := .cells #[.int .i64 t213, .int .i64 t214] 32 (0, 0)) (by (with_reducible repeat (first | refine blk_drewN ?_ _ | refine blk_drew ?_ | refine blk_alloc ?_ _)); exact BK216.out) hb)
  have n4_ := Aside0.mk (blk_below (g := gb220) (o := .cells #[.int .i64 t217, .int .i64 t218] 23 (0, 0)) (by (with_reducible repeat (first | refine blk_drewN ?_ _ | refine blk_drew ?_ | refine blk_alloc ?_ _)); exact BK220.out) hb)
  have n5_ := Aside0.mk (blk_below (g := gb228) (o := .cells #[.int .i64 t225, .int .i64 t226] 32 (0, 0)) (by (with_reducible repeat (first | refine blk_drewN ?_ _ | refine blk_drew ?_ | refine blk_alloc ?_ _)); exact BK228.out) hb)
  have n6_ := Aside0.mk (blk_below (g := gb232) (o := .cells #[.int .i64 t229, .int .i64 t230] 23 (0, 0)) (by (with_reducible repeat (first | refine blk_drewN ?_ _ | refine blk_drew ?_ | refine blk_alloc ?_ _)); exact BK232.out) hb)
  have n7_ := Aside0.mk (blk_below (g := gb240) (o := .cells #[.int .i64 t237, .int .i64 t238] 32 (0, 0)) (by (with_reducible repeat (first | refine blk_drewN ?_ _ | refine blk_drew ?_ | refine blk_alloc ?_ _)); exact BK240.out) hb)
  have n8_ := Aside0.mk (blk_below (g := gb244) (o := .cells #[.int .i64 t241, .int .i64 t242] 23 (0, 0)) (by (with_reducible repeat (first | refine blk_drewN ?_ _ | refine blk_drew ?_ | refine blk_alloc ?_ _)); exact BK244.out) hb)
  have n9_ := Aside0.mk (blk_below (g := gb252) (o := .cells #[.int .i64 t249, .int .i64 t250] 32 (0, 0)) (by (with_reducible repeat (first | refine blk_drewN ?_ _ | refine blk_drew ?_ | refine blk_alloc ?_ _)); exact BK252.out) hb)
  have n10_ := Aside0.mk (below_step (by repeat (first | (with_reducible first | exact HB.out | apply below_alloc | apply pw_below_drewN | apply below_drew1 | refine below_set ?_ GE203.out | refine below_set ?_ GE204.out | refine below_set ?_ GE208.out | refine below_set ?_ GE216.out | refine below_set ?_ GE220.out | refine below_set ?_ GE228.out | refine below_set ?_ GE232.out | refine below_set ?_ GE240.out | refine below_set ?_ GE244.out | refine below_set ?_ GE252.out) | exact HB.out)) hb)
  clear BK203
  clear BK204
  clear BK208
  clear BK216
  clear BK220
  clear BK228
  clear BK232
  clear BK240
  clear BK244
  clear BK252
  clear HB
  have BK203 := n0_
  have BK204 := n1_
  have BK208 := n2_
  have BK216 := n3_
  have BK220 := n4_
  have BK228 := n5_
  have BK232 := n6_
  have BK240 := n7_
  have BK244 := n8_
  have BK252 := n9_
  have HB := n10_
  clear n0_ n1_ n2_ n3_ n4_ n5_ n6_ n7_ n8_ n9_ n10_
  (try clear hb)
  (try clear hb2)
  (try clear hk)
  (try clear hi)
  refine hK.out _ _ ⟨(blk_cell BK208.out 0).trans rfl, (blk_cell BK208.out 1).trans rfl, (blk_cell BK216.out 0).trans rfl, (blk_cell BK216.out 1).trans rfl, (blk_cell BK220.out 0).trans rfl, (blk_cell BK220.out 1).trans rfl, (blk_cell BK228.out 0).trans rfl, (blk_cell BK228.out 1).trans rfl, (blk_cell BK232.out 0).trans rfl, (blk_cell BK232.out 1).trans rfl, (blk_cell BK240.out 0).trans rfl, (blk_cell BK240.out 1).trans rfl, (blk_cell BK244.out 0).trans rfl, (blk_cell BK244.out 1).trans rfl, (blk_cell BK252.out 0).trans rfl, (blk_cell BK252.out 1).trans rfl⟩ (fun hHeld => ?_)
  clear hK K
  refine norm_ (a' := ?_) ?_ ?_
  rotate_left
  · show Act.put _ (some 102) _ = _
    simp only [Act.put, List.setIfInBounds_toArray, List.set_cons_zero, List.set_cons_succ, i64_w, i32_w]
    rfl
  refine pure_ (i := 27) (N := some 104) (v := ?_) (a' := ?_) #[true, true, true, true, true, true, true, true, true, true, true, true, true, true, true, true, true, true, true, true, true, true, true, true, true, true, true, true, false, false, false, false, false, false, false, false, false, false, false, false, false, false, false, false, false, false] rfl rfl (any_of HT_.out (by kernel_rfl)) (fun _ _ _ h => h) (Or.inl ⟨by rfl, ?_⟩) ?_ ?_
  rotate_left
  · intro w'
    go_simp
    with_reducible rfl
  rotate_left
  · simp only [Act.put, List.setIfInBounds_toArray, List.set_cons_zero, List.set_cons_succ, i64_w, i32_w]
    rfl
  refine pure_ (i := 28) (N := some 105) (v := ?_) (a' := ?_) #[true, true, true, true, true, true, true, true, true, true, true, true, true, true, true, true, true, true, true, true, true, true, true, true, true, true, true, true, true, false, false, false, false, false, false, false, false, false, false, false, false, false, false, false, false, false] rfl rfl (any_of HT_.out (by kernel_rfl)) (fun _ _ _ h => h) (Or.inl ⟨by rfl, ?_⟩) ?_ ?_
  rotate_left
  · intro w'
    go_simp
    with_reducible rfl
  rotate_left
  · simp only [Act.put, List.setIfInBounds_toArray, List.set_cons_zero, List.set_cons_succ, i64_w, i32_w]
    rfl
  refine pure_ (i := 29) (N := some 106) (v := ?_) (a' := ?_) #[true, true, true, true, true, true, true, true, true, true, true, true, true, true, true, true, true, true, true, true, true, true, true, true, true, true, true, true, true, true, false, false, false, false, false, false, false, false, false, false, false, false, false, false, false, false] rfl rfl (any_of HT_.out (by kernel_rfl)) (fun _ _ _ h => h) (Or.inl ⟨by rfl, ?_⟩) ?_ ?_
  rotate_left
  · intro w'
    go_simp
    with_reducible rfl
  rotate_left
  · simp only [Act.put, List.setIfInBounds_toArray, List.set_cons_zero, List.set_cons_succ, i64_w, i32_w]
    rfl
  refine pure_ (i := 30) (N := some 107) (v := ?_) (a' := ?_) #[true, true, true, true, true, true, true, true, true, true, true, true, true, true, true, true, true, true, true, true, true, true, true, true, true, true, true, true, true, true, true, false, false, false, false, false, false, false, false, false, false, false, false, false, false, false] rfl rfl (any_of HT_.out (by kernel_rfl)) (fun _ _ _ h => h) (Or.inl ⟨by rfl, ?_⟩) ?_ ?_
  rotate_left
  · intro w'
    go_simp
    with_reducible rfl
  rotate_left
  · simp only [Act.put, List.setIfInBounds_toArray, List.set_cons_zero, List.set_cons_succ, i64_w, i32_w]
    rfl
  refine pure_ (i := 31) (N := some 108) (v := ?_) (a' := ?_) #[true, true, true, true, true, true, true, true, true, true, true, true, true, true, true, true, true, true, true, true, true, true, true, true, true, true, true, true, true, true, true, true, false, false, false, false, false, false, false, false, false, false, false, false, false, false] rfl rfl (any_of HT_.out (by kernel_rfl)) (fun _ _ _ h => h) (Or.inl ⟨by rfl, ?_⟩) ?_ ?_
  rotate_left
  · intro w'
    go_simp
    with_reducible rfl
  rotate_left
  · simp only [Act.put, List.setIfInBounds_toArray, List.set_cons_zero, List.set_cons_succ, i64_w, i32_w]
    rfl
  refine pure_ (i := 32) (N := some 109) (v := ?_) (a' := ?_) #[true, true, true, true, true, true, true, true, true, true, true, true, true, true, true, true, true, true, true, true, true, true, true, true, true, true, true, true, true, true, true, true, true, false, false, false, false, false, false, false, false, false, false, false, false, false] rfl rfl (any_of HT_.out (by kernel_rfl)) (fun _ _ _ h => h) (Or.inl ⟨by rfl, ?_⟩) ?_ ?_
  rotate_left
  · intro w'
    go_simp
    with_reducible rfl
  rotate_left
  · simp only [Act.put, List.setIfInBounds_toArray, List.set_cons_zero, List.set_cons_succ, i64_w, i32_w]
    rfl
  refine pure_ (i := 33) (N := some 110) (v := ?_) (a' := ?_) #[true, true, true, true, true, true, true, true, true, true, true, true, true, true, true, true, true, true, true, true, true, true, true, true, true, true, true, true, true, true, true, true, true, true, false, false, false, false, false, false, false, false, false, false, false, false] rfl rfl (any_of HT_.out (by kernel_rfl)) (fun _ _ _ h => h) (Or.inl ⟨by rfl, ?_⟩) ?_ ?_
  rotate_left
  · intro w'
    go_simp
    with_reducible rfl
  rotate_left
  · simp only [Act.put, List.setIfInBounds_toArray, List.set_cons_zero, List.set_cons_succ, i64_w, i32_w]
    rfl
  refine pure_ (i := 34) (N := some 111) (v := ?_) (a' := ?_) #[true, true, true, true, true, true, true, true, true, true, true, true, true, true, true, true, true, true, true, true, true, true, true, true, true, true, true, true, true, true, true, true, true, true, true, false, false, false, false, false, false, false, false, false, false, false] rfl rfl (any_of HT_.out (by kernel_rfl)) (fun _ _ _ h => h) (Or.inl ⟨by rfl, ?_⟩) ?_ ?_
  rotate_left
  · intro w'
    go_simp
    with_reducible rfl
  rotate_left
  · simp only [Act.put, List.setIfInBounds_toArray, List.set_cons_zero, List.set_cons_succ, i64_w, i32_w]
    rfl
  refine take_ (i := 35) (N := some 112) (v := ?_) (a' := ?_) #[true, true, true, true, true, true, true, true, true, true, true, true, true, true, true, true, true, true, true, true, true, true, true, true, true, true, true, true, true, true, true, true, true, true, true, true, false, false, false, false, false, false, false, false, false, false] rfl rfl (take_ofW HT_.out HW_.out (by kernel_rfl)) (fun _ _ _ h => h) (Or.inl ⟨by rfl, ?_⟩) hHeld ?_ ?_
  rotate_left
  · rintro w' ⟨s0, s1, s2, s3, s4, s5, s6, s7, s8, s9, s10, s11, s12, s13, s14, s15⟩
    go_simp
    with_reducible rfl
  rotate_left
  · simp only [Act.put, List.setIfInBounds_toArray, List.set_cons_zero, List.set_cons_succ, i64_w, i32_w]
    rfl
  refine take_ (i := 37) (N := some 114) (v := ?_) (a' := ?_) #[true, true, true, true, true, true, true, true, true, true, true, true, true, true, true, true, true, true, true, true, true, true, true, true, true, true, true, true, true, true, true, true, true, true, true, true, false, true, false, false, false, false, false, false, false, false] rfl rfl (take_ofW HT_.out HW_.out (by kernel_rfl)) (fun _ _ _ h => h) (Or.inl ⟨by rfl, ?_⟩) hHeld ?_ ?_
  rotate_left
  · rintro w' ⟨s0, s1, s2, s3, s4, s5, s6, s7, s8, s9, s10, s11, s12, s13, s14, s15⟩
    go_simp
    with_reducible rfl
  rotate_left
  · simp only [Act.put, List.setIfInBounds_toArray, List.set_cons_zero, List.set_cons_succ, i64_w, i32_w]
    rfl
  refine one_ (i := 36) (N := some 113) #[true, true, true, true, true, true, true, true, true, true, true, true, true, true, true, true, true, true, true, true, true, true, true, true, true, true, true, true, true, true, true, true, true, true, true, true, true, true, false, false, false, false, false, false, false, false] rfl rfl (one_of HT_.out (by kernel_rfl)) (by decide) (fun K hK => ?_)
  refine goes_ Try.func24 (by kernel_rfl) rfl #[.agg #[.int .i64 t241, .int .i64 t242]] (by rfl) rfl rfl (by (try simp only [List.map_toArray, List.map_cons, List.map_nil]); first | done | rfl | (simp only [List.length_drop, List.length_take]; rfl)) ?_
  with_reducible refine (mosaiclaw05_Ref.calls t241 t242 t260 t261 _ A30.out).mono ?_
  rintro e w123 ⟨rfl, hb⟩
  refine ⟨_, rfl, ?_⟩
  have n0_ := Aside0.mk (blk_below (g := gb203) (o := .cells #[.int .i64 a0_0, .int .i64 a0_1] 23 (0, 0)) (by (with_reducible repeat (first | refine blk_drewN ?_ _ | refine blk_drew ?_ | refine blk_alloc ?_ _)); exact BK203.out) hb)
  have n1_ := Aside0.mk (blk_below (g := gb204) (o := .cells #[.int .i64 a1_0, .int .i64 a1_1] 23 (0, 0)) (by (with_reducible repeat (first | refine blk_drewN ?_ _ | refine blk_drew ?_ | refine blk_alloc ?_ _)); exact BK204.out) hb)
  have n2_ := Aside0.mk (blk_below (g := gb208) (o := .cells #[.int .i64 t205, .int .i64 t206] 23 (0, 0)) (by (with_reducible repeat (first | refine blk_drewN ?_ _ | refine blk_drew ?_ | refine blk_alloc ?_ _)); exact BK208.out) hb)
  have n3_ := Aside0.mk (blk_below (g := gb216) (o := .cells #[.int .i64 t213, .int .i64 t214] 32 (0, 0)) (by (with_reducible repeat (first | refine blk_drewN ?_ _ | refine blk_drew ?_ | refine blk_alloc ?_ _)); exact BK216.out) hb)
  have n4_ := Aside0.mk (blk_below (g := gb220) (o := .cells #[.int .i64 t217, .int .i64 t218] 23 (0, 0)) (by (with_reducible repeat (first | refine blk_drewN ?_ _ | refine blk_drew ?_ | refine blk_alloc ?_ _)); exact BK220.out) hb)
  have n5_ := Aside0.mk (blk_below (g := gb228) (o := .cells #[.int .i64 t225, .int .i64 t226] 32 (0, 0)) (by (with_reducible repeat (first | refine blk_drewN ?_ _ | refine blk_drew ?_ | refine blk_alloc ?_ _)); exact BK228.out) hb)
  have n6_ := Aside0.mk (blk_below (g := gb232) (o := .cells #[.int .i64 t229, .int .i64 t230] 23 (0, 0)) (by (with_reducible repeat (first | refine blk_drewN ?_ _ | refine blk_drew ?_ | refine blk_alloc ?_ _)); exact BK232.out) hb)
  have n7_ := Aside0.mk (blk_below (g := gb240) (o := .cells #[.int .i64 t237, .int .i64 t238] 32 (0, 0)) (by (with_reducible repeat (first | refine blk_drewN ?_ _ | refine blk_drew ?_ | refine blk_alloc ?_ _)); exact BK240.out) hb)
  have n8_ := Aside0.mk (blk_below (g := gb244) (o := .cells #[.int .i64 t241, .int .i64 t242] 23 (0, 0)) (by (with_reducible repeat (first | refine blk_drewN ?_ _ | refine blk_drew ?_ | refine blk_alloc ?_ _)); exact BK244.out) hb)
  have n9_ := Aside0.mk (blk_below (g := gb252) (o := .cells #[.int .i64 t249, .int .i64 t250] 32 (0, 0)) (by (with_reducible repeat (first | refine blk_drewN ?_ _ | refine blk_drew ?_ | refine blk_alloc ?_ _)); exact BK252.out) hb)
  have n10_ := Aside0.mk (below_step (by repeat (first | (with_reducible first | exact HB.out | apply below_alloc | apply pw_below_drewN | apply below_drew1 | refine below_set ?_ GE203.out | refine below_set ?_ GE204.out | refine below_set ?_ GE208.out | refine below_set ?_ GE216.out | refine below_set ?_ GE220.out | refine below_set ?_ GE228.out | refine below_set ?_ GE232.out | refine below_set ?_ GE240.out | refine below_set ?_ GE244.out | refine below_set ?_ GE252.out) | exact HB.out)) hb)
  clear BK203
  clear BK204
  clear BK208
  clear BK216
  clear BK220
  clear BK228
  clear BK232
  clear BK240
  clear BK244
  clear BK252
  clear HB
  have BK203 := n0_
  have BK204 := n1_
  have BK208 := n2_
  have BK216 := n3_
  have BK220 := n4_
  have BK228 := n5_
  have BK232 := n6_
  have BK240 := n7_
  have BK244 := n8_
  have BK252 := n9_
  have HB := n10_
  clear n0_ n1_ n2_ n3_ n4_ n5_ n6_ n7_ n8_ n9_ n10_
  (try clear hb)
  (try clear hb2)
  (try clear hk)
  (try clear hi)
  refine hK.out _ _ ⟨(blk_cell BK208.out 0).trans rfl, (blk_cell BK208.out 1).trans rfl, (blk_cell BK216.out 0).trans rfl, (blk_cell BK216.out 1).trans rfl, (blk_cell BK220.out 0).trans rfl, (blk_cell BK220.out 1).trans rfl, (blk_cell BK228.out 0).trans rfl, (blk_cell BK228.out 1).trans rfl, (blk_cell BK232.out 0).trans rfl, (blk_cell BK232.out 1).trans rfl, (blk_cell BK240.out 0).trans rfl, (blk_cell BK240.out 1).trans rfl, (blk_cell BK244.out 0).trans rfl, (blk_cell BK244.out 1).trans rfl, (blk_cell BK252.out 0).trans rfl, (blk_cell BK252.out 1).trans rfl⟩ (fun hHeld => ?_)
  clear hK K
  refine norm_ (a' := ?_) ?_ ?_
  rotate_left
  · show Act.put _ (some 113) _ = _
    simp only [Act.put, List.setIfInBounds_toArray, List.set_cons_zero, List.set_cons_succ, i64_w, i32_w]
    rfl
  refine pure_ (i := 38) (N := some 115) (v := ?_) (a' := ?_) #[true, true, true, true, true, true, true, true, true, true, true, true, true, true, true, true, true, true, true, true, true, true, true, true, true, true, true, true, true, true, true, true, true, true, true, true, true, true, true, false, false, false, false, false, false, false] rfl rfl (any_of HT_.out (by kernel_rfl)) (fun _ _ _ h => h) (Or.inl ⟨by rfl, ?_⟩) ?_ ?_
  rotate_left
  · intro w'
    go_simp
    with_reducible rfl
  rotate_left
  · simp only [Act.put, List.setIfInBounds_toArray, List.set_cons_zero, List.set_cons_succ, i64_w, i32_w]
    rfl
  refine pure_ (i := 39) (N := some 116) (v := ?_) (a' := ?_) #[true, true, true, true, true, true, true, true, true, true, true, true, true, true, true, true, true, true, true, true, true, true, true, true, true, true, true, true, true, true, true, true, true, true, true, true, true, true, true, true, false, false, false, false, false, false] rfl rfl (any_of HT_.out (by kernel_rfl)) (fun _ _ _ h => h) (Or.inl ⟨by rfl, ?_⟩) ?_ ?_
  rotate_left
  · intro w'
    go_simp
    with_reducible rfl
  rotate_left
  · simp only [Act.put, List.setIfInBounds_toArray, List.set_cons_zero, List.set_cons_succ, i64_w, i32_w]
    rfl
  refine pure_ (i := 40) (N := some 117) (v := ?_) (a' := ?_) #[true, true, true, true, true, true, true, true, true, true, true, true, true, true, true, true, true, true, true, true, true, true, true, true, true, true, true, true, true, true, true, true, true, true, true, true, true, true, true, true, true, false, false, false, false, false] rfl rfl (any_of HT_.out (by kernel_rfl)) (fun _ _ _ h => h) (Or.inl ⟨by rfl, ?_⟩) ?_ ?_
  rotate_left
  · intro w'
    go_simp
    with_reducible rfl
  rotate_left
  · simp only [Act.put, List.setIfInBounds_toArray, List.set_cons_zero, List.set_cons_succ, i64_w, i32_w]
    rfl
  refine pure_ (i := 41) (N := some 118) (v := ?_) (a' := ?_) #[true, true, true, true, true, true, true, true, true, true, true, true, true, true, true, true, true, true, true, true, true, true, true, true, true, true, true, true, true, true, true, true, true, true, true, true, true, true, true, true, true, true, false, false, false, false] rfl rfl (any_of HT_.out (by kernel_rfl)) (fun _ _ _ h => h) (Or.inl ⟨by rfl, ?_⟩) ?_ ?_
  rotate_left
  · intro w'
    go_simp
    with_reducible rfl
  rotate_left
  · simp only [Act.put, List.setIfInBounds_toArray, List.set_cons_zero, List.set_cons_succ, i64_w, i32_w]
    rfl
  refine pure_ (i := 42) (N := some 119) (v := ?_) (a' := ?_) #[true, true, true, true, true, true, true, true, true, true, true, true, true, true, true, true, true, true, true, true, true, true, true, true, true, true, true, true, true, true, true, true, true, true, true, true, true, true, true, true, true, true, true, false, false, false] rfl rfl (any_of HT_.out (by kernel_rfl)) (fun _ _ _ h => h) (Or.inl ⟨by rfl, ?_⟩) ?_ ?_
  rotate_left
  · intro w'
    go_simp
    with_reducible rfl
  rotate_left
  · simp only [Act.put, List.setIfInBounds_toArray, List.set_cons_zero, List.set_cons_succ, i64_w, i32_w]
    rfl
  refine pure_ (i := 43) (N := some 120) (v := ?_) (a' := ?_) #[true, true, true, true, true, true, true, true, true, true, true, true, true, true, true, true, true, true, true, true, true, true, true, true, true, true, true, true, true, true, true, true, true, true, true, true, true, true, true, true, true, true, true, true, false, false] rfl rfl (any_of HT_.out (by kernel_rfl)) (fun _ _ _ h => h) (Or.inl ⟨by rfl, ?_⟩) ?_ ?_
  rotate_left
  · intro w'
    go_simp
    with_reducible rfl
  rotate_left
  · simp only [Act.put, List.setIfInBounds_toArray, List.set_cons_zero, List.set_cons_succ, i64_w, i32_w]
    rfl
  refine pure_ (i := 44) (N := some 121) (v := ?_) (a' := ?_) #[true, true, true, true, true, true, true, true, true, true, true, true, true, true, true, true, true, true, true, true, true, true, true, true, true, true, true, true, true, true, true, true, true, true, true, true, true, true, true, true, true, true, true, true, true, false] rfl rfl (any_of HT_.out (by kernel_rfl)) (fun _ _ _ h => h) (Or.inl ⟨by rfl, ?_⟩) ?_ ?_
  rotate_left
  · intro w'
    go_simp
    with_reducible rfl
  rotate_left
  · simp only [Act.put, List.setIfInBounds_toArray, List.set_cons_zero, List.set_cons_succ, i64_w, i32_w]
    rfl
  refine pure_ (i := 45) (N := some 4) (v := ?_) (a' := ?_) #[true, true, true, true, true, true, true, true, true, true, true, true, true, true, true, true, true, true, true, true, true, true, true, true, true, true, true, true, true, true, true, true, true, true, true, true, true, true, true, true, true, true, true, true, true, true] rfl rfl (any_of HT_.out (by kernel_rfl)) (fun _ _ _ h => h) (Or.inl ⟨by rfl, ?_⟩) ?_ ?_
  rotate_left
  · intro w'
    go_simp
    with_reducible rfl
  rotate_left
  · simp only [Act.put, List.setIfInBounds_toArray, List.set_cons_zero, List.set_cons_succ, i64_w, i32_w]
    rfl
  refine done_ (done_of HT_.out (by kernel_rfl)) ?_
  try go_wp2
  go_ret
  exact ⟨by first | rfl | (simp [errW_none, errW_some] <;> rfl) | (simp [*, errW_none, errW_some] <;> rfl), by repeat (first | (with_reducible first | exact HB.out | apply below_alloc | apply pw_below_drewN | apply below_drew1 | refine below_set ?_ GE203.out | refine below_set ?_ GE204.out | refine below_set ?_ GE208.out | refine below_set ?_ GE216.out | refine below_set ?_ GE220.out | refine below_set ?_ GE228.out | refine below_set ?_ GE232.out | refine below_set ?_ GE240.out | refine below_set ?_ GE244.out | refine below_set ?_ GE252.out) | exact HB.out)⟩

end Go.Proofs.Ytajkonnamldjaaa.Q
