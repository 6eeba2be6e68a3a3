-- Written by a program of this seat (a changed copy of a printer, cut in three by split2.py), not by hand.
import Derived.Test.YtajkonnamldjaaaRk5
namespace Go.Proofs.Ytajkonnamldjaaa.Q
open Go.RowKit Go.Proofs.YtajkonnamldjaaaW.PrintWords Go.Proofs.YtajkonnamldjaaaW.PrintLast Go.Proofs.YtajkonnamldjaaaW.PrintMore
open Go.Proofs.Ytajkonnamldjaaa
attribute [local go_sem] max2_int min2_int max_two min_two max_three min_three max_four min_four   -- for this text's walks alone
set_option linter.unusedVariables false
set_option linter.unusedSimpArgs false

attribute [local go_sem high] eqA32
/-! ### mosaiclaw05_RatioReckons: function 9 -/
def mosaiclaw05_RatioReckons.f (k : Nat) (a0_0 : Int) (a0_1 : Int) (a1_0 : Int) (a1_1 : Int) : Option (Bool) := (ratio_Add.f a0_0 a0_1 a1_0 a1_1).bind fun bt205 => ((mosaiclaw05_Ref.f a0_0 a0_1).bind fun bt209 => ((mosaiclaw05_Ref.f a1_0 a1_1).bind fun bt211 => ((mosaicref05_Sum.f k bt209.1 bt209.2 bt211.1 bt211.2 1).bind fun bt213 => ((ratio_Sub.f a0_0 a0_1 a1_0 a1_1).bind fun bt217 => ((mosaiclaw05_Ref.f a0_0 a0_1).bind fun bt221 => ((mosaiclaw05_Ref.f a1_0 a1_1).bind fun bt223 => ((mosaicref05_Sum.f k bt221.1 bt221.2 bt223.1 bt223.2 (-1)).bind fun bt225 => ((ratio_Mul.f k a0_0 a0_1 a1_0 a1_1).bind fun bt229 => ((mosaiclaw05_Ref.f a0_0 a0_1).bind fun bt233 => ((mosaiclaw05_Ref.f a1_0 a1_1).bind fun bt235 => ((mosaicref05_Mul.f k bt233.1 bt233.2 bt235.1 bt235.2).bind fun bt237 => ((ratio_Div.f k a0_0 a0_1 a1_0 a1_1).bind fun bt241 => ((mosaiclaw05_Ref.f a0_0 a0_1).bind fun bt245 => ((mosaiclaw05_Ref.f a1_0 a1_1).bind fun bt247 => ((mosaicref05_Div.f k bt245.1 bt245.2 bt247.1 bt247.2).bind fun bt249 => ((mosaiclaw05_awake.f k).bind fun t253 => (if t253 = true then ((mosaiclaw05_Ref.f bt205.1 bt205.2.1).bind fun bt254 => (if (bt254.1 == bt213.1 && (bt254.2 == bt213.2.1)) = true then (if bt205.2.2 = bt213.2.2 then ((mosaiclaw05_Ref.f bt217.1 bt217.2.1).bind fun bt256 => (if (bt256.1 == bt225.1 && (bt256.2 == bt225.2.1)) = true then (if bt217.2.2 = bt225.2.2 then ((mosaiclaw05_Ref.f bt229.1 bt229.2.1).bind fun bt258 => (if (bt258.1 == bt237.1 && (bt258.2 == bt237.2.1)) = true then (if bt229.2.2 = bt237.2.2 then ((mosaiclaw05_Ref.f bt241.1 bt241.2.1).bind fun bt260 => (if (bt260.1 == bt249.1 && (bt260.2 == bt249.2.1)) = true then (some (bt241.2.2 == bt249.2.2)) else (some false))) else (some false)) else (some false))) else (some false)) else (some false))) else (some false)) else (some false))) else (some false))))))))))))))))))
theorem mosaiclaw05_RatioReckons.mono : ∀ a0 a1 a2 a3 k, LeO (mosaiclaw05_RatioReckons.f k a0 a1 a2 a3) (mosaiclaw05_RatioReckons.f (k + 1) a0 a1 a2 a3) := by
  intro a0 a1 a2 a3 k
  unfold mosaiclaw05_RatioReckons.f
  repeat' first
      | (with_reducible exact mosaiclaw05_awake.mono _)
      | (with_reducible exact mosaicref05_Div.mono _ _ _ _ _)
      | (with_reducible exact mosaicref05_Mul.mono _ _ _ _ _)
      | (with_reducible exact mosaicref05_Sum.mono _ _ _ _ _ _)
      | (with_reducible exact ratio_Div.mono _ _ _ _ _)
      | (with_reducible exact ratio_Mul.mono _ _ _ _ _)
      | (with_reducible exact LeO.refl _)
      | (with_reducible exact LeO.none _)
      | (with_reducible refine LeO.ite ?_ ?_)
      | (with_reducible refine LeO.bind ?_ (fun _ => ?_))
      | exact mosaiclaw05_awake.mono _
      | exact mosaicref05_Div.mono _ _ _ _ _
      | exact mosaicref05_Mul.mono _ _ _ _ _
      | exact mosaicref05_Sum.mono _ _ _ _ _ _
      | exact ratio_Div.mono _ _ _ _ _
      | exact ratio_Mul.mono _ _ _ _ _
      | exact LeO.none _
      | refine LeO.ite ?_ ?_
      | refine LeO.bind ?_ (fun _ => ?_)
def mosaiclaw05_RatioReckons.T2 : Bool × List (List Nat × List Nat) := (true, [([], []), ([0], [0]), ([], []), ([2, 1], [2]), ([1, 3, 3], [1, 3]), ([4], [4]), ([5], [5]), ([5], [5]), ([], []), ([8, 6, 4, 0, 1, 2, 3, 4, 5, 6, 8], [6, 8]), ([7, 9, 0, 1, 2, 3, 4, 5, 6, 7, 8, 9], [7])])
def mosaiclaw05_RatioReckons.B2 : List Nat := [0, 1, 0, 7, 15, 31, 63, 63, 0, 383, 1023]
theorem mosaiclaw05_RatioReckons.tab2 : rtab .any (opsOf Try.f9 2) = mosaiclaw05_RatioReckons.T2 := by kernel_rfl
theorem mosaiclaw05_RatioReckons.bits2 : waitsOk mosaiclaw05_RatioReckons.T2.2 mosaiclaw05_RatioReckons.B2 = true := by kernel_rfl
def mosaiclaw05_RatioReckons.T4 : Bool × List (List Nat × List Nat) := (true, [([], []), ([0], [0]), ([], []), ([2, 1], [2]), ([1, 3, 3], [1, 3]), ([4], [4]), ([5], [5]), ([5], [5]), ([], []), ([8, 6, 4, 0, 1, 2, 3, 4, 5, 6, 8], [6, 8]), ([7, 9, 0, 1, 2, 3, 4, 5, 6, 7, 8, 9], [7])])
def mosaiclaw05_RatioReckons.B4 : List Nat := [0, 1, 0, 7, 15, 31, 63, 63, 0, 383, 1023]
theorem mosaiclaw05_RatioReckons.tab4 : rtab .any (opsOf Try.f9 4) = mosaiclaw05_RatioReckons.T4 := by kernel_rfl
theorem mosaiclaw05_RatioReckons.bits4 : waitsOk mosaiclaw05_RatioReckons.T4.2 mosaiclaw05_RatioReckons.B4 = true := by kernel_rfl
set_option maxHeartbeats 8000000 in
set_option maxRecDepth 100000 in
theorem mosaiclaw05_RatioReckons.calls (k : Nat) (a0_0 : Int) (a0_1 : Int) (a1_0 : Int) (a1_1 : Int) (r : Bool) (w : World) (hlaw : r = true) (h : mosaiclaw05_RatioReckons.f k a0_0 a0_1 a1_0 a1_1 = some r) :
    Calls Try.prog 9 #[.agg #[.int .i64 a0_0, .int .i64 a0_1], .agg #[.int .i64 a1_0, .int .i64 a1_1]] w fun e w' => e = .returned (.bool r) ∧ Below w.heap.size w w' := by
  have HLAW := Aside0.mk hlaw
  clear hlaw
  have hu23 := Try.underlying23
  have hu32 := Try.underlying32
  have HB := Aside0.mk (Below.refl w.heap.size w)
  have H : ((ratio_Add.f a0_0 a0_1 a1_0 a1_1).bind fun bt205 => ((mosaiclaw05_Ref.f a0_0 a0_1).bind fun bt209 => ((mosaiclaw05_Ref.f a1_0 a1_1).bind fun bt211 => ((mosaicref05_Sum.f k bt209.1 bt209.2 bt211.1 bt211.2 1).bind fun bt213 => ((ratio_Sub.f a0_0 a0_1 a1_0 a1_1).bind fun bt217 => ((mosaiclaw05_Ref.f a0_0 a0_1).bind fun bt221 => ((mosaiclaw05_Ref.f a1_0 a1_1).bind fun bt223 => ((mosaicref05_Sum.f k bt221.1 bt221.2 bt223.1 bt223.2 (-1)).bind fun bt225 => ((ratio_Mul.f k a0_0 a0_1 a1_0 a1_1).bind fun bt229 => ((mosaiclaw05_Ref.f a0_0 a0_1).bind fun bt233 => ((mosaiclaw05_Ref.f a1_0 a1_1).bind fun bt235 => ((mosaicref05_Mul.f k bt233.1 bt233.2 bt235.1 bt235.2).bind fun bt237 => ((ratio_Div.f k a0_0 a0_1 a1_0 a1_1).bind fun bt241 => ((mosaiclaw05_Ref.f a0_0 a0_1).bind fun bt245 => ((mosaiclaw05_Ref.f a1_0 a1_1).bind fun bt247 => ((mosaicref05_Div.f k bt245.1 bt245.2 bt247.1 bt247.2).bind fun bt249 => ((mosaiclaw05_awake.f k).bind fun t253 => (if t253 = true then ((mosaiclaw05_Ref.f bt205.1 bt205.2.1).bind fun bt254 => (if (bt254.1 == bt213.1 && (bt254.2 == bt213.2.1)) = true then (if bt205.2.2 = bt213.2.2 then ((mosaiclaw05_Ref.f bt217.1 bt217.2.1).bind fun bt256 => (if (bt256.1 == bt225.1 && (bt256.2 == bt225.2.1)) = true then (if bt217.2.2 = bt225.2.2 then ((mosaiclaw05_Ref.f bt229.1 bt229.2.1).bind fun bt258 => (if (bt258.1 == bt237.1 && (bt258.2 == bt237.2.1)) = true then (if bt229.2.2 = bt237.2.2 then ((mosaiclaw05_Ref.f bt241.1 bt241.2.1).bind fun bt260 => (if (bt260.1 == bt249.1 && (bt260.2 == bt249.2.1)) = true then (some (bt241.2.2 == bt249.2.2)) else (some false))) else (some false)) else (some false))) else (some false)) else (some false))) else (some false)) else (some false))) else (some false))))))))))))))))))) = some r := h
  clear h
  replace H := Option.bind_eq_some_iff.mp H
  obtain ⟨⟨t205, t206, t207⟩, A30, H⟩ := H
  replace H : ((mosaiclaw05_Ref.f a0_0 a0_1).bind fun bt209 => ((mosaiclaw05_Ref.f a1_0 a1_1).bind fun bt211 => ((mosaicref05_Sum.f k bt209.1 bt209.2 bt211.1 bt211.2 1).bind fun bt213 => ((ratio_Sub.f a0_0 a0_1 a1_0 a1_1).bind fun bt217 => ((mosaiclaw05_Ref.f a0_0 a0_1).bind fun bt221 => ((mosaiclaw05_Ref.f a1_0 a1_1).bind fun bt223 => ((mosaicref05_Sum.f k bt221.1 bt221.2 bt223.1 bt223.2 (-1)).bind fun bt225 => ((ratio_Mul.f k a0_0 a0_1 a1_0 a1_1).bind fun bt229 => ((mosaiclaw05_Ref.f a0_0 a0_1).bind fun bt233 => ((mosaiclaw05_Ref.f a1_0 a1_1).bind fun bt235 => ((mosaicref05_Mul.f k bt233.1 bt233.2 bt235.1 bt235.2).bind fun bt237 => ((ratio_Div.f k a0_0 a0_1 a1_0 a1_1).bind fun bt241 => ((mosaiclaw05_Ref.f a0_0 a0_1).bind fun bt245 => ((mosaiclaw05_Ref.f a1_0 a1_1).bind fun bt247 => ((mosaicref05_Div.f k bt245.1 bt245.2 bt247.1 bt247.2).bind fun bt249 => ((mosaiclaw05_awake.f k).bind fun t253 => (if t253 = true then ((mosaiclaw05_Ref.f t205 t206).bind fun bt254 => (if (bt254.1 == bt213.1 && (bt254.2 == bt213.2.1)) = true then (if t207 = bt213.2.2 then ((mosaiclaw05_Ref.f bt217.1 bt217.2.1).bind fun bt256 => (if (bt256.1 == bt225.1 && (bt256.2 == bt225.2.1)) = true then (if bt217.2.2 = bt225.2.2 then ((mosaiclaw05_Ref.f bt229.1 bt229.2.1).bind fun bt258 => (if (bt258.1 == bt237.1 && (bt258.2 == bt237.2.1)) = true then (if bt229.2.2 = bt237.2.2 then ((mosaiclaw05_Ref.f bt241.1 bt241.2.1).bind fun bt260 => (if (bt260.1 == bt249.1 && (bt260.2 == bt249.2.1)) = true then (some (bt241.2.2 == bt249.2.2)) else (some false))) else (some false)) else (some false))) else (some false)) else (some false))) else (some false)) else (some false))) else (some false)))))))))))))))))) = some r := H
  have A3 := Aside0.mk A30
  clear A30
  replace H := Option.bind_eq_some_iff.mp H
  obtain ⟨⟨t209, t210⟩, A40, H⟩ := H
  replace H : ((mosaiclaw05_Ref.f a1_0 a1_1).bind fun bt211 => ((mosaicref05_Sum.f k t209 t210 bt211.1 bt211.2 1).bind fun bt213 => ((ratio_Sub.f a0_0 a0_1 a1_0 a1_1).bind fun bt217 => ((mosaiclaw05_Ref.f a0_0 a0_1).bind fun bt221 => ((mosaiclaw05_Ref.f a1_0 a1_1).bind fun bt223 => ((mosaicref05_Sum.f k bt221.1 bt221.2 bt223.1 bt223.2 (-1)).bind fun bt225 => ((ratio_Mul.f k a0_0 a0_1 a1_0 a1_1).bind fun bt229 => ((mosaiclaw05_Ref.f a0_0 a0_1).bind fun bt233 => ((mosaiclaw05_Ref.f a1_0 a1_1).bind fun bt235 => ((mosaicref05_Mul.f k bt233.1 bt233.2 bt235.1 bt235.2).bind fun bt237 => ((ratio_Div.f k a0_0 a0_1 a1_0 a1_1).bind fun bt241 => ((mosaiclaw05_Ref.f a0_0 a0_1).bind fun bt245 => ((mosaiclaw05_Ref.f a1_0 a1_1).bind fun bt247 => ((mosaicref05_Div.f k bt245.1 bt245.2 bt247.1 bt247.2).bind fun bt249 => ((mosaiclaw05_awake.f k).bind fun t253 => (if t253 = true then ((mosaiclaw05_Ref.f t205 t206).bind fun bt254 => (if (bt254.1 == bt213.1 && (bt254.2 == bt213.2.1)) = true then (if t207 = bt213.2.2 then ((mosaiclaw05_Ref.f bt217.1 bt217.2.1).bind fun bt256 => (if (bt256.1 == bt225.1 && (bt256.2 == bt225.2.1)) = true then (if bt217.2.2 = bt225.2.2 then ((mosaiclaw05_Ref.f bt229.1 bt229.2.1).bind fun bt258 => (if (bt258.1 == bt237.1 && (bt258.2 == bt237.2.1)) = true then (if bt229.2.2 = bt237.2.2 then ((mosaiclaw05_Ref.f bt241.1 bt241.2.1).bind fun bt260 => (if (bt260.1 == bt249.1 && (bt260.2 == bt249.2.1)) = true then (some (bt241.2.2 == bt249.2.2)) else (some false))) else (some false)) else (some false))) else (some false)) else (some false))) else (some false)) else (some false))) else (some false))))))))))))))))) = some r := H
  have A4 := Aside0.mk A40
  clear A40
  replace H := Option.bind_eq_some_iff.mp H
  obtain ⟨⟨t211, t212⟩, A50, H⟩ := H
  replace H : ((mosaicref05_Sum.f k t209 t210 t211 t212 1).bind fun bt213 => ((ratio_Sub.f a0_0 a0_1 a1_0 a1_1).bind fun bt217 => ((mosaiclaw05_Ref.f a0_0 a0_1).bind fun bt221 => ((mosaiclaw05_Ref.f a1_0 a1_1).bind fun bt223 => ((mosaicref05_Sum.f k bt221.1 bt221.2 bt223.1 bt223.2 (-1)).bind fun bt225 => ((ratio_Mul.f k a0_0 a0_1 a1_0 a1_1).bind fun bt229 => ((mosaiclaw05_Ref.f a0_0 a0_1).bind fun bt233 => ((mosaiclaw05_Ref.f a1_0 a1_1).bind fun bt235 => ((mosaicref05_Mul.f k bt233.1 bt233.2 bt235.1 bt235.2).bind fun bt237 => ((ratio_Div.f k a0_0 a0_1 a1_0 a1_1).bind fun bt241 => ((mosaiclaw05_Ref.f a0_0 a0_1).bind fun bt245 => ((mosaiclaw05_Ref.f a1_0 a1_1).bind fun bt247 => ((mosaicref05_Div.f k bt245.1 bt245.2 bt247.1 bt247.2).bind fun bt249 => ((mosaiclaw05_awake.f k).bind fun t253 => (if t253 = true then ((mosaiclaw05_Ref.f t205 t206).bind fun bt254 => (if (bt254.1 == bt213.1 && (bt254.2 == bt213.2.1)) = true then (if t207 = bt213.2.2 then ((mosaiclaw05_Ref.f bt217.1 bt217.2.1).bind fun bt256 => (if (bt256.1 == bt225.1 && (bt256.2 == bt225.2.1)) = true then (if bt217.2.2 = bt225.2.2 then ((mosaiclaw05_Ref.f bt229.1 bt229.2.1).bind fun bt258 => (if (bt258.1 == bt237.1 && (bt258.2 == bt237.2.1)) = true then (if bt229.2.2 = bt237.2.2 then ((mosaiclaw05_Ref.f bt241.1 bt241.2.1).bind fun bt260 => (if (bt260.1 == bt249.1 && (bt260.2 == bt249.2.1)) = true then (some (bt241.2.2 == bt249.2.2)) else (some false))) else (some false)) else (some false))) else (some false)) else (some false))) else (some false)) else (some false))) else (some false)))))))))))))))) = some r := H
  have A5 := Aside0.mk A50
  clear A50
  replace H := Option.bind_eq_some_iff.mp H
  obtain ⟨⟨t213, t214, t215⟩, A60, H⟩ := H
  replace H : ((ratio_Sub.f a0_0 a0_1 a1_0 a1_1).bind fun bt217 => ((mosaiclaw05_Ref.f a0_0 a0_1).bind fun bt221 => ((mosaiclaw05_Ref.f a1_0 a1_1).bind fun bt223 => ((mosaicref05_Sum.f k bt221.1 bt221.2 bt223.1 bt223.2 (-1)).bind fun bt225 => ((ratio_Mul.f k a0_0 a0_1 a1_0 a1_1).bind fun bt229 => ((mosaiclaw05_Ref.f a0_0 a0_1).bind fun bt233 => ((mosaiclaw05_Ref.f a1_0 a1_1).bind fun bt235 => ((mosaicref05_Mul.f k bt233.1 bt233.2 bt235.1 bt235.2).bind fun bt237 => ((ratio_Div.f k a0_0 a0_1 a1_0 a1_1).bind fun bt241 => ((mosaiclaw05_Ref.f a0_0 a0_1).bind fun bt245 => ((mosaiclaw05_Ref.f a1_0 a1_1).bind fun bt247 => ((mosaicref05_Div.f k bt245.1 bt245.2 bt247.1 bt247.2).bind fun bt249 => ((mosaiclaw05_awake.f k).bind fun t253 => (if t253 = true then ((mosaiclaw05_Ref.f t205 t206).bind fun bt254 => (if (bt254.1 == t213 && (bt254.2 == t214)) = true then (if t207 = t215 then ((mosaiclaw05_Ref.f bt217.1 bt217.2.1).bind fun bt256 => (if (bt256.1 == bt225.1 && (bt256.2 == bt225.2.1)) = true then (if bt217.2.2 = bt225.2.2 then ((mosaiclaw05_Ref.f bt229.1 bt229.2.1).bind fun bt258 => (if (bt258.1 == bt237.1 && (bt258.2 == bt237.2.1)) = true then (if bt229.2.2 = bt237.2.2 then ((mosaiclaw05_Ref.f bt241.1 bt241.2.1).bind fun bt260 => (if (bt260.1 == bt249.1 && (bt260.2 == bt249.2.1)) = true then (some (bt241.2.2 == bt249.2.2)) else (some false))) else (some false)) else (some false))) else (some false)) else (some false))) else (some false)) else (some false))) else (some false))))))))))))))) = some r := H
  have A6 := Aside0.mk A60
  clear A60
  replace H := Option.bind_eq_some_iff.mp H
  obtain ⟨⟨t217, t218, t219⟩, A70, H⟩ := H
  replace H : ((mosaiclaw05_Ref.f a0_0 a0_1).bind fun bt221 => ((mosaiclaw05_Ref.f a1_0 a1_1).bind fun bt223 => ((mosaicref05_Sum.f k bt221.1 bt221.2 bt223.1 bt223.2 (-1)).bind fun bt225 => ((ratio_Mul.f k a0_0 a0_1 a1_0 a1_1).bind fun bt229 => ((mosaiclaw05_Ref.f a0_0 a0_1).bind fun bt233 => ((mosaiclaw05_Ref.f a1_0 a1_1).bind fun bt235 => ((mosaicref05_Mul.f k bt233.1 bt233.2 bt235.1 bt235.2).bind fun bt237 => ((ratio_Div.f k a0_0 a0_1 a1_0 a1_1).bind fun bt241 => ((mosaiclaw05_Ref.f a0_0 a0_1).bind fun bt245 => ((mosaiclaw05_Ref.f a1_0 a1_1).bind fun bt247 => ((mosaicref05_Div.f k bt245.1 bt245.2 bt247.1 bt247.2).bind fun bt249 => ((mosaiclaw05_awake.f k).bind fun t253 => (if t253 = true then ((mosaiclaw05_Ref.f t205 t206).bind fun bt254 => (if (bt254.1 == t213 && (bt254.2 == t214)) = true then (if t207 = t215 then ((mosaiclaw05_Ref.f t217 t218).bind fun bt256 => (if (bt256.1 == bt225.1 && (bt256.2 == bt225.2.1)) = true then (if t219 = bt225.2.2 then ((mosaiclaw05_Ref.f bt229.1 bt229.2.1).bind fun bt258 => (if (bt258.1 == bt237.1 && (bt258.2 == bt237.2.1)) = true then (if bt229.2.2 = bt237.2.2 then ((mosaiclaw05_Ref.f bt241.1 bt241.2.1).bind fun bt260 => (if (bt260.1 == bt249.1 && (bt260.2 == bt249.2.1)) = true then (some (bt241.2.2 == bt249.2.2)) else (some false))) else (some false)) else (some false))) else (some false)) else (some false))) else (some false)) else (some false))) else (some false)))))))))))))) = some r := H
  have A7 := Aside0.mk A70
  clear A70
  replace H := Option.bind_eq_some_iff.mp H
  obtain ⟨⟨t221, t222⟩, A80, H⟩ := H
  replace H : ((mosaiclaw05_Ref.f a1_0 a1_1).bind fun bt223 => ((mosaicref05_Sum.f k t221 t222 bt223.1 bt223.2 (-1)).bind fun bt225 => ((ratio_Mul.f k a0_0 a0_1 a1_0 a1_1).bind fun bt229 => ((mosaiclaw05_Ref.f a0_0 a0_1).bind fun bt233 => ((mosaiclaw05_Ref.f a1_0 a1_1).bind fun bt235 => ((mosaicref05_Mul.f k bt233.1 bt233.2 bt235.1 bt235.2).bind fun bt237 => ((ratio_Div.f k a0_0 a0_1 a1_0 a1_1).bind fun bt241 => ((mosaiclaw05_Ref.f a0_0 a0_1).bind fun bt245 => ((mosaiclaw05_Ref.f a1_0 a1_1).bind fun bt247 => ((mosaicref05_Div.f k bt245.1 bt245.2 bt247.1 bt247.2).bind fun bt249 => ((mosaiclaw05_awake.f k).bind fun t253 => (if t253 = true then ((mosaiclaw05_Ref.f t205 t206).bind fun bt254 => (if (bt254.1 == t213 && (bt254.2 == t214)) = true then (if t207 = t215 then ((mosaiclaw05_Ref.f t217 t218).bind fun bt256 => (if (bt256.1 == bt225.1 && (bt256.2 == bt225.2.1)) = true then (if t219 = bt225.2.2 then ((mosaiclaw05_Ref.f bt229.1 bt229.2.1).bind fun bt258 => (if (bt258.1 == bt237.1 && (bt258.2 == bt237.2.1)) = true then (if bt229.2.2 = bt237.2.2 then ((mosaiclaw05_Ref.f bt241.1 bt241.2.1).bind fun bt260 => (if (bt260.1 == bt249.1 && (bt260.2 == bt249.2.1)) = true then (some (bt241.2.2 == bt249.2.2)) else (some false))) else (some false)) else (some false))) else (some false)) else (some false))) else (some false)) else (some false))) else (some false))))))))))))) = some r := H
  have A8 := Aside0.mk A80
  clear A80
  replace H := Option.bind_eq_some_iff.mp H
  obtain ⟨⟨t223, t224⟩, A90, H⟩ := H
  replace H : ((mosaicref05_Sum.f k t221 t222 t223 t224 (-1)).bind fun bt225 => ((ratio_Mul.f k a0_0 a0_1 a1_0 a1_1).bind fun bt229 => ((mosaiclaw05_Ref.f a0_0 a0_1).bind fun bt233 => ((mosaiclaw05_Ref.f a1_0 a1_1).bind fun bt235 => ((mosaicref05_Mul.f k bt233.1 bt233.2 bt235.1 bt235.2).bind fun bt237 => ((ratio_Div.f k a0_0 a0_1 a1_0 a1_1).bind fun bt241 => ((mosaiclaw05_Ref.f a0_0 a0_1).bind fun bt245 => ((mosaiclaw05_Ref.f a1_0 a1_1).bind fun bt247 => ((mosaicref05_Div.f k bt245.1 bt245.2 bt247.1 bt247.2).bind fun bt249 => ((mosaiclaw05_awake.f k).bind fun t253 => (if t253 = true then ((mosaiclaw05_Ref.f t205 t206).bind fun bt254 => (if (bt254.1 == t213 && (bt254.2 == t214)) = true then (if t207 = t215 then ((mosaiclaw05_Ref.f t217 t218).bind fun bt256 => (if (bt256.1 == bt225.1 && (bt256.2 == bt225.2.1)) = true then (if t219 = bt225.2.2 then ((mosaiclaw05_Ref.f bt229.1 bt229.2.1).bind fun bt258 => (if (bt258.1 == bt237.1 && (bt258.2 == bt237.2.1)) = true then (if bt229.2.2 = bt237.2.2 then ((mosaiclaw05_Ref.f bt241.1 bt241.2.1).bind fun bt260 => (if (bt260.1 == bt249.1 && (bt260.2 == bt249.2.1)) = true then (some (bt241.2.2 == bt249.2.2)) else (some false))) else (some false)) else (some false))) else (some false)) else (some false))) else (some false)) else (some false))) else (some false)))))))))))) = some r := H
  have A9 := Aside0.mk A90
  clear A90
  replace H := Option.bind_eq_some_iff.mp H
  obtain ⟨⟨t225, t226, t227⟩, A100, H⟩ := H
  replace H : ((ratio_Mul.f k a0_0 a0_1 a1_0 a1_1).bind fun bt229 => ((mosaiclaw05_Ref.f a0_0 a0_1).bind fun bt233 => ((mosaiclaw05_Ref.f a1_0 a1_1).bind fun bt235 => ((mosaicref05_Mul.f k bt233.1 bt233.2 bt235.1 bt235.2).bind fun bt237 => ((ratio_Div.f k a0_0 a0_1 a1_0 a1_1).bind fun bt241 => ((mosaiclaw05_Ref.f a0_0 a0_1).bind fun bt245 => ((mosaiclaw05_Ref.f a1_0 a1_1).bind fun bt247 => ((mosaicref05_Div.f k bt245.1 bt245.2 bt247.1 bt247.2).bind fun bt249 => ((mosaiclaw05_awake.f k).bind fun t253 => (if t253 = true then ((mosaiclaw05_Ref.f t205 t206).bind fun bt254 => (if (bt254.1 == t213 && (bt254.2 == t214)) = true then (if t207 = t215 then ((mosaiclaw05_Ref.f t217 t218).bind fun bt256 => (if (bt256.1 == t225 && (bt256.2 == t226)) = true then (if t219 = t227 then ((mosaiclaw05_Ref.f bt229.1 bt229.2.1).bind fun bt258 => (if (bt258.1 == bt237.1 && (bt258.2 == bt237.2.1)) = true then (if bt229.2.2 = bt237.2.2 then ((mosaiclaw05_Ref.f bt241.1 bt241.2.1).bind fun bt260 => (if (bt260.1 == bt249.1 && (bt260.2 == bt249.2.1)) = true then (some (bt241.2.2 == bt249.2.2)) else (some false))) else (some false)) else (some false))) else (some false)) else (some false))) else (some false)) else (some false))) else (some false))))))))))) = some r := H
  have A10 := Aside0.mk A100
  clear A100
  replace H := Option.bind_eq_some_iff.mp H
  obtain ⟨⟨t229, t230, t231⟩, A110, H⟩ := H
  replace H : ((mosaiclaw05_Ref.f a0_0 a0_1).bind fun bt233 => ((mosaiclaw05_Ref.f a1_0 a1_1).bind fun bt235 => ((mosaicref05_Mul.f k bt233.1 bt233.2 bt235.1 bt235.2).bind fun bt237 => ((ratio_Div.f k a0_0 a0_1 a1_0 a1_1).bind fun bt241 => ((mosaiclaw05_Ref.f a0_0 a0_1).bind fun bt245 => ((mosaiclaw05_Ref.f a1_0 a1_1).bind fun bt247 => ((mosaicref05_Div.f k bt245.1 bt245.2 bt247.1 bt247.2).bind fun bt249 => ((mosaiclaw05_awake.f k).bind fun t253 => (if t253 = true then ((mosaiclaw05_Ref.f t205 t206).bind fun bt254 => (if (bt254.1 == t213 && (bt254.2 == t214)) = true then (if t207 = t215 then ((mosaiclaw05_Ref.f t217 t218).bind fun bt256 => (if (bt256.1 == t225 && (bt256.2 == t226)) = true then (if t219 = t227 then ((mosaiclaw05_Ref.f t229 t230).bind fun bt258 => (if (bt258.1 == bt237.1 && (bt258.2 == bt237.2.1)) = true then (if t231 = bt237.2.2 then ((mosaiclaw05_Ref.f bt241.1 bt241.2.1).bind fun bt260 => (if (bt260.1 == bt249.1 && (bt260.2 == bt249.2.1)) = true then (some (bt241.2.2 == bt249.2.2)) else (some false))) else (some false)) else (some false))) else (some false)) else (some false))) else (some false)) else (some false))) else (some false)))))))))) = some r := H
  have A11 := Aside0.mk A110
  clear A110
  replace H := Option.bind_eq_some_iff.mp H
  obtain ⟨⟨t233, t234⟩, A120, H⟩ := H
  replace H : ((mosaiclaw05_Ref.f a1_0 a1_1).bind fun bt235 => ((mosaicref05_Mul.f k t233 t234 bt235.1 bt235.2).bind fun bt237 => ((ratio_Div.f k a0_0 a0_1 a1_0 a1_1).bind fun bt241 => ((mosaiclaw05_Ref.f a0_0 a0_1).bind fun bt245 => ((mosaiclaw05_Ref.f a1_0 a1_1).bind fun bt247 => ((mosaicref05_Div.f k bt245.1 bt245.2 bt247.1 bt247.2).bind fun bt249 => ((mosaiclaw05_awake.f k).bind fun t253 => (if t253 = true then ((mosaiclaw05_Ref.f t205 t206).bind fun bt254 => (if (bt254.1 == t213 && (bt254.2 == t214)) = true then (if t207 = t215 then ((mosaiclaw05_Ref.f t217 t218).bind fun bt256 => (if (bt256.1 == t225 && (bt256.2 == t226)) = true then (if t219 = t227 then ((mosaiclaw05_Ref.f t229 t230).bind fun bt258 => (if (bt258.1 == bt237.1 && (bt258.2 == bt237.2.1)) = true then (if t231 = bt237.2.2 then ((mosaiclaw05_Ref.f bt241.1 bt241.2.1).bind fun bt260 => (if (bt260.1 == bt249.1 && (bt260.2 == bt249.2.1)) = true then (some (bt241.2.2 == bt249.2.2)) else (some false))) else (some false)) else (some false))) else (some false)) else (some false))) else (some false)) else (some false))) else (some false))))))))) = some r := H
  have A12 := Aside0.mk A120
  clear A120
  replace H := Option.bind_eq_some_iff.mp H
  obtain ⟨⟨t235, t236⟩, A130, H⟩ := H
  replace H : ((mosaicref05_Mul.f k t233 t234 t235 t236).bind fun bt237 => ((ratio_Div.f k a0_0 a0_1 a1_0 a1_1).bind fun bt241 => ((mosaiclaw05_Ref.f a0_0 a0_1).bind fun bt245 => ((mosaiclaw05_Ref.f a1_0 a1_1).bind fun bt247 => ((mosaicref05_Div.f k bt245.1 bt245.2 bt247.1 bt247.2).bind fun bt249 => ((mosaiclaw05_awake.f k).bind fun t253 => (if t253 = true then ((mosaiclaw05_Ref.f t205 t206).bind fun bt254 => (if (bt254.1 == t213 && (bt254.2 == t214)) = true then (if t207 = t215 then ((mosaiclaw05_Ref.f t217 t218).bind fun bt256 => (if (bt256.1 == t225 && (bt256.2 == t226)) = true then (if t219 = t227 then ((mosaiclaw05_Ref.f t229 t230).bind fun bt258 => (if (bt258.1 == bt237.1 && (bt258.2 == bt237.2.1)) = true then (if t231 = bt237.2.2 then ((mosaiclaw05_Ref.f bt241.1 bt241.2.1).bind fun bt260 => (if (bt260.1 == bt249.1 && (bt260.2 == bt249.2.1)) = true then (some (bt241.2.2 == bt249.2.2)) else (some false))) else (some false)) else (some false))) else (some false)) else (some false))) else (some false)) else (some false))) else (some false)))))))) = some r := H
  have A13 := Aside0.mk A130
  clear A130
  replace H := Option.bind_eq_some_iff.mp H
  obtain ⟨⟨t237, t238, t239⟩, A140, H⟩ := H
  replace H : ((ratio_Div.f k a0_0 a0_1 a1_0 a1_1).bind fun bt241 => ((mosaiclaw05_Ref.f a0_0 a0_1).bind fun bt245 => ((mosaiclaw05_Ref.f a1_0 a1_1).bind fun bt247 => ((mosaicref05_Div.f k bt245.1 bt245.2 bt247.1 bt247.2).bind fun bt249 => ((mosaiclaw05_awake.f k).bind fun t253 => (if t253 = true then ((mosaiclaw05_Ref.f t205 t206).bind fun bt254 => (if (bt254.1 == t213 && (bt254.2 == t214)) = true then (if t207 = t215 then ((mosaiclaw05_Ref.f t217 t218).bind fun bt256 => (if (bt256.1 == t225 && (bt256.2 == t226)) = true then (if t219 = t227 then ((mosaiclaw05_Ref.f t229 t230).bind fun bt258 => (if (bt258.1 == t237 && (bt258.2 == t238)) = true then (if t231 = t239 then ((mosaiclaw05_Ref.f bt241.1 bt241.2.1).bind fun bt260 => (if (bt260.1 == bt249.1 && (bt260.2 == bt249.2.1)) = true then (some (bt241.2.2 == bt249.2.2)) else (some false))) else (some false)) else (some false))) else (some false)) else (some false))) else (some false)) else (some false))) else (some false))))))) = some r := H
  have A14 := Aside0.mk A140
  clear A140
  replace H := Option.bind_eq_some_iff.mp H
  obtain ⟨⟨t241, t242, t243⟩, A150, H⟩ := H
  replace H : ((mosaiclaw05_Ref.f a0_0 a0_1).bind fun bt245 => ((mosaiclaw05_Ref.f a1_0 a1_1).bind fun bt247 => ((mosaicref05_Div.f k bt245.1 bt245.2 bt247.1 bt247.2).bind fun bt249 => ((mosaiclaw05_awake.f k).bind fun t253 => (if t253 = true then ((mosaiclaw05_Ref.f t205 t206).bind fun bt254 => (if (bt254.1 == t213 && (bt254.2 == t214)) = true then (if t207 = t215 then ((mosaiclaw05_Ref.f t217 t218).bind fun bt256 => (if (bt256.1 == t225 && (bt256.2 == t226)) = true then (if t219 = t227 then ((mosaiclaw05_Ref.f t229 t230).bind fun bt258 => (if (bt258.1 == t237 && (bt258.2 == t238)) = true then (if t231 = t239 then ((mosaiclaw05_Ref.f t241 t242).bind fun bt260 => (if (bt260.1 == bt249.1 && (bt260.2 == bt249.2.1)) = true then (some (t243 == bt249.2.2)) else (some false))) else (some false)) else (some false))) else (some false)) else (some false))) else (some false)) else (some false))) else (some false)))))) = some r := H
  have A15 := Aside0.mk A150
  clear A150
  replace H := Option.bind_eq_some_iff.mp H
  obtain ⟨⟨t245, t246⟩, A160, H⟩ := H
  replace H : ((mosaiclaw05_Ref.f a1_0 a1_1).bind fun bt247 => ((mosaicref05_Div.f k t245 t246 bt247.1 bt247.2).bind fun bt249 => ((mosaiclaw05_awake.f k).bind fun t253 => (if t253 = true then ((mosaiclaw05_Ref.f t205 t206).bind fun bt254 => (if (bt254.1 == t213 && (bt254.2 == t214)) = true then (if t207 = t215 then ((mosaiclaw05_Ref.f t217 t218).bind fun bt256 => (if (bt256.1 == t225 && (bt256.2 == t226)) = true then (if t219 = t227 then ((mosaiclaw05_Ref.f t229 t230).bind fun bt258 => (if (bt258.1 == t237 && (bt258.2 == t238)) = true then (if t231 = t239 then ((mosaiclaw05_Ref.f t241 t242).bind fun bt260 => (if (bt260.1 == bt249.1 && (bt260.2 == bt249.2.1)) = true then (some (t243 == bt249.2.2)) else (some false))) else (some false)) else (some false))) else (some false)) else (some false))) else (some false)) else (some false))) else (some false))))) = some r := H
  have A16 := Aside0.mk A160
  clear A160
  replace H := Option.bind_eq_some_iff.mp H
  obtain ⟨⟨t247, t248⟩, A170, H⟩ := H
  replace H : ((mosaicref05_Div.f k t245 t246 t247 t248).bind fun bt249 => ((mosaiclaw05_awake.f k).bind fun t253 => (if t253 = true then ((mosaiclaw05_Ref.f t205 t206).bind fun bt254 => (if (bt254.1 == t213 && (bt254.2 == t214)) = true then (if t207 = t215 then ((mosaiclaw05_Ref.f t217 t218).bind fun bt256 => (if (bt256.1 == t225 && (bt256.2 == t226)) = true then (if t219 = t227 then ((mosaiclaw05_Ref.f t229 t230).bind fun bt258 => (if (bt258.1 == t237 && (bt258.2 == t238)) = true then (if t231 = t239 then ((mosaiclaw05_Ref.f t241 t242).bind fun bt260 => (if (bt260.1 == bt249.1 && (bt260.2 == bt249.2.1)) = true then (some (t243 == bt249.2.2)) else (some false))) else (some false)) else (some false))) else (some false)) else (some false))) else (some false)) else (some false))) else (some false)))) = some r := H
  have A17 := Aside0.mk A170
  clear A170
  replace H := Option.bind_eq_some_iff.mp H
  obtain ⟨⟨t249, t250, t251⟩, A180, H⟩ := H
  replace H : ((mosaiclaw05_awake.f k).bind fun t253 => (if t253 = true then ((mosaiclaw05_Ref.f t205 t206).bind fun bt254 => (if (bt254.1 == t213 && (bt254.2 == t214)) = true then (if t207 = t215 then ((mosaiclaw05_Ref.f t217 t218).bind fun bt256 => (if (bt256.1 == t225 && (bt256.2 == t226)) = true then (if t219 = t227 then ((mosaiclaw05_Ref.f t229 t230).bind fun bt258 => (if (bt258.1 == t237 && (bt258.2 == t238)) = true then (if t231 = t239 then ((mosaiclaw05_Ref.f t241 t242).bind fun bt260 => (if (bt260.1 == t249 && (bt260.2 == t250)) = true then (some (t243 == t251)) else (some false))) else (some false)) else (some false))) else (some false)) else (some false))) else (some false)) else (some false))) else (some false))) = some r := H
  have A18 := Aside0.mk A180
  clear A180
  replace H := Option.bind_eq_some_iff.mp H
  obtain ⟨t253, A190, H⟩ := H
  replace H : (if t253 = true then ((mosaiclaw05_Ref.f t205 t206).bind fun bt254 => (if (bt254.1 == t213 && (bt254.2 == t214)) = true then (if t207 = t215 then ((mosaiclaw05_Ref.f t217 t218).bind fun bt256 => (if (bt256.1 == t225 && (bt256.2 == t226)) = true then (if t219 = t227 then ((mosaiclaw05_Ref.f t229 t230).bind fun bt258 => (if (bt258.1 == t237 && (bt258.2 == t238)) = true then (if t231 = t239 then ((mosaiclaw05_Ref.f t241 t242).bind fun bt260 => (if (bt260.1 == t249 && (bt260.2 == t250)) = true then (some (t243 == t251)) else (some false))) else (some false)) else (some false))) else (some false)) else (some false))) else (some false)) else (some false))) else (some false)) = some r := H
  have A19 := Aside0.mk A190
  clear A190
  by_cases c20 : t253 = true
  · subst c20
    have H1 : ((mosaiclaw05_Ref.f t205 t206).bind fun bt254 => (if (bt254.1 == t213 && (bt254.2 == t214)) = true then (if t207 = t215 then ((mosaiclaw05_Ref.f t217 t218).bind fun bt256 => (if (bt256.1 == t225 && (bt256.2 == t226)) = true then (if t219 = t227 then ((mosaiclaw05_Ref.f t229 t230).bind fun bt258 => (if (bt258.1 == t237 && (bt258.2 == t238)) = true then (if t231 = t239 then ((mosaiclaw05_Ref.f t241 t242).bind fun bt260 => (if (bt260.1 == t249 && (bt260.2 == t250)) = true then (some (t243 == t251)) else (some false))) else (some false)) else (some false))) else (some false)) else (some false))) else (some false)) else (some false))) = some r := by rw [if_pos rfl] at H; exact H
    clear H
    have H := H1
    clear H1
    replace H := Option.bind_eq_some_iff.mp H
    obtain ⟨⟨t254, t255⟩, A210, H⟩ := H
    replace H : (if (t254 == t213 && (t255 == t214)) = true then (if t207 = t215 then ((mosaiclaw05_Ref.f t217 t218).bind fun bt256 => (if (bt256.1 == t225 && (bt256.2 == t226)) = true then (if t219 = t227 then ((mosaiclaw05_Ref.f t229 t230).bind fun bt258 => (if (bt258.1 == t237 && (bt258.2 == t238)) = true then (if t231 = t239 then ((mosaiclaw05_Ref.f t241 t242).bind fun bt260 => (if (bt260.1 == t249 && (bt260.2 == t250)) = true then (some (t243 == t251)) else (some false))) else (some false)) else (some false))) else (some false)) else (some false))) else (some false)) else (some false)) = some r := H
    have A21 := Aside0.mk A210
    clear A210
    by_cases c22 : (t254 == t213 && (t255 == t214)) = true
    · rw [if_pos c22] at H
      have c22b0 : (t254 == t213 && (t255 == t214)) = true := c22
      (try (have c22b1 : decide (t254 = t213 && (t255 == t214)) = true := by simpa using c22))
      (try (have c22b2 : (t254 == t213 && (t255 == t214)) = true := by simpa using c22))
      clear c22
      by_cases c23 : t207 = t215
      · rw [if_pos c23] at H
        have c23b0 : (t207 == t215) = true := beq_iff_eq.mpr c23
        have c23b1 : (t207 != t215) = false := bne_eq_false_iff_eq.mpr c23
        clear c23
        replace H := Option.bind_eq_some_iff.mp H
        obtain ⟨⟨t256, t257⟩, A240, H⟩ := H
        replace H : (if (t256 == t225 && (t257 == t226)) = true then (if t219 = t227 then ((mosaiclaw05_Ref.f t229 t230).bind fun bt258 => (if (bt258.1 == t237 && (bt258.2 == t238)) = true then (if t231 = t239 then ((mosaiclaw05_Ref.f t241 t242).bind fun bt260 => (if (bt260.1 == t249 && (bt260.2 == t250)) = true then (some (t243 == t251)) else (some false))) else (some false)) else (some false))) else (some false)) else (some false)) = some r := H
        have A24 := Aside0.mk A240
        clear A240
        by_cases c25 : (t256 == t225 && (t257 == t226)) = true
        · rw [if_pos c25] at H
          have c25b0 : (t256 == t225 && (t257 == t226)) = true := c25
          (try (have c25b1 : decide (t256 = t225 && (t257 == t226)) = true := by simpa using c25))
          (try (have c25b2 : (t256 == t225 && (t257 == t226)) = true := by simpa using c25))
          clear c25
          by_cases c26 : t219 = t227
          · rw [if_pos c26] at H
            have c26b0 : (t219 == t227) = true := beq_iff_eq.mpr c26
            have c26b1 : (t219 != t227) = false := bne_eq_false_iff_eq.mpr c26
            clear c26
            replace H := Option.bind_eq_some_iff.mp H
            obtain ⟨⟨t258, t259⟩, A270, H⟩ := H
            replace H : (if (t258 == t237 && (t259 == t238)) = true then (if t231 = t239 then ((mosaiclaw05_Ref.f t241 t242).bind fun bt260 => (if (bt260.1 == t249 && (bt260.2 == t250)) = true then (some (t243 == t251)) else (some false))) else (some false)) else (some false)) = some r := H
            have A27 := Aside0.mk A270
            clear A270
            by_cases c28 : (t258 == t237 && (t259 == t238)) = true
            · rw [if_pos c28] at H
              have c28b0 : (t258 == t237 && (t259 == t238)) = true := c28
              (try (have c28b1 : decide (t258 = t237 && (t259 == t238)) = true := by simpa using c28))
              (try (have c28b2 : (t258 == t237 && (t259 == t238)) = true := by simpa using c28))
              clear c28
              by_cases c29 : t231 = t239
              · rw [if_pos c29] at H
                have c29b0 : (t231 == t239) = true := beq_iff_eq.mpr c29
                have c29b1 : (t231 != t239) = false := bne_eq_false_iff_eq.mpr c29
                clear c29
                replace H := Option.bind_eq_some_iff.mp H
                obtain ⟨⟨t260, t261⟩, A300, H⟩ := H
                replace H : (if (t260 == t249 && (t261 == t250)) = true then (some (t243 == t251)) else (some false)) = some r := H
                have A30 := Aside0.mk A300
                clear A300
                by_cases c31 : (t260 == t249 && (t261 == t250)) = true
                · rw [if_pos c31] at H
                  have c31b0 : (t260 == t249 && (t261 == t250)) = true := c31
                  (try (have c31b1 : decide (t260 = t249 && (t261 == t250)) = true := by simpa using c31))
                  (try (have c31b2 : (t260 == t249 && (t261 == t250)) = true := by simpa using c31))
                  clear c31
                  obtain rfl := Option.some.inj H
                  go_enter Try.func9, Try.ntmps9
                  try go_wp2_with (first | ((with_reducible refine gate_dst (N := 2) rfl ?_); refine box_event ?hg (N := 2) ?hd (cs := #[.int .i64 a0_0, .int .i64 a0_1]) (t := 23) ?hr ?_; (case hd => rfl); (case hg => rfl); (case hr => first | (go_simp; done) | (go_simp; rfl)); intro gb203 hg w32 hbox hb; have n0_ := Aside0.mk (below_step (by repeat (first | (with_reducible first | exact HB.out | apply below_alloc | apply pw_below_drewN | apply below_drew1) | exact HB.out)) hb); have n1_ := Aside0.mk (hbox); have n2_ := Aside0.mk ((by rw [hg]; exact (below_size (by repeat (first | (with_reducible first | exact HB.out | apply below_alloc | apply pw_below_drewN | apply below_drew1) | exact HB.out))) : w.heap.size ≤ gb203)); have n3_ := Aside0.mk ((by rw [hg]; exact (below_size (by repeat (first | (with_reducible first | exact HB.out | apply below_alloc | apply pw_below_drewN | apply below_drew1) | exact HB.out))) : w.heap.size ≤ gb203)); clear HB; have HB := n0_; have BK203 := n1_; have GW203 := n2_; have GE203 := n3_; clear n0_ n1_ n2_ n3_; clear hb hbox hg) | ((with_reducible refine gate_dst (N := 3) rfl ?_); refine box_event ?hg (N := 3) ?hd (cs := #[.int .i64 a1_0, .int .i64 a1_1]) (t := 23) ?hr ?_; (case hd => rfl); (case hg => rfl); (case hr => first | (go_simp; done) | (go_simp; rfl)); intro gb204 hg w33 hbox hb; have n0_ := Aside0.mk (blk_below (g := gb203) (o := .cells #[.int .i64 a0_0, .int .i64 a0_1] 23 (0, 0)) (by (with_reducible repeat (first | refine blk_drewN ?_ _ | refine blk_drew ?_ | refine blk_alloc ?_ _)); exact BK203.out) hb); have n1_ := Aside0.mk (below_step (by repeat (first | (with_reducible first | exact HB.out | apply below_alloc | apply pw_below_drewN | apply below_drew1 | refine below_set ?_ GE203.out) | exact HB.out)) hb); have n2_ := Aside0.mk (hbox); have n3_ := Aside0.mk ((by rw [hg]; exact (below_size (by repeat (first | (with_reducible first | exact HB.out | apply below_alloc | apply pw_below_drewN | apply below_drew1 | refine below_set ?_ GE203.out) | exact HB.out))) : w.heap.size ≤ gb204)); have n4_ := Aside0.mk ((by rw [hg]; exact (below_size (by repeat (first | (with_reducible first | exact HB.out | apply below_alloc | apply pw_below_drewN | apply below_drew1 | refine below_set ?_ GE203.out) | exact HB.out))) : w.heap.size ≤ gb204)); have n5_ := Aside0.mk ((by rw [hg]; exact Nat.ne_of_lt (blk_lt (g := gb203) (o := .cells #[.int .i64 a0_0, .int .i64 a0_1] 23 (0, 0)) (by (with_reducible repeat (first | refine blk_drewN ?_ _ | refine blk_drew ?_ | refine blk_alloc ?_ _)); exact BK203.out)) : gb203 ≠ gb204)); have n6_ := Aside0.mk ((by rw [hg]; exact Nat.ne_of_gt (blk_lt (g := gb203) (o := .cells #[.int .i64 a0_0, .int .i64 a0_1] 23 (0, 0)) (by (with_reducible repeat (first | refine blk_drewN ?_ _ | refine blk_drew ?_ | refine blk_alloc ?_ _)); exact BK203.out)) : gb204 ≠ gb203)); clear BK203; clear HB; have BK203 := n0_; have HB := n1_; have BK204 := n2_; have GW204 := n3_; have GE204 := n4_; have NB203_204 := n5_; have NB204_203 := n6_; clear n0_ n1_ n2_ n3_ n4_ n5_ n6_; clear hb hbox hg; have hnb34 := NB203_204.out; have hnc34 := NB204_203.out; have hcz35_0 : w33.cell? ⟨gb203, 0, none⟩ = some (.int .i64 a0_0) := (blk_cell BK203.out 0).trans rfl; have hcz35_1 : w33.cell? ⟨gb203, 1, none⟩ = some (.int .i64 a0_1) := (blk_cell BK203.out 1).trans rfl; have hfz35_0 := blk_frozen BK203.out 0; have hfz35_1 := blk_frozen BK203.out 1; have hcz36_0 : w33.cell? ⟨gb204, 0, none⟩ = some (.int .i64 a1_0) := (blk_cell BK204.out 0).trans rfl; have hcz36_1 : w33.cell? ⟨gb204, 1, none⟩ = some (.int .i64 a1_1) := (blk_cell BK204.out 1).trans rfl; have hfz36_0 := blk_frozen BK204.out 0; have hfz36_1 := blk_frozen BK204.out 1) | ((with_reducible refine gate_callee (f := 36) rfl ?_); refine goesL_ (some 24) rfl rfl Try.func36 (by kernel_rfl) rfl #[.agg #[.int .i64 a0_0, .int .i64 a0_1], .agg #[.int .i64 a1_0, .int .i64 a1_1]] rfl (by (try simp only [List.map_toArray, List.map_cons, List.map_nil]); first | done | rfl | (simp only [List.length_drop, List.length_take]; rfl)) ?_; (with_reducible refine (ratio_Add.calls a0_0 a0_1 a1_0 a1_1 t205 t206 t207 _ A3.out).mono ?_); rintro e w37 ⟨rfl, hb⟩; refine ⟨_, rfl, ?_⟩; have n0_ := Aside0.mk (blk_below (g := gb203) (o := .cells #[.int .i64 a0_0, .int .i64 a0_1] 23 (0, 0)) (by (with_reducible repeat (first | refine blk_drewN ?_ _ | refine blk_drew ?_ | refine blk_alloc ?_ _)); exact BK203.out) hb); have n1_ := Aside0.mk (blk_below (g := gb204) (o := .cells #[.int .i64 a1_0, .int .i64 a1_1] 23 (0, 0)) (by (with_reducible repeat (first | refine blk_drewN ?_ _ | refine blk_drew ?_ | refine blk_alloc ?_ _)); exact BK204.out) hb); have n2_ := Aside0.mk (below_step (by repeat (first | (with_reducible first | exact HB.out | apply below_alloc | apply pw_below_drewN | apply below_drew1 | refine below_set ?_ GE203.out | refine below_set ?_ GE204.out) | exact HB.out)) hb); clear BK203; clear BK204; clear HB; have BK203 := n0_; have BK204 := n1_; have HB := n2_; clear n0_ n1_ n2_; (try clear hb); (try clear hb2); (try clear hk); (try clear hi)) | ((with_reducible refine gate_dst (N := 5) rfl ?_); refine box_event ?hg (N := 5) ?hd (cs := #[.int .i64 0, .int .i64 0]) (t := 23) ?hr ?_; (case hd => rfl); (case hg => rfl); (case hr => first | (go_simp; done) | (go_simp; rfl)); intro gb208 hg w38 hbox hb; have n0_ := Aside0.mk (blk_below (g := gb203) (o := .cells #[.int .i64 a0_0, .int .i64 a0_1] 23 (0, 0)) (by (with_reducible repeat (first | refine blk_drewN ?_ _ | refine blk_drew ?_ | refine blk_alloc ?_ _)); exact BK203.out) hb); have n1_ := Aside0.mk (blk_below (g := gb204) (o := .cells #[.int .i64 a1_0, .int .i64 a1_1] 23 (0, 0)) (by (with_reducible repeat (first | refine blk_drewN ?_ _ | refine blk_drew ?_ | refine blk_alloc ?_ _)); exact BK204.out) hb); have n2_ := Aside0.mk (below_step (by repeat (first | (with_reducible first | exact HB.out | apply below_alloc | apply pw_below_drewN | apply below_drew1 | refine below_set ?_ GE203.out | refine below_set ?_ GE204.out) | exact HB.out)) hb); have n3_ := Aside0.mk (hbox); have n4_ := Aside0.mk ((by rw [hg]; exact (below_size (by repeat (first | (with_reducible first | exact HB.out | apply below_alloc | apply pw_below_drewN | apply below_drew1 | refine below_set ?_ GE203.out | refine below_set ?_ GE204.out) | exact HB.out))) : w.heap.size ≤ gb208)); have n5_ := Aside0.mk ((by rw [hg]; exact (below_size (by repeat (first | (with_reducible first | exact HB.out | apply below_alloc | apply pw_below_drewN | apply below_drew1 | refine below_set ?_ GE203.out | refine below_set ?_ GE204.out) | exact HB.out))) : w.heap.size ≤ gb208)); have n6_ := Aside0.mk ((by rw [hg]; exact Nat.ne_of_lt (blk_lt (g := gb203) (o := .cells #[.int .i64 a0_0, .int .i64 a0_1] 23 (0, 0)) (by (with_reducible repeat (first | refine blk_drewN ?_ _ | refine blk_drew ?_ | refine blk_alloc ?_ _)); exact BK203.out)) : gb203 ≠ gb208)); have n7_ := Aside0.mk ((by rw [hg]; exact Nat.ne_of_gt (blk_lt (g := gb203) (o := .cells #[.int .i64 a0_0, .int .i64 a0_1] 23 (0, 0)) (by (with_reducible repeat (first | refine blk_drewN ?_ _ | refine blk_drew ?_ | refine blk_alloc ?_ _)); exact BK203.out)) : gb208 ≠ gb203)); have n8_ := Aside0.mk ((by rw [hg]; exact Nat.ne_of_lt (blk_lt (g := gb204) (o := .cells #[.int .i64 a1_0, .int .i64 a1_1] 23 (0, 0)) (by (with_reducible repeat (first | refine blk_drewN ?_ _ | refine blk_drew ?_ | refine blk_alloc ?_ _)); exact BK204.out)) : gb204 ≠ gb208)); have n9_ := Aside0.mk ((by rw [hg]; exact Nat.ne_of_gt (blk_lt (g := gb204) (o := .cells #[.int .i64 a1_0, .int .i64 a1_1] 23 (0, 0)) (by (with_reducible repeat (first | refine blk_drewN ?_ _ | refine blk_drew ?_ | refine blk_alloc ?_ _)); exact BK204.out)) : gb208 ≠ gb204)); clear BK203; clear BK204; clear HB; have BK203 := n0_; have BK204 := n1_; have HB := n2_; have BK208 := n3_; have GW208 := n4_; have GE208 := n5_; have NB203_208 := n6_; have NB208_203 := n7_; have NB204_208 := n8_; have NB208_204 := n9_; clear n0_ n1_ n2_ n3_ n4_ n5_ n6_ n7_ n8_ n9_; clear hb hbox hg; have hnb39 := NB208_203.out; have hnc39 := NB203_208.out; have hnb40 := NB208_204.out; have hnc40 := NB204_208.out; have hcz41_0 : w38.cell? ⟨gb208, 0, none⟩ = some (.int .i64 0) := (blk_cell BK208.out 0).trans rfl; have hcz41_1 : w38.cell? ⟨gb208, 1, none⟩ = some (.int .i64 0) := (blk_cell BK208.out 1).trans rfl; have hfz41_0 := blk_frozen BK208.out 0; have hfz41_1 := blk_frozen BK208.out 1))
                  have n0_ : Aside0 (((w38.setCell ⟨gb208, 0, none⟩ (.int .i64 t205)).setCell ⟨gb208, 1, none⟩ (.int .i64 t206)).heap[gb203]? = some (.cells #[.int .i64 a0_0, .int .i64 a0_1] 23 (0, 0))) := ⟨by (with_reducible repeat (first | refine blk_drewN ?_ _ | refine blk_drew ?_ | refine blk_alloc ?_ _)); refine blk_far ?_ NB203_208.out _; (with_reducible repeat (first | refine blk_drewN ?_ _ | refine blk_drew ?_ | refine blk_alloc ?_ _)); refine blk_far ?_ NB203_208.out _; (with_reducible repeat (first | refine blk_drewN ?_ _ | refine blk_drew ?_ | refine blk_alloc ?_ _)); exact BK203.out⟩
                  have n1_ : Aside0 (((w38.setCell ⟨gb208, 0, none⟩ (.int .i64 t205)).setCell ⟨gb208, 1, none⟩ (.int .i64 t206)).heap[gb204]? = some (.cells #[.int .i64 a1_0, .int .i64 a1_1] 23 (0, 0))) := ⟨by (with_reducible repeat (first | refine blk_drewN ?_ _ | refine blk_drew ?_ | refine blk_alloc ?_ _)); refine blk_far ?_ NB204_208.out _; (with_reducible repeat (first | refine blk_drewN ?_ _ | refine blk_drew ?_ | refine blk_alloc ?_ _)); refine blk_far ?_ NB204_208.out _; (with_reducible repeat (first | refine blk_drewN ?_ _ | refine blk_drew ?_ | refine blk_alloc ?_ _)); exact BK204.out⟩
                  have n2_ : Aside0 (((w38.setCell ⟨gb208, 0, none⟩ (.int .i64 t205)).setCell ⟨gb208, 1, none⟩ (.int .i64 t206)).heap[gb208]? = some (.cells #[.int .i64 t205, .int .i64 t206] 23 (0, 0))) := ⟨by (with_reducible repeat (first | refine blk_drewN ?_ _ | refine blk_drew ?_ | refine blk_alloc ?_ _)); refine blk_put (cs := #[.int .i64 t205, .int .i64 0]) ?_ 1 _ rfl; (with_reducible repeat (first | refine blk_drewN ?_ _ | refine blk_drew ?_ | refine blk_alloc ?_ _)); refine blk_put (cs := #[.int .i64 0, .int .i64 0]) ?_ 0 _ rfl; (with_reducible repeat (first | refine blk_drewN ?_ _ | refine blk_drew ?_ | refine blk_alloc ?_ _)); exact BK208.out⟩
                  have n3_ : Aside0 (Below w.heap.size w ((w38.setCell ⟨gb208, 0, none⟩ (.int .i64 t205)).setCell ⟨gb208, 1, none⟩ (.int .i64 t206))) := ⟨by repeat (first | (with_reducible first | exact HB.out | apply below_alloc | apply pw_below_drewN | apply below_drew1 | refine below_set ?_ GE203.out | refine below_set ?_ GE204.out | refine below_set ?_ GE208.out) | exact HB.out)⟩
                  (try clear BK203)
                  (try clear BK204)
                  (try clear BK208)
                  (try clear HB)
                  generalize ((w38.setCell ⟨gb208, 0, none⟩ (.int .i64 t205)).setCell ⟨gb208, 1, none⟩ (.int .i64 t206)) = w42 at n0_ n1_ n2_ n3_ ⊢
                  have BK203 := n0_
                  have BK204 := n1_
                  have BK208 := n2_
                  have HB := n3_
                  clear n0_ n1_ n2_ n3_
                  have n0_ := Aside0.mk (blk_drew BK203.out)
                  have n1_ := Aside0.mk (blk_drew BK204.out)
                  have n2_ := Aside0.mk (blk_drew BK208.out)
                  have n3_ := Aside0.mk (below_drew1 HB.out)
                  clear BK203
                  clear BK204
                  clear BK208
                  clear HB
                  have BK203 := n0_
                  have BK204 := n1_
                  have BK208 := n2_
                  have HB := n3_
                  clear n0_ n1_ n2_ n3_
                  refine start_ (n := 11) (S := fun w' => w'.cell? ⟨gb203, 0, none⟩ = some (.int .i64 a0_0) ∧ w'.cell? ⟨gb203, 1, none⟩ = some (.int .i64 a0_1) ∧ w'.cell? ⟨gb204, 0, none⟩ = some (.int .i64 a1_0) ∧ w'.cell? ⟨gb204, 1, none⟩ = some (.int .i64 a1_1)) (ds := []) #[false, false, false, false, false, false, false, false, false, false, false] (by kernel_rfl) rfl rfl ⟨(blk_cell BK203.out 0).trans rfl, (blk_cell BK203.out 1).trans rfl, (blk_cell BK204.out 0).trans rfl, (blk_cell BK204.out 1).trans rfl⟩ (fun hHeld => ?_); refine with_tabW mosaiclaw05_RatioReckons.tab2 mosaiclaw05_RatioReckons.bits2 (fun HT_ HW_ => ?_)
                  generalize w42.drew = w43 at BK203 BK204 BK208 HB hHeld ⊢
                  refine take_ (i := 0) (N := some 28) (v := ?_) (a' := ?_) #[true, false, false, false, false, false, false, false, false, false, false] rfl rfl (take_ofW HT_.out HW_.out (by kernel_rfl)) (fun _ _ _ h => h) (Or.inl ⟨by rfl, ?_⟩) hHeld ?_ ?_
                  rotate_left
                  · rintro w' ⟨s0, s1, s2, s3⟩
                    go_simp
                    with_reducible rfl
                  rotate_left
                  · simp only [Act.put, List.setIfInBounds_toArray, List.set_cons_zero, List.set_cons_succ, i64_w, i32_w]
                    rfl
                  refine take_ (i := 2) (N := some 30) (v := ?_) (a' := ?_) #[true, false, true, false, false, false, false, false, false, false, false] rfl rfl (take_ofW HT_.out HW_.out (by kernel_rfl)) (fun _ _ _ h => h) (Or.inl ⟨by rfl, ?_⟩) hHeld ?_ ?_
                  rotate_left
                  · rintro w' ⟨s0, s1, s2, s3⟩
                    go_simp
                    with_reducible rfl
                  rotate_left
                  · simp only [Act.put, List.setIfInBounds_toArray, List.set_cons_zero, List.set_cons_succ, i64_w, i32_w]
                    rfl
                  refine join_ (σ := Nat) 2 #[true, true, true, true, true, true, true, true, true, false, false] (fun s_ => [(29, .agg #[.int .i64 t209, .int .i64 t210]), (31, .agg #[.int .i64 t211, .int .i64 t212]), (32, .tuple #[.agg #[.int .i64 t213, .int .i64 t214], .int .i64 t215]), (7, .pointer (some ⟨s_, 0, none⟩)), (27, .tuple #[.agg #[.int .i64 t213, .int .i64 t214], .int .i64 t215]), (33, .agg #[.int .i64 t213, .int .i64 t214]), (34, .int .i64 t215)]) (fun s_ w' => (w'.cell? ⟨gb203, 0, none⟩ = some (.int .i64 a0_0) ∧ w'.cell? ⟨gb203, 1, none⟩ = some (.int .i64 a0_1) ∧ w'.cell? ⟨gb204, 0, none⟩ = some (.int .i64 a1_0) ∧ w'.cell? ⟨gb204, 1, none⟩ = some (.int .i64 a1_1)) ∧ (w'.heap[gb203]? = some (.cells #[.int .i64 a0_0, .int .i64 a0_1] 23 (0, 0))) ∧ (w'.heap[gb204]? = some (.cells #[.int .i64 a1_0, .int .i64 a1_1] 23 (0, 0))) ∧ (w'.heap[gb208]? = some (.cells #[.int .i64 t205, .int .i64 t206] 23 (0, 0))) ∧ (w'.heap[s_]? = some (.cells #[.int .i64 0, .int .i64 0] 32 (0, 0))) ∧ (w.heap.size ≤ s_) ∧ (w.heap.size ≤ s_) ∧ (gb203 ≠ s_) ∧ (s_ ≠ gb203) ∧ (gb204 ≠ s_) ∧ (s_ ≠ gb204) ∧ (gb208 ≠ s_) ∧ (s_ ≠ gb208) ∧ (Below w.heap.size w w')) ?_ ?_
                  rotate_left
                  · intro hCont
                    refine two_ (i := 1) (j := 8) (Ni := some 29) (Nj := some 7) #[true, true, true, false, false, false, false, false, false, false, false] #[true, false, true, false, false, false, false, false, true, false, false] rfl rfl rfl rfl (two_of HT_.out (by kernel_rfl)) (by decide) (by decide) (fun K hK => ?_) (fun K hK => ?_)
                    · skip
                      refine goes_ Try.func24 (by kernel_rfl) rfl #[.agg #[.int .i64 a0_0, .int .i64 a0_1]] (by rfl) rfl rfl (by (try simp only [List.map_toArray, List.map_cons, List.map_nil]); first | done | rfl | (simp only [List.length_drop, List.length_take]; rfl)) ?_
                      with_reducible refine (mosaiclaw05_Ref.calls a0_0 a0_1 t209 t210 _ A4.out).mono ?_
                      rintro e w44 ⟨rfl, hb⟩
                      refine ⟨_, rfl, ?_⟩
                      have n0_ := Aside0.mk (blk_below (g := gb203) (o := .cells #[.int .i64 a0_0, .int .i64 a0_1] 23 (0, 0)) (by (with_reducible repeat (first | refine blk_drewN ?_ _ | refine blk_drew ?_ | refine blk_alloc ?_ _)); exact BK203.out) hb)
                      have n1_ := Aside0.mk (blk_below (g := gb204) (o := .cells #[.int .i64 a1_0, .int .i64 a1_1] 23 (0, 0)) (by (with_reducible repeat (first | refine blk_drewN ?_ _ | refine blk_drew ?_ | refine blk_alloc ?_ _)); exact BK204.out) hb)
                      have n2_ := Aside0.mk (blk_below (g := gb208) (o := .cells #[.int .i64 t205, .int .i64 t206] 23 (0, 0)) (by (with_reducible repeat (first | refine blk_drewN ?_ _ | refine blk_drew ?_ | refine blk_alloc ?_ _)); exact BK208.out) hb)
                      have n3_ := Aside0.mk (below_step (by repeat (first | (with_reducible first | exact HB.out | apply below_alloc | apply pw_below_drewN | apply below_drew1 | refine below_set ?_ GE203.out | refine below_set ?_ GE204.out | refine below_set ?_ GE208.out) | exact HB.out)) hb)
                      clear BK203
                      clear BK204
                      clear BK208
                      clear HB
                      have BK203 := n0_
                      have BK204 := n1_
                      have BK208 := n2_
                      have HB := n3_
                      clear n0_ n1_ n2_ n3_
                      (try clear hb)
                      (try clear hb2)
                      (try clear hk)
                      (try clear hi)
                      refine hK.out _ _ ⟨(blk_cell BK203.out 0).trans rfl, (blk_cell BK203.out 1).trans rfl, (blk_cell BK204.out 0).trans rfl, (blk_cell BK204.out 1).trans rfl⟩ (fun hHeld => ?_)
                      clear hK K
                      refine norm_ (a' := ?_) ?_ ?_
                      rotate_left
                      · show Act.put _ (some 29) _ = _
                        simp only [Act.put, List.setIfInBounds_toArray, List.set_cons_zero, List.set_cons_succ, i64_w, i32_w]
                        rfl
                      refine two_ (i := 3) (j := 8) (Ni := some 31) (Nj := some 7) #[true, true, true, true, false, false, false, false, false, false, false] #[true, true, true, false, false, false, false, false, true, false, false] rfl rfl rfl rfl (two_of HT_.out (by kernel_rfl)) (by decide) (by decide) (fun K hK => ?_) (fun K hK => ?_)
                      · skip
                        refine goes_ Try.func24 (by kernel_rfl) rfl #[.agg #[.int .i64 a1_0, .int .i64 a1_1]] (by rfl) rfl rfl (by (try simp only [List.map_toArray, List.map_cons, List.map_nil]); first | done | rfl | (simp only [List.length_drop, List.length_take]; rfl)) ?_
                        with_reducible refine (mosaiclaw05_Ref.calls a1_0 a1_1 t211 t212 _ A5.out).mono ?_
                        rintro e w45 ⟨rfl, hb⟩
                        refine ⟨_, rfl, ?_⟩
                        have n0_ := Aside0.mk (blk_below (g := gb203) (o := .cells #[.int .i64 a0_0, .int .i64 a0_1] 23 (0, 0)) (by (with_reducible repeat (first | refine blk_drewN ?_ _ | refine blk_drew ?_ | refine blk_alloc ?_ _)); exact BK203.out) hb)
                        have n1_ := Aside0.mk (blk_below (g := gb204) (o := .cells #[.int .i64 a1_0, .int .i64 a1_1] 23 (0, 0)) (by (with_reducible repeat (first | refine blk_drewN ?_ _ | refine blk_drew ?_ | refine blk_alloc ?_ _)); exact BK204.out) hb)
                        have n2_ := Aside0.mk (blk_below (g := gb208) (o := .cells #[.int .i64 t205, .int .i64 t206] 23 (0, 0)) (by (with_reducible repeat (first | refine blk_drewN ?_ _ | refine blk_drew ?_ | refine blk_alloc ?_ _)); exact BK208.out) hb)
                        have n3_ := Aside0.mk (below_step (by repeat (first | (with_reducible first | exact HB.out | apply below_alloc | apply pw_below_drewN | apply below_drew1 | refine below_set ?_ GE203.out | refine below_set ?_ GE204.out | refine below_set ?_ GE208.out) | exact HB.out)) hb)
                        clear BK203
                        clear BK204
                        clear BK208
                        clear HB
                        have BK203 := n0_
                        have BK204 := n1_
                        have BK208 := n2_
                        have HB := n3_
                        clear n0_ n1_ n2_ n3_
                        (try clear hb)
                        (try clear hb2)
                        (try clear hk)
                        (try clear hi)
                        refine hK.out _ _ ⟨(blk_cell BK203.out 0).trans rfl, (blk_cell BK203.out 1).trans rfl, (blk_cell BK204.out 0).trans rfl, (blk_cell BK204.out 1).trans rfl⟩ (fun hHeld => ?_)
                        clear hK K
                        refine norm_ (a' := ?_) ?_ ?_
                        rotate_left
                        · show Act.put _ (some 31) _ = _
                          simp only [Act.put, List.setIfInBounds_toArray, List.set_cons_zero, List.set_cons_succ, i64_w, i32_w]
                          rfl
                        refine two_ (i := 4) (j := 8) (Ni := some 32) (Nj := some 7) #[true, true, true, true, true, false, false, false, false, false, false] #[true, true, true, true, false, false, false, false, true, false, false] rfl rfl rfl rfl (two_of HT_.out (by kernel_rfl)) (by decide) (by decide) (fun K hK => ?_) (fun K hK => ?_)
                        · skip
                          refine goes_ Try.func37 (by kernel_rfl) rfl #[.agg #[.int .i64 t209, .int .i64 t210], .agg #[.int .i64 t211, .int .i64 t212], .int .i64 1] (by rfl) rfl rfl (by (try simp only [List.map_toArray, List.map_cons, List.map_nil]); first | done | rfl | (simp only [List.length_drop, List.length_take]; rfl)) ?_
                          with_reducible refine (mosaicref05_Sum.calls k t209 t210 t211 t212 1 t213 t214 t215 _ A6.out).mono ?_
                          rintro e w46 ⟨rfl, hb⟩
                          refine ⟨_, rfl, ?_⟩
                          have n0_ := Aside0.mk (blk_below (g := gb203) (o := .cells #[.int .i64 a0_0, .int .i64 a0_1] 23 (0, 0)) (by (with_reducible repeat (first | refine blk_drewN ?_ _ | refine blk_drew ?_ | refine blk_alloc ?_ _)); exact BK203.out) hb)
                          have n1_ := Aside0.mk (blk_below (g := gb204) (o := .cells #[.int .i64 a1_0, .int .i64 a1_1] 23 (0, 0)) (by (with_reducible repeat (first | refine blk_drewN ?_ _ | refine blk_drew ?_ | refine blk_alloc ?_ _)); exact BK204.out) hb)
                          have n2_ := Aside0.mk (blk_below (g := gb208) (o := .cells #[.int .i64 t205, .int .i64 t206] 23 (0, 0)) (by (with_reducible repeat (first | refine blk_drewN ?_ _ | refine blk_drew ?_ | refine blk_alloc ?_ _)); exact BK208.out) hb)
                          have n3_ := Aside0.mk (below_step (by repeat (first | (with_reducible first | exact HB.out | apply below_alloc | apply pw_below_drewN | apply below_drew1 | refine below_set ?_ GE203.out | refine below_set ?_ GE204.out | refine below_set ?_ GE208.out) | exact HB.out)) hb)
                          clear BK203
                          clear BK204
                          clear BK208
                          clear HB
                          have BK203 := n0_
                          have BK204 := n1_
                          have BK208 := n2_
                          have HB := n3_
                          clear n0_ n1_ n2_ n3_
                          (try clear hb)
                          (try clear hb2)
                          (try clear hk)
                          (try clear hi)
                          refine hK.out _ _ ⟨(blk_cell BK203.out 0).trans rfl, (blk_cell BK203.out 1).trans rfl, (blk_cell BK204.out 0).trans rfl, (blk_cell BK204.out 1).trans rfl⟩ (fun hHeld => ?_)
                          clear hK K
                          refine norm_ (a' := ?_) ?_ ?_
                          rotate_left
                          · show Act.put _ (some 32) _ = _
                            simp only [Act.put, List.setIfInBounds_toArray, List.set_cons_zero, List.set_cons_succ, i64_w, i32_w]
                            rfl
                          refine pure_ (i := 5) (N := some 27) (v := ?_) (a' := ?_) #[true, true, true, true, true, true, false, false, false, false, false] rfl rfl (any_of HT_.out (by kernel_rfl)) (fun _ _ _ h => h) (Or.inl ⟨by rfl, ?_⟩) ?_ ?_
                          rotate_left
                          · intro w'
                            go_simp
                            with_reducible rfl
                          rotate_left
                          · simp only [Act.put, List.setIfInBounds_toArray, List.set_cons_zero, List.set_cons_succ, i64_w, i32_w]
                            rfl
                          refine pure_ (i := 6) (N := some 33) (v := ?_) (a' := ?_) #[true, true, true, true, true, true, true, false, false, false, false] rfl rfl (any_of HT_.out (by kernel_rfl)) (fun _ _ _ h => h) (Or.inl ⟨by rfl, ?_⟩) ?_ ?_
                          rotate_left
                          · intro w'
                            go_simp
                            with_reducible rfl
                          rotate_left
                          · simp only [Act.put, List.setIfInBounds_toArray, List.set_cons_zero, List.set_cons_succ, i64_w, i32_w]
                            rfl
                          refine pure_ (i := 7) (N := some 34) (v := ?_) (a' := ?_) #[true, true, true, true, true, true, true, true, false, false, false] rfl rfl (any_of HT_.out (by kernel_rfl)) (fun _ _ _ h => h) (Or.inl ⟨by rfl, ?_⟩) ?_ ?_
                          rotate_left
                          · intro w'
                            go_simp
                            with_reducible rfl
                          rotate_left
                          · simp only [Act.put, List.setIfInBounds_toArray, List.set_cons_zero, List.set_cons_succ, i64_w, i32_w]
                            rfl
                          refine one_ (i := 8) (N := some 7) #[true, true, true, true, true, true, true, true, true, false, false] rfl rfl (one_of HT_.out (by kernel_rfl)) (by decide) (fun K hK => ?_)
                          refine box_step ?hg (N := 7) ?hd (cs := #[.int .i64 0, .int .i64 0]) (t := 32) ?hr ?_; (case hd => rfl); (case hg => rfl); (case hr => first | (go_simp; done) | (go_simp; rfl))
                          intro gb216 hg w47 hbox hb
                          have n0_ := Aside0.mk (blk_below (g := gb203) (o := .cells #[.int .i64 a0_0, .int .i64 a0_1] 23 (0, 0)) (by (with_reducible repeat (first | refine blk_drewN ?_ _ | refine blk_drew ?_ | refine blk_alloc ?_ _)); exact BK203.out) hb)
                          have n1_ := Aside0.mk (blk_below (g := gb204) (o := .cells #[.int .i64 a1_0, .int .i64 a1_1] 23 (0, 0)) (by (with_reducible repeat (first | refine blk_drewN ?_ _ | refine blk_drew ?_ | refine blk_alloc ?_ _)); exact BK204.out) hb)
                          have n2_ := Aside0.mk (blk_below (g := gb208) (o := .cells #[.int .i64 t205, .int .i64 t206] 23 (0, 0)) (by (with_reducible repeat (first | refine blk_drewN ?_ _ | refine blk_drew ?_ | refine blk_alloc ?_ _)); exact BK208.out) hb)
                          have n3_ := Aside0.mk (below_step (by repeat (first | (with_reducible first | exact HB.out | apply below_alloc | apply pw_below_drewN | apply below_drew1 | refine below_set ?_ GE203.out | refine below_set ?_ GE204.out | refine below_set ?_ GE208.out) | exact HB.out)) hb)
                          have n4_ := Aside0.mk (hbox)
                          have n5_ := Aside0.mk ((by rw [hg]; exact (below_size (by repeat (first | (with_reducible first | exact HB.out | apply below_alloc | apply pw_below_drewN | apply below_drew1 | refine below_set ?_ GE203.out | refine below_set ?_ GE204.out | refine below_set ?_ GE208.out) | exact HB.out))) : w.heap.size ≤ gb216))
                          have n6_ := Aside0.mk ((by rw [hg]; exact (below_size (by repeat (first | (with_reducible first | exact HB.out | apply below_alloc | apply pw_below_drewN | apply below_drew1 | refine below_set ?_ GE203.out | refine below_set ?_ GE204.out | refine below_set ?_ GE208.out) | exact HB.out))) : w.heap.size ≤ gb216))
                          have n7_ := Aside0.mk ((by rw [hg]; exact Nat.ne_of_lt (blk_lt (g := gb203) (o := .cells #[.int .i64 a0_0, .int .i64 a0_1] 23 (0, 0)) (by (with_reducible repeat (first | refine blk_drewN ?_ _ | refine blk_drew ?_ | refine blk_alloc ?_ _)); exact BK203.out)) : gb203 ≠ gb216))
                          have n8_ := Aside0.mk ((by rw [hg]; exact Nat.ne_of_gt (blk_lt (g := gb203) (o := .cells #[.int .i64 a0_0, .int .i64 a0_1] 23 (0, 0)) (by (with_reducible repeat (first | refine blk_drewN ?_ _ | refine blk_drew ?_ | refine blk_alloc ?_ _)); exact BK203.out)) : gb216 ≠ gb203))
                          have n9_ := Aside0.mk ((by rw [hg]; exact Nat.ne_of_lt (blk_lt (g := gb204) (o := .cells #[.int .i64 a1_0, .int .i64 a1_1] 23 (0, 0)) (by (with_reducible repeat (first | refine blk_drewN ?_ _ | refine blk_drew ?_ | refine blk_alloc ?_ _)); exact BK204.out)) : gb204 ≠ gb216))
                          have n10_ := Aside0.mk ((by rw [hg]; exact Nat.ne_of_gt (blk_lt (g := gb204) (o := .cells #[.int .i64 a1_0, .int .i64 a1_1] 23 (0, 0)) (by (with_reducible repeat (first | refine blk_drewN ?_ _ | refine blk_drew ?_ | refine blk_alloc ?_ _)); exact BK204.out)) : gb216 ≠ gb204))
                          have n11_ := Aside0.mk ((by rw [hg]; exact Nat.ne_of_lt (blk_lt (g := gb208) (o := .cells #[.int .i64 t205, .int .i64 t206] 23 (0, 0)) (by (with_reducible repeat (first | refine blk_drewN ?_ _ | refine blk_drew ?_ | refine blk_alloc ?_ _)); exact BK208.out)) : gb208 ≠ gb216))
                          have n12_ := Aside0.mk ((by rw [hg]; exact Nat.ne_of_gt (blk_lt (g := gb208) (o := .cells #[.int .i64 t205, .int .i64 t206] 23 (0, 0)) (by (with_reducible repeat (first | refine blk_drewN ?_ _ | refine blk_drew ?_ | refine blk_alloc ?_ _)); exact BK208.out)) : gb216 ≠ gb208))
                          clear BK203
                          clear BK204
                          clear BK208
                          clear HB
                          have BK203 := n0_
                          have BK204 := n1_
                          have BK208 := n2_
                          have HB := n3_
                          have BK216 := n4_
                          have GW216 := n5_
                          have GE216 := n6_
                          have NB203_216 := n7_
                          have NB216_203 := n8_
                          have NB204_216 := n9_
                          have NB216_204 := n10_
                          have NB208_216 := n11_
                          have NB216_208 := n12_
                          clear n0_ n1_ n2_ n3_ n4_ n5_ n6_ n7_ n8_ n9_ n10_ n11_ n12_
                          clear hb hbox hg
                          refine hK.out _ _ ⟨(blk_cell BK203.out 0).trans rfl, (blk_cell BK203.out 1).trans rfl, (blk_cell BK204.out 0).trans rfl, (blk_cell BK204.out 1).trans rfl⟩ (fun hHeld => ?_)
                          clear hK K
                          refine norm_ (a' := ?_) ?_ ?_
                          rotate_left
                          · show Act.put _ (some 7) _ = _
                            simp only [Act.put, List.setIfInBounds_toArray, List.set_cons_zero, List.set_cons_succ, i64_w, i32_w]
                            rfl
                          exact norm_ (by simp only [putAll, Act.put, List.setIfInBounds_toArray, List.set_cons_zero, List.set_cons_succ]) (hCont (gb216) _ ⟨hHeld, (by (with_reducible repeat (first | refine blk_drewN ?_ _ | refine blk_drew ?_ | refine blk_alloc ?_ _)); exact BK203.out), (by (with_reducible repeat (first | refine blk_drewN ?_ _ | refine blk_drew ?_ | refine blk_alloc ?_ _)); exact BK204.out), (by (with_reducible repeat (first | refine blk_drewN ?_ _ | refine blk_drew ?_ | refine blk_alloc ?_ _)); exact BK208.out), (by (with_reducible repeat (first | refine blk_drewN ?_ _ | refine blk_drew ?_ | refine blk_alloc ?_ _)); exact BK216.out), GW216.out, GE216.out, NB203_216.out, NB216_203.out, NB204_216.out, NB216_204.out, NB208_216.out, NB216_208.out, (by repeat (first | (with_reducible first | exact HB.out | apply below_alloc | apply pw_below_drewN | apply below_drew1 | refine below_set ?_ GE203.out | refine below_set ?_ GE204.out | refine below_set ?_ GE208.out | refine below_set ?_ GE216.out) | exact HB.out))⟩)
                        · skip
                          refine box_step ?hg (N := 7) ?hd (cs := #[.int .i64 0, .int .i64 0]) (t := 32) ?hr ?_; (case hd => rfl); (case hg => rfl); (case hr => first | (go_simp; done) | (go_simp; rfl))
                          intro gb216 hg w46 hbox hb
                          have n0_ := Aside0.mk (blk_below (g := gb203) (o := .cells #[.int .i64 a0_0, .int .i64 a0_1] 23 (0, 0)) (by (with_reducible repeat (first | refine blk_drewN ?_ _ | refine blk_drew ?_ | refine blk_alloc ?_ _)); exact BK203.out) hb)
                          have n1_ := Aside0.mk (blk_below (g := gb204) (o := .cells #[.int .i64 a1_0, .int .i64 a1_1] 23 (0, 0)) (by (with_reducible repeat (first | refine blk_drewN ?_ _ | refine blk_drew ?_ | refine blk_alloc ?_ _)); exact BK204.out) hb)
                          have n2_ := Aside0.mk (blk_below (g := gb208) (o := .cells #[.int .i64 t205, .int .i64 t206] 23 (0, 0)) (by (with_reducible repeat (first | refine blk_drewN ?_ _ | refine blk_drew ?_ | refine blk_alloc ?_ _)); exact BK208.out) hb)
                          have n3_ := Aside0.mk (below_step (by repeat (first | (with_reducible first | exact HB.out | apply below_alloc | apply pw_below_drewN | apply below_drew1 | refine below_set ?_ GE203.out | refine below_set ?_ GE204.out | refine below_set ?_ GE208.out) | exact HB.out)) hb)
                          have n4_ := Aside0.mk (hbox)
                          have n5_ := Aside0.mk ((by rw [hg]; exact (below_size (by repeat (first | (with_reducible first | exact HB.out | apply below_alloc | apply pw_below_drewN | apply below_drew1 | refine below_set ?_ GE203.out | refine below_set ?_ GE204.out | refine below_set ?_ GE208.out) | exact HB.out))) : w.heap.size ≤ gb216))
                          have n6_ := Aside0.mk ((by rw [hg]; exact (below_size (by repeat (first | (with_reducible first | exact HB.out | apply below_alloc | apply pw_below_drewN | apply below_drew1 | refine below_set ?_ GE203.out | refine below_set ?_ GE204.out | refine below_set ?_ GE208.out) | exact HB.out))) : w.heap.size ≤ gb216))
                          have n7_ := Aside0.mk ((by rw [hg]; exact Nat.ne_of_lt (blk_lt (g := gb203) (o := .cells #[.int .i64 a0_0, .int .i64 a0_1] 23 (0, 0)) (by (with_reducible repeat (first | refine blk_drewN ?_ _ | refine blk_drew ?_ | refine blk_alloc ?_ _)); exact BK203.out)) : gb203 ≠ gb216))
                          have n8_ := Aside0.mk ((by rw [hg]; exact Nat.ne_of_gt (blk_lt (g := gb203) (o := .cells #[.int .i64 a0_0, .int .i64 a0_1] 23 (0, 0)) (by (with_reducible repeat (first | refine blk_drewN ?_ _ | refine blk_drew ?_ | refine blk_alloc ?_ _)); exact BK203.out)) : gb216 ≠ gb203))
                          have n9_ := Aside0.mk ((by rw [hg]; exact Nat.ne_of_lt (blk_lt (g := gb204) (o := .cells #[.int .i64 a1_0, .int .i64 a1_1] 23 (0, 0)) (by (with_reducible repeat (first | refine blk_drewN ?_ _ | refine blk_drew ?_ | refine blk_alloc ?_ _)); exact BK204.out)) : gb204 ≠ gb216))
                          have n10_ := Aside0.mk ((by rw [hg]; exact Nat.ne_of_gt (blk_lt (g := gb204) (o := .cells #[.int .i64 a1_0, .int .i64 a1_1] 23 (0, 0)) (by (with_reducible repeat (first | refine blk_drewN ?_ _ | refine blk_drew ?_ | refine blk_alloc ?_ _)); exact BK204.out)) : gb216 ≠ gb204))
                          have n11_ := Aside0.mk ((by rw [hg]; exact Nat.ne_of_lt (blk_lt (g := gb208) (o := .cells #[.int .i64 t205, .int .i64 t206] 23 (0, 0)) (by (with_reducible repeat (first | refine blk_drewN ?_ _ | refine blk_drew ?_ | refine blk_alloc ?_ _)); exact BK208.out)) : gb208 ≠ gb216))
                          have n12_ := Aside0.mk ((by rw [hg]; exact Nat.ne_of_gt (blk_lt (g := gb208) (o := .cells #[.int .i64 t205, .int .i64 t206] 23 (0, 0)) (by (with_reducible repeat (first | refine blk_drewN ?_ _ | refine blk_drew ?_ | refine blk_alloc ?_ _)); exact BK208.out)) : gb216 ≠ gb208))
                          clear BK203
                          clear BK204
                          clear BK208
                          clear HB
                          have BK203 := n0_
                          have BK204 := n1_
                          have BK208 := n2_
                          have HB := n3_
                          have BK216 := n4_
                          have GW216 := n5_
                          have GE216 := n6_
                          have NB203_216 := n7_
                          have NB216_203 := n8_
                          have NB204_216 := n9_
                          have NB216_204 := n10_
                          have NB208_216 := n11_
                          have NB216_208 := n12_
                          clear n0_ n1_ n2_ n3_ n4_ n5_ n6_ n7_ n8_ n9_ n10_ n11_ n12_
                          clear hb hbox hg
                          refine hK.out _ _ ⟨(blk_cell BK203.out 0).trans rfl, (blk_cell BK203.out 1).trans rfl, (blk_cell BK204.out 0).trans rfl, (blk_cell BK204.out 1).trans rfl⟩ (fun hHeld => ?_)
                          clear hK K
                          refine norm_ (a' := ?_) ?_ ?_
                          rotate_left
                          · show Act.put _ (some 7) _ = _
                            simp only [Act.put, List.setIfInBounds_toArray, List.set_cons_zero, List.set_cons_succ, i64_w, i32_w]
                            rfl
                          refine one_ (i := 4) (N := some 32) #[true, true, true, true, true, false, false, false, true, false, false] rfl rfl (one_of HT_.out (by kernel_rfl)) (by decide) (fun K hK => ?_)
                          refine goes_ Try.func37 (by kernel_rfl) rfl #[.agg #[.int .i64 t209, .int .i64 t210], .agg #[.int .i64 t211, .int .i64 t212], .int .i64 1] (by rfl) rfl rfl (by (try simp only [List.map_toArray, List.map_cons, List.map_nil]); first | done | rfl | (simp only [List.length_drop, List.length_take]; rfl)) ?_
                          with_reducible refine (mosaicref05_Sum.calls k t209 t210 t211 t212 1 t213 t214 t215 _ A6.out).mono ?_
                          rintro e w47 ⟨rfl, hb⟩
                          refine ⟨_, rfl, ?_⟩
                          have n0_ := Aside0.mk (blk_below (g := gb203) (o := .cells #[.int .i64 a0_0, .int .i64 a0_1] 23 (0, 0)) (by (with_reducible repeat (first | refine blk_drewN ?_ _ | refine blk_drew ?_ | refine blk_alloc ?_ _)); exact BK203.out) hb)
                          have n1_ := Aside0.mk (blk_below (g := gb204) (o := .cells #[.int .i64 a1_0, .int .i64 a1_1] 23 (0, 0)) (by (with_reducible repeat (first | refine blk_drewN ?_ _ | refine blk_drew ?_ | refine blk_alloc ?_ _)); exact BK204.out) hb)
                          have n2_ := Aside0.mk (blk_below (g := gb208) (o := .cells #[.int .i64 t205, .int .i64 t206] 23 (0, 0)) (by (with_reducible repeat (first | refine blk_drewN ?_ _ | refine blk_drew ?_ | refine blk_alloc ?_ _)); exact BK208.out) hb)
                          have n3_ := Aside0.mk (blk_below (g := gb216) (o := .cells #[.int .i64 0, .int .i64 0] 32 (0, 0)) (by (with_reducible repeat (first | refine blk_drewN ?_ _ | refine blk_drew ?_ | refine blk_alloc ?_ _)); exact BK216.out) hb)
                          have n4_ := Aside0.mk (below_step (by repeat (first | (with_reducible first | exact HB.out | apply below_alloc | apply pw_below_drewN | apply below_drew1 | refine below_set ?_ GE203.out | refine below_set ?_ GE204.out | refine below_set ?_ GE208.out | refine below_set ?_ GE216.out) | exact HB.out)) hb)
                          clear BK203
                          clear BK204
                          clear BK208
                          clear BK216
                          clear HB
                          have BK203 := n0_
                          have BK204 := n1_
                          have BK208 := n2_
                          have BK216 := n3_
                          have HB := n4_
                          clear n0_ n1_ n2_ n3_ n4_
                          (try clear hb)
                          (try clear hb2)
                          (try clear hk)
                          (try clear hi)
                          refine hK.out _ _ ⟨(blk_cell BK203.out 0).trans rfl, (blk_cell BK203.out 1).trans rfl, (blk_cell BK204.out 0).trans rfl, (blk_cell BK204.out 1).trans rfl⟩ (fun hHeld => ?_)
                          clear hK K
                          refine norm_ (a' := ?_) ?_ ?_
                          rotate_left
                          · show Act.put _ (some 32) _ = _
                            simp only [Act.put, List.setIfInBounds_toArray, List.set_cons_zero, List.set_cons_succ, i64_w, i32_w]
                            rfl
                          refine pure_ (i := 5) (N := some 27) (v := ?_) (a' := ?_) #[true, true, true, true, true, true, false, false, true, false, false] rfl rfl (any_of HT_.out (by kernel_rfl)) (fun _ _ _ h => h) (Or.inl ⟨by rfl, ?_⟩) ?_ ?_
                          rotate_left
                          · intro w'
                            go_simp
                            with_reducible rfl
                          rotate_left
                          · simp only [Act.put, List.setIfInBounds_toArray, List.set_cons_zero, List.set_cons_succ, i64_w, i32_w]
                            rfl
                          refine pure_ (i := 6) (N := some 33) (v := ?_) (a' := ?_) #[true, true, true, true, true, true, true, false, true, false, false] rfl rfl (any_of HT_.out (by kernel_rfl)) (fun _ _ _ h => h) (Or.inl ⟨by rfl, ?_⟩) ?_ ?_
                          rotate_left
                          · intro w'
                            go_simp
                            with_reducible rfl
                          rotate_left
                          · simp only [Act.put, List.setIfInBounds_toArray, List.set_cons_zero, List.set_cons_succ, i64_w, i32_w]
                            rfl
                          refine pure_ (i := 7) (N := some 34) (v := ?_) (a' := ?_) #[true, true, true, true, true, true, true, true, true, false, false] rfl rfl (any_of HT_.out (by kernel_rfl)) (fun _ _ _ h => h) (Or.inl ⟨by rfl, ?_⟩) ?_ ?_
                          rotate_left
                          · intro w'
                            go_simp
                            with_reducible rfl
                          rotate_left
                          · simp only [Act.put, List.setIfInBounds_toArray, List.set_cons_zero, List.set_cons_succ, i64_w, i32_w]
                            rfl
                          exact norm_ (by simp only [putAll, Act.put, List.setIfInBounds_toArray, List.set_cons_zero, List.set_cons_succ]) (hCont (gb216) _ ⟨hHeld, (by (with_reducible repeat (first | refine blk_drewN ?_ _ | refine blk_drew ?_ | refine blk_alloc ?_ _)); exact BK203.out), (by (with_reducible repeat (first | refine blk_drewN ?_ _ | refine blk_drew ?_ | refine blk_alloc ?_ _)); exact BK204.out), (by (with_reducible repeat (first | refine blk_drewN ?_ _ | refine blk_drew ?_ | refine blk_alloc ?_ _)); exact BK208.out), (by (with_reducible repeat (first | refine blk_drewN ?_ _ | refine blk_drew ?_ | refine blk_alloc ?_ _)); exact BK216.out), GW216.out, GE216.out, NB203_216.out, NB216_203.out, NB204_216.out, NB216_204.out, NB208_216.out, NB216_208.out, (by repeat (first | (with_reducible first | exact HB.out | apply below_alloc | apply pw_below_drewN | apply below_drew1 | refine below_set ?_ GE203.out | refine below_set ?_ GE204.out | refine below_set ?_ GE208.out | refine below_set ?_ GE216.out) | exact HB.out))⟩)
                      · skip
                        refine box_step ?hg (N := 7) ?hd (cs := #[.int .i64 0, .int .i64 0]) (t := 32) ?hr ?_; (case hd => rfl); (case hg => rfl); (case hr => first | (go_simp; done) | (go_simp; rfl))
                        intro gb216 hg w45 hbox hb
                        have n0_ := Aside0.mk (blk_below (g := gb203) (o := .cells #[.int .i64 a0_0, .int .i64 a0_1] 23 (0, 0)) (by (with_reducible repeat (first | refine blk_drewN ?_ _ | refine blk_drew ?_ | refine blk_alloc ?_ _)); exact BK203.out) hb)
                        have n1_ := Aside0.mk (blk_below (g := gb204) (o := .cells #[.int .i64 a1_0, .int .i64 a1_1] 23 (0, 0)) (by (with_reducible repeat (first | refine blk_drewN ?_ _ | refine blk_drew ?_ | refine blk_alloc ?_ _)); exact BK204.out) hb)
                        have n2_ := Aside0.mk (blk_below (g := gb208) (o := .cells #[.int .i64 t205, .int .i64 t206] 23 (0, 0)) (by (with_reducible repeat (first | refine blk_drewN ?_ _ | refine blk_drew ?_ | refine blk_alloc ?_ _)); exact BK208.out) hb)
                        have n3_ := Aside0.mk (below_step (by repeat (first | (with_reducible first | exact HB.out | apply below_alloc | apply pw_below_drewN | apply below_drew1 | refine below_set ?_ GE203.out | refine below_set ?_ GE204.out | refine below_set ?_ GE208.out) | exact HB.out)) hb)
                        have n4_ := Aside0.mk (hbox)
                        have n5_ := Aside0.mk ((by rw [hg]; exact (below_size (by repeat (first | (with_reducible first | exact HB.out | apply below_alloc | apply pw_below_drewN | apply below_drew1 | refine below_set ?_ GE203.out | refine below_set ?_ GE204.out | refine below_set ?_ GE208.out) | exact HB.out))) : w.heap.size ≤ gb216))
                        have n6_ := Aside0.mk ((by rw [hg]; exact (below_size (by repeat (first | (with_reducible first | exact HB.out | apply below_alloc | apply pw_below_drewN | apply below_drew1 | refine below_set ?_ GE203.out | refine below_set ?_ GE204.out | refine below_set ?_ GE208.out) | exact HB.out))) : w.heap.size ≤ gb216))
                        have n7_ := Aside0.mk ((by rw [hg]; exact Nat.ne_of_lt (blk_lt (g := gb203) (o := .cells #[.int .i64 a0_0, .int .i64 a0_1] 23 (0, 0)) (by (with_reducible repeat (first | refine blk_drewN ?_ _ | refine blk_drew ?_ | refine blk_alloc ?_ _)); exact BK203.out)) : gb203 ≠ gb216))
                        have n8_ := Aside0.mk ((by rw [hg]; exact Nat.ne_of_gt (blk_lt (g := gb203) (o := .cells #[.int .i64 a0_0, .int .i64 a0_1] 23 (0, 0)) (by (with_reducible repeat (first | refine blk_drewN ?_ _ | refine blk_drew ?_ | refine blk_alloc ?_ _)); exact BK203.out)) : gb216 ≠ gb203))
                        have n9_ := Aside0.mk ((by rw [hg]; exact Nat.ne_of_lt (blk_lt (g := gb204) (o := .cells #[.int .i64 a1_0, .int .i64 a1_1] 23 (0, 0)) (by (with_reducible repeat (first | refine blk_drewN ?_ _ | refine blk_drew ?_ | refine blk_alloc ?_ _)); exact BK204.out)) : gb204 ≠ gb216))
                        have n10_ := Aside0.mk ((by rw [hg]; exact Nat.ne_of_gt (blk_lt (g := gb204) (o := .cells #[.int .i64 a1_0, .int .i64 a1_1] 23 (0, 0)) (by (with_reducible repeat (first | refine blk_drewN ?_ _ | refine blk_drew ?_ | refine blk_alloc ?_ _)); exact BK204.out)) : gb216 ≠ gb204))
                        have n11_ := Aside0.mk ((by rw [hg]; exact Nat.ne_of_lt (blk_lt (g := gb208) (o := .cells #[.int .i64 t205, .int .i64 t206] 23 (0, 0)) (by (with_reducible repeat (first | refine blk_drewN ?_ _ | refine blk_drew ?_ | refine blk_alloc ?_ _)); exact BK208.out)) : gb208 ≠ gb216))
                        have n12_ := Aside0.mk ((by rw [hg]; exact Nat.ne_of_gt (blk_lt (g := gb208) (o := .cells #[.int .i64 t205, .int .i64 t206] 23 (0, 0)) (by (with_reducible repeat (first | refine blk_drewN ?_ _ | refine blk_drew ?_ | refine blk_alloc ?_ _)); exact BK208.out)) : gb216 ≠ gb208))
                        clear BK203
                        clear BK204
                        clear BK208
                        clear HB
                        have BK203 := n0_
                        have BK204 := n1_
                        have BK208 := n2_
                        have HB := n3_
                        have BK216 := n4_
                        have GW216 := n5_
                        have GE216 := n6_
                        have NB203_216 := n7_
                        have NB216_203 := n8_
                        have NB204_216 := n9_
                        have NB216_204 := n10_
                        have NB208_216 := n11_
                        have NB216_208 := n12_
                        clear n0_ n1_ n2_ n3_ n4_ n5_ n6_ n7_ n8_ n9_ n10_ n11_ n12_
                        clear hb hbox hg
                        refine hK.out _ _ ⟨(blk_cell BK203.out 0).trans rfl, (blk_cell BK203.out 1).trans rfl, (blk_cell BK204.out 0).trans rfl, (blk_cell BK204.out 1).trans rfl⟩ (fun hHeld => ?_)
                        clear hK K
                        refine norm_ (a' := ?_) ?_ ?_
                        rotate_left
                        · show Act.put _ (some 7) _ = _
                          simp only [Act.put, List.setIfInBounds_toArray, List.set_cons_zero, List.set_cons_succ, i64_w, i32_w]
                          rfl
                        refine one_ (i := 3) (N := some 31) #[true, true, true, true, false, false, false, false, true, false, false] rfl rfl (one_of HT_.out (by kernel_rfl)) (by decide) (fun K hK => ?_)
                        refine goes_ Try.func24 (by kernel_rfl) rfl #[.agg #[.int .i64 a1_0, .int .i64 a1_1]] (by rfl) rfl rfl (by (try simp only [List.map_toArray, List.map_cons, List.map_nil]); first | done | rfl | (simp only [List.length_drop, List.length_take]; rfl)) ?_
                        with_reducible refine (mosaiclaw05_Ref.calls a1_0 a1_1 t211 t212 _ A5.out).mono ?_
                        rintro e w46 ⟨rfl, hb⟩
                        refine ⟨_, rfl, ?_⟩
                        have n0_ := Aside0.mk (blk_below (g := gb203) (o := .cells #[.int .i64 a0_0, .int .i64 a0_1] 23 (0, 0)) (by (with_reducible repeat (first | refine blk_drewN ?_ _ | refine blk_drew ?_ | refine blk_alloc ?_ _)); exact BK203.out) hb)
                        have n1_ := Aside0.mk (blk_below (g := gb204) (o := .cells #[.int .i64 a1_0, .int .i64 a1_1] 23 (0, 0)) (by (with_reducible repeat (first | refine blk_drewN ?_ _ | refine blk_drew ?_ | refine blk_alloc ?_ _)); exact BK204.out) hb)
                        have n2_ := Aside0.mk (blk_below (g := gb208) (o := .cells #[.int .i64 t205, .int .i64 t206] 23 (0, 0)) (by (with_reducible repeat (first | refine blk_drewN ?_ _ | refine blk_drew ?_ | refine blk_alloc ?_ _)); exact BK208.out) hb)
                        have n3_ := Aside0.mk (blk_below (g := gb216) (o := .cells #[.int .i64 0, .int .i64 0] 32 (0, 0)) (by (with_reducible repeat (first | refine blk_drewN ?_ _ | refine blk_drew ?_ | refine blk_alloc ?_ _)); exact BK216.out) hb)
                        have n4_ := Aside0.mk (below_step (by repeat (first | (with_reducible first | exact HB.out | apply below_alloc | apply pw_below_drewN | apply below_drew1 | refine below_set ?_ GE203.out | refine below_set ?_ GE204.out | refine below_set ?_ GE208.out | refine below_set ?_ GE216.out) | exact HB.out)) hb)
                        clear BK203
                        clear BK204
                        clear BK208
                        clear BK216
                        clear HB
                        have BK203 := n0_
                        have BK204 := n1_
                        have BK208 := n2_
                        have BK216 := n3_
                        have HB := n4_
                        clear n0_ n1_ n2_ n3_ n4_
                        (try clear hb)
                        (try clear hb2)
                        (try clear hk)
                        (try clear hi)
                        refine hK.out _ _ ⟨(blk_cell BK203.out 0).trans rfl, (blk_cell BK203.out 1).trans rfl, (blk_cell BK204.out 0).trans rfl, (blk_cell BK204.out 1).trans rfl⟩ (fun hHeld => ?_)
                        clear hK K
                        refine norm_ (a' := ?_) ?_ ?_
                        rotate_left
                        · show Act.put _ (some 31) _ = _
                          simp only [Act.put, List.setIfInBounds_toArray, List.set_cons_zero, List.set_cons_succ, i64_w, i32_w]
                          rfl
                        refine one_ (i := 4) (N := some 32) #[true, true, true, true, true, false, false, false, true, false, false] rfl rfl (one_of HT_.out (by kernel_rfl)) (by decide) (fun K hK => ?_)
                        refine goes_ Try.func37 (by kernel_rfl) rfl #[.agg #[.int .i64 t209, .int .i64 t210], .agg #[.int .i64 t211, .int .i64 t212], .int .i64 1] (by rfl) rfl rfl (by (try simp only [List.map_toArray, List.map_cons, List.map_nil]); first | done | rfl | (simp only [List.length_drop, List.length_take]; rfl)) ?_
                        with_reducible refine (mosaicref05_Sum.calls k t209 t210 t211 t212 1 t213 t214 t215 _ A6.out).mono ?_
                        rintro e w47 ⟨rfl, hb⟩
                        refine ⟨_, rfl, ?_⟩
                        have n0_ := Aside0.mk (blk_below (g := gb203) (o := .cells #[.int .i64 a0_0, .int .i64 a0_1] 23 (0, 0)) (by (with_reducible repeat (first | refine blk_drewN ?_ _ | refine blk_drew ?_ | refine blk_alloc ?_ _)); exact BK203.out) hb)
                        have n1_ := Aside0.mk (blk_below (g := gb204) (o := .cells #[.int .i64 a1_0, .int .i64 a1_1] 23 (0, 0)) (by (with_reducible repeat (first | refine blk_drewN ?_ _ | refine blk_drew ?_ | refine blk_alloc ?_ _)); exact BK204.out) hb)
                        have n2_ := Aside0.mk (blk_below (g := gb208) (o := .cells #[.int .i64 t205, .int .i64 t206] 23 (0, 0)) (by (with_reducible repeat (first | refine blk_drewN ?_ _ | refine blk_drew ?_ | refine blk_alloc ?_ _)); exact BK208.out) hb)
                        have n3_ := Aside0.mk (blk_below (g := gb216) (o := .cells #[.int .i64 0, .int .i64 0] 32 (0, 0)) (by (with_reducible repeat (first | refine blk_drewN ?_ _ | refine blk_drew ?_ | refine blk_alloc ?_ _)); exact BK216.out) hb)
                        have n4_ := Aside0.mk (below_step (by repeat (first | (with_reducible first | exact HB.out | apply below_alloc | apply pw_below_drewN | apply below_drew1 | refine below_set ?_ GE203.out | refine below_set ?_ GE204.out | refine below_set ?_ GE208.out | refine below_set ?_ GE216.out) | exact HB.out)) hb)
                        clear BK203
                        clear BK204
                        clear BK208
                        clear BK216
                        clear HB
                        have BK203 := n0_
                        have BK204 := n1_
                        have BK208 := n2_
                        have BK216 := n3_
                        have HB := n4_
                        clear n0_ n1_ n2_ n3_ n4_
                        (try clear hb)
                        (try clear hb2)
                        (try clear hk)
                        (try clear hi)
                        refine hK.out _ _ ⟨(blk_cell BK203.out 0).trans rfl, (blk_cell BK203.out 1).trans rfl, (blk_cell BK204.out 0).trans rfl, (blk_cell BK204.out 1).trans rfl⟩ (fun hHeld => ?_)
                        clear hK K
                        refine norm_ (a' := ?_) ?_ ?_
                        rotate_left
                        · show Act.put _ (some 32) _ = _
                          simp only [Act.put, List.setIfInBounds_toArray, List.set_cons_zero, List.set_cons_succ, i64_w, i32_w]
                          rfl
                        refine pure_ (i := 5) (N := some 27) (v := ?_) (a' := ?_) #[true, true, true, true, true, true, false, false, true, false, false] rfl rfl (any_of HT_.out (by kernel_rfl)) (fun _ _ _ h => h) (Or.inl ⟨by rfl, ?_⟩) ?_ ?_
                        rotate_left
                        · intro w'
                          go_simp
                          with_reducible rfl
                        rotate_left
                        · simp only [Act.put, List.setIfInBounds_toArray, List.set_cons_zero, List.set_cons_succ, i64_w, i32_w]
                          rfl
                        refine pure_ (i := 6) (N := some 33) (v := ?_) (a' := ?_) #[true, true, true, true, true, true, true, false, true, false, false] rfl rfl (any_of HT_.out (by kernel_rfl)) (fun _ _ _ h => h) (Or.inl ⟨by rfl, ?_⟩) ?_ ?_
                        rotate_left
                        · intro w'
                          go_simp
                          with_reducible rfl
                        rotate_left
                        · simp only [Act.put, List.setIfInBounds_toArray, List.set_cons_zero, List.set_cons_succ, i64_w, i32_w]
                          rfl
                        refine pure_ (i := 7) (N := some 34) (v := ?_) (a' := ?_) #[true, true, true, true, true, true, true, true, true, false, false] rfl rfl (any_of HT_.out (by kernel_rfl)) (fun _ _ _ h => h) (Or.inl ⟨by rfl, ?_⟩) ?_ ?_
                        rotate_left
                        · intro w'
                          go_simp
                          with_reducible rfl
                        rotate_left
                        · simp only [Act.put, List.setIfInBounds_toArray, List.set_cons_zero, List.set_cons_succ, i64_w, i32_w]
                          rfl
                        exact norm_ (by simp only [putAll, Act.put, List.setIfInBounds_toArray, List.set_cons_zero, List.set_cons_succ]) (hCont (gb216) _ ⟨hHeld, (by (with_reducible repeat (first | refine blk_drewN ?_ _ | refine blk_drew ?_ | refine blk_alloc ?_ _)); exact BK203.out), (by (with_reducible repeat (first | refine blk_drewN ?_ _ | refine blk_drew ?_ | refine blk_alloc ?_ _)); exact BK204.out), (by (with_reducible repeat (first | refine blk_drewN ?_ _ | refine blk_drew ?_ | refine blk_alloc ?_ _)); exact BK208.out), (by (with_reducible repeat (first | refine blk_drewN ?_ _ | refine blk_drew ?_ | refine blk_alloc ?_ _)); exact BK216.out), GW216.out, GE216.out, NB203_216.out, NB216_203.out, NB204_216.out, NB216_204.out, NB208_216.out, NB216_208.out, (by repeat (first | (with_reducible first | exact HB.out | apply below_alloc | apply pw_below_drewN | apply below_drew1 | refine below_set ?_ GE203.out | refine below_set ?_ GE204.out | refine below_set ?_ GE208.out | refine below_set ?_ GE216.out) | exact HB.out))⟩)
                    · skip
                      refine box_step ?hg (N := 7) ?hd (cs := #[.int .i64 0, .int .i64 0]) (t := 32) ?hr ?_; (case hd => rfl); (case hg => rfl); (case hr => first | (go_simp; done) | (go_simp; rfl))
                      intro gb216 hg w44 hbox hb
                      have n0_ := Aside0.mk (blk_below (g := gb203) (o := .cells #[.int .i64 a0_0, .int .i64 a0_1] 23 (0, 0)) (by (with_reducible repeat (first | refine blk_drewN ?_ _ | refine blk_drew ?_ | refine blk_alloc ?_ _)); exact BK203.out) hb)
                      have n1_ := Aside0.mk (blk_below (g := gb204) (o := .cells #[.int .i64 a1_0, .int .i64 a1_1] 23 (0, 0)) (by (with_reducible repeat (first | refine blk_drewN ?_ _ | refine blk_drew ?_ | refine blk_alloc ?_ _)); exact BK204.out) hb)
                      have n2_ := Aside0.mk (blk_below (g := gb208) (o := .cells #[.int .i64 t205, .int .i64 t206] 23 (0, 0)) (by (with_reducible repeat (first | refine blk_drewN ?_ _ | refine blk_drew ?_ | refine blk_alloc ?_ _)); exact BK208.out) hb)
                      have n3_ := Aside0.mk (below_step (by repeat (first | (with_reducible first | exact HB.out | apply below_alloc | apply pw_below_drewN | apply below_drew1 | refine below_set ?_ GE203.out | refine below_set ?_ GE204.out | refine below_set ?_ GE208.out) | exact HB.out)) hb)
                      have n4_ := Aside0.mk (hbox)
                      have n5_ := Aside0.mk ((by rw [hg]; exact (below_size (by repeat (first | (with_reducible first | exact HB.out | apply below_alloc | apply pw_below_drewN | apply below_drew1 | refine below_set ?_ GE203.out | refine below_set ?_ GE204.out | refine below_set ?_ GE208.out) | exact HB.out))) : w.heap.size ≤ gb216))
                      have n6_ := Aside0.mk ((by rw [hg]; exact (below_size (by repeat (first | (with_reducible first | exact HB.out | apply below_alloc | apply pw_below_drewN | apply below_drew1 | refine below_set ?_ GE203.out | refine below_set ?_ GE204.out | refine below_set ?_ GE208.out) | exact HB.out))) : w.heap.size ≤ gb216))
                      have n7_ := Aside0.mk ((by rw [hg]; exact Nat.ne_of_lt (blk_lt (g := gb203) (o := .cells #[.int .i64 a0_0, .int .i64 a0_1] 23 (0, 0)) (by (with_reducible repeat (first | refine blk_drewN ?_ _ | refine blk_drew ?_ | refine blk_alloc ?_ _)); exact BK203.out)) : gb203 ≠ gb216))
                      have n8_ := Aside0.mk ((by rw [hg]; exact Nat.ne_of_gt (blk_lt (g := gb203) (o := .cells #[.int .i64 a0_0, .int .i64 a0_1] 23 (0, 0)) (by (with_reducible repeat (first | refine blk_drewN ?_ _ | refine blk_drew ?_ | refine blk_alloc ?_ _)); exact BK203.out)) : gb216 ≠ gb203))
                      have n9_ := Aside0.mk ((by rw [hg]; exact Nat.ne_of_lt (blk_lt (g := gb204) (o := .cells #[.int .i64 a1_0, .int .i64 a1_1] 23 (0, 0)) (by (with_reducible repeat (first | refine blk_drewN ?_ _ | refine blk_drew ?_ | refine blk_alloc ?_ _)); exact BK204.out)) : gb204 ≠ gb216))
                      have n10_ := Aside0.mk ((by rw [hg]; exact Nat.ne_of_gt (blk_lt (g := gb204) (o := .cells #[.int .i64 a1_0, .int .i64 a1_1] 23 (0, 0)) (by (with_reducible repeat (first | refine blk_drewN ?_ _ | refine blk_drew ?_ | refine blk_alloc ?_ _)); exact BK204.out)) : gb216 ≠ gb204))
                      have n11_ := Aside0.mk ((by rw [hg]; exact Nat.ne_of_lt (blk_lt (g := gb208) (o := .cells #[.int .i64 t205, .int .i64 t206] 23 (0, 0)) (by (with_reducible repeat (first | refine blk_drewN ?_ _ | refine blk_drew ?_ | refine blk_alloc ?_ _)); exact BK208.out)) : gb208 ≠ gb216))
                      have n12_ := Aside0.mk ((by rw [hg]; exact Nat.ne_of_gt (blk_lt (g := gb208) (o := .cells #[.int .i64 t205, .int .i64 t206] 23 (0, 0)) (by (with_reducible repeat (first | refine blk_drewN ?_ _ | refine blk_drew ?_ | refine blk_alloc ?_ _)); exact BK208.out)) : gb216 ≠ gb208))
                      clear BK203
                      clear BK204
                      clear BK208
                      clear HB
                      have BK203 := n0_
                      have BK204 := n1_
                      have BK208 := n2_
                      have HB := n3_
                      have BK216 := n4_
                      have GW216 := n5_
                      have GE216 := n6_
                      have NB203_216 := n7_
                      have NB216_203 := n8_
                      have NB204_216 := n9_
                      have NB216_204 := n10_
                      have NB208_216 := n11_
                      have NB216_208 := n12_
                      clear n0_ n1_ n2_ n3_ n4_ n5_ n6_ n7_ n8_ n9_ n10_ n11_ n12_
                      clear hb hbox hg
                      refine hK.out _ _ ⟨(blk_cell BK203.out 0).trans rfl, (blk_cell BK203.out 1).trans rfl, (blk_cell BK204.out 0).trans rfl, (blk_cell BK204.out 1).trans rfl⟩ (fun hHeld => ?_)
                      clear hK K
                      refine norm_ (a' := ?_) ?_ ?_
                      rotate_left
                      · show Act.put _ (some 7) _ = _
                        simp only [Act.put, List.setIfInBounds_toArray, List.set_cons_zero, List.set_cons_succ, i64_w, i32_w]
                        rfl
                      refine one_ (i := 1) (N := some 29) #[true, true, true, false, false, false, false, false, true, false, false] rfl rfl (one_of HT_.out (by kernel_rfl)) (by decide) (fun K hK => ?_)
                      refine goes_ Try.func24 (by kernel_rfl) rfl #[.agg #[.int .i64 a0_0, .int .i64 a0_1]] (by rfl) rfl rfl (by (try simp only [List.map_toArray, List.map_cons, List.map_nil]); first | done | rfl | (simp only [List.length_drop, List.length_take]; rfl)) ?_
                      with_reducible refine (mosaiclaw05_Ref.calls a0_0 a0_1 t209 t210 _ A4.out).mono ?_
                      rintro e w45 ⟨rfl, hb⟩
                      refine ⟨_, rfl, ?_⟩
                      have n0_ := Aside0.mk (blk_below (g := gb203) (o := .cells #[.int .i64 a0_0, .int .i64 a0_1] 23 (0, 0)) (by (with_reducible repeat (first | refine blk_drewN ?_ _ | refine blk_drew ?_ | refine blk_alloc ?_ _)); exact BK203.out) hb)
                      have n1_ := Aside0.mk (blk_below (g := gb204) (o := .cells #[.int .i64 a1_0, .int .i64 a1_1] 23 (0, 0)) (by (with_reducible repeat (first | refine blk_drewN ?_ _ | refine blk_drew ?_ | refine blk_alloc ?_ _)); exact BK204.out) hb)
                      have n2_ := Aside0.mk (blk_below (g := gb208) (o := .cells #[.int .i64 t205, .int .i64 t206] 23 (0, 0)) (by (with_reducible repeat (first | refine blk_drewN ?_ _ | refine blk_drew ?_ | refine blk_alloc ?_ _)); exact BK208.out) hb)
                      have n3_ := Aside0.mk (blk_below (g := gb216) (o := .cells #[.int .i64 0, .int .i64 0] 32 (0, 0)) (by (with_reducible repeat (first | refine blk_drewN ?_ _ | refine blk_drew ?_ | refine blk_alloc ?_ _)); exact BK216.out) hb)
                      have n4_ := Aside0.mk (below_step (by repeat (first | (with_reducible first | exact HB.out | apply below_alloc | apply pw_below_drewN | apply below_drew1 | refine below_set ?_ GE203.out | refine below_set ?_ GE204.out | refine below_set ?_ GE208.out | refine below_set ?_ GE216.out) | exact HB.out)) hb)
                      clear BK203
                      clear BK204
                      clear BK208
                      clear BK216
                      clear HB
                      have BK203 := n0_
                      have BK204 := n1_
                      have BK208 := n2_
                      have BK216 := n3_
                      have HB := n4_
                      clear n0_ n1_ n2_ n3_ n4_
                      (try clear hb)
                      (try clear hb2)
                      (try clear hk)
                      (try clear hi)
                      refine hK.out _ _ ⟨(blk_cell BK203.out 0).trans rfl, (blk_cell BK203.out 1).trans rfl, (blk_cell BK204.out 0).trans rfl, (blk_cell BK204.out 1).trans rfl⟩ (fun hHeld => ?_)
                      clear hK K
                      refine norm_ (a' := ?_) ?_ ?_
                      rotate_left
                      · show Act.put _ (some 29) _ = _
                        simp only [Act.put, List.setIfInBounds_toArray, List.set_cons_zero, List.set_cons_succ, i64_w, i32_w]
                        rfl
                      refine one_ (i := 3) (N := some 31) #[true, true, true, true, false, false, false, false, true, false, false] rfl rfl (one_of HT_.out (by kernel_rfl)) (by decide) (fun K hK => ?_)
                      refine goes_ Try.func24 (by kernel_rfl) rfl #[.agg #[.int .i64 a1_0, .int .i64 a1_1]] (by rfl) rfl rfl (by (try simp only [List.map_toArray, List.map_cons, List.map_nil]); first | done | rfl | (simp only [List.length_drop, List.length_take]; rfl)) ?_
                      with_reducible refine (mosaiclaw05_Ref.calls a1_0 a1_1 t211 t212 _ A5.out).mono ?_
                      rintro e w46 ⟨rfl, hb⟩
                      refine ⟨_, rfl, ?_⟩
                      have n0_ := Aside0.mk (blk_below (g := gb203) (o := .cells #[.int .i64 a0_0, .int .i64 a0_1] 23 (0, 0)) (by (with_reducible repeat (first | refine blk_drewN ?_ _ | refine blk_drew ?_ | refine blk_alloc ?_ _)); exact BK203.out) hb)
                      have n1_ := Aside0.mk (blk_below (g := gb204) (o := .cells #[.int .i64 a1_0, .int .i64 a1_1] 23 (0, 0)) (by (with_reducible repeat (first | refine blk_drewN ?_ _ | refine blk_drew ?_ | refine blk_alloc ?_ _)); exact BK204.out) hb)
                      have n2_ := Aside0.mk (blk_below (g := gb208) (o := .cells #[.int .i64 t205, .int .i64 t206] 23 (0, 0)) (by (with_reducible repeat (first | refine blk_drewN ?_ _ | refine blk_drew ?_ | refine blk_alloc ?_ _)); exact BK208.out) hb)
                      have n3_ := Aside0.mk (blk_below (g := gb216) (o := .cells #[.int .i64 0, .int .i64 0] 32 (0, 0)) (by (with_reducible repeat (first | refine blk_drewN ?_ _ | refine blk_drew ?_ | refine blk_alloc ?_ _)); exact BK216.out) hb)
                      have n4_ := Aside0.mk (below_step (by repeat (first | (with_reducible first | exact HB.out | apply below_alloc | apply pw_below_drewN | apply below_drew1 | refine below_set ?_ GE203.out | refine below_set ?_ GE204.out | refine below_set ?_ GE208.out | refine below_set ?_ GE216.out) | exact HB.out)) hb)
                      clear BK203
                      clear BK204
                      clear BK208
                      clear BK216
                      clear HB
                      have BK203 := n0_
                      have BK204 := n1_
                      have BK208 := n2_
                      have BK216 := n3_
                      have HB := n4_
                      clear n0_ n1_ n2_ n3_ n4_
                      (try clear hb)
                      (try clear hb2)
                      (try clear hk)
                      (try clear hi)
                      refine hK.out _ _ ⟨(blk_cell BK203.out 0).trans rfl, (blk_cell BK203.out 1).trans rfl, (blk_cell BK204.out 0).trans rfl, (blk_cell BK204.out 1).trans rfl⟩ (fun hHeld => ?_)
                      clear hK K
                      refine norm_ (a' := ?_) ?_ ?_
                      rotate_left
                      · show Act.put _ (some 31) _ = _
                        simp only [Act.put, List.setIfInBounds_toArray, List.set_cons_zero, List.set_cons_succ, i64_w, i32_w]
                        rfl
                      refine one_ (i := 4) (N := some 32) #[true, true, true, true, true, false, false, false, true, false, false] rfl rfl (one_of HT_.out (by kernel_rfl)) (by decide) (fun K hK => ?_)
                      refine goes_ Try.func37 (by kernel_rfl) rfl #[.agg #[.int .i64 t209, .int .i64 t210], .agg #[.int .i64 t211, .int .i64 t212], .int .i64 1] (by rfl) rfl rfl (by (try simp only [List.map_toArray, List.map_cons, List.map_nil]); first | done | rfl | (simp only [List.length_drop, List.length_take]; rfl)) ?_
                      with_reducible refine (mosaicref05_Sum.calls k t209 t210 t211 t212 1 t213 t214 t215 _ A6.out).mono ?_
                      rintro e w47 ⟨rfl, hb⟩
                      refine ⟨_, rfl, ?_⟩
                      have n0_ := Aside0.mk (blk_below (g := gb203) (o := .cells #[.int .i64 a0_0, .int .i64 a0_1] 23 (0, 0)) (by (with_reducible repeat (first | refine blk_drewN ?_ _ | refine blk_drew ?_ | refine blk_alloc ?_ _)); exact BK203.out) hb)
                      have n1_ := Aside0.mk (blk_below (g := gb204) (o := .cells #[.int .i64 a1_0, .int .i64 a1_1] 23 (0, 0)) (by (with_reducible repeat (first | refine blk_drewN ?_ _ | refine blk_drew ?_ | refine blk_alloc ?_ _)); exact BK204.out) hb)
                      have n2_ := Aside0.mk (blk_below (g := gb208) (o := .cells #[.int .i64 t205, .int .i64 t206] 23 (0, 0)) (by (with_reducible repeat (first | refine blk_drewN ?_ _ | refine blk_drew ?_ | refine blk_alloc ?_ _)); exact BK208.out) hb)
                      have n3_ := Aside0.mk (blk_below (g := gb216) (o := .cells #[.int .i64 0, .int .i64 0] 32 (0, 0)) (by (with_reducible repeat (first | refine blk_drewN ?_ _ | refine blk_drew ?_ | refine blk_alloc ?_ _)); exact BK216.out) hb)
                      have n4_ := Aside0.mk (below_step (by repeat (first | (with_reducible first | exact HB.out | apply below_alloc | apply pw_below_drewN | apply below_drew1 | refine below_set ?_ GE203.out | refine below_set ?_ GE204.out | refine below_set ?_ GE208.out | refine below_set ?_ GE216.out) | exact HB.out)) hb)
                      clear BK203
                      clear BK204
                      clear BK208
                      clear BK216
                      clear HB
                      have BK203 := n0_
                      have BK204 := n1_
                      have BK208 := n2_
                      have BK216 := n3_
                      have HB := n4_
                      clear n0_ n1_ n2_ n3_ n4_
                      (try clear hb)
                      (try clear hb2)
                      (try clear hk)
                      (try clear hi)
                      refine hK.out _ _ ⟨(blk_cell BK203.out 0).trans rfl, (blk_cell BK203.out 1).trans rfl, (blk_cell BK204.out 0).trans rfl, (blk_cell BK204.out 1).trans rfl⟩ (fun hHeld => ?_)
                      clear hK K
                      refine norm_ (a' := ?_) ?_ ?_
                      rotate_left
                      · show Act.put _ (some 32) _ = _
                        simp only [Act.put, List.setIfInBounds_toArray, List.set_cons_zero, List.set_cons_succ, i64_w, i32_w]
                        rfl
                      refine pure_ (i := 5) (N := some 27) (v := ?_) (a' := ?_) #[true, true, true, true, true, true, false, false, true, false, false] rfl rfl (any_of HT_.out (by kernel_rfl)) (fun _ _ _ h => h) (Or.inl ⟨by rfl, ?_⟩) ?_ ?_
                      rotate_left
                      · intro w'
                        go_simp
                        with_reducible rfl
                      rotate_left
                      · simp only [Act.put, List.setIfInBounds_toArray, List.set_cons_zero, List.set_cons_succ, i64_w, i32_w]
                        rfl
                      refine pure_ (i := 6) (N := some 33) (v := ?_) (a' := ?_) #[true, true, true, true, true, true, true, false, true, false, false] rfl rfl (any_of HT_.out (by kernel_rfl)) (fun _ _ _ h => h) (Or.inl ⟨by rfl, ?_⟩) ?_ ?_
                      rotate_left
                      · intro w'
                        go_simp
                        with_reducible rfl
                      rotate_left
                      · simp only [Act.put, List.setIfInBounds_toArray, List.set_cons_zero, List.set_cons_succ, i64_w, i32_w]
                        rfl
                      refine pure_ (i := 7) (N := some 34) (v := ?_) (a' := ?_) #[true, true, true, true, true, true, true, true, true, false, false] rfl rfl (any_of HT_.out (by kernel_rfl)) (fun _ _ _ h => h) (Or.inl ⟨by rfl, ?_⟩) ?_ ?_
                      rotate_left
                      · intro w'
                        go_simp
                        with_reducible rfl
                      rotate_left
                      · simp only [Act.put, List.setIfInBounds_toArray, List.set_cons_zero, List.set_cons_succ, i64_w, i32_w]
                        rfl
                      exact norm_ (by simp only [putAll, Act.put, List.setIfInBounds_toArray, List.set_cons_zero, List.set_cons_succ]) (hCont (gb216) _ ⟨hHeld, (by (with_reducible repeat (first | refine blk_drewN ?_ _ | refine blk_drew ?_ | refine blk_alloc ?_ _)); exact BK203.out), (by (with_reducible repeat (first | refine blk_drewN ?_ _ | refine blk_drew ?_ | refine blk_alloc ?_ _)); exact BK204.out), (by (with_reducible repeat (first | refine blk_drewN ?_ _ | refine blk_drew ?_ | refine blk_alloc ?_ _)); exact BK208.out), (by (with_reducible repeat (first | refine blk_drewN ?_ _ | refine blk_drew ?_ | refine blk_alloc ?_ _)); exact BK216.out), GW216.out, GE216.out, NB203_216.out, NB216_203.out, NB204_216.out, NB216_204.out, NB208_216.out, NB216_208.out, (by repeat (first | (with_reducible first | exact HB.out | apply below_alloc | apply pw_below_drewN | apply below_drew1 | refine below_set ?_ GE203.out | refine below_set ?_ GE204.out | refine below_set ?_ GE208.out | refine below_set ?_ GE216.out) | exact HB.out))⟩)
                  rintro gb216 w48 ⟨hS_, h0_, h1_, h2_, h3_, h4_, h5_, h6_, h7_, h8_, h9_, h10_, h11_, h12_⟩
                  have n0_ : Aside0 (w48.heap[gb203]? = some (.cells #[.int .i64 a0_0, .int .i64 a0_1] 23 (0, 0))) := ⟨h0_⟩
                  have n1_ : Aside0 (w48.heap[gb204]? = some (.cells #[.int .i64 a1_0, .int .i64 a1_1] 23 (0, 0))) := ⟨h1_⟩
                  have n2_ : Aside0 (w48.heap[gb208]? = some (.cells #[.int .i64 t205, .int .i64 t206] 23 (0, 0))) := ⟨h2_⟩
                  have n3_ : Aside0 (w48.heap[gb216]? = some (.cells #[.int .i64 0, .int .i64 0] 32 (0, 0))) := ⟨h3_⟩
                  have n4_ : Aside0 (w.heap.size ≤ gb216) := ⟨h4_⟩
                  have n5_ : Aside0 (w.heap.size ≤ gb216) := ⟨h5_⟩
                  have n6_ : Aside0 (gb203 ≠ gb216) := ⟨h6_⟩
                  have n7_ : Aside0 (gb216 ≠ gb203) := ⟨h7_⟩
                  have n8_ : Aside0 (gb204 ≠ gb216) := ⟨h8_⟩
                  have n9_ : Aside0 (gb216 ≠ gb204) := ⟨h9_⟩
                  have n10_ : Aside0 (gb208 ≠ gb216) := ⟨h10_⟩
                  have n11_ : Aside0 (gb216 ≠ gb208) := ⟨h11_⟩
                  have n12_ : Aside0 (Below w.heap.size w w48) := ⟨h12_⟩
                  clear BK203
                  clear BK204
                  clear BK208
                  clear HB
                  clear h0_ h1_ h2_ h3_ h4_ h5_ h6_ h7_ h8_ h9_ h10_ h11_ h12_
                  have BK203 := n0_
                  have BK204 := n1_
                  have BK208 := n2_
                  have BK216 := n3_
                  have GW216 := n4_
                  have GE216 := n5_
                  have NB203_216 := n6_
                  have NB216_203 := n7_
                  have NB204_216 := n8_
                  have NB216_204 := n9_
                  have NB208_216 := n10_
                  have NB216_208 := n11_
                  have HB := n12_
                  clear n0_ n1_ n2_ n3_ n4_ n5_ n6_ n7_ n8_ n9_ n10_ n11_ n12_
                  have hHeld : w48.cell? ⟨gb203, 0, none⟩ = some (.int .i64 a0_0) ∧ w48.cell? ⟨gb203, 1, none⟩ = some (.int .i64 a0_1) ∧ w48.cell? ⟨gb204, 0, none⟩ = some (.int .i64 a1_0) ∧ w48.cell? ⟨gb204, 1, none⟩ = some (.int .i64 a1_1) := hS_
                  refine norm_ (a' := ?_) ?_ ?_
                  rotate_left
                  · simp only [putAll, Act.put, List.setIfInBounds_toArray, List.set_cons_zero, List.set_cons_succ]
                    rfl
                  refine one_ (i := 9) (N := none) #[true, true, true, true, true, true, true, true, true, true, false] rfl rfl (one_of HT_.out (by kernel_rfl)) (by decide) (fun K hK => ?_)
                  have hs49 : w48.cell? ⟨gb216, 0, none⟩ = some (.int .i64 0) := (blk_cell BK216.out 0).trans rfl
                  have hfs49 := blk_frozen BK216.out 0
                  have hns49_0 := NB203_216.out
                  have hns49_1 := NB204_216.out
                  have hns49_2 := NB208_216.out
                  have hms49_0 := NB216_203.out
                  have hms49_1 := NB216_204.out
                  have hms49_2 := NB216_208.out
                  have hs50 : w48.cell? ⟨gb216, 1, none⟩ = some (.int .i64 0) := (blk_cell BK216.out 1).trans rfl
                  have hfs50 := blk_frozen BK216.out 1
                  have hns50_0 := NB203_216.out
                  have hns50_1 := NB204_216.out
                  have hns50_2 := NB208_216.out
                  have hms50_0 := NB216_203.out
                  have hms50_1 := NB216_204.out
                  have hms50_2 := NB216_208.out
                  refine skip_ (w1 := ?_) (by rfl) rfl ?_ ?_
                  rotate_left
                  · go_simp
                    rfl
                  refine hK.out _ _ ⟨((cell_far (p := ⟨gb216, _, none⟩) NB203_216.out _).trans (((cell_far (p := ⟨gb216, _, none⟩) NB203_216.out _).trans (hHeld.1)))), ((cell_far (p := ⟨gb216, _, none⟩) NB203_216.out _).trans (((cell_far (p := ⟨gb216, _, none⟩) NB203_216.out _).trans (hHeld.2.1)))), ((cell_far (p := ⟨gb216, _, none⟩) NB204_216.out _).trans (((cell_far (p := ⟨gb216, _, none⟩) NB204_216.out _).trans (hHeld.2.2.1)))), ((cell_far (p := ⟨gb216, _, none⟩) NB204_216.out _).trans (((cell_far (p := ⟨gb216, _, none⟩) NB204_216.out _).trans (hHeld.2.2.2))))⟩ (fun hHeld => ?_)
                  clear hK K
                  refine pure_ (i := 10) (N := some 8) (v := ?_) (a' := ?_) #[true, true, true, true, true, true, true, true, true, true, true] rfl rfl (any_of HT_.out (by kernel_rfl)) (fun _ _ _ h => h) (Or.inl ⟨by rfl, ?_⟩) ?_ ?_
                  rotate_left
                  · intro w'
                    go_simp
                    with_reducible rfl
                  rotate_left
                  · simp only [Act.put, List.setIfInBounds_toArray, List.set_cons_zero, List.set_cons_succ, i64_w, i32_w]
                    rfl
                  refine done_ (done_of HT_.out (by kernel_rfl)) ?_
                  have hnb51 := NB203_216.out
                  have hnc51 := NB216_203.out
                  have hcz52_0 : w48.cell? ⟨gb203, 0, none⟩ = some (.int .i64 a0_0) := (blk_cell BK203.out 0).trans rfl
                  have hcz52_1 : w48.cell? ⟨gb203, 1, none⟩ = some (.int .i64 a0_1) := (blk_cell BK203.out 1).trans rfl
                  have hfz52_0 := blk_frozen BK203.out 0
                  have hfz52_1 := blk_frozen BK203.out 1
                  have hnb53 := NB204_216.out
                  have hnc53 := NB216_204.out
                  have hcz54_0 : w48.cell? ⟨gb204, 0, none⟩ = some (.int .i64 a1_0) := (blk_cell BK204.out 0).trans rfl
                  have hcz54_1 : w48.cell? ⟨gb204, 1, none⟩ = some (.int .i64 a1_1) := (blk_cell BK204.out 1).trans rfl
                  have hfz54_0 := blk_frozen BK204.out 0
                  have hfz54_1 := blk_frozen BK204.out 1
                  try go_wp2_with (first | ((with_reducible refine gate_callee (f := 38) rfl ?_); refine goesL_ (some 38) rfl rfl Try.func38 (by kernel_rfl) rfl #[.agg #[.int .i64 a0_0, .int .i64 a0_1], .agg #[.int .i64 a1_0, .int .i64 a1_1]] rfl (by (try simp only [List.map_toArray, List.map_cons, List.map_nil]); first | done | rfl | (simp only [List.length_drop, List.length_take]; rfl)) ?_; (with_reducible refine (ratio_Sub.calls a0_0 a0_1 a1_0 a1_1 t217 t218 t219 _ A7.out).mono ?_); rintro e w55 ⟨rfl, hb⟩; refine ⟨_, rfl, ?_⟩; have n0_ := Aside0.mk (blk_below (g := gb203) (o := .cells #[.int .i64 a0_0, .int .i64 a0_1] 23 (0, 0)) (by (with_reducible repeat (first | refine blk_drewN ?_ _ | refine blk_drew ?_ | refine blk_alloc ?_ _)); refine blk_far ?_ NB203_216.out _; (with_reducible repeat (first | refine blk_drewN ?_ _ | refine blk_drew ?_ | refine blk_alloc ?_ _)); refine blk_far ?_ NB203_216.out _; (with_reducible repeat (first | refine blk_drewN ?_ _ | refine blk_drew ?_ | refine blk_alloc ?_ _)); exact BK203.out) hb); have n1_ := Aside0.mk (blk_below (g := gb204) (o := .cells #[.int .i64 a1_0, .int .i64 a1_1] 23 (0, 0)) (by (with_reducible repeat (first | refine blk_drewN ?_ _ | refine blk_drew ?_ | refine blk_alloc ?_ _)); refine blk_far ?_ NB204_216.out _; (with_reducible repeat (first | refine blk_drewN ?_ _ | refine blk_drew ?_ | refine blk_alloc ?_ _)); refine blk_far ?_ NB204_216.out _; (with_reducible repeat (first | refine blk_drewN ?_ _ | refine blk_drew ?_ | refine blk_alloc ?_ _)); exact BK204.out) hb); have n2_ := Aside0.mk (blk_below (g := gb208) (o := .cells #[.int .i64 t205, .int .i64 t206] 23 (0, 0)) (by (with_reducible repeat (first | refine blk_drewN ?_ _ | refine blk_drew ?_ | refine blk_alloc ?_ _)); refine blk_far ?_ NB208_216.out _; (with_reducible repeat (first | refine blk_drewN ?_ _ | refine blk_drew ?_ | refine blk_alloc ?_ _)); refine blk_far ?_ NB208_216.out _; (with_reducible repeat (first | refine blk_drewN ?_ _ | refine blk_drew ?_ | refine blk_alloc ?_ _)); exact BK208.out) hb); have n3_ := Aside0.mk (blk_below (g := gb216) (o := .cells #[.int .i64 t213, .int .i64 t214] 32 (0, 0)) (by (with_reducible repeat (first | refine blk_drewN ?_ _ | refine blk_drew ?_ | refine blk_alloc ?_ _)); refine blk_put (cs := #[.int .i64 t213, .int .i64 0]) ?_ 1 _ rfl; (with_reducible repeat (first | refine blk_drewN ?_ _ | refine blk_drew ?_ | refine blk_alloc ?_ _)); refine blk_put (cs := #[.int .i64 0, .int .i64 0]) ?_ 0 _ rfl; (with_reducible repeat (first | refine blk_drewN ?_ _ | refine blk_drew ?_ | refine blk_alloc ?_ _)); exact BK216.out) hb); have n4_ := Aside0.mk (below_step (by repeat (first | (with_reducible first | exact HB.out | apply below_alloc | apply pw_below_drewN | apply below_drew1 | refine below_set ?_ GE203.out | refine below_set ?_ GE204.out | refine below_set ?_ GE208.out | refine below_set ?_ GE216.out) | exact HB.out)) hb); clear BK203; clear BK204; clear BK208; clear BK216; clear HB; have BK203 := n0_; have BK204 := n1_; have BK208 := n2_; have BK216 := n3_; have HB := n4_; clear n0_ n1_ n2_ n3_ n4_; (try clear hb); (try clear hb2); (try clear hk); (try clear hi)) | ((with_reducible refine gate_dst (N := 9) rfl ?_); refine box_event ?hg (N := 9) ?hd (cs := #[.int .i64 0, .int .i64 0]) (t := 23) ?hr ?_; (case hd => rfl); (case hg => rfl); (case hr => first | (go_simp; done) | (go_simp; rfl)); intro gb220 hg w56 hbox hb; have n0_ := Aside0.mk (blk_below (g := gb203) (o := .cells #[.int .i64 a0_0, .int .i64 a0_1] 23 (0, 0)) (by (with_reducible repeat (first | refine blk_drewN ?_ _ | refine blk_drew ?_ | refine blk_alloc ?_ _)); exact BK203.out) hb); have n1_ := Aside0.mk (blk_below (g := gb204) (o := .cells #[.int .i64 a1_0, .int .i64 a1_1] 23 (0, 0)) (by (with_reducible repeat (first | refine blk_drewN ?_ _ | refine blk_drew ?_ | refine blk_alloc ?_ _)); exact BK204.out) hb); have n2_ := Aside0.mk (blk_below (g := gb208) (o := .cells #[.int .i64 t205, .int .i64 t206] 23 (0, 0)) (by (with_reducible repeat (first | refine blk_drewN ?_ _ | refine blk_drew ?_ | refine blk_alloc ?_ _)); exact BK208.out) hb); have n3_ := Aside0.mk (blk_below (g := gb216) (o := .cells #[.int .i64 t213, .int .i64 t214] 32 (0, 0)) (by (with_reducible repeat (first | refine blk_drewN ?_ _ | refine blk_drew ?_ | refine blk_alloc ?_ _)); exact BK216.out) hb); have n4_ := Aside0.mk (below_step (by repeat (first | (with_reducible first | exact HB.out | apply below_alloc | apply pw_below_drewN | apply below_drew1 | refine below_set ?_ GE203.out | refine below_set ?_ GE204.out | refine below_set ?_ GE208.out | refine below_set ?_ GE216.out) | exact HB.out)) hb); have n5_ := Aside0.mk (hbox); have n6_ := Aside0.mk ((by rw [hg]; exact (below_size (by repeat (first | (with_reducible first | exact HB.out | apply below_alloc | apply pw_below_drewN | apply below_drew1 | refine below_set ?_ GE203.out | refine below_set ?_ GE204.out | refine below_set ?_ GE208.out | refine below_set ?_ GE216.out) | exact HB.out))) : w.heap.size ≤ gb220)); have n7_ := Aside0.mk ((by rw [hg]; exact (below_size (by repeat (first | (with_reducible first | exact HB.out | apply below_alloc | apply pw_below_drewN | apply below_drew1 | refine below_set ?_ GE203.out | refine below_set ?_ GE204.out | refine below_set ?_ GE208.out | refine below_set ?_ GE216.out) | exact HB.out))) : w.heap.size ≤ gb220)); have n8_ := Aside0.mk ((by rw [hg]; exact Nat.ne_of_lt (blk_lt (g := gb203) (o := .cells #[.int .i64 a0_0, .int .i64 a0_1] 23 (0, 0)) (by (with_reducible repeat (first | refine blk_drewN ?_ _ | refine blk_drew ?_ | refine blk_alloc ?_ _)); exact BK203.out)) : gb203 ≠ gb220)); have n9_ := Aside0.mk ((by rw [hg]; exact Nat.ne_of_gt (blk_lt (g := gb203) (o := .cells #[.int .i64 a0_0, .int .i64 a0_1] 23 (0, 0)) (by (with_reducible repeat (first | refine blk_drewN ?_ _ | refine blk_drew ?_ | refine blk_alloc ?_ _)); exact BK203.out)) : gb220 ≠ gb203)); have n10_ := Aside0.mk ((by rw [hg]; exact Nat.ne_of_lt (blk_lt (g := gb204) (o := .cells #[.int .i64 a1_0, .int .i64 a1_1] 23 (0, 0)) (by (with_reducible repeat (first | refine blk_drewN ?_ _ | refine blk_drew ?_ | refine blk_alloc ?_ _)); exact BK204.out)) : gb204 ≠ gb220)); have n11_ := Aside0.mk ((by rw [hg]; exact Nat.ne_of_gt (blk_lt (g := gb204) (o := .cells #[.int .i64 a1_0, .int .i64 a1_1] 23 (0, 0)) (by (with_reducible repeat (first | refine blk_drewN ?_ _ | refine blk_drew ?_ | refine blk_alloc ?_ _)); exact BK204.out)) : gb220 ≠ gb204)); have n12_ := Aside0.mk ((by rw [hg]; exact Nat.ne_of_lt (blk_lt (g := gb208) (o := .cells #[.int .i64 t205, .int .i64 t206] 23 (0, 0)) (by (with_reducible repeat (first | refine blk_drewN ?_ _ | refine blk_drew ?_ | refine blk_alloc ?_ _)); exact BK208.out)) : gb208 ≠ gb220)); have n13_ := Aside0.mk ((by rw [hg]; exact Nat.ne_of_gt (blk_lt (g := gb208) (o := .cells #[.int .i64 t205, .int .i64 t206] 23 (0, 0)) (by (with_reducible repeat (first | refine blk_drewN ?_ _ | refine blk_drew ?_ | refine blk_alloc ?_ _)); exact BK208.out)) : gb220 ≠ gb208)); have n14_ := Aside0.mk ((by rw [hg]; exact Nat.ne_of_lt (blk_lt (g := gb216) (o := .cells #[.int .i64 t213, .int .i64 t214] 32 (0, 0)) (by (with_reducible repeat (first | refine blk_drewN ?_ _ | refine blk_drew ?_ | refine blk_alloc ?_ _)); exact BK216.out)) : gb216 ≠ gb220)); have n15_ := Aside0.mk ((by rw [hg]; exact Nat.ne_of_gt (blk_lt (g := gb216) (o := .cells #[.int .i64 t213, .int .i64 t214] 32 (0, 0)) (by (with_reducible repeat (first | refine blk_drewN ?_ _ | refine blk_drew ?_ | refine blk_alloc ?_ _)); exact BK216.out)) : gb220 ≠ gb216)); clear BK203; clear BK204; clear BK208; clear BK216; clear HB; have BK203 := n0_; have BK204 := n1_; have BK208 := n2_; have BK216 := n3_; have HB := n4_; have BK220 := n5_; have GW220 := n6_; have GE220 := n7_; have NB203_220 := n8_; have NB220_203 := n9_; have NB204_220 := n10_; have NB220_204 := n11_; have NB208_220 := n12_; have NB220_208 := n13_; have NB216_220 := n14_; have NB220_216 := n15_; clear n0_ n1_ n2_ n3_ n4_ n5_ n6_ n7_ n8_ n9_ n10_ n11_ n12_ n13_ n14_ n15_; clear hb hbox hg; have hnb57 := NB220_203.out; have hnc57 := NB203_220.out; have hnb58 := NB220_204.out; have hnc58 := NB204_220.out; have hnb59 := NB220_208.out; have hnc59 := NB208_220.out; have hnb60 := NB220_216.out; have hnc60 := NB216_220.out; have hcz61_0 : w56.cell? ⟨gb220, 0, none⟩ = some (.int .i64 0) := (blk_cell BK220.out 0).trans rfl; have hcz61_1 : w56.cell? ⟨gb220, 1, none⟩ = some (.int .i64 0) := (blk_cell BK220.out 1).trans rfl; have hfz61_0 := blk_frozen BK220.out 0; have hfz61_1 := blk_frozen BK220.out 1))
                  have n0_ : Aside0 (((w56.setCell ⟨gb220, 0, none⟩ (.int .i64 t217)).setCell ⟨gb220, 1, none⟩ (.int .i64 t218)).heap[gb203]? = some (.cells #[.int .i64 a0_0, .int .i64 a0_1] 23 (0, 0))) := ⟨by (with_reducible repeat (first | refine blk_drewN ?_ _ | refine blk_drew ?_ | refine blk_alloc ?_ _)); refine blk_far ?_ NB203_220.out _; (with_reducible repeat (first | refine blk_drewN ?_ _ | refine blk_drew ?_ | refine blk_alloc ?_ _)); refine blk_far ?_ NB203_220.out _; (with_reducible repeat (first | refine blk_drewN ?_ _ | refine blk_drew ?_ | refine blk_alloc ?_ _)); exact BK203.out⟩
                  have n1_ : Aside0 (((w56.setCell ⟨gb220, 0, none⟩ (.int .i64 t217)).setCell ⟨gb220, 1, none⟩ (.int .i64 t218)).heap[gb204]? = some (.cells #[.int .i64 a1_0, .int .i64 a1_1] 23 (0, 0))) := ⟨by (with_reducible repeat (first | refine blk_drewN ?_ _ | refine blk_drew ?_ | refine blk_alloc ?_ _)); refine blk_far ?_ NB204_220.out _; (with_reducible repeat (first | refine blk_drewN ?_ _ | refine blk_drew ?_ | refine blk_alloc ?_ _)); refine blk_far ?_ NB204_220.out _; (with_reducible repeat (first | refine blk_drewN ?_ _ | refine blk_drew ?_ | refine blk_alloc ?_ _)); exact BK204.out⟩
                  have n2_ : Aside0 (((w56.setCell ⟨gb220, 0, none⟩ (.int .i64 t217)).setCell ⟨gb220, 1, none⟩ (.int .i64 t218)).heap[gb208]? = some (.cells #[.int .i64 t205, .int .i64 t206] 23 (0, 0))) := ⟨by (with_reducible repeat (first | refine blk_drewN ?_ _ | refine blk_drew ?_ | refine blk_alloc ?_ _)); refine blk_far ?_ NB208_220.out _; (with_reducible repeat (first | refine blk_drewN ?_ _ | refine blk_drew ?_ | refine blk_alloc ?_ _)); refine blk_far ?_ NB208_220.out _; (with_reducible repeat (first | refine blk_drewN ?_ _ | refine blk_drew ?_ | refine blk_alloc ?_ _)); exact BK208.out⟩
                  have n3_ : Aside0 (((w56.setCell ⟨gb220, 0, none⟩ (.int .i64 t217)).setCell ⟨gb220, 1, none⟩ (.int .i64 t218)).heap[gb216]? = some (.cells #[.int .i64 t213, .int .i64 t214] 32 (0, 0))) := ⟨by (with_reducible repeat (first | refine blk_drewN ?_ _ | refine blk_drew ?_ | refine blk_alloc ?_ _)); refine blk_far ?_ NB216_220.out _; (with_reducible repeat (first | refine blk_drewN ?_ _ | refine blk_drew ?_ | refine blk_alloc ?_ _)); refine blk_far ?_ NB216_220.out _; (with_reducible repeat (first | refine blk_drewN ?_ _ | refine blk_drew ?_ | refine blk_alloc ?_ _)); exact BK216.out⟩
                  have n4_ : Aside0 (((w56.setCell ⟨gb220, 0, none⟩ (.int .i64 t217)).setCell ⟨gb220, 1, none⟩ (.int .i64 t218)).heap[gb220]? = some (.cells #[.int .i64 t217, .int .i64 t218] 23 (0, 0))) := ⟨by (with_reducible repeat (first | refine blk_drewN ?_ _ | refine blk_drew ?_ | refine blk_alloc ?_ _)); refine blk_put (cs := #[.int .i64 t217, .int .i64 0]) ?_ 1 _ rfl; (with_reducible repeat (first | refine blk_drewN ?_ _ | refine blk_drew ?_ | refine blk_alloc ?_ _)); refine blk_put (cs := #[.int .i64 0, .int .i64 0]) ?_ 0 _ rfl; (with_reducible repeat (first | refine blk_drewN ?_ _ | refine blk_drew ?_ | refine blk_alloc ?_ _)); exact BK220.out⟩
                  have n5_ : Aside0 (Below w.heap.size w ((w56.setCell ⟨gb220, 0, none⟩ (.int .i64 t217)).setCell ⟨gb220, 1, none⟩ (.int .i64 t218))) := ⟨by repeat (first | (with_reducible first | exact HB.out | apply below_alloc | apply pw_below_drewN | apply below_drew1 | refine below_set ?_ GE203.out | refine below_set ?_ GE204.out | refine below_set ?_ GE208.out | refine below_set ?_ GE216.out | refine below_set ?_ GE220.out) | exact HB.out)⟩
                  (try clear BK203)
                  (try clear BK204)
                  (try clear BK208)
                  (try clear BK216)
                  (try clear BK220)
                  (try clear HB)
                  generalize ((w56.setCell ⟨gb220, 0, none⟩ (.int .i64 t217)).setCell ⟨gb220, 1, none⟩ (.int .i64 t218)) = w62 at n0_ n1_ n2_ n3_ n4_ n5_ ⊢
                  have BK203 := n0_
                  have BK204 := n1_
                  have BK208 := n2_
                  have BK216 := n3_
                  have BK220 := n4_
                  have HB := n5_
                  clear n0_ n1_ n2_ n3_ n4_ n5_
                  have n0_ := Aside0.mk (blk_drew BK203.out)
                  have n1_ := Aside0.mk (blk_drew BK204.out)
                  have n2_ := Aside0.mk (blk_drew BK208.out)
                  have n3_ := Aside0.mk (blk_drew BK216.out)
                  have n4_ := Aside0.mk (blk_drew BK220.out)
                  have n5_ := Aside0.mk (below_drew1 HB.out)
                  clear BK203
                  clear BK204
                  clear BK208
                  clear BK216
                  clear BK220
                  clear HB
                  have BK203 := n0_
                  have BK204 := n1_
                  have BK208 := n2_
                  have BK216 := n3_
                  have BK220 := n4_
                  have HB := n5_
                  clear n0_ n1_ n2_ n3_ n4_ n5_
                  refine start_ (n := 11) (S := fun w' => w'.cell? ⟨gb203, 0, none⟩ = some (.int .i64 a0_0) ∧ w'.cell? ⟨gb203, 1, none⟩ = some (.int .i64 a0_1) ∧ w'.cell? ⟨gb204, 0, none⟩ = some (.int .i64 a1_0) ∧ w'.cell? ⟨gb204, 1, none⟩ = some (.int .i64 a1_1)) (ds := []) #[false, false, false, false, false, false, false, false, false, false, false] (by kernel_rfl) rfl rfl ⟨(blk_cell BK203.out 0).trans rfl, (blk_cell BK203.out 1).trans rfl, (blk_cell BK204.out 0).trans rfl, (blk_cell BK204.out 1).trans rfl⟩ (fun hHeld => ?_); refine with_tabW mosaiclaw05_RatioReckons.tab4 mosaiclaw05_RatioReckons.bits4 (fun HT_ HW_ => ?_)
                  generalize w62.drew = w63 at BK203 BK204 BK208 BK216 BK220 HB hHeld ⊢
                  refine take_ (i := 0) (N := some 42) (v := ?_) (a' := ?_) #[true, false, false, false, false, false, false, false, false, false, false] rfl rfl (take_ofW HT_.out HW_.out (by kernel_rfl)) (fun _ _ _ h => h) (Or.inl ⟨by rfl, ?_⟩) hHeld ?_ ?_
                  rotate_left
                  · rintro w' ⟨s0, s1, s2, s3⟩
                    go_simp
                    with_reducible rfl
                  rotate_left
                  · simp only [Act.put, List.setIfInBounds_toArray, List.set_cons_zero, List.set_cons_succ, i64_w, i32_w]
                    rfl
                  refine take_ (i := 2) (N := some 44) (v := ?_) (a' := ?_) #[true, false, true, false, false, false, false, false, false, false, false] rfl rfl (take_ofW HT_.out HW_.out (by kernel_rfl)) (fun _ _ _ h => h) (Or.inl ⟨by rfl, ?_⟩) hHeld ?_ ?_
                  rotate_left
                  · rintro w' ⟨s0, s1, s2, s3⟩
                    go_simp
                    with_reducible rfl
                  rotate_left
                  · simp only [Act.put, List.setIfInBounds_toArray, List.set_cons_zero, List.set_cons_succ, i64_w, i32_w]
                    rfl
                  refine join_ (σ := Nat) 2 #[true, true, true, true, true, true, true, true, true, false, false] (fun s_ => [(43, .agg #[.int .i64 t221, .int .i64 t222]), (45, .agg #[.int .i64 t223, .int .i64 t224]), (46, .tuple #[.agg #[.int .i64 t225, .int .i64 t226], .int .i64 t227]), (11, .pointer (some ⟨s_, 0, none⟩)), (41, .tuple #[.agg #[.int .i64 t225, .int .i64 t226], .int .i64 t227]), (47, .agg #[.int .i64 t225, .int .i64 t226]), (48, .int .i64 t227)]) (fun s_ w' => (w'.cell? ⟨gb203, 0, none⟩ = some (.int .i64 a0_0) ∧ w'.cell? ⟨gb203, 1, none⟩ = some (.int .i64 a0_1) ∧ w'.cell? ⟨gb204, 0, none⟩ = some (.int .i64 a1_0) ∧ w'.cell? ⟨gb204, 1, none⟩ = some (.int .i64 a1_1)) ∧ (w'.heap[gb203]? = some (.cells #[.int .i64 a0_0, .int .i64 a0_1] 23 (0, 0))) ∧ (w'.heap[gb204]? = some (.cells #[.int .i64 a1_0, .int .i64 a1_1] 23 (0, 0))) ∧ (w'.heap[gb208]? = some (.cells #[.int .i64 t205, .int .i64 t206] 23 (0, 0))) ∧ (w'.heap[gb216]? = some (.cells #[.int .i64 t213, .int .i64 t214] 32 (0, 0))) ∧ (w'.heap[gb220]? = some (.cells #[.int .i64 t217, .int .i64 t218] 23 (0, 0))) ∧ (w'.heap[s_]? = some (.cells #[.int .i64 0, .int .i64 0] 32 (0, 0))) ∧ (w.heap.size ≤ s_) ∧ (w.heap.size ≤ s_) ∧ (gb203 ≠ s_) ∧ (s_ ≠ gb203) ∧ (gb204 ≠ s_) ∧ (s_ ≠ gb204) ∧ (gb208 ≠ s_) ∧ (s_ ≠ gb208) ∧ (gb216 ≠ s_) ∧ (s_ ≠ gb216) ∧ (gb220 ≠ s_) ∧ (s_ ≠ gb220) ∧ (Below w.heap.size w w')) ?_ ?_
                  rotate_left
                  · intro hCont
                    refine two_ (i := 1) (j := 8) (Ni := some 43) (Nj := some 11) #[true, true, true, false, false, false, false, false, false, false, false] #[true, false, true, false, false, false, false, false, true, false, false] rfl rfl rfl rfl (two_of HT_.out (by kernel_rfl)) (by decide) (by decide) (fun K hK => ?_) (fun K hK => ?_)
                    · skip
                      refine goes_ Try.func24 (by kernel_rfl) rfl #[.agg #[.int .i64 a0_0, .int .i64 a0_1]] (by rfl) rfl rfl (by (try simp only [List.map_toArray, List.map_cons, List.map_nil]); first | done | rfl | (simp only [List.length_drop, List.length_take]; rfl)) ?_
                      with_reducible refine (mosaiclaw05_Ref.calls a0_0 a0_1 t221 t222 _ A8.out).mono ?_
                      rintro e w64 ⟨rfl, hb⟩
                      refine ⟨_, rfl, ?_⟩
                      have n0_ := Aside0.mk (blk_below (g := gb203) (o := .cells #[.int .i64 a0_0, .int .i64 a0_1] 23 (0, 0)) (by (with_reducible repeat (first | refine blk_drewN ?_ _ | refine blk_drew ?_ | refine blk_alloc ?_ _)); exact BK203.out) hb)
                      have n1_ := Aside0.mk (blk_below (g := gb204) (o := .cells #[.int .i64 a1_0, .int .i64 a1_1] 23 (0, 0)) (by (with_reducible repeat (first | refine blk_drewN ?_ _ | refine blk_drew ?_ | refine blk_alloc ?_ _)); exact BK204.out) hb)
                      have n2_ := Aside0.mk (blk_below (g := gb208) (o := .cells #[.int .i64 t205, .int .i64 t206] 23 (0, 0)) (by (with_reducible repeat (first | refine blk_drewN ?_ _ | refine blk_drew ?_ | refine blk_alloc ?_ _)); exact BK208.out) hb)
                      have n3_ := Aside0.mk (blk_below (g := gb216) (o := .cells #[.int .i64 t213, .int .i64 t214] 32 (0, 0)) (by (with_reducible repeat (first | refine blk_drewN ?_ _ | refine blk_drew ?_ | refine blk_alloc ?_ _)); exact BK216.out) hb)
                      have n4_ := Aside0.mk (blk_below (g := gb220) (o := .cells #[.int .i64 t217, .int .i64 t218] 23 (0, 0)) (by (with_reducible repeat (first | refine blk_drewN ?_ _ | refine blk_drew ?_ | refine blk_alloc ?_ _)); exact BK220.out) hb)
                      have n5_ := Aside0.mk (below_step (by repeat (first | (with_reducible first | exact HB.out | apply below_alloc | apply pw_below_drewN | apply below_drew1 | refine below_set ?_ GE203.out | refine below_set ?_ GE204.out | refine below_set ?_ GE208.out | refine below_set ?_ GE216.out | refine below_set ?_ GE220.out) | exact HB.out)) hb)
                      clear BK203
                      clear BK204
                      clear BK208
                      clear BK216
                      clear BK220
                      clear HB
                      have BK203 := n0_
                      have BK204 := n1_
                      have BK208 := n2_
                      have BK216 := n3_
                      have BK220 := n4_
                      have HB := n5_
                      clear n0_ n1_ n2_ n3_ n4_ n5_
                      (try clear hb)
                      (try clear hb2)
                      (try clear hk)
                      (try clear hi)
                      refine hK.out _ _ ⟨(blk_cell BK203.out 0).trans rfl, (blk_cell BK203.out 1).trans rfl, (blk_cell BK204.out 0).trans rfl, (blk_cell BK204.out 1).trans rfl⟩ (fun hHeld => ?_)
                      clear hK K
                      refine norm_ (a' := ?_) ?_ ?_
                      rotate_left
                      · show Act.put _ (some 43) _ = _
                        simp only [Act.put, List.setIfInBounds_toArray, List.set_cons_zero, List.set_cons_succ, i64_w, i32_w]
                        rfl
                      refine two_ (i := 3) (j := 8) (Ni := some 45) (Nj := some 11) #[true, true, true, true, false, false, false, false, false, false, false] #[true, true, true, false, false, false, false, false, true, false, false] rfl rfl rfl rfl (two_of HT_.out (by kernel_rfl)) (by decide) (by decide) (fun K hK => ?_) (fun K hK => ?_)
                      · skip
                        refine goes_ Try.func24 (by kernel_rfl) rfl #[.agg #[.int .i64 a1_0, .int .i64 a1_1]] (by rfl) rfl rfl (by (try simp only [List.map_toArray, List.map_cons, List.map_nil]); first | done | rfl | (simp only [List.length_drop, List.length_take]; rfl)) ?_
                        with_reducible refine (mosaiclaw05_Ref.calls a1_0 a1_1 t223 t224 _ A9.out).mono ?_
                        rintro e w65 ⟨rfl, hb⟩
                        refine ⟨_, rfl, ?_⟩
                        have n0_ := Aside0.mk (blk_below (g := gb203) (o := .cells #[.int .i64 a0_0, .int .i64 a0_1] 23 (0, 0)) (by (with_reducible repeat (first | refine blk_drewN ?_ _ | refine blk_drew ?_ | refine blk_alloc ?_ _)); exact BK203.out) hb)
                        have n1_ := Aside0.mk (blk_below (g := gb204) (o := .cells #[.int .i64 a1_0, .int .i64 a1_1] 23 (0, 0)) (by (with_reducible repeat (first | refine blk_drewN ?_ _ | refine blk_drew ?_ | refine blk_alloc ?_ _)); exact BK204.out) hb)
                        have n2_ := Aside0.mk (blk_below (g := gb208) (o := .cells #[.int .i64 t205, .int .i64 t206] 23 (0, 0)) (by (with_reducible repeat (first | refine blk_drewN ?_ _ | refine blk_drew ?_ | refine blk_alloc ?_ _)); exact BK208.out) hb)
                        have n3_ := Aside0.mk (blk_below (g := gb216) (o := .cells #[.int .i64 t213, .int .i64 t214] 32 (0, 0)) (by (with_reducible repeat (first | refine blk_drewN ?_ _ | refine blk_drew ?_ | refine blk_alloc ?_ _)); exact BK216.out) hb)
                        have n4_ := Aside0.mk (blk_below (g := gb220) (o := .cells #[.int .i64 t217, .int .i64 t218] 23 (0, 0)) (by (with_reducible repeat (first | refine blk_drewN ?_ _ | refine blk_drew ?_ | refine blk_alloc ?_ _)); exact BK220.out) hb)
                        have n5_ := Aside0.mk (below_step (by repeat (first | (with_reducible first | exact HB.out | apply below_alloc | apply pw_below_drewN | apply below_drew1 | refine below_set ?_ GE203.out | refine below_set ?_ GE204.out | refine below_set ?_ GE208.out | refine below_set ?_ GE216.out | refine below_set ?_ GE220.out) | exact HB.out)) hb)
                        clear BK203
                        clear BK204
                        clear BK208
                        clear BK216
                        clear BK220
                        clear HB
                        have BK203 := n0_
                        have BK204 := n1_
                        have BK208 := n2_
                        have BK216 := n3_
                        have BK220 := n4_
                        have HB := n5_
                        clear n0_ n1_ n2_ n3_ n4_ n5_
                        (try clear hb)
                        (try clear hb2)
                        (try clear hk)
                        (try clear hi)
                        refine hK.out _ _ ⟨(blk_cell BK203.out 0).trans rfl, (blk_cell BK203.out 1).trans rfl, (blk_cell BK204.out 0).trans rfl, (blk_cell BK204.out 1).trans rfl⟩ (fun hHeld => ?_)
                        clear hK K
                        refine norm_ (a' := ?_) ?_ ?_
                        rotate_left
                        · show Act.put _ (some 45) _ = _
                          simp only [Act.put, List.setIfInBounds_toArray, List.set_cons_zero, List.set_cons_succ, i64_w, i32_w]
                          rfl
                        refine two_ (i := 4) (j := 8) (Ni := some 46) (Nj := some 11) #[true, true, true, true, true, false, false, false, false, false, false] #[true, true, true, true, false, false, false, false, true, false, false] rfl rfl rfl rfl (two_of HT_.out (by kernel_rfl)) (by decide) (by decide) (fun K hK => ?_) (fun K hK => ?_)
                        · skip
                          refine goes_ Try.func37 (by kernel_rfl) rfl #[.agg #[.int .i64 t221, .int .i64 t222], .agg #[.int .i64 t223, .int .i64 t224], .int .i64 (-1)] (by rfl) rfl rfl (by (try simp only [List.map_toArray, List.map_cons, List.map_nil]); first | done | rfl | (simp only [List.length_drop, List.length_take]; rfl)) ?_
                          with_reducible refine (mosaicref05_Sum.calls k t221 t222 t223 t224 (-1) t225 t226 t227 _ A10.out).mono ?_
                          rintro e w66 ⟨rfl, hb⟩
                          refine ⟨_, rfl, ?_⟩
                          have n0_ := Aside0.mk (blk_below (g := gb203) (o := .cells #[.int .i64 a0_0, .int .i64 a0_1] 23 (0, 0)) (by (with_reducible repeat (first | refine blk_drewN ?_ _ | refine blk_drew ?_ | refine blk_alloc ?_ _)); exact BK203.out) hb)
                          have n1_ := Aside0.mk (blk_below (g := gb204) (o := .cells #[.int .i64 a1_0, .int .i64 a1_1] 23 (0, 0)) (by (with_reducible repeat (first | refine blk_drewN ?_ _ | refine blk_drew ?_ | refine blk_alloc ?_ _)); exact BK204.out) hb)
                          have n2_ := Aside0.mk (blk_below (g := gb208) (o := .cells #[.int .i64 t205, .int .i64 t206] 23 (0, 0)) (by (with_reducible repeat (first | refine blk_drewN ?_ _ | refine blk_drew ?_ | refine blk_alloc ?_ _)); exact BK208.out) hb)
                          have n3_ := Aside0.mk (blk_below (g := gb216) (o := .cells #[.int .i64 t213, .int .i64 t214] 32 (0, 0)) (by (with_reducible repeat (first | refine blk_drewN ?_ _ | refine blk_drew ?_ | refine blk_alloc ?_ _)); exact BK216.out) hb)
                          have n4_ := Aside0.mk (blk_below (g := gb220) (o := .cells #[.int .i64 t217, .int .i64 t218] 23 (0, 0)) (by (with_reducible repeat (first | refine blk_drewN ?_ _ | refine blk_drew ?_ | refine blk_alloc ?_ _)); exact BK220.out) hb)
                          have n5_ := Aside0.mk (below_step (by repeat (first | (with_reducible first | exact HB.out | apply below_alloc | apply pw_below_drewN | apply below_drew1 | refine below_set ?_ GE203.out | refine below_set ?_ GE204.out | refine below_set ?_ GE208.out | refine below_set ?_ GE216.out | refine below_set ?_ GE220.out) | exact HB.out)) hb)
                          clear BK203
                          clear BK204
                          clear BK208
                          clear BK216
                          clear BK220
                          clear HB
                          have BK203 := n0_
                          have BK204 := n1_
                          have BK208 := n2_
                          have BK216 := n3_
                          have BK220 := n4_
                          have HB := n5_
                          clear n0_ n1_ n2_ n3_ n4_ n5_
                          (try clear hb)
                          (try clear hb2)
                          (try clear hk)
                          (try clear hi)
                          refine hK.out _ _ ⟨(blk_cell BK203.out 0).trans rfl, (blk_cell BK203.out 1).trans rfl, (blk_cell BK204.out 0).trans rfl, (blk_cell BK204.out 1).trans rfl⟩ (fun hHeld => ?_)
                          clear hK K
                          refine norm_ (a' := ?_) ?_ ?_
                          rotate_left
                          · show Act.put _ (some 46) _ = _
                            simp only [Act.put, List.setIfInBounds_toArray, List.set_cons_zero, List.set_cons_succ, i64_w, i32_w]
                            rfl
                          refine pure_ (i := 5) (N := some 41) (v := ?_) (a' := ?_) #[true, true, true, true, true, true, false, false, false, false, false] rfl rfl (any_of HT_.out (by kernel_rfl)) (fun _ _ _ h => h) (Or.inl ⟨by rfl, ?_⟩) ?_ ?_
                          rotate_left
                          · intro w'
                            go_simp
                            with_reducible rfl
                          rotate_left
                          · simp only [Act.put, List.setIfInBounds_toArray, List.set_cons_zero, List.set_cons_succ, i64_w, i32_w]
                            rfl
                          refine pure_ (i := 6) (N := some 47) (v := ?_) (a' := ?_) #[true, true, true, true, true, true, true, false, false, false, false] rfl rfl (any_of HT_.out (by kernel_rfl)) (fun _ _ _ h => h) (Or.inl ⟨by rfl, ?_⟩) ?_ ?_
                          rotate_left
                          · intro w'
                            go_simp
                            with_reducible rfl
                          rotate_left
                          · simp only [Act.put, List.setIfInBounds_toArray, List.set_cons_zero, List.set_cons_succ, i64_w, i32_w]
                            rfl
                          refine pure_ (i := 7) (N := some 48) (v := ?_) (a' := ?_) #[true, true, true, true, true, true, true, true, false, false, false] rfl rfl (any_of HT_.out (by kernel_rfl)) (fun _ _ _ h => h) (Or.inl ⟨by rfl, ?_⟩) ?_ ?_
                          rotate_left
                          · intro w'
                            go_simp
                            with_reducible rfl
                          rotate_left
                          · simp only [Act.put, List.setIfInBounds_toArray, List.set_cons_zero, List.set_cons_succ, i64_w, i32_w]
                            rfl
                          refine one_ (i := 8) (N := some 11) #[true, true, true, true, true, true, true, true, true, false, false] rfl rfl (one_of HT_.out (by kernel_rfl)) (by decide) (fun K hK => ?_)
                          refine box_step ?hg (N := 11) ?hd (cs := #[.int .i64 0, .int .i64 0]) (t := 32) ?hr ?_; (case hd => rfl); (case hg => rfl); (case hr => first | (go_simp; done) | (go_simp; rfl))
                          intro gb228 hg w67 hbox hb
                          have n0_ := Aside0.mk (blk_below (g := gb203) (o := .cells #[.int .i64 a0_0, .int .i64 a0_1] 23 (0, 0)) (by (with_reducible repeat (first | refine blk_drewN ?_ _ | refine blk_drew ?_ | refine blk_alloc ?_ _)); exact BK203.out) hb)
                          have n1_ := Aside0.mk (blk_below (g := gb204) (o := .cells #[.int .i64 a1_0, .int .i64 a1_1] 23 (0, 0)) (by (with_reducible repeat (first | refine blk_drewN ?_ _ | refine blk_drew ?_ | refine blk_alloc ?_ _)); exact BK204.out) hb)
                          have n2_ := Aside0.mk (blk_below (g := gb208) (o := .cells #[.int .i64 t205, .int .i64 t206] 23 (0, 0)) (by (with_reducible repeat (first | refine blk_drewN ?_ _ | refine blk_drew ?_ | refine blk_alloc ?_ _)); exact BK208.out) hb)
                          have n3_ := Aside0.mk (blk_below (g := gb216) (o := .cells #[.int .i64 t213, .int .i64 t214] 32 (0, 0)) (by (with_reducible repeat (first | refine blk_drewN ?_ _ | refine blk_drew ?_ | refine blk_alloc ?_ _)); exact BK216.out) hb)
                          have n4_ := Aside0.mk (blk_below (g := gb220) (o := .cells #[.int .i64 t217, .int .i64 t218] 23 (0, 0)) (by (with_reducible repeat (first | refine blk_drewN ?_ _ | refine blk_drew ?_ | refine blk_alloc ?_ _)); exact BK220.out) hb)
                          have n5_ := Aside0.mk (below_step (by repeat (first | (with_reducible first | exact HB.out | apply below_alloc | apply pw_below_drewN | apply below_drew1 | refine below_set ?_ GE203.out | refine below_set ?_ GE204.out | refine below_set ?_ GE208.out | refine below_set ?_ GE216.out | refine below_set ?_ GE220.out) | exact HB.out)) hb)
                          have n6_ := Aside0.mk (hbox)
                          have n7_ := Aside0.mk ((by rw [hg]; exact (below_size (by repeat (first | (with_reducible first | exact HB.out | apply below_alloc | apply pw_below_drewN | apply below_drew1 | refine below_set ?_ GE203.out | refine below_set ?_ GE204.out | refine below_set ?_ GE208.out | refine below_set ?_ GE216.out | refine below_set ?_ GE220.out) | exact HB.out))) : w.heap.size ≤ gb228))
                          have n8_ := Aside0.mk ((by rw [hg]; exact (below_size (by repeat (first | (with_reducible first | exact HB.out | apply below_alloc | apply pw_below_drewN | apply below_drew1 | refine below_set ?_ GE203.out | refine below_set ?_ GE204.out | refine below_set ?_ GE208.out | refine below_set ?_ GE216.out | refine below_set ?_ GE220.out) | exact HB.out))) : w.heap.size ≤ gb228))
                          have n9_ := Aside0.mk ((by rw [hg]; exact Nat.ne_of_lt (blk_lt (g := gb203) (o := .cells #[.int .i64 a0_0, .int .i64 a0_1] 23 (0, 0)) (by (with_reducible repeat (first | refine blk_drewN ?_ _ | refine blk_drew ?_ | refine blk_alloc ?_ _)); exact BK203.out)) : gb203 ≠ gb228))
                          have n10_ := Aside0.mk ((by rw [hg]; exact Nat.ne_of_gt (blk_lt (g := gb203) (o := .cells #[.int .i64 a0_0, .int .i64 a0_1] 23 (0, 0)) (by (with_reducible repeat (first | refine blk_drewN ?_ _ | refine blk_drew ?_ | refine blk_alloc ?_ _)); exact BK203.out)) : gb228 ≠ gb203))
                          have n11_ := Aside0.mk ((by rw [hg]; exact Nat.ne_of_lt (blk_lt (g := gb204) (o := .cells #[.int .i64 a1_0, .int .i64 a1_1] 23 (0, 0)) (by (with_reducible repeat (first | refine blk_drewN ?_ _ | refine blk_drew ?_ | refine blk_alloc ?_ _)); exact BK204.out)) : gb204 ≠ gb228))
                          have n12_ := Aside0.mk ((by rw [hg]; exact Nat.ne_of_gt (blk_lt (g := gb204) (o := .cells #[.int .i64 a1_0, .int .i64 a1_1] 23 (0, 0)) (by (with_reducible repeat (first | refine blk_drewN ?_ _ | refine blk_drew ?_ | refine blk_alloc ?_ _)); exact BK204.out)) : gb228 ≠ gb204))
                          have n13_ := Aside0.mk ((by rw [hg]; exact Nat.ne_of_lt (blk_lt (g := gb208) (o := .cells #[.int .i64 t205, .int .i64 t206] 23 (0, 0)) (by (with_reducible repeat (first | refine blk_drewN ?_ _ | refine blk_drew ?_ | refine blk_alloc ?_ _)); exact BK208.out)) : gb208 ≠ gb228))
                          have n14_ := Aside0.mk ((by rw [hg]; exact Nat.ne_of_gt (blk_lt (g := gb208) (o := .cells #[.int .i64 t205, .int .i64 t206] 23 (0, 0)) (by (with_reducible repeat (first | refine blk_drewN ?_ _ | refine blk_drew ?_ | refine blk_alloc ?_ _)); exact BK208.out)) : gb228 ≠ gb208))
                          have n15_ := Aside0.mk ((by rw [hg]; exact Nat.ne_of_lt (blk_lt (g := gb216) (o := .cells #[.int .i64 t213, .int .i64 t214] 32 (0, 0)) (by (with_reducible repeat (first | refine blk_drewN ?_ _ | refine blk_drew ?_ | refine blk_alloc ?_ _)); exact BK216.out)) : gb216 ≠ gb228))
                          have n16_ := Aside0.mk ((by rw [hg]; exact Nat.ne_of_gt (blk_lt (g := gb216) (o := .cells #[.int .i64 t213, .int .i64 t214] 32 (0, 0)) (by (with_reducible repeat (first | refine blk_drewN ?_ _ | refine blk_drew ?_ | refine blk_alloc ?_ _)); exact BK216.out)) : gb228 ≠ gb216))
                          have n17_ := Aside0.mk ((by rw [hg]; exact Nat.ne_of_lt (blk_lt (g := gb220) (o := .cells #[.int .i64 t217, .int .i64 t218] 23 (0, 0)) (by (with_reducible repeat (first | refine blk_drewN ?_ _ | refine blk_drew ?_ | refine blk_alloc ?_ _)); exact BK220.out)) : gb220 ≠ gb228))
                          have n18_ := Aside0.mk ((by rw [hg]; exact Nat.ne_of_gt (blk_lt (g := gb220) (o := .cells #[.int .i64 t217, .int .i64 t218] 23 (0, 0)) (by (with_reducible repeat (first | refine blk_drewN ?_ _ | refine blk_drew ?_ | refine blk_alloc ?_ _)); exact BK220.out)) : gb228 ≠ gb220))
                          clear BK203
                          clear BK204
                          clear BK208
                          clear BK216
                          clear BK220
                          clear HB
                          have BK203 := n0_
                          have BK204 := n1_
                          have BK208 := n2_
                          have BK216 := n3_
                          have BK220 := n4_
                          have HB := n5_
                          have BK228 := n6_
                          have GW228 := n7_
                          have GE228 := n8_
                          have NB203_228 := n9_
                          have NB228_203 := n10_
                          have NB204_228 := n11_
                          have NB228_204 := n12_
                          have NB208_228 := n13_
                          have NB228_208 := n14_
                          have NB216_228 := n15_
                          have NB228_216 := n16_
                          have NB220_228 := n17_
                          have NB228_220 := n18_
                          clear n0_ n1_ n2_ n3_ n4_ n5_ n6_ n7_ n8_ n9_ n10_ n11_ n12_ n13_ n14_ n15_ n16_ n17_ n18_
                          clear hb hbox hg
                          refine hK.out _ _ ⟨(blk_cell BK203.out 0).trans rfl, (blk_cell BK203.out 1).trans rfl, (blk_cell BK204.out 0).trans rfl, (blk_cell BK204.out 1).trans rfl⟩ (fun hHeld => ?_)
                          clear hK K
                          refine norm_ (a' := ?_) ?_ ?_
                          rotate_left
                          · show Act.put _ (some 11) _ = _
                            simp only [Act.put, List.setIfInBounds_toArray, List.set_cons_zero, List.set_cons_succ, i64_w, i32_w]
                            rfl
                          exact norm_ (by simp only [putAll, Act.put, List.setIfInBounds_toArray, List.set_cons_zero, List.set_cons_succ]) (hCont (gb228) _ ⟨hHeld, (by (with_reducible repeat (first | refine blk_drewN ?_ _ | refine blk_drew ?_ | refine blk_alloc ?_ _)); exact BK203.out), (by (with_reducible repeat (first | refine blk_drewN ?_ _ | refine blk_drew ?_ | refine blk_alloc ?_ _)); exact BK204.out), (by (with_reducible repeat (first | refine blk_drewN ?_ _ | refine blk_drew ?_ | refine blk_alloc ?_ _)); exact BK208.out), (by (with_reducible repeat (first | refine blk_drewN ?_ _ | refine blk_drew ?_ | refine blk_alloc ?_ _)); exact BK216.out), (by (with_reducible repeat (first | refine blk_drewN ?_ _ | refine blk_drew ?_ | refine blk_alloc ?_ _)); exact BK220.out), (by (with_reducible repeat (first | refine blk_drewN ?_ _ | refine blk_drew ?_ | refine blk_alloc ?_ _)); exact BK228.out), GW228.out, GE228.out, NB203_228.out, NB228_203.out, NB204_228.out, NB228_204.out, NB208_228.out, NB228_208.out, NB216_228.out, NB228_216.out, NB220_228.out, NB228_220.out, (by repeat (first | (with_reducible first | exact HB.out | apply below_alloc | apply pw_below_drewN | apply below_drew1 | refine below_set ?_ GE203.out | refine below_set ?_ GE204.out | refine below_set ?_ GE208.out | refine below_set ?_ GE216.out | refine below_set ?_ GE220.out | refine below_set ?_ GE228.out) | exact HB.out))⟩)
                        · skip
                          refine box_step ?hg (N := 11) ?hd (cs := #[.int .i64 0, .int .i64 0]) (t := 32) ?hr ?_; (case hd => rfl); (case hg => rfl); (case hr => first | (go_simp; done) | (go_simp; rfl))
                          intro gb228 hg w66 hbox hb
                          have n0_ := Aside0.mk (blk_below (g := gb203) (o := .cells #[.int .i64 a0_0, .int .i64 a0_1] 23 (0, 0)) (by (with_reducible repeat (first | refine blk_drewN ?_ _ | refine blk_drew ?_ | refine blk_alloc ?_ _)); exact BK203.out) hb)
                          have n1_ := Aside0.mk (blk_below (g := gb204) (o := .cells #[.int .i64 a1_0, .int .i64 a1_1] 23 (0, 0)) (by (with_reducible repeat (first | refine blk_drewN ?_ _ | refine blk_drew ?_ | refine blk_alloc ?_ _)); exact BK204.out) hb)
                          have n2_ := Aside0.mk (blk_below (g := gb208) (o := .cells #[.int .i64 t205, .int .i64 t206] 23 (0, 0)) (by (with_reducible repeat (first | refine blk_drewN ?_ _ | refine blk_drew ?_ | refine blk_alloc ?_ _)); exact BK208.out) hb)
                          have n3_ := Aside0.mk (blk_below (g := gb216) (o := .cells #[.int .i64 t213, .int .i64 t214] 32 (0, 0)) (by (with_reducible repeat (first | refine blk_drewN ?_ _ | refine blk_drew ?_ | refine blk_alloc ?_ _)); exact BK216.out) hb)
                          have n4_ := Aside0.mk (blk_below (g := gb220) (o := .cells #[.int .i64 t217, .int .i64 t218] 23 (0, 0)) (by (with_reducible repeat (first | refine blk_drewN ?_ _ | refine blk_drew ?_ | refine blk_alloc ?_ _)); exact BK220.out) hb)
                          have n5_ := Aside0.mk (below_step (by repeat (first | (with_reducible first | exact HB.out | apply below_alloc | apply pw_below_drewN | apply below_drew1 | refine below_set ?_ GE203.out | refine below_set ?_ GE204.out | refine below_set ?_ GE208.out | refine below_set ?_ GE216.out | refine below_set ?_ GE220.out) | exact HB.out)) hb)
                          have n6_ := Aside0.mk (hbox)
                          have n7_ := Aside0.mk ((by rw [hg]; exact (below_size (by repeat (first | (with_reducible first | exact HB.out | apply below_alloc | apply pw_below_drewN | apply below_drew1 | refine below_set ?_ GE203.out | refine below_set ?_ GE204.out | refine below_set ?_ GE208.out | refine below_set ?_ GE216.out | refine below_set ?_ GE220.out) | exact HB.out))) : w.heap.size ≤ gb228))
                          have n8_ := Aside0.mk ((by rw [hg]; exact (below_size (by repeat (first | (with_reducible first | exact HB.out | apply below_alloc | apply pw_below_drewN | apply below_drew1 | refine below_set ?_ GE203.out | refine below_set ?_ GE204.out | refine below_set ?_ GE208.out | refine below_set ?_ GE216.out | refine below_set ?_ GE220.out) | exact HB.out))) : w.heap.size ≤ gb228))
                          have n9_ := Aside0.mk ((by rw [hg]; exact Nat.ne_of_lt (blk_lt (g := gb203) (o := .cells #[.int .i64 a0_0, .int .i64 a0_1] 23 (0, 0)) (by (with_reducible repeat (first | refine blk_drewN ?_ _ | refine blk_drew ?_ | refine blk_alloc ?_ _)); exact BK203.out)) : gb203 ≠ gb228))
                          have n10_ := Aside0.mk ((by rw [hg]; exact Nat.ne_of_gt (blk_lt (g := gb203) (o := .cells #[.int .i64 a0_0, .int .i64 a0_1] 23 (0, 0)) (by (with_reducible repeat (first | refine blk_drewN ?_ _ | refine blk_drew ?_ | refine blk_alloc ?_ _)); exact BK203.out)) : gb228 ≠ gb203))
                          have n11_ := Aside0.mk ((by rw [hg]; exact Nat.ne_of_lt (blk_lt (g := gb204) (o := .cells #[.int .i64 a1_0, .int .i64 a1_1] 23 (0, 0)) (by (with_reducible repeat (first | refine blk_drewN ?_ _ | refine blk_drew ?_ | refine blk_alloc ?_ _)); exact BK204.out)) : gb204 ≠ gb228))
                          have n12_ := Aside0.mk ((by rw [hg]; exact Nat.ne_of_gt (blk_lt (g := gb204) (o := .cells #[.int .i64 a1_0, .int .i64 a1_1] 23 (0, 0)) (by (with_reducible repeat (first | refine blk_drewN ?_ _ | refine blk_drew ?_ | refine blk_alloc ?_ _)); exact BK204.out)) : gb228 ≠ gb204))
                          have n13_ := Aside0.mk ((by rw [hg]; exact Nat.ne_of_lt (blk_lt (g := gb208) (o := .cells #[.int .i64 t205, .int .i64 t206] 23 (0, 0)) (by (with_reducible repeat (first | refine blk_drewN ?_ _ | refine blk_drew ?_ | refine blk_alloc ?_ _)); exact BK208.out)) : gb208 ≠ gb228))
                          have n14_ := Aside0.mk ((by rw [hg]; exact Nat.ne_of_gt (blk_lt (g := gb208) (o := .cells #[.int .i64 t205, .int .i64 t206] 23 (0, 0)) (by (with_reducible repeat (first | refine blk_drewN ?_ _ | refine blk_drew ?_ | refine blk_alloc ?_ _)); exact BK208.out)) : gb228 ≠ gb208))
                          have n15_ := Aside0.mk ((by rw [hg]; exact Nat.ne_of_lt (blk_lt (g := gb216) (o := .cells #[.int .i64 t213, .int .i64 t214] 32 (0, 0)) (by (with_reducible repeat (first | refine blk_drewN ?_ _ | refine blk_drew ?_ | refine blk_alloc ?_ _)); exact BK216.out)) : gb216 ≠ gb228))
                          have n16_ := Aside0.mk ((by rw [hg]; exact Nat.ne_of_gt (blk_lt (g := gb216) (o := .cells #[.int .i64 t213, .int .i64 t214] 32 (0, 0)) (by (with_reducible repeat (first | refine blk_drewN ?_ _ | refine blk_drew ?_ | refine blk_alloc ?_ _)); exact BK216.out)) : gb228 ≠ gb216))
                          have n17_ := Aside0.mk ((by rw [hg]; exact Nat.ne_of_lt (blk_lt (g := gb220) (o := .cells #[.int .i64 t217, .int .i64 t218] 23 (0, 0)) (by (with_reducible repeat (first | refine blk_drewN ?_ _ | refine blk_drew ?_ | refine blk_alloc ?_ _)); exact BK220.out)) : gb220 ≠ gb228))
                          have n18_ := Aside0.mk ((by rw [hg]; exact Nat.ne_of_gt (blk_lt (g := gb220) (o := .cells #[.int .i64 t217, .int .i64 t218] 23 (0, 0)) (by (with_reducible repeat (first | refine blk_drewN ?_ _ | refine blk_drew ?_ | refine blk_alloc ?_ _)); exact BK220.out)) : gb228 ≠ gb220))
                          clear BK203
                          clear BK204
                          clear BK208
                          clear BK216
                          clear BK220
                          clear HB
                          have BK203 := n0_
                          have BK204 := n1_
                          have BK208 := n2_
                          have BK216 := n3_
                          have BK220 := n4_
                          have HB := n5_
                          have BK228 := n6_
                          have GW228 := n7_
                          have GE228 := n8_
                          have NB203_228 := n9_
                          have NB228_203 := n10_
                          have NB204_228 := n11_
                          have NB228_204 := n12_
                          have NB208_228 := n13_
                          have NB228_208 := n14_
                          have NB216_228 := n15_
                          have NB228_216 := n16_
                          have NB220_228 := n17_
                          have NB228_220 := n18_
                          clear n0_ n1_ n2_ n3_ n4_ n5_ n6_ n7_ n8_ n9_ n10_ n11_ n12_ n13_ n14_ n15_ n16_ n17_ n18_
                          clear hb hbox hg
                          refine hK.out _ _ ⟨(blk_cell BK203.out 0).trans rfl, (blk_cell BK203.out 1).trans rfl, (blk_cell BK204.out 0).trans rfl, (blk_cell BK204.out 1).trans rfl⟩ (fun hHeld => ?_)
                          clear hK K
                          refine norm_ (a' := ?_) ?_ ?_
                          rotate_left
                          · show Act.put _ (some 11) _ = _
                            simp only [Act.put, List.setIfInBounds_toArray, List.set_cons_zero, List.set_cons_succ, i64_w, i32_w]
                            rfl
                          refine one_ (i := 4) (N := some 46) #[true, true, true, true, true, false, false, false, true, false, false] rfl rfl (one_of HT_.out (by kernel_rfl)) (by decide) (fun K hK => ?_)
                          refine goes_ Try.func37 (by kernel_rfl) rfl #[.agg #[.int .i64 t221, .int .i64 t222], .agg #[.int .i64 t223, .int .i64 t224], .int .i64 (-1)] (by rfl) rfl rfl (by (try simp only [List.map_toArray, List.map_cons, List.map_nil]); first | done | rfl | (simp only [List.length_drop, List.length_take]; rfl)) ?_
                          with_reducible refine (mosaicref05_Sum.calls k t221 t222 t223 t224 (-1) t225 t226 t227 _ A10.out).mono ?_
                          rintro e w67 ⟨rfl, hb⟩
                          refine ⟨_, rfl, ?_⟩
                          have n0_ := Aside0.mk (blk_below (g := gb203) (o := .cells #[.int .i64 a0_0, .int .i64 a0_1] 23 (0, 0)) (by (with_reducible repeat (first | refine blk_drewN ?_ _ | refine blk_drew ?_ | refine blk_alloc ?_ _)); exact BK203.out) hb)
                          have n1_ := Aside0.mk (blk_below (g := gb204) (o := .cells #[.int .i64 a1_0, .int .i64 a1_1] 23 (0, 0)) (by (with_reducible repeat (first | refine blk_drewN ?_ _ | refine blk_drew ?_ | refine blk_alloc ?_ _)); exact BK204.out) hb)
                          have n2_ := Aside0.mk (blk_below (g := gb208) (o := .cells #[.int .i64 t205, .int .i64 t206] 23 (0, 0)) (by (with_reducible repeat (first | refine blk_drewN ?_ _ | refine blk_drew ?_ | refine blk_alloc ?_ _)); exact BK208.out) hb)
                          have n3_ := Aside0.mk (blk_below (g := gb216) (o := .cells #[.int .i64 t213, .int .i64 t214] 32 (0, 0)) (by (with_reducible repeat (first | refine blk_drewN ?_ _ | refine blk_drew ?_ | refine blk_alloc ?_ _)); exact BK216.out) hb)
                          have n4_ := Aside0.mk (blk_below (g := gb220) (o := .cells #[.int .i64 t217, .int .i64 t218] 23 (0, 0)) (by (with_reducible repeat (first | refine blk_drewN ?_ _ | refine blk_drew ?_ | refine blk_alloc ?_ _)); exact BK220.out) hb)
                          have n5_ := Aside0.mk (blk_below (g := gb228) (o := .cells #[.int .i64 0, .int .i64 0] 32 (0, 0)) (by (with_reducible repeat (first | refine blk_drewN ?_ _ | refine blk_drew ?_ | refine blk_alloc ?_ _)); exact BK228.out) hb)
                          have n6_ := Aside0.mk (below_step (by repeat (first | (with_reducible first | exact HB.out | apply below_alloc | apply pw_below_drewN | apply below_drew1 | refine below_set ?_ GE203.out | refine below_set ?_ GE204.out | refine below_set ?_ GE208.out | refine below_set ?_ GE216.out | refine below_set ?_ GE220.out | refine below_set ?_ GE228.out) | exact HB.out)) hb)
                          clear BK203
                          clear BK204
                          clear BK208
                          clear BK216
                          clear BK220
                          clear BK228
                          clear HB
                          have BK203 := n0_
                          have BK204 := n1_
                          have BK208 := n2_
                          have BK216 := n3_
                          have BK220 := n4_
                          have BK228 := n5_
                          have HB := n6_
                          clear n0_ n1_ n2_ n3_ n4_ n5_ n6_
                          (try clear hb)
                          (try clear hb2)
                          (try clear hk)
                          (try clear hi)
                          refine hK.out _ _ ⟨(blk_cell BK203.out 0).trans rfl, (blk_cell BK203.out 1).trans rfl, (blk_cell BK204.out 0).trans rfl, (blk_cell BK204.out 1).trans rfl⟩ (fun hHeld => ?_)
                          clear hK K
                          refine norm_ (a' := ?_) ?_ ?_
                          rotate_left
                          · show Act.put _ (some 46) _ = _
                            simp only [Act.put, List.setIfInBounds_toArray, List.set_cons_zero, List.set_cons_succ, i64_w, i32_w]
                            rfl
                          refine pure_ (i := 5) (N := some 41) (v := ?_) (a' := ?_) #[true, true, true, true, true, true, false, false, true, false, false] rfl rfl (any_of HT_.out (by kernel_rfl)) (fun _ _ _ h => h) (Or.inl ⟨by rfl, ?_⟩) ?_ ?_
                          rotate_left
                          · intro w'
                            go_simp
                            with_reducible rfl
                          rotate_left
                          · simp only [Act.put, List.setIfInBounds_toArray, List.set_cons_zero, List.set_cons_succ, i64_w, i32_w]
                            rfl
                          refine pure_ (i := 6) (N := some 47) (v := ?_) (a' := ?_) #[true, true, true, true, true, true, true, false, true, false, false] rfl rfl (any_of HT_.out (by kernel_rfl)) (fun _ _ _ h => h) (Or.inl ⟨by rfl, ?_⟩) ?_ ?_
                          rotate_left
                          · intro w'
                            go_simp
                            with_reducible rfl
                          rotate_left
                          · simp only [Act.put, List.setIfInBounds_toArray, List.set_cons_zero, List.set_cons_succ, i64_w, i32_w]
                            rfl
                          refine pure_ (i := 7) (N := some 48) (v := ?_) (a' := ?_) #[true, true, true, true, true, true, true, true, true, false, false] rfl rfl (any_of HT_.out (by kernel_rfl)) (fun _ _ _ h => h) (Or.inl ⟨by rfl, ?_⟩) ?_ ?_
                          rotate_left
                          · intro w'
                            go_simp
                            with_reducible rfl
                          rotate_left
                          · simp only [Act.put, List.setIfInBounds_toArray, List.set_cons_zero, List.set_cons_succ, i64_w, i32_w]
                            rfl
                          exact norm_ (by simp only [putAll, Act.put, List.setIfInBounds_toArray, List.set_cons_zero, List.set_cons_succ]) (hCont (gb228) _ ⟨hHeld, (by (with_reducible repeat (first | refine blk_drewN ?_ _ | refine blk_drew ?_ | refine blk_alloc ?_ _)); exact BK203.out), (by (with_reducible repeat (first | refine blk_drewN ?_ _ | refine blk_drew ?_ | refine blk_alloc ?_ _)); exact BK204.out), (by (with_reducible repeat (first | refine blk_drewN ?_ _ | refine blk_drew ?_ | refine blk_alloc ?_ _)); exact BK208.out), (by (with_reducible repeat (first | refine blk_drewN ?_ _ | refine blk_drew ?_ | refine blk_alloc ?_ _)); exact BK216.out), (by (with_reducible repeat (first | refine blk_drewN ?_ _ | refine blk_drew ?_ | refine blk_alloc ?_ _)); exact BK220.out), (by (with_reducible repeat (first | refine blk_drewN ?_ _ | refine blk_drew ?_ | refine blk_alloc ?_ _)); exact BK228.out), GW228.out, GE228.out, NB203_228.out, NB228_203.out, NB204_228.out, NB228_204.out, NB208_228.out, NB228_208.out, NB216_228.out, NB228_216.out, NB220_228.out, NB228_220.out, (by repeat (first | (with_reducible first | exact HB.out | apply below_alloc | apply pw_below_drewN | apply below_drew1 | refine below_set ?_ GE203.out | refine below_set ?_ GE204.out | refine below_set ?_ GE208.out | refine below_set ?_ GE216.out | refine below_set ?_ GE220.out | refine below_set ?_ GE228.out) | exact HB.out))⟩)
                      · skip
                        refine box_step ?hg (N := 11) ?hd (cs := #[.int .i64 0, .int .i64 0]) (t := 32) ?hr ?_; (case hd => rfl); (case hg => rfl); (case hr => first | (go_simp; done) | (go_simp; rfl))
                        intro gb228 hg w65 hbox hb
                        have n0_ := Aside0.mk (blk_below (g := gb203) (o := .cells #[.int .i64 a0_0, .int .i64 a0_1] 23 (0, 0)) (by (with_reducible repeat (first | refine blk_drewN ?_ _ | refine blk_drew ?_ | refine blk_alloc ?_ _)); exact BK203.out) hb)
                        have n1_ := Aside0.mk (blk_below (g := gb204) (o := .cells #[.int .i64 a1_0, .int .i64 a1_1] 23 (0, 0)) (by (with_reducible repeat (first | refine blk_drewN ?_ _ | refine blk_drew ?_ | refine blk_alloc ?_ _)); exact BK204.out) hb)
                        have n2_ := Aside0.mk (blk_below (g := gb208) (o := .cells #[.int .i64 t205, .int .i64 t206] 23 (0, 0)) (by (with_reducible repeat (first | refine blk_drewN ?_ _ | refine blk_drew ?_ | refine blk_alloc ?_ _)); exact BK208.out) hb)
                        have n3_ := Aside0.mk (blk_below (g := gb216) (o := .cells #[.int .i64 t213, .int .i64 t214] 32 (0, 0)) (by (with_reducible repeat (first | refine blk_drewN ?_ _ | refine blk_drew ?_ | refine blk_alloc ?_ _)); exact BK216.out) hb)
                        have n4_ := Aside0.mk (blk_below (g := gb220) (o := .cells #[.int .i64 t217, .int .i64 t218] 23 (0, 0)) (by (with_reducible repeat (first | refine blk_drewN ?_ _ | refine blk_drew ?_ | refine blk_alloc ?_ _)); exact BK220.out) hb)
                        have n5_ := Aside0.mk (below_step (by repeat (first | (with_reducible first | exact HB.out | apply below_alloc | apply pw_below_drewN | apply below_drew1 | refine below_set ?_ GE203.out | refine below_set ?_ GE204.out | refine below_set ?_ GE208.out | refine below_set ?_ GE216.out | refine below_set ?_ GE220.out) | exact HB.out)) hb)
                        have n6_ := Aside0.mk (hbox)
                        have n7_ := Aside0.mk ((by rw [hg]; exact (below_size (by repeat (first | (with_reducible first | exact HB.out | apply below_alloc | apply pw_below_drewN | apply below_drew1 | refine below_set ?_ GE203.out | refine below_set ?_ GE204.out | refine below_set ?_ GE208.out | refine below_set ?_ GE216.out | refine below_set ?_ GE220.out) | exact HB.out))) : w.heap.size ≤ gb228))
                        have n8_ := Aside0.mk ((by rw [hg]; exact (below_size (by repeat (first | (with_reducible first | exact HB.out | apply below_alloc | apply pw_below_drewN | apply below_drew1 | refine below_set ?_ GE203.out | refine below_set ?_ GE204.out | refine below_set ?_ GE208.out | refine below_set ?_ GE216.out | refine below_set ?_ GE220.out) | exact HB.out))) : w.heap.size ≤ gb228))
                        have n9_ := Aside0.mk ((by rw [hg]; exact Nat.ne_of_lt (blk_lt (g := gb203) (o := .cells #[.int .i64 a0_0, .int .i64 a0_1] 23 (0, 0)) (by (with_reducible repeat (first | refine blk_drewN ?_ _ | refine blk_drew ?_ | refine blk_alloc ?_ _)); exact BK203.out)) : gb203 ≠ gb228))
                        have n10_ := Aside0.mk ((by rw [hg]; exact Nat.ne_of_gt (blk_lt (g := gb203) (o := .cells #[.int .i64 a0_0, .int .i64 a0_1] 23 (0, 0)) (by (with_reducible repeat (first | refine blk_drewN ?_ _ | refine blk_drew ?_ | refine blk_alloc ?_ _)); exact BK203.out)) : gb228 ≠ gb203))
                        have n11_ := Aside0.mk ((by rw [hg]; exact Nat.ne_of_lt (blk_lt (g := gb204) (o := .cells #[.int .i64 a1_0, .int .i64 a1_1] 23 (0, 0)) (by (with_reducible repeat (first | refine blk_drewN ?_ _ | refine blk_drew ?_ | refine blk_alloc ?_ _)); exact BK204.out)) : gb204 ≠ gb228))
                        have n12_ := Aside0.mk ((by rw [hg]; exact Nat.ne_of_gt (blk_lt (g := gb204) (o := .cells #[.int .i64 a1_0, .int .i64 a1_1] 23 (0, 0)) (by (with_reducible repeat (first | refine blk_drewN ?_ _ | refine blk_drew ?_ | refine blk_alloc ?_ _)); exact BK204.out)) : gb228 ≠ gb204))
                        have n13_ := Aside0.mk ((by rw [hg]; exact Nat.ne_of_lt (blk_lt (g := gb208) (o := .cells #[.int .i64 t205, .int .i64 t206] 23 (0, 0)) (by (with_reducible repeat (first | refine blk_drewN ?_ _ | refine blk_drew ?_ | refine blk_alloc ?_ _)); exact BK208.out)) : gb208 ≠ gb228))
                        have n14_ := Aside0.mk ((by rw [hg]; exact Nat.ne_of_gt (blk_lt (g := gb208) (o := .cells #[.int .i64 t205, .int .i64 t206] 23 (0, 0)) (by (with_reducible repeat (first | refine blk_drewN ?_ _ | refine blk_drew ?_ | refine blk_alloc ?_ _)); exact BK208.out)) : gb228 ≠ gb208))
                        have n15_ := Aside0.mk ((by rw [hg]; exact Nat.ne_of_lt (blk_lt (g := gb216) (o := .cells #[.int .i64 t213, .int .i64 t214] 32 (0, 0)) (by (with_reducible repeat (first | refine blk_drewN ?_ _ | refine blk_drew ?_ | refine blk_alloc ?_ _)); exact BK216.out)) : gb216 ≠ gb228))
                        have n16_ := Aside0.mk ((by rw [hg]; exact Nat.ne_of_gt (blk_lt (g := gb216) (o := .cells #[.int .i64 t213, .int .i64 t214] 32 (0, 0)) (by (with_reducible repeat (first | refine blk_drewN ?_ _ | refine blk_drew ?_ | refine blk_alloc ?_ _)); exact BK216.out)) : gb228 ≠ gb216))
                        have n17_ := Aside0.mk ((by rw [hg]; exact Nat.ne_of_lt (blk_lt (g := gb220) (o := .cells #[.int .i64 t217, .int .i64 t218] 23 (0, 0)) (by (with_reducible repeat (first | refine blk_drewN ?_ _ | refine blk_drew ?_ | refine blk_alloc ?_ _)); exact BK220.out)) : gb220 ≠ gb228))
                        have n18_ := Aside0.mk ((by rw [hg]; exact Nat.ne_of_gt (blk_lt (g := gb220) (o := .cells #[.int .i64 t217, .int .i64 t218] 23 (0, 0)) (by (with_reducible repeat (first | refine blk_drewN ?_ _ | refine blk_drew ?_ | refine blk_alloc ?_ _)); exact BK220.out)) : gb228 ≠ gb220))
                        clear BK203
                        clear BK204
                        clear BK208
                        clear BK216
                        clear BK220
                        clear HB
                        have BK203 := n0_
                        have BK204 := n1_
                        have BK208 := n2_
                        have BK216 := n3_
                        have BK220 := n4_
                        have HB := n5_
                        have BK228 := n6_
                        have GW228 := n7_
                        have GE228 := n8_
                        have NB203_228 := n9_
                        have NB228_203 := n10_
                        have NB204_228 := n11_
                        have NB228_204 := n12_
                        have NB208_228 := n13_
                        have NB228_208 := n14_
                        have NB216_228 := n15_
                        have NB228_216 := n16_
                        have NB220_228 := n17_
                        have NB228_220 := n18_
                        clear n0_ n1_ n2_ n3_ n4_ n5_ n6_ n7_ n8_ n9_ n10_ n11_ n12_ n13_ n14_ n15_ n16_ n17_ n18_
                        clear hb hbox hg
                        refine hK.out _ _ ⟨(blk_cell BK203.out 0).trans rfl, (blk_cell BK203.out 1).trans rfl, (blk_cell BK204.out 0).trans rfl, (blk_cell BK204.out 1).trans rfl⟩ (fun hHeld => ?_)
                        clear hK K
                        refine norm_ (a' := ?_) ?_ ?_
                        rotate_left
                        · show Act.put _ (some 11) _ = _
                          simp only [Act.put, List.setIfInBounds_toArray, List.set_cons_zero, List.set_cons_succ, i64_w, i32_w]
                          rfl
                        refine one_ (i := 3) (N := some 45) #[true, true, true, true, false, false, false, false, true, false, false] rfl rfl (one_of HT_.out (by kernel_rfl)) (by decide) (fun K hK => ?_)
                        refine goes_ Try.func24 (by kernel_rfl) rfl #[.agg #[.int .i64 a1_0, .int .i64 a1_1]] (by rfl) rfl rfl (by (try simp only [List.map_toArray, List.map_cons, List.map_nil]); first | done | rfl | (simp only [List.length_drop, List.length_take]; rfl)) ?_
                        with_reducible refine (mosaiclaw05_Ref.calls a1_0 a1_1 t223 t224 _ A9.out).mono ?_
                        rintro e w66 ⟨rfl, hb⟩
                        refine ⟨_, rfl, ?_⟩
                        have n0_ := Aside0.mk (blk_below (g := gb203) (o := .cells #[.int .i64 a0_0, .int .i64 a0_1] 23 (0, 0)) (by (with_reducible repeat (first | refine blk_drewN ?_ _ | refine blk_drew ?_ | refine blk_alloc ?_ _)); exact BK203.out) hb)
                        have n1_ := Aside0.mk (blk_below (g := gb204) (o := .cells #[.int .i64 a1_0, .int .i64 a1_1] 23 (0, 0)) (by (with_reducible repeat (first | refine blk_drewN ?_ _ | refine blk_drew ?_ | refine blk_alloc ?_ _)); exact BK204.out) hb)
                        have n2_ := Aside0.mk (blk_below (g := gb208) (o := .cells #[.int .i64 t205, .int .i64 t206] 23 (0, 0)) (by (with_reducible repeat (first | refine blk_drewN ?_ _ | refine blk_drew ?_ | refine blk_alloc ?_ _)); exact BK208.out) hb)
                        have n3_ := Aside0.mk (blk_below (g := gb216) (o := .cells #[.int .i64 t213, .int .i64 t214] 32 (0, 0)) (by (with_reducible repeat (first | refine blk_drewN ?_ _ | refine blk_drew ?_ | refine blk_alloc ?_ _)); exact BK216.out) hb)
                        have n4_ := Aside0.mk (blk_below (g := gb220) (o := .cells #[.int .i64 t217, .int .i64 t218] 23 (0, 0)) (by (with_reducible repeat (first | refine blk_drewN ?_ _ | refine blk_drew ?_ | refine blk_alloc ?_ _)); exact BK220.out) hb)
                        have n5_ := Aside0.mk (blk_below (g := gb228) (o := .cells #[.int .i64 0, .int .i64 0] 32 (0, 0)) (by (with_reducible repeat (first | refine blk_drewN ?_ _ | refine blk_drew ?_ | refine blk_alloc ?_ _)); exact BK228.out) hb)
                        have n6_ := Aside0.mk (below_step (by repeat (first | (with_reducible first | exact HB.out | apply below_alloc | apply pw_below_drewN | apply below_drew1 | refine below_set ?_ GE203.out | refine below_set ?_ GE204.out | refine below_set ?_ GE208.out | refine below_set ?_ GE216.out | refine below_set ?_ GE220.out | refine below_set ?_ GE228.out) | exact HB.out)) hb)
                        clear BK203
                        clear BK204
                        clear BK208
                        clear BK216
                        clear BK220
                        clear BK228
                        clear HB
                        have BK203 := n0_
                        have BK204 := n1_
                        have BK208 := n2_
                        have BK216 := n3_
                        have BK220 := n4_
                        have BK228 := n5_
                        have HB := n6_
                        clear n0_ n1_ n2_ n3_ n4_ n5_ n6_
                        (try clear hb)
                        (try clear hb2)
                        (try clear hk)
                        (try clear hi)
                        refine hK.out _ _ ⟨(blk_cell BK203.out 0).trans rfl, (blk_cell BK203.out 1).trans rfl, (blk_cell BK204.out 0).trans rfl, (blk_cell BK204.out 1).trans rfl⟩ (fun hHeld => ?_)
                        clear hK K
                        refine norm_ (a' := ?_) ?_ ?_
                        rotate_left
                        · show Act.put _ (some 45) _ = _
                          simp only [Act.put, List.setIfInBounds_toArray, List.set_cons_zero, List.set_cons_succ, i64_w, i32_w]
                          rfl
                        refine one_ (i := 4) (N := some 46) #[true, true, true, true, true, false, false, false, true, false, false] rfl rfl (one_of HT_.out (by kernel_rfl)) (by decide) (fun K hK => ?_)
                        refine goes_ Try.func37 (by kernel_rfl) rfl #[.agg #[.int .i64 t221, .int .i64 t222], .agg #[.int .i64 t223, .int .i64 t224], .int .i64 (-1)] (by rfl) rfl rfl (by (try simp only [List.map_toArray, List.map_cons, List.map_nil]); first | done | rfl | (simp only [List.length_drop, List.length_take]; rfl)) ?_
                        with_reducible refine (mosaicref05_Sum.calls k t221 t222 t223 t224 (-1) t225 t226 t227 _ A10.out).mono ?_
                        rintro e w67 ⟨rfl, hb⟩
                        refine ⟨_, rfl, ?_⟩
                        have n0_ := Aside0.mk (blk_below (g := gb203) (o := .cells #[.int .i64 a0_0, .int .i64 a0_1] 23 (0, 0)) (by (with_reducible repeat (first | refine blk_drewN ?_ _ | refine blk_drew ?_ | refine blk_alloc ?_ _)); exact BK203.out) hb)
                        have n1_ := Aside0.mk (blk_below (g := gb204) (o := .cells #[.int .i64 a1_0, .int .i64 a1_1] 23 (0, 0)) (by (with_reducible repeat (first | refine blk_drewN ?_ _ | refine blk_drew ?_ | refine blk_alloc ?_ _)); exact BK204.out) hb)
                        have n2_ := Aside0.mk (blk_below (g := gb208) (o := .cells #[.int .i64 t205, .int .i64 t206] 23 (0, 0)) (by (with_reducible repeat (first | refine blk_drewN ?_ _ | refine blk_drew ?_ | refine blk_alloc ?_ _)); exact BK208.out) hb)
                        have n3_ := Aside0.mk (blk_below (g := gb216) (o := .cells #[.int .i64 t213, .int .i64 t214] 32 (0, 0)) (by (with_reducible repeat (first | refine blk_drewN ?_ _ | refine blk_drew ?_ | refine blk_alloc ?_ _)); exact BK216.out) hb)
                        have n4_ := Aside0.mk (blk_below (g := gb220) (o := .cells #[.int .i64 t217, .int .i64 t218] 23 (0, 0)) (by (with_reducible repeat (first | refine blk_drewN ?_ _ | refine blk_drew ?_ | refine blk_alloc ?_ _)); exact BK220.out) hb)
                        have n5_ := Aside0.mk (blk_below (g := gb228) (o := .cells #[.int .i64 0, .int .i64 0] 32 (0, 0)) (by (with_reducible repeat (first | refine blk_drewN ?_ _ | refine blk_drew ?_ | refine blk_alloc ?_ _)); exact BK228.out) hb)
                        have n6_ := Aside0.mk (below_step (by repeat (first | (with_reducible first | exact HB.out | apply below_alloc | apply pw_below_drewN | apply below_drew1 | refine below_set ?_ GE203.out | refine below_set ?_ GE204.out | refine below_set ?_ GE208.out | refine below_set ?_ GE216.out | refine below_set ?_ GE220.out | refine below_set ?_ GE228.out) | exact HB.out)) hb)
                        clear BK203
                        clear BK204
                        clear BK208
                        clear BK216
                        clear BK220
                        clear BK228
                        clear HB
                        have BK203 := n0_
                        have BK204 := n1_
                        have BK208 := n2_
                        have BK216 := n3_
                        have BK220 := n4_
                        have BK228 := n5_
                        have HB := n6_
                        clear n0_ n1_ n2_ n3_ n4_ n5_ n6_
                        (try clear hb)
                        (try clear hb2)
                        (try clear hk)
                        (try clear hi)
                        refine hK.out _ _ ⟨(blk_cell BK203.out 0).trans rfl, (blk_cell BK203.out 1).trans rfl, (blk_cell BK204.out 0).trans rfl, (blk_cell BK204.out 1).trans rfl⟩ (fun hHeld => ?_)
                        clear hK K
                        refine norm_ (a' := ?_) ?_ ?_
                        rotate_left
                        · show Act.put _ (some 46) _ = _
                          simp only [Act.put, List.setIfInBounds_toArray, List.set_cons_zero, List.set_cons_succ, i64_w, i32_w]
                          rfl
                        refine pure_ (i := 5) (N := some 41) (v := ?_) (a' := ?_) #[true, true, true, true, true, true, false, false, true, false, false] rfl rfl (any_of HT_.out (by kernel_rfl)) (fun _ _ _ h => h) (Or.inl ⟨by rfl, ?_⟩) ?_ ?_
                        rotate_left
                        · intro w'
                          go_simp
                          with_reducible rfl
                        rotate_left
                        · simp only [Act.put, List.setIfInBounds_toArray, List.set_cons_zero, List.set_cons_succ, i64_w, i32_w]
                          rfl
                        refine pure_ (i := 6) (N := some 47) (v := ?_) (a' := ?_) #[true, true, true, true, true, true, true, false, true, false, false] rfl rfl (any_of HT_.out (by kernel_rfl)) (fun _ _ _ h => h) (Or.inl ⟨by rfl, ?_⟩) ?_ ?_
                        rotate_left
                        · intro w'
                          go_simp
                          with_reducible rfl
                        rotate_left
                        · simp only [Act.put, List.setIfInBounds_toArray, List.set_cons_zero, List.set_cons_succ, i64_w, i32_w]
                          rfl
                        refine pure_ (i := 7) (N := some 48) (v := ?_) (a' := ?_) #[true, true, true, true, true, true, true, true, true, false, false] rfl rfl (any_of HT_.out (by kernel_rfl)) (fun _ _ _ h => h) (Or.inl ⟨by rfl, ?_⟩) ?_ ?_
                        rotate_left
                        · intro w'
                          go_simp
                          with_reducible rfl
                        rotate_left
                        · simp only [Act.put, List.setIfInBounds_toArray, List.set_cons_zero, List.set_cons_succ, i64_w, i32_w]
                          rfl
                        exact norm_ (by simp only [putAll, Act.put, List.setIfInBounds_toArray, List.set_cons_zero, List.set_cons_succ]) (hCont (gb228) _ ⟨hHeld, (by (with_reducible repeat (first | refine blk_drewN ?_ _ | refine blk_drew ?_ | refine blk_alloc ?_ _)); exact BK203.out), (by (with_reducible repeat (first | refine blk_drewN ?_ _ | refine blk_drew ?_ | refine blk_alloc ?_ _)); exact BK204.out), (by (with_reducible repeat (first | refine blk_drewN ?_ _ | refine blk_drew ?_ | refine blk_alloc ?_ _)); exact BK208.out), (by (with_reducible repeat (first | refine blk_drewN ?_ _ | refine blk_drew ?_ | refine blk_alloc ?_ _)); exact BK216.out), (by (with_reducible repeat (first | refine blk_drewN ?_ _ | refine blk_drew ?_ | refine blk_alloc ?_ _)); exact BK220.out), (by (with_reducible repeat (first | refine blk_drewN ?_ _ | refine blk_drew ?_ | refine blk_alloc ?_ _)); exact BK228.out), GW228.out, GE228.out, NB203_228.out, NB228_203.out, NB204_228.out, NB228_204.out, NB208_228.out, NB228_208.out, NB216_228.out, NB228_216.out, NB220_228.out, NB228_220.out, (by repeat (first | (with_reducible first | exact HB.out | apply below_alloc | apply pw_below_drewN | apply below_drew1 | refine below_set ?_ GE203.out | refine below_set ?_ GE204.out | refine below_set ?_ GE208.out | refine below_set ?_ GE216.out | refine below_set ?_ GE220.out | refine below_set ?_ GE228.out) | exact HB.out))⟩)
                    · skip
                      refine box_step ?hg (N := 11) ?hd (cs := #[.int .i64 0, .int .i64 0]) (t := 32) ?hr ?_; (case hd => rfl); (case hg => rfl); (case hr => first | (go_simp; done) | (go_simp; rfl))
                      intro gb228 hg w64 hbox hb
                      have n0_ := Aside0.mk (blk_below (g := gb203) (o := .cells #[.int .i64 a0_0, .int .i64 a0_1] 23 (0, 0)) (by (with_reducible repeat (first | refine blk_drewN ?_ _ | refine blk_drew ?_ | refine blk_alloc ?_ _)); exact BK203.out) hb)
                      have n1_ := Aside0.mk (blk_below (g := gb204) (o := .cells #[.int .i64 a1_0, .int .i64 a1_1] 23 (0, 0)) (by (with_reducible repeat (first | refine blk_drewN ?_ _ | refine blk_drew ?_ | refine blk_alloc ?_ _)); exact BK204.out) hb)
                      have n2_ := Aside0.mk (blk_below (g := gb208) (o := .cells #[.int .i64 t205, .int .i64 t206] 23 (0, 0)) (by (with_reducible repeat (first | refine blk_drewN ?_ _ | refine blk_drew ?_ | refine blk_alloc ?_ _)); exact BK208.out) hb)
                      have n3_ := Aside0.mk (blk_below (g := gb216) (o := .cells #[.int .i64 t213, .int .i64 t214] 32 (0, 0)) (by (with_reducible repeat (first | refine blk_drewN ?_ _ | refine blk_drew ?_ | refine blk_alloc ?_ _)); exact BK216.out) hb)
                      have n4_ := Aside0.mk (blk_below (g := gb220) (o := .cells #[.int .i64 t217, .int .i64 t218] 23 (0, 0)) (by (with_reducible repeat (first | refine blk_drewN ?_ _ | refine blk_drew ?_ | refine blk_alloc ?_ _)); exact BK220.out) hb)
                      have n5_ := Aside0.mk (below_step (by repeat (first | (with_reducible first | exact HB.out | apply below_alloc | apply pw_below_drewN | apply below_drew1 | refine below_set ?_ GE203.out | refine below_set ?_ GE204.out | refine below_set ?_ GE208.out | refine below_set ?_ GE216.out | refine below_set ?_ GE220.out) | exact HB.out)) hb)
                      have n6_ := Aside0.mk (hbox)
                      have n7_ := Aside0.mk ((by rw [hg]; exact (below_size (by repeat (first | (with_reducible first | exact HB.out | apply below_alloc | apply pw_below_drewN | apply below_drew1 | refine below_set ?_ GE203.out | refine below_set ?_ GE204.out | refine below_set ?_ GE208.out | refine below_set ?_ GE216.out | refine below_set ?_ GE220.out) | exact HB.out))) : w.heap.size ≤ gb228))
                      have n8_ := Aside0.mk ((by rw [hg]; exact (below_size (by repeat (first | (with_reducible first | exact HB.out | apply below_alloc | apply pw_below_drewN | apply below_drew1 | refine below_set ?_ GE203.out | refine below_set ?_ GE204.out | refine below_set ?_ GE208.out | refine below_set ?_ GE216.out | refine below_set ?_ GE220.out) | exact HB.out))) : w.heap.size ≤ gb228))
                      have n9_ := Aside0.mk ((by rw [hg]; exact Nat.ne_of_lt (blk_lt (g := gb203) (o := .cells #[.int .i64 a0_0, .int .i64 a0_1] 23 (0, 0)) (by (with_reducible repeat (first | refine blk_drewN ?_ _ | refine blk_drew ?_ | refine blk_alloc ?_ _)); exact BK203.out)) : gb203 ≠ gb228))
                      have n10_ := Aside0.mk ((by rw [hg]; exact Nat.ne_of_gt (blk_lt (g := gb203) (o := .cells #[.int .i64 a0_0, .int .i64 a0_1] 23 (0, 0)) (by (with_reducible repeat (first | refine blk_drewN ?_ _ | refine blk_drew ?_ | refine blk_alloc ?_ _)); exact BK203.out)) : gb228 ≠ gb203))
                      have n11_ := Aside0.mk ((by rw [hg]; exact Nat.ne_of_lt (blk_lt (g := gb204) (o := .cells #[.int .i64 a1_0, .int .i64 a1_1] 23 (0, 0)) (by (with_reducible repeat (first | refine blk_drewN ?_ _ | refine blk_drew ?_ | refine blk_alloc ?_ _)); exact BK204.out)) : gb204 ≠ gb228))
                      have n12_ := Aside0.mk ((by rw [hg]; exact Nat.ne_of_gt (blk_lt (g := gb204) (o := .cells #[.int .i64 a1_0, .int .i64 a1_1] 23 (0, 0)) (by (with_reducible repeat (first | refine blk_drewN ?_ _ | refine blk_drew ?_ | refine blk_alloc ?_ _)); exact BK204.out)) : gb228 ≠ gb204))
                      have n13_ := Aside0.mk ((by rw [hg]; exact Nat.ne_of_lt (blk_lt (g := gb208) (o := .cells #[.int .i64 t205, .int .i64 t206] 23 (0, 0)) (by (with_reducible repeat (first | refine blk_drewN ?_ _ | refine blk_drew ?_ | refine blk_alloc ?_ _)); exact BK208.out)) : gb208 ≠ gb228))
                      have n14_ := Aside0.mk ((by rw [hg]; exact Nat.ne_of_gt (blk_lt (g := gb208) (o := .cells #[.int .i64 t205, .int .i64 t206] 23 (0, 0)) (by (with_reducible repeat (first | refine blk_drewN ?_ _ | refine blk_drew ?_ | refine blk_alloc ?_ _)); exact BK208.out)) : gb228 ≠ gb208))
                      have n15_ := Aside0.mk ((by rw [hg]; exact Nat.ne_of_lt (blk_lt (g := gb216) (o := .cells #[.int .i64 t213, .int .i64 t214] 32 (0, 0)) (by (with_reducible repeat (first | refine blk_drewN ?_ _ | refine blk_drew ?_ | refine blk_alloc ?_ _)); exact BK216.out)) : gb216 ≠ gb228))
                      have n16_ := Aside0.mk ((by rw [hg]; exact Nat.ne_of_gt (blk_lt (g := gb216) (o := .cells #[.int .i64 t213, .int .i64 t214] 32 (0, 0)) (by (with_reducible repeat (first | refine blk_drewN ?_ _ | refine blk_drew ?_ | refine blk_alloc ?_ _)); exact BK216.out)) : gb228 ≠ gb216))
                      have n17_ := Aside0.mk ((by rw [hg]; exact Nat.ne_of_lt (blk_lt (g := gb220) (o := .cells #[.int .i64 t217, .int .i64 t218] 23 (0, 0)) (by (with_reducible repeat (first | refine blk_drewN ?_ _ | refine blk_drew ?_ | refine blk_alloc ?_ _)); exact BK220.out)) : gb220 ≠ gb228))
                      have n18_ := Aside0.mk ((by rw [hg]; exact Nat.ne_of_gt (blk_lt (g := gb220) (o := .cells #[.int .i64 t217, .int .i64 t218] 23 (0, 0)) (by (with_reducible repeat (first | refine blk_drewN ?_ _ | refine blk_drew ?_ | refine blk_alloc ?_ _)); exact BK220.out)) : gb228 ≠ gb220))
                      clear BK203
                      clear BK204
                      clear BK208
                      clear BK216
                      clear BK220
                      clear HB
                      have BK203 := n0_
                      have BK204 := n1_
                      have BK208 := n2_
                      have BK216 := n3_
                      have BK220 := n4_
                      have HB := n5_
                      have BK228 := n6_
                      have GW228 := n7_
                      have GE228 := n8_
                      have NB203_228 := n9_
                      have NB228_203 := n10_
                      have NB204_228 := n11_
                      have NB228_204 := n12_
                      have NB208_228 := n13_
                      have NB228_208 := n14_
                      have NB216_228 := n15_
                      have NB228_216 := n16_
                      have NB220_228 := n17_
                      have NB228_220 := n18_
                      clear n0_ n1_ n2_ n3_ n4_ n5_ n6_ n7_ n8_ n9_ n10_ n11_ n12_ n13_ n14_ n15_ n16_ n17_ n18_
                      clear hb hbox hg
                      refine hK.out _ _ ⟨(blk_cell BK203.out 0).trans rfl, (blk_cell BK203.out 1).trans rfl, (blk_cell BK204.out 0).trans rfl, (blk_cell BK204.out 1).trans rfl⟩ (fun hHeld => ?_)
                      clear hK K
                      refine norm_ (a' := ?_) ?_ ?_
                      rotate_left
                      · show Act.put _ (some 11) _ = _
                        simp only [Act.put, List.setIfInBounds_toArray, List.set_cons_zero, List.set_cons_succ, i64_w, i32_w]
                        rfl
                      refine one_ (i := 1) (N := some 43) #[true, true, true, false, false, false, false, false, true, false, false] rfl rfl (one_of HT_.out (by kernel_rfl)) (by decide) (fun K hK => ?_)
                      refine goes_ Try.func24 (by kernel_rfl) rfl #[.agg #[.int .i64 a0_0, .int .i64 a0_1]] (by rfl) rfl rfl (by (try simp only [List.map_toArray, List.map_cons, List.map_nil]); first | done | rfl | (simp only [List.length_drop, List.length_take]; rfl)) ?_
                      with_reducible refine (mosaiclaw05_Ref.calls a0_0 a0_1 t221 t222 _ A8.out).mono ?_
                      rintro e w65 ⟨rfl, hb⟩
                      refine ⟨_, rfl, ?_⟩
                      have n0_ := Aside0.mk (blk_below (g := gb203) (o := .cells #[.int .i64 a0_0, .int .i64 a0_1] 23 (0, 0)) (by (with_reducible repeat (first | refine blk_drewN ?_ _ | refine blk_drew ?_ | refine blk_alloc ?_ _)); exact BK203.out) hb)
                      have n1_ := Aside0.mk (blk_below (g := gb204) (o := .cells #[.int .i64 a1_0, .int .i64 a1_1] 23 (0, 0)) (by (with_reducible repeat (first | refine blk_drewN ?_ _ | refine blk_drew ?_ | refine blk_alloc ?_ _)); exact BK204.out) hb)
                      have n2_ := Aside0.mk (blk_below (g := gb208) (o := .cells #[.int .i64 t205, .int .i64 t206] 23 (0, 0)) (by (with_reducible repeat (first | refine blk_drewN ?_ _ | refine blk_drew ?_ | refine blk_alloc ?_ _)); exact BK208.out) hb)
                      have n3_ := Aside0.mk (blk_below (g := gb216) (o := .cells #[.int .i64 t213, .int .i64 t214] 32 (0, 0)) (by (with_reducible repeat (first | refine blk_drewN ?_ _ | refine blk_drew ?_ | refine blk_alloc ?_ _)); exact BK216.out) hb)
                      have n4_ := Aside0.mk (blk_below (g := gb220) (o := .cells #[.int .i64 t217, .int .i64 t218] 23 (0, 0)) (by (with_reducible repeat (first | refine blk_drewN ?_ _ | refine blk_drew ?_ | refine blk_alloc ?_ _)); exact BK220.out) hb)
                      have n5_ := Aside0.mk (blk_below (g := gb228) (o := .cells #[.int .i64 0, .int .i64 0] 32 (0, 0)) (by (with_reducible repeat (first | refine blk_drewN ?_ _ | refine blk_drew ?_ | refine blk_alloc ?_ _)); exact BK228.out) hb)
                      have n6_ := Aside0.mk (below_step (by repeat (first | (with_reducible first | exact HB.out | apply below_alloc | apply pw_below_drewN | apply below_drew1 | refine below_set ?_ GE203.out | refine below_set ?_ GE204.out | refine below_set ?_ GE208.out | refine below_set ?_ GE216.out | refine below_set ?_ GE220.out | refine below_set ?_ GE228.out) | exact HB.out)) hb)
                      clear BK203
                      clear BK204
                      clear BK208
                      clear BK216
                      clear BK220
                      clear BK228
                      clear HB
                      have BK203 := n0_
                      have BK204 := n1_
                      have BK208 := n2_
                      have BK216 := n3_
                      have BK220 := n4_
                      have BK228 := n5_
                      have HB := n6_
                      clear n0_ n1_ n2_ n3_ n4_ n5_ n6_
                      (try clear hb)
                      (try clear hb2)
                      (try clear hk)
                      (try clear hi)
                      refine hK.out _ _ ⟨(blk_cell BK203.out 0).trans rfl, (blk_cell BK203.out 1).trans rfl, (blk_cell BK204.out 0).trans rfl, (blk_cell BK204.out 1).trans rfl⟩ (fun hHeld => ?_)
                      clear hK K
                      refine norm_ (a' := ?_) ?_ ?_
                      rotate_left
                      · show Act.put _ (some 43) _ = _
                        simp only [Act.put, List.setIfInBounds_toArray, List.set_cons_zero, List.set_cons_succ, i64_w, i32_w]
                        rfl
                      refine one_ (i := 3) (N := some 45) #[true, true, true, true, false, false, false, false, true, false, false] rfl rfl (one_of HT_.out (by kernel_rfl)) (by decide) (fun K hK => ?_)
                      refine goes_ Try.func24 (by kernel_rfl) rfl #[.agg #[.int .i64 a1_0, .int .i64 a1_1]] (by rfl) rfl rfl (by (try simp only [List.map_toArray, List.map_cons, List.map_nil]); first | done | rfl | (simp only [List.length_drop, List.length_take]; rfl)) ?_
                      with_reducible refine (mosaiclaw05_Ref.calls a1_0 a1_1 t223 t224 _ A9.out).mono ?_
                      rintro e w66 ⟨rfl, hb⟩
                      refine ⟨_, rfl, ?_⟩
                      have n0_ := Aside0.mk (blk_below (g := gb203) (o := .cells #[.int .i64 a0_0, .int .i64 a0_1] 23 (0, 0)) (by (with_reducible repeat (first | refine blk_drewN ?_ _ | refine blk_drew ?_ | refine blk_alloc ?_ _)); exact BK203.out) hb)
                      have n1_ := Aside0.mk (blk_below (g := gb204) (o := .cells #[.int .i64 a1_0, .int .i64 a1_1] 23 (0, 0)) (by (with_reducible repeat (first | refine blk_drewN ?_ _ | refine blk_drew ?_ | refine blk_alloc ?_ _)); exact BK204.out) hb)
                      have n2_ := Aside0.mk (blk_below (g := gb208) (o := .cells #[.int .i64 t205, .int .i64 t206] 23 (0, 0)) (by (with_reducible repeat (first | refine blk_drewN ?_ _ | refine blk_drew ?_ | refine blk_alloc ?_ _)); exact BK208.out) hb)
                      have n3_ := Aside0.mk (blk_below (g := gb216) (o := .cells #[.int .i64 t213, .int .i64 t214] 32 (0, 0)) (by (with_reducible repeat (first | refine blk_drewN ?_ _ | refine blk_drew ?_ | refine blk_alloc ?_ _)); exact BK216.out) hb)
                      have n4_ := Aside0.mk (blk_below (g := gb220) (o := .cells #[.int .i64 t217, .int .i64 t218] 23 (0, 0)) (by (with_reducible repeat (first | refine blk_drewN ?_ _ | refine blk_drew ?_ | refine blk_alloc ?_ _)); exact BK220.out) hb)
                      have n5_ := Aside0.mk (blk_below (g := gb228) (o := .cells #[.int .i64 0, .int .i64 0] 32 (0, 0)) (by (with_reducible repeat (first | refine blk_drewN ?_ _ | refine blk_drew ?_ | refine blk_alloc ?_ _)); exact BK228.out) hb)
                      have n6_ := Aside0.mk (below_step (by repeat (first | (with_reducible first | exact HB.out | apply below_alloc | apply pw_below_drewN | apply below_drew1 | refine below_set ?_ GE203.out | refine below_set ?_ GE204.out | refine below_set ?_ GE208.out | refine below_set ?_ GE216.out | refine below_set ?_ GE220.out | refine below_set ?_ GE228.out) | exact HB.out)) hb)
                      clear BK203
                      clear BK204
                      clear BK208
                      clear BK216
                      clear BK220
                      clear BK228
                      clear HB
                      have BK203 := n0_
                      have BK204 := n1_
                      have BK208 := n2_
                      have BK216 := n3_
                      have BK220 := n4_
                      have BK228 := n5_
                      have HB := n6_
                      clear n0_ n1_ n2_ n3_ n4_ n5_ n6_
                      (try clear hb)
                      (try clear hb2)
                      (try clear hk)
                      (try clear hi)
                      refine hK.out _ _ ⟨(blk_cell BK203.out 0).trans rfl, (blk_cell BK203.out 1).trans rfl, (blk_cell BK204.out 0).trans rfl, (blk_cell BK204.out 1).trans rfl⟩ (fun hHeld => ?_)
                      clear hK K
                      refine norm_ (a' := ?_) ?_ ?_
                      rotate_left
                      · show Act.put _ (some 45) _ = _
                        simp only [Act.put, List.setIfInBounds_toArray, List.set_cons_zero, List.set_cons_succ, i64_w, i32_w]
                        rfl
                      refine one_ (i := 4) (N := some 46) #[true, true, true, true, true, false, false, false, true, false, false] rfl rfl (one_of HT_.out (by kernel_rfl)) (by decide) (fun K hK => ?_)
                      refine goes_ Try.func37 (by kernel_rfl) rfl #[.agg #[.int .i64 t221, .int .i64 t222], .agg #[.int .i64 t223, .int .i64 t224], .int .i64 (-1)] (by rfl) rfl rfl (by (try simp only [List.map_toArray, List.map_cons, List.map_nil]); first | done | rfl | (simp only [List.length_drop, List.length_take]; rfl)) ?_
                      with_reducible refine (mosaicref05_Sum.calls k t221 t222 t223 t224 (-1) t225 t226 t227 _ A10.out).mono ?_
                      rintro e w67 ⟨rfl, hb⟩
                      refine ⟨_, rfl, ?_⟩
                      have n0_ := Aside0.mk (blk_below (g := gb203) (o := .cells #[.int .i64 a0_0, .int .i64 a0_1] 23 (0, 0)) (by (with_reducible repeat (first | refine blk_drewN ?_ _ | refine blk_drew ?_ | refine blk_alloc ?_ _)); exact BK203.out) hb)
                      have n1_ := Aside0.mk (blk_below (g := gb204) (o := .cells #[.int .i64 a1_0, .int .i64 a1_1] 23 (0, 0)) (by (with_reducible repeat (first | refine blk_drewN ?_ _ | refine blk_drew ?_ | refine blk_alloc ?_ _)); exact BK204.out) hb)
                      have n2_ := Aside0.mk (blk_below (g := gb208) (o := .cells #[.int .i64 t205, .int .i64 t206] 23 (0, 0)) (by (with_reducible repeat (first | refine blk_drewN ?_ _ | refine blk_drew ?_ | refine blk_alloc ?_ _)); exact BK208.out) hb)
                      have n3_ := Aside0.mk (blk_below (g := gb216) (o := .cells #[.int .i64 t213, .int .i64 t214] 32 (0, 0)) (by (with_reducible repeat (first | refine blk_drewN ?_ _ | refine blk_drew ?_ | refine blk_alloc ?_ _)); exact BK216.out) hb)
                      have n4_ := Aside0.mk (blk_below (g := gb220) (o := .cells #[.int .i64 t217, .int .i64 t218] 23 (0, 0)) (by (with_reducible repeat (first | refine blk_drewN ?_ _ | refine blk_drew ?_ | refine blk_alloc ?_ _)); exact BK220.out) hb)
                      have n5_ := Aside0.mk (blk_below (g := gb228) (o := .cells #[.int .i64 0, .int .i64 0] 32 (0, 0)) (by (with_reducible repeat (first | refine blk_drewN ?_ _ | refine blk_drew ?_ | refine blk_alloc ?_ _)); exact BK228.out) hb)
                      have n6_ := Aside0.mk (below_step (by repeat (first | (with_reducible first | exact HB.out | apply below_alloc | apply pw_below_drewN | apply below_drew1 | refine below_set ?_ GE203.out | refine below_set ?_ GE204.out | refine below_set ?_ GE208.out | refine below_set ?_ GE216.out | refine below_set ?_ GE220.out | refine below_set ?_ GE228.out) | exact HB.out)) hb)
                      clear BK203
                      clear BK204
                      clear BK208
                      clear BK216
                      clear BK220
                      clear BK228
                      clear HB
                      have BK203 := n0_
                      have BK204 := n1_
                      have BK208 := n2_
                      have BK216 := n3_
                      have BK220 := n4_
                      have BK228 := n5_
                      have HB := n6_
                      clear n0_ n1_ n2_ n3_ n4_ n5_ n6_
                      (try clear hb)
                      (try clear hb2)
                      (try clear hk)
                      (try clear hi)
                      refine hK.out _ _ ⟨(blk_cell BK203.out 0).trans rfl, (blk_cell BK203.out 1).trans rfl, (blk_cell BK204.out 0).trans rfl, (blk_cell BK204.out 1).trans rfl⟩ (fun hHeld => ?_)
                      clear hK K
                      refine norm_ (a' := ?_) ?_ ?_
                      rotate_left
                      · show Act.put _ (some 46) _ = _
                        simp only [Act.put, List.setIfInBounds_toArray, List.set_cons_zero, List.set_cons_succ, i64_w, i32_w]
                        rfl
                      refine pure_ (i := 5) (N := some 41) (v := ?_) (a' := ?_) #[true, true, true, true, true, true, false, false, true, false, false] rfl rfl (any_of HT_.out (by kernel_rfl)) (fun _ _ _ h => h) (Or.inl ⟨by rfl, ?_⟩) ?_ ?_
                      rotate_left
                      · intro w'
                        go_simp
                        with_reducible rfl
                      rotate_left
                      · simp only [Act.put, List.setIfInBounds_toArray, List.set_cons_zero, List.set_cons_succ, i64_w, i32_w]
                        rfl
                      refine pure_ (i := 6) (N := some 47) (v := ?_) (a' := ?_) #[true, true, true, true, true, true, true, false, true, false, false] rfl rfl (any_of HT_.out (by kernel_rfl)) (fun _ _ _ h => h) (Or.inl ⟨by rfl, ?_⟩) ?_ ?_
                      rotate_left
                      · intro w'
                        go_simp
                        with_reducible rfl
                      rotate_left
                      · simp only [Act.put, List.setIfInBounds_toArray, List.set_cons_zero, List.set_cons_succ, i64_w, i32_w]
                        rfl
                      refine pure_ (i := 7) (N := some 48) (v := ?_) (a' := ?_) #[true, true, true, true, true, true, true, true, true, false, false] rfl rfl (any_of HT_.out (by kernel_rfl)) (fun _ _ _ h => h) (Or.inl ⟨by rfl, ?_⟩) ?_ ?_
                      rotate_left
                      · intro w'
                        go_simp
                        with_reducible rfl
                      rotate_left
                      · simp only [Act.put, List.setIfInBounds_toArray, List.set_cons_zero, List.set_cons_succ, i64_w, i32_w]
                        rfl
                      exact norm_ (by simp only [putAll, Act.put, List.setIfInBounds_toArray, List.set_cons_zero, List.set_cons_succ]) (hCont (gb228) _ ⟨hHeld, (by (with_reducible repeat (first | refine blk_drewN ?_ _ | refine blk_drew ?_ | refine blk_alloc ?_ _)); exact BK203.out), (by (with_reducible repeat (first | refine blk_drewN ?_ _ | refine blk_drew ?_ | refine blk_alloc ?_ _)); exact BK204.out), (by (with_reducible repeat (first | refine blk_drewN ?_ _ | refine blk_drew ?_ | refine blk_alloc ?_ _)); exact BK208.out), (by (with_reducible repeat (first | refine blk_drewN ?_ _ | refine blk_drew ?_ | refine blk_alloc ?_ _)); exact BK216.out), (by (with_reducible repeat (first | refine blk_drewN ?_ _ | refine blk_drew ?_ | refine blk_alloc ?_ _)); exact BK220.out), (by (with_reducible repeat (first | refine blk_drewN ?_ _ | refine blk_drew ?_ | refine blk_alloc ?_ _)); exact BK228.out), GW228.out, GE228.out, NB203_228.out, NB228_203.out, NB204_228.out, NB228_204.out, NB208_228.out, NB228_208.out, NB216_228.out, NB228_216.out, NB220_228.out, NB228_220.out, (by repeat (first | (with_reducible first | exact HB.out | apply below_alloc | apply pw_below_drewN | apply below_drew1 | refine below_set ?_ GE203.out | refine below_set ?_ GE204.out | refine below_set ?_ GE208.out | refine below_set ?_ GE216.out | refine below_set ?_ GE220.out | refine below_set ?_ GE228.out) | exact HB.out))⟩)
                  rintro gb228 w68 ⟨hS_, h0_, h1_, h2_, h3_, h4_, h5_, h6_, h7_, h8_, h9_, h10_, h11_, h12_, h13_, h14_, h15_, h16_, h17_, h18_⟩
                  have n0_ : Aside0 (w68.heap[gb203]? = some (.cells #[.int .i64 a0_0, .int .i64 a0_1] 23 (0, 0))) := ⟨h0_⟩
                  have n1_ : Aside0 (w68.heap[gb204]? = some (.cells #[.int .i64 a1_0, .int .i64 a1_1] 23 (0, 0))) := ⟨h1_⟩
                  have n2_ : Aside0 (w68.heap[gb208]? = some (.cells #[.int .i64 t205, .int .i64 t206] 23 (0, 0))) := ⟨h2_⟩
                  have n3_ : Aside0 (w68.heap[gb216]? = some (.cells #[.int .i64 t213, .int .i64 t214] 32 (0, 0))) := ⟨h3_⟩
                  have n4_ : Aside0 (w68.heap[gb220]? = some (.cells #[.int .i64 t217, .int .i64 t218] 23 (0, 0))) := ⟨h4_⟩
                  have n5_ : Aside0 (w68.heap[gb228]? = some (.cells #[.int .i64 0, .int .i64 0] 32 (0, 0))) := ⟨h5_⟩
                  have n6_ : Aside0 (w.heap.size ≤ gb228) := ⟨h6_⟩
                  have n7_ : Aside0 (w.heap.size ≤ gb228) := ⟨h7_⟩
                  have n8_ : Aside0 (gb203 ≠ gb228) := ⟨h8_⟩
                  have n9_ : Aside0 (gb228 ≠ gb203) := ⟨h9_⟩
                  have n10_ : Aside0 (gb204 ≠ gb228) := ⟨h10_⟩
                  have n11_ : Aside0 (gb228 ≠ gb204) := ⟨h11_⟩
                  have n12_ : Aside0 (gb208 ≠ gb228) := ⟨h12_⟩
                  have n13_ : Aside0 (gb228 ≠ gb208) := ⟨h13_⟩
                  have n14_ : Aside0 (gb216 ≠ gb228) := ⟨h14_⟩
                  have n15_ : Aside0 (gb228 ≠ gb216) := ⟨h15_⟩
                  have n16_ : Aside0 (gb220 ≠ gb228) := ⟨h16_⟩
                  have n17_ : Aside0 (gb228 ≠ gb220) := ⟨h17_⟩
                  have n18_ : Aside0 (Below w.heap.size w w68) := ⟨h18_⟩
                  clear BK203
                  clear BK204
                  clear BK208
                  clear BK216
                  clear BK220
                  clear HB
                  clear h0_ h1_ h2_ h3_ h4_ h5_ h6_ h7_ h8_ h9_ h10_ h11_ h12_ h13_ h14_ h15_ h16_ h17_ h18_
                  have BK203 := n0_
                  have BK204 := n1_
                  have BK208 := n2_
                  have BK216 := n3_
                  have BK220 := n4_
                  have BK228 := n5_
                  have GW228 := n6_
                  have GE228 := n7_
                  have NB203_228 := n8_
                  have NB228_203 := n9_
                  have NB204_228 := n10_
                  have NB228_204 := n11_
                  have NB208_228 := n12_
                  have NB228_208 := n13_
                  have NB216_228 := n14_
                  have NB228_216 := n15_
                  have NB220_228 := n16_
                  have NB228_220 := n17_
                  have HB := n18_
                  clear n0_ n1_ n2_ n3_ n4_ n5_ n6_ n7_ n8_ n9_ n10_ n11_ n12_ n13_ n14_ n15_ n16_ n17_ n18_
                  have hHeld : w68.cell? ⟨gb203, 0, none⟩ = some (.int .i64 a0_0) ∧ w68.cell? ⟨gb203, 1, none⟩ = some (.int .i64 a0_1) ∧ w68.cell? ⟨gb204, 0, none⟩ = some (.int .i64 a1_0) ∧ w68.cell? ⟨gb204, 1, none⟩ = some (.int .i64 a1_1) := hS_
                  refine norm_ (a' := ?_) ?_ ?_
                  rotate_left
                  · simp only [putAll, Act.put, List.setIfInBounds_toArray, List.set_cons_zero, List.set_cons_succ]
                    rfl
                  refine one_ (i := 9) (N := none) #[true, true, true, true, true, true, true, true, true, true, false] rfl rfl (one_of HT_.out (by kernel_rfl)) (by decide) (fun K hK => ?_)
                  have hs69 : w68.cell? ⟨gb228, 0, none⟩ = some (.int .i64 0) := (blk_cell BK228.out 0).trans rfl
                  have hfs69 := blk_frozen BK228.out 0
                  have hns69_0 := NB203_228.out
                  have hns69_1 := NB204_228.out
                  have hns69_2 := NB208_228.out
                  have hns69_3 := NB216_228.out
                  have hns69_4 := NB220_228.out
                  have hms69_0 := NB228_203.out
                  have hms69_1 := NB228_204.out
                  have hms69_2 := NB228_208.out
                  have hms69_3 := NB228_216.out
                  have hms69_4 := NB228_220.out
                  have hs70 : w68.cell? ⟨gb228, 1, none⟩ = some (.int .i64 0) := (blk_cell BK228.out 1).trans rfl
                  have hfs70 := blk_frozen BK228.out 1
                  have hns70_0 := NB203_228.out
                  have hns70_1 := NB204_228.out
                  have hns70_2 := NB208_228.out
                  have hns70_3 := NB216_228.out
                  have hns70_4 := NB220_228.out
                  have hms70_0 := NB228_203.out
                  have hms70_1 := NB228_204.out
                  have hms70_2 := NB228_208.out
                  have hms70_3 := NB228_216.out
                  have hms70_4 := NB228_220.out
                  refine skip_ (w1 := ?_) (by rfl) rfl ?_ ?_
                  rotate_left
                  · go_simp
                    rfl
                  refine hK.out _ _ ⟨((cell_far (p := ⟨gb228, _, none⟩) NB203_228.out _).trans (((cell_far (p := ⟨gb228, _, none⟩) NB203_228.out _).trans (hHeld.1)))), ((cell_far (p := ⟨gb228, _, none⟩) NB203_228.out _).trans (((cell_far (p := ⟨gb228, _, none⟩) NB203_228.out _).trans (hHeld.2.1)))), ((cell_far (p := ⟨gb228, _, none⟩) NB204_228.out _).trans (((cell_far (p := ⟨gb228, _, none⟩) NB204_228.out _).trans (hHeld.2.2.1)))), ((cell_far (p := ⟨gb228, _, none⟩) NB204_228.out _).trans (((cell_far (p := ⟨gb228, _, none⟩) NB204_228.out _).trans (hHeld.2.2.2))))⟩ (fun hHeld => ?_)
                  clear hK K
                  refine pure_ (i := 10) (N := some 12) (v := ?_) (a' := ?_) #[true, true, true, true, true, true, true, true, true, true, true] rfl rfl (any_of HT_.out (by kernel_rfl)) (fun _ _ _ h => h) (Or.inl ⟨by rfl, ?_⟩) ?_ ?_
                  rotate_left
                  · intro w'
                    go_simp
                    with_reducible rfl
                  rotate_left
                  · simp only [Act.put, List.setIfInBounds_toArray, List.set_cons_zero, List.set_cons_succ, i64_w, i32_w]
                    rfl
                  refine done_ (done_of HT_.out (by kernel_rfl)) ?_
                  have hnb71 := NB203_228.out
                  have hnc71 := NB228_203.out
                  have hcz72_0 : w68.cell? ⟨gb203, 0, none⟩ = some (.int .i64 a0_0) := (blk_cell BK203.out 0).trans rfl
                  have hcz72_1 : w68.cell? ⟨gb203, 1, none⟩ = some (.int .i64 a0_1) := (blk_cell BK203.out 1).trans rfl
                  have hfz72_0 := blk_frozen BK203.out 0
                  have hfz72_1 := blk_frozen BK203.out 1
                  have hnb73 := NB204_228.out
                  have hnc73 := NB228_204.out
                  have hcz74_0 : w68.cell? ⟨gb204, 0, none⟩ = some (.int .i64 a1_0) := (blk_cell BK204.out 0).trans rfl
                  have hcz74_1 : w68.cell? ⟨gb204, 1, none⟩ = some (.int .i64 a1_1) := (blk_cell BK204.out 1).trans rfl
                  have hfz74_0 := blk_frozen BK204.out 0
                  have hfz74_1 := blk_frozen BK204.out 1
                  simp only [Exit.then]
                  apply_assumption
                  exact mosaiclaw05_RatioReckons.rest5 _ _ _ _ _ _ _ _ _ _ _ _ _ _ _ _ _ _ _ _ _ _ _ _ _ _ _ _ _ _ _ _ _ _ _ _ _ _ _ _ _ _ _ _ _ _ _ _ _ _ _ _ _ _ _ _ _ _ _ _ _ A11 A12 A13 A14 A15 A16 A17 A18 A19 A21 c22b0 c22b1 c22b2 c23b0 c23b1 A24 c25b0 c25b1 c25b2 c26b0 c26b1 A27 c28b0 c28b1 c28b2 c29b0 c29b1 A30 c31b0 c31b1 c31b2 GW203 GE203 GW204 GE204 hnb34 hnc34 GW208 GE208 hnb39 hnc39 hnb40 hnc40 GW216 GE216 hns49_0 hns49_1 hns49_2 hms49_0 hms49_1 hms49_2 hns50_0 hns50_1 hns50_2 hms50_0 hms50_1 hms50_2 hnb51 hnc51 hnb53 hnc53 GW220 GE220 hnb57 hnc57 hnb58 hnc58 hnb59 hnc59 hnb60 hnc60 hS_ BK203 BK204 BK208 BK216 BK220 BK228 GW228 GE228 NB203_228 NB204_228 NB208_228 NB216_228 NB220_228 HB hfs69 hns69_0 hns69_1 hns69_2 hns69_3 hns69_4 hms69_0 hms69_1 hms69_2 hms69_3 hms69_4 hfs70 hns70_0 hns70_1 hns70_2 hns70_3 hns70_4 hms70_0 hms70_1 hms70_2 hms70_3 hms70_4 hnb71 hnc71 hcz72_0 hcz72_1 hfz72_0 hfz72_1 hnb73 hnc73 hcz74_0 hcz74_1 hfz74_0 hfz74_1
                · rw [if_neg c31] at H
                  have c31b0 : (t260 == t249 && (t261 == t250)) = false := by simpa using c31
                  (try (have c31b1 : decide (t260 = t249 && (t261 == t250)) = false := by simpa using c31))
                  (try (have c31b2 : (t260 == t249 && (t261 == t250)) = false := by simpa using c31))
                  (try (have c31b3 : ¬ (t260 = t249 && (t261 == t250)) := by simpa using c31))
                  clear c31
                  obtain rfl := Option.some.inj H
                  exact absurd HLAW.out (by decide)
              · rw [if_neg c29] at H
                have c29b0 : (t231 == t239) = false := beq_eq_false_iff_ne.mpr c29
                have c29b1 : (t231 != t239) = true := bne_iff_ne.mpr c29
                obtain rfl := Option.some.inj H
                exact absurd HLAW.out (by decide)
            · rw [if_neg c28] at H
              have c28b0 : (t258 == t237 && (t259 == t238)) = false := by simpa using c28
              (try (have c28b1 : decide (t258 = t237 && (t259 == t238)) = false := by simpa using c28))
              (try (have c28b2 : (t258 == t237 && (t259 == t238)) = false := by simpa using c28))
              (try (have c28b3 : ¬ (t258 = t237 && (t259 == t238)) := by simpa using c28))
              clear c28
              obtain rfl := Option.some.inj H
              exact absurd HLAW.out (by decide)
          · rw [if_neg c26] at H
            have c26b0 : (t219 == t227) = false := beq_eq_false_iff_ne.mpr c26
            have c26b1 : (t219 != t227) = true := bne_iff_ne.mpr c26
            obtain rfl := Option.some.inj H
            exact absurd HLAW.out (by decide)
        · rw [if_neg c25] at H
          have c25b0 : (t256 == t225 && (t257 == t226)) = false := by simpa using c25
          (try (have c25b1 : decide (t256 = t225 && (t257 == t226)) = false := by simpa using c25))
          (try (have c25b2 : (t256 == t225 && (t257 == t226)) = false := by simpa using c25))
          (try (have c25b3 : ¬ (t256 = t225 && (t257 == t226)) := by simpa using c25))
          clear c25
          obtain rfl := Option.some.inj H
          exact absurd HLAW.out (by decide)
      · rw [if_neg c23] at H
        have c23b0 : (t207 == t215) = false := beq_eq_false_iff_ne.mpr c23
        have c23b1 : (t207 != t215) = true := bne_iff_ne.mpr c23
        obtain rfl := Option.some.inj H
        exact absurd HLAW.out (by decide)
    · rw [if_neg c22] at H
      have c22b0 : (t254 == t213 && (t255 == t214)) = false := by simpa using c22
      (try (have c22b1 : decide (t254 = t213 && (t255 == t214)) = false := by simpa using c22))
      (try (have c22b2 : (t254 == t213 && (t255 == t214)) = false := by simpa using c22))
      (try (have c22b3 : ¬ (t254 = t213 && (t255 == t214)) := by simpa using c22))
      clear c22
      obtain rfl := Option.some.inj H
      exact absurd HLAW.out (by decide)
  · replace c20 := Bool.eq_false_iff.mpr c20
    subst c20
    have H1 : (some false) = some r := by rw [if_neg (show ¬ (false = true) by decide)] at H; exact H
    clear H
    have H := H1
    clear H1
    obtain rfl := Option.some.inj H
    exact absurd HLAW.out (by decide)

end Go.Proofs.Ytajkonnamldjaaa.Q

