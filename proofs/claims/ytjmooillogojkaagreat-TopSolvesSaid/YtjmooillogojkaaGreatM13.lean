/- Blocks are added byte by byte: block.add, block.Xor, block.Sum. No condition but that the bytes lie in one block of memory. No condition. -/
import Derived.Shelf.Strings.Builder1
import Derived.Shelf.Strings.BuilderF
import Derived.Shelf.Sort.Plain
import Derived.Shelf.Strings.Repeat
import Derived.Ground.Names2Prog
import Derived.Shelf.Slices.In.SortNone
import Derived.Ground.SlgfProg
import Derived.Shelf.SlicesE.DeleteFunc
import Derived.Test.YtjmooillogojkaaGreatM06
set_option maxHeartbeats 8000000
set_option maxRecDepth 100000
set_option linter.unusedVariables false
set_option linter.unusedSimpArgs false
namespace Go.Proofs
open Go.Shelf
def Tryz.lays189_ren : Go.Shelf.Ren := ⟨fun | 189 => 46 | 125 => 90 | 257 => 89 | 128 => 131 | 129 => 132 | 294 => 122 | 295 => 123 | 296 => 124 | 297 => 125 | 298 => 126 | 299 => 127 | 216 => 128 | 300 => 129 | 301 => 130 | 328 => 157 | 329 => 158 | 330 => 159 | 331 => 160 | 332 => 161 | 215 => 162 | 343 => 173 | n => n, fun | 28 => 44 | 3 => 3 | 46 => 149 | 0 => 0 | 51 => 180 | 53 => 70 | 4 => 4 | 183 => 185 | 182 => 184 | 131 => 128 | 5 => 5 | 9 => 9 | 218 => 210 | 222 => 214 | 228 => 228 | 229 => 226 | n => n, fun | n => n⟩
theorem Tryz.lays189 : Go.Proofs.Lays.n189 Tryz.prog Tryz.lays189_ren := {
 mixed := by kernel_rfl
 f125 := Tryz.func90.trans (congrArg some (by kernel_rfl))
 f128 := Tryz.func131.trans (congrArg some (by kernel_rfl))
 f129 := Tryz.func132.trans (congrArg some (by kernel_rfl))
 f189 := Tryz.func46.trans (congrArg some (by kernel_rfl))
 f215 := Tryz.func162.trans (congrArg some (by kernel_rfl))
 f216 := Tryz.func128.trans (congrArg some (by kernel_rfl))
 f257 := Tryz.func89.trans (congrArg some (by kernel_rfl))
 f294 := Tryz.func122.trans (congrArg some (by kernel_rfl))
 f295 := Tryz.func123.trans (congrArg some (by kernel_rfl))
 f296 := Tryz.func124.trans (congrArg some (by kernel_rfl))
 f297 := Tryz.func125.trans (congrArg some (by kernel_rfl))
 f298 := Tryz.func126.trans (congrArg some (by kernel_rfl))
 f299 := Tryz.func127.trans (congrArg some (by kernel_rfl))
 f300 := Tryz.func129.trans (congrArg some (by kernel_rfl))
 f301 := Tryz.func130.trans (congrArg some (by kernel_rfl))
 f328 := Tryz.func157.trans (congrArg some (by kernel_rfl))
 f329 := Tryz.func158.trans (congrArg some (by kernel_rfl))
 f330 := Tryz.func159.trans (congrArg some (by kernel_rfl))
 f331 := Tryz.func160.trans (congrArg some (by kernel_rfl))
 f332 := Tryz.func161.trans (congrArg some (by kernel_rfl))
 f343 := Tryz.func173.trans (congrArg some (by kernel_rfl))
 t0 := Tryz.underlying0
 a0 := Tryz.isAgg0
 z0 := Tryz.sizeOf0
 v0 := Tryz.zeroValue0
 t3 := Tryz.underlying3
 a3 := Tryz.isAgg3
 z3 := Tryz.sizeOf3
 v3 := Tryz.zeroValue3
 t4 := Tryz.underlying4
 a4 := Tryz.isAgg4
 z4 := Tryz.sizeOf4
 v4 := Tryz.zeroValue4
 t5 := Tryz.underlying5
 a5 := Tryz.isAgg5
 z5 := Tryz.sizeOf5
 v5 := Tryz.zeroValue5
 t9 := Tryz.underlying9
 a9 := Tryz.isAgg9
 z9 := Tryz.sizeOf9
 v9 := Tryz.zeroValue9
 t28 := Tryz.underlying44
 a28 := Tryz.isAgg44
 z28 := Tryz.sizeOf44
 v28 := Tryz.zeroValue44
 t46 := Tryz.underlying149
 a46 := Tryz.isAgg149
 z46 := Tryz.sizeOf149
 v46 := Tryz.zeroValue149
 t51 := Tryz.underlying180
 a51 := Tryz.isAgg180
 z51 := Tryz.sizeOf180
 v51 := Tryz.zeroValue180
 t53 := Tryz.underlying70
 a53 := Tryz.isAgg70
 z53 := Tryz.sizeOf70
 v53 := Tryz.zeroValue70
 t131 := Tryz.underlying128
 a131 := Tryz.isAgg128
 z131 := Tryz.sizeOf128
 v131 := Tryz.zeroValue128
 t182 := Tryz.underlying184
 a182 := Tryz.isAgg184
 z182 := Tryz.sizeOf184
 v182 := Tryz.zeroValue184
 t183 := Tryz.underlying185
 a183 := Tryz.isAgg185
 z183 := Tryz.sizeOf185
 v183 := Tryz.zeroValue185
 t218 := Tryz.underlying210
 a218 := Tryz.isAgg210
 z218 := Tryz.sizeOf210
 v218 := Tryz.zeroValue210
 t222 := Tryz.underlying214
 a222 := Tryz.isAgg214
 z222 := Tryz.sizeOf214
 v222 := Tryz.zeroValue214
 t228 := Tryz.underlying228
 a228 := Tryz.isAgg228
 z228 := Tryz.sizeOf228
 v228 := Tryz.zeroValue228
 t229 := Tryz.underlying226
 a229 := Tryz.isAgg226
 z229 := Tryz.sizeOf226
 v229 := Tryz.zeroValue226 }
open Go.Sort Go.RowKit in
theorem Tryz.slices_Sort_int (blk off cap : Nat) (zs : List Int) (w : World) (hH : Holds (Value.int .i64) w blk off zs.toArray) (hblk : blk < w.heap.size) (hsz : zs.length < 4611686018427387904) :
  Calls Tryz.prog 46 #[.slice (some ⟨blk, off, none⟩) zs.length cap] w fun e w' =>
   e = .returned (.tuple #[]) ∧ ∃ n os, w' = grow (putRow (Value.int .i64) (Sort.ahead w n) blk off (zs.mergeSort fun x y => decide (x ≤ y)).toArray) os := Any.slices_Sort_int Tryz.lays189 blk off cap zs w hH hblk hsz
def Tryz.lays105_ren : Go.Shelf.Ren := ⟨fun | 105 => 58 | 212 => 95 | 99 => 96 | 165 => 97 | 166 => 98 | 170 => 99 | 169 => 100 | 263 => 134 | 264 => 135 | 206 => 136 | 240 => 137 | 241 => 138 | 276 => 163 | 277 => 164 | n => n, fun | 9 => 9 | 3 => 3 | 4 => 4 | 20 => 20 | 0 => 0 | 46 => 149 | 109 => 154 | 5 => 5 | 72 => 159 | 76 => 163 | 51 => 180 | 146 => 194 | 53 => 70 | 148 => 196 | 70 => 157 | 37 => 60 | 75 => 162 | 127 => 198 | 164 => 216 | 80 => 166 | n => n, fun | n => n⟩
theorem Tryz.lays105 : Go.Proofs.Lays.n105 Tryz.prog Tryz.lays105_ren := {
 mixed := by kernel_rfl
 f99 := Tryz.func96.trans (congrArg some (by kernel_rfl))
 f105 := Tryz.func58.trans (congrArg some (by kernel_rfl))
 f165 := Tryz.func97.trans (congrArg some (by kernel_rfl))
 f166 := Tryz.func98.trans (congrArg some (by kernel_rfl))
 f169 := Tryz.func100.trans (congrArg some (by kernel_rfl))
 f170 := Tryz.func99.trans (congrArg some (by kernel_rfl))
 f206 := Tryz.func136.trans (congrArg some (by kernel_rfl))
 f212 := Tryz.func95.trans (congrArg some (by kernel_rfl))
 f240 := Tryz.func137.trans (congrArg some (by kernel_rfl))
 f241 := Tryz.func138.trans (congrArg some (by kernel_rfl))
 f263 := Tryz.func134.trans (congrArg some (by kernel_rfl))
 f264 := Tryz.func135.trans (congrArg some (by kernel_rfl))
 f276 := Tryz.func163.trans (congrArg some (by kernel_rfl))
 f277 := Tryz.func164.trans (congrArg some (by kernel_rfl))
 t0 := Tryz.underlying0
 a0 := Tryz.isAgg0
 z0 := Tryz.sizeOf0
 v0 := Tryz.zeroValue0
 t3 := Tryz.underlying3
 a3 := Tryz.isAgg3
 z3 := Tryz.sizeOf3
 v3 := Tryz.zeroValue3
 t4 := Tryz.underlying4
 a4 := Tryz.isAgg4
 z4 := Tryz.sizeOf4
 v4 := Tryz.zeroValue4
 t5 := Tryz.underlying5
 a5 := Tryz.isAgg5
 z5 := Tryz.sizeOf5
 v5 := Tryz.zeroValue5
 t9 := Tryz.underlying9
 a9 := Tryz.isAgg9
 z9 := Tryz.sizeOf9
 v9 := Tryz.zeroValue9
 t20 := Tryz.underlying20
 a20 := Tryz.isAgg20
 z20 := Tryz.sizeOf20
 v20 := Tryz.zeroValue20
 t37 := Tryz.underlying60
 a37 := Tryz.isAgg60
 z37 := Tryz.sizeOf60
 v37 := Tryz.zeroValue60
 t46 := Tryz.underlying149
 a46 := Tryz.isAgg149
 z46 := Tryz.sizeOf149
 v46 := Tryz.zeroValue149
 t51 := Tryz.underlying180
 a51 := Tryz.isAgg180
 z51 := Tryz.sizeOf180
 v51 := Tryz.zeroValue180
 t53 := Tryz.underlying70
 a53 := Tryz.isAgg70
 z53 := Tryz.sizeOf70
 v53 := Tryz.zeroValue70
 t70 := Tryz.underlying157
 a70 := Tryz.isAgg157
 z70 := Tryz.sizeOf157
 v70 := Tryz.zeroValue157
 t72 := Tryz.underlying159
 a72 := Tryz.isAgg159
 z72 := Tryz.sizeOf159
 v72 := Tryz.zeroValue159
 t75 := Tryz.underlying162
 a75 := Tryz.isAgg162
 z75 := Tryz.sizeOf162
 v75 := Tryz.zeroValue162
 t76 := Tryz.underlying163
 a76 := Tryz.isAgg163
 z76 := Tryz.sizeOf163
 v76 := Tryz.zeroValue163
 t109 := Tryz.underlying154
 a109 := Tryz.isAgg154
 z109 := Tryz.sizeOf154
 v109 := Tryz.zeroValue154
 t127 := Tryz.underlying198
 a127 := Tryz.isAgg198
 z127 := Tryz.sizeOf198
 v127 := Tryz.zeroValue198
 t146 := Tryz.underlying194
 a146 := Tryz.isAgg194
 z146 := Tryz.sizeOf194
 v146 := Tryz.zeroValue194
 t148 := Tryz.underlying196
 a148 := Tryz.isAgg196
 z148 := Tryz.sizeOf196
 v148 := Tryz.zeroValue196
 t164 := Tryz.underlying216
 a164 := Tryz.isAgg216
 z164 := Tryz.sizeOf216
 v164 := Tryz.zeroValue216 }
theorem Tryz.Builder_Extra_105 : Builder.Extra Tryz.prog Tryz.lays105_ren := {
 sizeBuilder := by kernel_rfl
 liesBuilder := by kernel_rfl
 t5 := Tryz.underlying5
 a5 := Tryz.isAgg5
 z5 := Tryz.sizeOf5
 v5 := Tryz.zeroValue5
 infoByte := by kernel_rfl
 cellsByte := by kernel_rfl
 sizeByte := by kernel_rfl
 neB5 := by decide }
open Go.RowKit Go.Lib in
theorem Tryz.strings_Repeat (s : ByteArray) (c : Nat) (w : World) (hc : c ≤ 9223372036854775807) (hlen : s.size * c ≤ 140737488355328) :
  Calls Tryz.prog 58 #[.string s, .int .i64 c] w fun e w' => e = .returned (.string ⟨(Lib.repeatL s.data.toList c).toArray⟩) ∧ Below w.heap.size w w' := Any.strings_Repeat Tryz.lays105 Tryz.Builder_Extra_105 s c w hc hlen
open Go.RowKit Go.Sort in
theorem Tryz.slices_Sort_int_none (p : Option Addr) (cap : Nat) (w : World) :
  Calls Tryz.prog 46 #[.slice p 0 cap] w fun e w' => e = .returned (.tuple #[]) ∧ w' = w := Any.slices_Sort_int_none Tryz.lays189 p cap w
end Go.Proofs
namespace Go.Proofs.YtjmooillogojkaaGreat.Q
open Go.RowKit Go.Proofs.YtjmooillogojkaaGreatW.PrintWords Go.Proofs.YtjmooillogojkaaGreatW.PrintLast Go.Proofs.YtjmooillogojkaaGreatW.PrintMore
open Go.Proofs.YtjmooillogojkaaGreat
def B8 (w : World) (g : Nat) (xs : List UInt8) : Prop :=
 ∃ cs lo hi, w.heap[g]? = some (.cells cs 5 (lo, hi)) ∧ (hi = 0 ∨ xs.length ≤ lo) ∧ ∀ (j : Nat) (x : UInt8), xs[j]? = some x → cs[j]? = some (Value.int .u8 (x.toNat : Int))
theorem B8.lt {w : World} {g : Nat} {xs : List UInt8} (h : B8 w g xs) : g < w.heap.size := by
 obtain ⟨cs, lo, hi, hh, _⟩ := h
 exact blk_lt hh
theorem B8.cell {w : World} {g : Nat} {xs : List UInt8} (h : B8 w g xs) {j : Nat} {x : UInt8} (hj : xs[j]? = some x) : w.cell? ⟨g, j, none⟩ = some (Value.int .u8 (x.toNat : Int)) := by
 obtain ⟨cs, lo, hi, hh, _, hc⟩ := h
 rw [← hc j x hj]
 simp [World.cell?, hh]
theorem B8.soft {w : World} {g : Nat} {xs : List UInt8} (h : B8 w g xs) {j : Nat} (hj : j < xs.length) : w.frozen? ⟨g, j, none⟩ = false := by
 obtain ⟨cs, lo, hi, hh, hf, _⟩ := h
 simp only [World.frozen?, hh]
 rcases hf with hf | hf
 ·subst hf
  simp
 ·simp
  omega
theorem B8.put {w : World} {g : Nat} {xs : List UInt8} (h : B8 w g xs) (i : Nat) (y : UInt8) : B8 (w.setCell ⟨g, i, none⟩ (.int .u8 (y.toNat : Int))) g (xs.set i y) := by
 obtain ⟨cs, lo, hi, hh, hf, hc⟩ := h
 have hlt := blk_lt hh
 rw [Array.getElem?_eq_getElem hlt] at hh
 refine ⟨cs.setIfInBounds i (.int .u8 (y.toNat : Int)), lo, hi, ?_, by rw [List.length_set]; exact hf, fun j x hj => ?_⟩
 ·unfold World.setCell
  simp only [Array.getElem?_modify]
  simp [Array.getElem?_eq_getElem hlt, Option.some.inj hh]
 ·rw [List.getElem?_set] at hj
  split at hj
  ·rename_i e
   subst e
   split at hj
   ·rename_i hl
    have := hc i xs[i] (List.getElem?_eq_getElem hl)
    have hb := (Array.getElem?_eq_some_iff.1 this).1
    injection hj with hj
    rw [Array.getElem?_setIfInBounds_self_of_lt hb, hj]
   ·simp at hj
  ·rename_i e
   rw [Array.getElem?_setIfInBounds_ne e]
   exact hc j x hj
theorem B8.move {w w1 : World} {g : Nat} {xs : List UInt8} (h : B8 w g xs) (hm : w1.heap[g]? = w.heap[g]?) : B8 w1 g xs := by
 obtain ⟨cs, lo, hi, hh, hr⟩ := h
 exact ⟨cs, lo, hi, hm.trans hh, hr⟩
theorem B8.below {w w1 : World} {g : Nat} {xs : List UInt8} (h : B8 w g xs) (hb : Below w.heap.size w w1) : B8 w1 g xs := h.move (hb.block g h.lt)
def xorL : List UInt8 → List UInt8 → List UInt8
 | x :: xs, y :: ys => (x ^^^ y) :: xorL xs ys
 | xs, _ => xs
theorem xorL_length : ∀ xs ys, (xorL xs ys).length = xs.length
 | [], ys => by cases ys <;> rfl
 | x :: xs, [] => rfl
 | x :: xs, y :: ys => by simp [xorL, xorL_length xs ys]
theorem xor_u8 (x y : UInt8) : Go.bits .xor .u8 (x.toNat : Int) (y.toNat : Int) = ((x ^^^ y).toNat : Int) := by
 unfold Go.bits
 have hx := x.toNat_lt
 have hy := y.toNat_lt
 have e1 : (BitVec.ofInt (IntKind.u8).bits (x.toNat : Int)).toNat = x.toNat := by
  rw [BitVec.toNat_ofInt]
  simp [IntKind.bits]
  omega
 have e2 : (BitVec.ofInt (IntKind.u8).bits (y.toNat : Int)).toNat = y.toNat := by
  rw [BitVec.toNat_ofInt]
  simp [IntKind.bits]
  omega
 simp only [BitVec.toNat_xor, e1, e2, UInt8.toNat_xor]
 rw [IntKind.wrap_u8]
 have : x.toNat ^^^ y.toNat < 256 := Nat.xor_lt_two_pow (n := 8) hx hy
 omega
theorem xorL_step : ∀ (xs ys : List UInt8) (i : Nat) (x y : UInt8), xs[i]? = some x → ys[i]? = some y →
  (xorL (xs.take i) ys ++ xs.drop i).set i (x ^^^ y) = xorL (xs.take (i + 1)) ys ++ xs.drop (i + 1)
 | [], ys, i, x, y, h, _ => by simp at h
 | a :: xs, [], i, x, y, _, h => by simp at h
 | a :: xs, b :: ys, 0, x, y, h, h2 => by
  simp at h h2
  subst h h2
  simp [xorL]
 | a :: xs, b :: ys, i + 1, x, y, h, h2 => by
  have := xorL_step xs ys i x y (by simpa using h) (by simpa using h2)
  simpa [xorL] using this
theorem add_own {g c : Nat} (xs : List UInt8) (s : ByteArray) (w : World) (hb : B8 w g xs) (hl : xs.length ≤ s.size) (hm : xs.length < 1000000) :
  Calls Tryz.prog 83 #[.slice (some ⟨g, 0, none⟩) xs.length c, .string s] w fun e w' => e = .returned (.tuple #[]) ∧ B8 w' g (xorL xs s.data.toList) ∧ w.heap.size ≤ w'.heap.size ∧ (w'.os = w.os ∧ w'.tape = w.tape ∧ w'.output = w.output) ∧ ∀ k, k ≠ g → k < w.heap.size → w'.heap[k]? = w.heap[k]? := by
 have HB := jo hb
 clear hb
 go_enter Tryz.func83, Tryz.ntmps83
 go_wp2
 go_loopg [7] xs.length (fun gk v7 wr => ∃ i : Nat, v7 = .int .i64 i ∧ Aside0 (i + gk = xs.length ∧ B8 wr g (xorL (xs.take i) s.data.toList ++ xs.drop i) ∧ w.heap.size ≤ wr.heap.size ∧ (wr.os = w.os ∧ wr.tape = w.tape ∧ wr.output = w.output) ∧ ∀ k, k ≠ g → k < w.heap.size → wr.heap[k]? = w.heap[k]?))
 case atStart => exact ⟨0, rfl, ⟨by omega, by simpa [xorL] using HB.out, Nat.le_refl _, ⟨rfl, rfl, rfl⟩, fun _ _ _ => rfl⟩⟩
 case round =>
  obtain ⟨i, rfl, HA⟩ := hrel
  by_cases hlt : i < xs.length
  ·have d1 : decide ((i : Int) < (xs.length : Int)) = true := decide_eq_true (by omega)
   have d2 : decide (i < xs.length) = true := decide_eq_true hlt
   obtain ⟨gq, rfl⟩ : ∃ q, gk = q + 1 := ⟨gk - 1, by have := HA.out.1; omega⟩
   obtain ⟨x, hx⟩ : ∃ x, x = xs[i] := ⟨_, rfl⟩
   have hxi : xs[i]? = some x := by rw [hx]; exact List.getElem?_eq_getElem hlt
   have hs : i < s.data.toList.length := by rw [data_length]; omega
   have hsi : i < s.size := by omega
   obtain ⟨y, hy⟩ : ∃ y, y = s[i] := ⟨_, rfl⟩
   have hyi : s.data.toList[i]? = some y := by rw [hy, List.getElem?_eq_getElem hs]; rfl
   obtain ⟨z, hz⟩ : ∃ z, z = x ^^^ y := ⟨_, rfl⟩
   have hxor : Go.bits .xor .u8 (x.toNat : Int) (s[i].toNat : Int) = (z.toNat : Int) := by rw [← hy, hz]; exact xor_u8 x y
   have hat : (xorL (xs.take i) s.data.toList ++ xs.drop i)[i]? = some x := by
    rw [List.getElem?_append_right (by rw [xorL_length, List.length_take]; omega), xorL_length, List.length_take]
    rw [show i - min i xs.length = 0 by omega, List.getElem?_drop]
    simpa using hxi
   have hcd : wr.drew.cell? ⟨g, i, none⟩ = some (.int .u8 (x.toNat : Int)) := HA.out.2.1.cell hat
   have hfd : wr.drew.frozen? ⟨g, i, none⟩ = false := HA.out.2.1.soft (by rw [List.length_append, xorL_length, List.length_take, List.length_drop]; omega)
   have HX := jo hxi
   have HY := jo hyi
   have HZ := jo hz
   clear hx hy hxi hyi hat hs hz
   go_wp2
   refine st_ (S := fun w' => w'.cell? ⟨g, i, none⟩ = some (.int .u8 x.toNat)) (ds := [9]) 10 (hcd) (fun hHeld => ?_)
   refine td_ [0, 1, 2, 4, 5] ?_
   repeat (first | refine pp_ ?_ | refine po_ ?_)
   refine tn_ ?_
   refine td_ [3, 6] ?_
   repeat (refine pt_ hHeld ?_)
   refine tn_ ?_
   refine td_ [7, 8] ?_
   repeat (first | refine pp_ ?_ | refine po_ ?_)
   refine tn_ ?_
   refine la_ 9 (fun K hK => ?_)
   refine skip_ (w1 := wr.drew.setCell ⟨g, i, none⟩ (.int .u8 z.toNat)) (by rfl) rfl ?_ ?_
   ·go_simp
   refine hK.out _ _ ?_
   clear hK K
   refine dn_ ?_
   go_wp2
   go_roundg gq
   case measure => omega
   case rel =>
    exact ⟨i + 1, rfl, ⟨by have := HA.out.1; omega, by
     rw [← xorL_step xs s.data.toList i x y HX.out HY.out, ← HZ.out]
     exact (HA.out.2.1.put i z).move rfl, by
     show w.heap.size ≤ (wr.setCell _ _).heap.size
     rw [World.size_setCell]
     exact HA.out.2.2.1, ⟨HA.out.2.2.2.1.1, HA.out.2.2.2.1.2.1, HA.out.2.2.2.1.2.2⟩, fun k hk hlt => (Below.heap_setCell _ ⟨g, i, none⟩ _ k hk).trans (HA.out.2.2.2.2 k hk hlt)⟩⟩
  ·have d1 : decide ((i : Int) < (xs.length : Int)) = false := decide_eq_false (by omega)
   have d2 : decide (i < xs.length) = false := decide_eq_false hlt
   go_wp2
   go_end0
   have e1 : i = xs.length := by have := HA.out.1; omega
   subst e1
   have := HA.out.2.1
   rw [List.take_length, List.drop_length, List.append_nil] at this
   exact ⟨rfl, this, HA.out.2.2⟩
theorem str_map (l : List UInt8) : strOfNums (l.map fun b => (b.toNat : Int)) = ⟨l.toArray⟩ := by
 unfold strOfNums
 congr 2
 rw [List.map_map]
 conv => rhs; rw [← List.map_id l]
 apply List.map_congr_left
 intro b _
 simp
theorem B8.str {w : World} {g c : Nat} {xs : List UInt8} (h : B8 w g xs) : (convert 60 9 (.slice (some ⟨g, 0, none⟩) xs.length c)).run Tryz.prog w = .ok (.string ⟨xs.toArray⟩) w := by
 rw [run_convert_bytes_arg (P := Tryz.prog) w 60 5 Tryz.underlying60 Tryz.underlying5 g 0 xs.length c (xs.map fun b => (b.toNat : Int)) (by simp) (fun i hi => ?_) 9 Tryz.underlying9, str_map]
 rw [Nat.zero_add, h.cell (List.getElem?_eq_getElem hi)]
 simp [List.getD_eq_getElem?_getD, List.getElem?_eq_getElem hi]
theorem B8.conv (w : World) (s : ByteArray) : B8 (Lib.bytesWorld w 5 s) w.heap.size s.data.toList := by
 refine ⟨_, _, _, Lib.bytesWorld_at_new w 5 s, .inr ?_, fun j x hj => ?_⟩
 ·simp [Lib.bytesCells]
 ·obtain ⟨hl, rfl⟩ := List.getElem?_eq_some_iff.1 hj
  have hl' : j < s.data.size := by simpa using hl
  have hz : j < s.size := hl'
  simp [Lib.bytesCells, Array.getElem?_append, hl', hz]
def xorB (a b : ByteArray) : ByteArray := ⟨(xorL a.data.toList b.data.toList).toArray⟩
theorem xorB_size (a b : ByteArray) : (xorB a b).size = a.size := by
 unfold xorB
 simp only [ByteArray.size, List.size_toArray, xorL_length, Array.length_toList]
def block_XorR (a b : ByteArray) : ByteArray × Int := if a.size = b.size then (xorB a b, 0) else (⟨#[]⟩, 1)
theorem below_add {w0 w w' : World} {g : Nat} (hB : Below w0.heap.size w0 w) (hg : w0.heap.size ≤ g) (h1 : w.heap.size ≤ w'.heap.size) (h2 : w'.os = w.os ∧ w'.tape = w.tape ∧ w'.output = w.output) (h3 : ∀ k, k ≠ g → k < w.heap.size → w'.heap[k]? = w.heap[k]?) : Below w0.heap.size w0 w' :=
 ⟨h2.1.trans hB.os, h2.2.1.trans hB.tape, h2.2.2.trans hB.output, Nat.le_trans hB.size h1, fun k hk => (h3 k (by omega) (Nat.lt_of_lt_of_le hk hB.size)).trans (hB.block k hk)⟩
theorem xor_own (a b : ByteArray) (hm : a.size < 1000000) (w : World) : Calls Tryz.prog 66 #[.string a, .string b] w fun e w' => e = .returned (.tuple #[.string (block_XorR a b).1, .int .i64 (block_XorR a b).2]) ∧ Below w.heap.size w w' := by
 unfold block_XorR
 by_cases h : a.size = b.size
 ·rw [if_pos h]
  have d1 : ((a.size : Int) != (b.size : Int)) = false := by simp [h]
  have hk : ∀ W, (convert 9 60 (.string a)).run Tryz.prog W = .ok (.slice (some ⟨W.heap.size, 0, none⟩) a.size (grownCap W a.size 0 5)) (Lib.bytesWorld W 5 a) := fun W => print_bytes (P := Tryz.prog) 9 60 5 Tryz.underlying9 Tryz.underlying60 Tryz.underlying5 a W
  have HH := jo h
  have HM := jo hm
  clear h hm
  go_enter Tryz.func66, Tryz.ntmps66
  have HL : Aside0 (a.data.toList.length = a.size) := ⟨data_length a⟩
  go_wp2_with (go_at_call 83; rw [← HL.out]; refine (add_own a.data.toList b _ (B8.conv _ a) (by rw [HL.out, HH.out]; exact Nat.le_refl _) (by rw [HL.out]; exact HM.out)).mono ?_; rintro e w1 ⟨rfl, h8, h1, h2, h3⟩; have hst := h8.str (c := grownCap w a.size 0 5); rw [xorL_length, HL.out] at hst; have HB := jo (below_add (bytes_below (Below.refl w.heap.size w) (Nat.le_refl _) 5 a) (Nat.le_refl _) h1 h2 h3); clear h8 h1 h2 h3)
  go_ret2
  exact ⟨rfl, HB.out⟩
 ·rw [if_neg h]
  have d1 : ((a.size : Int) != (b.size : Int)) = true := by simp; omega
  clear h
  go_enter Tryz.func66, Tryz.ntmps66
  go_wp2
  go_ret2
  exact ⟨rfl, Below.refl _ _⟩
theorem B8.ofR {w : World} {base n : Nat} {ok : Nat → Prop} {v : Value} (h : Kd.R (Kd.int .u8) 5 w base ok v (List.replicate n (0 : Int))) (hp : 0 < n) : ∃ g c, v = .slice (some ⟨g, 0, none⟩) n c ∧ base ≤ g ∧ B8 w g (List.replicate n 0) := by
 obtain ⟨g, c, rfl, hb, hl, cs, hh⟩ := Kd.R_form h (by simpa using hp)
 refine ⟨g, c, by simp, hb, cs, 0, 0, hh, .inl rfl, fun j x hj => ?_⟩
 obtain ⟨hlt, rfl⟩ := List.getElem?_eq_some_iff.1 hj
 have hlt' : j < n := by simpa using hlt
 have hc := (Kd.R_celln (0 : Int) h (j : Int) (by omega) (by simpa using hlt')).1
 rw [Int.toNat_natCast, blk_cell hh] at hc
 rw [hc]
 simp [rdOf, List.getD_eq_getElem?_getD, hlt']
theorem pred82 {B : Nat} {n : Int} {l : List ByteArray} {w : World} (hB : B < w.heap.size) (hc : w.cell? ⟨B, 0, none⟩ = some (.int .i64 n)) : PredS 82 #[.pointer (some ⟨B, 0, none⟩)] (fun s => (s.size : Int) != n) l w := by
 intro W i hi hb
 have hc' := (hb.cell (p := ⟨B, 0, none⟩) hB).trans hc
 clear hc
 obtain ⟨x, hx⟩ : ∃ x, x = l[i] := ⟨_, rfl⟩
 rw [← hx]
 clear hx
 have HB := jo hb
 clear hb
 show Calls Tryz.prog 82 #[.string x, .pointer (some ⟨B, 0, none⟩)] W _
 go_enter Tryz.func82, Tryz.ntmps82
 go_wp2
 go_ret
 exact ⟨rfl, HB.out⟩
def sumL (n : Nat) (l : List ByteArray) : List UInt8 := l.foldl (fun acc s => xorL acc s.data.toList) (List.replicate n 0)
theorem sumL_length (n : Nat) (l : List ByteArray) : (sumL n l).length = n := by
 unfold sumL
 suffices ∀ acc : List UInt8, (l.foldl (fun acc s => xorL acc s.data.toList) acc).length = acc.length by rw [this, List.length_replicate]
 induction l with
 | nil => intro acc; rfl
 | cons x l ih => intro acc; rw [List.foldl_cons, ih, xorL_length]
theorem sumL_snoc (n : Nat) (l : List ByteArray) (x : ByteArray) : sumL n (l ++ [x]) = xorL (sumL n l) x.data.toList := by
 unfold sumL
 rw [List.foldl_append]
 rfl
def sumB (n : Nat) (l : List ByteArray) : ByteArray := ⟨(sumL n l).toArray⟩
theorem sumB_size (n : Nat) (l : List ByteArray) : (sumB n l).size = n := by
 unfold sumB
 simp only [ByteArray.size, List.size_toArray, sumL_length]
def block_SumR (l : List ByteArray) (n : Int) : ByteArray × Int := if 1 ≤ n ∧ n ≤ 64 ∧ l.any (fun s => (s.size : Int) != n) = false then (sumB n.toNat l, 0) else (⟨#[]⟩, 1)
theorem bools (n : Int) : block_may.f n = some (decide (1 ≤ n ∧ n ≤ 64)) := by
 unfold block_may.f
 by_cases h : n ≥ 1
 ·rw [if_pos h]
  simp
  omega
 ·rw [if_neg h]
  simp
  omega
theorem sum_own {A : Option Addr} {c : Nat} (l : List ByteArray) (n : Int) (w : World) (hr : Kd.C Kd.string w A l.length l) (hc : l.length ≤ c) :
  Calls Tryz.prog 40 #[.slice A l.length c, .int .i64 n] w fun e w' => e = .returned (.tuple #[.string (block_SumR l n).1, .int .i64 (block_SumR l n).2]) ∧ Below w.heap.size w w' := by
 have HR := jo hr
 have hmx := hr.2.1
 clear hr
 have HM := jo (bools n)
 by_cases h1 : 1 ≤ n ∧ n ≤ 64
 ·have e1 : decide (1 ≤ n ∧ n ≤ 64) = true := decide_eq_true h1
  rw [e1] at HM
  clear e1
  have HN := jo h1
  cases h2 : l.any (fun s => (s.size : Int) != n)
  ·have e2 : block_SumR l n = (sumB n.toNat l, 0) := by unfold block_SumR; rw [if_pos ⟨h1.1, h1.2, h2⟩]
   rw [e2]
   have HA := jo h2
   clear e2 h2 h1
   go_enter Tryz.func40, Tryz.ntmps40
   have h0n : (0 : Int) ≤ n := by have := HN.out; omega
   have eg := enters_of (P := Tryz.prog) (f := 82) Tryz.func82 jw rfl
   go_wp2_with (go_at_call 57; (with_reducible refine (block_may.calls n true _ HM.out).mono ?_); rintro e w1 ⟨rfl, ⟨k, rfl⟩⟩)
   have b1 : Below w.heap.size w ((w.alloc (.cells #[.int .i64 n] 3)).drewN k) := pw_below_drewN (below_alloc (Below.refl _ _) _) k
   have k1 : ((w.alloc (.cells #[.int .i64 n] 3)).drewN k).heap[w.heap.size]? = some (.cells #[.int .i64 n] 3 (0, 0)) := blk_new w _
   generalize (w.alloc (.cells #[.int .i64 n] 3)).drewN k = W1 at b1 k1 ⊢
   have kc : W1.cell? ⟨w.heap.size, 0, none⟩ = some (.int .i64 n) := blk_cell k1 0
   (with_reducible refine (con_str eg W1 (Kd.C_below HR.out b1) hc (pred82 (n := n) (blk_lt k1) kc)).mono ?_)
   rintro e w2 ⟨rfl, hb2⟩
   rw [HA.out]
   have k2 := blk_below k1 hb2
   have hc2 : w2.cell? ⟨w.heap.size, 0, none⟩ = some (.int .i64 n) := blk_cell k2 0
   have HB2 := jo (below_step b1 hb2)
   have hlt := blk_lt k2
   clear b1 k1 kc hb2 k2
   go_wp2_with ((with_reducible refine gate_dst (N := 18) rfl ?_); refine Kd.R_make (Kd.int .u8) _ 5 rfl (N := 18) rfl 60 _ _ rfl n rfl rfl Tryz.underlying60 (.int .u8 0) 1 info5 rfl (by decide) (by omega) 0 (ok := fun _ => True) (okp := fun _ => True) rfl (fun _ hk => hk) trivial h0n (by have := HN.out; omega) (Below.refl _ _) (Nat.le_refl _) ?_; intro v w3 ho hb3 hg_ hnew_; clear hg_ hnew_)
   clear hc2
   obtain ⟨m, hm⟩ := Int.eq_ofNat_of_zero_le h0n
   subst hm
   obtain ⟨g, c3, rfl, hg, h8⟩ := B8.ofR ho (by have := HN.out; omega)
   rw [Int.toNat_natCast] at h8 ⊢
   have hgw : w.heap.size ≤ g := by omega
   have H8 := jo h8
   have HB3 := jo (below_step HB2.out hb3)
   clear ho h8 hb3 hg hlt eg h0n
   go_wp2
   go_loopg [21] l.length (fun gk v21 wr => ∃ i : Nat, v21 = .int .i64 i ∧ Aside0 (i + gk = l.length ∧ B8 wr g (sumL m (l.take i)) ∧ Below w.heap.size w wr))
   case atStart => exact ⟨0, rfl, ⟨by omega, by simpa [sumL] using H8.out, HB3.out⟩⟩
   case round =>
    obtain ⟨i, rfl, HL⟩ := hrel
    clear HB3 H8 HB2
    by_cases hlt : i < l.length
    ·have d1 : decide ((i : Int) < (l.length : Int)) = true := decide_eq_true (by omega)
     have d2 : decide (i < l.length) = true := decide_eq_true hlt
     obtain ⟨gq, rfl⟩ : ∃ q, gk = q + 1 := ⟨gk - 1, by have := HL.out.1; omega⟩
     obtain ⟨ad, rfl, hcell⟩ := Kd.at_string (Kd.C_below HR.out HL.out.2.2) (i : Int) (by omega) (by omega)
     have hx : rdOf ByteArray.empty l (i : Int) = l[i] := by
      unfold rdOf
      rw [List.getD_eq_getElem?_getD, Int.toNat_natCast, List.getElem?_eq_getElem hlt]
      rfl
     rw [hx, Int.toNat_natCast] at hcell
     have hsz : l[i].size = m := by
      have := List.any_eq_false.1 HA.out l[i] (List.getElem_mem hlt)
      simp at this
      omega
     have htk : l.take (i + 1) = l.take i ++ [l[i]] := by rw [List.take_add_one, List.getElem?_eq_getElem hlt]; rfl
     obtain ⟨x, hxx⟩ : ∃ x, x = l[i] := ⟨_, rfl⟩
     rw [← hxx] at hcell hsz htk
     have HT := jo htk
     have HS := jo hsz
     clear hx hxx htk hsz
     have hlen : (sumL m (l.take i)).length = m := sumL_length _ _
     have HLN := jo hlen
     clear hlen
     go_wp2_with (go_at_call 83; rw [← HLN.out]; refine (add_own (sumL m (l.take i)) x wr HL.out.2.1 (by rw [HLN.out, HS.out]; exact Nat.le_refl _) (by rw [HLN.out]; have := HN.out; omega)).mono ?_; rintro e w4 ⟨rfl, h8, h1, h2, h3⟩; rw [HLN.out])
     go_roundg gq
     case measure => omega
     case rel => exact ⟨i + 1, rfl, ⟨by have := HL.out.1; omega, by rw [HT.out, sumL_snoc]; exact h8, below_add HL.out.2.2 hgw h1 h2 h3⟩⟩
    ·have d1 : decide ((i : Int) < (l.length : Int)) = false := decide_eq_false (by omega)
     have d2 : decide (i < l.length) = false := decide_eq_false hlt
     have e1 : i = l.length := by have := HL.out.1; omega
     subst e1
     have h8 := HL.out.2.1
     rw [List.take_length] at h8
     have hst := h8.str (c := c3)
     rw [sumL_length] at hst
     clear h8
     go_wp2
     go_ret2
     exact ⟨rfl, HL.out.2.2⟩
  ·have e2 : block_SumR l n = (⟨#[]⟩, 1) := by unfold block_SumR; rw [if_neg (by rw [h2]; simp)]
   rw [e2]
   have HA := jo h2
   clear e2 h2 h1
   go_enter Tryz.func40, Tryz.ntmps40
   have eg := enters_of (P := Tryz.prog) (f := 82) Tryz.func82 jw rfl
   go_wp2_with (go_at_call 57; (with_reducible refine (block_may.calls n true _ HM.out).mono ?_); rintro e w1 ⟨rfl, ⟨k, rfl⟩⟩)
   have b1 : Below w.heap.size w ((w.alloc (.cells #[.int .i64 n] 3)).drewN k) := pw_below_drewN (below_alloc (Below.refl _ _) _) k
   have k1 : ((w.alloc (.cells #[.int .i64 n] 3)).drewN k).heap[w.heap.size]? = some (.cells #[.int .i64 n] 3 (0, 0)) := blk_new w _
   generalize (w.alloc (.cells #[.int .i64 n] 3)).drewN k = W1 at b1 k1 ⊢
   have kc : W1.cell? ⟨w.heap.size, 0, none⟩ = some (.int .i64 n) := blk_cell k1 0
   (with_reducible refine (con_str eg W1 (Kd.C_below HR.out b1) hc (pred82 (n := n) (blk_lt k1) kc)).mono ?_)
   rintro e w2 ⟨rfl, hb2⟩
   rw [HA.out]
   have HB2 := jo (below_step b1 hb2)
   clear b1 k1 kc hb2
   go_wp2
   go_ret2
   exact ⟨rfl, HB2.out⟩
 ·have e2 : block_SumR l n = (⟨#[]⟩, 1) := by unfold block_SumR; rw [if_neg (fun h => h1 ⟨h.1, h.2.1⟩)]
  rw [e2]
  have e1 : decide (1 ≤ n ∧ n ≤ 64) = false := decide_eq_false h1
  rw [e1] at HM
  clear e1 e2 h1
  go_enter Tryz.func40, Tryz.ntmps40
  go_wp2_with (go_at_call 57; (with_reducible refine (block_may.calls n false _ HM.out).mono ?_); rintro e w1 ⟨rfl, ⟨k, rfl⟩⟩)
  go_ret2
  exact ⟨rfl, pw_below_drewN (below_alloc (Below.refl _ _) _) k⟩
end Go.Proofs.YtjmooillogojkaaGreat.Q
