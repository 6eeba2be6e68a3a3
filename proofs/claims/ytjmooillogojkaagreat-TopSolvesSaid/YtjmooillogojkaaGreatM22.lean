/- The sum of bytes, part one: the words of a block (schedule) and the constants; The sum of bytes, part two: the constants, the start; Printed by a changed copy of a printer, shortened by a program: ... No condition. -/
import Derived.Test.YtjmooillogojkaaGreatM21
set_option maxHeartbeats 8000000
set_option maxRecDepth 100000
set_option linter.unusedVariables false
set_option linter.unusedSimpArgs false
namespace Go.Proofs.YtjmooillogojkaaGreat.Q
open Go.RowKit Go.Proofs.YtjmooillogojkaaGreatW.PrintWords Go.Proofs.YtjmooillogojkaaGreatW.PrintLast Go.Proofs.YtjmooillogojkaaGreatW.PrintMore
open Go.Proofs.YtjmooillogojkaaGreat
def sha_word.f (l0 : List Int) (a1 : Int) : Option (Int) := if 0 ≤ a1 then (if a1 < (l0.length : Int) then (if 0 ≤ (wrap64 (a1 + 1)) then (if (wrap64 (a1 + 1)) < (l0.length : Int) then (if 0 ≤ (wrap64 (a1 + 2)) then (if (wrap64 (a1 + 2)) < (l0.length : Int) then (if 0 ≤ (wrap64 (a1 + 3)) then (if (wrap64 (a1 + 3)) < (l0.length : Int) then (some (Go.bits .or .u32 (Go.bits .or .u32 (Go.bits .or .u32 ((((rd l0 a1) % 4294967296) * 16777216) % 4294967296) ((((rd l0 (wrap64 (a1 + 1))) % 4294967296) * 65536) % 4294967296)) ((((rd l0 (wrap64 (a1 + 2))) % 4294967296) * 256) % 4294967296)) ((rd l0 (wrap64 (a1 + 3))) % 4294967296))) else (none)) else (none)) else (none)) else (none)) else (none)) else (none)) else (none)) else (none)
theorem sha_word.calls (A0 : Option Addr) (c0 : Nat) (l0 : List Int) (a1 : Int) (r : Int) (w : World) (hr0 : Kd.C (Kd.int .u8) w A0 l0.length l0) (hc0 : l0.length ≤ c0) (h : sha_word.f l0 a1 = some r) :
  Calls Tryz.prog 180 #[.slice A0 l0.length c0, .int .i64 a1] w fun e w' => e = .returned (.int .u32 r) ∧ Drawn0 w w' := by
 have HR0 := jo hr0
 have HC0 := jo hc0
 clear hr0 hc0
 have H : (if 0 ≤ a1 then (if a1 < (l0.length : Int) then (if 0 ≤ (wrap64 (a1 + 1)) then (if (wrap64 (a1 + 1)) < (l0.length : Int) then (if 0 ≤ (wrap64 (a1 + 2)) then (if (wrap64 (a1 + 2)) < (l0.length : Int) then (if 0 ≤ (wrap64 (a1 + 3)) then (if (wrap64 (a1 + 3)) < (l0.length : Int) then (some (Go.bits .or .u32 (Go.bits .or .u32 (Go.bits .or .u32 ((((rd l0 a1) % 4294967296) * 16777216) % 4294967296) ((((rd l0 (wrap64 (a1 + 1))) % 4294967296) * 65536) % 4294967296)) ((((rd l0 (wrap64 (a1 + 2))) % 4294967296) * 256) % 4294967296)) ((rd l0 (wrap64 (a1 + 3))) % 4294967296))) else (none)) else (none)) else (none)) else (none)) else (none)) else (none)) else (none)) else (none)) = some r := h
 clear h
 by_cases c3 : 0 ≤ a1
 ·rw [if_pos c3] at H
  have c3b0 : decide (0 ≤ a1) = true := decide_eq_true c3
  clear c3
  by_cases c4 : a1 < (l0.length : Int)
  ·rw [if_pos c4] at H
   have c4b0 : decide (a1 < (l0.length : Int)) = true := decide_eq_true c4
   clear c4
   obtain ⟨ji5, hji5⟩ : ∃ j_ : Int, (wrap64 (a1 + 1)) = j_ := ⟨_, rfl⟩
   replace H : (if 0 ≤ (ji5) then (if (ji5) < (l0.length : Int) then (if 0 ≤ (wrap64 (a1 + 2)) then (if (wrap64 (a1 + 2)) < (l0.length : Int) then (if 0 ≤ (wrap64 (a1 + 3)) then (if (wrap64 (a1 + 3)) < (l0.length : Int) then (some (Go.bits .or .u32 (Go.bits .or .u32 (Go.bits .or .u32 ((((rd l0 a1) % 4294967296) * 16777216) % 4294967296) ((((rd l0 (ji5)) % 4294967296) * 65536) % 4294967296)) ((((rd l0 (wrap64 (a1 + 2))) % 4294967296) * 256) % 4294967296)) ((rd l0 (wrap64 (a1 + 3))) % 4294967296))) else (none)) else (none)) else (none)) else (none)) else (none)) else (none)) = some r := by first | (rw [hji5] at H; exact H) | (simp only [hji5] at H ⊢; exact H)
   have hji5w : (IntKind.i64.wrap (a1 + 1)) = ji5 := (i64_w _).trans hji5
   by_cases c6 : 0 ≤ (ji5)
   ·rw [if_pos c6] at H
    have c6b0 : decide (0 ≤ (ji5)) = true := decide_eq_true c6
    clear c6
    by_cases c7 : (ji5) < (l0.length : Int)
    ·rw [if_pos c7] at H
     have c7b0 : decide ((ji5) < (l0.length : Int)) = true := decide_eq_true c7
     clear c7
     obtain ⟨ji8, hji8⟩ : ∃ j_ : Int, (wrap64 (a1 + 2)) = j_ := ⟨_, rfl⟩
     replace H : (if 0 ≤ (ji8) then (if (ji8) < (l0.length : Int) then (if 0 ≤ (wrap64 (a1 + 3)) then (if (wrap64 (a1 + 3)) < (l0.length : Int) then (some (Go.bits .or .u32 (Go.bits .or .u32 (Go.bits .or .u32 ((((rd l0 a1) % 4294967296) * 16777216) % 4294967296) ((((rd l0 (ji5)) % 4294967296) * 65536) % 4294967296)) ((((rd l0 (ji8)) % 4294967296) * 256) % 4294967296)) ((rd l0 (wrap64 (a1 + 3))) % 4294967296))) else (none)) else (none)) else (none)) else (none)) = some r := by first | (rw [hji8] at H; exact H) | (simp only [hji8] at H ⊢; exact H)
     have hji8w : (IntKind.i64.wrap (a1 + 2)) = ji8 := (i64_w _).trans hji8
     by_cases c9 : 0 ≤ (ji8)
     ·rw [if_pos c9] at H
      have c9b0 : decide (0 ≤ (ji8)) = true := decide_eq_true c9
      clear c9
      by_cases c10 : (ji8) < (l0.length : Int)
      ·rw [if_pos c10] at H
       have c10b0 : decide ((ji8) < (l0.length : Int)) = true := decide_eq_true c10
       clear c10
       obtain ⟨ji11, hji11⟩ : ∃ j_ : Int, (wrap64 (a1 + 3)) = j_ := ⟨_, rfl⟩
       replace H : (if 0 ≤ (ji11) then (if (ji11) < (l0.length : Int) then (some (Go.bits .or .u32 (Go.bits .or .u32 (Go.bits .or .u32 ((((rd l0 a1) % 4294967296) * 16777216) % 4294967296) ((((rd l0 (ji5)) % 4294967296) * 65536) % 4294967296)) ((((rd l0 (ji8)) % 4294967296) * 256) % 4294967296)) ((rd l0 (ji11)) % 4294967296))) else (none)) else (none)) = some r := by first | (rw [hji11] at H; exact H) | (simp only [hji11] at H ⊢; exact H)
       have hji11w : (IntKind.i64.wrap (a1 + 3)) = ji11 := (i64_w _).trans hji11
       by_cases c12 : 0 ≤ (ji11)
       ·rw [if_pos c12] at H
        have c12b0 : decide (0 ≤ (ji11)) = true := decide_eq_true c12
        clear c12
        by_cases c13 : (ji11) < (l0.length : Int)
        ·rw [if_pos c13] at H
         have c13b0 : decide ((ji11) < (l0.length : Int)) = true := decide_eq_true c13
         clear c13
         obtain rfl := Option.some.inj H
         have p218 : 0 ≤ (a1 : Int) := of_decide_eq_true ja
         have q218 : a1 < (l0.length : Int) := of_decide_eq_true ja
         obtain ⟨ad218, e218, hx218_0⟩ := Kd.at_int HR0.out a1 p218 q218
         cases e218
         replace p218 := eq_true p218
         replace q218 := eq_true q218
         have p219 : 0 ≤ ((ji5) : Int) := of_decide_eq_true ja
         have q219 : (ji5) < (l0.length : Int) := of_decide_eq_true ja
         obtain ⟨ad219, e219, hx219_0⟩ := Kd.at_int HR0.out (ji5) p219 q219
         obtain rfl : ad218 = ad219 := (by injection e219)
         replace p219 := eq_true p219
         replace q219 := eq_true q219
         have p220 : 0 ≤ ((ji8) : Int) := of_decide_eq_true ja
         have q220 : (ji8) < (l0.length : Int) := of_decide_eq_true ja
         obtain ⟨ad220, e220, hx220_0⟩ := Kd.at_int HR0.out (ji8) p220 q220
         obtain rfl : ad218 = ad220 := (by injection e220)
         replace p220 := eq_true p220
         replace q220 := eq_true q220
         have p221 : 0 ≤ ((ji11) : Int) := of_decide_eq_true ja
         have q221 : (ji11) < (l0.length : Int) := of_decide_eq_true ja
         obtain ⟨ad221, e221, hx221_0⟩ := Kd.at_int HR0.out (ji11) p221 q221
         obtain rfl : ad218 = ad221 := (by injection e221)
         replace p221 := eq_true p221
         replace q221 := eq_true q221
         go_enter Tryz.func180, Tryz.ntmps180
         go_wp2
         repeat (go_quiet (fail); try go_wp2)
         go_ret
         exact ⟨by first | rfl | (simp; done) | (simp only [← hji5, ← hji8, ← hji11] <;> (first | rfl | simp)) | (simp [*]; done), jd⟩
        ·rw [if_neg c13] at H
         exact absurd H (by simp)
       ·rw [if_neg c12] at H
        exact absurd H (by simp)
      ·rw [if_neg c10] at H
       exact absurd H (by simp)
     ·rw [if_neg c9] at H
      exact absurd H (by simp)
    ·rw [if_neg c7] at H
     exact absurd H (by simp)
   ·rw [if_neg c6] at H
    exact absurd H (by simp)
  ·rw [if_neg c4] at H
   exact absurd H (by simp)
 ·rw [if_neg c3] at H
  exact absurd H (by simp)
def rot (x n : Int) : Int := Go.bits .or .u32 (shl .u32 x (Go.bits .and .u64 (IntKind.u64.wrap (wrap64 (-n))) 31)) (shr .u32 x (IntKind.u64.wrap (32 - (Go.bits .and .u64 (IntKind.u64.wrap (wrap64 (-n))) 31))))
def rotOk (n : Int) : Prop := 0 ≤ (Go.bits .and .u64 (IntKind.u64.wrap (wrap64 (-n))) 31) ∧ 0 ≤ (IntKind.u64.wrap (32 - (Go.bits .and .u64 (IntKind.u64.wrap (wrap64 (-n))) 31)))
theorem rot_spec {x n : Int} (h : rotOk n) : sha_rotr.f x n = some (rot x n) := by
 unfold sha_rotr.f bits_RotateLeft32.f rot
 rw [if_pos h.1, if_pos h.2]
 rfl
instance (n : Int) : Decidable (rotOk n) := by unfold rotOk; infer_instance
def wd (l : List Int) (i : Int) : Int := (sha_word.f l i).getD 0
theorem wd_spec {l : List Int} {i : Nat} (h : i + 3 < l.length) (hl : l.length < 1000000) : sha_word.f l (i : Int) = some (wd l i) := by
 have e1 : wrap64 ((i : Int) + 1) = (i : Int) + 1 := by unfold wrap64; omega
 have e2 : wrap64 ((i : Int) + 2) = (i : Int) + 2 := by unfold wrap64; omega
 have e3 : wrap64 ((i : Int) + 3) = (i : Int) + 3 := by unfold wrap64; omega
 unfold wd sha_word.f
 rw [e1, e2, e3]
 simp only [if_pos (show (0 : Int) ≤ i by omega), if_pos (show (i : Int) < (l.length : Int) by omega), if_pos (show (0 : Int) ≤ (i : Int) + 1 by omega), if_pos (show (i : Int) + 1 < (l.length : Int) by omega), if_pos (show (0 : Int) ≤ (i : Int) + 2 by omega), if_pos (show (i : Int) + 2 < (l.length : Int) by omega), if_pos (show (0 : Int) ≤ (i : Int) + 3 by omega), if_pos (show (i : Int) + 3 < (l.length : Int) by omega), Option.getD_some]
def s0P (x : Int) : Int := Go.bits .xor .u32 (Go.bits .xor .u32 (rot x 7) (rot x 18)) (x / 8)
def s1P (y : Int) : Int := Go.bits .xor .u32 (Go.bits .xor .u32 (rot y 17) (rot y 19)) (y / 1024)
def schStep (b : List Int) (ws : List Int) : Int :=
 if ws.length < 16 then wd b (4 * (ws.length : Int))
 else (((s1P (rd ws (ws.length - 2 : Nat)) + rd ws (ws.length - 7 : Nat)) % 4294967296 + s0P (rd ws (ws.length - 15 : Nat))) % 4294967296 + rd ws (ws.length - 16 : Nat)) % 4294967296
def sch (b : List Int) : Nat → List Int
 | 0 => []
 | t + 1 => sch b t ++ [schStep b (sch b t)]
theorem sch_length (b : List Int) (t : Nat) : (sch b t).length = t := by
 induction t with
 | zero => rfl
 | succ t ih => simp [sch, ih]
def row32 (n : Nat) (ws : List Int) : Array Value := (nums .u32 (ws ++ List.replicate (n - ws.length) 0)).toArray
theorem row32_at {n : Nat} {ws : List Int} {i : Nat} (h : i < ws.length) : (row32 n ws)[i]? = some (.int .u32 (rd ws i)) := by
 unfold row32 nums
 rw [List.getElem?_toArray, List.getElem?_map, List.getElem?_append_left h, rd_get h, List.getElem?_eq_getElem h]
 rfl
theorem row32_set {n : Nat} {ws : List Int} (h : ws.length < n) (x : Int) : (row32 n ws).setIfInBounds ws.length (.int .u32 x) = row32 n (ws ++ [x]) := by
 unfold row32 nums
 rw [List.setIfInBounds_toArray]
 congr 1
 obtain ⟨m, hm⟩ : ∃ m, n - ws.length = m + 1 := ⟨n - ws.length - 1, by omega⟩
 rw [hm, show n - (ws ++ [x]).length = m by rw [List.length_append, List.length_singleton]; omega]
 simp [List.replicate_succ]
theorem row32_size {n : Nat} {ws : List Int} (h : ws.length ≤ n) : (row32 n ws).size = n := by
 unfold row32 nums
 simp
 omega
theorem row32_one {n : Nat} {ws : List Int} : ∀ v ∈ (row32 n ws).toList, v.oneCell' = true := by
 intro v hv
 unfold row32 nums at hv
 rw [List.toList_toArray, List.mem_map] at hv
 obtain ⟨x, _, rfl⟩ := hv
 rfl
theorem size235 : (Tryz.prog.info? 235).map (·.size) = some 64 := by kernel_rfl
theorem sch_put {w W W' : World} {g h t : Nat} {b : List Int} {v : Int} (H : W.heap[g]? = some (.cells (row32 64 []) 235 (0, 0)) ∧ W.heap[h]? = some (.cells (row32 64 (sch b t)) 235 (0, 0)) ∧ Below g w W) (hgh : g ≠ h) (hle : g ≤ h) (ht : t < 64) (hv : schStep b (sch b t) = v)
  (hW : W'.heap = (W.setCell ⟨h, t, none⟩ (.int .u32 v)).heap) (ho : W'.os = W.os ∧ W'.tape = W.tape ∧ W'.output = W.output) :
  W'.heap[g]? = some (.cells (row32 64 []) 235 (0, 0)) ∧ W'.heap[h]? = some (.cells (row32 64 (sch b (t + 1))) 235 (0, 0)) ∧ Below g w W' := by
 have hb : Below g w (W.setCell ⟨h, t, none⟩ (.int .u32 v)) := H.2.2.setCell hle _
 refine ⟨?_, ?_, ⟨ho.1.trans H.2.2.os, ho.2.1.trans H.2.2.tape, ho.2.2.trans H.2.2.output, by rw [hW]; exact hb.size, fun k hk => by rw [hW]; exact hb.block k hk⟩⟩
 ·rw [hW]
  exact blk_far H.1 hgh _
 ·rw [hW]
  refine blk_put H.2.1 t _ ?_
  have := row32_set (n := 64) (ws := sch b t) (by rw [sch_length]; exact ht) v
  rw [sch_length] at this
  rw [this, ← hv]
  rfl
theorem schedule_ok {A : Option Addr} {c : Nat} {b : List Int} (w : World) (hr : Kd.C (Kd.int .u8) w A b.length b) (hc : b.length ≤ c) (hb : b.length = 64) {ws : List Int} (hws0 : ws = sch b 64) :
  Calls Tryz.prog 177 #[.slice A b.length c] w fun e w' => e = .returned (.agg (row32 64 ws)) ∧ Below w.heap.size w w' := by
 have HR := jo hr
 clear hr
 have hbb := hb
 have HBL := jo hbb
 have HWS := jo hws0
 clear hbb hb hws0
 go_enter Tryz.func177, Tryz.ntmps177
 go_wp2
 generalize hW : World.alloc _ _ = W1
 have k1 : W1.heap[w.heap.size]? = some (.cells (row32 64 []) 235 (0, 0)) := by
  rw [← hW]
  exact (show ∀ (X Y : Obj), ((w.alloc X).alloc Y).heap[w.heap.size]? = some X from fun X Y => blk_alloc (blk_new w X) Y) _ _
 have k2 : W1.heap[w.heap.size + 1]? = some (.cells (row32 64 []) 235 (0, 0)) := by
  rw [← hW]
  exact (show ∀ (X Y : Obj), ((w.alloc X).alloc Y).heap[w.heap.size + 1]? = some Y from fun X Y => by
   have := blk_new (w.alloc X) Y
   rw [World.size_alloc] at this
   exact this) _ _
 have p1 : Below w.heap.size w W1 := by
  rw [← hW]
  exact below_alloc (below_alloc (Below.refl _ _) _) _
 have K := jo (And.intro k1 (And.intro k2 p1))
 clear hW k1 k2 p1
 obtain ⟨h, hh⟩ : ∃ h, h = w.heap.size + 1 := ⟨_, rfl⟩
 obtain ⟨g, hg⟩ : ∃ g, g = w.heap.size := ⟨_, rfl⟩
 have hgh : g ≠ h := by omega
 have HG := jo (And.intro hg hh)
 rw [← hh, ← hg] at K ⊢
 clear hh hg
 go_loopg [4, 5, 6, 7, 8, 9] 64 (fun gk v4 v5 v6 v7 v8 v9 wr => ∃ t : Nat, v9 = .int .i64 t ∧ Aside0 (t + gk = 64 ∧ wr.heap[g]? = some (.cells (row32 64 []) 235 (0, 0)) ∧ wr.heap[h]? = some (.cells (row32 64 (sch b t)) 235 (0, 0)) ∧ Below g w wr))
 case atStart => exact ⟨0, rfl, ⟨rfl, K.out⟩⟩
 case round =>
  obtain ⟨t, rfl, HA⟩ := hrel
  clear K
  by_cases hlt : t < 64
  ·have d1 : decide ((t : Int) < 64) = true := decide_eq_true (by omega)
   have d2 : decide (t < 64) = true := decide_eq_true hlt
   obtain ⟨gq, rfl⟩ : ∃ q, gk = q + 1 := ⟨gk - 1, by have := HA.out.1; omega⟩
   have ff := blk_frozen HA.out.2.2.1 t
   have fc : wr.cell? ⟨h, t, none⟩ = some (.int .u32 0) := by
    rw [blk_cell HA.out.2.2.1]
    unfold row32 nums
    rw [List.getElem?_toArray, List.getElem?_map, List.getElem?_append_right (by rw [sch_length]; omega), sch_length, Nat.sub_self, List.getElem?_replicate, if_pos (by omega)]
    rfl
   have gt : (t : Int) < 64 := by omega
   by_cases h16 : t < 16
   ·have d3 : decide ((t : Int) < 16) = true := decide_eq_true (by omega)
    have d4 : decide (t < 16) = true := decide_eq_true h16
    have WD : Aside0 (sha_word.f b (4 * (t : Int)) = some (wd b (4 * (t : Int)))) := ⟨wd_spec (l := b) (i := 4 * t) (by have := HBL.out; omega) (by have := HBL.out; omega)⟩
    have HR2 := jo (Kd.C_below HR.out (by rw [← HG.out.1]; exact HA.out.2.2.2))
    have hst : schStep b (sch b t) = wd b (4 * (t : Int)) := by
     unfold schStep
     rw [sch_length, if_pos h16]
    have HST := jo hst
    clear hst
    go_wp2_with (go_at_call 180; (with_reducible refine (sha_word.calls A c b _ _ _ HR2.out hc WD.out).mono ?_); rintro e w1 ⟨rfl, ⟨k, rfl⟩⟩)
    go_roundg gq
    case measure => omega
    case rel => exact ⟨t + 1, rfl, ⟨by have := HA.out.1; omega, sch_put HA.out.2 hgh (Nat.le_of_lt (by have := HG.out; omega)) hlt HST.out rfl ⟨rfl, rfl, rfl⟩⟩⟩
   ·obtain ⟨t15, h15⟩ : ∃ x, x = t - 15 := ⟨_, rfl⟩
    obtain ⟨t2, h2⟩ : ∃ x, x = t - 2 := ⟨_, rfl⟩
    obtain ⟨t7, h7⟩ : ∃ x, x = t - 7 := ⟨_, rfl⟩
    obtain ⟨t16, h16'⟩ : ∃ x, x = t - 16 := ⟨_, rfl⟩
    have d3 : decide ((t : Int) < 16) = false := decide_eq_false (by omega)
    have d4 : decide (t < 16) = false := decide_eq_false h16
    have e15 : wrap64 ((t : Int) - 15) = (t15 : Int) := by unfold wrap64; omega
    have e2 : wrap64 ((t : Int) - 2) = (t2 : Int) := by unfold wrap64; omega
    have e7 : wrap64 ((t : Int) - 7) = (t7 : Int) := by unfold wrap64; omega
    have e16 : wrap64 ((t : Int) - 16) = (t16 : Int) := by unfold wrap64; omega
    have i15 : IntKind.i64.wrap ((t : Int) - 15) = (t15 : Int) := (i64_w _).trans e15
    have i2 : IntKind.i64.wrap ((t : Int) - 2) = (t2 : Int) := (i64_w _).trans e2
    have i7 : IntKind.i64.wrap ((t : Int) - 7) = (t7 : Int) := (i64_w _).trans e7
    have i16 : IntKind.i64.wrap ((t : Int) - 16) = (t16 : Int) := (i64_w _).trans e16
    have g15 : (t15 : Int) < 64 := by omega
    have g2 : (t2 : Int) < 64 := by omega
    have g7 : (t7 : Int) < 64 := by omega
    have g16 : (t16 : Int) < 64 := by omega
    have cell : ∀ i : Nat, i < t → wr.cell? ⟨h, i, none⟩ = some (.int .u32 (rd (sch b t) i)) := fun i hi => by
     rw [blk_cell HA.out.2.2.1]
     exact row32_at (by rw [sch_length]; exact hi)
    have f15 := cell t15 (by omega)
    have f2 := cell t2 (by omega)
    have f7 := cell t7 (by omega)
    have f16 := cell t16 (by omega)
    obtain ⟨x15, y15⟩ : ∃ x, x = rd (sch b t) t15 := ⟨_, rfl⟩
    obtain ⟨x2, y2⟩ : ∃ x, x = rd (sch b t) t2 := ⟨_, rfl⟩
    obtain ⟨x7, y7⟩ : ∃ x, x = rd (sch b t) t7 := ⟨_, rfl⟩
    obtain ⟨x16, y16⟩ : ∃ x, x = rd (sch b t) t16 := ⟨_, rfl⟩
    rw [← y15] at f15
    rw [← y2] at f2
    rw [← y7] at f7
    rw [← y16] at f16
    have hst : schStep b (sch b t) = (((s1P x2 + x7) % 4294967296 + s0P x15) % 4294967296 + x16) % 4294967296 := by
     unfold schStep
     rw [sch_length, if_neg h16, ← h15, ← h2, ← h7, ← h16', ← y15, ← y2, ← y7, ← y16]
    have HST := jo hst
    clear hst h15 h2 h7 h16' y15 y2 y7 y16 cell
    have O7 : Aside0 (∀ x, sha_rotr.f x 7 = some (rot x 7)) := ⟨fun x => rot_spec (by decide +kernel)⟩
    have O18 : Aside0 (∀ x, sha_rotr.f x 18 = some (rot x 18)) := ⟨fun x => rot_spec (by decide +kernel)⟩
    have O17 : Aside0 (∀ x, sha_rotr.f x 17 = some (rot x 17)) := ⟨fun x => rot_spec (by decide +kernel)⟩
    have O19 : Aside0 (∀ x, sha_rotr.f x 19 = some (rot x 19)) := ⟨fun x => rot_spec (by decide +kernel)⟩
    go_wp2
    refine st_ (S := fun w' => w'.cell? ⟨h, t15, none⟩ = some (.int .u32 x15) ∧ w'.cell? ⟨h, t2, none⟩ = some (.int .u32 x2)) (ds := []) 10 ⟨f15, f2⟩ (fun hHeld => ?_)
    refine td_ [0, 1, 2, 4, 5, 6] ?_
    repeat (first | refine pp_ ?_ | refine po_ ?_)
    refine tn_ ?_
    refine td_ [3] ?_
    repeat (refine pt_ hHeld ?_)
    refine tn_ ?_
    refine td_ [8] ?_
    repeat (first | refine pp_ ?_ | refine po_ ?_)
    refine tn_ ?_
    refine td_ [7] ?_
    repeat (refine pt_ hHeld ?_)
    refine tn_ ?_
    refine td_ [9] ?_
    repeat (first | refine pp_ ?_ | refine po_ ?_)
    refine tn_ ?_
    refine dn_ ?_
    go_wp2_with (go_at_call 179; (first | (with_reducible refine (sha_rotr.calls _ _ _ _ (O7.out _)).mono ?_) | (with_reducible refine (sha_rotr.calls _ _ _ _ (O18.out _)).mono ?_) | (with_reducible refine (sha_rotr.calls _ _ _ _ (O17.out _)).mono ?_) | (with_reducible refine (sha_rotr.calls _ _ _ _ (O19.out _)).mono ?_)); rintro e w1 ⟨rfl, ⟨k, rfl⟩⟩)
    generalize hD : World.drewN wr _ = W2
    have f7' : W2.cell? ⟨h, t7, none⟩ = some (.int .u32 x7) := by rw [← hD]; exact f7
    have f16' : W2.cell? ⟨h, t16, none⟩ = some (.int .u32 x16) := by rw [← hD]; exact f16
    have ff' : W2.drew.frozen? ⟨h, t, none⟩ = false := by rw [← hD]; exact ff
    have fc' : W2.drew.cell? ⟨h, t, none⟩ = some (.int .u32 0) := by rw [← hD]; exact fc
    have HD : Aside0 (W2.heap[g]? = some (.cells (row32 64 []) 235 (0, 0)) ∧ W2.heap[h]? = some (.cells (row32 64 (sch b t)) 235 (0, 0)) ∧ Below g w W2) := ⟨by
     rw [← hD]
     exact ⟨HA.out.2.1, HA.out.2.2.1, pw_below_drewN HA.out.2.2.2 _⟩⟩
    clear hD f7 f16 ff fc f15 f2 O7 O17 O18 O19
    generalize hg0 : Go.bits .xor .u32 (Go.bits .xor .u32 (rot x15 7) (rot x15 18)) (x15 / 8) = s0
    generalize hg1 : Go.bits .xor .u32 (Go.bits .xor .u32 (rot x2 17) (rot x2 19)) (x2 / 1024) = s1
    have hg0' : s0P x15 = s0 := hg0
    have hg1' : s1P x2 = s1 := hg1
    rw [hg0', hg1'] at HST
    clear hg0 hg1 hg0' hg1'
    refine st_ (S := fun w' => w'.cell? ⟨h, t7, none⟩ = some (.int .u32 x7) ∧ w'.cell? ⟨h, t16, none⟩ = some (.int .u32 x16)) (ds := [15]) 16 ⟨f7', f16'⟩ (fun hHeld => ?_)
    refine td_ [0, 1, 2, 3, 4, 7, 9, 10, 11] ?_
    repeat (first | refine pp_ ?_ | refine po_ ?_)
    refine tn_ ?_
    refine td_ [5] ?_
    repeat (refine pt_ hHeld ?_)
    refine tn_ ?_
    refine td_ [6, 8] ?_
    repeat (first | refine pp_ ?_ | refine po_ ?_)
    refine tn_ ?_
    refine td_ [12] ?_
    repeat (refine pt_ hHeld ?_)
    refine tn_ ?_
    refine td_ [13, 14] ?_
    repeat (first | refine pp_ ?_ | refine po_ ?_)
    refine tn_ ?_
    refine la_ 15 (fun K hK => ?_)
    refine skip_ (w1 := ?_) (by rfl) rfl ?_ ?_
    rotate_left
    ·go_simp
     rfl
    refine hK.out _ _ ?_
    clear hK K
    refine dn_ ?_
    go_wp2
    go_roundg gq
    case measure => omega
    case rel => exact ⟨t + 1, rfl, ⟨by have := HA.out.1; omega, sch_put HD.out hgh (Nat.le_of_lt (by have := HG.out; omega)) hlt HST.out rfl ⟨rfl, rfl, rfl⟩⟩⟩
  ·have d1 : decide ((t : Int) < 64) = false := decide_eq_false (by omega)
   have d2 : decide (t < 64) = false := decide_eq_false hlt
   have ht : t = 64 := by have := HA.out.1; omega
   have hws : sch b t = ws := by rw [HWS.out, ht]
   have hl : ws.length = 64 := by rw [← hws, sch_length, ht]
   rw [hws] at HA
   have hz : (row32 64 ws).size = 64 := row32_size (by omega)
   have hz0 : (row32 64 []).size = 64 := row32_size (by decide)
   have HZ := jo (And.intro hz hz0)
   have HS : Aside0 (∀ w, (sizeOf 235).run Tryz.prog w = .ok (row32 64 ws).size w) := ⟨fun w => by rw [hz]; exact Tryz.sizeOf235 w⟩
   clear hz hz0 hws hl ht
   go_wp2_with (first | ((with_reducible refine gate_dst (N := 60) rfl ?_); refine load_event rfl (N := 60) rfl (t := 235) rfl (cs := row32 64 ws) rfl (blk_cells HA.out.2.2.1) Tryz.isAgg235 HS.out ?_) | ((with_reducible refine gate_store (t := 235) (p := 2) rfl ?_); refine store_arr rfl rfl rfl (vs := row32 64 ws) rfl rfl HA.out.2.1 (by rw [HZ.out.1, HZ.out.2]; exact Nat.le_refl _) row32_one HS.out ?_; intro w5 hw5))
   have h5 : w5.heap[g]? = some (.cells (row32 64 ws) 235 (0, 0)) := by
    rw [hw5, blk_setCells (row32 64 ws).toList 0 wr _ HA.out.2.1, putC_all (by rw [HZ.out.1, HZ.out.2])]
   have hb5 : Below g w w5 := by
    rw [hw5]
    exact below_setCells (Nat.le_refl _) _ 0 _ HA.out.2.2.2
   refine bodyPost_ret (results_cell_row rfl _ _ g 235 (row32 64 ws) (0, 0) _ rfl h5 Tryz.underlying235 rfl (by rw [HZ.out.1]; exact size235)) rfl ?_
   exact ⟨rfl, by rw [← HG.out.1]; exact hb5⟩
def kL : List Int := [1116352408, 1899447441, 3049323471, 3921009573, 961987163, 1508970993, 2453635748, 2870763221, 3624381080, 310598401, 607225278, 1426881987, 1925078388, 2162078206, 2614888103, 3248222580, 3835390401, 4022224774, 264347078, 604807628, 770255983, 1249150122, 1555081692, 1996064986, 2554220882, 2821834349, 2952996808, 3210313671, 3336571891, 3584528711, 113926993, 338241895, 666307205, 773529912, 1294757372, 1396182291, 1695183700, 1986661051, 2177026350, 2456956037, 2730485921, 2820302411, 3259730800, 3345764771, 3516065817, 3600352804, 4094571909, 275423344, 430227734, 506948616, 659060556, 883997877, 958139571, 1322822218, 1537002063, 1747873779, 1955562222, 2024104815, 2227730452, 2361852424, 2428436474, 2756734187, 3204031479, 3329325298]
def stL : List Int := [1779033703, 3144134277, 1013904242, 2773480762, 1359893119, 2600822924, 528734635, 1541459225]
theorem arr_new {w w5 : World} {X vs : Array Value} {e : TypeId} (h : w5 = (w.alloc (.cells X e)).setCells w.heap.size 0 vs.toList) (hs : vs.size = X.size) : w5.heap[w.heap.size]? = some (.cells vs e (0, 0)) ∧ Below w.heap.size w w5 := by
 subst h
 exact ⟨by rw [blk_setCells vs.toList 0 _ X (blk_new w _), putC_all hs], below_setCells (Nat.le_refl _) _ 0 _ (below_alloc (Below.refl _ _) _)⟩
theorem size230 : (Tryz.prog.info? 230).map (·.size) = some 8 := by kernel_rfl
theorem start_ok (w : World) : Calls Tryz.prog 174 #[] w fun e w' => e = .returned (.agg (nums .u32 stL).toArray) ∧ Below w.heap.size w w' := by
 go_enter Tryz.func174, Tryz.ntmps174
 go_wp2
 refine bodyPost_ret (results_cell_row rfl _ _ w.heap.size 230 (nums .u32 stL).toArray (0, 0) _ rfl (blk_new w _) Tryz.underlying230 rfl size230) rfl ?_
 exact ⟨rfl, below_alloc (Below.refl _ _) _⟩
theorem const_ok (w : World) : Calls Tryz.prog 178 #[] w fun e w' => e = .returned (.agg (nums .u32 kL).toArray) ∧ Below w.heap.size w w' := by
 have HK : Aside0 ((nums .u32 kL).toArray.size = 64) := ⟨by kernel_rfl⟩
 have H1 : Aside0 (∀ v ∈ (nums .u32 kL).toArray.toList, v.oneCell' = true) := ⟨fun v hv => by
  rw [List.toList_toArray] at hv
  unfold nums at hv
  rw [List.mem_map] at hv
  obtain ⟨x, _, rfl⟩ := hv
  rfl⟩
 obtain ⟨kc, hkc⟩ : ∃ kc, kc = (nums .u32 kL).toArray := ⟨_, rfl⟩
 rw [← hkc] at HK H1 ⊢
 have HC := jo hkc
 have HS : Aside0 (∀ w, (sizeOf 235).run Tryz.prog w = .ok kc.size w) := ⟨fun w => by rw [HK.out]; exact Tryz.sizeOf235 w⟩
 clear hkc
 go_enter Tryz.func178, Tryz.ntmps178
 go_wp2_with ((with_reducible refine gate_store (t := 235) (p := 0) rfl ?_); (refine store_arr rfl rfl rfl (vs := kc) rfl (by rw [HC.out]; exact rfl) (blk_new w _) (Nat.le_of_eq (by rw [HK.out]; exact rfl)) H1.out HS.out ?_; intro w5 hw5))
 obtain ⟨h5, hb5⟩ := arr_new hw5 (by rw [HK.out]; exact rfl)
 refine bodyPost_ret (results_cell_row rfl _ _ w.heap.size 235 kc (0, 0) _ rfl h5 Tryz.underlying235 rfl (by rw [HK.out]; exact size235)) rfl ?_
 exact ⟨rfl, hb5⟩
end Go.Proofs.YtjmooillogojkaaGreat.Q
