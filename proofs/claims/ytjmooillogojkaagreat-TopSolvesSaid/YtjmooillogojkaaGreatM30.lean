/- The generator walked: a word, a number below, a pick; The generator walked, part two: it is made; a number below; The generator walked, part three: a pick. No condition. -/
import Derived.Test.YtjmooillogojkaaGreatM29
set_option maxHeartbeats 8000000
set_option maxRecDepth 100000
set_option linter.unusedVariables false
set_option linter.unusedSimpArgs false
namespace Go.Proofs.YtjmooillogojkaaGreat.Q
open Go.RowKit Go.Proofs.YtjmooillogojkaaGreatW.PrintWords Go.Proofs.YtjmooillogojkaaGreatW.PrintLast Go.Proofs.YtjmooillogojkaaGreatW.PrintMore
open Go.Proofs.YtjmooillogojkaaGreat
structure Gn (w W : World) (g : Nat) (key : ByteArray) (n : Nat) (buf : ByteArray) : Prop where
 blk : W.heap[g]? = some (.cells #[.string key, .int .i64 n, .string buf] 209 (0, 0))
 bel : Below w.heap.size w W
 lo : w.heap.size ≤ g
 buf : n % 8 ≠ 0 → buf = blkF key (n / 8 : Nat)
 key : key.size ≤ 64
section
variable {w W W1 : World} {g n n' : Nat} {key buf buf' : ByteArray}
theorem Gn.cell0 (h : Gn w W g key n buf) : W.cell? ⟨g, 0, none⟩ = some (.string key) := by rw [blk_cell h.blk]; rfl
theorem Gn.cell1 (h : Gn w W g key n buf) : W.cell? ⟨g, 1, none⟩ = some (.int .i64 n) := by rw [blk_cell h.blk]; rfl
theorem Gn.cell2 (h : Gn w W g key n buf) : W.cell? ⟨g, 2, none⟩ = some (.string buf) := by rw [blk_cell h.blk]; rfl
theorem Gn.soft (h : Gn w W g key n buf) (i : Nat) : W.frozen? ⟨g, i, none⟩ = false := blk_frozen h.blk i
theorem Gn.below (h : Gn w W g key n buf) (hb : Below W.heap.size W W1) : Gn w W1 g key n buf :=
 ⟨blk_below h.blk hb, below_step h.bel hb, h.lo, h.buf, h.key⟩
theorem Gn.set2 (h : Gn w W g key n buf) (hb : n % 8 ≠ 0 → buf' = blkF key (n / 8 : Nat)) : Gn w (W.setCell ⟨g, 2, none⟩ (.string buf')) g key n buf' :=
 ⟨blk_put h.blk 2 _ rfl, h.bel.setCell h.lo _, h.lo, hb, h.key⟩
theorem Gn.set1 (h : Gn w W g key n buf) (hb : n' % 8 ≠ 0 → buf = blkF key (n' / 8 : Nat)) : Gn w (W.setCell ⟨g, 1, none⟩ (.int .i64 n')) g key n' buf :=
 ⟨blk_put h.blk 1 _ rfl, h.bel.setCell h.lo _, h.lo, hb, h.key⟩
end
theorem word_ok {w W : World} {g n : Nat} {key buf : ByteArray} {x : Int} (hx : x = wordAt key n) (h : Gn w W g key n buf) (hn : n ≤ 1000000) :
  Calls Tryz.prog 118 #[.pointer (some ⟨g, 0, none⟩)] W fun e w' => e = .returned (.int .u32 x) ∧ KeepBut W w' g none ∧ ∃ buf', Gn w w' g key (n + 1) buf' := by
 have HN := jo hn
 have t1 : Int.tmod (n : Int) 8 = ((n % 8 : Nat) : Int) := (Int.ofNat_tmod n 8).symm
 have wn : wrap64 ((n : Int) + 1) = ((n + 1 : Nat) : Int) := by unfold wrap64; omega
 obtain ⟨qk, hqk⟩ : ∃ qk : Nat, qk = n / 8 := ⟨_, rfl⟩
 have t3 : wrap64 ((n : Int) / 8) = (qk : Int) := by unfold wrap64; omega
 obtain ⟨m, hm⟩ : ∃ m, m = n % 8 := ⟨_, rfl⟩
 have hm8 : m < 8 := by omega
 have HM := jo (And.intro hm hm8)
 have wa : wrap64 (4 * (m : Int)) = 4 * (m : Int) := by unfold wrap64; omega
 have wb : wrap64 (4 * (m : Int) + 4) = 4 * (m : Int) + 4 := by unfold wrap64; omega
 rw [← hm] at t1
 obtain ⟨bk, hbk⟩ : ∃ bk, bk = blkF key (qk : Int) := ⟨_, rfl⟩
 have HX := jo hx
 have HE0 := jo hbk
 have hsz : bk.size = 32 := by rw [hbk]; exact blkF_size _ _
 have HBK : Aside0 (prng_Block.f 20 key (wrap64 ((n : Int) / 8)) = some bk) := ⟨by rw [t3, hbk]; exact block_spec (m := (qk : Int)) h.key (by omega) (by omega)⟩
 clear hx hbk
 have HQ := jo hqk
 have H := jo h
 have c0 := h.cell0
 have c1 := h.cell1
 have ff := fun i => h.soft i
 by_cases h0 : m = 0
 ·subst h0
  have t1 : Int.tmod (n : Int) 8 = 0 := t1
  clear wa wb
  have c0d : W.drew.cell? ⟨g, 0, none⟩ = some (.string key) := c0
  have c1d : W.drew.cell? ⟨g, 1, none⟩ = some (.int .i64 n) := c1
  have HD := jo (h.below (below_drew (Below.refl _ _)))
  clear h hn hm hm8 hqk
  go_enter Tryz.func118, Tryz.ntmps118
  go_wp2
  refine st_ (S := fun w' => w'.cell? ⟨g, 0, none⟩ = some (.string key) ∧ w'.cell? ⟨g, 1, none⟩ = some (.int .i64 (n : Int))) (ds := [13]) 14 ⟨c0d, c1d⟩ (fun hHeld => ?_)
  refine td_ [0, 1, 2, 3, 5, 6, 7] ?_
  repeat (first | refine pp_ ?_ | refine po_ ?_)
  refine tn_ ?_
  refine td_ [4, 8] ?_
  repeat (refine pt_ hHeld ?_)
  refine tn_ ?_
  refine td_ [9] ?_
  repeat (first | refine pp_ ?_ | refine po_ ?_)
  refine tn_ ?_
  refine on_ 10 (fun K hK => ?_)
  refine gs_ Tryz.func154 #[.string key, .int .i64 (wrap64 ((n : Int) / 8))] ?_
  with_reducible refine ((prng_Block.calls 20 _ _ _ _ HBK.out)).mono ?_
  rintro er w6 ⟨rfl, hb6⟩
  refine ⟨_, rfl, ?_⟩
  have H6 := jo (HD.out.below hb6)
  have f0 := H6.out.cell0
  have f1 := H6.out.cell1
  have f2 := H6.out.cell2
  have ff6 := fun i => H6.out.soft i
  have HKB := jo (below_step (below_drew (Below.refl W.heap.size W)) hb6)
  clear hb6
  refine hK.out _ _ ⟨f0, f1⟩ (fun hHeld => ?_)
  clear hK K
  refine nm_ (some 23) ?_
  refine td_ [11, 12] ?_
  repeat (first | refine pp_ ?_ | refine po_ ?_)
  refine tn_ ?_
  refine la_ 13 (fun K hK => ?_)
  refine skip_ (w1 := ?_) (by rfl) rfl ?_ ?_
  rotate_left
  ·go_simp
   rfl
  refine hK.out _ _ ?_
  clear hK K
  refine dn_ ?_
  have hx := H6.out.set2 (buf' := bk) (fun _ => by rw [HE0.out, HQ.out])
  have hkb := (KeepBut.of_below HKB.out g none).set_ 2 (.string bk)
  generalize w6.setCell ⟨g, 2, none⟩ (.string bk) = W9 at hx hkb ⊢
  have HW := jo hx
  have HK := jo hkb
  clear hkb HKB
  clear hx H6 HD f2 f0 f1 ff6 ff c0 c1 c0d c1d
  have k1 := HW.out.cell1
  have k2 := HW.out.cell2
  have kf := fun i => HW.out.soft i
  obtain ⟨sx, hsx⟩ : ∃ sx, sx = bk.extract 0 4 := ⟨_, rfl⟩
  obtain ⟨y, hy⟩ : ∃ y, y = getF sx := ⟨_, rfl⟩
  have HG : Aside0 (oct_Get.f 20 sx = some y) := ⟨by rw [hy, hsx]; exact get_spec (by rw [ByteArray.size_extract]; omega)⟩
  have hsl : ∀ W, (Instr.slice 9 (.string bk) (some (.int .i64 0)) (some (.int .i64 4)) none).run Tryz.prog W = .ok (.string sx) W := fun W => by rw [hsx]; exact run_slice_string W 9 bk .i64 .i64 0 4 Tryz.underlying9 (by decide) (by decide) (by omega)
  have HA : Aside0 (Gn w (W9.setCell ⟨g, 1, none⟩ (.int .i64 ((n : Int) + 1))) g key (n + 1) bk) := ⟨HW.out.set1 (n' := n + 1) (fun hh => by rw [HE0.out, HQ.out]; congr 2; omega)⟩
  have HV : Aside0 (x = IntKind.u32.wrap y) := ⟨by rw [HX.out, hy, hsx, HE0.out]; unfold wordAt; rw [← HQ.out, ← HM.out.1]⟩
  clear hy hsx
  go_wp2_with (first | (go_at_call 155; (with_reducible refine (oct_Get.calls _ _ _ _ HG.out).mono ?_); rintro e w4 ⟨rfl, ⟨k, rfl⟩⟩))
  go_ret
  refine ⟨?_, (HK.out.set_ 1 _).trans (KeepBut.of_below (pw_below_drewN (Below.refl _ _) k) g none) (.inl rfl), _, HA.out.below (pw_below_drewN (Below.refl _ _) k)⟩
  rw [HV.out]
  rfl
 ·have b0 : ((m : Int) == 0) = false := beq_eq_false_iff_ne.2 (by omega)
  have b1 : (m == 0) = false := beq_eq_false_iff_ne.2 h0
  have b2 : ¬ (m : Int) = 0 := by omega
  have he : buf = bk := by rw [HE0.out, hqk]; exact h.buf (by rw [← hm]; exact h0)
  rw [he] at H
  clear he
  clear h hn hm hm8 hqk
  have HW := H
  clear H ff c0
  obtain ⟨W9, hW9⟩ : ∃ W9, W9 = W := ⟨_, rfl⟩
  rw [← hW9] at HW c1 ⊢
  clear hW9
  go_enter Tryz.func118, Tryz.ntmps118
  have k1 := HW.out.cell1
  have kf := fun i => HW.out.soft i
  obtain ⟨sx, hsx⟩ : ∃ sx, sx = bk.extract (4 * m) (4 * m + 4) := ⟨_, rfl⟩
  obtain ⟨y, hy⟩ : ∃ y, y = getF sx := ⟨_, rfl⟩
  have HG : Aside0 (oct_Get.f 20 sx = some y) := ⟨by rw [hy, hsx]; exact get_spec (by rw [ByteArray.size_extract]; omega)⟩
  have hsl : ∀ W, (Instr.slice 9 (.string bk) (some (.int .i64 (4 * (m : Int)))) (some (.int .i64 (4 * (m : Int) + 4))) none).run Tryz.prog W = .ok (.string sx) W := fun W => by rw [hsx]; exact run_slice_string W 9 bk .i64 .i64 (4 * (m : Int)) (4 * (m : Int) + 4) Tryz.underlying9 (by omega) (by omega) (by have := HM.out; omega)
  have HV : Aside0 (x = IntKind.u32.wrap y) := ⟨by rw [HX.out, hy, hsx, HE0.out]; unfold wordAt; rw [← HQ.out, ← HM.out.1]⟩
  clear hy hsx
  go_wp2_with (first | ((with_reducible refine gate_store (t := 3) (p := 32) rfl ?_); refine store_event (t := 3) (p := 32) (v := ?vo) (w1 := (W9.setCell ⟨g, 1, none⟩ (.int .i64 ((n : Int) + 1)))) ?hg ?ho ?hn ?hr ?_; (case ho => rfl); (case hg => rfl); (case hn => rfl); (case hr => first | (go_simp; done) | (go_simp; rfl)); intro wA hw; have HA : Aside0 (Gn w wA g key (n + 1) bk) := ⟨by rw [hw]; exact HW.out.set1 (n' := n + 1) (fun hh => by rw [HE0.out, HQ.out]; congr 2; omega)⟩; have k2 := HA.out.cell2; have HKA : Aside0 (KeepBut W9 wA g none) := ⟨by rw [hw]; exact (KeepBut.refl W9 g none).set_ 1 _⟩; clear hw k1) | (go_at_call 155; (with_reducible refine (oct_Get.calls _ _ _ _ HG.out).mono ?_); rintro e w4 ⟨rfl, ⟨k, rfl⟩⟩))
  go_ret
  refine ⟨?_, HKA.out.trans (KeepBut.of_below (pw_below_drewN (Below.refl _ _) k) g none) (.inl rfl), _, HA.out.below (pw_below_drewN (Below.refl _ _) k)⟩
  rw [HV.out]
  rfl
theorem gen_ok {key : ByteArray} (hk : key.size ≤ 64) (w : World) : Calls Tryz.prog 143 #[.string key] w fun e w' => ∃ g, e = .returned (.pointer (some ⟨g, 0, none⟩)) ∧ Gn w w' g key 0 ⟨#[]⟩ := by
 have d1 : decide ((64 : Int) < (key.size : Int)) = false := decide_eq_false (by omega)
 have d2 : decide (64 < key.size) = false := decide_eq_false (by omega)
 have d3 : ¬ (64 : Int) < (key.size : Int) := by omega
 go_enter Tryz.func143, Tryz.ntmps143
 go_wp2
 go_ret
 exact ⟨w.heap.size, rfl, ⟨blk_new w _, below_alloc (Below.refl _ _) _, Nat.le_refl _, fun h => absurd rfl h, hk⟩⟩
theorem below_ok {w W : World} {g pos p' : Nat} {key buf : ByteArray} {m v : Int} (hv : v = (belowF key m pos).1) (hp : p' = (belowF key m pos).2) (h : Gn w W g key pos buf) (h1 : 1 ≤ m) (h2 : m ≤ 2147483647) (hn : pos ≤ 900000) :
  Calls Tryz.prog 156 #[.pointer (some ⟨g, 0, none⟩), .int .i64 m] W fun e w' => e = .returned (.int .i64 v) ∧ KeepBut W w' g none ∧ ∃ buf', Gn w w' g key p' buf' := by
 obtain ⟨F, hF⟩ : ∃ F, F = tries key m 8 pos 0 := ⟨_, rfl⟩
 have HV : Aside0 (v = Int.tmod F.1 m ∧ p' = F.2) := ⟨by rw [hv, hF]; rfl, by rw [hp, hF]; rfl⟩
 have HM : Aside0 (prng_may.f m = some true) := ⟨by unfold prng_may.f; rw [if_pos (by omega), decide_eq_true h2]⟩
 obtain ⟨b, hb⟩ : ∃ b, b = bnd m := ⟨_, rfl⟩
 have HBD : Aside0 (prng_bound.f m = some b) := ⟨by unfold prng_bound.f; rw [if_neg (by omega), hb]; rfl⟩
 have HB := jo hb
 have HN := jo hn
 have H := jo h
 have HF := jo hF
 have m0 : (m == 0) = false := beq_eq_false_iff_ne.2 (by omega)
 have m1 : ¬ m = 0 := by omega
 have m2 : decide (m = 0) = false := decide_eq_false m1
 have HM1 := jo h1
 clear h hv hp hF hb hn h1 h2
 go_enter Tryz.func156, Tryz.ntmps156
 go_wp2_with (go_at_call 171; (with_reducible refine (prng_may.calls _ _ _ HM.out).mono ?_); rintro e w1 ⟨rfl, ⟨k, rfl⟩⟩)
 have HG := jo (H.out.below (pw_below_drewN (Below.refl _ _) k))
 have HK0 := jo (KeepBut.of_below (pw_below_drewN (Below.refl W.heap.size W) k) g none)
 generalize W.drewN k = W1 at HG HK0 ⊢
 clear H
 go_loopg [5, 13] 8 (fun gk v5 v13 wr => ∃ (i : Nat) (x : Int) (bf : ByteArray), v5 = .int .i64 x ∧ v13 = .int .i64 i ∧ Aside0 (i + gk = 8 ∧ tries key m gk (pos + i) x = F ∧ Gn w wr g key (pos + i) bf ∧ KeepBut W wr g none))
 case atStart => exact ⟨0, 0, buf, rfl, rfl, ⟨rfl, HF.out.symm, HG.out, HK0.out⟩⟩
 case round =>
  obtain ⟨i, x, bf, rfl, rfl, HA⟩ := hrel
  clear HG HK0
  by_cases h8 : i < 8
  ·have d1 : decide ((i : Int) < 8) = true := decide_eq_true (by omega)
   have d2 : decide (i < 8) = true := decide_eq_true h8
   have d3 : (i : Int) < 8 := by omega
   obtain ⟨gq, rfl⟩ : ∃ q, gk = q + 1 := ⟨gk - 1, by have := HA.out.1; omega⟩
   obtain ⟨y, hy⟩ : ∃ y, y = wordAt key (pos + i) := ⟨_, rfl⟩
   have HY := jo hy
   have hyb := wordAt_lt key (pos + i)
   rw [← hy] at hyb
   have wy : wrap64 y = y := by unfold wrap64; omega
   have wy2 : IntKind.i64.wrap y = y := (i64_w _).trans wy
   have HW := jo (word_ok hy HA.out.2.2.1 (by have := HN.out; omega))
   have HT : Aside0 (F = if y < b then (y, pos + i + 1) else tries key m gq (pos + i + 1) y) := ⟨by rw [← HA.out.2.1, HB.out, hy]; rfl⟩
   have HA1 := jo HA.out.1
   have HK1 := jo HA.out.2.2.2
   clear HA hy hyb
   by_cases hlt : y < b
   ·have e1 : decide (y < b) = true := decide_eq_true hlt
    have HT2 : Aside0 (F = (y, pos + i + 1)) := ⟨by rw [HT.out, if_pos hlt]⟩
    clear HT
    go_wp2_with (first | (go_at_call 118; (with_reducible refine HW.out.mono ?_); rintro e w1 ⟨rfl, hk2, bf2, hg2⟩; have HG2 := jo hg2; have HK2 := jo (HK1.out.trans hk2 (.inl rfl)); clear hg2 hk2) | (go_at_call 172; (with_reducible refine (prng_bound.calls _ _ _ HBD.out).mono ?_); rintro e w2 ⟨rfl, ⟨k2, rfl⟩⟩))
    go_ret
    exact ⟨by rw [HV.out.1, HT2.out]; rfl, HK2.out.trans (KeepBut.of_below (pw_below_drewN (Below.refl _ _) k2) g none) (.inl rfl), bf2, by rw [HV.out.2, HT2.out]; exact HG2.out.below (pw_below_drewN (Below.refl _ _) k2)⟩
   ·have e1 : decide (y < b) = false := decide_eq_false hlt
    have HT2 : Aside0 (F = tries key m gq (pos + (i + 1)) y) := ⟨by rw [HT.out, if_neg hlt]; rfl⟩
    clear HT
    have wi : wrap64 ((i : Int) + 1) = ((i + 1 : Nat) : Int) := by unfold wrap64; omega
    go_wp2_with (first | (go_at_call 118; (with_reducible refine HW.out.mono ?_); rintro e w1 ⟨rfl, hk2, bf2, hg2⟩; have HG2 := jo hg2; have HK2 := jo (HK1.out.trans hk2 (.inl rfl)); clear hg2 hk2) | (go_at_call 172; (with_reducible refine (prng_bound.calls _ _ _ HBD.out).mono ?_); rintro e w2 ⟨rfl, ⟨k2, rfl⟩⟩))
    go_roundg gq
    case measure => omega
    case rel => exact ⟨i + 1, y, bf2, rfl, rfl, ⟨by have := HA1.out; omega, HT2.out.symm, HG2.out.below (pw_below_drewN (Below.refl _ _) k2), HK2.out.trans (KeepBut.of_below (pw_below_drewN (Below.refl _ _) k2) g none) (.inl rfl)⟩⟩
  ·have d1 : decide ((i : Int) < 8) = false := decide_eq_false (by omega)
   have d2 : decide (i < 8) = false := decide_eq_false h8
   have d3 : ¬ (i : Int) < 8 := by omega
   obtain rfl : gk = 0 := by have := HA.out.1; omega
   have HF2 : Aside0 (F = (x, pos + i)) := ⟨HA.out.2.1.symm⟩
   have HG2 := jo HA.out.2.2
   clear HA
   go_wp2
   go_ret
   exact ⟨by rw [HV.out.1, HF2.out]; rfl, HG2.out.2, bf, by rw [HV.out.2, HF2.out]; exact HG2.out.1⟩
def pkN (key : ByteArray) (n p0 : Nat) : Nat → List Int × Nat
 | 0 => (ints n, p0)
 | i + 1 => (swp (pkN key n p0 i).1 i (i + (belowF key ((n : Int) - i) (pkN key n p0 i).2).1.toNat), (belowF key ((n : Int) - i) (pkN key n p0 i).2).2)
theorem pkN_length (key : ByteArray) (n p0 i : Nat) : (pkN key n p0 i).1.length = n := by
 induction i with
 | zero => simp [pkN, ints]
 | succ i ih => simp only [pkN, swp_length, ih]
theorem pkN_pos (key : ByteArray) {n p0 : Nat} (i : Nat) (h : i ≤ n) : (pkN key n p0 i).2 ≤ p0 + 8 * i := by
 induction i with
 | zero => exact Nat.le_refl _
 | succ i ih =>
  have := (belowF_spec key (m := (n : Int) - i) (pkN key n p0 i).2 (by omega)).2.2
  have := ih (by omega)
  show (belowF key ((n : Int) - i) (pkN key n p0 i).2).2 ≤ _
  omega
theorem pkN_perm (key : ByteArray) {n p0 : Nat} (i : Nat) (h : i ≤ n) : (pkN key n p0 i).1.Perm (ints n) := by
 induction i with
 | zero => exact List.Perm.refl _
 | succ i ih =>
  have hb := belowF_spec key (m := (n : Int) - i) (pkN key n p0 i).2 (by omega)
  exact (swp_perm (by rw [pkN_length]; omega) (by rw [pkN_length]; omega)).trans (ih (by omega))
theorem pkN_succ (key : ByteArray) (n p0 i : Nat) : pkN key n p0 (i + 1) = (swp (pkN key n p0 i).1 i (i + (belowF key ((n : Int) - i) (pkN key n p0 i).2).1.toNat), (belowF key ((n : Int) - i) (pkN key n p0 i).2).2) := rfl
theorem pkN_zero (key : ByteArray) (n p0 : Nat) : pkN key n p0 0 = (ints n, p0) := rfl
attribute [local irreducible] pkN belowF wordAt blkF tries swp
def fillI (n i : Nat) : List Int := ints i ++ List.replicate (n - i) 0
theorem fillI_set {n i : Nat} (h : i < n) : (fillI n i).set i (i : Int) = fillI n (i + 1) := by
 have h1 : (ints i).length = i := by simp [ints]
 obtain ⟨m, hm⟩ : ∃ m, n - i = m + 1 := ⟨n - i - 1, by omega⟩
 unfold fillI
 rw [List.set_append_right _ _ (by omega), h1, Nat.sub_self, hm, List.replicate_succ, List.set_cons_zero, show n - (i + 1) = m by omega]
 unfold ints
 rw [List.range_succ, List.map_append, List.append_assoc]
 rfl
theorem Gn.far {w W : World} {g n G i : Nat} {key buf : ByteArray} (h : Gn w W g key n buf) (hne : g ≠ G) (hG : w.heap.size ≤ G) (u : Value) : Gn w (W.setCell ⟨G, i, none⟩ u) g key n buf :=
 ⟨blk_far h.blk hne _, h.bel.setCell hG _, h.lo, h.buf, h.key⟩
theorem fillI_all (n : Nat) : fillI n n = ints n := by simp [fillI]
theorem pick_w {i j k v jn : Nat} (h1 : j < k) (h2 : k ≤ i) (h3 : i ≤ 4096) (h4 : jn = j + v) (h5 : jn < i) : wrap64 ((i : Int) - (j : Int)) = (i : Int) - (j : Int) ∧ wrap64 ((j : Int) + (v : Int)) = (jn : Int) ∧ wrap64 ((j : Int) + 1) = ((j + 1 : Nat) : Int) :=
 ⟨Deg.w64 (by omega) (by omega), (congrArg wrap64 (show (j : Int) + (v : Int) = (jn : Int) by omega)).trans (Deg.w64 (by omega) (by omega)), Deg.w64 (by omega) (by omega)⟩
theorem cut3 (G n c k : Nat) (h1 : k ≤ c) : ∀ W : World, (Instr.slice 44 (.slice (some ⟨G, 0, none⟩) n c) none (some (.int .i64 (k : Int))) (some (.int .i64 (k : Int)))).run Tryz.prog W = .ok (.slice (some ⟨G, 0, none⟩) k k) W := by
 intro W
 have hel : Tryz.prog.elem 44 = 3 := by simp [Program.elem, Tryz.underlying44]
 have hu : Tryz.prog.underlying 44 = some (.slice (Tryz.prog.elem 44)) := by rw [hel]; exact Tryz.underlying44
 obtain ⟨i3, hi3, hs3⟩ : ∃ i, Tryz.prog.info? 3 = some i ∧ i.size = 1 := by
  have := info3
  cases h : Tryz.prog.info? 3 with
  | none => rw [h] at this; simp at this
  | some i => rw [h] at this; simp only [Option.map_some, Option.some.injEq, Prod.mk.injEq] at this; exact ⟨i, rfl, this.2.1⟩
 have h2 : (k : Int) ≤ (c : Int) := Int.ofNat_le.2 h1
 rw [run_slice_any W 44 _ n c hu]
 simp [Instr.sliceBounds, run_sliceBound, sliced, h2, Result.andThen, sizeOf, typeInfo, hel, hi3, hs3, Addr.add]
theorem pick_ok {w W : World} {g n k p0 : Nat} {key buf : ByteArray} (h : Gn w W g key p0 buf) (hp0 : p0 ≤ 8) (h1 : 1 ≤ k) (h2 : k ≤ n) (hn : n ≤ 4096) {L : List Int} (hL : L = (pkN key n p0 k).1) :
  Calls Tryz.prog 119 #[.pointer (some ⟨g, 0, none⟩), .int .i64 n, .int .i64 k] W fun e w' => ∃ G c, e = .returned (.slice (some ⟨G, 0, none⟩) k k) ∧ Kd.R (Kd.int .i64) 3 w' w.heap.size (fun _ => True) (.slice (some ⟨G, 0, none⟩) n c) L ∧ Below w.heap.size w w' := by
 have d1 : decide ((n : Int) < 0) = false := decide_eq_false (by omega)
 have d2 : decide ((4096 : Int) < (n : Int)) = false := decide_eq_false (by omega)
 have d2' : decide (4096 < n) = false := decide_eq_false (by omega)
 have d3 : decide ((k : Int) < 0) = false := decide_eq_false (by omega)
 have d4 : decide ((n : Int) < (k : Int)) = false := decide_eq_false (by omega)
 have d4' : decide (n < k) = false := decide_eq_false (by omega)
 have e1 : ¬ (n : Int) < 0 := by omega
 have e2 : ¬ (4096 : Int) < (n : Int) := by omega
 have e3 : ¬ (k : Int) < 0 := by omega
 have e4 : ¬ (n : Int) < (k : Int) := by omega
 have H := jo h
 have HB := jo (And.intro h1 (And.intro h2 (And.intro hn hp0)))
 have HL := jo hL
 clear h h1 h2 hn hL hp0
 go_enter Tryz.func119, Tryz.ntmps119
 go_wp2_with ((with_reducible refine gate_dst (N := 31) rfl ?_); refine Kd.R_make (Kd.int .i64) (w0 := w) w.heap.size 3 rfl (N := 31) rfl 44 _ _ rfl (n : Int) rfl rfl Tryz.underlying44 (.int .i64 0) 8 info3 rfl (by decide) (by omega) 0 (ok := fun _ => True) (okp := fun _ => True) rfl (fun _ hk => hk) trivial (by omega) (by have := HB.out; rw [Int.toNat_natCast]; omega) H.out.bel H.out.bel.size ?_; intro v31 w31 ho hb hg hat; rw [Int.toNat_natCast] at ho; have HO := jo ho; have HBL := jo hb; have HG1 := jo (H.out.below (below_grown0 hg)); clear ho hb hg hat)
 obtain ⟨G, c, ev, hGb, hGl, _⟩ := Kd.R_form HO.out (by rw [List.length_replicate]; have := HB.out; omega)
 rw [List.length_replicate] at ev
 subst ev
 have hne : g ≠ G := fun e => by
  have := Kd.R_ne HO.out HG1.out.blk (by decide)
  rw [e] at this
  exact this rfl
 have HQ := jo (And.intro hne hGb)
 clear hne hGb hGl H HBL
 go_loopg [8, 33] n (fun gk v8 v33 wr => ∃ i : Nat, v33 = .int .i64 i ∧ Aside0 (i + gk = n ∧ Kd.R (Kd.int .i64) 3 wr w.heap.size (fun _ => True) (.slice (some ⟨G, 0, none⟩) n c) (fillI n i) ∧ Gn w wr g key p0 buf))
 case atStart => exact ⟨0, rfl, ⟨by omega, HO.out, HG1.out⟩⟩
 case round =>
  obtain ⟨i, rfl, HA⟩ := hrel
  clear HO HG1
  by_cases hlt : i < n
  ·have a1 : decide ((i : Int) < (n : Int)) = true := decide_eq_true (by omega)
   have a2 : decide (i < n) = true := decide_eq_true hlt
   have a3 : (i : Int) < (n : Int) := by omega
   obtain ⟨gq, rfl⟩ : ∃ q, gk = q + 1 := ⟨gk - 1, by have := HA.out.1; omega⟩
   obtain ⟨hc, hf⟩ := Kd.R_celln 0 HA.out.2.1 (i : Int) (by omega) a3
   have hp := Kd.R_putn HA.out.2.1 (i : Int) (i : Int)
   rw [Int.toNat_natCast] at hc hf hp
   rw [fillI_set hlt] at hp
   obtain ⟨wn, hwn⟩ : ∃ wn, wn = wr.setCell ⟨G, i, none⟩ (.int .i64 (i : Int)) := ⟨_, rfl⟩
   have HN2 : Aside0 (i + 1 + gq = n ∧ Kd.R (Kd.int .i64) 3 wn w.heap.size (fun _ => True) (.slice (some ⟨G, 0, none⟩) n c) (fillI n (i + 1)) ∧ Gn w wn g key p0 buf) := ⟨by have := HA.out.1; omega, by rw [hwn]; exact hp, by rw [hwn]; exact HA.out.2.2.far HQ.out.1 HQ.out.2 _⟩
   have HWN := jo hwn
   have wi : wrap64 ((i : Int) + 1) = ((i + 1 : Nat) : Int) := by unfold wrap64; have := HB.out; omega
   generalize rdOf 0 (fillI n i) (i : Int) = z at hc
   clear HA hp hwn
   go_wp2_with ((with_reducible refine gate_store (t := 3) (p := 39) rfl ?_); refine store_event (t := 3) (p := 39) (v := ?vo) (w1 := wn) ?hg ?ho ?hn ?hr ?_; (case ho => rfl); (case hg => rfl); (case hn => rfl); (case hr => (rw [HWN.out]; first | (go_simp; done) | (go_simp; rfl))); intro wm hw; subst hw; clear hc hf)
   go_roundg gq
   case measure => omega
   case rel => exact ⟨i + 1, rfl, HN2⟩
  ·have a1 : decide ((i : Int) < (n : Int)) = false := decide_eq_false (by omega)
   have a2 : decide (i < n) = false := decide_eq_false hlt
   have a3 : ¬ (i : Int) < (n : Int) := by omega
   have hi : i = n := by have := HA.out.1; omega
   subst hi
   have HO : Aside0 (Kd.R (Kd.int .i64) 3 wr w.heap.size (fun _ => True) (.slice (some ⟨G, 0, none⟩) i c) (ints i)) := ⟨by have := HA.out.2.1; rw [fillI_all] at this; exact this⟩
   have HG1 := jo HA.out.2.2
   clear HA
   go_wp2
   go_loopg [9, 10, 42] k (fun gk v9 v10 v42 wr => ∃ (j : Nat) (bf : ByteArray), v42 = .int .i64 j ∧ Aside0 (j + gk = k ∧ Kd.R (Kd.int .i64) 3 wr w.heap.size (fun _ => True) (.slice (some ⟨G, 0, none⟩) i c) (pkN key i p0 j).1 ∧ Gn w wr g key (pkN key i p0 j).2 bf))
   case atStart => exact ⟨0, buf, rfl, ⟨by omega, by rw [pkN_zero]; exact HO.out, by rw [pkN_zero]; exact HG1.out⟩⟩
   case round =>
    obtain ⟨j, bf, rfl, HA⟩ := hrel
    clear HO HG1
    by_cases hjk : j < k
    ·have a4 : decide ((j : Int) < (k : Int)) = true := decide_eq_true (by omega)
     have a5 : decide (j < k) = true := decide_eq_true hjk
     have a6 : (j : Int) < (k : Int) := by omega
     obtain ⟨gq, rfl⟩ : ∃ q, gk = q + 1 := ⟨gk - 1, by have := HA.out.1; omega⟩
     have hjb : (1 : Int) ≤ (i : Int) - j := by have := HB.out; omega
     have hpos := pkN_pos key (n := i) (p0 := p0) j (by have := HB.out; omega)
     have hll : (pkN key i p0 j).1.length = i := pkN_length _ _ _ _
     have hstep := pkN_succ key i p0 j
     have hbs := belowF_spec key (pkN key i p0 j).2 hjb
     obtain ⟨nx, hnx⟩ : ∃ nx, nx = pkN key i p0 (j + 1) := ⟨_, rfl⟩
     rw [← hnx] at hstep
     have HNX := jo hnx
     clear hnx
     generalize pkN key i p0 j = pr at *
     obtain ⟨l, q⟩ := pr
     simp only at hpos hll hstep hbs
     obtain ⟨bb, hbb⟩ : ∃ bb, bb = belowF key ((i : Int) - j) q := ⟨_, rfl⟩
     rw [← hbb] at hstep hbs
     obtain ⟨bv, q2⟩ := bb
     simp only at hstep hbs
     obtain ⟨v, rfl⟩ := Int.eq_ofNat_of_zero_le hbs.1
     rw [Int.toNat_natCast] at hstep
     obtain ⟨jn, hjn⟩ : ∃ jn, jn = j + v := ⟨_, rfl⟩
     rw [← hjn] at hstep
     have hjl : jn < i := by have := hbs.2.1; omega
     have hv : ((v : Nat) : Int) = (belowF key ((i : Int) - j) q).1 := by rw [← hbb]
     have hq2 : q2 = (belowF key ((i : Int) - j) q).2 := by rw [← hbb]
     have HBW := jo (below_ok (v := (v : Int)) (p' := q2) hv hq2 HA.out.2.2 hjb (by have := HB.out.2.2; clear hv hq2 hbb; omega) (by have := HB.out.2.2; clear hv hq2 hbb; omega))
     clear hv hq2 hbb
     have HST := jo hstep
     have HAA := jo HA.out
     have HJ := jo (And.intro hjk (And.intro hjl hll))
     obtain ⟨w1, w2, w3⟩ : wrap64 ((i : Int) - (j : Int)) = (i : Int) - (j : Int) ∧ wrap64 ((j : Int) + (v : Int)) = (jn : Int) ∧ wrap64 ((j : Int) + 1) = ((j + 1 : Nat) : Int) := pick_w hjk HB.out.2.1 HB.out.2.2.1 hjn hjl
     have hji : j < i := Nat.lt_of_lt_of_le hjk HB.out.2.1
     have b3 : (j : Int) < (i : Int) := Int.ofNat_lt.2 hji
     have b4 : (jn : Int) < (i : Int) := Int.ofNat_lt.2 hjl
     have b1 : decide ((j : Int) < (i : Int)) = true := decide_eq_true b3
     have b2 : decide ((jn : Int) < (i : Int)) = true := decide_eq_true b4
     clear HA hbs hpos hjn hstep hll hjb
     go_wp2_with (go_at_call 156; (with_reducible refine HBW.out.mono ?_); rintro e w4 ⟨rfl, hk4, bf4, hg4⟩; have HG4 := jo hg4; have HR4 := jo (Kd.R_keep (Kd.R_mono (Kd.R_tight rfl HAA.out.2.1) (ok' := fun kk => kk ≠ g) (fun kk hkk => by (injection hkk with e; rw [e]; exact HQ.out.1.symm))) hk4 (fun kk h => h)); clear hk4 hg4)
     obtain ⟨hcy, hfy⟩ := Kd.R_celln 0 HR4.out (jn : Int) (Int.natCast_nonneg _) b4
     obtain ⟨hcx, hfx⟩ := Kd.R_celln 0 HR4.out (j : Int) (Int.natCast_nonneg _) b3
     rw [Int.toNat_natCast] at hcy hcx hfy hfx
     obtain ⟨y, hy⟩ : ∃ y, y = rdOf 0 l (jn : Int) := ⟨_, rfl⟩
     obtain ⟨x, hx⟩ : ∃ x, x = rdOf 0 l (j : Int) := ⟨_, rfl⟩
     rw [← hy] at hcy
     rw [← hx] at hcx
     have hp1 := Kd.R_putn (show Kd.R (Kd.int .i64) 3 w4.drew w.heap.size _ (.slice (some ⟨G, 0, none⟩) i c) l from Kd.R_drew HR4.out) (j : Int) y
     obtain ⟨hc5, hf5⟩ := Kd.R_celln 0 hp1 (jn : Int) (Int.natCast_nonneg _) b4
     have hp2 := Kd.R_putn hp1 (jn : Int) x
     rw [Int.toNat_natCast] at hp1 hp2 hc5 hf5
     rw [Int.toNat_natCast] at hp2 hc5 hf5
     have hsw : (l.set j y).set jn x = swp l j jn := by unfold swp rd; rw [hy, hx]; rfl
     rw [hsw] at hp2
     have HP := jo hp2
     generalize rdOf 0 (l.set j y) (jn : Int) = zz at hc5
     have q0 : w4.drew.cell? ⟨G, jn, none⟩ = some (.int .i64 y) := hcy
     have q1 : w4.drew.cell? ⟨G, j, none⟩ = some (.int .i64 x) := hcx
     have q2 : w4.drew.frozen? ⟨G, j, none⟩ = false := hfx
     have q3 : (w4.setCell ⟨G, j, none⟩ (.int .i64 y)).cell? ⟨G, jn, none⟩ = some (.int .i64 zz) := hc5
     have q4 : w4.frozen? ⟨G, jn, none⟩ = false := hfy
     clear hp1 hp2 hsw hy hx hcy hcx hfy hfx
     go_wp2
     refine st_ (S := fun w' => w'.cell? ⟨G, jn, none⟩ = some (.int .i64 y) ∧ w'.cell? ⟨G, j, none⟩ = some (.int .i64 x)) (ds := [13, 15]) 16 ⟨q0, q1⟩ (fun hHeld => ?_)
     refine td_ [0, 1, 2, 3, 4, 5, 6, 8, 9, 10] ?_
     repeat (first | refine pp_ ?_ | refine po_ ?_)
     refine tn_ ?_
     refine td_ [7, 11] ?_
     repeat (refine pt_ hHeld ?_)
     refine tn_ ?_
     refine td_ [12] ?_
     repeat (first | refine pp_ ?_ | refine po_ ?_)
     refine tn_ ?_
     refine la_ 13 (fun K hK => ?_)
     refine skip_ (w1 := w4.drew.setCell ⟨G, j, none⟩ (.int .i64 y)) (by rfl) rfl ?_ ?_
     ·go_simp
      first | done | rfl
     refine hK.out _ _ ?_
     clear hK K
     refine td_ [14] ?_
     repeat (first | refine pp_ ?_ | refine po_ ?_)
     refine tn_ ?_
     refine la_ 15 (fun K hK => ?_)
     refine skip_ (w1 := (w4.drew.setCell ⟨G, j, none⟩ (.int .i64 y)).setCell ⟨G, jn, none⟩ (.int .i64 x)) (by rfl) rfl ?_ ?_
     ·go_simp
      first | done | rfl
     refine hK.out _ _ ?_
     clear hK K
     refine dn_ ?_
     clear q0 q1 q2 q3 q4 hc5 hf5 b1 b2 b3 b4 w1 w2
     go_wp2
     go_roundg gq
     case measure => exact Nat.lt_succ_self _
     case rel =>
      have hg6 := (HG4.out.below (below_drew (Below.refl _ _))).far (i := j) HQ.out.1 HQ.out.2 (.int .i64 y)
      have hg7 := hg6.far (i := jn) HQ.out.1 HQ.out.2 (.int .i64 x)
      refine ⟨j + 1, bf4, rfl, ⟨by have := HAA.out.1; clear HP; omega, ?_, ?_⟩⟩
      ·rw [← HNX.out, HST.out]
       exact Kd.R_mono HP.out (fun _ _ => trivial)
      ·rw [← HNX.out, HST.out]
       exact hg7
    ·have a4 : decide ((j : Int) < (k : Int)) = false := decide_eq_false (by omega)
     have a5 : decide (j < k) = false := decide_eq_false hjk
     have a6 : ¬ (j : Int) < (k : Int) := by omega
     have hj : j = k := by have := HA.out.1; omega
     subst hj
     have HF := jo HA.out.2
     have hcap := (Kd.R_reads' HF.out.1).2.1
     have h3 := cut3 G i c j (Nat.le_trans HB.out.2.1 hcap)
     clear HA hjk hcap
     go_wp2
     go_ret
     exact ⟨G, rfl, ⟨c, by rw [HL.out]; exact HF.out.1⟩, HF.out.2.bel⟩
end Go.Proofs.YtjmooillogojkaaGreat.Q
