/- gauss.eqns and gauss.Solve walked; Printed by a changed copy of a printer, shortened by a program: what these functions answer: block_Xor inact_both inact_add. No condition. -/
import Derived.Test.YtjmooillogojkaaGreatM18
import Derived.Test.YtjmooillogojkaaGreatM19
import Derived.Test.YtjmooillogojkaaGreatM16
set_option maxHeartbeats 8000000
set_option maxRecDepth 100000
set_option linter.unusedVariables false
set_option linter.unusedSimpArgs false
namespace Go.Proofs.YtjmooillogojkaaGreat.Q
open Go.RowKit Go.Proofs.YtjmooillogojkaaGreatW.PrintWords Go.Proofs.YtjmooillogojkaaGreatW.PrintLast Go.Proofs.YtjmooillogojkaaGreatW.PrintMore
open Go.Proofs.YtjmooillogojkaaGreat Lin
section
variable {P : Program} {ops : Array Oper} {rest : List Oper} {o : Oper} {a : Act} {Q : Exit → Act → World → Prop} {α : Type}
theorem OR_append {R : α → List Value → Prop} {w0 W : World} (base size : Nat) (hgd : o.guard = none) (s x : Operand) (t e : TypeId) (z : Value) (bytes : Nat)
  (ho : o.op = .call { callee := .builtin .append, args := #[s, x], argTypes := #[t, t] })
  (ht : P.underlying t = some (.slice e)) (hinfo : (P.info? e).map (fun i => (i.zero, i.size, i.bytes)) = some (some z, size, bytes)) (hz : z.cells.size = size) (hs0 : 0 < size) (hb0 : 0 < bytes)
  (v : Value) (xs : List α) (p : α) (cs : List Value) (hs : a.eval s = v) (hx : a.eval x = .slice (some ⟨W.heap.size, 0, none⟩) 1 1) (hp : R p cs) (hcl : cs.length = size) (h1 : ∀ u ∈ cs, u.oneCell' = true)
  (HO : OwnRow R e size W base v xs) (HB : Below base w0 W) (hbase : base ≤ W.heap.size) (hl : (xs.length + 1) * bytes ≤ 140737488355328)
  (h : ∀ v1 w1, OwnRow R e size w1 base v1 (xs ++ [p]) → Below base w0 w1 → W.grownBy w1 v.ownBlock → (v1.ownBlock = v.ownBlock ∨ ∃ b, v1.ownBlock = some b ∧ W.heap.size ≤ b) → wpList P ops Q rest (a.put o.dst v1) w1) :
  wpList P ops Q (o :: rest) a (W.alloc (.cells cs.toArray e)) := by
 obtain ⟨inner, hown, hr⟩ := HO
 refine print_append_cells base hgd s x t e z size bytes ho ht hinfo hz hs0 hb0 v xs.length inner cs hs hx hcl h1 hown HB hbase hl ?_
 intro v1 w1 hown1 hb1 hg1 hat1
 exact h v1 w1 ⟨_, by rw [List.length_append]; exact hown1, hr.snoc hp hcl⟩ hb1 hg1 hat1
end
theorem OR_below {α : Type} {R : α → List Value → Prop} {e size base : Nat} {w w1 : World} {v : Value} {xs : List α} (h : OwnRow R e size w base v xs) (hb : Below w.heap.size w w1) : OwnRow R e size w1 base v xs := by
 obtain ⟨inner, ho, hr⟩ := h
 exact ⟨inner, own_move ho (fun k hk => hb.block k (own_lt ho k hk)), hr⟩
theorem OR_slice {α : Type} {R : α → List Value → Prop} {e size base : Nat} {w : World} {v : Value} {xs : List α} (h : OwnRow R e size w base v xs) : ∃ A c, v = .slice A xs.length c := by
 obtain ⟨A, c, h1, _⟩ := OwnRow.reads h
 exact ⟨A, c, h1⟩
theorem lens4 {k : Nat} (h : k ≤ 100000) : (k + 1) * 24 ≤ 140737488355328 := by omega
def toSide (x : S62) : Side := (ofN x.f0, x.f1)
theorem zero_spec {n : Nat} (h1 : 1 ≤ n) (h2 : n ≤ 64) : block_Zero.f (n : Int) = some (zeros n) := by
 unfold block_Zero.f
 rw [bools, decide_eq_true (show 1 ≤ (n : Int) ∧ (n : Int) ≤ 64 by omega)]
 simp only [Option.bind_some, if_true]
 rw [repeat_zeros n (by omega)]
 rfl
theorem geqns_ok {A : Option Addr} {c n sz : Nat} {l : List S62} (w : World) (hr : Kd.C k62 w A l.length l) (hc : l.length ≤ c) (h : rowsOk n (l.map (·.f0))) (h1 : 1 ≤ sz) (h2 : sz ≤ 64) (hd : ∀ x ∈ l, x.f1.size = sz) :
  Calls Tryz.prog 17 #[.int .i64 n, .int .i64 sz, .slice A l.length c] w fun e w' => ∃ v, e = .returned (.tuple #[v, .bool true]) ∧ OV w' w.heap.size v (l.map toSide) ∧ Below w.heap.size w w' := by
 have HR := jo hr
 have H := jo h
 have hl400 : l.length ≤ 400 := by have := h.2.2.1; rwa [List.length_map] at this
 have HD := jo hd
 have HZ := jo (zero_spec h1 h2)
 have hmx := hr.2.1
 have HS := jo (And.intro h1 h2)
 clear hr h hd
 go_enter Tryz.func17, Tryz.ntmps17
 go_wp2
 go_loopg [8, 11, 16] l.length (fun gk v8 v11 v16 wr => ∃ k : Nat, v16 = .int .i64 k ∧ Aside0 (k + gk = l.length ∧ OwnRow ((Kd.slice 3 (Kd.int .i64)).K w) 44 1 wr w.heap.size v8 ((l.take k).map (·.f0)) ∧ Below w.heap.size w wr))
 case atStart => exact ⟨0, rfl, ⟨by omega, OwnRow.none_ _ _ _ _ _, Below.refl _ _⟩⟩
 case round =>
  obtain ⟨k, rfl, HA⟩ := hrel
  by_cases hlt : k < l.length
  ·have d1 : decide ((k : Int) < (l.length : Int)) = true := decide_eq_true (by omega)
   have d2 : decide (k < l.length) = true := decide_eq_true hlt
   have hkm : k ≤ 100000 := by omega
   have d400 : decide ((400 : Int) < (k : Int)) = false := decide_eq_false (by omega)
   have d400' : decide (400 < k) = false := decide_eq_false (by omega)
   obtain ⟨gq, rfl⟩ : ∃ q, gk = q + 1 := ⟨gk - 1, by have := HA.out.1; omega⟩
   obtain ⟨ad, A0, c0, rfl, hw1, hw2, hl0, hg0⟩ := at_T62 HR.out (k : Int) (by omega) (by omega)
   have hx : rd_T62 l (k : Int) = l[k] := by
    unfold rd_T62
    rw [List.getD_eq_getElem?_getD, Int.toNat_natCast, List.getElem?_eq_getElem hlt]
    rfl
   rw [hx, Int.toNat_natCast] at hw1 hw2
   rw [hx] at hl0 hg0
   have htk : (l.take (k + 1)).map (·.f0) = (l.take k).map (·.f0) ++ [l[k].f0] := by rw [List.take_succ_eq_append_getElem hlt, List.map_append]; rfl
   have hsz := HD.out l[k] (List.getElem_mem hlt)
   have hlk : ((l.take k).map (·.f0)).length = k := by rw [List.length_map, List.length_take]; omega
   obtain ⟨A8, c8, e8⟩ := OR_slice HA.out.2.1
   rw [hlk] at e8
   subst e8
   have hcell := pw_cell_below HA.out.2.2 hw1
   have hcell2 := pw_cell_below HA.out.2.2 hw2
   obtain ⟨y, hy⟩ : ∃ y, y = l[k] := ⟨_, rfl⟩
   rw [← hy] at hcell hcell2 hl0 hg0 htk hsz
   obtain ⟨yi, yd⟩ := y
   simp only at hcell hcell2 hl0 hg0 htk hsz
   have HIS := jo (is_ok (s := yd) (n := sz) (by omega) (by omega) (by rw [hsz]))
   have HT := jo htk
   have HK : Aside0 ((Kd.slice 3 (Kd.int .i64)).K w yi [.slice A0 yi.length c0]) := ⟨⟨A0, c0, rfl, hl0, hg0⟩⟩
   have HL := jo hlk
   clear hy htk hw1 hw2 hx hl0 hg0 hsz
   go_wp2_with (first | (go_at_call 47; (with_reducible refine (block_Is.calls _ _ true _ HIS.out).mono ?_); rintro e w1 ⟨rfl, ⟨m, rfl⟩⟩; have HO1 := jo (OR_below HA.out.2.1 (pw_below_drewN (below_alloc (Below.refl wr.heap.size wr) (.cells #[.slice A0 yi.length c0, .string yd] 62)) m)); have HB1 := jo (pw_below_drewN (below_alloc HA.out.2.2 (.cells #[.slice A0 yi.length c0, .string yd] 62)) m); have f0 : ((wr.alloc (.cells #[.slice A0 yi.length c0, .string yd] 62)).drewN m).cell? ⟨wr.heap.size, 0, none⟩ = some (.slice A0 yi.length c0) := blk_cell (blk_drewN (blk_new wr _) m) 0; generalize (wr.alloc (.cells #[.slice A0 yi.length c0, .string yd] 62)).drewN m = W1 at HO1 HB1 f0 ⊢) | ((with_reducible refine gate_builtin (b := .append) (xs := #[.tmp 30, .tmp 33]) rfl ?_); at_builtin; refine OR_append (w0 := w) w.heap.size 1 rfl (.tmp 30) (.tmp 33) 38 44 _ 24 rfl Tryz.underlying38 info44 rfl (by decide) (by decide) (.slice A8 k c8) ((l.take k).map (·.f0)) yi [.slice A0 yi.length c0] rfl rfl HK.out rfl ?a1 HO1.out HB1.out HB1.out.size ?a2 ?_; (case a1 => exact (fun x hx => by rw [List.mem_singleton.1 hx]; rfl)); (case a2 => rw [HL.out]; exact lens4 hkm); intro v5 w6 ho hb hg hat; have R5 := jo (And.intro ho hb); clear ho hb hg hat))
   go_roundg gq
   case measure => omega
   case rel => exact ⟨k + 1, rfl, ⟨by have := HA.out.1; clear R5; omega, by rw [HT.out]; exact R5.out.1, R5.out.2⟩⟩
  ·have d1 : decide ((k : Int) < (l.length : Int)) = false := decide_eq_false (by omega)
   have d2 : decide (k < l.length) = false := decide_eq_false hlt
   have e1 : k = l.length := by have := HA.out.1; omega
   have ha := HA.out.2
   rw [e1, List.take_length] at ha
   obtain ⟨A8, c8, e8, hl8, hr8⟩ := OwnRow.reads ha.1
   have hC8 : ∀ W, Below wr.heap.size wr W → Kd.C (Kd.slice 3 (Kd.int .i64)) W A8 (l.map (·.f0)).length (l.map (·.f0)) := fun W hb => ReadsRow.imp_ hr8 hb (fun _ _ hp => (Kd.slice 3 (Kd.int .i64)).K_below (below_step ha.2 hb) hp)
   have HC8 := jo hC8
   have HB8 := jo ha.2
   have hl8' : (l.map (·.f0)).length ≤ c8 := hl8
   have HM := jo (fun W (hb : Below wr.heap.size wr W) => may_ok W (HC8.out W hb) hl8' H.out)
   have hlm : (l.map (·.f0)).length = l.length := List.length_map _
   rw [hlm] at e8
   clear ha hC8 hr8 hl8
   subst e8
   rw [hlm] at HM
   have hnz := nonempty (x := zeros sz) (by rw [zeros_size]; exact h1)
   clear HA
   go_wp2_with (first | (go_at_call 48; (with_reducible refine (HM.out _ (Below.refl _ _)).mono ?_); rintro e w2 ⟨rfl, hb2⟩; have HB2 := jo hb2; clear hb2) | (go_at_call 21; (with_reducible refine (block_Zero.calls _ _ _ HZ.out).mono ?_); rintro e w3 ⟨rfl, hb3⟩; have HB3 := jo (below_step HB2.out hb3); clear hb3 HB2))
   have HCW := jo (fun W (hb : Below w3.heap.size w3 W) => HC8.out W (below_step HB3.out hb))
   have HBW := jo (below_step HB8.out HB3.out)
   clear HC8 HB8 HB3 HM
   go_loopg [9, 12, 13, 47] l.length (fun gk v9 v12 v13 v47 wr => ∃ j : Nat, v47 = .int .i64 j ∧ Aside0 (j + gk = l.length ∧ OV wr w3.heap.size v9 ((l.take j).map toSide) ∧ Below w3.heap.size w3 wr))
   case atStart => exact ⟨0, rfl, ⟨by omega, OV.nil _ _, Below.refl _ _⟩⟩
   case round =>
    obtain ⟨j, rfl, HA⟩ := hrel
    by_cases hlt : j < l.length
    ·have d1 : decide ((j : Int) < (l.length : Int)) = true := decide_eq_true (by omega)
     have d2 : decide (j < l.length) = true := decide_eq_true hlt
     have d3 : (j : Int) < (l.length : Int) := by omega
     have hjm : j ≤ 100000 := by omega
     obtain ⟨gq, rfl⟩ : ∃ q, gk = q + 1 := ⟨gk - 1, by have := HA.out.1; omega⟩
     obtain ⟨ad, A0, c0, rfl, hw1, hw2, hl0, hg0⟩ := at_T62 (Kd.C_below HR.out (below_step HBW.out HA.out.2.2)) (j : Int) (by omega) (by omega)
     have hx : rd_T62 l (j : Int) = l[j] := by
      unfold rd_T62
      rw [List.getD_eq_getElem?_getD, Int.toNat_natCast, List.getElem?_eq_getElem hlt]
      rfl
     rw [hx, Int.toNat_natCast] at hw2
     obtain ⟨ad8, A1, k1, rfl, hw3, hl1, hg1⟩ := at_L3 (HCW.out _ HA.out.2.2) (j : Int) (by omega) (by rw [hlm]; omega)
     have hx3 : rd_L3 (l.map (·.f0)) (j : Int) = l[j].f0 := by
      unfold rd_L3
      rw [List.getD_eq_getElem?_getD, Int.toNat_natCast, List.getElem?_map, List.getElem?_eq_getElem hlt]
      rfl
     rw [hx3] at hw3 hl1 hg1
     rw [Int.toNat_natCast] at hw3
     have htk : (l.take (j + 1)).map toSide = (l.take j).map toSide ++ [toSide l[j]] := by rw [List.take_succ_eq_append_getElem hlt, List.map_append]; rfl
     have hro := H.out.2.2.2 l[j].f0 (List.mem_map_of_mem (List.getElem_mem hlt))
     have hlk : ((l.take j).map toSide).length = j := by rw [List.length_map, List.length_take]; omega
     obtain ⟨y, hy⟩ : ∃ y, y = l[j] := ⟨_, rfl⟩
     rw [← hy] at hw2 hw3 hl1 hg1 htk hro
     obtain ⟨yi, yd⟩ := y
     simp only at hw2 hw3 hl1 hg1 htk hro
     have hbb : ∀ i ∈ yi, 0 ≤ i ∧ i < 192 := by
      intro i hi
      obtain ⟨q, hq, rfl⟩ := List.getElem_of_mem hi
      have := hro q hq
      have := H.out.2.1
      exact ⟨(hro q hq).1, by have := (hro q hq).2.1; omega⟩
     have HOF := jo (fun W (hb : Below wr.heap.size wr W) => of_ok W (Kd.C_below hg1 hb) hl1 hbb)
     have HT := jo htk
     have HL := jo hlk
     have HV := jo HA.out.2.1
     have HB9 := jo HA.out.2.2
     have hd2 : wr.drew.cell? ⟨(ad.add (j * 2)).block, (ad.add (j * 2)).off + 1, none⟩ = some (.string yd) := hw2
     clear hx hw1 hw2 hl0 hg0 hx3 hl1 hg1 htk hro hy hbb hlk
     unfold rowV rowA at HOF
     go_wp2
     refine st_ (S := fun w' => w'.cell? ⟨(ad.add (j * 2)).block, (ad.add (j * 2)).off + 1, none⟩ = some (.string yd)) (ds := [10]) 12 (hd2) (fun hHeld => ?_)
     refine td_ [0, 1, 3, 4, 5, 6] ?_
     repeat (first | refine pp_ ?_ | refine po_ ?_)
     refine tn_ ?_
     refine td_ [7] ?_
     repeat (refine pt_ hHeld ?_)
     refine tn_ ?_
     refine on_ 2 (fun K hK => ?_)
     refine gs_ Tryz.func49 #[.slice A1 yi.length k1] ?_
     with_reducible refine ((HOF.out _ (below_drew (Below.refl _ _)))).mono ?_
     rintro e w6 ⟨rfl, hb6⟩
     refine ⟨_, rfl, ?_⟩
     have HB6 := jo (below_step (below_drew (Below.refl wr.heap.size wr)) hb6)
     have z0 := pw_cell_below hb6 hHeld
     clear hb6
     refine hK.out _ _ (z0) (fun hHeld => ?_)
     clear hK K
     refine nm_ (some 54) ?_
     refine td_ [8] ?_
     repeat (first | refine pp_ ?_ | refine po_ ?_)
     refine tn_ ?_
     refine on_ 9 (fun K hK => ?_)
     refine value_ (w1 := w6.alloc (.cells (sideC (toSide ⟨yi, yd⟩)).toArray 74)) (v := .slice (some ⟨w6.heap.size, 0, none⟩) 1 1) rfl rfl ?_ ?_
     ·go_simp
      first | done | rfl
     refine hK.out _ _ ((pw_cell_below (below_alloc (Below.refl _ _) _) hHeld)) (fun hHeld => ?_)
     clear hK K
     refine nm_ (some 61) ?_
     refine la_ 10 (fun K hK => ?_)
     refine step_append_cells (w0 := w3) w3.heap.size rfl (.tmp 52) (.tmp 61) 64 74 _ 4 40 rfl Tryz.underlying64 info74 rfl (by decide) (by decide) u9 ((l.take j).map toSide).length (cellsL ((l.take j).map toSide)) (sideC (toSide ⟨yi, yd⟩)) rfl rfl rfl (fun x hx => cellsL_one [toSide ⟨yi, yd⟩] x (by simpa [cellsL] using hx)) (HV.out.below HB6.out) (below_step HB9.out HB6.out) (below_step HB9.out HB6.out).size (by rw [HL.out]; exact lens3 hjm) ?_
     intro v1 w7 ho hb hg hat
     have R5 := jo (And.intro (ov_snoc ho) hb)
     clear ho hb hg hat
     refine hK.out _ _ ?_
     clear hK K
     refine nm_ (some 62) ?_
     refine td_ [11] ?_
     repeat (first | refine pp_ ?_ | refine po_ ?_)
     refine tn_ ?_
     refine dn_ ?_
     go_wp2
     go_roundg gq
     case measure => omega
     case rel => exact ⟨j + 1, rfl, ⟨by have := HA.out.1; clear R5; omega, by rw [HT.out]; exact R5.out.1, R5.out.2⟩⟩
    ·have d1 : decide ((j : Int) < (l.length : Int)) = false := decide_eq_false (by omega)
     have d2 : decide (j < l.length) = false := decide_eq_false hlt
     have e1 : j = l.length := by have := HA.out.1; omega
     have ha := HA.out.2
     rw [e1, List.take_length] at ha
     have HF : Aside0 (OV wr w.heap.size u9 (l.map toSide) ∧ Below w.heap.size w wr) := ⟨own_weaken ha.1 HBW.out.size, below_step HBW.out ha.2⟩
     clear HA ha
     go_wp2
     go_ret2
     exact ⟨_, rfl, HF.out.1, HF.out.2⟩
end Go.Proofs.YtjmooillogojkaaGreat.Q
namespace Go.Proofs.YtjmooillogojkaaGreat.Q
open Go.RowKit Go.Proofs.YtjmooillogojkaaGreatW.PrintWords Go.Proofs.YtjmooillogojkaaGreatW.PrintLast Go.Proofs.YtjmooillogojkaaGreatW.PrintMore
open Go.Proofs.YtjmooillogojkaaGreat
def block_Xor.f (a0 : ByteArray) (a1 : ByteArray) : Option (ByteArray × Int) := if a0.size < 1000000 then some (block_XorR a0 a1) else none
theorem block_Xor.calls (a0 : ByteArray) (a1 : ByteArray) (r1 : ByteArray) (r2 : Int) (w : World) (h : block_Xor.f a0 a1 = some (r1, r2)) :
  Calls Tryz.prog 66 #[.string a0, .string a1] w fun e w' => e = .returned (.tuple #[.string r1, .int .i64 r2]) ∧ Below w.heap.size w w' := by
 unfold block_Xor.f at h
 split at h
 ·rename_i hc
  have hp := Option.some.inj h
  have e1 : r1 = (block_XorR a0 a1).1 := by rw [hp]
  have e2 : r2 = (block_XorR a0 a1).2 := by rw [hp]
  rw [e1, e2]
  exact xor_own a0 a1 hc w
 ·exact absurd h (by simp)
def inact_both.f (l0 : List Int) (l1 : List Int) : Option (List Int) := if l0.length < 100000 ∧ l1.length < 100000 then some (bothF l0 l1) else none
theorem inact_both.calls (A0 : Option Addr) (c0 : Nat) (l0 : List Int) (A1 : Option Addr) (c1 : Nat) (l1 : List Int) (r : List Int) (w : World) (hr0 : Kd.C (Kd.int .i64) w A0 l0.length l0) (hc0 : l0.length ≤ c0) (hr1 : Kd.C (Kd.int .i64) w A1 l1.length l1) (hc1 : l1.length ≤ c1) (h : inact_both.f l0 l1 = some r) :
  Calls Tryz.prog 67 #[.slice A0 l0.length c0, .slice A1 l1.length c1] w fun e w' => ∃ v0_ : Value, e = .returned (v0_) ∧ Kd.R (Kd.int .i64) 3 w' w.heap.size (fun _ => True) v0_ r ∧ Below w.heap.size w w' := by
 unfold inact_both.f at h
 split at h
 ·rename_i hc
  obtain rfl := Option.some.inj h
  exact both_ok w hr0 hc0 hr1 hc1 hc.1 hc.2
 ·exact absurd h (by simp)
def inact_add.f (l0_0 : List Int) (a0_1 : ByteArray) (l1_0 : List Int) (a1_1 : ByteArray) : Option (List Int × ByteArray) := (block_Xor.f a0_1 a1_1).bind fun bt482 => ((inact_both.f l0_0 l1_0).bind fun t484 => (some (t484, bt482.1)))
theorem inact_add.calls (A0_0 : Option Addr) (c0_0 : Nat) (l0_0 : List Int) (a0_1 : ByteArray) (A1_0 : Option Addr) (c1_0 : Nat) (l1_0 : List Int) (a1_1 : ByteArray) (r1 : List Int) (r2 : ByteArray) (w : World) (hr0_0 : Kd.C (Kd.int .i64) w A0_0 l0_0.length l0_0) (hc0_0 : l0_0.length ≤ c0_0) (hr1_0 : Kd.C (Kd.int .i64) w A1_0 l1_0.length l1_0) (hc1_0 : l1_0.length ≤ c1_0) (h : inact_add.f l0_0 a0_1 l1_0 a1_1 = some (r1, r2)) :
  Calls Tryz.prog 28 #[.agg #[.slice A0_0 l0_0.length c0_0, .string a0_1], .agg #[.slice A1_0 l1_0.length c1_0, .string a1_1]] w fun e w' => ∃ v0_ : Value, e = .returned (.agg #[v0_, .string r2]) ∧ Kd.R (Kd.int .i64) 3 w' w.heap.size (fun _ => True) v0_ r1 ∧ Below w.heap.size w w' := by
 have hu62 := Tryz.underlying62
 have HR0_0 := jo hr0_0
 have HC0_0 := jo hc0_0
 clear hr0_0 hc0_0
 have HR1_0 := jo hr1_0
 have HC1_0 := jo hc1_0
 clear hr1_0 hc1_0
 have HB := jo (Below.refl w.heap.size w)
 have H : ((block_Xor.f a0_1 a1_1).bind fun bt482 => ((inact_both.f l0_0 l1_0).bind fun t484 => (some (t484, bt482.1)))) = some (r1, r2) := h
 clear h
 replace H := Option.bind_eq_some_iff.mp H
 obtain ⟨⟨t482, t483⟩, A30, H⟩ := H
 replace H : ((inact_both.f l0_0 l1_0).bind fun t484 => (some (t484, t482))) = some (r1, r2) := H
 have A3 := jo A30
 clear A30
 replace H := Option.bind_eq_some_iff.mp H
 obtain ⟨t484, A40, H⟩ := H
 replace H : (some (t484, t482)) = some (r1, r2) := H
 have A4 := jo A40
 clear A40
 simp only [Option.some.injEq, Prod.mk.injEq] at H
 obtain ⟨rfl, rfl⟩ := H
 go_enter Tryz.func28, Tryz.ntmps28
 go_wp2_with (first | ((with_reducible refine gate_dst (N := 2) rfl ?_); refine jx 2 #[.slice A0_0 l0_0.length c0_0, .string a0_1] 62 ?_; intro gb479 hg w5 hbox hb; have n0_ := jo (below_step jb hb); have n1_ := jo (hbox); have n2_ := jo ((by rw [hg]; exact (below_size jb) : w.heap.size ≤ gb479)); have n3_ := jo ((by rw [hg]; exact (below_size jb) : w.heap.size ≤ gb479)); clear HB; have HB := n0_; have BK479 := n1_; have GW479 := n2_; have GE479 := n3_; clear n0_ n1_ n2_ n3_; clear hb hbox hg) | ((with_reducible refine gate_dst (N := 3) rfl ?_); refine jx 3 #[.slice A1_0 l1_0.length c1_0, .string a1_1] 62 ?_; intro gb480 hg w6 hbox hb; have n0_ := jo (blk_below (g := gb479) (o := .cells #[.slice A0_0 l0_0.length c0_0, .string a0_1] 62 (0, 0)) (jk BK479.out) hb); have n1_ := jo (below_step jb hb); have n2_ := jo (hbox); have n3_ := jo ((by rw [hg]; exact (below_size jb) : w.heap.size ≤ gb480)); have n4_ := jo ((by rw [hg]; exact (below_size jb) : w.heap.size ≤ gb480)); have n5_ := jo ((by rw [hg]; exact Nat.ne_of_lt (blk_lt (g := gb479) (o := .cells #[.slice A0_0 l0_0.length c0_0, .string a0_1] 62 (0, 0)) (jk BK479.out)) : gb479 ≠ gb480)); have n6_ := jo ((by rw [hg]; exact Nat.ne_of_gt (blk_lt (g := gb479) (o := .cells #[.slice A0_0 l0_0.length c0_0, .string a0_1] 62 (0, 0)) (jk BK479.out)) : gb480 ≠ gb479)); clear BK479; clear HB; have BK479 := n0_; have HB := n1_; have BK480 := n2_; have GW480 := n3_; have GE480 := n4_; have NB479_480 := n5_; have NB480_479 := n6_; clear n0_ n1_ n2_ n3_ n4_ n5_ n6_; clear hb hbox hg) | ((with_reducible refine gate_dst (N := 4) rfl ?_); refine box_event ?hg (N := 4) ?hd (cs := #[.slice none 0 0, .string (⟨#[]⟩ : ByteArray)]) (t := 62) ?hr ?_; (case hd => rfl); (case hg => rfl); (case hr => first | (go_simp; done) | (go_simp; rfl)); intro gb481 hg w7 hbox hb; have n0_ := jo (blk_below (g := gb479) (o := .cells #[.slice A0_0 l0_0.length c0_0, .string a0_1] 62 (0, 0)) (jk BK479.out) hb); have n1_ := jo (blk_below (g := gb480) (o := .cells #[.slice A1_0 l1_0.length c1_0, .string a1_1] 62 (0, 0)) (jk BK480.out) hb); have n2_ := jo (below_step jb hb); have n3_ := jo (hbox); have n4_ := jo ((by rw [hg]; exact (below_size jb) : w.heap.size ≤ gb481)); have n5_ := jo ((by rw [hg]; exact (below_size jb) : w.heap.size ≤ gb481)); have n6_ := jo ((by rw [hg]; exact Nat.ne_of_lt (blk_lt (g := gb479) (o := .cells #[.slice A0_0 l0_0.length c0_0, .string a0_1] 62 (0, 0)) (jk BK479.out)) : gb479 ≠ gb481)); have n7_ := jo ((by rw [hg]; exact Nat.ne_of_gt (blk_lt (g := gb479) (o := .cells #[.slice A0_0 l0_0.length c0_0, .string a0_1] 62 (0, 0)) (jk BK479.out)) : gb481 ≠ gb479)); have n8_ := jo ((by rw [hg]; exact Nat.ne_of_lt (blk_lt (g := gb480) (o := .cells #[.slice A1_0 l1_0.length c1_0, .string a1_1] 62 (0, 0)) (jk BK480.out)) : gb480 ≠ gb481)); have n9_ := jo ((by rw [hg]; exact Nat.ne_of_gt (blk_lt (g := gb480) (o := .cells #[.slice A1_0 l1_0.length c1_0, .string a1_1] 62 (0, 0)) (jk BK480.out)) : gb481 ≠ gb480)); clear BK479; clear BK480; clear HB; have BK479 := n0_; have BK480 := n1_; have HB := n2_; have BK481 := n3_; have GW481 := n4_; have GE481 := n5_; have NB479_481 := n6_; have NB481_479 := n7_; have NB480_481 := n8_; have NB481_480 := n9_; clear n0_ n1_ n2_ n3_ n4_ n5_ n6_ n7_ n8_ n9_; clear hb hbox hg; have hnb8 := NB479_480.out; have hnc8 := NB480_479.out; have hnb9 := NB479_481.out; have hnc9 := NB481_479.out; have hcz10_0 := fun i => blk_cell BK479.out i; have hfz10_0 := fun i => blk_frozen BK479.out i; have hnb11 := NB480_481.out; have hnc11 := NB481_480.out; have hcz12_0 := fun i => blk_cell BK480.out i; have hfz12_0 := fun i => blk_frozen BK480.out i) | ((with_reducible refine gate_callee (f := 66) rfl ?_); refine goesL_ (some 12) rfl rfl Tryz.func66 jw rfl #[.string a0_1, .string a1_1] rfl jm ?_; (with_reducible refine (block_Xor.calls a0_1 a1_1 t482 t483 _ A3.out).mono ?_); rintro e w13 ⟨rfl, hb⟩; refine ⟨_, rfl, ?_⟩; have n0_ := jo (blk_below (g := gb479) (o := .cells #[.slice A0_0 l0_0.length c0_0, .string a0_1] 62 (0, 0)) (jk BK479.out) hb); have n1_ := jo (blk_below (g := gb480) (o := .cells #[.slice A1_0 l1_0.length c1_0, .string a1_1] 62 (0, 0)) (jk BK480.out) hb); have n2_ := jo (blk_below (g := gb481) (o := .cells #[.slice none 0 0, .string (⟨#[]⟩ : ByteArray)] 62 (0, 0)) (jk BK481.out) hb); have n3_ := jo (below_step jb hb); clear BK479; clear BK480; clear BK481; clear HB; have BK479 := n0_; have BK480 := n1_; have BK481 := n2_; have HB := n3_; clear n0_ n1_ n2_ n3_; (try clear hb); (try clear hb2); (try clear hk); (try clear hi); have hcz14_0 := fun i => blk_cell BK479.out i; have hfz14_0 := fun i => blk_frozen BK479.out i; have hcz15_0 := fun i => blk_cell BK480.out i; have hfz15_0 := fun i => blk_frozen BK480.out i) | ((with_reducible refine gate_callee (f := 67) rfl ?_); refine goesL_ (some 19) rfl rfl Tryz.func67 jw rfl #[.slice A0_0 l0_0.length c0_0, .slice A1_0 l1_0.length c1_0] rfl jm ?_; (with_reducible refine (inact_both.calls _ _ l0_0 _ _ l1_0 t484 _ ?side1 ?side2 ?side3 ?side4 A4.out).mono ?_); (case side1 => repeat (first | exact (Kd.C_below HR0_0.out HB.out) | (with_reducible refine Kd.C_alloc ?_ _) | (with_reducible refine Kd.C_drewN ?_ _) | (with_reducible refine Kd.C_drew ?_))); (case side2 => exact HC0_0.out); (case side3 => repeat (first | exact (Kd.C_below HR1_0.out HB.out) | (with_reducible refine Kd.C_alloc ?_ _) | (with_reducible refine Kd.C_drewN ?_ _) | (with_reducible refine Kd.C_drew ?_))); (case side4 => exact HC1_0.out); rintro e w16 ⟨v485, rfl, ho0, hb⟩; refine ⟨_, rfl, ?_⟩; have n0_ := jo (Kd.R_lower ho0 (below_size jb)); have n1_ := jo (blk_below (g := gb479) (o := .cells #[.slice A0_0 l0_0.length c0_0, .string a0_1] 62 (0, 0)) (jk BK479.out) hb); have n2_ := jo (blk_below (g := gb480) (o := .cells #[.slice A1_0 l1_0.length c1_0, .string a1_1] 62 (0, 0)) (jk BK480.out) hb); have n3_ := jo (blk_below (g := gb481) (o := .cells #[.slice none 0 0, .string (⟨#[]⟩ : ByteArray)] 62 (0, 0)) (jk BK481.out) hb); have n4_ := jo (below_step jb hb); clear BK479; clear BK480; clear BK481; clear HB; have HO486 := n0_; have BK479 := n1_; have BK480 := n2_; have BK481 := n3_; have HB := n4_; clear n0_ n1_ n2_ n3_ n4_; (try clear hb); (try clear hb2); (try clear hk); (try clear hi); (try clear ho0); obtain ⟨Ao17, co17, eo17⟩ := Kd.R_slice HO486.out; subst eo17; have hcz18_0 := fun i => blk_cell BK481.out i; have hfz18_0 := fun i => blk_frozen BK481.out i))
 refine bodyPost_ret (results_cell_row rfl _ _ gb481 62 #[.slice Ao17 t484.length co17, .string t482] (0, 0) _ rfl (by (with_reducible repeat (first | refine blk_drewN ?_ _ | refine blk_drew ?_ | refine blk_alloc ?_ _)); refine blk_put (cs := #[.slice Ao17 t484.length co17, .string (⟨#[]⟩ : ByteArray)]) ?_ 1 _ rfl; (with_reducible repeat (first | refine blk_drewN ?_ _ | refine blk_drew ?_ | refine blk_alloc ?_ _)); refine blk_put (cs := #[.slice none 0 0, .string (⟨#[]⟩ : ByteArray)]) ?_ 0 _ rfl; (with_reducible repeat (first | refine blk_drewN ?_ _ | refine blk_drew ?_ | refine blk_alloc ?_ _)); exact BK481.out) Tryz.underlying62 rfl jw) rfl ?_
 exact ⟨_, je, by (with_reducible repeat (first | apply Kd.R_alloc | apply Kd.R_drewN | apply Kd.R_drew)); exact Kd.R_mono (Kd.R_far (p := ⟨gb481, 1, none⟩) (Kd.R_far (p := ⟨gb481, 0, none⟩) (Kd.R_types HO486.out BK481.out (by decide)) (fun _ hk => hk.2) (.slice Ao17 t484.length co17)) (fun _ hk => hk.2) (.string t482)) (fun _ hk => trivial), jb⟩
end Go.Proofs.YtjmooillogojkaaGreat.Q
