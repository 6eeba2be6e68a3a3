/- Forms in memory: rows of equations whose numbers lie in blocks of numbers; the sum of two; inact.add and (*work).sum walked: forms added up; Printed by a changed copy of a printer, shortened by a  ... No condition. -/
import Derived.Test.YtjmooillogojkaaGreatM20
set_option maxHeartbeats 8000000
set_option maxRecDepth 100000
set_option linter.unusedVariables false
set_option linter.unusedSimpArgs false
namespace Go.Proofs.YtjmooillogojkaaGreat.Q
open Go.RowKit Go.Proofs.YtjmooillogojkaaGreatW.PrintWords Go.Proofs.YtjmooillogojkaaGreatW.PrintLast Go.Proofs.YtjmooillogojkaaGreatW.PrintMore
open Go.Proofs.YtjmooillogojkaaGreat
theorem info62 : (Tryz.prog.info? 62).map (fun i => (i.zero, i.size, i.bytes)) = some (some (.agg #[(.slice none 0 0), (.string ⟨#[]⟩)]), 2, 40) := by kernel_rfl
def Num3 (W W' : World) : Prop := W.heap.size ≤ W'.heap.size ∧ ∀ (k : Nat) (cells : Array Value), W.heap[k]? = some (Obj.cells cells 3 (0, 0)) → W'.heap[k]? = some (Obj.cells cells 3 (0, 0))
theorem Num3.refl (W : World) : Num3 W W := ⟨Nat.le_refl _, fun _ _ h => h⟩
theorem Num3.trans {A B C : World} (h : Num3 A B) (k : Num3 B C) : Num3 A C := ⟨Nat.le_trans h.1 k.1, fun i c hc => k.2 i c (h.2 i c hc)⟩
theorem Num3.below {W W' : World} (h : Below W.heap.size W W') : Num3 W W' := ⟨h.size, fun k c hc => blk_below hc h⟩
theorem Num3.far {W W' : World} {g t : Nat} {cells : Array Value} (hg : W.heap[g]? = some (.cells cells t (0, 0))) (ht : t ≠ 3) (hs : W.heap.size ≤ W'.heap.size) (hm : ∀ k, k ≠ g → k < W.heap.size → W'.heap[k]? = W.heap[k]?) : Num3 W W' := by
 refine ⟨hs, fun k c hc => ?_⟩
 rw [hm k ?_ (blk_lt hc)]
 ·exact hc
 ·rintro rfl
  rw [hg] at hc
  injection hc with hc
  injection hc with _ hc
  exact ht hc
theorem Num3.set {W : World} {g t : Nat} {cells : Array Value} (hg : W.heap[g]? = some (.cells cells t (0, 0))) (ht : t ≠ 3) (i : Nat) (u : Value) : Num3 W (W.setCell ⟨g, i, none⟩ u) :=
 .far hg ht (by rw [World.size_setCell]; exact Nat.le_refl _) (fun k hk _ => Below.heap_setCell W ⟨g, i, none⟩ u k hk)
theorem Num3.sets {W : World} {g t : Nat} {cells : Array Value} (hg : W.heap[g]? = some (.cells cells t (0, 0))) (ht : t ≠ 3) (o : Nat) (vs : List Value) : Num3 W (W.setCells g o vs) :=
 .far hg ht (by rw [size_setCells']; exact Nat.le_refl _) (fun k hk _ => heap_setCells hk vs o W)
theorem Num3.grown {W W' : World} {v : Value} (hg : W.grownBy W' v.ownBlock) (ht : ∀ g, v.ownBlock = some g → ∃ cells t, W.heap[g]? = some (.cells cells t (0, 0)) ∧ t ≠ 3) : Num3 W W' := by
 refine ⟨hg.size, fun k c hc => ?_⟩
 rw [hg.block k (blk_lt hc) (fun e => ?_)]
 ·exact hc
 ·obtain ⟨cells, t, h1, h2⟩ := ht k e.symm
  rw [h1] at hc
  injection hc with hc
  injection hc with _ hc
  exact h2 hc
def SLI (W : World) (v : Value) (l : List Int) : Prop := Kd.R (Kd.int .i64) 3 W 0 (fun _ => True) v l
theorem SLI.of {W : World} {v : Value} {l : List Int} {base : Nat} {ok : Nat → Prop} (h : Kd.R (Kd.int .i64) 3 W base ok v l) : SLI W v l := Kd.R_mono (Kd.R_lower h (Nat.zero_le _)) (fun _ _ => trivial)
theorem SLI.nil (W : World) : SLI W (.slice none 0 0) [] := Kd.R_nil _ _ _ _ _
theorem SLI.frame {W W' : World} {v : Value} {l : List Int} (h : SLI W v l) (hn : Num3 W W') : SLI W' v l := by
 rcases IR.of h with ⟨rfl, rfl⟩ | ⟨g, cap, rfl, hg, hok, hi⟩
 ·exact .nil _
 ·obtain ⟨cur, hh, h1⟩ := hi.cur
  exact (IR.move hi ((hn.2 g cur hh).trans hh.symm)).row hg hok
theorem SLI.reads {W : World} {v : Value} {l : List Int} (h : SLI W v l) : ∃ A c, v = .slice A l.length c ∧ l.length ≤ c ∧ Kd.C (Kd.int .i64) W A l.length l := Kd.R_reads h
theorem SLI.one {W : World} {v : Value} {l : List Int} (h : SLI W v l) : v.oneCell' = true := by
 obtain ⟨A, c, rfl, _⟩ := h.reads
 rfl
def EqV (W : World) (f : S62) (cs : List Value) : Prop := ∃ v, cs = [v, .string f.f1] ∧ SLI W v f.f0
theorem EqV.frame {W W' : World} {f : S62} {cs : List Value} (h : EqV W f cs) (hn : Num3 W W') : EqV W' f cs := by
 obtain ⟨v, rfl, h1⟩ := h
 exact ⟨v, rfl, h1.frame hn⟩
def ER (W : World) (base : Nat) (v : Value) (L : List S62) : Prop := OwnRow (EqV W) 62 2 W base v L
section
variable {W W' : World} {base : Nat} {v : Value} {L : List S62}
theorem ER.nil (W : World) (base : Nat) : ER W base (.slice none 0 0) [] := OwnRow.none_ _ _ _ _ _
theorem ER.block (h : ER W base v L) (g : Nat) (hg : v.ownBlock = some g) : base ≤ g ∧ ∃ cells, W.heap[g]? = some (.cells cells 62 (0, 0)) := by
 obtain ⟨inner, ho, _⟩ := h
 exact ⟨own_base ho g hg, own_typed ho g hg⟩
theorem ER.frame (h : ER W base v L) (hn : Num3 W W') (hm : ∀ g, v.ownBlock = some g → W'.heap[g]? = W.heap[g]?) : ER W' base v L := by
 obtain ⟨inner, ho, hr⟩ := h
 exact ⟨inner, own_move ho hm, hr.imp_ (fun _ _ hp => hp.frame hn)⟩
theorem ER.below (h : ER W base v L) (hb : Below W.heap.size W W') : ER W' base v L := h.frame (.below hb) (fun g hg => by
 obtain ⟨_, cells, hc⟩ := h.block g hg
 exact hb.block g (blk_lt hc))
theorem ER.lower {base' : Nat} (h : ER W base v L) (hb : base' ≤ base) : ER W base' v L := by
 obtain ⟨inner, ho, hr⟩ := h
 exact ⟨inner, own_weaken ho hb, hr⟩
theorem ER.slice (h : ER W base v L) : ∃ A c, v = .slice A L.length c := OR_slice h
theorem ER.get (h : ER W base v L) {i : Nat} (hi : i < L.length) : ∃ (g cap : Nat) (u : Value), v = .slice (some ⟨g, 0, none⟩) L.length cap ∧ base ≤ g ∧ SLI W u (L[i]).f0 ∧ W.cell? ⟨g, i * 2, none⟩ = some u ∧ W.cell? ⟨g, i * 2 + 1, none⟩ = some (.string (L[i]).f1) ∧ (∀ j, W.frozen? ⟨g, j, none⟩ = false) ∧ ∃ cells, W.heap[g]? = some (.cells cells 62 (0, 0)) := by
 obtain ⟨inner, ho, hr⟩ := h
 have hk := hr.2 i _ (List.getElem?_eq_getElem hi)
 obtain ⟨u, hu, hs⟩ := hk
 rcases ho.2 with ⟨_, h0⟩ | ⟨g, cap, cur, rfl, hb, h1, h2, h3, h4, h5⟩
 ·omega
 ·have hcell : ∀ j, j < 2 → W.cell? ⟨g, i * 2 + j, none⟩ = [u, Value.string (L[i]).f1][j]? := by
   intro j hj
   rw [blk_cell h1, ← Array.getElem?_toList]
   have e1 : cur.toList[i * 2 + j]? = inner[i * 2 + j]? := by
    rw [← h5, List.getElem?_take, if_pos (by omega)]
   rw [e1, ← hu, List.getElem?_take, if_pos hj, List.getElem?_drop]
  exact ⟨g, cap, u, rfl, hb, hs, hcell 0 (by decide), hcell 1 (by decide), fun j => blk_frozen h1 j, cur, h1⟩
theorem ER.put {g cap i : Nat} (h : ER W base (.slice (some ⟨g, 0, none⟩) L.length cap) L) (hi : i < L.length) {f : S62} {cs : List Value} (hf : EqV W f cs) : ER (W.setCells g (i * 2) cs) base (.slice (some ⟨g, 0, none⟩) L.length cap) (L.set i f) := by
 obtain ⟨inner, ho, hr⟩ := h
 rcases ho.2 with ⟨e, _⟩ | ⟨g', cap', cur, e, hb, h1, h2, h3, h4, h5⟩
 ·cases e
 injection e with e1 e2 e3
 injection e1 with e1
 injection e1 with e1 _
 subst e1 e3
 have hcl : cs.length = 2 := by
  obtain ⟨v, rfl, _⟩ := hf
  rfl
 have hn : Num3 W (W.setCells g (i * 2) cs) := Num3.sets h1 (by decide) _ _
 have hil : inner.length = L.length * 2 := hr.1
 have hfit : i * 2 + cs.length ≤ cur.size := by rw [hcl, h4]; omega
 refine ⟨inner.take (i * 2) ++ cs ++ inner.drop (i * 2 + 2), ⟨by rw [List.length_append, List.length_append, List.length_take, List.length_drop, hcl, List.length_set]; omega, .inr ⟨g, cap, _, by rw [List.length_set], hb, blk_setCells _ _ _ _ h1, by rw [List.length_set]; exact h2, h3, by rw [putC_size, h4], ?_⟩⟩, ⟨by rw [List.length_append, List.length_append, List.length_take, List.length_drop, hcl, List.length_set]; omega, fun j p hj => ?_⟩⟩
 ·rw [putC_list _ _ _ hfit, List.length_set, hcl, ← h5]
  rw [List.take_append, List.take_append, List.take_take, List.take_take, List.drop_take]
  simp only [List.length_append, List.length_take, Array.length_toList, hcl]
  rw [show min (L.length * 2) (i * 2) = i * 2 by omega, show min (i * 2) (L.length * 2) = i * 2 by omega, List.take_of_length_le (l := cs) (by omega)]
  congr 2
  omega
 ·by_cases e : j = i
  ·subst e
   rw [List.getElem?_set_self hi] at hj
   injection hj with hj
   subst hj
   have : (List.take 2 (List.drop (j * 2) (inner.take (j * 2) ++ cs ++ inner.drop (j * 2 + 2)))) = cs := by
    rw [List.append_assoc, List.drop_append, List.drop_of_length_le (by rw [List.length_take]; omega), List.length_take, show j * 2 - min (j * 2) inner.length = 0 by omega, List.drop_zero, List.nil_append, List.take_append, List.take_of_length_le (by omega), hcl]
    simp
   rw [this]
   exact hf.frame hn
  ·rw [List.getElem?_set_ne (fun e2 => e e2.symm)] at hj
   have hk := (hr.2 j p hj).frame hn
   have hjl : j < L.length := (List.getElem?_eq_some_iff.1 hj).1
   have : (List.take 2 (List.drop (j * 2) (inner.take (i * 2) ++ cs ++ inner.drop (i * 2 + 2)))) = (inner.drop (j * 2)).take 2 := by
    refine List.ext_getElem? (fun q => ?_)
    rw [List.getElem?_take, List.getElem?_take]
    by_cases hq : q < 2
    ·rw [if_pos hq, if_pos hq, List.getElem?_drop, List.getElem?_drop]
     by_cases hji : j < i
     ·rw [List.append_assoc, List.getElem?_append_left (by rw [List.length_take]; omega), List.getElem?_take, if_pos (by omega)]
     ·rw [List.getElem?_append_right (by rw [List.length_append, List.length_take, hcl]; omega), List.getElem?_drop]
      congr 1
      rw [List.length_append, List.length_take, hcl]
      omega
    ·rw [if_neg hq, if_neg hq]
   rw [this]
   exact hk
end
def addF (x y : S62) : S62 := ⟨bothF x.f0 y.f0, xop x.f1 y.f1⟩
def fOk (n : Nat) (f : S62) : Prop := rowOk n f.f0 ∧ f.f1.size ≤ 64
theorem bothF_mem {a b : List Int} {i : Int} : i ∈ bothF a b ↔ (i ∈ a ∧ i ∉ b) ∨ (i ∈ b ∧ i ∉ a) := by
 unfold bothF
 rw [sortI_mem, List.mem_append, List.mem_filter, List.mem_filter]
 simp
theorem bothF_ok {n : Nat} {a b : List Int} (ha : rowOk n a) (hb : rowOk n b) : rowOk n (bothF a b) := by
 refine sortI_ok ?_ (fun i hi => ?_)
 ·rw [List.nodup_append]
  refine ⟨(rowOk_nodup ha).sublist List.filter_sublist, (rowOk_nodup hb).sublist List.filter_sublist, fun x hx y hy e => ?_⟩
  subst e
  have := (List.mem_filter.1 hy).2
  simp at this
  exact this (List.mem_filter.1 hx).1
 ·rcases List.mem_append.1 hi with hi | hi
  ·exact rowOk_in ha i (List.mem_filter.1 hi).1
  ·exact rowOk_in hb i (List.mem_filter.1 hi).1
theorem xop_le {a b : ByteArray} (ha : a.size ≤ 64) : (xop a b).size ≤ 64 := by
 unfold xop block_XorR
 split
 ·simp only [xorB_size]
  exact ha
 ·exact Nat.zero_le _
theorem addF_ok {n : Nat} {x y : S62} (hx : fOk n x) (hy : fOk n y) : fOk n (addF x y) := ⟨bothF_ok hx.1 hy.1, xop_le hx.2⟩
theorem z62_ok (n : Nat) : fOk n z62 := ⟨fun k hk => absurd hk (by simp [z62]), Nat.zero_le _⟩
theorem add_ok {n : Nat} {W : World} {v1 v2 : Value} {x y : S62} (hn : n ≤ 160) (hx : fOk n x) (hy : fOk n y) (h1 : SLI W v1 x.f0) (h2 : SLI W v2 y.f0) :
  Calls Tryz.prog 28 #[.agg #[v1, .string x.f1], .agg #[v2, .string y.f1]] W fun e w' => ∃ v, e = .returned (.agg #[v, .string (addF x y).f1]) ∧ SLI w' v (addF x y).f0 ∧ Below W.heap.size W w' := by
 obtain ⟨A1, c1, rfl, hc1, hr1⟩ := h1.reads
 obtain ⟨A2, c2, rfl, hc2, hr2⟩ := h2.reads
 have hl1 := rowOk_len hx.1
 have hl2 := rowOk_len hy.1
 have hs := hx.2
 have hf : inact_add.f x.f0 x.f1 y.f0 y.f1 = some ((addF x y).f0, (addF x y).f1) := by
  unfold inact_add.f block_Xor.f inact_both.f
  rw [if_pos (by omega), Option.bind_some, if_pos ⟨by omega, by omega⟩]
  rfl
 refine (inact_add.calls _ _ _ _ _ _ _ _ _ _ _ hr1 hc1 hr2 hc2 hf).mono ?_
 rintro e w' ⟨v, rfl, hv, hb⟩
 exact ⟨v, rfl, SLI.of hv, hb⟩
def accF (F : List S62) (but : Int) (a : S62) (l : List Int) : S62 := l.foldl (fun a i => if i = but then a else addF a (F.getD i.toNat z62)) a
def sumF (F : List S62) (x : S62) (but : Int) : S62 := accF F but ⟨[], x.f1⟩ x.f0
theorem accF_snoc (F : List S62) (but : Int) (a : S62) (l : List Int) (i : Int) : accF F but a (l ++ [i]) = if i = but then accF F but a l else addF (accF F but a l) (F.getD i.toNat z62) := by
 unfold accF
 rw [List.foldl_append]
 rfl
theorem accF_ok {n : Nat} {F : List S62} {but : Int} {a : S62} (hF : ∀ f ∈ F, fOk n f) (ha : fOk n a) (l : List Int) : fOk n (accF F but a l) := by
 induction l generalizing a with
 | nil => exact ha
 | cons i l ih =>
  unfold accF at *
  rw [List.foldl_cons]
  refine ih ?_
  split
  ·exact ha
  ·refine addF_ok ha ?_
   rw [List.getD_eq_getElem?_getD]
   cases h : F[i.toNat]? with
   | none => exact z62_ok n
   | some f => exact hF f (List.mem_of_getElem? h)
theorem sum_ok {n base Bw : Nat} {W : World} {v0 v1 v2 vF v4 : Value} {F : List S62} {x : S62} {Ax : Option Addr} {cx : Nat} {but : Int} (hn : n ≤ 160) (hw : W.heap[Bw]? = some (.cells #[v0, v1, v2, vF, v4] 86 (0, 0))) (hE : ER W base vF F) (hF : ∀ f ∈ F, fOk n f) (hFl : F.length = n) (hx : fOk n x) (hr : Kd.C (Kd.int .i64) W Ax x.f0.length x.f0) (hc : x.f0.length ≤ cx) :
  Calls Tryz.prog 64 #[.pointer (some ⟨Bw, 0, none⟩), .agg #[.slice Ax x.f0.length cx, .string x.f1], .int .i64 but] W fun e w' => ∃ v, e = .returned (.agg #[v, .string (sumF F x but).f1]) ∧ SLI w' v (sumF F x but).f0 ∧ Below W.heap.size W w' := by
 have HW := jo hw
 have HE := jo hE
 have HF := jo (And.intro hF (And.intro hFl (And.intro hn hx)))
 have HR := jo hr
 have hxl := rowOk_len hx.1
 have HIN := jo (rowOk_in hx.1)
 obtain ⟨l, xd⟩ := x
 have HL : Aside0 (l.length ≤ n) := ⟨hxl⟩
 have hxl : l.length ≤ n := hxl
 clear hw hE hF hFl hr hx
 dsimp only at *
 go_enter Tryz.func64, Tryz.ntmps64
 go_wp2_with fail
 have k1 := alloc3 W (.cells #[.slice Ax l.length cx, .string xd] 62) (.cells #[.slice none 0 0, .string ⟨#[]⟩] 62) (.cells #[.slice none 0 0, .string xd] 62)
 generalize ((W.alloc (.cells #[.slice Ax l.length cx, .string xd] 62)).alloc (.cells #[.slice none 0 0, .string ⟨#[]⟩] 62)).alloc (.cells #[.slice none 0 0, .string xd] 62) = W1 at k1 ⊢
 have H1 := jo k1
 obtain ⟨m, hm⟩ : ∃ m, m = W.heap.size := ⟨_, rfl⟩
 clear k1
 obtain ⟨a0, ha0⟩ : ∃ a0 : S62, a0 = ⟨[], xd⟩ := ⟨_, rfl⟩
 have hax : a0.f1 = xd := by rw [ha0]
 have hOK0 : fOk n a0 := by rw [ha0]; exact ⟨fun k hk => absurd hk (by simp), HF.out.2.2.2.2⟩
 have HOK := jo (fun l' => accF_ok (but := but) HF.out.1 hOK0 l')
 have H1' : Aside0 (W1.heap[m + 1 + 1]? = some (.cells #[.slice none 0 0, .string a0.f1] 62 (0, 0)) ∧ SLI W1 (.slice none 0 0) a0.f0 ∧ W1.heap[m + 1]? = some (.cells #[.slice none 0 0, .string ⟨#[]⟩] 62 (0, 0)) ∧ Below W.heap.size W W1) := ⟨by rw [hm, hax]; exact H1.out.2.2.1, by rw [ha0]; exact SLI.nil _, by rw [hm]; exact H1.out.2.1, H1.out.2.2.2⟩
 have HGOAL : Aside0 (sumF F ⟨l, xd⟩ but = accF F but a0 l) := ⟨by rw [ha0]; rfl⟩
 clear H1 hOK0 hax ha0
 have HM := jo hm
 rw [← hm]
 clear hm
 go_loopg [9, 16] l.length (fun gk v9 v16 wr => ∃ (k : Nat) (u : Value), v16 = .int .i64 k ∧ Aside0 (k + gk = l.length ∧ wr.heap[m + 1 + 1]? = some (.cells #[u, .string (accF F but a0 (l.take k)).f1] 62 (0, 0)) ∧ SLI wr u (accF F but a0 (l.take k)).f0 ∧ wr.heap[m + 1]? = some (.cells #[.slice none 0 0, .string ⟨#[]⟩] 62 (0, 0)) ∧ Below W.heap.size W wr))
 case atStart => exact ⟨0, _, rfl, ⟨by omega, H1'.out⟩⟩
 case round =>
  obtain ⟨k, u, rfl, HA⟩ := hrel
  clear H1'
  by_cases hlt : k < l.length
  ·have d1 : decide ((k : Int) < (l.length : Int)) = true := decide_eq_true (by omega)
   have d2 : decide (k < l.length) = true := decide_eq_true hlt
   obtain ⟨gq, rfl⟩ : ∃ q, gk = q + 1 := ⟨gk - 1, by have := HA.out.1; omega⟩
   obtain ⟨ad, rfl, hcell⟩ := Kd.at_int (Kd.C_below HR.out HA.out.2.2.2.2) (k : Int) (by omega) (by omega)
   rw [rd_get hlt, Int.toNat_natCast] at hcell
   obtain ⟨hi0, hin⟩ := HIN.out l[k] (List.getElem_mem hlt)
   have hsn := accF_snoc F but a0 (l.take k) l[k]
   rw [← List.take_succ_eq_append_getElem hlt] at hsn
   obtain ⟨iz, hiz⟩ : ∃ iz, iz = l[k] := ⟨_, rfl⟩
   rw [← hiz] at hcell hi0 hin hsn
   obtain ⟨i, rfl⟩ := Int.eq_ofNat_of_zero_le hi0
   have hokk := HOK.out (l.take k)
   generalize accF F but a0 (l.take k) = a at HA hsn hokk
   by_cases hib : (i : Int) = but
   ·have bb : ((i : Int) != but) = false := by rw [hib]; simp
    rw [if_pos hib] at hsn
    have HS := jo hsn
    clear hsn hiz
    go_wp2
    go_roundg gq
    case measure => omega
    case rel => exact ⟨k + 1, u, rfl, ⟨by have := HA.out.1; omega, by rw [HS.out]; exact HA.out.2⟩⟩
   ·have bb : ((i : Int) != but) = true := bne_iff_ne.2 hib
    rw [if_neg hib] at hsn
    have hiF : i < F.length := by rw [HF.out.2.1]; omega
    obtain ⟨g, cap, u2, rfl, hgb, hu2, hc0, hc1, hcf, cells, hgc⟩ := (HE.out.below HA.out.2.2.2.2).get hiF
    have hgd : F.getD (i : Int).toNat z62 = F[i] := by rw [List.getD_eq_getElem?_getD, Int.toNat_natCast, List.getElem?_eq_getElem hiF]; rfl
    rw [hgd] at hsn
    have hyk := HF.out.1 F[i] (List.getElem_mem hiF)
    obtain ⟨y, hy⟩ : ∃ y, y = F[i] := ⟨_, rfl⟩
    rw [← hy] at hsn hyk hu2 hc1
    have HS := jo hsn
    have HC := jo (fun W' (hn3 : Num3 wr W') => add_ok (W := W') HF.out.2.2.1 hokk hyk (HA.out.2.2.1.frame hn3) (hu2.frame hn3))
    have x0 : wr.drew.cell? ⟨m + 1 + 1, 0, none⟩ = some u := blk_cell (w := wr.drew) HA.out.2.1 0
    have x1 : wr.drew.cell? ⟨m + 1 + 1, 1, none⟩ = some (.string a.f1) := blk_cell (w := wr.drew) HA.out.2.1 1
    have x2 : wr.drew.cell? ⟨Bw, 3, none⟩ = some (.slice (some ⟨g, 0, none⟩) F.length cap) := blk_cell (w := wr.drew) (blk_below HW.out (below_drew HA.out.2.2.2.2)) 3
    have x3 : wr.drew.cell? ⟨g, i * 2, none⟩ = some u2 := hc0
    have x4 : wr.drew.cell? ⟨g, i * 2 + 1, none⟩ = some (.string y.f1) := hc1
    have hiFi : (i : Int) < (F.length : Int) := by omega
    have wri : wrap64 (i : Int) = (i : Int) := Deg.w64 (by omega) (by have := HF.out.2.2.1; omega)
    clear hsn hiz hgd hyk hy hu2 hc0 hc1 hcf hgc hokk hgb hib
    go_wp2
    refine st_ (S := fun w' => w'.cell? ⟨m + 1 + 1, 0, none⟩ = some u ∧ w'.cell? ⟨m + 1 + 1, 1, none⟩ = some (.string a.f1) ∧ w'.cell? ⟨Bw, 3, none⟩ = some (.slice (some ⟨g, 0, none⟩) F.length cap) ∧ w'.cell? ⟨g, i * 2, none⟩ = some u2 ∧ w'.cell? ⟨g, i * 2 + 1, none⟩ = some (.string y.f1)) (ds := [9]) 10 ⟨x0, x1, x2, x3, x4⟩ (fun hHeld => ?_)
    refine td_ [1, 2, 3, 5] ?_
    repeat (first | refine pp_ ?_ | refine po_ ?_)
    refine tn_ ?_
    refine td_ [0, 4] ?_
    repeat (refine pt_ hHeld ?_)
    refine tn_ ?_
    refine td_ [6] ?_
    repeat (first | refine pp_ ?_ | refine po_ ?_)
    refine tn_ ?_
    refine td_ [7] ?_
    repeat (refine pt_ hHeld ?_)
    refine tn_ ?_
    refine on_ 8 (fun K hK => ?_)
    refine gs_ Tryz.func28 #[.agg #[u, .string a.f1], .agg #[u2, .string y.f1]] ?_
    with_reducible refine ((HC.out _ (Num3.below (below_drew (Below.refl _ _))))).mono ?_
    rintro e w6 ⟨v6, rfl, hs6, hb6⟩
    refine ⟨_, rfl, ?_⟩
    obtain ⟨A6, c6, e6, _, _⟩ := hs6.reads
    subst e6
    have H6 := jo (And.intro hs6 (below_step (below_drew (Below.refl wr.heap.size wr)) hb6))
    have z0 := pw_cell_below hb6 hHeld.1
    have z1 := pw_cell_below hb6 hHeld.2.1
    have z2 := pw_cell_below hb6 hHeld.2.2.1
    have z3 := pw_cell_below hb6 hHeld.2.2.2.1
    have z4 := pw_cell_below hb6 hHeld.2.2.2.2
    have hf6 : ∀ j, w6.frozen? ⟨m + 1 + 1, j, none⟩ = false := fun j => blk_frozen (blk_below HA.out.2.1 H6.out.2) j
    clear hb6 hs6
    refine hK.out _ _ ⟨z0, z1, z2, z3, z4⟩ (fun hHeld => ?_)
    clear hK K
    refine nm_ (some 31) ?_
    refine la_ 9 (fun K hK => ?_)
    refine skip_ (w1 := w6.setCells (m + 1 + 1) 0 [.slice A6 (addF a y).f0.length c6, .string (addF a y).f1]) (by rfl) rfl ?_ ?_
    ·go_simp
     first | done | rfl
    refine hK.out _ _ ?_
    clear hK K
    refine dn_ ?_
    go_wp2
    go_roundg gq
    case measure => omega
    case rel =>
     have hb0 := blk_below HA.out.2.1 H6.out.2
     have hn3 := Num3.sets hb0 (by decide) 0 [.slice A6 (addF a y).f0.length c6, .string (addF a y).f1]
     have hmm : m + 1 ≠ m + 1 + 1 := by omega
     refine ⟨k + 1, .slice A6 (addF a y).f0.length c6, rfl, ⟨by have := HA.out.1; omega, ?_, ?_, ?_, ?_⟩⟩
     ·rw [HS.out]
      exact blk_setCells [.slice A6 (addF a y).f0.length c6, .string (addF a y).f1] 0 w6 _ hb0
     ·rw [HS.out]
      exact H6.out.1.frame hn3
     ·exact (heap_setCells hmm _ 0 w6).trans (blk_below HA.out.2.2.2.1 H6.out.2)
     ·exact below_setCells (by rw [← HM.out]; omega) _ 0 w6 (below_step HA.out.2.2.2.2 H6.out.2)
  ·have d1 : decide ((k : Int) < (l.length : Int)) = false := decide_eq_false (by omega)
   have d2 : decide (k < l.length) = false := decide_eq_false hlt
   have e1 : k = l.length := by have := HA.out.1; omega
   have ha := HA.out.2
   rw [e1, List.take_length, ← HGOAL.out] at ha
   have HC := jo ha
   generalize hsf : sumF F ⟨l, xd⟩ but = r at HC
   obtain ⟨h1, h2, h3, h4⟩ := HC.out
   have c0 : wr.cell? ⟨m + 1 + 1, 0, none⟩ = some u := blk_cell h1 0
   have c1 : wr.cell? ⟨m + 1 + 1, 1, none⟩ = some (.string r.f1) := blk_cell h1 1
   have e0 : wr.cell? ⟨m + 1, 0, none⟩ = some (.slice none 0 0) := blk_cell h3 0
   have e1' : wr.cell? ⟨m + 1, 1, none⟩ = some (.string ⟨#[]⟩) := blk_cell h3 1
   have ef := fun i => blk_frozen h3 i
   obtain ⟨Au, cu, eu, _, _⟩ := h2.reads
   subst eu
   have H3 := jo h3
   have HSF := jo hsf
   clear h1 h2 h3 h4 ha HA hsf e1
   go_wp2
   refine bodyPost_ret (results_cell_row rfl _ _ (m + 1) 62 #[.slice Au r.f0.length cu, .string r.f1] (0, 0) _ rfl (blk_put (blk_put H3.out 0 _ rfl) 1 _ rfl) Tryz.underlying62 rfl jw) rfl ?_
   refine ⟨_, by rw [HSF.out], ?_, ?_⟩
   ·rw [HSF.out]
    have hn1 := Num3.set H3.out (by decide) 0 (.slice Au r.f0.length cu)
    have hn2 := Num3.set (blk_put H3.out 0 (.slice Au r.f0.length cu) rfl) (by decide) 1 (.string r.f1)
    exact HC.out.2.1.frame (hn1.trans hn2)
   ·rw [HM.out]
    exact below_set (below_set HC.out.2.2.2 (by show W.heap.size ≤ W.heap.size + 1; omega)) (by show W.heap.size ≤ W.heap.size + 1; omega)
end Go.Proofs.YtjmooillogojkaaGreat.Q
namespace Go.Proofs.YtjmooillogojkaaGreat.Q
open Go.RowKit Go.Proofs.YtjmooillogojkaaGreatW.PrintWords Go.Proofs.YtjmooillogojkaaGreatW.PrintLast Go.Proofs.YtjmooillogojkaaGreatW.PrintMore
open Go.Proofs.YtjmooillogojkaaGreat
attribute [local go_sem] max2_int min2_int max_two min_two max_three min_three max_four min_four
def bits_RotateLeft32.f (a0 : Int) (a1 : Int) : Option (Int) := if 0 ≤ (Go.bits .and .u64 (IntKind.u64.wrap (a1)) 31) then (if 0 ≤ (IntKind.u64.wrap (32 - (Go.bits .and .u64 (IntKind.u64.wrap (a1)) 31))) then (some (Go.bits .or .u32 (shl .u32 a0 (Go.bits .and .u64 (IntKind.u64.wrap (a1)) 31)) (shr .u32 a0 (IntKind.u64.wrap (32 - (Go.bits .and .u64 (IntKind.u64.wrap (a1)) 31)))))) else (none)) else (none)
theorem bits_RotateLeft32.calls (a0 : Int) (a1 : Int) (r : Int) (w : World) (h : bits_RotateLeft32.f a0 a1 = some r) :
  Calls Tryz.prog 181 #[.int .u32 a0, .int .i64 a1] w fun e w' => e = .returned (.int .u32 r) ∧ Drawn0 w w' := by
 have H : (if 0 ≤ (Go.bits .and .u64 (IntKind.u64.wrap (a1)) 31) then (if 0 ≤ (IntKind.u64.wrap (32 - (Go.bits .and .u64 (IntKind.u64.wrap (a1)) 31))) then (some (Go.bits .or .u32 (shl .u32 a0 (Go.bits .and .u64 (IntKind.u64.wrap (a1)) 31)) (shr .u32 a0 (IntKind.u64.wrap (32 - (Go.bits .and .u64 (IntKind.u64.wrap (a1)) 31)))))) else (none)) else (none)) = some r := h
 clear h
 obtain ⟨ji3, hji3⟩ : ∃ j_ : Int, (Go.bits .and .u64 (IntKind.u64.wrap (a1)) 31) = j_ := ⟨_, rfl⟩
 replace H : (if 0 ≤ (ji3) then (if 0 ≤ (IntKind.u64.wrap (32 - (ji3))) then (some (Go.bits .or .u32 (shl .u32 a0 (ji3)) (shr .u32 a0 (IntKind.u64.wrap (32 - (ji3)))))) else (none)) else (none)) = some r := by first | (rw [hji3] at H; exact H) | (simp only [hji3] at H ⊢; exact H)
 by_cases c4 : 0 ≤ (ji3)
 ·rw [if_pos c4] at H
  have c4b0 := eq_true c4
  have c4b1 : decide (0 ≤ (ji3)) = true := decide_eq_true c4
  clear c4
  obtain ⟨ji5, hji5⟩ : ∃ j_ : Int, (shl .u32 a0 (ji3)) = j_ := ⟨_, rfl⟩
  replace H : (if 0 ≤ (IntKind.u64.wrap (32 - (ji3))) then (some (Go.bits .or .u32 (ji5) (shr .u32 a0 (IntKind.u64.wrap (32 - (ji3)))))) else (none)) = some r := by first | (rw [hji5] at H; exact H) | (simp only [hji5] at H ⊢; exact H)
  have hji5_ : (IntKind.u32.wrap (a0 * 2 ^ min (ji3).toNat 32)) = ji5 := hji5
  have hji5z : (ji3) ≤ 32 → (IntKind.u32.wrap (a0 * 2 ^ (ji3).toNat)) = ji5 := shl_small hji5
  obtain ⟨ji6, hji6⟩ : ∃ j_ : Int, (IntKind.u64.wrap (32 - (ji3))) = j_ := ⟨_, rfl⟩
  replace H : (if 0 ≤ (ji6) then (some (Go.bits .or .u32 (ji5) (shr .u32 a0 (ji6)))) else (none)) = some r := by first | (rw [hji6] at H; exact H) | (simp only [hji6] at H ⊢; exact H)
  by_cases c7 : 0 ≤ (ji6)
  ·rw [if_pos c7] at H
   have c7b0 := eq_true c7
   have c7b1 : decide (0 ≤ (ji6)) = true := decide_eq_true c7
   clear c7
   obtain ⟨ji8, hji8⟩ : ∃ j_ : Int, (shr .u32 a0 (ji6)) = j_ := ⟨_, rfl⟩
   replace H : (some (Go.bits .or .u32 (ji5) (ji8))) = some r := by first | (rw [hji8] at H; exact H) | (simp only [hji8] at H ⊢; exact H)
   have hji8_ : (a0 / 2 ^ min (ji6).toNat 32) = ji8 := hji8
   have hji8z : (ji6) ≤ 32 → (a0 / 2 ^ (ji6).toNat) = ji8 := shr_small hji8
   obtain rfl := Option.some.inj H
   go_enter Tryz.func181, Tryz.ntmps181
   go_wp2
   go_ret
   exact ⟨by first | rfl | (simp; done) | (simp only [← hji3, ← hji5, ← hji6, ← hji8] <;> (first | rfl | simp)) | (simp [*]; done), jd⟩
  ·rw [if_neg c7] at H
   exact absurd H (by simp)
 ·rw [if_neg c4] at H
  exact absurd H (by simp)
end Go.Proofs.YtjmooillogojkaaGreat.Q
namespace Go.Proofs.YtjmooillogojkaaGreat.Q
open Go.RowKit Go.Proofs.YtjmooillogojkaaGreatW.PrintWords Go.Proofs.YtjmooillogojkaaGreatW.PrintLast Go.Proofs.YtjmooillogojkaaGreatW.PrintMore
open Go.Proofs.YtjmooillogojkaaGreat
def sha_rotr.f (a0 : Int) (a1 : Int) : Option (Int) := (bits_RotateLeft32.f a0 (wrap64 (-a1))).bind fun t217 => (some t217)
theorem sha_rotr.calls (a0 : Int) (a1 : Int) (r : Int) (w : World) (h : sha_rotr.f a0 a1 = some r) :
  Calls Tryz.prog 179 #[.int .u32 a0, .int .i64 a1] w fun e w' => e = .returned (.int .u32 r) ∧ Drawn0 w w' := by
 have H : ((bits_RotateLeft32.f a0 (wrap64 (-a1))).bind fun t217 => (some t217)) = some r := h
 clear h
 replace H := Option.bind_eq_some_iff.mp H
 obtain ⟨t217, A30, H⟩ := H
 replace H : (some t217) = some r := H
 have A3 := jo A30
 clear A30
 obtain rfl := Option.some.inj H
 go_enter Tryz.func179, Tryz.ntmps179
 go_wp2_with (first | ((with_reducible refine gate_callee (f := 181) rfl ?_); refine goesL_ (some 8) rfl rfl Tryz.func181 jw rfl #[.int .u32 a0, .int .i64 (wrap64 (-a1))] rfl jm ?_; (with_reducible refine (bits_RotateLeft32.calls a0 (wrap64 (-a1)) t217 _ A3.out).mono ?_); rintro e w' ⟨rfl, ⟨nd, rfl⟩⟩; refine ⟨_, rfl, ?_⟩))
 go_ret
 exact ⟨by first | rfl | (simp; done) | (simp [*]; done), jd⟩
end Go.Proofs.YtjmooillogojkaaGreat.Q
