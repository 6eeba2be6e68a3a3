/- The writer of octets, part two: it is written to, and read; The generator's words, in plain Lean; Printed by a changed copy of a printer, shortened by a program: what these functions answer: sha_S ... No condition. -/
import Derived.Test.YtjmooillogojkaaGreatM28
set_option maxHeartbeats 8000000
set_option maxRecDepth 100000
set_option linter.unusedVariables false
set_option linter.unusedSimpArgs false
namespace Go.Proofs.YtjmooillogojkaaGreat.Q
open Go.RowKit Go.Proofs.YtjmooillogojkaaGreatW.PrintWords Go.Proofs.YtjmooillogojkaaGreatW.PrintLast Go.Proofs.YtjmooillogojkaaGreatW.PrintMore
open Go.Proofs.YtjmooillogojkaaGreat
theorem len_ok {w W : World} {g : Nat} {q v : Value} {b : ByteArray} (h : Wt w W g q v b) :
  Calls Tryz.prog 99 #[.pointer (some ⟨g, 0, none⟩)] W fun e w' => e = .returned (.int .i64 b.size) ∧ w' = W := by
 have c1 := h.cell1
 obtain ⟨A, c, ev⟩ := Kd.R_slice h.row
 rw [bytesOf_length] at ev
 subst ev
 clear h
 go_enter Tryz.func99, Tryz.ntmps99
 go_wp2
 go_ret
 exact ⟨rfl, rfl⟩
theorem bytesOf_bytes (b : ByteArray) : nums .u8 (bytesOf b) = Lib.byteCells b.data.toList := by
 simp [nums, bytesOf, Lib.byteCells]
theorem sd_run {o : Oper} {a : Act} {W : World} {x : Operand} {G : Addr} {n c : Nat} (ho : o.op = .call { callee := .builtin .unsafeSliceData, args := #[x], argTypes := #[60] }) (hx : a.eval x = .slice (some G) n c) (hc : c ≠ 0) :
  (execOp a.eval o).run Tryz.prog W = .ok (.value (.pointer (some G))) W := by
 unfold execOp
 simp only [ho, resolve, invoke, builtin, Sem.run_bind, Sem.run_pure, Result.andThen_ok, List.map_toArray, List.map_cons, List.map_nil, hx, Lib.run_unsafeSliceData_row _ _ _ _ _ _ hc]
theorem us_run {o : Oper} {a : Act} {W : World} {x y : Operand} {G : Nat} {b : ByteArray} {cur : Array Value} (ho : o.op = .call { callee := .builtin .unsafeString, args := #[x, y], argTypes := #[198, 3] }) (hx : a.eval x = .pointer (some ⟨G, 0, none⟩)) (hy : a.eval y = .int .i64 b.size)
  (hg : W.heap[G]? = some (.cells cur 5 (0, 0))) (h0 : 0 < b.size) (h1 : b.size ≤ 100000) (hcs : b.size ≤ cur.size) (hcell : ∀ j x, b.data.toList[j]? = some x → W.cell? ⟨G, j, none⟩ = some (.int .u8 x.toNat)) :
  (execOp a.eval o).run Tryz.prog W = .ok (.value (.string b)) (W.freeze ⟨G, 0, none⟩ b.size) := by
 have hl : b.data.toList.length = b.size := by simp
 have hr := Lib.run_unsafeString_row (P := Tryz.prog) W 198 3 o.type 5 Tryz.underlying198 jw G cur.size (by simp [World.shape?, hg]) b.data.toList (by intro e; rw [e] at hl; simp at hl; omega) (by omega) (by omega) (fun j x hj => by rw [Addr.add_lit, Nat.zero_add]; exact hcell j x hj)
 rw [hl] at hr
 unfold execOp
 simp only [ho, resolve, invoke, builtin, Sem.run_bind, Sem.run_pure, Result.andThen_ok, List.map_toArray, List.map_cons, List.map_nil, hx, hy, hr]
theorem string_ok {w W : World} {g : Nat} {q v : Value} {b : ByteArray} (h : Wt w W g q v b) (h0 : 0 < b.size) (hb : b.size ≤ 100000) :
  Calls Tryz.prog 100 #[.pointer (some ⟨g, 0, none⟩)] W fun e w' => e = .returned (.string b) ∧ Below w.heap.size w w' := by
 have hown := Kd.own_of_R h.row
 rw [bytesOf_length] at hown
 obtain ⟨G, cap, cur, rfl, hbg, hg, hnc, hcm, hcs, htake⟩ : ∃ G cap cur, v = .slice (some ⟨G, 0, none⟩) b.size cap ∧ w.heap.size ≤ G ∧ W.heap[G]? = some (.cells cur 5 (0, 0)) ∧ b.size ≤ cap ∧ cap ≤ maxLen ∧ cur.size = cap * 1 ∧ cur.toList.take (b.size * 1) = nums .u8 (bytesOf b) := by
  rcases hown.2 with ⟨_, hz⟩ | ⟨g, cap, cur, hv, r⟩
  ·omega
  ·exact ⟨g, cap, cur, hv, r⟩
 have f1 : W.drew.cell? ⟨g, 1, none⟩ = some (.slice (some ⟨G, 0, none⟩) b.size cap) := h.cell1
 have HS := jo (And.intro hg (And.intro hnc hcs))
 have HC : Aside0 (∀ j x, b.data.toList[j]? = some x → W.drew.cell? ⟨G, j, none⟩ = some (.int .u8 x.toNat)) := ⟨fun j x hj => by
  have := hown.cells (g := G) rfl j (.int .u8 x.toNat) (by rw [show encs (Value.int .u8) (bytesOf b) = Lib.byteCells b.data.toList from bytesOf_bytes b]; simp [Lib.byteCells, hj])
  rw [Addr.add_lit, Nat.zero_add] at this
  exact this⟩
 have HB := jo (And.intro h.bel hbg)
 have H0 := jo (And.intro h0 hb)
 clear h hown hg hnc hcs hcm htake hbg h0 hb
 go_enter Tryz.func100, Tryz.ntmps100
 go_wp2
 refine st_ (S := fun w' => w'.cell? ⟨g, 1, none⟩ = some (.slice (some ⟨G, 0, none⟩) b.size cap)) (ds := [10]) 12 (f1) (fun hHeld => ?_)
 refine td_ [0, 1, 2, 5, 6, 7] ?_
 repeat (first | refine pp_ ?_ | refine po_ ?_)
 refine tn_ ?_
 refine td_ [3, 8] ?_
 repeat (refine pt_ hHeld ?_)
 refine tn_ ?_
 refine td_ [9] ?_
 repeat (first | refine pp_ ?_ | refine po_ ?_)
 refine tn_ ?_
 refine on_ 4 (fun K hK => ?_)
 refine value_ (w1 := W.drew) (v := .pointer (some ⟨G, 0, none⟩)) (by rfl) rfl ?_ ?_
 ·exact sd_run rfl rfl (by have := H0.out; have := HS.out.2.1; omega)
 refine hK.out _ _ (f1) (fun hHeld => ?_)
 clear hK K
 refine nm_ (some 7) ?_
 refine la_ 10 (fun K hK => ?_)
 refine value_ (w1 := W.drew.freeze ⟨G, 0, none⟩ b.size) (v := .string b) (by rfl) rfl ?_ ?_
 ·exact us_run rfl rfl rfl HS.out.1 H0.out.1 H0.out.2 (by have := HS.out.2; omega) HC.out
 refine hK.out _ _ ?_
 clear hK K
 refine nm_ (some 13) ?_
 refine td_ [11] ?_
 repeat (first | refine pp_ ?_ | refine po_ ?_)
 refine tn_ ?_
 refine dn_ ?_
 go_wp2
 go_ret
 exact ⟨rfl, Lib.below_freeze (below_drew HB.out.1) (p := ⟨G, 0, none⟩) HB.out.2 _⟩
theorem put_ok {w W : World} {g : Nat} {q v : Value} {b : ByteArray} (s : ByteArray) (h : Wt w W g q v b) (hl : b.size + s.size ≤ 1000) :
  Calls Tryz.prog 168 #[.pointer (some ⟨g, 0, none⟩), .string s, .int .i64 0] W fun e w' => e = .returned (.tuple #[]) ∧ ∃ q' v', Wt w w' g q' v' (b ++ s) := by
 have H := jo h
 have HL := jo hl
 have c2 := h.cell2
 have hw : wrap64 (65536 - (b.size : Int)) = 65536 - (b.size : Int) := by unfold wrap64; omega
 have d1 : decide (65536 - (b.size : Int) < (s.size : Int)) = false := decide_eq_false (by omega)
 clear h hl
 go_enter Tryz.func168, Tryz.ntmps168
 go_wp2_with (first | (go_at_call 99; (with_reducible refine (len_ok H.out).mono ?_); rintro e w1 ⟨rfl, rfl⟩) | (go_at_call 98; (with_reducible refine (writeString_ok s H.out HL.out).mono ?_); rintro e w2 ⟨rfl, q2, v2, h2⟩; have H2 := jo h2; clear h2))
 go_end0
 exact ⟨rfl, _, _, H2.out⟩
theorem raw_ok {w W : World} {g : Nat} {q v : Value} {b : ByteArray} (s : ByteArray) (h : Wt w W g q v b) (hl : b.size + s.size ≤ 1000) :
  Calls Tryz.prog 150 #[.pointer (some ⟨g, 0, none⟩), .string s] W fun e w' => e = .returned (.tuple #[]) ∧ ∃ q' v', Wt w w' g q' v' (b ++ s) := by
 have H := jo (put_ok s h hl)
 clear h hl
 go_enter Tryz.func150, Tryz.ntmps150
 go_wp2_with (go_at_call 168; (with_reducible refine H.out.mono ?_); rintro e w2 ⟨rfl, q2, v2, h2⟩; have H2 := jo h2; clear h2)
 go_end0
 exact ⟨rfl, _, _, H2.out⟩
theorem num_ok {w W : World} {g : Nat} {q v : Value} {b r : ByteArray} {k : Nat} {x y : Int} (hp : oct_Put.f k x y = some (r, 0)) (h : Wt w W g q v b) (hl : b.size + r.size ≤ 1000) :
  Calls Tryz.prog 151 #[.pointer (some ⟨g, 0, none⟩), .int .i64 x, .int .i64 y] W fun e w' => e = .returned (.tuple #[]) ∧ ∃ q' v', Wt w w' g q' v' (b ++ r) := by
 have H := jo h
 have HP := jo hp
 have HL := jo hl
 clear h hl hp
 go_enter Tryz.func151, Tryz.ntmps151
 go_wp2_with (first | (go_at_call 169; (with_reducible refine (oct_Put.calls _ _ _ _ _ _ HP.out).mono ?_); rintro e w1 ⟨rfl, hb1⟩; have H1 := jo (H.out.below hb1); clear hb1) | (go_at_call 168; (with_reducible refine (put_ok r H1.out HL.out).mono ?_); rintro e w2 ⟨rfl, q2, v2, h2⟩; have H2 := jo h2; clear h2))
 go_end0
 exact ⟨rfl, _, _, H2.out⟩
theorem bytes_ok {w W : World} {g : Nat} {q v : Value} {b : ByteArray} (h : Wt w W g q v b) (h0 : 0 < b.size) (hb : b.size ≤ 1000) :
  Calls Tryz.prog 152 #[.pointer (some ⟨g, 0, none⟩)] W fun e w' => e = .returned (.tuple #[.string b, .int .i64 0]) ∧ Below w.heap.size w w' := by
 have H := jo (string_ok h h0 (by omega))
 have c2 := h.cell2
 clear h h0 hb
 go_enter Tryz.func152, Tryz.ntmps152
 go_wp2_with (go_at_call 100; (with_reducible refine H.out.mono ?_); rintro e w2 ⟨rfl, hb2⟩; have H2 := jo hb2; clear hb2)
 go_ret2
 exact ⟨rfl, H2.out⟩
def sha_Sum.f (a0 : ByteArray) : Option ByteArray := if a0.size ≤ 60000 then some (shaF a0) else none
theorem sha_Sum.calls (a0 : ByteArray) (r : ByteArray) (w : World) (h : sha_Sum.f a0 = some r) :
  Calls Tryz.prog 145 #[.string a0] w fun e w' => e = .returned (.string r) ∧ Below w.heap.size w w' := by
 unfold sha_Sum.f at h
 split at h
 ·rename_i hc
  obtain rfl := Option.some.inj h
  exact shasum_ok hc w
 ·exact absurd h (by simp)
def prng_Block.f (k : Nat) (a0 : ByteArray) (a1 : Int) : Option (ByteArray) := (oct_Put.f k a1 7).bind fun bt234 => (if bt234.2 = 0 then (if (a0.size : Int) > 64 then (some (⟨#[]⟩ : ByteArray)) else ((some (([((a0.size : Int)) % 256] : List Int) : List Int)).bind fun y236 => (if 1 + (strOfNums y236).size ≤ 9223372036854775807 then (if ((⟨#[2]⟩ : ByteArray) ++ (strOfNums y236)).size + a0.size ≤ 9223372036854775807 then (if (((⟨#[2]⟩ : ByteArray) ++ (strOfNums y236)) ++ a0).size + bt234.1.size ≤ 9223372036854775807 then ((sha_Sum.f ((((⟨#[2]⟩ : ByteArray) ++ (strOfNums y236)) ++ a0) ++ bt234.1)).bind fun t239 => (some t239)) else (none)) else (none)) else (none)))) else (some (⟨#[]⟩ : ByteArray)))
theorem prng_Block.calls (k : Nat) (a0 : ByteArray) (a1 : Int) (r : ByteArray) (w : World) (h : prng_Block.f k a0 a1 = some r) :
  Calls Tryz.prog 154 #[.string a0, .int .i64 a1] w fun e w' => e = .returned (.string r) ∧ Below w.heap.size w w' := by
 have HB := jo (Below.refl w.heap.size w)
 have H : ((oct_Put.f k a1 7).bind fun bt234 => (if bt234.2 = 0 then (if (a0.size : Int) > 64 then (some (⟨#[]⟩ : ByteArray)) else ((some (([((a0.size : Int)) % 256] : List Int) : List Int)).bind fun y236 => (if 1 + (strOfNums y236).size ≤ 9223372036854775807 then (if ((⟨#[2]⟩ : ByteArray) ++ (strOfNums y236)).size + a0.size ≤ 9223372036854775807 then (if (((⟨#[2]⟩ : ByteArray) ++ (strOfNums y236)) ++ a0).size + bt234.1.size ≤ 9223372036854775807 then ((sha_Sum.f ((((⟨#[2]⟩ : ByteArray) ++ (strOfNums y236)) ++ a0) ++ bt234.1)).bind fun t239 => (some t239)) else (none)) else (none)) else (none)))) else (some (⟨#[]⟩ : ByteArray)))) = some r := h
 clear h
 replace H := Option.bind_eq_some_iff.mp H
 obtain ⟨⟨t234, t235⟩, A30, H⟩ := H
 replace H : (if t235 = 0 then (if (a0.size : Int) > 64 then (some (⟨#[]⟩ : ByteArray)) else ((some (([((a0.size : Int)) % 256] : List Int) : List Int)).bind fun y236 => (if 1 + (strOfNums y236).size ≤ 9223372036854775807 then (if ((⟨#[2]⟩ : ByteArray) ++ (strOfNums y236)).size + a0.size ≤ 9223372036854775807 then (if (((⟨#[2]⟩ : ByteArray) ++ (strOfNums y236)) ++ a0).size + t234.size ≤ 9223372036854775807 then ((sha_Sum.f ((((⟨#[2]⟩ : ByteArray) ++ (strOfNums y236)) ++ a0) ++ t234)).bind fun t239 => (some t239)) else (none)) else (none)) else (none)))) else (some (⟨#[]⟩ : ByteArray))) = some r := H
 have A3 := jo A30
 clear A30
 by_cases c4 : t235 = 0
 ·rw [if_pos c4] at H
  have c4b0 : (t235 == 0) = true := beq_iff_eq.mpr c4
  have c4b1 : (t235 != 0) = false := bne_eq_false_iff_eq.mpr c4
  clear c4
  by_cases c5 : (a0.size : Int) > 64
  ·rw [if_pos c5] at H
   have c5b0 : decide (64 < (a0.size : Int)) = true := decide_eq_true c5
   have c5b1 : decide (64 < a0.size) = true := decide_eq_true (by omega)
   clear c5
   obtain rfl := Option.some.inj H
   go_enter Tryz.func154, Tryz.ntmps154
   go_wp2_with (first | ((with_reducible refine gate_callee (f := 169) rfl ?_); refine goesL_ (some 9) rfl rfl Tryz.func169 jw rfl #[.int .i64 a1, .int .i64 7] rfl jm ?_; (with_reducible refine (oct_Put.calls k a1 7 t234 t235 _ A3.out).mono ?_); rintro e w6 ⟨rfl, hb⟩; refine ⟨_, rfl, ?_⟩; have n0_ := jo (below_step jb hb); clear HB; have HB := n0_; clear n0_; (try clear hb); (try clear hb2); (try clear hk); (try clear hi)))
   go_ret
   exact ⟨je, jb⟩
  ·rw [if_neg c5] at H
   have c5b0 : decide (64 < (a0.size : Int)) = false := decide_eq_false c5
   have c5b1 : decide (64 < a0.size) = false := decide_eq_false (by omega)
   clear c5
   obtain ⟨y236, hy236⟩ : ∃ y_ : List Int, y_ = (([((a0.size : Int)) % 256] : List Int)) := ⟨_, rfl⟩
   replace H : (if 1 + (strOfNums y236).size ≤ 9223372036854775807 then (if ((⟨#[2]⟩ : ByteArray) ++ (strOfNums y236)).size + a0.size ≤ 9223372036854775807 then (if (((⟨#[2]⟩ : ByteArray) ++ (strOfNums y236)) ++ a0).size + t234.size ≤ 9223372036854775807 then ((sha_Sum.f ((((⟨#[2]⟩ : ByteArray) ++ (strOfNums y236)) ++ a0) ++ t234)).bind fun t239 => (some t239)) else (none)) else (none)) else (none)) = some r := by first | (rw [hy236]; with_reducible exact H) | (have H2_ := (Option.bind_some _ _).symm.trans H; rw [hy236]; with_reducible exact H2_) | (have H2_ := (Option.bind_some _ _).symm.trans H; with_reducible exact H2_) | with_reducible exact H | (rw [hy236]; exact H) | exact H
   have Ny236 := jo hy236
   clear hy236
   by_cases c7 : 1 + (strOfNums y236).size ≤ 9223372036854775807
   ·rw [if_pos c7] at H
    have c7b0 := eq_true c7
    have c7b1 : decide (1 + (strOfNums y236).size ≤ 9223372036854775807) = true := decide_eq_true c7
    try have c7b2 : (9223372036854775807 < 1 + (strOfNums y236).size) = False := eq_false (Nat.not_lt.2 c7)
    by_cases c8 : ((⟨#[2]⟩ : ByteArray) ++ (strOfNums y236)).size + a0.size ≤ 9223372036854775807
    ·rw [if_pos c8] at H
     have c8b0 := eq_true c8
     have c8b1 : decide (((⟨#[2]⟩ : ByteArray) ++ (strOfNums y236)).size + a0.size ≤ 9223372036854775807) = true := decide_eq_true c8
     try have c8b2 : (9223372036854775807 < ((⟨#[2]⟩ : ByteArray) ++ (strOfNums y236)).size + a0.size) = False := eq_false (Nat.not_lt.2 c8)
     by_cases c9 : (((⟨#[2]⟩ : ByteArray) ++ (strOfNums y236)) ++ a0).size + t234.size ≤ 9223372036854775807
     ·rw [if_pos c9] at H
      have c9b0 := eq_true c9
      have c9b1 : decide ((((⟨#[2]⟩ : ByteArray) ++ (strOfNums y236)) ++ a0).size + t234.size ≤ 9223372036854775807) = true := decide_eq_true c9
      try have c9b2 : (9223372036854775807 < (((⟨#[2]⟩ : ByteArray) ++ (strOfNums y236)) ++ a0).size + t234.size) = False := eq_false (Nat.not_lt.2 c9)
      replace H := Option.bind_eq_some_iff.mp H
      obtain ⟨t239, A100, H⟩ := H
      replace H : (some t239) = some r := H
      have A10 := jo A100
      clear A100
      obtain rfl := Option.some.inj H
      go_enter Tryz.func154, Tryz.ntmps154
      go_wp2_with (first | ((with_reducible refine gate_callee (f := 169) rfl ?_); refine goesL_ (some 9) rfl rfl Tryz.func169 jw rfl #[.int .i64 a1, .int .i64 7] rfl jm ?_; (with_reducible refine (oct_Put.calls k a1 7 t234 t235 _ A3.out).mono ?_); rintro e w11 ⟨rfl, hb⟩; refine ⟨_, rfl, ?_⟩; have n0_ := jo (below_step jb hb); clear HB; have HB := n0_; clear n0_; (try clear hb); (try clear hb2); (try clear hk); (try clear hi)) | ((with_reducible refine gate_dst (N := 22) rfl ?_); (try (refine gate_guard (by rfl) ?_; dsimp only)); refine Kd.R_lit (Kd.int .u8) _ 5 ?hg (N := 22) ?hd (xs := ([((a0.size : Int)) % 256] : List Int)) (inner := [.int .u8 (((a0.size : Int)) % 256)]) (ok := fun _ => True) (okp := fun _ => True) ?hr ?hp (fun _ hk => hk) trivial (Below.refl _ _) (Nat.le_refl _) (by simp) ?_; (case hd => rfl); (case hg => rfl); (case hr => first | (go_simp; done) | (go_simp; rfl)); (case hp => exact (Reps.one (show Kd.M (Kd.int .u8) _ _ _ (((a0.size : Int)) % 256) [.int .u8 (((a0.size : Int)) % 256)] from rfl) (Reps.none _ _))); intro v237 w12 ho13 hb hg_ hnew_; clear hg_ hnew_; (first | rw [← Ny236.out] at ho13 | (simp only [Int.reduceToNat] at ho13; rw [← Ny236.out] at ho13)); have n0_ := jo (Kd.R_lower ho13 (below_size jb)); have n1_ := jo (below_step jb hb); clear HB; have HO238 := n0_; have HB := n1_; clear n0_ n1_; clear hb ho13; have hcv14 := own_string (P := Tryz.prog) Tryz.underlying60 Tryz.underlying5 Tryz.underlying9 (Kd.own_of_R HO238.out)) | ((with_reducible refine gate_callee (f := 145) rfl ?_); refine goesL_ (some 29) rfl rfl Tryz.func145 jw rfl #[.string ((((⟨#[2]⟩ : ByteArray) ++ (strOfNums y236)) ++ a0) ++ t234)] rfl jm ?_; (with_reducible refine (sha_Sum.calls ((((⟨#[2]⟩ : ByteArray) ++ (strOfNums y236)) ++ a0) ++ t234) t239 _ A10.out).mono ?_); rintro e w15 ⟨rfl, hb⟩; refine ⟨_, rfl, ?_⟩; have n0_ := jo (Kd.R_below (jr HO238.out) hb); have n1_ := jo (below_step jb hb); clear HO238; clear HB; have HO238 := n0_; have HB := n1_; clear n0_ n1_; (try clear hb); (try clear hb2); (try clear hk); (try clear hi)))
      go_ret
      exact ⟨je, jb⟩
     ·rw [if_neg c9] at H
      exact absurd H (by simp)
    ·rw [if_neg c8] at H
     exact absurd H (by simp)
   ·rw [if_neg c7] at H
    exact absurd H (by simp)
 ·rw [if_neg c4] at H
  have c4b0 : (t235 == 0) = false := beq_eq_false_iff_ne.mpr c4
  have c4b1 : (t235 != 0) = true := bne_iff_ne.mpr c4
  obtain rfl := Option.some.inj H
  go_enter Tryz.func154, Tryz.ntmps154
  go_wp2_with (first | ((with_reducible refine gate_callee (f := 169) rfl ?_); refine goesL_ (some 9) rfl rfl Tryz.func169 jw rfl #[.int .i64 a1, .int .i64 7] rfl jm ?_; (with_reducible refine (oct_Put.calls k a1 7 t234 t235 _ A3.out).mono ?_); rintro e w16 ⟨rfl, hb⟩; refine ⟨_, rfl, ?_⟩; have n0_ := jo (below_step jb hb); clear HB; have HB := n0_; clear n0_; (try clear hb); (try clear hb2); (try clear hk); (try clear hi)))
  go_ret
  exact ⟨je, jb⟩
def oct_Get.l0 : Nat → ByteArray → Int → Option (Int)
 | 0, _, _ => none
 | k + 1, x0, x3 => if x0.toList = ([] : List UInt8) then (some x3) else (if 0 < (x0.size : Int) then (if 1 ≤ (x0.size : Int) then (oct_Get.l0 k (x0.extract 1 x0.size) (Go.bits .or .i64 (wrap64 (x3 * 256)) (wrap64 (bt x0 0)))) else (none)) else (none))
def oct_Get.f (k : Nat) (a0 : ByteArray) : Option (Int) := if (a0.size : Int) > 7 then (some 0) else (oct_Get.l0 k a0 0)
theorem oct_Get.calls (k : Nat) (a0 : ByteArray) (r : Int) (w : World) (h : oct_Get.f k a0 = some r) :
  Calls Tryz.prog 155 #[.string a0] w fun e w' => e = .returned (.int .i64 r) ∧ Drawn0 w w' := by
 have H : (if (a0.size : Int) > 7 then (some 0) else (oct_Get.l0 k a0 0)) = some r := h
 clear h
 by_cases c2 : (a0.size : Int) > 7
 ·rw [if_pos c2] at H
  have c2b0 : decide (7 < (a0.size : Int)) = true := decide_eq_true c2
  have c2b1 : decide (7 < a0.size) = true := decide_eq_true (by omega)
  clear c2
  obtain rfl := Option.some.inj H
  go_enter Tryz.func155, Tryz.ntmps155
  go_wp2_with (fail)
  refine Goto.wp_scope_lazy 0 rfl ?_
  intro KG HKG
  go_wp2
  repeat (go_quiet (fail); try go_wp2)
  (try simp only [Goto.jump_ret, Goto.jump_normal, Exit.then, Exit.inBlock])
  go_ret
  exact ⟨by first | rfl | (simp; done) | (simp [*]; done), jd⟩
 ·rw [if_neg c2] at H
  have c2b0 : decide (7 < (a0.size : Int)) = false := decide_eq_false c2
  have c2b1 : decide (7 < a0.size) = false := decide_eq_false (by omega)
  clear c2
  have H' := jo H
  clear H
  go_enter Tryz.func155, Tryz.ntmps155
  go_wp2_with (fail)
  refine Goto.wp_scope_lazy 0 rfl ?_
  intro KG HKG
  go_wp2
  repeat (go_quiet (fail); try go_wp2)
  refine Goto.label_ghost_put HKG (by assumption) [true, false, true, true, false, false, false, true, true, true, true, true, true, true, true, true, true, true] (fun kq vs_ w' => ∃ u0 u2 u3 u7 u8 u9 u10 u11 u12 u13 u14 u15 u16 u17 : Value, vs_ = [u0, u2, u3, u7, u8, u9, u10, u11, u12, u13, u14, u15, u16, u17] ∧ ∃ (x0_1 : ByteArray) (x3_1 : Int), u0 = .string x0_1 ∧ u3 = .int .i64 x3_1 ∧ Aside0 (oct_Get.l0 kq x0_1 x3_1 = some r) ∧ Aside0 (kq ≤ k) ∧ Drawn0 w w') k [_, _, _, _, _, _, _, _, _, _, _, _, _, _] ?atStart rfl ?round
  case atStart => exact ⟨_, _, _, _, _, _, _, _, _, _, _, _, _, _, rfl, (a0), (0), js, js, H', ⟨Nat.le_refl _⟩, jd⟩
  case round =>
   clear HKG
   intro gk vs_ wr hrel JG1 KG1 HJG1 HKG1
   clear H'
   try clear c1
   try clear c2
   try clear c2b0
   try clear c2b1
   try clear p2
   obtain ⟨u0, u2, u3, u7, u8, u9, u10, u11, u12, u13, u14, u15, u16, u17, hvs_, hrel⟩ := hrel
   subst hvs_
   obtain ⟨x0_1, x3_1, rfl, rfl, HA, HK1, ⟨m1, rfl⟩⟩ := hrel
   simp only [Goto.putFrame_mk, Goto.putAll_true, Goto.putAll_false, Goto.putAll_nil]
   cases gk with
   | zero => exact absurd HA.out (by simp [oct_Get.l0])
   | succ k1 =>
    have H := HA.out
    clear HA
    simp only [oct_Get.l0] at H
    by_cases c3 : x0_1.toList = ([] : List UInt8)
    ·rw [if_pos c3] at H
     have c3b0 : (x0_1.toList == ([] : List UInt8)) = true := beq_iff_eq.mpr c3
     have c3b1 : (x0_1.toList != ([] : List UInt8)) = false := bne_eq_false_iff_eq.mpr c3
     clear c3
     obtain rfl := Option.some.inj H
     go_wp2
     repeat (go_quiet (fail); try go_wp2)
     (try simp only [Goto.jump_ret, Goto.jump_normal, Exit.then, Exit.inBlock])
     go_ret
     exact ⟨by first | rfl | (simp; done) | (simp [*]; done), jd⟩
    ·rw [if_neg c3] at H
     have c3b0 : (x0_1.toList == ([] : List UInt8)) = false := beq_eq_false_iff_ne.mpr c3
     have c3b1 : (x0_1.toList != ([] : List UInt8)) = true := bne_iff_ne.mpr c3
     by_cases c4 : 0 < (x0_1.size : Int)
     ·rw [if_pos c4] at H
      have c4b0 : decide (0 < (x0_1.size : Int)) = true := decide_eq_true c4
      have c4b1 : decide (0 < x0_1.size) = true := decide_eq_true (by omega)
      clear c4
      by_cases c6 : 1 ≤ (x0_1.size : Int)
      ·rw [if_pos c6] at H
       have c6b0 := eq_true c6
       have c6b1 : decide (1 ≤ (x0_1.size : Int)) = true := decide_eq_true c6
       clear c6
       have H' := jo H
       clear H
       have p5 : 0 ≤ (0 : Int) := (by omega)
       have q5 : 0 < x0_1.size := (by have : (0 : Int) < (x0_1.size : Int) := of_decide_eq_true ja; omega)
       have hx5 : ∀ h : 0 < x0_1.size, ((x0_1[0]'h).toNat : Int) = bt x0_1 0 := bt_at x0_1 0
       clear p5
       have qi5 : (0 < (x0_1.size : Int)) = True := eq_true (of_decide_eq_true ja)
       replace q5 := eq_true q5
       go_wp2
       repeat (go_quiet (fail); try go_wp2)
       apply wp_goto
       (try simp only [Exit.then, Exit.inBlock])
       refine Goto.goto_put HKG1 HJG1 k1 [_, _, _, _, _, _, _, _, _, _, _, _, _, _] ?measure rfl ?rel
       case measure => have := HK1.out; omega
       case rel => exact ⟨_, _, _, _, _, _, _, _, _, _, _, _, _, _, rfl, (x0_1.extract 1 x0_1.size), (Go.bits .or .i64 (wrap64 (x3_1 * 256)) (wrap64 (bt x0_1 0))), js, js, H', ⟨by have := HK1.out; omega⟩, jd⟩
      ·rw [if_neg c6] at H
       exact absurd H (by simp)
     ·rw [if_neg c4] at H
      exact absurd H (by simp)
def prng_may.f (a0 : Int) : Option (Bool) := if a0 ≥ 1 then (some (decide (a0 ≤ 2147483647))) else (some false)
theorem prng_may.calls (a0 : Int) (r : Bool) (w : World) (h : prng_may.f a0 = some r) :
  Calls Tryz.prog 171 #[.int .i64 a0] w fun e w' => e = .returned (.bool r) ∧ Drawn0 w w' := by
 have H : (if a0 ≥ 1 then (some (decide (a0 ≤ 2147483647))) else (some false)) = some r := h
 clear h
 by_cases c2 : a0 ≥ 1
 ·rw [if_pos c2] at H
  have c2b0 : decide (1 ≤ a0) = true := decide_eq_true c2
  clear c2
  obtain rfl := Option.some.inj H
  go_enter Tryz.func171, Tryz.ntmps171
  go_wp2
  go_ret
  exact ⟨by first | rfl | (simp; done) | (simp [*]; done), jd⟩
 ·rw [if_neg c2] at H
  have c2b0 : decide (1 ≤ a0) = false := decide_eq_false c2
  clear c2
  obtain rfl := Option.some.inj H
  go_enter Tryz.func171, Tryz.ntmps171
  go_wp2
  go_ret
  exact ⟨by first | rfl | (simp; done) | (simp [*]; done), jd⟩
def prng_bound.f (a0 : Int) : Option (Int) := if a0 = 0 then (none) else (some (wrap64 (4294967296 - ((4294967296 : Int) % a0))))
theorem prng_bound.calls (a0 : Int) (r : Int) (w : World) (h : prng_bound.f a0 = some r) :
  Calls Tryz.prog 172 #[.int .i64 a0] w fun e w' => e = .returned (.int .i64 r) ∧ Drawn0 w w' := by
 have H : (if a0 = 0 then (none) else (some (wrap64 (4294967296 - ((4294967296 : Int) % a0))))) = some r := h
 clear h
 by_cases c2 : a0 = 0
 ·rw [if_pos c2] at H
  exact absurd H (by simp)
 ·rw [if_neg c2] at H
  have c2b0 : (a0 == 0) = false := beq_eq_false_iff_ne.mpr c2
  have c2b1 : (a0 != 0) = true := bne_iff_ne.mpr c2
  obtain rfl := Option.some.inj H
  go_enter Tryz.func172, Tryz.ntmps172
  go_wp2
  go_ret
  exact ⟨by first | rfl | (simp; done) | (simp [*]; done), jd⟩
def putB (x y : Int) : ByteArray := ((oct_Put.f 20 x y).map (·.1)).getD ⟨#[]⟩
theorem put_l0 (k : Nat) : ∀ (x : Int) (xs : List Int) (j : Int), -1 ≤ j → j + 1 < k → (xs.length : Int) + (j + 1) ≤ 100 → j ≤ 6 → ∃ r : ByteArray, oct_Put.l0 k x xs j = some (r, 0) ∧ (r.size : Int) = xs.length + (j + 1) := by
 induction k with
 | zero => intro x xs j h1 h2 h3 h4; omega
 | succ k ih =>
  intro x xs j h1 h2 h3 h4
  rw [oct_Put.l0.eq_2]
  by_cases h : j ≥ 0
  ·have w1 : wrap64 (8 * j) = 8 * j := by unfold wrap64; omega
   have w2 : wrap64 (j - 1) = j - 1 := by unfold wrap64; omega
   rw [if_pos h, w1, w2, if_pos (by omega), if_pos (by omega)]
   obtain ⟨r, e1, e2⟩ := ih x (xs ++ [shr .i64 x (8 * j) % 256]) (j - 1) (by omega) (by omega) (by rw [List.length_append, List.length_singleton]; omega) (by omega)
   refine ⟨r, e1, ?_⟩
   rw [e2, List.length_append, List.length_singleton]
   omega
  ·rw [if_neg h]
   refine ⟨_, rfl, ?_⟩
   rw [strOfNums_size]
   omega
theorem put_spec {x y : Int} (hx : 0 ≤ x) (h1 : 1 ≤ y) (h7 : y ≤ 7) (hs : x < 2 ^ (8 * y).toNat) : oct_Put.f 20 x y = some (putB x y, 0) ∧ ((putB x y).size : Int) = y := by
 have w1 : wrap64 (8 * y) = 8 * y := by unfold wrap64; omega
 have w2 : wrap64 (y - 1) = y - 1 := by unfold wrap64; omega
 have hz : shr .i64 x (8 * y) = 0 := by
  show x / 2 ^ min (8 * y).toNat 64 = 0
  rw [Nat.min_eq_left (by omega)]
  exact Int.ediv_eq_zero_of_lt hx hs
 obtain ⟨r, e1, e2⟩ := put_l0 19 x [] (y - 1) (by omega) (by omega) (by simp; omega) (by omega)
 have he : oct_Put.f 20 x y = some (r, 0) := by
  unfold oct_Put.f
  rw [if_neg (by omega), decide_eq_false (show ¬ y > 7 by omega), oct_Put.j0.eq_2, if_neg (by decide), if_neg (by omega), w1, if_pos (by omega), if_pos hz, w2]
  exact e1
 have hr : putB x y = r := by unfold putB; rw [he]; rfl
 rw [he, hr]
 exact ⟨rfl, by rw [e2]; simp⟩
def blkF (key : ByteArray) (m : Int) : ByteArray := shaF ((((⟨#[2]⟩ : ByteArray) ++ (strOfNums [(key.size : Int) % 256])) ++ key) ++ putB m 7)
theorem blkF_size (key : ByteArray) (m : Int) : (blkF key m).size = 32 := shaF_size _
theorem block_spec {key : ByteArray} {m : Int} (hk : key.size ≤ 64) (h0 : 0 ≤ m) (h1 : m ≤ 1000000) : prng_Block.f 20 key m = some (blkF key m) := by
 obtain ⟨e1, e2⟩ := put_spec (x := m) (y := 7) h0 (by decide) (by decide) (by
  show m < 2 ^ 56
  omega)
 have s1 : (strOfNums [(key.size : Int) % 256]).size = 1 := by rw [strOfNums_size]; rfl
 have s0 : (⟨#[2]⟩ : ByteArray).size = 1 := rfl
 have s2 : ((⟨#[2]⟩ : ByteArray) ++ strOfNums [(key.size : Int) % 256]).size = 2 := by rw [ByteArray.size_append, s1, s0]
 have s3 : (((⟨#[2]⟩ : ByteArray) ++ strOfNums [(key.size : Int) % 256]) ++ key).size = 2 + key.size := by rw [ByteArray.size_append, s2]
 have s4 : ((((⟨#[2]⟩ : ByteArray) ++ strOfNums [(key.size : Int) % 256]) ++ key) ++ putB m 7).size = 2 + key.size + (putB m 7).size := by rw [ByteArray.size_append, s3]
 unfold prng_Block.f
 rw [e1, Option.bind_some, if_pos rfl, if_neg (by omega), Option.bind_some, if_pos (by rw [s1]; decide), if_pos (by rw [s2]; omega), if_pos (by rw [s3]; show 2 + key.size + (putB m 7).size ≤ _; omega)]
 unfold sha_Sum.f
 rw [if_pos (by rw [s4]; omega)]
 rfl
def getF (s : ByteArray) : Int := (oct_Get.f 20 s).getD 0
theorem get_l0 (k : Nat) : ∀ (s : ByteArray) (x : Int), s.size < k → ∃ r, oct_Get.l0 k s x = some r := by
 induction k with
 | zero => intro s x h; omega
 | succ k ih =>
  intro s x h
  rw [oct_Get.l0.eq_2]
  by_cases h0 : 0 < s.size
  ·have hne : ¬ s.toList = [] := by
    intro e
    have := nonempty h0
    rw [e] at this
    cases this
   rw [if_neg hne, if_pos (by omega), if_pos (by omega)]
   exact ih _ _ (by rw [ByteArray.size_extract]; omega)
  ·have he : s.toList = [] := by
    have := empty_of h0
    simpa using this
   rw [if_pos he]
   exact ⟨_, rfl⟩
theorem get_spec {s : ByteArray} (h : s.size ≤ 7) : oct_Get.f 20 s = some (getF s) := by
 obtain ⟨r, e⟩ := get_l0 20 s 0 (by omega)
 unfold getF oct_Get.f
 rw [if_neg (by omega), e]
 rfl
def wordAt (key : ByteArray) (n : Nat) : Int := IntKind.u32.wrap (getF ((blkF key (n / 8 : Nat)).extract (4 * (n % 8)) (4 * (n % 8) + 4)))
theorem wordAt_lt (key : ByteArray) (n : Nat) : 0 ≤ wordAt key n ∧ wordAt key n < 4294967296 := by
 unfold wordAt
 show 0 ≤ _ % _ ∧ _ % _ < _
 have : (IntKind.u32.wrap (getF ((blkF key (n / 8 : Nat)).extract (4 * (n % 8)) (4 * (n % 8) + 4)))) = (getF ((blkF key (n / 8 : Nat)).extract (4 * (n % 8)) (4 * (n % 8) + 4))) % 4294967296 := rfl
 constructor
 ·exact Int.emod_nonneg _ (by decide)
 ·exact Int.emod_lt_of_pos _ (by decide)
def bnd (m : Int) : Int := wrap64 (4294967296 - ((4294967296 : Int) % m))
def tries (key : ByteArray) (m : Int) : Nat → Nat → Int → Int × Nat
 | 0, pos, x => (x, pos)
 | k + 1, pos, _ => if wordAt key pos < bnd m then (wordAt key pos, pos + 1) else tries key m k (pos + 1) (wordAt key pos)
theorem tries_spec (key : ByteArray) (m : Int) (k : Nat) : ∀ (pos : Nat) (x : Int), 0 ≤ x → x < 4294967296 → 0 ≤ (tries key m k pos x).1 ∧ (tries key m k pos x).1 < 4294967296 ∧ (tries key m k pos x).2 ≤ pos + k := by
 induction k with
 | zero => intro pos x h0 h1; exact ⟨h0, h1, by show pos ≤ pos + 0; omega⟩
 | succ k ih =>
  intro pos x h0 h1
  have hw := wordAt_lt key pos
  unfold tries
  split
  ·exact ⟨hw.1, hw.2, by show pos + 1 ≤ _; omega⟩
  ·have := ih (pos + 1) _ hw.1 hw.2
   exact ⟨this.1, this.2.1, by omega⟩
def belowF (key : ByteArray) (m : Int) (pos : Nat) : Int × Nat := (Int.tmod (tries key m 8 pos 0).1 m, (tries key m 8 pos 0).2)
theorem belowF_spec (key : ByteArray) {m : Int} (pos : Nat) (hm : 1 ≤ m) : 0 ≤ (belowF key m pos).1 ∧ (belowF key m pos).1 < m ∧ (belowF key m pos).2 ≤ pos + 8 := by
 have h := tries_spec key m 8 pos 0 (by decide) (by decide)
 exact ⟨Int.tmod_nonneg _ h.1, Int.tmod_lt_of_pos _ (by omega), h.2.2⟩
def swp (l : List Int) (i j : Nat) : List Int := (l.set i (rd l (j : Int))).set j (rd l (i : Int))
def ints (n : Nat) : List Int := (List.range n).map (fun (k : Nat) => (k : Int))
theorem swp_length (l : List Int) (i j : Nat) : (swp l i j).length = l.length := by simp [swp]
theorem swp_perm {l : List Int} {i j : Nat} (hi : i < l.length) (hj : j < l.length) : (swp l i j).Perm l := by
 unfold swp
 rw [rd_get hi, rd_get hj]
 exact List.set_set_perm hi hj
end Go.Proofs.YtjmooillogojkaaGreat.Q
