/- inact.Unknowns and inact.both walked. No condition. -/
import Derived.Test.YtjmooillogojkaaGreatM15
set_option maxHeartbeats 8000000
set_option maxRecDepth 100000
set_option linter.unusedVariables false
set_option linter.unusedSimpArgs false
namespace Go.Proofs.YtjmooillogojkaaGreat.Q
open Go.RowKit Go.Proofs.YtjmooillogojkaaGreatW.PrintWords Go.Proofs.YtjmooillogojkaaGreatW.PrintLast Go.Proofs.YtjmooillogojkaaGreatW.PrintMore
open Go.Proofs.YtjmooillogojkaaGreat
theorem sortI_rises (l : List Int) : (sortI l).Pairwise (· ≤ ·) := by
 have h := List.pairwise_mergeSort (le := fun x y : Int => decide (x ≤ y)) (fun a b c h1 h2 => by simp at *; omega) (fun a b => by simp; omega) l
 exact h.imp (fun h => of_decide_eq_true h)
theorem sortI_ok {n : Int} {l : List Int} (hn : l.Nodup) (hb : ∀ i ∈ l, 0 ≤ i ∧ i < n) : rowOk n (sortI l) := by
 have hp := sortI_perm l
 have hnd : (sortI l).Nodup := hp.nodup_iff.2 hn
 have hr := sortI_rises l
 intro k hk
 have hm := hb _ (hp.mem_iff.1 (List.getElem_mem hk))
 refine ⟨hm.1, hm.2, fun j hj => ?_⟩
 have h1 := List.pairwise_iff_getElem.1 hr j k (by omega) hk (by omega)
 have h2 := List.pairwise_iff_getElem.1 (List.nodup_iff_pairwise_ne.1 hnd) j k (by omega) hk (by omega)
 omega
theorem sortI_mem {l : List Int} {i : Int} : i ∈ sortI l ↔ i ∈ l := (sortI_perm l).mem_iff
def unkOk (n : Nat) (L : List (List Int)) (U : List Int) : Prop := rowOk n U ∧ (∀ i ∈ U, ∃ r ∈ L, i ∈ r) ∧ ∀ i, (∃ r ∈ L, i ∈ r) → Cl L (· ∈ U) i
theorem inAny_iff {L : List (List Int)} {i : Int} : inAny L i = true ↔ ∃ r ∈ L, i ∈ r := by
 unfold inAny
 rw [List.any_eq_true]
 exact ⟨fun ⟨r, h1, h2⟩ => ⟨r, h1, of_decide_eq_true h2⟩, fun ⟨r, h1, h2⟩ => ⟨r, h1, decide_eq_true h2⟩⟩
theorem unk_of {n : Nat} {L : List (List Int)} {O : List Int} (hL : rowsIn n L) (h : needsOk n L O) : unkOk n L (sortI (O.filter (inAny L))) := by
 obtain ⟨h1, h2, h3⟩ := h
 refine ⟨sortI_ok (h2.sublist List.filter_sublist) (fun i hi => h3 i (List.mem_filter.1 hi).1), fun i hi => inAny_iff.1 (List.mem_filter.1 (sortI_mem.1 hi)).2, fun i hi => ?_⟩
 have hlt : 0 ≤ i ∧ i < (n : Int) := by
  obtain ⟨r, hr, hir⟩ := hi
  exact rowOk_in (hL.2.2 r hr) i hir
 have key : ∀ i, Cl L (· ∈ O) i → (∃ r ∈ L, i ∈ r) → Cl L (· ∈ sortI (O.filter (inAny L))) i := by
  intro i hc
  induction hc with
  | base h => exact fun hi => .base (sortI_mem.2 (List.mem_filter.2 ⟨h, inAny_iff.2 hi⟩))
  | step hr hi _ ih => exact fun _ => .step hr hi (fun j hj hne => ih j hj hne ⟨_, hr, hj⟩)
 exact key i (h1 i hlt.1 hlt.2) hi
theorem predW104 {B : Nat} {A : Option Addr} {c : Nat} {L : List (List Int)} {w : World} (hB : w.heap[B]? = some (.cells #[.slice A L.length c] 38 (0, 0))) (hr : Kd.C (Kd.slice 3 (Kd.int .i64)) w A L.length L) (hc : L.length ≤ c) (hm : ∀ l ∈ L, l.length < 1000000) : PredW 104 #[.pointer (some ⟨B, 0, none⟩)] (fun i => !inAny L i) w := by
 intro W i hb
 have hc' : W.cell? ⟨B, 0, none⟩ = some (.slice A L.length c) := blk_cell (blk_below hB hb) 0
 have HI := jo (inRow_ok (i := i) W (Kd.C_below hr hb) hc hm)
 clear hB hr hm hb
 show Calls Tryz.prog 104 #[.int .i64 i, .pointer (some ⟨B, 0, none⟩)] W _
 go_enter Tryz.func104, Tryz.ntmps104
 go_wp2_with (go_at_call 105; (with_reducible refine HI.out.mono ?_); rintro e w1 ⟨rfl, hb1⟩; have H1 := jo hb1; clear hb1)
 go_ret
 exact ⟨rfl, H1.out⟩
theorem unknowns_ok {A : Option Addr} {c n : Nat} {L : List (List Int)} (w : World) (hr : Kd.C (Kd.slice 3 (Kd.int .i64)) w A L.length L) (hc : L.length ≤ c) (hL : rowsIn n L) (hn : 1 ≤ n) :
  Calls Tryz.prog 62 #[.int .i64 n, .slice A L.length c] w fun e w' => ∃ v U, e = .returned (.tuple #[v, .int .i64 0]) ∧ Kd.R (Kd.int .i64) 3 w' w.heap.size (fun _ => True) v U ∧ Below w.heap.size w w' ∧ unkOk n L U := by
 have HR := jo hr
 have HN := jo (fun W (hb : Below w.heap.size w W) => needs_ok W (Kd.C_below hr hb) hc hL hn)
 have hmL : ∀ l ∈ L, l.length < 1000000 := fun l hl => by have := rowOk_len (hL.2.2 l hl); have := hL.1; omega
 have HML := jo hmL
 have HUN := jo (fun O (h : needsOk n L O) => unk_of hL h)
 have HNL : Aside0 (∀ O, needsOk n L O → O.length < 1000000) := ⟨fun O h => by
  have h1 := rowOk_len (sortI_ok (n := (n : Int)) h.2.1 h.2.2)
  rw [sortI_length] at h1
  have := hL.1
  omega⟩
 have e104 := enters_of (P := Tryz.prog) (f := 104) Tryz.func104 jw rfl
 clear hr hL hmL
 go_enter Tryz.func62, Tryz.ntmps62
 go_wp2_with fail
 have p1 : Below w.heap.size w (w.alloc (.cells #[.slice A L.length c] 38)) := below_alloc (Below.refl _ _) _
 have k1 : (w.alloc (.cells #[.slice A L.length c] 38)).heap[w.heap.size]? = some (.cells #[.slice A L.length c] 38 (0, 0)) := blk_new w _
 generalize w.alloc (.cells #[.slice A L.length c] 38) = W1 at p1 k1 ⊢
 (with_reducible refine (HN.out _ p1).mono ?_)
 rintro e w2 ⟨v2, O, rfl, ho2, hb2, hok⟩
 have HP := jo (predW104 k1 (Kd.C_below HR.out p1) hc HML.out)
 have H2 := jo (And.intro ho2 (And.intro hb2 (And.intro p1 (And.intro (HUN.out O hok) (HNL.out O hok)))))
 clear k1 ho2 hb2 hok p1
 go_wp2_with (first | (go_at_call 103; (with_reducible refine (delf_r e104 HP.out H2.out.2.1 H2.out.1 H2.out.2.2.2.2).mono ?_); rintro e w3 ⟨v3, rfl, ho3, hb3⟩; have H3 := jo (And.intro ho3 hb3); clear ho3 hb3) | (go_at_call 46; (with_reducible refine (sort_r H3.out.2 H3.out.1 (Nat.lt_of_le_of_lt (List.length_filter_le _ _) H2.out.2.2.2.2)).mono ?_); rintro e w4 ⟨rfl, ho4, hb4⟩; have H4 := jo (And.intro ho4 hb4); clear ho4 hb4))
 go_ret2
 refine ⟨v3, _, rfl, Kd.R_mono (Kd.R_lower H4.out.1 H2.out.2.2.1.size) (fun _ _ => trivial), below_step H2.out.2.2.1 H4.out.2, ?_⟩
 have := H2.out.2.2.2.1
 simpa using this
def bothF (a b : List Int) : List Int := sortI (a.filter (fun i => decide (i ∉ b)) ++ b.filter (fun i => decide (i ∉ a)))
theorem filter_snoc {p : Int → Bool} {l : List Int} {k : Nat} (hk : k < l.length) : (l.take (k + 1)).filter p = (l.take k).filter p ++ (if p l[k] then [l[k]] else []) := filter_take p l k hk
theorem filter_len (p : Int → Bool) (l : List Int) (k : Nat) : ((l.take k).filter p).length ≤ k := Nat.le_trans (List.length_filter_le _ _) (by rw [List.length_take]; omega)
theorem lens6 {a b : Nat} (h : a ≤ b) (hb : b < 200000) : (a + 1) * 8 ≤ 140737488355328 := by omega
theorem both_ok {A B : Option Addr} {ca cb : Nat} {a b : List Int} (w : World) (hra : Kd.C (Kd.int .i64) w A a.length a) (hca : a.length ≤ ca) (hrb : Kd.C (Kd.int .i64) w B b.length b) (hcb : b.length ≤ cb) (ha : a.length < 100000) (hb : b.length < 100000) :
  Calls Tryz.prog 67 #[.slice A a.length ca, .slice B b.length cb] w fun e w' => ∃ v, e = .returned v ∧ Kd.R (Kd.int .i64) 3 w' w.heap.size (fun _ => True) v (bothF a b) ∧ Below w.heap.size w w' := by
 have HA := jo hra
 have HB := jo hrb
 have HCA : Aside0 (∀ W i, Below w.heap.size w W → Calls Tryz.prog 27 #[.slice A a.length ca, .int .i64 i] W fun e w' => e = .returned (.bool (decide (i ∈ a))) ∧ Below W.heap.size W w') := ⟨fun W i hb' => contains_ok W (Kd.C_below hra hb') hca (by omega)⟩
 have HCB : Aside0 (∀ W i, Below w.heap.size w W → Calls Tryz.prog 27 #[.slice B b.length cb, .int .i64 i] W fun e w' => e = .returned (.bool (decide (i ∈ b))) ∧ Below W.heap.size W w') := ⟨fun W i hb' => contains_ok W (Kd.C_below hrb hb') hcb (by omega)⟩
 have HL := jo (And.intro ha hb)
 clear hra hrb
 go_enter Tryz.func67, Tryz.ntmps67
 go_wp2
 go_loopg [5, 7, 12] a.length (fun gk v5 v7 v12 wr => ∃ k : Nat, v12 = .int .i64 k ∧ Aside0 (k + gk = a.length ∧ Kd.R (Kd.int .i64) 3 wr w.heap.size (fun _ => True) v5 ((a.take k).filter (fun i => decide (i ∉ b))) ∧ Below w.heap.size w wr))
 case atStart => exact ⟨0, rfl, ⟨by omega, Kd.R_nil _ _ _ _ _, Below.refl _ _⟩⟩
 case round =>
  obtain ⟨k, rfl, HR⟩ := hrel
  by_cases hlt : k < a.length
  ·have d1 : decide ((k : Int) < (a.length : Int)) = true := decide_eq_true (by omega)
   have d2 : decide (k < a.length) = true := decide_eq_true hlt
   obtain ⟨gq, rfl⟩ : ∃ q, gk = q + 1 := ⟨gk - 1, by have := HR.out.1; omega⟩
   obtain ⟨ad, rfl, hcell⟩ := Kd.at_int (Kd.C_below HA.out HR.out.2.2) (k : Int) (by omega) (by omega)
   rw [rd_get hlt, Int.toNat_natCast] at hcell
   have hfs := filter_snoc (p := fun i => decide (i ∉ b)) hlt
   have hfl := filter_len (fun i => decide (i ∉ b)) a k
   have hk2 : k < 200000 := by have := HL.out.1; omega
   have hcall := HCB.out wr a[k] HR.out.2.2
   obtain ⟨x, hx⟩ : ∃ x, x = a[k] := ⟨_, rfl⟩
   rw [← hx] at hcell hfs hcall
   obtain ⟨A5, c5, e5⟩ := Kd.R_slice HR.out.2.1
   subst e5
   generalize (a.take k).filter (fun i => decide (i ∉ b)) = acc at HR hfs hfl
   by_cases hxb : x ∈ b
   ·rw [decide_eq_true hxb] at hcall
    have HF : Aside0 ((a.take (k + 1)).filter (fun i => decide (i ∉ b)) = acc) := ⟨by rw [hfs, if_neg (by simp [hxb]), List.append_nil]⟩
    have HQ := jo hcall
    clear hfs hcall hx hxb
    go_wp2_with (go_at_call 27; (with_reducible refine HQ.out.mono ?_); rintro e w2 ⟨rfl, hb2⟩)
    go_roundg gq
    case measure => omega
    case rel => exact ⟨k + 1, rfl, ⟨by have := HR.out.1; omega, by rw [HF.out]; exact Kd.R_below HR.out.2.1 hb2, below_step HR.out.2.2 hb2⟩⟩
   ·rw [decide_eq_false hxb] at hcall
    have HF : Aside0 ((a.take (k + 1)).filter (fun i => decide (i ∉ b)) = acc ++ [x]) := ⟨by rw [hfs, if_pos (by simp [hxb])]⟩
    have HQ := jo hcall
    clear hfs hcall hx hxb
    go_wp2_with (first | (go_at_call 27; (with_reducible refine HQ.out.mono ?_); rintro e w2 ⟨rfl, hb2⟩; have H2 := jo (And.intro (Kd.R_below HR.out.2.1 hb2) (below_step HR.out.2.2 hb2)); clear hb2) | ((with_reducible refine gate_builtin (b := .append) (xs := #[.tmp 20, .tmp 22]) rfl ?_); at_builtin; refine Kd.R_append (Kd.int .i64) (w0 := w) w.heap.size rfl (.tmp 20) (.tmp 22) 44 3 (.int .i64 0) 8 rfl Tryz.underlying44 info3 rfl (by decide) (by omega) (.slice A5 acc.length c5) acc x [.int .i64 x] (fun _ => True) (fun _ => False) rfl (rfl) ?aP (fun _ hk => hk.elim) ?aF ?aO ?aB ?aS ?aL ?_; (case aP => exact rfl); (case aB => exact (by repeat (first | (with_reducible first | exact H2.out.2 | apply below_alloc) | exact H2.out.2))); (case aF => exact (fun _ _ => trivial)); (case aO => exact (jr H2.out.1)); (case aS => exact (below_size (by repeat (first | (with_reducible first | exact H2.out.2 | apply below_alloc) | exact H2.out.2)))); (case aL => exact lens6 hfl hk2); intro v5 w7 ho hb hg hat; have R7 := jo (And.intro ho hb); clear ho hb hg hat))
    go_roundg gq
    case measure => omega
    case rel => exact ⟨k + 1, rfl, ⟨by have := HR.out.1; clear R7; omega, by rw [HF.out]; exact R7.out.1, R7.out.2⟩⟩
  ·have d1 : decide ((k : Int) < (a.length : Int)) = false := decide_eq_false (by omega)
   have d2 : decide (k < a.length) = false := decide_eq_false hlt
   have e1 : k = a.length := by have := HR.out.1; omega
   subst e1
   have HR1 := jo HR.out.2
   rw [List.take_length] at HR1
   clear HR
   generalize hacc : a.filter (fun i => decide (i ∉ b)) = acc at HR1
   have hal : acc.length < 100000 := by rw [← hacc]; exact Nat.lt_of_le_of_lt (List.length_filter_le _ _) HL.out.1
   go_wp2
   go_loopg [5, 9, 27] b.length (fun gk v5 v9 v27 wr => ∃ k : Nat, v27 = .int .i64 k ∧ Aside0 (k + gk = b.length ∧ Kd.R (Kd.int .i64) 3 wr w.heap.size (fun _ => True) v5 (acc ++ (b.take k).filter (fun i => decide (i ∉ a))) ∧ Below w.heap.size w wr))
   case atStart => exact ⟨0, rfl, ⟨by omega, by simpa using HR1.out.1, HR1.out.2⟩⟩
   case round =>
    obtain ⟨k, rfl, HR⟩ := hrel
    clear HR1
    by_cases hlt : k < b.length
    ·have d1 : decide ((k : Int) < (b.length : Int)) = true := decide_eq_true (by omega)
     have d2 : decide (k < b.length) = true := decide_eq_true hlt
     obtain ⟨gq, rfl⟩ : ∃ q, gk = q + 1 := ⟨gk - 1, by have := HR.out.1; omega⟩
     obtain ⟨ad, rfl, hcell⟩ := Kd.at_int (Kd.C_below HB.out HR.out.2.2) (k : Int) (by omega) (by omega)
     rw [rd_get hlt, Int.toNat_natCast] at hcell
     have hfs := filter_snoc (p := fun i => decide (i ∉ a)) hlt
     have hfl := filter_len (fun i => decide (i ∉ a)) b k
     have hk2 : k + acc.length < 200000 := by have := HL.out.2; omega
     have hcall := HCA.out wr b[k] HR.out.2.2
     obtain ⟨x, hx⟩ : ∃ x, x = b[k] := ⟨_, rfl⟩
     rw [← hx] at hcell hfs hcall
     obtain ⟨A5, c5, e5⟩ := Kd.R_slice HR.out.2.1
     subst e5
     have hfl2 : (acc ++ (b.take k).filter (fun i => decide (i ∉ a))).length ≤ k + acc.length := by rw [List.length_append]; omega
     have hfs : acc ++ (b.take (k + 1)).filter (fun i => decide (i ∉ a)) = (acc ++ (b.take k).filter (fun i => decide (i ∉ a))) ++ (if (fun i => decide (i ∉ a)) x then [x] else []) := by rw [hfs, List.append_assoc]
     generalize acc ++ (b.take k).filter (fun i => decide (i ∉ a)) = tot at HR hfs hfl2
     by_cases hxb : x ∈ a
     ·rw [decide_eq_true hxb] at hcall
      have HF : Aside0 (acc ++ (b.take (k + 1)).filter (fun i => decide (i ∉ a)) = tot) := ⟨by rw [hfs, if_neg (by simp [hxb]), List.append_nil]⟩
      have HQ := jo hcall
      clear hfs hcall hx hxb hfl
      go_wp2_with (go_at_call 27; (with_reducible refine HQ.out.mono ?_); rintro e w2 ⟨rfl, hb2⟩)
      go_roundg gq
      case measure => omega
      case rel => exact ⟨k + 1, rfl, ⟨by have := HR.out.1; omega, by rw [HF.out]; exact Kd.R_below HR.out.2.1 hb2, below_step HR.out.2.2 hb2⟩⟩
     ·rw [decide_eq_false hxb] at hcall
      have HF : Aside0 (acc ++ (b.take (k + 1)).filter (fun i => decide (i ∉ a)) = tot ++ [x]) := ⟨by rw [hfs, if_pos (by simp [hxb])]⟩
      have HQ := jo hcall
      clear hfs hcall hx hxb hfl
      go_wp2_with (first | (go_at_call 27; (with_reducible refine HQ.out.mono ?_); rintro e w2 ⟨rfl, hb2⟩; have H2 := jo (And.intro (Kd.R_below HR.out.2.1 hb2) (below_step HR.out.2.2 hb2)); clear hb2) | ((with_reducible refine gate_builtin (b := .append) (xs := #[.tmp 35, .tmp 37]) rfl ?_); at_builtin; refine Kd.R_append (Kd.int .i64) (w0 := w) w.heap.size rfl (.tmp 35) (.tmp 37) 44 3 (.int .i64 0) 8 rfl Tryz.underlying44 info3 rfl (by decide) (by omega) (.slice A5 tot.length c5) tot x [.int .i64 x] (fun _ => True) (fun _ => False) rfl (rfl) ?aP (fun _ hk => hk.elim) ?aF ?aO ?aB ?aS ?aL ?_; (case aP => exact rfl); (case aB => exact (by repeat (first | (with_reducible first | exact H2.out.2 | apply below_alloc) | exact H2.out.2))); (case aF => exact (fun _ _ => trivial)); (case aO => exact (jr H2.out.1)); (case aS => exact (below_size (by repeat (first | (with_reducible first | exact H2.out.2 | apply below_alloc) | exact H2.out.2)))); (case aL => exact lens6 hfl2 hk2); intro v5 w7 ho hb hg hat; have R7 := jo (And.intro ho hb); clear ho hb hg hat))
      go_roundg gq
      case measure => omega
      case rel => exact ⟨k + 1, rfl, ⟨by have := HR.out.1; clear R7; omega, by rw [HF.out]; exact R7.out.1, R7.out.2⟩⟩
    ·have d1 : decide ((k : Int) < (b.length : Int)) = false := decide_eq_false (by omega)
     have d2 : decide (k < b.length) = false := decide_eq_false hlt
     have e1 : k = b.length := by have := HR.out.1; omega
     subst e1
     have HR2 := jo HR.out.2
     rw [List.take_length, ← hacc] at HR2
     clear HR
     have hlen : (a.filter (fun i => decide (i ∉ b)) ++ b.filter (fun i => decide (i ∉ a))).length < 1000000 := by
      rw [List.length_append]
      have h1 := List.length_filter_le (fun i => decide (i ∉ b)) a
      have h2 := List.length_filter_le (fun i => decide (i ∉ a)) b
      omega
     clear hacc hal
     go_wp2_with (go_at_call 46; (with_reducible refine (sort_r HR2.out.2 HR2.out.1 hlen).mono ?_); rintro e w4 ⟨rfl, ho4, hb4⟩; have H4 := jo (And.intro ho4 hb4); clear ho4 hb4)
     go_ret
     exact ⟨_, rfl, H4.out.1, H4.out.2⟩
end Go.Proofs.YtjmooillogojkaaGreat.Q
