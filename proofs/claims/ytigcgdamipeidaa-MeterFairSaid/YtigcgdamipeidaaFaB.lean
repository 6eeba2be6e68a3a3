/- The law MeterFair, walked. -/
import Derived.Test.YtigcgdamipeidaaFaA
import Derived.Outline
namespace Go.Proofs.Ytigcgdamipeidaa.Shr
open Go.RowKit Go.Proofs.YtigcgdamipeidaaW.PrintWords Go.Proofs.YtigcgdamipeidaaW.PrintLast Go.Proofs.YtigcgdamipeidaaW.PrintMore Go.Proofs.Ytigcgdamipeidaa Go.Proofs.Ytigcgdamipeidaa.Q Go.Proofs.Ytigcgdamipeidaa.Args
set_option linter.unusedVariables false
set_option linter.unusedSimpArgs false
set_option maxHeartbeats 8000000
set_option maxRecDepth 100000
theorem next_i {i : Nat} (h : i ≤ 40000) : Value.int .i64 (wrap64 ((i : Int) + 1)) = Value.int .i64 ((i + 1 : Nat) : Int) := by
  congr 1
  unfold wrap64
  omega
theorem N2 : (1 : Int) ≤ 2 ∧ (2 : Int) ≤ 15 := by omega
theorem N3' : (1 : Int) ≤ 3 ∧ (3 : Int) ≤ 15 := by omega
def L1 (w W : World) (B g h8 h9 : Nat) (u0 u1 Q : Int) (wv : Nat → Int) (k : Nat) : Prop :=
  ∃ S y0 y1, SS w W B g (N3 w.heap.size h8 h9) S ∧ A3 W w.heap.size h8 h9 u0 u1 y0 y1 0 0 ∧ F1 S Q wv k ∧ (0 < k → y0 = wv 0) ∧ (1 < k → y1 = wv 1)
def L2 (w W : World) (B g h8 h9 : Nat) (u0 u1 Q : Int) (wv : Nat → Int) (y0 y1 : Int) (k i : Nat) : Prop :=
  ∃ S, SS w W B g (N3 w.heap.size h8 h9) S ∧ A3 W w.heap.size h8 h9 u0 u1 y0 y1 0 0 ∧ F2 S Q wv k i
def L3 (w W : World) (B g h8 h9 : Nat) (u0 u1 Q : Int) (wv : Nat → Int) (m : Nat) : Prop :=
  ∃ S sm n, SS w W B g (N3 w.heap.size h8 h9) S ∧ A3 W w.heap.size h8 h9 u0 u1 (wv 0) (wv 1) (sm 0) (sm 1) ∧ FI S Q wv sm n ∧ m = n + 1
def L4 (w W : World) (B g h8 h9 : Nat) (u0 u1 : Int) (wv sm : Nat → Int) (A : Option Addr) (L : List (Int × Int)) (S : Sh) (i : Nat) : Prop :=
  ∃ s0 s1, SS w W B g (N3 w.heap.size h8 h9) S ∧ A3 W w.heap.size h8 h9 u0 u1 (wv 0) (wv 1) s0 s1 ∧ Steps W A h9 L ∧ s0 = sm 0 + sumOf 0 (L.take i) ∧ s1 = sm 1 + sumOf 1 (L.take i)
def L5 (w W : World) (B g h8 h9 : Nat) (u0 u1 : Int) (wv : Nat → Int) (s0 s1 : Int) (S : Sh) : Prop :=
  SS w W B g (N3 w.heap.size h8 h9) S ∧ A3 W w.heap.size h8 h9 u0 u1 (wv 0) (wv 1) s0 s1
theorem waits_none {w W : World} {B g : Nat} {N : Nat → Prop} {S : Sh} (h : SS w W B g N S) {n : Int} (hn : 1 ≤ n ∧ n ≤ 15) (he : S.l n.toNat = []) : Calls Try.prog 20 #[.pointer (some ⟨g, 0, none⟩), .int .i64 n] W fun e W' => e = .returned (.int .i64 0) ∧ Below W.heap.size W W' := by
  have := waits_ss h hn
  rw [he] at this
  exact this
theorem waits_some {w W : World} {B g : Nat} {N : Nat → Prop} {S : Sh} (h : SS w W B g N S) {n : Int} (hn : 1 ≤ n ∧ n ≤ 15) (he : S.l n.toNat ≠ []) : ∃ m : Nat, 0 < m ∧ Calls Try.prog 20 #[.pointer (some ⟨g, 0, none⟩), .int .i64 n] W fun e W' => e = .returned (.int .i64 (m : Int)) ∧ Below W.heap.size W W' :=
  ⟨(S.l n.toNat).length, List.length_pos_iff.2 he, waits_ss h hn⟩
theorem sumOf_next (k : Nat) {L : List (Int × Int)} {i : Nat} {x : Int × Int} (h : L[i]? = some x) : sumOf k (L.take (i + 1)) = sumOf k (L.take i) + (if x.1 = 2 + (k : Int) then x.2 else 0) := by
  obtain ⟨hl, rfl⟩ := List.getElem?_eq_some_iff.1 h
  exact sumOf_take k L i hl
theorem sum_fit {L : List (Int × Int)} {k i : Nat} {sm s : Int} (hs : s = sm + sumOf k (L.take i)) (hm : 0 ≤ sm ∧ sm ≤ 1000000) (hL : L.length ≤ 1600) (hx : ∀ x ∈ L, (x.1 = 2 ∨ x.1 = 3) ∧ 1 ≤ x.2 ∧ x.2 ≤ 65536) : 0 ≤ s ∧ s ≤ 200000000 := by
  have := sumOf_bound k (L.take i) (fun x h => (hx x (List.mem_of_mem_take h)).2)
  have h2 : (L.take i).length ≤ 1600 := by rw [List.length_take]; omega
  omega
theorem fair_yes {q u0 u1 : Int} (A : Option Addr) (c : Nat) (ls : List Int) (w : World) (hp : Ints w A ls) (h0 : ls.length ≠ 0) (h1 : ls.length ≤ 300) :
    Calls Try.prog 5 #[.int .i64 q, .agg #[.int .i64 u0, .int .i64 u1], .slice A ls.length c] w fun e w' => e = .returned (.bool true) ∧ Below w.heap.size w w' := by
  have HP := Aside0.mk hp
  have b0 : (ls.length == 0) = false := by simpa using h0
  have b1 : decide (300 < ls.length) = false := decide_eq_false (by omega)
  have b5 : decide (300 < (ls.length : Int)) = false := decide_eq_false (by omega)
  have b2 : ((ls.length : Int) == 0) = false := by rw [beq_eq_false_iff_ne]; omega
  have b3 : ls.isEmpty = false := by cases ls; exact absurd rfl h0; rfl
  have b4 : ¬ ls = [] := fun e => h0 (by rw [e]; rfl)
  have H0 := Aside0.mk h0
  have H1 := Aside0.mk h1
  clear hp h0 h1
  obtain ⟨wv, hwv⟩ : ∃ wv : Nat → Int, wv = fun j => if j = 0 then nm 16 u0 else nm 16 u1 := ⟨_, rfl⟩
  have HWB : Aside0 (∀ j, j < 2 → 1 ≤ wv j ∧ wv j ≤ 16) := ⟨fun j _ => by rw [hwv]; show 1 ≤ (if j = 0 then nm 16 u0 else nm 16 u1) ∧ (if j = 0 then nm 16 u0 else nm 16 u1) ≤ 16; split <;> exact nm_fit (by omega) _⟩
  have HW0 : Aside0 (nm 16 u0 = wv 0) := ⟨by rw [hwv]; rfl⟩
  have HW1 : Aside0 (nm 16 u1 = wv 1) := ⟨by rw [hwv]; rfl⟩
  clear hwv
  have hb0 : Below w.heap.size w (w.alloc (.cells #[.int .i64 u0, .int .i64 u1] 52 (0, 0))) := below_alloc (Below.refl _ _) _
  have HB0 := Aside0.mk hb0
  clear hb0
  go_enter Try.func5, Try.ntmps5
  go_wp2_with fail
  obtain ⟨Q, hQ⟩ : ∃ Q, wrap64 (1 + (wrap64 (q.tmod 2000 + 2000)).tmod 2000) = Q := ⟨_, rfl⟩
  have HQ : Aside0 (1 ≤ Q ∧ Q ≤ 2000) := ⟨by rw [← hQ]; exact nm_fit (m := 2000) (by omega) q⟩
  rw [hQ]
  clear hQ
  have hq' : 1 ≤ Q ∧ Q ≤ 65536 := by have := HQ.out; omega
  have HQ' := Aside0.mk hq'
  clear hq'
  (with_reducible refine (new_ss HQ'.out HB0.out).mono ?_)
  rintro e w1 ⟨g, rfl, hs, hb⟩
  have HS := Aside0.mk hs
  have hb4 : w1.heap[w.heap.size]? = some (.cells #[.int .i64 u0, .int .i64 u1] 52 (0, 0)) := blk_below (blk_new w _) hb
  have HB4 := Aside0.mk hb4
  clear hs hb hb4
  go_wp2_with fail
  (with_reducible refine (awake_ _).mono ?_)
  rintro e w2 ⟨rfl, ha⟩
  have HA := Aside0.mk ha
  clear ha
  go_wp2_with fail
  obtain ⟨B, hB⟩ : ∃ B, (w.alloc (.cells #[.int .i64 u0, .int .i64 u1] 52 (0, 0))).heap.size = B := ⟨_, rfl⟩
  rw [hB] at HS
  have hBl : w.heap.size < B := by rw [← hB]; simp
  clear hB
  obtain ⟨W3, hW3⟩ : ∃ W3, (w2.alloc (.cells #[.int .i64 0, .int .i64 0] 52 (0, 0))).alloc (.cells #[.int .i64 0, .int .i64 0] 52 (0, 0)) = W3 := ⟨_, rfl⟩
  obtain ⟨h8, hh8⟩ : ∃ h8, h8 = w2.heap.size := ⟨_, rfl⟩
  obtain ⟨h9, hh9⟩ : ∃ h9, h9 = w2.heap.size + 1 := ⟨_, rfl⟩
  have HS3 : Aside0 (SS w W3 B g (N3 w.heap.size h8 h9) (S0 Q) ∧ A3 W3 w.heap.size h8 h9 u0 u1 0 0 0 0 ∧ w.heap.size < h8 ∧ h8 < h9) := by
    have e1 : Below w2.heap.size w2 W3 := by rw [← hW3]; exact below_alloc (below_alloc (Below.refl _ _) _) _
    have s1 := HS.out.step HA.out
    have hz : w2.heap.size + 2 ≤ W3.heap.size := by rw [← hW3]; simp
    have z4 := blk_below HB4.out HA.out
    have l4 := blk_lt z4
    refine ⟨⟨(s1.old (N' := fun k => k = w.heap.size) (fun k hk => .inr (by omega))).more e1 (N' := N3 w.heap.size h8 h9) ?_, ⟨blk_below z4 e1, ?_, ?_⟩, by omega, by omega⟩⟩
    · intro k hk
      rcases hk with rfl | rfl | rfl
      · exact .inl rfl
      · exact .inr ⟨by omega, by omega⟩
      · exact .inr ⟨by omega, by omega⟩
    · rw [hh8, ← hW3]
      exact blk_alloc (blk_new _ _) _
    · rw [hh9, ← hW3]
      have := blk_new (w2.alloc (.cells #[.int .i64 0, .int .i64 0] 52 (0, 0))) (.cells #[.int .i64 0, .int .i64 0] 52 (0, 0))
      rw [show (w2.alloc (.cells #[.int .i64 0, .int .i64 0] 52 (0, 0))).heap.size = w2.heap.size + 1 by simp] at this
      exact this
  rw [hW3, ← hh9, ← hh8]
  clear hW3 hh8 hh9 hBl
  obtain ⟨hs3, ha3, l8, l9⟩ := HS3.out
  have HL8 := Aside0.mk l8
  have HL9 := Aside0.mk l9
  have H0 : Aside0 (L1 w W3 B g h8 h9 u0 u1 Q wv 0) := ⟨⟨S0 Q, 0, 0, hs3, ha3, f1_start Q wv, fun h => absurd h (by omega), fun h => absurd h (by omega)⟩⟩
  clear hs3 ha3 l8 l9 HS3 HA HB4 HS
  go_loopg [10] 2 (fun kq v10 w' => ∃ k : Nat, v10 = .int .i64 (k : Int) ∧ Aside0 (k + kq = 2) ∧ Aside0 (L1 w w' B g h8 h9 u0 u1 Q wv k))
  case atStart => exact ⟨0, rfl, ⟨rfl⟩, H0⟩
  case round =>
    obtain ⟨k, rfl, HK, HR⟩ := hrel
    clear H0
    cases gk with
    | zero =>
      obtain rfl : k = 2 := by have := HK.out; omega
      obtain ⟨S, y0, y1, hs, ha, hf, hy0, hy1⟩ := HR.out
      obtain rfl := hy0 (by omega)
      obtain rfl := hy1 (by omega)
      have HM0 : Aside0 (L3 w wr B g h8 h9 u0 u1 Q wv 1) := ⟨⟨S, fun _ => 0, 0, hs, ha, hf.start HQ.out HWB.out, rfl⟩⟩
      clear hs ha hf hy0 hy1 HR
      go_wp2_with fail
      go_loopg [12] 30 (fun nq v12 w' => ∃ m : Nat, v12 = .int .i64 (m : Int) ∧ Aside0 (m + nq = 31 ∧ 1 ≤ m) ∧ Aside0 (L3 w w' B g h8 h9 u0 u1 Q wv m))
      case atStart => exact ⟨1, rfl, ⟨⟨rfl, by omega⟩⟩, HM0⟩
      case round =>
        obtain ⟨m, rfl, HM, HR3⟩ := hrel
        clear HM0
        obtain ⟨S, sm, n, hs, ha, hf, hmn⟩ := HR3.out
        have HS := Aside0.mk hs
        have HA := Aside0.mk ha
        have HFS := Aside0.mk hf
        have HMN := Aside0.mk hmn
        clear hs ha hf hmn
        cases gk with
        | zero =>
          obtain rfl : m = 31 := by have := HM.out; omega
          go_wp2
          go_ret
          exact ⟨rfl, HS.out.bel⟩
        | succ nq =>
          have hm : m ≤ 30 := by have := HM.out; omega
          have HMB : Aside0 (m ≤ 30) := ⟨hm⟩
          have cm : decide ((m : Int) ≤ 30) = true := decide_eq_true (by omega)
          have cmn : decide (m ≤ 30) = true := decide_eq_true hm
          clear hm
          by_cases e2 : S.l 2 = []
          · have HC := Aside0.mk (waits_none HS.out N2 e2)
            clear e2
            go_wp2_with fail
            (with_reducible refine (HC.out).mono ?_)
            rintro e Wa ⟨rfl, ha⟩
            have HB := Aside0.mk ((HS.out.step ha).bel)
            clear ha
            go_wp2
            go_ret
            exact ⟨rfl, HB.out⟩
          · have HE2 := Aside0.mk e2
            obtain ⟨m2, hm2, hc2⟩ := waits_some HS.out N2 e2
            have HC2 := Aside0.mk hc2
            have d2 : decide (0 < (m2 : Int)) = true := decide_eq_true (by omega)
            have d2n : decide (0 < m2) = true := decide_eq_true hm2
            clear e2 hm2 hc2
            go_wp2_with fail
            (with_reducible refine (HC2.out).mono ?_)
            rintro e Wa ⟨rfl, ha⟩
            have HSa := Aside0.mk (HS.out.step ha)
            have HAa := Aside0.mk (HA.out.below ha)
            clear ha
            by_cases e3 : S.l 3 = []
            · have HC := Aside0.mk (waits_none HSa.out N3' e3)
              clear e3
              go_wp2_with fail
              (with_reducible refine (HC.out).mono ?_)
              rintro e Wb ⟨rfl, ha⟩
              have HB := Aside0.mk ((HSa.out.step ha).bel)
              clear ha
              go_wp2
              go_ret
              exact ⟨rfl, HB.out⟩
            · have HE3 := Aside0.mk e3
              obtain ⟨m3, hm3, hc3⟩ := waits_some HSa.out N3' e3
              have HC3 := Aside0.mk hc3
              have d3 : decide (0 < (m3 : Int)) = true := decide_eq_true (by omega)
              have d3n : decide (0 < m3) = true := decide_eq_true hm3
              clear e3 hm3 hc3
              go_wp2_with fail
              (with_reducible refine (HC3.out).mono ?_)
              rintro e Wb ⟨rfl, ha⟩
              have HSb := Aside0.mk (HSa.out.step ha)
              have HAb := Aside0.mk (HAa.out.below ha)
              clear ha
              go_wp2_with fail
              (with_reducible refine (turn_ss HSb.out).mono ?_)
              rintro e Wc ⟨v, rfl, hs, hm, hq⟩
              obtain ⟨A5, c5, rfl⟩ := qst_slice hq
              have hft := fair_turn HSb.out.fit HFS.out (by have := HMN.out; have := HMB.out; omega) HE2.out HE3.out
              rw [show tErr (turnTo S 16).2.2 = 0 from by rw [hft.1]; rfl]
              have hll : (turnTo S 16).2.1.length ≤ 1600 := turnTo_long HSb.out.fit 16 (Nat.le_refl _)
              have HRW0 := Aside0.mk hft.2.1
              have HFI0 := Aside0.mk hft.2.2
              have hst := steps_of hq (h := h9) (blk_lt HAb.out.b9)
              have HSc := Aside0.mk (hs.less (N' := N3 w.heap.size h8 h9) (fun k hk => .inl hk))
              have HAc := Aside0.mk (HAb.out.same hm)
              obtain ⟨L, hL⟩ : ∃ L, (turnTo S 16).2.1 = L := ⟨_, rfl⟩
              rw [hL] at hll hst HRW0 HFI0 ⊢
              have HLL := Aside0.mk hll
              have HRW := HRW0
              have HFI := HFI0
              have HJ0 : Aside0 (L4 w Wc B g h8 h9 u0 u1 wv sm A5 L (turnTo S 16).1 0) := ⟨⟨_, _, HSc.out, HAc.out, hst, by simp [sumOf], by simp [sumOf]⟩⟩
              clear hs hm hq hft hll hst hL HRW0 HFI0 HSc HAc
              go_wp2_with fail
              go_loopg [15] L.length (fun jq v15 w' => ∃ i : Nat, v15 = .int .i64 (i : Int) ∧ Aside0 (i + jq = L.length) ∧ Aside0 (L4 w w' B g h8 h9 u0 u1 wv sm A5 L (turnTo S 16).1 i))
              case atStart => exact ⟨0, rfl, ⟨by omega⟩, HJ0⟩
              case round =>
                obtain ⟨i, rfl, HII, HR4⟩ := hrel
                clear HJ0
                obtain ⟨s0, s1, hs, ha, hst, he0, he1⟩ := HR4.out
                have HS := Aside0.mk hs
                have HA := Aside0.mk ha
                have HST := Aside0.mk hst
                have HE0 := Aside0.mk he0
                have HE1 := Aside0.mk he1
                clear hs ha hst he0 he1
                cases gk with
                | zero =>
                  obtain rfl : i = L.length := by have := HII.out; omega
                  have dl : decide (L.length < L.length) = false := decide_eq_false (by omega)
                  have dli : decide ((L.length : Int) < (L.length : Int)) = false := decide_eq_false (by omega)
                  obtain ⟨S', hS'⟩ : ∃ S', (turnTo S 16).1 = S' := ⟨_, rfl⟩
                  rw [hS'] at HS HFI
                  clear hS'
                  have HSE0 : Aside0 (s0 = sm 0 + sumOf 0 L) := ⟨by rw [HE0.out, List.take_length]⟩
                  have HSE1 : Aside0 (s1 = sm 1 + sumOf 1 L) := ⟨by rw [HE1.out, List.take_length]⟩
                  have HBS : Aside0 ((0 ≤ s0 ∧ s0 ≤ 200000000) ∧ (0 ≤ s1 ∧ s1 ≤ 200000000)) := ⟨⟨sum_fit HE0.out (HFS.out.sb 0 (by omega)) HLL.out HRW.out, sum_fit HE1.out (HFS.out.sb 1 (by omega)) HLL.out HRW.out⟩⟩
                  have HC0 : Aside0 (L5 w wr B g h8 h9 u0 u1 wv s0 s1 S') := ⟨⟨HS.out, HA.out⟩⟩
                  clear HE0 HE1
                  go_wp2_with fail
                  go_loopg [16] 2 (fun cq v16 w' => ∃ k : Nat, v16 = .int .i64 (k : Int) ∧ Aside0 (k + cq = 2) ∧ Aside0 (L5 w w' B g h8 h9 u0 u1 wv s0 s1 S'))
                  case atStart => exact ⟨0, rfl, ⟨rfl⟩, HC0⟩
                  case round =>
                    obtain ⟨k, rfl, HKK, HR5⟩ := hrel
                    clear HC0
                    obtain ⟨hs, ha⟩ := HR5.out
                    have HS := Aside0.mk hs
                    have HA := Aside0.mk ha
                    clear hs ha
                    cases gk with
                    | zero =>
                      obtain rfl : k = 2 := by have := HKK.out; omega
                      go_wp2
                      go_roundg nq
                      case measure => omega
                      case rel => exact ⟨m + 1, next_i (by have := HMB.out; omega), ⟨by have := HM.out; omega⟩, ⟨⟨S', fun k => sm k + sumOf k L, n + 1, HS.out, by have h1 := HSE0.out; have h2 := HSE1.out; subst h1; subst h2; exact HA.out, HFI.out, by have := HMN.out; omega⟩⟩⟩
                    | succ cq =>
                      have hk : k < 2 := by have := HKK.out; omega
                      rcases (by omega : k = 0 ∨ k = 1) with rfl | rfl
                      · clear hk
                        go_wp2_with fail
                        by_cases he : S'.l (2 + 0) = []
                        · have HE := Aside0.mk he
                          clear he
                          (with_reducible refine (credit_ss HS.out N2).mono ?_)
                          rintro e W9 ⟨rfl, h9'⟩
                          have HS9 := Aside0.mk (HS.out.step h9')
                          have HA9 := Aside0.mk (HA.out.below h9')
                          clear h9'
                          obtain ⟨cr, hcr⟩ : ∃ x, S'.cr (2 : Int).toNat = x := ⟨_, rfl⟩
                          rw [hcr]
                          have HCR : Aside0 (S'.cr (2 + 0) = cr) := ⟨hcr⟩
                          clear hcr
                          go_wp2_with fail
                          obtain ⟨Wq, rfl⟩ : ∃ W, W = W9 := ⟨_, rfl⟩
                          have HC9 : Aside0 (Wq.cell? ⟨h9, 0, none⟩ = some (.int .i64 s0)) := ⟨blk_cell HA9.out.b9 0⟩
                          have HC8 : Aside0 (Wq.cell? ⟨h8, 0, none⟩ = some (.int .i64 (wv 0))) := ⟨blk_cell HA9.out.b8 0⟩
                          have HQ9 := Aside0.mk (blk_lt HA9.out.b9)
                          have HQ8 := Aside0.mk (blk_lt HA9.out.b8)
                          have hc := waits_none (HS9.out.step (Below.refl _ _).drew) N2 (show S'.l (2 : Int).toNat = [] from HE.out)
                          have HWM := Aside0.mk hc
                          clear hc
                          have w2k : wrap64 2 = 2 := by unfold wrap64; omega
                          have w2i : IntKind.i64.wrap 2 = 2 := (i64_w _).trans w2k
                          refine start_ (n := 28) (S := fun w' => Below Wq.heap.size Wq w') (ds := []) #[false, false, false, false, false, false, false, false, false, false, false, false, false, false, false, false, false, false, false, false, false, false, false, false, false, false, false, false] (by kernel_rfl) rfl rfl ((Below.refl _ _).drew) (fun hHeld => ?_)
                          refine pure_ (i := 0) (N := some 142) (v := ?_) (a' := ?_) #[true, false, false, false, false, false, false, false, false, false, false, false, false, false, false, false, false, false, false, false, false, false, false, false, false, false, false, false] rfl rfl (by kernel_rfl) (fun _ _ _ h => h) (Or.inl ⟨by rfl, ?_⟩) ?_ ?_
                          rotate_left
                          · intro w'
                            go_simp
                            with_reducible rfl
                          rotate_left
                          · simp only [Act.put, List.setIfInBounds_toArray, List.set_cons_zero, List.set_cons_succ, i64_w, i32_w]
                            rfl
                          refine pure_ (i := 1) (N := some 143) (v := ?_) (a' := ?_) #[true, true, false, false, false, false, false, false, false, false, false, false, false, false, false, false, false, false, false, false, false, false, false, false, false, false, false, false] rfl rfl (by kernel_rfl) (fun _ _ _ h => h) (Or.inl ⟨by rfl, ?_⟩) ?_ ?_
                          rotate_left
                          · intro w'
                            go_simp
                            with_reducible rfl
                          rotate_left
                          · simp only [Act.put, List.setIfInBounds_toArray, List.set_cons_zero, List.set_cons_succ, i64_w, i32_w]
                            rfl
                          refine pure_ (i := 2) (N := some 144) (v := ?_) (a' := ?_) #[true, true, true, false, false, false, false, false, false, false, false, false, false, false, false, false, false, false, false, false, false, false, false, false, false, false, false, false] rfl rfl (by kernel_rfl) (fun _ _ _ h => h) (Or.inl ⟨by rfl, ?_⟩) ?_ ?_
                          rotate_left
                          · intro w'
                            go_simp
                            with_reducible rfl
                          rotate_left
                          · simp only [Act.put, List.setIfInBounds_toArray, List.set_cons_zero, List.set_cons_succ, i64_w, i32_w]
                            rfl
                          refine one_ (i := 3) (N := some 145) #[true, true, true, true, false, false, false, false, false, false, false, false, false, false, false, false, false, false, false, false, false, false, false, false, false, false, false, false] rfl rfl (by kernel_rfl) (by decide) (fun K hK => ?_)
                          refine goes_ Try.func20 (by kernel_rfl) rfl #[.pointer (some ⟨g, 0, none⟩), .int .i64 2] (by rfl) rfl rfl (by (try simp only [List.map_toArray, List.map_cons, List.map_nil]); first | done | rfl) ?_
                          with_reducible refine (HWM.out).mono ?_
                          rintro e Wr ⟨rfl, hr⟩
                          refine ⟨_, rfl, ?_⟩
                          replace hHeld := below_step hHeld hr
                          clear hr
                          refine hK.out _ _ (hHeld) (fun hHeld => ?_)
                          clear hK K
                          refine norm_ (a' := ?_) ?_ ?_
                          rotate_left
                          · show Act.put _ (some 145) _ = _
                            simp only [Act.put, List.setIfInBounds_toArray, List.set_cons_zero, List.set_cons_succ, i64_w, i32_w]
                            rfl
                          refine pure_ (i := 4) (N := some 146) (v := ?_) (a' := ?_) #[true, true, true, true, true, false, false, false, false, false, false, false, false, false, false, false, false, false, false, false, false, false, false, false, false, false, false, false] rfl rfl (by kernel_rfl) (fun _ _ _ h => h) (Or.inl ⟨by rfl, ?_⟩) ?_ ?_
                          rotate_left
                          · intro w'
                            go_simp
                            with_reducible rfl
                          rotate_left
                          · simp only [Act.put, List.setIfInBounds_toArray, List.set_cons_zero, List.set_cons_succ, i64_w, i32_w]
                            rfl
                          refine pure_ (i := 5) (N := some 147) (v := ?_) (a' := ?_) #[true, true, true, true, true, true, false, false, false, false, false, false, false, false, false, false, false, false, false, false, false, false, false, false, false, false, false, false] rfl rfl (by kernel_rfl) (fun _ _ _ h => h) (Or.inl ⟨by rfl, ?_⟩) ?_ ?_
                          rotate_left
                          · intro w'
                            go_simp
                            with_reducible rfl
                          rotate_left
                          · simp only [Act.put, List.setIfInBounds_toArray, List.set_cons_zero, List.set_cons_succ, i64_w, i32_w]
                            rfl
                          refine pure_ (i := 6) (N := some 148) (v := undef) (a' := ?_) #[true, true, true, true, true, true, true, false, false, false, false, false, false, false, false, false, false, false, false, false, false, false, false, false, false, false, false, false] rfl rfl (by kernel_rfl) (fun _ _ _ h => h) (Or.inr ⟨by rfl, rfl⟩) ?_ ?_
                          rotate_left
                          · simp only [Act.put, List.setIfInBounds_toArray, List.set_cons_zero, List.set_cons_succ, i64_w, i32_w]
                            rfl
                          refine pure_ (i := 7) (N := some 149) (v := undef) (a' := ?_) #[true, true, true, true, true, true, true, true, false, false, false, false, false, false, false, false, false, false, false, false, false, false, false, false, false, false, false, false] rfl rfl (by kernel_rfl) (fun _ _ _ h => h) (Or.inr ⟨by rfl, rfl⟩) ?_ ?_
                          rotate_left
                          · simp only [Act.put, List.setIfInBounds_toArray, List.set_cons_zero, List.set_cons_succ, i64_w, i32_w]
                            rfl
                          refine pure_ (i := 8) (N := some 150) (v := undef) (a' := ?_) #[true, true, true, true, true, true, true, true, true, false, false, false, false, false, false, false, false, false, false, false, false, false, false, false, false, false, false, false] rfl rfl (by kernel_rfl) (fun _ _ _ h => h) (Or.inr ⟨by rfl, rfl⟩) ?_ ?_
                          rotate_left
                          · simp only [Act.put, List.setIfInBounds_toArray, List.set_cons_zero, List.set_cons_succ, i64_w, i32_w]
                            rfl
                          refine pure_ (i := 9) (N := some 151) (v := undef) (a' := ?_) #[true, true, true, true, true, true, true, true, true, true, false, false, false, false, false, false, false, false, false, false, false, false, false, false, false, false, false, false] rfl rfl (by kernel_rfl) (fun _ _ _ h => h) (Or.inr ⟨by rfl, rfl⟩) ?_ ?_
                          rotate_left
                          · simp only [Act.put, List.setIfInBounds_toArray, List.set_cons_zero, List.set_cons_succ, i64_w, i32_w]
                            rfl
                          refine pure_ (i := 10) (N := some 152) (v := undef) (a' := ?_) #[true, true, true, true, true, true, true, true, true, true, true, false, false, false, false, false, false, false, false, false, false, false, false, false, false, false, false, false] rfl rfl (by kernel_rfl) (fun _ _ _ h => h) (Or.inr ⟨by rfl, rfl⟩) ?_ ?_
                          rotate_left
                          · simp only [Act.put, List.setIfInBounds_toArray, List.set_cons_zero, List.set_cons_succ, i64_w, i32_w]
                            rfl
                          refine pure_ (i := 11) (N := some 153) (v := undef) (a' := ?_) #[true, true, true, true, true, true, true, true, true, true, true, true, false, false, false, false, false, false, false, false, false, false, false, false, false, false, false, false] rfl rfl (by kernel_rfl) (fun _ _ _ h => h) (Or.inr ⟨by rfl, rfl⟩) ?_ ?_
                          rotate_left
                          · simp only [Act.put, List.setIfInBounds_toArray, List.set_cons_zero, List.set_cons_succ, i64_w, i32_w]
                            rfl
                          refine pure_ (i := 12) (N := some 154) (v := undef) (a' := ?_) #[true, true, true, true, true, true, true, true, true, true, true, true, true, false, false, false, false, false, false, false, false, false, false, false, false, false, false, false] rfl rfl (by kernel_rfl) (fun _ _ _ h => h) (Or.inr ⟨by rfl, rfl⟩) ?_ ?_
                          rotate_left
                          · simp only [Act.put, List.setIfInBounds_toArray, List.set_cons_zero, List.set_cons_succ, i64_w, i32_w]
                            rfl
                          refine pure_ (i := 13) (N := some 155) (v := undef) (a' := ?_) #[true, true, true, true, true, true, true, true, true, true, true, true, true, true, false, false, false, false, false, false, false, false, false, false, false, false, false, false] rfl rfl (by kernel_rfl) (fun _ _ _ h => h) (Or.inr ⟨by rfl, rfl⟩) ?_ ?_
                          rotate_left
                          · simp only [Act.put, List.setIfInBounds_toArray, List.set_cons_zero, List.set_cons_succ, i64_w, i32_w]
                            rfl
                          refine pure_ (i := 14) (N := some 156) (v := undef) (a' := ?_) #[true, true, true, true, true, true, true, true, true, true, true, true, true, true, true, false, false, false, false, false, false, false, false, false, false, false, false, false] rfl rfl (by kernel_rfl) (fun _ _ _ h => h) (Or.inr ⟨by rfl, rfl⟩) ?_ ?_
                          rotate_left
                          · simp only [Act.put, List.setIfInBounds_toArray, List.set_cons_zero, List.set_cons_succ, i64_w, i32_w]
                            rfl
                          refine pure_ (i := 15) (N := some 157) (v := undef) (a' := ?_) #[true, true, true, true, true, true, true, true, true, true, true, true, true, true, true, true, false, false, false, false, false, false, false, false, false, false, false, false] rfl rfl (by kernel_rfl) (fun _ _ _ h => h) (Or.inr ⟨by rfl, rfl⟩) ?_ ?_
                          rotate_left
                          · simp only [Act.put, List.setIfInBounds_toArray, List.set_cons_zero, List.set_cons_succ, i64_w, i32_w]
                            rfl
                          refine pure_ (i := 16) (N := some 158) (v := undef) (a' := ?_) #[true, true, true, true, true, true, true, true, true, true, true, true, true, true, true, true, true, false, false, false, false, false, false, false, false, false, false, false] rfl rfl (by kernel_rfl) (fun _ _ _ h => h) (Or.inr ⟨by rfl, rfl⟩) ?_ ?_
                          rotate_left
                          · simp only [Act.put, List.setIfInBounds_toArray, List.set_cons_zero, List.set_cons_succ, i64_w, i32_w]
                            rfl
                          refine pure_ (i := 17) (N := some 159) (v := undef) (a' := ?_) #[true, true, true, true, true, true, true, true, true, true, true, true, true, true, true, true, true, true, false, false, false, false, false, false, false, false, false, false] rfl rfl (by kernel_rfl) (fun _ _ _ h => h) (Or.inr ⟨by rfl, rfl⟩) ?_ ?_
                          rotate_left
                          · simp only [Act.put, List.setIfInBounds_toArray, List.set_cons_zero, List.set_cons_succ, i64_w, i32_w]
                            rfl
                          refine pure_ (i := 18) (N := some 160) (v := undef) (a' := ?_) #[true, true, true, true, true, true, true, true, true, true, true, true, true, true, true, true, true, true, true, false, false, false, false, false, false, false, false, false] rfl rfl (by kernel_rfl) (fun _ _ _ h => h) (Or.inr ⟨by rfl, rfl⟩) ?_ ?_
                          rotate_left
                          · simp only [Act.put, List.setIfInBounds_toArray, List.set_cons_zero, List.set_cons_succ, i64_w, i32_w]
                            rfl
                          refine pure_ (i := 19) (N := some 161) (v := undef) (a' := ?_) #[true, true, true, true, true, true, true, true, true, true, true, true, true, true, true, true, true, true, true, true, false, false, false, false, false, false, false, false] rfl rfl (by kernel_rfl) (fun _ _ _ h => h) (Or.inr ⟨by rfl, rfl⟩) ?_ ?_
                          rotate_left
                          · simp only [Act.put, List.setIfInBounds_toArray, List.set_cons_zero, List.set_cons_succ, i64_w, i32_w]
                            rfl
                          refine pure_ (i := 20) (N := some 162) (v := undef) (a' := ?_) #[true, true, true, true, true, true, true, true, true, true, true, true, true, true, true, true, true, true, true, true, true, false, false, false, false, false, false, false] rfl rfl (by kernel_rfl) (fun _ _ _ h => h) (Or.inr ⟨by rfl, rfl⟩) ?_ ?_
                          rotate_left
                          · simp only [Act.put, List.setIfInBounds_toArray, List.set_cons_zero, List.set_cons_succ, i64_w, i32_w]
                            rfl
                          refine pure_ (i := 21) (N := some 163) (v := undef) (a' := ?_) #[true, true, true, true, true, true, true, true, true, true, true, true, true, true, true, true, true, true, true, true, true, true, false, false, false, false, false, false] rfl rfl (by kernel_rfl) (fun _ _ _ h => h) (Or.inr ⟨by rfl, rfl⟩) ?_ ?_
                          rotate_left
                          · simp only [Act.put, List.setIfInBounds_toArray, List.set_cons_zero, List.set_cons_succ, i64_w, i32_w]
                            rfl
                          refine pure_ (i := 22) (N := some 164) (v := undef) (a' := ?_) #[true, true, true, true, true, true, true, true, true, true, true, true, true, true, true, true, true, true, true, true, true, true, true, false, false, false, false, false] rfl rfl (by kernel_rfl) (fun _ _ _ h => h) (Or.inr ⟨by rfl, rfl⟩) ?_ ?_
                          rotate_left
                          · simp only [Act.put, List.setIfInBounds_toArray, List.set_cons_zero, List.set_cons_succ, i64_w, i32_w]
                            rfl
                          refine pure_ (i := 23) (N := some 165) (v := undef) (a' := ?_) #[true, true, true, true, true, true, true, true, true, true, true, true, true, true, true, true, true, true, true, true, true, true, true, true, false, false, false, false] rfl rfl (by kernel_rfl) (fun _ _ _ h => h) (Or.inr ⟨by rfl, rfl⟩) ?_ ?_
                          rotate_left
                          · simp only [Act.put, List.setIfInBounds_toArray, List.set_cons_zero, List.set_cons_succ, i64_w, i32_w]
                            rfl
                          refine pure_ (i := 24) (N := some 166) (v := undef) (a' := ?_) #[true, true, true, true, true, true, true, true, true, true, true, true, true, true, true, true, true, true, true, true, true, true, true, true, true, false, false, false] rfl rfl (by kernel_rfl) (fun _ _ _ h => h) (Or.inr ⟨by rfl, rfl⟩) ?_ ?_
                          rotate_left
                          · simp only [Act.put, List.setIfInBounds_toArray, List.set_cons_zero, List.set_cons_succ, i64_w, i32_w]
                            rfl
                          refine pure_ (i := 25) (N := some 167) (v := undef) (a' := ?_) #[true, true, true, true, true, true, true, true, true, true, true, true, true, true, true, true, true, true, true, true, true, true, true, true, true, true, false, false] rfl rfl (by kernel_rfl) (fun _ _ _ h => h) (Or.inr ⟨by rfl, rfl⟩) ?_ ?_
                          rotate_left
                          · simp only [Act.put, List.setIfInBounds_toArray, List.set_cons_zero, List.set_cons_succ, i64_w, i32_w]
                            rfl
                          refine pure_ (i := 26) (N := some 168) (v := undef) (a' := ?_) #[true, true, true, true, true, true, true, true, true, true, true, true, true, true, true, true, true, true, true, true, true, true, true, true, true, true, true, false] rfl rfl (by kernel_rfl) (fun _ _ _ h => h) (Or.inr ⟨by rfl, rfl⟩) ?_ ?_
                          rotate_left
                          · simp only [Act.put, List.setIfInBounds_toArray, List.set_cons_zero, List.set_cons_succ, i64_w, i32_w]
                            rfl
                          refine pure_ (i := 27) (N := some 169) (v := ?_) (a' := ?_) #[true, true, true, true, true, true, true, true, true, true, true, true, true, true, true, true, true, true, true, true, true, true, true, true, true, true, true, true] rfl rfl (by kernel_rfl) (fun _ _ _ h => h) (Or.inl ⟨by rfl, ?_⟩) ?_ ?_
                          rotate_left
                          · intro w'
                            go_simp
                            with_reducible rfl
                          rotate_left
                          · simp only [Act.put, List.setIfInBounds_toArray, List.set_cons_zero, List.set_cons_succ, i64_w, i32_w]
                            rfl
                          refine done_ (by kernel_rfl) ?_
                          clear w2k w2i
                          have HZ : Aside0 (L5 w Wr B g h8 h9 u0 u1 wv s0 s1 S') := ⟨⟨HS9.out.step hHeld, HA9.out.below hHeld⟩⟩
                          clear hHeld
                          go_wp2
                          go_roundg cq
                          case measure => omega
                          case rel => exact ⟨1, rfl, ⟨by have := HKK.out; omega⟩, HZ⟩
                        · have HE := Aside0.mk he
                          clear he
                          (with_reducible refine (credit_ss HS.out N2).mono ?_)
                          rintro e W9 ⟨rfl, h9'⟩
                          have HS9 := Aside0.mk (HS.out.step h9')
                          have HA9 := Aside0.mk (HA.out.below h9')
                          clear h9'
                          obtain ⟨cr, hcr⟩ : ∃ x, S'.cr (2 : Int).toNat = x := ⟨_, rfl⟩
                          rw [hcr]
                          have HCR : Aside0 (S'.cr (2 + 0) = cr) := ⟨hcr⟩
                          clear hcr
                          go_wp2_with fail
                          obtain ⟨Wq, rfl⟩ : ∃ W, W = W9 := ⟨_, rfl⟩
                          have HC9 : Aside0 (Wq.cell? ⟨h9, 0, none⟩ = some (.int .i64 s0)) := ⟨blk_cell HA9.out.b9 0⟩
                          have HC8 : Aside0 (Wq.cell? ⟨h8, 0, none⟩ = some (.int .i64 (wv 0))) := ⟨blk_cell HA9.out.b8 0⟩
                          have HQ9 := Aside0.mk (blk_lt HA9.out.b9)
                          have HQ8 := Aside0.mk (blk_lt HA9.out.b8)
                          obtain ⟨e1, e2, e3⟩ := HFI.out.eq 0 (by omega) HE.out
                          rw [HCR.out] at e1 e2 e3
                          obtain ⟨wm, hwm, hc⟩ := waits_some (HS9.out.step (Below.refl _ _).drew) N2 (show S'.l (2 : Int).toNat ≠ [] from HE.out)
                          have HWM := Aside0.mk hc
                          have dw : decide (0 < (wm : Int)) = true := decide_eq_true (by omega)
                          have dwn : decide (0 < wm) = true := decide_eq_true hwm
                          clear hc hwm
                          have ES : Aside0 (s0 = sm 0 + sumOf 0 L) := HSE0
                          obtain ⟨X, hX⟩ : ∃ X, ((m : Nat) : Int) * wv 0 * Q = X := ⟨_, rfl⟩
                          have e1' : s0 + cr = X := by rw [ES.out, ← hX, HMN.out]; exact e1
                          have bs := HBS.out
                          have f1 : wrap64 (s0 + cr) = X := by rw [e1']; unfold wrap64; omega
                          have fy : wrap64 ((m : Int) * wv 0) = (m : Int) * wv 0 := by have h1 := HMB.out; have h2 := HWB.out 0 (by omega); have h3 : (m : Int) * wv 0 ≤ 30 * 16 := Int.mul_le_mul (by omega) h2.2 (by omega) (by omega); have h4 : 0 ≤ (m : Int) * wv 0 := Int.mul_nonneg (by omega) (by omega); unfold wrap64; omega
                          have fz : wrap64 ((m : Int) * wv 0 * Q) = X := by rw [hX]; unfold wrap64; omega
                          have g1 : IntKind.i64.wrap (s0 + cr) = X := (i64_w _).trans f1
                          have gy : IntKind.i64.wrap ((m : Int) * wv 0) = (m : Int) * wv 0 := (i64_w _).trans fy
                          have gz : IntKind.i64.wrap ((m : Int) * wv 0 * Q) = X := (i64_w _).trans fz
                          have d1 : decide (cr < 0) = false := decide_eq_false (by omega)
                          have d2 : decide (5000 ≤ cr) = false := decide_eq_false (by omega)
                          clear e1 e2 e3 e1' hX bs
                          have w2k : wrap64 2 = 2 := by unfold wrap64; omega
                          have w2i : IntKind.i64.wrap 2 = 2 := (i64_w _).trans w2k
                          refine start_ (n := 28) (S := fun w' => Below Wq.heap.size Wq w') (ds := []) #[false, false, false, false, false, false, false, false, false, false, false, false, false, false, false, false, false, false, false, false, false, false, false, false, false, false, false, false] (by kernel_rfl) rfl rfl ((Below.refl _ _).drew) (fun hHeld => ?_)
                          refine pure_ (i := 0) (N := some 142) (v := ?_) (a' := ?_) #[true, false, false, false, false, false, false, false, false, false, false, false, false, false, false, false, false, false, false, false, false, false, false, false, false, false, false, false] rfl rfl (by kernel_rfl) (fun _ _ _ h => h) (Or.inl ⟨by rfl, ?_⟩) ?_ ?_
                          rotate_left
                          · intro w'
                            go_simp
                            with_reducible rfl
                          rotate_left
                          · simp only [Act.put, List.setIfInBounds_toArray, List.set_cons_zero, List.set_cons_succ, i64_w, i32_w]
                            rfl
                          refine pure_ (i := 1) (N := some 143) (v := ?_) (a' := ?_) #[true, true, false, false, false, false, false, false, false, false, false, false, false, false, false, false, false, false, false, false, false, false, false, false, false, false, false, false] rfl rfl (by kernel_rfl) (fun _ _ _ h => h) (Or.inl ⟨by rfl, ?_⟩) ?_ ?_
                          rotate_left
                          · intro w'
                            go_simp
                            with_reducible rfl
                          rotate_left
                          · simp only [Act.put, List.setIfInBounds_toArray, List.set_cons_zero, List.set_cons_succ, i64_w, i32_w]
                            rfl
                          refine pure_ (i := 2) (N := some 144) (v := ?_) (a' := ?_) #[true, true, true, false, false, false, false, false, false, false, false, false, false, false, false, false, false, false, false, false, false, false, false, false, false, false, false, false] rfl rfl (by kernel_rfl) (fun _ _ _ h => h) (Or.inl ⟨by rfl, ?_⟩) ?_ ?_
                          rotate_left
                          · intro w'
                            go_simp
                            with_reducible rfl
                          rotate_left
                          · simp only [Act.put, List.setIfInBounds_toArray, List.set_cons_zero, List.set_cons_succ, i64_w, i32_w]
                            rfl
                          refine one_ (i := 3) (N := some 145) #[true, true, true, true, false, false, false, false, false, false, false, false, false, false, false, false, false, false, false, false, false, false, false, false, false, false, false, false] rfl rfl (by kernel_rfl) (by decide) (fun K hK => ?_)
                          refine goes_ Try.func20 (by kernel_rfl) rfl #[.pointer (some ⟨g, 0, none⟩), .int .i64 2] (by rfl) rfl rfl (by (try simp only [List.map_toArray, List.map_cons, List.map_nil]); first | done | rfl) ?_
                          with_reducible refine (HWM.out).mono ?_
                          rintro e Wr ⟨rfl, hr⟩
                          refine ⟨_, rfl, ?_⟩
                          replace hHeld := below_step hHeld hr
                          clear hr
                          refine hK.out _ _ (hHeld) (fun hHeld => ?_)
                          clear hK K
                          refine norm_ (a' := ?_) ?_ ?_
                          rotate_left
                          · show Act.put _ (some 145) _ = _
                            simp only [Act.put, List.setIfInBounds_toArray, List.set_cons_zero, List.set_cons_succ, i64_w, i32_w]
                            rfl
                          refine pure_ (i := 4) (N := some 146) (v := ?_) (a' := ?_) #[true, true, true, true, true, false, false, false, false, false, false, false, false, false, false, false, false, false, false, false, false, false, false, false, false, false, false, false] rfl rfl (by kernel_rfl) (fun _ _ _ h => h) (Or.inl ⟨by rfl, ?_⟩) ?_ ?_
                          rotate_left
                          · intro w'
                            go_simp
                            with_reducible rfl
                          rotate_left
                          · simp only [Act.put, List.setIfInBounds_toArray, List.set_cons_zero, List.set_cons_succ, i64_w, i32_w]
                            rfl
                          refine pure_ (i := 5) (N := some 147) (v := ?_) (a' := ?_) #[true, true, true, true, true, true, false, false, false, false, false, false, false, false, false, false, false, false, false, false, false, false, false, false, false, false, false, false] rfl rfl (by kernel_rfl) (fun _ _ _ h => h) (Or.inl ⟨by rfl, ?_⟩) ?_ ?_
                          rotate_left
                          · intro w'
                            go_simp
                            with_reducible rfl
                          rotate_left
                          · simp only [Act.put, List.setIfInBounds_toArray, List.set_cons_zero, List.set_cons_succ, i64_w, i32_w]
                            rfl
                          refine pure_ (i := 6) (N := some 148) (v := ?_) (a' := ?_) #[true, true, true, true, true, true, true, false, false, false, false, false, false, false, false, false, false, false, false, false, false, false, false, false, false, false, false, false] rfl rfl (by kernel_rfl) (fun _ _ _ h => h) (Or.inl ⟨by rfl, ?_⟩) ?_ ?_
                          rotate_left
                          · intro w'
                            go_simp
                            with_reducible rfl
                          rotate_left
                          · simp only [Act.put, List.setIfInBounds_toArray, List.set_cons_zero, List.set_cons_succ, i64_w, i32_w]
                            rfl
                          refine pure_ (i := 7) (N := some 149) (v := ?_) (a' := ?_) #[true, true, true, true, true, true, true, true, false, false, false, false, false, false, false, false, false, false, false, false, false, false, false, false, false, false, false, false] rfl rfl (by kernel_rfl) (fun _ _ _ h => h) (Or.inl ⟨by rfl, ?_⟩) ?_ ?_
                          rotate_left
                          · intro w'
                            go_simp
                            with_reducible rfl
                          rotate_left
                          · simp only [Act.put, List.setIfInBounds_toArray, List.set_cons_zero, List.set_cons_succ, i64_w, i32_w]
                            rfl
                          refine pure_ (i := 9) (N := some 151) (v := ?_) (a' := ?_) #[true, true, true, true, true, true, true, true, false, true, false, false, false, false, false, false, false, false, false, false, false, false, false, false, false, false, false, false] rfl rfl (by kernel_rfl) (fun _ _ _ h => h) (Or.inl ⟨by rfl, ?_⟩) ?_ ?_
                          rotate_left
                          · intro w'
                            go_simp
                            with_reducible rfl
                          rotate_left
                          · simp only [Act.put, List.setIfInBounds_toArray, List.set_cons_zero, List.set_cons_succ, i64_w, i32_w]
                            rfl
                          refine pure_ (i := 11) (N := some 153) (v := ?_) (a' := ?_) #[true, true, true, true, true, true, true, true, false, true, false, true, false, false, false, false, false, false, false, false, false, false, false, false, false, false, false, false] rfl rfl (by kernel_rfl) (fun _ _ _ h => h) (Or.inl ⟨by rfl, ?_⟩) ?_ ?_
                          rotate_left
                          · intro w'
                            go_simp
                            with_reducible rfl
                          rotate_left
                          · simp only [Act.put, List.setIfInBounds_toArray, List.set_cons_zero, List.set_cons_succ, i64_w, i32_w]
                            rfl
                          refine pure_ (i := 12) (N := some 154) (v := ?_) (a' := ?_) #[true, true, true, true, true, true, true, true, false, true, false, true, true, false, false, false, false, false, false, false, false, false, false, false, false, false, false, false] rfl rfl (by kernel_rfl) (fun _ _ _ h => h) (Or.inl ⟨by rfl, ?_⟩) ?_ ?_
                          rotate_left
                          · intro w'
                            go_simp
                            with_reducible rfl
                          rotate_left
                          · simp only [Act.put, List.setIfInBounds_toArray, List.set_cons_zero, List.set_cons_succ, i64_w, i32_w]
                            rfl
                          refine pure_ (i := 13) (N := some 155) (v := ?_) (a' := ?_) #[true, true, true, true, true, true, true, true, false, true, false, true, true, true, false, false, false, false, false, false, false, false, false, false, false, false, false, false] rfl rfl (by kernel_rfl) (fun _ _ _ h => h) (Or.inl ⟨by rfl, ?_⟩) ?_ ?_
                          rotate_left
                          · intro w'
                            go_simp
                            with_reducible rfl
                          rotate_left
                          · simp only [Act.put, List.setIfInBounds_toArray, List.set_cons_zero, List.set_cons_succ, i64_w, i32_w]
                            rfl
                          refine pure_ (i := 16) (N := some 158) (v := ?_) (a' := ?_) #[true, true, true, true, true, true, true, true, false, true, false, true, true, true, false, false, true, false, false, false, false, false, false, false, false, false, false, false] rfl rfl (by kernel_rfl) (fun _ _ _ h => h) (Or.inl ⟨by rfl, ?_⟩) ?_ ?_
                          rotate_left
                          · intro w'
                            go_simp
                            with_reducible rfl
                          rotate_left
                          · simp only [Act.put, List.setIfInBounds_toArray, List.set_cons_zero, List.set_cons_succ, i64_w, i32_w]
                            rfl
                          refine take_ (i := 8) (N := some 150) (v := ?_) (a' := ?_) #[true, true, true, true, true, true, true, true, true, true, false, true, true, true, false, false, true, false, false, false, false, false, false, false, false, false, false, false] rfl rfl (by kernel_rfl) (fun _ _ _ h => h) (Or.inl ⟨by rfl, ?_⟩) hHeld ?_ ?_
                          rotate_left
                          · intro w' s0; have q9 := (s0.cell (p := ⟨h9, 0, none⟩) HQ9.out).trans HC9.out; have q8 := (s0.cell (p := ⟨h8, 0, none⟩) HQ8.out).trans HC8.out
                            go_simp
                            with_reducible rfl
                          rotate_left
                          · simp only [Act.put, List.setIfInBounds_toArray, List.set_cons_zero, List.set_cons_succ, i64_w, i32_w]
                            rfl
                          refine pure_ (i := 10) (N := some 152) (v := ?_) (a' := ?_) #[true, true, true, true, true, true, true, true, true, true, true, true, true, true, false, false, true, false, false, false, false, false, false, false, false, false, false, false] rfl rfl (by kernel_rfl) (fun _ _ _ h => h) (Or.inl ⟨by rfl, ?_⟩) ?_ ?_
                          rotate_left
                          · intro w'
                            go_simp
                            with_reducible rfl
                          rotate_left
                          · simp only [Act.put, List.setIfInBounds_toArray, List.set_cons_zero, List.set_cons_succ, i64_w, i32_w]
                            rfl
                          refine take_ (i := 14) (N := some 156) (v := ?_) (a' := ?_) #[true, true, true, true, true, true, true, true, true, true, true, true, true, true, true, false, true, false, false, false, false, false, false, false, false, false, false, false] rfl rfl (by kernel_rfl) (fun _ _ _ h => h) (Or.inl ⟨by rfl, ?_⟩) hHeld ?_ ?_
                          rotate_left
                          · intro w' s0; have q9 := (s0.cell (p := ⟨h9, 0, none⟩) HQ9.out).trans HC9.out; have q8 := (s0.cell (p := ⟨h8, 0, none⟩) HQ8.out).trans HC8.out
                            go_simp
                            with_reducible rfl
                          rotate_left
                          · simp only [Act.put, List.setIfInBounds_toArray, List.set_cons_zero, List.set_cons_succ, i64_w, i32_w]
                            rfl
                          refine pure_ (i := 15) (N := some 157) (v := ?_) (a' := ?_) #[true, true, true, true, true, true, true, true, true, true, true, true, true, true, true, true, true, false, false, false, false, false, false, false, false, false, false, false] rfl rfl (by kernel_rfl) (fun _ _ _ h => h) (Or.inl ⟨by rfl, ?_⟩) ?_ ?_
                          rotate_left
                          · intro w'
                            go_simp
                            with_reducible rfl
                          rotate_left
                          · simp only [Act.put, List.setIfInBounds_toArray, List.set_cons_zero, List.set_cons_succ, i64_w, i32_w]
                            rfl
                          refine pure_ (i := 17) (N := some 159) (v := ?_) (a' := ?_) #[true, true, true, true, true, true, true, true, true, true, true, true, true, true, true, true, true, true, false, false, false, false, false, false, false, false, false, false] rfl rfl (by kernel_rfl) (fun _ _ _ h => h) (Or.inl ⟨by rfl, ?_⟩) ?_ ?_
                          rotate_left
                          · intro w'
                            go_simp
                            with_reducible rfl
                          rotate_left
                          · simp only [Act.put, List.setIfInBounds_toArray, List.set_cons_zero, List.set_cons_succ, i64_w, i32_w]
                            rfl
                          refine pure_ (i := 18) (N := some 160) (v := ?_) (a' := ?_) #[true, true, true, true, true, true, true, true, true, true, true, true, true, true, true, true, true, true, true, false, false, false, false, false, false, false, false, false] rfl rfl (by kernel_rfl) (fun _ _ _ h => h) (Or.inl ⟨by rfl, ?_⟩) ?_ ?_
                          rotate_left
                          · intro w'
                            go_simp
                            with_reducible rfl
                          rotate_left
                          · simp only [Act.put, List.setIfInBounds_toArray, List.set_cons_zero, List.set_cons_succ, i64_w, i32_w]
                            rfl
                          refine pure_ (i := 19) (N := some 161) (v := ?_) (a' := ?_) #[true, true, true, true, true, true, true, true, true, true, true, true, true, true, true, true, true, true, true, true, false, false, false, false, false, false, false, false] rfl rfl (by kernel_rfl) (fun _ _ _ h => h) (Or.inl ⟨by rfl, ?_⟩) ?_ ?_
                          rotate_left
                          · intro w'
                            go_simp
                            with_reducible rfl
                          rotate_left
                          · simp only [Act.put, List.setIfInBounds_toArray, List.set_cons_zero, List.set_cons_succ, i64_w, i32_w]
                            rfl
                          refine pure_ (i := 20) (N := some 162) (v := ?_) (a' := ?_) #[true, true, true, true, true, true, true, true, true, true, true, true, true, true, true, true, true, true, true, true, true, false, false, false, false, false, false, false] rfl rfl (by kernel_rfl) (fun _ _ _ h => h) (Or.inl ⟨by rfl, ?_⟩) ?_ ?_
                          rotate_left
                          · intro w'
                            go_simp
                            with_reducible rfl
                          rotate_left
                          · simp only [Act.put, List.setIfInBounds_toArray, List.set_cons_zero, List.set_cons_succ, i64_w, i32_w]
                            rfl
                          refine pure_ (i := 21) (N := some 163) (v := ?_) (a' := ?_) #[true, true, true, true, true, true, true, true, true, true, true, true, true, true, true, true, true, true, true, true, true, true, false, false, false, false, false, false] rfl rfl (by kernel_rfl) (fun _ _ _ h => h) (Or.inl ⟨by rfl, ?_⟩) ?_ ?_
                          rotate_left
                          · intro w'
                            go_simp
                            with_reducible rfl
                          rotate_left
                          · simp only [Act.put, List.setIfInBounds_toArray, List.set_cons_zero, List.set_cons_succ, i64_w, i32_w]
                            rfl
                          refine pure_ (i := 22) (N := some 164) (v := ?_) (a' := ?_) #[true, true, true, true, true, true, true, true, true, true, true, true, true, true, true, true, true, true, true, true, true, true, true, false, false, false, false, false] rfl rfl (by kernel_rfl) (fun _ _ _ h => h) (Or.inl ⟨by rfl, ?_⟩) ?_ ?_
                          rotate_left
                          · intro w'
                            go_simp
                            with_reducible rfl
                          rotate_left
                          · simp only [Act.put, List.setIfInBounds_toArray, List.set_cons_zero, List.set_cons_succ, i64_w, i32_w]
                            rfl
                          refine pure_ (i := 23) (N := some 165) (v := ?_) (a' := ?_) #[true, true, true, true, true, true, true, true, true, true, true, true, true, true, true, true, true, true, true, true, true, true, true, true, false, false, false, false] rfl rfl (by kernel_rfl) (fun _ _ _ h => h) (Or.inl ⟨by rfl, ?_⟩) ?_ ?_
                          rotate_left
                          · intro w'
                            go_simp
                            with_reducible rfl
                          rotate_left
                          · simp only [Act.put, List.setIfInBounds_toArray, List.set_cons_zero, List.set_cons_succ, i64_w, i32_w]
                            rfl
                          refine pure_ (i := 24) (N := some 166) (v := ?_) (a' := ?_) #[true, true, true, true, true, true, true, true, true, true, true, true, true, true, true, true, true, true, true, true, true, true, true, true, true, false, false, false] rfl rfl (by kernel_rfl) (fun _ _ _ h => h) (Or.inl ⟨by rfl, ?_⟩) ?_ ?_
                          rotate_left
                          · intro w'
                            go_simp
                            with_reducible rfl
                          rotate_left
                          · simp only [Act.put, List.setIfInBounds_toArray, List.set_cons_zero, List.set_cons_succ, i64_w, i32_w]
                            rfl
                          refine pure_ (i := 25) (N := some 167) (v := ?_) (a' := ?_) #[true, true, true, true, true, true, true, true, true, true, true, true, true, true, true, true, true, true, true, true, true, true, true, true, true, true, false, false] rfl rfl (by kernel_rfl) (fun _ _ _ h => h) (Or.inl ⟨by rfl, ?_⟩) ?_ ?_
                          rotate_left
                          · intro w'
                            go_simp
                            with_reducible rfl
                          rotate_left
                          · simp only [Act.put, List.setIfInBounds_toArray, List.set_cons_zero, List.set_cons_succ, i64_w, i32_w]
                            rfl
                          refine pure_ (i := 26) (N := some 168) (v := ?_) (a' := ?_) #[true, true, true, true, true, true, true, true, true, true, true, true, true, true, true, true, true, true, true, true, true, true, true, true, true, true, true, false] rfl rfl (by kernel_rfl) (fun _ _ _ h => h) (Or.inl ⟨by rfl, ?_⟩) ?_ ?_
                          rotate_left
                          · intro w'
                            go_simp
                            with_reducible rfl
                          rotate_left
                          · simp only [Act.put, List.setIfInBounds_toArray, List.set_cons_zero, List.set_cons_succ, i64_w, i32_w]
                            rfl
                          refine pure_ (i := 27) (N := some 169) (v := ?_) (a' := ?_) #[true, true, true, true, true, true, true, true, true, true, true, true, true, true, true, true, true, true, true, true, true, true, true, true, true, true, true, true] rfl rfl (by kernel_rfl) (fun _ _ _ h => h) (Or.inl ⟨by rfl, ?_⟩) ?_ ?_
                          rotate_left
                          · intro w'
                            go_simp
                            with_reducible rfl
                          rotate_left
                          · simp only [Act.put, List.setIfInBounds_toArray, List.set_cons_zero, List.set_cons_succ, i64_w, i32_w]
                            rfl
                          refine done_ (by kernel_rfl) ?_
                          clear w2k w2i
                          have HZ : Aside0 (L5 w Wr B g h8 h9 u0 u1 wv s0 s1 S') := ⟨⟨HS9.out.step hHeld, HA9.out.below hHeld⟩⟩
                          clear hHeld f1 fy fz g1 gy gz d1 d2 dw dwn
                          go_wp2
                          go_roundg cq
                          case measure => omega
                          case rel => exact ⟨1, rfl, ⟨by have := HKK.out; omega⟩, HZ⟩
                      · clear hk
                        go_wp2_with fail
                        by_cases he : S'.l (2 + 1) = []
                        · have HE := Aside0.mk he
                          clear he
                          (with_reducible refine (credit_ss HS.out N3').mono ?_)
                          rintro e W9 ⟨rfl, h9'⟩
                          have HS9 := Aside0.mk (HS.out.step h9')
                          have HA9 := Aside0.mk (HA.out.below h9')
                          clear h9'
                          obtain ⟨cr, hcr⟩ : ∃ x, S'.cr (3 : Int).toNat = x := ⟨_, rfl⟩
                          rw [hcr]
                          have HCR : Aside0 (S'.cr (2 + 1) = cr) := ⟨hcr⟩
                          clear hcr
                          go_wp2_with fail
                          obtain ⟨Wq, rfl⟩ : ∃ W, W = W9 := ⟨_, rfl⟩
                          have HC9 : Aside0 (Wq.cell? ⟨h9, 1, none⟩ = some (.int .i64 s1)) := ⟨blk_cell HA9.out.b9 1⟩
                          have HC8 : Aside0 (Wq.cell? ⟨h8, 1, none⟩ = some (.int .i64 (wv 1))) := ⟨blk_cell HA9.out.b8 1⟩
                          have HQ9 := Aside0.mk (blk_lt HA9.out.b9)
                          have HQ8 := Aside0.mk (blk_lt HA9.out.b8)
                          have hc := waits_none (HS9.out.step (Below.refl _ _).drew) N3' (show S'.l (3 : Int).toNat = [] from HE.out)
                          have HWM := Aside0.mk hc
                          clear hc
                          have w2k : wrap64 3 = 3 := by unfold wrap64; omega
                          have w2i : IntKind.i64.wrap 3 = 3 := (i64_w _).trans w2k
                          refine start_ (n := 28) (S := fun w' => Below Wq.heap.size Wq w') (ds := []) #[false, false, false, false, false, false, false, false, false, false, false, false, false, false, false, false, false, false, false, false, false, false, false, false, false, false, false, false] (by kernel_rfl) rfl rfl ((Below.refl _ _).drew) (fun hHeld => ?_)
                          refine pure_ (i := 0) (N := some 142) (v := ?_) (a' := ?_) #[true, false, false, false, false, false, false, false, false, false, false, false, false, false, false, false, false, false, false, false, false, false, false, false, false, false, false, false] rfl rfl (by kernel_rfl) (fun _ _ _ h => h) (Or.inl ⟨by rfl, ?_⟩) ?_ ?_
                          rotate_left
                          · intro w'
                            go_simp
                            with_reducible rfl
                          rotate_left
                          · simp only [Act.put, List.setIfInBounds_toArray, List.set_cons_zero, List.set_cons_succ, i64_w, i32_w]
                            rfl
                          refine pure_ (i := 1) (N := some 143) (v := ?_) (a' := ?_) #[true, true, false, false, false, false, false, false, false, false, false, false, false, false, false, false, false, false, false, false, false, false, false, false, false, false, false, false] rfl rfl (by kernel_rfl) (fun _ _ _ h => h) (Or.inl ⟨by rfl, ?_⟩) ?_ ?_
                          rotate_left
                          · intro w'
                            go_simp
                            with_reducible rfl
                          rotate_left
                          · simp only [Act.put, List.setIfInBounds_toArray, List.set_cons_zero, List.set_cons_succ, i64_w, i32_w]
                            rfl
                          refine pure_ (i := 2) (N := some 144) (v := ?_) (a' := ?_) #[true, true, true, false, false, false, false, false, false, false, false, false, false, false, false, false, false, false, false, false, false, false, false, false, false, false, false, false] rfl rfl (by kernel_rfl) (fun _ _ _ h => h) (Or.inl ⟨by rfl, ?_⟩) ?_ ?_
                          rotate_left
                          · intro w'
                            go_simp
                            with_reducible rfl
                          rotate_left
                          · simp only [Act.put, List.setIfInBounds_toArray, List.set_cons_zero, List.set_cons_succ, i64_w, i32_w]
                            rfl
                          refine one_ (i := 3) (N := some 145) #[true, true, true, true, false, false, false, false, false, false, false, false, false, false, false, false, false, false, false, false, false, false, false, false, false, false, false, false] rfl rfl (by kernel_rfl) (by decide) (fun K hK => ?_)
                          refine goes_ Try.func20 (by kernel_rfl) rfl #[.pointer (some ⟨g, 0, none⟩), .int .i64 3] (by rfl) rfl rfl (by (try simp only [List.map_toArray, List.map_cons, List.map_nil]); first | done | rfl) ?_
                          with_reducible refine (HWM.out).mono ?_
                          rintro e Wr ⟨rfl, hr⟩
                          refine ⟨_, rfl, ?_⟩
                          replace hHeld := below_step hHeld hr
                          clear hr
                          refine hK.out _ _ (hHeld) (fun hHeld => ?_)
                          clear hK K
                          refine norm_ (a' := ?_) ?_ ?_
                          rotate_left
                          · show Act.put _ (some 145) _ = _
                            simp only [Act.put, List.setIfInBounds_toArray, List.set_cons_zero, List.set_cons_succ, i64_w, i32_w]
                            rfl
                          refine pure_ (i := 4) (N := some 146) (v := ?_) (a' := ?_) #[true, true, true, true, true, false, false, false, false, false, false, false, false, false, false, false, false, false, false, false, false, false, false, false, false, false, false, false] rfl rfl (by kernel_rfl) (fun _ _ _ h => h) (Or.inl ⟨by rfl, ?_⟩) ?_ ?_
                          rotate_left
                          · intro w'
                            go_simp
                            with_reducible rfl
                          rotate_left
                          · simp only [Act.put, List.setIfInBounds_toArray, List.set_cons_zero, List.set_cons_succ, i64_w, i32_w]
                            rfl
                          refine pure_ (i := 5) (N := some 147) (v := ?_) (a' := ?_) #[true, true, true, true, true, true, false, false, false, false, false, false, false, false, false, false, false, false, false, false, false, false, false, false, false, false, false, false] rfl rfl (by kernel_rfl) (fun _ _ _ h => h) (Or.inl ⟨by rfl, ?_⟩) ?_ ?_
                          rotate_left
                          · intro w'
                            go_simp
                            with_reducible rfl
                          rotate_left
                          · simp only [Act.put, List.setIfInBounds_toArray, List.set_cons_zero, List.set_cons_succ, i64_w, i32_w]
                            rfl
                          refine pure_ (i := 6) (N := some 148) (v := undef) (a' := ?_) #[true, true, true, true, true, true, true, false, false, false, false, false, false, false, false, false, false, false, false, false, false, false, false, false, false, false, false, false] rfl rfl (by kernel_rfl) (fun _ _ _ h => h) (Or.inr ⟨by rfl, rfl⟩) ?_ ?_
                          rotate_left
                          · simp only [Act.put, List.setIfInBounds_toArray, List.set_cons_zero, List.set_cons_succ, i64_w, i32_w]
                            rfl
                          refine pure_ (i := 7) (N := some 149) (v := undef) (a' := ?_) #[true, true, true, true, true, true, true, true, false, false, false, false, false, false, false, false, false, false, false, false, false, false, false, false, false, false, false, false] rfl rfl (by kernel_rfl) (fun _ _ _ h => h) (Or.inr ⟨by rfl, rfl⟩) ?_ ?_
                          rotate_left
                          · simp only [Act.put, List.setIfInBounds_toArray, List.set_cons_zero, List.set_cons_succ, i64_w, i32_w]
                            rfl
                          refine pure_ (i := 8) (N := some 150) (v := undef) (a' := ?_) #[true, true, true, true, true, true, true, true, true, false, false, false, false, false, false, false, false, false, false, false, false, false, false, false, false, false, false, false] rfl rfl (by kernel_rfl) (fun _ _ _ h => h) (Or.inr ⟨by rfl, rfl⟩) ?_ ?_
                          rotate_left
                          · simp only [Act.put, List.setIfInBounds_toArray, List.set_cons_zero, List.set_cons_succ, i64_w, i32_w]
                            rfl
                          refine pure_ (i := 9) (N := some 151) (v := undef) (a' := ?_) #[true, true, true, true, true, true, true, true, true, true, false, false, false, false, false, false, false, false, false, false, false, false, false, false, false, false, false, false] rfl rfl (by kernel_rfl) (fun _ _ _ h => h) (Or.inr ⟨by rfl, rfl⟩) ?_ ?_
                          rotate_left
                          · simp only [Act.put, List.setIfInBounds_toArray, List.set_cons_zero, List.set_cons_succ, i64_w, i32_w]
                            rfl
                          refine pure_ (i := 10) (N := some 152) (v := undef) (a' := ?_) #[true, true, true, true, true, true, true, true, true, true, true, false, false, false, false, false, false, false, false, false, false, false, false, false, false, false, false, false] rfl rfl (by kernel_rfl) (fun _ _ _ h => h) (Or.inr ⟨by rfl, rfl⟩) ?_ ?_
                          rotate_left
                          · simp only [Act.put, List.setIfInBounds_toArray, List.set_cons_zero, List.set_cons_succ, i64_w, i32_w]
                            rfl
                          refine pure_ (i := 11) (N := some 153) (v := undef) (a' := ?_) #[true, true, true, true, true, true, true, true, true, true, true, true, false, false, false, false, false, false, false, false, false, false, false, false, false, false, false, false] rfl rfl (by kernel_rfl) (fun _ _ _ h => h) (Or.inr ⟨by rfl, rfl⟩) ?_ ?_
                          rotate_left
                          · simp only [Act.put, List.setIfInBounds_toArray, List.set_cons_zero, List.set_cons_succ, i64_w, i32_w]
                            rfl
                          refine pure_ (i := 12) (N := some 154) (v := undef) (a' := ?_) #[true, true, true, true, true, true, true, true, true, true, true, true, true, false, false, false, false, false, false, false, false, false, false, false, false, false, false, false] rfl rfl (by kernel_rfl) (fun _ _ _ h => h) (Or.inr ⟨by rfl, rfl⟩) ?_ ?_
                          rotate_left
                          · simp only [Act.put, List.setIfInBounds_toArray, List.set_cons_zero, List.set_cons_succ, i64_w, i32_w]
                            rfl
                          refine pure_ (i := 13) (N := some 155) (v := undef) (a' := ?_) #[true, true, true, true, true, true, true, true, true, true, true, true, true, true, false, false, false, false, false, false, false, false, false, false, false, false, false, false] rfl rfl (by kernel_rfl) (fun _ _ _ h => h) (Or.inr ⟨by rfl, rfl⟩) ?_ ?_
                          rotate_left
                          · simp only [Act.put, List.setIfInBounds_toArray, List.set_cons_zero, List.set_cons_succ, i64_w, i32_w]
                            rfl
                          refine pure_ (i := 14) (N := some 156) (v := undef) (a' := ?_) #[true, true, true, true, true, true, true, true, true, true, true, true, true, true, true, false, false, false, false, false, false, false, false, false, false, false, false, false] rfl rfl (by kernel_rfl) (fun _ _ _ h => h) (Or.inr ⟨by rfl, rfl⟩) ?_ ?_
                          rotate_left
                          · simp only [Act.put, List.setIfInBounds_toArray, List.set_cons_zero, List.set_cons_succ, i64_w, i32_w]
                            rfl
                          refine pure_ (i := 15) (N := some 157) (v := undef) (a' := ?_) #[true, true, true, true, true, true, true, true, true, true, true, true, true, true, true, true, false, false, false, false, false, false, false, false, false, false, false, false] rfl rfl (by kernel_rfl) (fun _ _ _ h => h) (Or.inr ⟨by rfl, rfl⟩) ?_ ?_
                          rotate_left
                          · simp only [Act.put, List.setIfInBounds_toArray, List.set_cons_zero, List.set_cons_succ, i64_w, i32_w]
                            rfl
                          refine pure_ (i := 16) (N := some 158) (v := undef) (a' := ?_) #[true, true, true, true, true, true, true, true, true, true, true, true, true, true, true, true, true, false, false, false, false, false, false, false, false, false, false, false] rfl rfl (by kernel_rfl) (fun _ _ _ h => h) (Or.inr ⟨by rfl, rfl⟩) ?_ ?_
                          rotate_left
                          · simp only [Act.put, List.setIfInBounds_toArray, List.set_cons_zero, List.set_cons_succ, i64_w, i32_w]
                            rfl
                          refine pure_ (i := 17) (N := some 159) (v := undef) (a' := ?_) #[true, true, true, true, true, true, true, true, true, true, true, true, true, true, true, true, true, true, false, false, false, false, false, false, false, false, false, false] rfl rfl (by kernel_rfl) (fun _ _ _ h => h) (Or.inr ⟨by rfl, rfl⟩) ?_ ?_
                          rotate_left
                          · simp only [Act.put, List.setIfInBounds_toArray, List.set_cons_zero, List.set_cons_succ, i64_w, i32_w]
                            rfl
                          refine pure_ (i := 18) (N := some 160) (v := undef) (a' := ?_) #[true, true, true, true, true, true, true, true, true, true, true, true, true, true, true, true, true, true, true, false, false, false, false, false, false, false, false, false] rfl rfl (by kernel_rfl) (fun _ _ _ h => h) (Or.inr ⟨by rfl, rfl⟩) ?_ ?_
                          rotate_left
                          · simp only [Act.put, List.setIfInBounds_toArray, List.set_cons_zero, List.set_cons_succ, i64_w, i32_w]
                            rfl
                          refine pure_ (i := 19) (N := some 161) (v := undef) (a' := ?_) #[true, true, true, true, true, true, true, true, true, true, true, true, true, true, true, true, true, true, true, true, false, false, false, false, false, false, false, false] rfl rfl (by kernel_rfl) (fun _ _ _ h => h) (Or.inr ⟨by rfl, rfl⟩) ?_ ?_
                          rotate_left
                          · simp only [Act.put, List.setIfInBounds_toArray, List.set_cons_zero, List.set_cons_succ, i64_w, i32_w]
                            rfl
                          refine pure_ (i := 20) (N := some 162) (v := undef) (a' := ?_) #[true, true, true, true, true, true, true, true, true, true, true, true, true, true, true, true, true, true, true, true, true, false, false, false, false, false, false, false] rfl rfl (by kernel_rfl) (fun _ _ _ h => h) (Or.inr ⟨by rfl, rfl⟩) ?_ ?_
                          rotate_left
                          · simp only [Act.put, List.setIfInBounds_toArray, List.set_cons_zero, List.set_cons_succ, i64_w, i32_w]
                            rfl
                          refine pure_ (i := 21) (N := some 163) (v := undef) (a' := ?_) #[true, true, true, true, true, true, true, true, true, true, true, true, true, true, true, true, true, true, true, true, true, true, false, false, false, false, false, false] rfl rfl (by kernel_rfl) (fun _ _ _ h => h) (Or.inr ⟨by rfl, rfl⟩) ?_ ?_
                          rotate_left
                          · simp only [Act.put, List.setIfInBounds_toArray, List.set_cons_zero, List.set_cons_succ, i64_w, i32_w]
                            rfl
                          refine pure_ (i := 22) (N := some 164) (v := undef) (a' := ?_) #[true, true, true, true, true, true, true, true, true, true, true, true, true, true, true, true, true, true, true, true, true, true, true, false, false, false, false, false] rfl rfl (by kernel_rfl) (fun _ _ _ h => h) (Or.inr ⟨by rfl, rfl⟩) ?_ ?_
                          rotate_left
                          · simp only [Act.put, List.setIfInBounds_toArray, List.set_cons_zero, List.set_cons_succ, i64_w, i32_w]
                            rfl
                          refine pure_ (i := 23) (N := some 165) (v := undef) (a' := ?_) #[true, true, true, true, true, true, true, true, true, true, true, true, true, true, true, true, true, true, true, true, true, true, true, true, false, false, false, false] rfl rfl (by kernel_rfl) (fun _ _ _ h => h) (Or.inr ⟨by rfl, rfl⟩) ?_ ?_
                          rotate_left
                          · simp only [Act.put, List.setIfInBounds_toArray, List.set_cons_zero, List.set_cons_succ, i64_w, i32_w]
                            rfl
                          refine pure_ (i := 24) (N := some 166) (v := undef) (a' := ?_) #[true, true, true, true, true, true, true, true, true, true, true, true, true, true, true, true, true, true, true, true, true, true, true, true, true, false, false, false] rfl rfl (by kernel_rfl) (fun _ _ _ h => h) (Or.inr ⟨by rfl, rfl⟩) ?_ ?_
                          rotate_left
                          · simp only [Act.put, List.setIfInBounds_toArray, List.set_cons_zero, List.set_cons_succ, i64_w, i32_w]
                            rfl
                          refine pure_ (i := 25) (N := some 167) (v := undef) (a' := ?_) #[true, true, true, true, true, true, true, true, true, true, true, true, true, true, true, true, true, true, true, true, true, true, true, true, true, true, false, false] rfl rfl (by kernel_rfl) (fun _ _ _ h => h) (Or.inr ⟨by rfl, rfl⟩) ?_ ?_
                          rotate_left
                          · simp only [Act.put, List.setIfInBounds_toArray, List.set_cons_zero, List.set_cons_succ, i64_w, i32_w]
                            rfl
                          refine pure_ (i := 26) (N := some 168) (v := undef) (a' := ?_) #[true, true, true, true, true, true, true, true, true, true, true, true, true, true, true, true, true, true, true, true, true, true, true, true, true, true, true, false] rfl rfl (by kernel_rfl) (fun _ _ _ h => h) (Or.inr ⟨by rfl, rfl⟩) ?_ ?_
                          rotate_left
                          · simp only [Act.put, List.setIfInBounds_toArray, List.set_cons_zero, List.set_cons_succ, i64_w, i32_w]
                            rfl
                          refine pure_ (i := 27) (N := some 169) (v := ?_) (a' := ?_) #[true, true, true, true, true, true, true, true, true, true, true, true, true, true, true, true, true, true, true, true, true, true, true, true, true, true, true, true] rfl rfl (by kernel_rfl) (fun _ _ _ h => h) (Or.inl ⟨by rfl, ?_⟩) ?_ ?_
                          rotate_left
                          · intro w'
                            go_simp
                            with_reducible rfl
                          rotate_left
                          · simp only [Act.put, List.setIfInBounds_toArray, List.set_cons_zero, List.set_cons_succ, i64_w, i32_w]
                            rfl
                          refine done_ (by kernel_rfl) ?_
                          clear w2k w2i
                          have HZ : Aside0 (L5 w Wr B g h8 h9 u0 u1 wv s0 s1 S') := ⟨⟨HS9.out.step hHeld, HA9.out.below hHeld⟩⟩
                          clear hHeld
                          go_wp2
                          go_roundg cq
                          case measure => omega
                          case rel => exact ⟨2, rfl, ⟨by have := HKK.out; omega⟩, HZ⟩
                        · have HE := Aside0.mk he
                          clear he
                          (with_reducible refine (credit_ss HS.out N3').mono ?_)
                          rintro e W9 ⟨rfl, h9'⟩
                          have HS9 := Aside0.mk (HS.out.step h9')
                          have HA9 := Aside0.mk (HA.out.below h9')
                          clear h9'
                          obtain ⟨cr, hcr⟩ : ∃ x, S'.cr (3 : Int).toNat = x := ⟨_, rfl⟩
                          rw [hcr]
                          have HCR : Aside0 (S'.cr (2 + 1) = cr) := ⟨hcr⟩
                          clear hcr
                          go_wp2_with fail
                          obtain ⟨Wq, rfl⟩ : ∃ W, W = W9 := ⟨_, rfl⟩
                          have HC9 : Aside0 (Wq.cell? ⟨h9, 1, none⟩ = some (.int .i64 s1)) := ⟨blk_cell HA9.out.b9 1⟩
                          have HC8 : Aside0 (Wq.cell? ⟨h8, 1, none⟩ = some (.int .i64 (wv 1))) := ⟨blk_cell HA9.out.b8 1⟩
                          have HQ9 := Aside0.mk (blk_lt HA9.out.b9)
                          have HQ8 := Aside0.mk (blk_lt HA9.out.b8)
                          obtain ⟨e1, e2, e3⟩ := HFI.out.eq 1 (by omega) HE.out
                          rw [HCR.out] at e1 e2 e3
                          obtain ⟨wm, hwm, hc⟩ := waits_some (HS9.out.step (Below.refl _ _).drew) N3' (show S'.l (3 : Int).toNat ≠ [] from HE.out)
                          have HWM := Aside0.mk hc
                          have dw : decide (0 < (wm : Int)) = true := decide_eq_true (by omega)
                          have dwn : decide (0 < wm) = true := decide_eq_true hwm
                          clear hc hwm
                          have ES : Aside0 (s1 = sm 1 + sumOf 1 L) := HSE1
                          obtain ⟨X, hX⟩ : ∃ X, ((m : Nat) : Int) * wv 1 * Q = X := ⟨_, rfl⟩
                          have e1' : s1 + cr = X := by rw [ES.out, ← hX, HMN.out]; exact e1
                          have bs := HBS.out
                          have f1 : wrap64 (s1 + cr) = X := by rw [e1']; unfold wrap64; omega
                          have fy : wrap64 ((m : Int) * wv 1) = (m : Int) * wv 1 := by have h1 := HMB.out; have h2 := HWB.out 1 (by omega); have h3 : (m : Int) * wv 1 ≤ 30 * 16 := Int.mul_le_mul (by omega) h2.2 (by omega) (by omega); have h4 : 0 ≤ (m : Int) * wv 1 := Int.mul_nonneg (by omega) (by omega); unfold wrap64; omega
                          have fz : wrap64 ((m : Int) * wv 1 * Q) = X := by rw [hX]; unfold wrap64; omega
                          have g1 : IntKind.i64.wrap (s1 + cr) = X := (i64_w _).trans f1
                          have gy : IntKind.i64.wrap ((m : Int) * wv 1) = (m : Int) * wv 1 := (i64_w _).trans fy
                          have gz : IntKind.i64.wrap ((m : Int) * wv 1 * Q) = X := (i64_w _).trans fz
                          have d1 : decide (cr < 0) = false := decide_eq_false (by omega)
                          have d2 : decide (5000 ≤ cr) = false := decide_eq_false (by omega)
                          clear e1 e2 e3 e1' hX bs
                          have w2k : wrap64 3 = 3 := by unfold wrap64; omega
                          have w2i : IntKind.i64.wrap 3 = 3 := (i64_w _).trans w2k
                          refine start_ (n := 28) (S := fun w' => Below Wq.heap.size Wq w') (ds := []) #[false, false, false, false, false, false, false, false, false, false, false, false, false, false, false, false, false, false, false, false, false, false, false, false, false, false, false, false] (by kernel_rfl) rfl rfl ((Below.refl _ _).drew) (fun hHeld => ?_)
                          refine pure_ (i := 0) (N := some 142) (v := ?_) (a' := ?_) #[true, false, false, false, false, false, false, false, false, false, false, false, false, false, false, false, false, false, false, false, false, false, false, false, false, false, false, false] rfl rfl (by kernel_rfl) (fun _ _ _ h => h) (Or.inl ⟨by rfl, ?_⟩) ?_ ?_
                          rotate_left
                          · intro w'
                            go_simp
                            with_reducible rfl
                          rotate_left
                          · simp only [Act.put, List.setIfInBounds_toArray, List.set_cons_zero, List.set_cons_succ, i64_w, i32_w]
                            rfl
                          refine pure_ (i := 1) (N := some 143) (v := ?_) (a' := ?_) #[true, true, false, false, false, false, false, false, false, false, false, false, false, false, false, false, false, false, false, false, false, false, false, false, false, false, false, false] rfl rfl (by kernel_rfl) (fun _ _ _ h => h) (Or.inl ⟨by rfl, ?_⟩) ?_ ?_
                          rotate_left
                          · intro w'
                            go_simp
                            with_reducible rfl
                          rotate_left
                          · simp only [Act.put, List.setIfInBounds_toArray, List.set_cons_zero, List.set_cons_succ, i64_w, i32_w]
                            rfl
                          refine pure_ (i := 2) (N := some 144) (v := ?_) (a' := ?_) #[true, true, true, false, false, false, false, false, false, false, false, false, false, false, false, false, false, false, false, false, false, false, false, false, false, false, false, false] rfl rfl (by kernel_rfl) (fun _ _ _ h => h) (Or.inl ⟨by rfl, ?_⟩) ?_ ?_
                          rotate_left
                          · intro w'
                            go_simp
                            with_reducible rfl
                          rotate_left
                          · simp only [Act.put, List.setIfInBounds_toArray, List.set_cons_zero, List.set_cons_succ, i64_w, i32_w]
                            rfl
                          refine one_ (i := 3) (N := some 145) #[true, true, true, true, false, false, false, false, false, false, false, false, false, false, false, false, false, false, false, false, false, false, false, false, false, false, false, false] rfl rfl (by kernel_rfl) (by decide) (fun K hK => ?_)
                          refine goes_ Try.func20 (by kernel_rfl) rfl #[.pointer (some ⟨g, 0, none⟩), .int .i64 3] (by rfl) rfl rfl (by (try simp only [List.map_toArray, List.map_cons, List.map_nil]); first | done | rfl) ?_
                          with_reducible refine (HWM.out).mono ?_
                          rintro e Wr ⟨rfl, hr⟩
                          refine ⟨_, rfl, ?_⟩
                          replace hHeld := below_step hHeld hr
                          clear hr
                          refine hK.out _ _ (hHeld) (fun hHeld => ?_)
                          clear hK K
                          refine norm_ (a' := ?_) ?_ ?_
                          rotate_left
                          · show Act.put _ (some 145) _ = _
                            simp only [Act.put, List.setIfInBounds_toArray, List.set_cons_zero, List.set_cons_succ, i64_w, i32_w]
                            rfl
                          refine pure_ (i := 4) (N := some 146) (v := ?_) (a' := ?_) #[true, true, true, true, true, false, false, false, false, false, false, false, false, false, false, false, false, false, false, false, false, false, false, false, false, false, false, false] rfl rfl (by kernel_rfl) (fun _ _ _ h => h) (Or.inl ⟨by rfl, ?_⟩) ?_ ?_
                          rotate_left
                          · intro w'
                            go_simp
                            with_reducible rfl
                          rotate_left
                          · simp only [Act.put, List.setIfInBounds_toArray, List.set_cons_zero, List.set_cons_succ, i64_w, i32_w]
                            rfl
                          refine pure_ (i := 5) (N := some 147) (v := ?_) (a' := ?_) #[true, true, true, true, true, true, false, false, false, false, false, false, false, false, false, false, false, false, false, false, false, false, false, false, false, false, false, false] rfl rfl (by kernel_rfl) (fun _ _ _ h => h) (Or.inl ⟨by rfl, ?_⟩) ?_ ?_
                          rotate_left
                          · intro w'
                            go_simp
                            with_reducible rfl
                          rotate_left
                          · simp only [Act.put, List.setIfInBounds_toArray, List.set_cons_zero, List.set_cons_succ, i64_w, i32_w]
                            rfl
                          refine pure_ (i := 6) (N := some 148) (v := ?_) (a' := ?_) #[true, true, true, true, true, true, true, false, false, false, false, false, false, false, false, false, false, false, false, false, false, false, false, false, false, false, false, false] rfl rfl (by kernel_rfl) (fun _ _ _ h => h) (Or.inl ⟨by rfl, ?_⟩) ?_ ?_
                          rotate_left
                          · intro w'
                            go_simp
                            with_reducible rfl
                          rotate_left
                          · simp only [Act.put, List.setIfInBounds_toArray, List.set_cons_zero, List.set_cons_succ, i64_w, i32_w]
                            rfl
                          refine pure_ (i := 7) (N := some 149) (v := ?_) (a' := ?_) #[true, true, true, true, true, true, true, true, false, false, false, false, false, false, false, false, false, false, false, false, false, false, false, false, false, false, false, false] rfl rfl (by kernel_rfl) (fun _ _ _ h => h) (Or.inl ⟨by rfl, ?_⟩) ?_ ?_
                          rotate_left
                          · intro w'
                            go_simp
                            with_reducible rfl
                          rotate_left
                          · simp only [Act.put, List.setIfInBounds_toArray, List.set_cons_zero, List.set_cons_succ, i64_w, i32_w]
                            rfl
                          refine pure_ (i := 9) (N := some 151) (v := ?_) (a' := ?_) #[true, true, true, true, true, true, true, true, false, true, false, false, false, false, false, false, false, false, false, false, false, false, false, false, false, false, false, false] rfl rfl (by kernel_rfl) (fun _ _ _ h => h) (Or.inl ⟨by rfl, ?_⟩) ?_ ?_
                          rotate_left
                          · intro w'
                            go_simp
                            with_reducible rfl
                          rotate_left
                          · simp only [Act.put, List.setIfInBounds_toArray, List.set_cons_zero, List.set_cons_succ, i64_w, i32_w]
                            rfl
                          refine pure_ (i := 11) (N := some 153) (v := ?_) (a' := ?_) #[true, true, true, true, true, true, true, true, false, true, false, true, false, false, false, false, false, false, false, false, false, false, false, false, false, false, false, false] rfl rfl (by kernel_rfl) (fun _ _ _ h => h) (Or.inl ⟨by rfl, ?_⟩) ?_ ?_
                          rotate_left
                          · intro w'
                            go_simp
                            with_reducible rfl
                          rotate_left
                          · simp only [Act.put, List.setIfInBounds_toArray, List.set_cons_zero, List.set_cons_succ, i64_w, i32_w]
                            rfl
                          refine pure_ (i := 12) (N := some 154) (v := ?_) (a' := ?_) #[true, true, true, true, true, true, true, true, false, true, false, true, true, false, false, false, false, false, false, false, false, false, false, false, false, false, false, false] rfl rfl (by kernel_rfl) (fun _ _ _ h => h) (Or.inl ⟨by rfl, ?_⟩) ?_ ?_
                          rotate_left
                          · intro w'
                            go_simp
                            with_reducible rfl
                          rotate_left
                          · simp only [Act.put, List.setIfInBounds_toArray, List.set_cons_zero, List.set_cons_succ, i64_w, i32_w]
                            rfl
                          refine pure_ (i := 13) (N := some 155) (v := ?_) (a' := ?_) #[true, true, true, true, true, true, true, true, false, true, false, true, true, true, false, false, false, false, false, false, false, false, false, false, false, false, false, false] rfl rfl (by kernel_rfl) (fun _ _ _ h => h) (Or.inl ⟨by rfl, ?_⟩) ?_ ?_
                          rotate_left
                          · intro w'
                            go_simp
                            with_reducible rfl
                          rotate_left
                          · simp only [Act.put, List.setIfInBounds_toArray, List.set_cons_zero, List.set_cons_succ, i64_w, i32_w]
                            rfl
                          refine pure_ (i := 16) (N := some 158) (v := ?_) (a' := ?_) #[true, true, true, true, true, true, true, true, false, true, false, true, true, true, false, false, true, false, false, false, false, false, false, false, false, false, false, false] rfl rfl (by kernel_rfl) (fun _ _ _ h => h) (Or.inl ⟨by rfl, ?_⟩) ?_ ?_
                          rotate_left
                          · intro w'
                            go_simp
                            with_reducible rfl
                          rotate_left
                          · simp only [Act.put, List.setIfInBounds_toArray, List.set_cons_zero, List.set_cons_succ, i64_w, i32_w]
                            rfl
                          refine take_ (i := 8) (N := some 150) (v := ?_) (a' := ?_) #[true, true, true, true, true, true, true, true, true, true, false, true, true, true, false, false, true, false, false, false, false, false, false, false, false, false, false, false] rfl rfl (by kernel_rfl) (fun _ _ _ h => h) (Or.inl ⟨by rfl, ?_⟩) hHeld ?_ ?_
                          rotate_left
                          · intro w' s0; have q9 := (s0.cell (p := ⟨h9, 1, none⟩) HQ9.out).trans HC9.out; have q8 := (s0.cell (p := ⟨h8, 1, none⟩) HQ8.out).trans HC8.out
                            go_simp
                            with_reducible rfl
                          rotate_left
                          · simp only [Act.put, List.setIfInBounds_toArray, List.set_cons_zero, List.set_cons_succ, i64_w, i32_w]
                            rfl
                          refine pure_ (i := 10) (N := some 152) (v := ?_) (a' := ?_) #[true, true, true, true, true, true, true, true, true, true, true, true, true, true, false, false, true, false, false, false, false, false, false, false, false, false, false, false] rfl rfl (by kernel_rfl) (fun _ _ _ h => h) (Or.inl ⟨by rfl, ?_⟩) ?_ ?_
                          rotate_left
                          · intro w'
                            go_simp
                            with_reducible rfl
                          rotate_left
                          · simp only [Act.put, List.setIfInBounds_toArray, List.set_cons_zero, List.set_cons_succ, i64_w, i32_w]
                            rfl
                          refine take_ (i := 14) (N := some 156) (v := ?_) (a' := ?_) #[true, true, true, true, true, true, true, true, true, true, true, true, true, true, true, false, true, false, false, false, false, false, false, false, false, false, false, false] rfl rfl (by kernel_rfl) (fun _ _ _ h => h) (Or.inl ⟨by rfl, ?_⟩) hHeld ?_ ?_
                          rotate_left
                          · intro w' s0; have q9 := (s0.cell (p := ⟨h9, 1, none⟩) HQ9.out).trans HC9.out; have q8 := (s0.cell (p := ⟨h8, 1, none⟩) HQ8.out).trans HC8.out
                            go_simp
                            with_reducible rfl
                          rotate_left
                          · simp only [Act.put, List.setIfInBounds_toArray, List.set_cons_zero, List.set_cons_succ, i64_w, i32_w]
                            rfl
                          refine pure_ (i := 15) (N := some 157) (v := ?_) (a' := ?_) #[true, true, true, true, true, true, true, true, true, true, true, true, true, true, true, true, true, false, false, false, false, false, false, false, false, false, false, false] rfl rfl (by kernel_rfl) (fun _ _ _ h => h) (Or.inl ⟨by rfl, ?_⟩) ?_ ?_
                          rotate_left
                          · intro w'
                            go_simp
                            with_reducible rfl
                          rotate_left
                          · simp only [Act.put, List.setIfInBounds_toArray, List.set_cons_zero, List.set_cons_succ, i64_w, i32_w]
                            rfl
                          refine pure_ (i := 17) (N := some 159) (v := ?_) (a' := ?_) #[true, true, true, true, true, true, true, true, true, true, true, true, true, true, true, true, true, true, false, false, false, false, false, false, false, false, false, false] rfl rfl (by kernel_rfl) (fun _ _ _ h => h) (Or.inl ⟨by rfl, ?_⟩) ?_ ?_
                          rotate_left
                          · intro w'
                            go_simp
                            with_reducible rfl
                          rotate_left
                          · simp only [Act.put, List.setIfInBounds_toArray, List.set_cons_zero, List.set_cons_succ, i64_w, i32_w]
                            rfl
                          refine pure_ (i := 18) (N := some 160) (v := ?_) (a' := ?_) #[true, true, true, true, true, true, true, true, true, true, true, true, true, true, true, true, true, true, true, false, false, false, false, false, false, false, false, false] rfl rfl (by kernel_rfl) (fun _ _ _ h => h) (Or.inl ⟨by rfl, ?_⟩) ?_ ?_
                          rotate_left
                          · intro w'
                            go_simp
                            with_reducible rfl
                          rotate_left
                          · simp only [Act.put, List.setIfInBounds_toArray, List.set_cons_zero, List.set_cons_succ, i64_w, i32_w]
                            rfl
                          refine pure_ (i := 19) (N := some 161) (v := ?_) (a' := ?_) #[true, true, true, true, true, true, true, true, true, true, true, true, true, true, true, true, true, true, true, true, false, false, false, false, false, false, false, false] rfl rfl (by kernel_rfl) (fun _ _ _ h => h) (Or.inl ⟨by rfl, ?_⟩) ?_ ?_
                          rotate_left
                          · intro w'
                            go_simp
                            with_reducible rfl
                          rotate_left
                          · simp only [Act.put, List.setIfInBounds_toArray, List.set_cons_zero, List.set_cons_succ, i64_w, i32_w]
                            rfl
                          refine pure_ (i := 20) (N := some 162) (v := ?_) (a' := ?_) #[true, true, true, true, true, true, true, true, true, true, true, true, true, true, true, true, true, true, true, true, true, false, false, false, false, false, false, false] rfl rfl (by kernel_rfl) (fun _ _ _ h => h) (Or.inl ⟨by rfl, ?_⟩) ?_ ?_
                          rotate_left
                          · intro w'
                            go_simp
                            with_reducible rfl
                          rotate_left
                          · simp only [Act.put, List.setIfInBounds_toArray, List.set_cons_zero, List.set_cons_succ, i64_w, i32_w]
                            rfl
                          refine pure_ (i := 21) (N := some 163) (v := ?_) (a' := ?_) #[true, true, true, true, true, true, true, true, true, true, true, true, true, true, true, true, true, true, true, true, true, true, false, false, false, false, false, false] rfl rfl (by kernel_rfl) (fun _ _ _ h => h) (Or.inl ⟨by rfl, ?_⟩) ?_ ?_
                          rotate_left
                          · intro w'
                            go_simp
                            with_reducible rfl
                          rotate_left
                          · simp only [Act.put, List.setIfInBounds_toArray, List.set_cons_zero, List.set_cons_succ, i64_w, i32_w]
                            rfl
                          refine pure_ (i := 22) (N := some 164) (v := ?_) (a' := ?_) #[true, true, true, true, true, true, true, true, true, true, true, true, true, true, true, true, true, true, true, true, true, true, true, false, false, false, false, false] rfl rfl (by kernel_rfl) (fun _ _ _ h => h) (Or.inl ⟨by rfl, ?_⟩) ?_ ?_
                          rotate_left
                          · intro w'
                            go_simp
                            with_reducible rfl
                          rotate_left
                          · simp only [Act.put, List.setIfInBounds_toArray, List.set_cons_zero, List.set_cons_succ, i64_w, i32_w]
                            rfl
                          refine pure_ (i := 23) (N := some 165) (v := ?_) (a' := ?_) #[true, true, true, true, true, true, true, true, true, true, true, true, true, true, true, true, true, true, true, true, true, true, true, true, false, false, false, false] rfl rfl (by kernel_rfl) (fun _ _ _ h => h) (Or.inl ⟨by rfl, ?_⟩) ?_ ?_
                          rotate_left
                          · intro w'
                            go_simp
                            with_reducible rfl
                          rotate_left
                          · simp only [Act.put, List.setIfInBounds_toArray, List.set_cons_zero, List.set_cons_succ, i64_w, i32_w]
                            rfl
                          refine pure_ (i := 24) (N := some 166) (v := ?_) (a' := ?_) #[true, true, true, true, true, true, true, true, true, true, true, true, true, true, true, true, true, true, true, true, true, true, true, true, true, false, false, false] rfl rfl (by kernel_rfl) (fun _ _ _ h => h) (Or.inl ⟨by rfl, ?_⟩) ?_ ?_
                          rotate_left
                          · intro w'
                            go_simp
                            with_reducible rfl
                          rotate_left
                          · simp only [Act.put, List.setIfInBounds_toArray, List.set_cons_zero, List.set_cons_succ, i64_w, i32_w]
                            rfl
                          refine pure_ (i := 25) (N := some 167) (v := ?_) (a' := ?_) #[true, true, true, true, true, true, true, true, true, true, true, true, true, true, true, true, true, true, true, true, true, true, true, true, true, true, false, false] rfl rfl (by kernel_rfl) (fun _ _ _ h => h) (Or.inl ⟨by rfl, ?_⟩) ?_ ?_
                          rotate_left
                          · intro w'
                            go_simp
                            with_reducible rfl
                          rotate_left
                          · simp only [Act.put, List.setIfInBounds_toArray, List.set_cons_zero, List.set_cons_succ, i64_w, i32_w]
                            rfl
                          refine pure_ (i := 26) (N := some 168) (v := ?_) (a' := ?_) #[true, true, true, true, true, true, true, true, true, true, true, true, true, true, true, true, true, true, true, true, true, true, true, true, true, true, true, false] rfl rfl (by kernel_rfl) (fun _ _ _ h => h) (Or.inl ⟨by rfl, ?_⟩) ?_ ?_
                          rotate_left
                          · intro w'
                            go_simp
                            with_reducible rfl
                          rotate_left
                          · simp only [Act.put, List.setIfInBounds_toArray, List.set_cons_zero, List.set_cons_succ, i64_w, i32_w]
                            rfl
                          refine pure_ (i := 27) (N := some 169) (v := ?_) (a' := ?_) #[true, true, true, true, true, true, true, true, true, true, true, true, true, true, true, true, true, true, true, true, true, true, true, true, true, true, true, true] rfl rfl (by kernel_rfl) (fun _ _ _ h => h) (Or.inl ⟨by rfl, ?_⟩) ?_ ?_
                          rotate_left
                          · intro w'
                            go_simp
                            with_reducible rfl
                          rotate_left
                          · simp only [Act.put, List.setIfInBounds_toArray, List.set_cons_zero, List.set_cons_succ, i64_w, i32_w]
                            rfl
                          refine done_ (by kernel_rfl) ?_
                          clear w2k w2i
                          have HZ : Aside0 (L5 w Wr B g h8 h9 u0 u1 wv s0 s1 S') := ⟨⟨HS9.out.step hHeld, HA9.out.below hHeld⟩⟩
                          clear hHeld f1 fy fz g1 gy gz d1 d2 dw dwn
                          go_wp2
                          go_roundg cq
                          case measure => omega
                          case rel => exact ⟨2, rfl, ⟨by have := HKK.out; omega⟩, HZ⟩
                | succ jq =>
                  have hil : i < L.length := by have := HII.out; omega
                  have HIL := Aside0.mk hil
                  have dl : decide (i < L.length) = true := decide_eq_true hil
                  obtain ⟨⟨r, z⟩, hxi⟩ : ∃ x, L[i]? = some x := ⟨L[i], List.getElem?_eq_getElem hil⟩
                  obtain ⟨a, rfl, x1, x2, hne⟩ := HST.out i (r, z) hxi
                  obtain ⟨hr, hz1, hz2⟩ := HRW.out (r, z) (List.mem_of_getElem? hxi)
                  have HXI := Aside0.mk hxi
                  simp only at x1 x2 hr hz1 hz2
                  clear hne hxi
                  rcases hr with rfl | rfl
                  · skip
                    have hs0 : 0 ≤ s0 ∧ s0 ≤ 200000000 := sum_fit HE0.out (HFS.out.sb 0 (by omega)) HLL.out HRW.out
                    have sw : wrap64 (s0 + z) = s0 + z := by unfold wrap64; omega
                    have gw : IntKind.i64.wrap (s0 + z) = s0 + z := (i64_w _).trans sw
                    clear hs0 hz1 hz2
                    have x9 : wr.cell? ⟨h9, 0, none⟩ = some (.int .i64 s0) := blk_cell HA.out.b9 0
                    have z9 := blk_frozen HA.out.b9 0
                    have w0k : wrap64 0 = 0 := by unfold wrap64; omega
                    go_wp2
                    refine start_ (n := 22) (S := fun w' => w'.cell? (a.add (i * 2)) = some (.int .i64 2) ∧ w'.cell? ⟨(a.add (i * 2)).block, (a.add (i * 2)).off + (0 + 1), none⟩ = some (.int .i64 z) ∧ w'.cell? ⟨h9, 0, none⟩ = some (.int .i64 s0)) (ds := [21]) #[false, false, false, false, false, false, false, false, false, false, false, false, false, false, false, false, false, false, false, false, false, false] (by kernel_rfl) rfl rfl ⟨x1, x2, x9⟩ (fun hHeld => ?_)
                    refine pure_ (i := 0) (N := some 113) (v := ?_) (a' := ?_) #[true, false, false, false, false, false, false, false, false, false, false, false, false, false, false, false, false, false, false, false, false, false] rfl rfl (by kernel_rfl) (fun _ _ _ h => h) (Or.inl ⟨by rfl, ?_⟩) ?_ ?_
                    rotate_left
                    · intro w'
                      go_simp
                      with_reducible rfl
                    rotate_left
                    · simp only [Act.put, List.setIfInBounds_toArray, List.set_cons_zero, List.set_cons_succ, i64_w, i32_w]
                      rfl
                    refine pure_ (i := 1) (N := some 114) (v := ?_) (a' := ?_) #[true, true, false, false, false, false, false, false, false, false, false, false, false, false, false, false, false, false, false, false, false, false] rfl rfl (by kernel_rfl) (fun _ _ _ h => h) (Or.inl ⟨by rfl, ?_⟩) ?_ ?_
                    rotate_left
                    · intro w'
                      go_simp
                      with_reducible rfl
                    rotate_left
                    · simp only [Act.put, List.setIfInBounds_toArray, List.set_cons_zero, List.set_cons_succ, i64_w, i32_w]
                      rfl
                    refine pure_ (i := 2) (N := some 115) (v := ?_) (a' := ?_) #[true, true, true, false, false, false, false, false, false, false, false, false, false, false, false, false, false, false, false, false, false, false] rfl rfl (by kernel_rfl) (fun _ _ _ h => h) (Or.inl ⟨by rfl, ?_⟩) ?_ ?_
                    rotate_left
                    · intro w'
                      go_simp
                      with_reducible rfl
                    rotate_left
                    · simp only [Act.put, List.setIfInBounds_toArray, List.set_cons_zero, List.set_cons_succ, i64_w, i32_w]
                      rfl
                    refine pure_ (i := 3) (N := some 116) (v := ?_) (a' := ?_) #[true, true, true, true, false, false, false, false, false, false, false, false, false, false, false, false, false, false, false, false, false, false] rfl rfl (by kernel_rfl) (fun _ _ _ h => h) (Or.inl ⟨by rfl, ?_⟩) ?_ ?_
                    rotate_left
                    · intro w'
                      go_simp
                      with_reducible rfl
                    rotate_left
                    · simp only [Act.put, List.setIfInBounds_toArray, List.set_cons_zero, List.set_cons_succ, i64_w, i32_w]
                      rfl
                    refine pure_ (i := 6) (N := some 119) (v := ?_) (a' := ?_) #[true, true, true, true, false, false, true, false, false, false, false, false, false, false, false, false, false, false, false, false, false, false] rfl rfl (by kernel_rfl) (fun _ _ _ h => h) (Or.inl ⟨by rfl, ?_⟩) ?_ ?_
                    rotate_left
                    · intro w'
                      go_simp
                      with_reducible rfl
                    rotate_left
                    · simp only [Act.put, List.setIfInBounds_toArray, List.set_cons_zero, List.set_cons_succ, i64_w, i32_w]
                      rfl
                    refine pure_ (i := 7) (N := some 120) (v := ?_) (a' := ?_) #[true, true, true, true, false, false, true, true, false, false, false, false, false, false, false, false, false, false, false, false, false, false] rfl rfl (by kernel_rfl) (fun _ _ _ h => h) (Or.inl ⟨by rfl, ?_⟩) ?_ ?_
                    rotate_left
                    · intro w'
                      go_simp
                      with_reducible rfl
                    rotate_left
                    · simp only [Act.put, List.setIfInBounds_toArray, List.set_cons_zero, List.set_cons_succ, i64_w, i32_w]
                      rfl
                    refine pure_ (i := 8) (N := some 121) (v := ?_) (a' := ?_) #[true, true, true, true, false, false, true, true, true, false, false, false, false, false, false, false, false, false, false, false, false, false] rfl rfl (by kernel_rfl) (fun _ _ _ h => h) (Or.inl ⟨by rfl, ?_⟩) ?_ ?_
                    rotate_left
                    · intro w'
                      go_simp
                      with_reducible rfl
                    rotate_left
                    · simp only [Act.put, List.setIfInBounds_toArray, List.set_cons_zero, List.set_cons_succ, i64_w, i32_w]
                      rfl
                    refine pure_ (i := 9) (N := some 122) (v := ?_) (a' := ?_) #[true, true, true, true, false, false, true, true, true, true, false, false, false, false, false, false, false, false, false, false, false, false] rfl rfl (by kernel_rfl) (fun _ _ _ h => h) (Or.inl ⟨by rfl, ?_⟩) ?_ ?_
                    rotate_left
                    · intro w'
                      go_simp
                      with_reducible rfl
                    rotate_left
                    · simp only [Act.put, List.setIfInBounds_toArray, List.set_cons_zero, List.set_cons_succ, i64_w, i32_w]
                      rfl
                    refine pure_ (i := 14) (N := some 127) (v := ?_) (a' := ?_) #[true, true, true, true, false, false, true, true, true, true, false, false, false, false, true, false, false, false, false, false, false, false] rfl rfl (by kernel_rfl) (fun _ _ _ h => h) (Or.inl ⟨by rfl, ?_⟩) ?_ ?_
                    rotate_left
                    · intro w'
                      go_simp
                      with_reducible rfl
                    rotate_left
                    · simp only [Act.put, List.setIfInBounds_toArray, List.set_cons_zero, List.set_cons_succ, i64_w, i32_w]
                      rfl
                    refine pure_ (i := 15) (N := some 128) (v := ?_) (a' := ?_) #[true, true, true, true, false, false, true, true, true, true, false, false, false, false, true, true, false, false, false, false, false, false] rfl rfl (by kernel_rfl) (fun _ _ _ h => h) (Or.inl ⟨by rfl, ?_⟩) ?_ ?_
                    rotate_left
                    · intro w'
                      go_simp
                      with_reducible rfl
                    rotate_left
                    · simp only [Act.put, List.setIfInBounds_toArray, List.set_cons_zero, List.set_cons_succ, i64_w, i32_w]
                      rfl
                    refine pure_ (i := 16) (N := some 129) (v := ?_) (a' := ?_) #[true, true, true, true, false, false, true, true, true, true, false, false, false, false, true, true, true, false, false, false, false, false] rfl rfl (by kernel_rfl) (fun _ _ _ h => h) (Or.inl ⟨by rfl, ?_⟩) ?_ ?_
                    rotate_left
                    · intro w'
                      go_simp
                      with_reducible rfl
                    rotate_left
                    · simp only [Act.put, List.setIfInBounds_toArray, List.set_cons_zero, List.set_cons_succ, i64_w, i32_w]
                      rfl
                    refine pure_ (i := 17) (N := some 130) (v := ?_) (a' := ?_) #[true, true, true, true, false, false, true, true, true, true, false, false, false, false, true, true, true, true, false, false, false, false] rfl rfl (by kernel_rfl) (fun _ _ _ h => h) (Or.inl ⟨by rfl, ?_⟩) ?_ ?_
                    rotate_left
                    · intro w'
                      go_simp
                      with_reducible rfl
                    rotate_left
                    · simp only [Act.put, List.setIfInBounds_toArray, List.set_cons_zero, List.set_cons_succ, i64_w, i32_w]
                      rfl
                    refine take_ (i := 4) (N := some 117) (v := ?_) (a' := ?_) #[true, true, true, true, true, false, true, true, true, true, false, false, false, false, true, true, true, true, false, false, false, false] rfl rfl (by kernel_rfl) (fun _ _ _ h => h) (Or.inl ⟨by rfl, ?_⟩) hHeld ?_ ?_
                    rotate_left
                    · rintro w' ⟨s0, s1, s2⟩
                      go_simp
                      with_reducible rfl
                    rotate_left
                    · simp only [Act.put, List.setIfInBounds_toArray, List.set_cons_zero, List.set_cons_succ, i64_w, i32_w]
                      rfl
                    refine pure_ (i := 5) (N := some 118) (v := ?_) (a' := ?_) #[true, true, true, true, true, true, true, true, true, true, false, false, false, false, true, true, true, true, false, false, false, false] rfl rfl (by kernel_rfl) (fun _ _ _ h => h) (Or.inl ⟨by rfl, ?_⟩) ?_ ?_
                    rotate_left
                    · intro w'
                      go_simp
                      with_reducible rfl
                    rotate_left
                    · simp only [Act.put, List.setIfInBounds_toArray, List.set_cons_zero, List.set_cons_succ, i64_w, i32_w]
                      rfl
                    refine take_ (i := 10) (N := some 123) (v := ?_) (a' := ?_) #[true, true, true, true, true, true, true, true, true, true, true, false, false, false, true, true, true, true, false, false, false, false] rfl rfl (by kernel_rfl) (fun _ _ _ h => h) (Or.inl ⟨by rfl, ?_⟩) hHeld ?_ ?_
                    rotate_left
                    · rintro w' ⟨s0, s1, s2⟩
                      go_simp
                      with_reducible rfl
                    rotate_left
                    · simp only [Act.put, List.setIfInBounds_toArray, List.set_cons_zero, List.set_cons_succ, i64_w, i32_w]
                      rfl
                    refine pure_ (i := 11) (N := some 124) (v := ?_) (a' := ?_) #[true, true, true, true, true, true, true, true, true, true, true, true, false, false, true, true, true, true, false, false, false, false] rfl rfl (by kernel_rfl) (fun _ _ _ h => h) (Or.inl ⟨by rfl, ?_⟩) ?_ ?_
                    rotate_left
                    · intro w'
                      go_simp
                      with_reducible rfl
                    rotate_left
                    · simp only [Act.put, List.setIfInBounds_toArray, List.set_cons_zero, List.set_cons_succ, i64_w, i32_w]
                      rfl
                    refine pure_ (i := 12) (N := some 125) (v := ?_) (a' := ?_) #[true, true, true, true, true, true, true, true, true, true, true, true, true, false, true, true, true, true, false, false, false, false] rfl rfl (by kernel_rfl) (fun _ _ _ h => h) (Or.inl ⟨by rfl, ?_⟩) ?_ ?_
                    rotate_left
                    · intro w'
                      go_simp
                      with_reducible rfl
                    rotate_left
                    · simp only [Act.put, List.setIfInBounds_toArray, List.set_cons_zero, List.set_cons_succ, i64_w, i32_w]
                      rfl
                    refine take_ (i := 13) (N := some 126) (v := ?_) (a' := ?_) #[true, true, true, true, true, true, true, true, true, true, true, true, true, true, true, true, true, true, false, false, false, false] rfl rfl (by kernel_rfl) (fun _ _ _ h => h) (Or.inl ⟨by rfl, ?_⟩) hHeld ?_ ?_
                    rotate_left
                    · rintro w' ⟨s0, s1, s2⟩
                      go_simp
                      with_reducible rfl
                    rotate_left
                    · simp only [Act.put, List.setIfInBounds_toArray, List.set_cons_zero, List.set_cons_succ, i64_w, i32_w]
                      rfl
                    refine take_ (i := 18) (N := some 131) (v := ?_) (a' := ?_) #[true, true, true, true, true, true, true, true, true, true, true, true, true, true, true, true, true, true, true, false, false, false] rfl rfl (by kernel_rfl) (fun _ _ _ h => h) (Or.inl ⟨by rfl, ?_⟩) hHeld ?_ ?_
                    rotate_left
                    · rintro w' ⟨s0, s1, s2⟩
                      go_simp
                      with_reducible rfl
                    rotate_left
                    · simp only [Act.put, List.setIfInBounds_toArray, List.set_cons_zero, List.set_cons_succ, i64_w, i32_w]
                      rfl
                    refine pure_ (i := 19) (N := some 132) (v := ?_) (a' := ?_) #[true, true, true, true, true, true, true, true, true, true, true, true, true, true, true, true, true, true, true, true, false, false] rfl rfl (by kernel_rfl) (fun _ _ _ h => h) (Or.inl ⟨by rfl, ?_⟩) ?_ ?_
                    rotate_left
                    · intro w'
                      go_simp
                      with_reducible rfl
                    rotate_left
                    · simp only [Act.put, List.setIfInBounds_toArray, List.set_cons_zero, List.set_cons_succ, i64_w, i32_w]
                      rfl
                    refine pure_ (i := 20) (N := some 133) (v := ?_) (a' := ?_) #[true, true, true, true, true, true, true, true, true, true, true, true, true, true, true, true, true, true, true, true, true, false] rfl rfl (by kernel_rfl) (fun _ _ _ h => h) (Or.inl ⟨by rfl, ?_⟩) ?_ ?_
                    rotate_left
                    · intro w'
                      go_simp
                      with_reducible rfl
                    rotate_left
                    · simp only [Act.put, List.setIfInBounds_toArray, List.set_cons_zero, List.set_cons_succ, i64_w, i32_w]
                      rfl
                    refine last_ (i := 21) (N := none) #[true, true, true, true, true, true, true, true, true, true, true, true, true, true, true, true, true, true, true, true, true, true] rfl rfl (by kernel_rfl) (by decide) (fun K hK => ?_)
                    refine skip_ (w1 := ?_) (by rfl) rfl ?_ ?_
                    rotate_left
                    · go_simp
                      rfl
                    refine hK.out _ _ ?_
                    clear hK K
                    refine done_ (by kernel_rfl) ?_
                    have hs7 : SS w (wr.drew.setCell ⟨h9, 0, none⟩ (.int .i64 (s0 + z))) B g (N3 w.heap.size h8 h9) (turnTo S 16).1 := (HS.out.step (Below.refl _ _).drew).set (.inr (.inr rfl)) (Nat.le_of_lt (Nat.lt_trans HL8.out HL9.out)) 0 _
                    have ha7 : A3 (wr.drew.setCell ⟨h9, 0, none⟩ (.int .i64 (s0 + z))) w.heap.size h8 h9 u0 u1 (wv 0) (wv 1) (s0 + z) s1 := ⟨blk_far (w := wr.drew) HA.out.b4 (Nat.ne_of_lt (Nat.lt_trans HL8.out HL9.out)) _, blk_far (w := wr.drew) HA.out.b8 (Nat.ne_of_lt HL9.out) _, blk_put (w := wr.drew) HA.out.b9 0 _ rfl⟩
                    have hst7 : Steps (wr.drew.setCell ⟨h9, 0, none⟩ (.int .i64 (s0 + z))) (some a) h9 L := Steps.set (W := wr.drew) HST.out 0 _
                    have HZ := Aside0.mk (show L4 w _ B g h8 h9 u0 u1 wv sm (some a) L (turnTo S 16).1 (i + 1) from ⟨_, _, hs7, ha7, hst7, by rw [sumOf_next 0 HXI.out, HE0.out]; simp; omega, by rw [sumOf_next 1 HXI.out, HE1.out]; simp⟩)
                    clear hs7 ha7 hst7 x1 x2 x9 z9 sw gw w0k
                    go_wp2
                    go_roundg jq
                    case measure => omega
                    case rel => exact ⟨i + 1, next_i (by have := HIL.out; have := HLL.out; omega), ⟨by have := HII.out; omega⟩, HZ⟩
                  · skip
                    have hs0 : 0 ≤ s1 ∧ s1 ≤ 200000000 := sum_fit HE1.out (HFS.out.sb 1 (by omega)) HLL.out HRW.out
                    have sw : wrap64 (s1 + z) = s1 + z := by unfold wrap64; omega
                    have gw : IntKind.i64.wrap (s1 + z) = s1 + z := (i64_w _).trans sw
                    clear hs0 hz1 hz2
                    have x9 : wr.cell? ⟨h9, 1, none⟩ = some (.int .i64 s1) := blk_cell HA.out.b9 1
                    have z9 := blk_frozen HA.out.b9 1
                    have w0k : wrap64 1 = 1 := by unfold wrap64; omega
                    go_wp2
                    refine start_ (n := 22) (S := fun w' => w'.cell? (a.add (i * 2)) = some (.int .i64 3) ∧ w'.cell? ⟨(a.add (i * 2)).block, (a.add (i * 2)).off + (0 + 1), none⟩ = some (.int .i64 z) ∧ w'.cell? ⟨h9, 1, none⟩ = some (.int .i64 s1)) (ds := [21]) #[false, false, false, false, false, false, false, false, false, false, false, false, false, false, false, false, false, false, false, false, false, false] (by kernel_rfl) rfl rfl ⟨x1, x2, x9⟩ (fun hHeld => ?_)
                    refine pure_ (i := 0) (N := some 113) (v := ?_) (a' := ?_) #[true, false, false, false, false, false, false, false, false, false, false, false, false, false, false, false, false, false, false, false, false, false] rfl rfl (by kernel_rfl) (fun _ _ _ h => h) (Or.inl ⟨by rfl, ?_⟩) ?_ ?_
                    rotate_left
                    · intro w'
                      go_simp
                      with_reducible rfl
                    rotate_left
                    · simp only [Act.put, List.setIfInBounds_toArray, List.set_cons_zero, List.set_cons_succ, i64_w, i32_w]
                      rfl
                    refine pure_ (i := 1) (N := some 114) (v := ?_) (a' := ?_) #[true, true, false, false, false, false, false, false, false, false, false, false, false, false, false, false, false, false, false, false, false, false] rfl rfl (by kernel_rfl) (fun _ _ _ h => h) (Or.inl ⟨by rfl, ?_⟩) ?_ ?_
                    rotate_left
                    · intro w'
                      go_simp
                      with_reducible rfl
                    rotate_left
                    · simp only [Act.put, List.setIfInBounds_toArray, List.set_cons_zero, List.set_cons_succ, i64_w, i32_w]
                      rfl
                    refine pure_ (i := 2) (N := some 115) (v := ?_) (a' := ?_) #[true, true, true, false, false, false, false, false, false, false, false, false, false, false, false, false, false, false, false, false, false, false] rfl rfl (by kernel_rfl) (fun _ _ _ h => h) (Or.inl ⟨by rfl, ?_⟩) ?_ ?_
                    rotate_left
                    · intro w'
                      go_simp
                      with_reducible rfl
                    rotate_left
                    · simp only [Act.put, List.setIfInBounds_toArray, List.set_cons_zero, List.set_cons_succ, i64_w, i32_w]
                      rfl
                    refine pure_ (i := 3) (N := some 116) (v := ?_) (a' := ?_) #[true, true, true, true, false, false, false, false, false, false, false, false, false, false, false, false, false, false, false, false, false, false] rfl rfl (by kernel_rfl) (fun _ _ _ h => h) (Or.inl ⟨by rfl, ?_⟩) ?_ ?_
                    rotate_left
                    · intro w'
                      go_simp
                      with_reducible rfl
                    rotate_left
                    · simp only [Act.put, List.setIfInBounds_toArray, List.set_cons_zero, List.set_cons_succ, i64_w, i32_w]
                      rfl
                    refine pure_ (i := 6) (N := some 119) (v := ?_) (a' := ?_) #[true, true, true, true, false, false, true, false, false, false, false, false, false, false, false, false, false, false, false, false, false, false] rfl rfl (by kernel_rfl) (fun _ _ _ h => h) (Or.inl ⟨by rfl, ?_⟩) ?_ ?_
                    rotate_left
                    · intro w'
                      go_simp
                      with_reducible rfl
                    rotate_left
                    · simp only [Act.put, List.setIfInBounds_toArray, List.set_cons_zero, List.set_cons_succ, i64_w, i32_w]
                      rfl
                    refine pure_ (i := 7) (N := some 120) (v := ?_) (a' := ?_) #[true, true, true, true, false, false, true, true, false, false, false, false, false, false, false, false, false, false, false, false, false, false] rfl rfl (by kernel_rfl) (fun _ _ _ h => h) (Or.inl ⟨by rfl, ?_⟩) ?_ ?_
                    rotate_left
                    · intro w'
                      go_simp
                      with_reducible rfl
                    rotate_left
                    · simp only [Act.put, List.setIfInBounds_toArray, List.set_cons_zero, List.set_cons_succ, i64_w, i32_w]
                      rfl
                    refine pure_ (i := 8) (N := some 121) (v := ?_) (a' := ?_) #[true, true, true, true, false, false, true, true, true, false, false, false, false, false, false, false, false, false, false, false, false, false] rfl rfl (by kernel_rfl) (fun _ _ _ h => h) (Or.inl ⟨by rfl, ?_⟩) ?_ ?_
                    rotate_left
                    · intro w'
                      go_simp
                      with_reducible rfl
                    rotate_left
                    · simp only [Act.put, List.setIfInBounds_toArray, List.set_cons_zero, List.set_cons_succ, i64_w, i32_w]
                      rfl
                    refine pure_ (i := 9) (N := some 122) (v := ?_) (a' := ?_) #[true, true, true, true, false, false, true, true, true, true, false, false, false, false, false, false, false, false, false, false, false, false] rfl rfl (by kernel_rfl) (fun _ _ _ h => h) (Or.inl ⟨by rfl, ?_⟩) ?_ ?_
                    rotate_left
                    · intro w'
                      go_simp
                      with_reducible rfl
                    rotate_left
                    · simp only [Act.put, List.setIfInBounds_toArray, List.set_cons_zero, List.set_cons_succ, i64_w, i32_w]
                      rfl
                    refine pure_ (i := 14) (N := some 127) (v := ?_) (a' := ?_) #[true, true, true, true, false, false, true, true, true, true, false, false, false, false, true, false, false, false, false, false, false, false] rfl rfl (by kernel_rfl) (fun _ _ _ h => h) (Or.inl ⟨by rfl, ?_⟩) ?_ ?_
                    rotate_left
                    · intro w'
                      go_simp
                      with_reducible rfl
                    rotate_left
                    · simp only [Act.put, List.setIfInBounds_toArray, List.set_cons_zero, List.set_cons_succ, i64_w, i32_w]
                      rfl
                    refine pure_ (i := 15) (N := some 128) (v := ?_) (a' := ?_) #[true, true, true, true, false, false, true, true, true, true, false, false, false, false, true, true, false, false, false, false, false, false] rfl rfl (by kernel_rfl) (fun _ _ _ h => h) (Or.inl ⟨by rfl, ?_⟩) ?_ ?_
                    rotate_left
                    · intro w'
                      go_simp
                      with_reducible rfl
                    rotate_left
                    · simp only [Act.put, List.setIfInBounds_toArray, List.set_cons_zero, List.set_cons_succ, i64_w, i32_w]
                      rfl
                    refine pure_ (i := 16) (N := some 129) (v := ?_) (a' := ?_) #[true, true, true, true, false, false, true, true, true, true, false, false, false, false, true, true, true, false, false, false, false, false] rfl rfl (by kernel_rfl) (fun _ _ _ h => h) (Or.inl ⟨by rfl, ?_⟩) ?_ ?_
                    rotate_left
                    · intro w'
                      go_simp
                      with_reducible rfl
                    rotate_left
                    · simp only [Act.put, List.setIfInBounds_toArray, List.set_cons_zero, List.set_cons_succ, i64_w, i32_w]
                      rfl
                    refine pure_ (i := 17) (N := some 130) (v := ?_) (a' := ?_) #[true, true, true, true, false, false, true, true, true, true, false, false, false, false, true, true, true, true, false, false, false, false] rfl rfl (by kernel_rfl) (fun _ _ _ h => h) (Or.inl ⟨by rfl, ?_⟩) ?_ ?_
                    rotate_left
                    · intro w'
                      go_simp
                      with_reducible rfl
                    rotate_left
                    · simp only [Act.put, List.setIfInBounds_toArray, List.set_cons_zero, List.set_cons_succ, i64_w, i32_w]
                      rfl
                    refine take_ (i := 4) (N := some 117) (v := ?_) (a' := ?_) #[true, true, true, true, true, false, true, true, true, true, false, false, false, false, true, true, true, true, false, false, false, false] rfl rfl (by kernel_rfl) (fun _ _ _ h => h) (Or.inl ⟨by rfl, ?_⟩) hHeld ?_ ?_
                    rotate_left
                    · rintro w' ⟨s0, s1, s2⟩
                      go_simp
                      with_reducible rfl
                    rotate_left
                    · simp only [Act.put, List.setIfInBounds_toArray, List.set_cons_zero, List.set_cons_succ, i64_w, i32_w]
                      rfl
                    refine pure_ (i := 5) (N := some 118) (v := ?_) (a' := ?_) #[true, true, true, true, true, true, true, true, true, true, false, false, false, false, true, true, true, true, false, false, false, false] rfl rfl (by kernel_rfl) (fun _ _ _ h => h) (Or.inl ⟨by rfl, ?_⟩) ?_ ?_
                    rotate_left
                    · intro w'
                      go_simp
                      with_reducible rfl
                    rotate_left
                    · simp only [Act.put, List.setIfInBounds_toArray, List.set_cons_zero, List.set_cons_succ, i64_w, i32_w]
                      rfl
                    refine take_ (i := 10) (N := some 123) (v := ?_) (a' := ?_) #[true, true, true, true, true, true, true, true, true, true, true, false, false, false, true, true, true, true, false, false, false, false] rfl rfl (by kernel_rfl) (fun _ _ _ h => h) (Or.inl ⟨by rfl, ?_⟩) hHeld ?_ ?_
                    rotate_left
                    · rintro w' ⟨s0, s1, s2⟩
                      go_simp
                      with_reducible rfl
                    rotate_left
                    · simp only [Act.put, List.setIfInBounds_toArray, List.set_cons_zero, List.set_cons_succ, i64_w, i32_w]
                      rfl
                    refine pure_ (i := 11) (N := some 124) (v := ?_) (a' := ?_) #[true, true, true, true, true, true, true, true, true, true, true, true, false, false, true, true, true, true, false, false, false, false] rfl rfl (by kernel_rfl) (fun _ _ _ h => h) (Or.inl ⟨by rfl, ?_⟩) ?_ ?_
                    rotate_left
                    · intro w'
                      go_simp
                      with_reducible rfl
                    rotate_left
                    · simp only [Act.put, List.setIfInBounds_toArray, List.set_cons_zero, List.set_cons_succ, i64_w, i32_w]
                      rfl
                    refine pure_ (i := 12) (N := some 125) (v := ?_) (a' := ?_) #[true, true, true, true, true, true, true, true, true, true, true, true, true, false, true, true, true, true, false, false, false, false] rfl rfl (by kernel_rfl) (fun _ _ _ h => h) (Or.inl ⟨by rfl, ?_⟩) ?_ ?_
                    rotate_left
                    · intro w'
                      go_simp
                      with_reducible rfl
                    rotate_left
                    · simp only [Act.put, List.setIfInBounds_toArray, List.set_cons_zero, List.set_cons_succ, i64_w, i32_w]
                      rfl
                    refine take_ (i := 13) (N := some 126) (v := ?_) (a' := ?_) #[true, true, true, true, true, true, true, true, true, true, true, true, true, true, true, true, true, true, false, false, false, false] rfl rfl (by kernel_rfl) (fun _ _ _ h => h) (Or.inl ⟨by rfl, ?_⟩) hHeld ?_ ?_
                    rotate_left
                    · rintro w' ⟨s0, s1, s2⟩
                      go_simp
                      with_reducible rfl
                    rotate_left
                    · simp only [Act.put, List.setIfInBounds_toArray, List.set_cons_zero, List.set_cons_succ, i64_w, i32_w]
                      rfl
                    refine take_ (i := 18) (N := some 131) (v := ?_) (a' := ?_) #[true, true, true, true, true, true, true, true, true, true, true, true, true, true, true, true, true, true, true, false, false, false] rfl rfl (by kernel_rfl) (fun _ _ _ h => h) (Or.inl ⟨by rfl, ?_⟩) hHeld ?_ ?_
                    rotate_left
                    · rintro w' ⟨s0, s1, s2⟩
                      go_simp
                      with_reducible rfl
                    rotate_left
                    · simp only [Act.put, List.setIfInBounds_toArray, List.set_cons_zero, List.set_cons_succ, i64_w, i32_w]
                      rfl
                    refine pure_ (i := 19) (N := some 132) (v := ?_) (a' := ?_) #[true, true, true, true, true, true, true, true, true, true, true, true, true, true, true, true, true, true, true, true, false, false] rfl rfl (by kernel_rfl) (fun _ _ _ h => h) (Or.inl ⟨by rfl, ?_⟩) ?_ ?_
                    rotate_left
                    · intro w'
                      go_simp
                      with_reducible rfl
                    rotate_left
                    · simp only [Act.put, List.setIfInBounds_toArray, List.set_cons_zero, List.set_cons_succ, i64_w, i32_w]
                      rfl
                    refine pure_ (i := 20) (N := some 133) (v := ?_) (a' := ?_) #[true, true, true, true, true, true, true, true, true, true, true, true, true, true, true, true, true, true, true, true, true, false] rfl rfl (by kernel_rfl) (fun _ _ _ h => h) (Or.inl ⟨by rfl, ?_⟩) ?_ ?_
                    rotate_left
                    · intro w'
                      go_simp
                      with_reducible rfl
                    rotate_left
                    · simp only [Act.put, List.setIfInBounds_toArray, List.set_cons_zero, List.set_cons_succ, i64_w, i32_w]
                      rfl
                    refine last_ (i := 21) (N := none) #[true, true, true, true, true, true, true, true, true, true, true, true, true, true, true, true, true, true, true, true, true, true] rfl rfl (by kernel_rfl) (by decide) (fun K hK => ?_)
                    refine skip_ (w1 := ?_) (by rfl) rfl ?_ ?_
                    rotate_left
                    · go_simp
                      rfl
                    refine hK.out _ _ ?_
                    clear hK K
                    refine done_ (by kernel_rfl) ?_
                    have hs7 : SS w (wr.drew.setCell ⟨h9, 1, none⟩ (.int .i64 (s1 + z))) B g (N3 w.heap.size h8 h9) (turnTo S 16).1 := (HS.out.step (Below.refl _ _).drew).set (.inr (.inr rfl)) (Nat.le_of_lt (Nat.lt_trans HL8.out HL9.out)) 1 _
                    have ha7 : A3 (wr.drew.setCell ⟨h9, 1, none⟩ (.int .i64 (s1 + z))) w.heap.size h8 h9 u0 u1 (wv 0) (wv 1) s0 (s1 + z) := ⟨blk_far (w := wr.drew) HA.out.b4 (Nat.ne_of_lt (Nat.lt_trans HL8.out HL9.out)) _, blk_far (w := wr.drew) HA.out.b8 (Nat.ne_of_lt HL9.out) _, blk_put (w := wr.drew) HA.out.b9 1 _ rfl⟩
                    have hst7 : Steps (wr.drew.setCell ⟨h9, 1, none⟩ (.int .i64 (s1 + z))) (some a) h9 L := Steps.set (W := wr.drew) HST.out 1 _
                    have HZ := Aside0.mk (show L4 w _ B g h8 h9 u0 u1 wv sm (some a) L (turnTo S 16).1 (i + 1) from ⟨_, _, hs7, ha7, hst7, by rw [sumOf_next 0 HXI.out, HE0.out]; simp, by rw [sumOf_next 1 HXI.out, HE1.out]; simp; omega⟩)
                    clear hs7 ha7 hst7 x1 x2 x9 z9 sw gw w0k
                    go_wp2
                    go_roundg jq
                    case measure => omega
                    case rel => exact ⟨i + 1, next_i (by have := HIL.out; have := HLL.out; omega), ⟨by have := HII.out; omega⟩, HZ⟩
    | succ kq =>
      have hk : k < 2 := by have := HK.out; omega
      rcases (by omega : k = 0 ∨ k = 1) with rfl | rfl
      · skip
        obtain ⟨S, y0, y1, hs, ha, hf, hy0, hy1⟩ := HR.out
        have c4 : wr.cell? ⟨w.heap.size, 0, none⟩ = some (.int .i64 u0) := blk_cell ha.b4 0
        have c8 : wr.cell? ⟨h8, 0, none⟩ = some (.int .i64 y0) := blk_cell ha.b8 0
        have z8 := blk_frozen ha.b8 0
        have HS := Aside0.mk hs
        have HA := Aside0.mk ha
        have HF := Aside0.mk hf
        have HY0 := Aside0.mk hy0
        have HY1 := Aside0.mk hy1
        clear hs ha hf hy0 hy1 hk
        go_wp2_with fail
        rw [show wrap64 (1 + (wrap64 (u0.tmod 16 + 16)).tmod 16) = wv 0 from HW0.out]
        have hs2 : SS w (wr.setCell ⟨h8, 0, none⟩ (.int .i64 (wv 0))) B g (N3 w.heap.size h8 h9) S := HS.out.set (.inr (.inl rfl)) (Nat.le_of_lt HL8.out) 0 _
        have ha2 : A3 (wr.setCell ⟨h8, 0, none⟩ (.int .i64 (wv 0))) w.heap.size h8 h9 u0 u1 (wv 0) y1 0 0 := ⟨blk_far HA.out.b4 (Nat.ne_of_lt HL8.out) _, blk_put HA.out.b8 0 _ rfl, blk_far HA.out.b9 (Nat.ne_of_gt HL9.out) _⟩
        generalize (wr.setCell ⟨h8, 0, none⟩ (.int .i64 (wv 0))) = W4 at hs2 ha2 ⊢
        have HS2 := Aside0.mk hs2
        have HA2 := Aside0.mk ha2
        clear hs2 ha2 c4 c8 z8
        (with_reducible refine (weigh_ss HS2.out (n := 2) (x := wv 0) N2 (HWB.out 0 (by omega))).mono ?_)
        rintro e W5 ⟨rfl, hs5, hm5⟩
        have HI0 : Aside0 (L2 w W5 B g h8 h9 u0 u1 Q wv (wv 0) y1 0 0) := ⟨⟨_, hs5, HA2.out.same hm5, HF.out.weigh (by omega) rfl⟩⟩
        clear hs5 hm5 HS2 HA2 HS HA HF
        go_wp2_with fail
        go_loopg [11] 100 (fun iq v11 w' => ∃ i : Nat, v11 = .int .i64 (i : Int) ∧ Aside0 (i + iq = 100) ∧ Aside0 (L2 w w' B g h8 h9 u0 u1 Q wv (wv 0) y1 0 i))
        case atStart => exact ⟨0, rfl, ⟨rfl⟩, HI0⟩
        case round =>
          obtain ⟨i, rfl, HI, HR2⟩ := hrel
          clear HI0
          obtain ⟨S', hs, ha, hf⟩ := HR2.out
          have HS := Aside0.mk hs
          have HA := Aside0.mk ha
          have HF := Aside0.mk hf
          clear hs ha hf
          cases gk with
          | zero =>
            obtain rfl : i = 100 := by have := HI.out; omega
            go_wp2
            go_roundg kq
            case measure => omega
            case rel => exact ⟨1, rfl, ⟨by have := HK.out; omega⟩, ⟨⟨S', _, _, HS.out, HA.out, HF.out.next, fun _ => rfl, fun h => absurd h (by omega)⟩⟩⟩
          | succ iq =>
            have hi : i < 100 := by have := HI.out; omega
            have ci : decide ((i : Int) < 100) = true := decide_eq_true (by omega)
            have cin : decide (i < 100) = true := decide_eq_true (by omega)
            obtain ⟨m, hm⟩ : ∃ m, (i + 0) % ls.length = m := ⟨_, rfl⟩
            have hml : m < ls.length := by rw [← hm]; exact Nat.mod_lt _ (by have := H0.out; omega)
            obtain ⟨a, rfl, hx⟩ := HP.out m ls[m] (List.getElem?_eq_getElem hml)
            replace hx := HS.out.cell hx
            generalize ls[m] = x at hx
            have em : (wrap64 ((i : Int))).tmod (ls.length : Int) = (m : Int) := by rw [← hm, show wrap64 ((i : Int)) = ((i + 0 : Nat) : Int) from by unfold wrap64; omega, Int.tmod_eq_emod_of_nonneg (by omega)]; rfl
            have dm : decide (m < ls.length) = true := decide_eq_true hml
            have hcan := HF.out.can (n := 2) (HWB.out 0 (by omega)).1 rfl hi
            have HCAN := Aside0.mk hcan
            clear hm hi hcan
            go_wp2_with fail
            obtain ⟨z, hz⟩ : ∃ z, wrap64 (1 + (wrap64 (x.tmod 5000 + 5000)).tmod 5000) = z := ⟨_, rfl⟩
            have hzb : 1 ≤ z ∧ z ≤ 5000 := by rw [← hz]; exact nm_fit (m := 5000) (by omega) x
            rw [hz]
            have HZ5 : Aside0 (1 ≤ z ∧ z ≤ 65536) := ⟨by omega⟩
            have HZ := Aside0.mk hzb
            clear hz hzb
            (with_reducible refine (add_ss HS.out N2 HZ5.out HCAN.out.1 HCAN.out.2).mono ?_)
            rintro e W6 ⟨rfl, hs6, hm6⟩
            have HR6 : Aside0 (L2 w W6 B g h8 h9 u0 u1 Q wv (wv 0) y1 0 (i + 1)) := ⟨⟨_, hs6, HA.out.same hm6, HF.out.add (by omega) rfl HZ.out⟩⟩
            clear hs6 hm6 HS HA HF hx em
            go_wp2
            go_roundg iq
            case measure => omega
            case rel => exact ⟨i + 1, next_i (by have := HI.out; omega), ⟨by have := HI.out; omega⟩, HR6⟩
      · skip
        obtain ⟨S, y0, y1, hs, ha, hf, hy0, hy1⟩ := HR.out
        have c4 : wr.cell? ⟨w.heap.size, 1, none⟩ = some (.int .i64 u1) := blk_cell ha.b4 1
        have c8 : wr.cell? ⟨h8, 1, none⟩ = some (.int .i64 y1) := blk_cell ha.b8 1
        have z8 := blk_frozen ha.b8 1
        have HS := Aside0.mk hs
        have HA := Aside0.mk ha
        have HF := Aside0.mk hf
        have HY0 := Aside0.mk hy0
        have HY1 := Aside0.mk hy1
        clear hs ha hf hy0 hy1 hk
        go_wp2_with fail
        rw [show wrap64 (1 + (wrap64 (u1.tmod 16 + 16)).tmod 16) = wv 1 from HW1.out]
        have hs2 : SS w (wr.setCell ⟨h8, 1, none⟩ (.int .i64 (wv 1))) B g (N3 w.heap.size h8 h9) S := HS.out.set (.inr (.inl rfl)) (Nat.le_of_lt HL8.out) 1 _
        have ha2 : A3 (wr.setCell ⟨h8, 1, none⟩ (.int .i64 (wv 1))) w.heap.size h8 h9 u0 u1 y0 (wv 1) 0 0 := ⟨blk_far HA.out.b4 (Nat.ne_of_lt HL8.out) _, blk_put HA.out.b8 1 _ rfl, blk_far HA.out.b9 (Nat.ne_of_gt HL9.out) _⟩
        generalize (wr.setCell ⟨h8, 1, none⟩ (.int .i64 (wv 1))) = W4 at hs2 ha2 ⊢
        have HS2 := Aside0.mk hs2
        have HA2 := Aside0.mk ha2
        clear hs2 ha2 c4 c8 z8
        (with_reducible refine (weigh_ss HS2.out (n := 3) (x := wv 1) N3' (HWB.out 1 (by omega))).mono ?_)
        rintro e W5 ⟨rfl, hs5, hm5⟩
        have HI0 : Aside0 (L2 w W5 B g h8 h9 u0 u1 Q wv y0 (wv 1) 1 0) := ⟨⟨_, hs5, HA2.out.same hm5, HF.out.weigh (by omega) rfl⟩⟩
        clear hs5 hm5 HS2 HA2 HS HA HF
        go_wp2_with fail
        go_loopg [11] 100 (fun iq v11 w' => ∃ i : Nat, v11 = .int .i64 (i : Int) ∧ Aside0 (i + iq = 100) ∧ Aside0 (L2 w w' B g h8 h9 u0 u1 Q wv y0 (wv 1) 1 i))
        case atStart => exact ⟨0, rfl, ⟨rfl⟩, HI0⟩
        case round =>
          obtain ⟨i, rfl, HI, HR2⟩ := hrel
          clear HI0
          obtain ⟨S', hs, ha, hf⟩ := HR2.out
          have HS := Aside0.mk hs
          have HA := Aside0.mk ha
          have HF := Aside0.mk hf
          clear hs ha hf
          cases gk with
          | zero =>
            obtain rfl : i = 100 := by have := HI.out; omega
            go_wp2
            go_roundg kq
            case measure => omega
            case rel => exact ⟨2, rfl, ⟨by have := HK.out; omega⟩, ⟨⟨S', _, _, HS.out, HA.out, HF.out.next, fun _ => HY0.out (by omega), fun _ => rfl⟩⟩⟩
          | succ iq =>
            have hi : i < 100 := by have := HI.out; omega
            have ci : decide ((i : Int) < 100) = true := decide_eq_true (by omega)
            have cin : decide (i < 100) = true := decide_eq_true (by omega)
            obtain ⟨m, hm⟩ : ∃ m, (i + 7) % ls.length = m := ⟨_, rfl⟩
            have hml : m < ls.length := by rw [← hm]; exact Nat.mod_lt _ (by have := H0.out; omega)
            obtain ⟨a, rfl, hx⟩ := HP.out m ls[m] (List.getElem?_eq_getElem hml)
            replace hx := HS.out.cell hx
            generalize ls[m] = x at hx
            have em : (wrap64 ((i : Int) + 7)).tmod (ls.length : Int) = (m : Int) := by rw [← hm, show wrap64 ((i : Int) + 7) = ((i + 7 : Nat) : Int) from by unfold wrap64; omega, Int.tmod_eq_emod_of_nonneg (by omega)]; rfl
            have dm : decide (m < ls.length) = true := decide_eq_true hml
            have hcan := HF.out.can (n := 3) (HWB.out 1 (by omega)).1 rfl hi
            have HCAN := Aside0.mk hcan
            clear hm hi hcan
            go_wp2_with fail
            obtain ⟨z, hz⟩ : ∃ z, wrap64 (1 + (wrap64 (x.tmod 5000 + 5000)).tmod 5000) = z := ⟨_, rfl⟩
            have hzb : 1 ≤ z ∧ z ≤ 5000 := by rw [← hz]; exact nm_fit (m := 5000) (by omega) x
            rw [hz]
            have HZ5 : Aside0 (1 ≤ z ∧ z ≤ 65536) := ⟨by omega⟩
            have HZ := Aside0.mk hzb
            clear hz hzb
            (with_reducible refine (add_ss HS.out N3' HZ5.out HCAN.out.1 HCAN.out.2).mono ?_)
            rintro e W6 ⟨rfl, hs6, hm6⟩
            have HR6 : Aside0 (L2 w W6 B g h8 h9 u0 u1 Q wv y0 (wv 1) 1 (i + 1)) := ⟨⟨_, hs6, HA.out.same hm6, HF.out.add (by omega) rfl HZ.out⟩⟩
            clear hs6 hm6 HS HA HF hx em
            go_wp2
            go_roundg iq
            case measure => omega
            case rel => exact ⟨i + 1, next_i (by have := HI.out; omega), ⟨by have := HI.out; omega⟩, HR6⟩
end Go.Proofs.Ytigcgdamipeidaa.Shr
