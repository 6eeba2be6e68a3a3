/- The law MeterAll, walked. -/
import Derived.Test.YtigcgdamipeidaaWaA
namespace Go.Proofs.Ytigcgdamipeidaa.Shr
open Go.RowKit Go.Proofs.YtigcgdamipeidaaW.PrintWords Go.Proofs.YtigcgdamipeidaaW.PrintLast Go.Proofs.YtigcgdamipeidaaW.PrintMore Go.Proofs.Ytigcgdamipeidaa Go.Proofs.Ytigcgdamipeidaa.Q Go.Proofs.Ytigcgdamipeidaa.Args
set_option linter.unusedVariables false
set_option linter.unusedSimpArgs false
set_option maxHeartbeats 8000000
set_option maxRecDepth 100000
theorem next_n {i : Nat} (h : i ≤ 5000000) : Value.int .i64 (wrap64 ((i : Int) + 1)) = Value.int .i64 ((i + 1 : Nat) : Int) := by
  congr 1
  unfold wrap64
  omega
theorem add_next3 (a : Addr) (m j : Nat) : a.add (m + (j + 1)) = ⟨(a.add m).block, (a.add m).off + (j + 1), none⟩ := by
  unfold Addr.add
  rw [if_neg (by omega)]
  split
  · rename_i h
    subst h
    simp
  · simp only [Addr.mk.injEq, true_and, and_true]
    omega
theorem cell_grown {W w1 : World} {p : Addr} {v : Value} {row : Option Nat} (hc : W.cell? p = some v) (hg : W.grownBy w1 row) (hne : row ≠ some p.block) : w1.cell? p = some v :=
  (World.cell?_of_block (hg.block p.block (World.block_lt_of_cell? W p hc) (fun e => hne e.symm))).trans hc
def K1 (w W : World) (B g h : Nat) (k : Nat) : Prop := ∃ S, AS w W B g h S (fun _ => []) ∧ B1 S k
def K2 (w W : World) (B g h : Nat) (i : Nat) : Prop := ∃ S, AS w W B g h S S.l ∧ B2 S i
def K4 (w W : World) (B g h : Nat) (T : Nat → Int) (n : Nat) : Prop := ∃ S, AS w W B g h S S.l ∧ AI S T n
def K6 (w W : World) (B g h : Nat) (S' : Sh) (A : Option Addr) (L : List (Int × Int)) (i : Nat) : Prop := ∃ vs, SS w W B g (Own h vs) S' ∧ Wa W w.heap.size h (leftL S' L i) vs ∧ StepsA W A (Own h vs) L
def K8 (w W : World) (B g h : Nat) (S : Sh) : Prop := AS w W B g h S S.l
theorem all_yes {q : Int} (hq : 1 ≤ q ∧ q ≤ 65536) (A : Option Addr) (c : Nat) (ls : List (Int × Int × Int)) (w : World) (hp : Trips w A ls) :
    Calls Try.prog 4 #[.int .i64 q, .slice A ls.length c] w fun e w' => e = .returned (.bool true) ∧ Below w.heap.size w w' := by
  have HQ := Aside0.mk hq
  have HP := Aside0.mk hp
  have HB0 := Aside0.mk (Below.refl w.heap.size w)
  clear hq hp
  go_enter Try.func4, Try.ntmps4
  go_wp2_with fail
  (with_reducible refine (new_ss HQ.out HB0.out).mono ?_)
  rintro e w1 ⟨g, rfl, hs, hb⟩
  have HS := Aside0.mk hs
  clear hs hb
  go_wp2_with fail
  (with_reducible refine (awake_ _).mono ?_)
  rintro e w2 ⟨rfl, ha⟩
  have HA := Aside0.mk (HS.out.step ha)
  clear ha
  go_wp2_with fail
  obtain ⟨h, hh⟩ : ∃ h, h = w2.heap.size := ⟨_, rfl⟩
  obtain ⟨W3, hW3⟩ : ∃ W3, W3 = w2.alloc (.cells (wcells (fun _ => .slice none 0 0)) 49 (0, 0)) := ⟨_, rfl⟩
  have H0 : Aside0 (K1 w W3 w.heap.size g h 1) := by
    have e1 : Below w2.heap.size w2 W3 := by rw [hW3]; exact below_alloc (Below.refl _ _) _
    have hz : W3.heap.size = w2.heap.size + 1 := by rw [hW3]; simp
    refine ⟨⟨S0 q, ⟨fun _ => .slice none 0 0, HA.out.more e1 (fun k hk => ?_), ⟨?_, fun p hp => Qi_nil _ _, fun p p' _ _ _ k hk => by simp [Value.ownBlock] at hk, ?_⟩⟩, b1_start q⟩⟩
    · rcases hk with rfl | ⟨p, _, hk⟩
      · exact .inr ⟨by omega, by omega⟩
      · simp [Value.ownBlock] at hk
    · rw [hW3, hh]
      exact blk_new _ _
    · rw [hh]
      exact HA.out.bel.size
  rw [show (#[Value.slice none 0 0, .slice none 0 0, .slice none 0 0, .slice none 0 0, .slice none 0 0, .slice none 0 0, .slice none 0 0, .slice none 0 0, .slice none 0 0, .slice none 0 0, .slice none 0 0, .slice none 0 0, .slice none 0 0, .slice none 0 0, .slice none 0 0, .slice none 0 0] : Array Value) = wcells (fun _ => .slice none 0 0) from rfl, ← hW3, ← hh]
  clear hW3 hh HA HS
  obtain ⟨B, hB⟩ : ∃ B, B = w.heap.size := ⟨_, rfl⟩
  rw [← hB] at H0
  clear hB
  go_loopg [7] 15 (fun kq v7 w' => ∃ k : Nat, v7 = .int .i64 (k : Int) ∧ Aside0 (k + kq = 16 ∧ 1 ≤ k) ∧ Aside0 (K1 w w' B g h k))
  case atStart => exact ⟨1, rfl, ⟨⟨rfl, by omega⟩⟩, H0⟩
  case round =>
    obtain ⟨k, rfl, HK, HR⟩ := hrel
    clear H0
    obtain ⟨S, hs, hf⟩ := HR.out
    have HS := Aside0.mk hs
    have HF := Aside0.mk hf
    clear hs hf
    cases gk with
    | zero =>
      obtain rfl : k = 16 := by have := HK.out; omega
      have HK0 : Aside0 (K2 w wr B g h 0) := ⟨⟨S, by rw [show S.l = fun _ => [] from funext HF.out.l]; exact HS.out, HF.out.next⟩⟩
      clear HS HF HR
      go_wp2_with fail
      go_loopg [8] 60 (fun iq v8 w' => ∃ i : Nat, v8 = .int .i64 (i : Int) ∧ Aside0 (i + iq = 60) ∧ Aside0 (K2 w w' B g h i))
      case atStart => exact ⟨0, rfl, ⟨rfl⟩, HK0⟩
      case round =>
        obtain ⟨i, rfl, HI, HR2⟩ := hrel
        clear HK0
        obtain ⟨S, hs, hf⟩ := HR2.out
        have HS := Aside0.mk hs
        have HF := Aside0.mk hf
        clear hs hf
        have HIB : Aside0 (i ≤ 60) := ⟨by have := HI.out; omega⟩
        by_cases hx : i < ls.length ∧ i < 60
        · obtain ⟨hlt, hi⟩ := hx
          have hlb : decide (i < ls.length) = true := decide_eq_true hlt
          have h60 : decide ((i : Int) < 60) = true := decide_eq_true (by omega)
          have h60n : decide (i < 60) = true := decide_eq_true hi
          have HI6 := Aside0.mk hi
          obtain ⟨iq, hiq⟩ : ∃ iq, gk = iq + 1 := ⟨gk - 1, by have := HI.out; omega⟩
          subst hiq
          obtain ⟨a, rfl, hk0, hp0, hn0⟩ := HP.out i ls[i] (List.getElem?_eq_getElem hlt)
          generalize ls[i] = x at hk0 hp0 hn0
          obtain ⟨kd, pe, n⟩ := x
          rw [add_next3 a (i * 3) 0] at hp0
          rw [add_next3 a (i * 3) 1] at hn0
          have C0 := Aside0.mk hk0
          have C1 := Aside0.mk hp0
          have C2 := Aside0.mk hn0
          have x0 := HS.out.cell C0.out
          have x1 := HS.out.cell C1.out
          have x2 := HS.out.cell C2.out
          simp only at x0 x1 x2
          clear hk0 hp0 hn0 hi
          by_cases k1 : kd = 1
          · subst k1
            by_cases hok : 1 ≤ pe ∧ pe ≤ 15 ∧ 1 ≤ n ∧ n ≤ 65536
            · have HOK := Aside0.mk hok
              have HPE : Aside0 (1 ≤ pe ∧ pe ≤ 15) := ⟨⟨hok.1, hok.2.1⟩⟩
              have HNX : Aside0 (1 ≤ n ∧ n ≤ 65536) := ⟨hok.2.2⟩
              have hwt := HF.out.wt pe.toNat (by omega) (by omega)
              have hln := HF.out.long pe.toNat
              have HC : Aside0 (S.wt pe.toNat ≠ 0 ∧ (S.l pe.toNat).length < 100) := ⟨⟨by omega, by have := HI6.out; omega⟩⟩
              have HCALL := Aside0.mk (add_as (HS.out.step (Below.refl _ _).drew) HPE.out HNX.out HC.out.1 HC.out.2)
              clear hok hwt hln
              go_wp2
              refine start_ (n := 21) (S := fun w' => w'.cell? (a.add (i * 3)) = some (.int .i64 1) ∧ w'.cell? ⟨(a.add (i * 3)).block, (a.add (i * 3)).off + (0 + 1), none⟩ = some (.int .i64 pe) ∧ w'.cell? ⟨(a.add (i * 3)).block, (a.add (i * 3)).off + (1 + 1), none⟩ = some (.int .i64 n)) (ds := []) #[false, false, false, false, false, false, false, false, false, false, false, false, false, false, false, false, false, false, false, false, false] (by kernel_rfl) rfl rfl ⟨x0, x1, x2⟩ (fun hHeld => ?_)
              refine pure_ (i := 0) (N := some 53) (v := ?_) (a' := ?_) #[true, false, false, false, false, false, false, false, false, false, false, false, false, false, false, false, false, false, false, false, false] rfl rfl (by kernel_rfl) (fun _ _ _ h => h) (Or.inl ⟨by rfl, ?_⟩) ?_ ?_
              rotate_left
              · intro w'
                go_simp
                with_reducible rfl
              rotate_left
              · simp only [Act.put, List.setIfInBounds_toArray, List.set_cons_zero, List.set_cons_succ, i64_w, i32_w]
                rfl
              refine pure_ (i := 1) (N := some 54) (v := ?_) (a' := ?_) #[true, true, false, false, false, false, false, false, false, false, false, false, false, false, false, false, false, false, false, false, false] rfl rfl (by kernel_rfl) (fun _ _ _ h => h) (Or.inl ⟨by rfl, ?_⟩) ?_ ?_
              rotate_left
              · intro w'
                go_simp
                with_reducible rfl
              rotate_left
              · simp only [Act.put, List.setIfInBounds_toArray, List.set_cons_zero, List.set_cons_succ, i64_w, i32_w]
                rfl
              refine pure_ (i := 2) (N := some 55) (v := ?_) (a' := ?_) #[true, true, true, false, false, false, false, false, false, false, false, false, false, false, false, false, false, false, false, false, false] rfl rfl (by kernel_rfl) (fun _ _ _ h => h) (Or.inl ⟨by rfl, ?_⟩) ?_ ?_
              rotate_left
              · intro w'
                go_simp
                with_reducible rfl
              rotate_left
              · simp only [Act.put, List.setIfInBounds_toArray, List.set_cons_zero, List.set_cons_succ, i64_w, i32_w]
                rfl
              refine pure_ (i := 3) (N := some 56) (v := ?_) (a' := ?_) #[true, true, true, true, false, false, false, false, false, false, false, false, false, false, false, false, false, false, false, false, false] rfl rfl (by kernel_rfl) (fun _ _ _ h => h) (Or.inl ⟨by rfl, ?_⟩) ?_ ?_
              rotate_left
              · intro w'
                go_simp
                with_reducible rfl
              rotate_left
              · simp only [Act.put, List.setIfInBounds_toArray, List.set_cons_zero, List.set_cons_succ, i64_w, i32_w]
                rfl
              refine take_ (i := 4) (N := some 57) (v := ?_) (a' := ?_) #[true, true, true, true, true, false, false, false, false, false, false, false, false, false, false, false, false, false, false, false, false] rfl rfl (by kernel_rfl) (fun _ _ _ h => h) (Or.inl ⟨by rfl, ?_⟩) hHeld ?_ ?_
              rotate_left
              · rintro w' ⟨s0, s1, s2⟩
                go_simp
                with_reducible rfl
              rotate_left
              · simp only [Act.put, List.setIfInBounds_toArray, List.set_cons_zero, List.set_cons_succ, i64_w, i32_w]
                rfl
              refine pure_ (i := 5) (N := some 58) (v := ?_) (a' := ?_) #[true, true, true, true, true, true, false, false, false, false, false, false, false, false, false, false, false, false, false, false, false] rfl rfl (by kernel_rfl) (fun _ _ _ h => h) (Or.inl ⟨by rfl, ?_⟩) ?_ ?_
              rotate_left
              · intro w'
                go_simp
                with_reducible rfl
              rotate_left
              · simp only [Act.put, List.setIfInBounds_toArray, List.set_cons_zero, List.set_cons_succ, i64_w, i32_w]
                rfl
              refine pure_ (i := 6) (N := some 59) (v := ?_) (a' := ?_) #[true, true, true, true, true, true, true, false, false, false, false, false, false, false, false, false, false, false, false, false, false] rfl rfl (by kernel_rfl) (fun _ _ _ h => h) (Or.inl ⟨by rfl, ?_⟩) ?_ ?_
              rotate_left
              · intro w'
                go_simp
                with_reducible rfl
              rotate_left
              · simp only [Act.put, List.setIfInBounds_toArray, List.set_cons_zero, List.set_cons_succ, i64_w, i32_w]
                rfl
              refine pure_ (i := 7) (N := some 60) (v := ?_) (a' := ?_) #[true, true, true, true, true, true, true, true, false, false, false, false, false, false, false, false, false, false, false, false, false] rfl rfl (by kernel_rfl) (fun _ _ _ h => h) (Or.inl ⟨by rfl, ?_⟩) ?_ ?_
              rotate_left
              · intro w'
                go_simp
                with_reducible rfl
              rotate_left
              · simp only [Act.put, List.setIfInBounds_toArray, List.set_cons_zero, List.set_cons_succ, i64_w, i32_w]
                rfl
              refine pure_ (i := 8) (N := some 61) (v := ?_) (a' := ?_) #[true, true, true, true, true, true, true, true, true, false, false, false, false, false, false, false, false, false, false, false, false] rfl rfl (by kernel_rfl) (fun _ _ _ h => h) (Or.inl ⟨by rfl, ?_⟩) ?_ ?_
              rotate_left
              · intro w'
                go_simp
                with_reducible rfl
              rotate_left
              · simp only [Act.put, List.setIfInBounds_toArray, List.set_cons_zero, List.set_cons_succ, i64_w, i32_w]
                rfl
              refine pure_ (i := 9) (N := some 62) (v := ?_) (a' := ?_) #[true, true, true, true, true, true, true, true, true, true, false, false, false, false, false, false, false, false, false, false, false] rfl rfl (by kernel_rfl) (fun _ _ _ h => h) (Or.inl ⟨by rfl, ?_⟩) ?_ ?_
              rotate_left
              · intro w'
                go_simp
                with_reducible rfl
              rotate_left
              · simp only [Act.put, List.setIfInBounds_toArray, List.set_cons_zero, List.set_cons_succ, i64_w, i32_w]
                rfl
              refine pure_ (i := 10) (N := some 63) (v := ?_) (a' := ?_) #[true, true, true, true, true, true, true, true, true, true, true, false, false, false, false, false, false, false, false, false, false] rfl rfl (by kernel_rfl) (fun _ _ _ h => h) (Or.inl ⟨by rfl, ?_⟩) ?_ ?_
              rotate_left
              · intro w'
                go_simp
                with_reducible rfl
              rotate_left
              · simp only [Act.put, List.setIfInBounds_toArray, List.set_cons_zero, List.set_cons_succ, i64_w, i32_w]
                rfl
              refine pure_ (i := 11) (N := some 64) (v := ?_) (a' := ?_) #[true, true, true, true, true, true, true, true, true, true, true, true, false, false, false, false, false, false, false, false, false] rfl rfl (by kernel_rfl) (fun _ _ _ h => h) (Or.inl ⟨by rfl, ?_⟩) ?_ ?_
              rotate_left
              · intro w'
                go_simp
                with_reducible rfl
              rotate_left
              · simp only [Act.put, List.setIfInBounds_toArray, List.set_cons_zero, List.set_cons_succ, i64_w, i32_w]
                rfl
              refine pure_ (i := 13) (N := some 66) (v := ?_) (a' := ?_) #[true, true, true, true, true, true, true, true, true, true, true, true, false, true, false, false, false, false, false, false, false] rfl rfl (by kernel_rfl) (fun _ _ _ h => h) (Or.inl ⟨by rfl, ?_⟩) ?_ ?_
              rotate_left
              · intro w'
                go_simp
                with_reducible rfl
              rotate_left
              · simp only [Act.put, List.setIfInBounds_toArray, List.set_cons_zero, List.set_cons_succ, i64_w, i32_w]
                rfl
              refine pure_ (i := 14) (N := some 67) (v := ?_) (a' := ?_) #[true, true, true, true, true, true, true, true, true, true, true, true, false, true, true, false, false, false, false, false, false] rfl rfl (by kernel_rfl) (fun _ _ _ h => h) (Or.inl ⟨by rfl, ?_⟩) ?_ ?_
              rotate_left
              · intro w'
                go_simp
                with_reducible rfl
              rotate_left
              · simp only [Act.put, List.setIfInBounds_toArray, List.set_cons_zero, List.set_cons_succ, i64_w, i32_w]
                rfl
              refine pure_ (i := 15) (N := some 68) (v := ?_) (a' := ?_) #[true, true, true, true, true, true, true, true, true, true, true, true, false, true, true, true, false, false, false, false, false] rfl rfl (by kernel_rfl) (fun _ _ _ h => h) (Or.inl ⟨by rfl, ?_⟩) ?_ ?_
              rotate_left
              · intro w'
                go_simp
                with_reducible rfl
              rotate_left
              · simp only [Act.put, List.setIfInBounds_toArray, List.set_cons_zero, List.set_cons_succ, i64_w, i32_w]
                rfl
              refine pure_ (i := 16) (N := some 69) (v := ?_) (a' := ?_) #[true, true, true, true, true, true, true, true, true, true, true, true, false, true, true, true, true, false, false, false, false] rfl rfl (by kernel_rfl) (fun _ _ _ h => h) (Or.inl ⟨by rfl, ?_⟩) ?_ ?_
              rotate_left
              · intro w'
                go_simp
                with_reducible rfl
              rotate_left
              · simp only [Act.put, List.setIfInBounds_toArray, List.set_cons_zero, List.set_cons_succ, i64_w, i32_w]
                rfl
              refine take_ (i := 12) (N := some 65) (v := ?_) (a' := ?_) #[true, true, true, true, true, true, true, true, true, true, true, true, true, true, true, true, true, false, false, false, false] rfl rfl (by kernel_rfl) (fun _ _ _ h => h) (Or.inl ⟨by rfl, ?_⟩) hHeld ?_ ?_
              rotate_left
              · rintro w' ⟨s0, s1, s2⟩
                go_simp
                with_reducible rfl
              rotate_left
              · simp only [Act.put, List.setIfInBounds_toArray, List.set_cons_zero, List.set_cons_succ, i64_w, i32_w]
                rfl
              refine take_ (i := 17) (N := some 70) (v := ?_) (a' := ?_) #[true, true, true, true, true, true, true, true, true, true, true, true, true, true, true, true, true, true, false, false, false] rfl rfl (by kernel_rfl) (fun _ _ _ h => h) (Or.inl ⟨by rfl, ?_⟩) hHeld ?_ ?_
              rotate_left
              · rintro w' ⟨s0, s1, s2⟩
                go_simp
                with_reducible rfl
              rotate_left
              · simp only [Act.put, List.setIfInBounds_toArray, List.set_cons_zero, List.set_cons_succ, i64_w, i32_w]
                rfl
              refine one_ (i := 18) (N := some 71) #[true, true, true, true, true, true, true, true, true, true, true, true, true, true, true, true, true, true, true, false, false] rfl rfl (by kernel_rfl) (by decide) (fun K hK => ?_)
              refine goes_ Try.func15 (by kernel_rfl) rfl #[.pointer (some ⟨g, 0, none⟩), .int .i64 pe, .int .i64 n] (by rfl) rfl rfl (by (try simp only [List.map_toArray, List.map_cons, List.map_nil]); first | done | rfl) ?_
              with_reducible refine (HCALL.out).mono ?_
              rintro e W4 ⟨rfl, h4⟩
              refine ⟨_, rfl, ?_⟩
              have y0 := h4.cell C0.out
              have y1 := h4.cell C1.out
              have y2 := h4.cell C2.out
              have H4 := Aside0.mk h4
              clear h4
              refine hK.out _ _ ⟨y0, y1, y2⟩ (fun hHeld => ?_)
              clear hK K
              refine norm_ (a' := ?_) ?_ ?_
              rotate_left
              · show Act.put _ (some 71) _ = _
                simp only [Act.put, List.setIfInBounds_toArray, List.set_cons_zero, List.set_cons_succ, i64_w, i32_w]
                rfl
              refine pure_ (i := 19) (N := some 72) (v := ?_) (a' := ?_) #[true, true, true, true, true, true, true, true, true, true, true, true, true, true, true, true, true, true, true, true, false] rfl rfl (by kernel_rfl) (fun _ _ _ h => h) (Or.inl ⟨by rfl, ?_⟩) ?_ ?_
              rotate_left
              · intro w'
                go_simp
                with_reducible rfl
              rotate_left
              · simp only [Act.put, List.setIfInBounds_toArray, List.set_cons_zero, List.set_cons_succ, i64_w, i32_w]
                rfl
              refine pure_ (i := 20) (N := some 73) (v := ?_) (a' := ?_) #[true, true, true, true, true, true, true, true, true, true, true, true, true, true, true, true, true, true, true, true, true] rfl rfl (by kernel_rfl) (fun _ _ _ h => h) (Or.inl ⟨by rfl, ?_⟩) ?_ ?_
              rotate_left
              · intro w'
                go_simp
                with_reducible rfl
              rotate_left
              · simp only [Act.put, List.setIfInBounds_toArray, List.set_cons_zero, List.set_cons_succ, i64_w, i32_w]
                rfl
              refine done_ (by kernel_rfl) ?_
              clear x0 x1 x2 y0 hHeld
              obtain ⟨vs, h4s, h4w⟩ := H4.out
              have HSS := Aside0.mk h4s
              have HWA := Aside0.mk h4w
              have y3 := h4w.cell (p := pe.toNat) (by have := HPE.out; omega)
              have hrow := h4w.row pe.toNat (by have := HPE.out; omega)
              obtain ⟨A6, c6, hvs⟩ := h4w.slice (p := pe.toNat) (by have := HPE.out; omega)
              rw [hvs] at y3 hrow
              have HVS := Aside0.mk hvs
              have HQR : Aside0 (Qi W4.drew w.heap.size (.slice A6 (S.l pe.toNat).length c6) (S.l pe.toNat)) := ⟨hrow⟩
              have HBZ : Aside0 (w.heap.size ≤ W4.drew.heap.size) := ⟨h4s.bel.size⟩
              have HLN : Aside0 ((S.l pe.toNat).length < 1000000) := ⟨by have := HC.out.2; omega⟩
              have y1 := h4s.cell C1.out
              have y2 := h4s.cell C2.out
              have Y1 := Aside0.mk y1
              have Y2 := Aside0.mk y2
              have Y3 := Aside0.mk y3
              have NR1 : Aside0 ((Value.slice A6 (S.l pe.toNat).length c6).ownBlock ≠ some (a.add (i * 3)).block) := ⟨fun hc => by
                  have h1 := (q_typed hrow _ hc).1
                  have h2 := World.block_lt_of_cell? w _ C1.out
                  exact Nat.lt_irrefl _ (Nat.lt_of_lt_of_le h2 h1)⟩
              have NRH : Aside0 ((Value.slice A6 (S.l pe.toNat).length c6).ownBlock ≠ some h) := ⟨by rw [← hvs]; exact h4w.far pe.toNat (by have := HPE.out; omega)⟩
              have hp0 : 0 ≤ pe := by have := HPE.out; omega
              have hp16 : pe < 16 := by have := HPE.out; omega
              clear h4s h4w hrow hvs
              go_wp2
              refine start_ (n := 21) (S := fun w' => w'.cell? ⟨(a.add (i * 3)).block, (a.add (i * 3)).off + (0 + 1), none⟩ = some (.int .i64 pe) ∧ w'.cell? ⟨(a.add (i * 3)).block, (a.add (i * 3)).off + (1 + 1), none⟩ = some (.int .i64 n) ∧ w'.cell? ⟨h, pe.toNat, none⟩ = some (.slice A6 (S.l pe.toNat).length c6)) (ds := [20]) #[false, false, false, false, false, false, false, false, false, false, false, false, false, false, false, false, false, false, false, false, false] (by kernel_rfl) rfl rfl ⟨y1, y2, y3⟩ (fun hHeld => ?_)
              refine pure_ (i := 0) (N := some 74) (v := ?_) (a' := ?_) #[true, false, false, false, false, false, false, false, false, false, false, false, false, false, false, false, false, false, false, false, false] rfl rfl (by kernel_rfl) (fun _ _ _ h => h) (Or.inl ⟨by rfl, ?_⟩) ?_ ?_
              rotate_left
              · intro w'
                go_simp
                with_reducible rfl
              rotate_left
              · simp only [Act.put, List.setIfInBounds_toArray, List.set_cons_zero, List.set_cons_succ, i64_w, i32_w]
                rfl
              refine pure_ (i := 1) (N := some 75) (v := ?_) (a' := ?_) #[true, true, false, false, false, false, false, false, false, false, false, false, false, false, false, false, false, false, false, false, false] rfl rfl (by kernel_rfl) (fun _ _ _ h => h) (Or.inl ⟨by rfl, ?_⟩) ?_ ?_
              rotate_left
              · intro w'
                go_simp
                with_reducible rfl
              rotate_left
              · simp only [Act.put, List.setIfInBounds_toArray, List.set_cons_zero, List.set_cons_succ, i64_w, i32_w]
                rfl
              refine pure_ (i := 2) (N := some 76) (v := ?_) (a' := ?_) #[true, true, true, false, false, false, false, false, false, false, false, false, false, false, false, false, false, false, false, false, false] rfl rfl (by kernel_rfl) (fun _ _ _ h => h) (Or.inl ⟨by rfl, ?_⟩) ?_ ?_
              rotate_left
              · intro w'
                go_simp
                with_reducible rfl
              rotate_left
              · simp only [Act.put, List.setIfInBounds_toArray, List.set_cons_zero, List.set_cons_succ, i64_w, i32_w]
                rfl
              refine pure_ (i := 3) (N := some 77) (v := ?_) (a' := ?_) #[true, true, true, true, false, false, false, false, false, false, false, false, false, false, false, false, false, false, false, false, false] rfl rfl (by kernel_rfl) (fun _ _ _ h => h) (Or.inl ⟨by rfl, ?_⟩) ?_ ?_
              rotate_left
              · intro w'
                go_simp
                with_reducible rfl
              rotate_left
              · simp only [Act.put, List.setIfInBounds_toArray, List.set_cons_zero, List.set_cons_succ, i64_w, i32_w]
                rfl
              refine pure_ (i := 5) (N := some 79) (v := ?_) (a' := ?_) #[true, true, true, true, false, true, false, false, false, false, false, false, false, false, false, false, false, false, false, false, false] rfl rfl (by kernel_rfl) (fun _ _ _ h => h) (Or.inl ⟨by rfl, ?_⟩) ?_ ?_
              rotate_left
              · intro w'
                go_simp
                with_reducible rfl
              rotate_left
              · simp only [Act.put, List.setIfInBounds_toArray, List.set_cons_zero, List.set_cons_succ, i64_w, i32_w]
                rfl
              refine pure_ (i := 6) (N := some 80) (v := ?_) (a' := ?_) #[true, true, true, true, false, true, true, false, false, false, false, false, false, false, false, false, false, false, false, false, false] rfl rfl (by kernel_rfl) (fun _ _ _ h => h) (Or.inl ⟨by rfl, ?_⟩) ?_ ?_
              rotate_left
              · intro w'
                go_simp
                with_reducible rfl
              rotate_left
              · simp only [Act.put, List.setIfInBounds_toArray, List.set_cons_zero, List.set_cons_succ, i64_w, i32_w]
                rfl
              refine pure_ (i := 7) (N := some 81) (v := ?_) (a' := ?_) #[true, true, true, true, false, true, true, true, false, false, false, false, false, false, false, false, false, false, false, false, false] rfl rfl (by kernel_rfl) (fun _ _ _ h => h) (Or.inl ⟨by rfl, ?_⟩) ?_ ?_
              rotate_left
              · intro w'
                go_simp
                with_reducible rfl
              rotate_left
              · simp only [Act.put, List.setIfInBounds_toArray, List.set_cons_zero, List.set_cons_succ, i64_w, i32_w]
                rfl
              refine pure_ (i := 8) (N := some 82) (v := ?_) (a' := ?_) #[true, true, true, true, false, true, true, true, true, false, false, false, false, false, false, false, false, false, false, false, false] rfl rfl (by kernel_rfl) (fun _ _ _ h => h) (Or.inl ⟨by rfl, ?_⟩) ?_ ?_
              rotate_left
              · intro w'
                go_simp
                with_reducible rfl
              rotate_left
              · simp only [Act.put, List.setIfInBounds_toArray, List.set_cons_zero, List.set_cons_succ, i64_w, i32_w]
                rfl
              refine pure_ (i := 12) (N := some 86) (v := ?_) (a' := ?_) #[true, true, true, true, false, true, true, true, true, false, false, false, true, false, false, false, false, false, false, false, false] rfl rfl (by kernel_rfl) (fun _ _ _ h => h) (Or.inl ⟨by rfl, ?_⟩) ?_ ?_
              rotate_left
              · intro w'
                go_simp
                with_reducible rfl
              rotate_left
              · simp only [Act.put, List.setIfInBounds_toArray, List.set_cons_zero, List.set_cons_succ, i64_w, i32_w]
                rfl
              refine pure_ (i := 13) (N := some 87) (v := ?_) (a' := ?_) #[true, true, true, true, false, true, true, true, true, false, false, false, true, true, false, false, false, false, false, false, false] rfl rfl (by kernel_rfl) (fun _ _ _ h => h) (Or.inl ⟨by rfl, ?_⟩) ?_ ?_
              rotate_left
              · intro w'
                go_simp
                with_reducible rfl
              rotate_left
              · simp only [Act.put, List.setIfInBounds_toArray, List.set_cons_zero, List.set_cons_succ, i64_w, i32_w]
                rfl
              refine pure_ (i := 14) (N := some 88) (v := ?_) (a' := ?_) #[true, true, true, true, false, true, true, true, true, false, false, false, true, true, true, false, false, false, false, false, false] rfl rfl (by kernel_rfl) (fun _ _ _ h => h) (Or.inl ⟨by rfl, ?_⟩) ?_ ?_
              rotate_left
              · intro w'
                go_simp
                with_reducible rfl
              rotate_left
              · simp only [Act.put, List.setIfInBounds_toArray, List.set_cons_zero, List.set_cons_succ, i64_w, i32_w]
                rfl
              refine pure_ (i := 15) (N := some 89) (v := ?_) (a' := ?_) #[true, true, true, true, false, true, true, true, true, false, false, false, true, true, true, true, false, false, false, false, false] rfl rfl (by kernel_rfl) (fun _ _ _ h => h) (Or.inl ⟨by rfl, ?_⟩) ?_ ?_
              rotate_left
              · intro w'
                go_simp
                with_reducible rfl
              rotate_left
              · simp only [Act.put, List.setIfInBounds_toArray, List.set_cons_zero, List.set_cons_succ, i64_w, i32_w]
                rfl
              refine take_ (i := 4) (N := some 78) (v := ?_) (a' := ?_) #[true, true, true, true, true, true, true, true, true, false, false, false, true, true, true, true, false, false, false, false, false] rfl rfl (by kernel_rfl) (fun _ _ _ h => h) (Or.inl ⟨by rfl, ?_⟩) hHeld ?_ ?_
              rotate_left
              · rintro w' ⟨s0, s1, s2⟩
                go_simp
                with_reducible rfl
              rotate_left
              · simp only [Act.put, List.setIfInBounds_toArray, List.set_cons_zero, List.set_cons_succ, i64_w, i32_w]
                rfl
              refine take_ (i := 9) (N := some 83) (v := ?_) (a' := ?_) #[true, true, true, true, true, true, true, true, true, true, false, false, true, true, true, true, false, false, false, false, false] rfl rfl (by kernel_rfl) (fun _ _ _ h => h) (Or.inl ⟨by rfl, ?_⟩) hHeld ?_ ?_
              rotate_left
              · rintro w' ⟨s0, s1, s2⟩
                go_simp
                with_reducible rfl
              rotate_left
              · simp only [Act.put, List.setIfInBounds_toArray, List.set_cons_zero, List.set_cons_succ, i64_w, i32_w]
                rfl
              refine pure_ (i := 10) (N := some 84) (v := ?_) (a' := ?_) #[true, true, true, true, true, true, true, true, true, true, true, false, true, true, true, true, false, false, false, false, false] rfl rfl (by kernel_rfl) (fun _ _ _ h => h) (Or.inl ⟨by rfl, ?_⟩) ?_ ?_
              rotate_left
              · intro w'
                go_simp
                with_reducible rfl
              rotate_left
              · simp only [Act.put, List.setIfInBounds_toArray, List.set_cons_zero, List.set_cons_succ, i64_w, i32_w]
                rfl
              refine take_ (i := 11) (N := some 85) (v := ?_) (a' := ?_) #[true, true, true, true, true, true, true, true, true, true, true, true, true, true, true, true, false, false, false, false, false] rfl rfl (by kernel_rfl) (fun _ _ _ h => h) (Or.inl ⟨by rfl, ?_⟩) hHeld ?_ ?_
              rotate_left
              · rintro w' ⟨s0, s1, s2⟩
                go_simp
                with_reducible rfl
              rotate_left
              · simp only [Act.put, List.setIfInBounds_toArray, List.set_cons_zero, List.set_cons_succ, i64_w, i32_w]
                rfl
              refine take_ (i := 16) (N := some 90) (v := ?_) (a' := ?_) #[true, true, true, true, true, true, true, true, true, true, true, true, true, true, true, true, true, false, false, false, false] rfl rfl (by kernel_rfl) (fun _ _ _ h => h) (Or.inl ⟨by rfl, ?_⟩) hHeld ?_ ?_
              rotate_left
              · rintro w' ⟨s0, s1, s2⟩
                go_simp
                with_reducible rfl
              rotate_left
              · simp only [Act.put, List.setIfInBounds_toArray, List.set_cons_zero, List.set_cons_succ, i64_w, i32_w]
                rfl
              refine one_ (i := 17) (N := some 91) #[true, true, true, true, true, true, true, true, true, true, true, true, true, true, true, true, true, true, false, false, false] rfl rfl (by kernel_rfl) (by decide) (fun K hK => ?_)
              refine value_ (w1 := W4.drew.alloc (.cells #[.int .i64 n] 3)) (v := .slice (some ⟨W4.drew.heap.size, 0, none⟩) 1 1) rfl rfl ?_ ?_
              · go_simp
              have bl := below_alloc (Below.refl W4.drew.heap.size W4.drew) (.cells #[.int .i64 n] 3)
              refine hK.out _ _ ⟨pw_cell_below bl hHeld.1, pw_cell_below bl hHeld.2.1, pw_cell_below bl hHeld.2.2⟩ (fun hHeld => ?_)
              clear hK K
              refine norm_ (a' := ?_) ?_ ?_
              rotate_left
              · show Act.put _ (some 91) _ = _
                simp only [Act.put, List.setIfInBounds_toArray, List.set_cons_zero, List.set_cons_succ, i64_w, i32_w]
                rfl
              refine one_ (i := 18) (N := some 92) #[true, true, true, true, true, true, true, true, true, true, true, true, true, true, true, true, true, true, true, false, false] rfl rfl (by kernel_rfl) (by decide) (fun K hK => ?_)
              refine qi_append_step rfl _ _ rfl (.slice A6 (S.l pe.toNat).length c6) (S.l pe.toNat) n rfl rfl HQR.out HBZ.out HLN.out ?_
              intro v1 w1 hq1 hg1 hat1
              obtain ⟨A1, c1, rfl⟩ := qi_slice hq1
              have HQ1 := Aside0.mk hq1
              have HG1 := Aside0.mk hg1
              have HT1 := Aside0.mk hat1
              have f1 := cell_grown (W := W4.drew) Y1.out hg1 NR1.out
              have f2 := cell_grown (W := W4.drew) Y2.out hg1 NR1.out
              have f3 := cell_grown (W := W4.drew) Y3.out hg1 NRH.out
              have f4 : w1.frozen? ⟨h, pe.toNat, none⟩ = false := blk_frozen ((hg1.block h (blk_lt (w := W4.drew) HWA.out.blk) (fun e => NRH.out e.symm)).trans HWA.out.blk) _
              clear hq1 hg1 hat1
              refine hK.out _ _ ⟨f1, f2, f3⟩ (fun hHeld => ?_)
              clear hK K
              refine norm_ (a' := ?_) ?_ ?_
              rotate_left
              · show Act.put _ (some 92) _ = _
                simp only [Act.put, List.setIfInBounds_toArray, List.set_cons_zero, List.set_cons_succ, i64_w, i32_w]
                rfl
              refine pure_ (i := 19) (N := some 93) (v := ?_) (a' := ?_) #[true, true, true, true, true, true, true, true, true, true, true, true, true, true, true, true, true, true, true, true, false] rfl rfl (by kernel_rfl) (fun _ _ _ h => h) (Or.inl ⟨by rfl, ?_⟩) ?_ ?_
              rotate_left
              · intro w'
                go_simp
                with_reducible rfl
              rotate_left
              · simp only [Act.put, List.setIfInBounds_toArray, List.set_cons_zero, List.set_cons_succ, i64_w, i32_w]
                rfl
              refine last_ (i := 20) (N := none) #[true, true, true, true, true, true, true, true, true, true, true, true, true, true, true, true, true, true, true, true, true] rfl rfl (by kernel_rfl) (by decide) (fun K hK => ?_)
              refine skip_ (w1 := w1.setCell ⟨h, pe.toNat, none⟩ (.slice A1 (S.l pe.toNat ++ [n]).length c1)) (by rfl) rfl ?_ ?_
              · go_simp
              refine hK.out _ _ ?_
              clear hK K
              refine done_ (by kernel_rfl) ?_
              have HZ : Aside0 (K2 w (w1.setCell ⟨h, pe.toNat, none⟩ (.slice A1 (S.l pe.toNat ++ [n]).length c1)) B g h (i + 1)) := by
                  have hg := HG1.out
                  rw [← HVS.out] at hg
                  have hat := HT1.out
                  rw [← HVS.out] at hat
                  exact ⟨⟨addS S pe n, as_append (W := W4.drew) (HSS.out.step (Below.refl _ _).drew) (HWA.out.below (Below.refl _ _).drew) (by have := HPE.out; omega) hg HQ1.out hat, HF.out.add HPE.out.1⟩⟩
              replace HZ := Aside0.mk (show K2 w (w1.setCell ⟨h, pe.toNat, none⟩ (.slice A1 ((S.l pe.toNat).length + 1) c1)) B g h (i + 1) from by have h0 := HZ.out; rw [List.length_append] at h0; exact h0)
              clear y1 y2 y3 f1 f2 f3 f4 bl
              go_wp2
              go_roundg iq
              case measure => omega
              case rel => exact ⟨i + 1, next_n (by have := HIB.out; omega), ⟨by have := HI.out; omega⟩, HZ⟩
            · have HCALL := Aside0.mk (addbad_as (HS.out.step (Below.refl _ _).drew) hok)
              clear hok
              go_wp2
              refine start_ (n := 21) (S := fun w' => w'.cell? (a.add (i * 3)) = some (.int .i64 1) ∧ w'.cell? ⟨(a.add (i * 3)).block, (a.add (i * 3)).off + (0 + 1), none⟩ = some (.int .i64 pe) ∧ w'.cell? ⟨(a.add (i * 3)).block, (a.add (i * 3)).off + (1 + 1), none⟩ = some (.int .i64 n)) (ds := []) #[false, false, false, false, false, false, false, false, false, false, false, false, false, false, false, false, false, false, false, false, false] (by kernel_rfl) rfl rfl ⟨x0, x1, x2⟩ (fun hHeld => ?_)
              refine pure_ (i := 0) (N := some 53) (v := ?_) (a' := ?_) #[true, false, false, false, false, false, false, false, false, false, false, false, false, false, false, false, false, false, false, false, false] rfl rfl (by kernel_rfl) (fun _ _ _ h => h) (Or.inl ⟨by rfl, ?_⟩) ?_ ?_
              rotate_left
              · intro w'
                go_simp
                with_reducible rfl
              rotate_left
              · simp only [Act.put, List.setIfInBounds_toArray, List.set_cons_zero, List.set_cons_succ, i64_w, i32_w]
                rfl
              refine pure_ (i := 1) (N := some 54) (v := ?_) (a' := ?_) #[true, true, false, false, false, false, false, false, false, false, false, false, false, false, false, false, false, false, false, false, false] rfl rfl (by kernel_rfl) (fun _ _ _ h => h) (Or.inl ⟨by rfl, ?_⟩) ?_ ?_
              rotate_left
              · intro w'
                go_simp
                with_reducible rfl
              rotate_left
              · simp only [Act.put, List.setIfInBounds_toArray, List.set_cons_zero, List.set_cons_succ, i64_w, i32_w]
                rfl
              refine pure_ (i := 2) (N := some 55) (v := ?_) (a' := ?_) #[true, true, true, false, false, false, false, false, false, false, false, false, false, false, false, false, false, false, false, false, false] rfl rfl (by kernel_rfl) (fun _ _ _ h => h) (Or.inl ⟨by rfl, ?_⟩) ?_ ?_
              rotate_left
              · intro w'
                go_simp
                with_reducible rfl
              rotate_left
              · simp only [Act.put, List.setIfInBounds_toArray, List.set_cons_zero, List.set_cons_succ, i64_w, i32_w]
                rfl
              refine pure_ (i := 3) (N := some 56) (v := ?_) (a' := ?_) #[true, true, true, true, false, false, false, false, false, false, false, false, false, false, false, false, false, false, false, false, false] rfl rfl (by kernel_rfl) (fun _ _ _ h => h) (Or.inl ⟨by rfl, ?_⟩) ?_ ?_
              rotate_left
              · intro w'
                go_simp
                with_reducible rfl
              rotate_left
              · simp only [Act.put, List.setIfInBounds_toArray, List.set_cons_zero, List.set_cons_succ, i64_w, i32_w]
                rfl
              refine take_ (i := 4) (N := some 57) (v := ?_) (a' := ?_) #[true, true, true, true, true, false, false, false, false, false, false, false, false, false, false, false, false, false, false, false, false] rfl rfl (by kernel_rfl) (fun _ _ _ h => h) (Or.inl ⟨by rfl, ?_⟩) hHeld ?_ ?_
              rotate_left
              · rintro w' ⟨s0, s1, s2⟩
                go_simp
                with_reducible rfl
              rotate_left
              · simp only [Act.put, List.setIfInBounds_toArray, List.set_cons_zero, List.set_cons_succ, i64_w, i32_w]
                rfl
              refine pure_ (i := 5) (N := some 58) (v := ?_) (a' := ?_) #[true, true, true, true, true, true, false, false, false, false, false, false, false, false, false, false, false, false, false, false, false] rfl rfl (by kernel_rfl) (fun _ _ _ h => h) (Or.inl ⟨by rfl, ?_⟩) ?_ ?_
              rotate_left
              · intro w'
                go_simp
                with_reducible rfl
              rotate_left
              · simp only [Act.put, List.setIfInBounds_toArray, List.set_cons_zero, List.set_cons_succ, i64_w, i32_w]
                rfl
              refine pure_ (i := 6) (N := some 59) (v := ?_) (a' := ?_) #[true, true, true, true, true, true, true, false, false, false, false, false, false, false, false, false, false, false, false, false, false] rfl rfl (by kernel_rfl) (fun _ _ _ h => h) (Or.inl ⟨by rfl, ?_⟩) ?_ ?_
              rotate_left
              · intro w'
                go_simp
                with_reducible rfl
              rotate_left
              · simp only [Act.put, List.setIfInBounds_toArray, List.set_cons_zero, List.set_cons_succ, i64_w, i32_w]
                rfl
              refine pure_ (i := 7) (N := some 60) (v := ?_) (a' := ?_) #[true, true, true, true, true, true, true, true, false, false, false, false, false, false, false, false, false, false, false, false, false] rfl rfl (by kernel_rfl) (fun _ _ _ h => h) (Or.inl ⟨by rfl, ?_⟩) ?_ ?_
              rotate_left
              · intro w'
                go_simp
                with_reducible rfl
              rotate_left
              · simp only [Act.put, List.setIfInBounds_toArray, List.set_cons_zero, List.set_cons_succ, i64_w, i32_w]
                rfl
              refine pure_ (i := 8) (N := some 61) (v := ?_) (a' := ?_) #[true, true, true, true, true, true, true, true, true, false, false, false, false, false, false, false, false, false, false, false, false] rfl rfl (by kernel_rfl) (fun _ _ _ h => h) (Or.inl ⟨by rfl, ?_⟩) ?_ ?_
              rotate_left
              · intro w'
                go_simp
                with_reducible rfl
              rotate_left
              · simp only [Act.put, List.setIfInBounds_toArray, List.set_cons_zero, List.set_cons_succ, i64_w, i32_w]
                rfl
              refine pure_ (i := 9) (N := some 62) (v := ?_) (a' := ?_) #[true, true, true, true, true, true, true, true, true, true, false, false, false, false, false, false, false, false, false, false, false] rfl rfl (by kernel_rfl) (fun _ _ _ h => h) (Or.inl ⟨by rfl, ?_⟩) ?_ ?_
              rotate_left
              · intro w'
                go_simp
                with_reducible rfl
              rotate_left
              · simp only [Act.put, List.setIfInBounds_toArray, List.set_cons_zero, List.set_cons_succ, i64_w, i32_w]
                rfl
              refine pure_ (i := 10) (N := some 63) (v := ?_) (a' := ?_) #[true, true, true, true, true, true, true, true, true, true, true, false, false, false, false, false, false, false, false, false, false] rfl rfl (by kernel_rfl) (fun _ _ _ h => h) (Or.inl ⟨by rfl, ?_⟩) ?_ ?_
              rotate_left
              · intro w'
                go_simp
                with_reducible rfl
              rotate_left
              · simp only [Act.put, List.setIfInBounds_toArray, List.set_cons_zero, List.set_cons_succ, i64_w, i32_w]
                rfl
              refine pure_ (i := 11) (N := some 64) (v := ?_) (a' := ?_) #[true, true, true, true, true, true, true, true, true, true, true, true, false, false, false, false, false, false, false, false, false] rfl rfl (by kernel_rfl) (fun _ _ _ h => h) (Or.inl ⟨by rfl, ?_⟩) ?_ ?_
              rotate_left
              · intro w'
                go_simp
                with_reducible rfl
              rotate_left
              · simp only [Act.put, List.setIfInBounds_toArray, List.set_cons_zero, List.set_cons_succ, i64_w, i32_w]
                rfl
              refine pure_ (i := 13) (N := some 66) (v := ?_) (a' := ?_) #[true, true, true, true, true, true, true, true, true, true, true, true, false, true, false, false, false, false, false, false, false] rfl rfl (by kernel_rfl) (fun _ _ _ h => h) (Or.inl ⟨by rfl, ?_⟩) ?_ ?_
              rotate_left
              · intro w'
                go_simp
                with_reducible rfl
              rotate_left
              · simp only [Act.put, List.setIfInBounds_toArray, List.set_cons_zero, List.set_cons_succ, i64_w, i32_w]
                rfl
              refine pure_ (i := 14) (N := some 67) (v := ?_) (a' := ?_) #[true, true, true, true, true, true, true, true, true, true, true, true, false, true, true, false, false, false, false, false, false] rfl rfl (by kernel_rfl) (fun _ _ _ h => h) (Or.inl ⟨by rfl, ?_⟩) ?_ ?_
              rotate_left
              · intro w'
                go_simp
                with_reducible rfl
              rotate_left
              · simp only [Act.put, List.setIfInBounds_toArray, List.set_cons_zero, List.set_cons_succ, i64_w, i32_w]
                rfl
              refine pure_ (i := 15) (N := some 68) (v := ?_) (a' := ?_) #[true, true, true, true, true, true, true, true, true, true, true, true, false, true, true, true, false, false, false, false, false] rfl rfl (by kernel_rfl) (fun _ _ _ h => h) (Or.inl ⟨by rfl, ?_⟩) ?_ ?_
              rotate_left
              · intro w'
                go_simp
                with_reducible rfl
              rotate_left
              · simp only [Act.put, List.setIfInBounds_toArray, List.set_cons_zero, List.set_cons_succ, i64_w, i32_w]
                rfl
              refine pure_ (i := 16) (N := some 69) (v := ?_) (a' := ?_) #[true, true, true, true, true, true, true, true, true, true, true, true, false, true, true, true, true, false, false, false, false] rfl rfl (by kernel_rfl) (fun _ _ _ h => h) (Or.inl ⟨by rfl, ?_⟩) ?_ ?_
              rotate_left
              · intro w'
                go_simp
                with_reducible rfl
              rotate_left
              · simp only [Act.put, List.setIfInBounds_toArray, List.set_cons_zero, List.set_cons_succ, i64_w, i32_w]
                rfl
              refine take_ (i := 12) (N := some 65) (v := ?_) (a' := ?_) #[true, true, true, true, true, true, true, true, true, true, true, true, true, true, true, true, true, false, false, false, false] rfl rfl (by kernel_rfl) (fun _ _ _ h => h) (Or.inl ⟨by rfl, ?_⟩) hHeld ?_ ?_
              rotate_left
              · rintro w' ⟨s0, s1, s2⟩
                go_simp
                with_reducible rfl
              rotate_left
              · simp only [Act.put, List.setIfInBounds_toArray, List.set_cons_zero, List.set_cons_succ, i64_w, i32_w]
                rfl
              refine take_ (i := 17) (N := some 70) (v := ?_) (a' := ?_) #[true, true, true, true, true, true, true, true, true, true, true, true, true, true, true, true, true, true, false, false, false] rfl rfl (by kernel_rfl) (fun _ _ _ h => h) (Or.inl ⟨by rfl, ?_⟩) hHeld ?_ ?_
              rotate_left
              · rintro w' ⟨s0, s1, s2⟩
                go_simp
                with_reducible rfl
              rotate_left
              · simp only [Act.put, List.setIfInBounds_toArray, List.set_cons_zero, List.set_cons_succ, i64_w, i32_w]
                rfl
              refine one_ (i := 18) (N := some 71) #[true, true, true, true, true, true, true, true, true, true, true, true, true, true, true, true, true, true, true, false, false] rfl rfl (by kernel_rfl) (by decide) (fun K hK => ?_)
              refine goes_ Try.func15 (by kernel_rfl) rfl #[.pointer (some ⟨g, 0, none⟩), .int .i64 pe, .int .i64 n] (by rfl) rfl rfl (by (try simp only [List.map_toArray, List.map_cons, List.map_nil]); first | done | rfl) ?_
              with_reducible refine (HCALL.out).mono ?_
              rintro e W4 ⟨rfl, h4⟩
              refine ⟨_, rfl, ?_⟩
              have y0 := h4.cell C0.out
              have y1 := h4.cell C1.out
              have y2 := h4.cell C2.out
              have H4 := Aside0.mk h4
              clear h4
              refine hK.out _ _ ⟨y0, y1, y2⟩ (fun hHeld => ?_)
              clear hK K
              refine norm_ (a' := ?_) ?_ ?_
              rotate_left
              · show Act.put _ (some 71) _ = _
                simp only [Act.put, List.setIfInBounds_toArray, List.set_cons_zero, List.set_cons_succ, i64_w, i32_w]
                rfl
              refine pure_ (i := 19) (N := some 72) (v := ?_) (a' := ?_) #[true, true, true, true, true, true, true, true, true, true, true, true, true, true, true, true, true, true, true, true, false] rfl rfl (by kernel_rfl) (fun _ _ _ h => h) (Or.inl ⟨by rfl, ?_⟩) ?_ ?_
              rotate_left
              · intro w'
                go_simp
                with_reducible rfl
              rotate_left
              · simp only [Act.put, List.setIfInBounds_toArray, List.set_cons_zero, List.set_cons_succ, i64_w, i32_w]
                rfl
              refine pure_ (i := 20) (N := some 73) (v := ?_) (a' := ?_) #[true, true, true, true, true, true, true, true, true, true, true, true, true, true, true, true, true, true, true, true, true] rfl rfl (by kernel_rfl) (fun _ _ _ h => h) (Or.inl ⟨by rfl, ?_⟩) ?_ ?_
              rotate_left
              · intro w'
                go_simp
                with_reducible rfl
              rotate_left
              · simp only [Act.put, List.setIfInBounds_toArray, List.set_cons_zero, List.set_cons_succ, i64_w, i32_w]
                rfl
              refine done_ (by kernel_rfl) ?_
              have HZ : Aside0 (K2 w W4 B g h (i + 1)) := ⟨⟨S, H4.out, HF.out.skip⟩⟩
              clear x0 x1 x2 y0 y1 y2 hHeld
              go_wp2
              go_roundg iq
              case measure => omega
              case rel => exact ⟨i + 1, next_n (by have := HIB.out; omega), ⟨by have := HI.out; omega⟩, HZ⟩
          · have e1 : (kd == 1) = false := beq_eq_false_iff_ne.2 k1
            clear k1
            go_wp2
            refine start_ (n := 21) (S := fun w' => w'.cell? (a.add (i * 3)) = some (.int .i64 kd)) (ds := []) #[false, false, false, false, false, false, false, false, false, false, false, false, false, false, false, false, false, false, false, false, false] (by kernel_rfl) rfl rfl (x0) (fun hHeld => ?_)
            refine pure_ (i := 0) (N := some 53) (v := ?_) (a' := ?_) #[true, false, false, false, false, false, false, false, false, false, false, false, false, false, false, false, false, false, false, false, false] rfl rfl (by kernel_rfl) (fun _ _ _ h => h) (Or.inl ⟨by rfl, ?_⟩) ?_ ?_
            rotate_left
            · intro w'
              go_simp
              with_reducible rfl
            rotate_left
            · simp only [Act.put, List.setIfInBounds_toArray, List.set_cons_zero, List.set_cons_succ, i64_w, i32_w]
              rfl
            refine pure_ (i := 1) (N := some 54) (v := ?_) (a' := ?_) #[true, true, false, false, false, false, false, false, false, false, false, false, false, false, false, false, false, false, false, false, false] rfl rfl (by kernel_rfl) (fun _ _ _ h => h) (Or.inl ⟨by rfl, ?_⟩) ?_ ?_
            rotate_left
            · intro w'
              go_simp
              with_reducible rfl
            rotate_left
            · simp only [Act.put, List.setIfInBounds_toArray, List.set_cons_zero, List.set_cons_succ, i64_w, i32_w]
              rfl
            refine pure_ (i := 2) (N := some 55) (v := ?_) (a' := ?_) #[true, true, true, false, false, false, false, false, false, false, false, false, false, false, false, false, false, false, false, false, false] rfl rfl (by kernel_rfl) (fun _ _ _ h => h) (Or.inl ⟨by rfl, ?_⟩) ?_ ?_
            rotate_left
            · intro w'
              go_simp
              with_reducible rfl
            rotate_left
            · simp only [Act.put, List.setIfInBounds_toArray, List.set_cons_zero, List.set_cons_succ, i64_w, i32_w]
              rfl
            refine pure_ (i := 3) (N := some 56) (v := ?_) (a' := ?_) #[true, true, true, true, false, false, false, false, false, false, false, false, false, false, false, false, false, false, false, false, false] rfl rfl (by kernel_rfl) (fun _ _ _ h => h) (Or.inl ⟨by rfl, ?_⟩) ?_ ?_
            rotate_left
            · intro w'
              go_simp
              with_reducible rfl
            rotate_left
            · simp only [Act.put, List.setIfInBounds_toArray, List.set_cons_zero, List.set_cons_succ, i64_w, i32_w]
              rfl
            refine take_ (i := 4) (N := some 57) (v := ?_) (a' := ?_) #[true, true, true, true, true, false, false, false, false, false, false, false, false, false, false, false, false, false, false, false, false] rfl rfl (by kernel_rfl) (fun _ _ _ h => h) (Or.inl ⟨by rfl, ?_⟩) hHeld ?_ ?_
            rotate_left
            · intro w' s0
              go_simp
              with_reducible rfl
            rotate_left
            · simp only [Act.put, List.setIfInBounds_toArray, List.set_cons_zero, List.set_cons_succ, i64_w, i32_w]
              rfl
            refine pure_ (i := 5) (N := some 58) (v := ?_) (a' := ?_) #[true, true, true, true, true, true, false, false, false, false, false, false, false, false, false, false, false, false, false, false, false] rfl rfl (by kernel_rfl) (fun _ _ _ h => h) (Or.inl ⟨by rfl, ?_⟩) ?_ ?_
            rotate_left
            · intro w'
              go_simp
              with_reducible rfl
            rotate_left
            · simp only [Act.put, List.setIfInBounds_toArray, List.set_cons_zero, List.set_cons_succ, i64_w, i32_w]
              rfl
            refine pure_ (i := 6) (N := some 59) (v := ?_) (a' := ?_) #[true, true, true, true, true, true, true, false, false, false, false, false, false, false, false, false, false, false, false, false, false] rfl rfl (by kernel_rfl) (fun _ _ _ h => h) (Or.inl ⟨by rfl, ?_⟩) ?_ ?_
            rotate_left
            · intro w'
              go_simp
              with_reducible rfl
            rotate_left
            · simp only [Act.put, List.setIfInBounds_toArray, List.set_cons_zero, List.set_cons_succ, i64_w, i32_w]
              rfl
            refine pure_ (i := 7) (N := some 60) (v := undef) (a' := ?_) #[true, true, true, true, true, true, true, true, false, false, false, false, false, false, false, false, false, false, false, false, false] rfl rfl (by kernel_rfl) (fun _ _ _ h => h) (Or.inr ⟨by rfl, rfl⟩) ?_ ?_
            rotate_left
            · simp only [Act.put, List.setIfInBounds_toArray, List.set_cons_zero, List.set_cons_succ, i64_w, i32_w]
              rfl
            refine pure_ (i := 8) (N := some 61) (v := undef) (a' := ?_) #[true, true, true, true, true, true, true, true, true, false, false, false, false, false, false, false, false, false, false, false, false] rfl rfl (by kernel_rfl) (fun _ _ _ h => h) (Or.inr ⟨by rfl, rfl⟩) ?_ ?_
            rotate_left
            · simp only [Act.put, List.setIfInBounds_toArray, List.set_cons_zero, List.set_cons_succ, i64_w, i32_w]
              rfl
            refine pure_ (i := 9) (N := some 62) (v := undef) (a' := ?_) #[true, true, true, true, true, true, true, true, true, true, false, false, false, false, false, false, false, false, false, false, false] rfl rfl (by kernel_rfl) (fun _ _ _ h => h) (Or.inr ⟨by rfl, rfl⟩) ?_ ?_
            rotate_left
            · simp only [Act.put, List.setIfInBounds_toArray, List.set_cons_zero, List.set_cons_succ, i64_w, i32_w]
              rfl
            refine pure_ (i := 10) (N := some 63) (v := undef) (a' := ?_) #[true, true, true, true, true, true, true, true, true, true, true, false, false, false, false, false, false, false, false, false, false] rfl rfl (by kernel_rfl) (fun _ _ _ h => h) (Or.inr ⟨by rfl, rfl⟩) ?_ ?_
            rotate_left
            · simp only [Act.put, List.setIfInBounds_toArray, List.set_cons_zero, List.set_cons_succ, i64_w, i32_w]
              rfl
            refine pure_ (i := 11) (N := some 64) (v := undef) (a' := ?_) #[true, true, true, true, true, true, true, true, true, true, true, true, false, false, false, false, false, false, false, false, false] rfl rfl (by kernel_rfl) (fun _ _ _ h => h) (Or.inr ⟨by rfl, rfl⟩) ?_ ?_
            rotate_left
            · simp only [Act.put, List.setIfInBounds_toArray, List.set_cons_zero, List.set_cons_succ, i64_w, i32_w]
              rfl
            refine pure_ (i := 12) (N := some 65) (v := undef) (a' := ?_) #[true, true, true, true, true, true, true, true, true, true, true, true, true, false, false, false, false, false, false, false, false] rfl rfl (by kernel_rfl) (fun _ _ _ h => h) (Or.inr ⟨by rfl, rfl⟩) ?_ ?_
            rotate_left
            · simp only [Act.put, List.setIfInBounds_toArray, List.set_cons_zero, List.set_cons_succ, i64_w, i32_w]
              rfl
            refine pure_ (i := 13) (N := some 66) (v := undef) (a' := ?_) #[true, true, true, true, true, true, true, true, true, true, true, true, true, true, false, false, false, false, false, false, false] rfl rfl (by kernel_rfl) (fun _ _ _ h => h) (Or.inr ⟨by rfl, rfl⟩) ?_ ?_
            rotate_left
            · simp only [Act.put, List.setIfInBounds_toArray, List.set_cons_zero, List.set_cons_succ, i64_w, i32_w]
              rfl
            refine pure_ (i := 14) (N := some 67) (v := undef) (a' := ?_) #[true, true, true, true, true, true, true, true, true, true, true, true, true, true, true, false, false, false, false, false, false] rfl rfl (by kernel_rfl) (fun _ _ _ h => h) (Or.inr ⟨by rfl, rfl⟩) ?_ ?_
            rotate_left
            · simp only [Act.put, List.setIfInBounds_toArray, List.set_cons_zero, List.set_cons_succ, i64_w, i32_w]
              rfl
            refine pure_ (i := 15) (N := some 68) (v := undef) (a' := ?_) #[true, true, true, true, true, true, true, true, true, true, true, true, true, true, true, true, false, false, false, false, false] rfl rfl (by kernel_rfl) (fun _ _ _ h => h) (Or.inr ⟨by rfl, rfl⟩) ?_ ?_
            rotate_left
            · simp only [Act.put, List.setIfInBounds_toArray, List.set_cons_zero, List.set_cons_succ, i64_w, i32_w]
              rfl
            refine pure_ (i := 16) (N := some 69) (v := undef) (a' := ?_) #[true, true, true, true, true, true, true, true, true, true, true, true, true, true, true, true, true, false, false, false, false] rfl rfl (by kernel_rfl) (fun _ _ _ h => h) (Or.inr ⟨by rfl, rfl⟩) ?_ ?_
            rotate_left
            · simp only [Act.put, List.setIfInBounds_toArray, List.set_cons_zero, List.set_cons_succ, i64_w, i32_w]
              rfl
            refine pure_ (i := 17) (N := some 70) (v := undef) (a' := ?_) #[true, true, true, true, true, true, true, true, true, true, true, true, true, true, true, true, true, true, false, false, false] rfl rfl (by kernel_rfl) (fun _ _ _ h => h) (Or.inr ⟨by rfl, rfl⟩) ?_ ?_
            rotate_left
            · simp only [Act.put, List.setIfInBounds_toArray, List.set_cons_zero, List.set_cons_succ, i64_w, i32_w]
              rfl
            refine pure_ (i := 18) (N := some 71) (v := undef) (a' := ?_) #[true, true, true, true, true, true, true, true, true, true, true, true, true, true, true, true, true, true, true, false, false] rfl rfl (by kernel_rfl) (fun _ _ _ h => h) (Or.inr ⟨by rfl, rfl⟩) ?_ ?_
            rotate_left
            · simp only [Act.put, List.setIfInBounds_toArray, List.set_cons_zero, List.set_cons_succ, i64_w, i32_w]
              rfl
            refine pure_ (i := 19) (N := some 72) (v := undef) (a' := ?_) #[true, true, true, true, true, true, true, true, true, true, true, true, true, true, true, true, true, true, true, true, false] rfl rfl (by kernel_rfl) (fun _ _ _ h => h) (Or.inr ⟨by rfl, rfl⟩) ?_ ?_
            rotate_left
            · simp only [Act.put, List.setIfInBounds_toArray, List.set_cons_zero, List.set_cons_succ, i64_w, i32_w]
              rfl
            refine pure_ (i := 20) (N := some 73) (v := ?_) (a' := ?_) #[true, true, true, true, true, true, true, true, true, true, true, true, true, true, true, true, true, true, true, true, true] rfl rfl (by kernel_rfl) (fun _ _ _ h => h) (Or.inl ⟨by rfl, ?_⟩) ?_ ?_
            rotate_left
            · intro w'
              go_simp
              with_reducible rfl
            rotate_left
            · simp only [Act.put, List.setIfInBounds_toArray, List.set_cons_zero, List.set_cons_succ, i64_w, i32_w]
              rfl
            refine done_ (by kernel_rfl) ?_
            have HZ : Aside0 (K2 w wr.drew B g h (i + 1)) := ⟨⟨S, HS.out.step (Below.refl _ _).drew, HF.out.skip⟩⟩
            clear x0 x1 x2 hHeld
            go_wp2
            go_roundg iq
            case measure => omega
            case rel => exact ⟨i + 1, next_n (by have := HIB.out; omega), ⟨by have := HI.out; omega⟩, HZ⟩
        · have HX : Aside0 (K2 w wr B g h i) := ⟨⟨S, HS.out, HF.out⟩⟩
          by_cases hlt : i < ls.length
          · have hlb : decide (i < ls.length) = true := decide_eq_true hlt
            have h60 : decide ((i : Int) < 60) = false := decide_eq_false (by omega)
            have h60n : decide (i < 60) = false := decide_eq_false (by omega)
            clear hx hlt
            have HT0 : Aside0 (K4 w wr B g h (fun p => (S.l p).sum) 0) := ⟨⟨S, HS.out, HF.out.start HIB.out HS.out.fit⟩⟩
            obtain ⟨T, hT⟩ : ∃ T, (fun p => (S.l p).sum) = T := ⟨_, rfl⟩
            rw [hT] at HT0
            clear hT HX HF HS HR2
            go_wp2_with fail
            go_loopg [9] 4200000 (fun nq v9 w' => ∃ n : Nat, v9 = .int .i64 (n : Int) ∧ Aside0 (n + nq = 4200000) ∧ Aside0 (K4 w w' B g h T n))
            case atStart => exact ⟨0, rfl, ⟨by omega⟩, HT0⟩
            case round =>
              obtain ⟨n, rfl, HN, HR4⟩ := hrel
              clear HT0
              obtain ⟨S, hs, hf⟩ := HR4.out
              have HS := Aside0.mk hs
              have HF := Aside0.mk hf
              clear hs hf
              have HNB : Aside0 (n ≤ 4200000) := ⟨by have := HN.out; omega⟩
              cases gk with
              | zero =>
                have hn : n = 4200000 := by have := HN.out; omega
                have cn : decide ((n : Int) < 4200000) = false := decide_eq_false (by omega)
                have cnn : decide (n < 4200000) = false := decide_eq_false (by omega)
                have HE := Aside0.mk (all_done HS.out.fit HF.out (by omega))
                have HCR : Aside0 (∀ p, p < 16 → S.cr p = 0) := ⟨fun p hp => HF.out.em p hp (HE.out p hp)⟩
                have HG0 : Aside0 (K8 w wr B g h S) := ⟨HS.out⟩
                clear hn HF HS HR4
                go_wp2_with fail
                go_loopg [14] 15 (fun pq v14 w' => ∃ p : Nat, v14 = .int .i64 (p : Int) ∧ Aside0 (p + pq = 16 ∧ 1 ≤ p) ∧ Aside0 (K8 w w' B g h S))
                case atStart => exact ⟨1, rfl, ⟨⟨rfl, by omega⟩⟩, HG0⟩
                case round =>
                  obtain ⟨p, rfl, HPP, HR8⟩ := hrel
                  clear HG0
                  have HS : Aside0 (AS w wr B g h S S.l) := ⟨HR8.out⟩
                  cases gk with
                  | zero =>
                    obtain rfl : p = 16 := by have := HPP.out; omega
                    go_wp2
                    go_ret
                    exact ⟨rfl, HS.out.bel⟩
                  | succ pq =>
                    have hp15 : p ≤ 15 := by have := HPP.out; omega
                    have cp : decide ((p : Int) ≤ 15) = true := decide_eq_true (by omega)
                    have cpn : decide (p ≤ 15) = true := decide_eq_true hp15
                    have HPN : Aside0 (1 ≤ (p : Int) ∧ (p : Int) ≤ 15) := ⟨by have := HPP.out; omega⟩
                    have hp16 : p < 16 := by omega
                    obtain ⟨vs, hs, hw⟩ := HS.out
                    obtain ⟨A7, c7, hvs⟩ := hw.slice hp16
                    have x4 := hw.cell hp16
                    rw [hvs, HE.out p hp16] at x4
                    simp only [List.length_nil] at x4
                    have HEP : Aside0 (S.l (p : Int).toNat = [] ∧ S.cr (p : Int).toNat = 0) := ⟨⟨HE.out p hp16, HCR.out p hp16⟩⟩
                    clear hs hw hvs
                    go_wp2_with fail
                    (with_reducible refine (waits_as HS.out HPN.out HEP.out.1).mono ?_)
                    rintro e W6 ⟨rfl, h6⟩
                    have HS6 := Aside0.mk h6
                    clear h6 x4
                    go_wp2_with fail
                    (with_reducible refine (credit_as HS6.out HPN.out HEP.out.2).mono ?_)
                    rintro e W7 ⟨rfl, h7⟩
                    have HZ : Aside0 (K8 w W7 B g h S) := ⟨h7⟩
                    clear h7
                    go_wp2
                    go_roundg pq
                    case measure => omega
                    case rel => exact ⟨p + 1, by first | rfl | exact next_n (by have := HPN.out; omega), ⟨by have := HPP.out; omega⟩, HZ⟩
              | succ nq =>
                have hn : n < 4200000 := by have := HN.out; omega
                have cn : decide ((n : Int) < 4200000) = true := decide_eq_true (by omega)
                have cnn : decide (n < 4200000) = true := decide_eq_true hn
                clear hn
                go_wp2_with fail
                (with_reducible refine (turn_as HS.out).mono ?_)
                rintro e W5 ⟨A5, c5, vs5, rfl, hs, hw, hst⟩
                obtain ⟨rows1, rows2, rows3⟩ := turnTo_sent HS.out.fit 16 (Nat.le_refl _)
                obtain ⟨fl, hfl⟩ : ∃ fl, (turnTo S 16).2.2 = fl := ⟨_, rfl⟩
                cases fl with
                | false =>
                  rw [show tErr (turnTo S 16).2.2 = 4 from by rw [hfl]; rfl]
                  obtain ⟨he, ht⟩ := rows3 hfl
                  have HE := Aside0.mk he
                  have HCR : Aside0 (∀ p, p < 16 → S.cr p = 0) := ⟨fun p hp => HF.out.em p hp (HE.out p hp)⟩
                  have HG0 : Aside0 (K8 w W5 B g h S) := by
                        rw [ht] at hs
                        exact ⟨⟨vs5, hs, hw⟩⟩
                  clear hs hw hst rows1 rows2 rows3 hfl he ht HF HS HR4
                  go_wp2_with fail
                  go_loopg [14] 15 (fun pq v14 w' => ∃ p : Nat, v14 = .int .i64 (p : Int) ∧ Aside0 (p + pq = 16 ∧ 1 ≤ p) ∧ Aside0 (K8 w w' B g h S))
                  case atStart => exact ⟨1, rfl, ⟨⟨rfl, by omega⟩⟩, HG0⟩
                  case round =>
                    obtain ⟨p, rfl, HPP, HR8⟩ := hrel
                    clear HG0
                    have HS : Aside0 (AS w wr B g h S S.l) := ⟨HR8.out⟩
                    cases gk with
                    | zero =>
                      obtain rfl : p = 16 := by have := HPP.out; omega
                      go_wp2
                      go_ret
                      exact ⟨rfl, HS.out.bel⟩
                    | succ pq =>
                      have hp15 : p ≤ 15 := by have := HPP.out; omega
                      have cp : decide ((p : Int) ≤ 15) = true := decide_eq_true (by omega)
                      have cpn : decide (p ≤ 15) = true := decide_eq_true hp15
                      have HPN : Aside0 (1 ≤ (p : Int) ∧ (p : Int) ≤ 15) := ⟨by have := HPP.out; omega⟩
                      have hp16 : p < 16 := by omega
                      obtain ⟨vs, hs, hw⟩ := HS.out
                      obtain ⟨A7, c7, hvs⟩ := hw.slice hp16
                      have x4 := hw.cell hp16
                      rw [hvs, HE.out p hp16] at x4
                      simp only [List.length_nil] at x4
                      have HEP : Aside0 (S.l (p : Int).toNat = [] ∧ S.cr (p : Int).toNat = 0) := ⟨⟨HE.out p hp16, HCR.out p hp16⟩⟩
                      clear hs hw hvs
                      go_wp2_with fail
                      (with_reducible refine (waits_as HS.out HPN.out HEP.out.1).mono ?_)
                      rintro e W6 ⟨rfl, h6⟩
                      have HS6 := Aside0.mk h6
                      clear h6 x4
                      go_wp2_with fail
                      (with_reducible refine (credit_as HS6.out HPN.out HEP.out.2).mono ?_)
                      rintro e W7 ⟨rfl, h7⟩
                      have HZ : Aside0 (K8 w W7 B g h S) := ⟨h7⟩
                      clear h7
                      go_wp2
                      go_roundg pq
                      case measure => omega
                      case rel => exact ⟨p + 1, by first | rfl | exact next_n (by have := HPN.out; omega), ⟨by have := HPP.out; omega⟩, HZ⟩
                | true =>
                  rw [show tErr (turnTo S 16).2.2 = 0 from by rw [hfl]; rfl]
                  have hai := all_turn HS.out.fit HF.out
                  have hll : (turnTo S 16).2.1.length ≤ 1600 := turnTo_long HS.out.fit 16 (Nat.le_refl _)
                  obtain ⟨S', hS'⟩ : ∃ S', (turnTo S 16).1 = S' := ⟨_, rfl⟩
                  obtain ⟨L, hL⟩ : ∃ L, (turnTo S 16).2.1 = L := ⟨_, rfl⟩
                  rw [hL] at hll hst rows1 rows2 ⊢
                  rw [hS'] at hs hai rows1
                  have HLL := Aside0.mk hll
                  have HRW := Aside0.mk rows2
                  have HAI := Aside0.mk hai
                  have HJ0 : Aside0 (K6 w W5 B g h S' A5 L 0) := by
                        refine ⟨⟨vs5, hs, ⟨hw.blk, fun p hp => ?_, hw.dist, hw.base⟩, hst⟩⟩
                        have := hw.row p hp
                        rw [rows1 p hp] at this
                        exact this
                  clear hs hw hst rows1 rows2 rows3 hfl hai hll hS' hL HF HS HR4
                  go_wp2_with fail
                  go_loopg [12, 13] L.length (fun jq v12 v13 w' => ∃ i : Nat, v12 = .int .i64 (i : Int) ∧ Aside0 (i + jq = L.length) ∧ Aside0 (K6 w w' B g h S' A5 L i))
                  case atStart => exact ⟨0, rfl, ⟨by omega⟩, HJ0⟩
                  case round =>
                    obtain ⟨i, rfl, HII, HR6⟩ := hrel
                    clear HJ0
                    obtain ⟨vs, hs, hw, hst⟩ := HR6.out
                    have HS := Aside0.mk hs
                    have HW := Aside0.mk hw
                    have HST := Aside0.mk hst
                    clear hs hw hst
                    cases gk with
                    | zero =>
                      obtain rfl : i = L.length := by have := HII.out; omega
                      have dl : decide (L.length < L.length) = false := decide_eq_false (by omega)
                      have dli : decide ((L.length : Int) < (L.length : Int)) = false := decide_eq_false (by omega)
                      have HZ : Aside0 (K4 w wr B g h T (n + 1)) := by
                          have hw := HW.out
                          rw [show leftL S' L L.length = S'.l from funext fun p => by unfold leftL; rw [List.drop_length]; rfl] at hw
                          exact ⟨⟨S', ⟨vs, HS.out, hw⟩, HAI.out⟩⟩
                      clear HS HW HST HR6
                      go_wp2
                      go_roundg nq
                      case measure => omega
                      case rel => exact ⟨n + 1, next_n (by have := HNB.out; omega), ⟨by have := HN.out; omega⟩, HZ⟩
                    | succ jq =>
                      have hil : i < L.length := by have := HII.out; omega
                      have HIL := Aside0.mk hil
                      have dl : decide (i < L.length) = true := decide_eq_true hil
                      obtain ⟨⟨r, z⟩, hxi⟩ : ∃ x, L[i]? = some x := ⟨L[i], List.getElem?_eq_getElem hil⟩
                      obtain ⟨a, rfl, x1, x2, hne⟩ := HST.out i (r, z) hxi
                      obtain ⟨p, hp16, hr⟩ := HRW.out (r, z) (List.mem_of_getElem? hxi)
                      simp only at x1 x2 hr
                      subst hr
                      have HXI := Aside0.mk hxi
                      have HP16 := Aside0.mk hp16
                      have hpi : (p : Int) < 16 := by omega
                      have hrow := HW.out.row p hp16
                      rw [left_head hxi] at hrow
                      obtain ⟨b6, o6, c6, hvs, x3, hc6⟩ := qi_head hrow
                      have x4 := HW.out.cell hp16
                      have x5 := HW.out.frozen p
                      rw [hvs] at x4 hrow
                      obtain ⟨m6, hm6⟩ : ∃ m6, (leftL S' L (i + 1) p).length = m6 := ⟨_, rfl⟩
                      have HM6 := Aside0.mk hm6
                      rw [hm6] at x4 hvs hrow
                      have HVS := Aside0.mk hvs
                      have HROW := Aside0.mk hrow
                      have hcut : ∀ W : World, (Instr.slice 43 (.slice (some ⟨b6, o6, none⟩) (m6 + 1) c6) (some (.int .i64 1)) none none).run Try.prog W = .ok (.slice (if c6 = 1 then some ⟨b6, o6, none⟩ else some ⟨b6, o6 + 1, none⟩) m6 (c6 - 1)) W := cut_one b6 o6 m6 c6
                      have hat : (Value.slice (if c6 = 1 then some ⟨b6, o6, none⟩ else some ⟨b6, o6 + 1, none⟩) m6 (c6 - 1)).ownBlock = (vs p).ownBlock := by rw [tail_block, hvs]; rfl
                      have hqt : Qi wr w.heap.size (.slice (if c6 = 1 then some ⟨b6, o6, none⟩ else some ⟨b6, o6 + 1, none⟩) m6 (c6 - 1)) (leftL S' L (i + 1) p) := by
                          subst hm6
                          exact qi_tail hrow
                      generalize hA2 : (if c6 = 1 then some ⟨b6, o6, none⟩ else some ⟨b6, o6 + 1, none⟩ : Option Addr) = A2 at hcut hat hqt
                      have hm61 : ((m6 : Int) + 1 == 0) = false := by rw [beq_eq_false_iff_ne]; omega
                      have HAT := Aside0.mk hat
                      have HQT := Aside0.mk hqt
                      clear hxi hne hrow hvs hm6 hc6 hA2 hat hqt HROW HVS HM6
                      go_wp2
                      refine start_ (n := 14) (S := fun w' => w'.cell? ⟨b6, o6, none⟩ = some (.int .i64 z) ∧ w'.cell? ⟨(a.add (i * 2)).block, (a.add (i * 2)).off + (0 + 1), none⟩ = some (.int .i64 z)) (ds := []) #[false, false, false, false, false, false, false, false, false, false, false, false, false, false] (by kernel_rfl) rfl rfl ⟨x3, x2⟩ (fun hHeld => ?_)
                      refine pure_ (i := 0) (N := some 118) (v := ?_) (a' := ?_) #[true, false, false, false, false, false, false, false, false, false, false, false, false, false] rfl rfl (by kernel_rfl) (fun _ _ _ h => h) (Or.inl ⟨by rfl, ?_⟩) ?_ ?_
                      rotate_left
                      · intro w'
                        go_simp
                        with_reducible rfl
                      rotate_left
                      · simp only [Act.put, List.setIfInBounds_toArray, List.set_cons_zero, List.set_cons_succ, i64_w, i32_w]
                        rfl
                      refine pure_ (i := 1) (N := some 119) (v := ?_) (a' := ?_) #[true, true, false, false, false, false, false, false, false, false, false, false, false, false] rfl rfl (by kernel_rfl) (fun _ _ _ h => h) (Or.inl ⟨by rfl, ?_⟩) ?_ ?_
                      rotate_left
                      · intro w'
                        go_simp
                        with_reducible rfl
                      rotate_left
                      · simp only [Act.put, List.setIfInBounds_toArray, List.set_cons_zero, List.set_cons_succ, i64_w, i32_w]
                        rfl
                      refine pure_ (i := 2) (N := some 120) (v := ?_) (a' := ?_) #[true, true, true, false, false, false, false, false, false, false, false, false, false, false] rfl rfl (by kernel_rfl) (fun _ _ _ h => h) (Or.inl ⟨by rfl, ?_⟩) ?_ ?_
                      rotate_left
                      · intro w'
                        go_simp
                        with_reducible rfl
                      rotate_left
                      · simp only [Act.put, List.setIfInBounds_toArray, List.set_cons_zero, List.set_cons_succ, i64_w, i32_w]
                        rfl
                      refine pure_ (i := 3) (N := some 121) (v := ?_) (a' := ?_) #[true, true, true, true, false, false, false, false, false, false, false, false, false, false] rfl rfl (by kernel_rfl) (fun _ _ _ h => h) (Or.inl ⟨by rfl, ?_⟩) ?_ ?_
                      rotate_left
                      · intro w'
                        go_simp
                        with_reducible rfl
                      rotate_left
                      · simp only [Act.put, List.setIfInBounds_toArray, List.set_cons_zero, List.set_cons_succ, i64_w, i32_w]
                        rfl
                      refine pure_ (i := 4) (N := some 122) (v := ?_) (a' := ?_) #[true, true, true, true, true, false, false, false, false, false, false, false, false, false] rfl rfl (by kernel_rfl) (fun _ _ _ h => h) (Or.inl ⟨by rfl, ?_⟩) ?_ ?_
                      rotate_left
                      · intro w'
                        go_simp
                        with_reducible rfl
                      rotate_left
                      · simp only [Act.put, List.setIfInBounds_toArray, List.set_cons_zero, List.set_cons_succ, i64_w, i32_w]
                        rfl
                      refine pure_ (i := 5) (N := some 123) (v := ?_) (a' := ?_) #[true, true, true, true, true, true, false, false, false, false, false, false, false, false] rfl rfl (by kernel_rfl) (fun _ _ _ h => h) (Or.inl ⟨by rfl, ?_⟩) ?_ ?_
                      rotate_left
                      · intro w'
                        go_simp
                        with_reducible rfl
                      rotate_left
                      · simp only [Act.put, List.setIfInBounds_toArray, List.set_cons_zero, List.set_cons_succ, i64_w, i32_w]
                        rfl
                      refine pure_ (i := 7) (N := some 125) (v := ?_) (a' := ?_) #[true, true, true, true, true, true, false, true, false, false, false, false, false, false] rfl rfl (by kernel_rfl) (fun _ _ _ h => h) (Or.inl ⟨by rfl, ?_⟩) ?_ ?_
                      rotate_left
                      · intro w'
                        go_simp
                        with_reducible rfl
                      rotate_left
                      · simp only [Act.put, List.setIfInBounds_toArray, List.set_cons_zero, List.set_cons_succ, i64_w, i32_w]
                        rfl
                      refine pure_ (i := 8) (N := some 126) (v := ?_) (a' := ?_) #[true, true, true, true, true, true, false, true, true, false, false, false, false, false] rfl rfl (by kernel_rfl) (fun _ _ _ h => h) (Or.inl ⟨by rfl, ?_⟩) ?_ ?_
                      rotate_left
                      · intro w'
                        go_simp
                        with_reducible rfl
                      rotate_left
                      · simp only [Act.put, List.setIfInBounds_toArray, List.set_cons_zero, List.set_cons_succ, i64_w, i32_w]
                        rfl
                      refine pure_ (i := 9) (N := some 127) (v := ?_) (a' := ?_) #[true, true, true, true, true, true, false, true, true, true, false, false, false, false] rfl rfl (by kernel_rfl) (fun _ _ _ h => h) (Or.inl ⟨by rfl, ?_⟩) ?_ ?_
                      rotate_left
                      · intro w'
                        go_simp
                        with_reducible rfl
                      rotate_left
                      · simp only [Act.put, List.setIfInBounds_toArray, List.set_cons_zero, List.set_cons_succ, i64_w, i32_w]
                        rfl
                      refine pure_ (i := 10) (N := some 128) (v := ?_) (a' := ?_) #[true, true, true, true, true, true, false, true, true, true, true, false, false, false] rfl rfl (by kernel_rfl) (fun _ _ _ h => h) (Or.inl ⟨by rfl, ?_⟩) ?_ ?_
                      rotate_left
                      · intro w'
                        go_simp
                        with_reducible rfl
                      rotate_left
                      · simp only [Act.put, List.setIfInBounds_toArray, List.set_cons_zero, List.set_cons_succ, i64_w, i32_w]
                        rfl
                      refine take_ (i := 6) (N := some 124) (v := ?_) (a' := ?_) #[true, true, true, true, true, true, true, true, true, true, true, false, false, false] rfl rfl (by kernel_rfl) (fun _ _ _ h => h) (Or.inl ⟨by rfl, ?_⟩) hHeld ?_ ?_
                      rotate_left
                      · rintro w' ⟨s0, s1⟩
                        go_simp
                        with_reducible rfl
                      rotate_left
                      · simp only [Act.put, List.setIfInBounds_toArray, List.set_cons_zero, List.set_cons_succ, i64_w, i32_w]
                        rfl
                      refine take_ (i := 11) (N := some 129) (v := ?_) (a' := ?_) #[true, true, true, true, true, true, true, true, true, true, true, true, false, false] rfl rfl (by kernel_rfl) (fun _ _ _ h => h) (Or.inl ⟨by rfl, ?_⟩) hHeld ?_ ?_
                      rotate_left
                      · rintro w' ⟨s0, s1⟩
                        go_simp
                        with_reducible rfl
                      rotate_left
                      · simp only [Act.put, List.setIfInBounds_toArray, List.set_cons_zero, List.set_cons_succ, i64_w, i32_w]
                        rfl
                      refine pure_ (i := 12) (N := some 130) (v := ?_) (a' := ?_) #[true, true, true, true, true, true, true, true, true, true, true, true, true, false] rfl rfl (by kernel_rfl) (fun _ _ _ h => h) (Or.inl ⟨by rfl, ?_⟩) ?_ ?_
                      rotate_left
                      · intro w'
                        go_simp
                        with_reducible rfl
                      rotate_left
                      · simp only [Act.put, List.setIfInBounds_toArray, List.set_cons_zero, List.set_cons_succ, i64_w, i32_w]
                        rfl
                      refine pure_ (i := 13) (N := some 131) (v := ?_) (a' := ?_) #[true, true, true, true, true, true, true, true, true, true, true, true, true, true] rfl rfl (by kernel_rfl) (fun _ _ _ h => h) (Or.inl ⟨by rfl, ?_⟩) ?_ ?_
                      rotate_left
                      · intro w'
                        go_simp
                        with_reducible rfl
                      rotate_left
                      · simp only [Act.put, List.setIfInBounds_toArray, List.set_cons_zero, List.set_cons_succ, i64_w, i32_w]
                        rfl
                      refine done_ (by kernel_rfl) ?_
                      clear hHeld
                      go_wp2
                      refine start_ (n := 9) (S := fun w' => w'.cell? (a.add (i * 2)) = some (.int .i64 (p : Int))) (ds := [8]) #[false, false, false, false, false, false, false, false, false] (by kernel_rfl) rfl rfl (x1) (fun hHeld => ?_)
                      refine pure_ (i := 0) (N := some 132) (v := ?_) (a' := ?_) #[true, false, false, false, false, false, false, false, false] rfl rfl (by kernel_rfl) (fun _ _ _ h => h) (Or.inl ⟨by rfl, ?_⟩) ?_ ?_
                      rotate_left
                      · intro w'
                        go_simp
                        with_reducible rfl
                      rotate_left
                      · simp only [Act.put, List.setIfInBounds_toArray, List.set_cons_zero, List.set_cons_succ, i64_w, i32_w]
                        rfl
                      refine pure_ (i := 1) (N := some 133) (v := ?_) (a' := ?_) #[true, true, false, false, false, false, false, false, false] rfl rfl (by kernel_rfl) (fun _ _ _ h => h) (Or.inl ⟨by rfl, ?_⟩) ?_ ?_
                      rotate_left
                      · intro w'
                        go_simp
                        with_reducible rfl
                      rotate_left
                      · simp only [Act.put, List.setIfInBounds_toArray, List.set_cons_zero, List.set_cons_succ, i64_w, i32_w]
                        rfl
                      refine pure_ (i := 2) (N := some 134) (v := ?_) (a' := ?_) #[true, true, true, false, false, false, false, false, false] rfl rfl (by kernel_rfl) (fun _ _ _ h => h) (Or.inl ⟨by rfl, ?_⟩) ?_ ?_
                      rotate_left
                      · intro w'
                        go_simp
                        with_reducible rfl
                      rotate_left
                      · simp only [Act.put, List.setIfInBounds_toArray, List.set_cons_zero, List.set_cons_succ, i64_w, i32_w]
                        rfl
                      refine pure_ (i := 3) (N := some 135) (v := ?_) (a' := ?_) #[true, true, true, true, false, false, false, false, false] rfl rfl (by kernel_rfl) (fun _ _ _ h => h) (Or.inl ⟨by rfl, ?_⟩) ?_ ?_
                      rotate_left
                      · intro w'
                        go_simp
                        with_reducible rfl
                      rotate_left
                      · simp only [Act.put, List.setIfInBounds_toArray, List.set_cons_zero, List.set_cons_succ, i64_w, i32_w]
                        rfl
                      refine pure_ (i := 5) (N := some 137) (v := ?_) (a' := ?_) #[true, true, true, true, false, true, false, false, false] rfl rfl (by kernel_rfl) (fun _ _ _ h => h) (Or.inl ⟨by rfl, ?_⟩) ?_ ?_
                      rotate_left
                      · intro w'
                        go_simp
                        with_reducible rfl
                      rotate_left
                      · simp only [Act.put, List.setIfInBounds_toArray, List.set_cons_zero, List.set_cons_succ, i64_w, i32_w]
                        rfl
                      refine pure_ (i := 6) (N := some 138) (v := ?_) (a' := ?_) #[true, true, true, true, false, true, true, false, false] rfl rfl (by kernel_rfl) (fun _ _ _ h => h) (Or.inl ⟨by rfl, ?_⟩) ?_ ?_
                      rotate_left
                      · intro w'
                        go_simp
                        with_reducible rfl
                      rotate_left
                      · simp only [Act.put, List.setIfInBounds_toArray, List.set_cons_zero, List.set_cons_succ, i64_w, i32_w]
                        rfl
                      refine take_ (i := 4) (N := some 136) (v := ?_) (a' := ?_) #[true, true, true, true, true, true, true, false, false] rfl rfl (by kernel_rfl) (fun _ _ _ h => h) (Or.inl ⟨by rfl, ?_⟩) hHeld ?_ ?_
                      rotate_left
                      · intro w' s0
                        go_simp
                        with_reducible rfl
                      rotate_left
                      · simp only [Act.put, List.setIfInBounds_toArray, List.set_cons_zero, List.set_cons_succ, i64_w, i32_w]
                        rfl
                      refine pure_ (i := 7) (N := some 139) (v := ?_) (a' := ?_) #[true, true, true, true, true, true, true, true, false] rfl rfl (by kernel_rfl) (fun _ _ _ h => h) (Or.inl ⟨by rfl, ?_⟩) ?_ ?_
                      rotate_left
                      · intro w'
                        go_simp
                        with_reducible rfl
                      rotate_left
                      · simp only [Act.put, List.setIfInBounds_toArray, List.set_cons_zero, List.set_cons_succ, i64_w, i32_w]
                        rfl
                      refine last_ (i := 8) (N := none) #[true, true, true, true, true, true, true, true, true] rfl rfl (by kernel_rfl) (by decide) (fun K hK => ?_)
                      refine skip_ (w1 := ?_) (by rfl) rfl ?_ ?_
                      rotate_left
                      · go_simp
                        rfl
                      refine hK.out _ _ ?_
                      clear hK K
                      refine done_ (by kernel_rfl) ?_
                      have hput := as_tail (W := wr.drew.drew) (HS.out.step (Below.refl _ _).drew.drew) (HW.out.below (Below.refl _ _).drew.drew) HP16.out HQT.out HAT.out
                      have HZ : Aside0 (K6 w (wr.drew.drew.setCell ⟨h, p, none⟩ (.slice A2 m6 (c6 - 1))) B g h S' (some a) L (i + 1)) := by
                          have h1 := hput.2
                          rw [left_up HXI.out] at h1
                          exact ⟨⟨_, hput.1, h1, (StepsA.set (W := wr.drew.drew) HST.out (.inl rfl) p _).less (fun k hk => own_tail HAT.out hk)⟩⟩
                      clear x1 x2 x3 x4 x5 hcut hput hm61 hpi
                      go_wp2
                      go_roundg jq
                      case measure => omega
                      case rel => exact ⟨i + 1, next_n (by have := HIL.out; have := HLL.out; omega), ⟨by have := HII.out; omega⟩, HZ⟩
          · have hlb : decide (i < ls.length) = false := decide_eq_false hlt
            clear hx hlt
            have HT0 : Aside0 (K4 w wr B g h (fun p => (S.l p).sum) 0) := ⟨⟨S, HS.out, HF.out.start HIB.out HS.out.fit⟩⟩
            obtain ⟨T, hT⟩ : ∃ T, (fun p => (S.l p).sum) = T := ⟨_, rfl⟩
            rw [hT] at HT0
            clear hT HX HF HS HR2
            go_wp2_with fail
            go_loopg [9] 4200000 (fun nq v9 w' => ∃ n : Nat, v9 = .int .i64 (n : Int) ∧ Aside0 (n + nq = 4200000) ∧ Aside0 (K4 w w' B g h T n))
            case atStart => exact ⟨0, rfl, ⟨by omega⟩, HT0⟩
            case round =>
              obtain ⟨n, rfl, HN, HR4⟩ := hrel
              clear HT0
              obtain ⟨S, hs, hf⟩ := HR4.out
              have HS := Aside0.mk hs
              have HF := Aside0.mk hf
              clear hs hf
              have HNB : Aside0 (n ≤ 4200000) := ⟨by have := HN.out; omega⟩
              cases gk with
              | zero =>
                have hn : n = 4200000 := by have := HN.out; omega
                have cn : decide ((n : Int) < 4200000) = false := decide_eq_false (by omega)
                have cnn : decide (n < 4200000) = false := decide_eq_false (by omega)
                have HE := Aside0.mk (all_done HS.out.fit HF.out (by omega))
                have HCR : Aside0 (∀ p, p < 16 → S.cr p = 0) := ⟨fun p hp => HF.out.em p hp (HE.out p hp)⟩
                have HG0 : Aside0 (K8 w wr B g h S) := ⟨HS.out⟩
                clear hn HF HS HR4
                go_wp2_with fail
                go_loopg [14] 15 (fun pq v14 w' => ∃ p : Nat, v14 = .int .i64 (p : Int) ∧ Aside0 (p + pq = 16 ∧ 1 ≤ p) ∧ Aside0 (K8 w w' B g h S))
                case atStart => exact ⟨1, rfl, ⟨⟨rfl, by omega⟩⟩, HG0⟩
                case round =>
                  obtain ⟨p, rfl, HPP, HR8⟩ := hrel
                  clear HG0
                  have HS : Aside0 (AS w wr B g h S S.l) := ⟨HR8.out⟩
                  cases gk with
                  | zero =>
                    obtain rfl : p = 16 := by have := HPP.out; omega
                    go_wp2
                    go_ret
                    exact ⟨rfl, HS.out.bel⟩
                  | succ pq =>
                    have hp15 : p ≤ 15 := by have := HPP.out; omega
                    have cp : decide ((p : Int) ≤ 15) = true := decide_eq_true (by omega)
                    have cpn : decide (p ≤ 15) = true := decide_eq_true hp15
                    have HPN : Aside0 (1 ≤ (p : Int) ∧ (p : Int) ≤ 15) := ⟨by have := HPP.out; omega⟩
                    have hp16 : p < 16 := by omega
                    obtain ⟨vs, hs, hw⟩ := HS.out
                    obtain ⟨A7, c7, hvs⟩ := hw.slice hp16
                    have x4 := hw.cell hp16
                    rw [hvs, HE.out p hp16] at x4
                    simp only [List.length_nil] at x4
                    have HEP : Aside0 (S.l (p : Int).toNat = [] ∧ S.cr (p : Int).toNat = 0) := ⟨⟨HE.out p hp16, HCR.out p hp16⟩⟩
                    clear hs hw hvs
                    go_wp2_with fail
                    (with_reducible refine (waits_as HS.out HPN.out HEP.out.1).mono ?_)
                    rintro e W6 ⟨rfl, h6⟩
                    have HS6 := Aside0.mk h6
                    clear h6 x4
                    go_wp2_with fail
                    (with_reducible refine (credit_as HS6.out HPN.out HEP.out.2).mono ?_)
                    rintro e W7 ⟨rfl, h7⟩
                    have HZ : Aside0 (K8 w W7 B g h S) := ⟨h7⟩
                    clear h7
                    go_wp2
                    go_roundg pq
                    case measure => omega
                    case rel => exact ⟨p + 1, by first | rfl | exact next_n (by have := HPN.out; omega), ⟨by have := HPP.out; omega⟩, HZ⟩
              | succ nq =>
                have hn : n < 4200000 := by have := HN.out; omega
                have cn : decide ((n : Int) < 4200000) = true := decide_eq_true (by omega)
                have cnn : decide (n < 4200000) = true := decide_eq_true hn
                clear hn
                go_wp2_with fail
                (with_reducible refine (turn_as HS.out).mono ?_)
                rintro e W5 ⟨A5, c5, vs5, rfl, hs, hw, hst⟩
                obtain ⟨rows1, rows2, rows3⟩ := turnTo_sent HS.out.fit 16 (Nat.le_refl _)
                obtain ⟨fl, hfl⟩ : ∃ fl, (turnTo S 16).2.2 = fl := ⟨_, rfl⟩
                cases fl with
                | false =>
                  rw [show tErr (turnTo S 16).2.2 = 4 from by rw [hfl]; rfl]
                  obtain ⟨he, ht⟩ := rows3 hfl
                  have HE := Aside0.mk he
                  have HCR : Aside0 (∀ p, p < 16 → S.cr p = 0) := ⟨fun p hp => HF.out.em p hp (HE.out p hp)⟩
                  have HG0 : Aside0 (K8 w W5 B g h S) := by
                        rw [ht] at hs
                        exact ⟨⟨vs5, hs, hw⟩⟩
                  clear hs hw hst rows1 rows2 rows3 hfl he ht HF HS HR4
                  go_wp2_with fail
                  go_loopg [14] 15 (fun pq v14 w' => ∃ p : Nat, v14 = .int .i64 (p : Int) ∧ Aside0 (p + pq = 16 ∧ 1 ≤ p) ∧ Aside0 (K8 w w' B g h S))
                  case atStart => exact ⟨1, rfl, ⟨⟨rfl, by omega⟩⟩, HG0⟩
                  case round =>
                    obtain ⟨p, rfl, HPP, HR8⟩ := hrel
                    clear HG0
                    have HS : Aside0 (AS w wr B g h S S.l) := ⟨HR8.out⟩
                    cases gk with
                    | zero =>
                      obtain rfl : p = 16 := by have := HPP.out; omega
                      go_wp2
                      go_ret
                      exact ⟨rfl, HS.out.bel⟩
                    | succ pq =>
                      have hp15 : p ≤ 15 := by have := HPP.out; omega
                      have cp : decide ((p : Int) ≤ 15) = true := decide_eq_true (by omega)
                      have cpn : decide (p ≤ 15) = true := decide_eq_true hp15
                      have HPN : Aside0 (1 ≤ (p : Int) ∧ (p : Int) ≤ 15) := ⟨by have := HPP.out; omega⟩
                      have hp16 : p < 16 := by omega
                      obtain ⟨vs, hs, hw⟩ := HS.out
                      obtain ⟨A7, c7, hvs⟩ := hw.slice hp16
                      have x4 := hw.cell hp16
                      rw [hvs, HE.out p hp16] at x4
                      simp only [List.length_nil] at x4
                      have HEP : Aside0 (S.l (p : Int).toNat = [] ∧ S.cr (p : Int).toNat = 0) := ⟨⟨HE.out p hp16, HCR.out p hp16⟩⟩
                      clear hs hw hvs
                      go_wp2_with fail
                      (with_reducible refine (waits_as HS.out HPN.out HEP.out.1).mono ?_)
                      rintro e W6 ⟨rfl, h6⟩
                      have HS6 := Aside0.mk h6
                      clear h6 x4
                      go_wp2_with fail
                      (with_reducible refine (credit_as HS6.out HPN.out HEP.out.2).mono ?_)
                      rintro e W7 ⟨rfl, h7⟩
                      have HZ : Aside0 (K8 w W7 B g h S) := ⟨h7⟩
                      clear h7
                      go_wp2
                      go_roundg pq
                      case measure => omega
                      case rel => exact ⟨p + 1, by first | rfl | exact next_n (by have := HPN.out; omega), ⟨by have := HPP.out; omega⟩, HZ⟩
                | true =>
                  rw [show tErr (turnTo S 16).2.2 = 0 from by rw [hfl]; rfl]
                  have hai := all_turn HS.out.fit HF.out
                  have hll : (turnTo S 16).2.1.length ≤ 1600 := turnTo_long HS.out.fit 16 (Nat.le_refl _)
                  obtain ⟨S', hS'⟩ : ∃ S', (turnTo S 16).1 = S' := ⟨_, rfl⟩
                  obtain ⟨L, hL⟩ : ∃ L, (turnTo S 16).2.1 = L := ⟨_, rfl⟩
                  rw [hL] at hll hst rows1 rows2 ⊢
                  rw [hS'] at hs hai rows1
                  have HLL := Aside0.mk hll
                  have HRW := Aside0.mk rows2
                  have HAI := Aside0.mk hai
                  have HJ0 : Aside0 (K6 w W5 B g h S' A5 L 0) := by
                        refine ⟨⟨vs5, hs, ⟨hw.blk, fun p hp => ?_, hw.dist, hw.base⟩, hst⟩⟩
                        have := hw.row p hp
                        rw [rows1 p hp] at this
                        exact this
                  clear hs hw hst rows1 rows2 rows3 hfl hai hll hS' hL HF HS HR4
                  go_wp2_with fail
                  go_loopg [12, 13] L.length (fun jq v12 v13 w' => ∃ i : Nat, v12 = .int .i64 (i : Int) ∧ Aside0 (i + jq = L.length) ∧ Aside0 (K6 w w' B g h S' A5 L i))
                  case atStart => exact ⟨0, rfl, ⟨by omega⟩, HJ0⟩
                  case round =>
                    obtain ⟨i, rfl, HII, HR6⟩ := hrel
                    clear HJ0
                    obtain ⟨vs, hs, hw, hst⟩ := HR6.out
                    have HS := Aside0.mk hs
                    have HW := Aside0.mk hw
                    have HST := Aside0.mk hst
                    clear hs hw hst
                    cases gk with
                    | zero =>
                      obtain rfl : i = L.length := by have := HII.out; omega
                      have dl : decide (L.length < L.length) = false := decide_eq_false (by omega)
                      have dli : decide ((L.length : Int) < (L.length : Int)) = false := decide_eq_false (by omega)
                      have HZ : Aside0 (K4 w wr B g h T (n + 1)) := by
                          have hw := HW.out
                          rw [show leftL S' L L.length = S'.l from funext fun p => by unfold leftL; rw [List.drop_length]; rfl] at hw
                          exact ⟨⟨S', ⟨vs, HS.out, hw⟩, HAI.out⟩⟩
                      clear HS HW HST HR6
                      go_wp2
                      go_roundg nq
                      case measure => omega
                      case rel => exact ⟨n + 1, next_n (by have := HNB.out; omega), ⟨by have := HN.out; omega⟩, HZ⟩
                    | succ jq =>
                      have hil : i < L.length := by have := HII.out; omega
                      have HIL := Aside0.mk hil
                      have dl : decide (i < L.length) = true := decide_eq_true hil
                      obtain ⟨⟨r, z⟩, hxi⟩ : ∃ x, L[i]? = some x := ⟨L[i], List.getElem?_eq_getElem hil⟩
                      obtain ⟨a, rfl, x1, x2, hne⟩ := HST.out i (r, z) hxi
                      obtain ⟨p, hp16, hr⟩ := HRW.out (r, z) (List.mem_of_getElem? hxi)
                      simp only at x1 x2 hr
                      subst hr
                      have HXI := Aside0.mk hxi
                      have HP16 := Aside0.mk hp16
                      have hpi : (p : Int) < 16 := by omega
                      have hrow := HW.out.row p hp16
                      rw [left_head hxi] at hrow
                      obtain ⟨b6, o6, c6, hvs, x3, hc6⟩ := qi_head hrow
                      have x4 := HW.out.cell hp16
                      have x5 := HW.out.frozen p
                      rw [hvs] at x4 hrow
                      obtain ⟨m6, hm6⟩ : ∃ m6, (leftL S' L (i + 1) p).length = m6 := ⟨_, rfl⟩
                      have HM6 := Aside0.mk hm6
                      rw [hm6] at x4 hvs hrow
                      have HVS := Aside0.mk hvs
                      have HROW := Aside0.mk hrow
                      have hcut : ∀ W : World, (Instr.slice 43 (.slice (some ⟨b6, o6, none⟩) (m6 + 1) c6) (some (.int .i64 1)) none none).run Try.prog W = .ok (.slice (if c6 = 1 then some ⟨b6, o6, none⟩ else some ⟨b6, o6 + 1, none⟩) m6 (c6 - 1)) W := cut_one b6 o6 m6 c6
                      have hat : (Value.slice (if c6 = 1 then some ⟨b6, o6, none⟩ else some ⟨b6, o6 + 1, none⟩) m6 (c6 - 1)).ownBlock = (vs p).ownBlock := by rw [tail_block, hvs]; rfl
                      have hqt : Qi wr w.heap.size (.slice (if c6 = 1 then some ⟨b6, o6, none⟩ else some ⟨b6, o6 + 1, none⟩) m6 (c6 - 1)) (leftL S' L (i + 1) p) := by
                          subst hm6
                          exact qi_tail hrow
                      generalize hA2 : (if c6 = 1 then some ⟨b6, o6, none⟩ else some ⟨b6, o6 + 1, none⟩ : Option Addr) = A2 at hcut hat hqt
                      have hm61 : ((m6 : Int) + 1 == 0) = false := by rw [beq_eq_false_iff_ne]; omega
                      have HAT := Aside0.mk hat
                      have HQT := Aside0.mk hqt
                      clear hxi hne hrow hvs hm6 hc6 hA2 hat hqt HROW HVS HM6
                      go_wp2
                      refine start_ (n := 14) (S := fun w' => w'.cell? ⟨b6, o6, none⟩ = some (.int .i64 z) ∧ w'.cell? ⟨(a.add (i * 2)).block, (a.add (i * 2)).off + (0 + 1), none⟩ = some (.int .i64 z)) (ds := []) #[false, false, false, false, false, false, false, false, false, false, false, false, false, false] (by kernel_rfl) rfl rfl ⟨x3, x2⟩ (fun hHeld => ?_)
                      refine pure_ (i := 0) (N := some 118) (v := ?_) (a' := ?_) #[true, false, false, false, false, false, false, false, false, false, false, false, false, false] rfl rfl (by kernel_rfl) (fun _ _ _ h => h) (Or.inl ⟨by rfl, ?_⟩) ?_ ?_
                      rotate_left
                      · intro w'
                        go_simp
                        with_reducible rfl
                      rotate_left
                      · simp only [Act.put, List.setIfInBounds_toArray, List.set_cons_zero, List.set_cons_succ, i64_w, i32_w]
                        rfl
                      refine pure_ (i := 1) (N := some 119) (v := ?_) (a' := ?_) #[true, true, false, false, false, false, false, false, false, false, false, false, false, false] rfl rfl (by kernel_rfl) (fun _ _ _ h => h) (Or.inl ⟨by rfl, ?_⟩) ?_ ?_
                      rotate_left
                      · intro w'
                        go_simp
                        with_reducible rfl
                      rotate_left
                      · simp only [Act.put, List.setIfInBounds_toArray, List.set_cons_zero, List.set_cons_succ, i64_w, i32_w]
                        rfl
                      refine pure_ (i := 2) (N := some 120) (v := ?_) (a' := ?_) #[true, true, true, false, false, false, false, false, false, false, false, false, false, false] rfl rfl (by kernel_rfl) (fun _ _ _ h => h) (Or.inl ⟨by rfl, ?_⟩) ?_ ?_
                      rotate_left
                      · intro w'
                        go_simp
                        with_reducible rfl
                      rotate_left
                      · simp only [Act.put, List.setIfInBounds_toArray, List.set_cons_zero, List.set_cons_succ, i64_w, i32_w]
                        rfl
                      refine pure_ (i := 3) (N := some 121) (v := ?_) (a' := ?_) #[true, true, true, true, false, false, false, false, false, false, false, false, false, false] rfl rfl (by kernel_rfl) (fun _ _ _ h => h) (Or.inl ⟨by rfl, ?_⟩) ?_ ?_
                      rotate_left
                      · intro w'
                        go_simp
                        with_reducible rfl
                      rotate_left
                      · simp only [Act.put, List.setIfInBounds_toArray, List.set_cons_zero, List.set_cons_succ, i64_w, i32_w]
                        rfl
                      refine pure_ (i := 4) (N := some 122) (v := ?_) (a' := ?_) #[true, true, true, true, true, false, false, false, false, false, false, false, false, false] rfl rfl (by kernel_rfl) (fun _ _ _ h => h) (Or.inl ⟨by rfl, ?_⟩) ?_ ?_
                      rotate_left
                      · intro w'
                        go_simp
                        with_reducible rfl
                      rotate_left
                      · simp only [Act.put, List.setIfInBounds_toArray, List.set_cons_zero, List.set_cons_succ, i64_w, i32_w]
                        rfl
                      refine pure_ (i := 5) (N := some 123) (v := ?_) (a' := ?_) #[true, true, true, true, true, true, false, false, false, false, false, false, false, false] rfl rfl (by kernel_rfl) (fun _ _ _ h => h) (Or.inl ⟨by rfl, ?_⟩) ?_ ?_
                      rotate_left
                      · intro w'
                        go_simp
                        with_reducible rfl
                      rotate_left
                      · simp only [Act.put, List.setIfInBounds_toArray, List.set_cons_zero, List.set_cons_succ, i64_w, i32_w]
                        rfl
                      refine pure_ (i := 7) (N := some 125) (v := ?_) (a' := ?_) #[true, true, true, true, true, true, false, true, false, false, false, false, false, false] rfl rfl (by kernel_rfl) (fun _ _ _ h => h) (Or.inl ⟨by rfl, ?_⟩) ?_ ?_
                      rotate_left
                      · intro w'
                        go_simp
                        with_reducible rfl
                      rotate_left
                      · simp only [Act.put, List.setIfInBounds_toArray, List.set_cons_zero, List.set_cons_succ, i64_w, i32_w]
                        rfl
                      refine pure_ (i := 8) (N := some 126) (v := ?_) (a' := ?_) #[true, true, true, true, true, true, false, true, true, false, false, false, false, false] rfl rfl (by kernel_rfl) (fun _ _ _ h => h) (Or.inl ⟨by rfl, ?_⟩) ?_ ?_
                      rotate_left
                      · intro w'
                        go_simp
                        with_reducible rfl
                      rotate_left
                      · simp only [Act.put, List.setIfInBounds_toArray, List.set_cons_zero, List.set_cons_succ, i64_w, i32_w]
                        rfl
                      refine pure_ (i := 9) (N := some 127) (v := ?_) (a' := ?_) #[true, true, true, true, true, true, false, true, true, true, false, false, false, false] rfl rfl (by kernel_rfl) (fun _ _ _ h => h) (Or.inl ⟨by rfl, ?_⟩) ?_ ?_
                      rotate_left
                      · intro w'
                        go_simp
                        with_reducible rfl
                      rotate_left
                      · simp only [Act.put, List.setIfInBounds_toArray, List.set_cons_zero, List.set_cons_succ, i64_w, i32_w]
                        rfl
                      refine pure_ (i := 10) (N := some 128) (v := ?_) (a' := ?_) #[true, true, true, true, true, true, false, true, true, true, true, false, false, false] rfl rfl (by kernel_rfl) (fun _ _ _ h => h) (Or.inl ⟨by rfl, ?_⟩) ?_ ?_
                      rotate_left
                      · intro w'
                        go_simp
                        with_reducible rfl
                      rotate_left
                      · simp only [Act.put, List.setIfInBounds_toArray, List.set_cons_zero, List.set_cons_succ, i64_w, i32_w]
                        rfl
                      refine take_ (i := 6) (N := some 124) (v := ?_) (a' := ?_) #[true, true, true, true, true, true, true, true, true, true, true, false, false, false] rfl rfl (by kernel_rfl) (fun _ _ _ h => h) (Or.inl ⟨by rfl, ?_⟩) hHeld ?_ ?_
                      rotate_left
                      · rintro w' ⟨s0, s1⟩
                        go_simp
                        with_reducible rfl
                      rotate_left
                      · simp only [Act.put, List.setIfInBounds_toArray, List.set_cons_zero, List.set_cons_succ, i64_w, i32_w]
                        rfl
                      refine take_ (i := 11) (N := some 129) (v := ?_) (a' := ?_) #[true, true, true, true, true, true, true, true, true, true, true, true, false, false] rfl rfl (by kernel_rfl) (fun _ _ _ h => h) (Or.inl ⟨by rfl, ?_⟩) hHeld ?_ ?_
                      rotate_left
                      · rintro w' ⟨s0, s1⟩
                        go_simp
                        with_reducible rfl
                      rotate_left
                      · simp only [Act.put, List.setIfInBounds_toArray, List.set_cons_zero, List.set_cons_succ, i64_w, i32_w]
                        rfl
                      refine pure_ (i := 12) (N := some 130) (v := ?_) (a' := ?_) #[true, true, true, true, true, true, true, true, true, true, true, true, true, false] rfl rfl (by kernel_rfl) (fun _ _ _ h => h) (Or.inl ⟨by rfl, ?_⟩) ?_ ?_
                      rotate_left
                      · intro w'
                        go_simp
                        with_reducible rfl
                      rotate_left
                      · simp only [Act.put, List.setIfInBounds_toArray, List.set_cons_zero, List.set_cons_succ, i64_w, i32_w]
                        rfl
                      refine pure_ (i := 13) (N := some 131) (v := ?_) (a' := ?_) #[true, true, true, true, true, true, true, true, true, true, true, true, true, true] rfl rfl (by kernel_rfl) (fun _ _ _ h => h) (Or.inl ⟨by rfl, ?_⟩) ?_ ?_
                      rotate_left
                      · intro w'
                        go_simp
                        with_reducible rfl
                      rotate_left
                      · simp only [Act.put, List.setIfInBounds_toArray, List.set_cons_zero, List.set_cons_succ, i64_w, i32_w]
                        rfl
                      refine done_ (by kernel_rfl) ?_
                      clear hHeld
                      go_wp2
                      refine start_ (n := 9) (S := fun w' => w'.cell? (a.add (i * 2)) = some (.int .i64 (p : Int))) (ds := [8]) #[false, false, false, false, false, false, false, false, false] (by kernel_rfl) rfl rfl (x1) (fun hHeld => ?_)
                      refine pure_ (i := 0) (N := some 132) (v := ?_) (a' := ?_) #[true, false, false, false, false, false, false, false, false] rfl rfl (by kernel_rfl) (fun _ _ _ h => h) (Or.inl ⟨by rfl, ?_⟩) ?_ ?_
                      rotate_left
                      · intro w'
                        go_simp
                        with_reducible rfl
                      rotate_left
                      · simp only [Act.put, List.setIfInBounds_toArray, List.set_cons_zero, List.set_cons_succ, i64_w, i32_w]
                        rfl
                      refine pure_ (i := 1) (N := some 133) (v := ?_) (a' := ?_) #[true, true, false, false, false, false, false, false, false] rfl rfl (by kernel_rfl) (fun _ _ _ h => h) (Or.inl ⟨by rfl, ?_⟩) ?_ ?_
                      rotate_left
                      · intro w'
                        go_simp
                        with_reducible rfl
                      rotate_left
                      · simp only [Act.put, List.setIfInBounds_toArray, List.set_cons_zero, List.set_cons_succ, i64_w, i32_w]
                        rfl
                      refine pure_ (i := 2) (N := some 134) (v := ?_) (a' := ?_) #[true, true, true, false, false, false, false, false, false] rfl rfl (by kernel_rfl) (fun _ _ _ h => h) (Or.inl ⟨by rfl, ?_⟩) ?_ ?_
                      rotate_left
                      · intro w'
                        go_simp
                        with_reducible rfl
                      rotate_left
                      · simp only [Act.put, List.setIfInBounds_toArray, List.set_cons_zero, List.set_cons_succ, i64_w, i32_w]
                        rfl
                      refine pure_ (i := 3) (N := some 135) (v := ?_) (a' := ?_) #[true, true, true, true, false, false, false, false, false] rfl rfl (by kernel_rfl) (fun _ _ _ h => h) (Or.inl ⟨by rfl, ?_⟩) ?_ ?_
                      rotate_left
                      · intro w'
                        go_simp
                        with_reducible rfl
                      rotate_left
                      · simp only [Act.put, List.setIfInBounds_toArray, List.set_cons_zero, List.set_cons_succ, i64_w, i32_w]
                        rfl
                      refine pure_ (i := 5) (N := some 137) (v := ?_) (a' := ?_) #[true, true, true, true, false, true, false, false, false] rfl rfl (by kernel_rfl) (fun _ _ _ h => h) (Or.inl ⟨by rfl, ?_⟩) ?_ ?_
                      rotate_left
                      · intro w'
                        go_simp
                        with_reducible rfl
                      rotate_left
                      · simp only [Act.put, List.setIfInBounds_toArray, List.set_cons_zero, List.set_cons_succ, i64_w, i32_w]
                        rfl
                      refine pure_ (i := 6) (N := some 138) (v := ?_) (a' := ?_) #[true, true, true, true, false, true, true, false, false] rfl rfl (by kernel_rfl) (fun _ _ _ h => h) (Or.inl ⟨by rfl, ?_⟩) ?_ ?_
                      rotate_left
                      · intro w'
                        go_simp
                        with_reducible rfl
                      rotate_left
                      · simp only [Act.put, List.setIfInBounds_toArray, List.set_cons_zero, List.set_cons_succ, i64_w, i32_w]
                        rfl
                      refine take_ (i := 4) (N := some 136) (v := ?_) (a' := ?_) #[true, true, true, true, true, true, true, false, false] rfl rfl (by kernel_rfl) (fun _ _ _ h => h) (Or.inl ⟨by rfl, ?_⟩) hHeld ?_ ?_
                      rotate_left
                      · intro w' s0
                        go_simp
                        with_reducible rfl
                      rotate_left
                      · simp only [Act.put, List.setIfInBounds_toArray, List.set_cons_zero, List.set_cons_succ, i64_w, i32_w]
                        rfl
                      refine pure_ (i := 7) (N := some 139) (v := ?_) (a' := ?_) #[true, true, true, true, true, true, true, true, false] rfl rfl (by kernel_rfl) (fun _ _ _ h => h) (Or.inl ⟨by rfl, ?_⟩) ?_ ?_
                      rotate_left
                      · intro w'
                        go_simp
                        with_reducible rfl
                      rotate_left
                      · simp only [Act.put, List.setIfInBounds_toArray, List.set_cons_zero, List.set_cons_succ, i64_w, i32_w]
                        rfl
                      refine last_ (i := 8) (N := none) #[true, true, true, true, true, true, true, true, true] rfl rfl (by kernel_rfl) (by decide) (fun K hK => ?_)
                      refine skip_ (w1 := ?_) (by rfl) rfl ?_ ?_
                      rotate_left
                      · go_simp
                        rfl
                      refine hK.out _ _ ?_
                      clear hK K
                      refine done_ (by kernel_rfl) ?_
                      have hput := as_tail (W := wr.drew.drew) (HS.out.step (Below.refl _ _).drew.drew) (HW.out.below (Below.refl _ _).drew.drew) HP16.out HQT.out HAT.out
                      have HZ : Aside0 (K6 w (wr.drew.drew.setCell ⟨h, p, none⟩ (.slice A2 m6 (c6 - 1))) B g h S' (some a) L (i + 1)) := by
                          have h1 := hput.2
                          rw [left_up HXI.out] at h1
                          exact ⟨⟨_, hput.1, h1, (StepsA.set (W := wr.drew.drew) HST.out (.inl rfl) p _).less (fun k hk => own_tail HAT.out hk)⟩⟩
                      clear x1 x2 x3 x4 x5 hcut hput hm61 hpi
                      go_wp2
                      go_roundg jq
                      case measure => omega
                      case rel => exact ⟨i + 1, next_n (by have := HIL.out; have := HLL.out; omega), ⟨by have := HII.out; omega⟩, HZ⟩
    | succ kq =>
      have hk : k ≤ 15 := by have := HK.out; omega
      have ck : decide ((k : Int) ≤ 15) = true := decide_eq_true (by omega)
      have ckn : decide (k ≤ 15) = true := decide_eq_true hk
      obtain ⟨m, hm⟩ : ∃ m, k % 3 = m := ⟨_, rfl⟩
      have hm3 : m ≤ 2 := by omega
      have ek : Int.tmod (k : Int) 3 = (m : Int) := by rw [Int.tmod_eq_emod_of_nonneg (by omega)]; omega
      have em : ((k : Int) % 3) = (m : Int) := by omega
      clear hm
      have HKB : Aside0 (k ≤ 15) := ⟨hk⟩
      clear hk
      go_wp2_with fail
      obtain ⟨x, hx⟩ : ∃ x, 1 + (m : Int) = x := ⟨_, rfl⟩
      have hxb : 1 ≤ x ∧ x ≤ 3 := by omega
      rw [hx]
      have HXB := Aside0.mk hxb
      have hx16 : Aside0 (1 ≤ x ∧ x ≤ 16) := ⟨by omega⟩
      have hkn : Aside0 (1 ≤ (k : Int) ∧ (k : Int) ≤ 15) := ⟨by have h1 := HK.out; have h2 := HKB.out; omega⟩
      clear hx hxb ek em hm3
      (with_reducible refine (weigh_as HS.out hkn.out hx16.out).mono ?_)
      rintro e W4 ⟨rfl, h4⟩
      have HZ : Aside0 (K1 w W4 B g h (k + 1)) := ⟨⟨_, h4, HF.out.weigh (by simp) HXB.out⟩⟩
      clear h4 HS HF
      go_wp2
      go_roundg kq
      case measure => omega
      case rel => exact ⟨k + 1, next_n (by have := HKB.out; omega), ⟨by have := HK.out; omega⟩, HZ⟩
end Go.Proofs.Ytigcgdamipeidaa.Shr
