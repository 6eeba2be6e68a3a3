-- Written by a program of this seat (a changed copy of a printer), not by hand.
import Derived.Test.YtajkonnamldjaaaQx0
namespace Go.Proofs.Ytajkonnamldjaaa.Q
open Go.RowKit Go.Proofs.YtajkonnamldjaaaW.PrintWords Go.Proofs.YtajkonnamldjaaaW.PrintLast Go.Proofs.YtajkonnamldjaaaW.PrintMore
open Go.Proofs.Ytajkonnamldjaaa
attribute [local go_sem] max2_int min2_int max_two min_two max_three min_three max_four min_four   -- for this text's walks alone
set_option linter.unusedVariables false
set_option linter.unusedSimpArgs false

/-! ### ratio_Gcd: function 28 -/
def ratio_Gcd.f (a0 : Int) (a1 : Int) : Option Int := some (Plain.gcdI a0 a1)

set_option maxHeartbeats 8000000 in
set_option maxRecDepth 100000 in
theorem ratio_Gcd.calls (a0 : Int) (a1 : Int) (r : Int) (w : World) (h : ratio_Gcd.f a0 a1 = some r) :
    Calls Try.prog 28 #[.int .i64 a0, .int .i64 a1] w fun e w' => e = .returned (.int .i64 r) ∧ Drawn0 w w' := by
  obtain rfl := Option.some.inj h
  clear h
  by_cases c0 : a0 < 0
  · have H : Plain.gcdI a0 a1 = 0 := by unfold Plain.gcdI; rw [if_pos c0]
    rw [H]
    clear H
    have c0b : decide (a0 < 0) = true := decide_eq_true c0
    go_enter Try.func28, Try.ntmps28
    go_wp2
    go_step3
    go_wp2
    rw [Exit.noGoto_ret]
    go_ret
    exact ⟨rfl, Drawn0.refl _⟩
  · by_cases c1 : a1 < 0
    · have H : Plain.gcdI a0 a1 = 0 := by unfold Plain.gcdI; rw [if_neg c0, if_pos c1]
      rw [H]
      clear H
      have c0b : decide (a0 < 0) = false := decide_eq_false c0
      have c1b : decide (a1 < 0) = true := decide_eq_true c1
      go_enter Try.func28, Try.ntmps28
      go_wp2
      go_step3
      go_wp2
      rw [Exit.noGoto_ret]
      go_ret
      exact ⟨rfl, Drawn0.refl _⟩
    · have c0b : decide (a0 < 0) = false := decide_eq_false c0
      have c1b : decide (a1 < 0) = false := decide_eq_false c1
      go_enter Try.func28, Try.ntmps28
      go_wp2
      refine Goto.wp_scope_lazy 0 rfl ?_
      intro K hK
      go_wp2
      refine Goto.label_ghost hK (by assumption) (fun n a' w' => ∃ (x y : Int) (u11 u12 u13 u14 u15 u16 u17 : Value), Aside0 (0 ≤ x ∧ 0 ≤ y ∧ y.toNat ≤ n ∧ Nat.gcd x.toNat y.toNat = Nat.gcd a0.toNat a1.toNat ∧ Drawn0 w w') ∧
        a' = { tmps := #[.int .i64 x, .int .i64 y, undef, undef, .int .i64 0, .int .i64 a0, .bool false, .bool false, .int .i64 a1, .bool false, .bool false, u11, u12, u13, u14, u15, u16, u17], defers := [] }) a1.toNat
        ⟨a0, a1, undef, undef, undef, undef, undef, undef, undef, ⟨by omega, by omega, Nat.le_refl _, rfl, Drawn0.refl _⟩, rfl⟩ ?_
      clear hK
      rintro n _ wr ⟨x, y, u11, u12, u13, u14, u15, u16, u17, HA, rfl⟩ J K' hJ hK'
      obtain ⟨x0, y0, hn, hg, ⟨m, rfl⟩⟩ := HA.out
      clear HA
      by_cases hy : y = 0
      · have hg' : Plain.gcdI a0 a1 = x := by
          unfold Plain.gcdI
          rw [if_neg (by omega), if_neg (by omega), ← hg, hy]
          simp
          omega
        have hyb : (y == 0) = true := by simpa using hy
        have HG := Aside0.mk hg'
        have HG2 := Aside0.mk hg
        clear hg hg' hn hy
        go_wp2
        rw [Goto.jump_ret]
        go_ret
        exact ⟨by rw [HG.out]; rfl, Drawn0.step (Drawn0.refl _) _⟩
      · have hyb : (y == 0) = false := by simpa using hy
        have y1 : 0 < y := by omega
        have HG := Aside0.mk (show Nat.gcd y.toNat (x % y).toNat = Nat.gcd a0.toNat a1.toNat from by
          rw [← hg, Nat.gcd_comm x.toNat y.toNat, Nat.gcd_rec y.toNat x.toNat]
          rw [Nat.gcd_comm]
          congr 1
          rw [Int.toNat_emod x0 y0])
        have hm : 0 ≤ x % y := Int.emod_nonneg _ hy
        have hm2 : x % y < y := Int.emod_lt_of_pos _ y1
        clear hg
        go_wp2
        go_quiet (fail)
        go_wp2
        apply wp_goto
        refine Goto.jump_goto (Goto.handed_step hK' (x % y).toNat (by omega) (hJ _ _ _ ?_))
        exact ⟨y, x % y, _, _, _, _, _, _, _, ⟨y0, hm, Nat.le_refl _, HG.out, by repeat (first | exact Drawn0.refl _ | apply Drawn0.step)⟩, rfl⟩

end Go.Proofs.Ytajkonnamldjaaa.Q
