/- The page's example, walked: it is true. -/
import Derived.Test.YtigcgdamipeidaaShW
import Derived.Test.YtigcgdamipeidaaShN
import Derived.Test.YtigcgdamipeidaaShB
namespace Go.Proofs.Ytigcgdamipeidaa.Shr
open Go.RowKit Go.Proofs.YtigcgdamipeidaaW.PrintWords Go.Proofs.YtigcgdamipeidaaW.PrintLast Go.Proofs.YtigcgdamipeidaaW.PrintMore Go.Proofs.Ytigcgdamipeidaa Go.Proofs.Ytigcgdamipeidaa.Q

theorem after_size {w w' : World} {B g : Nat} {vs vs' : Nat → Value} (h : After w w' B g vs vs') : w.heap.size ≤ w'.heap.size := h.1.size
def weighS (S : Sh) (n x : Int) : Sh := { S with wt := up S.wt n.toNat x }
def addS (S : Sh) (n x : Int) : Sh := { S with l := up S.l n.toNat (S.l n.toNat ++ [x]) }
def sW1 : Sh := weighS (S0 10) 3 1
def sW : Sh := weighS sW1 4 2
def s1 : Sh := addS sW 3 8
def s2 : Sh := addS s1 3 8
def s3 : Sh := addS s2 4 8
def sA : Sh := addS s3 4 8
theorem sW_a : sW.wt (3 : Int).toNat ≠ 0 := by decide
theorem sW_b : (sW.l (3 : Int).toNat).length < 100 := by decide
theorem s1_a : s1.wt (3 : Int).toNat ≠ 0 := by decide
theorem s1_b : (s1.l (3 : Int).toNat).length < 100 := by decide
theorem s2_a : s2.wt (4 : Int).toNat ≠ 0 := by decide
theorem s2_b : (s2.l (4 : Int).toNat).length < 100 := by decide
theorem s3_a : s3.wt (4 : Int).toNat ≠ 0 := by decide
theorem s3_b : (s3.l (4 : Int).toNat).length < 100 := by decide
theorem sA_fit : Fit sA := ⟨by decide, by decide, by decide, by decide, by decide⟩
theorem sA_sent : (turnTo sA 16).2.1 = [(3, 8), (4, 8), (4, 8)] := by decide +kernel
theorem sA_err : (turnTo sA 16).2.2 = true := by decide +kernel
theorem sA_cr3 : (turnTo sA 16).1.cr 3 = 2 := by decide +kernel
theorem sA_cr4 : (turnTo sA 16).1.cr 4 = 0 := by decide +kernel

theorem qst_at {w : World} {B : Nat} {ad : Option Addr} {n c : Nat} {l : List (Int × Int)} (h : Qst w B (.slice ad n c) l) (hl : 0 < l.length) :
    n = l.length ∧ ∃ b o, ad = some ⟨b, o, none⟩ ∧ ∀ j u, (stCells l)[j]? = some u → w.cell? ⟨b, o + j, none⟩ = some u := by
  obtain ⟨hn, a, rfl, hc⟩ := qst_cells h hl
  obtain ⟨_, h2⟩ := h
  rcases h2 with ⟨h0, _⟩ | ⟨b, off, cap, cur, he, _⟩
  · omega
  · injection he with ha _ _
    injection ha with ha
    subst ha
    exact ⟨hn, b, off * 2, rfl, fun j u hj => (by rw [show (⟨b, off * 2 + j, none⟩ : Addr) = (⟨b, off * 2, none⟩ : Addr).add j by simp [Addr.add]]; exact hc j u hj)⟩
set_option linter.unusedVariables false
set_option linter.unusedSimpArgs false
set_option maxHeartbeats 4000000 in
set_option maxRecDepth 100000 in
theorem awake_ (w : World) :
    Calls Try.prog 11 #[] w fun e w' => e = .returned (.bool true) ∧ Below w.heap.size w w' := by
  go_enter Try.func11, Try.ntmps11
  go_wp2_with (first
    | (go_at_call 10; (with_reducible refine (new_yes (q := 10) (by decide) _).mono ?_); rintro e w1 ⟨g, rfl, hh, hb⟩; have HN := Aside0.mk hb; have HH := Aside0.mk hh; have HA := Aside0.mk (After.refl w1 w.heap.size g vs0); clear hh hb)
    | (go_at_call 13; (with_reducible refine (weigh_yes (S := S0 10) (x := 1) (n := 3) (by decide) (by decide) HH.out).mono ?_); rintro e w2 ⟨rfl, hh, ha⟩; replace HH : Aside0 (Has w2 w.heap.size g sW1 vs0) := ⟨hh⟩; replace HA := Aside0.mk (HA.out.trans ha); clear hh ha)
    | (go_at_call 13; (with_reducible refine (weigh_yes (S := sW1) (x := 2) (n := 4) (by decide) (by decide) HH.out).mono ?_); rintro e w2 ⟨rfl, hh, ha⟩; replace HH : Aside0 (Has w2 w.heap.size g sW vs0) := ⟨hh⟩; replace HA := Aside0.mk (HA.out.trans ha); clear hh ha)
    | (go_at_call 15; (with_reducible refine (add_yes (S := sW) (x := 8) (n := 3) (by decide) (by decide) HH.out sW_a sW_b (Nat.le_trans HN.out.size (after_size HA.out))).mono ?_); rintro e w4 ⟨rfl, vs4, hh, ha⟩; replace HH : Aside0 (Has w4 w.heap.size g s1 vs4) := ⟨hh⟩; replace HA := Aside0.mk (HA.out.trans ha); clear hh ha)
    | (go_at_call 15; (with_reducible refine (add_yes (S := s1) (x := 8) (n := 3) (by decide) (by decide) HH.out s1_a s1_b (Nat.le_trans HN.out.size (after_size HA.out))).mono ?_); rintro e w4 ⟨rfl, vs4, hh, ha⟩; replace HH : Aside0 (Has w4 w.heap.size g s2 vs4) := ⟨hh⟩; replace HA := Aside0.mk (HA.out.trans ha); clear hh ha)
    | (go_at_call 15; (with_reducible refine (add_yes (S := s2) (x := 8) (n := 4) (by decide) (by decide) HH.out s2_a s2_b (Nat.le_trans HN.out.size (after_size HA.out))).mono ?_); rintro e w4 ⟨rfl, vs4, hh, ha⟩; replace HH : Aside0 (Has w4 w.heap.size g s3 vs4) := ⟨hh⟩; replace HA := Aside0.mk (HA.out.trans ha); clear hh ha)
    | (go_at_call 15; (with_reducible refine (add_yes (S := s3) (x := 8) (n := 4) (by decide) (by decide) HH.out s3_a s3_b (Nat.le_trans HN.out.size (after_size HA.out))).mono ?_); rintro e w4 ⟨rfl, vs4, hh, ha⟩; replace HH : Aside0 (Has w4 w.heap.size g sA vs4) := ⟨hh⟩; replace HA := Aside0.mk (HA.out.trans ha); clear hh ha)
    | (go_at_call 17; (with_reducible refine (share_turn (S := sA) sA_fit HH.out (Nat.le_trans HN.out.size (after_size HA.out))).mono ?_); rintro e w5 ⟨v5, rfl, vs5, hh, ha, hq, _⟩; obtain ⟨A5, c5, rfl⟩ := qst_slice hq; rw [sA_sent] at hq; obtain ⟨_, b5, o5, rfl, hc⟩ := qst_at hq (by decide); replace HH := Aside0.mk hh; replace HA := Aside0.mk (HA.out.trans ha); clear hh ha hq; have q0 := hc 0 _ rfl; have q1 := hc 1 _ rfl; have q4 := hc 4 _ rfl; have q5 := hc 5 _ rfl; simp only [Nat.add_zero] at q0; clear hc)
    | (go_at_call 21; (with_reducible refine (credit_yes (n := 3) (S := (turnTo sA 16).1) (by decide) HH.out).mono ?_); rintro e w6 ⟨rfl, ⟨k6, rfl⟩⟩; rw [show (turnTo sA 16).1.cr (3 : Int).toNat = 2 from sA_cr3])
    | (go_at_call 21; (with_reducible refine (credit_yes (n := 4) (S := (turnTo sA 16).1) (by decide) (HH.out.drewN k6)).mono ?_); rintro e w7 ⟨rfl, ⟨k7, rfl⟩⟩; rw [show (turnTo sA 16).1.cr (4 : Int).toNat = 0 from sA_cr4]))
  go_ret
  exact ⟨rfl, HN.out.trans (HA.out.drewN (k6 + k7)).1⟩
end Go.Proofs.Ytigcgdamipeidaa.Shr
