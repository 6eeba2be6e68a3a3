/- The reference bucket in plain numbers. -/
import Derived.Test.YtigcgdamipeidaaBkA
import Derived.Test.YtigcgdamipeidaaQx25
import Derived.Test.YtigcgdamipeidaaQx26
import Derived.Test.YtigcgdamipeidaaQx29
namespace Go.Proofs.Ytigcgdamipeidaa.Bkt
open Go.RowKit Go.Proofs.YtigcgdamipeidaaW.PrintWords Go.Proofs.YtigcgdamipeidaaW.PrintLast Go.Proofs.YtigcgdamipeidaaW.PrintMore Go.Proofs.Ytigcgdamipeidaa Go.Proofs.Ytigcgdamipeidaa.Q Go.Proofs.Ytigcgdamipeidaa.Shr
set_option linter.unusedSimpArgs false
variable {r s l : Int}
theorem tick_fit (h : BFit r s l) : BFit r s (mn (l + r) s) := by
  obtain ⟨h1, h2, h3⟩ := h
  refine ⟨h1, h2, ?_⟩
  unfold mn
  split <;> omega
theorem take_fit (h : BFit r s l) {n : Int} (hn : ¬ n < 0) (h2 : ¬ l < n) : BFit r s (l - n) := by
  obtain ⟨h1, h3, h4⟩ := h
  exact ⟨h1, h3, by omega⟩
theorem rtick (h : BFit r s l) : mosaicref30_Bucket_Tick.f r s l = some (r, s, mn (l + r) s) := by
  obtain ⟨h1, h2, h3⟩ := h
  have e : wrap64 (l + r) = l + r := by unfold wrap64; omega
  unfold mosaicref30_Bucket_Tick.f
  rw [e]
  unfold mn
  by_cases hc : l + r > s
  · rw [if_pos hc, if_pos (by omega)]
  · rw [if_neg hc, if_neg (by omega)]
/-- What Take answers. -/
def takeE (s l n : Int) : Int := if n < 0 then 1 else if s < n then 8 else if l < n then 6 else 0
/-- The level behind it. -/
def takeL (s l n : Int) : Int := if n < 0 then l else if s < n then l else if l < n then l else l - n
theorem rtake (h : BFit r s l) (n : Int) : mosaicref30_Bucket_Take.f r s l n = some (r, s, takeL s l n, takeE s l n) := by
  obtain ⟨h1, h2, h3⟩ := h
  unfold mosaicref30_Bucket_Take.f takeE takeL
  by_cases c1 : n < 0
  · simp only [if_pos c1]
  · simp only [if_neg c1]
    by_cases c2 : s < n
    · simp only [if_pos c2, if_pos (show n > s from c2)]
    · simp only [if_neg c2, if_neg (show ¬ n > s from c2)]
      by_cases c3 : l < n
      · simp only [if_pos c3, if_pos (show n > l from c3)]
      · simp only [if_neg c3, if_neg (show ¬ n > l from c3)]
        rw [show wrap64 (l - n) = l - n by unfold wrap64; omega]
/-- What Wait answers. -/
def waitN (r s l n : Int) : Int := if s < n then -1 else if n ≤ l then 0 else Int.tdiv (n - l + r - 1) r
theorem wait_step {r s l n : Int} (h : BFit r s l) (hn : n ≤ s) (hl : l < n) : Int.tdiv (n - l + r - 1) r = 1 + (if n ≤ mn (l + r) s then 0 else Int.tdiv (n - mn (l + r) s + r - 1) r) := by
  obtain ⟨h1, h2, h3⟩ := h
  rw [Int.tdiv_eq_ediv_of_nonneg (by omega), show n - l + r - 1 = (n - l - 1) + r by omega, Int.add_ediv_of_dvd_right (Int.dvd_refl r), Int.ediv_self (by omega)]
  unfold mn
  split
  · first | rw [if_pos hn] | skip
    rw [Int.ediv_eq_zero_of_lt (by omega) (by omega)]
    rfl
  · split
    · rw [Int.ediv_eq_zero_of_lt (by omega) (by omega)]
      rfl
    · rw [Int.tdiv_eq_ediv_of_nonneg (by omega), show n - (l + r) + r - 1 = n - l - 1 by omega]
      omega
theorem rwait_l0 {r s n : Int} (hn : n ≤ s) : ∀ (m k : Nat) (l c : Int), BFit r s l → (n - l).toNat < m → m < k → 0 ≤ c → c + m ≤ 200000 → mosaicref30_Bucket_Wait.l0 k n c r s l = some (c + (if n ≤ l then 0 else Int.tdiv (n - l + r - 1) r)) := by
  intro m
  induction m with
  | zero => intro k l c _ h; omega
  | succ m ih =>
    intro k l c h hm hk hc hb
    obtain ⟨k, rfl⟩ : ∃ j, k = j + 1 := ⟨k - 1, by omega⟩
    rw [mosaicref30_Bucket_Wait.l0]
    by_cases hl : l < n
    · rw [if_pos hl, rtick h, Option.bind_some, if_neg (by omega), show wrap64 (c + 1) = c + 1 by unfold wrap64; omega]
      have h1 := h.rb
      have h2 := h.sb
      have h3 := h.lb
      rw [ih k _ _ (tick_fit h) (by unfold mn; split <;> omega) (by omega) (by omega) (by omega), wait_step h hn hl]
      congr 1
      omega
    · rw [if_neg hl, if_pos (by omega)]
      congr 1
      omega
theorem rwait (h : BFit r s l) (n : Int) : mosaicref30_Bucket_Wait.f 100001 r s l n = some (waitN r s l n) := by
  unfold mosaicref30_Bucket_Wait.f waitN
  by_cases c1 : s < n
  · rw [if_pos (show n > s from c1), if_pos c1]
  · have h1 := h.rb
    have h2 := h.sb
    have h3 := h.lb
    rw [if_neg (show ¬ n > s from c1), if_neg c1, rwait_l0 (by omega) 100000 100001 l 0 h (by omega) (by omega) (by omega) (by omega)]
    congr 1
    omega
end Go.Proofs.Ytigcgdamipeidaa.Bkt
