/- The average behind any rates lies between the least and the greatest of all: plain numbers. -/
import Derived.Test.YtigcgdamipeidaaQx22
import Derived.Test.YtigcgdamipeidaaShA
namespace Go.Proofs.Ytigcgdamipeidaa.Pure
open Go.RowKit Go.Proofs.Ytigcgdamipeidaa.Q Go.Proofs.YtigcgdamipeidaaW.PrintWords Go.Proofs.YtigcgdamipeidaaW.PrintLast

def fit (a : Int) : Prop := 0 ≤ a ∧ a ≤ 1099511627776
instance (a : Int) : Decidable (fit a) := by unfold fit; infer_instance
def step (x r : Int) : Int := Int.tdiv (7 * x + r) 8
def iter (l : List Int) : Nat → Int → Int → Int
  | 0, x, _ => x
  | d + 1, x, i => iter l d (step x (rd l i)) (i + 1)
def chk (l : List Int) : Nat → Int → Bool
  | 0, _ => true
  | d + 1, i => decide (fit (rd l i)) && chk l d (i + 1)
def loF (l : List Int) : Nat → Int → Int → Int
  | 0, x, _ => x
  | d + 1, x, i => loF l d (mn x (rd l i)) (i + 1)
def hiF (l : List Int) : Nat → Int → Int → Int
  | 0, x, _ => x
  | d + 1, x, i => hiF l d (mx x (rd l i)) (i + 1)

theorem step_fit {x r : Int} (hx : fit x) (hr : fit r) : fit (step x r) := by
  unfold fit step at *
  rw [Int.tdiv_eq_ediv_of_nonneg (by omega)]
  omega
theorem step_wrap {x r : Int} (hx : fit x) (hr : fit r) : wrap64 (Int.tdiv (wrap64 ((wrap64 (7 * x)) + r)) 8) = step x r := by
  have h := step_fit hx hr
  unfold fit at hx hr
  have e1 : wrap64 (7 * x) = 7 * x := by unfold wrap64; omega
  have e2 : wrap64 (7 * x + r) = 7 * x + r := by unfold wrap64; omega
  rw [e1, e2]
  unfold fit at h
  show wrap64 (step x r) = _
  unfold wrap64
  omega
theorem in_fit (a : Int) : meter_in_int.f a 0 1099511627776 = some (decide (fit a)) := Shr.in_spec a 0 1099511627776

section
variable {l : List Int} (hn : l.length ≤ 100)
include hn
theorem next {i : Int} (hi : 0 ≤ i) (h : i < (l.length : Int)) : wrap64 (i + 1) = i + 1 := by unfold wrap64; omega
theorem avg_l0 : ∀ (d k : Nat) (x i : Int), d < k → 0 ≤ i → i + d = (l.length : Int) → fit x →
    meter_Average.l0 k x l (l.length : Int) i = some (if chk l d i = true then (iter l d x i, 0) else (0, 1)) := by
  intro d
  induction d with
  | zero =>
    intro k x i hk hi he hx
    obtain ⟨k, rfl⟩ : ∃ m, k = m + 1 := ⟨k - 1, by omega⟩
    rw [meter_Average.l0, if_neg (by omega)]
    simp [chk, iter]
  | succ d ih =>
    intro k x i hk hi he hx
    obtain ⟨k, rfl⟩ : ∃ m, k = m + 1 := ⟨k - 1, by omega⟩
    rw [meter_Average.l0, if_pos (by omega), if_pos hi, if_pos (by omega), in_fit, Option.bind_some]
    by_cases hr : fit (rd l i)
    · rw [if_pos (decide_eq_true hr), step_wrap hx hr, next hn hi (by omega), ih k _ _ (by omega) (by omega) (by omega) (step_fit hx hr)]
      simp only [chk, iter, decide_eq_true hr, Bool.true_and]
    · rw [if_neg (by rw [decide_eq_false hr]; decide)]
      simp [chk, hr]
theorem ref_l1 : ∀ (d k : Nat) (x i : Int), d < k → 0 ≤ i → i + d = (l.length : Int) → fit x → chk l d i = true →
    mosaicref30_Average.l1 k x l i = some (iter l d x i, 0) := by
  intro d
  induction d with
  | zero =>
    intro k x i hk hi he hx _
    obtain ⟨k, rfl⟩ : ∃ m, k = m + 1 := ⟨k - 1, by omega⟩
    rw [mosaicref30_Average.l1, if_neg (by omega)]
    rfl
  | succ d ih =>
    intro k x i hk hi he hx hc
    obtain ⟨k, rfl⟩ : ∃ m, k = m + 1 := ⟨k - 1, by omega⟩
    simp only [chk, Bool.and_eq_true, decide_eq_true_eq] at hc
    rw [mosaicref30_Average.l1, if_pos (by omega), if_pos hi, step_wrap hx hc.1, next hn hi (by omega), ih k _ _ (by omega) (by omega) (by omega) (step_fit hx hc.1) hc.2]
    rfl
theorem ref_l0 : ∀ (d k : Nat) (x i : Int), d + l.length + 1 < k → 0 ≤ i → i + d = (l.length : Int) → fit x → (chk l d i = true → chk l l.length 0 = true) →
    mosaicref30_Average.l0 k x l i = some (if chk l d i = true then (iter l l.length x 0, 0) else (0, 1)) := by
  intro d
  induction d with
  | zero =>
    intro k x i hk hi he hx hc
    obtain ⟨k, rfl⟩ : ∃ m, k = m + 1 := ⟨k - 1, by omega⟩
    rw [mosaicref30_Average.l0, if_neg (by omega), ref_l1 hn l.length k x 0 (by omega) (by omega) (by omega) hx (hc rfl)]
    simp [chk]
  | succ d ih =>
    intro k x i hk hi he hx hc
    obtain ⟨k, rfl⟩ : ∃ m, k = m + 1 := ⟨k - 1, by omega⟩
    rw [mosaicref30_Average.l0, if_pos (by omega), if_pos hi]
    by_cases hr : fit (rd l i)
    · have hr2 := hr
      unfold fit at hr2
      rw [if_neg (by omega), if_neg (by omega), next hn hi (by omega), ih k _ _ (by omega) (by omega) (by omega) hx (fun h => hc (by simp only [chk, decide_eq_true hr, h, Bool.and_self]))]
      simp only [chk, decide_eq_true hr, Bool.true_and]
    · have hf : chk l (d + 1) i = false := by simp [chk, hr]
      rw [hf]
      unfold fit at hr
      by_cases h0 : rd l i < 0
      · rw [if_pos h0]
        rfl
      · rw [if_neg h0, if_pos (by omega)]
        rfl
omit hn in
theorem between : ∀ (d : Nat) (x lo hi i : Int), lo ≤ x → x ≤ hi → fit x → chk l d i = true → loF l d lo i ≤ iter l d x i ∧ iter l d x i ≤ hiF l d hi i := by
  intro d
  induction d with
  | zero => intro x lo hi i h1 h2 _ _; exact ⟨h1, h2⟩
  | succ d ih =>
    intro x lo hi i h1 h2 hx hc
    simp only [chk, Bool.and_eq_true, decide_eq_true_eq] at hc
    have hs : mn lo (rd l i) ≤ step x (rd l i) ∧ step x (rd l i) ≤ mx hi (rd l i) := by
      have hr := hc.1
      unfold fit at hr hx
      unfold step mn mx
      rw [Int.tdiv_eq_ediv_of_nonneg (by omega)]
      constructor <;> split <;> omega
    exact ih _ _ _ _ hs.1 hs.2 (step_fit hx hc.1) hc.2
theorem law_l0 : ∀ (d k : Nat) (x lo hi i : Int), d < k → 0 ≤ i → i + d = (l.length : Int) → loF l d lo i ≤ x → x ≤ hiF l d hi i → mosaiclaw30_MeterMeans.l0 k l x lo hi i = some true := by
  intro d
  induction d with
  | zero =>
    intro k x lo hi i hk h0 he h1 h2
    obtain ⟨k, rfl⟩ : ∃ m, k = m + 1 := ⟨k - 1, by omega⟩
    rw [mosaiclaw30_MeterMeans.l0, if_neg (by omega)]
    simp only [loF, hiF] at h1 h2
    simp [mosaiclaw30_awake.f, h1, h2]
  | succ d ih =>
    intro k x lo hi i hk h0 he h1 h2
    obtain ⟨k, rfl⟩ : ∃ m, k = m + 1 := ⟨k - 1, by omega⟩
    rw [mosaiclaw30_MeterMeans.l0, if_pos (by omega), if_pos h0, next hn h0 (by omega)]
    exact ih k _ _ _ _ (by omega) (by omega) (by omega) h1 h2
end

theorem MeterMeans : mosaiclaw30_MeterMeans.Pure := by
  intro a l _ _ _ _
  refine ⟨300, ?_⟩
  unfold mosaiclaw30_MeterMeans.f
  by_cases hlen : (l.length : Int) > 100
  · rw [if_pos hlen]
    rfl
  · rw [if_neg hlen]
    have hn : l.length ≤ 100 := by omega
    by_cases ha : fit a
    · have e1 : meter_Average.f 300 a l = some (if chk l l.length 0 = true then (iter l l.length a 0, 0) else (0, 1)) := by
        unfold meter_Average.f
        rw [in_fit, Option.bind_some, if_pos (decide_eq_true ha)]
        exact avg_l0 hn l.length 300 a 0 (by omega) (by omega) (by omega) ha
      have e2 : mosaicref30_Average.f 300 a l = some (if chk l l.length 0 = true then (iter l l.length a 0, 0) else (0, 1)) := by
        have ha2 := ha
        unfold fit at ha2
        unfold mosaicref30_Average.f
        rw [if_neg (by omega), mosaicref30_Average.j0, if_neg (by simp; omega)]
        exact ref_l0 hn l.length 299 a 0 (by omega) (by omega) (by omega) ha (fun h => h)
      rw [e1, e2]
      by_cases hc : chk l l.length 0 = true
      · rw [if_pos hc]
        simp only [Option.bind_some, if_true]
        rw [mosaiclaw30_MeterMeans.j0, if_neg (by decide)]
        obtain ⟨h1, h2⟩ := between l.length a a a 0 (by omega) (by omega) ha hc
        exact law_l0 hn l.length 299 _ _ _ _ (by omega) (by omega) (by omega) h1 h2
      · rw [if_neg hc]
        simp only [Option.bind_some, if_true]
        rw [mosaiclaw30_MeterMeans.j0, if_pos (by decide)]
        rfl
    · have e1 : meter_Average.f 300 a l = some (0, 1) := by
        unfold meter_Average.f
        rw [in_fit, Option.bind_some, if_neg (by rw [decide_eq_false ha]; decide)]
      have e2 : mosaicref30_Average.f 300 a l = some (0, 1) := by
        unfold fit at ha
        unfold mosaicref30_Average.f
        by_cases h0 : a < 0
        · rw [if_pos h0, mosaicref30_Average.j0, if_pos rfl]
        · rw [if_neg h0, mosaicref30_Average.j0, if_pos (by simp; omega)]
      rw [e1, e2]
      simp only [Option.bind_some, if_true]
      rw [mosaiclaw30_MeterMeans.j0, if_pos (by decide)]
      rfl
end Go.Proofs.Ytigcgdamipeidaa.Pure
