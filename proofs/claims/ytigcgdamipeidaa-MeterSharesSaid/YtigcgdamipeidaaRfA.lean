/- The reference share in plain lists: what Find, with, Weigh and Add make of a list of queues. -/
import Derived.Test.YtigcgdamipeidaaQx10
import Derived.Test.YtigcgdamipeidaaQx11
import Derived.Test.YtigcgdamipeidaaQx13
import Derived.Test.YtigcgdamipeidaaShY
namespace Go.Proofs.Ytigcgdamipeidaa.Rf
open Go.RowKit Go.Proofs.YtigcgdamipeidaaW.PrintWords Go.Proofs.YtigcgdamipeidaaW.PrintLast Go.Proofs.YtigcgdamipeidaaW.PrintMore Go.Proofs.Ytigcgdamipeidaa Go.Proofs.Ytigcgdamipeidaa.Q Go.Proofs.Ytigcgdamipeidaa.Shr

/-- A peer's queue. -/
def getQ : List S45 → Int → S45
  | [], p => ⟨p, 0, 0, []⟩
  | x :: l, p => if x.f0 = p then x else getQ l p
theorem w_next {i : Nat} (h : i < 1000000) : wrap64 ((i : Int) + 1) = ((i + 1 : Nat) : Int) := by
  unfold wrap64
  omega
theorem rd_drop {l : List S45} {i : Nat} (h : i < l.length) : ∃ x, l[i]? = some x ∧ rd_T45 l (i : Int) = x ∧ l.drop i = x :: l.drop (i + 1) := by
  refine ⟨l[i], List.getElem?_eq_getElem h, ?_, List.drop_eq_getElem_cons h⟩
  unfold rd_T45
  rw [List.getD_eq_getElem?_getD, Int.toNat_natCast, List.getElem?_eq_getElem h]
  rfl
theorem find_l0 (q p : Int) (l : List S45) (hl : l.length < 1000000) : ∀ (m k i : Nat), i + m = l.length → m < k → mosaicref30_Share_Find.l0 k p (i : Int) q l = some ((getQ (l.drop i) p).f0, (getQ (l.drop i) p).f1, (getQ (l.drop i) p).f2, (getQ (l.drop i) p).f3) := by
  intro m
  induction m with
  | zero =>
    intro k i hi hk
    obtain ⟨k, rfl⟩ : ∃ j, k = j + 1 := ⟨k - 1, by omega⟩
    rw [mosaicref30_Share_Find.l0, if_neg (by omega), List.drop_of_length_le (by omega)]
    rfl
  | succ m ih =>
    intro k i hi hk
    obtain ⟨k, rfl⟩ : ∃ j, k = j + 1 := ⟨k - 1, by omega⟩
    obtain ⟨x, hx, hr, hd⟩ := rd_drop (l := l) (i := i) (by omega)
    rw [mosaicref30_Share_Find.l0, if_pos (by omega), if_pos (by omega), hr, hd]
    by_cases hp : x.f0 = p
    · rw [if_pos hp]
      simp only [getQ, if_pos hp]
    · rw [if_neg hp, w_next (by omega), ih k (i + 1) (by omega) (by omega)]
      simp only [getQ, if_neg hp]
theorem find_spec (q p : Int) {l : List S45} {k : Nat} (hl : l.length < 1000000) (hk : l.length < k) : mosaicref30_Share_Find.f k q l p = some ((getQ l p).f0, (getQ l p).f1, (getQ l p).f2, (getQ l p).f3) :=
  find_l0 q p l hl l.length k 0 (by omega) hk

/-- A list with another queue of a peer. -/
def withP (q : S45) : Bool → List S45 → List S45
  | put, [] => if put then [] else [q]
  | true, x :: l => if x.f0 = q.f0 then withP q true l else x :: withP q true l
  | false, x :: l => if q.f0 ≤ x.f0 then q :: (if x.f0 = q.f0 then withP q true l else x :: withP q true l) else x :: withP q false l
theorem with_l0 (a b0 b1 b2 : Int) (b3 : List Int) (l : List S45) (hl : l.length < 1000000) : ∀ (m k i : Nat) (acc : List S45) (put : Bool), i + m = l.length → 3 * m < k → acc.length ≤ 2 * i + 1 →
    mosaicref30_Share_with.l0 k acc put (i : Int) a l b0 b1 b2 b3 = some (a, acc ++ withP ⟨b0, b1, b2, b3⟩ put (l.drop i)) := by
  intro m
  induction m with
  | zero =>
    intro k i acc put hi hk ha
    obtain ⟨k, rfl⟩ : ∃ j, k = j + 1 := ⟨k - 1, by omega⟩
    rw [mosaicref30_Share_with.l0, if_neg (by omega), List.drop_of_length_le (by omega)]
    cases put with
    | true => rw [if_pos rfl]; simp [withP]
    | false => rw [if_neg (by simp), if_pos (by omega)]; simp [withP]
  | succ m ih =>
    intro k i acc put hi hk ha
    obtain ⟨k, rfl⟩ : ∃ j, k = j + 3 := ⟨k - 3, by omega⟩
    obtain ⟨x, hx, hr, hd⟩ := rd_drop (l := l) (i := i) (by omega)
    have J2 : ∀ (acc' : List S45) (put' : Bool), acc'.length ≤ 2 * i + 2 → mosaicref30_Share_with.j2 (k + 1) acc' put' (i : Int) a l b0 b1 b2 b3 =
        some (a, acc' ++ ((if x.f0 = b0 then [] else [x]) ++ withP ⟨b0, b1, b2, b3⟩ put' (l.drop (i + 1)))) := by
      intro acc' put' ha'
      rw [mosaicref30_Share_with.j2, if_pos (by omega), if_pos (by omega), hr]
      by_cases hx : x.f0 = b0
      · rw [if_pos hx, if_pos hx, w_next (by omega), ih k (i + 1) acc' put' (by omega) (by omega) (by omega)]
        rfl
      · rw [if_neg hx, if_neg hx, if_pos (by omega), w_next (by omega), ih k (i + 1) _ put' (by omega) (by omega) (by rw [List.length_append, List.length_singleton]; omega), List.append_assoc]
    rw [mosaicref30_Share_with.l0, if_pos (by omega), hd]
    cases put with
    | true =>
      rw [if_pos rfl, mosaicref30_Share_with.j1, if_neg (by simp), J2 acc true (by omega)]
      congr 2
      simp only [withP]
      split <;> rfl
    | false =>
      rw [if_neg (by simp), if_pos (by omega), hr, mosaicref30_Share_with.j1]
      by_cases hle : b0 ≤ x.f0
      · rw [if_pos (by simpa using hle), if_pos (by omega), J2 _ true (by rw [List.length_append, List.length_singleton]; omega)]
        congr 2
        simp only [withP, if_pos hle, List.append_assoc, List.singleton_append]
        split <;> rfl
      · rw [if_neg (by simpa using hle), J2 acc false (by omega)]
        congr 2
        simp only [withP, if_neg hle]
        rw [if_neg (by omega)]
        rfl
theorem with_spec (a b0 b1 b2 : Int) (b3 : List Int) {l : List S45} {k : Nat} (hl : l.length < 1000000) (hk : 3 * l.length < k) : mosaicref30_Share_with.f k a l b0 b1 b2 b3 = some (a, withP ⟨b0, b1, b2, b3⟩ false l) :=
  with_l0 a b0 b1 b2 b3 l hl l.length k 0 [] false (by omega) hk (by simp)
/-- What Weigh answers: the list, the error. -/
def weighR (l : List S45) (p x : Int) : List S45 × Int :=
  if 1 ≤ p ∧ p ≤ 15 ∧ 0 ≤ x ∧ x ≤ 16 then (withP (if x = 0 then ⟨p, 0, 0, []⟩ else ⟨(getQ l p).f0, x, (getQ l p).f2, (getQ l p).f3⟩) false l, 0) else (l, 1)
/-- What Add answers. -/
def addR (l : List S45) (p x : Int) : List S45 × Int :=
  if 1 ≤ p ∧ p ≤ 15 ∧ 1 ≤ x ∧ x ≤ 65536 then (if (getQ l p).f1 = 0 then (l, 4) else if 100 ≤ (getQ l p).f3.length then (l, 6) else (withP ⟨(getQ l p).f0, (getQ l p).f1, (getQ l p).f2, (getQ l p).f3 ++ [x]⟩ false l, 0)) else (l, 1)
theorem add_l0 (x a b0 b1 b2 : Int) (b3 : List Int) {l : List S45} (hl : l.length < 1000000) (hb : b3.length < 1000) : ∀ (m k i : Nat), i + m = b3.length → m + 3 * l.length + 2 < k →
    mosaicref30_Share_Add.l0 k x (b3.take i) (i : Int) a l b0 b1 b2 b3 = some (a, withP ⟨b0, b1, b2, b3 ++ [x]⟩ false l, 0) := by
  intro m
  induction m with
  | zero =>
    intro k i hi hk
    obtain ⟨k, rfl⟩ : ∃ j, k = j + 1 := ⟨k - 1, by omega⟩
    rw [mosaicref30_Share_Add.l0, if_neg (by omega), if_pos (by rw [List.length_take]; omega), List.take_of_length_le (by omega), with_spec _ _ _ _ _ hl (by omega)]
    rfl
  | succ m ih =>
    intro k i hi hk
    obtain ⟨k, rfl⟩ : ∃ j, k = j + 1 := ⟨k - 1, by omega⟩
    have e : b3.take i ++ [rd b3 (i : Int)] = b3.take (i + 1) := by
      rw [List.take_succ_eq_append_getElem (by omega)]
      congr 1
      unfold rd
      rw [List.getD_eq_getElem?_getD, Int.toNat_natCast, List.getElem?_eq_getElem (by omega)]
      rfl
    rw [mosaicref30_Share_Add.l0, if_pos (by omega), if_pos (by omega), if_pos (by rw [List.length_take]; omega), e, w_next (by omega), ih k (i + 1) (by omega) (by omega)]
theorem add_spec (a p x : Int) {l : List S45} {k : Nat} (hl : l.length < 1000000) (hk : 3 * l.length + 1100 < k) (hb : (getQ l p).f3.length ≤ 100) : mosaicref30_Share_Add.f k a l p x = some (a, (addR l p x).1, (addR l p x).2) := by
  obtain ⟨k, rfl⟩ : ∃ j, k = j + 2 := ⟨k - 2, by omega⟩
  have J : ∀ b : Bool, mosaicref30_Share_Add.j0 (k + 2) p x b a l = if b = true then some (a, l, 1) else
      some (a, if (getQ l p).f1 = 0 then (l, 4) else if 100 ≤ (getQ l p).f3.length then (l, 6) else (withP ⟨(getQ l p).f0, (getQ l p).f1, (getQ l p).f2, (getQ l p).f3 ++ [x]⟩ false l, 0)) := by
    intro b
    rw [mosaicref30_Share_Add.j0]
    by_cases hb' : b = true
    · rw [if_pos hb', if_pos hb']
    · rw [if_neg hb', if_neg hb', find_spec a p hl (by omega), Option.bind_some]
      by_cases hw : (getQ l p).f1 = 0
      · rw [if_pos hw, if_pos hw]
      · rw [if_neg hw, if_neg hw]
        by_cases hn : 100 ≤ (getQ l p).f3.length
        · rw [if_pos (by show ((getQ l p).f3.length : Int) ≥ 100; omega), if_pos hn]
        · rw [if_neg (by show ¬ ((getQ l p).f3.length : Int) ≥ 100; omega), if_neg hn]
          exact add_l0 x a (getQ l p).f0 (getQ l p).f1 (getQ l p).f2 (getQ l p).f3 hl (by omega) (getQ l p).f3.length (k + 1) 0 (by omega) (by omega)
  unfold mosaicref30_Share_Add.f addR
  by_cases h1 : p < 1
  · rw [if_pos h1, J, if_pos rfl, if_neg (by omega)]
  · rw [if_neg h1]
    by_cases h2 : p > 15
    · rw [if_pos h2, J, if_pos rfl, if_neg (by omega)]
    · rw [if_neg h2]
      by_cases h3 : x < 1
      · rw [if_pos h3, J, if_pos rfl, if_neg (by omega)]
      · rw [if_neg h3, J]
        by_cases h4 : x > 65536
        · rw [if_pos (by simpa using h4), if_neg (by omega)]
        · rw [if_neg (by simpa using h4), if_pos (show 1 ≤ p ∧ p ≤ 15 ∧ 1 ≤ x ∧ x ≤ 65536 by omega)]
end Go.Proofs.Ytigcgdamipeidaa.Rf
