/- Plain: which message blocks join an auxiliary block; the rules; the whole; the root; Plain: the whole of blocks; its root; Printed by a changed copy of a printer, shortened by a program: what thes ... No condition. -/
import Derived.Test.YtjmooillogojkaaGreatM38
import Derived.Test.YtjmooillogojkaaGreatM39
set_option maxHeartbeats 8000000
set_option maxRecDepth 100000
set_option linter.unusedVariables false
set_option linter.unusedSimpArgs false
namespace Go.Proofs.YtjmooillogojkaaGreat.Q
open Go.RowKit Go.Proofs.YtjmooillogojkaaGreatW.PrintWords
open Go.Proofs.YtjmooillogojkaaGreat Plain Deg
theorem ints_succ (n : Nat) : ints (n + 1) = ints n ++ [(n : Int)] := by
 unfold ints
 rw [List.range_succ, List.map_append]
 rfl
theorem ints_mem {n : Nat} {x : Int} : x ∈ ints n ↔ 0 ≤ x ∧ x < (n : Int) := by
 unfold ints
 rw [List.mem_map]
 constructor
 ·rintro ⟨k, hk, rfl⟩
  have := List.mem_range.1 hk
  omega
 ·rintro ⟨h1, h2⟩
  exact ⟨x.toNat, List.mem_range.2 (by omega), by omega⟩
def memI (J : Int → List Int) (i j : Nat) : List Int := (ints i).filter (fun x => decide ((j : Int) ∈ J x))
def memF (J : Int → List Int) (a i : Nat) : List (List Int) := (List.range a).map (memI J i)
def midF (J : Int → List Int) (a i t : Nat) : List (List Int) := (List.range a).map (fun j => memI J i j ++ if (j : Int) ∈ (J (i : Int)).take t then [(i : Int)] else [])
theorem memI_succ (J : Int → List Int) (i j : Nat) : memI J (i + 1) j = memI J i j ++ if (j : Int) ∈ J (i : Int) then [(i : Int)] else [] := by
 unfold memI
 rw [ints_succ, List.filter_append]
 congr 1
 by_cases h : (j : Int) ∈ J (i : Int) <;> simp [h]
theorem memI_mem {J : Int → List Int} {i j : Nat} {x : Int} : x ∈ memI J i j ↔ (0 ≤ x ∧ x < (i : Int)) ∧ (j : Int) ∈ J x := by
 unfold memI
 rw [List.mem_filter, ints_mem, decide_eq_true_iff]
theorem memI_len (J : Int → List Int) (i j : Nat) : (memI J i j).length ≤ i := by
 unfold memI
 refine Nat.le_trans (List.length_filter_le _ _) ?_
 simp [ints]
theorem memF_length (J : Int → List Int) (a i : Nat) : (memF J a i).length = a := by simp [memF]
theorem midF_length (J : Int → List Int) (a i t : Nat) : (midF J a i t).length = a := by simp [midF]
theorem midF_zero (J : Int → List Int) (a i : Nat) : midF J a i 0 = memF J a i := by
 unfold midF memF
 refine List.map_congr_left (fun j _ => ?_)
 simp
theorem midF_all (J : Int → List Int) (a i : Nat) : midF J a i (J (i : Int)).length = memF J a (i + 1) := by
 unfold midF memF
 refine List.map_congr_left (fun j _ => ?_)
 rw [List.take_length, memI_succ]
theorem memF_zero (J : Int → List Int) (a : Nat) : memF J a 0 = List.replicate a [] := by
 unfold memF
 rw [List.eq_replicate_iff]
 refine ⟨by simp, fun b hb => ?_⟩
 obtain ⟨j, _, rfl⟩ := List.mem_map.1 hb
 rfl
theorem midF_get {J : Int → List Int} {a i t j : Nat} (hj : j < a) : rd_L2 (midF J a i t) (j : Int) = memI J i j ++ if (j : Int) ∈ (J (i : Int)).take t then [(i : Int)] else [] := by
 unfold rd_L2 midF
 rw [Int.toNat_natCast, List.getD_eq_getElem?_getD, List.getElem?_map, List.getElem?_range hj]
 rfl
theorem take_mem_succ {l : List Int} {t : Nat} (ht : t < l.length) {x : Int} : x ∈ l.take (t + 1) ↔ x ∈ l.take t ∨ x = l[t] := by
 rw [List.take_succ_eq_append_getElem ht, List.mem_append, List.mem_singleton]
theorem nodup_take {l : List Int} (hn : l.Nodup) {t : Nat} (ht : t < l.length) : l[t] ∉ l.take t := by
 intro h
 obtain ⟨j, hj, e⟩ := List.getElem_of_mem h
 rw [List.length_take] at hj
 rw [List.getElem_take] at e
 have := (List.getElem_inj hn).1 e
 omega
theorem midF_set {J : Int → List Int} {a i t j : Nat} (hn : (J (i : Int)).Nodup) (ht : t < (J (i : Int)).length) (hj : j < a) (e : (J (i : Int))[t] = (j : Int)) : (midF J a i t).set j (rd_L2 (midF J a i t) (j : Int) ++ [(i : Int)]) = midF J a i (t + 1) := by
 rw [midF_get hj, if_neg (by rw [← e]; exact nodup_take hn ht), List.append_nil]
 refine List.ext_getElem (by rw [List.length_set, midF_length, midF_length]) (fun q h1 h2 => ?_)
 rw [midF_length] at h2
 rw [List.getElem_set]
 split
 ·rename_i h
  subst h
  simp only [midF, List.getElem_map, List.getElem_range]
  rw [if_pos ((take_mem_succ ht).2 (.inr e.symm))]
 ·rename_i h
  simp only [midF, List.getElem_map, List.getElem_range]
  congr 1
  have : ((q : Int) ∈ (J (i : Int)).take (t + 1)) ↔ ((q : Int) ∈ (J (i : Int)).take t) := by
   rw [take_mem_succ ht, e]
   constructor
   ·rintro (h | h)
    ·exact h
    ·omega
   ·exact .inl
  simp only [this]
theorem joinsF_ok {a0 a2 a3 i : Int} (h2 : 1 ≤ a2) (h3 : 1 ≤ a3) : (joinsF a0 a2 a3 i).Nodup ∧ (∀ x ∈ joinsF a0 a2 a3 i, 0 ≤ x ∧ x < a2) ∧ (joinsF a0 a2 a3 i).length ≤ a2.toNat := by
 have hk : (min a3 a2).toNat ≤ a2.toNat := by omega
 have hp := pkN_perm (seedO a0 i) (n := a2.toNat) (p0 := 0) _ hk
 have hs := sortI_perm ((pkN (seedO a0 i) a2.toNat 0 (min a3 a2).toNat).1.take (min a3 a2).toNat)
 unfold joinsF
 refine ⟨hs.nodup_iff.2 ((hp.nodup_iff.2 (ints_nodup _)).sublist (List.take_sublist _ _)), fun x hx => ?_, ?_⟩
 ·have := ints_mem.1 (hp.mem_iff.1 (List.mem_of_mem_take (hs.mem_iff.1 hx)))
  omega
 ·rw [sortI_length, List.length_take, pkN_length]
  omega
theorem mem_l1 {a0 a1 a2 a3 : Int} {J : Int → List Int} {a n i : Nat} (hi : i < 1000) (hn : n < 1000) (hnd : (J (i : Int)).Nodup) (hb : ∀ x ∈ J (i : Int), 0 ≤ x ∧ x < (a : Int)) (hl : (J (i : Int)).length ≤ 1000) (r : List (List Int)) (B : Nat)
  (h : ∀ k, B < k → outer_members.l0 k (memF J a (i + 1)) (n : Int) ((i + 1 : Nat) : Int) a0 a1 a2 a3 = some r) :
  ∀ (d t k : Nat), (J (i : Int)).length - t = d → t ≤ (J (i : Int)).length → d + B + 1 < k → outer_members.l1 k (midF J a i t) (i : Int) (n : Int) (i : Int) (J (i : Int)) ((J (i : Int)).length : Int) (t : Int) a0 a1 a2 a3 = some r
 | d, t, 0, _, _, hk => absurd hk (by omega)
 | d, t, k + 1, hd, ht, hk => by
  simp only [outer_members.l1]
  by_cases hlt : t < (J (i : Int)).length
  ·have hx := hb _ (List.getElem_mem hlt)
   obtain ⟨j, hj⟩ := Int.eq_ofNat_of_zero_le hx.1
   rw [rd_get hlt, hj, midF_length, if_pos (by omega), if_pos (by omega), if_pos (by omega), if_pos (by omega), if_pos (by omega)]
   have hja : j < a := by omega
   have hg : (rd_L2 (midF J a i t) (j : Int)).length < 17592186044416 := by
    rw [midF_get hja, List.length_append]
    have := memI_len J i j
    split
    ·simp only [List.length_singleton]; omega
    ·simp only [List.length_nil]; omega
   rw [if_pos hg, Int.toNat_natCast, midF_set hnd hlt hja hj, Deg.w64 (x := (t : Int) + 1) (by omega) (by omega)]
   exact mem_l1 hi hn hnd hb hl r B h (d - 1) (t + 1) k (by omega) (by omega) (by omega)
  ·have : t = (J (i : Int)).length := by omega
   subst this
   rw [if_neg (by omega), midF_all, Deg.w64 (x := (i : Int) + 1) (by omega) (by omega)]
   exact h k (by omega)
theorem mem_l0 {a0 a1 a2 a3 : Int} {a n : Nat} (h0 : 0 ≤ a0) (h1 : a0 < 72057594037927936) (hn : n < 1000) (ha1 : 1 ≤ a) (ha : a ≤ 900) (e2 : a2 = (a : Int)) (h4 : 1 ≤ a3) (h5 : a3 ≤ 4096) :
  ∀ (d i k : Nat), n - i = d → i ≤ n → d * 1000 + 1 < k → outer_members.l0 k (memF (joinsF a0 a2 a3) a i) (n : Int) (i : Int) a0 a1 a2 a3 = some (memF (joinsF a0 a2 a3) a n) := by
 intro d
 induction d with
 | zero =>
  intro i k hd hi hk
  obtain ⟨k, rfl⟩ : ∃ q, k = q + 1 := ⟨k - 1, by omega⟩
  simp only [outer_members.l0]
  have : i = n := by omega
  subst this
  rw [if_neg (by omega)]
 | succ d ih =>
  intro i k hd hi hk
  obtain ⟨k, rfl⟩ : ∃ q, k = q + 1 := ⟨k - 1, by omega⟩
  simp only [outer_members.l0]
  have hj : outer_joins.f a0 a1 a2 a3 (i : Int) = some (joinsF a0 a2 a3 (i : Int)) := by
   unfold outer_joins.f joinsB
   rw [if_pos]
   simp only [Bool.and_eq_true, decide_eq_true_eq]
   omega
  have hok := joinsF_ok (a0 := a0) (a2 := a2) (a3 := a3) (i := (i : Int)) (by omega) h4
  rw [if_pos (by omega), hj, Option.bind_some, ← midF_zero]
  refine mem_l1 (by omega) hn hok.1 (by rw [← e2]; exact hok.2.1) (by have := hok.2.2; omega) _ (d * 1000 + 1) (fun k' hk' => ?_) _ 0 k rfl (by omega) (by have := hok.2.2; omega)
  exact ih (i + 1) k' (by omega) (by omega) hk'
theorem members_spec {a0 : Int} {n a : Nat} {a3 : Int} (h0 : 0 ≤ a0) (h1 : a0 < 72057594037927936) (hn : n ≤ 96) (ha1 : 1 ≤ a) (ha : a ≤ 64) (h4 : 1 ≤ a3) (h5 : a3 ≤ 4096) {k : Nat} (hk : 97000 < k) :
  outer_members.f k a0 (n : Int) (a : Int) a3 = some (memF (joinsF a0 (a : Int) a3) a n) := by
 unfold outer_members.f
 rw [if_pos (by omega), if_pos (by omega), Int.toNat_natCast, ← memF_zero (joinsF a0 (a : Int) a3)]
 exact mem_l0 h0 h1 (by omega) ha1 (by omega) rfl h4 h5 n 0 k (by omega) (by omega) (by omega)
def rulI (J : Int → List Int) (n j : Nat) : List Int := memI J n j ++ [((n + j : Nat) : Int)]
def rulF (J : Int → List Int) (a n : Nat) : List (List Int) := (List.range a).map (rulI J n)
def rmdF (J : Int → List Int) (a n t : Nat) : List (List Int) := (List.range a).map (fun j => memI J n j ++ if j < t then [((n + j : Nat) : Int)] else [])
theorem rmdF_length (J : Int → List Int) (a n t : Nat) : (rmdF J a n t).length = a := by simp [rmdF]
theorem rmdF_get {J : Int → List Int} {a n t j : Nat} (hj : j < a) : rd_L2 (rmdF J a n t) (j : Int) = memI J n j ++ if j < t then [((n + j : Nat) : Int)] else [] := by
 unfold rd_L2 rmdF
 rw [Int.toNat_natCast, List.getD_eq_getElem?_getD, List.getElem?_map, List.getElem?_range hj]
 rfl
theorem rmdF_set {J : Int → List Int} {a n t : Nat} (ht : t < a) : (rmdF J a n t).set t (rd_L2 (rmdF J a n t) (t : Int) ++ [((n + t : Nat) : Int)]) = rmdF J a n (t + 1) := by
 rw [rmdF_get ht, if_neg (by omega), List.append_nil]
 refine List.ext_getElem (by rw [List.length_set, rmdF_length, rmdF_length]) (fun q h1 h2 => ?_)
 rw [List.getElem_set]
 split
 ·rename_i h
  subst h
  simp only [rmdF, List.getElem_map, List.getElem_range]
  rw [if_pos (by omega)]
 ·rename_i h
  simp only [rmdF, List.getElem_map, List.getElem_range]
  congr 1
  have : (q < t + 1) ↔ q < t := by omega
  simp only [this]
theorem rmdF_zero (J : Int → List Int) (a n : Nat) : rmdF J a n 0 = memF J a n := by
 unfold rmdF memF
 refine List.map_congr_left (fun j _ => ?_)
 simp
theorem rmdF_all (J : Int → List Int) (a n : Nat) : rmdF J a n a = rulF J a n := by
 unfold rmdF rulF rulI
 refine List.map_congr_left (fun j hj => ?_)
 rw [if_pos (List.mem_range.1 hj)]
theorem rul_l0 {a0 a2 a3 : Int} {J : Int → List Int} {a n : Nat} (ha : a ≤ 1000) (hn : n ≤ 1000) : ∀ (d t k : Nat), a - t = d → t ≤ a → d < k → outer_rules.l0 k (rmdF J a n t) (a : Int) (t : Int) a0 (n : Int) a2 a3 = some (rulF J a n)
 | d, t, 0, _, _, hk => absurd hk (by omega)
 | d, t, k + 1, hd, ht, hk => by
  simp only [outer_rules.l0]
  by_cases hlt : t < a
  ·have hg : (rd_L2 (rmdF J a n t) (t : Int)).length < 17592186044416 := by
    rw [rmdF_get hlt, List.length_append]
    have := memI_len J n t
    split
    ·simp only [List.length_singleton]; omega
    ·simp only [List.length_nil]; omega
   rw [if_pos (by omega), if_pos (by omega), rmdF_length, if_pos (by omega), if_pos hg, Int.toNat_natCast, Deg.w64 (x := (t : Int) + 1) (by omega) (by omega), Deg.w64 (x := (n : Int) + (t : Int)) (by omega) (by omega)]
   rw [show (n : Int) + (t : Int) = ((n + t : Nat) : Int) by omega, rmdF_set hlt]
   exact rul_l0 ha hn (d - 1) (t + 1) k (by omega) (by omega) (by omega)
  ·have : t = a := by omega
   subst this
   rw [if_neg (by omega), rmdF_all]
theorem rules_spec {a0 : Int} {n a : Nat} {a3 : Int} (h0 : 0 ≤ a0) (h1 : a0 < 72057594037927936) (hn1 : 1 ≤ n) (hn : n ≤ 96) (ha1 : 1 ≤ a) (ha : a ≤ 64) (h4 : 1 ≤ a3) (h5 : a3 ≤ 8) :
  outer_Rules.f 100000 a0 (n : Int) (a : Int) a3 = some (rulF (joinsF a0 (a : Int) a3) a n, 0) := by
 have hc : outer_Check.f a0 (n : Int) (a : Int) a3 = some true := by
  unfold outer_Check.f outer_in.f
  rw [if_pos (by omega), Option.bind_some, if_pos (decide_eq_true (by omega)), if_pos (by omega), Option.bind_some, if_pos (decide_eq_true (by omega)), if_pos (by omega), Option.bind_some, if_pos (decide_eq_true (by omega)), if_pos (by omega), Option.bind_some]
  exact congrArg some (decide_eq_true (by omega))
 unfold outer_Rules.f outer_rules.f
 rw [hc, Option.bind_some, if_pos rfl, members_spec h0 h1 hn ha1 ha h4 (by omega) (by omega), Option.bind_some, memF_length, ← rmdF_zero, show (0 : Int) = ((0 : Nat) : Int) from rfl, rul_l0 (by omega) (by omega) a 0 100000 (by omega) (by omega) (by omega), Option.bind_some]
theorem rulI_ok {J : Int → List Int} {a n j : Nat} (hj : j < a) : rowOk ((n + a : Nat) : Int) (rulI J n j) := by
 have hp : (rulI J n j).Pairwise (· < ·) := by
  unfold rulI memI
  rw [List.pairwise_append]
  refine ⟨List.Pairwise.filter _ ?_, List.pairwise_singleton _ _, fun x hx y hy => ?_⟩
  ·unfold ints
   exact List.Pairwise.map _ (fun a b (h : a < b) => by omega) List.pairwise_lt_range
  ·rw [List.mem_singleton.1 hy]
   have := ints_mem.1 (List.mem_filter.1 hx).1
   omega
 intro k hk
 have hm : rulI J n j ⊆ _ := fun x hx => hx
 have hx := List.getElem_mem hk
 have hb : 0 ≤ (rulI J n j)[k] ∧ (rulI J n j)[k] < ((n + a : Nat) : Int) := by
  unfold rulI at hx ⊢
  rcases List.mem_append.1 hx with h | h
  ·have := memI_mem.1 h
   omega
  ·rw [List.mem_singleton.1 h]
   omega
 refine ⟨hb.1, hb.2, fun q hq => ?_⟩
 exact List.pairwise_iff_getElem.1 hp q k (by omega) hk (by omega)
theorem rdO_get {W : List ByteArray} {x : Int} : rdOf ByteArray.empty W x = W.getD x.toNat ⟨#[]⟩ := rfl
theorem osum_l0 {W : List ByteArray} {sz : Int} (h1 : 1 ≤ sz) (h2 : sz ≤ 64) (hs : ∀ s ∈ W, (s.size : Int) = sz) {l : List Int} (hl : ∀ i ∈ l, 0 ≤ i ∧ i < (W.length : Int)) (hm : l.length ≤ 1000) :
  ∀ (d t k : Nat), l.length - t = d → t ≤ l.length → d < k → outer_sum.l0 k W sz (getsL W (l.take t)) l (l.length : Int) (t : Int) = some (sumB sz.toNat (getsL W l))
 | d, t, 0, _, _, hk => absurd hk (by omega)
 | d, t, k + 1, hd, ht, hk => by
  simp only [outer_sum.l0]
  by_cases hlt : t < l.length
  ·have hx := hl _ (List.getElem_mem hlt)
   have hg : (getsL W (l.take t)).length < 8796093022208 := by
    rw [getsL_length, List.length_take]
    omega
   rw [if_pos (by omega), if_pos (by omega), if_pos (by omega), rd_get hlt, if_pos hx.1, if_pos hx.2, if_pos hg, Deg.w64 (x := (t : Int) + 1) (by omega) (by omega), rdO_get, ← getsL_snoc W l hlt]
   exact osum_l0 h1 h2 hs hl hm (d - 1) (t + 1) k (by omega) (by omega) (by omega)
  ·have : t = l.length := by omega
   subst this
   rw [if_neg (by omega), List.take_length, sum_yes h1 h2 (getsL_size hs hl), Option.bind_some]
theorem osum_spec {W : List ByteArray} {sz : Int} (h1 : 1 ≤ sz) (h2 : sz ≤ 64) (hs : ∀ s ∈ W, (s.size : Int) = sz) {l : List Int} (hl : ∀ i ∈ l, 0 ≤ i ∧ i < (W.length : Int)) (hm : l.length ≤ 1000) {k : Nat} (hk : 1000 < k) : outer_sum.f k W l sz = some (sumB sz.toNat (getsL W l)) := by
 have := osum_l0 h1 h2 hs hl hm l.length 0 k (by omega) (by omega) (by omega)
 exact this
def wholeF (J : Int → List Int) (a n : Nat) (bl : List ByteArray) (sz : Nat) : List ByteArray := bl ++ (memF J a n).map (fun l => sumB sz (getsL bl l))
theorem wholeF_length (J : Int → List Int) (a n : Nat) (bl : List ByteArray) (sz : Nat) : (wholeF J a n bl sz).length = bl.length + a := by simp [wholeF, memF]
theorem sized_spec {bl : List ByteArray} {sz : Nat} (h0 : 0 < bl.length) (h1 : 1 ≤ sz) (h2 : sz ≤ 64) (hs : ∀ s ∈ bl, s.size = sz) : outer_sized.f bl = some true := by
 have hh : (bl.headD ⟨#[]⟩).size = sz := by
  cases bl with
  | nil => simp at h0
  | cons x l => exact hs x (by simp)
 unfold outer_sized.f
 rw [hh, if_pos ⟨h0, h1, h2, hs⟩]
theorem whole_l0 {bl : List ByteArray} {sz : Nat} {L : List (List Int)} (h0 : 0 < bl.length) (hm0 : bl.length ≤ 1000) (hL : L.length ≤ 1000) (h1 : 1 ≤ sz) (h2 : sz ≤ 64) (hs : ∀ s ∈ bl, s.size = sz) (hl : ∀ l ∈ L, l.length ≤ 1000 ∧ ∀ i ∈ l, 0 ≤ i ∧ i < (bl.length : Int)) :
  ∀ (d t k : Nat), L.length - t = d → t ≤ L.length → d + 1001 < k → outer_Whole.l0 k bl (bl ++ (L.take t).map (fun l => sumB sz (getsL bl l))) L (L.length : Int) (t : Int) = some (bl ++ L.map (fun l => sumB sz (getsL bl l)), 0)
 | d, t, 0, _, _, hk => absurd hk (by omega)
 | d, t, k + 1, hd, ht, hk => by
  simp only [outer_Whole.l0]
  by_cases hlt : t < L.length
  ·have hx := hl _ (List.getElem_mem hlt)
   have hr : rd_L2 L (t : Int) = L[t] := by
    unfold rd_L2
    rw [Int.toNat_natCast, List.getD_eq_getElem?_getD, List.getElem?_eq_getElem hlt]
    rfl
   have hz : ((rdOf ByteArray.empty bl 0).size : Int) = (sz : Int) := by
    rw [rdO_get]
    cases bl with
    | nil => simp at h0
    | cons x l => exact congrArg (fun n : Nat => (n : Int)) (hs x (by simp))
   have hg : (bl ++ (L.take t).map (fun l => sumB sz (getsL bl l))).length < 8796093022208 := by
    rw [List.length_append, List.length_map, List.length_take]
    omega
   rw [if_pos (by omega), if_pos (by omega), if_pos (by omega), if_pos (by omega), hr, hz, osum_spec (sz := (sz : Int)) (by omega) (by omega) (fun s h => by rw [hs s h]) hx.2 hx.1 (by omega), Option.bind_some, if_pos hg, Int.toNat_natCast, Deg.w64 (x := (t : Int) + 1) (by omega) (by omega), List.append_assoc]
   have e : (L.take t).map (fun l => sumB sz (getsL bl l)) ++ [sumB sz (getsL bl L[t])] = (L.take (t + 1)).map (fun l => sumB sz (getsL bl l)) := by
    rw [List.take_succ_eq_append_getElem hlt, List.map_append]
    rfl
   rw [e]
   exact whole_l0 h0 hm0 hL h1 h2 hs hl (d - 1) (t + 1) k (by omega) (by omega) (by omega)
  ·have : t = L.length := by omega
   subst this
   rw [if_neg (by omega), List.take_length]
theorem memF_in {J : Int → List Int} {a n : Nat} (hn : n ≤ 1000) {l : List Int} (h : l ∈ memF J a n) : l.length ≤ 1000 ∧ ∀ i ∈ l, 0 ≤ i ∧ i < (n : Int) := by
 obtain ⟨j, _, rfl⟩ := List.mem_map.1 h
 have := memI_len J n j
 exact ⟨by omega, fun i hi => (memI_mem.1 hi).1⟩
theorem whole_spec {a0 : Int} {n a : Nat} {a3 : Int} {bl : List ByteArray} {sz : Nat} (h0 : 0 ≤ a0) (h1 : a0 < 72057594037927936) (hn1 : 1 ≤ n) (hn : n ≤ 96) (ha1 : 1 ≤ a) (ha : a ≤ 64) (h4 : 1 ≤ a3) (h5 : a3 ≤ 8) (hb : bl.length = n) (z1 : 1 ≤ sz) (z2 : sz ≤ 64) (hs : ∀ s ∈ bl, s.size = sz) :
  outer_Whole.f 100000 a0 (n : Int) (a : Int) a3 bl = some (wholeF (joinsF a0 (a : Int) a3) a n bl sz, 0) := by
 have hc : outer_Check.f a0 (n : Int) (a : Int) a3 = some true := by
  unfold outer_Check.f outer_in.f
  rw [if_pos (by omega), Option.bind_some, if_pos (decide_eq_true (by omega)), if_pos (by omega), Option.bind_some, if_pos (decide_eq_true (by omega)), if_pos (by omega), Option.bind_some, if_pos (decide_eq_true (by omega)), if_pos (by omega), Option.bind_some]
  exact congrArg some (decide_eq_true (by omega))
 have hcl : slices_Clone_string_string.f bl = some bl := by
  unfold slices_Clone_string_string.f
  rw [if_pos ⟨by omega, by omega⟩]
 unfold outer_Whole.f
 rw [hc, Option.bind_some, if_pos rfl, if_pos (by omega), sized_spec (by omega) z1 z2 hs, Option.bind_some]
 show outer_Whole.j0 (99999 + 1) _ _ _ _ _ _ = _
 rw [outer_Whole.j0]
 rw [if_neg (by decide), hcl, Option.bind_some, members_spec h0 h1 hn ha1 ha h4 (by omega) (by omega), Option.bind_some]
 have := whole_l0 (bl := bl) (sz := sz) (L := memF (joinsF a0 (a : Int) a3) a n) (by omega) (by omega) (by rw [memF_length]; omega) z1 z2 hs (fun l hl => by
  have := memF_in (by omega) hl
  rw [hb]
  exact this) _ 0 99999 rfl (by omega) (by rw [memF_length]; omega)
 rw [List.take_zero, List.map_nil, List.append_nil] at this
 exact this
theorem leaf_spec {s : ByteArray} (hs : s.size ≤ 64) : merkle_Leaf.f s = some (shaF ((⟨#[0]⟩ : ByteArray) ++ s)) := by
 unfold merkle_Leaf.f sha_Sum.f
 rw [if_pos (by omega), if_pos (by rw [ByteArray.size_append]; show 1 + _ ≤ _; omega)]
 rfl
theorem knot_spec {a b : ByteArray} (ha : a.size = 32) (hb : b.size = 32) : ∃ r, merkle_Knot.f a b = some r ∧ r.size = 32 := by
 unfold merkle_Knot.f merkle_knot.f sha_Sum.f
 have e1 : ((⟨#[1]⟩ : ByteArray) ++ a).size = 33 := by rw [ByteArray.size_append, ha]; rfl
 have e2 : (((⟨#[1]⟩ : ByteArray) ++ a) ++ b).size = 65 := by rw [ByteArray.size_append, e1, hb]
 rw [if_pos (by omega), if_pos (by omega), Option.bind_some, if_pos (by omega)]
 exact ⟨_, rfl, shaF_size _⟩
theorem dig_l0 {W : List ByteArray} (hm : W.length ≤ 1000) (hs : ∀ s ∈ W, s.size ≤ 64) : ∀ (d t k : Nat) (acc : List ByteArray), W.length - t = d → t ≤ W.length → d < k → acc.length = t → (∀ x ∈ acc, x.size = 32) → ∃ r, merkle_digests.l0 k acc W (W.length : Int) (t : Int) = some r ∧ r.length = W.length ∧ ∀ x ∈ r, x.size = 32
 | d, t, 0, acc, _, _, hk, _, _ => absurd hk (by omega)
 | d, t, k + 1, acc, hd, ht, hk, ha, hx => by
  simp only [merkle_digests.l0]
  by_cases hlt : t < W.length
  ·have hw := hs _ (List.getElem_mem hlt)
   have hr : rdOf ByteArray.empty W (t : Int) = W[t] := by
    rw [rdO_get, Int.toNat_natCast, List.getD_eq_getElem?_getD, List.getElem?_eq_getElem hlt]
    rfl
   rw [if_pos (by omega), if_pos (by omega), if_pos (by omega), hr, leaf_spec hw, Option.bind_some, if_pos (by omega), Deg.w64 (x := (t : Int) + 1) (by omega) (by omega)]
   refine dig_l0 hm hs (d - 1) (t + 1) k _ (by omega) (by omega) (by omega) (by rw [List.length_append, List.length_singleton]; omega) (fun x h => ?_)
   rcases List.mem_append.1 h with h | h
   ·exact hx x h
   ·rw [List.mem_singleton.1 h]
    exact shaF_size _
  ·have : t = W.length := by omega
   subst this
   rw [if_neg (by omega)]
   exact ⟨acc, rfl, ha, hx⟩
theorem pairs_l0 {W : List ByteArray} (hm : W.length ≤ 1000) (hs : ∀ s ∈ W, s.size = 32) : ∀ (d t k : Nat) (acc : List ByteArray), W.length - 2 * t ≤ d → d < k → acc.length = t → 2 * t ≤ W.length + 1 → (∀ x ∈ acc, x.size = 32) → ∃ r, merkle_pairs.l0 k W acc ((2 * t : Nat) : Int) = some r ∧ r.length = (W.length + 1) / 2 ∧ ∀ x ∈ r, x.size = 32
 | d, t, 0, acc, _, hk, _, _, _ => absurd hk (by omega)
 | d, t, k + 1, acc, hd, hk, ha, h2, hx => by
  simp only [merkle_pairs.l0]
  have hg : ∀ (q : Nat) (hq : q < W.length), rdOf ByteArray.empty W (q : Int) = W[q] := fun q hq => by
   rw [rdO_get, Int.toNat_natCast, List.getD_eq_getElem?_getD, List.getElem?_eq_getElem hq]
   rfl
  by_cases hlt : 2 * t < W.length
  ·rw [if_pos (by omega), Deg.w64 (x := ((2 * t : Nat) : Int) + 1) (by omega) (by omega), Deg.w64 (x := ((2 * t : Nat) : Int) + 2) (by omega) (by omega), show ((2 * t : Nat) : Int) + 2 = ((2 * (t + 1) : Nat) : Int) by omega]
   by_cases he : 2 * t + 1 = W.length
   ·rw [if_pos (by omega), if_pos (by omega), if_pos (by omega)]
    refine pairs_l0 hm hs (d - 1) (t + 1) k _ (by omega) (by omega) (by rw [List.length_append, List.length_singleton]; omega) (by omega) (fun x h => ?_)
    rcases List.mem_append.1 h with h | h
    ·exact hx x h
    ·rw [List.mem_singleton.1 h, hg _ hlt]
     exact hs _ (List.getElem_mem hlt)
   ·have h3 : 2 * t + 1 < W.length := by omega
    rw [if_neg (by omega), if_pos (by omega), if_pos (by omega), if_pos (by omega), show ((2 * t : Nat) : Int) + 1 = ((2 * t + 1 : Nat) : Int) by omega, hg _ hlt, hg _ h3]
    obtain ⟨q, hq, hq2⟩ := knot_spec (hs _ (List.getElem_mem hlt)) (hs _ (List.getElem_mem h3))
    rw [hq, Option.bind_some, if_pos (by omega)]
    refine pairs_l0 hm hs (d - 1) (t + 1) k _ (by omega) (by omega) (by rw [List.length_append, List.length_singleton]; omega) (by omega) (fun x h => ?_)
    rcases List.mem_append.1 h with h | h
    ·exact hx x h
    ·rw [List.mem_singleton.1 h]
     exact hq2
  ·rw [if_neg (by omega)]
   exact ⟨acc, rfl, by omega, hx⟩
theorem rootL_l0 : ∀ (d : Nat) (W : List ByteArray) (k : Nat), W.length ≤ d → 0 < W.length → W.length ≤ 1000 → (∀ s ∈ W, s.size = 32) → d + 2000 < k → ∃ r, merkle_Root.l0 k W = some (r, 0) ∧ r.size = 32 := by
 intro d
 induction d with
 | zero => intro W k h1 h2; omega
 | succ d ih =>
  intro W k h1 h2 hm hs hk
  obtain ⟨k, rfl⟩ : ∃ q, k = q + 1 := ⟨k - 1, by omega⟩
  simp only [merkle_Root.l0]
  by_cases h : W.length = 1
  ·rw [if_pos (by omega), if_pos (by omega)]
   refine ⟨_, rfl, ?_⟩
   rw [rdO_get, List.getD_eq_getElem?_getD, List.getElem?_eq_getElem (show Int.toNat 0 < W.length from h2)]
   exact hs _ (List.getElem_mem _)
  ·rw [if_neg (by omega)]
   obtain ⟨r, hr, hl, hx⟩ := pairs_l0 hm hs W.length 0 k [] (by omega) (by omega) rfl (by omega) (fun x h => absurd h (by simp))
   have : merkle_pairs.f k W = some r := hr
   rw [this, Option.bind_some]
   exact ih r k (by omega) (by omega) (by omega) hx (by omega)
theorem root_spec {W : List ByteArray} (h0 : 0 < W.length) (hm : W.length ≤ 160) (hs : ∀ s ∈ W, s.size ≤ 64) : ∃ r, merkle_Root.f 100000 W = some (r, 0) ∧ r.size = 32 := by
 have hmay : merkle_may.f W = some 0 := by
  unfold merkle_may.f
  rw [if_pos ⟨h0, by omega, fun s h => by have := hs s h; omega⟩]
 obtain ⟨D, hD, hl, hx⟩ := dig_l0 (by omega) hs W.length 0 100000 [] (by omega) (by omega) (by omega) rfl (fun x h => absurd h (by simp))
 unfold merkle_Root.f
 rw [hmay, Option.bind_some, if_pos rfl]
 have : merkle_digests.f 100000 W = some D := hD
 rw [this, Option.bind_some]
 exact rootL_l0 1000 D 100000 (by omega) (by omega) (by omega) hx (by omega)
end Go.Proofs.YtjmooillogojkaaGreat.Q
namespace Go.Proofs.YtjmooillogojkaaGreat.Q
open Go.RowKit Go.Proofs.YtjmooillogojkaaGreatW.PrintWords Go.Proofs.YtjmooillogojkaaGreatW.PrintLast Go.Proofs.YtjmooillogojkaaGreatW.PrintMore
open Go.Proofs.YtjmooillogojkaaGreat
def block_Cut.f (a0 : ByteArray) (a1 : Int) : Option (List ByteArray × Int) := some (cutR a0 a1)
theorem block_Cut.calls (a0 : ByteArray) (a1 : Int) (r1 : List ByteArray) (r2 : Int) (w : World) (h : block_Cut.f a0 a1 = some (r1, r2)) :
  Calls Tryz.prog 33 #[.string a0, .int .i64 a1] w fun e w' => ∃ v0_ : Value, e = .returned (.tuple #[v0_, .int .i64 r2]) ∧ Kd.R Kd.string 9 w' w.heap.size (fun _ => True) v0_ r1 ∧ Below w.heap.size w w' := by
 have hp := Option.some.inj h
 have e1 : r1 = (cutR a0 a1).1 := by rw [hp]
 have e2 : r2 = (cutR a0 a1).2 := by rw [hp]
 rw [e1, e2]
 exact cut_all a0 a1 w
end Go.Proofs.YtjmooillogojkaaGreat.Q
