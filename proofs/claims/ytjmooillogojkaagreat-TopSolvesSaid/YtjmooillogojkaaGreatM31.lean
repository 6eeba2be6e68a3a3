/- The seeds of the generator; outer.joins; Rows of equations, and rows of rows, whose numbers lie in blocks of numbers: read, moved, added to; Printed by a changed copy of a printer, shortened by a  ... No condition. -/
import Derived.Test.YtjmooillogojkaaGreatM30
set_option maxHeartbeats 8000000
set_option maxRecDepth 100000
set_option linter.unusedVariables false
set_option linter.unusedSimpArgs false
namespace Go.Proofs.YtjmooillogojkaaGreat.Q
open Go.RowKit Go.Proofs.YtjmooillogojkaaGreatW.PrintWords Go.Proofs.YtjmooillogojkaaGreatW.PrintLast Go.Proofs.YtjmooillogojkaaGreatW.PrintMore
open Go.Proofs.YtjmooillogojkaaGreat
def outerW : ByteArray := ⟨#[111, 117, 116, 101, 114]⟩
def innerW : ByteArray := ⟨#[105, 110, 110, 101, 114]⟩
def seedO (a i : Int) : ByteArray := ((⟨#[]⟩ ++ outerW) ++ putB a 7) ++ putB i 2
def seedI (a i : Int) : ByteArray := ((⟨#[]⟩ ++ innerW) ++ putB a 7) ++ putB i 7
theorem app_size (a b : ByteArray) : (a ++ b).size = a.size + b.size := ByteArray.size_append
theorem seed_ok {a0 a1 a2 a3 i : Int} (h0 : 0 ≤ a0) (h1 : a0 < 72057594037927936) (hi : 0 ≤ i) (hi1 : i < 65536) (w : World) :
  Calls Tryz.prog 144 #[.agg #[.int .i64 a0, .int .i64 a1, .int .i64 a2, .int .i64 a3], .int .i64 i] w fun e w' => e = .returned (.string (seedO a0 i)) ∧ Below w.heap.size w w' ∧ (seedO a0 i).size = 14 := by
 obtain ⟨p1, s1⟩ := put_spec (x := a0) (y := 7) h0 (by decide) (by decide) (by exact h1)
 obtain ⟨p2, s2⟩ := put_spec (x := i) (y := 2) hi (by decide) (by decide) (by exact hi1)
 have e0 : ((⟨#[]⟩ : ByteArray) ++ outerW).size = 5 := rfl
 have z1 : (((⟨#[]⟩ : ByteArray) ++ outerW) ++ putB a0 7).size = 12 := by rw [app_size, e0]; omega
 have z2 : (seedO a0 i).size = 14 := by unfold seedO; rw [app_size, z1]; omega
 have HP := jo (And.intro p1 (And.intro p2 (And.intro s1 s2)))
 have HZ := jo (And.intro e0 (And.intro z1 z2))
 have b1 : Below w.heap.size w (w.alloc (.cells #[.int .i64 a0, .int .i64 a1, .int .i64 a2, .int .i64 a3] 55)) := below_alloc (Below.refl _ _) _
 have k1 : (w.alloc (.cells #[.int .i64 a0, .int .i64 a1, .int .i64 a2, .int .i64 a3] 55)).heap[w.heap.size]? = some (.cells #[.int .i64 a0, .int .i64 a1, .int .i64 a2, .int .i64 a3] 55 (0, 0)) := blk_new w _
 clear p1 p2 s1 s2 e0 z1 z2 h0 h1 hi hi1
 go_enter Tryz.func144, Tryz.ntmps144
 go_wp2_with fail
 generalize w.alloc (.cells #[.int .i64 a0, .int .i64 a1, .int .i64 a2, .int .i64 a3] 55) = W1 at b1 k1 ⊢
 have HB1 := jo (And.intro b1 k1)
 clear b1 k1
 with_reducible refine (to_ok W1).mono ?_
 rintro e w2 ⟨g, rfl, h2⟩
 have H2 := jo h2
 clear h2
 go_wp2_with (first | (go_at_call 150; (with_reducible refine (raw_ok ⟨#[111, 117, 116, 101, 114]⟩ H2.out (by decide)).mono ?_); rintro e w3 ⟨rfl, q3, v3, h3⟩; have H3 : Aside0 (Wt W1 w3 g q3 v3 (⟨#[]⟩ ++ outerW)) := ⟨h3⟩; have x0 : w3.cell? ⟨w.heap.size, 0, none⟩ = some (.int .i64 a0) := blk_cell (blk_below HB1.out.2 h3.bel) 0; clear h3))
 with_reducible refine (num_ok HP.out.1 H3.out (by have := HZ.out.2.1; rw [app_size] at this; omega)).mono ?_
 rintro e w4 ⟨rfl, q4, v4, h4⟩
 have H4 := jo h4
 clear h4 x0
 go_wp2_with fail
 with_reducible refine (num_ok HP.out.2.1 H4.out (by have := HZ.out.2.2; unfold seedO at this; rw [app_size] at this; omega)).mono ?_
 rintro e w5 ⟨rfl, q5, v5, h5⟩
 have H5 : Aside0 (Wt W1 w5 g q5 v5 (seedO a0 i)) := ⟨h5⟩
 clear h5
 go_wp2_with fail
 with_reducible refine (bytes_ok H5.out (by rw [HZ.out.2.2]; decide) (by rw [HZ.out.2.2]; decide)).mono ?_
 rintro e w6 ⟨rfl, hb6⟩
 have H6 := jo (below_step HB1.out.1 hb6)
 clear hb6
 go_wp2
 go_ret
 exact ⟨rfl, H6.out, HZ.out.2.2⟩
theorem igen_ok {m0 m1 m2 m3 m4 m5 m6 h0 h1 : Int} {m7 h2 : ByteArray} (p0 : 0 ≤ m2) (p1 : m2 < 72057594037927936) (p2 : 0 ≤ h1) (p3 : h1 < 72057594037927936) (w : World) :
  Calls Tryz.prog 115 #[.agg #[.int .i64 m0, .int .i64 m1, .int .i64 m2, .int .i64 m3, .int .i64 m4, .int .i64 m5, .int .i64 m6, .string m7], .agg #[.int .i64 h0, .int .i64 h1, .string h2]] w fun e w' => ∃ g, e = .returned (.pointer (some ⟨g, 0, none⟩)) ∧ Gn w w' g (seedI m2 h1) 0 ⟨#[]⟩ := by
 obtain ⟨r1, s1⟩ := put_spec (x := m2) (y := 7) p0 (by decide) (by decide) (by exact p1)
 obtain ⟨r2, s2⟩ := put_spec (x := h1) (y := 7) p2 (by decide) (by decide) (by exact p3)
 have e0 : ((⟨#[]⟩ : ByteArray) ++ innerW).size = 5 := rfl
 have z1 : (((⟨#[]⟩ : ByteArray) ++ innerW) ++ putB m2 7).size = 12 := by rw [app_size, e0]; omega
 have z2 : (seedI m2 h1).size = 19 := by unfold seedI; rw [app_size, z1]; omega
 have HP := jo (And.intro r1 (And.intro r2 (And.intro s1 s2)))
 have HZ := jo (And.intro e0 (And.intro z1 z2))
 have b1 : Below w.heap.size w ((w.alloc (.cells #[.int .i64 m0, .int .i64 m1, .int .i64 m2, .int .i64 m3, .int .i64 m4, .int .i64 m5, .int .i64 m6, .string m7] 30)).alloc (.cells #[.int .i64 h0, .int .i64 h1, .string h2] 36)) := below_alloc (below_alloc (Below.refl _ _) _) _
 have k1 : ((w.alloc (.cells #[.int .i64 m0, .int .i64 m1, .int .i64 m2, .int .i64 m3, .int .i64 m4, .int .i64 m5, .int .i64 m6, .string m7] 30)).alloc (.cells #[.int .i64 h0, .int .i64 h1, .string h2] 36)).heap[w.heap.size]? = some (.cells #[.int .i64 m0, .int .i64 m1, .int .i64 m2, .int .i64 m3, .int .i64 m4, .int .i64 m5, .int .i64 m6, .string m7] 30 (0, 0)) := blk_alloc (blk_new w _) _
 have k2 : ((w.alloc (.cells #[.int .i64 m0, .int .i64 m1, .int .i64 m2, .int .i64 m3, .int .i64 m4, .int .i64 m5, .int .i64 m6, .string m7] 30)).alloc (.cells #[.int .i64 h0, .int .i64 h1, .string h2] 36)).heap[w.heap.size + 1]? = some (.cells #[.int .i64 h0, .int .i64 h1, .string h2] 36 (0, 0)) := by
  have := blk_new (w.alloc (.cells #[.int .i64 m0, .int .i64 m1, .int .i64 m2, .int .i64 m3, .int .i64 m4, .int .i64 m5, .int .i64 m6, .string m7] 30)) (.cells #[.int .i64 h0, .int .i64 h1, .string h2] 36)
  rw [World.size_alloc] at this
  exact this
 clear r1 r2 s1 s2 e0 z1 z2 p0 p1 p2 p3
 go_enter Tryz.func115, Tryz.ntmps115
 go_wp2_with fail
 generalize (w.alloc (.cells #[.int .i64 m0, .int .i64 m1, .int .i64 m2, .int .i64 m3, .int .i64 m4, .int .i64 m5, .int .i64 m6, .string m7] 30)).alloc (.cells #[.int .i64 h0, .int .i64 h1, .string h2] 36) = W1 at b1 k1 k2 ⊢
 have HB1 := jo (And.intro b1 (And.intro k1 k2))
 clear b1 k1 k2
 with_reducible refine (to_ok W1).mono ?_
 rintro e w2 ⟨g, rfl, h2⟩
 have H2 := jo h2
 clear h2
 go_wp2_with (first | (go_at_call 150; (with_reducible refine (raw_ok ⟨#[105, 110, 110, 101, 114]⟩ H2.out (by decide)).mono ?_); rintro e w3 ⟨rfl, q3, v3, h3⟩; have H3 : Aside0 (Wt W1 w3 g q3 v3 (⟨#[]⟩ ++ innerW)) := ⟨h3⟩; have x0 : w3.cell? ⟨w.heap.size, 2, none⟩ = some (.int .i64 m2) := blk_cell (blk_below HB1.out.2.1 h3.bel) 2; clear h3))
 with_reducible refine (num_ok HP.out.1 H3.out (by have := HZ.out.2.1; rw [app_size] at this; omega)).mono ?_
 rintro e w4 ⟨rfl, q4, v4, h4⟩
 have x1 : w4.cell? ⟨w.heap.size + 1, 1, none⟩ = some (.int .i64 h1) := blk_cell (blk_below HB1.out.2.2 h4.bel) 1
 have H4 := jo h4
 clear h4 x0
 go_wp2_with fail
 with_reducible refine (num_ok HP.out.2.1 H4.out (by have := HZ.out.2.2; unfold seedI at this; rw [app_size] at this; omega)).mono ?_
 rintro e w5 ⟨rfl, q5, v5, h5⟩
 have H5 : Aside0 (Wt W1 w5 g q5 v5 (seedI m2 h1)) := ⟨h5⟩
 clear h5 x1
 go_wp2_with fail
 with_reducible refine (bytes_ok H5.out (by rw [HZ.out.2.2]; decide) (by rw [HZ.out.2.2]; decide)).mono ?_
 rintro e w6 ⟨rfl, hb6⟩
 have H6 := jo (below_step HB1.out.1 hb6)
 clear hb6
 go_wp2_with fail
 with_reducible refine (gen_ok (by rw [HZ.out.2.2]; decide) w6).mono ?_
 rintro e w7 ⟨g7, rfl, h7⟩
 have H7 : Aside0 (Gn w w7 g7 (seedI m2 h1) 0 ⟨#[]⟩) := ⟨⟨h7.blk, below_step H6.out h7.bel, Nat.le_trans H6.out.size h7.lo, h7.buf, h7.key⟩⟩
 clear h7
 go_wp2
 go_ret
 exact ⟨_, rfl, H7.out⟩
structure JR (W : World) (base : Nat) (v : Value) (l : List Int) : Prop where
 out : ∃ G c cap, v = .slice (some ⟨G, 0, none⟩) l.length c ∧ l.length ≤ c ∧ base ≤ G ∧ IR W G cap l
section
variable {W W1 : World} {base : Nat} {v : Value} {l : List Int}
theorem JR.base_ (h : JR W base v l) : ∀ k, v.ownBlock = some k → base ≤ k := by
 obtain ⟨G, c, cap, rfl, _, hb, _⟩ := h.out
 intro k hk
 injection hk with hk
 rw [← hk]
 exact hb
theorem JR.lt_ (h : JR W base v l) : ∀ k, v.ownBlock = some k → k < W.heap.size := by
 obtain ⟨G, c, cap, rfl, _, _, hi⟩ := h.out
 intro k hk
 injection hk with hk
 rw [← hk]
 exact hi.blk
theorem JR.move (h : JR W base v l) (hm : ∀ k, v.ownBlock = some k → W1.heap[k]? = W.heap[k]?) : JR W1 base v l := by
 obtain ⟨G, c, cap, rfl, h1, h2, hi⟩ := h.out
 exact ⟨G, c, cap, rfl, h1, h2, hi.move (hm G rfl)⟩
theorem JR.below (h : JR W base v l) (hb : Below W.heap.size W W1) : JR W1 base v l := h.move (fun k hk => hb.block k (h.lt_ k hk))
theorem J_lower {base' : Nat} (h : JR W base v l) (hb : base' ≤ base) : JR W base' v l := by
 obtain ⟨G, c, cap, rfl, h1, h2, hi⟩ := h.out
 exact ⟨G, c, cap, rfl, h1, Nat.le_trans hb h2, hi⟩
theorem J_slice (h : JR W base v l) : ∃ A c, v = .slice A l.length c := by
 obtain ⟨G, c, cap, rfl, _⟩ := h.out
 exact ⟨_, _, rfl⟩
theorem J_reads' {A : Option Addr} {n c : Nat} (h : JR W base (.slice A n c) l) : n = l.length ∧ n ≤ c ∧ (Kd.int .i64).C W A l.length l := by
 obtain ⟨G, c', cap, e, h1, h2, hi⟩ := h.out
 injection e with e1 e2 e3
 subst e1 e2 e3
 exact ⟨rfl, h1, hi.read (Nat.le_trans hi.fit (Nat.le_trans hi.cap (by decide)))⟩
theorem J_alloc (h : JR W base v l) (o : Obj) : JR (W.alloc o) base v l := h.below (below_alloc (Below.refl _ _) o)
theorem J_drewN (h : JR W base v l) (m : Nat) : JR (W.drewN m) base v l := h.below (pw_below_drewN (Below.refl _ _) m)
theorem J_drew (h : JR W base v l) : JR W.drew base v l := h.below (below_drew (Below.refl _ _))
theorem J_grown2 (h : JR W base v l) {row : Option Nat} (hg : W.grownBy W1 row) (hne : ∀ k, row = some k → some k ≠ v.ownBlock) : JR W1 base v l :=
 h.move (fun k hk => hg.block k (h.lt_ k hk) (fun e => hne k e.symm hk.symm))
end
theorem J_over' {W W1 : World} {base e' : Nat} {u v : Value} {l : List Int} (h : JR W base u l) (hty : ∀ k, v.ownBlock = some k → ∃ cells, W.heap[k]? = some (.cells cells e' (0, 0))) (ht : e' ≠ 3) (hg : W.grownBy W1 v.ownBlock) : JR W1 base u l := by
 refine h.move (fun k hk => hg.block k (h.lt_ k hk) (fun he => ?_))
 obtain ⟨G, c, cap, rfl, _, _, hi⟩ := h.out
 injection hk with hk
 subst hk
 obtain ⟨cur, hh, _⟩ := hi.cur
 obtain ⟨cells', hc'⟩ := hty _ he.symm
 rw [show (⟨G, 0, none⟩ : Addr).block = G from rfl, hh] at hc'
 injection hc' with hc'
 injection hc' with _ hc'
 exact ht hc'.symm
def joinsF (a0 a2 a3 i : Int) : List Int := sortI ((pkN (seedO a0 i) a2.toNat 0 (min a3 a2).toNat).1.take (min a3 a2).toNat)
theorem joins_ok {a0 a1 a2 a3 i : Int} (h0 : 0 ≤ a0) (h1 : a0 < 72057594037927936) (hi : 0 ≤ i) (hi1 : i < 65536) (h2 : 1 ≤ a2) (h3 : a2 ≤ 4096) (h4 : 1 ≤ a3) (h5 : a3 ≤ 4096) (w : World) :
  Calls Tryz.prog 109 #[.agg #[.int .i64 a0, .int .i64 a1, .int .i64 a2, .int .i64 a3], .int .i64 i] w fun e w' => ∃ v, e = .returned v ∧ JR w' w.heap.size v (joinsF a0 a2 a3 i) ∧ Below w.heap.size w w' := by
 have HSD := jo (fun W => seed_ok (a1 := a1) (a2 := a2) (a3 := a3) h0 h1 hi hi1 W)
 obtain ⟨n, rfl⟩ := Int.eq_ofNat_of_zero_le (show 0 ≤ a2 by omega)
 obtain ⟨q, rfl⟩ := Int.eq_ofNat_of_zero_le (show 0 ≤ a3 by omega)
 obtain ⟨k, hk⟩ : ∃ k, k = min q n := ⟨_, rfl⟩
 have hmin : min (q : Int) (n : Int) = (k : Int) := by omega
 have HK : Aside0 (1 ≤ k ∧ k ≤ n ∧ n ≤ 4096) := ⟨by omega, by omega, by omega⟩
 have HJ : Aside0 (joinsF a0 n q i = sortI ((pkN (seedO a0 i) n 0 k).1.take k)) := ⟨by unfold joinsF; rw [hmin]; rfl⟩
 have HPK := jo (fun W w7 g buf (hg : Gn W w7 g (seedO a0 i) 0 buf) => pick_ok hg (by decide) HK.out.1 HK.out.2.1 HK.out.2.2 rfl)
 have b1 : Below w.heap.size w (w.alloc (.cells #[.int .i64 a0, .int .i64 a1, .int .i64 n, .int .i64 q] 55)) := below_alloc (Below.refl _ _) _
 have k1 : (w.alloc (.cells #[.int .i64 a0, .int .i64 a1, .int .i64 n, .int .i64 q] 55)).heap[w.heap.size]? = some (.cells #[.int .i64 a0, .int .i64 a1, .int .i64 n, .int .i64 q] 55 (0, 0)) := blk_new w _
 clear h0 h1 hi hi1 h2 h3 h4 h5 hk
 go_enter Tryz.func109, Tryz.ntmps109
 go_wp2_with fail
 generalize w.alloc (.cells #[.int .i64 a0, .int .i64 a1, .int .i64 n, .int .i64 q] 55) = W1 at b1 k1 ⊢
 have HB1 := jo (And.intro b1 k1)
 have x0 : W1.drew.cell? ⟨w.heap.size, 0, none⟩ = some (.int .i64 a0) := blk_cell k1 0
 have x1 : W1.drew.cell? ⟨w.heap.size, 1, none⟩ = some (.int .i64 a1) := blk_cell k1 1
 have x2 : W1.drew.cell? ⟨w.heap.size, 2, none⟩ = some (.int .i64 n) := blk_cell k1 2
 have x3 : W1.drew.cell? ⟨w.heap.size, 3, none⟩ = some (.int .i64 q) := blk_cell k1 3
 clear b1 k1
 refine st_ (S := fun w' => w'.cell? ⟨w.heap.size, 0, none⟩ = some (.int .i64 a0) ∧ w'.cell? ⟨w.heap.size, 1, none⟩ = some (.int .i64 a1) ∧ w'.cell? ⟨w.heap.size, 2, none⟩ = some (.int .i64 (n : Int)) ∧ w'.cell? ⟨w.heap.size, 3, none⟩ = some (.int .i64 (q : Int))) (ds := [11]) 13 ⟨x0, x1, x2, x3⟩ (fun hHeld => ?_)
 refine td_ [1, 4, 6, 8] ?_
 repeat (first | refine pp_ ?_ | refine po_ ?_)
 refine tn_ ?_
 refine td_ [0, 5, 7, 9] ?_
 repeat (refine pt_ hHeld ?_)
 refine tn_ ?_
 refine td_ [10] ?_
 repeat (first | refine pp_ ?_ | refine po_ ?_)
 refine tn_ ?_
 refine on_ 2 (fun K hK => ?_)
 refine gs_ Tryz.func144 #[.agg #[.int .i64 a0, .int .i64 a1, .int .i64 (n : Int), .int .i64 (q : Int)], .int .i64 i] ?_
 with_reducible refine ((HSD.out _)).mono ?_
 rintro e w5 ⟨rfl, hb5, hsz⟩
 refine ⟨_, rfl, ?_⟩
 have H5 := jo (And.intro (below_step (below_step HB1.out.1 (below_drew (Below.refl W1.heap.size W1))) hb5) hsz)
 have z0 := pw_cell_below hb5 hHeld.1
 have z1 := pw_cell_below hb5 hHeld.2.1
 have z2 := pw_cell_below hb5 hHeld.2.2.1
 have z3 := pw_cell_below hb5 hHeld.2.2.2
 clear hb5 hsz
 refine hK.out _ _ ⟨z0, z1, z2, z3⟩ (fun hHeld => ?_)
 clear hK K
 refine nm_ (some 8) ?_
 refine on_ 3 (fun K hK => ?_)
 refine gs_ Tryz.func143 #[.string (seedO a0 i)] ?_
 with_reducible refine ((gen_ok (by rw [H5.out.2]; decide) _)).mono ?_
 rintro e w6 ⟨g, rfl, hg6⟩
 refine ⟨_, rfl, ?_⟩
 have H6 : Aside0 (Gn w w6 g (seedO a0 i) 0 ⟨#[]⟩) := ⟨⟨hg6.blk, below_step H5.out.1 hg6.bel, Nat.le_trans H5.out.1.size hg6.lo, hg6.buf, hg6.key⟩⟩
 have z0 := pw_cell_below hg6.bel hHeld.1
 have z1 := pw_cell_below hg6.bel hHeld.2.1
 have z2 := pw_cell_below hg6.bel hHeld.2.2.1
 have z3 := pw_cell_below hg6.bel hHeld.2.2.2
 clear hg6
 refine hK.out _ _ ⟨z0, z1, z2, z3⟩ (fun hHeld => ?_)
 clear hK K
 refine nm_ (some 9) ?_
 refine la_ 11 (fun K hK => ?_)
 refine gs_ Tryz.func119 #[.pointer (some ⟨g, 0, none⟩), .int .i64 (n : Int), .int .i64 (k : Int)] ?_
 with_reducible refine ((HPK.out _ _ _ _ H6.out)).mono ?_
 rintro e w7 ⟨G, c7, rfl, hr7, hb7⟩
 refine ⟨_, rfl, ?_⟩
 have H7 := jo (And.intro hr7 hb7)
 clear hr7 hb7
 refine hK.out _ _ ?_
 clear hK K
 refine nm_ (some 17) ?_
 refine td_ [12] ?_
 repeat (first | refine pp_ ?_ | refine po_ ?_)
 refine tn_ ?_
 refine dn_ ?_
 have hpl : (pkN (seedO a0 i) n 0 k).1.length = n := pkN_length _ _ _ _
 obtain ⟨P, hP⟩ : ∃ P, P = (pkN (seedO a0 i) n 0 k).1 := ⟨_, rfl⟩
 have h7 := H7.out.1
 rw [← hP] at h7 hpl
 rcases IR.of h7 with ⟨_, e⟩ | ⟨g7, cap7, e, hgb, _, hir⟩
 ·rw [e] at hpl
  have := HK.out.1
  have := HK.out.2.1
  simp at hpl
  omega
 injection e with e1 e2 e3
 injection e1 with e1
 injection e1 with e1
 subst e1 e3
 clear e2
 have hkl : (P.take k).length = k := by rw [List.length_take, hpl]; exact Nat.min_eq_left HK.out.2.1
 have hir2 := hir.take k (by rw [hpl]; exact HK.out.2.1)
 have HSO := jo (sort_ir (c := k) hir2 (by rw [hkl]; exact Nat.lt_of_le_of_lt (Nat.le_trans HK.out.2.1 HK.out.2.2) (by decide)))
 rw [hkl] at HSO
 have HB7 := jo H7.out.2
 have HPE := jo (And.intro hP (And.intro hkl hgb))
 clear H7 h7 hP hir hir2 hpl hkl hgb hHeld
 go_wp2_with (go_at_call 46; (with_reducible refine HSO.out.mono ?_); rintro e w8 ⟨rfl, h81, h82⟩; have H8 := jo (And.intro h81 h82); clear h81 h82)
 go_ret
 refine ⟨_, rfl, ⟨G, k, c7, ?_, ?_, HPE.out.2.2, ?_⟩, HB7.out.grown H8.out.2 HB7.out.size (fun q hq => by injection hq with hq; rw [← hq]; exact HPE.out.2.2)⟩
 ·rw [HJ.out, sortI_length, ← HPE.out.1, HPE.out.2.1]
  rfl
 ·rw [HJ.out, sortI_length, ← HPE.out.1, HPE.out.2.1]
  exact Nat.le_refl _
 ·rw [HJ.out, ← HPE.out.1]
  exact H8.out.1
def RI (W : World) (v : Value) (l : List Int) : Prop := (v = .slice none 0 0 ∧ l = []) ∨ JR W 0 v l
theorem RI.nil (W : World) : RI W (.slice none 0 0) [] := .inl ⟨rfl, rfl⟩
theorem RI.of_J {W : World} {base : Nat} {v : Value} {l : List Int} (h : JR W base v l) : RI W v l := .inr (J_lower h (Nat.zero_le _))
theorem RI.of_R {W : World} {base : Nat} {ok : Nat → Prop} {v : Value} {l : List Int} (h : Kd.R (Kd.int .i64) 3 W base ok v l) : RI W v l := by
 rcases IR.of h with ⟨rfl, rfl⟩ | ⟨g, cap, rfl, _, _, hi⟩
 ·exact .nil _
 ·exact .inr ⟨g, cap, cap, rfl, hi.fit, Nat.zero_le _, hi⟩
theorem RI.frame {W W' : World} {v : Value} {l : List Int} (h : RI W v l) (hn : Num3 W W') : RI W' v l := by
 rcases h with h | h
 ·exact .inl h
 ·obtain ⟨G, c, cap, rfl, h1, h2, hi⟩ := h.out
  obtain ⟨cur, hh, _⟩ := hi.cur
  exact .inr ⟨G, c, cap, rfl, h1, h2, hi.move ((hn.2 G cur hh).trans hh.symm)⟩
theorem RI.reads {W : World} {v : Value} {l : List Int} (h : RI W v l) : ∃ A c, v = .slice A l.length c ∧ l.length ≤ c ∧ Kd.C (Kd.int .i64) W A l.length l := by
 rcases h with ⟨rfl, rfl⟩ | h
 ·exact ⟨none, 0, rfl, Nat.le_refl _, rfl, by decide, fun h => absurd h (Nat.lt_irrefl _)⟩
 ·obtain ⟨A, c, rfl⟩ := J_slice h
  have := J_reads' h
  exact ⟨A, c, rfl, this.2.1, this.2.2⟩
theorem RI.one {W : World} {v : Value} {l : List Int} (h : RI W v l) : v.oneCell' = true := by
 obtain ⟨A, c, rfl, _⟩ := h.reads
 rfl
def EqJ (W : World) (f : S62) (cs : List Value) : Prop := ∃ v, cs = [v, .string f.f1] ∧ RI W v f.f0
def RowJ (W : World) (l : List Int) (cs : List Value) : Prop := ∃ v, cs = [v] ∧ RI W v l
theorem EqJ.frame {W W' : World} {f : S62} {cs : List Value} (hn : Num3 W W') (h : EqJ W f cs) : EqJ W' f cs := by
 obtain ⟨v, rfl, h1⟩ := h
 exact ⟨v, rfl, h1.frame hn⟩
theorem RowJ.frame {W W' : World} {f : List Int} {cs : List Value} (hn : Num3 W W') (h : RowJ W f cs) : RowJ W' f cs := by
 obtain ⟨v, rfl, h1⟩ := h
 exact ⟨v, rfl, h1.frame hn⟩
theorem EqJ.one {W : World} {f : S62} {cs : List Value} (h : EqJ W f cs) : cs.length = 2 ∧ ∀ u ∈ cs, u.oneCell' = true := by
 obtain ⟨v, rfl, h⟩ := h
 refine ⟨rfl, fun u hu => ?_⟩
 rcases List.mem_cons.1 hu with rfl | hu
 ·exact h.one
 ·rw [List.mem_singleton.1 hu]; rfl
theorem RowJ.one {W : World} {f : List Int} {cs : List Value} (h : RowJ W f cs) : cs.length = 1 ∧ ∀ u ∈ cs, u.oneCell' = true := by
 obtain ⟨v, rfl, h⟩ := h
 exact ⟨rfl, fun u hu => by rw [List.mem_singleton.1 hu]; exact h.one⟩
def NR {α : Type} (R : World → α → List Value → Prop) (e size : Nat) (W : World) (base : Nat) (v : Value) (L : List α) : Prop := OwnRow (R W) e size W base v L
section
variable {α : Type} {R : World → α → List Value → Prop} {e size base : Nat} {W W' : World} {v : Value} {L : List α}
theorem NR.block (h : NR R e size W base v L) (g : Nat) (hg : v.ownBlock = some g) : base ≤ g ∧ ∃ cells, W.heap[g]? = some (.cells cells e (0, 0)) := by
 obtain ⟨inner, ho, _⟩ := h
 exact ⟨own_base ho g hg, own_typed ho g hg⟩
theorem NR.frame (hF : ∀ {W W' : World} {p : α} {c : List Value}, Num3 W W' → R W p c → R W' p c) (h : NR R e size W base v L) (hn : Num3 W W') (hm : ∀ g, v.ownBlock = some g → W'.heap[g]? = W.heap[g]?) : NR R e size W' base v L := by
 obtain ⟨inner, ho, hr⟩ := h
 exact ⟨inner, own_move ho hm, hr.imp_ (fun _ _ hp => hF hn hp)⟩
theorem NR.below (hF : ∀ {W W' : World} {p : α} {c : List Value}, Num3 W W' → R W p c → R W' p c) (h : NR R e size W base v L) (hb : Below W.heap.size W W') : NR R e size W' base v L := h.frame hF (.below hb) (fun g hg => by
 obtain ⟨_, cells, hc⟩ := h.block g hg
 exact hb.block g (blk_lt hc))
theorem NR.grown (hF : ∀ {W W' : World} {p : α} {c : List Value}, Num3 W W' → R W p c → R W' p c) {u : Value} {e' : Nat} (h : NR R e size W base v L) (hn : Num3 W W') (hg : W.grownBy W' u.ownBlock) (hu : ∀ g, u.ownBlock = some g → ∃ cells, W.heap[g]? = some (.cells cells e' (0, 0))) (he : e ≠ e') : NR R e size W' base v L := h.frame hF hn (fun g hgv => by
 obtain ⟨_, cells, hc⟩ := h.block g hgv
 refine hg.block g (blk_lt hc) (fun e2 => ?_)
 obtain ⟨cells', hc'⟩ := hu g e2.symm
 rw [hc] at hc'
 injection hc' with hc'
 injection hc' with _ h1
 exact he h1)
theorem NR.slice (h : NR R e size W base v L) : ∃ A c, v = .slice A L.length c := OR_slice h
theorem NR.nil (R : World → α → List Value → Prop) (e size : Nat) (W : World) (base : Nat) : NR R e size W base (.slice none 0 0) [] := OwnRow.none_ _ _ _ _ _
theorem NR.lower {base' : Nat} (h : NR R e size W base v L) (hb : base' ≤ base) : NR R e size W base' v L := by
 obtain ⟨inner, ho, hr⟩ := h
 exact ⟨inner, own_weaken ho hb, hr⟩
end
section
variable {W W' : World} {base base' : Nat} {v u : Value} {L : List S62} {K : List (List Int)}
theorem EJ_below (h : NR EqJ 62 2 W base v L) (hb : Below W.heap.size W W') : NR EqJ 62 2 W' base v L := NR.below (R := EqJ) EqJ.frame h hb
theorem RJ_below (h : NR RowJ 44 1 W base u K) (hb : Below W.heap.size W W') : NR RowJ 44 1 W' base u K := NR.below (R := RowJ) RowJ.frame h hb
theorem EJ_grown (h : NR EqJ 62 2 W base v L) (hu : NR RowJ 44 1 W base' u K) (hn : Num3 W W') (hg : W.grownBy W' u.ownBlock) : NR EqJ 62 2 W' base v L := NR.grown (R := EqJ) (e' := 44) EqJ.frame h hn hg (fun g hgg => (NR.block hu g hgg).2) (by decide)
theorem RJ_grown (h : NR RowJ 44 1 W base u K) (hv : NR EqJ 62 2 W base' v L) (hn : Num3 W W') (hg : W.grownBy W' v.ownBlock) : NR RowJ 44 1 W' base u K := NR.grown (R := RowJ) (e' := 62) RowJ.frame h hn hg (fun g hgg => (NR.block hv g hgg).2) (by decide)
theorem EJ_blk (h : NR EqJ 62 2 W base v L) {g : Nat} {cells : Array Value} (hk : W.heap[g]? = some (.cells cells 30 (0, 0))) (hg : W.grownBy W' v.ownBlock) : W'.heap[g]? = some (.cells cells 30 (0, 0)) := blk_grown hk hg (OwnRow.ne_block h hk (by decide))
theorem RJ_blk (h : NR RowJ 44 1 W base u K) {g : Nat} {cells : Array Value} (hk : W.heap[g]? = some (.cells cells 30 (0, 0))) (hg : W.grownBy W' u.ownBlock) : W'.heap[g]? = some (.cells cells 30 (0, 0)) := blk_grown hk hg (OwnRow.ne_block h hk (by decide))
end
theorem RJ_of_S {W : World} {base : Nat} {ok : Nat → Prop} {v : Value} {L : List (List Int)} (h : Kd.S (Kd.slice 3 (Kd.int .i64)) 44 W base ok v L) : NR RowJ 44 1 W base v L :=
 (Kd.S_R h).2.imp_ (fun l c hm => by
  obtain ⟨u, rfl, hr⟩ := hm
  exact ⟨u, rfl, RI.of_R hr⟩)
theorem RJ_reads {W : World} {base : Nat} {v : Value} {L : List (List Int)} (h : NR RowJ 44 1 W base v L) : ∃ A c, v = .slice A L.length c ∧ L.length ≤ c ∧ Kd.C (Kd.slice 3 (Kd.int .i64)) W A L.length L := by
 obtain ⟨A, c, h1, h2, h3⟩ := OwnRow.reads h
 refine ⟨A, c, h1, h2, ReadsRow.imp_ h3 (Below.refl _ _) (fun l cs hl => ?_)⟩
 obtain ⟨u, rfl, hu⟩ := hl
 obtain ⟨B, d, rfl, g1, g2⟩ := hu.reads
 exact ⟨B, d, rfl, g1, g2⟩
theorem EJ_reads {W : World} {base : Nat} {v : Value} {L : List S62} (h : NR EqJ 62 2 W base v L) : ∃ A c, v = .slice A L.length c ∧ L.length ≤ c ∧ Kd.C k62 W A L.length L := by
 obtain ⟨A, c, h1, h2, h3⟩ := OwnRow.reads h
 refine ⟨A, c, h1, h2, ReadsRow.imp_ h3 (Below.refl _ _) (fun l cs hl => ?_)⟩
 obtain ⟨u, rfl, hu⟩ := hl
 obtain ⟨B, d, rfl, g1, g2⟩ := hu.reads
 exact k62_mk W l g1 g2
theorem RJ_get {W : World} {base : Nat} {v : Value} {L : List (List Int)} (h : NR RowJ 44 1 W base v L) {i : Nat} (hi : i < L.length) : ∃ (g cap : Nat) (u : Value), v = .slice (some ⟨g, 0, none⟩) L.length cap ∧ RI W u L[i] ∧ W.cell? ⟨g, i, none⟩ = some u := by
 obtain ⟨inner, ho, hr⟩ := h
 obtain ⟨u, hu, hs⟩ := hr.2 i _ (List.getElem?_eq_getElem hi)
 rcases ho.2 with ⟨_, h0⟩ | ⟨g, cap, cur, rfl, hb, h1, h2, h3, h4, h5⟩
 ·omega
 ·refine ⟨g, cap, u, rfl, hs, ?_⟩
  rw [blk_cell h1, ← Array.getElem?_toList]
  have e1 : cur.toList[i]? = inner[i]? := by
   rw [← h5, List.getElem?_take, if_pos (by omega)]
  have e2 : (List.take 1 (List.drop (i * 1) inner))[0]? = inner[i]? := by
   rw [List.getElem?_take, if_pos (by decide), List.getElem?_drop, Nat.mul_one, Nat.add_zero]
  rw [e1, ← e2, hu]
  rfl
section
variable {P : Program} {ops : Array Oper} {rest : List Oper} {o : Oper} {a : Act} {Q : Exit → Act → World → Prop} {K : Act → World → Prop} {α : Type} {R : World → α → List Value → Prop}
theorem NR_append (hF : ∀ {W W' : World} {p : α} {c : List Value}, Num3 W W' → R W p c → R W' p c) {w0 W : World} (base size : Nat) (hgd : o.guard = none) (s x : Operand) (t e : TypeId) (z : Value) (bytes : Nat)
  (ho : o.op = .call { callee := .builtin .append, args := #[s, x], argTypes := #[t, t] })
  (ht : P.underlying t = some (.slice e)) (hinfo : (P.info? e).map (fun i => (i.zero, i.size, i.bytes)) = some (some z, size, bytes)) (hz : z.cells.size = size) (hs0 : 0 < size) (hb0 : 0 < bytes) (he : e ≠ 3)
  (v : Value) (xs : List α) (p : α) (cs : List Value) (hs : a.eval s = v) (hx : a.eval x = .slice (some ⟨W.heap.size, 0, none⟩) 1 1) (hp : R W p cs) (h1 : cs.length = size ∧ ∀ u ∈ cs, u.oneCell' = true)
  (HO : NR R e size W base v xs) (HB : Below base w0 W) (hbase : base ≤ W.heap.size) (hl : (xs.length + 1) * bytes ≤ 140737488355328)
  (h : ∀ v1 w1, NR R e size w1 base v1 (xs ++ [p]) → Below base w0 w1 → Num3 W w1 → W.grownBy w1 v.ownBlock → (v1.ownBlock = v.ownBlock ∨ ∃ b, v1.ownBlock = some b ∧ W.heap.size ≤ b) → wpList P ops Q rest (a.put o.dst v1) w1) :
  wpList P ops Q (o :: rest) a (W.alloc (.cells cs.toArray e)) := by
 refine OR_append (w0 := w0) base size hgd s x t e z bytes ho ht hinfo hz hs0 hb0 v xs p cs hs hx hp h1.1 h1.2 HO HB hbase hl ?_
 intro v1 w1 h1 h2 h3 h4
 have hn : Num3 W w1 := Num3.grown h3 (fun g hg => by
  obtain ⟨_, cells, hc⟩ := HO.block g hg
  exact ⟨cells, e, hc, he⟩)
 exact h v1 w1 (h1.imp_ (fun f c hf => hF hn hf)) h2 hn h3 h4
theorem NR_append_step (hF : ∀ {W W' : World} {p : α} {c : List Value}, Num3 W W' → R W p c → R W' p c) {w0 W : World} (base size : Nat) (hw : Region.wanted o (yielded ops a.tmps) = true) (s x : Operand) (t e : TypeId) (z : Value) (bytes : Nat)
  (ho : o.op = .call { callee := .builtin .append, args := #[s, x], argTypes := #[t, t] })
  (ht : P.underlying t = some (.slice e)) (hinfo : (P.info? e).map (fun i => (i.zero, i.size, i.bytes)) = some (some z, size, bytes)) (hz : z.cells.size = size) (hs0 : 0 < size) (hb0 : 0 < bytes) (he : e ≠ 3)
  (v : Value) (xs : List α) (p : α) (cs : List Value) (hs : a.eval s = v) (hx : a.eval x = .slice (some ⟨W.heap.size, 0, none⟩) 1 1) (hp : R W p cs) (h1 : cs.length = size ∧ ∀ u ∈ cs, u.oneCell' = true)
  (HO : NR R e size W base v xs) (HB : Below base w0 W) (hbase : base ≤ W.heap.size) (hl : (xs.length + 1) * bytes ≤ 140737488355328)
  (h : ∀ v1 w1, NR R e size w1 base v1 (xs ++ [p]) → Below base w0 w1 → Num3 W w1 → W.grownBy w1 v.ownBlock → (v1.ownBlock = v.ownBlock ∨ ∃ b, v1.ownBlock = some b ∧ W.heap.size ≤ b) → K (a.put o.dst v1) w1) :
  if Region.wanted o (yielded ops a.tmps) = true then Oper.wp P o a (W.alloc (.cells cs.toArray e)) K Q else K (a.put o.dst undef) (W.alloc (.cells cs.toArray e)) := by
 refine OwnRow.append_step (w0 := w0) base hw s x t e z size bytes ho ht hinfo hz hs0 hb0 v xs p cs hs hx hp h1.1 h1.2 HO HB hbase hl ?_
 intro v1 w1 h1 h2 h3 h4
 have hn : Num3 W w1 := Num3.grown h3 (fun g hg => by
  obtain ⟨_, cells, hc⟩ := HO.block g hg
  exact ⟨cells, e, hc, he⟩)
 exact h v1 w1 (h1.imp_ (fun f c hf => hF hn hf)) h2 hn h3 h4
end
def manifest_All.f (a0_0 : Int) (a0_1 : Int) (a0_2 : Int) (a0_3 : Int) (a0_4 : Int) (a0_5 : Int) (a0_6 : Int) (a0_7 : ByteArray) : Option Int := if MF.B ⟨a0_0, a0_1, a0_2, a0_3, a0_4, a0_5, a0_6, a0_7⟩ ∧ a0_7.size = 32 then some (MF.N ⟨a0_0, a0_1, a0_2, a0_3, a0_4, a0_5, a0_6, a0_7⟩ + MF.A ⟨a0_0, a0_1, a0_2, a0_3, a0_4, a0_5, a0_6, a0_7⟩) else none
theorem manifest_All.calls (a0_0 : Int) (a0_1 : Int) (a0_2 : Int) (a0_3 : Int) (a0_4 : Int) (a0_5 : Int) (a0_6 : Int) (a0_7 : ByteArray) (r : Int) (w : World) (h : manifest_All.f a0_0 a0_1 a0_2 a0_3 a0_4 a0_5 a0_6 a0_7 = some r) :
  Calls Tryz.prog 79 #[.agg #[.int .i64 a0_0, .int .i64 a0_1, .int .i64 a0_2, .int .i64 a0_3, .int .i64 a0_4, .int .i64 a0_5, .int .i64 a0_6, .string a0_7]] w fun e w' => e = .returned (.int .i64 r) ∧ Below w.heap.size w w' := by
 unfold manifest_All.f at h
 split at h
 ·rename_i hc
  obtain rfl := Option.some.inj h
  exact all_ok ((MF.B_iff _).1 hc.1) hc.2 w
 ·exact absurd h (by simp)
end Go.Proofs.YtjmooillogojkaaGreat.Q
namespace Go.Proofs.YtjmooillogojkaaGreat.Q
open Go.RowKit Go.Proofs.YtjmooillogojkaaGreatW.PrintWords Go.Proofs.YtjmooillogojkaaGreatW.PrintLast Go.Proofs.YtjmooillogojkaaGreatW.PrintMore
open Go.Proofs.YtjmooillogojkaaGreat
attribute [local go_sem] max2_int min2_int max_two min_two max_three min_three max_four min_four
def bits_Has.f (a0 : ByteArray) (a1 : Int) : Option (Bool) := if a1 ≥ 0 then (if (wrap64 (Int.tdiv a1 8)) < (a0.size : Int) then (if 0 ≤ (wrap64 (Int.tdiv a1 8)) then (if 0 ≤ (Int.tmod a1 8) then (some ((Go.bits .and .u8 (shr .u8 (bt a0 (wrap64 (Int.tdiv a1 8))) (Int.tmod a1 8)) 1) == 1)) else (none)) else (none)) else (some false)) else (some false)
theorem bits_Has.calls (a0 : ByteArray) (a1 : Int) (r : Bool) (w : World) (h : bits_Has.f a0 a1 = some r) :
  Calls Tryz.prog 121 #[.string a0, .int .i64 a1] w fun e w' => e = .returned (.bool r) ∧ Drawn0 w w' := by
 have H : (if a1 ≥ 0 then (if (wrap64 (Int.tdiv a1 8)) < (a0.size : Int) then (if 0 ≤ (wrap64 (Int.tdiv a1 8)) then (if 0 ≤ (Int.tmod a1 8) then (some ((Go.bits .and .u8 (shr .u8 (bt a0 (wrap64 (Int.tdiv a1 8))) (Int.tmod a1 8)) 1) == 1)) else (none)) else (none)) else (some false)) else (some false)) = some r := h
 clear h
 by_cases c3 : a1 ≥ 0
 ·rw [if_pos c3] at H
  have c3b0 : decide (0 ≤ a1) = true := decide_eq_true c3
  clear c3
  by_cases c4 : (wrap64 (Int.tdiv a1 8)) < (a0.size : Int)
  ·rw [if_pos c4] at H
   have c4b0 : decide ((wrap64 (Int.tdiv a1 8)) < (a0.size : Int)) = true := decide_eq_true c4
   clear c4
   obtain ⟨ji5, hji5⟩ : ∃ j_ : Int, (wrap64 (Int.tdiv a1 8)) = j_ := ⟨_, rfl⟩
   replace H : (if 0 ≤ (ji5) then (if 0 ≤ (Int.tmod a1 8) then (some ((Go.bits .and .u8 (shr .u8 (bt a0 (ji5)) (Int.tmod a1 8)) 1) == 1)) else (none)) else (none)) = some r := by first | (rw [hji5] at H; exact H) | (simp only [hji5] at H ⊢; exact H)
   (try rw [hji5] at c4b0)
   have hji5w : (IntKind.i64.wrap (Int.tdiv a1 8)) = ji5 := (i64_w _).trans hji5
   by_cases c6 : 0 ≤ (ji5)
   ·rw [if_pos c6] at H
    have c6b0 : decide (0 ≤ (ji5)) = true := decide_eq_true c6
    clear c6
    obtain ⟨ji8, hji8⟩ : ∃ j_ : Int, (Int.tmod a1 8) = j_ := ⟨_, rfl⟩
    replace H : (if 0 ≤ (ji8) then (some ((Go.bits .and .u8 (shr .u8 (bt a0 (ji5)) (ji8)) 1) == 1)) else (none)) = some r := by first | (rw [hji8] at H; exact H) | (simp only [hji8] at H ⊢; exact H)
    by_cases c9 : 0 ≤ (ji8)
    ·rw [if_pos c9] at H
     have c9b0 := eq_true c9
     have c9b1 : decide (0 ≤ (ji8)) = true := decide_eq_true c9
     clear c9
     obtain ⟨ji10, hji10⟩ : ∃ j_ : Int, (shr .u8 (bt a0 (ji5)) (ji8)) = j_ := ⟨_, rfl⟩
     replace H : (some ((Go.bits .and .u8 (ji10) 1) == 1)) = some r := by first | (rw [hji10] at H; exact H) | (simp only [hji10] at H ⊢; exact H)
     have hji10_ : ((bt a0 (ji5)) / 2 ^ min (ji8).toNat 8) = ji10 := hji10
     have hji10z : (ji8) ≤ 8 → ((bt a0 (ji5)) / 2 ^ (ji8).toNat) = ji10 := shr_small hji10
     obtain rfl := Option.some.inj H
     have p7 : 0 ≤ ((ji5) : Int) := of_decide_eq_true ja
     have q7 : (ji5) < (a0.size : Int) := of_decide_eq_true ja
     have hx7 := bt_at a0 (ji5)
     replace p7 := eq_true p7
     replace q7 := eq_true q7
     go_enter Tryz.func121, Tryz.ntmps121
     go_wp2
     go_ret
     exact ⟨by first | rfl | (simp; done) | (simp only [← hji5, ← hji8, ← hji10] <;> (first | rfl | simp)) | (simp [*]; done), jd⟩
    ·rw [if_neg c9] at H
     exact absurd H (by simp)
   ·rw [if_neg c6] at H
    exact absurd H (by simp)
  ·rw [if_neg c4] at H
   have c4b0 : decide ((wrap64 (Int.tdiv a1 8)) < (a0.size : Int)) = false := decide_eq_false c4
   clear c4
   obtain rfl := Option.some.inj H
   go_enter Tryz.func121, Tryz.ntmps121
   go_wp2
   go_ret
   exact ⟨by first | rfl | (simp; done) | (simp [*]; done), jd⟩
 ·rw [if_neg c3] at H
  have c3b0 : decide (0 ≤ a1) = false := decide_eq_false c3
  clear c3
  obtain rfl := Option.some.inj H
  go_enter Tryz.func121, Tryz.ntmps121
  go_wp2
  go_ret
  exact ⟨by first | rfl | (simp; done) | (simp [*]; done), jd⟩
end Go.Proofs.YtjmooillogojkaaGreat.Q
