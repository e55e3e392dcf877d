/-
 Parts of the proofs of the laws FnCheckLive, FnCodeFenced, FnEraseCode, FnEraseSecret, FnFinalRegs, FnLiveRegister, FnLiveRegs, FnSpecPath.
-/
import Derived.Test.YtkjedgnepnbkpaaZA
import Derived.Test.YtkjedgnepnbkpaaZB
import Derived.Test.YtkjedgnepnbkpaaTK
set_option linter.all false
namespace Go.Proofs.Ytkjedgnepnbkpaa
open Go.RowKit
set_option maxHeartbeats 6400000 in
set_option maxRecDepth 100000 in
theorem l6State_any (pv pa pl : Option Addr) (nv cv na ca nl cl : Nat) (B g p : Nat) (w : World) (hR : Rnd w B g p) (hp : p + 6000 ≤ 1000000000) (hnv : nv ≤ 1000) (hna : na ≤ 1000) (hnl : nl ≤ 1000) :
  Calls Try.prog 113 #[.pointer (some ⟨g, 0, none⟩), .agg #[.slice pv nv cv, .slice pa na ca, .slice pl nl cl]] w fun r w' => ∃ (ur ux uy : Value) (s : Ms) (p' : Nat), r = .returned (.agg #[.int .i64 s.pc, ur, ux, uy]) ∧ DrS w' w.heap.size ur ux uy s ∧ Rnd w' B g p' ∧ p' ≤ p + 6000 ∧ Chg (fun q => q = g) w w' := by
 have hg := hR.lt
 have hC : Chg (fun k => k = g) w w := Chg.refl _ _
 have r0 : ∀ q, (fun k => k = g) q → q = g := fun q h => h
 go_enter Try.func113, Try.ntmps113
 go_wp2_with fail
 refine (l6Heads_any pv pa pl nv na nl cv ca cl _).mono ?_
 rintro e w1 ⟨rfl, hb⟩
 replace hC := (((hC.trans (Chg.of_below (bal (Bs _) _))).trans (Chg.of_below (bal (Bs _) _)))).trans (Chg.of_below hb)
 replace hR := ((hR.below (bal (Bs _) _)).below (bal (Bs _) _)).below hb
 have y3 := hb.size
 simp only [Sa] at y3
 have b1 : Bk w1 (w.heap.size) [.slice pv nv cv, .slice pa na ca, .slice pl nl cl] := Bk.below (Bk.al (Bk.nw (by simp) rfl) (.cells #[.int .i64 0, .slice none 0 0, .slice none 0 0, .slice none 0 0] 39)) hb
 have g1 : Bk w1 (w.heap.size + 1) [.int .i64 0, .slice none 0 0, .slice none 0 0, .slice none 0 0] := Bk.below (Bk.nw (by simp) rfl) hb
 clear hb
 have a9 := Bk.lz b1
 have b9 := Bk.lz g1
 go_wp2_with fail
 refine (l3Memory_any pv pa nv cv na ca (.slice none 0 0) B g (p) _ hR (by omega) hnv hna).mono ?_
 rintro e w2 ⟨ux, uy, us, m, p1, rfl, oM, o8, q8, o5, i0, iA, hc⟩
 try simp only [Sa, Ss] at oM
 obtain ⟨px, tx, py, ty, rfl, rfl⟩ := oM.shape
 have x2 : Hid (∀ r ∈ m.arrs, 3 ≤ r.length ∧ r.length ≤ 4) := Lib.hid (fun r hr => by have := o5 r hr; omega)
 clear o5
 have u1 : m.vals.length ≤ 1000 := by omega
 have v1 : m.arrs.length ≤ 1000 := by omega
 clear o8 q8
 replace hC := (hC).trans hc
 replace hR := i0; clear i0
 have u8 := hc.size
 replace b1 := Bk.kg b1 hc
 replace g1 := Bk.kg g1 hc
 clear hc
 have i4 := oM.lt
 replace a9 := Bk.lz b1
 replace b9 := Bk.lz g1
 go_upto_region 2 with (fail)
 obtain ⟨w3, g0, hb⟩ := nmw (World.alloc w2 (.cells #[.int .i64 0, .slice none 0 0, .slice px m.vals.length tx, .slice py m.arrs.length ty] 39))
 replace hC := ((hC.trans (Chg.of_below (bal (Bs _) _)))).trans (Chg.of_below hb)
 replace hR := (hR.below (bal (Bs _) _)).below hb
 have d4 := hb.size
 simp only [Sa] at d4
 replace oM := (oM.below (bal (Bs _) _)).below hb
 replace b1 := Bk.below (Bk.al b1 _) hb
 replace g1 := Bk.below (Bk.al g1 _) hb
 have c2 : Bk w3 (w2.heap.size) [.int .i64 0, .slice none 0 0, .slice px m.vals.length tx, .slice py m.arrs.length ty] := Bk.below (Bk.nw (by simp) rfl) hb
 clear hb
 rw [← g0]
 clear g0
 have y8 := Bk.lz c2
 have dA : w.heap.size ≤ w.heap.size + 1 ∧ w.heap.size ≤ w2.heap.size := by omega
 obtain ⟨p4, a5⟩ := Bk.cf b1 2 rfl
 go_upto_if 15 with (fail)
 clear a5 p4
 go_cut [] (fun wx => ∃ (pc : Int) (pk : Nat), Bk wx (w2.heap.size) [.int .i64 pc, .slice none 0 0, .slice px m.vals.length tx, .slice py m.arrs.length ty] ∧ Bk wx (w.heap.size) [.slice pv nv cv, .slice pa na ca, .slice pl nl cl] ∧ Bk wx (w.heap.size + 1) [.int .i64 0, .slice none 0 0, .slice none 0 0, .slice none 0 0] ∧ OwnM wx w1.heap.size (.slice px m.vals.length tx) (.slice py m.arrs.length ty) us m ∧ Rnd wx B g pk ∧ pk ≤ p1 + 1 ∧ Chg (fun q => q = g) w wx ∧ w3.heap.size ≤ wx.heap.size)
 case first =>
  by_cases hl0 : nl < 1
  ·have s8 : decide ((0 : Int) < (nl : Int)) = false := decide_eq_false (by omega)
   have mA : ¬ (0 : Int) < (nl : Int) := by omega
   go_wp2_with fail
   go_meet
   exact ⟨0, p1, c2, b1, g1, oM, hR, by omega, hC, Nat.le_refl _⟩
  have s8 : (0 : Int) < (nl : Int) := by omega
  obtain ⟨q4, b5⟩ := Bk.cf b1 2 rfl
  go_wp2_with fail
  refine (pick_any _ _ B g (p1) hR (by omega) (by omega) (by omega)).mono ?_
  rintro e w4 ⟨pc, rA, sA, rfl, i0, hc⟩
  replace hC := (hC).trans hc
  replace hR := i0; clear i0
  have q5 := hc.size
  clear b5 q4
  replace oM := oM.keep hc (fun gq h h2 => by have := i4 gq h; have := r0 gq h2; omega)
  replace b1 := Bk.kg b1 hc
  replace g1 := Bk.kg g1 hc
  replace c2 := Bk.kg c2 hc
  clear hc
  obtain ⟨d9, q9⟩ := Bk.cf c2 0 rfl
  have y2 := Lib.hid (And.intro (Bk.at c2 0 (.int .i64 pc)) (And.intro (Bk.ne (b' := (w2.heap.size)) (j' := 0) b1 (by omega) (.int .i64 pc)) (And.intro (Bk.ne (b' := (w2.heap.size)) (j' := 0) g1 (by omega) (.int .i64 pc)) (And.intro (oM.keep (C1 (w2.heap.size) 0 (.int .i64 pc)) (fun gq h h2 => by have := i4 gq h; omega)) (And.intro (hR.keep (C1 (w2.heap.size) (0) (.int .i64 pc)) (by omega) (fun _ _ => by omega)) (hC.setNew (w2.heap.size) (0) (.int .i64 pc) (Or.inr (by omega))))))))
  clear hR hC oM
  go_wp2_with fail
  go_meet
  exact ⟨pc, p1 + 1, y2.out.1, y2.out.2.1, y2.out.2.2.1, y2.out.2.2.2.1, y2.out.2.2.2.2.1, by omega, y2.out.2.2.2.2.2, by (try simp only [Ss]); omega⟩
 clear hR hC b1 g1 oM c2
 obtain ⟨l0, rfl⟩ : ∃ W, W = wc := ⟨_, rfl⟩
 obtain ⟨pc, o4, a0, c0, b0, oM, hR, r8, hC, oA⟩ := hcut
 have iM : ∀ q, OwnBM (.slice px m.vals.length tx) (.slice py m.arrs.length ty) us q → w1.heap.size ≤ q ∧ q < w2.heap.size := fun q h => by have := i4 q h; omega
 have k4 := Bk.lz a0
 have l4 := Bk.lz c0
 have m4 := Bk.lz b0
 go_upto_region 4 with (fail)
 replace k4 := Bk.lz a0
 replace l4 := Bk.lz c0
 replace m4 := Bk.lz b0
 have l5 : Hid (∃ (k pk : Nat) (rs : List Int) (a : Option Addr) (c : Nat), Value.int .i64 0 = .int .i64 k ∧ k ≤ 14 ∧ Hid (rs.length = k) ∧ l0.ownsRow l0.heap.size 3 1 (.slice a k c) k (ints rs) ∧ Bk l0 (w2.heap.size) [.int .i64 pc, .slice a k c, .slice px m.vals.length tx, .slice py m.arrs.length ty] ∧ Bk l0 (w.heap.size) [.slice pv nv cv, .slice pa na ca, .slice pl nl cl] ∧ Bk l0 (w.heap.size + 1) [.int .i64 0, .slice none 0 0, .slice none 0 0, .slice none 0 0] ∧ OwnM l0 w1.heap.size (.slice px m.vals.length tx) (.slice py m.arrs.length ty) us m ∧ Rnd l0 B g pk ∧ pk ≤ o4 + k ∧ Chg (fun q => q = g) w l0 ∧ l0.heap.size ≤ l0.heap.size) := Lib.hid ⟨0, o4, [], none, 0, rfl, by omega, Lib.hid rfl, World.ownsRow_nil _ _ _ _, a0, c0, b0, oM, hR, by omega, hC, Nat.le_refl _⟩
 have v8 : w.heap.size < l0.heap.size ∧ w.heap.size + 1 < l0.heap.size ∧ w2.heap.size < l0.heap.size ∧ w1.heap.size ≤ l0.heap.size := by omega
 clear hR hC a0 c0 b0 oM
 go_wp2_with fail
 go_loopw [6] (fun i wr => ∃ (k pk : Nat) (rs : List Int) (a : Option Addr) (c : Nat), i = .int .i64 k ∧ k ≤ 14 ∧ Hid (rs.length = k) ∧ wr.ownsRow l0.heap.size 3 1 (.slice a k c) k (ints rs) ∧ Bk wr (w2.heap.size) [.int .i64 pc, .slice a k c, .slice px m.vals.length tx, .slice py m.arrs.length ty] ∧ Bk wr (w.heap.size) [.slice pv nv cv, .slice pa na ca, .slice pl nl cl] ∧ Bk wr (w.heap.size + 1) [.int .i64 0, .slice none 0 0, .slice none 0 0, .slice none 0 0] ∧ OwnM wr w1.heap.size (.slice px m.vals.length tx) (.slice py m.arrs.length ty) us m ∧ Rnd wr B g pk ∧ pk ≤ o4 + k ∧ Chg (fun q => q = g) w wr ∧ l0.heap.size ≤ wr.heap.size) (fun i _ => 14 - (intOf i).toNat)
 case atStart => exact l5.out
 case round =>
  obtain ⟨k, pk, rs, a, c, rfl, hk, v3, oX, a0, c0, b0, oM, hR, lA, hC, pA⟩ := hrel
  clear l5
  obtain ⟨wl, rfl⟩ : ∃ X, X = wr := ⟨_, rfl⟩
  have iX := oX.lt
  have n0 := Bk.lz a0
  have o0 := Bk.lz c0
  have p0 := Bk.lz b0
  by_cases hlt : k < 14
  ·have p5 : (k : Int) < 14 := by omega
   go_upto_region 7 with (fail)
   refine wp_region_noPanic ?_
   refine wp_region_held_drew (S := (fun W' => True)) (by kernel_rfl) trivial (fun hHeld => ?_)
   obtain ⟨w6, k2⟩ : ∃ X, X = World.drew wl := ⟨_, rfl⟩
   rw [← k2]
   have hb : Below wl.heap.size wl w6 := by rw [k2]; exact Below.drew (Bs _)
   clear k2
   replace hC := (hC).trans (Chg.of_below hb)
   replace hR := hR.below hb
   have r5 := hb.size
   replace oX := Ob oX hb
   replace oM := oM.below hb
   replace a0 := Bk.below a0 hb
   replace c0 := Bk.below c0 hb
   replace b0 := Bk.below b0 hb
   clear hb
   replace n0 := Bk.lz a0
   replace o0 := Bk.lz c0
   replace p0 := Bk.lz b0
   refine (tq 0 26 rfl rfl ?_ ?_ (tq 2 28 rfl rfl ?_ ?_ ?_))
   iterate 2 (rotate_left; intro W' hSw; clear hSw; go_simp; try with_reducible rfl)
   try simp only [Ep]
   refine Rdy2 1 3 rfl rfl (fun K hK => ?_) (fun K hK => ?_)
   ·obtain ⟨r4, c5⟩ := Bk.cf a0 1 rfl
    go_simp
    refine hK.out _ _ trivial (fun hHeld => ?_)
    clear hK K
    try simp only [Ep]
    refine Rdy 3 rfl (fun K hK => ?_)
    go_simp
    refine (l3Value_any B g (pk) _ hR (by omega)).mono ?_
    rintro e w7 ⟨z1, rfl, x8, i0, hc⟩
    replace hC := (hC).trans hc
    replace hR := i0; clear i0
    have s5 := hc.size
    clear c5 r4
    replace oX := Ow oX hc (fun gq h h2 => by have := iX gq h; have := r0 gq h2; omega)
    replace oM := oM.keep hc (fun gq h h2 => by have := iM gq h; have := r0 gq h2; omega)
    replace a0 := Bk.kg a0 hc
    replace c0 := Bk.kg c0 hc
    replace b0 := Bk.kg b0 hc
    clear hc
    replace n0 := Bk.lz a0
    replace o0 := Bk.lz c0
    replace p0 := Bk.lz b0
    refine hK.out _ _ trivial (fun hHeld => ?_)
    clear hK K
    try simp only [Ep]
    refine Rdy 4 rfl (fun K hK => ?_)
    go_simp
    obtain ⟨w8, g0, hb⟩ := nmw (World.alloc w7 (.cells #[.int .i64 z1] 3))
    replace hC := ((hC.trans (Chg.of_below (bal (Bs _) _)))).trans (Chg.of_below hb)
    replace hR := (hR.below (bal (Bs _) _)).below hb
    have u0 := Ob (World.ownsRow_lit (base := (w7).heap.size) (e := 3) (size := 1) (w7) #[.int .i64 z1] 1 (Nat.le_refl _) (by unfold maxLen; omega) (by simp)) hb
    try simp only [Sa, Ss] at u0
    have b3 := hb.size
    simp only [Sa] at b3
    replace oX := Ob (Ob oX (bal (Bs _) _)) hb
    replace oM := (oM.below (bal (Bs _) _)).below hb
    replace a0 := Bk.below (Bk.al a0 _) hb
    replace c0 := Bk.below (Bk.al c0 _) hb
    replace b0 := Bk.below (Bk.al b0 _) hb
    have s0 : w8.cell? ⟨w7.heap.size, 0, none⟩ = some (.int .i64 z1) := Kc hb (Wc (by simp) (by rfl))
    have q1 : w8.frozen? ⟨w7.heap.size, 0, none⟩ = false := Kf hb (by simp <;> omega) (Fn (by simp))
    clear hb
    have n2 := u0.lt
    try simp only [Sa] at n2
    rw [← g0]
    clear g0
    replace n0 := Bk.lz a0
    replace o0 := Bk.lz c0
    replace p0 := Bk.lz b0
    have z8 := Lc s0
    refine hK.out _ _ trivial (fun hHeld => ?_)
    clear hK K
    try simp only [Ep]
    refine Rdy 5 rfl (fun K hK => ?_)
    refine step_aps tInts rfl _ _ rfl (l0.heap.size) _ k (ints rs) rfl oX _ 1 (ints [z1]) rfl ((Ro u0 (by simp))) (one_ints [z1]) (by omega) (by first | omega | (simp only [Sa, Ss]; omega)) ?_
    intro vA w9 c1 hc z2 _
    obtain ⟨q2, t2, rfl⟩ := Oh c1
    replace hC := chg_app hC hc (fun q hq h => by have := iX q h; omega)
    replace hR := hR.keep hc (fun h => by have := iX _ h; omega) (fun k hk h => by have := iX _ h; omega)
    have t5 := hc.size
    replace q1 := Gf hc (Lc s0) q1 (fun h => by have := iX _ h; omega)
    replace oM := oM.keep hc (fun gq h h2 => by have := iM gq h; have := iX gq h2; omega)
    replace s0 := Gc hc s0 (fun h => by have := iX _ h; omega)
    replace u0 := Ow u0 hc (fun gq h h2 => by have := n2 gq h; have := iX gq h2; omega)
    replace a0 := Bk.keep a0 hc (fun h => by have := iX _ h; omega)
    replace c0 := Bk.keep c0 hc (fun h => by have := iX _ h; omega)
    replace b0 := Bk.keep b0 hc (fun h => by have := iX _ h; omega)
    clear hc
    have e4 := c1.lt
    clear z2 oX
    refine hK.out _ _ trivial (fun hHeld => ?_)
    clear hK K
    try simp only [Ep]
    refine (tq 6 32 rfl rfl ?_ ?_ ?_)
    (rotate_left; intro W' hSw; clear hSw; go_simp; try with_reducible rfl)
    try simp only [Ep]
    refine Rdy 7 rfl (fun K hK => ?_)
    obtain ⟨s4, d5⟩ := Bk.cf a0 1 rfl
    go_simp
    obtain ⟨k1, g0, hb⟩ := nmw (World.setCell w9 ⟨w2.heap.size, 1, none⟩ (.slice q2 (k + 1) t2))
    replace hC := ((hC.setNew _ _ _ (Or.inr (by omega)))).trans (Chg.of_below hb)
    replace hR := (hR.keep (C1 _ _ _) (by omega) (fun _ _ => by omega)).below hb
    have c3 := hb.size
    simp only [Ss] at c3
    clear d5 s4
    replace q1 := Kf hb (Lc (Nc s0 (by omega) _)) (Fs q1 _)
    replace oM := (oM.keep (C1 _ _ _) (fun gq h h2 => by have := iM gq h; omega)).below hb
    replace s0 := Kc hb (Nc s0 (by omega) _)
    replace u0 := Ob (Oe u0 _ _ (fun h => by have := n2 _ h; omega) _) hb
    replace c1 := Ob (Oe c1 _ _ (fun h => by have := e4 _ h; omega) _) hb
    replace a0 : Bk k1 (w2.heap.size) [.int .i64 pc, .slice q2 (k + 1) t2, .slice px m.vals.length tx, .slice py m.arrs.length ty] := Bk.below (Bk.at a0 1 (.slice q2 (k + 1) t2)) hb
    replace c0 := Bk.below (Bk.ne c0 (by omega) _) hb
    replace b0 := Bk.below (Bk.ne b0 (by omega) _) hb
    clear hb
    rw [← g0]
    clear g0
    refine hK.out _ _ trivial (fun hHeld => ?_)
    clear hK K
    try simp only [Ep]
    refine wpAnyH_done (by kernel_rfl) ?_ _
    refine NoPanic.normal ?_
    clear hHeld
    have HO := Lib.hid (show k1.ownsRow l0.heap.size 3 1 _ (k + 1) (ints (rs ++ [z1])) from by rw [ints_append]; exact c1)
    have f1 : Hid ((rs ++ ([z1] : List Int)).length = k + 1) := Lib.hid (by rw [List.length_append, v3.out]; rfl)
    have HH := Lib.hid (And.intro hR (And.intro hC oM)); clear hR hC oM c1
    obtain ⟨e9, r9⟩ := Bk.cf a0 1 rfl
    go_wp2
    go_roundw
    case rel => exact ⟨k + 1, pk + 1, rs ++ [z1], _, _, by go_num, by omega, f1, HO.out, a0, c0, b0, HH.out.2.2, HH.out.1, by omega, HH.out.2.1, by omega⟩
    case measure => simp [intOf]; omega
   obtain ⟨t4, e5⟩ := Bk.cf a0 1 rfl
   go_simp
   refine (l3Value_any B g (pk) _ hR (by omega)).mono ?_
   rintro e w7 ⟨z1, rfl, x8, i0, hc⟩
   replace hC := (hC).trans hc
   replace hR := i0; clear i0
   have u5 := hc.size
   clear e5 t4
   replace oX := Ow oX hc (fun gq h h2 => by have := iX gq h; have := r0 gq h2; omega)
   replace oM := oM.keep hc (fun gq h h2 => by have := iM gq h; have := r0 gq h2; omega)
   replace a0 := Bk.kg a0 hc
   replace c0 := Bk.kg c0 hc
   replace b0 := Bk.kg b0 hc
   clear hc
   replace n0 := Bk.lz a0
   replace o0 := Bk.lz c0
   replace p0 := Bk.lz b0
   refine hK.out _ _ trivial (fun hHeld => ?_)
   clear hK K
   try simp only [Ep]
   refine Rdy2 1 4 rfl rfl (fun K hK => ?_) (fun K hK => ?_)
   ·obtain ⟨u4, f5⟩ := Bk.cf a0 1 rfl
    go_simp
    replace n0 := Bk.lz a0
    replace o0 := Bk.lz c0
    replace p0 := Bk.lz b0
    refine hK.out _ _ trivial (fun hHeld => ?_)
    clear hK K
    try simp only [Ep]
    refine Rdy 4 rfl (fun K hK => ?_)
    go_simp
    obtain ⟨w8, g0, hb⟩ := nmw (World.alloc w7 (.cells #[.int .i64 z1] 3))
    replace hC := ((hC.trans (Chg.of_below (bal (Bs _) _)))).trans (Chg.of_below hb)
    replace hR := (hR.below (bal (Bs _) _)).below hb
    have v0 := Ob (World.ownsRow_lit (base := (w7).heap.size) (e := 3) (size := 1) (w7) #[.int .i64 z1] 1 (Nat.le_refl _) (by unfold maxLen; omega) (by simp)) hb
    try simp only [Sa, Ss] at v0
    have d3 := hb.size
    simp only [Sa] at d3
    clear f5 u4
    replace oX := Ob (Ob oX (bal (Bs _) _)) hb
    replace oM := (oM.below (bal (Bs _) _)).below hb
    replace a0 := Bk.below (Bk.al a0 _) hb
    replace c0 := Bk.below (Bk.al c0 _) hb
    replace b0 := Bk.below (Bk.al b0 _) hb
    have t0 : w8.cell? ⟨w7.heap.size, 0, none⟩ = some (.int .i64 z1) := Kc hb (Wc (by simp) (by rfl))
    have r1 : w8.frozen? ⟨w7.heap.size, 0, none⟩ = false := Kf hb (by simp <;> omega) (Fn (by simp))
    clear hb
    have o2 := v0.lt
    try simp only [Sa] at o2
    rw [← g0]
    clear g0
    replace n0 := Bk.lz a0
    replace o0 := Bk.lz c0
    replace p0 := Bk.lz b0
    have c9 := Lc t0
    refine hK.out _ _ trivial (fun hHeld => ?_)
    clear hK K
    try simp only [Ep]
    refine Rdy 5 rfl (fun K hK => ?_)
    refine step_aps tInts rfl _ _ rfl (l0.heap.size) _ k (ints rs) rfl oX _ 1 (ints [z1]) rfl ((Ro v0 (by simp))) (one_ints [z1]) (by omega) (by first | omega | (simp only [Sa, Ss]; omega)) ?_
    intro vA w9 d1 hc z2 _
    obtain ⟨r2, u2, rfl⟩ := Oh d1
    replace hC := chg_app hC hc (fun q hq h => by have := iX q h; omega)
    replace hR := hR.keep hc (fun h => by have := iX _ h; omega) (fun k hk h => by have := iX _ h; omega)
    have v5 := hc.size
    replace r1 := Gf hc (Lc t0) r1 (fun h => by have := iX _ h; omega)
    replace oM := oM.keep hc (fun gq h h2 => by have := iM gq h; have := iX gq h2; omega)
    replace t0 := Gc hc t0 (fun h => by have := iX _ h; omega)
    replace v0 := Ow v0 hc (fun gq h h2 => by have := o2 gq h; have := iX gq h2; omega)
    replace a0 := Bk.keep a0 hc (fun h => by have := iX _ h; omega)
    replace c0 := Bk.keep c0 hc (fun h => by have := iX _ h; omega)
    replace b0 := Bk.keep b0 hc (fun h => by have := iX _ h; omega)
    clear hc
    have h4 := d1.lt
    clear z2 oX
    refine hK.out _ _ trivial (fun hHeld => ?_)
    clear hK K
    try simp only [Ep]
    refine (tq 6 32 rfl rfl ?_ ?_ ?_)
    (rotate_left; intro W' hSw; clear hSw; go_simp; try with_reducible rfl)
    try simp only [Ep]
    refine Rdy 7 rfl (fun K hK => ?_)
    obtain ⟨v4, g5⟩ := Bk.cf a0 1 rfl
    go_simp
    obtain ⟨k1, g0, hb⟩ := nmw (World.setCell w9 ⟨w2.heap.size, 1, none⟩ (.slice r2 (k + 1) u2))
    replace hC := ((hC.setNew _ _ _ (Or.inr (by omega)))).trans (Chg.of_below hb)
    replace hR := (hR.keep (C1 _ _ _) (by omega) (fun _ _ => by omega)).below hb
    have e3 := hb.size
    simp only [Ss] at e3
    clear g5 v4
    replace r1 := Kf hb (Lc (Nc t0 (by omega) _)) (Fs r1 _)
    replace oM := (oM.keep (C1 _ _ _) (fun gq h h2 => by have := iM gq h; omega)).below hb
    replace t0 := Kc hb (Nc t0 (by omega) _)
    replace v0 := Ob (Oe v0 _ _ (fun h => by have := o2 _ h; omega) _) hb
    replace d1 := Ob (Oe d1 _ _ (fun h => by have := h4 _ h; omega) _) hb
    replace a0 : Bk k1 (w2.heap.size) [.int .i64 pc, .slice r2 (k + 1) u2, .slice px m.vals.length tx, .slice py m.arrs.length ty] := Bk.below (Bk.at a0 1 (.slice r2 (k + 1) u2)) hb
    replace c0 := Bk.below (Bk.ne c0 (by omega) _) hb
    replace b0 := Bk.below (Bk.ne b0 (by omega) _) hb
    clear hb
    rw [← g0]
    clear g0
    refine hK.out _ _ trivial (fun hHeld => ?_)
    clear hK K
    try simp only [Ep]
    refine wpAnyH_done (by kernel_rfl) ?_ _
    refine NoPanic.normal ?_
    clear hHeld
    have HO := Lib.hid (show k1.ownsRow l0.heap.size 3 1 _ (k + 1) (ints (rs ++ [z1])) from by rw [ints_append]; exact d1)
    have f1 : Hid ((rs ++ ([z1] : List Int)).length = k + 1) := Lib.hid (by rw [List.length_append, v3.out]; rfl)
    have HH := Lib.hid (And.intro hR (And.intro hC oM)); clear hR hC oM d1
    obtain ⟨f9, s9⟩ := Bk.cf a0 1 rfl
    go_wp2
    go_roundw
    case rel => exact ⟨k + 1, pk + 1, rs ++ [z1], _, _, by go_num, by omega, f1, HO.out, a0, c0, b0, HH.out.2.2, HH.out.1, by omega, HH.out.2.1, by omega⟩
    case measure => simp [intOf]; omega
   go_simp
   obtain ⟨w8, g0, hb⟩ := nmw (World.alloc w7 (.cells #[.int .i64 z1] 3))
   replace hC := ((hC.trans (Chg.of_below (bal (Bs _) _)))).trans (Chg.of_below hb)
   replace hR := (hR.below (bal (Bs _) _)).below hb
   have w0 := Ob (World.ownsRow_lit (base := (w7).heap.size) (e := 3) (size := 1) (w7) #[.int .i64 z1] 1 (Nat.le_refl _) (by unfold maxLen; omega) (by simp)) hb
   try simp only [Sa, Ss] at w0
   have g3 := hb.size
   simp only [Sa] at g3
   replace oX := Ob (Ob oX (bal (Bs _) _)) hb
   replace oM := (oM.below (bal (Bs _) _)).below hb
   replace a0 := Bk.below (Bk.al a0 _) hb
   replace c0 := Bk.below (Bk.al c0 _) hb
   replace b0 := Bk.below (Bk.al b0 _) hb
   have q0 : w8.cell? ⟨w7.heap.size, 0, none⟩ = some (.int .i64 z1) := Kc hb (Wc (by simp) (by rfl))
   have s1 : w8.frozen? ⟨w7.heap.size, 0, none⟩ = false := Kf hb (by simp <;> omega) (Fn (by simp))
   clear hb
   have p2 := w0.lt
   try simp only [Sa] at p2
   rw [← g0]
   clear g0
   have n4 := Lc q0
   refine hK.out _ _ trivial (fun hHeld => ?_)
   clear hK K
   try simp only [Ep]
   refine Rdy 1 rfl (fun K hK => ?_)
   obtain ⟨x4, h5⟩ := Bk.cf a0 1 rfl
   go_simp
   replace n0 := Bk.lz a0
   replace o0 := Bk.lz c0
   replace p0 := Bk.lz b0
   replace n4 := Lc q0
   refine hK.out _ _ trivial (fun hHeld => ?_)
   clear hK K
   try simp only [Ep]
   refine Rdy 5 rfl (fun K hK => ?_)
   refine step_aps tInts rfl _ _ rfl (l0.heap.size) _ k (ints rs) rfl oX _ 1 (ints [z1]) rfl ((Ro w0 (by simp))) (one_ints [z1]) (by omega) (by first | omega | (simp only [Sa, Ss]; omega)) ?_
   intro vA w9 e1 hc z2 _
   obtain ⟨s2, v2, rfl⟩ := Oh e1
   replace hC := chg_app hC hc (fun q hq h => by have := iX q h; omega)
   replace hR := hR.keep hc (fun h => by have := iX _ h; omega) (fun k hk h => by have := iX _ h; omega)
   have w5 := hc.size
   clear h5 x4
   replace s1 := Gf hc (Lc q0) s1 (fun h => by have := iX _ h; omega)
   replace oM := oM.keep hc (fun gq h h2 => by have := iM gq h; have := iX gq h2; omega)
   replace q0 := Gc hc q0 (fun h => by have := iX _ h; omega)
   replace w0 := Ow w0 hc (fun gq h h2 => by have := p2 gq h; have := iX gq h2; omega)
   replace a0 := Bk.keep a0 hc (fun h => by have := iX _ h; omega)
   replace c0 := Bk.keep c0 hc (fun h => by have := iX _ h; omega)
   replace b0 := Bk.keep b0 hc (fun h => by have := iX _ h; omega)
   clear hc
   have j4 := e1.lt
   clear z2 oX
   refine hK.out _ _ trivial (fun hHeld => ?_)
   clear hK K
   try simp only [Ep]
   refine (tq 6 32 rfl rfl ?_ ?_ ?_)
   (rotate_left; intro W' hSw; clear hSw; go_simp; try with_reducible rfl)
   try simp only [Ep]
   refine Rdy 7 rfl (fun K hK => ?_)
   obtain ⟨y4, i5⟩ := Bk.cf a0 1 rfl
   go_simp
   obtain ⟨k1, g0, hb⟩ := nmw (World.setCell w9 ⟨w2.heap.size, 1, none⟩ (.slice s2 (k + 1) v2))
   replace hC := ((hC.setNew _ _ _ (Or.inr (by omega)))).trans (Chg.of_below hb)
   replace hR := (hR.keep (C1 _ _ _) (by omega) (fun _ _ => by omega)).below hb
   have h3 := hb.size
   simp only [Ss] at h3
   clear i5 y4
   replace s1 := Kf hb (Lc (Nc q0 (by omega) _)) (Fs s1 _)
   replace oM := (oM.keep (C1 _ _ _) (fun gq h h2 => by have := iM gq h; omega)).below hb
   replace q0 := Kc hb (Nc q0 (by omega) _)
   replace w0 := Ob (Oe w0 _ _ (fun h => by have := p2 _ h; omega) _) hb
   replace e1 := Ob (Oe e1 _ _ (fun h => by have := j4 _ h; omega) _) hb
   replace a0 : Bk k1 (w2.heap.size) [.int .i64 pc, .slice s2 (k + 1) v2, .slice px m.vals.length tx, .slice py m.arrs.length ty] := Bk.below (Bk.at a0 1 (.slice s2 (k + 1) v2)) hb
   replace c0 := Bk.below (Bk.ne c0 (by omega) _) hb
   replace b0 := Bk.below (Bk.ne b0 (by omega) _) hb
   clear hb
   rw [← g0]
   clear g0
   refine hK.out _ _ trivial (fun hHeld => ?_)
   clear hK K
   try simp only [Ep]
   refine wpAnyH_done (by kernel_rfl) ?_ _
   refine NoPanic.normal ?_
   clear hHeld
   have HO := Lib.hid (show k1.ownsRow l0.heap.size 3 1 _ (k + 1) (ints (rs ++ [z1])) from by rw [ints_append]; exact e1)
   have f1 : Hid ((rs ++ ([z1] : List Int)).length = k + 1) := Lib.hid (by rw [List.length_append, v3.out]; rfl)
   have HH := Lib.hid (And.intro hR (And.intro hC oM)); clear hR hC oM e1
   obtain ⟨g9, t9⟩ := Bk.cf a0 1 rfl
   go_wp2
   go_roundw
   case rel => exact ⟨k + 1, pk + 1, rs ++ [z1], _, _, by go_num, by omega, f1, HO.out, a0, c0, b0, HH.out.2.2, HH.out.1, by omega, HH.out.2.1, by omega⟩
   case measure => simp [intOf]; omega
  have p5 : decide ((k : Int) < 14) = false := decide_eq_false (by omega)
  have t8 : ¬ (k : Int) < 14 := by omega
  go_upto_region 8 with (fail)
  have n8 : k = 14 := by omega
  clear p5 t8 hlt
  subst n8
  obtain ⟨gx, cx, n5⟩ := own_pos oX (by omega)
  simp only [Value.slice.injEq, true_and] at n5
  obtain ⟨rfl, rfl⟩ := n5
  have qA := iX gx rfl
  have m8 : 14 ≤ c := (Ro oX (by omega)).2.2.elim (fun _ h => h.elim (fun _ h => h.elim (fun _ h => h.elim (fun _ h => by have := h.1; simp only [Value.slice.injEq] at this; have := h.2.1.1; omega))))
  have oI : OwnI _ _ gx 14 c := ⟨rs, v3.out, oX⟩
  clear oX iX
  go_wp2_with fail
  refine (pick_any _ _ B g (pk) hR (by omega) (by omega) (by omega)).mono ?_
  rintro e w6 ⟨z, z0, z1, rfl, i0, hc⟩
  replace hC := (hC).trans hc
  replace hR := i0; clear i0
  replace oI := OwnI.keep oI hc (fun h => by have := r0 _ h; omega)
  have x5 := hc.size
  replace oM := oM.keep hc (fun gq h h2 => by have := iM gq h; have := r0 gq h2; omega)
  replace a0 := Bk.kg a0 hc
  replace c0 := Bk.kg c0 hc
  replace b0 := Bk.kg b0 hc
  clear hc
  replace n0 := Bk.lz a0
  replace o0 := Bk.lz c0
  replace p0 := Bk.lz b0
  by_cases hk0 : z = 0
  ·subst hk0
   go_wp2_with fail
   refine (num_any _ [(-1), 400, 0] _ B g (pk + 1) (hR.below (bal (Bs _) (.cells #[.int .i64 (-1), .int .i64 400, .int .i64 0] 3))) (Ro (World.ownsRow_lit (base := (w6).heap.size) (e := 3) (size := 1) (w6) #[.int .i64 (-1), .int .i64 400, .int .i64 0] 3 (Nat.le_refl _) (by unfold maxLen; omega) (by simp)) (by simp)) (fun b o c hb => by simp at hb; omega) (by simp) (by simp) (by omega)).mono ?_
   rintro e w7 ⟨vv, k5, rfl, i0, hc⟩
   replace hC := ((hC.trans (Chg.of_below (bal (Bs _) _)))).trans hc
   replace hR := i0; clear i0
   replace oI := OwnI.keep (OwnI.below oI (bal (Bs _) _)) hc (fun h => by have := r0 _ h; omega)
   have i3 := hc.size
   simp only [Sa] at i3
   replace oM := (oM.below (bal (Bs _) _)).keep hc (fun gq h h2 => by have := iM gq h; have := r0 gq h2; omega)
   replace a0 := Bk.kg (Bk.al a0 _) hc
   replace c0 := Bk.kg (Bk.al c0 _) hc
   replace b0 := Bk.kg (Bk.al b0 _) hc
   have x3 : Bk w7 (w6.heap.size) [.int .i64 (-1), .int .i64 400, .int .i64 0] := Bk.kg (Bk.nw (by simp) rfl) hc
   clear hc
   clear x3
   clear k5
   obtain ⟨z4, j5⟩ := Bk.cf a0 0 rfl
   go_upto_region 17 with (fail)
   obtain ⟨w8, g0, hb⟩ := nmw (World.setCell w7 ⟨w2.heap.size, 0, none⟩ (.int .i64 vv))
   replace hC := ((hC.setNew _ _ _ (Or.inr (by omega)))).trans (Chg.of_below hb)
   replace hR := (hR.keep (C1 _ _ _) (by omega) (fun _ _ => by omega)).below hb
   replace oI := OwnI.below (OwnI.keep oI (C1 _ _ _) (by omega)) hb
   have j3 := hb.size
   simp only [Ss] at j3
   clear j5 z4
   replace oM := (oM.keep (C1 _ _ _) (fun gq h h2 => by have := iM gq h; omega)).below hb
   replace a0 : Bk w8 (w2.heap.size) [.int .i64 vv, .slice (some ⟨gx, 0, none⟩) 14 c, .slice px m.vals.length tx, .slice py m.arrs.length ty] := Bk.below (Bk.at a0 0 (.int .i64 vv)) hb
   replace c0 := Bk.below (Bk.ne c0 (by omega) _) hb
   replace b0 := Bk.below (Bk.ne b0 (by omega) _) hb
   clear hb
   rw [← g0]
   clear g0
   have t1 : ∃ h0 : List Int, Hid (DrS (World.setCell (World.setCell (World.setCell (World.setCell w8 ⟨w.heap.size + 1, 0, none⟩ (.int .i64 vv)) ⟨w.heap.size + 1, 1, none⟩ (.slice (some ⟨gx, 0, none⟩) 14 c)) ⟨w.heap.size + 1, 2, none⟩ (.slice px m.vals.length tx)) ⟨w.heap.size + 1, 3, none⟩ (.slice py m.arrs.length ty)) w.heap.size (.slice (some ⟨gx, 0, none⟩) 14 c) (.slice px m.vals.length tx) (.slice py m.arrs.length ty) ⟨vv, h0, m⟩) := by
    obtain ⟨j1, h1, h2⟩ := (OwnI.keep (OwnI.keep (OwnI.keep (OwnI.keep oI (C1 (w.heap.size + 1) (0) (.int .i64 vv)) (by omega)) (C1 (w.heap.size + 1) (1) (.slice (some ⟨gx, 0, none⟩) 14 c)) (by omega)) (C1 (w.heap.size + 1) (2) (.slice px m.vals.length tx)) (by omega)) (C1 (w.heap.size + 1) (3) (.slice py m.arrs.length ty)) (by omega)).h
    exact ⟨j1, Lib.hid ⟨by rw [h1]; exact Ro h2 (by omega), (Abv.own h2).mono (by omega), Nat.le_of_eq h1, DrM.mono (DrM.of ((((oM.keep (C1 (w.heap.size + 1) 0 (.int .i64 vv)) (fun gq h h2 => by have := iM gq h; omega)).keep (C1 (w.heap.size + 1) 1 (.slice (some ⟨gx, 0, none⟩) 14 c)) (fun gq h h2 => by have := iM gq h; omega)).keep (C1 (w.heap.size + 1) 2 (.slice px m.vals.length tx)) (fun gq h h2 => by have := iM gq h; omega)).keep (C1 (w.heap.size + 1) 3 (.slice py m.arrs.length ty)) (fun gq h h2 => by have := iM gq h; omega)) (Nat.le_trans u1 (by decide)) (Nat.le_trans v1 (by decide)) x2.out) (by omega)⟩⟩
   obtain ⟨h0, j0⟩ := t1
   clear oI oM
   obtain ⟨h9, u9, i9, v9, j9, x9, k9, y9⟩ := Bk.f4 a0 0 1 2 3 rfl rfl rfl rfl
   obtain ⟨l9, z9, m9, aA, n9, bA, o9, cA⟩ := Bk.f4 b0 0 1 2 3 rfl rfl rfl rfl
   have y0 := (((((Chg.refl (fun q => q = w.heap.size + 1) w8).setCell (w.heap.size + 1) 0 (.int .i64 vv) (fun _ => rfl)).setCell (w.heap.size + 1) 1 (.slice (some ⟨gx, 0, none⟩) 14 c) (fun _ => rfl)).setCell (w.heap.size + 1) 2 (.slice px m.vals.length tx) (fun _ => rfl)).setCell (w.heap.size + 1) 3 (.slice py m.arrs.length ty) (fun _ => rfl))
   have a1 := (Bk.at (Bk.at (Bk.at (Bk.at b0 0 (.int .i64 vv)) 1 (.slice (some ⟨gx, 0, none⟩) 14 c)) 2 (.slice px m.vals.length tx)) 3 (.slice py m.arrs.length ty))
   obtain ⟨x1, y1, a2, b2⟩ := Bk.g4 a1
   have d0 := Lib.hid y0; clear y0 a1
   have e0 := Lib.hid (And.intro hC hR); clear hC hR
   go_wp2
   exact bodyPost_ret (v := .agg #[.int .i64 vv, .slice (some ⟨gx, 0, none⟩) 14 c, .slice px m.vals.length tx, .slice py m.arrs.length ty]) (by simp [results, Try.results113, go_sem, x1, y1, a2, b2]) rfl (by exact (by first | exact ⟨_, _, _, ⟨vv, h0, m⟩, pk + 1 + 1, rfl, j0.out, e0.out.2.keep d0.out (fun h => by omega) (fun k hk h => by omega), by omega, chg_app e0.out.1 d0.out (fun q hq h => by omega)⟩ | exact ⟨_, _, _, ⟨vv, h0, m⟩, rfl, j0.out, pk + 1 + 1, e0.out.2.keep d0.out (fun h => by omega) (fun k hk h => by omega), by omega, chg_app e0.out.1 d0.out (fun q hq h => by omega)⟩ | exact ⟨_, _, _, ⟨vv, h0, m⟩, ⟨pk + 1 + 1, rfl⟩, j0.out, e0.out.2.keep d0.out (fun h => by omega) (fun k hk h => by omega), by omega, chg_app e0.out.1 d0.out (fun q hq h => by omega)⟩ | exact ⟨_, _, _, ⟨vv, h0, m⟩, rfl, j0.out, ⟨pk + 1 + 1, e0.out.2.keep d0.out (fun h => by omega) (fun k hk h => by omega), by omega, chg_app e0.out.1 d0.out (fun q hq h => by omega)⟩⟩))
  have wA : (z == 0) = false := by simp [hk0]
  by_cases hk1 : z = 1
  ·subst hk1
   have nA : ∀ W, (Instr.slice 23 (.slice (some ⟨gx, 0, none⟩) 14 c) none (some (.int .i64 13)) none).run Try.prog W = .ok (.slice (some ⟨gx, 0, none⟩) 13 c) W := fun W => run_pre tInts _ 14 c 13 (by omega) W
   obtain ⟨k3, q3⟩ := Bk.cf a0 1 rfl
   go_upto_region 17 with (fail)
   obtain ⟨w7, g0, hb⟩ := nmw (World.setCell w6 ⟨w2.heap.size, 1, none⟩ (.slice (some ⟨gx, 0, none⟩) 13 c))
   replace hC := ((hC.setNew _ _ _ (Or.inr (by omega)))).trans (Chg.of_below hb)
   replace hR := (hR.keep (C1 _ _ _) (by omega) (fun _ _ => by omega)).below hb
   replace oI := OwnI.below (OwnI.keep oI (C1 _ _ _) (by omega)) hb
   have e2 := hb.size
   simp only [Ss] at e2
   clear q3 k3
   replace oM := (oM.keep (C1 _ _ _) (fun gq h h2 => by have := iM gq h; omega)).below hb
   replace a0 : Bk w7 (w2.heap.size) [.int .i64 pc, .slice (some ⟨gx, 0, none⟩) 13 c, .slice px m.vals.length tx, .slice py m.arrs.length ty] := Bk.below (Bk.at a0 1 (.slice (some ⟨gx, 0, none⟩) 13 c)) hb
   replace c0 := Bk.below (Bk.ne c0 (by omega) _) hb
   replace b0 := Bk.below (Bk.ne b0 (by omega) _) hb
   clear hb
   rw [← g0]
   clear g0
   have t1 : ∃ h0 : List Int, Hid (DrS (World.setCell (World.setCell (World.setCell (World.setCell w7 ⟨w.heap.size + 1, 0, none⟩ (.int .i64 pc)) ⟨w.heap.size + 1, 1, none⟩ (.slice (some ⟨gx, 0, none⟩) 13 c)) ⟨w.heap.size + 1, 2, none⟩ (.slice px m.vals.length tx)) ⟨w.heap.size + 1, 3, none⟩ (.slice py m.arrs.length ty)) w.heap.size (.slice (some ⟨gx, 0, none⟩) 13 c) (.slice px m.vals.length tx) (.slice py m.arrs.length ty) ⟨pc, h0, m⟩) := by
    obtain ⟨j1, h1, h2⟩ := (OwnI.keep (OwnI.keep (OwnI.keep (OwnI.keep oI (C1 (w.heap.size + 1) (0) (.int .i64 pc)) (by omega)) (C1 (w.heap.size + 1) (1) (.slice (some ⟨gx, 0, none⟩) 13 c)) (by omega)) (C1 (w.heap.size + 1) (2) (.slice px m.vals.length tx)) (by omega)) (C1 (w.heap.size + 1) (3) (.slice py m.arrs.length ty)) (by omega)).h
    exact ⟨j1.take 13, Lib.hid ⟨by rw [List.length_take, h1, show ints (j1.take 13) = (ints j1).take 13 from by simp [ints]]; exact reads_take (Ro h2 (by omega)) 13 (by omega), fun b o n c hv => (Abv.own h2).mono (by omega) b o 14 c (by simp only [Value.slice.injEq] at hv; rw [hv.1, hv.2.2]), by rw [List.length_take, h1]; decide, DrM.mono (DrM.of ((((oM.keep (C1 (w.heap.size + 1) 0 (.int .i64 pc)) (fun gq h h2 => by have := iM gq h; omega)).keep (C1 (w.heap.size + 1) 1 (.slice (some ⟨gx, 0, none⟩) 13 c)) (fun gq h h2 => by have := iM gq h; omega)).keep (C1 (w.heap.size + 1) 2 (.slice px m.vals.length tx)) (fun gq h h2 => by have := iM gq h; omega)).keep (C1 (w.heap.size + 1) 3 (.slice py m.arrs.length ty)) (fun gq h h2 => by have := iM gq h; omega)) (Nat.le_trans u1 (by decide)) (Nat.le_trans v1 (by decide)) x2.out) (by omega)⟩⟩
   obtain ⟨h0, j0⟩ := t1
   clear oI oM
   obtain ⟨a6, g7, b6, h7, c6, i7, d6, j7⟩ := Bk.f4 a0 0 1 2 3 rfl rfl rfl rfl
   obtain ⟨e6, k7, f6, l7, g6, m7, h6, n7⟩ := Bk.f4 b0 0 1 2 3 rfl rfl rfl rfl
   have y0 := (((((Chg.refl (fun q => q = w.heap.size + 1) w7).setCell (w.heap.size + 1) 0 (.int .i64 pc) (fun _ => rfl)).setCell (w.heap.size + 1) 1 (.slice (some ⟨gx, 0, none⟩) 13 c) (fun _ => rfl)).setCell (w.heap.size + 1) 2 (.slice px m.vals.length tx) (fun _ => rfl)).setCell (w.heap.size + 1) 3 (.slice py m.arrs.length ty) (fun _ => rfl))
   have a1 := (Bk.at (Bk.at (Bk.at (Bk.at b0 0 (.int .i64 pc)) 1 (.slice (some ⟨gx, 0, none⟩) 13 c)) 2 (.slice px m.vals.length tx)) 3 (.slice py m.arrs.length ty))
   obtain ⟨x1, y1, a2, b2⟩ := Bk.g4 a1
   have d0 := Lib.hid y0; clear y0 a1
   have e0 := Lib.hid (And.intro hC hR); clear hC hR
   go_wp2
   exact bodyPost_ret (v := .agg #[.int .i64 pc, .slice (some ⟨gx, 0, none⟩) 13 c, .slice px m.vals.length tx, .slice py m.arrs.length ty]) (by simp [results, Try.results113, go_sem, x1, y1, a2, b2]) rfl (by exact (by first | exact ⟨_, _, _, ⟨pc, h0, m⟩, pk + 1, rfl, j0.out, e0.out.2.keep d0.out (fun h => by omega) (fun k hk h => by omega), by omega, chg_app e0.out.1 d0.out (fun q hq h => by omega)⟩ | exact ⟨_, _, _, ⟨pc, h0, m⟩, rfl, j0.out, pk + 1, e0.out.2.keep d0.out (fun h => by omega) (fun k hk h => by omega), by omega, chg_app e0.out.1 d0.out (fun q hq h => by omega)⟩ | exact ⟨_, _, _, ⟨pc, h0, m⟩, ⟨pk + 1, rfl⟩, j0.out, e0.out.2.keep d0.out (fun h => by omega) (fun k hk h => by omega), by omega, chg_app e0.out.1 d0.out (fun q hq h => by omega)⟩ | exact ⟨_, _, _, ⟨pc, h0, m⟩, rfl, j0.out, ⟨pk + 1, e0.out.2.keep d0.out (fun h => by omega) (fun k hk h => by omega), by omega, chg_app e0.out.1 d0.out (fun q hq h => by omega)⟩⟩))
  have xA : (z == 1) = false := by simp [hk1]
  by_cases hk2 : z = 2
  ·subst hk2
   obtain ⟨⟨x0, y5⟩, m5⟩ := oI.at 0 (by omega)
   clear y5 m5
   go_upto_region 14 with (fail)
   have f0 := Bk.cell a0 1 (v := .slice (some ⟨gx, 0, none⟩) 14 c) rfl
   refine wp_region_noPanic ?_
   refine wp_region_held_drew (S := (fun W' => W'.cell? ⟨w2.heap.size, 1, none⟩ = some (.slice (some ⟨gx, 0, none⟩) 14 c))) (by kernel_rfl) (Kc (Below.drew (Bs w6)) f0) (fun hHeld => ?_)
   obtain ⟨w7, k2⟩ : ∃ X, X = World.drew w6 := ⟨_, rfl⟩
   rw [← k2] at hHeld ⊢
   have hb : Below w6.heap.size w6 w7 := by rw [k2]; exact Below.drew (Bs _)
   clear k2
   replace hC := (hC).trans (Chg.of_below hb)
   replace hR := hR.below hb
   replace oI := OwnI.below oI hb
   have z3 := hb.size
   replace oM := oM.below hb
   replace f0 := Kc hb f0
   replace a0 := Bk.below a0 hb
   replace c0 := Bk.below c0 hb
   replace b0 := Bk.below b0 hb
   clear hb
   replace n0 := Bk.lz a0
   replace o0 := Bk.lz c0
   replace p0 := Bk.lz b0
   refine (tq 0 49 rfl rfl ?_ ?_ (tq 1 50 rfl rfl ?_ ?_ (tq 2 51 rfl rfl ?_ ?_ ?_)))
   iterate 3 (rotate_left; intro W' hSw; (try dsimp only at hSw); go_simp; try with_reducible rfl)
   try simp only [Ep]
   refine Rdy 3 rfl (fun K hK => ?_)
   go_simp
   obtain ⟨w8, g0, hb⟩ := nmw (World.alloc w7 (.cells #[.int .i64 (-1), .int .i64 256] 3))
   replace hC := ((hC.trans (Chg.of_below (bal (Bs _) _)))).trans (Chg.of_below hb)
   replace hR := (hR.below (bal (Bs _) _)).below hb
   have k0 := Ob (World.ownsRow_lit (base := (w7).heap.size) (e := 3) (size := 1) (w7) #[.int .i64 (-1), .int .i64 256] 2 (Nat.le_refl _) (by unfold maxLen; omega) (by simp)) hb
   try simp only [Sa, Ss] at k0
   replace oI := OwnI.below (OwnI.below oI (bal (Bs _) _)) hb
   have g2 := hb.size
   simp only [Sa] at g2
   replace oM := (oM.below (bal (Bs _) _)).below hb
   replace f0 := Kc hb (Ac f0 _)
   replace a0 := Bk.below (Bk.al a0 _) hb
   replace c0 := Bk.below (Bk.al c0 _) hb
   replace b0 := Bk.below (Bk.al b0 _) hb
   have m0 : Bk w8 (w7.heap.size) [.int .i64 (-1), .int .i64 256] := Bk.below (Bk.nw (by simp) rfl) hb
   clear hb
   have i1 := k0.lt
   try simp only [Sa] at i1
   rw [← g0]
   clear g0
   have z5 := Bk.lz m0
   refine hK.out _ _ (f0) (fun hHeld => ?_)
   clear hK K
   try simp only [Ep]
   refine Rdy 4 rfl (fun K hK => ?_)
   go_simp
   refine (num_any _ [(-1), 256] _ B g (pk + 1) hR (Ro k0 (by simp)) (fun b o c hb => by simp at hb; omega) (by simp) (by simp) (by omega)).mono ?_
   rintro e w9 ⟨vv, k5, rfl, i0, hc⟩
   replace hC := (hC).trans hc
   replace hR := i0; clear i0
   replace oI := OwnI.keep oI hc (fun h => by have := r0 _ h; omega)
   have a4 := hc.size
   replace oM := oM.keep hc (fun gq h h2 => by have := iM gq h; have := r0 gq h2; omega)
   replace f0 := Gg hc f0
   replace k0 := Ow k0 hc (fun gq h h2 => by have := i1 gq h; have := r0 gq h2; omega)
   replace a0 := Bk.kg a0 hc
   replace c0 := Bk.kg c0 hc
   replace b0 := Bk.kg b0 hc
   replace m0 := Bk.kg m0 hc
   clear hc
   clear k5
   obtain ⟨⟨x0, y5⟩, m5⟩ := oI.at 0 (by omega)
   refine hK.out _ _ (f0) (fun hHeld => ?_)
   clear hK K
   try simp only [Ep]
   refine (tq 5 54 rfl rfl ?_ ?_ ?_)
   (rotate_left; intro W' hSw; (try dsimp only at hSw); go_simp; try with_reducible rfl)
   try simp only [Ep]
   refine Rdy 6 rfl (fun K hK => ?_)
   go_simp
   obtain ⟨k1, g0, hb⟩ := nmw (World.setCell w9 ⟨gx, 0, none⟩ (.int .i64 vv))
   replace hC := ((hC.setNew _ _ _ (Or.inr (by omega)))).trans (Chg.of_below hb)
   replace hR := (hR.keep (C1 _ _ _) (by omega) (fun _ _ => by omega)).below hb
   replace oI := OwnI.below (OwnI.put oI (0) (vv)) hb
   have i2 := hb.size
   simp only [Ss] at i2
   replace oM := (oM.keep (C1 _ _ _) (fun gq h h2 => by have := iM gq h; omega)).below hb
   replace f0 := Kc hb (Nc f0 (by omega) _)
   replace k0 := Ob (Oe k0 _ _ (fun h => by have := i1 _ h; omega) _) hb
   replace a0 := Bk.below (Bk.ne a0 (by omega) _) hb
   replace c0 := Bk.below (Bk.ne c0 (by omega) _) hb
   replace b0 := Bk.below (Bk.ne b0 (by omega) _) hb
   replace m0 := Bk.below (Bk.ne m0 (by omega) _) hb
   clear hb
   rw [← g0]
   clear g0
   refine hK.out _ _ (f0) (fun hHeld => ?_)
   clear hK K
   try simp only [Ep]
   refine wpAnyH_done (by kernel_rfl) ?_ _
   refine NoPanic.normal ?_
   clear hHeld
   go_upto_region 17 with (fail)
   clear m0
   have t1 : ∃ h0 : List Int, Hid (DrS (World.setCell (World.setCell (World.setCell (World.setCell k1 ⟨w.heap.size + 1, 0, none⟩ (.int .i64 pc)) ⟨w.heap.size + 1, 1, none⟩ (.slice (some ⟨gx, 0, none⟩) 14 c)) ⟨w.heap.size + 1, 2, none⟩ (.slice px m.vals.length tx)) ⟨w.heap.size + 1, 3, none⟩ (.slice py m.arrs.length ty)) w.heap.size (.slice (some ⟨gx, 0, none⟩) 14 c) (.slice px m.vals.length tx) (.slice py m.arrs.length ty) ⟨pc, h0, m⟩) := by
    obtain ⟨j1, h1, h2⟩ := (OwnI.keep (OwnI.keep (OwnI.keep (OwnI.keep oI (C1 (w.heap.size + 1) (0) (.int .i64 pc)) (by omega)) (C1 (w.heap.size + 1) (1) (.slice (some ⟨gx, 0, none⟩) 14 c)) (by omega)) (C1 (w.heap.size + 1) (2) (.slice px m.vals.length tx)) (by omega)) (C1 (w.heap.size + 1) (3) (.slice py m.arrs.length ty)) (by omega)).h
    exact ⟨j1, Lib.hid ⟨by rw [h1]; exact Ro h2 (by omega), (Abv.own h2).mono (by omega), Nat.le_of_eq h1, DrM.mono (DrM.of ((((oM.keep (C1 (w.heap.size + 1) 0 (.int .i64 pc)) (fun gq h h2 => by have := iM gq h; omega)).keep (C1 (w.heap.size + 1) 1 (.slice (some ⟨gx, 0, none⟩) 14 c)) (fun gq h h2 => by have := iM gq h; omega)).keep (C1 (w.heap.size + 1) 2 (.slice px m.vals.length tx)) (fun gq h h2 => by have := iM gq h; omega)).keep (C1 (w.heap.size + 1) 3 (.slice py m.arrs.length ty)) (fun gq h h2 => by have := iM gq h; omega)) (Nat.le_trans u1 (by decide)) (Nat.le_trans v1 (by decide)) x2.out) (by omega)⟩⟩
   obtain ⟨h0, j0⟩ := t1
   clear oI oM
   obtain ⟨i6, o7, j6, p7, k6, q7⟩ := Bk.f3 a0 0 2 3 rfl rfl rfl
   obtain ⟨l6, r7, m6, s7, n6, t7, o6, u7⟩ := Bk.f4 b0 0 1 2 3 rfl rfl rfl rfl
   have y0 := (((((Chg.refl (fun q => q = w.heap.size + 1) k1).setCell (w.heap.size + 1) 0 (.int .i64 pc) (fun _ => rfl)).setCell (w.heap.size + 1) 1 (.slice (some ⟨gx, 0, none⟩) 14 c) (fun _ => rfl)).setCell (w.heap.size + 1) 2 (.slice px m.vals.length tx) (fun _ => rfl)).setCell (w.heap.size + 1) 3 (.slice py m.arrs.length ty) (fun _ => rfl))
   have a1 := (Bk.at (Bk.at (Bk.at (Bk.at b0 0 (.int .i64 pc)) 1 (.slice (some ⟨gx, 0, none⟩) 14 c)) 2 (.slice px m.vals.length tx)) 3 (.slice py m.arrs.length ty))
   obtain ⟨x1, y1, a2, b2⟩ := Bk.g4 a1
   have d0 := Lib.hid y0; clear y0 a1
   have e0 := Lib.hid (And.intro hC hR); clear hC hR
   go_wp2
   exact bodyPost_ret (v := .agg #[.int .i64 pc, .slice (some ⟨gx, 0, none⟩) 14 c, .slice px m.vals.length tx, .slice py m.arrs.length ty]) (by simp [results, Try.results113, go_sem, x1, y1, a2, b2]) rfl (by exact (by first | exact ⟨_, _, _, ⟨pc, h0, m⟩, pk + 1 + 1, rfl, j0.out, e0.out.2.keep d0.out (fun h => by omega) (fun k hk h => by omega), by omega, chg_app e0.out.1 d0.out (fun q hq h => by omega)⟩ | exact ⟨_, _, _, ⟨pc, h0, m⟩, rfl, j0.out, pk + 1 + 1, e0.out.2.keep d0.out (fun h => by omega) (fun k hk h => by omega), by omega, chg_app e0.out.1 d0.out (fun q hq h => by omega)⟩ | exact ⟨_, _, _, ⟨pc, h0, m⟩, ⟨pk + 1 + 1, rfl⟩, j0.out, e0.out.2.keep d0.out (fun h => by omega) (fun k hk h => by omega), by omega, chg_app e0.out.1 d0.out (fun q hq h => by omega)⟩ | exact ⟨_, _, _, ⟨pc, h0, m⟩, rfl, j0.out, ⟨pk + 1 + 1, e0.out.2.keep d0.out (fun h => by omega) (fun k hk h => by omega), by omega, chg_app e0.out.1 d0.out (fun q hq h => by omega)⟩⟩))
  have yA : (z == 2) = false := by simp [hk2]
  by_cases hk3 : z = 3
  ·subst hk3
   obtain ⟨l3, r3, n3, s3⟩ := Bk.f2 a0 2 3 rfl rfl
   go_wp2_with fail
   refine (l3Bend_any _ _ m B g (pk + 1) _ (DrM.of oM (by omega) (by omega) x2.out).reads (by omega) (by omega) x2.out hR (by omega)).mono ?_
   rintro e w7 ⟨ua, ub, m2, p8, rfl, d2, eA, fA, i0, jA, hc⟩
   try simp only [Sa, Ss] at d2
   obtain ⟨tA, aB, uA, bB, rfl, rfl⟩ := d2.reads.shape
   replace hC := (hC).trans hc
   replace hR := i0; clear i0
   replace oI := OwnI.keep oI hc (fun h => by have := r0 _ h; omega)
   have b4 := hc.size
   clear r3 l3 s3 n3
   replace oM := oM.keep hc (fun gq h h2 => by have := iM gq h; have := r0 gq h2; omega)
   replace a0 := Bk.kg a0 hc
   replace c0 := Bk.kg c0 hc
   replace b0 := Bk.kg b0 hc
   clear hc
   go_wp2_with fail
   refine (l3Bend_any _ _ m2 B g (p8) _ (d2).reads (by omega) (by omega) d2.l2 hR (by omega)).mono ?_
   rintro e w8 ⟨uc, ud, m3, p9, rfl, a3, gA, hA, i0, kA, hc⟩
   obtain ⟨l1, n1, m1, o1, rfl, rfl⟩ := a3.reads.shape
   replace hC := (hC).trans hc
   replace hR := i0; clear i0
   replace oI := OwnI.keep oI hc (fun h => by have := r0 _ h; omega)
   have c4 := hc.size
   replace oM := oM.keep hc (fun gq h h2 => by have := iM gq h; have := r0 gq h2; omega)
   replace d2 := d2.keep hc (fun gq h h2 => by have := (fun q (h : w6.heap.size ≤ q) => h) gq h; have := r0 gq h2; omega)
   replace a0 := Bk.kg a0 hc
   replace c0 := Bk.kg c0 hc
   replace b0 := Bk.kg b0 hc
   clear hc
   clear oM d2
   obtain ⟨o3, t3, p3, u3⟩ := Bk.f2 a0 2 3 rfl rfl
   go_upto_region 17 with (fail)
   obtain ⟨w9, g0, hb⟩ := nmw (World.setCell (World.setCell w8 ⟨w2.heap.size, 2, none⟩ (.slice l1 m3.vals.length n1)) ⟨w2.heap.size, 3, none⟩ (.slice m1 m3.arrs.length o1))
   replace hC := (((hC.setNew _ _ _ (Or.inr (by omega))).setNew _ _ _ (Or.inr (by omega)))).trans (Chg.of_below hb)
   replace hR := ((hR.keep (C1 _ _ _) (by omega) (fun _ _ => by omega)).keep (C1 _ _ _) (by omega) (fun _ _ => by omega)).below hb
   replace oI := OwnI.below (OwnI.keep (OwnI.keep oI (C1 _ _ _) (by omega)) (C1 _ _ _) (by omega)) hb
   have j2 := hb.size
   simp only [Ss] at j2
   clear t3 o3 u3 p3
   replace a3 := ((a3.keep (C1 _ _ _) (fun gq h h2 => by have := (fun q (h : w7.heap.size ≤ q) => h) gq h; omega)).keep (C1 _ _ _) (fun gq h h2 => by have := (fun q (h : w7.heap.size ≤ q) => h) gq h; omega)).below hb
   replace a0 : Bk w9 (w2.heap.size) [.int .i64 pc, .slice (some ⟨gx, 0, none⟩) 14 c, .slice l1 m3.vals.length n1, .slice m1 m3.arrs.length o1] := Bk.below (Bk.at (Bk.at a0 2 (.slice l1 m3.vals.length n1)) 3 (.slice m1 m3.arrs.length o1)) hb
   replace c0 := Bk.below (Bk.ne (Bk.ne c0 (by omega) _) (by omega) _) hb
   replace b0 := Bk.below (Bk.ne (Bk.ne b0 (by omega) _) (by omega) _) hb
   clear hb
   rw [← g0]
   clear g0
   have t1 : ∃ h0 : List Int, Hid (DrS (World.setCell (World.setCell (World.setCell (World.setCell w9 ⟨w.heap.size + 1, 0, none⟩ (.int .i64 pc)) ⟨w.heap.size + 1, 1, none⟩ (.slice (some ⟨gx, 0, none⟩) 14 c)) ⟨w.heap.size + 1, 2, none⟩ (.slice l1 m3.vals.length n1)) ⟨w.heap.size + 1, 3, none⟩ (.slice m1 m3.arrs.length o1)) w.heap.size (.slice (some ⟨gx, 0, none⟩) 14 c) (.slice l1 m3.vals.length n1) (.slice m1 m3.arrs.length o1) ⟨pc, h0, m3⟩) := by
    obtain ⟨j1, h1, h2⟩ := (OwnI.keep (OwnI.keep (OwnI.keep (OwnI.keep oI (C1 (w.heap.size + 1) (0) (.int .i64 pc)) (by omega)) (C1 (w.heap.size + 1) (1) (.slice (some ⟨gx, 0, none⟩) 14 c)) (by omega)) (C1 (w.heap.size + 1) (2) (.slice l1 m3.vals.length n1)) (by omega)) (C1 (w.heap.size + 1) (3) (.slice m1 m3.arrs.length o1)) (by omega)).h
    exact ⟨j1, Lib.hid ⟨by rw [h1]; exact Ro h2 (by omega), (Abv.own h2).mono (by omega), Nat.le_of_eq h1, DrM.mono ((((a3.keep (C1 (w.heap.size + 1) 0 (.int .i64 pc)) (fun gq h h2 => by have := (fun q (h : w7.heap.size ≤ q) => h) gq h; omega)).keep (C1 (w.heap.size + 1) 1 (.slice (some ⟨gx, 0, none⟩) 14 c)) (fun gq h h2 => by have := (fun q (h : w7.heap.size ≤ q) => h) gq h; omega)).keep (C1 (w.heap.size + 1) 2 (.slice l1 m3.vals.length n1)) (fun gq h h2 => by have := (fun q (h : w7.heap.size ≤ q) => h) gq h; omega)).keep (C1 (w.heap.size + 1) 3 (.slice m1 m3.arrs.length o1)) (fun gq h h2 => by have := (fun q (h : w7.heap.size ≤ q) => h) gq h; omega)) (by omega)⟩⟩
   obtain ⟨h0, j0⟩ := t1
   clear oI a3
   obtain ⟨p6, v7, q6, x7, r6, y7, s6, z7⟩ := Bk.f4 a0 0 1 2 3 rfl rfl rfl rfl
   obtain ⟨t6, a8, u6, b8, v6, c8, x6, d8⟩ := Bk.f4 b0 0 1 2 3 rfl rfl rfl rfl
   have y0 := (((((Chg.refl (fun q => q = w.heap.size + 1) w9).setCell (w.heap.size + 1) 0 (.int .i64 pc) (fun _ => rfl)).setCell (w.heap.size + 1) 1 (.slice (some ⟨gx, 0, none⟩) 14 c) (fun _ => rfl)).setCell (w.heap.size + 1) 2 (.slice l1 m3.vals.length n1) (fun _ => rfl)).setCell (w.heap.size + 1) 3 (.slice m1 m3.arrs.length o1) (fun _ => rfl))
   have a1 := (Bk.at (Bk.at (Bk.at (Bk.at b0 0 (.int .i64 pc)) 1 (.slice (some ⟨gx, 0, none⟩) 14 c)) 2 (.slice l1 m3.vals.length n1)) 3 (.slice m1 m3.arrs.length o1))
   obtain ⟨x1, y1, a2, b2⟩ := Bk.g4 a1
   have d0 := Lib.hid y0; clear y0 a1
   have e0 := Lib.hid (And.intro hC hR); clear hC hR
   go_wp2
   exact bodyPost_ret (v := .agg #[.int .i64 pc, .slice (some ⟨gx, 0, none⟩) 14 c, .slice l1 m3.vals.length n1, .slice m1 m3.arrs.length o1]) (by simp [results, Try.results113, go_sem, x1, y1, a2, b2]) rfl (by exact (by first | exact ⟨_, _, _, ⟨pc, h0, m3⟩, p9, rfl, j0.out, e0.out.2.keep d0.out (fun h => by omega) (fun k hk h => by omega), by omega, chg_app e0.out.1 d0.out (fun q hq h => by omega)⟩ | exact ⟨_, _, _, ⟨pc, h0, m3⟩, rfl, j0.out, p9, e0.out.2.keep d0.out (fun h => by omega) (fun k hk h => by omega), by omega, chg_app e0.out.1 d0.out (fun q hq h => by omega)⟩ | exact ⟨_, _, _, ⟨pc, h0, m3⟩, ⟨p9, rfl⟩, j0.out, e0.out.2.keep d0.out (fun h => by omega) (fun k hk h => by omega), by omega, chg_app e0.out.1 d0.out (fun q hq h => by omega)⟩ | exact ⟨_, _, _, ⟨pc, h0, m3⟩, rfl, j0.out, ⟨p9, e0.out.2.keep d0.out (fun h => by omega) (fun k hk h => by omega), by omega, chg_app e0.out.1 d0.out (fun q hq h => by omega)⟩⟩))
  have zA : (z == 3) = false := by simp [hk3]
  go_upto_region 17 with (fail)
  have t1 : ∃ h0 : List Int, Hid (DrS (World.setCell (World.setCell (World.setCell (World.setCell w6 ⟨w.heap.size + 1, 0, none⟩ (.int .i64 pc)) ⟨w.heap.size + 1, 1, none⟩ (.slice (some ⟨gx, 0, none⟩) 14 c)) ⟨w.heap.size + 1, 2, none⟩ (.slice px m.vals.length tx)) ⟨w.heap.size + 1, 3, none⟩ (.slice py m.arrs.length ty)) w.heap.size (.slice (some ⟨gx, 0, none⟩) 14 c) (.slice px m.vals.length tx) (.slice py m.arrs.length ty) ⟨pc, h0, m⟩) := by
   obtain ⟨j1, h1, h2⟩ := (OwnI.keep (OwnI.keep (OwnI.keep (OwnI.keep oI (C1 (w.heap.size + 1) (0) (.int .i64 pc)) (by omega)) (C1 (w.heap.size + 1) (1) (.slice (some ⟨gx, 0, none⟩) 14 c)) (by omega)) (C1 (w.heap.size + 1) (2) (.slice px m.vals.length tx)) (by omega)) (C1 (w.heap.size + 1) (3) (.slice py m.arrs.length ty)) (by omega)).h
   exact ⟨j1, Lib.hid ⟨by rw [h1]; exact Ro h2 (by omega), (Abv.own h2).mono (by omega), Nat.le_of_eq h1, DrM.mono (DrM.of ((((oM.keep (C1 (w.heap.size + 1) 0 (.int .i64 pc)) (fun gq h h2 => by have := iM gq h; omega)).keep (C1 (w.heap.size + 1) 1 (.slice (some ⟨gx, 0, none⟩) 14 c)) (fun gq h h2 => by have := iM gq h; omega)).keep (C1 (w.heap.size + 1) 2 (.slice px m.vals.length tx)) (fun gq h h2 => by have := iM gq h; omega)).keep (C1 (w.heap.size + 1) 3 (.slice py m.arrs.length ty)) (fun gq h h2 => by have := iM gq h; omega)) (Nat.le_trans u1 (by decide)) (Nat.le_trans v1 (by decide)) x2.out) (by omega)⟩⟩
  obtain ⟨h0, j0⟩ := t1
  clear oI oM
  obtain ⟨y6, e8, z6, f8, a7, g8, b7, h8⟩ := Bk.f4 a0 0 1 2 3 rfl rfl rfl rfl
  obtain ⟨c7, i8, d7, j8, e7, k8, f7, l8⟩ := Bk.f4 b0 0 1 2 3 rfl rfl rfl rfl
  have y0 := (((((Chg.refl (fun q => q = w.heap.size + 1) w6).setCell (w.heap.size + 1) 0 (.int .i64 pc) (fun _ => rfl)).setCell (w.heap.size + 1) 1 (.slice (some ⟨gx, 0, none⟩) 14 c) (fun _ => rfl)).setCell (w.heap.size + 1) 2 (.slice px m.vals.length tx) (fun _ => rfl)).setCell (w.heap.size + 1) 3 (.slice py m.arrs.length ty) (fun _ => rfl))
  have a1 := (Bk.at (Bk.at (Bk.at (Bk.at b0 0 (.int .i64 pc)) 1 (.slice (some ⟨gx, 0, none⟩) 14 c)) 2 (.slice px m.vals.length tx)) 3 (.slice py m.arrs.length ty))
  obtain ⟨x1, y1, a2, b2⟩ := Bk.g4 a1
  have d0 := Lib.hid y0; clear y0 a1
  have e0 := Lib.hid (And.intro hC hR); clear hC hR
  go_wp2
  exact bodyPost_ret (v := .agg #[.int .i64 pc, .slice (some ⟨gx, 0, none⟩) 14 c, .slice px m.vals.length tx, .slice py m.arrs.length ty]) (by simp [results, Try.results113, go_sem, x1, y1, a2, b2]) rfl (by exact (by first | exact ⟨_, _, _, ⟨pc, h0, m⟩, pk + 1, rfl, j0.out, e0.out.2.keep d0.out (fun h => by omega) (fun k hk h => by omega), by omega, chg_app e0.out.1 d0.out (fun q hq h => by omega)⟩ | exact ⟨_, _, _, ⟨pc, h0, m⟩, rfl, j0.out, pk + 1, e0.out.2.keep d0.out (fun h => by omega) (fun k hk h => by omega), by omega, chg_app e0.out.1 d0.out (fun q hq h => by omega)⟩ | exact ⟨_, _, _, ⟨pc, h0, m⟩, ⟨pk + 1, rfl⟩, j0.out, e0.out.2.keep d0.out (fun h => by omega) (fun k hk h => by omega), by omega, chg_app e0.out.1 d0.out (fun q hq h => by omega)⟩ | exact ⟨_, _, _, ⟨pc, h0, m⟩, rfl, j0.out, ⟨pk + 1, e0.out.2.keep d0.out (fun h => by omega) (fun k hk h => by omega), by omega, chg_app e0.out.1 d0.out (fun q hq h => by omega)⟩⟩))
end Go.Proofs.Ytkjedgnepnbkpaa
