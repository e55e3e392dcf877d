/-
 Parts of the proofs of the laws FnCheckLive, FnFinalRegs, FnLiveRegister, FnLiveRegs.
-/
import Derived.Test.YtkjedgnepnbkpaaQI
import Derived.Test.YtkjedgnepnbkpaaYB
set_option linter.all false
namespace Go.Proofs.Ytkjedgnepnbkpaa
open Go.RowKit

set_option maxHeartbeats 6400000 in
set_option maxRecDepth 100000 in
theorem l6Code_any (B g p : Nat) (w : World) (hR : Rnd w B g p) (hp : p + 3001000 ≤ 1000000000) :
  Calls Try.prog 105 #[.pointer (some ⟨g, 0, none⟩)] w fun r w' => ∃ (va vb vl : Value) (nv na n p' : Nat), r = .returned (.agg #[va, vb, vl]) ∧ DrawC w' w.heap.size va vb vl nv na n ∧ (1 ≤ nv ∧ nv ≤ 5) ∧ na ≤ 2 ∧ (1 ≤ n ∧ n ≤ 12) ∧ Rnd w' B g p' ∧ p' ≤ p + 3001000 ∧ Chg (fun q => q = g) w w' := by
 have hg := hR.lt
 have hC : Chg (fun k => k = g) w w := Chg.refl _ _
 have ird : ∀ q, (fun k => k = g) q → q = g := fun q h => h
 go_enter Try.func105, Try.ntmps105
 go_wp2_with fail
 refine (l2Program_any B g (p) _ (hR.below (bal (Bs _) (.cells #[.slice none 0 0, .slice none 0 0, .slice none 0 0] 26))) (by omega)).mono ?_
 rintro e w1 ⟨a0, a1, a2, c0, c1, c2, us, ys, L, p1, rfl, oV, oA, hap, hn1, hn5, hy2, hBL, hL4, hsm, hRn, hpq, hc⟩
 have hd := HeadD.of oV oA hap
 try simp only [Sa, Ss] at hd
 have hn15 : 1 ≤ us.length ∧ us.length ≤ 5 := ⟨hn1, hn5⟩
 clear oV oA hap hBL hsm hL4 hn1 hn5
 generalize us.length = nv at *
 generalize ys.length = na at *
 generalize L.length = nl at *
 clear us ys L
 replace hC := ((hC.trans (Chg.of_below (bal (Bs _) _)))).trans hc
 replace hR := hRn; clear hRn
 have hsz1 := hc.size
 simp only [Sa] at hsz1
 have bk2 : Bk w1 (w.heap.size) [.slice none 0 0, .slice none 0 0, .slice none 0 0] := Bk.keep (Bk.nw (by simp) rfl) hc (fun h => by have := ird _ h; omega)
 clear hc
 have iv3 := hd.lt
 try simp only [Sa] at iv3
 have lt4 := Bk.lz bk2
 go_upto_region 3 with (fail)
 obtain ⟨w2, hnw, hb⟩ := nmw (World.alloc (World.alloc w1 (.cells #[.slice a0 nv c0, .slice a1 na c1, .slice a2 nl c2] 110)) (.cells #[.slice a0 nv c0, .slice a1 na c1, .slice none 0 0] 26))
 replace hC := (((hC.trans (Chg.of_below (bal (Bs _) _))).trans (Chg.of_below (bal (Bs _) _)))).trans (Chg.of_below hb)
 replace hR := ((hR.below (bal (Bs _) _)).below (bal (Bs _) _)).below hb
 have hsz5 := hb.size
 simp only [Sa] at hsz5
 replace hd := ((hd.below (bal (Bs _) _)).below (bal (Bs _) _)).below hb
 replace bk2 := Bk.below (Bk.al (Bk.al bk2 _) _) hb
 have bk6 : Bk w2 (w1.heap.size) [.slice a0 nv c0, .slice a1 na c1, .slice a2 nl c2] := Bk.below (Bk.al (Bk.nw (by simp) rfl) (.cells #[.slice a0 nv c0, .slice a1 na c1, .slice none 0 0] 26)) hb
 have bk7 : Bk w2 (w1.heap.size + 1) [.slice a0 nv c0, .slice a1 na c1, .slice none 0 0] := Bk.below (Bk.nw (by simp) rfl) hb
 clear hb
 rw [← hnw]
 clear hnw
 replace lt4 := Bk.lz bk2
 have lt8 := Bk.lz bk6
 have lt9 := Bk.lz bk7
 go_wp2_with fail
 refine (num_any _ [6, 8, 4, 10, 1, 12] _ B g (p1) (hR.below (bal (Bs _) (.cells #[.int .i64 6, .int .i64 8, .int .i64 4, .int .i64 10, .int .i64 1, .int .i64 12] 3))) (Ro (World.ownsRow_lit (base := (w2).heap.size) (e := 3) (size := 1) (w2) #[.int .i64 6, .int .i64 8, .int .i64 4, .int .i64 10, .int .i64 1, .int .i64 12] 6 (Nat.le_refl _) (by unfold maxLen; omega) (by simp)) (by simp)) (fun b o c hb => by simp at hb; omega) (by simp) (by simp) (by omega)).mono ?_
 rintro e w3 ⟨t0, t0m, rfl, hRn, hc⟩
 replace hC := ((hC.trans (Chg.of_below (bal (Bs _) _)))).trans hc
 replace hR := hRn; clear hRn
 have hsz11 := hc.size
 simp only [Sa] at hsz11
 replace hd := (hd.below (bal (Bs _) _)).keep hc (fun gq h h2 => by have := iv3 gq h; have := ird gq h2; omega)
 replace bk2 := Bk.keep (Bk.al bk2 _) hc (fun h => by have := ird _ h; omega)
 replace bk6 := Bk.keep (Bk.al bk6 _) hc (fun h => by have := ird _ h; omega)
 replace bk7 := Bk.keep (Bk.al bk7 _) hc (fun h => by have := ird _ h; omega)
 have bk12 : Bk w3 (w2.heap.size) [.int .i64 6, .int .i64 8, .int .i64 4, .int .i64 10, .int .i64 1, .int .i64 12] := Bk.keep (Bk.nw (by simp) rfl) hc (fun h => by have := ird _ h; omega)
 clear hc
 replace lt4 := Bk.lz bk2
 replace lt8 := Bk.lz bk6
 replace lt9 := Bk.lz bk7
 have lt13 := Bk.lz bk12
 obtain ⟨t, rfl, ht⟩ : ∃ t : Nat, t0 = t ∧ 1 ≤ t ∧ t ≤ 12 := by simp only [List.mem_cons, List.not_mem_nil, or_false] at t0m; exact ⟨t0.toNat, by omega, by omega, by omega⟩
 go_upto_region 4 with (fail)
 replace lt4 := Bk.lz bk2
 replace lt8 := Bk.lz bk6
 replace lt9 := Bk.lz bk7
 replace lt13 := Bk.lz bk12
 clear bk6
 clear bk12
 have HI0 : Hid (∃ (k pk : Nat) (xs : List Ins) (a : Option Addr) (c : Nat), Value.int .i64 0 = .int .i64 k ∧ k + 1 ≤ t ∧ Hid (xs.length = k) ∧ w3.ownsRow w3.heap.size 32 5 (.slice a k c) k (inss xs) ∧ Bk w3 (w1.heap.size + 1) [.slice a0 nv c0, .slice a1 na c1, .slice a k c] ∧ Bk w3 (w.heap.size) [.slice none 0 0, .slice none 0 0, .slice none 0 0] ∧ HeadD w3 (w.heap.size + 1) (.slice a0 nv c0) (.slice a1 na c1) nv na ∧ (∀ q, ((Value.slice a0 nv c0).ownBlock = some q ∨ (Value.slice a1 na c1).ownBlock = some q) → q < w3.heap.size ∧ ¬ q = w1.heap.size + 1) ∧ Rnd w3 B g pk ∧ pk ≤ p1 + 1 + 5 * k ∧ Chg (fun q => q = g) w w3 ∧ w3.heap.size ≤ w3.heap.size) := Lib.hid ⟨0, p1 + 1, [], none, 0, rfl, by omega, Lib.hid rfl, World.ownsRow_nil _ _ _ _, bk7, bk2, HeadD.mono hd (by omega), fun q h => by have := iv3 q h; omega, hR, by omega, hC, Nat.le_refl _⟩
 have hszb : w.heap.size ≤ w.heap.size ∧ w.heap.size < w3.heap.size ∧ w.heap.size ≤ w1.heap.size + 1 ∧ w1.heap.size + 1 < w3.heap.size ∧ ¬ w.heap.size = w1.heap.size + 1 := by omega
 clear hR hC bk2 hd bk7 lt4 lt8 lt9 lt13 iv3
 go_wp2_with fail
 go_loopw [6] (fun i wr => ∃ (k pk : Nat) (xs : List Ins) (a : Option Addr) (c : Nat), i = .int .i64 k ∧ k + 1 ≤ t ∧ Hid (xs.length = k) ∧ wr.ownsRow w3.heap.size 32 5 (.slice a k c) k (inss xs) ∧ Bk wr (w1.heap.size + 1) [.slice a0 nv c0, .slice a1 na c1, .slice a k c] ∧ Bk wr (w.heap.size) [.slice none 0 0, .slice none 0 0, .slice none 0 0] ∧ HeadD wr (w.heap.size + 1) (.slice a0 nv c0) (.slice a1 na c1) nv na ∧ (∀ q, ((Value.slice a0 nv c0).ownBlock = some q ∨ (Value.slice a1 na c1).ownBlock = some q) → q < w3.heap.size ∧ ¬ q = w1.heap.size + 1) ∧ Rnd wr B g pk ∧ pk ≤ p1 + 1 + 5 * k ∧ Chg (fun q => q = g) w wr ∧ w3.heap.size ≤ wr.heap.size) (fun i _ => t - (intOf i).toNat)
 case atStart => exact HI0.out
 case round =>
  obtain ⟨k, pk, xs, a, c, rfl, hk, HXL, oX, kb4, kb2, hd, hvq, hR, hpk, hC, hzr⟩ := hrel
  clear HI0
  obtain ⟨wl, rfl⟩ : ∃ X, X = wr := ⟨_, rfl⟩
  have iH : ∀ q, ((Value.slice a0 nv c0).ownBlock = some q ∨ (Value.slice a1 na c1).ownBlock = some q) → q < w3.heap.size ∧ w.heap.size + 1 ≤ q ∧ ¬ q = w1.heap.size + 1 := fun q h => by have := hvq q h; have := hd.lt q h; omega
  have iX := oX.lt
  clear hvq
  have lt14 := Bk.lz kb4
  have lt15 := Bk.lz kb2
  by_cases hlt : k + 1 < t
  ·have hq1 : (k : Int) < (t : Int) - 1 := by omega
   go_upto_region 7 with (fail)
   have hc16 := Bk.cell kb4 0 (v := .slice a0 nv c0) rfl
   have hc17 := Bk.cell kb4 1 (v := .slice a1 na c1) rfl
   replace lt14 := Bk.lz kb4
   replace lt15 := Bk.lz kb2
   refine wp_region_noPanic ?_
   refine wp_region_held_drew (S := (fun W' => True)) (by kernel_rfl) trivial (fun hHeld => ?_)
   obtain ⟨w4, hwd⟩ : ∃ X, X = World.drew wl := ⟨_, rfl⟩
   rw [← hwd]
   have hb : Below wl.heap.size wl w4 := by rw [hwd]; exact Below.drew (Bs _)
   clear hwd
   replace hC := (hC).trans (Chg.of_below hb)
   replace hR := hR.below hb
   have hsz18 := hb.size
   replace hd := hd.below hb
   replace oX := Ob oX hb
   replace hc16 := Kc hb hc16
   replace hc17 := Kc hb hc17
   replace kb4 := Bk.below kb4 hb
   replace kb2 := Bk.below kb2 hb
   clear hb
   replace lt14 := Bk.lz kb4
   replace lt15 := Bk.lz kb2
   refine (tq 0 23 rfl rfl ?_ ?_ (tq 2 25 rfl rfl ?_ ?_ (tq 4 27 rfl rfl ?_ ?_ (tq 5 28 rfl rfl ?_ ?_ ?_))))
   iterate 4 (rotate_left; intro W' hSw; clear hSw; go_simp; try with_reducible rfl)
   try simp only [Act.put, sb, List.set]
   refine wpAnyH_ready (rs := [1, 3]) (by kernel_rfl) (by simp) ?_
   refine AllReadyH.cons rfl (fun K hK => ?_) ?_
   ·-- 1
    obtain ⟨tc19, tf20⟩ := Bk.cf kb4 2 rfl
    go_simp
    replace lt14 := Bk.lz kb4
    replace lt15 := Bk.lz kb2
    refine hK.out _ _ trivial (fun hHeld => ?_)
    clear hK K
    try simp only [Act.put, sb, List.set]
    refine Rdy 3 rfl (fun K hK => ?_)
    go_simp
    replace lt14 := Bk.lz kb4
    replace lt15 := Bk.lz kb2
    refine hK.out _ _ trivial (fun hHeld => ?_)
    clear hK K
    try simp only [Act.put, sb, List.set]
    refine Rdy 6 rfl (fun K hK => ?_)
    go_simp
    refine (l6Random_any a0 a1 _ nv c0 na c1 _ _ B g (pk) k t _ hR (by omega) (by omega) (by omega) hlt (by omega)).mono ?_
    rintro e w5 ⟨x0, x1, x2, x3, x4, p3, rfl, hRn, hq3, hc⟩
    replace hC := (hC).trans hc
    replace hR := hRn; clear hRn
    have hsz21 := hc.size
    clear tf20 tc19
    replace hd := hd.keep hc (fun gq h h2 => by have := iH gq h; have := ird gq h2; omega)
    replace oX := Ow oX hc (fun gq h h2 => by have := iX gq h; have := ird gq h2; omega)
    replace hc16 := Gc hc hc16 (fun h => by have := ird _ h; omega)
    replace hc17 := Gc hc hc17 (fun h => by have := ird _ h; omega)
    replace kb4 := Bk.keep kb4 hc (fun h => by have := ird _ h; omega)
    replace kb2 := Bk.keep kb2 hc (fun h => by have := ird _ h; omega)
    clear hc
    replace lt14 := Bk.lz kb4
    replace lt15 := Bk.lz kb2
    refine hK.out _ _ trivial (fun hHeld => ?_)
    clear hK K
    try simp only [Act.put, sb, List.set]
    refine Rdy 7 rfl (fun K hK => ?_)
    go_simp
    obtain ⟨w6, hnw, hb⟩ := nmw (World.alloc w5 (.cells #[.int .i64 x0, .int .i64 x1, .int .i64 x2, .int .i64 x3, .int .i64 x4] 32))
    replace hC := ((hC.trans (Chg.of_below (bal (Bs _) _)))).trans (Chg.of_below hb)
    replace hR := (hR.below (bal (Bs _) _)).below hb
    have ol22 := Ob (World.ownsRow_lit (base := (w5).heap.size) (e := 32) (size := 5) (w5) #[.int .i64 x0, .int .i64 x1, .int .i64 x2, .int .i64 x3, .int .i64 x4] 1 (Nat.le_refl _) (by unfold maxLen; omega) (by simp)) hb
    try simp only [Sa, Ss] at ol22
    have hsz23 := hb.size
    simp only [Sa] at hsz23
    replace hd := (hd.below (bal (Bs _) _)).below hb
    replace oX := Ob (Ob oX (bal (Bs _) _)) hb
    replace hc16 := Kc hb (Ac hc16 _)
    replace hc17 := Kc hb (Ac hc17 _)
    replace kb4 := Bk.below (Bk.al kb4 _) hb
    replace kb2 := Bk.below (Bk.al kb2 _) hb
    have bk24 : Bk w6 (w5.heap.size) [.int .i64 x0, .int .i64 x1, .int .i64 x2, .int .i64 x3, .int .i64 x4] := Bk.below (Bk.nw (by simp) rfl) hb
    clear hb
    have iv25 := ol22.lt
    try simp only [Sa] at iv25
    rw [← hnw]
    clear hnw
    replace lt14 := Bk.lz kb4
    replace lt15 := Bk.lz kb2
    have lt26 := Bk.lz bk24
    refine hK.out _ _ trivial (fun hHeld => ?_)
    clear hK K
    try simp only [Act.put, sb, List.set]
    refine Rdy 8 rfl (fun K hK => ?_)
    refine step_aps tInstrs rfl _ _ rfl (w3.heap.size) _ k (inss xs) rfl oX _ 1 (insc ⟨x0, x1, x2, x3, x4⟩) rfl ((Ro ol22 (by simp))) (one_insc ⟨x0, x1, x2, x3, x4⟩) (by omega) (by first | omega | (simp only [Sa, Ss]; omega)) ?_
    intro vA w7 oA27 hc hNw _
    obtain ⟨pA27, tA27, rfl⟩ := Oh oA27
    replace hC := chg_app hC hc (fun q hq h => by have := iX q h; omega)
    replace hR := hR.keep hc (fun h => by have := iX _ h; omega) (fun k hk h => by have := iX _ h; omega)
    have hsz28 := hc.size
    replace hd := hd.keep hc (fun gq h h2 => by have := iH gq h; have := iX gq h2; omega)
    replace hc16 := Gc hc hc16 (fun h => by have := iX _ h; omega)
    replace hc17 := Gc hc hc17 (fun h => by have := iX _ h; omega)
    replace ol22 := Ow ol22 hc (fun gq h h2 => by have := iv25 gq h; have := iX gq h2; omega)
    replace kb4 := Bk.keep kb4 hc (fun h => by have := iX _ h; omega)
    replace kb2 := Bk.keep kb2 hc (fun h => by have := iX _ h; omega)
    replace bk24 := Bk.keep bk24 hc (fun h => by have := iX _ h; omega)
    clear hc
    have iv29 := oA27.lt
    clear hNw oX
    replace lt14 := Bk.lz kb4
    replace lt15 := Bk.lz kb2
    replace lt26 := Bk.lz bk24
    refine hK.out _ _ trivial (fun hHeld => ?_)
    clear hK K
    try simp only [Act.put, sb, List.set]
    refine (tq 9 32 rfl rfl ?_ ?_ ?_)
    (rotate_left; intro W' hSw; clear hSw; go_simp; try with_reducible rfl)
    try simp only [Act.put, sb, List.set]
    refine Rdy 10 rfl (fun K hK => ?_)
    obtain ⟨tc30, tf31⟩ := Bk.cf kb4 2 rfl
    go_simp
    obtain ⟨w8, hnw, hb⟩ := nmw (World.setCell w7 ⟨w1.heap.size + 1, 2, none⟩ (.slice pA27 (k + 1) tA27))
    replace hC := ((hC.setNew _ _ _ (Or.inr (by omega)))).trans (Chg.of_below hb)
    replace hR := (hR.keep (C1 _ _ _) (by omega) (fun _ _ => by omega)).below hb
    have hsz32 := hb.size
    simp only [Ss] at hsz32
    clear tf31 tc30
    replace hd := (hd.keep (C1 _ _ _) (fun gq h h2 => by have := iH gq h; omega)).below hb
    replace hc16 := Kc hb (Nc hc16 (by omega) _)
    replace hc17 := Kc hb (Nc hc17 (by omega) _)
    replace ol22 := Ob (Oe ol22 _ _ (fun h => by have := iv25 _ h; omega) _) hb
    replace oA27 := Ob (Oe oA27 _ _ (fun h => by have := iv29 _ h; omega) _) hb
    replace kb4 : Bk w8 (w1.heap.size + 1) [.slice a0 nv c0, .slice a1 na c1, .slice pA27 (k + 1) tA27] := Bk.below (Bk.at kb4 2 (.slice pA27 (k + 1) tA27)) hb
    replace kb2 := Bk.below (Bk.ne kb2 (by omega) _) hb
    replace bk24 := Bk.below (Bk.ne bk24 (by omega) _) hb
    clear hb
    rw [← hnw]
    clear hnw
    replace lt14 := Bk.lz kb4
    replace lt15 := Bk.lz kb2
    replace lt26 := Bk.lz bk24
    refine hK.out _ _ trivial (fun hHeld => ?_)
    clear hK K
    try simp only [Act.put, sb, List.set]
    refine wpAnyH_done (by kernel_rfl) ?_ _
    refine NoPanic.normal ?_
    clear hHeld
    have HO := Lib.hid (show w8.ownsRow w3.heap.size 32 5 _ (k + 1) (inss (xs ++ [⟨x0, x1, x2, x3, x4⟩])) from by rw [inss, rows_append]; exact oA27)
    have HXL2 : Hid ((xs ++ ([⟨x0, x1, x2, x3, x4⟩] : List Ins)).length = k + 1) := Lib.hid (by rw [List.length_append, HXL.out]; rfl)
    have HH := Lib.hid (And.intro hR (And.intro hC hd)); clear hR hC hd oA27
    have hvq : ∀ q, ((Value.slice a0 nv c0).ownBlock = some q ∨ (Value.slice a1 na c1).ownBlock = some q) → q < w3.heap.size ∧ ¬ q = w1.heap.size + 1 := fun q h => by have := iH q h; omega
    have HVQ := Lib.hid hvq; clear hvq
    obtain ⟨tc33, tf34⟩ := Bk.cf kb4 2 rfl
    go_wp2
    go_roundw
    case rel => exact ⟨k + 1, p3, xs ++ [⟨x0, x1, x2, x3, x4⟩], _, _, by go_num, by omega, HXL2, HO.out, kb4, kb2, HH.out.2.2, HVQ.out, HH.out.1, by omega, HH.out.2.1, by omega⟩
    case measure => simp [intOf]; omega
   refine AllReadyH.cons rfl (fun K hK => ?_) AllReadyH.nil
   obtain ⟨tc35, tf36⟩ := Bk.cf kb4 2 rfl
   go_simp
   replace lt14 := Bk.lz kb4
   replace lt15 := Bk.lz kb2
   refine hK.out _ _ trivial (fun hHeld => ?_)
   clear hK K
   try simp only [Act.put, sb, List.set]
   refine wpAnyH_ready (rs := [1, 6]) (by kernel_rfl) (by simp) ?_
   refine AllReadyH.cons rfl (fun K hK => ?_) ?_
   ·-- 1
    go_simp
    replace lt14 := Bk.lz kb4
    replace lt15 := Bk.lz kb2
    refine hK.out _ _ trivial (fun hHeld => ?_)
    clear hK K
    try simp only [Act.put, sb, List.set]
    refine Rdy 6 rfl (fun K hK => ?_)
    go_simp
    refine (l6Random_any a0 a1 _ nv c0 na c1 _ _ B g (pk) k t _ hR (by omega) (by omega) (by omega) hlt (by omega)).mono ?_
    rintro e w5 ⟨x0, x1, x2, x3, x4, p3, rfl, hRn, hq3, hc⟩
    replace hC := (hC).trans hc
    replace hR := hRn; clear hRn
    have hsz37 := hc.size
    clear tf36 tc35
    replace hd := hd.keep hc (fun gq h h2 => by have := iH gq h; have := ird gq h2; omega)
    replace oX := Ow oX hc (fun gq h h2 => by have := iX gq h; have := ird gq h2; omega)
    replace hc16 := Gc hc hc16 (fun h => by have := ird _ h; omega)
    replace hc17 := Gc hc hc17 (fun h => by have := ird _ h; omega)
    replace kb4 := Bk.keep kb4 hc (fun h => by have := ird _ h; omega)
    replace kb2 := Bk.keep kb2 hc (fun h => by have := ird _ h; omega)
    clear hc
    replace lt14 := Bk.lz kb4
    replace lt15 := Bk.lz kb2
    refine hK.out _ _ trivial (fun hHeld => ?_)
    clear hK K
    try simp only [Act.put, sb, List.set]
    refine Rdy 7 rfl (fun K hK => ?_)
    go_simp
    obtain ⟨w6, hnw, hb⟩ := nmw (World.alloc w5 (.cells #[.int .i64 x0, .int .i64 x1, .int .i64 x2, .int .i64 x3, .int .i64 x4] 32))
    replace hC := ((hC.trans (Chg.of_below (bal (Bs _) _)))).trans (Chg.of_below hb)
    replace hR := (hR.below (bal (Bs _) _)).below hb
    have ol38 := Ob (World.ownsRow_lit (base := (w5).heap.size) (e := 32) (size := 5) (w5) #[.int .i64 x0, .int .i64 x1, .int .i64 x2, .int .i64 x3, .int .i64 x4] 1 (Nat.le_refl _) (by unfold maxLen; omega) (by simp)) hb
    try simp only [Sa, Ss] at ol38
    have hsz39 := hb.size
    simp only [Sa] at hsz39
    replace hd := (hd.below (bal (Bs _) _)).below hb
    replace oX := Ob (Ob oX (bal (Bs _) _)) hb
    replace hc16 := Kc hb (Ac hc16 _)
    replace hc17 := Kc hb (Ac hc17 _)
    replace kb4 := Bk.below (Bk.al kb4 _) hb
    replace kb2 := Bk.below (Bk.al kb2 _) hb
    have bk40 : Bk w6 (w5.heap.size) [.int .i64 x0, .int .i64 x1, .int .i64 x2, .int .i64 x3, .int .i64 x4] := Bk.below (Bk.nw (by simp) rfl) hb
    clear hb
    have iv41 := ol38.lt
    try simp only [Sa] at iv41
    rw [← hnw]
    clear hnw
    replace lt14 := Bk.lz kb4
    replace lt15 := Bk.lz kb2
    have lt42 := Bk.lz bk40
    refine hK.out _ _ trivial (fun hHeld => ?_)
    clear hK K
    try simp only [Act.put, sb, List.set]
    refine Rdy 8 rfl (fun K hK => ?_)
    refine step_aps tInstrs rfl _ _ rfl (w3.heap.size) _ k (inss xs) rfl oX _ 1 (insc ⟨x0, x1, x2, x3, x4⟩) rfl ((Ro ol38 (by simp))) (one_insc ⟨x0, x1, x2, x3, x4⟩) (by omega) (by first | omega | (simp only [Sa, Ss]; omega)) ?_
    intro vA w7 oA43 hc hNw _
    obtain ⟨pA43, tA43, rfl⟩ := Oh oA43
    replace hC := chg_app hC hc (fun q hq h => by have := iX q h; omega)
    replace hR := hR.keep hc (fun h => by have := iX _ h; omega) (fun k hk h => by have := iX _ h; omega)
    have hsz44 := hc.size
    replace hd := hd.keep hc (fun gq h h2 => by have := iH gq h; have := iX gq h2; omega)
    replace hc16 := Gc hc hc16 (fun h => by have := iX _ h; omega)
    replace hc17 := Gc hc hc17 (fun h => by have := iX _ h; omega)
    replace ol38 := Ow ol38 hc (fun gq h h2 => by have := iv41 gq h; have := iX gq h2; omega)
    replace kb4 := Bk.keep kb4 hc (fun h => by have := iX _ h; omega)
    replace kb2 := Bk.keep kb2 hc (fun h => by have := iX _ h; omega)
    replace bk40 := Bk.keep bk40 hc (fun h => by have := iX _ h; omega)
    clear hc
    have iv45 := oA43.lt
    clear hNw oX
    replace lt14 := Bk.lz kb4
    replace lt15 := Bk.lz kb2
    replace lt42 := Bk.lz bk40
    refine hK.out _ _ trivial (fun hHeld => ?_)
    clear hK K
    try simp only [Act.put, sb, List.set]
    refine (tq 9 32 rfl rfl ?_ ?_ ?_)
    (rotate_left; intro W' hSw; clear hSw; go_simp; try with_reducible rfl)
    try simp only [Act.put, sb, List.set]
    refine Rdy 10 rfl (fun K hK => ?_)
    obtain ⟨tc46, tf47⟩ := Bk.cf kb4 2 rfl
    go_simp
    obtain ⟨w8, hnw, hb⟩ := nmw (World.setCell w7 ⟨w1.heap.size + 1, 2, none⟩ (.slice pA43 (k + 1) tA43))
    replace hC := ((hC.setNew _ _ _ (Or.inr (by omega)))).trans (Chg.of_below hb)
    replace hR := (hR.keep (C1 _ _ _) (by omega) (fun _ _ => by omega)).below hb
    have hsz48 := hb.size
    simp only [Ss] at hsz48
    clear tf47 tc46
    replace hd := (hd.keep (C1 _ _ _) (fun gq h h2 => by have := iH gq h; omega)).below hb
    replace hc16 := Kc hb (Nc hc16 (by omega) _)
    replace hc17 := Kc hb (Nc hc17 (by omega) _)
    replace ol38 := Ob (Oe ol38 _ _ (fun h => by have := iv41 _ h; omega) _) hb
    replace oA43 := Ob (Oe oA43 _ _ (fun h => by have := iv45 _ h; omega) _) hb
    replace kb4 : Bk w8 (w1.heap.size + 1) [.slice a0 nv c0, .slice a1 na c1, .slice pA43 (k + 1) tA43] := Bk.below (Bk.at kb4 2 (.slice pA43 (k + 1) tA43)) hb
    replace kb2 := Bk.below (Bk.ne kb2 (by omega) _) hb
    replace bk40 := Bk.below (Bk.ne bk40 (by omega) _) hb
    clear hb
    rw [← hnw]
    clear hnw
    replace lt14 := Bk.lz kb4
    replace lt15 := Bk.lz kb2
    replace lt42 := Bk.lz bk40
    refine hK.out _ _ trivial (fun hHeld => ?_)
    clear hK K
    try simp only [Act.put, sb, List.set]
    refine wpAnyH_done (by kernel_rfl) ?_ _
    refine NoPanic.normal ?_
    clear hHeld
    have HO := Lib.hid (show w8.ownsRow w3.heap.size 32 5 _ (k + 1) (inss (xs ++ [⟨x0, x1, x2, x3, x4⟩])) from by rw [inss, rows_append]; exact oA43)
    have HXL2 : Hid ((xs ++ ([⟨x0, x1, x2, x3, x4⟩] : List Ins)).length = k + 1) := Lib.hid (by rw [List.length_append, HXL.out]; rfl)
    have HH := Lib.hid (And.intro hR (And.intro hC hd)); clear hR hC hd oA43
    have hvq : ∀ q, ((Value.slice a0 nv c0).ownBlock = some q ∨ (Value.slice a1 na c1).ownBlock = some q) → q < w3.heap.size ∧ ¬ q = w1.heap.size + 1 := fun q h => by have := iH q h; omega
    have HVQ := Lib.hid hvq; clear hvq
    obtain ⟨tc49, tf50⟩ := Bk.cf kb4 2 rfl
    go_wp2
    go_roundw
    case rel => exact ⟨k + 1, p3, xs ++ [⟨x0, x1, x2, x3, x4⟩], _, _, by go_num, by omega, HXL2, HO.out, kb4, kb2, HH.out.2.2, HVQ.out, HH.out.1, by omega, HH.out.2.1, by omega⟩
    case measure => simp [intOf]; omega
   refine AllReadyH.cons rfl (fun K hK => ?_) AllReadyH.nil
   go_simp
   refine (l6Random_any a0 a1 _ nv c0 na c1 _ _ B g (pk) k t _ hR (by omega) (by omega) (by omega) hlt (by omega)).mono ?_
   rintro e w5 ⟨x0, x1, x2, x3, x4, p3, rfl, hRn, hq3, hc⟩
   replace hC := (hC).trans hc
   replace hR := hRn; clear hRn
   have hsz51 := hc.size
   clear tf36 tc35
   replace hd := hd.keep hc (fun gq h h2 => by have := iH gq h; have := ird gq h2; omega)
   replace oX := Ow oX hc (fun gq h h2 => by have := iX gq h; have := ird gq h2; omega)
   replace hc16 := Gc hc hc16 (fun h => by have := ird _ h; omega)
   replace hc17 := Gc hc hc17 (fun h => by have := ird _ h; omega)
   replace kb4 := Bk.keep kb4 hc (fun h => by have := ird _ h; omega)
   replace kb2 := Bk.keep kb2 hc (fun h => by have := ird _ h; omega)
   clear hc
   replace lt14 := Bk.lz kb4
   replace lt15 := Bk.lz kb2
   refine hK.out _ _ trivial (fun hHeld => ?_)
   clear hK K
   try simp only [Act.put, sb, List.set]
   refine wpAnyH_ready (rs := [1, 7]) (by kernel_rfl) (by simp) ?_
   refine AllReadyH.cons rfl (fun K hK => ?_) ?_
   ·-- 1
    obtain ⟨tc52, tf53⟩ := Bk.cf kb4 2 rfl
    go_simp
    replace lt14 := Bk.lz kb4
    replace lt15 := Bk.lz kb2
    refine hK.out _ _ trivial (fun hHeld => ?_)
    clear hK K
    try simp only [Act.put, sb, List.set]
    refine Rdy 7 rfl (fun K hK => ?_)
    go_simp
    obtain ⟨w6, hnw, hb⟩ := nmw (World.alloc w5 (.cells #[.int .i64 x0, .int .i64 x1, .int .i64 x2, .int .i64 x3, .int .i64 x4] 32))
    replace hC := ((hC.trans (Chg.of_below (bal (Bs _) _)))).trans (Chg.of_below hb)
    replace hR := (hR.below (bal (Bs _) _)).below hb
    have ol54 := Ob (World.ownsRow_lit (base := (w5).heap.size) (e := 32) (size := 5) (w5) #[.int .i64 x0, .int .i64 x1, .int .i64 x2, .int .i64 x3, .int .i64 x4] 1 (Nat.le_refl _) (by unfold maxLen; omega) (by simp)) hb
    try simp only [Sa, Ss] at ol54
    have hsz55 := hb.size
    simp only [Sa] at hsz55
    clear tf53 tc52
    replace hd := (hd.below (bal (Bs _) _)).below hb
    replace oX := Ob (Ob oX (bal (Bs _) _)) hb
    replace hc16 := Kc hb (Ac hc16 _)
    replace hc17 := Kc hb (Ac hc17 _)
    replace kb4 := Bk.below (Bk.al kb4 _) hb
    replace kb2 := Bk.below (Bk.al kb2 _) hb
    have bk56 : Bk w6 (w5.heap.size) [.int .i64 x0, .int .i64 x1, .int .i64 x2, .int .i64 x3, .int .i64 x4] := Bk.below (Bk.nw (by simp) rfl) hb
    clear hb
    have iv57 := ol54.lt
    try simp only [Sa] at iv57
    rw [← hnw]
    clear hnw
    replace lt14 := Bk.lz kb4
    replace lt15 := Bk.lz kb2
    have lt58 := Bk.lz bk56
    refine hK.out _ _ trivial (fun hHeld => ?_)
    clear hK K
    try simp only [Act.put, sb, List.set]
    refine Rdy 8 rfl (fun K hK => ?_)
    refine step_aps tInstrs rfl _ _ rfl (w3.heap.size) _ k (inss xs) rfl oX _ 1 (insc ⟨x0, x1, x2, x3, x4⟩) rfl ((Ro ol54 (by simp))) (one_insc ⟨x0, x1, x2, x3, x4⟩) (by omega) (by first | omega | (simp only [Sa, Ss]; omega)) ?_
    intro vA w7 oA59 hc hNw _
    obtain ⟨pA59, tA59, rfl⟩ := Oh oA59
    replace hC := chg_app hC hc (fun q hq h => by have := iX q h; omega)
    replace hR := hR.keep hc (fun h => by have := iX _ h; omega) (fun k hk h => by have := iX _ h; omega)
    have hsz60 := hc.size
    replace hd := hd.keep hc (fun gq h h2 => by have := iH gq h; have := iX gq h2; omega)
    replace hc16 := Gc hc hc16 (fun h => by have := iX _ h; omega)
    replace hc17 := Gc hc hc17 (fun h => by have := iX _ h; omega)
    replace ol54 := Ow ol54 hc (fun gq h h2 => by have := iv57 gq h; have := iX gq h2; omega)
    replace kb4 := Bk.keep kb4 hc (fun h => by have := iX _ h; omega)
    replace kb2 := Bk.keep kb2 hc (fun h => by have := iX _ h; omega)
    replace bk56 := Bk.keep bk56 hc (fun h => by have := iX _ h; omega)
    clear hc
    have iv61 := oA59.lt
    clear hNw oX
    replace lt14 := Bk.lz kb4
    replace lt15 := Bk.lz kb2
    replace lt58 := Bk.lz bk56
    refine hK.out _ _ trivial (fun hHeld => ?_)
    clear hK K
    try simp only [Act.put, sb, List.set]
    refine (tq 9 32 rfl rfl ?_ ?_ ?_)
    (rotate_left; intro W' hSw; clear hSw; go_simp; try with_reducible rfl)
    try simp only [Act.put, sb, List.set]
    refine Rdy 10 rfl (fun K hK => ?_)
    obtain ⟨tc62, tf63⟩ := Bk.cf kb4 2 rfl
    go_simp
    obtain ⟨w8, hnw, hb⟩ := nmw (World.setCell w7 ⟨w1.heap.size + 1, 2, none⟩ (.slice pA59 (k + 1) tA59))
    replace hC := ((hC.setNew _ _ _ (Or.inr (by omega)))).trans (Chg.of_below hb)
    replace hR := (hR.keep (C1 _ _ _) (by omega) (fun _ _ => by omega)).below hb
    have hsz64 := hb.size
    simp only [Ss] at hsz64
    clear tf63 tc62
    replace hd := (hd.keep (C1 _ _ _) (fun gq h h2 => by have := iH gq h; omega)).below hb
    replace hc16 := Kc hb (Nc hc16 (by omega) _)
    replace hc17 := Kc hb (Nc hc17 (by omega) _)
    replace ol54 := Ob (Oe ol54 _ _ (fun h => by have := iv57 _ h; omega) _) hb
    replace oA59 := Ob (Oe oA59 _ _ (fun h => by have := iv61 _ h; omega) _) hb
    replace kb4 : Bk w8 (w1.heap.size + 1) [.slice a0 nv c0, .slice a1 na c1, .slice pA59 (k + 1) tA59] := Bk.below (Bk.at kb4 2 (.slice pA59 (k + 1) tA59)) hb
    replace kb2 := Bk.below (Bk.ne kb2 (by omega) _) hb
    replace bk56 := Bk.below (Bk.ne bk56 (by omega) _) hb
    clear hb
    rw [← hnw]
    clear hnw
    replace lt14 := Bk.lz kb4
    replace lt15 := Bk.lz kb2
    replace lt58 := Bk.lz bk56
    refine hK.out _ _ trivial (fun hHeld => ?_)
    clear hK K
    try simp only [Act.put, sb, List.set]
    refine wpAnyH_done (by kernel_rfl) ?_ _
    refine NoPanic.normal ?_
    clear hHeld
    have HO := Lib.hid (show w8.ownsRow w3.heap.size 32 5 _ (k + 1) (inss (xs ++ [⟨x0, x1, x2, x3, x4⟩])) from by rw [inss, rows_append]; exact oA59)
    have HXL2 : Hid ((xs ++ ([⟨x0, x1, x2, x3, x4⟩] : List Ins)).length = k + 1) := Lib.hid (by rw [List.length_append, HXL.out]; rfl)
    have HH := Lib.hid (And.intro hR (And.intro hC hd)); clear hR hC hd oA59
    have hvq : ∀ q, ((Value.slice a0 nv c0).ownBlock = some q ∨ (Value.slice a1 na c1).ownBlock = some q) → q < w3.heap.size ∧ ¬ q = w1.heap.size + 1 := fun q h => by have := iH q h; omega
    have HVQ := Lib.hid hvq; clear hvq
    obtain ⟨tc65, tf66⟩ := Bk.cf kb4 2 rfl
    go_wp2
    go_roundw
    case rel => exact ⟨k + 1, p3, xs ++ [⟨x0, x1, x2, x3, x4⟩], _, _, by go_num, by omega, HXL2, HO.out, kb4, kb2, HH.out.2.2, HVQ.out, HH.out.1, by omega, HH.out.2.1, by omega⟩
    case measure => simp [intOf]; omega
   refine AllReadyH.cons rfl (fun K hK => ?_) AllReadyH.nil
   go_simp
   obtain ⟨w6, hnw, hb⟩ := nmw (World.alloc w5 (.cells #[.int .i64 x0, .int .i64 x1, .int .i64 x2, .int .i64 x3, .int .i64 x4] 32))
   replace hC := ((hC.trans (Chg.of_below (bal (Bs _) _)))).trans (Chg.of_below hb)
   replace hR := (hR.below (bal (Bs _) _)).below hb
   have ol67 := Ob (World.ownsRow_lit (base := (w5).heap.size) (e := 32) (size := 5) (w5) #[.int .i64 x0, .int .i64 x1, .int .i64 x2, .int .i64 x3, .int .i64 x4] 1 (Nat.le_refl _) (by unfold maxLen; omega) (by simp)) hb
   try simp only [Sa, Ss] at ol67
   have hsz68 := hb.size
   simp only [Sa] at hsz68
   replace hd := (hd.below (bal (Bs _) _)).below hb
   replace oX := Ob (Ob oX (bal (Bs _) _)) hb
   replace hc16 := Kc hb (Ac hc16 _)
   replace hc17 := Kc hb (Ac hc17 _)
   replace kb4 := Bk.below (Bk.al kb4 _) hb
   replace kb2 := Bk.below (Bk.al kb2 _) hb
   have bk69 : Bk w6 (w5.heap.size) [.int .i64 x0, .int .i64 x1, .int .i64 x2, .int .i64 x3, .int .i64 x4] := Bk.below (Bk.nw (by simp) rfl) hb
   clear hb
   have iv70 := ol67.lt
   try simp only [Sa] at iv70
   rw [← hnw]
   clear hnw
   replace lt14 := Bk.lz kb4
   replace lt15 := Bk.lz kb2
   have lt71 := Bk.lz bk69
   refine hK.out _ _ trivial (fun hHeld => ?_)
   clear hK K
   try simp only [Act.put, sb, List.set]
   refine Rdy 1 rfl (fun K hK => ?_)
   obtain ⟨tc72, tf73⟩ := Bk.cf kb4 2 rfl
   go_simp
   replace lt14 := Bk.lz kb4
   replace lt15 := Bk.lz kb2
   replace lt71 := Bk.lz bk69
   refine hK.out _ _ trivial (fun hHeld => ?_)
   clear hK K
   try simp only [Act.put, sb, List.set]
   refine Rdy 8 rfl (fun K hK => ?_)
   refine step_aps tInstrs rfl _ _ rfl (w3.heap.size) _ k (inss xs) rfl oX _ 1 (insc ⟨x0, x1, x2, x3, x4⟩) rfl ((Ro ol67 (by simp))) (one_insc ⟨x0, x1, x2, x3, x4⟩) (by omega) (by first | omega | (simp only [Sa, Ss]; omega)) ?_
   intro vA w7 oA74 hc hNw _
   obtain ⟨pA74, tA74, rfl⟩ := Oh oA74
   replace hC := chg_app hC hc (fun q hq h => by have := iX q h; omega)
   replace hR := hR.keep hc (fun h => by have := iX _ h; omega) (fun k hk h => by have := iX _ h; omega)
   have hsz75 := hc.size
   clear tf73 tc72
   replace hd := hd.keep hc (fun gq h h2 => by have := iH gq h; have := iX gq h2; omega)
   replace hc16 := Gc hc hc16 (fun h => by have := iX _ h; omega)
   replace hc17 := Gc hc hc17 (fun h => by have := iX _ h; omega)
   replace ol67 := Ow ol67 hc (fun gq h h2 => by have := iv70 gq h; have := iX gq h2; omega)
   replace kb4 := Bk.keep kb4 hc (fun h => by have := iX _ h; omega)
   replace kb2 := Bk.keep kb2 hc (fun h => by have := iX _ h; omega)
   replace bk69 := Bk.keep bk69 hc (fun h => by have := iX _ h; omega)
   clear hc
   have iv76 := oA74.lt
   clear hNw oX
   replace lt14 := Bk.lz kb4
   replace lt15 := Bk.lz kb2
   replace lt71 := Bk.lz bk69
   refine hK.out _ _ trivial (fun hHeld => ?_)
   clear hK K
   try simp only [Act.put, sb, List.set]
   refine (tq 9 32 rfl rfl ?_ ?_ ?_)
   (rotate_left; intro W' hSw; clear hSw; go_simp; try with_reducible rfl)
   try simp only [Act.put, sb, List.set]
   refine Rdy 10 rfl (fun K hK => ?_)
   obtain ⟨tc77, tf78⟩ := Bk.cf kb4 2 rfl
   go_simp
   obtain ⟨w8, hnw, hb⟩ := nmw (World.setCell w7 ⟨w1.heap.size + 1, 2, none⟩ (.slice pA74 (k + 1) tA74))
   replace hC := ((hC.setNew _ _ _ (Or.inr (by omega)))).trans (Chg.of_below hb)
   replace hR := (hR.keep (C1 _ _ _) (by omega) (fun _ _ => by omega)).below hb
   have hsz79 := hb.size
   simp only [Ss] at hsz79
   clear tf78 tc77
   replace hd := (hd.keep (C1 _ _ _) (fun gq h h2 => by have := iH gq h; omega)).below hb
   replace hc16 := Kc hb (Nc hc16 (by omega) _)
   replace hc17 := Kc hb (Nc hc17 (by omega) _)
   replace ol67 := Ob (Oe ol67 _ _ (fun h => by have := iv70 _ h; omega) _) hb
   replace oA74 := Ob (Oe oA74 _ _ (fun h => by have := iv76 _ h; omega) _) hb
   replace kb4 : Bk w8 (w1.heap.size + 1) [.slice a0 nv c0, .slice a1 na c1, .slice pA74 (k + 1) tA74] := Bk.below (Bk.at kb4 2 (.slice pA74 (k + 1) tA74)) hb
   replace kb2 := Bk.below (Bk.ne kb2 (by omega) _) hb
   replace bk69 := Bk.below (Bk.ne bk69 (by omega) _) hb
   clear hb
   rw [← hnw]
   clear hnw
   replace lt14 := Bk.lz kb4
   replace lt15 := Bk.lz kb2
   replace lt71 := Bk.lz bk69
   refine hK.out _ _ trivial (fun hHeld => ?_)
   clear hK K
   try simp only [Act.put, sb, List.set]
   refine wpAnyH_done (by kernel_rfl) ?_ _
   refine NoPanic.normal ?_
   clear hHeld
   have HO := Lib.hid (show w8.ownsRow w3.heap.size 32 5 _ (k + 1) (inss (xs ++ [⟨x0, x1, x2, x3, x4⟩])) from by rw [inss, rows_append]; exact oA74)
   have HXL2 : Hid ((xs ++ ([⟨x0, x1, x2, x3, x4⟩] : List Ins)).length = k + 1) := Lib.hid (by rw [List.length_append, HXL.out]; rfl)
   have HH := Lib.hid (And.intro hR (And.intro hC hd)); clear hR hC hd oA74
   have hvq : ∀ q, ((Value.slice a0 nv c0).ownBlock = some q ∨ (Value.slice a1 na c1).ownBlock = some q) → q < w3.heap.size ∧ ¬ q = w1.heap.size + 1 := fun q h => by have := iH q h; omega
   have HVQ := Lib.hid hvq; clear hvq
   obtain ⟨tc80, tf81⟩ := Bk.cf kb4 2 rfl
   go_wp2
   go_roundw
   case rel => exact ⟨k + 1, p3, xs ++ [⟨x0, x1, x2, x3, x4⟩], _, _, by go_num, by omega, HXL2, HO.out, kb4, kb2, HH.out.2.2, HVQ.out, HH.out.1, by omega, HH.out.2.1, by omega⟩
   case measure => simp [intOf]; omega
  ·have hq1 : decide ((k : Int) < (t : Int) - 1) = false := decide_eq_false (by omega)
   have hq2 : ¬ (k : Int) < (t : Int) - 1 := by omega
   go_upto_region 8 with (fail)
   replace lt14 := Bk.lz kb4
   replace lt15 := Bk.lz kb2
   have hkt : t = k + 1 := by omega
   clear hq1 hq2 hlt
   subst hkt
   obtain ⟨tc84, tf85⟩ := Bk.cf kb4 2 rfl
   go_wp2_with (at_builtin; refine wpList_aps tInstrs rfl _ _ rfl (w3.heap.size) _ k (inss xs) rfl (Ob oX (bal (Bs _) (.cells #[.int .i64 13, .int .i64 0, .int .i64 0, .int .i64 0, .int .i64 0] 32))) _ 1 (insc ⟨13, 0, 0, 0, 0⟩) rfl ((Ro (World.ownsRow_lit (base := (wl).heap.size) (e := 32) (size := 5) (wl) #[.int .i64 13, .int .i64 0, .int .i64 0, .int .i64 0, .int .i64 0] 1 (Nat.le_refl _) (by unfold maxLen; omega) (by simp)) (by simp))) (one_insc ⟨13, 0, 0, 0, 0⟩) (by omega) (by first | omega | (simp only [Sa, Ss]; omega)) ?_)
   intro vA w4 oA83 hc hNw _
   obtain ⟨pA85, tA85, rfl⟩ := Oh oA83
   replace hC := chg_app (hC.trans (Chg.of_below (bal (Bs _) _))) hc (fun q hq h => by have := iX q h; omega)
   replace hR := (hR.below (bal (Bs _) _)).keep hc (fun h => by have := iX _ h; omega) (fun k hk h => by have := iX _ h; omega)
   have hsz86 := hc.size
   simp only [Sa] at hsz86
   clear tf85 tc84
   replace hd := (hd.below (bal (Bs _) _)).keep hc (fun gq h h2 => by have := iH gq h; have := iX gq h2; omega)
   replace kb4 := Bk.keep (Bk.al kb4 _) hc (fun h => by have := iX _ h; omega)
   replace kb2 := Bk.keep (Bk.al kb2 _) hc (fun h => by have := iX _ h; omega)
   have bk87 : Bk w4 (wl.heap.size) [.int .i64 13, .int .i64 0, .int .i64 0, .int .i64 0, .int .i64 0] := Bk.keep (Bk.nw (by simp) rfl) hc (fun h => by have := iX _ h; omega)
   clear hc
   have iv88 := oA83.lt
   try simp only [Sa] at iv88
   clear hNw oX
   have hdc := HeadD.code (n := k + 1) (show HeadD _ w.heap.size _ _ _ _ from HeadD.mono hd (by omega)) (xs := xs ++ [⟨13, 0, 0, 0, 0⟩]) (by rw [List.length_append, HXL.out]; rfl) (Om (show w4.ownsRow w3.heap.size 32 5 _ (k + 1) (inss (xs ++ [⟨13, 0, 0, 0, 0⟩])) from by rw [inss, rows_append]; exact oA83) (by omega))
   obtain ⟨gl, rfl⟩ := hdc.pos (by omega)
   have iD : ∀ q, OwnB (.slice a0 nv c0) (.slice a1 na c1) (.slice (some ⟨gl, 0, none⟩) (k + 1) tA85) q → w.heap.size ≤ q ∧ q < w4.heap.size ∧ ¬ q = w1.heap.size + 1 ∧ ¬ q = w.heap.size := fun q h => by
    have h1 := hdc.lt q h
    rcases h with h | h | h
    ·have := iH q (Or.inl h); omega
    ·have := iH q (Or.inr h); omega
    ·have := oA83.lt q h; omega
   have hgl := iD gl (Or.inr (Or.inr rfl))
   clear hd iH oA83 iv88
   replace lt14 := Bk.lz kb4
   replace lt15 := Bk.lz kb2
   have lt89 := Bk.lz bk87
   obtain ⟨tc90, tf91⟩ := Bk.cf kb4 2 rfl
   go_upto_region 9 with (fail)
   obtain ⟨w5, hnw, hb⟩ := nmw (World.setCell w4 ⟨w1.heap.size + 1, 2, none⟩ (.slice (some ⟨gl, 0, none⟩) (k + 1) tA85))
   replace hC := ((hC.setNew _ _ _ (Or.inr (by omega)))).trans (Chg.of_below hb)
   replace hR := (hR.keep (C1 _ _ _) (by omega) (fun _ _ => by omega)).below hb
   replace hdc := DrawC.below (DrawC.keep hdc (C1 _ _ _) (fun gq h h2 => by have := iD gq h; omega)) hb
   have hsz92 := hb.size
   simp only [Ss] at hsz92
   clear tf91 tc90
   replace kb4 : Bk w5 (w1.heap.size + 1) [.slice a0 nv c0, .slice a1 na c1, .slice (some ⟨gl, 0, none⟩) (k + 1) tA85] := Bk.below (Bk.at kb4 2 (.slice (some ⟨gl, 0, none⟩) (k + 1) tA85)) hb
   replace kb2 := Bk.below (Bk.ne kb2 (by omega) _) hb
   replace bk87 := Bk.below (Bk.ne bk87 (by omega) _) hb
   clear hb
   rw [← hnw]
   clear hnw
   clear bk87
   clear lt89
   replace lt14 := Bk.lz kb4
   replace lt15 := Bk.lz kb2
   have HID := Lib.hid (show ∀ q, OwnB (.slice a0 nv c0) (.slice a1 na c1) (.slice (some ⟨gl, 0, none⟩) (k + 1) tA85) q → ¬ q = w.heap.size from fun q h => by have := iD q h; omega)
   by_cases h3 : 3 < k + 1
   ·skip
    have hq5 : (3 : Int) < ((k + 1 : Nat) : Int) := by omega
    go_wp2_with fail
    refine (pick_any _ _ B g (pk) hR (by omega) (by omega) (by omega)).mono ?_
    rintro e w6 ⟨z, z0, z1, rfl, hRn, hc⟩
    replace hC := (hC).trans hc
    replace hR := hRn; clear hRn
    replace hdc := DrawC.keep hdc hc (fun q h h2 => by have := iD q h; have := ird q h2; omega)
    have hsz93 := hc.size
    replace kb4 := Bk.keep kb4 hc (fun h => by have := ird _ h; omega)
    replace kb2 := Bk.keep kb2 hc (fun h => by have := ird _ h; omega)
    clear hc
    replace lt14 := Bk.lz kb4
    replace lt15 := Bk.lz kb2
    by_cases hz : z = 0
    ·skip
     subst hz
     go_upto_region 10 with (fail)
     have hc94 := Bk.cell kb4 2 (v := .slice (some ⟨gl, 0, none⟩) (k + 1) tA85) rfl
     replace lt14 := Bk.lz kb4
     replace lt15 := Bk.lz kb2
     refine wp_region_noPanic ?_
     refine wp_region_held_drew (S := (fun W' => W'.cell? ⟨w1.heap.size + 1, 2, none⟩ = some (.slice (some ⟨gl, 0, none⟩) (k + 1) tA85))) (by kernel_rfl) (Kc (Below.drew (Bs w6)) hc94) (fun hHeld => ?_)
     obtain ⟨w7, hwd⟩ : ∃ X, X = World.drew w6 := ⟨_, rfl⟩
     rw [← hwd] at hHeld ⊢
     have hb : Below w6.heap.size w6 w7 := by rw [hwd]; exact Below.drew (Bs _)
     clear hwd
     replace hC := (hC).trans (Chg.of_below hb)
     replace hR := hR.below hb
     replace hdc := DrawC.below hdc hb
     have hsz95 := hb.size
     replace hc94 := Kc hb hc94
     replace kb4 := Bk.below kb4 hb
     replace kb2 := Bk.below kb2 hb
     clear hb
     replace lt14 := Bk.lz kb4
     replace lt15 := Bk.lz kb2
     refine (tq 0 46 rfl rfl ?_ ?_ (tq 1 47 rfl rfl ?_ ?_ (tq 2 48 rfl rfl ?_ ?_ ?_)))
     iterate 3 (rotate_left; intro W' hSw; (try dsimp only at hSw); go_simp; try with_reducible rfl)
     try simp only [Act.put, sb, List.set]
     refine Rdy 3 rfl (fun K hK => ?_)
     go_simp
     refine (pick_any _ _ B g (pk + 1) hR (by omega) (by omega) (by omega)).mono ?_
     rintro e w8 ⟨z3, z30, z31, rfl, hRn, hc⟩
     replace hC := (hC).trans hc
     replace hR := hRn; clear hRn
     replace hdc := DrawC.keep hdc hc (fun q h h2 => by have := iD q h; have := ird q h2; omega)
     have hsz96 := hc.size
     replace hc94 := Gc hc hc94 (fun h => by have := ird _ h; omega)
     replace kb4 := Bk.keep kb4 hc (fun h => by have := ird _ h; omega)
     replace kb2 := Bk.keep kb2 hc (fun h => by have := ird _ h; omega)
     clear hc
     replace lt14 := Bk.lz kb4
     replace lt15 := Bk.lz kb2
     refine hK.out _ _ (hc94) (fun hHeld => ?_)
     clear hK K
     try simp only [Act.put, sb, List.set]
     refine (tq 4 50 rfl rfl ?_ ?_ (tq 5 51 rfl rfl (.agg #[.int .i64 1, .int .i64 5, .int .i64 (IntKind.i64.wrap (1 + z3)), .int .i64 0, .int .i64 0]) (fun W' _ => by kernel_rfl) (tq 6 52 rfl rfl ?_ ?_ ?_)))
     iterate 2 (rotate_left; intro W' hSw; (try dsimp only at hSw); go_simp; try with_reducible rfl)
     try simp only [Act.put, sb, List.set]
     refine Rdy 7 rfl (fun K hK => ?_)
     obtain ⟨⟨dx97, hdx97⟩, fdx97⟩ := hdc.at (0) 0 (by omega) (by omega)
     replace hdx97 : w8.cell? ⟨gl, 0, none⟩ = some (.int .i64 dx97) := hdx97; replace fdx97 : w8.frozen? ⟨gl, 0, none⟩ = false := fdx97
     obtain ⟨⟨dx98, hdx98⟩, fdx98⟩ := hdc.at (0) 1 (by omega) (by omega)
     replace hdx98 : w8.cell? ⟨gl, 1, none⟩ = some (.int .i64 dx98) := hdx98; replace fdx98 : w8.frozen? ⟨gl, 1, none⟩ = false := fdx98
     obtain ⟨⟨dx99, hdx99⟩, fdx99⟩ := hdc.at (0) 2 (by omega) (by omega)
     replace hdx99 : w8.cell? ⟨gl, 2, none⟩ = some (.int .i64 dx99) := hdx99; replace fdx99 : w8.frozen? ⟨gl, 2, none⟩ = false := fdx99
     obtain ⟨⟨dx100, hdx100⟩, fdx100⟩ := hdc.at (0) 3 (by omega) (by omega)
     replace hdx100 : w8.cell? ⟨gl, 3, none⟩ = some (.int .i64 dx100) := hdx100; replace fdx100 : w8.frozen? ⟨gl, 3, none⟩ = false := fdx100
     obtain ⟨⟨dx101, hdx101⟩, fdx101⟩ := hdc.at (0) 4 (by omega) (by omega)
     replace hdx101 : w8.cell? ⟨gl, 4, none⟩ = some (.int .i64 dx101) := hdx101; replace fdx101 : w8.frozen? ⟨gl, 4, none⟩ = false := fdx101
     go_simp
     obtain ⟨w9, hnw, hb⟩ := nmw (World.setCell (World.setCell (World.setCell (World.setCell (World.setCell w8 ⟨gl, 0, none⟩ (.int .i64 1)) ⟨gl, 1, none⟩ (.int .i64 5)) ⟨gl, 2, none⟩ (.int .i64 (IntKind.i64.wrap (1 + z3)))) ⟨gl, 3, none⟩ (.int .i64 0)) ⟨gl, 4, none⟩ (.int .i64 0))
     replace hC := ((((((hC.setNew _ _ _ (Or.inr (by omega))).setNew _ _ _ (Or.inr (by omega))).setNew _ _ _ (Or.inr (by omega))).setNew _ _ _ (Or.inr (by omega))).setNew _ _ _ (Or.inr (by omega)))).trans (Chg.of_below hb)
     replace hR := (((((hR.keep (C1 _ _ _) (by omega) (fun _ _ => by omega)).keep (C1 _ _ _) (by omega) (fun _ _ => by omega)).keep (C1 _ _ _) (by omega) (fun _ _ => by omega)).keep (C1 _ _ _) (by omega) (fun _ _ => by omega)).keep (C1 _ _ _) (by omega) (fun _ _ => by omega)).below hb
     replace hdc := DrawC.below (DrawC.put (DrawC.put (DrawC.put (DrawC.put (DrawC.put hdc 0 0 (by omega) (by omega) (1)) 0 1 (by omega) (by omega) (5)) 0 2 (by omega) (by omega) ((IntKind.i64.wrap (1 + z3)))) 0 3 (by omega) (by omega) (0)) 0 4 (by omega) (by omega) (0)) hb
     have hsz102 := hb.size
     simp only [Ss] at hsz102
     replace hc94 := Kc hb (Nc (Nc (Nc (Nc (Nc hc94 (by omega) _) (by omega) _) (by omega) _) (by omega) _) (by omega) _)
     replace kb4 := Bk.below (Bk.ne (Bk.ne (Bk.ne (Bk.ne (Bk.ne kb4 (by omega) _) (by omega) _) (by omega) _) (by omega) _) (by omega) _) hb
     replace kb2 := Bk.below (Bk.ne (Bk.ne (Bk.ne (Bk.ne (Bk.ne kb2 (by omega) _) (by omega) _) (by omega) _) (by omega) _) (by omega) _) hb
     clear hb
     rw [← hnw]
     clear hnw
     replace lt14 := Bk.lz kb4
     replace lt15 := Bk.lz kb2
     refine hK.out _ _ (hc94) (fun hHeld => ?_)
     clear hK K
     try simp only [Act.put, sb, List.set]
     refine wpAnyH_done (by kernel_rfl) ?_ _
     refine NoPanic.normal ?_
     clear hHeld
     obtain ⟨t2, ht2⟩ : ∃ t2 : Nat, k = t2 + 1 := ⟨k - 1, by omega⟩
     subst ht2
     have hw2 : (((t2 + 1 + 1 : Nat) : Int) - 2) = (t2 : Int) := by omega
     obtain ⟨⟨dx103, hdx103⟩, fdx103⟩ := hdc.at (0) 0 (by omega) (by omega)
     replace hdx103 : w9.cell? ⟨gl, 0, none⟩ = some (.int .i64 dx103) := hdx103; replace fdx103 : w9.frozen? ⟨gl, 0, none⟩ = false := fdx103
     obtain ⟨⟨dx104, hdx104⟩, fdx104⟩ := hdc.at (0) 1 (by omega) (by omega)
     replace hdx104 : w9.cell? ⟨gl, 1, none⟩ = some (.int .i64 dx104) := hdx104; replace fdx104 : w9.frozen? ⟨gl, 1, none⟩ = false := fdx104
     obtain ⟨⟨dx105, hdx105⟩, fdx105⟩ := hdc.at (0) 2 (by omega) (by omega)
     replace hdx105 : w9.cell? ⟨gl, 2, none⟩ = some (.int .i64 dx105) := hdx105; replace fdx105 : w9.frozen? ⟨gl, 2, none⟩ = false := fdx105
     obtain ⟨⟨dx106, hdx106⟩, fdx106⟩ := hdc.at (0) 3 (by omega) (by omega)
     replace hdx106 : w9.cell? ⟨gl, 3, none⟩ = some (.int .i64 dx106) := hdx106; replace fdx106 : w9.frozen? ⟨gl, 3, none⟩ = false := fdx106
     obtain ⟨⟨dx107, hdx107⟩, fdx107⟩ := hdc.at (0) 4 (by omega) (by omega)
     replace hdx107 : w9.cell? ⟨gl, 4, none⟩ = some (.int .i64 dx107) := hdx107; replace fdx107 : w9.frozen? ⟨gl, 4, none⟩ = false := fdx107
     obtain ⟨⟨dx108, hdx108⟩, fdx108⟩ := hdc.at (t2) 0 (by omega) (by omega)
     replace hdx108 : w9.cell? ⟨gl, t2 * 5, none⟩ = some (.int .i64 dx108) := hdx108; replace fdx108 : w9.frozen? ⟨gl, t2 * 5, none⟩ = false := fdx108
     obtain ⟨⟨dx109, hdx109⟩, fdx109⟩ := hdc.at (t2) 1 (by omega) (by omega)
     replace hdx109 : w9.cell? ⟨gl, t2 * 5 + 1, none⟩ = some (.int .i64 dx109) := hdx109; replace fdx109 : w9.frozen? ⟨gl, t2 * 5 + 1, none⟩ = false := fdx109
     obtain ⟨⟨dx110, hdx110⟩, fdx110⟩ := hdc.at (t2) 2 (by omega) (by omega)
     replace hdx110 : w9.cell? ⟨gl, t2 * 5 + 2, none⟩ = some (.int .i64 dx110) := hdx110; replace fdx110 : w9.frozen? ⟨gl, t2 * 5 + 2, none⟩ = false := fdx110
     obtain ⟨⟨dx111, hdx111⟩, fdx111⟩ := hdc.at (t2) 3 (by omega) (by omega)
     replace hdx111 : w9.cell? ⟨gl, t2 * 5 + 3, none⟩ = some (.int .i64 dx111) := hdx111; replace fdx111 : w9.frozen? ⟨gl, t2 * 5 + 3, none⟩ = false := fdx111
     obtain ⟨⟨dx112, hdx112⟩, fdx112⟩ := hdc.at (t2) 4 (by omega) (by omega)
     replace hdx112 : w9.cell? ⟨gl, t2 * 5 + 4, none⟩ = some (.int .i64 dx112) := hdx112; replace fdx112 : w9.frozen? ⟨gl, t2 * 5 + 4, none⟩ = false := fdx112
     go_upto_region 12 with (fail)
     obtain ⟨w10, hnw, hb⟩ := nmw (World.setCell (World.setCell (World.setCell (World.setCell (World.setCell w9 ⟨gl, t2 * 5, none⟩ (.int .i64 10)) ⟨gl, t2 * 5 + 1, none⟩ (.int .i64 5)) ⟨gl, t2 * 5 + 2, none⟩ (.int .i64 1)) ⟨gl, t2 * 5 + 3, none⟩ (.int .i64 0)) ⟨gl, t2 * 5 + 4, none⟩ (.int .i64 0))
     replace hC := ((((((hC.setNew _ _ _ (Or.inr (by omega))).setNew _ _ _ (Or.inr (by omega))).setNew _ _ _ (Or.inr (by omega))).setNew _ _ _ (Or.inr (by omega))).setNew _ _ _ (Or.inr (by omega)))).trans (Chg.of_below hb)
     replace hR := (((((hR.keep (C1 _ _ _) (by omega) (fun _ _ => by omega)).keep (C1 _ _ _) (by omega) (fun _ _ => by omega)).keep (C1 _ _ _) (by omega) (fun _ _ => by omega)).keep (C1 _ _ _) (by omega) (fun _ _ => by omega)).keep (C1 _ _ _) (by omega) (fun _ _ => by omega)).below hb
     replace hdc := DrawC.below (DrawC.put (DrawC.put (DrawC.put (DrawC.put (DrawC.put hdc (t2) 0 (by omega) (by omega) (10)) (t2) 1 (by omega) (by omega) (5)) (t2) 2 (by omega) (by omega) (1)) (t2) 3 (by omega) (by omega) (0)) (t2) 4 (by omega) (by omega) (0)) hb
     have hsz113 := hb.size
     simp only [Ss] at hsz113
     replace hc94 := Kc hb (Nc (Nc (Nc (Nc (Nc hc94 (by omega) _) (by omega) _) (by omega) _) (by omega) _) (by omega) _)
     replace kb4 := Bk.below (Bk.ne (Bk.ne (Bk.ne (Bk.ne (Bk.ne kb4 (by omega) _) (by omega) _) (by omega) _) (by omega) _) (by omega) _) hb
     replace kb2 := Bk.below (Bk.ne (Bk.ne (Bk.ne (Bk.ne (Bk.ne kb2 (by omega) _) (by omega) _) (by omega) _) (by omega) _) (by omega) _) hb
     clear hb
     rw [← hnw]
     clear hnw
     replace lt14 := Bk.lz kb4
     replace lt15 := Bk.lz kb2
     have HDC := Lib.hid (DrawC.keep (DrawC.keep (DrawC.keep hdc (C1 (w.heap.size) (0) (.slice a0 nv c0)) (fun gq h h2 => by have := iD gq h; omega)) (C1 (w.heap.size) (1) (.slice a1 na c1)) (fun gq h h2 => by have := iD gq h; omega)) (C1 (w.heap.size) (2) (.slice (some ⟨gl, 0, none⟩) ((t2 + 1) + 1) tA85)) (fun gq h h2 => by have := iD gq h; omega)); clear hdc iD
     obtain ⟨tc114, tf115⟩ := Bk.cf kb4 0 rfl
     obtain ⟨tc116, tf117⟩ := Bk.cf kb4 1 rfl
     obtain ⟨tc118, tf119⟩ := Bk.cf kb2 0 rfl
     obtain ⟨tc120, tf121⟩ := Bk.cf kb2 1 rfl
     obtain ⟨tc122, tf123⟩ := Bk.cf kb2 2 rfl
     have HCF := ((((Chg.refl (fun q => q = w.heap.size) w10).setCell (w.heap.size) 0 (.slice a0 nv c0) (fun _ => rfl)).setCell (w.heap.size) 1 (.slice a1 na c1) (fun _ => rfl)).setCell (w.heap.size) 2 (.slice (some ⟨gl, 0, none⟩) ((t2 + 1) + 1) tA85) (fun _ => rfl))
     have hBf := (Bk.at (Bk.at (Bk.at kb2 0 (.slice a0 nv c0)) 1 (.slice a1 na c1)) 2 (.slice (some ⟨gl, 0, none⟩) ((t2 + 1) + 1) tA85))
     have xr0 := Bk.cell hBf 0 (v := .slice a0 nv c0) rfl
     have xr1 := Bk.cell hBf 1 (v := .slice a1 na c1) rfl
     have xr2 := Bk.cell hBf 2 (v := .slice (some ⟨gl, 0, none⟩) ((t2 + 1) + 1) tA85) rfl
     have HCH := Lib.hid HCF; clear HCF hBf
     have HCR := Lib.hid (And.intro hC hR); clear hC hR
     go_wp2
     exact bodyPost_ret (v := .agg #[.slice a0 nv c0, .slice a1 na c1, .slice (some ⟨gl, 0, none⟩) ((t2 + 1) + 1) tA85]) (by simp [results, Try.results105, go_sem, xr0, xr1, xr2]) rfl (by exact (by first | exact ⟨_, _, _, nv, na, (t2 + 1) + 1, pk + 1 + 1, rfl, HDC.out, hn15, hy2, by omega, HCR.out.2.keep HCH.out (fun h => by omega) (fun k hk h => by omega), by omega, chg_app HCR.out.1 HCH.out (fun q hq h => by omega)⟩ | exact ⟨_, _, _, rfl, nv, na, (t2 + 1) + 1, pk + 1 + 1, HDC.out, hn15, hy2, by omega, HCR.out.2.keep HCH.out (fun h => by omega) (fun k hk h => by omega), by omega, chg_app HCR.out.1 HCH.out (fun q hq h => by omega)⟩ | exact ⟨_, _, _, rfl, nv, na, (t2 + 1) + 1, HDC.out, hn15, hy2, by omega, pk + 1 + 1, HCR.out.2.keep HCH.out (fun h => by omega) (fun k hk h => by omega), by omega, chg_app HCR.out.1 HCH.out (fun q hq h => by omega)⟩ | exact ⟨⟨_, _, _, rfl⟩, nv, na, (t2 + 1) + 1, HDC.out, hn15, hy2, by omega, pk + 1 + 1, HCR.out.2.keep HCH.out (fun h => by omega) (fun k hk h => by omega), by omega, chg_app HCR.out.1 HCH.out (fun q hq h => by omega)⟩))
    ·skip
     have hq6 : (z == 0) = false := by simp [hz]
     go_upto_region 12 with (fail)
     replace lt14 := Bk.lz kb4
     replace lt15 := Bk.lz kb2
     have HDC := Lib.hid (DrawC.keep (DrawC.keep (DrawC.keep hdc (C1 (w.heap.size) (0) (.slice a0 nv c0)) (fun gq h h2 => by have := iD gq h; omega)) (C1 (w.heap.size) (1) (.slice a1 na c1)) (fun gq h h2 => by have := iD gq h; omega)) (C1 (w.heap.size) (2) (.slice (some ⟨gl, 0, none⟩) (k + 1) tA85)) (fun gq h h2 => by have := iD gq h; omega)); clear hdc iD
     obtain ⟨tc124, tf125⟩ := Bk.cf kb4 0 rfl
     obtain ⟨tc126, tf127⟩ := Bk.cf kb4 1 rfl
     obtain ⟨tc128, tf129⟩ := Bk.cf kb4 2 rfl
     obtain ⟨tc130, tf131⟩ := Bk.cf kb2 0 rfl
     obtain ⟨tc132, tf133⟩ := Bk.cf kb2 1 rfl
     obtain ⟨tc134, tf135⟩ := Bk.cf kb2 2 rfl
     have HCF := ((((Chg.refl (fun q => q = w.heap.size) w6).setCell (w.heap.size) 0 (.slice a0 nv c0) (fun _ => rfl)).setCell (w.heap.size) 1 (.slice a1 na c1) (fun _ => rfl)).setCell (w.heap.size) 2 (.slice (some ⟨gl, 0, none⟩) (k + 1) tA85) (fun _ => rfl))
     have hBf := (Bk.at (Bk.at (Bk.at kb2 0 (.slice a0 nv c0)) 1 (.slice a1 na c1)) 2 (.slice (some ⟨gl, 0, none⟩) (k + 1) tA85))
     have xr0 := Bk.cell hBf 0 (v := .slice a0 nv c0) rfl
     have xr1 := Bk.cell hBf 1 (v := .slice a1 na c1) rfl
     have xr2 := Bk.cell hBf 2 (v := .slice (some ⟨gl, 0, none⟩) (k + 1) tA85) rfl
     have HCH := Lib.hid HCF; clear HCF hBf
     have HCR := Lib.hid (And.intro hC hR); clear hC hR
     go_wp2
     exact bodyPost_ret (v := .agg #[.slice a0 nv c0, .slice a1 na c1, .slice (some ⟨gl, 0, none⟩) (k + 1) tA85]) (by simp [results, Try.results105, go_sem, xr0, xr1, xr2]) rfl (by exact (by first | exact ⟨_, _, _, nv, na, k + 1, pk + 1, rfl, HDC.out, hn15, hy2, by omega, HCR.out.2.keep HCH.out (fun h => by omega) (fun k hk h => by omega), by omega, chg_app HCR.out.1 HCH.out (fun q hq h => by omega)⟩ | exact ⟨_, _, _, rfl, nv, na, k + 1, pk + 1, HDC.out, hn15, hy2, by omega, HCR.out.2.keep HCH.out (fun h => by omega) (fun k hk h => by omega), by omega, chg_app HCR.out.1 HCH.out (fun q hq h => by omega)⟩ | exact ⟨_, _, _, rfl, nv, na, k + 1, HDC.out, hn15, hy2, by omega, pk + 1, HCR.out.2.keep HCH.out (fun h => by omega) (fun k hk h => by omega), by omega, chg_app HCR.out.1 HCH.out (fun q hq h => by omega)⟩ | exact ⟨⟨_, _, _, rfl⟩, nv, na, k + 1, HDC.out, hn15, hy2, by omega, pk + 1, HCR.out.2.keep HCH.out (fun h => by omega) (fun k hk h => by omega), by omega, chg_app HCR.out.1 HCH.out (fun q hq h => by omega)⟩))
   ·skip
    have hq5 : decide ((3 : Int) < ((k + 1 : Nat) : Int)) = false := decide_eq_false (by omega)
    go_upto_region 12 with (fail)
    replace lt14 := Bk.lz kb4
    replace lt15 := Bk.lz kb2
    have HDC := Lib.hid (DrawC.keep (DrawC.keep (DrawC.keep hdc (C1 (w.heap.size) (0) (.slice a0 nv c0)) (fun gq h h2 => by have := iD gq h; omega)) (C1 (w.heap.size) (1) (.slice a1 na c1)) (fun gq h h2 => by have := iD gq h; omega)) (C1 (w.heap.size) (2) (.slice (some ⟨gl, 0, none⟩) (k + 1) tA85)) (fun gq h h2 => by have := iD gq h; omega)); clear hdc iD
    obtain ⟨tc136, tf137⟩ := Bk.cf kb4 0 rfl
    obtain ⟨tc138, tf139⟩ := Bk.cf kb4 1 rfl
    obtain ⟨tc140, tf141⟩ := Bk.cf kb4 2 rfl
    obtain ⟨tc142, tf143⟩ := Bk.cf kb2 0 rfl
    obtain ⟨tc144, tf145⟩ := Bk.cf kb2 1 rfl
    obtain ⟨tc146, tf147⟩ := Bk.cf kb2 2 rfl
    have HCF := ((((Chg.refl (fun q => q = w.heap.size) w5).setCell (w.heap.size) 0 (.slice a0 nv c0) (fun _ => rfl)).setCell (w.heap.size) 1 (.slice a1 na c1) (fun _ => rfl)).setCell (w.heap.size) 2 (.slice (some ⟨gl, 0, none⟩) (k + 1) tA85) (fun _ => rfl))
    have hBf := (Bk.at (Bk.at (Bk.at kb2 0 (.slice a0 nv c0)) 1 (.slice a1 na c1)) 2 (.slice (some ⟨gl, 0, none⟩) (k + 1) tA85))
    have xr0 := Bk.cell hBf 0 (v := .slice a0 nv c0) rfl
    have xr1 := Bk.cell hBf 1 (v := .slice a1 na c1) rfl
    have xr2 := Bk.cell hBf 2 (v := .slice (some ⟨gl, 0, none⟩) (k + 1) tA85) rfl
    have HCH := Lib.hid HCF; clear HCF hBf
    have HCR := Lib.hid (And.intro hC hR); clear hC hR
    go_wp2
    exact bodyPost_ret (v := .agg #[.slice a0 nv c0, .slice a1 na c1, .slice (some ⟨gl, 0, none⟩) (k + 1) tA85]) (by simp [results, Try.results105, go_sem, xr0, xr1, xr2]) rfl (by exact (by first | exact ⟨_, _, _, nv, na, k + 1, pk, rfl, HDC.out, hn15, hy2, by omega, HCR.out.2.keep HCH.out (fun h => by omega) (fun k hk h => by omega), by omega, chg_app HCR.out.1 HCH.out (fun q hq h => by omega)⟩ | exact ⟨_, _, _, rfl, nv, na, k + 1, pk, HDC.out, hn15, hy2, by omega, HCR.out.2.keep HCH.out (fun h => by omega) (fun k hk h => by omega), by omega, chg_app HCR.out.1 HCH.out (fun q hq h => by omega)⟩ | exact ⟨_, _, _, rfl, nv, na, k + 1, HDC.out, hn15, hy2, by omega, pk, HCR.out.2.keep HCH.out (fun h => by omega) (fun k hk h => by omega), by omega, chg_app HCR.out.1 HCH.out (fun q hq h => by omega)⟩ | exact ⟨⟨_, _, _, rfl⟩, nv, na, k + 1, HDC.out, hn15, hy2, by omega, pk, HCR.out.2.keep HCH.out (fun h => by omega) (fun k hk h => by omega), by omega, chg_app HCR.out.1 HCH.out (fun q hq h => by omega)⟩))
end Go.Proofs.Ytkjedgnepnbkpaa
