/-
 Parts of the proofs of the laws FnCheckLive, FnFinalRegs, FnLiveRegister, FnLiveRegs.
-/
import Derived.Test.YtkjedgnepnbkpaaZE
import Derived.Test.YtkjedgnepnbkpaaZD
set_option linter.all false
namespace Go.Proofs.Ytkjedgnepnbkpaa
open Go.RowKit

set_option maxHeartbeats 6400000 in
set_option maxRecDepth 100000 in
theorem l8Jumps_any (B g p : Nat) (w : World) (hR : Rnd w B g p) (hp : p + 7000000 ≤ 1000000000) :
  Calls Try.prog 49 #[.pointer (some ⟨g, 0, none⟩)] w fun r w' => CodeP 5 2 400 7000000 B g p w r w' := by
 have hg := hR.lt
 have hC : Chg (fun k => k = g) w w := Chg.refl _ _
 have ird : ∀ q, (fun k => k = g) q → q = g := fun q h => h
 go_enter Try.func49, Try.ntmps49
 go_wp2_with fail
 refine (l6Code_any B g (p) _ (hR.below (bal (Bs _) (.cells #[.slice none 0 0, .slice none 0 0, .slice none 0 0] 26))) (by omega)).mono ?_
 rintro e w1 ⟨va, vb, vl, nv, na, nl, p1, rfl, hdc, hnv, hna, hnl, hRn, hp1, hc⟩
 try simp only [Sa, Ss] at hdc
 obtain ⟨a0, c0, a1, c1, a2, c2, rfl, rfl, rfl⟩ := hdc.shape
 obtain ⟨gl, rfl⟩ := hdc.pos (by omega)
 replace hC := ((hC.trans (Chg.of_below (bal (Bs _) _)))).trans hc
 replace hR := hRn; clear hRn
 have hsz1 := hc.size
 simp only [Sa] at hsz1
 have bk2 : Bk w1 (w.heap.size) [.slice none 0 0, .slice none 0 0, .slice none 0 0] := Bk.keep (Bk.nw (by simp) rfl) hc (fun h => by have := ird _ h; omega)
 clear hc
 have iv3 := hdc.lt
 try simp only [Sa] at iv3
 have lt4 := Bk.lz bk2
 go_upto_region 2 with (fail)
 obtain ⟨w2, hnw, hb⟩ := nmw (World.alloc w1 (.cells #[.slice a0 nv c0, .slice a1 na c1, .slice (some ⟨gl, 0, none⟩) nl c2] 26))
 replace hC := ((hC.trans (Chg.of_below (bal (Bs _) _)))).trans (Chg.of_below hb)
 replace hR := (hR.below (bal (Bs _) _)).below hb
 have hsz5 := hb.size
 simp only [Sa] at hsz5
 replace hdc := (hdc.below (bal (Bs _) _)).below hb
 replace bk2 := Bk.below (Bk.al bk2 _) hb
 have bk6 : Bk w2 (w1.heap.size) [.slice a0 nv c0, .slice a1 na c1, .slice (some ⟨gl, 0, none⟩) nl c2] := Bk.below (Bk.nw (by simp) rfl) hb
 clear hb
 rw [← hnw]
 clear hnw
 replace lt4 := Bk.lz bk2
 have lt7 := Bk.lz bk6
 have hw3 : w.heap.size ≤ w.heap.size ∧ w.heap.size < w2.heap.size ∧ w1.heap.size < w2.heap.size ∧ w.heap.size ≤ w1.heap.size := by omega
 go_wp2_with fail
 refine (pick_any _ _ B g (p1) hR (by omega) (by omega) (by omega)).mono ?_
 rintro e w3 ⟨z, z0, z1, rfl, hRn, hc⟩
 replace hC := (hC).trans hc
 replace hR := hRn; clear hRn
 have hsz8 := hc.size
 replace hdc := hdc.keep hc (fun gq h h2 => by have := iv3 gq h; have := ird gq h2; omega)
 replace bk2 := Bk.keep bk2 hc (fun h => by have := ird _ h; omega)
 replace bk6 := Bk.keep bk6 hc (fun h => by have := ird _ h; omega)
 clear hc
 replace lt4 := Bk.lz bk2
 replace lt7 := Bk.lz bk6
 go_upto_if 12 with (fail)
 go_cut [] (fun wx => ∃ (a0 a1 : Option Addr) (c0 c1 c2 gl nv na nl pk : Nat), Bk wx (w1.heap.size) [.slice a0 nv c0, .slice a1 na c1, .slice (some ⟨gl, 0, none⟩) nl c2] ∧ Bk wx (w.heap.size) [.slice none 0 0, .slice none 0 0, .slice none 0 0] ∧ DrawC wx w.heap.size (.slice a0 nv c0) (.slice a1 na c1) (.slice (some ⟨gl, 0, none⟩) nl c2) nv na nl ∧ (∀ q, OwnB (.slice a0 nv c0) (.slice a1 na c1) (.slice (some ⟨gl, 0, none⟩) nl c2) q → ¬ q = w.heap.size ∧ ¬ q = w1.heap.size) ∧ nv ≤ 5 ∧ na ≤ 2 ∧ 1 ≤ nl ∧ nl ≤ 400 ∧ Rnd wx B g pk ∧ pk ≤ p + 6005000 ∧ Chg (fun q => q = g) w wx ∧ w3.heap.size ≤ wx.heap.size)
 case first =>
  have hsep : ∀ q, OwnB (.slice a0 nv c0) (.slice a1 na c1) (.slice (some ⟨gl, 0, none⟩) nl c2) q → ¬ q = w.heap.size ∧ ¬ q = w1.heap.size := fun q h => by have := iv3 q h; omega
  by_cases hz : z = 0
  ·subst hz
   go_wp2_with fail
   refine (l2Program_any B g (p1 + 1) _ hR (by omega)).mono ?_
   rintro e w4 ⟨e0, e1, e2, f0, f1, f2, us, ys, L, p2, rfl, oV, oA, hap, hn1, hn5, hy2, hBL, hL4, hsm, hRn, hpq, hc⟩
   have hwz2 := hc.size
   clear hap
   replace hC := (hC).trans hc
   replace hR := hRn; clear hRn
   have hsz9 := hc.size
   replace hdc := hdc.keep hc (fun gq h h2 => by have := iv3 gq h; have := ird gq h2; omega)
   replace bk2 := Bk.keep bk2 hc (fun h => by have := ird _ h; omega)
   replace bk6 := Bk.keep bk6 hc (fun h => by have := ird _ h; omega)
   clear hc
   replace lt4 := Bk.lz bk2
   replace lt7 := Bk.lz bk6
   have hBL2 := BlAt.keep2 (S := fun _ => False) (Chg.refl _ _) (fun _ _ _ => id) (fun q (hq : w3.heap.size ≤ q) hlt => (show w3.heap.size ≤ q ∧ q < w4.heap.size from ⟨hq, hlt⟩)) (Nat.le_refl _) hBL
   go_wp2_with fail
   refine (CompileProgram_any _ _ _ us ys _ _ L _ (Ro oV (by omega)) (Ro oA (by omega)) hBL2 (fun q h => h.2) hL4 hsm (by omega) (by omega)).mono ?_
   rintro e w5 ⟨e0, e1, e2, f0, f1, f2, m0, m1, m2, ok, rfl, hok, hb⟩
   replace hC := (hC).trans (Chg.of_below hb)
   replace hR := hR.below hb
   have hsz10 := hb.size
   replace hdc := hdc.below hb
   replace bk2 := Bk.below bk2 hb
   replace bk6 := Bk.below bk6 hb
   clear hb
   replace lt4 := Bk.lz bk2
   replace lt7 := Bk.lz bk6
   clear hBL hBL2 oV oA hsm hL4
   cases ok with
   | false =>
    clear hok
    have HX1 := Lib.hid (And.intro (Bk.al bk6 (.cells #[.slice e0 m0 f0, .slice e1 m1 f1, .slice e2 m2 f2] 26)) (And.intro (Bk.al bk2 (.cells #[.slice e0 m0 f0, .slice e1 m1 f1, .slice e2 m2 f2] 26)) (And.intro (hdc.below (bal (Bs _) (.cells #[.slice e0 m0 f0, .slice e1 m1 f1, .slice e2 m2 f2] 26))) (And.intro (hR.below (bal (Bs _) (.cells #[.slice e0 m0 f0, .slice e1 m1 f1, .slice e2 m2 f2] 26))) (hC.trans (Chg.of_below (bal (Bs _) (.cells #[.slice e0 m0 f0, .slice e1 m1 f1, .slice e2 m2 f2] 26))))))))
    have HSP := Lib.hid hsep
    clear hR hC hdc
    go_wp2_with fail
    go_meet
    exact ⟨_, _, _, _, _, _, _, _, _, p2, HX1.out.1, HX1.out.2.1, DrawC.mono HX1.out.2.2.1 (by omega), HSP.out, by omega, by omega, by omega, by omega, HX1.out.2.2.2.1, by omega, HX1.out.2.2.2.2, by (try simp only [Sa, Ss]); omega⟩
   | true =>
    obtain ⟨hdn, hm0, hm1, hm2, hm3⟩ := hok rfl
    clear hok
    obtain ⟨gn, rfl⟩ := hdn.pos (by omega)
    have iN : ∀ q, OwnB (.slice e0 m0 f0) (.slice e1 m1 f1) (.slice (some ⟨gn, 0, none⟩) m2 f2) q → w4.heap.size ≤ q ∧ q < w5.heap.size := hdn.lt
    have hsep2 : ∀ q, OwnB (.slice e0 m0 f0) (.slice e1 m1 f1) (.slice (some ⟨gn, 0, none⟩) m2 f2) q → ¬ q = w.heap.size ∧ ¬ q = w1.heap.size := fun q h => by have := iN q h; omega
    obtain ⟨tc11, tf12⟩ := Bk.cf bk6 0 rfl
    obtain ⟨tc13, tf14⟩ := Bk.cf bk6 1 rfl
    obtain ⟨tc15, tf16⟩ := Bk.cf bk6 2 rfl
    have HX1 := Lib.hid (And.intro (Bk.al (Bk.at (Bk.at (Bk.at bk6 0 (.slice e0 m0 f0)) 1 (.slice e1 m1 f1)) 2 (.slice (some ⟨gn, 0, none⟩) m2 f2)) (.cells #[.slice e0 m0 f0, .slice e1 m1 f1, .slice (some ⟨gn, 0, none⟩) m2 f2] 26)) (And.intro (Bk.al (Bk.ne (b' := (w1.heap.size)) (j' := 2) (Bk.ne (b' := (w1.heap.size)) (j' := 1) (Bk.ne (b' := (w1.heap.size)) (j' := 0) bk2 (by omega) (.slice e0 m0 f0)) (by omega) (.slice e1 m1 f1)) (by omega) (.slice (some ⟨gn, 0, none⟩) m2 f2)) (.cells #[.slice e0 m0 f0, .slice e1 m1 f1, .slice (some ⟨gn, 0, none⟩) m2 f2] 26)) (And.intro ((((hdn.keep (C1 (w1.heap.size) 0 (.slice e0 m0 f0)) (fun gq h h2 => by have := iN gq h; omega)).keep (C1 (w1.heap.size) 1 (.slice e1 m1 f1)) (fun gq h h2 => by have := iN gq h; omega)).keep (C1 (w1.heap.size) 2 (.slice (some ⟨gn, 0, none⟩) m2 f2)) (fun gq h h2 => by have := iN gq h; omega)).below (bal (Bs _) (.cells #[.slice e0 m0 f0, .slice e1 m1 f1, .slice (some ⟨gn, 0, none⟩) m2 f2] 26))) (And.intro ((((hR.keep (C1 (w1.heap.size) (0) (.slice e0 m0 f0)) (by omega) (fun _ _ => by omega)).keep (C1 (w1.heap.size) (1) (.slice e1 m1 f1)) (by omega) (fun _ _ => by omega)).keep (C1 (w1.heap.size) (2) (.slice (some ⟨gn, 0, none⟩) m2 f2)) (by omega) (fun _ _ => by omega)).below (bal (Bs _) (.cells #[.slice e0 m0 f0, .slice e1 m1 f1, .slice (some ⟨gn, 0, none⟩) m2 f2] 26))) ((((hC.setNew (w1.heap.size) (0) (.slice e0 m0 f0) (Or.inr (by omega))).setNew (w1.heap.size) (1) (.slice e1 m1 f1) (Or.inr (by omega))).setNew (w1.heap.size) (2) (.slice (some ⟨gn, 0, none⟩) m2 f2) (Or.inr (by omega))).trans (Chg.of_below (bal (Bs _) (.cells #[.slice e0 m0 f0, .slice e1 m1 f1, .slice (some ⟨gn, 0, none⟩) m2 f2] 26))))))))
    have HSP := Lib.hid hsep2
    clear hR hC hdn
    go_wp2_with fail
    go_meet
    exact ⟨_, _, _, _, _, _, _, _, _, p2, HX1.out.1, HX1.out.2.1, DrawC.mono HX1.out.2.2.1 (by omega), HSP.out, by omega, by omega, by omega, by omega, HX1.out.2.2.2.1, by omega, HX1.out.2.2.2.2, by (try simp only [Sa, Ss]); omega⟩
  ·have q12 : (z == 0) = false := by simp [hz]
   have HX1 := Lib.hid (And.intro bk6 (And.intro bk2 (And.intro hdc (And.intro hR hC))))
   have HSP := Lib.hid hsep
   clear hR hC hdc
   go_wp2_with fail
   go_meet
   exact ⟨_, _, _, _, _, _, _, _, _, p1 + 1, HX1.out.1, HX1.out.2.1, DrawC.mono HX1.out.2.2.1 (by omega), HSP.out, by omega, by omega, by omega, by omega, HX1.out.2.2.2.1, by omega, HX1.out.2.2.2.2, by (try simp only [Sa, Ss]); omega⟩
 clear hR hC bk2 hdc bk6 lt4 lt7
 obtain ⟨wq, rfl⟩ : ∃ W, W = wc := ⟨_, rfl⟩
 clear hnv hna hnl
 obtain ⟨a0, a1, c0, c1, c2, gl, nv, na, nl, pk2, kb3, kb2, hdc, hsep, hnv, hna, hn1, hnl, hR, hpk2, hC, hzc⟩ := hcut
 have iD : ∀ q, OwnB (.slice a0 nv c0) (.slice a1 na c1) (.slice (some ⟨gl, 0, none⟩) nl c2) q → (w.heap.size ≤ q ∧ q < wq.heap.size) ∧ ¬ q = w.heap.size ∧ ¬ q = w1.heap.size := fun q h => ⟨hdc.lt q h, hsep q h⟩
 clear hsep
 have hgl := iD gl (Or.inr (Or.inr rfl))
 have lt17 := Bk.lz kb3
 have lt18 := Bk.lz kb2
 obtain ⟨tc19, tf20⟩ := Bk.cf kb3 2 rfl
 have HI0 : Hid (∃ (k pk : Nat), Value.int .i64 0 = .int .i64 k ∧ k + 1 ≤ nl ∧ Bk wq (w1.heap.size) [.slice a0 nv c0, .slice a1 na c1, .slice (some ⟨gl, 0, none⟩) nl c2] ∧ Bk wq (w.heap.size) [.slice none 0 0, .slice none 0 0, .slice none 0 0] ∧ DrawC wq w.heap.size (.slice a0 nv c0) (.slice a1 na c1) (.slice (some ⟨gl, 0, none⟩) nl c2) nv na nl ∧ Rnd wq B g pk ∧ pk ≤ pk2 + 2 * k ∧ Chg (fun q => q = g) w wq ∧ wq.heap.size ≤ wq.heap.size) := Lib.hid ⟨0, pk2, rfl, by omega, kb3, kb2, hdc, hR, by omega, hC, Nat.le_refl _⟩
 clear hR hC kb3 kb2 hdc lt17 lt18
 go_wp2_with fail
 clear tf20 tc19
 go_loopw [7] (fun i wr => ∃ (k pk : Nat), i = .int .i64 k ∧ k + 1 ≤ nl ∧ Bk wr (w1.heap.size) [.slice a0 nv c0, .slice a1 na c1, .slice (some ⟨gl, 0, none⟩) nl c2] ∧ Bk wr (w.heap.size) [.slice none 0 0, .slice none 0 0, .slice none 0 0] ∧ DrawC wr w.heap.size (.slice a0 nv c0) (.slice a1 na c1) (.slice (some ⟨gl, 0, none⟩) nl c2) nv na nl ∧ Rnd wr B g pk ∧ pk ≤ pk2 + 2 * k ∧ Chg (fun q => q = g) w wr ∧ wq.heap.size ≤ wr.heap.size) (fun i _ => nl - (intOf i).toNat)
 case atStart => exact HI0.out
 case round =>
  obtain ⟨k, pk, rfl, hk, kb3, kb2, hdc, hR, hpk, hC, hzr⟩ := hrel
  clear HI0
  obtain ⟨wl, rfl⟩ : ∃ X, X = wr := ⟨_, rfl⟩
  have lt21 := Bk.lz kb3
  have lt22 := Bk.lz kb2
  by_cases h1 : k + 1 < nl
  ·have q27 : (k : Int) + 1 < (nl : Int) := by omega
   by_cases h2 : nl ≤ 40
   ·have q30 : (nl : Int) ≤ 40 := by omega
    obtain ⟨⟨xo, hxo⟩, fxo⟩ := hdc.at k 0 (by omega) (by omega)
    replace hxo : wl.cell? ⟨gl, k * 5, none⟩ = some (.int .i64 xo) := hxo
    by_cases e1 : xo = 10
    ·subst e1
     obtain ⟨tc23, tf24⟩ := Bk.cf kb3 2 rfl
     have HX := Lib.hid (And.intro kb3 (And.intro kb2 (And.intro hdc (And.intro hR hC)))); have HSZ := Lib.hid (show wl.heap.size ≤ wl.heap.size by omega)
     clear hR hC hdc
     go_wp2
     go_roundw
     case rel => exact ⟨k + 1, pk, by go_num, by omega, HX.out.1, HX.out.2.1, HX.out.2.2.1, HX.out.2.2.2.1, by omega, HX.out.2.2.2.2, by have := HSZ.out; (try simp only [Ss]); omega⟩
     case measure => simp [intOf]; omega
    have q40 : (xo != 10) = true := by simp [e1]
    by_cases e2 : xo = 1
    ·subst e2
     obtain ⟨tc25, tf26⟩ := Bk.cf kb3 2 rfl
     have HX := Lib.hid (And.intro kb3 (And.intro kb2 (And.intro hdc (And.intro hR hC)))); have HSZ := Lib.hid (show wl.heap.size ≤ wl.heap.size by omega)
     clear hR hC hdc
     go_wp2
     go_roundw
     case rel => exact ⟨k + 1, pk, by go_num, by omega, HX.out.1, HX.out.2.1, HX.out.2.2.1, HX.out.2.2.2.1, by omega, HX.out.2.2.2.2, by have := HSZ.out; (try simp only [Ss]); omega⟩
     case measure => simp [intOf]; omega
    have q48 : (xo != 1) = true := by simp [e2]
    obtain ⟨⟨dx27, hdx27⟩, fdx27⟩ := hdc.at (k) 0 (by omega) (by omega)
    replace hdx27 : wl.cell? ⟨gl, k * 5, none⟩ = some (.int .i64 dx27) := hdx27; replace fdx27 : wl.frozen? ⟨gl, k * 5, none⟩ = false := fdx27
    obtain ⟨tc28, tf29⟩ := Bk.cf kb3 2 rfl
    go_wp2_with fail
    refine (pick_any _ _ B g (pk) hR (by omega) (by omega) (by omega)).mono ?_
    rintro e w5 ⟨z4, z40, z41, rfl, hRn, hc⟩
    replace hC := (hC).trans hc
    replace hR := hRn; clear hRn
    replace hdc := DrawC.keep hdc hc (fun q h h2 => by have := iD q h; have := ird q h2; omega)
    have hsz30 := hc.size
    clear tf29 tc28
    replace kb3 := Bk.keep kb3 hc (fun h => by have := ird _ h; omega)
    replace kb2 := Bk.keep kb2 hc (fun h => by have := ird _ h; omega)
    clear hc
    replace lt21 := Bk.lz kb3
    replace lt22 := Bk.lz kb2
    by_cases hz4 : z4 = 0
    ·subst hz4
     have hw1 : 1 ≤ IntKind.i64.wrap (IntKind.i64.wrap ((nl : Int) - (k : Int)) - 1) ∧ IntKind.i64.wrap (IntKind.i64.wrap ((nl : Int) - (k : Int)) - 1) ≤ 1000 := by rw [IntWalk.i64_in ((nl : Int) - (k : Int)) (by omega), IntWalk.i64_in _ (by omega)]; omega
     have hkl : k < nl := by omega
     go_upto_region 11 with (fail)
     have hc31 := Bk.cell kb3 2 (v := .slice (some ⟨gl, 0, none⟩) nl c2) rfl
     replace lt21 := Bk.lz kb3
     replace lt22 := Bk.lz kb2
     refine wp_region_noPanic ?_
     refine wp_region_held_drew (S := (fun W' => W'.cell? ⟨w1.heap.size, 2, none⟩ = some (.slice (some ⟨gl, 0, none⟩) nl c2))) (by kernel_rfl) (Kc (Below.drew (Bs w5)) hc31) (fun hHeld => ?_)
     obtain ⟨w6, hwd⟩ : ∃ X, X = World.drew w5 := ⟨_, rfl⟩
     rw [← hwd] at hHeld ⊢
     have hb : Below w5.heap.size w5 w6 := by rw [hwd]; exact Below.drew (Bs _)
     clear hwd
     replace hC := (hC).trans (Chg.of_below hb)
     replace hR := hR.below hb
     replace hdc := DrawC.below hdc hb
     have hsz32 := hb.size
     replace hc31 := Kc hb hc31
     replace kb3 := Bk.below kb3 hb
     replace kb2 := Bk.below kb2 hb
     clear hb
     replace lt21 := Bk.lz kb3
     replace lt22 := Bk.lz kb2
     refine (tq 0 55 rfl rfl ?_ ?_ (tq 1 56 rfl rfl ?_ ?_ (tq 2 57 rfl rfl ?_ ?_ (tq 3 58 rfl rfl ?_ ?_ (tq 4 59 rfl rfl ?_ ?_ (tq 5 60 rfl rfl ?_ ?_ (tq 6 61 rfl rfl ?_ ?_ (tq 7 62 rfl rfl ?_ ?_ (tq 8 63 rfl rfl ?_ ?_ (tq 9 64 rfl rfl ?_ ?_ ?_))))))))))
     iterate 10 (rotate_left; intro W' hSw; (try dsimp only at hSw); go_simp; try with_reducible rfl)
     try simp only [Act.put, sb, List.set]
     refine Rdy 10 rfl (fun K hK => ?_)
     go_simp
     refine (pick_any _ _ B g (pk + 1) hR (by omega) (by omega) (by omega)).mono ?_
     rintro e w7 ⟨z6, z60, z61, rfl, hRn, hc⟩
     replace hC := (hC).trans hc
     replace hR := hRn; clear hRn
     replace hdc := DrawC.keep hdc hc (fun q h h2 => by have := iD q h; have := ird q h2; omega)
     have hsz33 := hc.size
     replace hc31 := Gc hc hc31 (fun h => by have := ird _ h; omega)
     replace kb3 := Bk.keep kb3 hc (fun h => by have := ird _ h; omega)
     replace kb2 := Bk.keep kb2 hc (fun h => by have := ird _ h; omega)
     clear hc
     replace lt21 := Bk.lz kb3
     replace lt22 := Bk.lz kb2
     refine hK.out _ _ (hc31) (fun hHeld => ?_)
     clear hK K
     try simp only [Act.put, sb, List.set]
     refine (tq 11 66 rfl rfl ?_ ?_ (tq 12 67 rfl rfl (.agg #[.int .i64 8, .int .i64 (IntKind.i64.wrap (IntKind.i64.wrap ((k : Int) + 1) + z6)), .int .i64 0, .int .i64 0, .int .i64 0]) (fun W' _ => by kernel_rfl) (tq 13 68 rfl rfl ?_ ?_ ?_)))
     iterate 2 (rotate_left; intro W' hSw; (try dsimp only at hSw); go_simp; try with_reducible rfl)
     try simp only [Act.put, sb, List.set]
     refine Rdy 14 rfl (fun K hK => ?_)
     obtain ⟨⟨dx34, hdx34⟩, fdx34⟩ := hdc.at (k) 0 (by omega) (by omega)
     replace hdx34 : w7.cell? ⟨gl, k * 5, none⟩ = some (.int .i64 dx34) := hdx34; replace fdx34 : w7.frozen? ⟨gl, k * 5, none⟩ = false := fdx34
     obtain ⟨⟨dx35, hdx35⟩, fdx35⟩ := hdc.at (k) 1 (by omega) (by omega)
     replace hdx35 : w7.cell? ⟨gl, k * 5 + 1, none⟩ = some (.int .i64 dx35) := hdx35; replace fdx35 : w7.frozen? ⟨gl, k * 5 + 1, none⟩ = false := fdx35
     obtain ⟨⟨dx36, hdx36⟩, fdx36⟩ := hdc.at (k) 2 (by omega) (by omega)
     replace hdx36 : w7.cell? ⟨gl, k * 5 + 2, none⟩ = some (.int .i64 dx36) := hdx36; replace fdx36 : w7.frozen? ⟨gl, k * 5 + 2, none⟩ = false := fdx36
     obtain ⟨⟨dx37, hdx37⟩, fdx37⟩ := hdc.at (k) 3 (by omega) (by omega)
     replace hdx37 : w7.cell? ⟨gl, k * 5 + 3, none⟩ = some (.int .i64 dx37) := hdx37; replace fdx37 : w7.frozen? ⟨gl, k * 5 + 3, none⟩ = false := fdx37
     obtain ⟨⟨dx38, hdx38⟩, fdx38⟩ := hdc.at (k) 4 (by omega) (by omega)
     replace hdx38 : w7.cell? ⟨gl, k * 5 + 4, none⟩ = some (.int .i64 dx38) := hdx38; replace fdx38 : w7.frozen? ⟨gl, k * 5 + 4, none⟩ = false := fdx38
     go_simp
     obtain ⟨w8, hnw, hb⟩ := nmw (World.setCell (World.setCell (World.setCell (World.setCell (World.setCell w7 ⟨gl, k * 5, none⟩ (.int .i64 8)) ⟨gl, k * 5 + 1, none⟩ (.int .i64 (IntKind.i64.wrap (IntKind.i64.wrap ((k : Int) + 1) + z6)))) ⟨gl, k * 5 + 2, none⟩ (.int .i64 0)) ⟨gl, k * 5 + 3, none⟩ (.int .i64 0)) ⟨gl, k * 5 + 4, none⟩ (.int .i64 0))
     replace hC := ((((((hC.setNew _ _ _ (Or.inr (by omega))).setNew _ _ _ (Or.inr (by omega))).setNew _ _ _ (Or.inr (by omega))).setNew _ _ _ (Or.inr (by omega))).setNew _ _ _ (Or.inr (by omega)))).trans (Chg.of_below hb)
     replace hR := (((((hR.keep (C1 _ _ _) (by omega) (fun _ _ => by omega)).keep (C1 _ _ _) (by omega) (fun _ _ => by omega)).keep (C1 _ _ _) (by omega) (fun _ _ => by omega)).keep (C1 _ _ _) (by omega) (fun _ _ => by omega)).keep (C1 _ _ _) (by omega) (fun _ _ => by omega)).below hb
     replace hdc := DrawC.below (DrawC.put (DrawC.put (DrawC.put (DrawC.put (DrawC.put hdc (k) 0 (by omega) (by omega) (8)) (k) 1 (by omega) (by omega) ((IntKind.i64.wrap (IntKind.i64.wrap ((k : Int) + 1) + z6)))) (k) 2 (by omega) (by omega) (0)) (k) 3 (by omega) (by omega) (0)) (k) 4 (by omega) (by omega) (0)) hb
     have hsz39 := hb.size
     simp only [Ss] at hsz39
     replace hc31 := Kc hb (Nc (Nc (Nc (Nc (Nc hc31 (by omega) _) (by omega) _) (by omega) _) (by omega) _) (by omega) _)
     replace kb3 := Bk.below (Bk.ne (Bk.ne (Bk.ne (Bk.ne (Bk.ne kb3 (by omega) _) (by omega) _) (by omega) _) (by omega) _) (by omega) _) hb
     replace kb2 := Bk.below (Bk.ne (Bk.ne (Bk.ne (Bk.ne (Bk.ne kb2 (by omega) _) (by omega) _) (by omega) _) (by omega) _) (by omega) _) hb
     clear hb
     rw [← hnw]
     clear hnw
     replace lt21 := Bk.lz kb3
     replace lt22 := Bk.lz kb2
     refine hK.out _ _ (hc31) (fun hHeld => ?_)
     clear hK K
     try simp only [Act.put, sb, List.set]
     refine wpAnyH_done (by kernel_rfl) ?_ _
     refine NoPanic.normal ?_
     clear hHeld
     have HX := Lib.hid (And.intro kb3 (And.intro kb2 (And.intro hdc (And.intro hR hC)))); have HSZ := Lib.hid (show wl.heap.size ≤ w8.heap.size by omega)
     clear hR hC hdc
     go_wp2
     go_roundw
     case rel => exact ⟨k + 1, pk + 1 + 1, by go_num, by omega, HX.out.1, HX.out.2.1, HX.out.2.2.1, HX.out.2.2.2.1, by omega, HX.out.2.2.2.2, by have := HSZ.out; (try simp only [Ss]); omega⟩
     case measure => simp [intOf]; omega
    ·have q53 : (z4 == 0) = false := by simp [hz4]
     have HX := Lib.hid (And.intro kb3 (And.intro kb2 (And.intro hdc (And.intro hR hC)))); have HSZ := Lib.hid (show wl.heap.size ≤ w5.heap.size by omega)
     clear hR hC hdc
     go_wp2
     go_roundw
     case rel => exact ⟨k + 1, pk + 1, by go_num, by omega, HX.out.1, HX.out.2.1, HX.out.2.2.1, HX.out.2.2.2.1, by omega, HX.out.2.2.2.2, by have := HSZ.out; (try simp only [Ss]); omega⟩
     case measure => simp [intOf]; omega
   ·have q30 : decide ((nl : Int) ≤ 40) = false := decide_eq_false (by omega)
    have q31 : ¬ (nl : Int) ≤ 40 := by omega
    go_upto_region 12 with (fail)
    replace lt21 := Bk.lz kb3
    replace lt22 := Bk.lz kb2
    have HDC := Lib.hid (DrawC.keep (DrawC.keep (DrawC.keep hdc (C1 (w.heap.size) (0) (.slice a0 nv c0)) (fun gq h h2 => by have := iD gq h; omega)) (C1 (w.heap.size) (1) (.slice a1 na c1)) (fun gq h h2 => by have := iD gq h; omega)) (C1 (w.heap.size) (2) (.slice (some ⟨gl, 0, none⟩) nl c2)) (fun gq h h2 => by have := iD gq h; omega)); clear hdc
    obtain ⟨tc40, tf41⟩ := Bk.cf kb3 0 rfl
    obtain ⟨tc42, tf43⟩ := Bk.cf kb3 1 rfl
    obtain ⟨tc44, tf45⟩ := Bk.cf kb3 2 rfl
    obtain ⟨tc46, tf47⟩ := Bk.cf kb2 0 rfl
    obtain ⟨tc48, tf49⟩ := Bk.cf kb2 1 rfl
    obtain ⟨tc50, tf51⟩ := Bk.cf kb2 2 rfl
    have HCF := ((((Chg.refl (fun q => q = w.heap.size) wl).setCell (w.heap.size) 0 (.slice a0 nv c0) (fun _ => rfl)).setCell (w.heap.size) 1 (.slice a1 na c1) (fun _ => rfl)).setCell (w.heap.size) 2 (.slice (some ⟨gl, 0, none⟩) nl c2) (fun _ => rfl))
    have hBf := (Bk.at (Bk.at (Bk.at kb2 0 (.slice a0 nv c0)) 1 (.slice a1 na c1)) 2 (.slice (some ⟨gl, 0, none⟩) nl c2))
    have xr0 := Bk.cell hBf 0 (v := .slice a0 nv c0) rfl
    have xr1 := Bk.cell hBf 1 (v := .slice a1 na c1) rfl
    have xr2 := Bk.cell hBf 2 (v := .slice (some ⟨gl, 0, none⟩) nl c2) rfl
    have HCH := Lib.hid HCF; clear HCF hBf
    have HCR := Lib.hid (And.intro hC hR); clear hC hR
    go_wp2
    exact bodyPost_ret (v := .agg #[.slice a0 nv c0, .slice a1 na c1, .slice (some ⟨gl, 0, none⟩) nl c2]) (by simp [results, Try.results49, go_sem, xr0, xr1, xr2]) rfl (by exact (by unfold CodeP; exact ⟨_, _, _, nv, na, nl, pk, rfl, HDC.out, hnv, hna, hnl, HCR.out.2.keep HCH.out (fun h => by omega) (fun k hk h => by omega), by omega, chg_app HCR.out.1 HCH.out (fun q hq h => by omega)⟩))
  ·have q27 : decide ((k : Int) + 1 < (nl : Int)) = false := decide_eq_false (by omega)
   have q28 : ¬ (k : Int) + 1 < (nl : Int) := by omega
   go_upto_region 12 with (fail)
   replace lt21 := Bk.lz kb3
   replace lt22 := Bk.lz kb2
   have HDC := Lib.hid (DrawC.keep (DrawC.keep (DrawC.keep hdc (C1 (w.heap.size) (0) (.slice a0 nv c0)) (fun gq h h2 => by have := iD gq h; omega)) (C1 (w.heap.size) (1) (.slice a1 na c1)) (fun gq h h2 => by have := iD gq h; omega)) (C1 (w.heap.size) (2) (.slice (some ⟨gl, 0, none⟩) nl c2)) (fun gq h h2 => by have := iD gq h; omega)); clear hdc
   obtain ⟨tc52, tf53⟩ := Bk.cf kb3 0 rfl
   obtain ⟨tc54, tf55⟩ := Bk.cf kb3 1 rfl
   obtain ⟨tc56, tf57⟩ := Bk.cf kb3 2 rfl
   obtain ⟨tc58, tf59⟩ := Bk.cf kb2 0 rfl
   obtain ⟨tc60, tf61⟩ := Bk.cf kb2 1 rfl
   obtain ⟨tc62, tf63⟩ := Bk.cf kb2 2 rfl
   have HCF := ((((Chg.refl (fun q => q = w.heap.size) wl).setCell (w.heap.size) 0 (.slice a0 nv c0) (fun _ => rfl)).setCell (w.heap.size) 1 (.slice a1 na c1) (fun _ => rfl)).setCell (w.heap.size) 2 (.slice (some ⟨gl, 0, none⟩) nl c2) (fun _ => rfl))
   have hBf := (Bk.at (Bk.at (Bk.at kb2 0 (.slice a0 nv c0)) 1 (.slice a1 na c1)) 2 (.slice (some ⟨gl, 0, none⟩) nl c2))
   have xr0 := Bk.cell hBf 0 (v := .slice a0 nv c0) rfl
   have xr1 := Bk.cell hBf 1 (v := .slice a1 na c1) rfl
   have xr2 := Bk.cell hBf 2 (v := .slice (some ⟨gl, 0, none⟩) nl c2) rfl
   have HCH := Lib.hid HCF; clear HCF hBf
   have HCR := Lib.hid (And.intro hC hR); clear hC hR
   go_wp2
   exact bodyPost_ret (v := .agg #[.slice a0 nv c0, .slice a1 na c1, .slice (some ⟨gl, 0, none⟩) nl c2]) (by simp [results, Try.results49, go_sem, xr0, xr1, xr2]) rfl (by exact (by unfold CodeP; exact ⟨_, _, _, nv, na, nl, pk, rfl, HDC.out, hnv, hna, hnl, HCR.out.2.keep HCH.out (fun h => by omega) (fun k hk h => by omega), by omega, chg_app HCR.out.1 HCH.out (fun q hq h => by omega)⟩))
end Go.Proofs.Ytkjedgnepnbkpaa
