/-
 Parts of the proofs of the laws FnCheckLive, FnFinalRegs, FnLiveRegister, FnLiveRegs.
-/
import Derived.Test.YtkjedgnepnbkpaaLS
import Derived.Test.YtkjedgnepnbkpaaZEq1
import Derived.Test.YtkjedgnepnbkpaaLXq1
set_option linter.all false
namespace Go.Proofs.Ytkjedgnepnbkpaa
open Go.RowKit

set_option maxHeartbeats 6400000 in
set_option maxRecDepth 100000 in
theorem DrawCheckLive_any (v : Value) (n : Nat) (vs : List Int) (w : World) (hr : Reads w 1 v n (vs.map (Value.int .u8))) (hv : ∀ x ∈ vs, 0 ≤ x ∧ x < 256) (hn : n ≤ 1048576) :
  Calls Try.prog 34 #[v] w fun r w' => DrawCLP w r w' := by
 go_enter Try.func34, Try.ntmps34
 go_wp2_with fail
 refine (l17Open_any v n vs _ (hr.below (bal (Bs w) (.cells #[.slice none 0 0, .slice none 0 0, .slice none 0 0] 26))) hv hn).mono ?_
 rintro e w1 ⟨g, rfl, hR, hb⟩
 try simp only [Sa] at hR
 have hsz1 := hb.size
 simp only [Sa] at hsz1
 have bk2 : Bk w1 (w.heap.size) [.slice none 0 0, .slice none 0 0, .slice none 0 0] := Bk.below (Bk.nw (by simp) rfl) hb
 have tot := btr (bal (Bs w) (.cells #[.slice none 0 0, .slice none 0 0, .slice none 0 0] 26)) hb
 clear hb
 have lt3 := Bk.lz bk2
 obtain ⟨B, hB⟩ : ∃ B, w.heap.size + 1 = B := ⟨_, rfl⟩; rw [hB] at hR; have hwB : w.heap.size + 1 ≤ B := (by omega); clear hB hr hv
 have hg := hR.lt
 have hC : Chg (fun k => k = g) w w1 := Chg.of_below tot
 have ird : ∀ q, (fun k => k = g) q → q = g := fun q h => h
 clear tot
 have hgw : w.heap.size ≤ g := by omega
 go_wp2_with fail
 refine (l8Jumps_any B g (0) _ hR (by omega)).mono ?_
 rintro e w2 ⟨va1, vb1, vl1, nv1, na1, nl1, q1, rfl, hdc, hv1, ha1, hl1, hRn, hq1, hc⟩
 try simp only [Sa, Ss] at hdc
 obtain ⟨a10, c10, a11, c11, a12, c12, rfl, rfl, rfl⟩ := hdc.shape
 replace hC := (hC).trans hc
 replace hR := hRn; clear hRn
 have hsz4 := hc.size
 replace bk2 := Bk.keep bk2 hc (fun h => by have := ird _ h; omega)
 clear hc
 have iv5 := hdc.lt
 replace lt3 := Bk.lz bk2
 go_wp2_with fail
 refine (l6Mutate_of _ _ _ nv1 na1 nl1 _ B g (q1) _ hdc (by omega) (by omega) (by omega) (by omega) hR (by omega)).mono ?_
 rintro e w3 ⟨va2, vb2, vl2, nv2, na2, nl2, q2, rfl, hdm, hv2, ha2, hl2, hRn, hq2, hc⟩
 try simp only [Sa, Ss] at hdm
 obtain ⟨a20, c20, a21, c21, a22, c22, rfl, rfl, rfl⟩ := hdm.shape
 replace hC := (hC).trans hc
 replace hR := hRn; clear hRn
 have hsz6 := hc.size
 replace hdc := hdc.keep hc (fun gq h h2 => by have := iv5 gq h; have := ird gq h2; omega)
 replace bk2 := Bk.keep bk2 hc (fun h => by have := ird _ h; omega)
 clear hc
 have iv7 := hdm.lt
 replace lt3 := Bk.lz bk2
 clear hdc
 obtain ⟨c, hrc⟩ := RdC.of hdm (by omega) (by omega) (by omega)
 go_wp2_with fail
 refine (sLiveRegs_any _ _ _ c _ (hrc.r.below (bal (Bs w3) (.cells #[.slice a20 nv2 c20, .slice a21 na2 c21, .slice a22 nl2 c22] 26)))).mono ?_
 rintro e w4 ⟨u1, us, rfl, oL0, hb⟩
 have oL := liveD oL0; clear oL0 hrc
 try simp only [Sa, Ss] at oL
 have hnr := (liveR_len c).1
 generalize (liveR c).length = nr at *
 clear c
 obtain ⟨p9, q9, rfl⟩ := oL.shape
 replace hC := ((hC.trans (Chg.of_below (bal (Bs _) _)))).trans (Chg.of_below hb)
 replace hR := (hR.below (bal (Bs _) _)).below hb
 have hsz8 := hb.size
 simp only [Sa] at hsz8
 replace hdm := (hdm.below (bal (Bs _) _)).below hb
 replace bk2 := Bk.below (Bk.al bk2 _) hb
 have bk9 : Bk w4 (w3.heap.size) [.slice a20 nv2 c20, .slice a21 na2 c21, .slice a22 nl2 c22] := Bk.below (Bk.nw (by simp) rfl) hb
 clear hb
 replace lt3 := Bk.lz bk2
 have lt10 := Bk.lz bk9
 have iL := oL.lt
 try simp only [Sa, Ss] at iL
 by_cases h0 : nr < 1
 ·have hq0 : decide ((0 : Int) < (nr : Int)) = false := decide_eq_false (by omega)
  have hq9 : ¬ (0 : Int) < (nr : Int) := by omega
  have hx := oL.x (by omega)
  clear oL
  have tC := (((hC.setNew (w.heap.size) (0) (.slice a20 nv2 c20) (Or.inr (by omega))).setNew (w.heap.size) (1) (.slice a21 na2 c21) (Or.inr (by omega))).setNew (w.heap.size) (2) (.slice a22 nl2 c22) (Or.inr (by omega)))
  have tb := tC.below w.heap.size (Nat.le_refl _) (fun k hk h => by have := ird k h; omega)
  have TB := Lib.hid tb; clear tC tb hC
  clear hR
  have HCC := Lib.hid (DrawC.mono (((hdm.keep (C1 (w.heap.size) 0 (.slice a20 nv2 c20)) (fun gq h h2 => by have := iv7 gq h; omega)).keep (C1 (w.heap.size) 1 (.slice a21 na2 c21)) (fun gq h h2 => by have := iv7 gq h; omega)).keep (C1 (w.heap.size) 2 (.slice a22 nl2 c22)) (fun gq h h2 => by have := iv7 gq h; omega)) (show w.heap.size ≤ _ by omega))
  obtain ⟨Lx, hlx⟩ := LvX.reads (((hx.keep (C1 (w.heap.size) 0 (.slice a20 nv2 c20)) (fun gq h h2 => by have := (fun q (h : w3.heap.size + 1 ≤ q) => h) gq h; omega)).keep (C1 (w.heap.size) 1 (.slice a21 na2 c21)) (fun gq h h2 => by have := (fun q (h : w3.heap.size + 1 ≤ q) => h) gq h; omega)).keep (C1 (w.heap.size) 2 (.slice a22 nl2 c22)) (fun gq h h2 => by have := (fun q (h : w3.heap.size + 1 ≤ q) => h) gq h; omega)); have HXX := Lib.hid hlx; clear hlx
  clear hdm hx
  obtain ⟨tc11, tf12⟩ := Bk.cf bk2 0 rfl
  obtain ⟨tc13, tf14⟩ := Bk.cf bk2 1 rfl
  obtain ⟨tc15, tf16⟩ := Bk.cf bk2 2 rfl
  obtain ⟨tc17, tf18⟩ := Bk.cf bk9 0 rfl
  obtain ⟨tc19, tf20⟩ := Bk.cf bk9 1 rfl
  obtain ⟨tc21, tf22⟩ := Bk.cf bk9 2 rfl
  have x23 := (Nc (b := (w.heap.size)) (j := 2) (Nc (b := (w.heap.size)) (j := 1) (Tc _ (w.heap.size) 0 (.slice a20 nv2 c20) tc11) (by omega) (.slice a21 na2 c21)) (by omega) (.slice a22 nl2 c22))
  have x24 := (Nc (b := (w.heap.size)) (j := 2) (Tc _ (w.heap.size) 1 (.slice a21 na2 c21) (Nc (b := (w.heap.size)) (j := 0) tc13 (by omega) (.slice a20 nv2 c20))) (by omega) (.slice a22 nl2 c22))
  have x25 := (Tc _ (w.heap.size) 2 (.slice a22 nl2 c22) (Nc (b := (w.heap.size)) (j := 1) (Nc (b := (w.heap.size)) (j := 0) tc15 (by omega) (.slice a20 nv2 c20)) (by omega) (.slice a21 na2 c21)))
  have tt := True.intro
  go_wp2
  exact bodyPost_ret (v := .tuple #[.agg #[.slice a20 nv2 c20, .slice a21 na2 c21, .slice a22 nl2 c22], .slice p9 nr q9]) (by simp [results, Try.results34, go_sem, x23, x24, x25]) rfl (by exact by unfold DrawCLP; exact ⟨_, _, _, _, _, _, _, _, rfl, HCC.out, ⟨by omega, by omega, by omega⟩, ⟨HXX.out.1, by have := HXX.out.2.1; omega, HXX.out.2.2⟩, TB.out⟩)
 have hq0 : (0 : Int) < (nr : Int) := by omega
 obtain ⟨gL, cL, hgv, hg0, hg1⟩ := oL.pos (by omega)
 obtain ⟨rfl, rfl⟩ : p9 = some ⟨gL, 0, none⟩ ∧ q9 = cL := by simp only [Value.slice.injEq] at hgv; exact ⟨hgv.1, hgv.2.2⟩
 clear hgv
 go_wp2_with fail
 refine (pick_any _ _ B g (q2) hR (by omega) (by omega) (by omega)).mono ?_
 rintro e w5 ⟨kk, kk0, kk1, rfl, hRn, hc⟩
 replace hC := (hC).trans hc
 replace hR := hRn; clear hRn
 replace oL := oL.keep hc (fun gq h h2 => by have := iL gq h; have := ird gq h2; omega)
 have hsz26 := hc.size
 replace hdm := hdm.keep hc (fun gq h h2 => by have := iv7 gq h; have := ird gq h2; omega)
 replace bk2 := Bk.keep bk2 hc (fun h => by have := ird _ h; omega)
 replace bk9 := Bk.keep bk9 hc (fun h => by have := ird _ h; omega)
 clear hc
 obtain ⟨k, hkk⟩ : ∃ k : Nat, kk = k := ⟨kk.toNat, by omega⟩
 subst hkk
 have hkn : k < nr := by omega
 replace lt3 := Bk.lz bk2
 replace lt10 := Bk.lz bk9
 go_wp2_with fail
 refine (pick_any _ _ B g (q2 + 1) hR (by omega) (by omega) (by omega)).mono ?_
 rintro e w6 ⟨mm, mm0, mm1, rfl, hRn, hc⟩
 replace hC := (hC).trans hc
 replace hR := hRn; clear hRn
 replace oL := oL.keep hc (fun gq h h2 => by have := iL gq h; have := ird gq h2; omega)
 have hsz27 := hc.size
 replace hdm := hdm.keep hc (fun gq h h2 => by have := iv7 gq h; have := ird gq h2; omega)
 replace bk2 := Bk.keep bk2 hc (fun h => by have := ird _ h; omega)
 replace bk9 := Bk.keep bk9 hc (fun h => by have := ird _ h; omega)
 clear hc
 replace lt3 := Bk.lz bk2
 replace lt10 := Bk.lz bk9
 by_cases hk0 : mm = 0
 ·have qk0 : (mm == 0) = true := by simp [hk0]
  obtain ⟨gr, tr, hu, hcap, e1, f1, hgr, hne, hbits⟩ := oL.row k hkn
  clear hbits
  go_upto_region 8 with (fail)
  replace lt3 := Bk.lz bk2
  replace lt10 := Bk.lz bk9
  have lt28 := Lc e1
  refine wp_region_noPanic ?_
  refine wp_region_held_drew (S := (fun W' => W'.cell? ⟨gL, k, none⟩ = some (.slice (some ⟨gr, 0, none⟩) 14 tr))) (by kernel_rfl) (Kc (Below.drew (Bs w6)) e1) (fun hHeld => ?_)
  obtain ⟨w7, hwd⟩ : ∃ X, X = World.drew w6 := ⟨_, rfl⟩
  rw [← hwd] at hHeld ⊢
  have hb : Below w6.heap.size w6 w7 := by rw [hwd]; exact Below.drew (Bs _)
  clear hwd
  replace hC := (hC).trans (Chg.of_below hb)
  replace hR := hR.below hb
  replace oL := oL.below hb
  have hsz29 := hb.size
  replace f1 := Kf hb (Lc e1) f1
  replace hdm := hdm.below hb
  replace e1 := Kc hb e1
  replace bk2 := Bk.below bk2 hb
  replace bk9 := Bk.below bk9 hb
  clear hb
  replace lt3 := Bk.lz bk2
  replace lt10 := Bk.lz bk9
  replace lt28 := Lc e1
  refine (tq 0 28 rfl rfl ?_ ?_ (tq 1 29 rfl rfl ?_ ?_ (tq 2 30 rfl rfl ?_ ?_ (tq 3 31 rfl rfl ?_ ?_ (tq 4 32 rfl rfl ?_ ?_ (tq 6 34 rfl rfl ?_ ?_ ?_))))))
  iterate 6 (rotate_left; intro W' hSw; (try dsimp only at hSw); go_simp; try with_reducible rfl)
  try simp only [Act.put, sb, List.set]
  refine Rdy 5 rfl (fun K hK => ?_)
  go_simp
  refine (pick_any _ _ B g (q2 + 1 + 1) hR (by omega) (by omega) (by omega)).mono ?_
  rintro e w8 ⟨dd, dd0, dd1, rfl, hRn, hc⟩
  replace hC := (hC).trans hc
  replace hR := hRn; clear hRn
  replace oL := oL.keep hc (fun gq h h2 => by have := iL gq h; have := ird gq h2; omega)
  have hsz30 := hc.size
  replace f1 := Gf hc (Lc e1) f1 (fun h => by have := ird _ h; omega)
  replace hdm := hdm.keep hc (fun gq h h2 => by have := iv7 gq h; have := ird gq h2; omega)
  replace e1 := Gc hc e1 (fun h => by have := ird _ h; omega)
  replace bk2 := Bk.keep bk2 hc (fun h => by have := ird _ h; omega)
  replace bk9 := Bk.keep bk9 hc (fun h => by have := ird _ h; omega)
  clear hc
  obtain ⟨j, hj⟩ : ∃ j : Nat, dd = j := ⟨dd.toNat, by omega⟩
  subst hj
  replace lt3 := Bk.lz bk2
  replace lt10 := Bk.lz bk9
  replace lt28 := Lc e1
  refine hK.out _ _ (e1) (fun hHeld => ?_)
  clear hK K
  try simp only [Act.put, sb, List.set]
  refine Rdy 7 rfl (fun K hK => ?_)
  go_simp
  refine (pick_any _ _ B g (q2 + 1 + 1 + 1) hR (by omega) (by omega) (by omega)).mono ?_
  rintro e w9 ⟨d2, d20, d21, rfl, hRn, hc⟩
  replace hC := (hC).trans hc
  replace hR := hRn; clear hRn
  replace oL := oL.keep hc (fun gq h h2 => by have := iL gq h; have := ird gq h2; omega)
  have hsz31 := hc.size
  replace f1 := Gf hc (Lc e1) f1 (fun h => by have := ird _ h; omega)
  replace hdm := hdm.keep hc (fun gq h h2 => by have := iv7 gq h; have := ird gq h2; omega)
  replace e1 := Gc hc e1 (fun h => by have := ird _ h; omega)
  replace bk2 := Bk.keep bk2 hc (fun h => by have := ird _ h; omega)
  replace bk9 := Bk.keep bk9 hc (fun h => by have := ird _ h; omega)
  clear hc
  obtain ⟨⟨x0, hx0⟩, fx0⟩ := oL.bitAt hu j (by omega)
  have hq3 : (j : Int) < 14 := by omega
  replace lt3 := Bk.lz bk2
  replace lt10 := Bk.lz bk9
  replace lt28 := Lc e1
  refine hK.out _ _ (e1) (fun hHeld => ?_)
  clear hK K
  try simp only [Act.put, sb, List.set]
  refine (tq 8 36 rfl rfl ?_ ?_ (tq 9 37 rfl rfl ?_ ?_ ?_))
  iterate 2 (rotate_left; intro W' hSw; (try dsimp only at hSw); go_simp; try with_reducible rfl)
  try simp only [Act.put, sb, List.set]
  refine Rdy 10 rfl (fun K hK => ?_)
  go_simp
  obtain ⟨w10, hnw, hb⟩ := nmw (World.setCell w9 ⟨gr, j, none⟩ (.bool (d2 == 0)))
  replace hC := ((hC.setNew _ _ _ (Or.inr (by omega)))).trans (Chg.of_below hb)
  replace hR := (hR.keep (C1 _ _ _) (by omega) (fun _ _ => by omega)).below hb
  replace oL := (LvD.bit oL hu (j) (d2 == 0)).below hb
  have hsz32 := hb.size
  simp only [Ss] at hsz32
  replace f1 := Kf hb (Lc (Nc e1 (by omega) _)) (Fs f1 _)
  replace hdm := (hdm.keep (C1 _ _ _) (fun gq h h2 => by have := iv7 gq h; omega)).below hb
  replace e1 := Kc hb (Nc e1 (by omega) _)
  replace bk2 := Bk.below (Bk.ne bk2 (by omega) _) hb
  replace bk9 := Bk.below (Bk.ne bk9 (by omega) _) hb
  clear hb
  rw [← hnw]
  clear hnw
  replace lt3 := Bk.lz bk2
  replace lt10 := Bk.lz bk9
  replace lt28 := Lc e1
  refine hK.out _ _ (e1) (fun hHeld => ?_)
  clear hK K
  try simp only [Act.put, sb, List.set]
  refine wpAnyH_done (by kernel_rfl) ?_ _
  refine NoPanic.normal ?_
  clear hHeld
  have hx := oL.x (by omega)
  clear oL
  clear e1
  have tC := (((hC.setNew (w.heap.size) (0) (.slice a20 nv2 c20) (Or.inr (by omega))).setNew (w.heap.size) (1) (.slice a21 na2 c21) (Or.inr (by omega))).setNew (w.heap.size) (2) (.slice a22 nl2 c22) (Or.inr (by omega)))
  have tb := tC.below w.heap.size (Nat.le_refl _) (fun k hk h => by have := ird k h; omega)
  have TB := Lib.hid tb; clear tC tb hC
  clear hR
  have HCC := Lib.hid (DrawC.mono (((hdm.keep (C1 (w.heap.size) 0 (.slice a20 nv2 c20)) (fun gq h h2 => by have := iv7 gq h; omega)).keep (C1 (w.heap.size) 1 (.slice a21 na2 c21)) (fun gq h h2 => by have := iv7 gq h; omega)).keep (C1 (w.heap.size) 2 (.slice a22 nl2 c22)) (fun gq h h2 => by have := iv7 gq h; omega)) (show w.heap.size ≤ _ by omega))
  obtain ⟨Lx, hlx⟩ := LvX.reads (((hx.keep (C1 (w.heap.size) 0 (.slice a20 nv2 c20)) (fun gq h h2 => by have := (fun q (h : w3.heap.size + 1 ≤ q) => h) gq h; omega)).keep (C1 (w.heap.size) 1 (.slice a21 na2 c21)) (fun gq h h2 => by have := (fun q (h : w3.heap.size + 1 ≤ q) => h) gq h; omega)).keep (C1 (w.heap.size) 2 (.slice a22 nl2 c22)) (fun gq h h2 => by have := (fun q (h : w3.heap.size + 1 ≤ q) => h) gq h; omega)); have HXX := Lib.hid hlx; clear hlx
  clear hdm hx
  obtain ⟨tc33, tf34⟩ := Bk.cf bk2 0 rfl
  obtain ⟨tc35, tf36⟩ := Bk.cf bk2 1 rfl
  obtain ⟨tc37, tf38⟩ := Bk.cf bk2 2 rfl
  obtain ⟨tc39, tf40⟩ := Bk.cf bk9 0 rfl
  obtain ⟨tc41, tf42⟩ := Bk.cf bk9 1 rfl
  obtain ⟨tc43, tf44⟩ := Bk.cf bk9 2 rfl
  have x45 := (Nc (b := (w.heap.size)) (j := 2) (Nc (b := (w.heap.size)) (j := 1) (Tc _ (w.heap.size) 0 (.slice a20 nv2 c20) tc33) (by omega) (.slice a21 na2 c21)) (by omega) (.slice a22 nl2 c22))
  have x46 := (Nc (b := (w.heap.size)) (j := 2) (Tc _ (w.heap.size) 1 (.slice a21 na2 c21) (Nc (b := (w.heap.size)) (j := 0) tc35 (by omega) (.slice a20 nv2 c20))) (by omega) (.slice a22 nl2 c22))
  have x47 := (Tc _ (w.heap.size) 2 (.slice a22 nl2 c22) (Nc (b := (w.heap.size)) (j := 1) (Nc (b := (w.heap.size)) (j := 0) tc37 (by omega) (.slice a20 nv2 c20)) (by omega) (.slice a21 na2 c21)))
  have tt := True.intro
  go_wp2
  exact bodyPost_ret (v := .tuple #[.agg #[.slice a20 nv2 c20, .slice a21 na2 c21, .slice a22 nl2 c22], .slice (some ⟨gL, 0, none⟩) nr q9]) (by simp [results, Try.results34, go_sem, x45, x46, x47]) rfl (by exact by unfold DrawCLP; exact ⟨_, _, _, _, _, _, _, _, rfl, HCC.out, ⟨by omega, by omega, by omega⟩, ⟨HXX.out.1, by have := HXX.out.2.1; omega, HXX.out.2.2⟩, TB.out⟩)
 have qk0 : (mm == 0) = false := by simp [hk0]
 by_cases hk1 : mm = 1
 ·have qk1 : (mm == 1) = true := by simp [hk1]
  have HI1 : Hid (∃ i0 : Nat, Value.int .i64 0 = .int .i64 i0 ∧ i0 ≤ nr ∧ LvD w6 (w3.heap.size + 1) (.slice (some ⟨gL, 0, none⟩) nr q9) us nr ∧ Bk w6 (w.heap.size) [.slice none 0 0, .slice none 0 0, .slice none 0 0] ∧ Bk w6 (w3.heap.size) [.slice a20 nv2 c20, .slice a21 na2 c21, .slice a22 nl2 c22] ∧ DrawC w6 w2.heap.size (.slice a20 nv2 c20) (.slice a21 na2 c21) (.slice a22 nl2 c22) nv2 na2 nl2 ∧ Rnd w6 B g (q2 + 1 + 1) ∧ Chg (fun q => q = g) w w6 ∧ w6.heap.size ≤ w6.heap.size) := Lib.hid ⟨0, rfl, by omega, oL, bk2, bk9, hdm, hR, hC, Nat.le_refl _⟩
  go_wp2_with fail
  go_loopw [8] (fun i wr => ∃ i0 : Nat, i = .int .i64 i0 ∧ i0 ≤ nr ∧ LvD wr (w3.heap.size + 1) (.slice (some ⟨gL, 0, none⟩) nr q9) us nr ∧ Bk wr (w.heap.size) [.slice none 0 0, .slice none 0 0, .slice none 0 0] ∧ Bk wr (w3.heap.size) [.slice a20 nv2 c20, .slice a21 na2 c21, .slice a22 nl2 c22] ∧ DrawC wr w2.heap.size (.slice a20 nv2 c20) (.slice a21 na2 c21) (.slice a22 nl2 c22) nv2 na2 nl2 ∧ Rnd wr B g (q2 + 1 + 1) ∧ Chg (fun q => q = g) w wr ∧ w6.heap.size ≤ wr.heap.size) (fun i _ => nr - (intOf i).toNat)
  case atStart => exact HI1.out
  case round =>
   clear HI1 hR hC bk2 hdm bk9 oL lt3 lt10
   obtain ⟨i0, rfl, hi0, oL, bk2, bk9, hdm, hR, hC, hzz⟩ := hrel
   obtain ⟨wl, rfl⟩ : ∃ X, X = wr := ⟨_, rfl⟩
   have lt48 := Bk.lz bk2
   have lt49 := Bk.lz bk9
   by_cases hlt : i0 < nr
   ·have hq : (i0 : Int) < (nr : Int) := by omega
    obtain ⟨gr, tr, hu, hcap, e1, f1, hgr, hne, hbits⟩ := oL.row i0 hlt
    clear hbits
    obtain ⟨⟨x0, hx0⟩, fx0⟩ := oL.bitAt hu 13 (by omega)
    have hq3 : (13 : Int) < 14 := by omega
    have HX1 := Lib.hid (And.intro (LvD.bit oL hu (13) true) (And.intro (Bk.ne (b' := gr) (j' := 13) bk2 (by omega) (.bool true)) (And.intro (Bk.ne (b' := gr) (j' := 13) bk9 (by omega) (.bool true)) (And.intro (hdm.keep (C1 (gr) 13 (.bool true)) (fun gq h h2 => by have := iv7 gq h; omega)) (And.intro (hR.keep (C1 (gr) (13) (.bool true)) (by omega) (fun _ _ => by omega)) (hC.setNew (gr) (13) (.bool true) (Or.inr (by omega))))))))
    clear hR hC oL hdm
    go_wp2
    go_roundw
    case rel => exact ⟨i0 + 1, by go_num, by omega, HX1.out.1, HX1.out.2.1, HX1.out.2.2.1, HX1.out.2.2.2.1, HX1.out.2.2.2.2.1, HX1.out.2.2.2.2.2, by (try simp only [Ss]); omega⟩
    case measure => simp [intOf]; omega
   ·have hq : decide ((i0 : Int) < (nr : Int)) = false := decide_eq_false (by omega)
    have hq2 : ¬ (i0 : Int) < (nr : Int) := by omega
    have hx := oL.x (by omega)
    clear oL
    have tC := (((hC.setNew (w.heap.size) (0) (.slice a20 nv2 c20) (Or.inr (by omega))).setNew (w.heap.size) (1) (.slice a21 na2 c21) (Or.inr (by omega))).setNew (w.heap.size) (2) (.slice a22 nl2 c22) (Or.inr (by omega)))
    have tb := tC.below w.heap.size (Nat.le_refl _) (fun k hk h => by have := ird k h; omega)
    have TB := Lib.hid tb; clear tC tb hC
    clear hR
    have HCC := Lib.hid (DrawC.mono (((hdm.keep (C1 (w.heap.size) 0 (.slice a20 nv2 c20)) (fun gq h h2 => by have := iv7 gq h; omega)).keep (C1 (w.heap.size) 1 (.slice a21 na2 c21)) (fun gq h h2 => by have := iv7 gq h; omega)).keep (C1 (w.heap.size) 2 (.slice a22 nl2 c22)) (fun gq h h2 => by have := iv7 gq h; omega)) (show w.heap.size ≤ _ by omega))
    obtain ⟨Lx, hlx⟩ := LvX.reads (((hx.keep (C1 (w.heap.size) 0 (.slice a20 nv2 c20)) (fun gq h h2 => by have := (fun q (h : w3.heap.size + 1 ≤ q) => h) gq h; omega)).keep (C1 (w.heap.size) 1 (.slice a21 na2 c21)) (fun gq h h2 => by have := (fun q (h : w3.heap.size + 1 ≤ q) => h) gq h; omega)).keep (C1 (w.heap.size) 2 (.slice a22 nl2 c22)) (fun gq h h2 => by have := (fun q (h : w3.heap.size + 1 ≤ q) => h) gq h; omega)); have HXX := Lib.hid hlx; clear hlx
    clear hdm hx
    obtain ⟨tc50, tf51⟩ := Bk.cf bk2 0 rfl
    obtain ⟨tc52, tf53⟩ := Bk.cf bk2 1 rfl
    obtain ⟨tc54, tf55⟩ := Bk.cf bk2 2 rfl
    obtain ⟨tc56, tf57⟩ := Bk.cf bk9 0 rfl
    obtain ⟨tc58, tf59⟩ := Bk.cf bk9 1 rfl
    obtain ⟨tc60, tf61⟩ := Bk.cf bk9 2 rfl
    have x62 := (Nc (b := (w.heap.size)) (j := 2) (Nc (b := (w.heap.size)) (j := 1) (Tc _ (w.heap.size) 0 (.slice a20 nv2 c20) tc50) (by omega) (.slice a21 na2 c21)) (by omega) (.slice a22 nl2 c22))
    have x63 := (Nc (b := (w.heap.size)) (j := 2) (Tc _ (w.heap.size) 1 (.slice a21 na2 c21) (Nc (b := (w.heap.size)) (j := 0) tc52 (by omega) (.slice a20 nv2 c20))) (by omega) (.slice a22 nl2 c22))
    have x64 := (Tc _ (w.heap.size) 2 (.slice a22 nl2 c22) (Nc (b := (w.heap.size)) (j := 1) (Nc (b := (w.heap.size)) (j := 0) tc54 (by omega) (.slice a20 nv2 c20)) (by omega) (.slice a21 na2 c21)))
    have tt := True.intro
    go_wp2
    exact bodyPost_ret (v := .tuple #[.agg #[.slice a20 nv2 c20, .slice a21 na2 c21, .slice a22 nl2 c22], .slice (some ⟨gL, 0, none⟩) nr q9]) (by simp [results, Try.results34, go_sem, x62, x63, x64]) rfl (by exact by unfold DrawCLP; exact ⟨_, _, _, _, _, _, _, _, rfl, HCC.out, ⟨by omega, by omega, by omega⟩, ⟨HXX.out.1, by have := HXX.out.2.1; omega, HXX.out.2.2⟩, TB.out⟩)
 have qk1 : (mm == 1) = false := by simp [hk1]
 by_cases hk2 : mm = 2
 ·have qk2 : (mm == 2) = true := by simp [hk2]
  obtain ⟨gr, tr, hu, hcap, e1, f1, hgr, hne, hbits⟩ := oL.row k hkn
  clear hbits
  go_upto_region 15 with (fail)
  replace lt3 := Bk.lz bk2
  replace lt10 := Bk.lz bk9
  have lt65 := Lc e1
  refine wp_region_noPanic ?_
  refine wp_region_held_drew (S := (fun W' => True)) (by kernel_rfl) trivial (fun hHeld => ?_)
  obtain ⟨w7, hwd⟩ : ∃ X, X = World.drew w6 := ⟨_, rfl⟩
  rw [← hwd]
  have hb : Below w6.heap.size w6 w7 := by rw [hwd]; exact Below.drew (Bs _)
  clear hwd
  replace hC := (hC).trans (Chg.of_below hb)
  replace hR := hR.below hb
  replace oL := oL.below hb
  have hsz66 := hb.size
  replace f1 := Kf hb (Lc e1) f1
  replace hdm := hdm.below hb
  replace e1 := Kc hb e1
  replace bk2 := Bk.below bk2 hb
  replace bk9 := Bk.below bk9 hb
  clear hb
  replace lt3 := Bk.lz bk2
  replace lt10 := Bk.lz bk9
  replace lt65 := Lc e1
  refine (tq 0 53 rfl rfl ?_ ?_ (tq 1 54 rfl rfl ?_ ?_ (tq 2 55 rfl rfl ?_ ?_ (tq 3 56 rfl rfl ?_ ?_ (tq 4 57 rfl rfl ?_ ?_ (tq 6 59 rfl rfl ?_ ?_ ?_))))))
  iterate 6 (rotate_left; intro W' hSw; clear hSw; go_simp; try with_reducible rfl)
  try simp only [Act.put, sb, List.set]
  refine wpAnyH_ready (rs := [5, 7]) (by kernel_rfl) (by simp) ?_
  refine AllReadyH.cons rfl (fun K hK => ?_) ?_
  ·-- 5
   go_simp
   replace lt3 := Bk.lz bk2
   replace lt10 := Bk.lz bk9
   replace lt65 := Lc e1
   refine hK.out _ _ trivial (fun hHeld => ?_)
   clear hK K
   try simp only [Act.put, sb, List.set]
   refine Rdy 7 rfl (fun K hK => ?_)
   go_simp
   refine (pick_any _ _ B g (q2 + 1 + 1) hR (by omega) (by omega) (by omega)).mono ?_
   rintro e w8 ⟨d2, d20, d21, rfl, hRn, hc⟩
   replace hC := (hC).trans hc
   replace hR := hRn; clear hRn
   replace oL := oL.keep hc (fun gq h h2 => by have := iL gq h; have := ird gq h2; omega)
   have hsz67 := hc.size
   replace f1 := Gf hc (Lc e1) f1 (fun h => by have := ird _ h; omega)
   replace hdm := hdm.keep hc (fun gq h h2 => by have := iv7 gq h; have := ird gq h2; omega)
   replace e1 := Gc hc e1 (fun h => by have := ird _ h; omega)
   replace bk2 := Bk.keep bk2 hc (fun h => by have := ird _ h; omega)
   replace bk9 := Bk.keep bk9 hc (fun h => by have := ird _ h; omega)
   clear hc
   obtain ⟨e, he⟩ : ∃ e : Nat, d2 * 13 = e ∧ e ≤ 13 := ⟨(d2 * 13).toNat, by omega, by omega⟩
   have hwe : IntKind.i64.wrap (d2 * 13) = e := by rw [he.1]; exact IntWalk.i64_in _ (by omega)
   replace he := he.2
   have hsl : ∀ W, (Instr.slice 66 (.slice (some ⟨gr, 0, none⟩) 14 tr) none (some (.int .i64 e)) none).run Try.prog W = .ok (.slice (some ⟨gr, 0, none⟩) e tr) W := fun W => run_pre tBools _ 14 tr e (by omega) W
   replace lt3 := Bk.lz bk2
   replace lt10 := Bk.lz bk9
   replace lt65 := Lc e1
   refine hK.out _ _ trivial (fun hHeld => ?_)
   clear hK K
   try simp only [Act.put, sb, List.set]
   refine (tq 8 61 rfl rfl ?_ ?_ (tq 9 62 rfl rfl ?_ ?_ (tq 10 63 rfl rfl ?_ ?_ ?_)))
   iterate 3 (rotate_left; intro W' hSw; clear hSw; go_simp; try with_reducible rfl)
   try simp only [Act.put, sb, List.set]
   refine Rdy 11 rfl (fun K hK => ?_)
   go_simp
   obtain ⟨w9, hnw, hb⟩ := nmw (World.setCell w8 ⟨gL, k, none⟩ (.slice (some ⟨gr, 0, none⟩) e tr))
   replace hC := ((hC.setNew _ _ _ (Or.inr (by omega)))).trans (Chg.of_below hb)
   replace hR := (hR.keep (C1 _ _ _) (by omega) (fun _ _ => by omega)).below hb
   replace oL := (LvD.cut oL (by omega) hu (e := e) (by omega)).below hb
   have hsz68 := hb.size
   simp only [Ss] at hsz68
   replace f1 := Kf hb (Lc (Tc _ (gL) k (.slice (some ⟨gr, 0, none⟩) e tr) e1)) (Fs f1 _)
   replace hdm := (hdm.keep (C1 _ _ _) (fun gq h h2 => by have := iv7 gq h; omega)).below hb
   replace e1 : w9.cell? ⟨gL, k, none⟩ = some (.slice (some ⟨gr, 0, none⟩) e tr) := Kc hb (Tc _ (gL) k (.slice (some ⟨gr, 0, none⟩) e tr) e1)
   replace bk2 := Bk.below (Bk.ne bk2 (by omega) _) hb
   replace bk9 := Bk.below (Bk.ne bk9 (by omega) _) hb
   clear hb
   rw [← hnw]
   clear hnw
   replace lt3 := Bk.lz bk2
   replace lt10 := Bk.lz bk9
   replace lt65 := Lc e1
   refine hK.out _ _ trivial (fun hHeld => ?_)
   clear hK K
   try simp only [Act.put, sb, List.set]
   refine wpAnyH_done (by kernel_rfl) ?_ _
   refine NoPanic.normal ?_
   clear hHeld
   have hx := oL; clear oL
   clear e1
   have tC := (((hC.setNew (w.heap.size) (0) (.slice a20 nv2 c20) (Or.inr (by omega))).setNew (w.heap.size) (1) (.slice a21 na2 c21) (Or.inr (by omega))).setNew (w.heap.size) (2) (.slice a22 nl2 c22) (Or.inr (by omega)))
   have tb := tC.below w.heap.size (Nat.le_refl _) (fun k hk h => by have := ird k h; omega)
   have TB := Lib.hid tb; clear tC tb hC
   clear hR
   have HCC := Lib.hid (DrawC.mono (((hdm.keep (C1 (w.heap.size) 0 (.slice a20 nv2 c20)) (fun gq h h2 => by have := iv7 gq h; omega)).keep (C1 (w.heap.size) 1 (.slice a21 na2 c21)) (fun gq h h2 => by have := iv7 gq h; omega)).keep (C1 (w.heap.size) 2 (.slice a22 nl2 c22)) (fun gq h h2 => by have := iv7 gq h; omega)) (show w.heap.size ≤ _ by omega))
   obtain ⟨Lx, hlx⟩ := LvX.reads (((hx.keep (C1 (w.heap.size) 0 (.slice a20 nv2 c20)) (fun gq h h2 => by have := (fun q (h : w3.heap.size + 1 ≤ q) => h) gq h; omega)).keep (C1 (w.heap.size) 1 (.slice a21 na2 c21)) (fun gq h h2 => by have := (fun q (h : w3.heap.size + 1 ≤ q) => h) gq h; omega)).keep (C1 (w.heap.size) 2 (.slice a22 nl2 c22)) (fun gq h h2 => by have := (fun q (h : w3.heap.size + 1 ≤ q) => h) gq h; omega)); have HXX := Lib.hid hlx; clear hlx
   clear hdm hx
   obtain ⟨tc69, tf70⟩ := Bk.cf bk2 0 rfl
   obtain ⟨tc71, tf72⟩ := Bk.cf bk2 1 rfl
   obtain ⟨tc73, tf74⟩ := Bk.cf bk2 2 rfl
   obtain ⟨tc75, tf76⟩ := Bk.cf bk9 0 rfl
   obtain ⟨tc77, tf78⟩ := Bk.cf bk9 1 rfl
   obtain ⟨tc79, tf80⟩ := Bk.cf bk9 2 rfl
   have x81 := (Nc (b := (w.heap.size)) (j := 2) (Nc (b := (w.heap.size)) (j := 1) (Tc _ (w.heap.size) 0 (.slice a20 nv2 c20) tc69) (by omega) (.slice a21 na2 c21)) (by omega) (.slice a22 nl2 c22))
   have x82 := (Nc (b := (w.heap.size)) (j := 2) (Tc _ (w.heap.size) 1 (.slice a21 na2 c21) (Nc (b := (w.heap.size)) (j := 0) tc71 (by omega) (.slice a20 nv2 c20))) (by omega) (.slice a22 nl2 c22))
   have x83 := (Tc _ (w.heap.size) 2 (.slice a22 nl2 c22) (Nc (b := (w.heap.size)) (j := 1) (Nc (b := (w.heap.size)) (j := 0) tc73 (by omega) (.slice a20 nv2 c20)) (by omega) (.slice a21 na2 c21)))
   have tt := True.intro
   go_wp2
   exact bodyPost_ret (v := .tuple #[.agg #[.slice a20 nv2 c20, .slice a21 na2 c21, .slice a22 nl2 c22], .slice (some ⟨gL, 0, none⟩) nr q9]) (by simp [results, Try.results34, go_sem, x81, x82, x83]) rfl (by exact by unfold DrawCLP; exact ⟨_, _, _, _, _, _, _, _, rfl, HCC.out, ⟨by omega, by omega, by omega⟩, ⟨HXX.out.1, by have := HXX.out.2.1; omega, HXX.out.2.2⟩, TB.out⟩)
  refine AllReadyH.cons rfl (fun K hK => ?_) AllReadyH.nil
  go_simp
  refine (pick_any _ _ B g (q2 + 1 + 1) hR (by omega) (by omega) (by omega)).mono ?_
  rintro e w8 ⟨d2, d20, d21, rfl, hRn, hc⟩
  replace hC := (hC).trans hc
  replace hR := hRn; clear hRn
  replace oL := oL.keep hc (fun gq h h2 => by have := iL gq h; have := ird gq h2; omega)
  have hsz84 := hc.size
  replace f1 := Gf hc (Lc e1) f1 (fun h => by have := ird _ h; omega)
  replace hdm := hdm.keep hc (fun gq h h2 => by have := iv7 gq h; have := ird gq h2; omega)
  replace e1 := Gc hc e1 (fun h => by have := ird _ h; omega)
  replace bk2 := Bk.keep bk2 hc (fun h => by have := ird _ h; omega)
  replace bk9 := Bk.keep bk9 hc (fun h => by have := ird _ h; omega)
  clear hc
  obtain ⟨e, he⟩ : ∃ e : Nat, d2 * 13 = e ∧ e ≤ 13 := ⟨(d2 * 13).toNat, by omega, by omega⟩
  have hwe : IntKind.i64.wrap (d2 * 13) = e := by rw [he.1]; exact IntWalk.i64_in _ (by omega)
  replace he := he.2
  have hsl : ∀ W, (Instr.slice 66 (.slice (some ⟨gr, 0, none⟩) 14 tr) none (some (.int .i64 e)) none).run Try.prog W = .ok (.slice (some ⟨gr, 0, none⟩) e tr) W := fun W => run_pre tBools _ 14 tr e (by omega) W
  replace lt3 := Bk.lz bk2
  replace lt10 := Bk.lz bk9
  replace lt65 := Lc e1
  refine hK.out _ _ trivial (fun hHeld => ?_)
  clear hK K
  try simp only [Act.put, sb, List.set]
  refine (tq 8 61 rfl rfl ?_ ?_ ?_)
  (rotate_left; intro W' hSw; clear hSw; go_simp; try with_reducible rfl)
  try simp only [Act.put, sb, List.set]
  refine Rdy 5 rfl (fun K hK => ?_)
  go_simp
  replace lt3 := Bk.lz bk2
  replace lt10 := Bk.lz bk9
  replace lt65 := Lc e1
  refine hK.out _ _ trivial (fun hHeld => ?_)
  clear hK K
  try simp only [Act.put, sb, List.set]
  refine (tq 9 62 rfl rfl ?_ ?_ (tq 10 63 rfl rfl ?_ ?_ ?_))
  iterate 2 (rotate_left; intro W' hSw; clear hSw; go_simp; try with_reducible rfl)
  try simp only [Act.put, sb, List.set]
  refine Rdy 11 rfl (fun K hK => ?_)
  go_simp
  obtain ⟨w9, hnw, hb⟩ := nmw (World.setCell w8 ⟨gL, k, none⟩ (.slice (some ⟨gr, 0, none⟩) e tr))
  replace hC := ((hC.setNew _ _ _ (Or.inr (by omega)))).trans (Chg.of_below hb)
  replace hR := (hR.keep (C1 _ _ _) (by omega) (fun _ _ => by omega)).below hb
  replace oL := (LvD.cut oL (by omega) hu (e := e) (by omega)).below hb
  have hsz85 := hb.size
  simp only [Ss] at hsz85
  replace f1 := Kf hb (Lc (Tc _ (gL) k (.slice (some ⟨gr, 0, none⟩) e tr) e1)) (Fs f1 _)
  replace hdm := (hdm.keep (C1 _ _ _) (fun gq h h2 => by have := iv7 gq h; omega)).below hb
  replace e1 : w9.cell? ⟨gL, k, none⟩ = some (.slice (some ⟨gr, 0, none⟩) e tr) := Kc hb (Tc _ (gL) k (.slice (some ⟨gr, 0, none⟩) e tr) e1)
  replace bk2 := Bk.below (Bk.ne bk2 (by omega) _) hb
  replace bk9 := Bk.below (Bk.ne bk9 (by omega) _) hb
  clear hb
  rw [← hnw]
  clear hnw
  replace lt3 := Bk.lz bk2
  replace lt10 := Bk.lz bk9
  replace lt65 := Lc e1
  refine hK.out _ _ trivial (fun hHeld => ?_)
  clear hK K
  try simp only [Act.put, sb, List.set]
  refine wpAnyH_done (by kernel_rfl) ?_ _
  refine NoPanic.normal ?_
  clear hHeld
  have hx := oL; clear oL
  clear e1
  have tC := (((hC.setNew (w.heap.size) (0) (.slice a20 nv2 c20) (Or.inr (by omega))).setNew (w.heap.size) (1) (.slice a21 na2 c21) (Or.inr (by omega))).setNew (w.heap.size) (2) (.slice a22 nl2 c22) (Or.inr (by omega)))
  have tb := tC.below w.heap.size (Nat.le_refl _) (fun k hk h => by have := ird k h; omega)
  have TB := Lib.hid tb; clear tC tb hC
  clear hR
  have HCC := Lib.hid (DrawC.mono (((hdm.keep (C1 (w.heap.size) 0 (.slice a20 nv2 c20)) (fun gq h h2 => by have := iv7 gq h; omega)).keep (C1 (w.heap.size) 1 (.slice a21 na2 c21)) (fun gq h h2 => by have := iv7 gq h; omega)).keep (C1 (w.heap.size) 2 (.slice a22 nl2 c22)) (fun gq h h2 => by have := iv7 gq h; omega)) (show w.heap.size ≤ _ by omega))
  obtain ⟨Lx, hlx⟩ := LvX.reads (((hx.keep (C1 (w.heap.size) 0 (.slice a20 nv2 c20)) (fun gq h h2 => by have := (fun q (h : w3.heap.size + 1 ≤ q) => h) gq h; omega)).keep (C1 (w.heap.size) 1 (.slice a21 na2 c21)) (fun gq h h2 => by have := (fun q (h : w3.heap.size + 1 ≤ q) => h) gq h; omega)).keep (C1 (w.heap.size) 2 (.slice a22 nl2 c22)) (fun gq h h2 => by have := (fun q (h : w3.heap.size + 1 ≤ q) => h) gq h; omega)); have HXX := Lib.hid hlx; clear hlx
  clear hdm hx
  obtain ⟨tc86, tf87⟩ := Bk.cf bk2 0 rfl
  obtain ⟨tc88, tf89⟩ := Bk.cf bk2 1 rfl
  obtain ⟨tc90, tf91⟩ := Bk.cf bk2 2 rfl
  obtain ⟨tc92, tf93⟩ := Bk.cf bk9 0 rfl
  obtain ⟨tc94, tf95⟩ := Bk.cf bk9 1 rfl
  obtain ⟨tc96, tf97⟩ := Bk.cf bk9 2 rfl
  have x98 := (Nc (b := (w.heap.size)) (j := 2) (Nc (b := (w.heap.size)) (j := 1) (Tc _ (w.heap.size) 0 (.slice a20 nv2 c20) tc86) (by omega) (.slice a21 na2 c21)) (by omega) (.slice a22 nl2 c22))
  have x99 := (Nc (b := (w.heap.size)) (j := 2) (Tc _ (w.heap.size) 1 (.slice a21 na2 c21) (Nc (b := (w.heap.size)) (j := 0) tc88 (by omega) (.slice a20 nv2 c20))) (by omega) (.slice a22 nl2 c22))
  have x100 := (Tc _ (w.heap.size) 2 (.slice a22 nl2 c22) (Nc (b := (w.heap.size)) (j := 1) (Nc (b := (w.heap.size)) (j := 0) tc90 (by omega) (.slice a20 nv2 c20)) (by omega) (.slice a21 na2 c21)))
  have tt := True.intro
  go_wp2
  exact bodyPost_ret (v := .tuple #[.agg #[.slice a20 nv2 c20, .slice a21 na2 c21, .slice a22 nl2 c22], .slice (some ⟨gL, 0, none⟩) nr q9]) (by simp [results, Try.results34, go_sem, x98, x99, x100]) rfl (by exact by unfold DrawCLP; exact ⟨_, _, _, _, _, _, _, _, rfl, HCC.out, ⟨by omega, by omega, by omega⟩, ⟨HXX.out.1, by have := HXX.out.2.1; omega, HXX.out.2.2⟩, TB.out⟩)
 have qk2 : (mm == 2) = false := by simp [hk2]
 have hx := oL.x (by omega)
 clear oL
 have tC := (((hC.setNew (w.heap.size) (0) (.slice a20 nv2 c20) (Or.inr (by omega))).setNew (w.heap.size) (1) (.slice a21 na2 c21) (Or.inr (by omega))).setNew (w.heap.size) (2) (.slice a22 nl2 c22) (Or.inr (by omega)))
 have tb := tC.below w.heap.size (Nat.le_refl _) (fun k hk h => by have := ird k h; omega)
 have TB := Lib.hid tb; clear tC tb hC
 clear hR
 have HCC := Lib.hid (DrawC.mono (((hdm.keep (C1 (w.heap.size) 0 (.slice a20 nv2 c20)) (fun gq h h2 => by have := iv7 gq h; omega)).keep (C1 (w.heap.size) 1 (.slice a21 na2 c21)) (fun gq h h2 => by have := iv7 gq h; omega)).keep (C1 (w.heap.size) 2 (.slice a22 nl2 c22)) (fun gq h h2 => by have := iv7 gq h; omega)) (show w.heap.size ≤ _ by omega))
 obtain ⟨Lx, hlx⟩ := LvX.reads (((hx.keep (C1 (w.heap.size) 0 (.slice a20 nv2 c20)) (fun gq h h2 => by have := (fun q (h : w3.heap.size + 1 ≤ q) => h) gq h; omega)).keep (C1 (w.heap.size) 1 (.slice a21 na2 c21)) (fun gq h h2 => by have := (fun q (h : w3.heap.size + 1 ≤ q) => h) gq h; omega)).keep (C1 (w.heap.size) 2 (.slice a22 nl2 c22)) (fun gq h h2 => by have := (fun q (h : w3.heap.size + 1 ≤ q) => h) gq h; omega)); have HXX := Lib.hid hlx; clear hlx
 clear hdm hx
 obtain ⟨tc101, tf102⟩ := Bk.cf bk2 0 rfl
 obtain ⟨tc103, tf104⟩ := Bk.cf bk2 1 rfl
 obtain ⟨tc105, tf106⟩ := Bk.cf bk2 2 rfl
 obtain ⟨tc107, tf108⟩ := Bk.cf bk9 0 rfl
 obtain ⟨tc109, tf110⟩ := Bk.cf bk9 1 rfl
 obtain ⟨tc111, tf112⟩ := Bk.cf bk9 2 rfl
 have x113 := (Nc (b := (w.heap.size)) (j := 2) (Nc (b := (w.heap.size)) (j := 1) (Tc _ (w.heap.size) 0 (.slice a20 nv2 c20) tc101) (by omega) (.slice a21 na2 c21)) (by omega) (.slice a22 nl2 c22))
 have x114 := (Nc (b := (w.heap.size)) (j := 2) (Tc _ (w.heap.size) 1 (.slice a21 na2 c21) (Nc (b := (w.heap.size)) (j := 0) tc103 (by omega) (.slice a20 nv2 c20))) (by omega) (.slice a22 nl2 c22))
 have x115 := (Tc _ (w.heap.size) 2 (.slice a22 nl2 c22) (Nc (b := (w.heap.size)) (j := 1) (Nc (b := (w.heap.size)) (j := 0) tc105 (by omega) (.slice a20 nv2 c20)) (by omega) (.slice a21 na2 c21)))
 have tt := True.intro
 go_wp2
 exact bodyPost_ret (v := .tuple #[.agg #[.slice a20 nv2 c20, .slice a21 na2 c21, .slice a22 nl2 c22], .slice (some ⟨gL, 0, none⟩) nr q9]) (by simp [results, Try.results34, go_sem, x113, x114, x115]) rfl (by exact by unfold DrawCLP; exact ⟨_, _, _, _, _, _, _, _, rfl, HCC.out, ⟨by omega, by omega, by omega⟩, ⟨HXX.out.1, by have := HXX.out.2.1; omega, HXX.out.2.2⟩, TB.out⟩)
end Go.Proofs.Ytkjedgnepnbkpaa
