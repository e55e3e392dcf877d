/-
 Parts of the proof of the law FnSpecPath.
-/
import Derived.Test.YtkjedgnepnbkpaaQK
import Derived.Test.YtkjedgnepnbkpaaZC
set_option maxHeartbeats 12800000
set_option maxRecDepth 100000
set_option linter.all false
namespace Go.Proofs.Ytkjedgnepnbkpaa
open Go.RowKit

theorem DrawMachineValid_any (v : Value) (n : Nat) (vs : List Int) (w : World) (hr : Reads w 1 v n (vs.map (Value.int .u8))) (hv : ∀ x ∈ vs, 0 ≤ x ∧ x < 256) (hn : n ≤ 1048576) :
  Calls Try.prog 61 #[v] w fun r w' => DrawCSP w r w' := by
 go_enter Try.func61, Try.ntmps61
 go_wp2_with fail
 refine (l17Open_any v n vs _ (hr.below (bal (bal (Bs w) (.cells #[.slice none 0 0, .slice none 0 0, .slice none 0 0] 26)) (.cells #[.int .i64 0, .slice none 0 0, .slice none 0 0, .slice none 0 0] 39))) hv hn).mono ?_
 rintro e w1 ⟨g, rfl, hR, hb⟩
 try simp only [Sa] at hR
 have hsz1 := hb.size
 simp only [Sa] at hsz1
 have bk2 : Bk w1 (w.heap.size) [.slice none 0 0, .slice none 0 0, .slice none 0 0] := Bk.below (Bk.al (Bk.nw (by simp) rfl) (.cells #[.int .i64 0, .slice none 0 0, .slice none 0 0, .slice none 0 0] 39)) hb
 have bk3 : Bk w1 (w.heap.size + 1) [.int .i64 0, .slice none 0 0, .slice none 0 0, .slice none 0 0] := Bk.below (Bk.nw (by simp) rfl) hb
 have tot := btr (bal (bal (Bs w) (.cells #[.slice none 0 0, .slice none 0 0, .slice none 0 0] 26)) (.cells #[.int .i64 0, .slice none 0 0, .slice none 0 0, .slice none 0 0] 39)) hb
 clear hb
 have lt4 := Bk.lz bk2
 have lt5 := Bk.lz bk3
 obtain ⟨B, hB⟩ : ∃ B, w.heap.size + 1 + 1 = B := ⟨_, rfl⟩; rw [hB] at hR; have hwB : w.heap.size + 1 + 1 ≤ B := (by omega); clear hB hr hv
 have hg := hR.lt
 have hC : Chg (fun k => k = g) w w1 := Chg.of_below tot
 have ird : ∀ q, (fun k => k = g) q → q = g := fun q h => h
 clear tot
 have hgw : w.heap.size ≤ g := by omega
 go_wp2_with fail
 refine (l6Code_any B g (0) _ hR (by omega)).mono ?_
 rintro e w2 ⟨va, vb, vl, nv1, na1, nl1, q1, rfl, hdc, hv1, ha1, hl1, hRn, hq1, hc⟩
 try simp only [Sa, Ss] at hdc
 obtain ⟨a10, c10, a11, c11, a12, c12, rfl, rfl, rfl⟩ := hdc.shape
 replace hC := (hC).trans hc
 replace hR := hRn; clear hRn
 have hsz6 := hc.size
 replace bk2 := Bk.keep bk2 hc (fun h => by have := ird _ h; omega)
 replace bk3 := Bk.keep bk3 hc (fun h => by have := ird _ h; omega)
 clear hc
 have iv7 := hdc.lt
 replace lt4 := Bk.lz bk2
 replace lt5 := Bk.lz bk3
 go_wp2_with fail
 refine (l6State_any a10 a11 a12 nv1 c10 na1 c11 nl1 c12 B g (q1) _ (hR.below (bal (Bs _) (.cells #[.slice a10 nv1 c10, .slice a11 na1 c11, .slice a12 nl1 c12] 26))) (by omega) (by omega) (by omega) (by omega)).mono ?_
 rintro e w3 ⟨ur, ux, uy, m, p1, rfl, hm, hRn, hp1, hc⟩
 try simp only [Sa, Ss] at hm
 obtain ⟨a3, c3, a4, c4, rfl, rfl⟩ := hm.m.reads.shape
 obtain ⟨a5, c5, rfl⟩ := reads_shape hm.r
 replace hC := ((hC.trans (Chg.of_below (bal (Bs _) _)))).trans hc
 replace hR := hRn; clear hRn
 have hsz8 := hc.size
 simp only [Sa] at hsz8
 replace hdc := (hdc.below (bal (Bs _) _)).keep hc (fun gq h h2 => by have := iv7 gq h; have := ird gq h2; omega)
 replace bk2 := Bk.keep (Bk.al bk2 _) hc (fun h => by have := ird _ h; omega)
 replace bk3 := Bk.keep (Bk.al bk3 _) hc (fun h => by have := ird _ h; omega)
 have bk9 : Bk w3 (w2.heap.size) [.slice a10 nv1 c10, .slice a11 na1 c11, .slice a12 nl1 c12] := Bk.keep (Bk.nw (by simp) rfl) hc (fun h => by have := ird _ h; omega)
 clear hc
 replace lt4 := Bk.lz bk2
 replace lt5 := Bk.lz bk3
 have lt10 := Bk.lz bk9
 go_upto_region 4 with (fail)
 obtain ⟨w4, hnw, hb⟩ := nmw (World.alloc w3 (.cells #[.int .i64 m.pc, .slice a5 m.regs.length c5, .slice a3 m.mem.vals.length c3, .slice a4 m.mem.arrs.length c4] 39))
 replace hC := ((hC.trans (Chg.of_below (bal (Bs _) _)))).trans (Chg.of_below hb)
 replace hR := (hR.below (bal (Bs _) _)).below hb
 have hsz11 := hb.size
 simp only [Sa] at hsz11
 replace hdc := (hdc.below (bal (Bs _) _)).below hb
 replace hm := (hm.below (bal (Bs _) _)).below hb
 replace bk2 := Bk.below (Bk.al bk2 _) hb
 replace bk3 := Bk.below (Bk.al bk3 _) hb
 replace bk9 := Bk.below (Bk.al bk9 _) hb
 have bk12 : Bk w4 (w3.heap.size) [.int .i64 m.pc, .slice a5 m.regs.length c5, .slice a3 m.mem.vals.length c3, .slice a4 m.mem.arrs.length c4] := Bk.below (Bk.nw (by simp) rfl) hb
 clear hb
 rw [← hnw]
 clear hnw
 have hc13 := Bk.cell bk9 0 (v := .slice a10 nv1 c10) rfl
 have hc14 := Bk.cell bk9 1 (v := .slice a11 na1 c11) rfl
 have hc15 := Bk.cell bk9 2 (v := .slice a12 nl1 c12) rfl
 have hc16 := Bk.cell bk12 0 (v := .int .i64 m.pc) rfl
 have hc17 := Bk.cell bk12 1 (v := .slice a5 m.regs.length c5) rfl
 have hc18 := Bk.cell bk12 2 (v := .slice a3 m.mem.vals.length c3) rfl
 have hc19 := Bk.cell bk12 3 (v := .slice a4 m.mem.arrs.length c4) rfl
 replace lt4 := Bk.lz bk2
 replace lt5 := Bk.lz bk3
 replace lt10 := Bk.lz bk9
 have lt20 := Bk.lz bk12
 refine wp_region_noPanic ?_
 refine wp_region_held_drew (S := (fun W' => W'.cell? ⟨w2.heap.size, 0, none⟩ = some (.slice a10 nv1 c10) ∧ W'.cell? ⟨w2.heap.size, 1, none⟩ = some (.slice a11 na1 c11) ∧ W'.cell? ⟨w2.heap.size, 2, none⟩ = some (.slice a12 nl1 c12) ∧ W'.cell? ⟨w3.heap.size, 0, none⟩ = some (.int .i64 m.pc) ∧ W'.cell? ⟨w3.heap.size, 1, none⟩ = some (.slice a5 m.regs.length c5) ∧ W'.cell? ⟨w3.heap.size, 2, none⟩ = some (.slice a3 m.mem.vals.length c3) ∧ W'.cell? ⟨w3.heap.size, 3, none⟩ = some (.slice a4 m.mem.arrs.length c4))) (by kernel_rfl) ⟨Kc (Below.drew (Bs w4)) hc13, Kc (Below.drew (Bs w4)) hc14, Kc (Below.drew (Bs w4)) hc15, Kc (Below.drew (Bs w4)) hc16, Kc (Below.drew (Bs w4)) hc17, Kc (Below.drew (Bs w4)) hc18, Kc (Below.drew (Bs w4)) hc19⟩ (fun hHeld => ?_)
 obtain ⟨w5, hwd⟩ : ∃ X, X = World.drew w4 := ⟨_, rfl⟩
 rw [← hwd] at hHeld ⊢
 have hb : Below w4.heap.size w4 w5 := by rw [hwd]; exact Below.drew (Bs _)
 clear hwd
 replace hC := (hC).trans (Chg.of_below hb)
 replace hR := hR.below hb
 have hsz21 := hb.size
 replace hdc := hdc.below hb
 replace hm := hm.below hb
 replace hc13 := Kc hb hc13
 replace hc14 := Kc hb hc14
 replace hc15 := Kc hb hc15
 replace hc16 := Kc hb hc16
 replace hc17 := Kc hb hc17
 replace hc18 := Kc hb hc18
 replace hc19 := Kc hb hc19
 replace bk2 := Bk.below bk2 hb
 replace bk3 := Bk.below bk3 hb
 replace bk9 := Bk.below bk9 hb
 replace bk12 := Bk.below bk12 hb
 clear hb
 replace lt4 := Bk.lz bk2
 replace lt5 := Bk.lz bk3
 replace lt10 := Bk.lz bk9
 replace lt20 := Bk.lz bk12
 refine (tq 0 14 rfl rfl ?_ ?_ (tq 1 15 rfl rfl ?_ ?_ (tq 3 17 rfl rfl ?_ ?_ ?_)))
 iterate 3 (rotate_left; intro W' hSw; (try dsimp only at hSw); go_simp; try with_reducible rfl)
 try simp only [Act.put, sb, List.set]
 refine Rdy 2 rfl (fun K hK => ?_)
 go_simp
 refine (l6Mutate_of _ _ _ nv1 na1 nl1 _ B g (p1) _ hdc (by omega) (by omega) (by omega) (by omega) hR (by omega)).mono ?_
 rintro e w6 ⟨va2, vb2, vl2, nv2, na2, nl2, q2, rfl, hdm, hv2, ha2, hl2, hRn, hq2, hc⟩
 try simp only [Sa, Ss] at hdm
 obtain ⟨a20, c20, a21, c21, a22, c22, rfl, rfl, rfl⟩ := hdm.shape
 replace hC := (hC).trans hc
 replace hR := hRn; clear hRn
 have hsz22 := hc.size
 replace hdc := hdc.keep hc (fun gq h h2 => by have := iv7 gq h; have := ird gq h2; omega)
 replace hm := hm.keep hc (fun gq h h2 => by have := (fun q (h : w2.heap.size + 1 ≤ q) => h) gq h; have := ird gq h2; omega)
 replace hc13 := Gc hc hc13 (fun h => by have := ird _ h; omega)
 replace hc14 := Gc hc hc14 (fun h => by have := ird _ h; omega)
 replace hc15 := Gc hc hc15 (fun h => by have := ird _ h; omega)
 replace hc16 := Gc hc hc16 (fun h => by have := ird _ h; omega)
 replace hc17 := Gc hc hc17 (fun h => by have := ird _ h; omega)
 replace hc18 := Gc hc hc18 (fun h => by have := ird _ h; omega)
 replace hc19 := Gc hc hc19 (fun h => by have := ird _ h; omega)
 replace bk2 := Bk.keep bk2 hc (fun h => by have := ird _ h; omega)
 replace bk3 := Bk.keep bk3 hc (fun h => by have := ird _ h; omega)
 replace bk9 := Bk.keep bk9 hc (fun h => by have := ird _ h; omega)
 replace bk12 := Bk.keep bk12 hc (fun h => by have := ird _ h; omega)
 clear hc
 have iv23 := hdm.lt
 clear hR
 replace lt4 := Bk.lz bk2
 replace lt5 := Bk.lz bk3
 replace lt10 := Bk.lz bk9
 replace lt20 := Bk.lz bk12
 refine hK.out _ _ ⟨hc13, hc14, hc15, hc16, hc17, hc18, hc19⟩ (fun hHeld => ?_)
 clear hK K
 try simp only [Act.put, sb, List.set]
 refine Rdy 4 rfl (fun K hK => ?_)
 obtain ⟨tc24, tf25⟩ := Bk.cf bk2 0 rfl
 obtain ⟨tc26, tf27⟩ := Bk.cf bk2 1 rfl
 obtain ⟨tc28, tf29⟩ := Bk.cf bk2 2 rfl
 go_simp
 obtain ⟨w7, hnw, hb⟩ := nmw (World.setCell (World.setCell (World.setCell w6 ⟨w.heap.size, 0, none⟩ (.slice a20 nv2 c20)) ⟨w.heap.size, 1, none⟩ (.slice a21 na2 c21)) ⟨w.heap.size, 2, none⟩ (.slice a22 nl2 c22))
 replace hC := ((((hC.setNew _ _ _ (Or.inr (by omega))).setNew _ _ _ (Or.inr (by omega))).setNew _ _ _ (Or.inr (by omega)))).trans (Chg.of_below hb)
 have hsz30 := hb.size
 simp only [Ss] at hsz30
 clear tf25 tc24 tf27 tc26 tf29 tc28
 replace hdc := (((hdc.keep (C1 _ _ _) (fun gq h h2 => by have := iv7 gq h; omega)).keep (C1 _ _ _) (fun gq h h2 => by have := iv7 gq h; omega)).keep (C1 _ _ _) (fun gq h h2 => by have := iv7 gq h; omega)).below hb
 replace hm := (((hm.keep (C1 _ _ _) (fun gq h h2 => by have := (fun q (h : w2.heap.size + 1 ≤ q) => h) gq h; omega)).keep (C1 _ _ _) (fun gq h h2 => by have := (fun q (h : w2.heap.size + 1 ≤ q) => h) gq h; omega)).keep (C1 _ _ _) (fun gq h h2 => by have := (fun q (h : w2.heap.size + 1 ≤ q) => h) gq h; omega)).below hb
 replace hc13 := Kc hb (Nc (Nc (Nc hc13 (by omega) _) (by omega) _) (by omega) _)
 replace hc14 := Kc hb (Nc (Nc (Nc hc14 (by omega) _) (by omega) _) (by omega) _)
 replace hc15 := Kc hb (Nc (Nc (Nc hc15 (by omega) _) (by omega) _) (by omega) _)
 replace hc16 := Kc hb (Nc (Nc (Nc hc16 (by omega) _) (by omega) _) (by omega) _)
 replace hc17 := Kc hb (Nc (Nc (Nc hc17 (by omega) _) (by omega) _) (by omega) _)
 replace hc18 := Kc hb (Nc (Nc (Nc hc18 (by omega) _) (by omega) _) (by omega) _)
 replace hc19 := Kc hb (Nc (Nc (Nc hc19 (by omega) _) (by omega) _) (by omega) _)
 replace hdm := (((hdm.keep (C1 _ _ _) (fun gq h h2 => by have := iv23 gq h; omega)).keep (C1 _ _ _) (fun gq h h2 => by have := iv23 gq h; omega)).keep (C1 _ _ _) (fun gq h h2 => by have := iv23 gq h; omega)).below hb
 replace bk2 : Bk w7 (w.heap.size) [.slice a20 nv2 c20, .slice a21 na2 c21, .slice a22 nl2 c22] := Bk.below (Bk.at (Bk.at (Bk.at bk2 0 (.slice a20 nv2 c20)) 1 (.slice a21 na2 c21)) 2 (.slice a22 nl2 c22)) hb
 replace bk3 := Bk.below (Bk.ne (Bk.ne (Bk.ne bk3 (by omega) _) (by omega) _) (by omega) _) hb
 replace bk9 := Bk.below (Bk.ne (Bk.ne (Bk.ne bk9 (by omega) _) (by omega) _) (by omega) _) hb
 replace bk12 := Bk.below (Bk.ne (Bk.ne (Bk.ne bk12 (by omega) _) (by omega) _) (by omega) _) hb
 clear hb
 rw [← hnw]
 clear hnw
 replace lt4 := Bk.lz bk2
 replace lt5 := Bk.lz bk3
 replace lt10 := Bk.lz bk9
 replace lt20 := Bk.lz bk12
 refine hK.out _ _ ⟨hc13, hc14, hc15, hc16, hc17, hc18, hc19⟩ (fun hHeld => ?_)
 clear hK K
 try simp only [Act.put, sb, List.set]
 refine Rdy 5 rfl (fun K hK => ?_)
 obtain ⟨tc31, tf32⟩ := Bk.cf bk2 0 rfl
 obtain ⟨tc33, tf34⟩ := Bk.cf bk2 1 rfl
 obtain ⟨tc35, tf36⟩ := Bk.cf bk2 2 rfl
 obtain ⟨tc37, tf38⟩ := Bk.cf bk3 0 rfl
 obtain ⟨tc39, tf40⟩ := Bk.cf bk3 1 rfl
 obtain ⟨tc41, tf42⟩ := Bk.cf bk3 2 rfl
 obtain ⟨tc43, tf44⟩ := Bk.cf bk3 3 rfl
 go_simp
 obtain ⟨w8, hnw, hb⟩ := nmw (World.setCell (World.setCell (World.setCell (World.setCell w7 ⟨w.heap.size + 1, 0, none⟩ (.int .i64 m.pc)) ⟨w.heap.size + 1, 1, none⟩ (.slice a5 m.regs.length c5)) ⟨w.heap.size + 1, 2, none⟩ (.slice a3 m.mem.vals.length c3)) ⟨w.heap.size + 1, 3, none⟩ (.slice a4 m.mem.arrs.length c4))
 replace hC := (((((hC.setNew _ _ _ (Or.inr (by omega))).setNew _ _ _ (Or.inr (by omega))).setNew _ _ _ (Or.inr (by omega))).setNew _ _ _ (Or.inr (by omega)))).trans (Chg.of_below hb)
 have hsz45 := hb.size
 simp only [Ss] at hsz45
 clear tf32 tc31 tf34 tc33 tf36 tc35 tf38 tc37 tf40 tc39 tf42 tc41 tf44 tc43
 replace hdc := ((((hdc.keep (C1 _ _ _) (fun gq h h2 => by have := iv7 gq h; omega)).keep (C1 _ _ _) (fun gq h h2 => by have := iv7 gq h; omega)).keep (C1 _ _ _) (fun gq h h2 => by have := iv7 gq h; omega)).keep (C1 _ _ _) (fun gq h h2 => by have := iv7 gq h; omega)).below hb
 replace hm := ((((hm.keep (C1 _ _ _) (fun gq h h2 => by have := (fun q (h : w2.heap.size + 1 ≤ q) => h) gq h; omega)).keep (C1 _ _ _) (fun gq h h2 => by have := (fun q (h : w2.heap.size + 1 ≤ q) => h) gq h; omega)).keep (C1 _ _ _) (fun gq h h2 => by have := (fun q (h : w2.heap.size + 1 ≤ q) => h) gq h; omega)).keep (C1 _ _ _) (fun gq h h2 => by have := (fun q (h : w2.heap.size + 1 ≤ q) => h) gq h; omega)).below hb
 replace hc13 := Kc hb (Nc (Nc (Nc (Nc hc13 (by omega) _) (by omega) _) (by omega) _) (by omega) _)
 replace hc14 := Kc hb (Nc (Nc (Nc (Nc hc14 (by omega) _) (by omega) _) (by omega) _) (by omega) _)
 replace hc15 := Kc hb (Nc (Nc (Nc (Nc hc15 (by omega) _) (by omega) _) (by omega) _) (by omega) _)
 replace hc16 := Kc hb (Nc (Nc (Nc (Nc hc16 (by omega) _) (by omega) _) (by omega) _) (by omega) _)
 replace hc17 := Kc hb (Nc (Nc (Nc (Nc hc17 (by omega) _) (by omega) _) (by omega) _) (by omega) _)
 replace hc18 := Kc hb (Nc (Nc (Nc (Nc hc18 (by omega) _) (by omega) _) (by omega) _) (by omega) _)
 replace hc19 := Kc hb (Nc (Nc (Nc (Nc hc19 (by omega) _) (by omega) _) (by omega) _) (by omega) _)
 replace hdm := ((((hdm.keep (C1 _ _ _) (fun gq h h2 => by have := iv23 gq h; omega)).keep (C1 _ _ _) (fun gq h h2 => by have := iv23 gq h; omega)).keep (C1 _ _ _) (fun gq h h2 => by have := iv23 gq h; omega)).keep (C1 _ _ _) (fun gq h h2 => by have := iv23 gq h; omega)).below hb
 replace bk2 := Bk.below (Bk.ne (Bk.ne (Bk.ne (Bk.ne bk2 (by omega) _) (by omega) _) (by omega) _) (by omega) _) hb
 replace bk3 : Bk w8 (w.heap.size + 1) [.int .i64 m.pc, .slice a5 m.regs.length c5, .slice a3 m.mem.vals.length c3, .slice a4 m.mem.arrs.length c4] := Bk.below (Bk.at (Bk.at (Bk.at (Bk.at bk3 0 (.int .i64 m.pc)) 1 (.slice a5 m.regs.length c5)) 2 (.slice a3 m.mem.vals.length c3)) 3 (.slice a4 m.mem.arrs.length c4)) hb
 replace bk9 := Bk.below (Bk.ne (Bk.ne (Bk.ne (Bk.ne bk9 (by omega) _) (by omega) _) (by omega) _) (by omega) _) hb
 replace bk12 := Bk.below (Bk.ne (Bk.ne (Bk.ne (Bk.ne bk12 (by omega) _) (by omega) _) (by omega) _) (by omega) _) hb
 clear hb
 rw [← hnw]
 clear hnw
 replace lt4 := Bk.lz bk2
 replace lt5 := Bk.lz bk3
 replace lt10 := Bk.lz bk9
 replace lt20 := Bk.lz bk12
 refine hK.out _ _ ⟨hc13, hc14, hc15, hc16, hc17, hc18, hc19⟩ (fun hHeld => ?_)
 clear hK K
 try simp only [Act.put, sb, List.set]
 refine wpAnyH_done (by kernel_rfl) ?_ _
 refine NoPanic.normal ?_
 clear hHeld
 clear hdc
 have tC := hC
 have tb := tC.below w.heap.size (Nat.le_refl _) (fun k hk h => by have := ird k h; omega)
 have TB := Lib.hid tb; clear tC tb hC
 have HCC := Lib.hid (DrawC.mono hdm (show w.heap.size ≤ _ by omega))
 have HMM := Lib.hid (DrS.mono hm (show w.heap.size ≤ _ by omega))
 clear hdm hm
 obtain ⟨tc46, tf47⟩ := Bk.cf bk2 0 rfl
 obtain ⟨tc48, tf49⟩ := Bk.cf bk2 1 rfl
 obtain ⟨tc50, tf51⟩ := Bk.cf bk2 2 rfl
 obtain ⟨tc52, tf53⟩ := Bk.cf bk3 0 rfl
 obtain ⟨tc54, tf55⟩ := Bk.cf bk3 1 rfl
 obtain ⟨tc56, tf57⟩ := Bk.cf bk3 2 rfl
 obtain ⟨tc58, tf59⟩ := Bk.cf bk3 3 rfl
 have x60 := tc46
 have x61 := tc48
 have x62 := tc50
 have x63 := tc52
 have x64 := tc54
 have x65 := tc56
 have x66 := tc58
 have tt := True.intro
 go_wp2
 exact bodyPost_ret (v := .tuple #[.agg #[.slice a20 nv2 c20, .slice a21 na2 c21, .slice a22 nl2 c22], .agg #[.int .i64 m.pc, .slice a5 m.regs.length c5, .slice a3 m.mem.vals.length c3, .slice a4 m.mem.arrs.length c4]]) (by simp [results, Try.results61, go_sem, x60, x61, x62, x63, x64, x65, x66]) rfl (by exact by unfold DrawCSP; exact ⟨_, _, _, _, _, _, _, _, _, m, rfl, HCC.out, ⟨by omega, by omega, by omega⟩, HMM.out, TB.out⟩)
theorem DrawSpecPath_any (v : Value) (n : Nat) (vs : List Int) (w : World) (hr : Reads w 1 v n (vs.map (Value.int .u8))) (hv : ∀ x ∈ vs, 0 ≤ x ∧ x < 256) (hn : n ≤ 1048576) :
  Calls Try.prog 17 #[v] w fun r w' => DrawCSP w r w' := by
 go_enter Try.func17, Try.ntmps17
 go_wp2_with fail
 refine (DrawMachineValid_any v n vs _ (hr.below (bal (bal (Bs w) (.cells #[.slice none 0 0, .slice none 0 0, .slice none 0 0] 26)) (.cells #[.int .i64 0, .slice none 0 0, .slice none 0 0, .slice none 0 0] 39))) hv hn).mono ?_
 rintro e w1 ⟨va, vb, vc, vr, vx, vy, nv, na, nl, m, rfl, hdc, hbd, hm, hb⟩
 obtain ⟨a0, c0, a1, c1, a2, c2, rfl, rfl, rfl⟩ := hdc.shape
 obtain ⟨a3, c3, a4, c4, rfl, rfl⟩ := hm.m.reads.shape
 obtain ⟨a5, c5, rfl⟩ := reads_shape hm.r
 simp only [Sa] at hdc hm
 clear hr hv
 have hsz1 := hb.size
 simp only [Sa] at hsz1
 have bk2 : Bk w1 (w.heap.size) [.slice none 0 0, .slice none 0 0, .slice none 0 0] := Bk.below (Bk.al (Bk.nw (by simp) rfl) (.cells #[.int .i64 0, .slice none 0 0, .slice none 0 0, .slice none 0 0] 39)) hb
 have bk3 : Bk w1 (w.heap.size + 1) [.int .i64 0, .slice none 0 0, .slice none 0 0, .slice none 0 0] := Bk.below (Bk.nw (by simp) rfl) hb
 have tot := btr (bal (bal (Bs w) (.cells #[.slice none 0 0, .slice none 0 0, .slice none 0 0] 26)) (.cells #[.int .i64 0, .slice none 0 0, .slice none 0 0, .slice none 0 0] 39)) hb
 clear hb
 have lt4 := Bk.lz bk2
 have lt5 := Bk.lz bk3
 have iv6 := hdc.lt
 try simp only [Sa] at iv6
 have HCC := Lib.hid (DrawC.mono (((((((hdc.keep (C1 (w.heap.size) 0 (.slice a0 nv c0)) (fun gq h h2 => by have := iv6 gq h; omega)).keep (C1 (w.heap.size) 1 (.slice a1 na c1)) (fun gq h h2 => by have := iv6 gq h; omega)).keep (C1 (w.heap.size) 2 (.slice a2 nl c2)) (fun gq h h2 => by have := iv6 gq h; omega)).keep (C1 (w.heap.size + 1) 0 (.int .i64 m.pc)) (fun gq h h2 => by have := iv6 gq h; omega)).keep (C1 (w.heap.size + 1) 1 (.slice a5 m.regs.length c5)) (fun gq h h2 => by have := iv6 gq h; omega)).keep (C1 (w.heap.size + 1) 2 (.slice a3 m.mem.vals.length c3)) (fun gq h h2 => by have := iv6 gq h; omega)).keep (C1 (w.heap.size + 1) 3 (.slice a4 m.mem.arrs.length c4)) (fun gq h h2 => by have := iv6 gq h; omega)) (show w.heap.size ≤ w.heap.size + 1 + 1 by omega))
 have HMM := Lib.hid (DrS.mono (((((((hm.keep (C1 (w.heap.size) 0 (.slice a0 nv c0)) (fun gq h h2 => by have := (fun q (h : w.heap.size + 1 + 1 ≤ q) => h) gq h; omega)).keep (C1 (w.heap.size) 1 (.slice a1 na c1)) (fun gq h h2 => by have := (fun q (h : w.heap.size + 1 + 1 ≤ q) => h) gq h; omega)).keep (C1 (w.heap.size) 2 (.slice a2 nl c2)) (fun gq h h2 => by have := (fun q (h : w.heap.size + 1 + 1 ≤ q) => h) gq h; omega)).keep (C1 (w.heap.size + 1) 0 (.int .i64 m.pc)) (fun gq h h2 => by have := (fun q (h : w.heap.size + 1 + 1 ≤ q) => h) gq h; omega)).keep (C1 (w.heap.size + 1) 1 (.slice a5 m.regs.length c5)) (fun gq h h2 => by have := (fun q (h : w.heap.size + 1 + 1 ≤ q) => h) gq h; omega)).keep (C1 (w.heap.size + 1) 2 (.slice a3 m.mem.vals.length c3)) (fun gq h h2 => by have := (fun q (h : w.heap.size + 1 + 1 ≤ q) => h) gq h; omega)).keep (C1 (w.heap.size + 1) 3 (.slice a4 m.mem.arrs.length c4)) (fun gq h h2 => by have := (fun q (h : w.heap.size + 1 + 1 ≤ q) => h) gq h; omega)) (show w.heap.size ≤ w.heap.size + 1 + 1 by omega))
 clear hm
 clear hdc
 obtain ⟨tc7, tf8⟩ := Bk.cf bk2 0 rfl
 obtain ⟨tc9, tf10⟩ := Bk.cf bk2 1 rfl
 obtain ⟨tc11, tf12⟩ := Bk.cf bk2 2 rfl
 obtain ⟨tc13, tf14⟩ := Bk.cf bk3 0 rfl
 obtain ⟨tc15, tf16⟩ := Bk.cf bk3 1 rfl
 obtain ⟨tc17, tf18⟩ := Bk.cf bk3 2 rfl
 obtain ⟨tc19, tf20⟩ := Bk.cf bk3 3 rfl
 have x21 := (Nc (b := (w.heap.size + 1)) (j := 3) (Nc (b := (w.heap.size + 1)) (j := 2) (Nc (b := (w.heap.size + 1)) (j := 1) (Nc (b := (w.heap.size + 1)) (j := 0) (Nc (b := (w.heap.size)) (j := 2) (Nc (b := (w.heap.size)) (j := 1) (Tc _ (w.heap.size) 0 (.slice a0 nv c0) tc7) (by omega) (.slice a1 na c1)) (by omega) (.slice a2 nl c2)) (by omega) (.int .i64 m.pc)) (by omega) (.slice a5 m.regs.length c5)) (by omega) (.slice a3 m.mem.vals.length c3)) (by omega) (.slice a4 m.mem.arrs.length c4))
 have x22 := (Nc (b := (w.heap.size + 1)) (j := 3) (Nc (b := (w.heap.size + 1)) (j := 2) (Nc (b := (w.heap.size + 1)) (j := 1) (Nc (b := (w.heap.size + 1)) (j := 0) (Nc (b := (w.heap.size)) (j := 2) (Tc _ (w.heap.size) 1 (.slice a1 na c1) (Nc (b := (w.heap.size)) (j := 0) tc9 (by omega) (.slice a0 nv c0))) (by omega) (.slice a2 nl c2)) (by omega) (.int .i64 m.pc)) (by omega) (.slice a5 m.regs.length c5)) (by omega) (.slice a3 m.mem.vals.length c3)) (by omega) (.slice a4 m.mem.arrs.length c4))
 have x23 := (Nc (b := (w.heap.size + 1)) (j := 3) (Nc (b := (w.heap.size + 1)) (j := 2) (Nc (b := (w.heap.size + 1)) (j := 1) (Nc (b := (w.heap.size + 1)) (j := 0) (Tc _ (w.heap.size) 2 (.slice a2 nl c2) (Nc (b := (w.heap.size)) (j := 1) (Nc (b := (w.heap.size)) (j := 0) tc11 (by omega) (.slice a0 nv c0)) (by omega) (.slice a1 na c1))) (by omega) (.int .i64 m.pc)) (by omega) (.slice a5 m.regs.length c5)) (by omega) (.slice a3 m.mem.vals.length c3)) (by omega) (.slice a4 m.mem.arrs.length c4))
 have x24 := (Nc (b := (w.heap.size + 1)) (j := 3) (Nc (b := (w.heap.size + 1)) (j := 2) (Nc (b := (w.heap.size + 1)) (j := 1) (Tc _ (w.heap.size + 1) 0 (.int .i64 m.pc) (Nc (b := (w.heap.size)) (j := 2) (Nc (b := (w.heap.size)) (j := 1) (Nc (b := (w.heap.size)) (j := 0) tc13 (by omega) (.slice a0 nv c0)) (by omega) (.slice a1 na c1)) (by omega) (.slice a2 nl c2))) (by omega) (.slice a5 m.regs.length c5)) (by omega) (.slice a3 m.mem.vals.length c3)) (by omega) (.slice a4 m.mem.arrs.length c4))
 have x25 := (Nc (b := (w.heap.size + 1)) (j := 3) (Nc (b := (w.heap.size + 1)) (j := 2) (Tc _ (w.heap.size + 1) 1 (.slice a5 m.regs.length c5) (Nc (b := (w.heap.size + 1)) (j := 0) (Nc (b := (w.heap.size)) (j := 2) (Nc (b := (w.heap.size)) (j := 1) (Nc (b := (w.heap.size)) (j := 0) tc15 (by omega) (.slice a0 nv c0)) (by omega) (.slice a1 na c1)) (by omega) (.slice a2 nl c2)) (by omega) (.int .i64 m.pc))) (by omega) (.slice a3 m.mem.vals.length c3)) (by omega) (.slice a4 m.mem.arrs.length c4))
 have x26 := (Nc (b := (w.heap.size + 1)) (j := 3) (Tc _ (w.heap.size + 1) 2 (.slice a3 m.mem.vals.length c3) (Nc (b := (w.heap.size + 1)) (j := 1) (Nc (b := (w.heap.size + 1)) (j := 0) (Nc (b := (w.heap.size)) (j := 2) (Nc (b := (w.heap.size)) (j := 1) (Nc (b := (w.heap.size)) (j := 0) tc17 (by omega) (.slice a0 nv c0)) (by omega) (.slice a1 na c1)) (by omega) (.slice a2 nl c2)) (by omega) (.int .i64 m.pc)) (by omega) (.slice a5 m.regs.length c5))) (by omega) (.slice a4 m.mem.arrs.length c4))
 have x27 := (Tc _ (w.heap.size + 1) 3 (.slice a4 m.mem.arrs.length c4) (Nc (b := (w.heap.size + 1)) (j := 2) (Nc (b := (w.heap.size + 1)) (j := 1) (Nc (b := (w.heap.size + 1)) (j := 0) (Nc (b := (w.heap.size)) (j := 2) (Nc (b := (w.heap.size)) (j := 1) (Nc (b := (w.heap.size)) (j := 0) tc19 (by omega) (.slice a0 nv c0)) (by omega) (.slice a1 na c1)) (by omega) (.slice a2 nl c2)) (by omega) (.int .i64 m.pc)) (by omega) (.slice a5 m.regs.length c5)) (by omega) (.slice a3 m.mem.vals.length c3)))
 have tt := (bst (bst (bst (bst (bst (bst (bst tot (w.heap.size) 0 (by omega) (.slice a0 nv c0)) (w.heap.size) 1 (by omega) (.slice a1 na c1)) (w.heap.size) 2 (by omega) (.slice a2 nl c2)) (w.heap.size + 1) 0 (by omega) (.int .i64 m.pc)) (w.heap.size + 1) 1 (by omega) (.slice a5 m.regs.length c5)) (w.heap.size + 1) 2 (by omega) (.slice a3 m.mem.vals.length c3)) (w.heap.size + 1) 3 (by omega) (.slice a4 m.mem.arrs.length c4))
 go_wp2
 exact bodyPost_ret (v := .tuple #[.agg #[.slice a0 nv c0, .slice a1 na c1, .slice a2 nl c2], .agg #[.int .i64 m.pc, .slice a5 m.regs.length c5, .slice a3 m.mem.vals.length c3, .slice a4 m.mem.arrs.length c4]]) (by simp [results, Try.results17, go_sem, x21, x22, x23, x24, x25, x26, x27]) rfl (by exact (by unfold DrawCSP; exact ⟨_, _, _, _, _, _, _, _, _, m, rfl, HCC.out, hbd, HMM.out, tt⟩))
end Go.Proofs.Ytkjedgnepnbkpaa
