/-
 Parts of the proofs of the laws FnCheckLive, FnCodeFenced, FnEraseCode, FnEraseSecret, FnFinalRegs, FnLiveRegister, FnLiveRegs, FnSpecPath.
-/
import Derived.Test.YtkjedgnepnbkpaaZC
set_option linter.all false
namespace Go.Proofs.Ytkjedgnepnbkpaa
open Go.RowKit
set_option maxHeartbeats 6400000 in
set_option maxRecDepth 100000 in
theorem DrawMachineValid_any (v : Value) (n : Nat) (vs : List Int) (w : World) (hr : Reads w 1 v n (vs.map (Value.int .u8))) (hv : ∀ x ∈ vs, 0 ≤ x ∧ x < 256) (hn : n ≤ 1048576) :
  Calls Try.prog 61 #[v] w fun r w' => DrawCSP w r w' := by
 go_enter Try.func61, Try.ntmps61
 go_wp2_with fail
 refine (l17Open_any v n vs _ (hr.below (bal (bal (Bs w) (.cells #[.slice none 0 0, .slice none 0 0, .slice none 0 0] 26)) (.cells #[.int .i64 0, .slice none 0 0, .slice none 0 0, .slice none 0 0] 39))) hv hn).mono ?_
 rintro e w1 ⟨g, rfl, hR, hb⟩
 try simp only [Sa] at hR
 have n1 := hb.size
 simp only [Sa] at n1
 have i0 : Bk w1 (w.heap.size) [.slice none 0 0, .slice none 0 0, .slice none 0 0] := Bk.below (Bk.al (Bk.nw (by simp) rfl) (.cells #[.int .i64 0, .slice none 0 0, .slice none 0 0, .slice none 0 0] 39)) hb
 have j0 : Bk w1 (w.heap.size + 1) [.int .i64 0, .slice none 0 0, .slice none 0 0, .slice none 0 0] := Bk.below (Bk.nw (by simp) rfl) hb
 have g3 := btr (bal (bal (Bs w) (.cells #[.slice none 0 0, .slice none 0 0, .slice none 0 0] 26)) (.cells #[.int .i64 0, .slice none 0 0, .slice none 0 0, .slice none 0 0] 39)) hb
 clear hb
 have u1 := Bk.lz i0
 have v1 := Bk.lz j0
 obtain ⟨B, hB⟩ : ∃ B, w.heap.size + 1 + 1 = B := ⟨_, rfl⟩; rw [hB] at hR; have m4 : w.heap.size + 1 + 1 ≤ B := (by omega); clear hB hr hv
 have hg := hR.lt
 have hC : Chg (fun k => k = g) w w1 := Chg.of_below g3
 have j1 : ∀ q, (fun k => k = g) q → q = g := fun q h => h
 clear g3
 have d4 : w.heap.size ≤ g := by omega
 go_wp2_with fail
 refine (l6Code_any B g (0) _ hR (by omega)).mono ?_
 rintro e w2 ⟨va, vb, vl, t0, r0, s0, q1, rfl, k0, k4, z3, e4, p0, i4, hc⟩
 try simp only [Sa, Ss] at k0
 obtain ⟨u0, x0, v0, y0, w0, z0, rfl, rfl, rfl⟩ := k0.shape
 replace hC := (hC).trans hc
 replace hR := p0; clear p0
 have j3 := hc.size
 replace i0 := Bk.kg i0 hc
 replace j0 := Bk.kg j0 hc
 clear hc
 have o0 := k0.lt
 replace u1 := Bk.lz i0
 replace v1 := Bk.lz j0
 go_wp2_with fail
 refine (l6State_any u0 v0 w0 t0 x0 r0 y0 s0 z0 B g (q1) _ (hR.below (bal (Bs _) (.cells #[.slice u0 t0 x0, .slice v0 r0 y0, .slice w0 s0 z0] 26))) (by omega) (by omega) (by omega) (by omega)).mono ?_
 rintro e w3 ⟨ur, ux, uy, m, p1, rfl, hm, p0, h4, hc⟩
 try simp only [Sa, Ss] at hm
 obtain ⟨a3, c3, a4, c4, rfl, rfl⟩ := hm.m.reads.shape
 obtain ⟨a5, c5, rfl⟩ := reads_shape hm.r
 replace hC := ((hC.trans (Chg.of_below (bal (Bs _) _)))).trans hc
 replace hR := p0; clear p0
 have o1 := hc.size
 simp only [Sa] at o1
 replace k0 := (k0.below (bal (Bs _) _)).keep hc (fun gq h h2 => by have := o0 gq h; have := j1 gq h2; omega)
 replace i0 := Bk.kg (Bk.al i0 _) hc
 replace j0 := Bk.kg (Bk.al j0 _) hc
 have l0 : Bk w3 (w2.heap.size) [.slice u0 t0 x0, .slice v0 r0 y0, .slice w0 s0 z0] := Bk.kg (Bk.nw (by simp) rfl) hc
 clear hc
 replace u1 := Bk.lz i0
 replace v1 := Bk.lz j0
 have s1 := Bk.lz l0
 go_upto_region 4 with (fail)
 obtain ⟨w4, q0, hb⟩ := nmw (World.alloc w3 (.cells #[.int .i64 m.pc, .slice a5 m.regs.length c5, .slice a3 m.mem.vals.length c3, .slice a4 m.mem.arrs.length c4] 39))
 replace hC := ((hC.trans (Chg.of_below (bal (Bs _) _)))).trans (Chg.of_below hb)
 replace hR := (hR.below (bal (Bs _) _)).below hb
 have a1 := hb.size
 simp only [Sa] at a1
 replace k0 := (k0.below (bal (Bs _) _)).below hb
 replace hm := (hm.below (bal (Bs _) _)).below hb
 replace i0 := Bk.below (Bk.al i0 _) hb
 replace j0 := Bk.below (Bk.al j0 _) hb
 replace l0 := Bk.below (Bk.al l0 _) hb
 have a0 : Bk w4 (w3.heap.size) [.int .i64 m.pc, .slice a5 m.regs.length c5, .slice a3 m.mem.vals.length c3, .slice a4 m.mem.arrs.length c4] := Bk.below (Bk.nw (by simp) rfl) hb
 clear hb
 rw [← q0]
 clear q0
 have b0 := Bk.cell l0 0 (v := .slice u0 t0 x0) rfl
 have c0 := Bk.cell l0 1 (v := .slice v0 r0 y0) rfl
 have d0 := Bk.cell l0 2 (v := .slice w0 s0 z0) rfl
 have e0 := Bk.cell a0 0 (v := .int .i64 m.pc) rfl
 have f0 := Bk.cell a0 1 (v := .slice a5 m.regs.length c5) rfl
 have g0 := Bk.cell a0 2 (v := .slice a3 m.mem.vals.length c3) rfl
 have h0 := Bk.cell a0 3 (v := .slice a4 m.mem.arrs.length c4) rfl
 have t1 := Bk.lz a0
 refine wp_region_noPanic ?_
 refine wp_region_held_drew (S := (fun W' => W'.cell? ⟨w2.heap.size, 0, none⟩ = some (.slice u0 t0 x0) ∧ W'.cell? ⟨w2.heap.size, 1, none⟩ = some (.slice v0 r0 y0) ∧ W'.cell? ⟨w2.heap.size, 2, none⟩ = some (.slice w0 s0 z0) ∧ W'.cell? ⟨w3.heap.size, 0, none⟩ = some (.int .i64 m.pc) ∧ W'.cell? ⟨w3.heap.size, 1, none⟩ = some (.slice a5 m.regs.length c5) ∧ W'.cell? ⟨w3.heap.size, 2, none⟩ = some (.slice a3 m.mem.vals.length c3) ∧ W'.cell? ⟨w3.heap.size, 3, none⟩ = some (.slice a4 m.mem.arrs.length c4))) (by kernel_rfl) ⟨Kc (Below.drew (Bs w4)) b0, Kc (Below.drew (Bs w4)) c0, Kc (Below.drew (Bs w4)) d0, Kc (Below.drew (Bs w4)) e0, Kc (Below.drew (Bs w4)) f0, Kc (Below.drew (Bs w4)) g0, Kc (Below.drew (Bs w4)) h0⟩ (fun hHeld => ?_)
 obtain ⟨w5, r1⟩ : ∃ X, X = World.drew w4 := ⟨_, rfl⟩
 rw [← r1] at hHeld ⊢
 have hb : Below w4.heap.size w4 w5 := by rw [r1]; exact Below.drew (Bs _)
 clear r1
 replace hC := (hC).trans (Chg.of_below hb)
 replace hR := hR.below hb
 have d3 := hb.size
 replace k0 := k0.below hb
 replace hm := hm.below hb
 replace b0 := Kc hb b0
 replace c0 := Kc hb c0
 replace d0 := Kc hb d0
 replace e0 := Kc hb e0
 replace f0 := Kc hb f0
 replace g0 := Kc hb g0
 replace h0 := Kc hb h0
 replace i0 := Bk.below i0 hb
 replace j0 := Bk.below j0 hb
 replace l0 := Bk.below l0 hb
 replace a0 := Bk.below a0 hb
 clear hb
 replace u1 := Bk.lz i0
 replace v1 := Bk.lz j0
 replace s1 := Bk.lz l0
 replace t1 := Bk.lz a0
 refine (tq 0 14 rfl rfl ?_ ?_ (tq 1 15 rfl rfl ?_ ?_ (tq 3 17 rfl rfl ?_ ?_ ?_)))
 iterate 3 (rotate_left; intro W' hSw; (try dsimp only at hSw); go_simp; try with_reducible rfl)
 try simp only [Ep]
 refine Rdy 2 rfl (fun K hK => ?_)
 go_simp
 refine (l6Mutate_of _ _ _ t0 r0 s0 _ B g (p1) _ k0 (by omega) (by omega) (by omega) (by omega) hR (by omega)).mono ?_
 rintro e w6 ⟨n4, o4, p4, m1, k1, l1, q2, rfl, n0, l4, b4, g4, p0, j4, hc⟩
 try simp only [Sa, Ss] at n0
 obtain ⟨d1, g1, e1, h1, f1, i1, rfl, rfl, rfl⟩ := n0.shape
 replace hC := (hC).trans hc
 replace hR := p0; clear p0
 have e3 := hc.size
 replace k0 := k0.keep hc (fun gq h h2 => by have := o0 gq h; have := j1 gq h2; omega)
 replace hm := hm.keep hc (fun gq h h2 => by have := (fun q (h : w2.heap.size + 1 ≤ q) => h) gq h; have := j1 gq h2; omega)
 replace b0 := Gg hc b0
 replace c0 := Gg hc c0
 replace d0 := Gg hc d0
 replace e0 := Gg hc e0
 replace f0 := Gg hc f0
 replace g0 := Gg hc g0
 replace h0 := Gg hc h0
 replace i0 := Bk.kg i0 hc
 replace j0 := Bk.kg j0 hc
 replace l0 := Bk.kg l0 hc
 replace a0 := Bk.kg a0 hc
 clear hc
 have m0 := n0.lt
 clear hR
 refine hK.out _ _ ⟨b0, c0, d0, e0, f0, g0, h0⟩ (fun hHeld => ?_)
 clear hK K
 try simp only [Ep]
 refine Rdy 4 rfl (fun K hK => ?_)
 obtain ⟨x1, p2, y1, r2, z1, s2⟩ := Bk.f3 i0 0 1 2 rfl rfl rfl
 go_simp
 obtain ⟨w7, q0, hb⟩ := nmw (World.setCell (World.setCell (World.setCell w6 ⟨w.heap.size, 0, none⟩ (.slice d1 m1 g1)) ⟨w.heap.size, 1, none⟩ (.slice e1 k1 h1)) ⟨w.heap.size, 2, none⟩ (.slice f1 l1 i1))
 replace hC := ((((hC.setNew _ _ _ (Or.inr (by omega))).setNew _ _ _ (Or.inr (by omega))).setNew _ _ _ (Or.inr (by omega)))).trans (Chg.of_below hb)
 have b1 := hb.size
 simp only [Ss] at b1
 clear p2 x1 r2 y1 s2 z1
 replace k0 := (((k0.keep (C1 _ _ _) (fun gq h h2 => by have := o0 gq h; omega)).keep (C1 _ _ _) (fun gq h h2 => by have := o0 gq h; omega)).keep (C1 _ _ _) (fun gq h h2 => by have := o0 gq h; omega)).below hb
 replace hm := (((hm.keep (C1 _ _ _) (fun gq h h2 => by have := (fun q (h : w2.heap.size + 1 ≤ q) => h) gq h; omega)).keep (C1 _ _ _) (fun gq h h2 => by have := (fun q (h : w2.heap.size + 1 ≤ q) => h) gq h; omega)).keep (C1 _ _ _) (fun gq h h2 => by have := (fun q (h : w2.heap.size + 1 ≤ q) => h) gq h; omega)).below hb
 replace b0 := Kc hb (Nc (Nc (Nc b0 (by omega) _) (by omega) _) (by omega) _)
 replace c0 := Kc hb (Nc (Nc (Nc c0 (by omega) _) (by omega) _) (by omega) _)
 replace d0 := Kc hb (Nc (Nc (Nc d0 (by omega) _) (by omega) _) (by omega) _)
 replace e0 := Kc hb (Nc (Nc (Nc e0 (by omega) _) (by omega) _) (by omega) _)
 replace f0 := Kc hb (Nc (Nc (Nc f0 (by omega) _) (by omega) _) (by omega) _)
 replace g0 := Kc hb (Nc (Nc (Nc g0 (by omega) _) (by omega) _) (by omega) _)
 replace h0 := Kc hb (Nc (Nc (Nc h0 (by omega) _) (by omega) _) (by omega) _)
 replace n0 := (((n0.keep (C1 _ _ _) (fun gq h h2 => by have := m0 gq h; omega)).keep (C1 _ _ _) (fun gq h h2 => by have := m0 gq h; omega)).keep (C1 _ _ _) (fun gq h h2 => by have := m0 gq h; omega)).below hb
 replace i0 : Bk w7 (w.heap.size) [.slice d1 m1 g1, .slice e1 k1 h1, .slice f1 l1 i1] := Bk.below (Bk.at (Bk.at (Bk.at i0 0 (.slice d1 m1 g1)) 1 (.slice e1 k1 h1)) 2 (.slice f1 l1 i1)) hb
 replace j0 := Bk.below (Bk.ne (Bk.ne (Bk.ne j0 (by omega) _) (by omega) _) (by omega) _) hb
 replace l0 := Bk.below (Bk.ne (Bk.ne (Bk.ne l0 (by omega) _) (by omega) _) (by omega) _) hb
 replace a0 := Bk.below (Bk.ne (Bk.ne (Bk.ne a0 (by omega) _) (by omega) _) (by omega) _) hb
 clear hb
 rw [← q0]
 clear q0
 refine hK.out _ _ ⟨b0, c0, d0, e0, f0, g0, h0⟩ (fun hHeld => ?_)
 clear hK K
 try simp only [Ep]
 refine Rdy 5 rfl (fun K hK => ?_)
 obtain ⟨a2, t2, b2, u2, c2, v2⟩ := Bk.f3 i0 0 1 2 rfl rfl rfl
 obtain ⟨d2, x2, e2, y2, f2, z2, g2, b3⟩ := Bk.f4 j0 0 1 2 3 rfl rfl rfl rfl
 go_simp
 obtain ⟨w8, q0, hb⟩ := nmw (World.setCell (World.setCell (World.setCell (World.setCell w7 ⟨w.heap.size + 1, 0, none⟩ (.int .i64 m.pc)) ⟨w.heap.size + 1, 1, none⟩ (.slice a5 m.regs.length c5)) ⟨w.heap.size + 1, 2, none⟩ (.slice a3 m.mem.vals.length c3)) ⟨w.heap.size + 1, 3, none⟩ (.slice a4 m.mem.arrs.length c4))
 replace hC := (((((hC.setNew _ _ _ (Or.inr (by omega))).setNew _ _ _ (Or.inr (by omega))).setNew _ _ _ (Or.inr (by omega))).setNew _ _ _ (Or.inr (by omega)))).trans (Chg.of_below hb)
 have c1 := hb.size
 simp only [Ss] at c1
 clear t2 a2 u2 b2 v2 c2 x2 d2 y2 e2 z2 f2 b3 g2
 replace k0 := ((((k0.keep (C1 _ _ _) (fun gq h h2 => by have := o0 gq h; omega)).keep (C1 _ _ _) (fun gq h h2 => by have := o0 gq h; omega)).keep (C1 _ _ _) (fun gq h h2 => by have := o0 gq h; omega)).keep (C1 _ _ _) (fun gq h h2 => by have := o0 gq h; omega)).below hb
 replace hm := ((((hm.keep (C1 _ _ _) (fun gq h h2 => by have := (fun q (h : w2.heap.size + 1 ≤ q) => h) gq h; omega)).keep (C1 _ _ _) (fun gq h h2 => by have := (fun q (h : w2.heap.size + 1 ≤ q) => h) gq h; omega)).keep (C1 _ _ _) (fun gq h h2 => by have := (fun q (h : w2.heap.size + 1 ≤ q) => h) gq h; omega)).keep (C1 _ _ _) (fun gq h h2 => by have := (fun q (h : w2.heap.size + 1 ≤ q) => h) gq h; omega)).below hb
 replace b0 := Kc hb (Nc (Nc (Nc (Nc b0 (by omega) _) (by omega) _) (by omega) _) (by omega) _)
 replace c0 := Kc hb (Nc (Nc (Nc (Nc c0 (by omega) _) (by omega) _) (by omega) _) (by omega) _)
 replace d0 := Kc hb (Nc (Nc (Nc (Nc d0 (by omega) _) (by omega) _) (by omega) _) (by omega) _)
 replace e0 := Kc hb (Nc (Nc (Nc (Nc e0 (by omega) _) (by omega) _) (by omega) _) (by omega) _)
 replace f0 := Kc hb (Nc (Nc (Nc (Nc f0 (by omega) _) (by omega) _) (by omega) _) (by omega) _)
 replace g0 := Kc hb (Nc (Nc (Nc (Nc g0 (by omega) _) (by omega) _) (by omega) _) (by omega) _)
 replace h0 := Kc hb (Nc (Nc (Nc (Nc h0 (by omega) _) (by omega) _) (by omega) _) (by omega) _)
 replace n0 := ((((n0.keep (C1 _ _ _) (fun gq h h2 => by have := m0 gq h; omega)).keep (C1 _ _ _) (fun gq h h2 => by have := m0 gq h; omega)).keep (C1 _ _ _) (fun gq h h2 => by have := m0 gq h; omega)).keep (C1 _ _ _) (fun gq h h2 => by have := m0 gq h; omega)).below hb
 replace i0 := Bk.below (Bk.ne (Bk.ne (Bk.ne (Bk.ne i0 (by omega) _) (by omega) _) (by omega) _) (by omega) _) hb
 replace j0 : Bk w8 (w.heap.size + 1) [.int .i64 m.pc, .slice a5 m.regs.length c5, .slice a3 m.mem.vals.length c3, .slice a4 m.mem.arrs.length c4] := Bk.below (Bk.at (Bk.at (Bk.at (Bk.at j0 0 (.int .i64 m.pc)) 1 (.slice a5 m.regs.length c5)) 2 (.slice a3 m.mem.vals.length c3)) 3 (.slice a4 m.mem.arrs.length c4)) hb
 replace l0 := Bk.below (Bk.ne (Bk.ne (Bk.ne (Bk.ne l0 (by omega) _) (by omega) _) (by omega) _) (by omega) _) hb
 replace a0 := Bk.below (Bk.ne (Bk.ne (Bk.ne (Bk.ne a0 (by omega) _) (by omega) _) (by omega) _) (by omega) _) hb
 clear hb
 rw [← q0]
 clear q0
 refine hK.out _ _ ⟨b0, c0, d0, e0, f0, g0, h0⟩ (fun hHeld => ?_)
 clear hK K
 try simp only [Ep]
 refine wpAnyH_done (by kernel_rfl) ?_ _
 refine NoPanic.normal ?_
 clear hHeld
 clear k0
 have tC := hC
 have tb := tC.below w.heap.size (Nat.le_refl _) (fun k hk h => by have := j1 k h; omega)
 have TB := Lib.hid tb; clear tC tb hC
 have h3 := Lib.hid (DrawC.mono n0 (show w.heap.size ≤ _ by omega))
 have i3 := Lib.hid (DrS.mono hm (show w.heap.size ≤ _ by omega))
 clear n0 hm
 obtain ⟨i2, k3, j2, l3, k2, m3⟩ := Bk.f3 i0 0 1 2 rfl rfl rfl
 obtain ⟨l2, n3, m2, o3, n2, p3, o2, q3⟩ := Bk.f4 j0 0 1 2 3 rfl rfl rfl rfl
 have r3 := i2
 have s3 := j2
 have t3 := k2
 have u3 := l2
 have v3 := m2
 have x3 := n2
 have y3 := o2
 have tt := True.intro
 go_wp2
 exact bodyPost_ret (v := .tuple #[.agg #[.slice d1 m1 g1, .slice e1 k1 h1, .slice f1 l1 i1], .agg #[.int .i64 m.pc, .slice a5 m.regs.length c5, .slice a3 m.mem.vals.length c3, .slice a4 m.mem.arrs.length c4]]) (by simp [results, Try.results61, go_sem, r3, s3, t3, u3, v3, x3, y3]) rfl (by exact by unfold DrawCSP; exact ⟨_, _, _, _, _, _, _, _, _, m, rfl, h3.out, ⟨by omega, by omega, by omega⟩, i3.out, TB.out⟩)
end Go.Proofs.Ytkjedgnepnbkpaa
