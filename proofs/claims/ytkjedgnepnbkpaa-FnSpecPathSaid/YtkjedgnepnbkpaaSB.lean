/-
 Parts of the proofs of the laws FnCheckLive, FnCodeFenced, FnEraseCode, FnEraseSecret, FnFinalRegs, FnLiveRegister, FnLiveRegs, FnSpecPath.
-/
import Derived.Test.YtkjedgnepnbkpaaT
set_option linter.all false
namespace Go.Proofs.Ytkjedgnepnbkpaa
open Go.RowKit
set_option maxHeartbeats 6400000 in
set_option maxRecDepth 100000 in
theorem sMOwn_any (vr vx vy : Value) (s : Ms) (w : World) (hs : ReadsS w vr vx vy s) (h0 : s.regs.length ≤ 1048576) (hl : s.mem.vals.length ≤ 1048576) (hn : s.mem.arrs.length ≤ 1048576) (hp : pre2 s.mem.arrs s.mem.arrs.length ≤ 1048576) :
  Calls Try.prog 65 #[.agg #[.int .i64 s.pc, vr, vx, vy]] w fun e w' => ∃ ur ux uy us, e = .returned (.agg #[.int .i64 s.pc, ur, ux, uy]) ∧ OwnMv w' w.heap.size ur ux uy us s.regs s.mem ∧ Below w.heap.size w w' := by
 obtain ⟨a5, c5, rfl⟩ := reads_shape hs.r
 obtain ⟨a3, c3, a4, c4, rfl, rfl⟩ := hs.m.shape
 have HS := Lib.hid (fun W (hW : Below w.heap.size w W) => hs.below hW)
 have q1 := Lib.hid (fun W (hW : Below w.heap.size w W) => l3Copy_any _ _ s.mem W (HS.out W hW).m.x (HS.out W hW).m.y hl hn hp)
 clear hs
 go_enter Try.func65, Try.ntmps65
 go_upto_region 1 with (fail)
 obtain ⟨w1, t0, hb⟩ := nmw (World.alloc (World.alloc w (.cells #[.int .i64 s.pc, .slice a5 s.regs.length c5, .slice a3 s.mem.vals.length c3, .slice a4 s.mem.arrs.length c4] 39)) (.cells #[.int .i64 0, .slice none 0 0, .slice none 0 0, .slice none 0 0] 39))
 have w0 := hb.size
 simp only [Sa] at w0
 have m0 : Bk w1 (w.heap.size) [.int .i64 s.pc, .slice a5 s.regs.length c5, .slice a3 s.mem.vals.length c3, .slice a4 s.mem.arrs.length c4] := Bk.below (Bk.al (Bk.nw (by simp) rfl) (.cells #[.int .i64 0, .slice none 0 0, .slice none 0 0, .slice none 0 0] 39)) hb
 have j0 : Bk w1 (w.heap.size + 1) [.int .i64 0, .slice none 0 0, .slice none 0 0, .slice none 0 0] := Bk.below (Bk.nw (by simp) rfl) hb
 have n0 := btr (bal (bal (Bs w) (.cells #[.int .i64 s.pc, .slice a5 s.regs.length c5, .slice a3 s.mem.vals.length c3, .slice a4 s.mem.arrs.length c4] 39)) (.cells #[.int .i64 0, .slice none 0 0, .slice none 0 0, .slice none 0 0] 39)) hb
 clear hb
 rw [← t0]
 clear t0
 have o1 := Bk.lz m0
 have p1 := Bk.lz j0
 obtain ⟨d0, q0, e0, r0, a0, f0, b0, g0⟩ := Bk.f4 m0 0 1 2 3 rfl rfl rfl rfl
 refine wp_region_noPanic ?_
 refine wp_region_held_drew (S := (fun W' => W'.cell? ⟨w.heap.size, 0, none⟩ = some (.int .i64 s.pc) ∧ W'.cell? ⟨w.heap.size, 1, none⟩ = some (.slice a5 s.regs.length c5) ∧ W'.cell? ⟨w.heap.size, 2, none⟩ = some (.slice a3 s.mem.vals.length c3) ∧ W'.cell? ⟨w.heap.size, 3, none⟩ = some (.slice a4 s.mem.arrs.length c4))) (by kernel_rfl) ⟨Kc (Below.drew (Bs w1)) d0, Kc (Below.drew (Bs w1)) e0, Kc (Below.drew (Bs w1)) a0, Kc (Below.drew (Bs w1)) b0⟩ (fun hHeld => ?_)
 obtain ⟨w2, x0⟩ : ∃ X, X = World.drew w1 := ⟨_, rfl⟩
 rw [← x0] at hHeld ⊢
 have hb : Below w1.heap.size w1 w2 := by rw [x0]; exact Below.drew (Bs _)
 clear x0
 have l1 := hb.size
 replace q0 := Kf hb (Lc d0) q0
 replace r0 := Kf hb (Lc e0) r0
 replace f0 := Kf hb (Lc a0) f0
 replace g0 := Kf hb (Lc b0) g0
 replace d0 := Kc hb d0
 replace e0 := Kc hb e0
 replace a0 := Kc hb a0
 replace b0 := Kc hb b0
 replace m0 := Bk.below m0 hb
 replace j0 := Bk.below j0 hb
 replace n0 := btr n0 hb
 clear hb
 replace o1 := Bk.lz m0
 replace p1 := Bk.lz j0
 refine (tq 0 3 rfl rfl ?_ ?_ (tq 1 4 rfl rfl ?_ ?_ (tq 3 6 rfl rfl ?_ ?_ (tq 4 7 rfl rfl ?_ ?_ (tq 6 9 rfl rfl ?_ ?_ (tq 7 10 rfl rfl ?_ ?_ ?_))))))
 iterate 6 (rotate_left; intro W' hSw; (try dsimp only at hSw); go_simp; try with_reducible rfl)
 try simp only [Ep]
 refine Rdy 2 rfl (fun K hK => ?_)
 go_simp
 obtain ⟨w3, t0, hb⟩ := nmw (World.alloc w2 (.cells #[] 3))
 have s0 := Ob (World.ownsRow_lit (base := (w2).heap.size) (e := 3) (size := 1) (w2) #[] 0 (Nat.le_refl _) (by unfold maxLen; omega) (by simp)) hb
 try simp only [Sa, Ss] at s0
 have u0 := hb.size
 simp only [Sa] at u0
 replace q0 := Kf hb (Lc (Ac d0 _)) (Fa (Lc d0) q0 _)
 replace r0 := Kf hb (Lc (Ac e0 _)) (Fa (Lc e0) r0 _)
 replace f0 := Kf hb (Lc (Ac a0 _)) (Fa (Lc a0) f0 _)
 replace g0 := Kf hb (Lc (Ac b0 _)) (Fa (Lc b0) g0 _)
 replace d0 := Kc hb (Ac d0 _)
 replace e0 := Kc hb (Ac e0 _)
 replace a0 := Kc hb (Ac a0 _)
 replace b0 := Kc hb (Ac b0 _)
 replace m0 := Bk.below (Bk.al m0 _) hb
 replace j0 := Bk.below (Bk.al j0 _) hb
 replace n0 := btr (bal n0 _) hb
 clear hb
 have c0 := s0.lt
 try simp only [Sa] at c0
 rw [← t0]
 clear t0
 replace o1 := Bk.lz m0
 replace p1 := Bk.lz j0
 refine hK.out _ _ ⟨d0, e0, a0, b0⟩ (fun hHeld => ?_)
 clear hK K
 try simp only [Ep]
 refine Rdy 5 rfl (fun K hK => ?_)
 refine step_aps tInts rfl _ _ rfl (w2.heap.size) _ 0 ([]) rfl s0 _ s.regs.length (ints s.regs) rfl ((HS.out _ n0).r) (one_ints s.regs) (by omega) (by first | omega | (simp only [Sa, Ss]; omega)) ?_
 intro vA w4 i0 hc r1 _
 try simp only [Nat.zero_add, List.nil_append] at i0
 obtain ⟨k0, l0, rfl⟩ := Oh i0
 have m1 := hc.size
 replace q0 := Gf hc (Lc d0) q0 (fun h => by have := c0 _ h; omega)
 replace r0 := Gf hc (Lc e0) r0 (fun h => by have := c0 _ h; omega)
 replace f0 := Gf hc (Lc a0) f0 (fun h => by have := c0 _ h; omega)
 replace g0 := Gf hc (Lc b0) g0 (fun h => by have := c0 _ h; omega)
 replace d0 := Gc hc d0 (fun h => by have := c0 _ h; omega)
 replace e0 := Gc hc e0 (fun h => by have := c0 _ h; omega)
 replace a0 := Gc hc a0 (fun h => by have := c0 _ h; omega)
 replace b0 := Gc hc b0 (fun h => by have := c0 _ h; omega)
 replace m0 := Bk.keep m0 hc (fun h => by have := c0 _ h; omega)
 replace j0 := Bk.keep j0 hc (fun h => by have := c0 _ h; omega)
 replace n0 := n0.trans (hc.below w.heap.size (by have := n0.size; omega) (fun gq hgq h => by have := c0 gq h; omega))
 clear hc
 have o0 := i0.lt
 clear r1 s0
 refine hK.out _ _ ⟨d0, e0, a0, b0⟩ (fun hHeld => ?_)
 clear hK K
 try simp only [Ep]
 refine Rdy 8 rfl (fun K hK => ?_)
 go_simp
 refine (q1.out _ n0).mono ?_
 rintro e w5 ⟨ux, uy, us, rfl, ox, oy, k1, hb⟩
 obtain ⟨px, tx, rfl⟩ := Oh ox
 obtain ⟨py, ty, rfl⟩ := Oh oy.out
 have oM : OwnM w5 _ _ _ _ s.mem := ⟨ox, oy, k1⟩
 clear ox oy k1
 have n1 := hb.size
 replace q0 := Kf hb (Lc d0) q0
 replace r0 := Kf hb (Lc e0) r0
 replace f0 := Kf hb (Lc a0) f0
 replace g0 := Kf hb (Lc b0) g0
 replace d0 := Kc hb d0
 replace e0 := Kc hb e0
 replace a0 := Kc hb a0
 replace b0 := Kc hb b0
 replace i0 := Ob i0 hb
 replace m0 := Bk.below m0 hb
 replace j0 := Bk.below j0 hb
 replace n0 := btr n0 hb
 clear hb
 have p0 := oM.lt
 refine hK.out _ _ ⟨d0, e0, a0, b0⟩ (fun hHeld => ?_)
 clear hK K
 try simp only [Ep]
 refine (tq 9 12 rfl rfl (.agg #[.int .i64 s.pc, .slice k0 s.regs.length l0, .slice px s.mem.vals.length tx, .slice py s.mem.arrs.length ty]) (fun W' _ => by kernel_rfl) ?_)
 try simp only [Ep]
 refine Rdy 10 rfl (fun K hK => ?_)
 obtain ⟨y0, g1, z0, h1, a1, i1, b1, j1⟩ := Bk.f4 j0 0 1 2 3 rfl rfl rfl rfl
 go_simp
 obtain ⟨w6, t0, hb⟩ := nmw (World.setCell (World.setCell (World.setCell (World.setCell w5 ⟨w.heap.size + 1, 0, none⟩ (.int .i64 s.pc)) ⟨w.heap.size + 1, 1, none⟩ (.slice k0 s.regs.length l0)) ⟨w.heap.size + 1, 2, none⟩ (.slice px s.mem.vals.length tx)) ⟨w.heap.size + 1, 3, none⟩ (.slice py s.mem.arrs.length ty))
 have v0 := hb.size
 simp only [Ss] at v0
 clear g1 y0 h1 z0 i1 a1 j1 b1
 replace q0 := Kf hb (Lc (Nc (Nc (Nc (Nc d0 (by omega) _) (by omega) _) (by omega) _) (by omega) _)) (Fs (Fs (Fs (Fs q0 _) _) _) _)
 replace r0 := Kf hb (Lc (Nc (Nc (Nc (Nc e0 (by omega) _) (by omega) _) (by omega) _) (by omega) _)) (Fs (Fs (Fs (Fs r0 _) _) _) _)
 replace f0 := Kf hb (Lc (Nc (Nc (Nc (Nc a0 (by omega) _) (by omega) _) (by omega) _) (by omega) _)) (Fs (Fs (Fs (Fs f0 _) _) _) _)
 replace g0 := Kf hb (Lc (Nc (Nc (Nc (Nc b0 (by omega) _) (by omega) _) (by omega) _) (by omega) _)) (Fs (Fs (Fs (Fs g0 _) _) _) _)
 replace d0 := Kc hb (Nc (Nc (Nc (Nc d0 (by omega) _) (by omega) _) (by omega) _) (by omega) _)
 replace e0 := Kc hb (Nc (Nc (Nc (Nc e0 (by omega) _) (by omega) _) (by omega) _) (by omega) _)
 replace a0 := Kc hb (Nc (Nc (Nc (Nc a0 (by omega) _) (by omega) _) (by omega) _) (by omega) _)
 replace b0 := Kc hb (Nc (Nc (Nc (Nc b0 (by omega) _) (by omega) _) (by omega) _) (by omega) _)
 replace i0 := Ob (Oe (Oe (Oe (Oe i0 _ _ (fun h => by have := o0 _ h; omega) _) _ _ (fun h => by have := o0 _ h; omega) _) _ _ (fun h => by have := o0 _ h; omega) _) _ _ (fun h => by have := o0 _ h; omega) _) hb
 replace oM := ((((oM.keep (C1 _ _ _) (fun gq h h2 => by have := p0 gq h; omega)).keep (C1 _ _ _) (fun gq h h2 => by have := p0 gq h; omega)).keep (C1 _ _ _) (fun gq h h2 => by have := p0 gq h; omega)).keep (C1 _ _ _) (fun gq h h2 => by have := p0 gq h; omega)).below hb
 replace m0 := Bk.below (Bk.ne (Bk.ne (Bk.ne (Bk.ne m0 (by omega) _) (by omega) _) (by omega) _) (by omega) _) hb
 replace j0 : Bk w6 (w.heap.size + 1) [.int .i64 s.pc, .slice k0 s.regs.length l0, .slice px s.mem.vals.length tx, .slice py s.mem.arrs.length ty] := Bk.below (Bk.at (Bk.at (Bk.at (Bk.at j0 0 (.int .i64 s.pc)) 1 (.slice k0 s.regs.length l0)) 2 (.slice px s.mem.vals.length tx)) 3 (.slice py s.mem.arrs.length ty)) hb
 replace n0 := btr (bst (bst (bst (bst n0 (w.heap.size + 1) 0 (by omega) (.int .i64 s.pc)) (w.heap.size + 1) 1 (by omega) (.slice k0 s.regs.length l0)) (w.heap.size + 1) 2 (by omega) (.slice px s.mem.vals.length tx)) (w.heap.size + 1) 3 (by omega) (.slice py s.mem.arrs.length ty)) hb
 clear hb
 rw [← t0]
 clear t0
 refine hK.out _ _ ⟨d0, e0, a0, b0⟩ (fun hHeld => ?_)
 clear hK K
 try simp only [Ep]
 refine wpAnyH_done (by kernel_rfl) ?_ _
 refine NoPanic.normal ?_
 clear hHeld
 have OM : OwnMv w6 w.heap.size (.slice k0 s.regs.length l0) (.slice px s.mem.vals.length tx) (.slice py s.mem.arrs.length ty) us s.regs s.mem := ⟨Om i0 (by omega), Om oM.x (by omega), oM.y.mono (by omega), fun q h h2 => by have := o0 q h; have := p0 q (Or.inl h2); omega, fun q h h2 => by have := o0 q h; have := p0 q (Or.inr h2); omega, oM.ap⟩
 obtain ⟨c1, s1, d1, t1, e1, u1, f1, v1⟩ := Bk.f4 j0 0 1 2 3 rfl rfl rfl rfl
 have x1 := c1
 have y1 := d1
 have z1 := e1
 have a2 := f1
 have tt := n0
 go_wp2
 exact bodyPost_ret (v := .agg #[.int .i64 s.pc, .slice k0 s.regs.length l0, .slice px s.mem.vals.length tx, .slice py s.mem.arrs.length ty]) (by simp [results, Try.results65, go_sem, x1, y1, z1, a2]) rfl (by exact ⟨_, _, _, us, rfl, OM, tt⟩)
end Go.Proofs.Ytkjedgnepnbkpaa
