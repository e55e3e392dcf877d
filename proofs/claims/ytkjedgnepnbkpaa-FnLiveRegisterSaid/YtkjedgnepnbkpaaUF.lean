/-
 Parts of the proofs of the laws FnCheckLive, FnCodeFenced, FnEraseCode, FnEraseSecret, FnFinalRegs, FnLiveRegister, FnLiveRegs, FnSpecPath.
-/
import Derived.Test.YtkjedgnepnbkpaaZS
import Derived.Test.YtkjedgnepnbkpaaWDq1
set_option linter.all false
namespace Go.Proofs.Ytkjedgnepnbkpaa
open Go.RowKit
set_option maxHeartbeats 12800000 in
set_option maxRecDepth 100000 in
theorem FnLiveRegister_walk (v : Value) (n : Nat) (vs : List Int) (v1 : Value) (n1 : Nat) (vs1 : List Value) (w : World) (r0 : Reads w 1 v n (vs.map (Value.int .u8))) (hv : ∀ x ∈ vs, 0 ≤ x ∧ x < 256) (r1 : Reads w 1 v1 n1 vs1) :
  Calls Try.prog 11 #[v, v1] w fun e w' => e = .returned (.bool true) ∧ Below w.heap.size w w' := by
 obtain ⟨va, vc, rfl⟩ := reads_shape r0
 obtain ⟨vb, vd, rfl⟩ := reads_shape r1
 clear r1
 by_cases hn : n ≤ 1048576
 case neg =>
  have p8 : (1048576 : Int) < (n : Int) := by omega
  clear r0
  go_enter Try.func11, Try.ntmps11
  go_wp2
  go_ret
  exact ⟨rfl, Below.refl _ _⟩
 have p8 : ¬ (1048576 : Int) < (n : Int) := by omega
 by_cases hm : n1 ≤ 1048576
 case neg =>
  have bF : (1048576 : Int) < (n1 : Int) := by omega
  clear r0
  go_enter Try.func11, Try.ntmps11
  go_wp2
  go_ret
  exact ⟨rfl, Below.refl _ _⟩
 have bF : ¬ (1048576 : Int) < (n1 : Int) := by omega
 go_enter Try.func11, Try.ntmps11
 go_wp2_with fail
 refine (DrawStepMachine_any _ n vs _ (r0.below (Bs w)) hv hn).mono ?_
 rintro e w1 ⟨gH, hH, iH, cH, eH, fH, zG, vG, yG, ms, rfl, lB, l8, hm, hb⟩
 clear r0 hv
 obtain ⟨c, p5⟩ := RdC.of lB l8.1 l8.2.1 l8.2.2
 clear lB l8
 obtain ⟨a0, c0, a1, c1, a2, c2, rfl, rfl, rfl⟩ := p5.r.shape
 obtain ⟨a3, c3, a4, c4, rfl, rfl⟩ := hm.m.reads.shape
 obtain ⟨a5, c5, rfl⟩ := reads_shape hm.r
 have kG : c.vars.length ≤ 1000 ∧ c.arrays.length ≤ 1000 ∧ c.list.length ≤ 1000 := ⟨p5.l0, p5.l1, p5.l2⟩
 have lG : ms.regs.length ≤ 1048576 ∧ ms.mem.vals.length ≤ 1048576 ∧ ms.mem.arrs.length ≤ 1048576 ∧ pre2 ms.mem.arrs ms.mem.arrs.length ≤ 1048576 := by have h1 := hm.rl; have h2 := hm.m.l0; have h3 := hm.m.l1; have h4 := hm.m.pre; omega
 have fF := hb.size
 have j0 := btr (Bs w) hb
 clear hb
 have h0 := Bs w1
 have HC := Lib.hid (fun W (hW : Below w1.heap.size w1 W) => p5.r.below hW)
 have HS := Lib.hid (fun W (hW : Below w1.heap.size w1 W) => hm.reads.below hW)
 clear p5 hm
 obtain ⟨L, hL⟩ : ∃ L, liveR c = L := ⟨_, rfl⟩
 have o8 := liveR_len c
 rw [hL] at o8
 have iG := o8.1
 have t8 := Lib.hid o8.2
 have k8 := Lib.hid hL
 clear o8 hL
 go_wp2_with fail
 have z0 := iLiveRegs_any _ _ _ c _ (HC.out _ (bal (bal h0 (.cells #[.slice a0 c.vars.length c0, .slice a1 c.arrays.length c1, .slice a2 c.list.length c2] 26)) (.cells #[.int .i64 ms.pc, .slice a5 ms.regs.length c5, .slice a3 ms.mem.vals.length c3, .slice a4 ms.mem.arrs.length c4] 39)))
 rw [k8.out] at z0
 refine (z0).mono ?_
 rintro e w2 ⟨u1, gE, rfl, o1, hb⟩
 obtain ⟨p1, q1, rfl⟩ := o1.shape
 clear z0
 replace h0 := btr (bal (bal h0 _) _) hb
 have d9 := hb.size
 simp only [Sa] at d9
 have q0 : Bk w2 (w1.heap.size) [.slice a0 c.vars.length c0, .slice a1 c.arrays.length c1, .slice a2 c.list.length c2] := Bk.below (Bk.al (Bk.nw (by simp) rfl) (.cells #[.int .i64 ms.pc, .slice a5 ms.regs.length c5, .slice a3 ms.mem.vals.length c3, .slice a4 ms.mem.arrs.length c4] 39)) hb
 have s0 : Bk w2 (w1.heap.size + 1) [.int .i64 ms.pc, .slice a5 ms.regs.length c5, .slice a3 ms.mem.vals.length c3, .slice a4 ms.mem.arrs.length c4] := Bk.below (Bk.nw (by simp) rfl) hb
 replace j0 := btr (bal (bal j0 _) _) hb
 clear hb
 have o0 := Bs w2
 have s8 := Lib.hid (fun W (hW : Below w2.heap.size w2 W) => (o1.reads (by omega) (fun k r hr => by have := t8.out k r hr; omega)).below hW)
 have l5 := Bk.lz q0
 have m5 := Bk.lz s0
 clear o1
 obtain ⟨rF, dA, g9, eA, h9, fA⟩ := Bk.f3 q0 0 1 2 rfl rfl rfl
 go_wp2_with fail
 have z0 := sLiveRegs_any _ _ _ c _ (HC.out _ h0)
 rw [k8.out] at z0
 refine (z0).mono ?_
 rintro e w3 ⟨u2, hE, rfl, o2, hb⟩
 obtain ⟨p2, q2, rfl⟩ := o2.shape
 clear z0
 replace h0 := btr h0 hb
 replace o0 := btr o0 hb
 have uB := hb.size
 clear dA rF eA g9 fA h9
 replace q0 := Bk.below q0 hb
 replace s0 := Bk.below s0 hb
 replace j0 := btr j0 hb
 clear hb
 have i0 := Bs w3
 have nE := Lib.hid (fun W (hW : Below w3.heap.size w3 W) => (o2.reads (by omega) (fun k r hr => by have := t8.out k r hr; omega)).below hW)
 clear o2
 go_wp2_with fail
 have z0 := ctRows_any _ _ L L _ (s8.out _ o0) (nE.out _ i0)
 rw [decide_eq_true (Eq.refl L)] at z0
 refine (z0).mono ?_
 rintro e w4 ⟨rfl, hb⟩
 clear z0
 replace h0 := btr h0 hb
 replace o0 := btr o0 hb
 replace i0 := btr i0 hb
 have vB := hb.size
 replace q0 := Bk.below q0 hb
 replace s0 := Bk.below s0 hb
 replace j0 := btr j0 hb
 clear hb
 obtain ⟨mv, gB⟩ : ∃ b, mvOk c ms = b := ⟨_, rfl⟩
 have v4 := Lib.hid gB; clear gB
 obtain ⟨i9, gA, j9, iA, k9, jA⟩ := Bk.f3 q0 0 1 2 rfl rfl rfl
 obtain ⟨l9, kA, m9, lA, n9, mA, o9, nA⟩ := Bk.f4 s0 0 1 2 3 rfl rfl rfl rfl
 go_wp2_with fail
 have z0 := iMValid_any _ _ _ _ _ _ c ms _ (HC.out _ h0) (HS.out _ h0)
 rw [v4.out] at z0
 refine (z0).mono ?_
 rintro e w5 ⟨rfl, hb⟩
 clear z0
 replace h0 := btr h0 hb
 replace o0 := btr o0 hb
 replace i0 := btr i0 hb
 have wB := hb.size
 clear gA i9 iA j9 jA k9 kA l9 lA m9 mA n9 nA o9
 replace q0 := Bk.below q0 hb
 replace s0 := Bk.below s0 hb
 replace j0 := btr j0 hb
 clear hb
 replace l5 := Bk.lz q0
 replace m5 := Bk.lz s0
 cases mv with
 | false =>
  obtain ⟨p9, oA, q9, pA, r9, qA⟩ := Bk.f3 q0 0 1 2 rfl rfl rfl
  go_wp2_with fail
  have z0 := sLiveRegs_any _ _ _ c _ (HC.out _ h0)
  rw [k8.out] at z0
  refine (z0).mono ?_
  rintro e w6 ⟨u3, dH, rfl, o3, hb⟩
  obtain ⟨p3, q3, rfl⟩ := o3.shape
  clear z0
  replace h0 := btr h0 hb
  replace o0 := btr o0 hb
  replace i0 := btr i0 hb
  have xB := hb.size
  clear oA p9 pA q9 qA r9
  replace q0 := Bk.below q0 hb
  replace s0 := Bk.below s0 hb
  replace j0 := btr j0 hb
  clear hb
  have n5 := Bs w6
  have oE := Lib.hid (fun W (hW : Below w6.heap.size w6 W) => (o3.reads (by omega) (fun k r hr => by have := t8.out k r hr; omega)).below hW)
  clear o3
  go_wp2_with fail
  have z0 := ctRows_any _ _ L L _ (s8.out _ o0) (oE.out _ n5)
  rw [decide_eq_true (Eq.refl L)] at z0
  refine (z0).mono ?_
  rintro e w7 ⟨rfl, hb⟩
  clear z0
  replace h0 := btr h0 hb
  replace o0 := btr o0 hb
  replace i0 := btr i0 hb
  replace n5 := btr n5 hb
  have yB := hb.size
  replace q0 := Bk.below q0 hb
  replace s0 := Bk.below s0 hb
  replace j0 := btr j0 hb
  clear hb
  have tt := j0
  go_wp2
  go_ret
  exact ⟨rfl, tt⟩
 | true =>
  obtain ⟨dC, eC, fC, gC⟩ := mv_len v4.out (by omega) (by omega)
  obtain ⟨k0, n8⟩ : ∃ k : Nat, ms.pc = k := ⟨ms.pc.toNat, by have := (mvOk_ok v4.out).2.pc0; omega⟩
  obtain ⟨yE, hl14e, kB⟩ := live_at v4.out k8.out n8
  have zE : 14 ≤ L[k0].length ∧ L[k0].length ≤ 14 := by omega
  clear hl14e
  have jE := Lib.hid kB; have dB := Lib.hid n8; have s4 := Lib.hid (AdjOk.start (mvOk_ok v4.out).2); have dF : 14 ≤ ms.regs.length ∧ ms.regs.length ≤ 14 := by have := (mvOk_ok v4.out).2.regs; omega
  clear kB
  rw [n8] at s0; clear n8
  go_upto_region 7 with (fail)
  have g0 := Bs w5
  go_cut [8] (fun s wx => ∃ (b8 : Nat) (xa : Option Addr) (xc : Nat), s = .pointer (some ⟨b8, 0, none⟩) ∧ Bk wx b8 [.int .i64 k0, .slice xa ms.regs.length xc, .slice a3 ms.mem.vals.length c3, .slice a4 ms.mem.arrs.length c4] ∧ Bk wx (w1.heap.size) [.slice a0 c.vars.length c0, .slice a1 c.arrays.length c1, .slice a2 c.list.length c2] ∧ Bk wx (w1.heap.size + 1) [.int .i64 k0, .slice a5 ms.regs.length c5, .slice a3 ms.mem.vals.length c3, .slice a4 ms.mem.arrs.length c4] ∧ wx.ownsRow w5.heap.size 3 1 (.slice xa ms.regs.length xc) ms.regs.length (ints ms.regs) ∧ (∀ q, (Value.slice xa ms.regs.length xc).ownBlock = some q → ¬ q = b8) ∧ w5.heap.size ≤ b8 ∧ Below w5.heap.size w5 wx ∧ Below w1.heap.size w1 wx ∧ Below w2.heap.size w2 wx ∧ Below w.heap.size w wx)
  case first =>
   obtain ⟨b0, t0, d0, u0, e0, v0, f0, w0⟩ := Bk.f4 s0 0 1 2 3 rfl rfl rfl rfl
   refine wp_region_noPanic ?_
   refine wp_region_held_drew (S := (fun W' => W'.cell? ⟨w1.heap.size + 1, 0, none⟩ = some (.int .i64 k0) ∧ W'.cell? ⟨w1.heap.size + 1, 1, none⟩ = some (.slice a5 ms.regs.length c5) ∧ W'.cell? ⟨w1.heap.size + 1, 2, none⟩ = some (.slice a3 ms.mem.vals.length c3) ∧ W'.cell? ⟨w1.heap.size + 1, 3, none⟩ = some (.slice a4 ms.mem.arrs.length c4))) (by kernel_rfl) ⟨Kc (Below.drew (Bs w5)) b0, Kc (Below.drew (Bs w5)) d0, Kc (Below.drew (Bs w5)) e0, Kc (Below.drew (Bs w5)) f0⟩ (fun hHeld => ?_)
   obtain ⟨w6, k5⟩ : ∃ X, X = World.drew w5 := ⟨_, rfl⟩
   rw [← k5] at hHeld ⊢
   have hb : Below w5.heap.size w5 w6 := by rw [k5]; exact Below.drew (Bs _)
   clear k5
   replace h0 := btr h0 hb
   replace o0 := btr o0 hb
   replace i0 := btr i0 hb
   replace g0 := btr g0 hb
   have zB := hb.size
   replace t0 := Kf hb (Lc b0) t0
   replace u0 := Kf hb (Lc d0) u0
   replace v0 := Kf hb (Lc e0) v0
   replace w0 := Kf hb (Lc f0) w0
   replace b0 := Kc hb b0
   replace d0 := Kc hb d0
   replace e0 := Kc hb e0
   replace f0 := Kc hb f0
   replace q0 := Bk.below q0 hb
   replace s0 := Bk.below s0 hb
   replace j0 := btr j0 hb
   clear hb
   replace l5 := Bk.lz q0
   replace m5 := Bk.lz s0
   refine (tq 0 47 rfl rfl ?_ ?_ (tq 1 48 rfl rfl ?_ ?_ (tq 3 50 rfl rfl ?_ ?_ (tq 4 51 rfl rfl ?_ ?_ (tq 6 53 rfl rfl ?_ ?_ (tq 7 54 rfl rfl ?_ ?_ ?_))))))
   iterate 6 (rotate_left; intro W' hSw; (try dsimp only at hSw); go_simp; try with_reducible rfl)
   try simp only [Ep]
   refine Rdy2 2 9 rfl rfl (fun K hK => ?_) (fun K hK => ?_)
   ·go_simp
    obtain ⟨w7, n2, hb⟩ := nmw (World.alloc w6 (.cells #[] 3))
    have j3 := Ob (World.ownsRow_lit (base := (w6).heap.size) (e := 3) (size := 1) (w6) #[] 0 (Nat.le_refl _) (by unfold maxLen; omega) (by simp)) hb
    try simp only [Sa, Ss] at j3
    replace h0 := btr (bal h0 _) hb
    replace o0 := btr (bal o0 _) hb
    replace i0 := btr (bal i0 _) hb
    replace g0 := btr (bal g0 _) hb
    have f6 := hb.size
    simp only [Sa] at f6
    replace t0 := Kf hb (Lc (Ac b0 _)) (Fa (Lc b0) t0 _)
    replace u0 := Kf hb (Lc (Ac d0 _)) (Fa (Lc d0) u0 _)
    replace v0 := Kf hb (Lc (Ac e0 _)) (Fa (Lc e0) v0 _)
    replace w0 := Kf hb (Lc (Ac f0 _)) (Fa (Lc f0) w0 _)
    replace b0 := Kc hb (Ac b0 _)
    replace d0 := Kc hb (Ac d0 _)
    replace e0 := Kc hb (Ac e0 _)
    replace f0 := Kc hb (Ac f0 _)
    replace q0 := Bk.below (Bk.al q0 _) hb
    replace s0 := Bk.below (Bk.al s0 _) hb
    replace j0 := btr (bal j0 _) hb
    clear hb
    have n0 := j3.lt
    try simp only [Sa] at n0
    rw [← n2]
    clear n2
    replace l5 := Bk.lz q0
    replace m5 := Bk.lz s0
    refine hK.out _ _ ⟨b0, d0, e0, f0⟩ (fun hHeld => ?_)
    clear hK K
    try simp only [Ep]
    refine Rdy2 5 9 rfl rfl (fun K hK => ?_) (fun K hK => ?_)
    ·refine step_aps tInts rfl _ _ rfl (w6.heap.size) _ 0 ([]) rfl j3 _ ms.regs.length (ints ms.regs) rfl ((((HS.out _ h0)).r)) (one_ints ms.regs) (by omega) (by first | omega | (simp only [Sa, Ss]; omega)) ?_
     intro vA w8 d3 hc x4 _
     try simp only [Nat.zero_add, List.nil_append] at d3
     obtain ⟨t2, z2, rfl⟩ := Oh d3
     replace h0 := h0.trans (hc.below w1.heap.size (by have := h0.size; omega) (fun gq hgq h => by have := n0 gq h; omega))
     replace o0 := o0.trans (hc.below w2.heap.size (by have := o0.size; omega) (fun gq hgq h => by have := n0 gq h; omega))
     replace i0 := i0.trans (hc.below w3.heap.size (by have := i0.size; omega) (fun gq hgq h => by have := n0 gq h; omega))
     replace g0 := g0.trans (hc.below w5.heap.size (by have := g0.size; omega) (fun gq hgq h => by have := n0 gq h; omega))
     have aC := hc.size
     replace t0 := Gf hc (Lc b0) t0 (fun h => by have := n0 _ h; omega)
     replace u0 := Gf hc (Lc d0) u0 (fun h => by have := n0 _ h; omega)
     replace v0 := Gf hc (Lc e0) v0 (fun h => by have := n0 _ h; omega)
     replace w0 := Gf hc (Lc f0) w0 (fun h => by have := n0 _ h; omega)
     replace b0 := Gc hc b0 (fun h => by have := n0 _ h; omega)
     replace d0 := Gc hc d0 (fun h => by have := n0 _ h; omega)
     replace e0 := Gc hc e0 (fun h => by have := n0 _ h; omega)
     replace f0 := Gc hc f0 (fun h => by have := n0 _ h; omega)
     replace q0 := Bk.keep q0 hc (fun h => by have := n0 _ h; omega)
     replace s0 := Bk.keep s0 hc (fun h => by have := n0 _ h; omega)
     replace j0 := j0.trans (hc.below w.heap.size (by have := j0.size; omega) (fun gq hgq h => by have := n0 gq h; omega))
     clear hc
     have jF := d3.lt
     have i2 : ∀ q, (Value.slice t2 ms.regs.length z2).ownBlock = some q → (q = w6.heap.size ∨ w7.heap.size ≤ q) ∧ q < w8.heap.size := fun q h => ⟨by rcases x4 with e1 | ⟨g1, e1, e2⟩; (rw [h] at e1; exact Or.inl (Option.some.inj e1)); (rw [h] at e1; have := Option.some.inj e1; exact Or.inr (by omega)), (d3.lt q h).2⟩
     clear x4 j3
     replace l5 := Bk.lz q0
     replace m5 := Bk.lz s0
     refine hK.out _ _ ⟨b0, d0, e0, f0⟩ (fun hHeld => ?_)
     clear hK K
     try simp only [Ep]
     refine (tq 8 55 rfl rfl (.agg #[.int .i64 k0, .slice t2 ms.regs.length z2, .slice a3 ms.mem.vals.length c3, .slice a4 ms.mem.arrs.length c4]) (fun W' _ => by kernel_rfl) ?_)
     try simp only [Ep]
     refine Rdy 9 rfl (fun K hK => ?_)
     go_simp
     obtain ⟨w9, n2, hb⟩ := nmw (World.alloc w8 (.cells #[.int .i64 0, .slice none 0 0, .slice none 0 0, .slice none 0 0] 39))
     replace h0 := btr (bal h0 _) hb
     replace o0 := btr (bal o0 _) hb
     replace i0 := btr (bal i0 _) hb
     replace g0 := btr (bal g0 _) hb
     have g6 := hb.size
     simp only [Sa] at g6
     replace t0 := Kf hb (Lc (Ac b0 _)) (Fa (Lc b0) t0 _)
     replace u0 := Kf hb (Lc (Ac d0 _)) (Fa (Lc d0) u0 _)
     replace v0 := Kf hb (Lc (Ac e0 _)) (Fa (Lc e0) v0 _)
     replace w0 := Kf hb (Lc (Ac f0 _)) (Fa (Lc f0) w0 _)
     replace b0 := Kc hb (Ac b0 _)
     replace d0 := Kc hb (Ac d0 _)
     replace e0 := Kc hb (Ac e0 _)
     replace f0 := Kc hb (Ac f0 _)
     replace d3 := Ob (Ob d3 (bal (Bs _) _)) hb
     replace q0 := Bk.below (Bk.al q0 _) hb
     replace s0 := Bk.below (Bk.al s0 _) hb
     have p4 : Bk w9 (w8.heap.size) [.int .i64 0, .slice none 0 0, .slice none 0 0, .slice none 0 0] := Bk.below (Bk.nw (by simp) rfl) hb
     replace j0 := btr (bal j0 _) hb
     clear hb
     rw [← n2]
     clear n2
     have lF := Bk.lz p4
     refine hK.out _ _ ⟨b0, d0, e0, f0⟩ (fun hHeld => ?_)
     clear hK K
     try simp only [Ep]
     refine Rdy 10 rfl (fun K hK => ?_)
     obtain ⟨s9, rA, t9, sA, u9, tA, v9, uA⟩ := Bk.f4 p4 0 1 2 3 rfl rfl rfl rfl
     go_simp
     obtain ⟨o5, n2, hb⟩ := nmw (World.setCell (World.setCell (World.setCell (World.setCell w9 ⟨w8.heap.size, 0, none⟩ (.int .i64 k0)) ⟨w8.heap.size, 1, none⟩ (.slice t2 ms.regs.length z2)) ⟨w8.heap.size, 2, none⟩ (.slice a3 ms.mem.vals.length c3)) ⟨w8.heap.size, 3, none⟩ (.slice a4 ms.mem.arrs.length c4))
     replace h0 := btr (bst (bst (bst (bst h0 (w8.heap.size) (0) (by omega) (.int .i64 k0)) (w8.heap.size) (1) (by omega) (.slice t2 ms.regs.length z2)) (w8.heap.size) (2) (by omega) (.slice a3 ms.mem.vals.length c3)) (w8.heap.size) (3) (by omega) (.slice a4 ms.mem.arrs.length c4)) hb
     replace o0 := btr (bst (bst (bst (bst o0 (w8.heap.size) (0) (by omega) (.int .i64 k0)) (w8.heap.size) (1) (by omega) (.slice t2 ms.regs.length z2)) (w8.heap.size) (2) (by omega) (.slice a3 ms.mem.vals.length c3)) (w8.heap.size) (3) (by omega) (.slice a4 ms.mem.arrs.length c4)) hb
     replace i0 := btr (bst (bst (bst (bst i0 (w8.heap.size) (0) (by omega) (.int .i64 k0)) (w8.heap.size) (1) (by omega) (.slice t2 ms.regs.length z2)) (w8.heap.size) (2) (by omega) (.slice a3 ms.mem.vals.length c3)) (w8.heap.size) (3) (by omega) (.slice a4 ms.mem.arrs.length c4)) hb
     replace g0 := btr (bst (bst (bst (bst g0 (w8.heap.size) (0) (by omega) (.int .i64 k0)) (w8.heap.size) (1) (by omega) (.slice t2 ms.regs.length z2)) (w8.heap.size) (2) (by omega) (.slice a3 ms.mem.vals.length c3)) (w8.heap.size) (3) (by omega) (.slice a4 ms.mem.arrs.length c4)) hb
     have h6 := hb.size
     simp only [Ss] at h6
     clear rA s9 sA t9 tA u9 uA v9
     replace t0 := Kf hb (Lc (Nc (Nc (Nc (Nc b0 (by omega) _) (by omega) _) (by omega) _) (by omega) _)) (Fs (Fs (Fs (Fs t0 _) _) _) _)
     replace u0 := Kf hb (Lc (Nc (Nc (Nc (Nc d0 (by omega) _) (by omega) _) (by omega) _) (by omega) _)) (Fs (Fs (Fs (Fs u0 _) _) _) _)
     replace v0 := Kf hb (Lc (Nc (Nc (Nc (Nc e0 (by omega) _) (by omega) _) (by omega) _) (by omega) _)) (Fs (Fs (Fs (Fs v0 _) _) _) _)
     replace w0 := Kf hb (Lc (Nc (Nc (Nc (Nc f0 (by omega) _) (by omega) _) (by omega) _) (by omega) _)) (Fs (Fs (Fs (Fs w0 _) _) _) _)
     replace b0 := Kc hb (Nc (Nc (Nc (Nc b0 (by omega) _) (by omega) _) (by omega) _) (by omega) _)
     replace d0 := Kc hb (Nc (Nc (Nc (Nc d0 (by omega) _) (by omega) _) (by omega) _) (by omega) _)
     replace e0 := Kc hb (Nc (Nc (Nc (Nc e0 (by omega) _) (by omega) _) (by omega) _) (by omega) _)
     replace f0 := Kc hb (Nc (Nc (Nc (Nc f0 (by omega) _) (by omega) _) (by omega) _) (by omega) _)
     replace d3 := Ob (Oe (Oe (Oe (Oe d3 _ _ (fun h => by have := i2 _ h; omega) _) _ _ (fun h => by have := i2 _ h; omega) _) _ _ (fun h => by have := i2 _ h; omega) _) _ _ (fun h => by have := i2 _ h; omega) _) hb
     replace q0 := Bk.below (Bk.ne (Bk.ne (Bk.ne (Bk.ne q0 (by omega) _) (by omega) _) (by omega) _) (by omega) _) hb
     replace s0 := Bk.below (Bk.ne (Bk.ne (Bk.ne (Bk.ne s0 (by omega) _) (by omega) _) (by omega) _) (by omega) _) hb
     replace p4 : Bk o5 (w8.heap.size) [.int .i64 k0, .slice t2 ms.regs.length z2, .slice a3 ms.mem.vals.length c3, .slice a4 ms.mem.arrs.length c4] := Bk.below (Bk.at (Bk.at (Bk.at (Bk.at p4 0 (.int .i64 k0)) 1 (.slice t2 ms.regs.length z2)) 2 (.slice a3 ms.mem.vals.length c3)) 3 (.slice a4 ms.mem.arrs.length c4)) hb
     replace j0 := btr (bst (bst (bst (bst j0 (w8.heap.size) 0 (by omega) (.int .i64 k0)) (w8.heap.size) 1 (by omega) (.slice t2 ms.regs.length z2)) (w8.heap.size) 2 (by omega) (.slice a3 ms.mem.vals.length c3)) (w8.heap.size) 3 (by omega) (.slice a4 ms.mem.arrs.length c4)) hb
     clear hb
     rw [← n2]
     clear n2
     refine hK.out _ _ ⟨b0, d0, e0, f0⟩ (fun hHeld => ?_)
     clear hK K
     try simp only [Ep]
     refine wpAnyH_done (by kernel_rfl) ?_ _
     refine NoPanic.normal ?_
     clear hHeld
     obtain ⟨nF, wF, oF, xF, pF, yF, qF, zF⟩ := Bk.f4 p4 0 1 2 3 rfl rfl rfl rfl
     go_wp2_with fail
     go_meet
     exact ⟨_, _, _, rfl, p4, q0, s0, Om d3 (by omega), fun q h => by have := i2 q h; have := i2 q h; omega, by omega, g0, h0, o0, j0⟩
    go_simp
    obtain ⟨w8, n2, hb⟩ := nmw (World.alloc w7 (.cells #[.int .i64 0, .slice none 0 0, .slice none 0 0, .slice none 0 0] 39))
    replace h0 := btr (bal h0 _) hb
    replace o0 := btr (bal o0 _) hb
    replace i0 := btr (bal i0 _) hb
    replace g0 := btr (bal g0 _) hb
    have i6 := hb.size
    simp only [Sa] at i6
    replace t0 := Kf hb (Lc (Ac b0 _)) (Fa (Lc b0) t0 _)
    replace u0 := Kf hb (Lc (Ac d0 _)) (Fa (Lc d0) u0 _)
    replace v0 := Kf hb (Lc (Ac e0 _)) (Fa (Lc e0) v0 _)
    replace w0 := Kf hb (Lc (Ac f0 _)) (Fa (Lc f0) w0 _)
    replace b0 := Kc hb (Ac b0 _)
    replace d0 := Kc hb (Ac d0 _)
    replace e0 := Kc hb (Ac e0 _)
    replace f0 := Kc hb (Ac f0 _)
    replace j3 := Ob (Ob j3 (bal (Bs _) _)) hb
    replace q0 := Bk.below (Bk.al q0 _) hb
    replace s0 := Bk.below (Bk.al s0 _) hb
    have i3 : Bk w8 (w7.heap.size) [.int .i64 0, .slice none 0 0, .slice none 0 0, .slice none 0 0] := Bk.below (Bk.nw (by simp) rfl) hb
    replace j0 := btr (bal j0 _) hb
    clear hb
    rw [← n2]
    clear n2
    replace l5 := Bk.lz q0
    replace m5 := Bk.lz s0
    have mF := Bk.lz i3
    refine hK.out _ _ ⟨b0, d0, e0, f0⟩ (fun hHeld => ?_)
    clear hK K
    try simp only [Ep]
    refine Rdy 5 rfl (fun K hK => ?_)
    refine step_aps tInts rfl _ _ rfl (w6.heap.size) _ 0 ([]) rfl j3 _ ms.regs.length (ints ms.regs) rfl ((((HS.out _ h0)).r)) (one_ints ms.regs) (by omega) (by first | omega | (simp only [Sa, Ss]; omega)) ?_
    intro vA w9 m4 hc x4 _
    try simp only [Nat.zero_add, List.nil_append] at m4
    obtain ⟨v2, b3, rfl⟩ := Oh m4
    replace h0 := h0.trans (hc.below w1.heap.size (by have := h0.size; omega) (fun gq hgq h => by have := n0 gq h; omega))
    replace o0 := o0.trans (hc.below w2.heap.size (by have := o0.size; omega) (fun gq hgq h => by have := n0 gq h; omega))
    replace i0 := i0.trans (hc.below w3.heap.size (by have := i0.size; omega) (fun gq hgq h => by have := n0 gq h; omega))
    replace g0 := g0.trans (hc.below w5.heap.size (by have := g0.size; omega) (fun gq hgq h => by have := n0 gq h; omega))
    have bC := hc.size
    replace t0 := Gf hc (Lc b0) t0 (fun h => by have := n0 _ h; omega)
    replace u0 := Gf hc (Lc d0) u0 (fun h => by have := n0 _ h; omega)
    replace v0 := Gf hc (Lc e0) v0 (fun h => by have := n0 _ h; omega)
    replace w0 := Gf hc (Lc f0) w0 (fun h => by have := n0 _ h; omega)
    replace b0 := Gc hc b0 (fun h => by have := n0 _ h; omega)
    replace d0 := Gc hc d0 (fun h => by have := n0 _ h; omega)
    replace e0 := Gc hc e0 (fun h => by have := n0 _ h; omega)
    replace f0 := Gc hc f0 (fun h => by have := n0 _ h; omega)
    replace q0 := Bk.keep q0 hc (fun h => by have := n0 _ h; omega)
    replace s0 := Bk.keep s0 hc (fun h => by have := n0 _ h; omega)
    replace i3 := Bk.keep i3 hc (fun h => by have := n0 _ h; omega)
    replace j0 := j0.trans (hc.below w.heap.size (by have := j0.size; omega) (fun gq hgq h => by have := n0 gq h; omega))
    clear hc
    have kF := m4.lt
    have j2 : ∀ q, (Value.slice v2 ms.regs.length b3).ownBlock = some q → (q = w6.heap.size ∨ w8.heap.size ≤ q) ∧ q < w9.heap.size := fun q h => ⟨by rcases x4 with e1 | ⟨g1, e1, e2⟩; (rw [h] at e1; exact Or.inl (Option.some.inj e1)); (rw [h] at e1; have := Option.some.inj e1; exact Or.inr (by omega)), (m4.lt q h).2⟩
    clear x4 j3
    refine hK.out _ _ ⟨b0, d0, e0, f0⟩ (fun hHeld => ?_)
    clear hK K
    try simp only [Ep]
    refine (tq 8 55 rfl rfl (.agg #[.int .i64 k0, .slice v2 ms.regs.length b3, .slice a3 ms.mem.vals.length c3, .slice a4 ms.mem.arrs.length c4]) (fun W' _ => by kernel_rfl) ?_)
    try simp only [Ep]
    refine Rdy 10 rfl (fun K hK => ?_)
    obtain ⟨z9, wA, aA, xA, bA, yA, cA, zA⟩ := Bk.f4 i3 0 1 2 3 rfl rfl rfl rfl
    go_simp
    obtain ⟨o5, n2, hb⟩ := nmw (World.setCell (World.setCell (World.setCell (World.setCell w9 ⟨w7.heap.size, 0, none⟩ (.int .i64 k0)) ⟨w7.heap.size, 1, none⟩ (.slice v2 ms.regs.length b3)) ⟨w7.heap.size, 2, none⟩ (.slice a3 ms.mem.vals.length c3)) ⟨w7.heap.size, 3, none⟩ (.slice a4 ms.mem.arrs.length c4))
    replace h0 := btr (bst (bst (bst (bst h0 (w7.heap.size) (0) (by omega) (.int .i64 k0)) (w7.heap.size) (1) (by omega) (.slice v2 ms.regs.length b3)) (w7.heap.size) (2) (by omega) (.slice a3 ms.mem.vals.length c3)) (w7.heap.size) (3) (by omega) (.slice a4 ms.mem.arrs.length c4)) hb
    replace o0 := btr (bst (bst (bst (bst o0 (w7.heap.size) (0) (by omega) (.int .i64 k0)) (w7.heap.size) (1) (by omega) (.slice v2 ms.regs.length b3)) (w7.heap.size) (2) (by omega) (.slice a3 ms.mem.vals.length c3)) (w7.heap.size) (3) (by omega) (.slice a4 ms.mem.arrs.length c4)) hb
    replace i0 := btr (bst (bst (bst (bst i0 (w7.heap.size) (0) (by omega) (.int .i64 k0)) (w7.heap.size) (1) (by omega) (.slice v2 ms.regs.length b3)) (w7.heap.size) (2) (by omega) (.slice a3 ms.mem.vals.length c3)) (w7.heap.size) (3) (by omega) (.slice a4 ms.mem.arrs.length c4)) hb
    replace g0 := btr (bst (bst (bst (bst g0 (w7.heap.size) (0) (by omega) (.int .i64 k0)) (w7.heap.size) (1) (by omega) (.slice v2 ms.regs.length b3)) (w7.heap.size) (2) (by omega) (.slice a3 ms.mem.vals.length c3)) (w7.heap.size) (3) (by omega) (.slice a4 ms.mem.arrs.length c4)) hb
    have j6 := hb.size
    simp only [Ss] at j6
    clear wA z9 xA aA yA bA zA cA
    replace t0 := Kf hb (Lc (Nc (Nc (Nc (Nc b0 (by omega) _) (by omega) _) (by omega) _) (by omega) _)) (Fs (Fs (Fs (Fs t0 _) _) _) _)
    replace u0 := Kf hb (Lc (Nc (Nc (Nc (Nc d0 (by omega) _) (by omega) _) (by omega) _) (by omega) _)) (Fs (Fs (Fs (Fs u0 _) _) _) _)
    replace v0 := Kf hb (Lc (Nc (Nc (Nc (Nc e0 (by omega) _) (by omega) _) (by omega) _) (by omega) _)) (Fs (Fs (Fs (Fs v0 _) _) _) _)
    replace w0 := Kf hb (Lc (Nc (Nc (Nc (Nc f0 (by omega) _) (by omega) _) (by omega) _) (by omega) _)) (Fs (Fs (Fs (Fs w0 _) _) _) _)
    replace b0 := Kc hb (Nc (Nc (Nc (Nc b0 (by omega) _) (by omega) _) (by omega) _) (by omega) _)
    replace d0 := Kc hb (Nc (Nc (Nc (Nc d0 (by omega) _) (by omega) _) (by omega) _) (by omega) _)
    replace e0 := Kc hb (Nc (Nc (Nc (Nc e0 (by omega) _) (by omega) _) (by omega) _) (by omega) _)
    replace f0 := Kc hb (Nc (Nc (Nc (Nc f0 (by omega) _) (by omega) _) (by omega) _) (by omega) _)
    replace m4 := Ob (Oe (Oe (Oe (Oe m4 _ _ (fun h => by have := j2 _ h; omega) _) _ _ (fun h => by have := j2 _ h; omega) _) _ _ (fun h => by have := j2 _ h; omega) _) _ _ (fun h => by have := j2 _ h; omega) _) hb
    replace q0 := Bk.below (Bk.ne (Bk.ne (Bk.ne (Bk.ne q0 (by omega) _) (by omega) _) (by omega) _) (by omega) _) hb
    replace s0 := Bk.below (Bk.ne (Bk.ne (Bk.ne (Bk.ne s0 (by omega) _) (by omega) _) (by omega) _) (by omega) _) hb
    replace i3 : Bk o5 (w7.heap.size) [.int .i64 k0, .slice v2 ms.regs.length b3, .slice a3 ms.mem.vals.length c3, .slice a4 ms.mem.arrs.length c4] := Bk.below (Bk.at (Bk.at (Bk.at (Bk.at i3 0 (.int .i64 k0)) 1 (.slice v2 ms.regs.length b3)) 2 (.slice a3 ms.mem.vals.length c3)) 3 (.slice a4 ms.mem.arrs.length c4)) hb
    replace j0 := btr (bst (bst (bst (bst j0 (w7.heap.size) 0 (by omega) (.int .i64 k0)) (w7.heap.size) 1 (by omega) (.slice v2 ms.regs.length b3)) (w7.heap.size) 2 (by omega) (.slice a3 ms.mem.vals.length c3)) (w7.heap.size) 3 (by omega) (.slice a4 ms.mem.arrs.length c4)) hb
    clear hb
    rw [← n2]
    clear n2
    refine hK.out _ _ ⟨b0, d0, e0, f0⟩ (fun hHeld => ?_)
    clear hK K
    try simp only [Ep]
    refine wpAnyH_done (by kernel_rfl) ?_ _
    refine NoPanic.normal ?_
    clear hHeld
    obtain ⟨sF, aG, tF, bG, uF, cG, vF, lD⟩ := Bk.f4 i3 0 1 2 3 rfl rfl rfl rfl
    go_wp2_with fail
    go_meet
    exact ⟨_, _, _, rfl, i3, q0, s0, Om m4 (by omega), fun q h => by have := j2 q h; have := j2 q h; omega, by omega, g0, h0, o0, j0⟩
   go_simp
   obtain ⟨w7, n2, hb⟩ := nmw (World.alloc w6 (.cells #[.int .i64 0, .slice none 0 0, .slice none 0 0, .slice none 0 0] 39))
   replace h0 := btr (bal h0 _) hb
   replace o0 := btr (bal o0 _) hb
   replace i0 := btr (bal i0 _) hb
   replace g0 := btr (bal g0 _) hb
   have e5 := hb.size
   simp only [Sa] at e5
   replace t0 := Kf hb (Lc (Ac b0 _)) (Fa (Lc b0) t0 _)
   replace u0 := Kf hb (Lc (Ac d0 _)) (Fa (Lc d0) u0 _)
   replace v0 := Kf hb (Lc (Ac e0 _)) (Fa (Lc e0) v0 _)
   replace w0 := Kf hb (Lc (Ac f0 _)) (Fa (Lc f0) w0 _)
   replace b0 := Kc hb (Ac b0 _)
   replace d0 := Kc hb (Ac d0 _)
   replace e0 := Kc hb (Ac e0 _)
   replace f0 := Kc hb (Ac f0 _)
   replace q0 := Bk.below (Bk.al q0 _) hb
   replace s0 := Bk.below (Bk.al s0 _) hb
   have d1 : Bk w7 (w6.heap.size) [.int .i64 0, .slice none 0 0, .slice none 0 0, .slice none 0 0] := Bk.below (Bk.nw (by simp) rfl) hb
   replace j0 := btr (bal j0 _) hb
   clear hb
   rw [← n2]
   clear n2
   replace l5 := Bk.lz q0
   replace m5 := Bk.lz s0
   have k6 := Bk.lz d1
   refine hK.out _ _ ⟨b0, d0, e0, f0⟩ (fun hHeld => ?_)
   clear hK K
   try simp only [Ep]
   refine Rdy 2 rfl (fun K hK => ?_)
   go_simp
   obtain ⟨w8, n2, hb⟩ := nmw (World.alloc w7 (.cells #[] 3))
   have n4 := Ob (World.ownsRow_lit (base := (w7).heap.size) (e := 3) (size := 1) (w7) #[] 0 (Nat.le_refl _) (by unfold maxLen; omega) (by simp)) hb
   try simp only [Sa, Ss] at n4
   replace h0 := btr (bal h0 _) hb
   replace o0 := btr (bal o0 _) hb
   replace i0 := btr (bal i0 _) hb
   replace g0 := btr (bal g0 _) hb
   have f5 := hb.size
   simp only [Sa] at f5
   replace t0 := Kf hb (Lc (Ac b0 _)) (Fa (Lc b0) t0 _)
   replace u0 := Kf hb (Lc (Ac d0 _)) (Fa (Lc d0) u0 _)
   replace v0 := Kf hb (Lc (Ac e0 _)) (Fa (Lc e0) v0 _)
   replace w0 := Kf hb (Lc (Ac f0 _)) (Fa (Lc f0) w0 _)
   replace b0 := Kc hb (Ac b0 _)
   replace d0 := Kc hb (Ac d0 _)
   replace e0 := Kc hb (Ac e0 _)
   replace f0 := Kc hb (Ac f0 _)
   replace q0 := Bk.below (Bk.al q0 _) hb
   replace s0 := Bk.below (Bk.al s0 _) hb
   replace d1 := Bk.below (Bk.al d1 _) hb
   replace j0 := btr (bal j0 _) hb
   clear hb
   have p0 := n4.lt
   try simp only [Sa] at p0
   rw [← n2]
   clear n2
   replace l5 := Bk.lz q0
   replace m5 := Bk.lz s0
   replace k6 := Bk.lz d1
   refine hK.out _ _ ⟨b0, d0, e0, f0⟩ (fun hHeld => ?_)
   clear hK K
   try simp only [Ep]
   refine Rdy 5 rfl (fun K hK => ?_)
   refine step_aps tInts rfl _ _ rfl (w7.heap.size) _ 0 ([]) rfl n4 _ ms.regs.length (ints ms.regs) rfl ((((HS.out _ h0)).r)) (one_ints ms.regs) (by omega) (by first | omega | (simp only [Sa, Ss]; omega)) ?_
   intro vA w9 r2 hc x4 _
   try simp only [Nat.zero_add, List.nil_append] at r2
   obtain ⟨j1, k1, rfl⟩ := Oh r2
   replace h0 := h0.trans (hc.below w1.heap.size (by have := h0.size; omega) (fun gq hgq h => by have := p0 gq h; omega))
   replace o0 := o0.trans (hc.below w2.heap.size (by have := o0.size; omega) (fun gq hgq h => by have := p0 gq h; omega))
   replace i0 := i0.trans (hc.below w3.heap.size (by have := i0.size; omega) (fun gq hgq h => by have := p0 gq h; omega))
   replace g0 := g0.trans (hc.below w5.heap.size (by have := g0.size; omega) (fun gq hgq h => by have := p0 gq h; omega))
   have z8 := hc.size
   replace t0 := Gf hc (Lc b0) t0 (fun h => by have := p0 _ h; omega)
   replace u0 := Gf hc (Lc d0) u0 (fun h => by have := p0 _ h; omega)
   replace v0 := Gf hc (Lc e0) v0 (fun h => by have := p0 _ h; omega)
   replace w0 := Gf hc (Lc f0) w0 (fun h => by have := p0 _ h; omega)
   replace b0 := Gc hc b0 (fun h => by have := p0 _ h; omega)
   replace d0 := Gc hc d0 (fun h => by have := p0 _ h; omega)
   replace e0 := Gc hc e0 (fun h => by have := p0 _ h; omega)
   replace f0 := Gc hc f0 (fun h => by have := p0 _ h; omega)
   replace q0 := Bk.keep q0 hc (fun h => by have := p0 _ h; omega)
   replace s0 := Bk.keep s0 hc (fun h => by have := p0 _ h; omega)
   replace d1 := Bk.keep d1 hc (fun h => by have := p0 _ h; omega)
   replace j0 := j0.trans (hc.below w.heap.size (by have := j0.size; omega) (fun gq hgq h => by have := p0 gq h; omega))
   clear hc
   have hC := r2.lt
   have i1 : ∀ q, (Value.slice j1 ms.regs.length k1).ownBlock = some q → (q = w7.heap.size ∨ w8.heap.size ≤ q) ∧ q < w9.heap.size := fun q h => ⟨by rcases x4 with e1 | ⟨g1, e1, e2⟩; (rw [h] at e1; exact Or.inl (Option.some.inj e1)); (rw [h] at e1; have := Option.some.inj e1; exact Or.inr (by omega)), (r2.lt q h).2⟩
   clear x4 n4
   refine hK.out _ _ ⟨b0, d0, e0, f0⟩ (fun hHeld => ?_)
   clear hK K
   try simp only [Ep]
   refine (tq 8 55 rfl rfl (.agg #[.int .i64 k0, .slice j1 ms.regs.length k1, .slice a3 ms.mem.vals.length c3, .slice a4 ms.mem.arrs.length c4]) (fun W' _ => by kernel_rfl) ?_)
   try simp only [Ep]
   refine Rdy 10 rfl (fun K hK => ?_)
   obtain ⟨l6, k7, m6, l7, n6, m7, o6, n7⟩ := Bk.f4 d1 0 1 2 3 rfl rfl rfl rfl
   go_simp
   obtain ⟨o5, n2, hb⟩ := nmw (World.setCell (World.setCell (World.setCell (World.setCell w9 ⟨w6.heap.size, 0, none⟩ (.int .i64 k0)) ⟨w6.heap.size, 1, none⟩ (.slice j1 ms.regs.length k1)) ⟨w6.heap.size, 2, none⟩ (.slice a3 ms.mem.vals.length c3)) ⟨w6.heap.size, 3, none⟩ (.slice a4 ms.mem.arrs.length c4))
   replace h0 := btr (bst (bst (bst (bst h0 (w6.heap.size) (0) (by omega) (.int .i64 k0)) (w6.heap.size) (1) (by omega) (.slice j1 ms.regs.length k1)) (w6.heap.size) (2) (by omega) (.slice a3 ms.mem.vals.length c3)) (w6.heap.size) (3) (by omega) (.slice a4 ms.mem.arrs.length c4)) hb
   replace o0 := btr (bst (bst (bst (bst o0 (w6.heap.size) (0) (by omega) (.int .i64 k0)) (w6.heap.size) (1) (by omega) (.slice j1 ms.regs.length k1)) (w6.heap.size) (2) (by omega) (.slice a3 ms.mem.vals.length c3)) (w6.heap.size) (3) (by omega) (.slice a4 ms.mem.arrs.length c4)) hb
   replace i0 := btr (bst (bst (bst (bst i0 (w6.heap.size) (0) (by omega) (.int .i64 k0)) (w6.heap.size) (1) (by omega) (.slice j1 ms.regs.length k1)) (w6.heap.size) (2) (by omega) (.slice a3 ms.mem.vals.length c3)) (w6.heap.size) (3) (by omega) (.slice a4 ms.mem.arrs.length c4)) hb
   replace g0 := btr (bst (bst (bst (bst g0 (w6.heap.size) (0) (by omega) (.int .i64 k0)) (w6.heap.size) (1) (by omega) (.slice j1 ms.regs.length k1)) (w6.heap.size) (2) (by omega) (.slice a3 ms.mem.vals.length c3)) (w6.heap.size) (3) (by omega) (.slice a4 ms.mem.arrs.length c4)) hb
   have g5 := hb.size
   simp only [Ss] at g5
   clear k7 l6 l7 m6 m7 n6 n7 o6
   replace t0 := Kf hb (Lc (Nc (Nc (Nc (Nc b0 (by omega) _) (by omega) _) (by omega) _) (by omega) _)) (Fs (Fs (Fs (Fs t0 _) _) _) _)
   replace u0 := Kf hb (Lc (Nc (Nc (Nc (Nc d0 (by omega) _) (by omega) _) (by omega) _) (by omega) _)) (Fs (Fs (Fs (Fs u0 _) _) _) _)
   replace v0 := Kf hb (Lc (Nc (Nc (Nc (Nc e0 (by omega) _) (by omega) _) (by omega) _) (by omega) _)) (Fs (Fs (Fs (Fs v0 _) _) _) _)
   replace w0 := Kf hb (Lc (Nc (Nc (Nc (Nc f0 (by omega) _) (by omega) _) (by omega) _) (by omega) _)) (Fs (Fs (Fs (Fs w0 _) _) _) _)
   replace b0 := Kc hb (Nc (Nc (Nc (Nc b0 (by omega) _) (by omega) _) (by omega) _) (by omega) _)
   replace d0 := Kc hb (Nc (Nc (Nc (Nc d0 (by omega) _) (by omega) _) (by omega) _) (by omega) _)
   replace e0 := Kc hb (Nc (Nc (Nc (Nc e0 (by omega) _) (by omega) _) (by omega) _) (by omega) _)
   replace f0 := Kc hb (Nc (Nc (Nc (Nc f0 (by omega) _) (by omega) _) (by omega) _) (by omega) _)
   replace r2 := Ob (Oe (Oe (Oe (Oe r2 _ _ (fun h => by have := i1 _ h; omega) _) _ _ (fun h => by have := i1 _ h; omega) _) _ _ (fun h => by have := i1 _ h; omega) _) _ _ (fun h => by have := i1 _ h; omega) _) hb
   replace q0 := Bk.below (Bk.ne (Bk.ne (Bk.ne (Bk.ne q0 (by omega) _) (by omega) _) (by omega) _) (by omega) _) hb
   replace s0 := Bk.below (Bk.ne (Bk.ne (Bk.ne (Bk.ne s0 (by omega) _) (by omega) _) (by omega) _) (by omega) _) hb
   replace d1 : Bk o5 (w6.heap.size) [.int .i64 k0, .slice j1 ms.regs.length k1, .slice a3 ms.mem.vals.length c3, .slice a4 ms.mem.arrs.length c4] := Bk.below (Bk.at (Bk.at (Bk.at (Bk.at d1 0 (.int .i64 k0)) 1 (.slice j1 ms.regs.length k1)) 2 (.slice a3 ms.mem.vals.length c3)) 3 (.slice a4 ms.mem.arrs.length c4)) hb
   replace j0 := btr (bst (bst (bst (bst j0 (w6.heap.size) 0 (by omega) (.int .i64 k0)) (w6.heap.size) 1 (by omega) (.slice j1 ms.regs.length k1)) (w6.heap.size) 2 (by omega) (.slice a3 ms.mem.vals.length c3)) (w6.heap.size) 3 (by omega) (.slice a4 ms.mem.arrs.length c4)) hb
   clear hb
   rw [← n2]
   clear n2
   refine hK.out _ _ ⟨b0, d0, e0, f0⟩ (fun hHeld => ?_)
   clear hK K
   try simp only [Ep]
   refine wpAnyH_done (by kernel_rfl) ?_ _
   refine NoPanic.normal ?_
   clear hHeld
   obtain ⟨rC, mD, sC, nD, tC, oD, uC, pD⟩ := Bk.f4 d1 0 1 2 3 rfl rfl rfl rfl
   go_wp2_with fail
   go_meet
   exact ⟨_, _, _, rfl, d1, q0, s0, Om r2 (by omega), fun q h => by have := i1 q h; have := i1 q h; omega, by omega, g0, h0, o0, j0⟩
  obtain ⟨w7, rfl⟩ : ∃ W, W = wc := ⟨_, rfl⟩
  clear j0 h0 q0 s0 o0 i0 g0
  obtain ⟨b8, xa, xc, rfl, z1, g2, t1, f9, iB, mG, g0, h0, o0, j0⟩ := hcut
  obtain ⟨gx, cx, m8⟩ := own_pos f9 (by omega)
  obtain ⟨rfl, rfl⟩ : xa = some ⟨gx, 0, none⟩ ∧ xc = cx := by simp only [Value.slice.injEq] at m8; exact ⟨m8.1, m8.2.2⟩
  clear m8
  have uG : ¬ gx = b8 := iB gx rfl; clear iB
  have iC := Bk.lz z1
  have jC := Bk.lz g2
  have kC := Bk.lz t1
  have oX : RwI w7 w5.heap.size gx ms.regs.length xc ms.regs := ⟨f9, rfl⟩; clear f9
  have xE := oX.lt
  have r8 : Hid (AdjOk c ms ms.regs ∧ RwI w7 w5.heap.size gx ms.regs.length xc ms.regs) := Lib.hid ⟨s4.out, oX⟩; clear oX s4
  have z5 : Hid (∃ (k : Nat) (X : List Int), Value.int .i64 0 = .int .i64 k ∧ k ≤ 14 ∧ Hid (AdjOk c ms X) ∧ RwI w7 w5.heap.size gx ms.regs.length xc X ∧ Bk w7 b8 [.int .i64 k0, .slice (some ⟨gx, 0, none⟩) ms.regs.length xc, .slice a3 ms.mem.vals.length c3, .slice a4 ms.mem.arrs.length c4] ∧ Bk w7 (w1.heap.size) [.slice a0 c.vars.length c0, .slice a1 c.arrays.length c1, .slice a2 c.list.length c2] ∧ Bk w7 (w1.heap.size + 1) [.int .i64 k0, .slice a5 ms.regs.length c5, .slice a3 ms.mem.vals.length c3, .slice a4 ms.mem.arrs.length c4] ∧ Below w1.heap.size w1 w7 ∧ Below w2.heap.size w2 w7 ∧ Below w5.heap.size w5 w7 ∧ Below w.heap.size w w7) := Lib.hid ⟨0, ms.regs, rfl, by omega, Lib.hid r8.out.1, r8.out.2, z1, g2, t1, h0, o0, g0, j0⟩
  clear r8
  go_wp2_with fail
  go_loopw [9] (fun i wr => ∃ (k : Nat) (X : List Int), i = .int .i64 k ∧ k ≤ 14 ∧ Hid (AdjOk c ms X) ∧ RwI wr w5.heap.size gx ms.regs.length xc X ∧ Bk wr b8 [.int .i64 k0, .slice (some ⟨gx, 0, none⟩) ms.regs.length xc, .slice a3 ms.mem.vals.length c3, .slice a4 ms.mem.arrs.length c4] ∧ Bk wr (w1.heap.size) [.slice a0 c.vars.length c0, .slice a1 c.arrays.length c1, .slice a2 c.list.length c2] ∧ Bk wr (w1.heap.size + 1) [.int .i64 k0, .slice a5 ms.regs.length c5, .slice a3 ms.mem.vals.length c3, .slice a4 ms.mem.arrs.length c4] ∧ Below w1.heap.size w1 wr ∧ Below w2.heap.size w2 wr ∧ Below w5.heap.size w5 wr ∧ Below w.heap.size w wr) (fun i _ => 14 - (intOf i).toNat)
  case atStart => exact z5.out
  case round =>
   clear z5 j0 z1 g2 t1 h0 o0 g0
   obtain ⟨k, X, rfl, hk, s4, oX, z1, g2, t1, h0, o0, g0, j0⟩ := hrel
   obtain ⟨wl, rfl⟩ : ∃ X, X = wr := ⟨_, rfl⟩
   have lC := Bk.lz z1
   have mC := Bk.lz g2
   have nC := Bk.lz t1
   have xE := oX.lt
   have jG : X.length ≤ ms.regs.length ∧ ms.regs.length ≤ X.length := by have := oX.len; omega
   by_cases hlt : k < 14
   ·have hq : (k : Int) < 14 := by omega
    obtain ⟨b1, f1, u1, rfl, uE, e1, eF⟩ := ((s8.out _ o0)).at k0 yE
    obtain ⟨aF, cF, aa, dG, b2, f2, rfl, c6, jB, b6⟩ := eF
    obtain ⟨rfl, vE⟩ := jB (by omega)
    have e2 := b6 k (by rw [bools_length]; omega)
    rw [bools_get] at e2
    have r5 := jE.out k (by omega)
    clear b6 jB cF c6 aF
    have tB : (k0 : Int) < (L.length : Int) := by omega
    have qG : (k : Int) < (L[k0].length : Int) := by omega
    cases hbv : L[k0][k] with
    | true =>
     rw [hbv] at e2 r5
     have fB := Lib.hid r5; clear r5
     clear hbv
     obtain ⟨c0_, f0_⟩ := Bk.cf t1 0 rfl
     have a6 := Lib.hid (And.intro oX (And.intro z1 (And.intro g2 (And.intro t1 (And.intro h0 (And.intro o0 (And.intro g0 j0)))))))
     go_wp2
     go_roundw
     case rel => exact ⟨k + 1, X, by go_num, by omega, s4, a6.out⟩
     case measure => simp [intOf]; omega
    | false =>
     rw [hbv] at e2 r5
     have fB := Lib.hid r5; clear r5
     clear hbv
     obtain ⟨y, hy⟩ : ∃ y, X[k]? = some y := ⟨_, List.getElem?_eq_getElem (by omega)⟩
     have cC : 0 ≤ y ∧ y < 256 := s4.out.rng y (List.mem_of_getElem? hy)
     obtain ⟨e3, f3⟩ := (show wl.cell? ⟨gx, k, none⟩ = some (.int .i64 y) ∧ wl.frozen? ⟨gx, k, none⟩ = false from oX.cell hy)
     have iE := Lib.hid (s4.out.set fB.out.symm (z := (y + 1 + (n1 : Int)).tmod 256) (by rw [Int.tmod_eq_emod_of_nonneg (by omega)]; omega))
     have sG : IntKind.i64.wrap (y + 1) = y + 1 := IntWalk.i64_in _ (by omega); have tG : IntKind.i64.wrap (y + 1 + (n1 : Int)) = y + 1 + n1 := IntWalk.i64_in _ (by omega)
     have rG : (k : Int) < (ms.regs.length : Int) := by omega
     have nG := Lc e3
     clear hy
     obtain ⟨p6, o7⟩ := Bk.cf t1 0 rfl
     go_upto_region 12 with (fail)
     have oC := Lc e3
     clear o7 p6
     obtain ⟨d2, o4⟩ := Bk.cf z1 1 rfl
     refine wp_region_noPanic ?_
     refine wp_region_held_drew (S := (fun W' => W'.cell? ⟨b8, 1, none⟩ = some (.slice (some ⟨gx, 0, none⟩) ms.regs.length xc))) (by kernel_rfl) (Kc (Below.drew (Bs wl)) d2) (fun hHeld => ?_)
     obtain ⟨w8, k5⟩ : ∃ X, X = World.drew wl := ⟨_, rfl⟩
     rw [← k5] at hHeld ⊢
     have hb : Below wl.heap.size wl w8 := by rw [k5]; exact Below.drew (Bs _)
     clear k5
     replace oX := oX.below hb
     replace h0 := btr h0 hb
     replace o0 := btr o0 hb
     replace g0 := btr g0 hb
     have a9 := hb.size
     replace f3 := Kf hb (Lc e3) f3
     replace o4 := Kf hb (Lc d2) o4
     replace e3 := Kc hb e3
     replace d2 := Kc hb d2
     replace z1 := Bk.below z1 hb
     replace g2 := Bk.below g2 hb
     replace t1 := Bk.below t1 hb
     replace j0 := btr j0 hb
     clear hb
     refine (tq 0 69 rfl rfl ?_ ?_ (tq 1 70 rfl rfl ?_ ?_ (tq 2 71 rfl rfl ?_ ?_ (tq 3 72 rfl rfl ?_ ?_ (tq 4 73 rfl rfl ?_ ?_ (tq 5 74 rfl rfl ?_ ?_ (tq 6 75 rfl rfl ?_ ?_ (tq 9 78 rfl rfl ?_ ?_ (tq 10 79 rfl rfl ?_ ?_ ?_)))))))))
     iterate 9 (rotate_left; intro W' hSw; (try dsimp only at hSw); go_simp; try with_reducible rfl)
     try simp only [Ep]
     refine Rdy 7 rfl (fun K hK => ?_)
     go_simp
     refine hK.out _ _ (d2) (fun hHeld => ?_)
     clear hK K
     try simp only [Ep]
     refine (tq 8 77 rfl rfl ?_ ?_ (tq 11 80 rfl rfl ?_ ?_ (tq 12 81 rfl rfl ?_ ?_ (tq 13 82 rfl rfl ?_ ?_ ?_))))
     iterate 4 (rotate_left; intro W' hSw; (try dsimp only at hSw); go_simp; try with_reducible rfl)
     try simp only [Ep]
     refine Rdy 14 rfl (fun K hK => ?_)
     go_simp
     obtain ⟨w9, n2, hb⟩ := nmw (World.setCell w8 ⟨gx, k, none⟩ (.int .i64 ((y + 1 + (n1 : Int)).tmod 256)))
     replace oX := (oX.put (k) ((y + 1 + (n1 : Int)).tmod 256)).below hb
     replace h0 := btr (bst h0 (gx) (k) (by omega) (.int .i64 ((y + 1 + (n1 : Int)).tmod 256))) hb
     replace o0 := btr (bst o0 (gx) (k) (by omega) (.int .i64 ((y + 1 + (n1 : Int)).tmod 256))) hb
     replace g0 := btr (bst g0 (gx) (k) (by omega) (.int .i64 ((y + 1 + (n1 : Int)).tmod 256))) hb
     have h5 := hb.size
     simp only [Ss] at h5
     replace f3 := Kf hb (Lc (Tc _ (gx) k (.int .i64 ((y + 1 + (n1 : Int)).tmod 256)) e3)) (Fs f3 _)
     replace o4 := Kf hb (Lc (Nc d2 (by omega) _)) (Fs o4 _)
     replace e3 : w9.cell? ⟨gx, k, none⟩ = some (.int .i64 ((y + 1 + (n1 : Int)).tmod 256)) := Kc hb (Tc _ (gx) k (.int .i64 ((y + 1 + (n1 : Int)).tmod 256)) e3)
     replace d2 := Kc hb (Nc d2 (by omega) _)
     replace z1 := Bk.below (Bk.ne z1 (by omega) _) hb
     replace g2 := Bk.below (Bk.ne g2 (by omega) _) hb
     replace t1 := Bk.below (Bk.ne t1 (by omega) _) hb
     replace j0 := btr (bst j0 (gx) k (by omega) (.int .i64 ((y + 1 + (n1 : Int)).tmod 256))) hb
     clear hb
     rw [← n2]
     clear n2
     refine hK.out _ _ (d2) (fun hHeld => ?_)
     clear hK K
     try simp only [Ep]
     refine wpAnyH_done (by kernel_rfl) ?_ _
     refine NoPanic.normal ?_
     clear hHeld
     have a6 := Lib.hid (And.intro oX (And.intro z1 (And.intro g2 (And.intro t1 (And.intro h0 (And.intro o0 (And.intro g0 j0)))))))
     go_wp2
     go_roundw
     case rel => exact ⟨k + 1, _, by go_num, by omega, iE, a6.out⟩
     case measure => simp [intOf]; omega
   have hq : decide ((k : Int) < 14) = false := decide_eq_false (by omega)
   have tB : ¬ (k : Int) < 14 := by omega
   have q5 := (HS.out _ h0)
   have d6 : ReadsS wl (.slice (some ⟨gx, 0, none⟩) ms.regs.length xc) (.slice a3 ms.mem.vals.length c3) (.slice a4 ms.mem.arrs.length c4) ⟨ms.pc, X, ms.mem⟩ := ⟨oX.reads (by omega), q5.m⟩
   clear oX
   have q4 : Hid (mvOk c ms = true ∧ mvOk c ⟨ms.pc, X, ms.mem⟩ = true ∧ LvEq c ms ⟨ms.pc, X, ms.mem⟩) := Lib.hid ⟨v4.out, s4.out.mv v4.out, s4.out.lv⟩; clear s4
   have z5 : Hid (∃ (k : Nat) (S T : Ms) (x0 x1 x2 y0 y1 y2 : Option Addr) (l0 l1 l2 s5 t5 u5 m0 m1 m2 v5 x5 y5 : Nat), Value.int .i64 0 = .int .i64 k ∧ k ≤ 60 ∧ Bk wl (w1.heap.size + 1) [.int .i64 S.pc, .slice x0 l0 s5, .slice x1 l1 t5, .slice x2 l2 u5] ∧ Bk wl b8 [.int .i64 T.pc, .slice y0 m0 v5, .slice y1 m1 x5, .slice y2 m2 y5] ∧ Bk wl (w1.heap.size) [.slice a0 c.vars.length c0, .slice a1 c.arrays.length c1, .slice a2 c.list.length c2] ∧ ReadsS wl (.slice x0 l0 s5) (.slice x1 l1 t5) (.slice x2 l2 u5) S ∧ ReadsS wl (.slice y0 m0 v5) (.slice y1 m1 x5) (.slice y2 m2 y5) T ∧ Hid (mvOk c S = true ∧ mvOk c T = true ∧ LvEq c S T) ∧ Below w1.heap.size w1 wl ∧ Below w.heap.size w wl) := Lib.hid ⟨0, ms, ⟨ms.pc, X, ms.mem⟩, _, _, _, _, _, _, _, _, _, _, _, _, _, _, _, _, _, _, rfl, by omega, by rw [dB.out]; exact t1, by dsimp only; rw [dB.out]; exact z1, g2, q5, d6, q4, h0, j0⟩; clear q5 d6 q4
   go_wp2_with fail
   go_loopw [10] (fun i wr => ∃ (k : Nat) (S T : Ms) (x0 x1 x2 y0 y1 y2 : Option Addr) (l0 l1 l2 s5 t5 u5 m0 m1 m2 v5 x5 y5 : Nat), i = .int .i64 k ∧ k ≤ 60 ∧ Bk wr (w1.heap.size + 1) [.int .i64 S.pc, .slice x0 l0 s5, .slice x1 l1 t5, .slice x2 l2 u5] ∧ Bk wr b8 [.int .i64 T.pc, .slice y0 m0 v5, .slice y1 m1 x5, .slice y2 m2 y5] ∧ Bk wr (w1.heap.size) [.slice a0 c.vars.length c0, .slice a1 c.arrays.length c1, .slice a2 c.list.length c2] ∧ ReadsS wr (.slice x0 l0 s5) (.slice x1 l1 t5) (.slice x2 l2 u5) S ∧ ReadsS wr (.slice y0 m0 v5) (.slice y1 m1 x5) (.slice y2 m2 y5) T ∧ Hid (mvOk c S = true ∧ mvOk c T = true ∧ LvEq c S T) ∧ Below w1.heap.size w1 wr ∧ Below w.heap.size w wr) (fun i _ => 60 - (intOf i).toNat)
   case atStart => exact z5.out
   case round =>
    clear z5 j0 z1 g2 t1 h0
    obtain ⟨k, S, T, x0, x1, x2, y0, y1, y2, l0, l1, l2, s5, t5, u5, m0, m1, m2, v5, x5, y5, rfl, hk, t1, z1, g2, q5, d6, q4, h0, j0⟩ := hrel
    obtain ⟨wm, rfl⟩ : ∃ X, X = wr := ⟨_, rfl⟩
    have y4 := Bk.lz t1
    have z4 := Bk.lz z1
    have b5 := Bk.lz g2
    by_cases hlt : k < 60
    ·have hq : (k : Int) < 60 := by omega
     have tE : w1.heap.size + 1 < wm.heap.size ∧ b8 < wm.heap.size := ⟨Bk.lz t1, Bk.lz z1⟩
     obtain ⟨⟨hA, hB⟩, x8, v8⟩ := lv_next q4.out.1 q4.out.2.1 q4.out.2.2
     obtain ⟨dC, eC, fC, gC⟩ := mv_len q4.out.1 (by omega) (by omega)
     obtain ⟨cC, gF, hF, iF⟩ := mv_len q4.out.2.1 (by omega) (by omega)
     obtain ⟨pB, qB, rB, sB⟩ := mv_len hA (by omega) (by omega)
     obtain ⟨mB, nB, p8, oB⟩ := mv_len hB (by omega) (by omega)
     have kE := Lib.hid v8; have eB := Lib.hid x8; have bB := Lib.hid (And.intro hA hB); have pG : ((stepN c S).pc != (stepN c T).pc) = false := by rw [x8.pc]; simp
     have wE := stEvs_len (insAt c S.pc) S
     have cB : Hid ((stepE c S).length ≤ 2 ∧ (stepE c T).length ≤ 2) := Lib.hid ⟨by unfold stepE; omega, by rw [← v8]; unfold stepE; omega⟩
     clear hA hB x8 v8 wE
     have s1 := Bs wm
     have qE := Lib.hid (fun W (hW : Below wm.heap.size wm W) => q5.below hW)
     have rE := Lib.hid (fun W (hW : Below wm.heap.size wm W) => d6.below hW)
     clear q5 d6
     obtain ⟨q6, p7, r6, q7, s6, r7, t6, s7⟩ := Bk.f4 t1 0 1 2 3 rfl rfl rfl rfl
     obtain ⟨u6, t7, v6, u7, x6, v7⟩ := Bk.f3 g2 0 1 2 rfl rfl rfl
     go_wp2_with fail
     have z0 := iStep_any _ _ _ _ _ _ c S _ (HC.out _ h0) (qE.out _ s1) dC eC fC gC
     unfold StepP at z0
     rw [q4.out.1] at z0
     refine (z0).mono ?_
     rintro e w8 ⟨aH, l3, m3, n3, eG, e4, g4, i4, wG, v3, x3, y3, gG, rfl, e6, hb⟩
     obtain ⟨y8, ⟨gE, r4⟩, oG⟩ := e6 rfl
     clear e6
     obtain ⟨x9, y9, e9⟩ := Oh oG
     simp only [Value.slice.injEq] at e9
     obtain ⟨e9a, e9b, e9c⟩ := e9
     subst e9b; clear e9a e9c
     subst y8
     have t4 : ∀ q, OwnMB (.slice l3 e4 v3) (.slice m3 g4 x3) (.slice n3 i4 y3) gE q → wm.heap.size ≤ q := fun q h => by have := (r4.lt q h).1; (try simp only [Sa] at this); omega
     clear z0
     replace h0 := btr h0 hb
     replace s1 := btr s1 hb
     have b9 := hb.size
     clear p7 q6 q7 r6 r7 s6 s7 t6 t7 u6 u7 v6 v7 x6
     replace t1 := Bk.below t1 hb
     replace z1 := Bk.below z1 hb
     replace g2 := Bk.below g2 hb
     replace j0 := btr j0 hb
     clear hb
     have s2 := Bs w8
     have lE := Lib.hid (fun W (hW : Below w8.heap.size w8 W) => (Ro oG (by have := cB.out; omega)).below hW)
     replace y4 := Bk.lz t1
     replace z4 := Bk.lz z1
     replace b5 := Bk.lz g2
     clear oG
     obtain ⟨y6, x7, z6, y7, a7, z7, b7, a8⟩ := Bk.f4 z1 0 1 2 3 rfl rfl rfl rfl
     obtain ⟨c7, c8, d7, d8, e7, e8⟩ := Bk.f3 g2 0 1 2 rfl rfl rfl
     go_wp2_with fail
     have z0 := iStep_any _ _ _ _ _ _ c T _ (HC.out _ (bal h0 (.cells #[.int .i64 ((stepN c S).pc), .slice l3 e4 v3, .slice m3 g4 x3, .slice n3 i4 y3] 39))) (rE.out _ (bal s1 (.cells #[.int .i64 ((stepN c S).pc), .slice l3 e4 v3, .slice m3 g4 x3, .slice n3 i4 y3] 39))) cC gF hF iF
     unfold StepP at z0
     rw [q4.out.2.1] at z0
     refine (z0).mono ?_
     rintro e w9 ⟨bH, r3, s3, t3, fG, j4, k4, l4, xG, z3, b4, d4, hG, rfl, e6, hb⟩
     obtain ⟨y8, ⟨hE, d5⟩, oG⟩ := e6 rfl
     clear e6
     obtain ⟨x9, y9, e9⟩ := Oh oG
     simp only [Value.slice.injEq] at e9
     obtain ⟨e9a, e9b, e9c⟩ := e9
     subst e9b; clear e9a e9c
     subst y8
     have u4 : ∀ q, OwnMB (.slice r3 j4 z3) (.slice s3 k4 b4) (.slice t3 l4 d4) hE q → wm.heap.size ≤ q := fun q h => by have := (d5.lt q h).1; (try simp only [Sa] at this); omega
     clear z0
     replace h0 := btr (bal h0 _) hb
     replace s1 := btr (bal s1 _) hb
     replace s2 := btr (bal s2 _) hb
     have i5 := hb.size
     simp only [Sa] at i5
     clear x7 y6 y7 z6 z7 a7 a8 b7 c8 c7 d8 d7 e8 e7
     replace r4 := (r4.below (bal (Bs _) _)).below hb
     replace t1 := Bk.below (Bk.al t1 _) hb
     replace z1 := Bk.below (Bk.al z1 _) hb
     replace g2 := Bk.below (Bk.al g2 _) hb
     have k2 : Bk w9 (w8.heap.size) [.int .i64 ((stepN c S).pc), .slice l3 e4 v3, .slice m3 g4 x3, .slice n3 i4 y3] := Bk.below (Bk.nw (by simp) rfl) hb
     replace j0 := btr (bal j0 _) hb
     clear hb
     have k3 := Bs w9
     have mE := Lib.hid (fun W (hW : Below w9.heap.size w9 W) => (Ro oG (by have := cB.out; omega)).below hW)
     replace y4 := Bk.lz t1
     replace z4 := Bk.lz z1
     replace b5 := Bk.lz g2
     have pC := Bk.lz k2
     clear oG
     obtain ⟨f7, f8⟩ := Bk.cf k2 0 rfl
     go_wp2_with fail
     have z0 := TraceSame_any _ _ (stepE c S) (stepE c T) _ (lE.out _ (bal s2 (.cells #[.int .i64 ((stepN c T).pc), .slice r3 j4 z3, .slice s3 k4 b4, .slice t3 l4 d4] 39))) (mE.out _ (bal k3 (.cells #[.int .i64 ((stepN c T).pc), .slice r3 j4 z3, .slice s3 k4 b4, .slice t3 l4 d4] 39)))
     rw [decide_eq_true kE.out] at z0
     refine (z0).mono ?_
     rintro e o5 ⟨rfl, hb⟩
     clear z0
     replace h0 := btr (bal h0 _) hb
     replace s1 := btr (bal s1 _) hb
     replace s2 := btr (bal s2 _) hb
     replace k3 := btr (bal k3 _) hb
     have j5 := hb.size
     simp only [Sa] at j5
     clear f8 f7
     replace r4 := (r4.below (bal (Bs _) _)).below hb
     replace d5 := (d5.below (bal (Bs _) _)).below hb
     replace t1 := Bk.below (Bk.al t1 _) hb
     replace z1 := Bk.below (Bk.al z1 _) hb
     replace g2 := Bk.below (Bk.al g2 _) hb
     replace k2 := Bk.below (Bk.al k2 _) hb
     have g3 : Bk o5 (w9.heap.size) [.int .i64 ((stepN c T).pc), .slice r3 j4 z3, .slice s3 k4 b4, .slice t3 l4 d4] := Bk.below (Bk.nw (by simp) rfl) hb
     replace j0 := btr (bal j0 _) hb
     clear hb
     have qC := Bk.lz g3
     obtain ⟨g7, g8, h7, h8⟩ := Bk.f2 k2 2 3 rfl rfl
     obtain ⟨i7, i8, j7, j8⟩ := Bk.f2 g3 2 3 rfl rfl
     go_wp2_with fail
     have z0 := MemorySame_any _ _ _ _ (stepN c S).mem (stepN c T).mem _ (OwnMv.rdS (s := stepN c S) r4 pB qB rB sB).m (OwnMv.rdS (s := stepN c T) d5 mB nB p8 oB).m
     rw [decide_eq_true eB.out.mem] at z0
     refine (z0).mono ?_
     rintro e aB ⟨rfl, hb⟩
     clear z0
     replace h0 := btr h0 hb
     replace s1 := btr s1 hb
     replace s2 := btr s2 hb
     replace k3 := btr k3 hb
     have c9 := hb.size
     clear g8 g7 h8 h7 i8 i7 j8 j7
     replace r4 := r4.below hb
     replace d5 := d5.below hb
     replace t1 := Bk.below t1 hb
     replace z1 := Bk.below z1 hb
     replace g2 := Bk.below g2 hb
     replace k2 := Bk.below k2 hb
     replace g3 := Bk.below g3 hb
     replace j0 := btr j0 hb
     clear hb
     obtain ⟨vC, qD, wC, rD, xC, sD, yC, tD⟩ := Bk.f4 t1 0 1 2 3 rfl rfl rfl rfl
     obtain ⟨zC, uD, aD, vD, bD, wD, cD, xD⟩ := Bk.f4 z1 0 1 2 3 rfl rfl rfl rfl
     obtain ⟨dD, yD, eD, zD, fD, aE, gD, bE⟩ := Bk.f4 k2 0 1 2 3 rfl rfl rfl rfl
     obtain ⟨hD, cE, iD, dE, jD, eE, kD, fE⟩ := Bk.f4 g3 0 1 2 3 rfl rfl rfl rfl
     have pE := Lib.hid (OwnMv.rdS (s := stepN c S) ((((((((r4.keep (C1 (w1.heap.size + 1) 0 (.int .i64 ((stepN c S).pc))) (fun gq h h2 => by have := t4 gq h; omega)).keep (C1 (w1.heap.size + 1) 1 (.slice l3 e4 v3)) (fun gq h h2 => by have := t4 gq h; omega)).keep (C1 (w1.heap.size + 1) 2 (.slice m3 g4 x3)) (fun gq h h2 => by have := t4 gq h; omega)).keep (C1 (w1.heap.size + 1) 3 (.slice n3 i4 y3)) (fun gq h h2 => by have := t4 gq h; omega)).keep (C1 (b8) 0 (.int .i64 ((stepN c T).pc))) (fun gq h h2 => by have := t4 gq h; omega)).keep (C1 (b8) 1 (.slice r3 j4 z3)) (fun gq h h2 => by have := t4 gq h; omega)).keep (C1 (b8) 2 (.slice s3 k4 b4)) (fun gq h h2 => by have := t4 gq h; omega)).keep (C1 (b8) 3 (.slice t3 l4 d4)) (fun gq h h2 => by have := t4 gq h; omega)) pB qB rB sB); have sE := Lib.hid (OwnMv.rdS (s := stepN c T) ((((((((d5.keep (C1 (w1.heap.size + 1) 0 (.int .i64 ((stepN c S).pc))) (fun gq h h2 => by have := u4 gq h; omega)).keep (C1 (w1.heap.size + 1) 1 (.slice l3 e4 v3)) (fun gq h h2 => by have := u4 gq h; omega)).keep (C1 (w1.heap.size + 1) 2 (.slice m3 g4 x3)) (fun gq h h2 => by have := u4 gq h; omega)).keep (C1 (w1.heap.size + 1) 3 (.slice n3 i4 y3)) (fun gq h h2 => by have := u4 gq h; omega)).keep (C1 (b8) 0 (.int .i64 ((stepN c T).pc))) (fun gq h h2 => by have := u4 gq h; omega)).keep (C1 (b8) 1 (.slice r3 j4 z3)) (fun gq h h2 => by have := u4 gq h; omega)).keep (C1 (b8) 2 (.slice s3 k4 b4)) (fun gq h h2 => by have := u4 gq h; omega)).keep (C1 (b8) 3 (.slice t3 l4 d4)) (fun gq h h2 => by have := u4 gq h; omega)) mB nB p8 oB)
     have q8 : Hid (Bk (World.setCell (World.setCell (World.setCell (World.setCell (World.setCell (World.setCell (World.setCell (World.setCell aB ⟨w1.heap.size + 1, 0, none⟩ (.int .i64 ((stepN c S).pc))) ⟨w1.heap.size + 1, 1, none⟩ (.slice l3 e4 v3)) ⟨w1.heap.size + 1, 2, none⟩ (.slice m3 g4 x3)) ⟨w1.heap.size + 1, 3, none⟩ (.slice n3 i4 y3)) ⟨b8, 0, none⟩ (.int .i64 ((stepN c T).pc))) ⟨b8, 1, none⟩ (.slice r3 j4 z3)) ⟨b8, 2, none⟩ (.slice s3 k4 b4)) ⟨b8, 3, none⟩ (.slice t3 l4 d4)) (w1.heap.size + 1) [.int .i64 (stepN c S).pc, .slice l3 e4 v3, .slice m3 g4 x3, .slice n3 i4 y3] ∧ Bk (World.setCell (World.setCell (World.setCell (World.setCell (World.setCell (World.setCell (World.setCell (World.setCell aB ⟨w1.heap.size + 1, 0, none⟩ (.int .i64 ((stepN c S).pc))) ⟨w1.heap.size + 1, 1, none⟩ (.slice l3 e4 v3)) ⟨w1.heap.size + 1, 2, none⟩ (.slice m3 g4 x3)) ⟨w1.heap.size + 1, 3, none⟩ (.slice n3 i4 y3)) ⟨b8, 0, none⟩ (.int .i64 ((stepN c T).pc))) ⟨b8, 1, none⟩ (.slice r3 j4 z3)) ⟨b8, 2, none⟩ (.slice s3 k4 b4)) ⟨b8, 3, none⟩ (.slice t3 l4 d4)) b8 [.int .i64 (stepN c T).pc, .slice r3 j4 z3, .slice s3 k4 b4, .slice t3 l4 d4] ∧ Bk (World.setCell (World.setCell (World.setCell (World.setCell (World.setCell (World.setCell (World.setCell (World.setCell aB ⟨w1.heap.size + 1, 0, none⟩ (.int .i64 ((stepN c S).pc))) ⟨w1.heap.size + 1, 1, none⟩ (.slice l3 e4 v3)) ⟨w1.heap.size + 1, 2, none⟩ (.slice m3 g4 x3)) ⟨w1.heap.size + 1, 3, none⟩ (.slice n3 i4 y3)) ⟨b8, 0, none⟩ (.int .i64 ((stepN c T).pc))) ⟨b8, 1, none⟩ (.slice r3 j4 z3)) ⟨b8, 2, none⟩ (.slice s3 k4 b4)) ⟨b8, 3, none⟩ (.slice t3 l4 d4)) (w1.heap.size) [.slice a0 c.vars.length c0, .slice a1 c.arrays.length c1, .slice a2 c.list.length c2]) := Lib.hid ⟨(Bk.ne (b' := b8) (j' := 3) (Bk.ne (b' := b8) (j' := 2) (Bk.ne (b' := b8) (j' := 1) (Bk.ne (b' := b8) (j' := 0) (Bk.at (Bk.at (Bk.at (Bk.at t1 0 (.int .i64 ((stepN c S).pc))) 1 (.slice l3 e4 v3)) 2 (.slice m3 g4 x3)) 3 (.slice n3 i4 y3)) (by omega) (.int .i64 ((stepN c T).pc))) (by omega) (.slice r3 j4 z3)) (by omega) (.slice s3 k4 b4)) (by omega) (.slice t3 l4 d4)), (Bk.at (Bk.at (Bk.at (Bk.at (Bk.ne (b' := (w1.heap.size + 1)) (j' := 3) (Bk.ne (b' := (w1.heap.size + 1)) (j' := 2) (Bk.ne (b' := (w1.heap.size + 1)) (j' := 1) (Bk.ne (b' := (w1.heap.size + 1)) (j' := 0) z1 (by omega) (.int .i64 ((stepN c S).pc))) (by omega) (.slice l3 e4 v3)) (by omega) (.slice m3 g4 x3)) (by omega) (.slice n3 i4 y3)) 0 (.int .i64 ((stepN c T).pc))) 1 (.slice r3 j4 z3)) 2 (.slice s3 k4 b4)) 3 (.slice t3 l4 d4)), (Bk.ne (b' := b8) (j' := 3) (Bk.ne (b' := b8) (j' := 2) (Bk.ne (b' := b8) (j' := 1) (Bk.ne (b' := b8) (j' := 0) (Bk.ne (b' := (w1.heap.size + 1)) (j' := 3) (Bk.ne (b' := (w1.heap.size + 1)) (j' := 2) (Bk.ne (b' := (w1.heap.size + 1)) (j' := 1) (Bk.ne (b' := (w1.heap.size + 1)) (j' := 0) g2 (by omega) (.int .i64 ((stepN c S).pc))) (by omega) (.slice l3 e4 v3)) (by omega) (.slice m3 g4 x3)) (by omega) (.slice n3 i4 y3)) (by omega) (.int .i64 ((stepN c T).pc))) (by omega) (.slice r3 j4 z3)) (by omega) (.slice s3 k4 b4)) (by omega) (.slice t3 l4 d4))⟩
     have a6 := Lib.hid (And.intro (bst (bst (bst (bst (bst (bst (bst (bst h0 (w1.heap.size + 1) (0) (by omega) (.int .i64 ((stepN c S).pc))) (w1.heap.size + 1) (1) (by omega) (.slice l3 e4 v3)) (w1.heap.size + 1) (2) (by omega) (.slice m3 g4 x3)) (w1.heap.size + 1) (3) (by omega) (.slice n3 i4 y3)) (b8) (0) (by omega) (.int .i64 ((stepN c T).pc))) (b8) (1) (by omega) (.slice r3 j4 z3)) (b8) (2) (by omega) (.slice s3 k4 b4)) (b8) (3) (by omega) (.slice t3 l4 d4)) (bst (bst (bst (bst (bst (bst (bst (bst j0 (w1.heap.size + 1) 0 (by omega) (.int .i64 ((stepN c S).pc))) (w1.heap.size + 1) 1 (by omega) (.slice l3 e4 v3)) (w1.heap.size + 1) 2 (by omega) (.slice m3 g4 x3)) (w1.heap.size + 1) 3 (by omega) (.slice n3 i4 y3)) (b8) 0 (by omega) (.int .i64 ((stepN c T).pc))) (b8) 1 (by omega) (.slice r3 j4 z3)) (b8) 2 (by omega) (.slice s3 k4 b4)) (b8) 3 (by omega) (.slice t3 l4 d4))); clear r4 d5 t4 u4
     go_wp2
     go_roundw
     case rel => exact ⟨k + 1, _, _, _, _, _, _, _, _, _, _, _, _, _, _, _, _, _, _, _, _, by go_num, by omega, q8.out.1, q8.out.2.1, q8.out.2.2, pE.out, sE.out, Lib.hid ⟨bB.out.1, bB.out.2, eB.out⟩, a6.out⟩
     case measure => simp [intOf]; omega
    have hq : decide ((k : Int) < 60) = false := decide_eq_false (by omega)
    have tB : ¬ (k : Int) < 60 := by omega
    have tt := j0
    go_wp2
    go_ret
    exact ⟨rfl, tt⟩
end Go.Proofs.Ytkjedgnepnbkpaa
