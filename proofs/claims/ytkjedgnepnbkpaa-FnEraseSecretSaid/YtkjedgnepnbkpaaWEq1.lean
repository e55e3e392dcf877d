/-
 Parts of the proofs of the laws FnCheckLive, FnCodeFenced, FnEraseCode, FnEraseSecret, FnFinalRegs, FnLiveRegister, FnLiveRegs, FnSpecPath.
-/
import Derived.Test.YtkjedgnepnbkpaaZPq1
import Derived.Test.YtkjedgnepnbkpaaBB
set_option linter.all false
namespace Go.Proofs.Ytkjedgnepnbkpaa
open Go.RowKit
theorem law_erase2 {c : Cd} (h : codeOk c = true ∧ c.list.length ≤ 385) (a b : Mm) (ha : (finR (eraseC c) a).2 = true) (hb : (finR (eraseC c) b).2 = true) : (finR (eraseC c) a).1 = (finR (eraseC c) b).1 := by
 have a0 := erase_ok h
 rcases erase_regs h.1 a0 (m := a) with e | e
 ·rcases erase_regs h.1 a0 (m := b) with e2 | e2
  ·rw [e, e2]
  rw [e2] at hb; cases hb
 rw [e] at ha; cases ha
end Go.Proofs.Ytkjedgnepnbkpaa
namespace Go.Proofs.Ytkjedgnepnbkpaa
open Go.RowKit
set_option maxHeartbeats 12800000 in
set_option maxRecDepth 100000 in
theorem FnEraseSecret_walk (v : Value) (n : Nat) (vs : List Int) (w : World) (r0 : Reads w 1 v n (vs.map (Value.int .u8))) (hv : ∀ x ∈ vs, 0 ≤ x ∧ x < 256) :
  Calls Try.prog 8 #[v] w fun e w' => e = .returned (.bool true) ∧ Below w.heap.size w w' := by
 obtain ⟨va, vc, rfl⟩ := reads_shape r0
 by_cases hn : n ≤ 1048576
 case neg =>
  have e5 : (1048576 : Int) < (n : Int) := by omega
  clear r0
  go_enter Try.func8, Try.ntmps8
  go_wp2
  go_ret
  exact ⟨rfl, Below.refl _ _⟩
 have e5 : ¬ (1048576 : Int) < (n : Int) := by omega
 go_enter Try.func8, Try.ntmps8
 go_wp2_with fail
 refine (DrawCodeRuns_any _ n vs _ (r0.below (Bs w)) hv hn).mono ?_
 rintro e w1 ⟨f6, g6, h6, d6, e6, s5, t5, r5, p5, q5, m, m2, rfl, r4, i1, hm, v0, hb⟩
 clear r0 hv
 obtain ⟨c, w0⟩ := RdC.of r4 i1.1 i1.2.1 i1.2.2
 clear r4 i1
 obtain ⟨a0, c0, a1, c1, a2, c2, rfl, rfl, rfl⟩ := w0.r.shape
 obtain ⟨a3, c3, a4, c4, rfl, rfl⟩ := hm.reads.shape
 obtain ⟨a5, c5, a6, c6, rfl, rfl⟩ := v0.reads.shape
 have n5 : c.vars.length ≤ 1000 ∧ c.arrays.length ≤ 1000 ∧ c.list.length ≤ 1000 := ⟨w0.l0, w0.l1, w0.l2⟩
 have n1 : m.vals.length ≤ 1048576 ∧ m.arrs.length ≤ 1048576 ∧ pre2 m.arrs m.arrs.length ≤ 1048576 := by have h2 := hm.l0; have h3 := hm.l1; have h4 := hm.pre; omega
 have p1 : m2.vals.length ≤ 1048576 ∧ m2.arrs.length ≤ 1048576 ∧ pre2 m2.arrs m2.arrs.length ≤ 1048576 := by have h2 := v0.l0; have h3 := v0.l1; have h4 := v0.pre; omega
 have f5 := hb.size
 have k0 := btr (Bs w) hb
 clear hb
 have j0 := Bs w1
 have HC := Lib.hid (fun W (hW : Below w1.heap.size w1 W) => w0.r.below hW)
 have HM := Lib.hid (fun W (hW : Below w1.heap.size w1 W) => hm.reads.below hW)
 have HN := Lib.hid (fun W (hW : Below w1.heap.size w1 W) => v0.reads.below hW)
 clear w0 hm v0
 obtain ⟨D, ok, m1⟩ : ∃ D ok, eraseR c = (D, ok) := ⟨_, _, rfl⟩
 have o5 : D.vars.length ≤ 1048576 ∧ D.arrays.length ≤ 1048576 ∧ D.list.length ≤ 1048576 := by have := eraseR_lens c; rw [m1] at this; exact this
 have k1 := Lib.hid m1; clear m1
 go_wp2_with fail
 have h0 := iErase_any _ _ _ c _ (HC.out _ (bal (bal (bal j0 (.cells #[.slice a0 c.vars.length c0, .slice a1 c.arrays.length c1, .slice a2 c.list.length c2] 26)) (.cells #[.slice a3 m.vals.length c3, .slice a4 m.arrs.length c4] 37)) (.cells #[.slice a5 m2.vals.length c5, .slice a6 m2.arrs.length c6] 37)))
 rw [k1.out] at h0; dsimp only at h0
 refine (h0).mono ?_
 rintro e w2 ⟨u5, x5, z5, rfl, o1, hb⟩
 obtain ⟨d0, g0, d1, g1, d2, g2, rfl, rfl, rfl⟩ := o1.shape
 clear h0
 replace j0 := btr (bal (bal (bal j0 _) _) _) hb
 have q1 := hb.size
 simp only [Sa] at q1
 have n0 : Bk w2 (w1.heap.size) [.slice a0 c.vars.length c0, .slice a1 c.arrays.length c1, .slice a2 c.list.length c2] := Bk.below (Bk.al (Bk.al (Bk.nw (by simp) rfl) (.cells #[.slice a3 m.vals.length c3, .slice a4 m.arrs.length c4] 37)) (.cells #[.slice a5 m2.vals.length c5, .slice a6 m2.arrs.length c6] 37)) hb
 have o0 : Bk w2 (w1.heap.size + 1) [.slice a3 m.vals.length c3, .slice a4 m.arrs.length c4] := Bk.below (Bk.al (Bk.nw (by simp) rfl) (.cells #[.slice a5 m2.vals.length c5, .slice a6 m2.arrs.length c6] 37)) hb
 have p0 : Bk w2 (w1.heap.size + 1 + 1) [.slice a5 m2.vals.length c5, .slice a6 m2.arrs.length c6] := Bk.below (Bk.nw (by simp) rfl) hb
 replace k0 := btr (bal (bal (bal k0 _) _) _) hb
 clear hb
 have m0 := Bs w2
 have x0 := Lib.hid (fun W (hW : Below w2.heap.size w2 W) => (o1.reads (by omega) (by omega) (by omega)).below hW)
 have j5 := Bk.lz n0
 have k5 := Bk.lz o0
 have r1 := Bk.lz p0
 clear o1
 obtain ⟨s1, g3, t1, i3, u1, j3⟩ := Bk.f3 n0 0 1 2 rfl rfl rfl
 go_wp2_with fail
 have h0 := sErase_any _ _ _ c _ (HC.out _ (bal j0 (.cells #[.slice d0 D.vars.length g0, .slice d1 D.arrays.length g1, .slice d2 D.list.length g2] 26)))
 rw [k1.out] at h0; dsimp only at h0
 refine (h0).mono ?_
 rintro e w3 ⟨v5, y5, b6, rfl, o2, hb⟩
 obtain ⟨e0, f0, e1, f1, e2, f2, rfl, rfl, rfl⟩ := o2.shape
 clear h0
 replace j0 := btr (bal j0 _) hb
 replace m0 := btr (bal m0 _) hb
 have y0 := hb.size
 simp only [Sa] at y0
 clear g3 s1 i3 t1 j3 u1
 replace n0 := Bk.below (Bk.al n0 _) hb
 replace o0 := Bk.below (Bk.al o0 _) hb
 replace p0 := Bk.below (Bk.al p0 _) hb
 have b0 : Bk w3 (w2.heap.size) [.slice d0 D.vars.length g0, .slice d1 D.arrays.length g1, .slice d2 D.list.length g2] := Bk.below (Bk.nw (by simp) rfl) hb
 replace k0 := btr (bal k0 _) hb
 clear hb
 have i0 := Bs w3
 have j1 := Lib.hid (fun W (hW : Below w3.heap.size w3 W) => (o2.reads (by omega) (by omega) (by omega)).below hW)
 replace j5 := Bk.lz n0
 replace k5 := Bk.lz o0
 replace r1 := Bk.lz p0
 have g5 := Bk.lz b0
 clear o2
 cases ok with
 | false =>
  obtain ⟨v1, k3, x1, l3, y1, m3⟩ := Bk.f3 b0 0 1 2 rfl rfl rfl
  go_wp2_with fail
  have h0 := CodeSame_any _ _ _ _ _ _ D D _ (x0.out _ (bal m0 (.cells #[.slice e0 D.vars.length f0, .slice e1 D.arrays.length f1, .slice e2 D.list.length f2] 26))) (j1.out _ (bal i0 (.cells #[.slice e0 D.vars.length f0, .slice e1 D.arrays.length f1, .slice e2 D.list.length f2] 26)))
  rw [decide_eq_true (Eq.refl D)] at h0
  refine (h0).mono ?_
  rintro e w4 ⟨rfl, hb⟩
  clear h0
  replace j0 := btr (bal j0 _) hb
  replace m0 := btr (bal m0 _) hb
  replace i0 := btr (bal i0 _) hb
  have z0 := hb.size
  simp only [Sa] at z0
  clear k3 v1 l3 x1 m3 y1
  replace n0 := Bk.below (Bk.al n0 _) hb
  replace o0 := Bk.below (Bk.al o0 _) hb
  replace p0 := Bk.below (Bk.al p0 _) hb
  replace b0 := Bk.below (Bk.al b0 _) hb
  have t0 : Bk w4 (w3.heap.size) [.slice e0 D.vars.length f0, .slice e1 D.arrays.length f1, .slice e2 D.list.length f2] := Bk.below (Bk.nw (by simp) rfl) hb
  replace k0 := btr (bal k0 _) hb
  clear hb
  have h5 := Bk.lz t0
  obtain ⟨z1, n3, b2, r3, i2, s3⟩ := Bk.f3 b0 0 1 2 rfl rfl rfl
  obtain ⟨j2, t3, k2, v3, n2, x3⟩ := Bk.f3 t0 0 1 2 rfl rfl rfl
  go_wp2_with fail
  have h0 := CodeSame_any _ _ _ _ _ _ D D _ (x0.out _ m0) (j1.out _ i0)
  rw [decide_eq_true (Eq.refl D)] at h0
  refine (h0).mono ?_
  rintro e w5 ⟨rfl, hb⟩
  clear h0
  replace j0 := btr j0 hb
  replace m0 := btr m0 hb
  replace i0 := btr i0 hb
  have s4 := hb.size
  clear n3 z1 r3 b2 s3 i2 t3 j2 v3 k2 x3 n2
  replace n0 := Bk.below n0 hb
  replace o0 := Bk.below o0 hb
  replace p0 := Bk.below p0 hb
  replace b0 := Bk.below b0 hb
  replace t0 := Bk.below t0 hb
  replace k0 := btr k0 hb
  clear hb
  have tt := k0
  go_wp2
  go_ret
  exact ⟨rfl, tt⟩
 | true =>
  obtain ⟨p2, y3, q2, z3, r2, b4⟩ := Bk.f3 b0 0 1 2 rfl rfl rfl
  go_wp2_with fail
  have h0 := CodeSame_any _ _ _ _ _ _ D D _ (x0.out _ (bal m0 (.cells #[.slice e0 D.vars.length f0, .slice e1 D.arrays.length f1, .slice e2 D.list.length f2] 26))) (j1.out _ (bal i0 (.cells #[.slice e0 D.vars.length f0, .slice e1 D.arrays.length f1, .slice e2 D.list.length f2] 26)))
  rw [decide_eq_true (Eq.refl D)] at h0
  refine (h0).mono ?_
  rintro e w4 ⟨rfl, hb⟩
  clear h0
  replace j0 := btr (bal j0 _) hb
  replace m0 := btr (bal m0 _) hb
  replace i0 := btr (bal i0 _) hb
  have b1 := hb.size
  simp only [Sa] at b1
  clear y3 p2 z3 q2 b4 r2
  replace n0 := Bk.below (Bk.al n0 _) hb
  replace o0 := Bk.below (Bk.al o0 _) hb
  replace p0 := Bk.below (Bk.al p0 _) hb
  replace b0 := Bk.below (Bk.al b0 _) hb
  have q0 : Bk w4 (w3.heap.size) [.slice e0 D.vars.length f0, .slice e1 D.arrays.length f1, .slice e2 D.list.length f2] := Bk.below (Bk.nw (by simp) rfl) hb
  replace k0 := btr (bal k0 _) hb
  clear hb
  have i5 := Bk.lz q0
  obtain ⟨X, pb, hX⟩ : ∃ X pb, finR D m = (X, pb) := ⟨_, _, rfl⟩
  obtain ⟨Y, qb, hY⟩ : ∃ Y qb, finR D m2 = (Y, qb) := ⟨_, _, rfl⟩
  have l5 : X.length ≤ 14 := by have := finR_len D m; rw [hX] at this; exact this
  have m5 : Y.length ≤ 14 := by have := finR_len D m2; rw [hY] at this; exact this
  have HX := Lib.hid hX; have HY := Lib.hid hY; clear hX hY
  obtain ⟨s2, d4, t2, e4⟩ := Bk.f2 o0 0 1 rfl rfl
  obtain ⟨u2, f4, v2, g4, x2, i4⟩ := Bk.f3 b0 0 1 2 rfl rfl rfl
  go_wp2_with fail
  have h0 := iFinal_any _ _ _ _ _ D m _ (x0.out _ m0) (HM.out _ j0) n1.1 n1.2.1 n1.2.2
  rw [HX.out] at h0; dsimp only at h0
  refine (h0).mono ?_
  rintro e w5 ⟨u3, rfl, o3, hb⟩
  obtain ⟨p3, q3, rfl⟩ := Oh o3
  clear h0
  replace j0 := btr j0 hb
  replace m0 := btr m0 hb
  replace i0 := btr i0 hb
  have t4 := hb.size
  clear d4 s2 e4 t2 f4 u2 g4 v2 i4 x2
  replace n0 := Bk.below n0 hb
  replace o0 := Bk.below o0 hb
  replace p0 := Bk.below p0 hb
  replace b0 := Bk.below b0 hb
  replace q0 := Bk.below q0 hb
  replace k0 := btr k0 hb
  clear hb
  have s0 := Bs w5
  have z4 := Lib.hid (fun W (hW : Below w5.heap.size w5 W) => (Ro o3 (by omega)).below hW)
  clear o3
  obtain ⟨y2, j4, z2, k4⟩ := Bk.f2 p0 0 1 rfl rfl
  obtain ⟨b3, l4, d3, m4, e3, n4⟩ := Bk.f3 b0 0 1 2 rfl rfl rfl
  go_wp2_with fail
  have h0 := iFinal_any _ _ _ _ _ D m2 _ (x0.out _ m0) (HN.out _ j0) p1.1 p1.2.1 p1.2.2
  rw [HY.out] at h0; dsimp only at h0
  refine (h0).mono ?_
  rintro e w6 ⟨u4, rfl, o4, hb⟩
  obtain ⟨p4, q4, rfl⟩ := Oh o4
  clear h0
  replace j0 := btr j0 hb
  replace m0 := btr m0 hb
  replace i0 := btr i0 hb
  replace s0 := btr s0 hb
  have v4 := hb.size
  clear j4 y2 k4 z2 l4 b3 m4 d3 n4 e3
  replace n0 := Bk.below n0 hb
  replace o0 := Bk.below o0 hb
  replace p0 := Bk.below p0 hb
  replace b0 := Bk.below b0 hb
  replace q0 := Bk.below q0 hb
  replace k0 := btr k0 hb
  clear hb
  have u0 := Bs w6
  have b5 := Lib.hid (fun W (hW : Below w6.heap.size w6 W) => (Ro o4 (by omega)).below hW)
  clear o4
  cases pb with
  | false =>
   have tt := k0
   go_wp2
   go_ret
   exact ⟨rfl, tt⟩
  | true =>
   cases qb with
   | false =>
    have tt := k0
    go_wp2
    go_ret
    exact ⟨rfl, tt⟩
   | true =>
    have y4 : X = Y := by obtain ⟨h1, h2⟩ := erase_of k1.out; have h3 := law_erase2 h1 m m2 (by rw [← h2, HX.out]) (by rw [← h2, HY.out]); rw [← h2, HX.out, HY.out] at h3; exact h3
    have d5 := Lib.hid y4; clear y4
    go_wp2_with fail
    have h0 := ctInts_b _ _ X Y _ (z4.out _ s0) (b5.out _ u0)
    rw [decide_eq_true d5.out] at h0
    refine (h0).mono ?_
    rintro e w7 ⟨rfl, hb⟩
    clear h0
    replace j0 := btr j0 hb
    replace m0 := btr m0 hb
    replace i0 := btr i0 hb
    replace s0 := btr s0 hb
    replace u0 := btr u0 hb
    have x4 := hb.size
    replace n0 := Bk.below n0 hb
    replace o0 := Bk.below o0 hb
    replace p0 := Bk.below p0 hb
    replace b0 := Bk.below b0 hb
    replace q0 := Bk.below q0 hb
    replace k0 := btr k0 hb
    clear hb
    have tt := k0
    go_wp2
    go_ret
    exact ⟨rfl, tt⟩
end Go.Proofs.Ytkjedgnepnbkpaa
