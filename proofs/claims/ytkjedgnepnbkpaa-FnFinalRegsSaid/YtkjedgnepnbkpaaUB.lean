/-
 Parts of the proofs of the laws FnCheckLive, FnCodeFenced, FnEraseCode, FnEraseSecret, FnFinalRegs, FnLiveRegister, FnLiveRegs, FnSpecPath.
-/
import Derived.Test.YtkjedgnepnbkpaaBB
import Derived.Test.YtkjedgnepnbkpaaNI
import Derived.Test.YtkjedgnepnbkpaaZF
set_option linter.all false
namespace Go.Proofs.Ytkjedgnepnbkpaa
open Go.RowKit
theorem fin_run (c : Cd) (m : Mm) : (finR c m).2 = runB c m := by
 unfold finR runB
 cases finN c m <;> rfl
theorem run_some {c : Cd} {m : Mm} (h : runB c m = true) : ∃ n, finN c m = some n := by
 unfold runB at h
 cases hf : finN c m with
 | none => rw [hf] at h; cases h
 | some n => exact ⟨n, rfl⟩
set_option maxHeartbeats 12800000 in
set_option maxRecDepth 100000 in
theorem FnFinalRegs_walk (v : Value) (n : Nat) (vs : List Int) (w : World) (r0 : Reads w 1 v n (vs.map (Value.int .u8))) (hv : ∀ x ∈ vs, 0 ≤ x ∧ x < 256) :
  Calls Try.prog 5 #[v] w fun e w' => e = .returned (.bool true) ∧ Below w.heap.size w w' := by
 obtain ⟨va, vc, rfl⟩ := reads_shape r0
 by_cases hn : n ≤ 1048576
 case neg =>
  have l6 : (1048576 : Int) < (n : Int) := by omega
  clear r0
  go_enter Try.func5, Try.ntmps5
  go_wp2
  go_ret
  exact ⟨rfl, Below.refl _ _⟩
 have l6 : ¬ (1048576 : Int) < (n : Int) := by omega
 go_enter Try.func5, Try.ntmps5
 go_wp2_with fail
 refine (DrawFinalRegs_any _ n vs _ (r0.below (Bs w)) hv hn).mono ?_
 rintro e w1 ⟨f8, g8, h8, c8, e8, u7, s7, t7, m, rfl, p5, r2, hm, hb⟩
 clear r0 hv
 obtain ⟨c, m1⟩ := RdC.of p5 r2.1 r2.2.1 r2.2.2
 clear p5 r2
 obtain ⟨a0, c0, a1, c1, a2, c2, rfl, rfl, rfl⟩ := m1.r.shape
 obtain ⟨a3, c3, a4, c4, rfl, rfl⟩ := hm.reads.shape
 have o7 : c.vars.length ≤ 1000 ∧ c.arrays.length ≤ 1000 ∧ c.list.length ≤ 1000 := ⟨m1.l0, m1.l1, m1.l2⟩
 have z0 : m.vals.length ≤ 1048576 ∧ m.arrs.length ≤ 1048576 ∧ pre2 m.arrs m.arrs.length ≤ 1048576 := by have h2 := hm.l0; have h3 := hm.l1; have h4 := hm.pre; omega
 have o6 := hb.size
 have t0 := btr (Bs w) hb
 clear hb
 have o0 := Bs w1
 have HC := Lib.hid (fun W (hW : Below w1.heap.size w1 W) => m1.r.below hW)
 have HM := Lib.hid (fun W (hW : Below w1.heap.size w1 W) => hm.reads.below hW)
 clear m1 hm
 obtain ⟨X, ok, m2⟩ : ∃ X ok, finR c m = (X, ok) := ⟨_, _, rfl⟩
 have n7 : X.length ≤ 14 := by have := finR_len c m; rw [m2] at this; exact this
 have n5 : runB c m = ok := by rw [← fin_run, m2]
 have y2 := Lib.hid m2; have m5 := Lib.hid n5; clear m2 n5
 obtain ⟨E, hE⟩ : ∃ E, runE c m = E := ⟨_, rfl⟩
 have m7 : E.length ≤ 40002 := by rw [← hE]; have := runE_len c m; omega
 have i5 := Lib.hid hE; clear hE
 go_wp2_with fail
 have k0 := iFinal_any _ _ _ _ _ c m _ (HC.out _ (bal (bal o0 (.cells #[.slice a0 c.vars.length c0, .slice a1 c.arrays.length c1, .slice a2 c.list.length c2] 26)) (.cells #[.slice a3 m.vals.length c3, .slice a4 m.arrs.length c4] 37))) (HM.out _ (bal (bal o0 (.cells #[.slice a0 c.vars.length c0, .slice a1 c.arrays.length c1, .slice a2 c.list.length c2] 26)) (.cells #[.slice a3 m.vals.length c3, .slice a4 m.arrs.length c4] 37))) z0.1 z0.2.1 z0.2.2
 rw [y2.out] at k0; dsimp only at k0
 refine (k0).mono ?_
 rintro e w2 ⟨u1, rfl, o1, hb⟩
 obtain ⟨p1, q1, rfl⟩ := Oh o1
 clear k0
 replace o0 := btr (bal (bal o0 _) _) hb
 have g3 := hb.size
 simp only [Sa] at g3
 have p0 : Bk w2 (w1.heap.size) [.slice a0 c.vars.length c0, .slice a1 c.arrays.length c1, .slice a2 c.list.length c2] := Bk.below (Bk.al (Bk.nw (by simp) rfl) (.cells #[.slice a3 m.vals.length c3, .slice a4 m.arrs.length c4] 37)) hb
 have q0 : Bk w2 (w1.heap.size + 1) [.slice a3 m.vals.length c3, .slice a4 m.arrs.length c4] := Bk.below (Bk.nw (by simp) rfl) hb
 replace t0 := btr (bal (bal t0 _) _) hb
 clear hb
 have s0 := Bs w2
 have HX := Lib.hid (fun W (hW : Below w2.heap.size w2 W) => (Ro o1 (by omega)).below hW)
 have b6 := Bk.lz p0
 have c6 := Bk.lz q0
 clear o1
 obtain ⟨f7, k4, j3, l4, k3, m4⟩ := Bk.f3 p0 0 1 2 rfl rfl rfl
 obtain ⟨l3, n4, m3, o4⟩ := Bk.f2 q0 0 1 rfl rfl
 go_wp2_with fail
 have k0 := sFinal_any _ _ _ _ _ c m _ (HC.out _ o0) (HM.out _ o0) z0.1 z0.2.1 z0.2.2
 rw [y2.out] at k0; dsimp only at k0
 refine (k0).mono ?_
 rintro e w3 ⟨u2, rfl, o2, hb⟩
 obtain ⟨p2, q2, rfl⟩ := Oh o2
 clear k0
 replace o0 := btr o0 hb
 replace s0 := btr s0 hb
 have s5 := hb.size
 clear k4 f7 l4 j3 m4 k3 n4 l3 o4 m3
 replace p0 := Bk.below p0 hb
 replace q0 := Bk.below q0 hb
 replace t0 := btr t0 hb
 clear hb
 have j0 := Bs w3
 have HY := Lib.hid (fun W (hW : Below w3.heap.size w3 W) => (Ro o2 (by omega)).below hW)
 clear o2
 obtain ⟨n3, p4, o3, q4, p3, r4⟩ := Bk.f3 p0 0 1 2 rfl rfl rfl
 obtain ⟨q3, s4, r3, t4⟩ := Bk.f2 q0 0 1 rfl rfl
 go_wp2_with fail
 have k0 := iRunCode_any _ _ _ _ _ c m _ (HC.out _ o0) (HM.out _ o0) z0.1 z0.2.1 z0.2.2
 rw [m5.out, i5.out] at k0
 refine (k0).mono ?_
 rintro e w4 ⟨b8, d8, a8, z7, rfl, oM, oE, hb⟩
 obtain ⟨r1, t1, s1, v1, rfl, rfl⟩ := oM.shape
 obtain ⟨x7, y7, rfl⟩ := Oh oE
 clear k0
 replace o0 := btr o0 hb
 replace s0 := btr s0 hb
 replace j0 := btr j0 hb
 have t5 := hb.size
 clear p4 n3 q4 o3 r4 p3 s4 q3 t4 r3
 replace p0 := Bk.below p0 hb
 replace q0 := Bk.below q0 hb
 replace t0 := btr t0 hb
 clear hb
 have m0 := Bs w4
 have HE := Lib.hid (fun W (hW : Below w4.heap.size w4 W) => (Ro oE (by omega)).below hW)
 replace b6 := Bk.lz p0
 replace c6 := Bk.lz q0
 clear oM oE
 cases ok with
 | false =>
  go_wp2_with fail
  have k0 := ctInts_b _ _ X X _ (HX.out _ (bal s0 (.cells #[.slice r1 ((runM c m).vals.length) t1, .slice s1 ((runM c m).arrs.length) v1] 37))) (HY.out _ (bal j0 (.cells #[.slice r1 ((runM c m).vals.length) t1, .slice s1 ((runM c m).arrs.length) v1] 37)))
  rw [decide_eq_true (Eq.refl X)] at k0
  refine (k0).mono ?_
  rintro e w5 ⟨rfl, hb⟩
  clear k0
  replace o0 := btr (bal o0 _) hb
  replace s0 := btr (bal s0 _) hb
  replace j0 := btr (bal j0 _) hb
  replace m0 := btr (bal m0 _) hb
  have j2 := hb.size
  simp only [Sa] at j2
  replace p0 := Bk.below (Bk.al p0 _) hb
  replace q0 := Bk.below (Bk.al q0 _) hb
  have j1 : Bk w5 (w4.heap.size) [.slice r1 ((runM c m).vals.length) t1, .slice s1 ((runM c m).arrs.length) v1] := Bk.below (Bk.nw (by simp) rfl) hb
  replace t0 := btr (bal t0 _) hb
  clear hb
  have z6 := Bk.lz j1
  go_wp2_with fail
  have k0 := ctInts_b _ _ X X _ (HX.out _ s0) (HY.out _ j0)
  rw [decide_eq_true (Eq.refl X)] at k0
  refine (k0).mono ?_
  rintro e w6 ⟨rfl, hb⟩
  clear k0
  replace o0 := btr o0 hb
  replace s0 := btr s0 hb
  replace j0 := btr j0 hb
  replace m0 := btr m0 hb
  have u5 := hb.size
  replace p0 := Bk.below p0 hb
  replace q0 := Bk.below q0 hb
  replace j1 := Bk.below j1 hb
  replace t0 := btr t0 hb
  clear hb
  have tt := t0
  go_wp2
  go_ret
  exact ⟨rfl, tt⟩
 | true =>
  go_wp2_with fail
  have k0 := ctInts_b _ _ X X _ (HX.out _ (bal s0 (.cells #[.slice r1 ((runM c m).vals.length) t1, .slice s1 ((runM c m).arrs.length) v1] 37))) (HY.out _ (bal j0 (.cells #[.slice r1 ((runM c m).vals.length) t1, .slice s1 ((runM c m).arrs.length) v1] 37)))
  rw [decide_eq_true (Eq.refl X)] at k0
  refine (k0).mono ?_
  rintro e w5 ⟨rfl, hb⟩
  clear k0
  replace o0 := btr (bal o0 _) hb
  replace s0 := btr (bal s0 _) hb
  replace j0 := btr (bal j0 _) hb
  replace m0 := btr (bal m0 _) hb
  have k2 := hb.size
  simp only [Sa] at k2
  replace p0 := Bk.below (Bk.al p0 _) hb
  replace q0 := Bk.below (Bk.al q0 _) hb
  have v0 : Bk w5 (w4.heap.size) [.slice r1 ((runM c m).vals.length) t1, .slice s1 ((runM c m).arrs.length) v1] := Bk.below (Bk.nw (by simp) rfl) hb
  replace t0 := btr (bal t0 _) hb
  clear hb
  have i3 := Bk.lz v0
  obtain ⟨n, hn⟩ := run_some m5.out
  have b2 := (finN_iff.1 hn).1
  have e6 := Lib.hid b2; have g6 := Lib.hid (goOk_code b2); have h6 := Lib.hid (fun j => stN_ok (goOk_code b2) (ini_ok b2) j)
  have d6 : Hid (E = evN c (n + 1) (ini m)) := Lib.hid (by rw [← i5.out]; exact (run_yes hn).1)
  have j6 : Hid (X = (stN c (n + 1) (ini m)).regs) := Lib.hid (by have := y2.out; rw [finR_yes hn] at this; exact (congrArg Prod.fst this).symm)
  clear hn b2
  obtain ⟨s3, u4, t3, v4, u3, x4⟩ := Bk.f3 p0 0 1 2 rfl rfl rfl
  obtain ⟨v3, y4, x3, z4⟩ := Bk.f2 q0 0 1 rfl rfl
  go_wp2_with fail
  have k0 := iStart_any _ _ _ _ _ c m _ (HC.out _ o0) ((HM.out _ o0)).x ((HM.out _ o0)).y z0.1 z0.2.1 z0.2.2
  rw [e6.out] at k0
  refine (k0).mono ?_
  rintro e w6 ⟨d0, n0, g0, d1, n1, g1, d2, n2, g2, rfl, e2, hb⟩
  obtain ⟨us, oS⟩ := e2 rfl
  clear e2
  clear k0
  replace o0 := btr o0 hb
  replace s0 := btr s0 hb
  replace j0 := btr j0 hb
  replace m0 := btr m0 hb
  have v5 := hb.size
  clear u4 s3 v4 t3 x4 u3 y4 v3 z4 x3
  replace p0 := Bk.below p0 hb
  replace q0 := Bk.below q0 hb
  replace v0 := Bk.below v0 hb
  replace t0 := btr t0 hb
  clear hb
  replace b6 := Bk.lz p0
  replace c6 := Bk.lz q0
  replace i3 := Bk.lz v0
  have r5 := (show OwnMv w6 _ _ _ _ us (stN c 0 (ini m)).regs (stN c 0 (ini m)).mem from oS).rdS (by show (List.length reg0) ≤ _; decide) z0.1 z0.2.1 z0.2.2; clear oS
  have w0 := Bs w6
  have t2 := Lib.hid (five_take E); have i6 := Lib.hid (show E.take E.length = E from List.take_length)
  have k5 : Hid (∃ (k j : Nat) (x0 x1 x2 : Option Addr) (l0 l1 l2 u0 u1 u2 : Nat), Value.int .i64 0 = .int .i64 k ∧ k ≤ E.length ∧ Hid (j = five (E.take k)) ∧ Bk (World.alloc w6 (.cells #[.int .i64 0, .slice d0 n0 g0, .slice d1 n1 g1, .slice d2 n2 g2] 39)) (w6.heap.size) [.int .i64 (stN c j (ini m)).pc, .slice x0 l0 u0, .slice x1 l1 u1, .slice x2 l2 u2] ∧ ReadsS (World.alloc w6 (.cells #[.int .i64 0, .slice d0 n0 g0, .slice d1 n1 g1, .slice d2 n2 g2] 39)) (.slice x0 l0 u0) (.slice x1 l1 u1) (.slice x2 l2 u2) (stN c j (ini m)) ∧ Below w6.heap.size w6 (World.alloc w6 (.cells #[.int .i64 0, .slice d0 n0 g0, .slice d1 n1 g1, .slice d2 n2 g2] 39))) := Lib.hid ⟨0, 0, _, _, _, _, _, _, _, _, _, rfl, Nat.zero_le _, Lib.hid rfl, Bk.nw (by simp) rfl, r5.below (bal (Bs _) _), bal (Bs _) _⟩; clear r5
  go_wp2_with fail
  go_loopw [14] (fun i wr => ∃ (k j : Nat) (x0 x1 x2 : Option Addr) (l0 l1 l2 u0 u1 u2 : Nat), i = .int .i64 k ∧ k ≤ E.length ∧ Hid (j = five (E.take k)) ∧ Bk wr (w6.heap.size) [.int .i64 (stN c j (ini m)).pc, .slice x0 l0 u0, .slice x1 l1 u1, .slice x2 l2 u2] ∧ ReadsS wr (.slice x0 l0 u0) (.slice x1 l1 u1) (.slice x2 l2 u2) (stN c j (ini m)) ∧ Below w6.heap.size w6 wr) (fun i _ => E.length - (intOf i).toNat)
  case atStart => exact k5.out
  case round =>
   obtain ⟨k, j, x0, x1, x2, l0, l1, l2, u0, u1, u2, rfl, hk, HJ, kb, hs, b1⟩ := hrel
   clear k5
   obtain ⟨wl, rfl⟩ : ∃ X, X = wr := ⟨_, rfl⟩
   replace o0 := btr o0 b1
   replace s0 := btr s0 b1
   replace j0 := btr j0 b1
   replace m0 := btr m0 b1
   replace w0 := btr w0 b1
   have x5 := b1.size
   replace p0 := Bk.below p0 b1
   replace q0 := Bk.below q0 b1
   replace v0 := Bk.below v0 b1
   replace t0 := btr t0 b1
   clear b1
   have a7 := Bk.lz kb
   by_cases hlt : k < E.length
   ·have hq : (k : Int) < (E.length : Int) := by omega
    obtain ⟨_, m6, aa, l7, b0, v7, a6, z1, o5, k1⟩ := (HE.out _ m0)
    simp only [Value.slice.injEq, true_and] at a6
    obtain ⟨rfl, rfl⟩ := a6
    obtain ⟨rfl, k6⟩ := o5 (by omega)
    rw [evs_rows] at k1
    obtain ⟨e0, e1⟩ := reads_Event k1 k hlt
    clear k1 o5 m6 z1
    have p7 : b0 < wl.heap.size := Lc e0
    have j5 := Lib.hid (t2.out k hlt); clear t2
    generalize E[k] = x at *
    obtain ⟨y0, y1⟩ := x
    simp only at e0 e1
    by_cases hx : y0 = 5
    ·have p6 : (y0 == 5) = true := by simp [hx]
     have v2 : Hid (j + 1 = five (E.take (k + 1))) := Lib.hid (by rw [j5.out, ← HJ.out]; simp [hx])
     subst hx
     have q7 := Bk.lz kb
     have d3 := mvOk_of g6.out (h6.out j)
     obtain ⟨q6, r6, s6, t6⟩ := mv_len d3 (by omega) (by omega)
     have l5 := Lib.hid d3; clear d3
     obtain ⟨y3, a5, z3, b5, b4, c5⟩ := Bk.f3 p0 0 1 2 rfl rfl rfl
     obtain ⟨d4, d5, e4, e5, g4, f5, i4, g5⟩ := Bk.f4 kb 0 1 2 3 rfl rfl rfl rfl
     go_wp2_with fail
     have k0 := iStep_any _ _ _ _ _ _ c (stN c j (ini m)) _ (HC.out _ o0) hs q6 r6 s6 t6
     unfold StepP at k0
     rw [l5.out] at k0
     refine (k0).mono ?_
     rintro e w7 ⟨pc, f0, f1, f2, fe, i0, i1, i2, ie, h0, h1, h2, he, rfl, e2, hb⟩
     obtain ⟨n6, ⟨k7, oS⟩, _⟩ := e2 rfl
     clear e2 hs e0 e1
     subst n6
     have iS : ∀ q, OwnMB (.slice f0 i0 h0) (.slice f1 i1 h1) (.slice f2 i2 h2) k7 q → wl.heap.size ≤ q := fun q h => (oS.lt q h).1
     clear k0
     replace o0 := btr o0 hb
     replace s0 := btr s0 hb
     replace j0 := btr j0 hb
     replace m0 := btr m0 hb
     replace w0 := btr w0 hb
     have y5 := hb.size
     clear a5 y3 b5 z3 c5 b4 d5 d4 e5 e4 f5 g4 g5 i4
     replace p0 := Bk.below p0 hb
     replace q0 := Bk.below q0 hb
     replace v0 := Bk.below v0 hb
     replace kb := Bk.below kb hb
     replace t0 := btr t0 hb
     clear hb
     obtain ⟨b7, g7, c7, h7, d7, i7, e7, j7⟩ := Bk.f4 kb 0 1 2 3 rfl rfl rfl rfl
     obtain ⟨u6, v6, x6, y6⟩ := mv_len (mvOk_step l5.out) (by omega) (by omega)
     have z2 := Lib.hid (OwnMv.rdS (s := stN c (j + 1) (ini m)) ((((oS.keep (C1 (w6.heap.size) 0 (.int .i64 ((stepN c (stN c j (ini m))).pc))) (fun gq h h2 => by have := iS gq h; omega)).keep (C1 (w6.heap.size) 1 (.slice f0 i0 h0)) (fun gq h h2 => by have := iS gq h; omega)).keep (C1 (w6.heap.size) 2 (.slice f1 i1 h1)) (fun gq h h2 => by have := iS gq h; omega)).keep (C1 (w6.heap.size) 3 (.slice f2 i2 h2)) (fun gq h h2 => by have := iS gq h; omega)) u6 v6 x6 y6); clear oS iS
     have s2 : Hid (Bk (World.setCell (World.setCell (World.setCell (World.setCell w7 ⟨w6.heap.size, 0, none⟩ (.int .i64 ((stepN c (stN c j (ini m))).pc))) ⟨w6.heap.size, 1, none⟩ (.slice f0 i0 h0)) ⟨w6.heap.size, 2, none⟩ (.slice f1 i1 h1)) ⟨w6.heap.size, 3, none⟩ (.slice f2 i2 h2)) (w6.heap.size) [.int .i64 (stN c (j + 1) (ini m)).pc, .slice f0 i0 h0, .slice f1 i1 h1, .slice f2 i2 h2]) := Lib.hid (Bk.at (Bk.at (Bk.at (Bk.at kb 0 (.int .i64 ((stepN c (stN c j (ini m))).pc))) 1 (.slice f0 i0 h0)) 2 (.slice f1 i1 h1)) 3 (.slice f2 i2 h2))
     have b3 := Lib.hid (bst (bst (bst (bst w0 (w6.heap.size) (0) (by omega) (.int .i64 ((stepN c (stN c j (ini m))).pc))) (w6.heap.size) (1) (by omega) (.slice f0 i0 h0)) (w6.heap.size) (2) (by omega) (.slice f1 i1 h1)) (w6.heap.size) (3) (by omega) (.slice f2 i2 h2))
     go_wp2
     go_roundw
     case rel => exact ⟨k + 1, j + 1, _, _, _, _, _, _, _, _, _, by go_num, by omega, v2, s2.out, z2.out, b3.out⟩
     case measure => simp [intOf]; omega
    have p6 : (y0 == 5) = false := by simp [hx]
    have v2 : Hid (j = five (E.take (k + 1))) := Lib.hid (by rw [j5.out, ← HJ.out]; simp [hx])
    clear hx
    have b3 := Lib.hid w0; have z2 := Lib.hid hs; have s2 := Lib.hid kb; clear hs
    go_wp2
    go_roundw
    case rel => exact ⟨k + 1, j, _, _, _, _, _, _, _, _, _, by go_num, by omega, v2, s2.out, z2.out, b3.out⟩
    case measure => simp [intOf]; omega
   have hq : decide ((k : Int) < (E.length : Int)) = false := decide_eq_false (by omega)
   have r7 : ¬ (k : Int) < (E.length : Int) := by omega
   have q5 : j = n + 1 := by rw [HJ.out, show k = E.length by omega, i6.out, d6.out, five_evN]
   have f6 := Lib.hid q5; clear q5 t2
   have e3 : Reads wl 1 (.slice x0 l0 u0) X.length (ints X) := by rw [j6.out, ← f6.out]; exact hs.r
   clear hs
   obtain ⟨j4, h5⟩ := Bk.cf kb 1 rfl
   go_wp2_with fail
   have k0 := ctInts_b _ _ X X _ e3 (HX.out _ s0)
   rw [decide_eq_true (Eq.refl X)] at k0
   refine (k0).mono ?_
   rintro e w7 ⟨rfl, hb⟩
   clear k0
   replace o0 := btr o0 hb
   replace s0 := btr s0 hb
   replace j0 := btr j0 hb
   replace m0 := btr m0 hb
   replace w0 := btr w0 hb
   have z5 := hb.size
   clear h5 j4
   replace e3 := e3.below hb
   replace p0 := Bk.below p0 hb
   replace q0 := Bk.below q0 hb
   replace v0 := Bk.below v0 hb
   replace kb := Bk.below kb hb
   replace t0 := btr t0 hb
   clear hb
   have tt := t0
   go_wp2
   go_ret
   exact ⟨rfl, tt⟩
end Go.Proofs.Ytkjedgnepnbkpaa
