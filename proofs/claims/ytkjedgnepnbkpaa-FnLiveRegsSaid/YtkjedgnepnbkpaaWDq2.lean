/-
 Parts of the proofs of the laws FnCheckLive, FnCodeFenced, FnEraseCode, FnEraseSecret, FnFinalRegs, FnLiveRegister, FnLiveRegs, FnSpecPath.
-/
import Derived.Test.YtkjedgnepnbkpaaLX
import Derived.Test.YtkjedgnepnbkpaaWD
import Derived.Test.YtkjedgnepnbkpaaZP
set_option maxHeartbeats 12800000
set_option maxRecDepth 100000
set_option linter.all false
namespace Go.Proofs.Ytkjedgnepnbkpaa
open Go.RowKit
theorem cov_refl (xs : List Bool) : cov xs xs = true := cov_yes (Nat.le_refl _) (fun r h1 _ => by cases xs[r] <;> rfl)
theorem law_live {c : Cd} (h : codeOk c = true) : checkR c (liveR c) = true := by
 have hi := live_inv c
 rw [liveR_yes h]
 unfold checkR
 rw [h, decide_eq_true hi.len, all14_yes hi.rows, covAll_yes (fun k hk => by
  rw [covAt_at c _ k (by rw [hi.len]; exact hk), live_fix c k (by rw [hi.len]; exact hk)]; exact cov_refl _)]
 rfl
end Go.Proofs.Ytkjedgnepnbkpaa
namespace Go.Proofs.Ytkjedgnepnbkpaa
open Go.RowKit
theorem DrawReachableCode_any (v : Value) (n : Nat) (vs : List Int) (w : World) (hr : Reads w 1 v n (vs.map (Value.int .u8))) (hv : ∀ x ∈ vs, 0 ≤ x ∧ x < 256) (hn : n ≤ 1048576) :
  Calls Try.prog 77 #[v] w fun r w' => DrawCP w r w' := by
 go_enter Try.func77, Try.ntmps77
 go_wp2_with fail
 refine (l17Open_any v n vs _ (hr.below (bal (Bs w) (.cells #[.slice none 0 0, .slice none 0 0, .slice none 0 0] 26))) hv hn).mono ?_
 rintro e w1 ⟨g, rfl, hR, hb⟩
 try simp only [Sa] at hR
 have n0 := hb.size
 simp only [Sa] at n0
 have a0 : Bk w1 (w.heap.size) [.slice none 0 0, .slice none 0 0, .slice none 0 0] := Bk.below (Bk.nw (by simp) rfl) hb
 have s0 := btr (bal (Bs w) (.cells #[.slice none 0 0, .slice none 0 0, .slice none 0 0] 26)) hb
 clear hb
 have x0 := Bk.lz a0
 obtain ⟨B, hB⟩ : ∃ B, w.heap.size + 1 = B := ⟨_, rfl⟩; rw [hB] at hR; have y1 : w.heap.size + 1 ≤ B := (by omega); clear hB hr hv
 have hg := hR.lt
 have hC : Chg (fun k => k = g) w w1 := Chg.of_below s0
 have r0 : ∀ q, (fun k => k = g) q → q = g := fun q h => h
 clear s0
 have p1 : w.heap.size ≤ g := by omega
 go_wp2_with fail
 refine (l8Jumps_any B g (0) _ hR (by omega)).mono ?_
 rintro e w2 ⟨a2, c2, e2, a1, y0, z0, q1, rfl, b0, v1, n1, r1, l0, t1, hc⟩
 try simp only [Sa, Ss] at b0
 obtain ⟨h1, k1, i1, l1, j1, m1, rfl, rfl, rfl⟩ := b0.shape
 replace hC := (hC).trans hc
 replace hR := l0; clear l0
 have u0 := hc.size
 replace a0 := Bk.kg a0 hc
 clear hc
 have w0 := b0.lt
 replace x0 := Bk.lz a0
 go_wp2_with fail
 refine (l6Mutate_of _ _ _ a1 y0 z0 _ B g (q1) _ b0 (by omega) (by omega) (by omega) (by omega) hR (by omega)).mono ?_
 rintro e w3 ⟨b2, d2, f2, k0, i0, j0, q2, rfl, m0, x1, o1, s1, l0, u1, hc⟩
 try simp only [Sa, Ss] at m0
 obtain ⟨c0, f0, d0, g0, e0, h0, rfl, rfl, rfl⟩ := m0.shape
 replace hC := (hC).trans hc
 replace hR := l0; clear l0
 have v0 := hc.size
 replace b0 := b0.keep hc (fun gq h h2 => by have := w0 gq h; have := r0 gq h2; omega)
 replace a0 := Bk.kg a0 hc
 clear hc
 have o0 := m0.lt
 clear b0
 have tC := (((hC.setNew (w.heap.size) (0) (.slice c0 k0 f0) (Or.inr (by omega))).setNew (w.heap.size) (1) (.slice d0 i0 g0) (Or.inr (by omega))).setNew (w.heap.size) (2) (.slice e0 j0 h0) (Or.inr (by omega)))
 have tb := tC.below w.heap.size (Nat.le_refl _) (fun k hk h => by have := r0 k h; omega)
 have TB := Lib.hid tb; clear tC tb hC
 clear hR
 have t0 := Lib.hid (DrawC.mono (((m0.keep (C1 (w.heap.size) 0 (.slice c0 k0 f0)) (fun gq h h2 => by have := o0 gq h; omega)).keep (C1 (w.heap.size) 1 (.slice d0 i0 g0)) (fun gq h h2 => by have := o0 gq h; omega)).keep (C1 (w.heap.size) 2 (.slice e0 j0 h0)) (fun gq h h2 => by have := o0 gq h; omega)) (show w.heap.size ≤ _ by omega))
 clear m0
 obtain ⟨b1, z1, p0, c1, q0, d1⟩ := Bk.f3 a0 0 1 2 rfl rfl rfl
 have e1 := (Nc (b := (w.heap.size)) (j := 2) (Nc (b := (w.heap.size)) (j := 1) (Tc _ (w.heap.size) 0 (.slice c0 k0 f0) b1) (by omega) (.slice d0 i0 g0)) (by omega) (.slice e0 j0 h0))
 have f1 := (Nc (b := (w.heap.size)) (j := 2) (Tc _ (w.heap.size) 1 (.slice d0 i0 g0) (Nc (b := (w.heap.size)) (j := 0) p0 (by omega) (.slice c0 k0 f0))) (by omega) (.slice e0 j0 h0))
 have g1 := (Tc _ (w.heap.size) 2 (.slice e0 j0 h0) (Nc (b := (w.heap.size)) (j := 1) (Nc (b := (w.heap.size)) (j := 0) q0 (by omega) (.slice c0 k0 f0)) (by omega) (.slice d0 i0 g0)))
 have tt := True.intro
 go_wp2
 exact bodyPost_ret (v := .agg #[.slice c0 k0 f0, .slice d0 i0 g0, .slice e0 j0 h0]) (by simp [results, Try.results77, go_sem, e1, f1, g1]) rfl (by exact by unfold DrawCP; exact ⟨_, _, _, _, _, _, rfl, t0.out, ⟨by omega, by omega, by omega⟩, TB.out⟩)
theorem DrawLiveRegs_any (v : Value) (n : Nat) (vs : List Int) (w : World) (hr : Reads w 1 v n (vs.map (Value.int .u8))) (hv : ∀ x ∈ vs, 0 ≤ x ∧ x < 256) (hn : n ≤ 1048576) :
  Calls Try.prog 29 #[v] w fun r w' => DrawCP w r w' := by
 go_enter Try.func29, Try.ntmps29
 go_wp2_with fail
 refine (DrawReachableCode_any v n vs _ (hr.below (bal (Bs w) (.cells #[.slice none 0 0, .slice none 0 0, .slice none 0 0] 26))) hv hn).mono ?_
 rintro e w1 ⟨va, vb, vc, nv, na, nl, rfl, b0, h0, hb⟩
 obtain ⟨a0, c0, a1, c1, a2, c2, rfl, rfl, rfl⟩ := b0.shape
 simp only [Sa] at b0
 clear hr hv
 have e0 := hb.size
 simp only [Sa] at e0
 have f0 : Bk w1 (w.heap.size) [.slice none 0 0, .slice none 0 0, .slice none 0 0] := Bk.below (Bk.nw (by simp) rfl) hb
 have m0 := btr (bal (Bs w) (.cells #[.slice none 0 0, .slice none 0 0, .slice none 0 0] 26)) hb
 clear hb
 have q0 := Bk.lz f0
 have d0 := b0.lt
 try simp only [Sa] at d0
 have g0 := Lib.hid (DrawC.mono (((b0.keep (C1 (w.heap.size) 0 (.slice a0 nv c0)) (fun gq h h2 => by have := d0 gq h; omega)).keep (C1 (w.heap.size) 1 (.slice a1 na c1)) (fun gq h h2 => by have := d0 gq h; omega)).keep (C1 (w.heap.size) 2 (.slice a2 nl c2)) (fun gq h h2 => by have := d0 gq h; omega)) (show w.heap.size ≤ w.heap.size + 1 by omega))
 clear b0
 obtain ⟨i0, r0, j0, s0, k0, l0⟩ := Bk.f3 f0 0 1 2 rfl rfl rfl
 have n0 := (Nc (b := (w.heap.size)) (j := 2) (Nc (b := (w.heap.size)) (j := 1) (Tc _ (w.heap.size) 0 (.slice a0 nv c0) i0) (by omega) (.slice a1 na c1)) (by omega) (.slice a2 nl c2))
 have o0 := (Nc (b := (w.heap.size)) (j := 2) (Tc _ (w.heap.size) 1 (.slice a1 na c1) (Nc (b := (w.heap.size)) (j := 0) j0 (by omega) (.slice a0 nv c0))) (by omega) (.slice a2 nl c2))
 have p0 := (Tc _ (w.heap.size) 2 (.slice a2 nl c2) (Nc (b := (w.heap.size)) (j := 1) (Nc (b := (w.heap.size)) (j := 0) k0 (by omega) (.slice a0 nv c0)) (by omega) (.slice a1 na c1)))
 have tt := (bst (bst (bst m0 (w.heap.size) 0 (by omega) (.slice a0 nv c0)) (w.heap.size) 1 (by omega) (.slice a1 na c1)) (w.heap.size) 2 (by omega) (.slice a2 nl c2))
 go_wp2
 exact bodyPost_ret (v := .agg #[.slice a0 nv c0, .slice a1 na c1, .slice a2 nl c2]) (by simp [results, Try.results29, go_sem, n0, o0, p0]) rfl (by exact (by unfold DrawCP; exact ⟨_, _, _, _, _, _, rfl, g0.out, h0, tt⟩))
end Go.Proofs.Ytkjedgnepnbkpaa
namespace Go.Proofs.Ytkjedgnepnbkpaa
open Go.RowKit
theorem FnLiveRegs_walk (v : Value) (n : Nat) (vs : List Int) (w : World) (r0 : Reads w 1 v n (vs.map (Value.int .u8))) (hv : ∀ x ∈ vs, 0 ≤ x ∧ x < 256) :
  Calls Try.prog 6 #[v] w fun e w' => e = .returned (.bool true) ∧ Below w.heap.size w w' := by
 obtain ⟨va, vc, rfl⟩ := reads_shape r0
 by_cases hn : n ≤ 1048576
 case neg =>
  have b2 : (1048576 : Int) < (n : Int) := by omega
  clear r0
  go_enter Try.func6, Try.ntmps6
  go_wp2
  go_ret
  exact ⟨rfl, Below.refl _ _⟩
 have b2 : ¬ (1048576 : Int) < (n : Int) := by omega
 go_enter Try.func6, Try.ntmps6
 go_wp2_with fail
 refine (DrawLiveRegs_any _ n vs _ (r0.below (Bs w)) hv hn).mono ?_
 rintro e w1 ⟨x2, y2, z2, r2, m2, n2, rfl, k1, m0, hb⟩
 clear r0 hv
 obtain ⟨c, j0⟩ := RdC.of k1 m0.1 m0.2.1 m0.2.2
 clear k1 m0
 obtain ⟨a0, c0, a1, c1, a2, c2, rfl, rfl, rfl⟩ := j0.r.shape
 have j2 : c.vars.length ≤ 1000 ∧ c.arrays.length ≤ 1000 ∧ c.list.length ≤ 1000 := ⟨j0.l0, j0.l1, j0.l2⟩
 have d2 := hb.size
 have g0 := btr (Bs w) hb
 clear hb
 have e0 := Bs w1
 have HC := Lib.hid (fun W (hW : Below w1.heap.size w1 W) => j0.r.below hW)
 clear j0
 obtain ⟨L, hL⟩ : ∃ L, liveR c = L := ⟨_, rfl⟩
 have n0 := liveR_len c
 rw [hL] at n0
 have i2 := n0.1
 have p0 := Lib.hid n0.2
 have k0 := Lib.hid hL
 clear n0 hL
 go_wp2_with fail
 have b0 := iLiveRegs_any _ _ _ c _ (HC.out _ (bal e0 (.cells #[.slice a0 c.vars.length c0, .slice a1 c.arrays.length c1, .slice a2 c.list.length c2] 26)))
 rw [k0.out] at b0
 refine (b0).mono ?_
 rintro e w2 ⟨u1, s2, rfl, o1, hb⟩
 obtain ⟨p1, q1, rfl⟩ := o1.shape
 clear b0
 replace e0 := btr (bal e0 _) hb
 have q0 := hb.size
 simp only [Sa] at q0
 have f0 : Bk w2 (w1.heap.size) [.slice a0 c.vars.length c0, .slice a1 c.arrays.length c1, .slice a2 c.list.length c2] := Bk.below (Bk.nw (by simp) rfl) hb
 replace g0 := btr (bal g0 _) hb
 clear hb
 have h0 := Bs w2
 have o0 := Lib.hid (fun W (hW : Below w2.heap.size w2 W) => (o1.reads (by omega) (fun k r hr => by have := p0.out k r hr; omega)).below hW)
 have k2 := Bk.lz f0
 clear o1
 obtain ⟨f2, h2, g2, z0, s0, b1⟩ := Bk.f3 f0 0 1 2 rfl rfl rfl
 go_wp2_with fail
 have b0 := sLiveRegs_any _ _ _ c _ (HC.out _ e0)
 rw [k0.out] at b0
 refine (b0).mono ?_
 rintro e w3 ⟨u2, t2, rfl, o2, hb⟩
 obtain ⟨p2, q2, rfl⟩ := o2.shape
 clear b0
 replace e0 := btr e0 hb
 replace h0 := btr h0 hb
 have n1 := hb.size
 clear h2 f2 z0 g2 b1 s0
 replace f0 := Bk.below f0 hb
 replace g0 := btr g0 hb
 clear hb
 have d0 := Bs w3
 have y1 := Lib.hid (fun W (hW : Below w3.heap.size w3 W) => (o2.reads (by omega) (fun k r hr => by have := p0.out k r hr; omega)).below hW)
 clear o2
 go_wp2_with fail
 have b0 := ctRows_any _ _ L L _ (o0.out _ h0) (y1.out _ d0)
 rw [decide_eq_true (Eq.refl L)] at b0
 refine (b0).mono ?_
 rintro e w4 ⟨rfl, hb⟩
 clear b0
 replace e0 := btr e0 hb
 replace h0 := btr h0 hb
 replace d0 := btr d0 hb
 have r1 := hb.size
 replace f0 := Bk.below f0 hb
 replace g0 := btr g0 hb
 clear hb
 by_cases hz : L.length < 1
 ·have e2 : ((L.length : Int) == 0) = true := by rw [beq_iff_eq]; omega
  obtain ⟨t0, d1, u0, e1, v0, f1⟩ := Bk.f3 f0 0 1 2 rfl rfl rfl
  go_wp2_with fail
  have b0 := sLiveRegs_any _ _ _ c _ (HC.out _ e0)
  rw [k0.out] at b0
  refine (b0).mono ?_
  rintro e w5 ⟨u3, v2, rfl, o3, hb⟩
  obtain ⟨p3, q3, rfl⟩ := o3.shape
  clear b0
  replace e0 := btr e0 hb
  replace h0 := btr h0 hb
  replace d0 := btr d0 hb
  have s1 := hb.size
  clear d1 t0 e1 u0 f1 v0
  replace f0 := Bk.below f0 hb
  replace g0 := btr g0 hb
  clear hb
  have i0 := Bs w5
  have z1 := Lib.hid (fun W (hW : Below w5.heap.size w5 W) => (o3.reads (by omega) (fun k r hr => by have := p0.out k r hr; omega)).below hW)
  clear o3
  go_wp2_with fail
  have b0 := ctRows_any _ _ L L _ (o0.out _ h0) (z1.out _ i0)
  rw [decide_eq_true (Eq.refl L)] at b0
  refine (b0).mono ?_
  rintro e w6 ⟨rfl, hb⟩
  clear b0
  replace e0 := btr e0 hb
  replace h0 := btr h0 hb
  replace d0 := btr d0 hb
  replace i0 := btr i0 hb
  have t1 := hb.size
  replace f0 := Bk.below f0 hb
  replace g0 := btr g0 hb
  clear hb
  have tt := g0
  go_wp2
  go_ret
  exact ⟨rfl, tt⟩
 have e2 : ((L.length : Int) == 0) = false := by rw [beq_eq_false_iff_ne]; omega
 have m1 : codeOk c = true := by cases h : codeOk c with | true => rfl | false => have h1 := k0.out; rw [liveR_no h] at h1; rw [← h1] at hz; exact absurd (show ([] : List (List Bool)).length < 1 by decide) hz
 have x1 : Hid (checkR c L = true) := Lib.hid (by rw [← k0.out]; exact law_live m1)
 clear m1
 obtain ⟨w0, g1, x0, i1, y0, j1⟩ := Bk.f3 f0 0 1 2 rfl rfl rfl
 go_wp2_with fail
 have b0 := iCheckLive_any _ _ _ _ c L _ (HC.out _ e0) (o0.out _ h0)
 rw [x1.out] at b0
 refine (b0).mono ?_
 rintro e w5 ⟨rfl, hb⟩
 clear b0
 replace e0 := btr e0 hb
 replace h0 := btr h0 hb
 replace d0 := btr d0 hb
 have v1 := hb.size
 clear g1 w0 i1 x0 j1 y0
 replace f0 := Bk.below f0 hb
 replace g0 := btr g0 hb
 clear hb
 have tt := g0
 go_wp2
 go_ret
 exact ⟨rfl, tt⟩
end Go.Proofs.Ytkjedgnepnbkpaa
