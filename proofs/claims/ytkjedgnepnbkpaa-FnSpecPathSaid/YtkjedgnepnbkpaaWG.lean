/-
 Parts of the proofs of the laws FnCheckLive, FnCodeFenced, FnEraseCode, FnEraseSecret, FnFinalRegs, FnLiveRegister, FnLiveRegs, FnSpecPath.
-/
import Derived.Test.YtkjedgnepnbkpaaZR
import Derived.Test.YtkjedgnepnbkpaaZG
import Derived.Test.YtkjedgnepnbkpaaSD
set_option maxHeartbeats 12800000
set_option maxRecDepth 100000
set_option linter.all false
namespace Go.Proofs.Ytkjedgnepnbkpaa
open Go.RowKit
theorem evN_first (c : Cd) (s : Ms) (n : Nat) (h : 1 ≤ n) : ∃ rest, evN c n s = stEvs (insAt c s.pc) s ++ rest := by
 obtain ⟨m, rfl⟩ : ∃ m, n = 1 + m := ⟨n - 1, by omega⟩
 exact ⟨_, by rw [evN_add, evN_one]⟩
theorem pathN_range (c : Cd) (s : Ms) : 1 ≤ pathN c s ∧ pathN c s ≤ 4 := by
 unfold pathN
 have a0 : ∀ (f k n : Nat), fstH (stopAt c s) f k = some n → n < k + f := by
  intro f
  induction f with
  | zero => intro k n h; simp [fstH] at h
  | succ f ih =>
   intro k n h
   rw [fstH] at h
   split at h
   ·have := Option.some.inj h; omega
   have := ih _ _ h; omega
 cases h : fstH (stopAt c s) 4 0 with
 | none => simp
 | some n => have := a0 4 0 n h; simp only; omega
theorem law_path (c : Cd) (s : Ms) : 1 ≤ five (pathE c s) ∧ five (pathE c s) ≤ 4 ∧ ∃ rest, pathE c s = stEvs (insAt c s.pc) s ++ rest := by
 have h := pathN_range c s
 unfold pathE
 rw [five_evN]
 exact ⟨h.1, h.2, evN_first c s _ h.1⟩
end Go.Proofs.Ytkjedgnepnbkpaa
namespace Go.Proofs.Ytkjedgnepnbkpaa
open Go.RowKit
theorem reads_cap {w : World} {a : Option Addr} {n c sz : Nat} {xs : List Value} (h : Reads w sz (.slice a n c) n xs) : n ≤ c := by
 obtain ⟨_, _, a', c', b, b0, hv, a0, _⟩ := h
 simp only [Value.slice.injEq, true_and] at hv
 obtain ⟨rfl, rfl⟩ := hv; exact a0.1
theorem reads_takeE {w : World} {a : Option Addr} {n c : Nat} {L : List Ev} (h : Reads w 2 (.slice a n c) n (evs L)) (k : Nat) (hk : k ≤ n) : Reads w 2 (.slice a k c) k (evs (L.take k)) := by
 obtain ⟨h1, h2, a', d0, b, c0, hv, b0, ha, a0⟩ := h
 simp only [Value.slice.injEq, true_and] at hv
 obtain ⟨rfl, rfl⟩ := hv
 rw [← evs_take]
 refine ⟨by rw [List.length_take]; omega, by omega, a, c, b, c0, rfl, ⟨by omega, b0.2⟩, fun h0 => ha (by omega), fun j hj => ?_⟩
 rw [List.length_take] at hj
 rw [List.getElem_take]
 exact a0 j (by omega)
end Go.Proofs.Ytkjedgnepnbkpaa
namespace Go.Proofs.Ytkjedgnepnbkpaa
open Go.RowKit
theorem DrawSpecPath_any (v : Value) (n : Nat) (vs : List Int) (w : World) (hr : Reads w 1 v n (vs.map (Value.int .u8))) (hv : ∀ x ∈ vs, 0 ≤ x ∧ x < 256) (hn : n ≤ 1048576) :
  Calls Try.prog 17 #[v] w fun r w' => DrawCSP w r w' := by
 go_enter Try.func17, Try.ntmps17
 go_wp2_with fail
 refine (DrawMachineValid_any v n vs _ (hr.below (bal (bal (Bs w) (.cells #[.slice none 0 0, .slice none 0 0, .slice none 0 0] 26)) (.cells #[.int .i64 0, .slice none 0 0, .slice none 0 0, .slice none 0 0] 39))) hv hn).mono ?_
 rintro e w1 ⟨va, vb, vc, vr, vx, vy, nv, na, nl, m, rfl, d0, o0, hm, hb⟩
 obtain ⟨a0, c0, a1, c1, a2, c2, rfl, rfl, rfl⟩ := d0.shape
 obtain ⟨a3, c3, a4, c4, rfl, rfl⟩ := hm.m.reads.shape
 obtain ⟨a5, c5, rfl⟩ := reads_shape hm.r
 simp only [Sa] at d0 hm
 clear hr hv
 have e0 := hb.size
 simp only [Sa] at e0
 have k0 : Bk w1 (w.heap.size) [.slice none 0 0, .slice none 0 0, .slice none 0 0] := Bk.below (Bk.al (Bk.nw (by simp) rfl) (.cells #[.int .i64 0, .slice none 0 0, .slice none 0 0, .slice none 0 0] 39)) hb
 have l0 : Bk w1 (w.heap.size + 1) [.int .i64 0, .slice none 0 0, .slice none 0 0, .slice none 0 0] := Bk.below (Bk.nw (by simp) rfl) hb
 have x0 := btr (bal (bal (Bs w) (.cells #[.slice none 0 0, .slice none 0 0, .slice none 0 0] 26)) (.cells #[.int .i64 0, .slice none 0 0, .slice none 0 0, .slice none 0 0] 39)) hb
 clear hb
 have h1 := Bk.lz k0
 have i1 := Bk.lz l0
 have b0 := d0.lt
 try simp only [Sa] at b0
 have m0 := Lib.hid (DrawC.mono (((((((d0.keep (C1 (w.heap.size) 0 (.slice a0 nv c0)) (fun gq h h2 => by have := b0 gq h; omega)).keep (C1 (w.heap.size) 1 (.slice a1 na c1)) (fun gq h h2 => by have := b0 gq h; omega)).keep (C1 (w.heap.size) 2 (.slice a2 nl c2)) (fun gq h h2 => by have := b0 gq h; omega)).keep (C1 (w.heap.size + 1) 0 (.int .i64 m.pc)) (fun gq h h2 => by have := b0 gq h; omega)).keep (C1 (w.heap.size + 1) 1 (.slice a5 m.regs.length c5)) (fun gq h h2 => by have := b0 gq h; omega)).keep (C1 (w.heap.size + 1) 2 (.slice a3 m.mem.vals.length c3)) (fun gq h h2 => by have := b0 gq h; omega)).keep (C1 (w.heap.size + 1) 3 (.slice a4 m.mem.arrs.length c4)) (fun gq h h2 => by have := b0 gq h; omega)) (show w.heap.size ≤ w.heap.size + 1 + 1 by omega))
 have n0 := Lib.hid (DrS.mono (((((((hm.keep (C1 (w.heap.size) 0 (.slice a0 nv c0)) (fun gq h h2 => by have := (fun q (h : w.heap.size + 1 + 1 ≤ q) => h) gq h; omega)).keep (C1 (w.heap.size) 1 (.slice a1 na c1)) (fun gq h h2 => by have := (fun q (h : w.heap.size + 1 + 1 ≤ q) => h) gq h; omega)).keep (C1 (w.heap.size) 2 (.slice a2 nl c2)) (fun gq h h2 => by have := (fun q (h : w.heap.size + 1 + 1 ≤ q) => h) gq h; omega)).keep (C1 (w.heap.size + 1) 0 (.int .i64 m.pc)) (fun gq h h2 => by have := (fun q (h : w.heap.size + 1 + 1 ≤ q) => h) gq h; omega)).keep (C1 (w.heap.size + 1) 1 (.slice a5 m.regs.length c5)) (fun gq h h2 => by have := (fun q (h : w.heap.size + 1 + 1 ≤ q) => h) gq h; omega)).keep (C1 (w.heap.size + 1) 2 (.slice a3 m.mem.vals.length c3)) (fun gq h h2 => by have := (fun q (h : w.heap.size + 1 + 1 ≤ q) => h) gq h; omega)).keep (C1 (w.heap.size + 1) 3 (.slice a4 m.mem.arrs.length c4)) (fun gq h h2 => by have := (fun q (h : w.heap.size + 1 + 1 ≤ q) => h) gq h; omega)) (show w.heap.size ≤ w.heap.size + 1 + 1 by omega))
 clear hm
 clear d0
 obtain ⟨p0, j1, q0, r0, f0, s0⟩ := Bk.f3 k0 0 1 2 rfl rfl rfl
 obtain ⟨g0, t0, h0, u0, i0, v0, j0, w0⟩ := Bk.f4 l0 0 1 2 3 rfl rfl rfl rfl
 have y0 := (Nc (b := (w.heap.size + 1)) (j := 3) (Nc (b := (w.heap.size + 1)) (j := 2) (Nc (b := (w.heap.size + 1)) (j := 1) (Nc (b := (w.heap.size + 1)) (j := 0) (Nc (b := (w.heap.size)) (j := 2) (Nc (b := (w.heap.size)) (j := 1) (Tc _ (w.heap.size) 0 (.slice a0 nv c0) p0) (by omega) (.slice a1 na c1)) (by omega) (.slice a2 nl c2)) (by omega) (.int .i64 m.pc)) (by omega) (.slice a5 m.regs.length c5)) (by omega) (.slice a3 m.mem.vals.length c3)) (by omega) (.slice a4 m.mem.arrs.length c4))
 have z0 := (Nc (b := (w.heap.size + 1)) (j := 3) (Nc (b := (w.heap.size + 1)) (j := 2) (Nc (b := (w.heap.size + 1)) (j := 1) (Nc (b := (w.heap.size + 1)) (j := 0) (Nc (b := (w.heap.size)) (j := 2) (Tc _ (w.heap.size) 1 (.slice a1 na c1) (Nc (b := (w.heap.size)) (j := 0) q0 (by omega) (.slice a0 nv c0))) (by omega) (.slice a2 nl c2)) (by omega) (.int .i64 m.pc)) (by omega) (.slice a5 m.regs.length c5)) (by omega) (.slice a3 m.mem.vals.length c3)) (by omega) (.slice a4 m.mem.arrs.length c4))
 have b1 := (Nc (b := (w.heap.size + 1)) (j := 3) (Nc (b := (w.heap.size + 1)) (j := 2) (Nc (b := (w.heap.size + 1)) (j := 1) (Nc (b := (w.heap.size + 1)) (j := 0) (Tc _ (w.heap.size) 2 (.slice a2 nl c2) (Nc (b := (w.heap.size)) (j := 1) (Nc (b := (w.heap.size)) (j := 0) f0 (by omega) (.slice a0 nv c0)) (by omega) (.slice a1 na c1))) (by omega) (.int .i64 m.pc)) (by omega) (.slice a5 m.regs.length c5)) (by omega) (.slice a3 m.mem.vals.length c3)) (by omega) (.slice a4 m.mem.arrs.length c4))
 have d1 := (Nc (b := (w.heap.size + 1)) (j := 3) (Nc (b := (w.heap.size + 1)) (j := 2) (Nc (b := (w.heap.size + 1)) (j := 1) (Tc _ (w.heap.size + 1) 0 (.int .i64 m.pc) (Nc (b := (w.heap.size)) (j := 2) (Nc (b := (w.heap.size)) (j := 1) (Nc (b := (w.heap.size)) (j := 0) g0 (by omega) (.slice a0 nv c0)) (by omega) (.slice a1 na c1)) (by omega) (.slice a2 nl c2))) (by omega) (.slice a5 m.regs.length c5)) (by omega) (.slice a3 m.mem.vals.length c3)) (by omega) (.slice a4 m.mem.arrs.length c4))
 have e1 := (Nc (b := (w.heap.size + 1)) (j := 3) (Nc (b := (w.heap.size + 1)) (j := 2) (Tc _ (w.heap.size + 1) 1 (.slice a5 m.regs.length c5) (Nc (b := (w.heap.size + 1)) (j := 0) (Nc (b := (w.heap.size)) (j := 2) (Nc (b := (w.heap.size)) (j := 1) (Nc (b := (w.heap.size)) (j := 0) h0 (by omega) (.slice a0 nv c0)) (by omega) (.slice a1 na c1)) (by omega) (.slice a2 nl c2)) (by omega) (.int .i64 m.pc))) (by omega) (.slice a3 m.mem.vals.length c3)) (by omega) (.slice a4 m.mem.arrs.length c4))
 have f1 := (Nc (b := (w.heap.size + 1)) (j := 3) (Tc _ (w.heap.size + 1) 2 (.slice a3 m.mem.vals.length c3) (Nc (b := (w.heap.size + 1)) (j := 1) (Nc (b := (w.heap.size + 1)) (j := 0) (Nc (b := (w.heap.size)) (j := 2) (Nc (b := (w.heap.size)) (j := 1) (Nc (b := (w.heap.size)) (j := 0) i0 (by omega) (.slice a0 nv c0)) (by omega) (.slice a1 na c1)) (by omega) (.slice a2 nl c2)) (by omega) (.int .i64 m.pc)) (by omega) (.slice a5 m.regs.length c5))) (by omega) (.slice a4 m.mem.arrs.length c4))
 have g1 := (Tc _ (w.heap.size + 1) 3 (.slice a4 m.mem.arrs.length c4) (Nc (b := (w.heap.size + 1)) (j := 2) (Nc (b := (w.heap.size + 1)) (j := 1) (Nc (b := (w.heap.size + 1)) (j := 0) (Nc (b := (w.heap.size)) (j := 2) (Nc (b := (w.heap.size)) (j := 1) (Nc (b := (w.heap.size)) (j := 0) j0 (by omega) (.slice a0 nv c0)) (by omega) (.slice a1 na c1)) (by omega) (.slice a2 nl c2)) (by omega) (.int .i64 m.pc)) (by omega) (.slice a5 m.regs.length c5)) (by omega) (.slice a3 m.mem.vals.length c3)))
 have tt := (bst (bst (bst (bst (bst (bst (bst x0 (w.heap.size) 0 (by omega) (.slice a0 nv c0)) (w.heap.size) 1 (by omega) (.slice a1 na c1)) (w.heap.size) 2 (by omega) (.slice a2 nl c2)) (w.heap.size + 1) 0 (by omega) (.int .i64 m.pc)) (w.heap.size + 1) 1 (by omega) (.slice a5 m.regs.length c5)) (w.heap.size + 1) 2 (by omega) (.slice a3 m.mem.vals.length c3)) (w.heap.size + 1) 3 (by omega) (.slice a4 m.mem.arrs.length c4))
 go_wp2
 exact bodyPost_ret (v := .tuple #[.agg #[.slice a0 nv c0, .slice a1 na c1, .slice a2 nl c2], .agg #[.int .i64 m.pc, .slice a5 m.regs.length c5, .slice a3 m.mem.vals.length c3, .slice a4 m.mem.arrs.length c4]]) (by simp [results, Try.results17, go_sem, y0, z0, b1, d1, e1, f1, g1]) rfl (by exact (by unfold DrawCSP; exact ⟨_, _, _, _, _, _, _, _, _, m, rfl, m0.out, o0, n0.out, tt⟩))
end Go.Proofs.Ytkjedgnepnbkpaa
namespace Go.Proofs.Ytkjedgnepnbkpaa
open Go.RowKit
theorem five_le (L : List Ev) : five L ≤ L.length := List.length_filter_le _ _
theorem FnSpecPath_walk (v : Value) (n : Nat) (vs : List Int) (w : World) (r0 : Reads w 1 v n (vs.map (Value.int .u8))) (hv : ∀ x ∈ vs, 0 ≤ x ∧ x < 256) :
  Calls Try.prog 4 #[v] w fun e w' => e = .returned (.bool true) ∧ Below w.heap.size w w' := by
 obtain ⟨va, vc, rfl⟩ := reads_shape r0
 by_cases hn : n ≤ 1048576
 case neg =>
  have f5 : (1048576 : Int) < (n : Int) := by omega
  clear r0
  go_enter Try.func4, Try.ntmps4
  go_wp2
  go_ret
  exact ⟨rfl, Below.refl _ _⟩
 have f5 : ¬ (1048576 : Int) < (n : Int) := by omega
 go_enter Try.func4, Try.ntmps4
 go_wp2_with fail
 refine (DrawSpecPath_any _ n vs _ (r0.below (Bs w)) hv hn).mono ?_
 rintro e w1 ⟨i6, j6, k6, f6, g6, h6, d6, b6, c6, ms, rfl, i4, f1, hm, hb⟩
 clear r0 hv
 obtain ⟨c, w0⟩ := RdC.of i4 f1.1 f1.2.1 f1.2.2
 clear i4 f1
 obtain ⟨a0, c0, a1, c1, a2, c2, rfl, rfl, rfl⟩ := w0.r.shape
 obtain ⟨a3, c3, a4, c4, rfl, rfl⟩ := hm.m.reads.shape
 obtain ⟨a5, c5, rfl⟩ := reads_shape hm.r
 have x5 : c.vars.length ≤ 1000 ∧ c.arrays.length ≤ 1000 ∧ c.list.length ≤ 1000 := ⟨w0.l0, w0.l1, w0.l2⟩
 have s0 : ms.regs.length ≤ 1048576 ∧ ms.mem.vals.length ≤ 1048576 ∧ ms.mem.arrs.length ≤ 1048576 ∧ pre2 ms.mem.arrs ms.mem.arrs.length ≤ 1048576 := by have h1 := hm.rl; have h2 := hm.m.l0; have h3 := hm.m.l1; have h4 := hm.m.pre; omega
 have l5 := hb.size
 have p0 := btr (Bs w) hb
 clear hb
 have i0 := Bs w1
 have HC := Lib.hid (fun W (hW : Below w1.heap.size w1 W) => w0.r.below hW)
 have HS := Lib.hid (fun W (hW : Below w1.heap.size w1 W) => hm.reads.below hW)
 clear w0 hm
 obtain ⟨L, ok, s1⟩ : ∃ L ok, spathR c ms = (L, ok) := ⟨_, _, rfl⟩
 have v5 : L.length ≤ 8 := by have := spathR_len c ms; rw [s1] at this; exact this
 have b1 := Lib.hid s1; clear s1
 go_wp2_with fail
 have h0 := iSpecPath_any _ _ _ _ _ _ c ms _ (HC.out _ (bal (bal i0 (.cells #[.slice a0 c.vars.length c0, .slice a1 c.arrays.length c1, .slice a2 c.list.length c2] 26)) (.cells #[.int .i64 ms.pc, .slice a5 ms.regs.length c5, .slice a3 ms.mem.vals.length c3, .slice a4 ms.mem.arrs.length c4] 39))) (HS.out _ (bal (bal i0 (.cells #[.slice a0 c.vars.length c0, .slice a1 c.arrays.length c1, .slice a2 c.list.length c2] 26)) (.cells #[.int .i64 ms.pc, .slice a5 ms.regs.length c5, .slice a3 ms.mem.vals.length c3, .slice a4 ms.mem.arrs.length c4] 39))) s0.1 s0.2.1 s0.2.2.1 s0.2.2.2
 rw [b1.out] at h0; dsimp only at h0
 refine (h0).mono ?_
 rintro e w2 ⟨u1, rfl, oE, hb⟩
 obtain ⟨p1, q1, rfl⟩ := Oh oE
 clear h0
 replace i0 := btr (bal (bal i0 _) _) hb
 have b2 := hb.size
 simp only [Sa] at b2
 have j0 : Bk w2 (w1.heap.size) [.slice a0 c.vars.length c0, .slice a1 c.arrays.length c1, .slice a2 c.list.length c2] := Bk.below (Bk.al (Bk.nw (by simp) rfl) (.cells #[.int .i64 ms.pc, .slice a5 ms.regs.length c5, .slice a3 ms.mem.vals.length c3, .slice a4 ms.mem.arrs.length c4] 39)) hb
 have k0 : Bk w2 (w1.heap.size + 1) [.int .i64 ms.pc, .slice a5 ms.regs.length c5, .slice a3 ms.mem.vals.length c3, .slice a4 ms.mem.arrs.length c4] := Bk.below (Bk.nw (by simp) rfl) hb
 replace p0 := btr (bal (bal p0 _) _) hb
 clear hb
 have m0 := Bs w2
 have HE := Lib.hid (fun W (hW : Below w2.heap.size w2 W) => (Ro oE (by omega)).below hW)
 have i1 := Bk.lz j0
 have j1 := Bk.lz k0
 clear oE
 obtain ⟨t5, e3, e2, g3, f2, i3⟩ := Bk.f3 j0 0 1 2 rfl rfl rfl
 obtain ⟨i2, j3, j2, k3, k2, l3, m2, m3⟩ := Bk.f4 k0 0 1 2 3 rfl rfl rfl rfl
 go_wp2_with fail
 have h0 := sSpecPath_any _ _ _ _ _ _ c ms _ (HC.out _ i0) (HS.out _ i0) s0.1 s0.2.1 s0.2.2.1 s0.2.2.2
 rw [b1.out] at h0; dsimp only at h0
 refine (h0).mono ?_
 rintro e w3 ⟨u2, rfl, oF, hb⟩
 obtain ⟨p2, q2, rfl⟩ := Oh oF
 clear h0
 replace i0 := btr i0 hb
 replace m0 := btr m0 hb
 have m4 := hb.size
 clear e3 t5 g3 e2 i3 f2 j3 i2 k3 j2 l3 k2 m3 m2
 replace j0 := Bk.below j0 hb
 replace k0 := Bk.below k0 hb
 replace p0 := btr p0 hb
 clear hb
 have f0 := Bs w3
 have HF := Lib.hid (fun W (hW : Below w3.heap.size w3 W) => (Ro oF (by omega)).below hW)
 replace i1 := Bk.lz j0
 replace j1 := Bk.lz k0
 clear oF
 cases ok with
 | false =>
  go_wp2_with fail
  have h0 := TraceSame_any _ _ L L _ (HE.out _ m0) (HF.out _ f0)
  rw [decide_eq_true (Eq.refl L)] at h0
  refine (h0).mono ?_
  rintro e w4 ⟨rfl, hb⟩
  clear h0
  replace i0 := btr i0 hb
  replace m0 := btr m0 hb
  replace f0 := btr f0 hb
  have n4 := hb.size
  replace j0 := Bk.below j0 hb
  replace k0 := Bk.below k0 hb
  replace p0 := btr p0 hb
  clear hb
  go_wp2_with fail
  have h0 := TraceSame_any _ _ L L _ (HE.out _ m0) (HF.out _ f0)
  rw [decide_eq_true (Eq.refl L)] at h0
  refine (h0).mono ?_
  rintro e w5 ⟨rfl, hb⟩
  clear h0
  replace i0 := btr i0 hb
  replace m0 := btr m0 hb
  replace f0 := btr f0 hb
  have o4 := hb.size
  replace j0 := Bk.below j0 hb
  replace k0 := Bk.below k0 hb
  replace p0 := btr p0 hb
  clear hb
  have tt := p0
  go_wp2
  go_ret
  exact ⟨rfl, tt⟩
 | true =>
  go_wp2_with fail
  have h0 := TraceSame_any _ _ L L _ (HE.out _ m0) (HF.out _ f0)
  rw [decide_eq_true (Eq.refl L)] at h0
  refine (h0).mono ?_
  rintro e w4 ⟨rfl, hb⟩
  clear h0
  replace i0 := btr i0 hb
  replace m0 := btr m0 hb
  replace f0 := btr f0 hb
  have p4 := hb.size
  replace j0 := Bk.below j0 hb
  replace k0 := Bk.below k0 hb
  replace p0 := btr p0 hb
  clear hb
  replace i1 := Bk.lz j0
  replace j1 := Bk.lz k0
  have t1 : mvOk c ms = true := by cases h : mvOk c ms with | true => rfl | false => have := b1.out; rw [spath_no h] at this; cases this
  have e4 : L = pathE c ms := by have := b1.out; rw [spath_yes t1] at this; exact (congrArg Prod.fst this).symm
  obtain ⟨v1, y1, s5, z1⟩ := law_path c ms
  rw [← e4] at v1 y1 z1
  have d4 := Lib.hid z1; have z3 := Lib.hid t1; have o1 := Lib.hid (And.intro v1 y1)
  have k5 := (stEvs_len (insAt c ms.pc) ms).1
  clear z1 t1 e4 v1 y1
  have o0 := Bs w4
  have k1 := Lib.hid (five_take L); have u4 := Lib.hid (five_le L); have x4 := Lib.hid (show L.take L.length = L from List.take_length)
  go_wp2_with fail
  go_loopw [9, 10] (fun a i wr => ∃ (k j : Nat), a = .int .i64 j ∧ i = .int .i64 k ∧ k ≤ L.length ∧ Hid (j = five (L.take k)) ∧ Below w4.heap.size w4 wr) (fun _ i _ => L.length - (intOf i).toNat)
  case atStart => exact ⟨0, 0, rfl, rfl, Nat.zero_le _, Lib.hid rfl, Bs _⟩
  case round =>
   obtain ⟨k, j, rfl, rfl, hk, HJ, t0⟩ := hrel
   obtain ⟨wl, rfl⟩ : ∃ X, X = wr := ⟨_, rfl⟩
   replace i0 := btr i0 t0
   replace m0 := btr m0 t0
   replace f0 := btr f0 t0
   replace o0 := btr o0 t0
   have q4 := t0.size
   replace j0 := Bk.below j0 t0
   replace k0 := Bk.below k0 t0
   replace p0 := btr p0 t0
   clear t0
   replace i1 := Bk.lz j0
   replace j1 := Bk.lz k0
   have z5 : j ≤ k := by have := five_le (L.take k); have := List.length_take_le k L; have := HJ.out; omega
   by_cases hlt : k < L.length
   ·have hq : (k : Int) < (L.length : Int) := by omega
    obtain ⟨_, g5, aa, u5, b0, e6, t4, y0, g4, v0⟩ := (HE.out _ m0)
    simp only [Value.slice.injEq, true_and] at t4
    obtain ⟨rfl, rfl⟩ := t4
    obtain ⟨rfl, z4⟩ := g4 (by omega)
    rw [evs_rows] at v0
    obtain ⟨e0, e1⟩ := reads_Event v0 k hlt
    clear v0 g4 g5 y0
    have y5 : b0 < wl.heap.size := Lc e0
    have y3 := Lib.hid (k1.out k hlt)
    clear k1
    generalize L[k] = x at *
    obtain ⟨x0, x1⟩ := x
    simp only at e0 e1
    by_cases hx : x0 = 5
    ·have q5 : (x0 == 5) = true := by simp [hx]
     have m1 : Hid (j + 1 = five (L.take (k + 1))) := Lib.hid (by rw [y3.out, ← HJ.out]; simp [hx])
     subst hx
     have y4 := Lib.hid (Bs wl)
     go_wp2
     go_roundw
     case rel => exact ⟨k + 1, j + 1, by go_num, by go_num, by omega, m1, o0⟩
     case measure => simp [intOf]; omega
    have q5 : (x0 == 5) = false := by simp [hx]
    have m1 : Hid (j = five (L.take (k + 1))) := Lib.hid (by rw [y3.out, ← HJ.out]; simp [hx])
    clear hx
    have y4 := Lib.hid (Bs wl)
    go_wp2
    go_roundw
    case rel => exact ⟨k + 1, j, by go_num, by go_num, by omega, m1, o0⟩
    case measure => simp [intOf]; omega
   have hq : decide ((k : Int) < (L.length : Int)) = false := decide_eq_false (by omega)
   have a6 : ¬ (k : Int) < (L.length : Int) := by omega
   have v4 : Hid (j = five L) := Lib.hid (by rw [HJ.out, show k = L.length by omega, x4.out])
   clear k1 u4
   have e5 : 1 ≤ j ∧ j ≤ 4 := by have := o1.out; have := v4.out; omega
   obtain ⟨o2, n3, r2, o3, s2, p3⟩ := Bk.f3 j0 0 1 2 rfl rfl rfl
   obtain ⟨t2, q3, v2, r3, x2, s3, y2, t3⟩ := Bk.f4 k0 0 1 2 3 rfl rfl rfl rfl
   go_wp2_with fail
   have h0 := iStep_any _ _ _ _ _ _ c ms _ (HC.out _ i0) (HS.out _ i0) s0.1 s0.2.1 s0.2.2.1 s0.2.2.2
   unfold StepP at h0
   rw [z3.out] at h0
   refine (h0).mono ?_
   rintro e w5 ⟨pc, d0, d1, d2, de, n0, n1, n2, ne, g0, g1, g2, ge, rfl, l4, hb⟩
   obtain ⟨k4, ⟨us, oM⟩, oG⟩ := l4 rfl
   clear l4
   obtain ⟨x9, y9, e9⟩ := Oh oG
   simp only [Value.slice.injEq] at e9
   obtain ⟨e9a, e9b, e9c⟩ := e9
   subst e9b; clear e9a e9c
   obtain ⟨X, hX⟩ : ∃ X, stepN c ms = X := ⟨_, rfl⟩
   have j4 : mvOk c X = true := by rw [← hX]; exact mvOk_step z3.out
   rw [hX] at k4 oM
   subst k4
   have b4 := Lib.hid j4; clear j4 hX
   obtain ⟨m5, n5, o5, p5⟩ := mv_len b4.out (by omega) (by omega)
   clear h0
   replace i0 := btr i0 hb
   replace m0 := btr m0 hb
   replace f0 := btr f0 hb
   replace o0 := btr o0 hb
   have r4 := hb.size
   clear n3 o2 o3 r2 p3 s2 q3 t2 r3 v2 s3 x2 t3 y2
   replace j0 := Bk.below j0 hb
   replace k0 := Bk.below k0 hb
   replace p0 := btr p0 hb
   clear hb
   have q0 := Bs w5
   have HX := Lib.hid (fun W (hW : Below w5.heap.size w5 W) => (oM.rdS m5 n5 o5 p5).below hW)
   have HG := Lib.hid (fun W (hW : Below w5.heap.size w5 W) => (Ro oG (by unfold stepE; omega)).below hW)
   replace i1 := Bk.lz j0
   replace j1 := Bk.lz k0
   clear oM oG
   have h5 : (1 : Int) ≤ (j : Int) := by omega
   have i5 : (j : Int) ≤ 4 := by omega
   have d5 : (stepE c ms).length ≤ L.length := by have := d4.out; rw [this, List.length_append]; unfold stepE; omega
   have r1 := Lib.hid (show L.take (stepE c ms).length = stepE c ms from by have := d4.out; rw [this]; exact List.take_left)
   have j5 : ((stepE c ms).length : Int) ≤ (L.length : Int) := by omega
   have b5 := reads_cap (HE.out _ m0)
   have k5 : ∀ W, (Instr.slice 42 (.slice p1 L.length q1) none (some (.int .i64 ((stepE c ms).length : Nat))) none).run Try.prog W = .ok (.slice p1 (stepE c ms).length q1) W := fun W => run_pre tEvs p1 L.length q1 (stepE c ms).length (by omega) W
   obtain ⟨z2, u3, b3, v3, d3, x3⟩ := Bk.f3 j0 0 1 2 rfl rfl rfl
   go_wp2_with fail
   have h0 := iMValid_any _ _ _ _ _ _ c X _ (HC.out _ (bal i0 (.cells #[.int .i64 X.pc, .slice d0 n0 g0, .slice d1 n1 g1, .slice d2 n2 g2] 39))) (HX.out _ (bal q0 (.cells #[.int .i64 X.pc, .slice d0 n0 g0, .slice d1 n1 g1, .slice d2 n2 g2] 39)))
   rw [b4.out] at h0
   refine (h0).mono ?_
   rintro e w6 ⟨rfl, hb⟩
   clear h0
   replace i0 := btr (bal i0 _) hb
   replace m0 := btr (bal m0 _) hb
   replace f0 := btr (bal f0 _) hb
   replace o0 := btr (bal o0 _) hb
   replace q0 := btr (bal q0 _) hb
   have z0 := hb.size
   simp only [Sa] at z0
   clear u3 z2 v3 b3 x3 d3
   replace j0 := Bk.below (Bk.al j0 _) hb
   replace k0 := Bk.below (Bk.al k0 _) hb
   have u0 : Bk w6 (w5.heap.size) [.int .i64 X.pc, .slice d0 n0 g0, .slice d1 n1 g1, .slice d2 n2 g2] := Bk.below (Bk.nw (by simp) rfl) hb
   replace p0 := btr (bal p0 _) hb
   clear hb
   have r5 := Bk.lz u0
   go_wp2_with fail
   have h0 := TraceSame_any _ _ (stepE c ms) (stepE c ms) _ (by have h := reads_takeE (HE.out _ m0) (stepE c ms).length d5; rw [r1.out] at h; exact h) (HG.out _ q0)
   rw [decide_eq_true (Eq.refl (stepE c ms))] at h0
   refine (h0).mono ?_
   rintro e w7 ⟨rfl, hb⟩
   clear h0
   replace i0 := btr i0 hb
   replace m0 := btr m0 hb
   replace f0 := btr f0 hb
   replace o0 := btr o0 hb
   replace q0 := btr q0 hb
   have s4 := hb.size
   replace j0 := Bk.below j0 hb
   replace k0 := Bk.below k0 hb
   replace u0 := Bk.below u0 hb
   replace p0 := btr p0 hb
   clear hb
   have tt := p0
   go_wp2
   go_ret
   exact ⟨rfl, tt⟩
end Go.Proofs.Ytkjedgnepnbkpaa
