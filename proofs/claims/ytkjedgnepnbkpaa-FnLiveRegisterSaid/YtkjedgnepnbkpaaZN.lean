/-
 Parts of the proofs of the laws FnCheckLive, FnCodeFenced, FnEraseCode, FnEraseSecret, FnFinalRegs, FnLiveRegister, FnLiveRegs, FnSpecPath.
-/
import Derived.Test.YtkjedgnepnbkpaaSA
set_option linter.all false
namespace Go.Proofs.Ytkjedgnepnbkpaa
open Go.RowKit
theorem mv_len {c : Cd} {s : Ms} (h : mvOk c s = true) (h0 : c.vars.length ≤ 1000) (h1 : c.arrays.length ≤ 1000) : s.regs.length ≤ 1048576 ∧ s.mem.vals.length ≤ 1048576 ∧ s.mem.arrs.length ≤ 1048576 ∧ pre2 s.mem.arrs s.mem.arrs.length ≤ 1048576 := by
 obtain ⟨_, hm⟩ := mvOk_ok h
 obtain ⟨m1, m2, _, m4⟩ := memOk_parts hm.mem
 have h5 := hm.regs
 have h6 := pre2_le s.mem.arrs 4 (fun k r hr => by have := (m4 r (List.mem_of_getElem? hr)).1; omega) _ (Nat.le_refl _)
 omega
theorem OwnMv.rdS {w : World} {base : Nat} {vr vv va : Value} {us : List Value} {s : Ms} (h : OwnMv w base vr vv va us s.regs s.mem) (h0 : s.regs.length ≤ 1048576) (hl : s.mem.vals.length ≤ 1048576) (hn : s.mem.arrs.length ≤ 1048576) (hp : pre2 s.mem.arrs s.mem.arrs.length ≤ 1048576) : ReadsS w vr vv va s := ⟨Ro h.r (by omega), h.toM.reads hl hn hp⟩
end Go.Proofs.Ytkjedgnepnbkpaa
namespace Go.Proofs.Ytkjedgnepnbkpaa
open Go.RowKit
def stepN (c : Cd) (s : Ms) : Ms := stp (insAt c s.pc) s
def stepE (c : Cd) (s : Ms) : List Ev := stEvs (insAt c s.pc) s
def StepP (c : Cd) (s : Ms) (w : World) (e : Ending) (w' : World) : Prop := ∃ (pc : Int) (p0 p1 p2 pe : Option Addr) (n0 n1 n2 ne t0 t1 t2 te : Nat), e = .returned (.tuple #[.agg #[.int .i64 pc, .slice p0 n0 t0, .slice p1 n1 t1, .slice p2 n2 t2], .slice pe ne te, .bool (mvOk c s)]) ∧ (mvOk c s = true → pc = (stepN c s).pc ∧ (∃ us, OwnMv w' w.heap.size (.slice p0 n0 t0) (.slice p1 n1 t1) (.slice p2 n2 t2) us (stepN c s).regs (stepN c s).mem) ∧ w'.ownsRow w.heap.size 47 2 (.slice pe ne te) (stepE c s).length (evs (stepE c s))) ∧ Below w.heap.size w w'
set_option maxHeartbeats 6400000 in
set_option maxRecDepth 100000 in
theorem iStep_any (va vb vc vr vx vy : Value) (c : Cd) (s : Ms) (w : World) (hr : ReadsC w va vb vc c) (hs : ReadsS w vr vx vy s) (h0 : s.regs.length ≤ 1048576) (hl : s.mem.vals.length ≤ 1048576) (hn : s.mem.arrs.length ≤ 1048576) (hp : pre2 s.mem.arrs s.mem.arrs.length ≤ 1048576) :
  Calls Try.prog 21 #[.agg #[va, vb, vc], .agg #[.int .i64 s.pc, vr, vx, vy]] w fun e w' => StepP c s w e w' := by
 obtain ⟨a0, c0, a1, c1, a2, c2, rfl, rfl, rfl⟩ := hr.shape
 obtain ⟨a5, c5, rfl⟩ := reads_shape hs.r
 obtain ⟨a3, c3, a4, c4, rfl, rfl⟩ := hs.m.shape
 have HR := Lib.hid (fun W (hW : Below w.heap.size w W) => hr.below hW)
 have z1 := Lib.hid (fun W (hW : Below w.heap.size w W) => iMValid_any _ _ _ _ _ _ c s W (hr.below hW) (hs.below hW))
 have y1 := Lib.hid (fun W (hW : Below w.heap.size w W) => iMOwn_any _ _ _ s W (hs.below hW) h0 hl hn hp)
 clear hr hs h0 hl hn hp
 go_enter Try.func21, Try.ntmps21
 go_wp2_with fail
 refine (z1.out _ (bal (bal (bal (Bs w) (.cells #[.slice a0 c.vars.length c0, .slice a1 c.arrays.length c1, .slice a2 c.list.length c2] 26)) (.cells #[.int .i64 s.pc, .slice a5 s.regs.length c5, .slice a3 s.mem.vals.length c3, .slice a4 s.mem.arrs.length c4] 39)) (.cells #[.int .i64 0, .slice none 0 0, .slice none 0 0, .slice none 0 0] 39))).mono ?_
 rintro e w1 ⟨rfl, hb⟩
 have o0 := hb.size
 simp only [Sa] at o0
 have f0 : Bk w1 (w.heap.size) [.slice a0 c.vars.length c0, .slice a1 c.arrays.length c1, .slice a2 c.list.length c2] := Bk.below (Bk.al (Bk.al (Bk.nw (by simp) rfl) (.cells #[.int .i64 s.pc, .slice a5 s.regs.length c5, .slice a3 s.mem.vals.length c3, .slice a4 s.mem.arrs.length c4] 39)) (.cells #[.int .i64 0, .slice none 0 0, .slice none 0 0, .slice none 0 0] 39)) hb
 have g0 : Bk w1 (w.heap.size + 1) [.int .i64 s.pc, .slice a5 s.regs.length c5, .slice a3 s.mem.vals.length c3, .slice a4 s.mem.arrs.length c4] := Bk.below (Bk.al (Bk.nw (by simp) rfl) (.cells #[.int .i64 0, .slice none 0 0, .slice none 0 0, .slice none 0 0] 39)) hb
 have e0 : Bk w1 (w.heap.size + 1 + 1) [.int .i64 0, .slice none 0 0, .slice none 0 0, .slice none 0 0] := Bk.below (Bk.nw (by simp) rfl) hb
 have d0 := btr (bal (bal (bal (Bs w) (.cells #[.slice a0 c.vars.length c0, .slice a1 c.arrays.length c1, .slice a2 c.list.length c2] 26)) (.cells #[.int .i64 s.pc, .slice a5 s.regs.length c5, .slice a3 s.mem.vals.length c3, .slice a4 s.mem.arrs.length c4] 39)) (.cells #[.int .i64 0, .slice none 0 0, .slice none 0 0, .slice none 0 0] 39)) hb
 clear hb
 have g2 := Bk.lz f0
 have i2 := Bk.lz g0
 have j2 := Bk.lz e0
 cases hmv : mvOk c s with
 | false =>
  have HV := Lib.hid hmv; clear hmv
  obtain ⟨l2, l3, q0, m2, r0, o2, s0, q2⟩ := Bk.f4 e0 0 1 2 3 rfl rfl rfl rfl
  have y2 := (Nc (b := (w.heap.size + 1 + 1)) (j := 3) (Nc (b := (w.heap.size + 1 + 1)) (j := 2) (Nc (b := (w.heap.size + 1 + 1)) (j := 1) (Tc _ (w.heap.size + 1 + 1) 0 (.int .i64 0) l2) (by omega) (.slice none 0 0)) (by omega) (.slice none 0 0)) (by omega) (.slice none 0 0))
  have z2 := (Nc (b := (w.heap.size + 1 + 1)) (j := 3) (Nc (b := (w.heap.size + 1 + 1)) (j := 2) (Tc _ (w.heap.size + 1 + 1) 1 (.slice none 0 0) (Nc (b := (w.heap.size + 1 + 1)) (j := 0) q0 (by omega) (.int .i64 0))) (by omega) (.slice none 0 0)) (by omega) (.slice none 0 0))
  have b3 := (Nc (b := (w.heap.size + 1 + 1)) (j := 3) (Tc _ (w.heap.size + 1 + 1) 2 (.slice none 0 0) (Nc (b := (w.heap.size + 1 + 1)) (j := 1) (Nc (b := (w.heap.size + 1 + 1)) (j := 0) r0 (by omega) (.int .i64 0)) (by omega) (.slice none 0 0))) (by omega) (.slice none 0 0))
  have d3 := (Tc _ (w.heap.size + 1 + 1) 3 (.slice none 0 0) (Nc (b := (w.heap.size + 1 + 1)) (j := 2) (Nc (b := (w.heap.size + 1 + 1)) (j := 1) (Nc (b := (w.heap.size + 1 + 1)) (j := 0) s0 (by omega) (.int .i64 0)) (by omega) (.slice none 0 0)) (by omega) (.slice none 0 0)))
  have tt := (bst (bst (bst (bst d0 (w.heap.size + 1 + 1) 0 (by omega) (.int .i64 0)) (w.heap.size + 1 + 1) 1 (by omega) (.slice none 0 0)) (w.heap.size + 1 + 1) 2 (by omega) (.slice none 0 0)) (w.heap.size + 1 + 1) 3 (by omega) (.slice none 0 0))
  go_wp2
  exact bodyPost_ret (v := .tuple #[.agg #[.int .i64 0, .slice none 0 0, .slice none 0 0, .slice none 0 0], .slice none 0 0, .bool false]) (by simp [results, Try.results21, go_sem, y2, z2, b3, d3]) rfl (by exact (by unfold StepP; rw [HV.out]; exact ⟨_, _, _, _, _, _, _, _, _, _, _, _, _, rfl, (fun h => by cases h), tt⟩))
 | true =>
  obtain ⟨s1, hM⟩ := mvOk_ok hmv
  have HV := Lib.hid hmv; have e2 := Lib.hid s1; have x1 := Lib.hid hM; clear hmv s1 hM
  obtain ⟨u0, h1, v0, i1, w0, j1, x0, l1⟩ := Bk.f4 g0 0 1 2 3 rfl rfl rfl rfl
  go_wp2_with fail
  refine (y1.out _ d0).mono ?_
  rintro e w2 ⟨ur, ux, uy, us, rfl, OM, hb⟩
  obtain ⟨pr, tr, rfl⟩ := Oh OM.r
  obtain ⟨px, tx, rfl⟩ := Oh OM.v
  obtain ⟨py, ty, rfl⟩ := Oh OM.a.out
  have u1 := hb.size
  clear h1 u0 i1 v0 j1 w0 l1 x0
  replace f0 := Bk.below f0 hb
  replace g0 := Bk.below g0 hb
  replace e0 := Bk.below e0 hb
  replace d0 := btr d0 hb
  clear hb
  replace g2 := Bk.lz f0
  replace i2 := Bk.lz g0
  replace j2 := Bk.lz e0
  have m0 := OM.lt
  go_upto_region 4 with (fail)
  obtain ⟨w3, r1, hb⟩ := nmw (World.alloc w2 (.cells #[.int .i64 s.pc, .slice pr s.regs.length tr, .slice px s.mem.vals.length tx, .slice py s.mem.arrs.length ty] 39))
  have l0 := hb.size
  simp only [Sa] at l0
  replace OM := (OM.below (bal (Bs _) _)).below hb
  replace f0 := Bk.below (Bk.al f0 _) hb
  replace g0 := Bk.below (Bk.al g0 _) hb
  replace e0 := Bk.below (Bk.al e0 _) hb
  have b0 : Bk w3 (w2.heap.size) [.int .i64 s.pc, .slice pr s.regs.length tr, .slice px s.mem.vals.length tx, .slice py s.mem.arrs.length ty] := Bk.below (Bk.nw (by simp) rfl) hb
  replace d0 := btr (bal d0 _) hb
  clear hb
  rw [← r1]
  clear r1
  have f2 := Bk.lz b0
  have hS : OwnS w3 w.heap.size (w2.heap.size) (.slice pr s.regs.length tr) (.slice px s.mem.vals.length tx) (.slice py s.mem.arrs.length ty) us s := ⟨Bk.cell b0 0 rfl, Bk.cell b0 1 rfl, Bk.cell b0 2 rfl, Bk.cell b0 3 rfl, Bk.froz b0 0 (show 0 < 4 by decide), OM.mono (by omega), fun h => by have := m0 _ h; omega⟩
  have iS : ∀ q, (q = w2.heap.size ∨ OwnMB (.slice pr s.regs.length tr) (.slice px s.mem.vals.length tx) (.slice py s.mem.arrs.length ty) us q) → w.heap.size + 3 ≤ q ∧ q < w3.heap.size := by rintro q (h | h); omega; (have := m0 q h; omega)
  have iM : ∀ q, OwnMB (.slice pr s.regs.length tr) (.slice px s.mem.vals.length tx) (.slice py s.mem.arrs.length ty) us q → w.heap.size + 3 ≤ q ∧ q < w3.heap.size := fun q h => iS q (Or.inr h)
  clear OM b0
  obtain ⟨y0, m1, z0, o1, b1, q1⟩ := Bk.f3 f0 0 1 2 rfl rfl rfl
  go_wp2_with fail
  refine (step_any (w2.heap.size) w.heap.size _ _ _ _ _ _ us c s _ (HR.out _ d0) hS x1.out e2.out).mono ?_
  rintro e w4 ⟨u2, rfl, oU, j0, hC⟩
  obtain ⟨pv, tv, rfl⟩ := Oh oU
  clear hS
  have v1 := hC.size
  clear m1 y0 o1 z0 q1 b1
  replace f0 := Bk.keep f0 hC (fun h => by have := iS _ h; omega)
  replace g0 := Bk.keep g0 hC (fun h => by have := iS _ h; omega)
  replace e0 := Bk.keep e0 hC (fun h => by have := iS _ h; omega)
  replace d0 := d0.trans (hC.below w.heap.size (by have := d0.size; omega) (fun gq hgq h => by have := iS gq h; omega))
  clear hC
  have i0 := oU.lt
  have k0 := j0.c0
  have k1 := j0.c1
  have k2 := j0.c2
  have k3 := j0.c3
  have oM := j0.own; clear j0
  have j3 := Lib.hid (show stepN c s = stp (insAt c s.pc) s ∧ stepE c s = stEvs (insAt c s.pc) s from ⟨rfl, rfl⟩)
  have b2 := Lib.hid ((((oM.keep (C1 (w.heap.size + 1 + 1) 0 (.int .i64 ((stp (insAt c s.pc) s).pc))) (fun gq h h2 => by have := iM gq h; omega)).keep (C1 (w.heap.size + 1 + 1) 1 (.slice pr s.regs.length tr)) (fun gq h h2 => by have := iM gq h; omega)).keep (C1 (w.heap.size + 1 + 1) 2 (.slice px s.mem.vals.length tx)) (fun gq h h2 => by have := iM gq h; omega)).keep (C1 (w.heap.size + 1 + 1) 3 (.slice py s.mem.arrs.length ty)) (fun gq h h2 => by have := iM gq h; omega)); have d2 := Lib.hid (Om (Oe (Oe (Oe (Oe oU (w.heap.size + 1 + 1) 0 (fun h => by have := i0 _ h; omega) (.int .i64 ((stp (insAt c s.pc) s).pc))) (w.heap.size + 1 + 1) 1 (fun h => by have := i0 _ h; omega) (.slice pr s.regs.length tr)) (w.heap.size + 1 + 1) 2 (fun h => by have := i0 _ h; omega) (.slice px s.mem.vals.length tx)) (w.heap.size + 1 + 1) 3 (fun h => by have := i0 _ h; omega) (.slice py s.mem.arrs.length ty)) (show w.heap.size ≤ _ by omega))
  clear oM oU
  obtain ⟨d1, r2, e1, s2, f1, v2, g1, x2⟩ := Bk.f4 e0 0 1 2 3 rfl rfl rfl rfl
  have e3 := (Nc (b := (w.heap.size + 1 + 1)) (j := 3) (Nc (b := (w.heap.size + 1 + 1)) (j := 2) (Nc (b := (w.heap.size + 1 + 1)) (j := 1) (Tc _ (w.heap.size + 1 + 1) 0 (.int .i64 ((stp (insAt c s.pc) s).pc)) d1) (by omega) (.slice pr s.regs.length tr)) (by omega) (.slice px s.mem.vals.length tx)) (by omega) (.slice py s.mem.arrs.length ty))
  have g3 := (Nc (b := (w.heap.size + 1 + 1)) (j := 3) (Nc (b := (w.heap.size + 1 + 1)) (j := 2) (Tc _ (w.heap.size + 1 + 1) 1 (.slice pr s.regs.length tr) (Nc (b := (w.heap.size + 1 + 1)) (j := 0) e1 (by omega) (.int .i64 ((stp (insAt c s.pc) s).pc)))) (by omega) (.slice px s.mem.vals.length tx)) (by omega) (.slice py s.mem.arrs.length ty))
  have h3 := (Nc (b := (w.heap.size + 1 + 1)) (j := 3) (Tc _ (w.heap.size + 1 + 1) 2 (.slice px s.mem.vals.length tx) (Nc (b := (w.heap.size + 1 + 1)) (j := 1) (Nc (b := (w.heap.size + 1 + 1)) (j := 0) f1 (by omega) (.int .i64 ((stp (insAt c s.pc) s).pc))) (by omega) (.slice pr s.regs.length tr))) (by omega) (.slice py s.mem.arrs.length ty))
  have i3 := (Tc _ (w.heap.size + 1 + 1) 3 (.slice py s.mem.arrs.length ty) (Nc (b := (w.heap.size + 1 + 1)) (j := 2) (Nc (b := (w.heap.size + 1 + 1)) (j := 1) (Nc (b := (w.heap.size + 1 + 1)) (j := 0) g1 (by omega) (.int .i64 ((stp (insAt c s.pc) s).pc))) (by omega) (.slice pr s.regs.length tr)) (by omega) (.slice px s.mem.vals.length tx)))
  have tt := (bst (bst (bst (bst d0 (w.heap.size + 1 + 1) 0 (by omega) (.int .i64 ((stp (insAt c s.pc) s).pc))) (w.heap.size + 1 + 1) 1 (by omega) (.slice pr s.regs.length tr)) (w.heap.size + 1 + 1) 2 (by omega) (.slice px s.mem.vals.length tx)) (w.heap.size + 1 + 1) 3 (by omega) (.slice py s.mem.arrs.length ty))
  go_wp2
  exact bodyPost_ret (v := .tuple #[.agg #[.int .i64 ((stp (insAt c s.pc) s).pc), .slice pr s.regs.length tr, .slice px s.mem.vals.length tx, .slice py s.mem.arrs.length ty], .slice pv ((stEvs (insAt c s.pc) s).length) tv, .bool true]) (by simp [results, Try.results21, go_sem, e3, g3, h3, i3]) rfl (by exact (by unfold StepP; rw [HV.out]; exact ⟨_, _, _, _, _, _, _, _, _, _, _, _, _, rfl, fun _ => ⟨rfl, ⟨us, b2.out⟩, d2.out⟩, tt⟩))
end Go.Proofs.Ytkjedgnepnbkpaa
