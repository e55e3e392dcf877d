/-
 Parts of the proofs of the laws FnCheckLive, FnCodeFenced, FnEraseCode, FnEraseSecret, FnFinalRegs, FnLiveRegister, FnLiveRegs, FnSpecPath.
-/
import Derived.Test.YtkjedgnepnbkpaaWB
import Derived.Test.YtkjedgnepnbkpaaWD
import Derived.Test.YtkjedgnepnbkpaaZG
set_option linter.all false
namespace Go.Proofs.Ytkjedgnepnbkpaa
open Go.RowKit
def newv (x : Ins) (s : Ms) : Int :=
 if x.op = 1 then x.b
 else if x.op = 2 then gi s.mem.vals x.b
 else if x.op = 4 then gi (gr s.mem.arrs x.b) (gi s.regs x.c % 4)
 else if x.op = 6 then opr x.b (gi s.regs x.c) (gi s.regs x.d)
 else if x.op = 7 then (if gi s.regs x.b ≠ 0 then gi s.regs x.c else gi s.regs x.d)
 else if x.op = 10 then (gi s.regs x.a + 255) % 256
 else 0
theorem stRegs_wrt {nv na nl : Nat} {x : Ins} (h : insOk nv na nl x = true) (s : Ms) : (wrt x = -1 ∧ stRegs x s = s.regs) ∨ ((0 ≤ wrt x ∧ wrt x < 14) ∧ stRegs x s = s.regs.set (wrt x).toNat (newv x s)) := by
 have hw := wrt_in h
 have ho := insOk_op h
 obtain ⟨op, a, b, d, f⟩ := x
 obtain ⟨P1, P2, P3, P4, P5, P6, P7, P8, P9, a0, b0⟩ := ins_parts h
 simp only at ho
 have hc : op = 1 ∨ op = 2 ∨ op = 3 ∨ op = 4 ∨ op = 5 ∨ op = 6 ∨ op = 7 ∨ op = 8 ∨ op = 9 ∨ op = 10 ∨ op = 11 ∨ op = 12 ∨ op = 13 := by omega
 rcases hc with rfl | rfl | rfl | rfl | rfl | rfl | rfl | rfl | rfl | rfl | rfl | rfl | rfl
 ·exact Or.inr ⟨(P1 rfl).1, rfl⟩
 ·exact Or.inr ⟨(P2 rfl).1, rfl⟩
 ·exact Or.inl ⟨rfl, rfl⟩
 ·exact Or.inr ⟨(P4 rfl).1, rfl⟩
 ·exact Or.inl ⟨rfl, rfl⟩
 ·exact Or.inr ⟨(P6 rfl).1, rfl⟩
 ·exact Or.inr ⟨(P7 rfl).1, rfl⟩
 ·exact Or.inl ⟨rfl, rfl⟩
 ·exact Or.inl ⟨rfl, rfl⟩
 ·exact Or.inr ⟨(a0 rfl).1, rfl⟩
 ·exact Or.inl ⟨rfl, rfl⟩
 ·exact Or.inl ⟨rfl, rfl⟩
 exact Or.inl ⟨rfl, rfl⟩
theorem same_eff {nv na nl : Nat} {x : Ins} (h : insOk nv na nl x = true) {s t : Ms} (hp : s.pc = t.pc) (hm : s.mem = t.mem) (hu : ∀ u ∈ use x, gi s.regs u = gi t.regs u) :
  stPc x s = stPc x t ∧ stMem x s = stMem x t ∧ stEvs x s = stEvs x t ∧ newv x s = newv x t := by
 have ho := insOk_op h
 obtain ⟨pc, rs, m⟩ := s
 obtain ⟨a0, qs, m2⟩ := t
 simp only at hp hm hu
 subst hp hm
 obtain ⟨op, a, b, d, f⟩ := x
 simp only at ho
 have hc : op = 1 ∨ op = 2 ∨ op = 3 ∨ op = 4 ∨ op = 5 ∨ op = 6 ∨ op = 7 ∨ op = 8 ∨ op = 9 ∨ op = 10 ∨ op = 11 ∨ op = 12 ∨ op = 13 := by omega
 rcases hc with rfl | rfl | rfl | rfl | rfl | rfl | rfl | rfl | rfl | rfl | rfl | rfl | rfl
 all_goals
  simp only [use] at hu
  simp at hu
  simp [stPc, stMem, stEvs, newv, hu]
theorem stPc_flw {nv na nl : Nat} {x : Ins} (h : insOk nv na nl x = true) (h13 : ¬ x.op = 13) (s : Ms) (k : Nat) (hk : s.pc = k) : stPc x s ∈ flw x k := by
 unfold stPc flw
 by_cases h8 : x.op = 8
 ·rw [if_pos h8, if_pos h8]; simp
 rw [if_neg h8, if_neg h8]
 by_cases h9 : x.op = 9
 ·rw [if_pos h9, if_pos (Or.inl h9)]
  split
  ·simp
  rw [hk]; simp
 rw [if_neg h9]
 by_cases h10 : x.op = 10
 ·rw [if_pos h10, if_pos (Or.inr h10)]
  split
  ·simp
  rw [hk]; simp
 rw [if_neg h10, if_neg h13, if_neg (by omega), if_neg h13, hk]; simp
structure LvEq (c : Cd) (s t : Ms) : Prop where
 pc : s.pc = t.pc
 mem : s.mem = t.mem
 regs : ∀ r : Nat, r < 14 → bit (liveOf c) s.pc r = true → gi s.regs (r : Int) = gi t.regs (r : Int)
theorem live_bit {c : Cd} {k : Nat} (hk : k < c.list.length) {r : Nat} (hr : r < 14) : bit (liveOf c) (k : Int) r = befF c.list[k] (aftF (liveOf c) (flw c.list[k] k)) r := by
 have hi := live_inv c
 have a0 : k < (liveOf c).length := by rw [hi.len]; exact hk
 rw [bit_at _ k r a0 (by rw [hi.rows k a0]; exact hr)]
 have := live_fix c k a0
 rw [befAt_at c _ k hk] at this
 have e : (liveOf c)[k][r]'(by rw [hi.rows k a0]; exact hr) = ((liveOf c)[k]).getD r false := by
  rw [List.getD_eq_getElem?_getD, List.getElem?_eq_getElem (by rw [hi.rows k a0]; exact hr)]; rfl
 rw [e, ← this, tab_getD _ _ hr]
theorem lv_step {c : Cd} (hok : codeOk c = true) {s t : Ms} (hs : MsOk c s) (ht : MsOk c t) (h : LvEq c s t) :
  LvEq c (stp (insAt c s.pc) s) (stp (insAt c t.pc) t) ∧ stEvs (insAt c s.pc) s = stEvs (insAt c t.pc) t := by
 obtain ⟨k, c0⟩ : ∃ k : Nat, s.pc = k := ⟨s.pc.toNat, by have := hs.pc0; omega⟩
 have hk : k < c.list.length := by have := hs.pc1; omega
 have a0 := codeOk_all hok k hk
 have hi : insAt c (k : Int) = c.list[k] := by unfold insAt; rw [Int.toNat_natCast, List.getElem?_eq_getElem hk]; rfl
 have d0 := fun r hr => live_bit (c := c) hk (r := r) hr
 rw [← h.pc, c0, hi]
 have hu : ∀ u ∈ use c.list[k], gi s.regs u = gi t.regs u := by
  intro u hu
  obtain ⟨h0, h1⟩ := use_in a0 u hu
  obtain ⟨r, rfl⟩ : ∃ r : Nat, u = r := ⟨u.toNat, by omega⟩
  refine h.regs r (by omega) ?_
  rw [c0, d0 r (by omega)]
  unfold befF
  rw [List.any_eq_true.2 ⟨(r : Int), hu, by simp⟩]; rfl
 obtain ⟨e1, e2, e3, e4⟩ := same_eff a0 h.pc h.mem hu
 refine ⟨⟨e1, e2, fun r hr hb => ?_⟩, e3⟩
 show gi (stRegs c.list[k] s) (r : Int) = gi (stRegs c.list[k] t) (r : Int)
 have b0 : ¬ wrt c.list[k] = (r : Int) → gi s.regs (r : Int) = gi t.regs (r : Int) := by
  intro hw
  refine h.regs r hr ?_
  by_cases h13 : c.list[k].op = 13
  ·have : (stp c.list[k] s).pc = s.pc := by rw [stp_halt h13]
   rw [this] at hb; exact hb
  rw [c0, d0 r hr]
  have hf := stPc_flw a0 h13 s k c0
  unfold befF
  have : aftF (liveOf c) (flw c.list[k] k) r = true := List.any_eq_true.2 ⟨_, hf, hb⟩
  rw [this]
  simp [hw]
 rcases stRegs_wrt a0 s with ⟨w1, w2⟩ | ⟨w1, w2⟩
 ·rcases stRegs_wrt a0 t with ⟨_, v2⟩ | ⟨v1, _⟩
  ·rw [w2, v2]; exact b0 (by omega)
  omega
 rcases stRegs_wrt a0 t with ⟨v1, _⟩ | ⟨_, v2⟩
 ·omega
 rw [w2, v2, gi_setN, gi_setN, hs.regs, ht.regs, e4]
 by_cases e : (wrt c.list[k]).toNat = r
 ·rw [if_pos ⟨e, by omega⟩, if_pos ⟨e, by omega⟩]
 rw [if_neg (fun h2 => e h2.1), if_neg (fun h2 => e h2.1)]
 exact b0 (by omega)
end Go.Proofs.Ytkjedgnepnbkpaa
namespace Go.Proofs.Ytkjedgnepnbkpaa
open Go.RowKit
set_option maxHeartbeats 6400000 in
set_option maxRecDepth 100000 in
theorem DrawStepMachine_any (v : Value) (n : Nat) (vs : List Int) (w : World) (hr : Reads w 1 v n (vs.map (Value.int .u8))) (hv : ∀ x ∈ vs, 0 ≤ x ∧ x < 256) (hn : n ≤ 1048576) :
  Calls Try.prog 46 #[v] w fun r w' => DrawCSP w r w' := by
 go_enter Try.func46, Try.ntmps46
 go_wp2_with fail
 refine (DrawMachineValid_any v n vs _ (hr.below (bal (bal (Bs w) (.cells #[.slice none 0 0, .slice none 0 0, .slice none 0 0] 26)) (.cells #[.int .i64 0, .slice none 0 0, .slice none 0 0, .slice none 0 0] 39))) hv hn).mono ?_
 rintro e w1 ⟨va, vb, vc, vr, vx, vy, nv, na, nl, m, rfl, d0, o0, hm, hb⟩
 obtain ⟨a0, c0, a1, c1, a2, c2, rfl, rfl, rfl⟩ := d0.shape
 obtain ⟨a3, c3, a4, c4, rfl, rfl⟩ := hm.m.reads.shape
 obtain ⟨a5, c5, rfl⟩ := reads_shape hm.r
 simp only [Sa] at d0 hm
 clear hr hv
 have e0 := hb.size
 simp only [Sa] at e0
 have k0 : Bk w1 (w.heap.size) [.slice none 0 0, .slice none 0 0, .slice none 0 0] := Bk.below (Bk.al (Bk.nw (by simp) rfl) (.cells #[.int .i64 0, .slice none 0 0, .slice none 0 0, .slice none 0 0] 39)) hb
 have l0 : Bk w1 (w.heap.size + 1) [.int .i64 0, .slice none 0 0, .slice none 0 0, .slice none 0 0] := Bk.below (Bk.nw (by simp) rfl) hb
 have x0 := btr (bal (bal (Bs w) (.cells #[.slice none 0 0, .slice none 0 0, .slice none 0 0] 26)) (.cells #[.int .i64 0, .slice none 0 0, .slice none 0 0, .slice none 0 0] 39)) hb
 clear hb
 have h1 := Bk.lz k0
 have i1 := Bk.lz l0
 have b0 := d0.lt
 try simp only [Sa] at b0
 have m0 := Lib.hid (DrawC.mono (((((((d0.keep (C1 (w.heap.size) 0 (.slice a0 nv c0)) (fun gq h h2 => by have := b0 gq h; omega)).keep (C1 (w.heap.size) 1 (.slice a1 na c1)) (fun gq h h2 => by have := b0 gq h; omega)).keep (C1 (w.heap.size) 2 (.slice a2 nl c2)) (fun gq h h2 => by have := b0 gq h; omega)).keep (C1 (w.heap.size + 1) 0 (.int .i64 m.pc)) (fun gq h h2 => by have := b0 gq h; omega)).keep (C1 (w.heap.size + 1) 1 (.slice a5 m.regs.length c5)) (fun gq h h2 => by have := b0 gq h; omega)).keep (C1 (w.heap.size + 1) 2 (.slice a3 m.mem.vals.length c3)) (fun gq h h2 => by have := b0 gq h; omega)).keep (C1 (w.heap.size + 1) 3 (.slice a4 m.mem.arrs.length c4)) (fun gq h h2 => by have := b0 gq h; omega)) (show w.heap.size ≤ w.heap.size + 1 + 1 by omega))
 have n0 := Lib.hid (DrS.mono (((((((hm.keep (C1 (w.heap.size) 0 (.slice a0 nv c0)) (fun gq h h2 => by have := (fun q (h : w.heap.size + 1 + 1 ≤ q) => h) gq h; omega)).keep (C1 (w.heap.size) 1 (.slice a1 na c1)) (fun gq h h2 => by have := (fun q (h : w.heap.size + 1 + 1 ≤ q) => h) gq h; omega)).keep (C1 (w.heap.size) 2 (.slice a2 nl c2)) (fun gq h h2 => by have := (fun q (h : w.heap.size + 1 + 1 ≤ q) => h) gq h; omega)).keep (C1 (w.heap.size + 1) 0 (.int .i64 m.pc)) (fun gq h h2 => by have := (fun q (h : w.heap.size + 1 + 1 ≤ q) => h) gq h; omega)).keep (C1 (w.heap.size + 1) 1 (.slice a5 m.regs.length c5)) (fun gq h h2 => by have := (fun q (h : w.heap.size + 1 + 1 ≤ q) => h) gq h; omega)).keep (C1 (w.heap.size + 1) 2 (.slice a3 m.mem.vals.length c3)) (fun gq h h2 => by have := (fun q (h : w.heap.size + 1 + 1 ≤ q) => h) gq h; omega)).keep (C1 (w.heap.size + 1) 3 (.slice a4 m.mem.arrs.length c4)) (fun gq h h2 => by have := (fun q (h : w.heap.size + 1 + 1 ≤ q) => h) gq h; omega)) (show w.heap.size ≤ w.heap.size + 1 + 1 by omega))
 clear hm
 clear d0
 obtain ⟨p0, j1, q0, r0, f0, s0⟩ := Bk.f3 k0 0 1 2 rfl rfl rfl
 obtain ⟨g0, t0, h0, u0, i0, v0, j0, w0⟩ := Bk.f4 l0 0 1 2 3 rfl rfl rfl rfl
 have y0 := (Nc (b := (w.heap.size + 1)) (j := 3) (Nc (b := (w.heap.size + 1)) (j := 2) (Nc (b := (w.heap.size + 1)) (j := 1) (Nc (b := (w.heap.size + 1)) (j := 0) (Nc (b := (w.heap.size)) (j := 2) (Nc (b := (w.heap.size)) (j := 1) (Tc _ (w.heap.size) 0 (.slice a0 nv c0) p0) (by omega) (.slice a1 na c1)) (by omega) (.slice a2 nl c2)) (by omega) (.int .i64 m.pc)) (by omega) (.slice a5 m.regs.length c5)) (by omega) (.slice a3 m.mem.vals.length c3)) (by omega) (.slice a4 m.mem.arrs.length c4))
 have z0 := (Nc (b := (w.heap.size + 1)) (j := 3) (Nc (b := (w.heap.size + 1)) (j := 2) (Nc (b := (w.heap.size + 1)) (j := 1) (Nc (b := (w.heap.size + 1)) (j := 0) (Nc (b := (w.heap.size)) (j := 2) (Tc _ (w.heap.size) 1 (.slice a1 na c1) (Nc (b := (w.heap.size)) (j := 0) q0 (by omega) (.slice a0 nv c0))) (by omega) (.slice a2 nl c2)) (by omega) (.int .i64 m.pc)) (by omega) (.slice a5 m.regs.length c5)) (by omega) (.slice a3 m.mem.vals.length c3)) (by omega) (.slice a4 m.mem.arrs.length c4))
 have b1 := (Nc (b := (w.heap.size + 1)) (j := 3) (Nc (b := (w.heap.size + 1)) (j := 2) (Nc (b := (w.heap.size + 1)) (j := 1) (Nc (b := (w.heap.size + 1)) (j := 0) (Tc _ (w.heap.size) 2 (.slice a2 nl c2) (Nc (b := (w.heap.size)) (j := 1) (Nc (b := (w.heap.size)) (j := 0) f0 (by omega) (.slice a0 nv c0)) (by omega) (.slice a1 na c1))) (by omega) (.int .i64 m.pc)) (by omega) (.slice a5 m.regs.length c5)) (by omega) (.slice a3 m.mem.vals.length c3)) (by omega) (.slice a4 m.mem.arrs.length c4))
 have d1 := (Nc (b := (w.heap.size + 1)) (j := 3) (Nc (b := (w.heap.size + 1)) (j := 2) (Nc (b := (w.heap.size + 1)) (j := 1) (Tc _ (w.heap.size + 1) 0 (.int .i64 m.pc) (Nc (b := (w.heap.size)) (j := 2) (Nc (b := (w.heap.size)) (j := 1) (Nc (b := (w.heap.size)) (j := 0) g0 (by omega) (.slice a0 nv c0)) (by omega) (.slice a1 na c1)) (by omega) (.slice a2 nl c2))) (by omega) (.slice a5 m.regs.length c5)) (by omega) (.slice a3 m.mem.vals.length c3)) (by omega) (.slice a4 m.mem.arrs.length c4))
 have e1 := (Nc (b := (w.heap.size + 1)) (j := 3) (Nc (b := (w.heap.size + 1)) (j := 2) (Tc _ (w.heap.size + 1) 1 (.slice a5 m.regs.length c5) (Nc (b := (w.heap.size + 1)) (j := 0) (Nc (b := (w.heap.size)) (j := 2) (Nc (b := (w.heap.size)) (j := 1) (Nc (b := (w.heap.size)) (j := 0) h0 (by omega) (.slice a0 nv c0)) (by omega) (.slice a1 na c1)) (by omega) (.slice a2 nl c2)) (by omega) (.int .i64 m.pc))) (by omega) (.slice a3 m.mem.vals.length c3)) (by omega) (.slice a4 m.mem.arrs.length c4))
 have f1 := (Nc (b := (w.heap.size + 1)) (j := 3) (Tc _ (w.heap.size + 1) 2 (.slice a3 m.mem.vals.length c3) (Nc (b := (w.heap.size + 1)) (j := 1) (Nc (b := (w.heap.size + 1)) (j := 0) (Nc (b := (w.heap.size)) (j := 2) (Nc (b := (w.heap.size)) (j := 1) (Nc (b := (w.heap.size)) (j := 0) i0 (by omega) (.slice a0 nv c0)) (by omega) (.slice a1 na c1)) (by omega) (.slice a2 nl c2)) (by omega) (.int .i64 m.pc)) (by omega) (.slice a5 m.regs.length c5))) (by omega) (.slice a4 m.mem.arrs.length c4))
 have g1 := (Tc _ (w.heap.size + 1) 3 (.slice a4 m.mem.arrs.length c4) (Nc (b := (w.heap.size + 1)) (j := 2) (Nc (b := (w.heap.size + 1)) (j := 1) (Nc (b := (w.heap.size + 1)) (j := 0) (Nc (b := (w.heap.size)) (j := 2) (Nc (b := (w.heap.size)) (j := 1) (Nc (b := (w.heap.size)) (j := 0) j0 (by omega) (.slice a0 nv c0)) (by omega) (.slice a1 na c1)) (by omega) (.slice a2 nl c2)) (by omega) (.int .i64 m.pc)) (by omega) (.slice a5 m.regs.length c5)) (by omega) (.slice a3 m.mem.vals.length c3)))
 have tt := (bst (bst (bst (bst (bst (bst (bst x0 (w.heap.size) 0 (by omega) (.slice a0 nv c0)) (w.heap.size) 1 (by omega) (.slice a1 na c1)) (w.heap.size) 2 (by omega) (.slice a2 nl c2)) (w.heap.size + 1) 0 (by omega) (.int .i64 m.pc)) (w.heap.size + 1) 1 (by omega) (.slice a5 m.regs.length c5)) (w.heap.size + 1) 2 (by omega) (.slice a3 m.mem.vals.length c3)) (w.heap.size + 1) 3 (by omega) (.slice a4 m.mem.arrs.length c4))
 go_wp2
 exact bodyPost_ret (v := .tuple #[.agg #[.slice a0 nv c0, .slice a1 na c1, .slice a2 nl c2], .agg #[.int .i64 m.pc, .slice a5 m.regs.length c5, .slice a3 m.mem.vals.length c3, .slice a4 m.mem.arrs.length c4]]) (by simp [results, Try.results46, go_sem, y0, z0, b1, d1, e1, f1, g1]) rfl (by exact (by unfold DrawCSP; exact ⟨_, _, _, _, _, _, _, _, _, m, rfl, m0.out, o0, n0.out, tt⟩))
end Go.Proofs.Ytkjedgnepnbkpaa
namespace Go.Proofs.Ytkjedgnepnbkpaa
open Go.RowKit
theorem AdjOk.start {c : Cd} {s : Ms} (h : MsOk c s) : AdjOk c s s.regs := ⟨h.regs, h.rv, fun _ _ _ => rfl⟩
theorem AdjOk.lv {c : Cd} {s : Ms} {X : List Int} (h : AdjOk c s X) : LvEq c s ⟨s.pc, X, s.mem⟩ := ⟨rfl, rfl, h.same⟩
theorem AdjOk.mv {c : Cd} {s : Ms} {X : List Int} (h : AdjOk c s X) (hm : mvOk c s = true) : mvOk c ⟨s.pc, X, s.mem⟩ = true := by
 obtain ⟨h1, h2⟩ := mvOk_ok hm
 exact mvOk_of h1 ⟨h2.pc0, h2.pc1, h.len, h.rng, h2.mem⟩
theorem lv_next {c : Cd} {s t : Ms} (h1 : mvOk c s = true) (h2 : mvOk c t = true) (h : LvEq c s t) : (mvOk c (stepN c s) = true ∧ mvOk c (stepN c t) = true) ∧ LvEq c (stepN c s) (stepN c t) ∧ stepE c s = stepE c t := by
 obtain ⟨a0, hs⟩ := mvOk_ok h1
 obtain ⟨_, ht⟩ := mvOk_ok h2
 obtain ⟨e1, e2⟩ := lv_step a0 hs ht h
 exact ⟨⟨mvOk_step h1, mvOk_step h2⟩, e1, e2⟩
theorem live_at {c : Cd} {s : Ms} (h : mvOk c s = true) {L : List (List Bool)} (hL : liveR c = L) {k : Nat} (hk : s.pc = k) : ∃ hl : k < L.length, L[k].length = 14 ∧ ∀ r (hr : r < L[k].length), L[k][r] = bit (liveOf c) s.pc r := by
 obtain ⟨a0, hs⟩ := mvOk_ok h
 have hi := live_inv c
 rw [liveR_yes a0] at hL
 subst hL
 have hl : k < (liveOf c).length := by rw [hi.len]; have := hs.pc1; omega
 exact ⟨hl, hi.rows k hl, fun r hr => by rw [hk, bit_at _ k r hl hr]⟩
end Go.Proofs.Ytkjedgnepnbkpaa
