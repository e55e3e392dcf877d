/-
 Parts of the proof of the law FnSpecPath.
-/
import Derived.Test.YtkjedgnepnbkpaaMW
import Derived.Test.YtkjedgnepnbkpaaSB
set_option linter.all false
namespace Go.Proofs.Ytkjedgnepnbkpaa
open Go.RowKit

def stepN (c : Cd) (s : Ms) : Ms := stp (insAt c s.pc) s
def stepE (c : Cd) (s : Ms) : List Ev := stEvs (insAt c s.pc) s
def StepP (c : Cd) (s : Ms) (w : World) (e : Ending) (w' : World) : Prop := ∃ (pc : Int) (p0 p1 p2 pe : Option Addr) (n0 n1 n2 ne t0 t1 t2 te : Nat), e = .returned (.tuple #[.agg #[.int .i64 pc, .slice p0 n0 t0, .slice p1 n1 t1, .slice p2 n2 t2], .slice pe ne te, .bool (mvOk c s)]) ∧ (mvOk c s = true → pc = (stepN c s).pc ∧ (∃ us, OwnMv w' w.heap.size (.slice p0 n0 t0) (.slice p1 n1 t1) (.slice p2 n2 t2) us (stepN c s).regs (stepN c s).mem) ∧ w'.ownsRow w.heap.size 47 2 (.slice pe ne te) (stepE c s).length (evs (stepE c s))) ∧ Below w.heap.size w w'

set_option maxHeartbeats 6400000 in
set_option maxRecDepth 100000 in
theorem iStep_any (va vb vc vr vx vy : Value) (c : Cd) (s : Ms) (w : World) (hr : ReadsC w va vb vc c) (hs : ReadsS w vr vx vy s) (h0 : s.regs.length ≤ 1048576) (hl : s.mem.vals.length ≤ 1048576) (hn : s.mem.arrs.length ≤ 1048576) (hp : pre2 s.mem.arrs s.mem.arrs.length ≤ 1048576) :
  Calls Try.prog 21 #[.agg #[va, vb, vc], .agg #[.int .i64 s.pc, vr, vx, vy]] w fun e w' => StepP c s w e w' := by
 obtain ⟨a0, c0, a1, c1, a2, c2, rfl, rfl, rfl⟩ := hr.shape
 obtain ⟨a5, c5, rfl⟩ := reads_shape hs.r
 obtain ⟨a3, c3, a4, c4, rfl, rfl⟩ := hs.m.shape
 have HR := Lib.hid (fun W (hW : Below w.heap.size w W) => hr.below hW)
 have HMV := Lib.hid (fun W (hW : Below w.heap.size w W) => iMValid_any _ _ _ _ _ _ c s W (hr.below hW) (hs.below hW))
 have HMO := Lib.hid (fun W (hW : Below w.heap.size w W) => iMOwn_any _ _ _ s W (hs.below hW) h0 hl hn hp)
 clear hr hs h0 hl hn hp
 go_enter Try.func21, Try.ntmps21
 go_wp2_with fail
 refine (HMV.out _ (bal (bal (bal (Bs w) (.cells #[.slice a0 c.vars.length c0, .slice a1 c.arrays.length c1, .slice a2 c.list.length c2] 26)) (.cells #[.int .i64 s.pc, .slice a5 s.regs.length c5, .slice a3 s.mem.vals.length c3, .slice a4 s.mem.arrs.length c4] 39)) (.cells #[.int .i64 0, .slice none 0 0, .slice none 0 0, .slice none 0 0] 39))).mono ?_
 rintro e w1 ⟨rfl, hb⟩
 have hsz1 := hb.size
 simp only [Sa] at hsz1
 have bk2 : Bk w1 (w.heap.size) [.slice a0 c.vars.length c0, .slice a1 c.arrays.length c1, .slice a2 c.list.length c2] := Bk.below (Bk.al (Bk.al (Bk.nw (by simp) rfl) (.cells #[.int .i64 s.pc, .slice a5 s.regs.length c5, .slice a3 s.mem.vals.length c3, .slice a4 s.mem.arrs.length c4] 39)) (.cells #[.int .i64 0, .slice none 0 0, .slice none 0 0, .slice none 0 0] 39)) hb
 have bk3 : Bk w1 (w.heap.size + 1) [.int .i64 s.pc, .slice a5 s.regs.length c5, .slice a3 s.mem.vals.length c3, .slice a4 s.mem.arrs.length c4] := Bk.below (Bk.al (Bk.nw (by simp) rfl) (.cells #[.int .i64 0, .slice none 0 0, .slice none 0 0, .slice none 0 0] 39)) hb
 have bk4 : Bk w1 (w.heap.size + 1 + 1) [.int .i64 0, .slice none 0 0, .slice none 0 0, .slice none 0 0] := Bk.below (Bk.nw (by simp) rfl) hb
 have tot := btr (bal (bal (bal (Bs w) (.cells #[.slice a0 c.vars.length c0, .slice a1 c.arrays.length c1, .slice a2 c.list.length c2] 26)) (.cells #[.int .i64 s.pc, .slice a5 s.regs.length c5, .slice a3 s.mem.vals.length c3, .slice a4 s.mem.arrs.length c4] 39)) (.cells #[.int .i64 0, .slice none 0 0, .slice none 0 0, .slice none 0 0] 39)) hb
 clear hb
 have lt5 := Bk.lz bk2
 have lt6 := Bk.lz bk3
 have lt7 := Bk.lz bk4
 cases hmv : mvOk c s with
 | false =>
  have HV := Lib.hid hmv; clear hmv
  obtain ⟨tc8, tf9⟩ := Bk.cf bk4 0 rfl
  obtain ⟨tc10, tf11⟩ := Bk.cf bk4 1 rfl
  obtain ⟨tc12, tf13⟩ := Bk.cf bk4 2 rfl
  obtain ⟨tc14, tf15⟩ := Bk.cf bk4 3 rfl
  have x16 := (Nc (b := (w.heap.size + 1 + 1)) (j := 3) (Nc (b := (w.heap.size + 1 + 1)) (j := 2) (Nc (b := (w.heap.size + 1 + 1)) (j := 1) (Tc _ (w.heap.size + 1 + 1) 0 (.int .i64 0) tc8) (by omega) (.slice none 0 0)) (by omega) (.slice none 0 0)) (by omega) (.slice none 0 0))
  have x17 := (Nc (b := (w.heap.size + 1 + 1)) (j := 3) (Nc (b := (w.heap.size + 1 + 1)) (j := 2) (Tc _ (w.heap.size + 1 + 1) 1 (.slice none 0 0) (Nc (b := (w.heap.size + 1 + 1)) (j := 0) tc10 (by omega) (.int .i64 0))) (by omega) (.slice none 0 0)) (by omega) (.slice none 0 0))
  have x18 := (Nc (b := (w.heap.size + 1 + 1)) (j := 3) (Tc _ (w.heap.size + 1 + 1) 2 (.slice none 0 0) (Nc (b := (w.heap.size + 1 + 1)) (j := 1) (Nc (b := (w.heap.size + 1 + 1)) (j := 0) tc12 (by omega) (.int .i64 0)) (by omega) (.slice none 0 0))) (by omega) (.slice none 0 0))
  have x19 := (Tc _ (w.heap.size + 1 + 1) 3 (.slice none 0 0) (Nc (b := (w.heap.size + 1 + 1)) (j := 2) (Nc (b := (w.heap.size + 1 + 1)) (j := 1) (Nc (b := (w.heap.size + 1 + 1)) (j := 0) tc14 (by omega) (.int .i64 0)) (by omega) (.slice none 0 0)) (by omega) (.slice none 0 0)))
  have tt := (bst (bst (bst (bst tot (w.heap.size + 1 + 1) 0 (by omega) (.int .i64 0)) (w.heap.size + 1 + 1) 1 (by omega) (.slice none 0 0)) (w.heap.size + 1 + 1) 2 (by omega) (.slice none 0 0)) (w.heap.size + 1 + 1) 3 (by omega) (.slice none 0 0))
  go_wp2
  exact bodyPost_ret (v := .tuple #[.agg #[.int .i64 0, .slice none 0 0, .slice none 0 0, .slice none 0 0], .slice none 0 0, .bool false]) (by simp [results, Try.results21, go_sem, x16, x17, x18, x19]) rfl (by exact (by unfold StepP; rw [HV.out]; exact ⟨_, _, _, _, _, _, _, _, _, _, _, _, _, rfl, (fun h => by cases h), tt⟩))
 | true =>
  obtain ⟨hok, hM⟩ := mvOk_ok hmv
  have HV := Lib.hid hmv; have HOK := Lib.hid hok; have HMM := Lib.hid hM; clear hmv hok hM
  obtain ⟨tc20, tf21⟩ := Bk.cf bk3 0 rfl
  obtain ⟨tc22, tf23⟩ := Bk.cf bk3 1 rfl
  obtain ⟨tc24, tf25⟩ := Bk.cf bk3 2 rfl
  obtain ⟨tc26, tf27⟩ := Bk.cf bk3 3 rfl
  go_wp2_with fail
  refine (HMO.out _ tot).mono ?_
  rintro e w2 ⟨ur, ux, uy, us, rfl, OM, hb⟩
  obtain ⟨pr, tr, rfl⟩ := Oh OM.r
  obtain ⟨px, tx, rfl⟩ := Oh OM.v
  obtain ⟨py, ty, rfl⟩ := Oh OM.a.out
  have hsz28 := hb.size
  clear tf21 tc20 tf23 tc22 tf25 tc24 tf27 tc26
  replace bk2 := Bk.below bk2 hb
  replace bk3 := Bk.below bk3 hb
  replace bk4 := Bk.below bk4 hb
  replace tot := btr tot hb
  clear hb
  replace lt5 := Bk.lz bk2
  replace lt6 := Bk.lz bk3
  replace lt7 := Bk.lz bk4
  have iv29 := OM.lt
  go_upto_region 4 with (fail)
  obtain ⟨w3, hnw, hb⟩ := nmw (World.alloc w2 (.cells #[.int .i64 s.pc, .slice pr s.regs.length tr, .slice px s.mem.vals.length tx, .slice py s.mem.arrs.length ty] 39))
  have hsz30 := hb.size
  simp only [Sa] at hsz30
  replace OM := (OM.below (bal (Bs _) _)).below hb
  replace bk2 := Bk.below (Bk.al bk2 _) hb
  replace bk3 := Bk.below (Bk.al bk3 _) hb
  replace bk4 := Bk.below (Bk.al bk4 _) hb
  have bk31 : Bk w3 (w2.heap.size) [.int .i64 s.pc, .slice pr s.regs.length tr, .slice px s.mem.vals.length tx, .slice py s.mem.arrs.length ty] := Bk.below (Bk.nw (by simp) rfl) hb
  replace tot := btr (bal tot _) hb
  clear hb
  rw [← hnw]
  clear hnw
  replace lt5 := Bk.lz bk2
  replace lt6 := Bk.lz bk3
  replace lt7 := Bk.lz bk4
  have lt32 := Bk.lz bk31
  have hS : OwnS w3 w.heap.size (w2.heap.size) (.slice pr s.regs.length tr) (.slice px s.mem.vals.length tx) (.slice py s.mem.arrs.length ty) us s := ⟨Bk.cell bk31 0 rfl, Bk.cell bk31 1 rfl, Bk.cell bk31 2 rfl, Bk.cell bk31 3 rfl, Bk.froz bk31 0 (show 0 < 4 by decide), OM.mono (by omega), fun h => by have := iv29 _ h; omega⟩
  have iS : ∀ q, (q = w2.heap.size ∨ OwnMB (.slice pr s.regs.length tr) (.slice px s.mem.vals.length tx) (.slice py s.mem.arrs.length ty) us q) → w.heap.size + 3 ≤ q ∧ q < w3.heap.size := by rintro q (h | h); omega; (have := iv29 q h; omega)
  have iM : ∀ q, OwnMB (.slice pr s.regs.length tr) (.slice px s.mem.vals.length tx) (.slice py s.mem.arrs.length ty) us q → w.heap.size + 3 ≤ q ∧ q < w3.heap.size := fun q h => iS q (Or.inr h)
  clear OM bk31
  obtain ⟨tc33, tf34⟩ := Bk.cf bk2 0 rfl
  obtain ⟨tc35, tf36⟩ := Bk.cf bk2 1 rfl
  obtain ⟨tc37, tf38⟩ := Bk.cf bk2 2 rfl
  go_wp2_with fail
  refine (step_any (w2.heap.size) w.heap.size _ _ _ _ _ _ us c s _ (HR.out _ tot) hS HMM.out HOK.out).mono ?_
  rintro e w4 ⟨u2, rfl, oU, hS2, hC⟩
  obtain ⟨pv, tv, rfl⟩ := Oh oU
  clear hS
  have hsz39 := hC.size
  clear tf34 tc33 tf36 tc35 tf38 tc37
  replace bk2 := Bk.keep bk2 hC (fun h => by have := iS _ h; omega)
  replace bk3 := Bk.keep bk3 hC (fun h => by have := iS _ h; omega)
  replace bk4 := Bk.keep bk4 hC (fun h => by have := iS _ h; omega)
  replace tot := tot.trans (hC.below w.heap.size (by have := tot.size; omega) (fun gq hgq h => by have := iS gq h; omega))
  clear hC
  clear lt32
  replace lt5 := Bk.lz bk2
  replace lt6 := Bk.lz bk3
  replace lt7 := Bk.lz bk4
  have iv40 := oU.lt
  have k0 := hS2.c0
  have k1 := hS2.c1
  have k2 := hS2.c2
  have k3 := hS2.c3
  have oM := hS2.own; clear hS2
  have HEQ := Lib.hid (show stepN c s = stp (insAt c s.pc) s ∧ stepE c s = stEvs (insAt c s.pc) s from ⟨rfl, rfl⟩)
  have HO1 := Lib.hid ((((oM.keep (C1 (w.heap.size + 1 + 1) 0 (.int .i64 ((stp (insAt c s.pc) s).pc))) (fun gq h h2 => by have := iM gq h; omega)).keep (C1 (w.heap.size + 1 + 1) 1 (.slice pr s.regs.length tr)) (fun gq h h2 => by have := iM gq h; omega)).keep (C1 (w.heap.size + 1 + 1) 2 (.slice px s.mem.vals.length tx)) (fun gq h h2 => by have := iM gq h; omega)).keep (C1 (w.heap.size + 1 + 1) 3 (.slice py s.mem.arrs.length ty)) (fun gq h h2 => by have := iM gq h; omega)); have HO2 := Lib.hid (Om (Oe (Oe (Oe (Oe oU (w.heap.size + 1 + 1) 0 (fun h => by have := iv40 _ h; omega) (.int .i64 ((stp (insAt c s.pc) s).pc))) (w.heap.size + 1 + 1) 1 (fun h => by have := iv40 _ h; omega) (.slice pr s.regs.length tr)) (w.heap.size + 1 + 1) 2 (fun h => by have := iv40 _ h; omega) (.slice px s.mem.vals.length tx)) (w.heap.size + 1 + 1) 3 (fun h => by have := iv40 _ h; omega) (.slice py s.mem.arrs.length ty)) (show w.heap.size ≤ _ by omega))
  clear oM oU
  obtain ⟨tc41, tf42⟩ := Bk.cf bk4 0 rfl
  obtain ⟨tc43, tf44⟩ := Bk.cf bk4 1 rfl
  obtain ⟨tc45, tf46⟩ := Bk.cf bk4 2 rfl
  obtain ⟨tc47, tf48⟩ := Bk.cf bk4 3 rfl
  have x49 := (Nc (b := (w.heap.size + 1 + 1)) (j := 3) (Nc (b := (w.heap.size + 1 + 1)) (j := 2) (Nc (b := (w.heap.size + 1 + 1)) (j := 1) (Tc _ (w.heap.size + 1 + 1) 0 (.int .i64 ((stp (insAt c s.pc) s).pc)) tc41) (by omega) (.slice pr s.regs.length tr)) (by omega) (.slice px s.mem.vals.length tx)) (by omega) (.slice py s.mem.arrs.length ty))
  have x50 := (Nc (b := (w.heap.size + 1 + 1)) (j := 3) (Nc (b := (w.heap.size + 1 + 1)) (j := 2) (Tc _ (w.heap.size + 1 + 1) 1 (.slice pr s.regs.length tr) (Nc (b := (w.heap.size + 1 + 1)) (j := 0) tc43 (by omega) (.int .i64 ((stp (insAt c s.pc) s).pc)))) (by omega) (.slice px s.mem.vals.length tx)) (by omega) (.slice py s.mem.arrs.length ty))
  have x51 := (Nc (b := (w.heap.size + 1 + 1)) (j := 3) (Tc _ (w.heap.size + 1 + 1) 2 (.slice px s.mem.vals.length tx) (Nc (b := (w.heap.size + 1 + 1)) (j := 1) (Nc (b := (w.heap.size + 1 + 1)) (j := 0) tc45 (by omega) (.int .i64 ((stp (insAt c s.pc) s).pc))) (by omega) (.slice pr s.regs.length tr))) (by omega) (.slice py s.mem.arrs.length ty))
  have x52 := (Tc _ (w.heap.size + 1 + 1) 3 (.slice py s.mem.arrs.length ty) (Nc (b := (w.heap.size + 1 + 1)) (j := 2) (Nc (b := (w.heap.size + 1 + 1)) (j := 1) (Nc (b := (w.heap.size + 1 + 1)) (j := 0) tc47 (by omega) (.int .i64 ((stp (insAt c s.pc) s).pc))) (by omega) (.slice pr s.regs.length tr)) (by omega) (.slice px s.mem.vals.length tx)))
  have tt := (bst (bst (bst (bst tot (w.heap.size + 1 + 1) 0 (by omega) (.int .i64 ((stp (insAt c s.pc) s).pc))) (w.heap.size + 1 + 1) 1 (by omega) (.slice pr s.regs.length tr)) (w.heap.size + 1 + 1) 2 (by omega) (.slice px s.mem.vals.length tx)) (w.heap.size + 1 + 1) 3 (by omega) (.slice py s.mem.arrs.length ty))
  go_wp2
  exact bodyPost_ret (v := .tuple #[.agg #[.int .i64 ((stp (insAt c s.pc) s).pc), .slice pr s.regs.length tr, .slice px s.mem.vals.length tx, .slice py s.mem.arrs.length ty], .slice pv ((stEvs (insAt c s.pc) s).length) tv, .bool true]) (by simp [results, Try.results21, go_sem, x49, x50, x51, x52]) rfl (by exact (by unfold StepP; rw [HV.out]; exact ⟨_, _, _, _, _, _, _, _, _, _, _, _, _, rfl, fun _ => ⟨rfl, ⟨us, HO1.out⟩, HO2.out⟩, tt⟩))
end Go.Proofs.Ytkjedgnepnbkpaa
