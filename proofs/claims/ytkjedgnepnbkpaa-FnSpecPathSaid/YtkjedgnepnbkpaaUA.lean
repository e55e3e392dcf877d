/-
 Parts of the proof of the law FnSpecPath.
-/
import Derived.Test.YtkjedgnepnbkpaaMV
import Derived.Test.YtkjedgnepnbkpaaSD
import Derived.Test.YtkjedgnepnbkpaaZG
import Derived.Test.YtkjedgnepnbkpaaZQ
import Derived.Test.YtkjedgnepnbkpaaZT
set_option linter.all false
namespace Go.Proofs.Ytkjedgnepnbkpaa
open Go.RowKit

theorem five_take (L : List Ev) (k : Nat) (h : k < L.length) : five (L.take (k + 1)) = five (L.take k) + (if (L[k].1 == 5) = true then 1 else 0) := by
 rw [List.take_succ_eq_append_getElem h, five_app]
 congr 1
 unfold five
 simp only [List.filter_cons, List.filter_nil]
 split <;> rfl
theorem five_le (L : List Ev) : five L ≤ L.length := List.length_filter_le _ _


set_option maxHeartbeats 12800000 in
set_option maxRecDepth 100000 in
theorem FnSpecPath_walk (v : Value) (n : Nat) (vs : List Int) (w : World) (r0 : Reads w 1 v n (vs.map (Value.int .u8))) (hv : ∀ x ∈ vs, 0 ≤ x ∧ x < 256) :
  Calls Try.prog 4 #[v] w fun e w' => e = .returned (.bool true) ∧ Below w.heap.size w w' := by
 obtain ⟨va, vc, rfl⟩ := reads_shape r0
 by_cases hn : n ≤ 1048576
 case neg =>
  have hn2 : (1048576 : Int) < (n : Int) := by omega
  clear r0
  go_enter Try.func4, Try.ntmps4
  go_wp2
  go_ret
  exact ⟨rfl, Below.refl _ _⟩
 have hn2 : ¬ (1048576 : Int) < (n : Int) := by omega
 go_enter Try.func4, Try.ntmps4
 go_wp2_with fail
 refine (DrawSpecPath_any _ n vs _ (r0.below (Bs w)) hv hn).mono ?_
 rintro e w1 ⟨va9, vb9, vc9, ur9, ux9, uy9, nv9, na9, nl9, ms, rfl, hdc, hbd, hm, hb⟩
 clear r0 hv
 obtain ⟨c, hrc⟩ := RdC.of hdc hbd.1 hbd.2.1 hbd.2.2
 clear hdc hbd
 obtain ⟨a0, c0, a1, c1, a2, c2, rfl, rfl, rfl⟩ := hrc.r.shape
 obtain ⟨a3, c3, a4, c4, rfl, rfl⟩ := hm.m.reads.shape
 obtain ⟨a5, c5, rfl⟩ := reads_shape hm.r
 have hb1 : c.vars.length ≤ 1000 ∧ c.arrays.length ≤ 1000 ∧ c.list.length ≤ 1000 := ⟨hrc.l0, hrc.l1, hrc.l2⟩
 have hb2 : ms.regs.length ≤ 1048576 ∧ ms.mem.vals.length ≤ 1048576 ∧ ms.mem.arrs.length ≤ 1048576 ∧ pre2 ms.mem.arrs ms.mem.arrs.length ≤ 1048576 := by have h1 := hm.rl; have h2 := hm.m.l0; have h3 := hm.m.l1; have h4 := hm.m.pre; omega
 have hsz1 := hb.size
 have tot := btr (Bs w) hb
 clear hb
 have tb2 := Bs w1
 have HC := Lib.hid (fun W (hW : Below w1.heap.size w1 W) => hrc.r.below hW)
 have HS := Lib.hid (fun W (hW : Below w1.heap.size w1 W) => hm.reads.below hW)
 clear hrc hm
 obtain ⟨L, ok, hRR⟩ : ∃ L ok, spathR c ms = (L, ok) := ⟨_, _, rfl⟩
 have hLL : L.length ≤ 8 := by have := spathR_len c ms; rw [hRR] at this; exact this
 have HRR := Lib.hid hRR; clear hRR
 go_wp2_with fail
 have hQ9 := iSpecPath_any _ _ _ _ _ _ c ms _ (HC.out _ (bal (bal tb2 (.cells #[.slice a0 c.vars.length c0, .slice a1 c.arrays.length c1, .slice a2 c.list.length c2] 26)) (.cells #[.int .i64 ms.pc, .slice a5 ms.regs.length c5, .slice a3 ms.mem.vals.length c3, .slice a4 ms.mem.arrs.length c4] 39))) (HS.out _ (bal (bal tb2 (.cells #[.slice a0 c.vars.length c0, .slice a1 c.arrays.length c1, .slice a2 c.list.length c2] 26)) (.cells #[.int .i64 ms.pc, .slice a5 ms.regs.length c5, .slice a3 ms.mem.vals.length c3, .slice a4 ms.mem.arrs.length c4] 39))) hb2.1 hb2.2.1 hb2.2.2.1 hb2.2.2.2
 rw [HRR.out] at hQ9; dsimp only at hQ9
 refine (hQ9).mono ?_
 rintro e w2 ⟨u1, rfl, oE, hb⟩
 obtain ⟨p1, q1, rfl⟩ := Oh oE
 clear hQ9
 replace tb2 := btr (bal (bal tb2 _) _) hb
 have hsz3 := hb.size
 simp only [Sa] at hsz3
 have bk4 : Bk w2 (w1.heap.size) [.slice a0 c.vars.length c0, .slice a1 c.arrays.length c1, .slice a2 c.list.length c2] := Bk.below (Bk.al (Bk.nw (by simp) rfl) (.cells #[.int .i64 ms.pc, .slice a5 ms.regs.length c5, .slice a3 ms.mem.vals.length c3, .slice a4 ms.mem.arrs.length c4] 39)) hb
 have bk5 : Bk w2 (w1.heap.size + 1) [.int .i64 ms.pc, .slice a5 ms.regs.length c5, .slice a3 ms.mem.vals.length c3, .slice a4 ms.mem.arrs.length c4] := Bk.below (Bk.nw (by simp) rfl) hb
 replace tot := btr (bal (bal tot _) _) hb
 clear hb
 have tb6 := Bs w2
 have HE := Lib.hid (fun W (hW : Below w2.heap.size w2 W) => (Ro oE (by omega)).below hW)
 have lt7 := Bk.lz bk4
 have lt8 := Bk.lz bk5
 clear oE
 obtain ⟨tc9, tf10⟩ := Bk.cf bk4 0 rfl
 obtain ⟨tc11, tf12⟩ := Bk.cf bk4 1 rfl
 obtain ⟨tc13, tf14⟩ := Bk.cf bk4 2 rfl
 obtain ⟨tc15, tf16⟩ := Bk.cf bk5 0 rfl
 obtain ⟨tc17, tf18⟩ := Bk.cf bk5 1 rfl
 obtain ⟨tc19, tf20⟩ := Bk.cf bk5 2 rfl
 obtain ⟨tc21, tf22⟩ := Bk.cf bk5 3 rfl
 go_wp2_with fail
 have hQ9 := sSpecPath_any _ _ _ _ _ _ c ms _ (HC.out _ tb2) (HS.out _ tb2) hb2.1 hb2.2.1 hb2.2.2.1 hb2.2.2.2
 rw [HRR.out] at hQ9; dsimp only at hQ9
 refine (hQ9).mono ?_
 rintro e w3 ⟨u2, rfl, oF, hb⟩
 obtain ⟨p2, q2, rfl⟩ := Oh oF
 clear hQ9
 replace tb2 := btr tb2 hb
 replace tb6 := btr tb6 hb
 have hsz23 := hb.size
 clear tf10 tc9 tf12 tc11 tf14 tc13 tf16 tc15 tf18 tc17 tf20 tc19 tf22 tc21
 replace bk4 := Bk.below bk4 hb
 replace bk5 := Bk.below bk5 hb
 replace tot := btr tot hb
 clear hb
 have tb24 := Bs w3
 have HF := Lib.hid (fun W (hW : Below w3.heap.size w3 W) => (Ro oF (by omega)).below hW)
 replace lt7 := Bk.lz bk4
 replace lt8 := Bk.lz bk5
 clear oF
 cases ok with
 | false =>
  go_wp2_with fail
  have hQ9 := TraceSame_any _ _ L L _ (HE.out _ tb6) (HF.out _ tb24)
  rw [decide_eq_true (Eq.refl L)] at hQ9
  refine (hQ9).mono ?_
  rintro e w4 ⟨rfl, hb⟩
  clear hQ9
  replace tb2 := btr tb2 hb
  replace tb6 := btr tb6 hb
  replace tb24 := btr tb24 hb
  have hsz25 := hb.size
  replace bk4 := Bk.below bk4 hb
  replace bk5 := Bk.below bk5 hb
  replace tot := btr tot hb
  clear hb
  replace lt7 := Bk.lz bk4
  replace lt8 := Bk.lz bk5
  go_wp2_with fail
  have hQ9 := TraceSame_any _ _ L L _ (HE.out _ tb6) (HF.out _ tb24)
  rw [decide_eq_true (Eq.refl L)] at hQ9
  refine (hQ9).mono ?_
  rintro e w5 ⟨rfl, hb⟩
  clear hQ9
  replace tb2 := btr tb2 hb
  replace tb6 := btr tb6 hb
  replace tb24 := btr tb24 hb
  have hsz26 := hb.size
  replace bk4 := Bk.below bk4 hb
  replace bk5 := Bk.below bk5 hb
  replace tot := btr tot hb
  clear hb
  replace lt7 := Bk.lz bk4
  replace lt8 := Bk.lz bk5
  have tt := tot
  go_wp2
  go_ret
  exact ⟨rfl, tt⟩
 | true =>
  go_wp2_with fail
  have hQ9 := TraceSame_any _ _ L L _ (HE.out _ tb6) (HF.out _ tb24)
  rw [decide_eq_true (Eq.refl L)] at hQ9
  refine (hQ9).mono ?_
  rintro e w4 ⟨rfl, hb⟩
  clear hQ9
  replace tb2 := btr tb2 hb
  replace tb6 := btr tb6 hb
  replace tb24 := btr tb24 hb
  have hsz27 := hb.size
  replace bk4 := Bk.below bk4 hb
  replace bk5 := Bk.below bk5 hb
  replace tot := btr tot hb
  clear hb
  replace lt7 := Bk.lz bk4
  replace lt8 := Bk.lz bk5
  have hmv : mvOk c ms = true := by cases h : mvOk c ms with | true => rfl | false => have := HRR.out; rw [spath_no h] at this; cases this
  have hLP : L = pathE c ms := by have := HRR.out; rw [spath_yes hmv] at this; exact (congrArg Prod.fst this).symm
  obtain ⟨hp1, hp2, rest, hp3⟩ := law_path c ms
  rw [← hLP] at hp1 hp2 hp3
  have HP3 := Lib.hid hp3; have HMV := Lib.hid hmv; have HP12 := Lib.hid (And.intro hp1 hp2)
  have hsl := (stEvs_len (insAt c ms.pc) ms).1
  clear hp3 hmv hLP hp1 hp2
  have tb28 := Bs w4
  have HFV := Lib.hid (five_take L); have HFL := Lib.hid (five_le L); have HTK := Lib.hid (show L.take L.length = L from List.take_length)
  go_wp2_with fail
  go_loopw [9, 10] (fun a i wr => ∃ (k j : Nat), a = .int .i64 j ∧ i = .int .i64 k ∧ k ≤ L.length ∧ Hid (j = five (L.take k)) ∧ Below w4.heap.size w4 wr) (fun _ i _ => L.length - (intOf i).toNat)
  case atStart => exact ⟨0, 0, rfl, rfl, Nat.zero_le _, Lib.hid rfl, Bs _⟩
  case round =>
   obtain ⟨k, j, rfl, rfl, hk, HJ, hbr⟩ := hrel
   obtain ⟨wl, rfl⟩ : ∃ X, X = wr := ⟨_, rfl⟩
   replace tb2 := btr tb2 hbr
   replace tb6 := btr tb6 hbr
   replace tb24 := btr tb24 hbr
   replace tb28 := btr tb28 hbr
   have hsz29 := hbr.size
   replace bk4 := Bk.below bk4 hbr
   replace bk5 := Bk.below bk5 hbr
   replace tot := btr tot hbr
   clear hbr
   replace lt7 := Bk.lz bk4
   replace lt8 := Bk.lz bk5
   have hjk : j ≤ k := by have := five_le (L.take k); have := List.length_take_le k L; have := HJ.out; omega
   by_cases hlt : k < L.length
   ·have hq : (k : Int) < (L.length : Int) := by omega
    obtain ⟨_, hn9, aa, cap, b0, off, hv9, hcap9, ha9, hca9⟩ := (HE.out _ tb6)
    simp only [Value.slice.injEq, true_and] at hv9
    obtain ⟨rfl, rfl⟩ := hv9
    obtain ⟨rfl, hbs9⟩ := ha9 (by omega)
    rw [evs_rows] at hca9
    obtain ⟨e0, e1⟩ := reads_Event hca9 k hlt
    clear hca9 ha9 hn9 hcap9
    have hbk : b0 < wl.heap.size := Lc e0
    have HF1 := Lib.hid (HFV.out k hlt)
    clear HFV
    generalize L[k] = x at *
    obtain ⟨x0, x1⟩ := x
    simp only at e0 e1
    by_cases hx : x0 = 5
    ·have hx5 : (x0 == 5) = true := by simp [hx]
     have HJ2 : Hid (j + 1 = five (L.take (k + 1))) := Lib.hid (by rw [HF1.out, ← HJ.out]; simp [hx])
     subst hx
     have HTT := Lib.hid (Bs wl)
     go_wp2
     go_roundw
     case rel => exact ⟨k + 1, j + 1, by go_num, by go_num, by omega, HJ2, tb28⟩
     case measure => simp [intOf]; omega
    ·have hx5 : (x0 == 5) = false := by simp [hx]
     have HJ2 : Hid (j = five (L.take (k + 1))) := Lib.hid (by rw [HF1.out, ← HJ.out]; simp [hx])
     clear hx
     have HTT := Lib.hid (Bs wl)
     go_wp2
     go_roundw
     case rel => exact ⟨k + 1, j, by go_num, by go_num, by omega, HJ2, tb28⟩
     case measure => simp [intOf]; omega
   ·have hq : decide ((k : Int) < (L.length : Int)) = false := decide_eq_false (by omega)
    have hq2 : ¬ (k : Int) < (L.length : Int) := by omega
    have HJE : Hid (j = five L) := Lib.hid (by rw [HJ.out, show k = L.length by omega, HTK.out])
    clear HFV HFL
    have hj12 : 1 ≤ j ∧ j ≤ 4 := by have := HP12.out; have := HJE.out; omega
    obtain ⟨tc30, tf31⟩ := Bk.cf bk4 0 rfl
    obtain ⟨tc32, tf33⟩ := Bk.cf bk4 1 rfl
    obtain ⟨tc34, tf35⟩ := Bk.cf bk4 2 rfl
    obtain ⟨tc36, tf37⟩ := Bk.cf bk5 0 rfl
    obtain ⟨tc38, tf39⟩ := Bk.cf bk5 1 rfl
    obtain ⟨tc40, tf41⟩ := Bk.cf bk5 2 rfl
    obtain ⟨tc42, tf43⟩ := Bk.cf bk5 3 rfl
    go_wp2_with fail
    have hQ9 := iStep_any _ _ _ _ _ _ c ms _ (HC.out _ tb2) (HS.out _ tb2) hb2.1 hb2.2.1 hb2.2.2.1 hb2.2.2.2
    unfold StepP at hQ9
    rw [HMV.out] at hQ9
    refine (hQ9).mono ?_
    rintro e w5 ⟨pc, d0, d1, d2, de, n0, n1, n2, ne, g0, g1, g2, ge, rfl, hst, hb⟩
    obtain ⟨hpc, ⟨us, oM⟩, oG⟩ := hst rfl
    clear hst
    obtain ⟨x9, y9, e9⟩ := Oh oG
    simp only [Value.slice.injEq] at e9
    obtain ⟨e9a, e9b, e9c⟩ := e9
    subst e9b; clear e9a e9c
    obtain ⟨X, hX⟩ : ∃ X, stepN c ms = X := ⟨_, rfl⟩
    have hmx : mvOk c X = true := by rw [← hX]; exact mvOk_step HMV.out
    rw [hX] at hpc oM
    subst hpc
    have HMX := Lib.hid hmx; clear hmx hX
    obtain ⟨hx0, hx1, hx2, hx3⟩ := mv_len HMX.out (by omega) (by omega)
    clear hQ9
    replace tb2 := btr tb2 hb
    replace tb6 := btr tb6 hb
    replace tb24 := btr tb24 hb
    replace tb28 := btr tb28 hb
    have hsz44 := hb.size
    clear tf31 tc30 tf33 tc32 tf35 tc34 tf37 tc36 tf39 tc38 tf41 tc40 tf43 tc42
    replace bk4 := Bk.below bk4 hb
    replace bk5 := Bk.below bk5 hb
    replace tot := btr tot hb
    clear hb
    have tb45 := Bs w5
    have HX := Lib.hid (fun W (hW : Below w5.heap.size w5 W) => (oM.rdS hx0 hx1 hx2 hx3).below hW)
    have HG := Lib.hid (fun W (hW : Below w5.heap.size w5 W) => (Ro oG (by unfold stepE; omega)).below hW)
    replace lt7 := Bk.lz bk4
    replace lt8 := Bk.lz bk5
    clear oM oG
    have hq84 : (1 : Int) ≤ (j : Int) := by omega
    have hq88 : (j : Int) ≤ 4 := by omega
    have hgl : (stepE c ms).length ≤ L.length := by have := HP3.out; rw [this, List.length_append]; unfold stepE; omega
    have HTKE := Lib.hid (show L.take (stepE c ms).length = stepE c ms from by have := HP3.out; rw [this]; exact List.take_left)
    have hq95 : ((stepE c ms).length : Int) ≤ (L.length : Int) := by omega
    have hcap := reads_cap (HE.out _ tb6)
    have hsl : ∀ W, (Instr.slice 42 (.slice p1 L.length q1) none (some (.int .i64 ((stepE c ms).length : Nat))) none).run Try.prog W = .ok (.slice p1 (stepE c ms).length q1) W := fun W => run_pre tEvs p1 L.length q1 (stepE c ms).length (by omega) W
    obtain ⟨tc46, tf47⟩ := Bk.cf bk4 0 rfl
    obtain ⟨tc48, tf49⟩ := Bk.cf bk4 1 rfl
    obtain ⟨tc50, tf51⟩ := Bk.cf bk4 2 rfl
    go_wp2_with fail
    have hQ9 := iMValid_any _ _ _ _ _ _ c X _ (HC.out _ (bal tb2 (.cells #[.int .i64 X.pc, .slice d0 n0 g0, .slice d1 n1 g1, .slice d2 n2 g2] 39))) (HX.out _ (bal tb45 (.cells #[.int .i64 X.pc, .slice d0 n0 g0, .slice d1 n1 g1, .slice d2 n2 g2] 39)))
    rw [HMX.out] at hQ9
    refine (hQ9).mono ?_
    rintro e w6 ⟨rfl, hb⟩
    clear hQ9
    replace tb2 := btr (bal tb2 _) hb
    replace tb6 := btr (bal tb6 _) hb
    replace tb24 := btr (bal tb24 _) hb
    replace tb28 := btr (bal tb28 _) hb
    replace tb45 := btr (bal tb45 _) hb
    have hsz52 := hb.size
    simp only [Sa] at hsz52
    clear tf47 tc46 tf49 tc48 tf51 tc50
    replace bk4 := Bk.below (Bk.al bk4 _) hb
    replace bk5 := Bk.below (Bk.al bk5 _) hb
    have bk53 : Bk w6 (w5.heap.size) [.int .i64 X.pc, .slice d0 n0 g0, .slice d1 n1 g1, .slice d2 n2 g2] := Bk.below (Bk.nw (by simp) rfl) hb
    replace tot := btr (bal tot _) hb
    clear hb
    replace lt7 := Bk.lz bk4
    replace lt8 := Bk.lz bk5
    have lt54 := Bk.lz bk53
    go_wp2_with fail
    have hQ9 := TraceSame_any _ _ (stepE c ms) (stepE c ms) _ (by have h := reads_takeE (HE.out _ tb6) (stepE c ms).length hgl; rw [HTKE.out] at h; exact h) (HG.out _ tb45)
    rw [decide_eq_true (Eq.refl (stepE c ms))] at hQ9
    refine (hQ9).mono ?_
    rintro e w7 ⟨rfl, hb⟩
    clear hQ9
    replace tb2 := btr tb2 hb
    replace tb6 := btr tb6 hb
    replace tb24 := btr tb24 hb
    replace tb28 := btr tb28 hb
    replace tb45 := btr tb45 hb
    have hsz55 := hb.size
    replace bk4 := Bk.below bk4 hb
    replace bk5 := Bk.below bk5 hb
    replace bk53 := Bk.below bk53 hb
    replace tot := btr tot hb
    clear hb
    replace lt7 := Bk.lz bk4
    replace lt8 := Bk.lz bk5
    replace lt54 := Bk.lz bk53
    have tt := tot
    go_wp2
    go_ret
    exact ⟨rfl, tt⟩
end Go.Proofs.Ytkjedgnepnbkpaa
