/-
 Parts of the proofs of the laws FnCheckLive, FnFinalRegs, FnLiveRegister, FnLiveRegs.
-/
import Derived.Test.YtkjedgnepnbkpaaWD
import Derived.Test.YtkjedgnepnbkpaaZEq1
set_option maxHeartbeats 12800000
set_option maxRecDepth 100000
set_option linter.all false
namespace Go.Proofs.Ytkjedgnepnbkpaa
open Go.RowKit

theorem cov_refl (xs : List Bool) : cov xs xs = true := cov_yes (Nat.le_refl _) (fun r h1 _ => by cases xs[r] <;> rfl)
theorem law_live {c : Cd} (h : codeOk c = true) : checkR c (liveR c) = true := by
 have hi := live_inv c
 rw [liveR_yes h]
 unfold checkR
 rw [h, decide_eq_true hi.len, all14_yes hi.rows, covAll_yes (fun k hk => by
  rw [covAt_at c _ k (by rw [hi.len]; exact hk), live_fix c k (by rw [hi.len]; exact hk)]; exact cov_refl _)]
 rfl
end Go.Proofs.Ytkjedgnepnbkpaa
namespace Go.Proofs.Ytkjedgnepnbkpaa
open Go.RowKit

def DrawCP (w : World) (r : Ending) (w' : World) : Prop := ∃ (va vb vc : Value) (nv na nl : Nat), r = .returned (.agg #[va, vb, vc]) ∧ DrawC w' w.heap.size va vb vc nv na nl ∧ (nv ≤ 1000 ∧ na ≤ 1000 ∧ nl ≤ 1000) ∧ Below w.heap.size w w'
end Go.Proofs.Ytkjedgnepnbkpaa
namespace Go.Proofs.Ytkjedgnepnbkpaa
open Go.RowKit

theorem DrawReachableCode_any (v : Value) (n : Nat) (vs : List Int) (w : World) (hr : Reads w 1 v n (vs.map (Value.int .u8))) (hv : ∀ x ∈ vs, 0 ≤ x ∧ x < 256) (hn : n ≤ 1048576) :
  Calls Try.prog 77 #[v] w fun r w' => DrawCP w r w' := by
 go_enter Try.func77, Try.ntmps77
 go_wp2_with fail
 refine (l17Open_any v n vs _ (hr.below (bal (Bs w) (.cells #[.slice none 0 0, .slice none 0 0, .slice none 0 0] 26))) hv hn).mono ?_
 rintro e w1 ⟨g, rfl, hR, hb⟩
 try simp only [Sa] at hR
 have hsz1 := hb.size
 simp only [Sa] at hsz1
 have bk2 : Bk w1 (w.heap.size) [.slice none 0 0, .slice none 0 0, .slice none 0 0] := Bk.below (Bk.nw (by simp) rfl) hb
 have tot := btr (bal (Bs w) (.cells #[.slice none 0 0, .slice none 0 0, .slice none 0 0] 26)) hb
 clear hb
 have lt3 := Bk.lz bk2
 obtain ⟨B, hB⟩ : ∃ B, w.heap.size + 1 = B := ⟨_, rfl⟩; rw [hB] at hR; have hwB : w.heap.size + 1 ≤ B := (by omega); clear hB hr hv
 have hg := hR.lt
 have hC : Chg (fun k => k = g) w w1 := Chg.of_below tot
 have ird : ∀ q, (fun k => k = g) q → q = g := fun q h => h
 clear tot
 have hgw : w.heap.size ≤ g := by omega
 go_wp2_with fail
 refine (l8Jumps_any B g (0) _ hR (by omega)).mono ?_
 rintro e w2 ⟨va1, vb1, vl1, nv1, na1, nl1, q1, rfl, hdc, hv1, ha1, hl1, hRn, hq1, hc⟩
 try simp only [Sa, Ss] at hdc
 obtain ⟨a10, c10, a11, c11, a12, c12, rfl, rfl, rfl⟩ := hdc.shape
 replace hC := (hC).trans hc
 replace hR := hRn; clear hRn
 have hsz4 := hc.size
 replace bk2 := Bk.keep bk2 hc (fun h => by have := ird _ h; omega)
 clear hc
 have iv5 := hdc.lt
 replace lt3 := Bk.lz bk2
 go_wp2_with fail
 refine (l6Mutate_of _ _ _ nv1 na1 nl1 _ B g (q1) _ hdc (by omega) (by omega) (by omega) (by omega) hR (by omega)).mono ?_
 rintro e w3 ⟨va2, vb2, vl2, nv2, na2, nl2, q2, rfl, hdm, hv2, ha2, hl2, hRn, hq2, hc⟩
 try simp only [Sa, Ss] at hdm
 obtain ⟨a20, c20, a21, c21, a22, c22, rfl, rfl, rfl⟩ := hdm.shape
 replace hC := (hC).trans hc
 replace hR := hRn; clear hRn
 have hsz6 := hc.size
 replace hdc := hdc.keep hc (fun gq h h2 => by have := iv5 gq h; have := ird gq h2; omega)
 replace bk2 := Bk.keep bk2 hc (fun h => by have := ird _ h; omega)
 clear hc
 have iv7 := hdm.lt
 replace lt3 := Bk.lz bk2
 clear hdc
 have tC := (((hC.setNew (w.heap.size) (0) (.slice a20 nv2 c20) (Or.inr (by omega))).setNew (w.heap.size) (1) (.slice a21 na2 c21) (Or.inr (by omega))).setNew (w.heap.size) (2) (.slice a22 nl2 c22) (Or.inr (by omega)))
 have tb := tC.below w.heap.size (Nat.le_refl _) (fun k hk h => by have := ird k h; omega)
 have TB := Lib.hid tb; clear tC tb hC
 clear hR
 have HCC := Lib.hid (DrawC.mono (((hdm.keep (C1 (w.heap.size) 0 (.slice a20 nv2 c20)) (fun gq h h2 => by have := iv7 gq h; omega)).keep (C1 (w.heap.size) 1 (.slice a21 na2 c21)) (fun gq h h2 => by have := iv7 gq h; omega)).keep (C1 (w.heap.size) 2 (.slice a22 nl2 c22)) (fun gq h h2 => by have := iv7 gq h; omega)) (show w.heap.size ≤ _ by omega))
 clear hdm
 obtain ⟨tc8, tf9⟩ := Bk.cf bk2 0 rfl
 obtain ⟨tc10, tf11⟩ := Bk.cf bk2 1 rfl
 obtain ⟨tc12, tf13⟩ := Bk.cf bk2 2 rfl
 have x14 := (Nc (b := (w.heap.size)) (j := 2) (Nc (b := (w.heap.size)) (j := 1) (Tc _ (w.heap.size) 0 (.slice a20 nv2 c20) tc8) (by omega) (.slice a21 na2 c21)) (by omega) (.slice a22 nl2 c22))
 have x15 := (Nc (b := (w.heap.size)) (j := 2) (Tc _ (w.heap.size) 1 (.slice a21 na2 c21) (Nc (b := (w.heap.size)) (j := 0) tc10 (by omega) (.slice a20 nv2 c20))) (by omega) (.slice a22 nl2 c22))
 have x16 := (Tc _ (w.heap.size) 2 (.slice a22 nl2 c22) (Nc (b := (w.heap.size)) (j := 1) (Nc (b := (w.heap.size)) (j := 0) tc12 (by omega) (.slice a20 nv2 c20)) (by omega) (.slice a21 na2 c21)))
 have tt := True.intro
 go_wp2
 exact bodyPost_ret (v := .agg #[.slice a20 nv2 c20, .slice a21 na2 c21, .slice a22 nl2 c22]) (by simp [results, Try.results77, go_sem, x14, x15, x16]) rfl (by exact by unfold DrawCP; exact ⟨_, _, _, _, _, _, rfl, HCC.out, ⟨by omega, by omega, by omega⟩, TB.out⟩)
theorem DrawLiveRegs_any (v : Value) (n : Nat) (vs : List Int) (w : World) (hr : Reads w 1 v n (vs.map (Value.int .u8))) (hv : ∀ x ∈ vs, 0 ≤ x ∧ x < 256) (hn : n ≤ 1048576) :
  Calls Try.prog 29 #[v] w fun r w' => DrawCP w r w' := by
 go_enter Try.func29, Try.ntmps29
 go_wp2_with fail
 refine (DrawReachableCode_any v n vs _ (hr.below (bal (Bs w) (.cells #[.slice none 0 0, .slice none 0 0, .slice none 0 0] 26))) hv hn).mono ?_
 rintro e w1 ⟨va, vb, vc, nv, na, nl, rfl, hdc, hbd, hb⟩
 obtain ⟨a0, c0, a1, c1, a2, c2, rfl, rfl, rfl⟩ := hdc.shape
 simp only [Sa] at hdc
 clear hr hv
 have hsz1 := hb.size
 simp only [Sa] at hsz1
 have bk2 : Bk w1 (w.heap.size) [.slice none 0 0, .slice none 0 0, .slice none 0 0] := Bk.below (Bk.nw (by simp) rfl) hb
 have tot := btr (bal (Bs w) (.cells #[.slice none 0 0, .slice none 0 0, .slice none 0 0] 26)) hb
 clear hb
 have lt3 := Bk.lz bk2
 have iv4 := hdc.lt
 try simp only [Sa] at iv4
 have HCC := Lib.hid (DrawC.mono (((hdc.keep (C1 (w.heap.size) 0 (.slice a0 nv c0)) (fun gq h h2 => by have := iv4 gq h; omega)).keep (C1 (w.heap.size) 1 (.slice a1 na c1)) (fun gq h h2 => by have := iv4 gq h; omega)).keep (C1 (w.heap.size) 2 (.slice a2 nl c2)) (fun gq h h2 => by have := iv4 gq h; omega)) (show w.heap.size ≤ w.heap.size + 1 by omega))
 clear hdc
 obtain ⟨tc5, tf6⟩ := Bk.cf bk2 0 rfl
 obtain ⟨tc7, tf8⟩ := Bk.cf bk2 1 rfl
 obtain ⟨tc9, tf10⟩ := Bk.cf bk2 2 rfl
 have x11 := (Nc (b := (w.heap.size)) (j := 2) (Nc (b := (w.heap.size)) (j := 1) (Tc _ (w.heap.size) 0 (.slice a0 nv c0) tc5) (by omega) (.slice a1 na c1)) (by omega) (.slice a2 nl c2))
 have x12 := (Nc (b := (w.heap.size)) (j := 2) (Tc _ (w.heap.size) 1 (.slice a1 na c1) (Nc (b := (w.heap.size)) (j := 0) tc7 (by omega) (.slice a0 nv c0))) (by omega) (.slice a2 nl c2))
 have x13 := (Tc _ (w.heap.size) 2 (.slice a2 nl c2) (Nc (b := (w.heap.size)) (j := 1) (Nc (b := (w.heap.size)) (j := 0) tc9 (by omega) (.slice a0 nv c0)) (by omega) (.slice a1 na c1)))
 have tt := (bst (bst (bst tot (w.heap.size) 0 (by omega) (.slice a0 nv c0)) (w.heap.size) 1 (by omega) (.slice a1 na c1)) (w.heap.size) 2 (by omega) (.slice a2 nl c2))
 go_wp2
 exact bodyPost_ret (v := .agg #[.slice a0 nv c0, .slice a1 na c1, .slice a2 nl c2]) (by simp [results, Try.results29, go_sem, x11, x12, x13]) rfl (by exact (by unfold DrawCP; exact ⟨_, _, _, _, _, _, rfl, HCC.out, hbd, tt⟩))
end Go.Proofs.Ytkjedgnepnbkpaa
namespace Go.Proofs.Ytkjedgnepnbkpaa
open Go.RowKit

theorem FnLiveRegs_walk (v : Value) (n : Nat) (vs : List Int) (w : World) (r0 : Reads w 1 v n (vs.map (Value.int .u8))) (hv : ∀ x ∈ vs, 0 ≤ x ∧ x < 256) :
  Calls Try.prog 6 #[v] w fun e w' => e = .returned (.bool true) ∧ Below w.heap.size w w' := by
 obtain ⟨va, vc, rfl⟩ := reads_shape r0
 by_cases hn : n ≤ 1048576
 case neg =>
  have hn2 : (1048576 : Int) < (n : Int) := by omega
  clear r0
  go_enter Try.func6, Try.ntmps6
  go_wp2
  go_ret
  exact ⟨rfl, Below.refl _ _⟩
 have hn2 : ¬ (1048576 : Int) < (n : Int) := by omega
 go_enter Try.func6, Try.ntmps6
 go_wp2_with fail
 refine (DrawLiveRegs_any _ n vs _ (r0.below (Bs w)) hv hn).mono ?_
 rintro e w1 ⟨va9, vb9, vc9, nv9, na9, nl9, rfl, hdc, hbd, hb⟩
 clear r0 hv
 obtain ⟨c, hrc⟩ := RdC.of hdc hbd.1 hbd.2.1 hbd.2.2
 clear hdc hbd
 obtain ⟨a0, c0, a1, c1, a2, c2, rfl, rfl, rfl⟩ := hrc.r.shape
 have hb1 : c.vars.length ≤ 1000 ∧ c.arrays.length ≤ 1000 ∧ c.list.length ≤ 1000 := ⟨hrc.l0, hrc.l1, hrc.l2⟩
 have hsz1 := hb.size
 have tot := btr (Bs w) hb
 clear hb
 have tb2 := Bs w1
 have HC := Lib.hid (fun W (hW : Below w1.heap.size w1 W) => hrc.r.below hW)
 clear hrc
 obtain ⟨L, hL⟩ : ∃ L, liveR c = L := ⟨_, rfl⟩
 have hll := liveR_len c
 rw [hL] at hll
 have hLL := hll.1
 have HLR := Lib.hid hll.2
 have HLL := Lib.hid hL
 clear hll hL
 go_wp2_with fail
 have hQ9 := iLiveRegs_any _ _ _ c _ (HC.out _ (bal tb2 (.cells #[.slice a0 c.vars.length c0, .slice a1 c.arrays.length c1, .slice a2 c.list.length c2] 26)))
 rw [HLL.out] at hQ9
 refine (hQ9).mono ?_
 rintro e w2 ⟨u1, us1, rfl, o1, hb⟩
 obtain ⟨p1, q1, rfl⟩ := o1.shape
 clear hQ9
 replace tb2 := btr (bal tb2 _) hb
 have hsz3 := hb.size
 simp only [Sa] at hsz3
 have bk4 : Bk w2 (w1.heap.size) [.slice a0 c.vars.length c0, .slice a1 c.arrays.length c1, .slice a2 c.list.length c2] := Bk.below (Bk.nw (by simp) rfl) hb
 replace tot := btr (bal tot _) hb
 clear hb
 have tb5 := Bs w2
 have HL1 := Lib.hid (fun W (hW : Below w2.heap.size w2 W) => (o1.reads (by omega) (fun k r hr => by have := HLR.out k r hr; omega)).below hW)
 have lt6 := Bk.lz bk4
 clear o1
 obtain ⟨tc7, tf8⟩ := Bk.cf bk4 0 rfl
 obtain ⟨tc9, tf10⟩ := Bk.cf bk4 1 rfl
 obtain ⟨tc11, tf12⟩ := Bk.cf bk4 2 rfl
 go_wp2_with fail
 have hQ9 := sLiveRegs_any _ _ _ c _ (HC.out _ tb2)
 rw [HLL.out] at hQ9
 refine (hQ9).mono ?_
 rintro e w3 ⟨u2, us2, rfl, o2, hb⟩
 obtain ⟨p2, q2, rfl⟩ := o2.shape
 clear hQ9
 replace tb2 := btr tb2 hb
 replace tb5 := btr tb5 hb
 have hsz13 := hb.size
 clear tf8 tc7 tf10 tc9 tf12 tc11
 replace bk4 := Bk.below bk4 hb
 replace tot := btr tot hb
 clear hb
 have tb14 := Bs w3
 have HL2 := Lib.hid (fun W (hW : Below w3.heap.size w3 W) => (o2.reads (by omega) (fun k r hr => by have := HLR.out k r hr; omega)).below hW)
 replace lt6 := Bk.lz bk4
 clear o2
 go_wp2_with fail
 have hQ9 := ctRows_any _ _ L L _ (HL1.out _ tb5) (HL2.out _ tb14)
 rw [decide_eq_true (Eq.refl L)] at hQ9
 refine (hQ9).mono ?_
 rintro e w4 ⟨rfl, hb⟩
 clear hQ9
 replace tb2 := btr tb2 hb
 replace tb5 := btr tb5 hb
 replace tb14 := btr tb14 hb
 have hsz15 := hb.size
 replace bk4 := Bk.below bk4 hb
 replace tot := btr tot hb
 clear hb
 replace lt6 := Bk.lz bk4
 by_cases hz : L.length < 1
 ·have q20 : ((L.length : Int) == 0) = true := by rw [beq_iff_eq]; omega
  obtain ⟨tc16, tf17⟩ := Bk.cf bk4 0 rfl
  obtain ⟨tc18, tf19⟩ := Bk.cf bk4 1 rfl
  obtain ⟨tc20, tf21⟩ := Bk.cf bk4 2 rfl
  go_wp2_with fail
  have hQ9 := sLiveRegs_any _ _ _ c _ (HC.out _ tb2)
  rw [HLL.out] at hQ9
  refine (hQ9).mono ?_
  rintro e w5 ⟨u3, us3, rfl, o3, hb⟩
  obtain ⟨p3, q3, rfl⟩ := o3.shape
  clear hQ9
  replace tb2 := btr tb2 hb
  replace tb5 := btr tb5 hb
  replace tb14 := btr tb14 hb
  have hsz22 := hb.size
  clear tf17 tc16 tf19 tc18 tf21 tc20
  replace bk4 := Bk.below bk4 hb
  replace tot := btr tot hb
  clear hb
  have tb23 := Bs w5
  have HL3 := Lib.hid (fun W (hW : Below w5.heap.size w5 W) => (o3.reads (by omega) (fun k r hr => by have := HLR.out k r hr; omega)).below hW)
  replace lt6 := Bk.lz bk4
  clear o3
  go_wp2_with fail
  have hQ9 := ctRows_any _ _ L L _ (HL1.out _ tb5) (HL3.out _ tb23)
  rw [decide_eq_true (Eq.refl L)] at hQ9
  refine (hQ9).mono ?_
  rintro e w6 ⟨rfl, hb⟩
  clear hQ9
  replace tb2 := btr tb2 hb
  replace tb5 := btr tb5 hb
  replace tb14 := btr tb14 hb
  replace tb23 := btr tb23 hb
  have hsz24 := hb.size
  replace bk4 := Bk.below bk4 hb
  replace tot := btr tot hb
  clear hb
  replace lt6 := Bk.lz bk4
  have tt := tot
  go_wp2
  go_ret
  exact ⟨rfl, tt⟩
 have q20 : ((L.length : Int) == 0) = false := by rw [beq_eq_false_iff_ne]; omega
 have hok : codeOk c = true := by cases h : codeOk c with | true => rfl | false => have h1 := HLL.out; rw [liveR_no h] at h1; rw [← h1] at hz; exact absurd (show ([] : List (List Bool)).length < 1 by decide) hz
 have HCK : Hid (checkR c L = true) := Lib.hid (by rw [← HLL.out]; exact law_live hok)
 clear hok
 obtain ⟨tc25, tf26⟩ := Bk.cf bk4 0 rfl
 obtain ⟨tc27, tf28⟩ := Bk.cf bk4 1 rfl
 obtain ⟨tc29, tf30⟩ := Bk.cf bk4 2 rfl
 go_wp2_with fail
 have hQ9 := iCheckLive_any _ _ _ _ c L _ (HC.out _ tb2) (HL1.out _ tb5)
 rw [HCK.out] at hQ9
 refine (hQ9).mono ?_
 rintro e w5 ⟨rfl, hb⟩
 clear hQ9
 replace tb2 := btr tb2 hb
 replace tb5 := btr tb5 hb
 replace tb14 := btr tb14 hb
 have hsz31 := hb.size
 clear tf26 tc25 tf28 tc27 tf30 tc29
 replace bk4 := Bk.below bk4 hb
 replace tot := btr tot hb
 clear hb
 replace lt6 := Bk.lz bk4
 have tt := tot
 go_wp2
 go_ret
 exact ⟨rfl, tt⟩
end Go.Proofs.Ytkjedgnepnbkpaa
