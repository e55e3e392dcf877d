/-
 Parts of the proofs of the laws FnCheckLive, FnFinalRegs, FnLiveRegister, FnLiveRegs.
-/
import Derived.Test.YtkjedgnepnbkpaaPY
set_option linter.all false
namespace Go.Proofs.Ytkjedgnepnbkpaa
open Go.RowKit

theorem knd_let {op : Int} (h : 1 ≤ op ∧ op ≤ 12) (k : Nat) (hk : k < (knd op).length) : ((knd op)[k] = 114 ∨ (knd op)[k] = 99 ∨ (knd op)[k] = 118 ∨ (knd op)[k] = 97 ∨ (knd op)[k] = 111 ∨ (knd op)[k] = 116) ∧ ((knd op)[k] = 97 → op = 4 ∨ op = 5) := by
 have hc : op = 1 ∨ op = 2 ∨ op = 3 ∨ op = 4 ∨ op = 5 ∨ op = 6 ∨ op = 7 ∨ op = 8 ∨ op = 9 ∨ op = 10 ∨ op = 11 ∨ op = 12 := by omega
 rcases hc with rfl | rfl | rfl | rfl | rfl | rfl | rfl | rfl | rfl | rfl | rfl | rfl
 all_goals
  revert hk
  match k with
  | 0 => first | (intro hk; revert hk; decide) | (intro hk; simp [knd])
  | 1 => first | (intro hk; revert hk; decide) | (intro hk; simp [knd])
  | 2 => first | (intro hk; revert hk; decide) | (intro hk; simp [knd])
  | 3 => first | (intro hk; revert hk; decide) | (intro hk; simp [knd])
  | n + 4 => intro hk; exact absurd hk (Nat.not_lt.2 (Nat.le_trans (knd_len (by omega)) (by omega)))

set_option maxHeartbeats 6400000 in
set_option maxRecDepth 100000 in
theorem l6Random_any (pv pa pl : Option Addr) (nv cv na ca nl cl : Nat) (B g p ka n : Nat) (w : World) (hR : Rnd w B g p) (hp : p + 5 ≤ 1000000000) (hnv : 1 ≤ nv ∧ nv ≤ 1000) (hna : na ≤ 1000) (hkn : ka + 1 < n) (hn : n ≤ 1000) :
  Calls Try.prog 145 #[.pointer (some ⟨g, 0, none⟩), .agg #[.slice pv nv cv, .slice pa na ca, .slice pl nl cl], .int .i64 (ka : Int), .int .i64 (n : Int)] w fun r w' => ∃ (x0 x1 x2 x3 x4 : Int) (p' : Nat), r = .returned (.agg #[.int .i64 x0, .int .i64 x1, .int .i64 x2, .int .i64 x3, .int .i64 x4]) ∧ Rnd w' B g p' ∧ p' ≤ p + 5 ∧ Chg (fun q => q = g) w w' := by
 have hg := hR.lt
 have hC : Chg (fun k => k = g) w w := Chg.refl _ _
 have ird : ∀ q, (fun k => k = g) q → q = g := fun q h => h
 go_enter Try.func145, Try.ntmps145
 go_wp2_with fail
 have hqn := num_any _ [1, 2, 3, 6, 2, 7, 9, 4, 5, 11, 8, 12] _ B g (p) (((hR.below (bal (Bs _) (.cells #[.slice pv nv cv, .slice pa na ca, .slice pl nl cl] 26))).below (bal (Bs _) (.cells #[.int .i64 0, .int .i64 0, .int .i64 0, .int .i64 0, .int .i64 0] 32))).below (bal (Bs _) (.cells #[.int .i64 1, .int .i64 2, .int .i64 3, .int .i64 6, .int .i64 2, .int .i64 7, .int .i64 9, .int .i64 4, .int .i64 5, .int .i64 11, .int .i64 8, .int .i64 12] 3))) (Ro (World.ownsRow_lit (base := ((World.alloc (World.alloc w (.cells #[.slice pv nv cv, .slice pa na ca, .slice pl nl cl] 26)) (.cells #[.int .i64 0, .int .i64 0, .int .i64 0, .int .i64 0, .int .i64 0] 32))).heap.size) (e := 3) (size := 1) ((World.alloc (World.alloc w (.cells #[.slice pv nv cv, .slice pa na ca, .slice pl nl cl] 26)) (.cells #[.int .i64 0, .int .i64 0, .int .i64 0, .int .i64 0, .int .i64 0] 32))) #[.int .i64 1, .int .i64 2, .int .i64 3, .int .i64 6, .int .i64 2, .int .i64 7, .int .i64 9, .int .i64 4, .int .i64 5, .int .i64 11, .int .i64 8, .int .i64 12] 12 (Nat.le_refl _) (by unfold maxLen; omega) (by simp)) (by simp)) (fun b o c hb => by simp at hb; omega) (by simp) (by simp) (by omega)
 simp only [Sa] at hqn
 refine (hqn).mono ?_
 rintro e w1 ⟨op, opm, rfl, hRn, hc⟩
 clear hqn
 replace hC := ((((hC.trans (Chg.of_below (bal (Bs _) _))).trans (Chg.of_below (bal (Bs _) _))).trans (Chg.of_below (bal (Bs _) _)))).trans hc
 replace hR := hRn; clear hRn
 have hsz2 := hc.size
 simp only [Sa] at hsz2
 have bk3 : Bk w1 (w.heap.size) [.slice pv nv cv, .slice pa na ca, .slice pl nl cl] := Bk.keep (Bk.al (Bk.al (Bk.nw (by simp) rfl) (.cells #[.int .i64 0, .int .i64 0, .int .i64 0, .int .i64 0, .int .i64 0] 32)) (.cells #[.int .i64 1, .int .i64 2, .int .i64 3, .int .i64 6, .int .i64 2, .int .i64 7, .int .i64 9, .int .i64 4, .int .i64 5, .int .i64 11, .int .i64 8, .int .i64 12] 3)) hc (fun h => by have := ird _ h; omega)
 have bk4 : Bk w1 (w.heap.size + 1) [.int .i64 0, .int .i64 0, .int .i64 0, .int .i64 0, .int .i64 0] := Bk.keep (Bk.al (Bk.nw (by simp) rfl) (.cells #[.int .i64 1, .int .i64 2, .int .i64 3, .int .i64 6, .int .i64 2, .int .i64 7, .int .i64 9, .int .i64 4, .int .i64 5, .int .i64 11, .int .i64 8, .int .i64 12] 3)) hc (fun h => by have := ird _ h; omega)
 have bk5 : Bk w1 (w.heap.size + 1 + 1) [.int .i64 1, .int .i64 2, .int .i64 3, .int .i64 6, .int .i64 2, .int .i64 7, .int .i64 9, .int .i64 4, .int .i64 5, .int .i64 11, .int .i64 8, .int .i64 12] := Bk.keep (Bk.nw (by simp) rfl) hc (fun h => by have := ird _ h; omega)
 clear hc
 clear bk5
 have lt6 := Bk.lz bk3
 have lt7 := Bk.lz bk4
 have hop : 1 ≤ op ∧ op ≤ 12 := by simp only [List.mem_cons, List.not_mem_nil, or_false] at opm; omega
 clear opm
 go_upto_region 2 with (fail)
 obtain ⟨w2, hnw, hb⟩ := nmw (World.alloc w1 (.cells #[.int .i64 op, .int .i64 0, .int .i64 0, .int .i64 0, .int .i64 0] 32))
 replace hC := ((hC.trans (Chg.of_below (bal (Bs _) _)))).trans (Chg.of_below hb)
 replace hR := (hR.below (bal (Bs _) _)).below hb
 have hsz8 := hb.size
 simp only [Sa] at hsz8
 replace bk3 := Bk.below (Bk.al bk3 _) hb
 replace bk4 := Bk.below (Bk.al bk4 _) hb
 have bk9 : Bk w2 (w1.heap.size) [.int .i64 op, .int .i64 0, .int .i64 0, .int .i64 0, .int .i64 0] := Bk.below (Bk.nw (by simp) rfl) hb
 clear hb
 rw [← hnw]
 clear hnw
 replace lt6 := Bk.lz bk3
 replace lt7 := Bk.lz bk4
 have lt10 := Bk.lz bk9
 have tq00 := Bk.cell bk9 0 (v := .int .i64 op) rfl
 have tq10 := Bk.cell bk3 1 (v := .slice pa na ca) rfl
 go_cut [30] (fun s wx => (∃ t : Bool, s = .bool t ∧ (t = false → (op = 4 ∨ op = 5) → 1 ≤ na)) ∧ wx = w2)
 case first =>
  by_cases hz : na = 0
  ·have q1 : ((na : Int) == 0) = true := by simp [hz]
   by_cases h4 : op = 4
   ·have q4 : (op == 4) = true := by simp [h4]
    go_wp2_with fail; go_meet; exact ⟨⟨true, rfl, fun h => by cases h⟩, rfl⟩
   have q4 : (op == 4) = false := by simp [h4]
   by_cases h5 : op = 5
   ·have q5 : (op == 5) = true := by simp [h5]
    go_wp2_with fail; go_meet; exact ⟨⟨true, rfl, fun h => by cases h⟩, rfl⟩
   have q5 : (op == 5) = false := by simp [h5]
   go_wp2_with fail; go_meet; exact ⟨⟨false, rfl, fun _ h => by omega⟩, rfl⟩
  ·have q1 : ((na : Int) == 0) = false := by simp; omega
   go_wp2_with fail; go_meet; exact ⟨⟨false, rfl, fun _ h => by omega⟩, rfl⟩
 obtain ⟨⟨tb, rfl, htb⟩, hwc⟩ := hcut; have hwd := hwc.symm; subst hwd; clear hwc tq00 tq10
 cases tb with
 | true =>
  clear htb
  obtain ⟨tc11, tf12⟩ := Bk.cf bk3 1 rfl
  obtain ⟨tc13, tf14⟩ := Bk.cf bk9 0 rfl
  obtain ⟨tc15, tf16⟩ := Bk.cf bk9 1 rfl
  obtain ⟨tc17, tf18⟩ := Bk.cf bk9 2 rfl
  obtain ⟨tc19, tf20⟩ := Bk.cf bk9 3 rfl
  obtain ⟨tc21, tf22⟩ := Bk.cf bk9 4 rfl
  go_wp2_with fail
  refine (l6Fields_any (2) _ (by omega)).mono ?_
  rintro e w3 ⟨rfl, hb⟩
  replace hC := ((hC.setNew _ _ _ (Or.inr (by omega)))).trans (Chg.of_below hb)
  replace hR := (hR.keep (C1 _ _ _) (by omega) (fun _ _ => by omega)).below hb
  have hsz23 := hb.size
  simp only [Ss] at hsz23
  clear tf12 tc11 tf14 tc13 tf16 tc15 tf18 tc17 tf20 tc19 tf22 tc21
  replace bk3 := Bk.below (Bk.ne bk3 (by omega) _) hb
  replace bk4 := Bk.below (Bk.ne bk4 (by omega) _) hb
  replace bk9 : Bk w3 (w1.heap.size) [.int .i64 2, .int .i64 0, .int .i64 0, .int .i64 0, .int .i64 0] := Bk.below (Bk.at bk9 0 (.int .i64 2)) hb
  clear hb
  obtain ⟨S, hS⟩ : ∃ S : ByteArray, S = ⟨(knd (2)).toArray⟩ := ⟨_, rfl⟩
  rw [← hS]
  have HZ : Hid (S.size = (knd (2)).length) := Lib.hid (by rw [hS]; simp [ByteArray.size])
  have HG : Hid (∀ (k : Nat) (h : k < (knd (2)).length) (h' : k < S.size), S[k]'h' = (knd (2))[k]) := Lib.hid (by subst hS; exact str_get _)
  have HK : Hid (S.size ≤ 4) := Lib.hid (by rw [HZ.out]; exact knd_len (by omega))
  have HL : Hid (∀ (k : Nat) (h : k < S.size), (S[k]'h = 114 ∨ S[k]'h = 99 ∨ S[k]'h = 118 ∨ S[k]'h = 97 ∨ S[k]'h = 111 ∨ S[k]'h = 116) ∧ (S[k]'h = 97 → 1 ≤ na)) := Lib.hid (fun k h => by have h1 : k < (knd (2)).length := (by rw [← HZ.out]; exact h); rw [HG.out k h1 h]; have h2 := knd_let (op := 2) (by omega) k h1; exact ⟨h2.1, fun e => by have := h2.2 e; omega⟩)
  clear hS HG HZ
  replace lt6 := Bk.lz bk3
  replace lt7 := Bk.lz bk4
  replace lt10 := Bk.lz bk9
  go_upto_region 6 with (fail)
  obtain ⟨w4, hnw, hb⟩ := nmw (World.alloc w3 (.cells #[.int .i64 0, .int .i64 0, .int .i64 0, .int .i64 0] 3))
  replace hC := ((hC.trans (Chg.of_below (bal (Bs _) _)))).trans (Chg.of_below hb)
  replace hR := (hR.below (bal (Bs _) _)).below hb
  have ol24 := Ob (World.ownsRow_lit (base := (w3).heap.size) (e := 3) (size := 1) (w3) #[.int .i64 0, .int .i64 0, .int .i64 0, .int .i64 0] 4 (Nat.le_refl _) (by unfold maxLen; omega) (by simp)) hb
  try simp only [Sa, Ss] at ol24
  have hsz25 := hb.size
  simp only [Sa] at hsz25
  replace bk3 := Bk.below (Bk.al bk3 _) hb
  replace bk4 := Bk.below (Bk.al bk4 _) hb
  replace bk9 := Bk.below (Bk.al bk9 _) hb
  have bk26 : Bk w4 (w3.heap.size) [.int .i64 0, .int .i64 0, .int .i64 0, .int .i64 0] := Bk.below (Bk.nw (by simp) rfl) hb
  clear hb
  have iv27 := ol24.lt
  try simp only [Sa] at iv27
  rw [← hnw]
  clear hnw
  replace lt6 := Bk.lz bk3
  replace lt7 := Bk.lz bk4
  replace lt10 := Bk.lz bk9
  have lt28 := Bk.lz bk26
  clear ol24
  have ri := RowI.of (xs := [0, 0, 0, 0]) (n := 4) bk26 rfl
  clear bk26
  have HI0 : Hid (∃ (k pk : Nat), Value.int .i64 0 = .int .i64 k ∧ k ≤ S.size ∧ RowI w4 (w3.heap.size) 4 ∧ Bk w4 (w.heap.size) [.slice pv nv cv, .slice pa na ca, .slice pl nl cl] ∧ Bk w4 (w1.heap.size) [.int .i64 2, .int .i64 0, .int .i64 0, .int .i64 0, .int .i64 0] ∧ Bk w4 (w.heap.size + 1) [.int .i64 0, .int .i64 0, .int .i64 0, .int .i64 0, .int .i64 0] ∧ Rnd w4 B g pk ∧ pk ≤ p + 1 + k ∧ Chg (fun q => q = g) w w4 ∧ w4.heap.size ≤ w4.heap.size) := Lib.hid ⟨0, p + 1, rfl, Nat.zero_le _, ri, bk3, bk9, bk4, hR, by omega, hC, Nat.le_refl _⟩
  have hszb : w.heap.size + 4 ≤ w4.heap.size := by omega
  clear hR hC ri bk3 bk4 bk9 lt6 lt7 lt10 lt28
  go_wp2_with fail
  go_loopw [12] (fun i wr => ∃ (k pk : Nat), i = .int .i64 k ∧ k ≤ S.size ∧ RowI wr (w3.heap.size) 4 ∧ Bk wr (w.heap.size) [.slice pv nv cv, .slice pa na ca, .slice pl nl cl] ∧ Bk wr (w1.heap.size) [.int .i64 2, .int .i64 0, .int .i64 0, .int .i64 0, .int .i64 0] ∧ Bk wr (w.heap.size + 1) [.int .i64 0, .int .i64 0, .int .i64 0, .int .i64 0, .int .i64 0] ∧ Rnd wr B g pk ∧ pk ≤ p + 1 + k ∧ Chg (fun q => q = g) w wr ∧ w4.heap.size ≤ wr.heap.size) (fun i _ => S.size - (intOf i).toNat)
  case atStart => exact HI0.out
  case round =>
   obtain ⟨k, pk, rfl, hk, ri, kb5, kb9, kb8, hR, hpk, hC, hzr⟩ := hrel
   clear HI0
   obtain ⟨wl, rfl⟩ : ∃ X, X = wr := ⟨_, rfl⟩
   have hK4 := HK.out
   have lt29 := Bk.lz kb5
   have lt30 := Bk.lz kb9
   have lt31 := Bk.lz kb8
   by_cases hlt : k < S.size
   ·have hk2 : (k : Int) < (S.size : Int) := by omega
    have hk5 : ¬ ((S.size : Int) ≤ (k : Int)) := by omega
    have hk6 : ¬ (S.size ≤ k) := by omega
    have hk4 : decide (S.size ≤ k) = false := decide_eq_false hk6
    obtain ⟨hL1, hL2⟩ := HL.out k hlt
    have HA := Lib.hid hL2; clear hL2 HL
    generalize hzz : S[k] = z at *
    rcases hL1 with rfl | rfl | rfl | rfl | rfl | rfl
    ·skip
     go_wp2_with fail
     refine (pick_any _ _ B g (pk) hR (by omega) (by omega) (by omega)).mono ?_
     rintro e w5 ⟨z1, z10, z11, rfl, hRn, hc⟩
     replace hC := (hC).trans hc
     replace hR := hRn; clear hRn
     replace ri := RowI.keep ri hc (fun h => by have := ird _ h; omega)
     have hsz32 := hc.size
     replace kb5 := Bk.keep kb5 hc (fun h => by have := ird _ h; omega)
     replace kb9 := Bk.keep kb9 hc (fun h => by have := ird _ h; omega)
     replace kb8 := Bk.keep kb8 hc (fun h => by have := ird _ h; omega)
     clear hc
     replace lt29 := Bk.lz kb5
     replace lt30 := Bk.lz kb9
     replace lt31 := Bk.lz kb8
     obtain ⟨yk, hyk, fyk⟩ := ri.at k (by omega)
     have HRI := Lib.hid (RowI.put ri ((k : Nat)) (z1)); have HHB := Lib.hid (And.intro (Bk.ne (b' := (w3.heap.size)) (j' := (k : Nat)) kb5 (by omega) (.int .i64 z1)) (And.intro (Bk.ne (b' := (w3.heap.size)) (j' := (k : Nat)) kb9 (by omega) (.int .i64 z1)) (And.intro (Bk.ne (b' := (w3.heap.size)) (j' := (k : Nat)) kb8 (by omega) (.int .i64 z1)) (And.intro (hR.keep (C1 (w3.heap.size) ((k : Nat)) (.int .i64 z1)) (by omega) (fun _ _ => by omega)) (hC.setNew (w3.heap.size) ((k : Nat)) (.int .i64 z1) (Or.inr (by omega)))))))
     have HSZ := Lib.hid (show wl.heap.size ≤ w5.heap.size by omega)
     clear hR hC
     go_wp2
     go_roundw
     case rel => exact ⟨k + 1, pk + 1, by go_num, by omega, HRI.out, HHB.out.1, HHB.out.2.1, HHB.out.2.2.1, HHB.out.2.2.2.1, by omega, HHB.out.2.2.2.2, by have := HSZ.out; simp only [Ss]; omega⟩
     case measure => simp [intOf]; omega
    ·skip
     go_wp2_with fail
     refine (l3Value_any B g (pk) _ hR (by omega)).mono ?_
     rintro e w5 ⟨z1, rfl, hz1, hRn, hc⟩
     replace hC := (hC).trans hc
     replace hR := hRn; clear hRn
     replace ri := RowI.keep ri hc (fun h => by have := ird _ h; omega)
     have hsz33 := hc.size
     replace kb5 := Bk.keep kb5 hc (fun h => by have := ird _ h; omega)
     replace kb9 := Bk.keep kb9 hc (fun h => by have := ird _ h; omega)
     replace kb8 := Bk.keep kb8 hc (fun h => by have := ird _ h; omega)
     clear hc
     replace lt29 := Bk.lz kb5
     replace lt30 := Bk.lz kb9
     replace lt31 := Bk.lz kb8
     obtain ⟨yk, hyk, fyk⟩ := ri.at k (by omega)
     have HRI := Lib.hid (RowI.put ri ((k : Nat)) (z1)); have HHB := Lib.hid (And.intro (Bk.ne (b' := (w3.heap.size)) (j' := (k : Nat)) kb5 (by omega) (.int .i64 z1)) (And.intro (Bk.ne (b' := (w3.heap.size)) (j' := (k : Nat)) kb9 (by omega) (.int .i64 z1)) (And.intro (Bk.ne (b' := (w3.heap.size)) (j' := (k : Nat)) kb8 (by omega) (.int .i64 z1)) (And.intro (hR.keep (C1 (w3.heap.size) ((k : Nat)) (.int .i64 z1)) (by omega) (fun _ _ => by omega)) (hC.setNew (w3.heap.size) ((k : Nat)) (.int .i64 z1) (Or.inr (by omega)))))))
     have HSZ := Lib.hid (show wl.heap.size ≤ w5.heap.size by omega)
     clear hR hC
     go_wp2
     go_roundw
     case rel => exact ⟨k + 1, pk + 1, by go_num, by omega, HRI.out, HHB.out.1, HHB.out.2.1, HHB.out.2.2.1, HHB.out.2.2.2.1, by omega, HHB.out.2.2.2.2, by have := HSZ.out; simp only [Ss]; omega⟩
     case measure => simp [intOf]; omega
    ·skip
     obtain ⟨tc34, tf35⟩ := Bk.cf kb5 0 rfl
     go_wp2_with fail
     refine (pick_any _ _ B g (pk) hR (by omega) (by omega) (by omega)).mono ?_
     rintro e w5 ⟨z1, z10, z11, rfl, hRn, hc⟩
     replace hC := (hC).trans hc
     replace hR := hRn; clear hRn
     replace ri := RowI.keep ri hc (fun h => by have := ird _ h; omega)
     have hsz36 := hc.size
     clear tf35 tc34
     replace kb5 := Bk.keep kb5 hc (fun h => by have := ird _ h; omega)
     replace kb9 := Bk.keep kb9 hc (fun h => by have := ird _ h; omega)
     replace kb8 := Bk.keep kb8 hc (fun h => by have := ird _ h; omega)
     clear hc
     replace lt29 := Bk.lz kb5
     replace lt30 := Bk.lz kb9
     replace lt31 := Bk.lz kb8
     obtain ⟨yk, hyk, fyk⟩ := ri.at k (by omega)
     have HRI := Lib.hid (RowI.put ri ((k : Nat)) (z1)); have HHB := Lib.hid (And.intro (Bk.ne (b' := (w3.heap.size)) (j' := (k : Nat)) kb5 (by omega) (.int .i64 z1)) (And.intro (Bk.ne (b' := (w3.heap.size)) (j' := (k : Nat)) kb9 (by omega) (.int .i64 z1)) (And.intro (Bk.ne (b' := (w3.heap.size)) (j' := (k : Nat)) kb8 (by omega) (.int .i64 z1)) (And.intro (hR.keep (C1 (w3.heap.size) ((k : Nat)) (.int .i64 z1)) (by omega) (fun _ _ => by omega)) (hC.setNew (w3.heap.size) ((k : Nat)) (.int .i64 z1) (Or.inr (by omega)))))))
     have HSZ := Lib.hid (show wl.heap.size ≤ w5.heap.size by omega)
     clear hR hC
     go_wp2
     go_roundw
     case rel => exact ⟨k + 1, pk + 1, by go_num, by omega, HRI.out, HHB.out.1, HHB.out.2.1, HHB.out.2.2.1, HHB.out.2.2.2.1, by omega, HHB.out.2.2.2.2, by have := HSZ.out; simp only [Ss]; omega⟩
     case measure => simp [intOf]; omega
    ·skip
     have ha1 : 1 ≤ na := HA.out rfl
     obtain ⟨tc37, tf38⟩ := Bk.cf kb5 1 rfl
     go_wp2_with fail
     refine (pick_any _ _ B g (pk) hR (by omega) (by omega) (by omega)).mono ?_
     rintro e w5 ⟨z1, z10, z11, rfl, hRn, hc⟩
     replace hC := (hC).trans hc
     replace hR := hRn; clear hRn
     replace ri := RowI.keep ri hc (fun h => by have := ird _ h; omega)
     have hsz39 := hc.size
     clear tf38 tc37
     replace kb5 := Bk.keep kb5 hc (fun h => by have := ird _ h; omega)
     replace kb9 := Bk.keep kb9 hc (fun h => by have := ird _ h; omega)
     replace kb8 := Bk.keep kb8 hc (fun h => by have := ird _ h; omega)
     clear hc
     replace lt29 := Bk.lz kb5
     replace lt30 := Bk.lz kb9
     replace lt31 := Bk.lz kb8
     obtain ⟨yk, hyk, fyk⟩ := ri.at k (by omega)
     have HRI := Lib.hid (RowI.put ri ((k : Nat)) (z1)); have HHB := Lib.hid (And.intro (Bk.ne (b' := (w3.heap.size)) (j' := (k : Nat)) kb5 (by omega) (.int .i64 z1)) (And.intro (Bk.ne (b' := (w3.heap.size)) (j' := (k : Nat)) kb9 (by omega) (.int .i64 z1)) (And.intro (Bk.ne (b' := (w3.heap.size)) (j' := (k : Nat)) kb8 (by omega) (.int .i64 z1)) (And.intro (hR.keep (C1 (w3.heap.size) ((k : Nat)) (.int .i64 z1)) (by omega) (fun _ _ => by omega)) (hC.setNew (w3.heap.size) ((k : Nat)) (.int .i64 z1) (Or.inr (by omega)))))))
     have HSZ := Lib.hid (show wl.heap.size ≤ w5.heap.size by omega)
     clear hR hC
     go_wp2
     go_roundw
     case rel => exact ⟨k + 1, pk + 1, by go_num, by omega, HRI.out, HHB.out.1, HHB.out.2.1, HHB.out.2.2.1, HHB.out.2.2.2.1, by omega, HHB.out.2.2.2.2, by have := HSZ.out; simp only [Ss]; omega⟩
     case measure => simp [intOf]; omega
    ·skip
     go_wp2_with fail
     refine (pick_any _ _ B g (pk) hR (by omega) (by omega) (by omega)).mono ?_
     rintro e w5 ⟨z1, z10, z11, rfl, hRn, hc⟩
     replace hC := (hC).trans hc
     replace hR := hRn; clear hRn
     replace ri := RowI.keep ri hc (fun h => by have := ird _ h; omega)
     have hsz40 := hc.size
     replace kb5 := Bk.keep kb5 hc (fun h => by have := ird _ h; omega)
     replace kb9 := Bk.keep kb9 hc (fun h => by have := ird _ h; omega)
     replace kb8 := Bk.keep kb8 hc (fun h => by have := ird _ h; omega)
     clear hc
     replace lt29 := Bk.lz kb5
     replace lt30 := Bk.lz kb9
     replace lt31 := Bk.lz kb8
     obtain ⟨yk, hyk, fyk⟩ := ri.at k (by omega)
     have HRI := Lib.hid (RowI.put ri ((k : Nat)) ((4 + z1))); have HHB := Lib.hid (And.intro (Bk.ne (b' := (w3.heap.size)) (j' := (k : Nat)) kb5 (by omega) (.int .i64 (4 + z1))) (And.intro (Bk.ne (b' := (w3.heap.size)) (j' := (k : Nat)) kb9 (by omega) (.int .i64 (4 + z1))) (And.intro (Bk.ne (b' := (w3.heap.size)) (j' := (k : Nat)) kb8 (by omega) (.int .i64 (4 + z1))) (And.intro (hR.keep (C1 (w3.heap.size) ((k : Nat)) (.int .i64 (4 + z1))) (by omega) (fun _ _ => by omega)) (hC.setNew (w3.heap.size) ((k : Nat)) (.int .i64 (4 + z1)) (Or.inr (by omega)))))))
     have HSZ := Lib.hid (show wl.heap.size ≤ w5.heap.size by omega)
     clear hR hC
     go_wp2
     go_roundw
     case rel => exact ⟨k + 1, pk + 1, by go_num, by omega, HRI.out, HHB.out.1, HHB.out.2.1, HHB.out.2.2.1, HHB.out.2.2.2.1, by omega, HHB.out.2.2.2.2, by have := HSZ.out; simp only [Ss]; omega⟩
     case measure => simp [intOf]; omega
    ·skip
     go_wp2_with fail
     refine (pick_any _ _ B g (pk) hR (by omega) (by omega) (by omega)).mono ?_
     rintro e w5 ⟨z1, z10, z11, rfl, hRn, hc⟩
     replace hC := (hC).trans hc
     replace hR := hRn; clear hRn
     replace ri := RowI.keep ri hc (fun h => by have := ird _ h; omega)
     have hsz41 := hc.size
     replace kb5 := Bk.keep kb5 hc (fun h => by have := ird _ h; omega)
     replace kb9 := Bk.keep kb9 hc (fun h => by have := ird _ h; omega)
     replace kb8 := Bk.keep kb8 hc (fun h => by have := ird _ h; omega)
     clear hc
     replace lt29 := Bk.lz kb5
     replace lt30 := Bk.lz kb9
     replace lt31 := Bk.lz kb8
     obtain ⟨yk, hyk, fyk⟩ := ri.at k (by omega)
     have HRI := Lib.hid (RowI.put ri ((k : Nat)) (((ka : Int) + 1 + z1))); have HHB := Lib.hid (And.intro (Bk.ne (b' := (w3.heap.size)) (j' := (k : Nat)) kb5 (by omega) (.int .i64 ((ka : Int) + 1 + z1))) (And.intro (Bk.ne (b' := (w3.heap.size)) (j' := (k : Nat)) kb9 (by omega) (.int .i64 ((ka : Int) + 1 + z1))) (And.intro (Bk.ne (b' := (w3.heap.size)) (j' := (k : Nat)) kb8 (by omega) (.int .i64 ((ka : Int) + 1 + z1))) (And.intro (hR.keep (C1 (w3.heap.size) ((k : Nat)) (.int .i64 ((ka : Int) + 1 + z1))) (by omega) (fun _ _ => by omega)) (hC.setNew (w3.heap.size) ((k : Nat)) (.int .i64 ((ka : Int) + 1 + z1)) (Or.inr (by omega)))))))
     have HSZ := Lib.hid (show wl.heap.size ≤ w5.heap.size by omega)
     clear hR hC
     go_wp2
     go_roundw
     case rel => exact ⟨k + 1, pk + 1, by go_num, by omega, HRI.out, HHB.out.1, HHB.out.2.1, HHB.out.2.2.1, HHB.out.2.2.2.1, by omega, HHB.out.2.2.2.2, by have := HSZ.out; simp only [Ss]; omega⟩
     case measure => simp [intOf]; omega
   ·have hke : k = S.size := by omega
    have hk2 : ¬ (k : Int) < (S.size : Int) := by omega
    have hkd : decide (k < S.size) = false := decide_eq_false hlt
    obtain ⟨y0, hy0, fy0⟩ := ri.at 0 (by omega)
    obtain ⟨y1, hy1, fy1⟩ := ri.at 1 (by omega)
    obtain ⟨y2, hy2, fy2⟩ := ri.at 2 (by omega)
    obtain ⟨y3, hy3, fy3⟩ := ri.at 3 (by omega)
    clear ri fy0 fy1 fy2 fy3
    go_upto_region 21 with (fail)
    replace lt29 := Bk.lz kb5
    replace lt30 := Bk.lz kb9
    replace lt31 := Bk.lz kb8
    have lt42 := Lc hy0
    have hstl : True := trivial
    obtain ⟨tc43, tf44⟩ := Bk.cf kb9 0 rfl
    refine wp_region_still_tail 14 (by kernel_rfl) (by kernel_rfl) ?_
    simp only [List.take_succ_cons, List.take_zero, List.drop_succ_cons, List.drop_zero]
    repeat still_step
    refine wpStill_nil ?_
    change wpList _ _ _ _ _ (World.drew wl)
    obtain ⟨w5, hwd⟩ : ∃ X, X = World.drew wl := ⟨_, rfl⟩
    rw [← hwd]
    have hb : Below wl.heap.size wl w5 := by rw [hwd]; exact Below.drew (Bs _)
    clear hwd hstl
    replace hC := (hC).trans (Chg.of_below hb)
    replace hR := hR.below hb
    have hsz45 := hb.size
    clear tf44 tc43
    replace hy0 := Kc hb hy0
    replace hy1 := Kc hb hy1
    replace hy2 := Kc hb hy2
    replace hy3 := Kc hb hy3
    replace kb5 := Bk.below kb5 hb
    replace kb9 := Bk.below kb9 hb
    replace kb8 := Bk.below kb8 hb
    clear hb
    replace lt29 := Bk.lz kb5
    replace lt30 := Bk.lz kb9
    replace lt31 := Bk.lz kb8
    replace lt42 := Lc hy0
    obtain ⟨tc46, tf47⟩ := Bk.cf kb8 0 rfl
    obtain ⟨tc48, tf49⟩ := Bk.cf kb8 1 rfl
    obtain ⟨tc50, tf51⟩ := Bk.cf kb8 2 rfl
    obtain ⟨tc52, tf53⟩ := Bk.cf kb8 3 rfl
    obtain ⟨tc54, tf55⟩ := Bk.cf kb8 4 rfl
    have HCF := ((((((Chg.refl (fun q => q = w.heap.size + 1) w5).setCell (w.heap.size + 1) 0 (.int .i64 2) (fun _ => rfl)).setCell (w.heap.size + 1) 1 (.int .i64 y0) (fun _ => rfl)).setCell (w.heap.size + 1) 2 (.int .i64 y1) (fun _ => rfl)).setCell (w.heap.size + 1) 3 (.int .i64 y2) (fun _ => rfl)).setCell (w.heap.size + 1) 4 (.int .i64 y3) (fun _ => rfl))
    have hBf := (Bk.at (Bk.at (Bk.at (Bk.at (Bk.at kb8 0 (.int .i64 2)) 1 (.int .i64 y0)) 2 (.int .i64 y1)) 3 (.int .i64 y2)) 4 (.int .i64 y3))
    have xr0 := Bk.cell hBf 0 (v := .int .i64 2) rfl
    have xr1 := Bk.cell hBf 1 (v := .int .i64 y0) rfl
    have xr2 := Bk.cell hBf 2 (v := .int .i64 y1) rfl
    have xr3 := Bk.cell hBf 3 (v := .int .i64 y2) rfl
    have xr4 := Bk.cell hBf 4 (v := .int .i64 y3) rfl
    have HCH := Lib.hid HCF; clear HCF hBf
    have HCR := Lib.hid (And.intro hC hR); clear hC hR
    go_wp2
    exact bodyPost_ret (v := .agg #[.int .i64 2, .int .i64 y0, .int .i64 y1, .int .i64 y2, .int .i64 y3]) (by simp [results, Try.results145, go_sem, xr0, xr1, xr2, xr3, xr4]) rfl (by exact ⟨⟨_, _, _, _, _, rfl⟩, pk, HCR.out.2.keep HCH.out (fun h => by omega) (fun k hk h => by omega), by omega, chg_app HCR.out.1 HCH.out (fun q hq h => by omega)⟩)
 | false =>
  have hna4 := htb rfl; clear htb
  obtain ⟨tc56, tf57⟩ := Bk.cf bk3 1 rfl
  obtain ⟨tc58, tf59⟩ := Bk.cf bk9 0 rfl
  obtain ⟨tc60, tf61⟩ := Bk.cf bk9 1 rfl
  obtain ⟨tc62, tf63⟩ := Bk.cf bk9 2 rfl
  obtain ⟨tc64, tf65⟩ := Bk.cf bk9 3 rfl
  obtain ⟨tc66, tf67⟩ := Bk.cf bk9 4 rfl
  go_wp2_with fail
  refine (l6Fields_any (op) _ (by omega)).mono ?_
  rintro e w3 ⟨rfl, hb⟩
  replace hC := (hC).trans (Chg.of_below hb)
  replace hR := hR.below hb
  have hsz68 := hb.size
  clear tf57 tc56 tf59 tc58 tf61 tc60 tf63 tc62 tf65 tc64 tf67 tc66
  replace bk3 := Bk.below bk3 hb
  replace bk4 := Bk.below bk4 hb
  replace bk9 := Bk.below bk9 hb
  clear hb
  obtain ⟨S, hS⟩ : ∃ S : ByteArray, S = ⟨(knd (op)).toArray⟩ := ⟨_, rfl⟩
  rw [← hS]
  have HZ : Hid (S.size = (knd (op)).length) := Lib.hid (by rw [hS]; simp [ByteArray.size])
  have HG : Hid (∀ (k : Nat) (h : k < (knd (op)).length) (h' : k < S.size), S[k]'h' = (knd (op))[k]) := Lib.hid (by subst hS; exact str_get _)
  have HK : Hid (S.size ≤ 4) := Lib.hid (by rw [HZ.out]; exact knd_len (by omega))
  have HL : Hid (∀ (k : Nat) (h : k < S.size), (S[k]'h = 114 ∨ S[k]'h = 99 ∨ S[k]'h = 118 ∨ S[k]'h = 97 ∨ S[k]'h = 111 ∨ S[k]'h = 116) ∧ (S[k]'h = 97 → 1 ≤ na)) := Lib.hid (fun k h => by have h1 : k < (knd (op)).length := (by rw [← HZ.out]; exact h); rw [HG.out k h1 h]; have h2 := knd_let (op := op) (by omega) k h1; exact ⟨h2.1, fun e => by have := h2.2 e; omega⟩)
  clear hS HG HZ
  replace lt6 := Bk.lz bk3
  replace lt7 := Bk.lz bk4
  replace lt10 := Bk.lz bk9
  go_upto_region 6 with (fail)
  obtain ⟨w4, hnw, hb⟩ := nmw (World.alloc w3 (.cells #[.int .i64 0, .int .i64 0, .int .i64 0, .int .i64 0] 3))
  replace hC := ((hC.trans (Chg.of_below (bal (Bs _) _)))).trans (Chg.of_below hb)
  replace hR := (hR.below (bal (Bs _) _)).below hb
  have ol69 := Ob (World.ownsRow_lit (base := (w3).heap.size) (e := 3) (size := 1) (w3) #[.int .i64 0, .int .i64 0, .int .i64 0, .int .i64 0] 4 (Nat.le_refl _) (by unfold maxLen; omega) (by simp)) hb
  try simp only [Sa, Ss] at ol69
  have hsz70 := hb.size
  simp only [Sa] at hsz70
  replace bk3 := Bk.below (Bk.al bk3 _) hb
  replace bk4 := Bk.below (Bk.al bk4 _) hb
  replace bk9 := Bk.below (Bk.al bk9 _) hb
  have bk71 : Bk w4 (w3.heap.size) [.int .i64 0, .int .i64 0, .int .i64 0, .int .i64 0] := Bk.below (Bk.nw (by simp) rfl) hb
  clear hb
  have iv72 := ol69.lt
  try simp only [Sa] at iv72
  rw [← hnw]
  clear hnw
  replace lt6 := Bk.lz bk3
  replace lt7 := Bk.lz bk4
  replace lt10 := Bk.lz bk9
  have lt73 := Bk.lz bk71
  clear ol69
  have ri := RowI.of (xs := [0, 0, 0, 0]) (n := 4) bk71 rfl
  clear bk71
  have HI0 : Hid (∃ (k pk : Nat), Value.int .i64 0 = .int .i64 k ∧ k ≤ S.size ∧ RowI w4 (w3.heap.size) 4 ∧ Bk w4 (w.heap.size) [.slice pv nv cv, .slice pa na ca, .slice pl nl cl] ∧ Bk w4 (w1.heap.size) [.int .i64 op, .int .i64 0, .int .i64 0, .int .i64 0, .int .i64 0] ∧ Bk w4 (w.heap.size + 1) [.int .i64 0, .int .i64 0, .int .i64 0, .int .i64 0, .int .i64 0] ∧ Rnd w4 B g pk ∧ pk ≤ p + 1 + k ∧ Chg (fun q => q = g) w w4 ∧ w4.heap.size ≤ w4.heap.size) := Lib.hid ⟨0, p + 1, rfl, Nat.zero_le _, ri, bk3, bk9, bk4, hR, by omega, hC, Nat.le_refl _⟩
  have hszb : w.heap.size + 4 ≤ w4.heap.size := by omega
  clear hR hC ri bk3 bk4 bk9 lt6 lt7 lt10 lt73
  go_wp2_with fail
  go_loopw [12] (fun i wr => ∃ (k pk : Nat), i = .int .i64 k ∧ k ≤ S.size ∧ RowI wr (w3.heap.size) 4 ∧ Bk wr (w.heap.size) [.slice pv nv cv, .slice pa na ca, .slice pl nl cl] ∧ Bk wr (w1.heap.size) [.int .i64 op, .int .i64 0, .int .i64 0, .int .i64 0, .int .i64 0] ∧ Bk wr (w.heap.size + 1) [.int .i64 0, .int .i64 0, .int .i64 0, .int .i64 0, .int .i64 0] ∧ Rnd wr B g pk ∧ pk ≤ p + 1 + k ∧ Chg (fun q => q = g) w wr ∧ w4.heap.size ≤ wr.heap.size) (fun i _ => S.size - (intOf i).toNat)
  case atStart => exact HI0.out
  case round =>
   obtain ⟨k, pk, rfl, hk, ri, kb5, kb9, kb8, hR, hpk, hC, hzr⟩ := hrel
   clear HI0
   obtain ⟨wl, rfl⟩ : ∃ X, X = wr := ⟨_, rfl⟩
   have hK4 := HK.out
   have lt74 := Bk.lz kb5
   have lt75 := Bk.lz kb9
   have lt76 := Bk.lz kb8
   by_cases hlt : k < S.size
   ·have hk2 : (k : Int) < (S.size : Int) := by omega
    have hk5 : ¬ ((S.size : Int) ≤ (k : Int)) := by omega
    have hk6 : ¬ (S.size ≤ k) := by omega
    have hk4 : decide (S.size ≤ k) = false := decide_eq_false hk6
    obtain ⟨hL1, hL2⟩ := HL.out k hlt
    have HA := Lib.hid hL2; clear hL2 HL
    generalize hzz : S[k] = z at *
    rcases hL1 with rfl | rfl | rfl | rfl | rfl | rfl
    ·skip
     go_wp2_with fail
     refine (pick_any _ _ B g (pk) hR (by omega) (by omega) (by omega)).mono ?_
     rintro e w5 ⟨z1, z10, z11, rfl, hRn, hc⟩
     replace hC := (hC).trans hc
     replace hR := hRn; clear hRn
     replace ri := RowI.keep ri hc (fun h => by have := ird _ h; omega)
     have hsz77 := hc.size
     replace kb5 := Bk.keep kb5 hc (fun h => by have := ird _ h; omega)
     replace kb9 := Bk.keep kb9 hc (fun h => by have := ird _ h; omega)
     replace kb8 := Bk.keep kb8 hc (fun h => by have := ird _ h; omega)
     clear hc
     replace lt74 := Bk.lz kb5
     replace lt75 := Bk.lz kb9
     replace lt76 := Bk.lz kb8
     obtain ⟨yk, hyk, fyk⟩ := ri.at k (by omega)
     have HRI := Lib.hid (RowI.put ri ((k : Nat)) (z1)); have HHB := Lib.hid (And.intro (Bk.ne (b' := (w3.heap.size)) (j' := (k : Nat)) kb5 (by omega) (.int .i64 z1)) (And.intro (Bk.ne (b' := (w3.heap.size)) (j' := (k : Nat)) kb9 (by omega) (.int .i64 z1)) (And.intro (Bk.ne (b' := (w3.heap.size)) (j' := (k : Nat)) kb8 (by omega) (.int .i64 z1)) (And.intro (hR.keep (C1 (w3.heap.size) ((k : Nat)) (.int .i64 z1)) (by omega) (fun _ _ => by omega)) (hC.setNew (w3.heap.size) ((k : Nat)) (.int .i64 z1) (Or.inr (by omega)))))))
     have HSZ := Lib.hid (show wl.heap.size ≤ w5.heap.size by omega)
     clear hR hC
     go_wp2
     go_roundw
     case rel => exact ⟨k + 1, pk + 1, by go_num, by omega, HRI.out, HHB.out.1, HHB.out.2.1, HHB.out.2.2.1, HHB.out.2.2.2.1, by omega, HHB.out.2.2.2.2, by have := HSZ.out; simp only [Ss]; omega⟩
     case measure => simp [intOf]; omega
    ·skip
     go_wp2_with fail
     refine (l3Value_any B g (pk) _ hR (by omega)).mono ?_
     rintro e w5 ⟨z1, rfl, hz1, hRn, hc⟩
     replace hC := (hC).trans hc
     replace hR := hRn; clear hRn
     replace ri := RowI.keep ri hc (fun h => by have := ird _ h; omega)
     have hsz78 := hc.size
     replace kb5 := Bk.keep kb5 hc (fun h => by have := ird _ h; omega)
     replace kb9 := Bk.keep kb9 hc (fun h => by have := ird _ h; omega)
     replace kb8 := Bk.keep kb8 hc (fun h => by have := ird _ h; omega)
     clear hc
     replace lt74 := Bk.lz kb5
     replace lt75 := Bk.lz kb9
     replace lt76 := Bk.lz kb8
     obtain ⟨yk, hyk, fyk⟩ := ri.at k (by omega)
     have HRI := Lib.hid (RowI.put ri ((k : Nat)) (z1)); have HHB := Lib.hid (And.intro (Bk.ne (b' := (w3.heap.size)) (j' := (k : Nat)) kb5 (by omega) (.int .i64 z1)) (And.intro (Bk.ne (b' := (w3.heap.size)) (j' := (k : Nat)) kb9 (by omega) (.int .i64 z1)) (And.intro (Bk.ne (b' := (w3.heap.size)) (j' := (k : Nat)) kb8 (by omega) (.int .i64 z1)) (And.intro (hR.keep (C1 (w3.heap.size) ((k : Nat)) (.int .i64 z1)) (by omega) (fun _ _ => by omega)) (hC.setNew (w3.heap.size) ((k : Nat)) (.int .i64 z1) (Or.inr (by omega)))))))
     have HSZ := Lib.hid (show wl.heap.size ≤ w5.heap.size by omega)
     clear hR hC
     go_wp2
     go_roundw
     case rel => exact ⟨k + 1, pk + 1, by go_num, by omega, HRI.out, HHB.out.1, HHB.out.2.1, HHB.out.2.2.1, HHB.out.2.2.2.1, by omega, HHB.out.2.2.2.2, by have := HSZ.out; simp only [Ss]; omega⟩
     case measure => simp [intOf]; omega
    ·skip
     obtain ⟨tc79, tf80⟩ := Bk.cf kb5 0 rfl
     go_wp2_with fail
     refine (pick_any _ _ B g (pk) hR (by omega) (by omega) (by omega)).mono ?_
     rintro e w5 ⟨z1, z10, z11, rfl, hRn, hc⟩
     replace hC := (hC).trans hc
     replace hR := hRn; clear hRn
     replace ri := RowI.keep ri hc (fun h => by have := ird _ h; omega)
     have hsz81 := hc.size
     clear tf80 tc79
     replace kb5 := Bk.keep kb5 hc (fun h => by have := ird _ h; omega)
     replace kb9 := Bk.keep kb9 hc (fun h => by have := ird _ h; omega)
     replace kb8 := Bk.keep kb8 hc (fun h => by have := ird _ h; omega)
     clear hc
     replace lt74 := Bk.lz kb5
     replace lt75 := Bk.lz kb9
     replace lt76 := Bk.lz kb8
     obtain ⟨yk, hyk, fyk⟩ := ri.at k (by omega)
     have HRI := Lib.hid (RowI.put ri ((k : Nat)) (z1)); have HHB := Lib.hid (And.intro (Bk.ne (b' := (w3.heap.size)) (j' := (k : Nat)) kb5 (by omega) (.int .i64 z1)) (And.intro (Bk.ne (b' := (w3.heap.size)) (j' := (k : Nat)) kb9 (by omega) (.int .i64 z1)) (And.intro (Bk.ne (b' := (w3.heap.size)) (j' := (k : Nat)) kb8 (by omega) (.int .i64 z1)) (And.intro (hR.keep (C1 (w3.heap.size) ((k : Nat)) (.int .i64 z1)) (by omega) (fun _ _ => by omega)) (hC.setNew (w3.heap.size) ((k : Nat)) (.int .i64 z1) (Or.inr (by omega)))))))
     have HSZ := Lib.hid (show wl.heap.size ≤ w5.heap.size by omega)
     clear hR hC
     go_wp2
     go_roundw
     case rel => exact ⟨k + 1, pk + 1, by go_num, by omega, HRI.out, HHB.out.1, HHB.out.2.1, HHB.out.2.2.1, HHB.out.2.2.2.1, by omega, HHB.out.2.2.2.2, by have := HSZ.out; simp only [Ss]; omega⟩
     case measure => simp [intOf]; omega
    ·skip
     have ha1 : 1 ≤ na := HA.out rfl
     obtain ⟨tc82, tf83⟩ := Bk.cf kb5 1 rfl
     go_wp2_with fail
     refine (pick_any _ _ B g (pk) hR (by omega) (by omega) (by omega)).mono ?_
     rintro e w5 ⟨z1, z10, z11, rfl, hRn, hc⟩
     replace hC := (hC).trans hc
     replace hR := hRn; clear hRn
     replace ri := RowI.keep ri hc (fun h => by have := ird _ h; omega)
     have hsz84 := hc.size
     clear tf83 tc82
     replace kb5 := Bk.keep kb5 hc (fun h => by have := ird _ h; omega)
     replace kb9 := Bk.keep kb9 hc (fun h => by have := ird _ h; omega)
     replace kb8 := Bk.keep kb8 hc (fun h => by have := ird _ h; omega)
     clear hc
     replace lt74 := Bk.lz kb5
     replace lt75 := Bk.lz kb9
     replace lt76 := Bk.lz kb8
     obtain ⟨yk, hyk, fyk⟩ := ri.at k (by omega)
     have HRI := Lib.hid (RowI.put ri ((k : Nat)) (z1)); have HHB := Lib.hid (And.intro (Bk.ne (b' := (w3.heap.size)) (j' := (k : Nat)) kb5 (by omega) (.int .i64 z1)) (And.intro (Bk.ne (b' := (w3.heap.size)) (j' := (k : Nat)) kb9 (by omega) (.int .i64 z1)) (And.intro (Bk.ne (b' := (w3.heap.size)) (j' := (k : Nat)) kb8 (by omega) (.int .i64 z1)) (And.intro (hR.keep (C1 (w3.heap.size) ((k : Nat)) (.int .i64 z1)) (by omega) (fun _ _ => by omega)) (hC.setNew (w3.heap.size) ((k : Nat)) (.int .i64 z1) (Or.inr (by omega)))))))
     have HSZ := Lib.hid (show wl.heap.size ≤ w5.heap.size by omega)
     clear hR hC
     go_wp2
     go_roundw
     case rel => exact ⟨k + 1, pk + 1, by go_num, by omega, HRI.out, HHB.out.1, HHB.out.2.1, HHB.out.2.2.1, HHB.out.2.2.2.1, by omega, HHB.out.2.2.2.2, by have := HSZ.out; simp only [Ss]; omega⟩
     case measure => simp [intOf]; omega
    ·skip
     go_wp2_with fail
     refine (pick_any _ _ B g (pk) hR (by omega) (by omega) (by omega)).mono ?_
     rintro e w5 ⟨z1, z10, z11, rfl, hRn, hc⟩
     replace hC := (hC).trans hc
     replace hR := hRn; clear hRn
     replace ri := RowI.keep ri hc (fun h => by have := ird _ h; omega)
     have hsz85 := hc.size
     replace kb5 := Bk.keep kb5 hc (fun h => by have := ird _ h; omega)
     replace kb9 := Bk.keep kb9 hc (fun h => by have := ird _ h; omega)
     replace kb8 := Bk.keep kb8 hc (fun h => by have := ird _ h; omega)
     clear hc
     replace lt74 := Bk.lz kb5
     replace lt75 := Bk.lz kb9
     replace lt76 := Bk.lz kb8
     obtain ⟨yk, hyk, fyk⟩ := ri.at k (by omega)
     have HRI := Lib.hid (RowI.put ri ((k : Nat)) ((4 + z1))); have HHB := Lib.hid (And.intro (Bk.ne (b' := (w3.heap.size)) (j' := (k : Nat)) kb5 (by omega) (.int .i64 (4 + z1))) (And.intro (Bk.ne (b' := (w3.heap.size)) (j' := (k : Nat)) kb9 (by omega) (.int .i64 (4 + z1))) (And.intro (Bk.ne (b' := (w3.heap.size)) (j' := (k : Nat)) kb8 (by omega) (.int .i64 (4 + z1))) (And.intro (hR.keep (C1 (w3.heap.size) ((k : Nat)) (.int .i64 (4 + z1))) (by omega) (fun _ _ => by omega)) (hC.setNew (w3.heap.size) ((k : Nat)) (.int .i64 (4 + z1)) (Or.inr (by omega)))))))
     have HSZ := Lib.hid (show wl.heap.size ≤ w5.heap.size by omega)
     clear hR hC
     go_wp2
     go_roundw
     case rel => exact ⟨k + 1, pk + 1, by go_num, by omega, HRI.out, HHB.out.1, HHB.out.2.1, HHB.out.2.2.1, HHB.out.2.2.2.1, by omega, HHB.out.2.2.2.2, by have := HSZ.out; simp only [Ss]; omega⟩
     case measure => simp [intOf]; omega
    ·skip
     go_wp2_with fail
     refine (pick_any _ _ B g (pk) hR (by omega) (by omega) (by omega)).mono ?_
     rintro e w5 ⟨z1, z10, z11, rfl, hRn, hc⟩
     replace hC := (hC).trans hc
     replace hR := hRn; clear hRn
     replace ri := RowI.keep ri hc (fun h => by have := ird _ h; omega)
     have hsz86 := hc.size
     replace kb5 := Bk.keep kb5 hc (fun h => by have := ird _ h; omega)
     replace kb9 := Bk.keep kb9 hc (fun h => by have := ird _ h; omega)
     replace kb8 := Bk.keep kb8 hc (fun h => by have := ird _ h; omega)
     clear hc
     replace lt74 := Bk.lz kb5
     replace lt75 := Bk.lz kb9
     replace lt76 := Bk.lz kb8
     obtain ⟨yk, hyk, fyk⟩ := ri.at k (by omega)
     have HRI := Lib.hid (RowI.put ri ((k : Nat)) (((ka : Int) + 1 + z1))); have HHB := Lib.hid (And.intro (Bk.ne (b' := (w3.heap.size)) (j' := (k : Nat)) kb5 (by omega) (.int .i64 ((ka : Int) + 1 + z1))) (And.intro (Bk.ne (b' := (w3.heap.size)) (j' := (k : Nat)) kb9 (by omega) (.int .i64 ((ka : Int) + 1 + z1))) (And.intro (Bk.ne (b' := (w3.heap.size)) (j' := (k : Nat)) kb8 (by omega) (.int .i64 ((ka : Int) + 1 + z1))) (And.intro (hR.keep (C1 (w3.heap.size) ((k : Nat)) (.int .i64 ((ka : Int) + 1 + z1))) (by omega) (fun _ _ => by omega)) (hC.setNew (w3.heap.size) ((k : Nat)) (.int .i64 ((ka : Int) + 1 + z1)) (Or.inr (by omega)))))))
     have HSZ := Lib.hid (show wl.heap.size ≤ w5.heap.size by omega)
     clear hR hC
     go_wp2
     go_roundw
     case rel => exact ⟨k + 1, pk + 1, by go_num, by omega, HRI.out, HHB.out.1, HHB.out.2.1, HHB.out.2.2.1, HHB.out.2.2.2.1, by omega, HHB.out.2.2.2.2, by have := HSZ.out; simp only [Ss]; omega⟩
     case measure => simp [intOf]; omega
   ·have hke : k = S.size := by omega
    have hk2 : ¬ (k : Int) < (S.size : Int) := by omega
    have hkd : decide (k < S.size) = false := decide_eq_false hlt
    obtain ⟨y0, hy0, fy0⟩ := ri.at 0 (by omega)
    obtain ⟨y1, hy1, fy1⟩ := ri.at 1 (by omega)
    obtain ⟨y2, hy2, fy2⟩ := ri.at 2 (by omega)
    obtain ⟨y3, hy3, fy3⟩ := ri.at 3 (by omega)
    clear ri fy0 fy1 fy2 fy3
    go_upto_region 21 with (fail)
    replace lt74 := Bk.lz kb5
    replace lt75 := Bk.lz kb9
    replace lt76 := Bk.lz kb8
    have lt87 := Lc hy0
    have hstl : True := trivial
    obtain ⟨tc88, tf89⟩ := Bk.cf kb9 0 rfl
    refine wp_region_still_tail 14 (by kernel_rfl) (by kernel_rfl) ?_
    simp only [List.take_succ_cons, List.take_zero, List.drop_succ_cons, List.drop_zero]
    repeat still_step
    refine wpStill_nil ?_
    change wpList _ _ _ _ _ (World.drew wl)
    obtain ⟨w5, hwd⟩ : ∃ X, X = World.drew wl := ⟨_, rfl⟩
    rw [← hwd]
    have hb : Below wl.heap.size wl w5 := by rw [hwd]; exact Below.drew (Bs _)
    clear hwd hstl
    replace hC := (hC).trans (Chg.of_below hb)
    replace hR := hR.below hb
    have hsz90 := hb.size
    clear tf89 tc88
    replace hy0 := Kc hb hy0
    replace hy1 := Kc hb hy1
    replace hy2 := Kc hb hy2
    replace hy3 := Kc hb hy3
    replace kb5 := Bk.below kb5 hb
    replace kb9 := Bk.below kb9 hb
    replace kb8 := Bk.below kb8 hb
    clear hb
    replace lt74 := Bk.lz kb5
    replace lt75 := Bk.lz kb9
    replace lt76 := Bk.lz kb8
    replace lt87 := Lc hy0
    obtain ⟨tc91, tf92⟩ := Bk.cf kb8 0 rfl
    obtain ⟨tc93, tf94⟩ := Bk.cf kb8 1 rfl
    obtain ⟨tc95, tf96⟩ := Bk.cf kb8 2 rfl
    obtain ⟨tc97, tf98⟩ := Bk.cf kb8 3 rfl
    obtain ⟨tc99, tf100⟩ := Bk.cf kb8 4 rfl
    have HCF := ((((((Chg.refl (fun q => q = w.heap.size + 1) w5).setCell (w.heap.size + 1) 0 (.int .i64 op) (fun _ => rfl)).setCell (w.heap.size + 1) 1 (.int .i64 y0) (fun _ => rfl)).setCell (w.heap.size + 1) 2 (.int .i64 y1) (fun _ => rfl)).setCell (w.heap.size + 1) 3 (.int .i64 y2) (fun _ => rfl)).setCell (w.heap.size + 1) 4 (.int .i64 y3) (fun _ => rfl))
    have hBf := (Bk.at (Bk.at (Bk.at (Bk.at (Bk.at kb8 0 (.int .i64 op)) 1 (.int .i64 y0)) 2 (.int .i64 y1)) 3 (.int .i64 y2)) 4 (.int .i64 y3))
    have xr0 := Bk.cell hBf 0 (v := .int .i64 op) rfl
    have xr1 := Bk.cell hBf 1 (v := .int .i64 y0) rfl
    have xr2 := Bk.cell hBf 2 (v := .int .i64 y1) rfl
    have xr3 := Bk.cell hBf 3 (v := .int .i64 y2) rfl
    have xr4 := Bk.cell hBf 4 (v := .int .i64 y3) rfl
    have HCH := Lib.hid HCF; clear HCF hBf
    have HCR := Lib.hid (And.intro hC hR); clear hC hR
    go_wp2
    exact bodyPost_ret (v := .agg #[.int .i64 op, .int .i64 y0, .int .i64 y1, .int .i64 y2, .int .i64 y3]) (by simp [results, Try.results145, go_sem, xr0, xr1, xr2, xr3, xr4]) rfl (by exact ⟨⟨_, _, _, _, _, rfl⟩, pk, HCR.out.2.keep HCH.out (fun h => by omega) (fun k hk h => by omega), by omega, chg_app HCR.out.1 HCH.out (fun q hq h => by omega)⟩)
end Go.Proofs.Ytkjedgnepnbkpaa
