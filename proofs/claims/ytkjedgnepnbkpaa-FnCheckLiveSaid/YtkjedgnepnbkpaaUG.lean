/-
 Parts of the proofs of the laws FnCheckLive, FnFinalRegs, FnLiveRegister, FnLiveRegs.
-/
import Derived.Test.YtkjedgnepnbkpaaUI
set_option linter.all false
namespace Go.Proofs.Ytkjedgnepnbkpaa
open Go.RowKit

theorem leq_bit {A M : List Bool} (h : leq A M) {r : Nat} (hr : r < 14) (h1 : r < A.length) (h2 : r < M.length) (ha : A[r] = true) : M[r] = true := by
 have := h r hr
 rw [List.getD_eq_getElem?_getD, List.getD_eq_getElem?_getD, List.getElem?_eq_getElem h1, List.getElem?_eq_getElem h2] at this
 exact this ha


set_option maxHeartbeats 12800000 in
set_option maxRecDepth 100000 in
theorem FnCheckLive_walk (v : Value) (n : Nat) (vs : List Int) (w : World) (r0 : Reads w 1 v n (vs.map (Value.int .u8))) (hv : ∀ x ∈ vs, 0 ≤ x ∧ x < 256) :
  Calls Try.prog 7 #[v] w fun e w' => e = .returned (.bool true) ∧ Below w.heap.size w w' := by
 obtain ⟨va, vc, rfl⟩ := reads_shape r0
 by_cases hn : n ≤ 1048576
 case neg =>
  have hn2 : (1048576 : Int) < (n : Int) := by omega
  clear r0
  go_enter Try.func7, Try.ntmps7
  go_wp2
  go_ret
  exact ⟨rfl, Below.refl _ _⟩
 have hn2 : ¬ (1048576 : Int) < (n : Int) := by omega
 go_enter Try.func7, Try.ntmps7
 go_wp2_with fail
 refine (DrawCheckLive_any _ n vs _ (r0.below (Bs w)) hv hn).mono ?_
 rintro e w1 ⟨va9, vb9, vc9, u9, nv9, na9, nl9, L, rfl, hdc, hbd, hLv, hb⟩
 clear r0 hv
 obtain ⟨c, hrc⟩ := RdC.of hdc hbd.1 hbd.2.1 hbd.2.2
 clear hdc hbd
 obtain ⟨a0, c0, a1, c1, a2, c2, rfl, rfl, rfl⟩ := hrc.r.shape
 obtain ⟨p9, q9, rfl⟩ := hLv.1.shape
 have hb1 : c.vars.length ≤ 1000 ∧ c.arrays.length ≤ 1000 ∧ c.list.length ≤ 1000 := ⟨hrc.l0, hrc.l1, hrc.l2⟩
 have hLn := hLv.2.1
 have hsz1 := hb.size
 have tot := btr (Bs w) hb
 clear hb
 have tb2 := Bs w1
 have HC := Lib.hid (fun W (hW : Below w1.heap.size w1 W) => hrc.r.below hW)
 have HL := Lib.hid (fun W (hW : Below w1.heap.size w1 W) => hLv.1.below hW)
 clear hrc hLv
 obtain ⟨ck, hCK⟩ : ∃ b, checkR c L = b := ⟨_, rfl⟩
 have HCK := Lib.hid hCK; clear hCK
 go_wp2_with fail
 have hQ9 := iCheckLive_any _ _ _ _ c L _ (HC.out _ (bal tb2 (.cells #[.slice a0 c.vars.length c0, .slice a1 c.arrays.length c1, .slice a2 c.list.length c2] 26))) (HL.out _ (bal tb2 (.cells #[.slice a0 c.vars.length c0, .slice a1 c.arrays.length c1, .slice a2 c.list.length c2] 26)))
 rw [HCK.out] at hQ9
 refine (hQ9).mono ?_
 rintro e w2 ⟨rfl, hb⟩
 clear hQ9
 replace tb2 := btr (bal tb2 _) hb
 have hsz3 := hb.size
 simp only [Sa] at hsz3
 have bk4 : Bk w2 (w1.heap.size) [.slice a0 c.vars.length c0, .slice a1 c.arrays.length c1, .slice a2 c.list.length c2] := Bk.below (Bk.nw (by simp) rfl) hb
 replace tot := btr (bal tot _) hb
 clear hb
 have lt5 := Bk.lz bk4
 obtain ⟨tc6, tf7⟩ := Bk.cf bk4 0 rfl
 obtain ⟨tc8, tf9⟩ := Bk.cf bk4 1 rfl
 obtain ⟨tc10, tf11⟩ := Bk.cf bk4 2 rfl
 go_wp2_with fail
 have hQ9 := sCheckLive_any _ _ _ _ c L _ (HC.out _ tb2) (HL.out _ tb2)
 rw [HCK.out] at hQ9
 refine (hQ9).mono ?_
 rintro e w3 ⟨rfl, hb⟩
 clear hQ9
 replace tb2 := btr tb2 hb
 have hsz12 := hb.size
 clear tf7 tc6 tf9 tc8 tf11 tc10
 replace bk4 := Bk.below bk4 hb
 replace tot := btr tot hb
 clear hb
 replace lt5 := Bk.lz bk4
 cases ck with
 | false =>
  obtain ⟨tc13, tf14⟩ := Bk.cf bk4 0 rfl
  obtain ⟨tc15, tf16⟩ := Bk.cf bk4 1 rfl
  obtain ⟨tc17, tf18⟩ := Bk.cf bk4 2 rfl
  go_wp2_with fail
  have hQ9 := sCheckLive_any _ _ _ _ c L _ (HC.out _ tb2) (HL.out _ tb2)
  rw [HCK.out] at hQ9
  refine (hQ9).mono ?_
  rintro e w4 ⟨rfl, hb⟩
  clear hQ9
  replace tb2 := btr tb2 hb
  have hsz19 := hb.size
  clear tf14 tc13 tf16 tc15 tf18 tc17
  replace bk4 := Bk.below bk4 hb
  replace tot := btr tot hb
  clear hb
  replace lt5 := Bk.lz bk4
  have tt := tot
  go_wp2
  go_ret
  exact ⟨rfl, tt⟩
 | true =>
  obtain ⟨G, hG⟩ : ∃ G, liveR c = G := ⟨_, rfl⟩
  obtain ⟨_, hl1, hl2, hl3, hl4, hl5⟩ := law_check HCK.out
  rw [hG] at hl1 hl4 hl5
  have HG := Lib.hid hG; have HR3 := Lib.hid hl3; have HR4 := Lib.hid hl4; have HLE := Lib.hid hl5; have hgl : L.length ≤ G.length ∧ G.length ≤ L.length := by omega
  clear hG hl1 hl2 hl3 hl4 hl5
  obtain ⟨tc20, tf21⟩ := Bk.cf bk4 0 rfl
  obtain ⟨tc22, tf23⟩ := Bk.cf bk4 1 rfl
  obtain ⟨tc24, tf25⟩ := Bk.cf bk4 2 rfl
  go_wp2_with fail
  have hQ9 := iLiveRegs_any _ _ _ c _ (HC.out _ tb2)
  rw [HG.out] at hQ9
  refine (hQ9).mono ?_
  rintro e w4 ⟨u1, us1, rfl, o1, hb⟩
  obtain ⟨p1, q1, rfl⟩ := o1.shape
  clear hQ9
  replace tb2 := btr tb2 hb
  have hsz26 := hb.size
  clear tf21 tc20 tf23 tc22 tf25 tc24
  replace bk4 := Bk.below bk4 hb
  replace tot := btr tot hb
  clear hb
  have tb27 := Bs w4
  have HL1 := Lib.hid (fun W (hW : Below w4.heap.size w4 W) => (o1.reads (by omega) (fun k r hr => by obtain ⟨hk, rfl⟩ := List.getElem?_eq_some_iff.1 hr; have := HR4.out k hk; omega)).below hW)
  replace lt5 := Bk.lz bk4
  clear o1
  have HI1 : Hid (∃ k : Nat, Value.int .i64 0 = .int .i64 k ∧ k ≤ G.length ∧ Below w1.heap.size w1 w4 ∧ Below w4.heap.size w4 w4 ∧ Below w.heap.size w w4) := Lib.hid ⟨0, rfl, by omega, tb2, tb27, tot⟩
  go_wp2_with fail
  go_loopw [7] (fun i wr => ∃ k : Nat, i = .int .i64 k ∧ k ≤ G.length ∧ Below w1.heap.size w1 wr ∧ Below w4.heap.size w4 wr ∧ Below w.heap.size w wr) (fun i _ => G.length - (intOf i).toNat)
  case atStart => exact HI1.out
  case round =>
   clear HI1 tot tb2 bk4 tb27 lt5
   obtain ⟨k, rfl, hk, tb2, tb27, tot⟩ := hrel
   obtain ⟨wl, rfl⟩ : ∃ X, X = wr := ⟨_, rfl⟩
   by_cases hlt : k < G.length
   ·have hq : (k : Int) < (G.length : Int) := by omega
    have hq2 : (k : Int) < (L.length : Int) := by omega
    have hkL : k < L.length := by omega
    have hG14 : 14 ≤ G[k].length ∧ G[k].length ≤ 14 := by have := HR4.out k hlt; omega
    have hL14 : 14 ≤ L[k].length ∧ L[k].length ≤ 14 := by have := HR3.out k hkL; omega
    have hle : leq G[k] L[k] := by have := HLE.out k; rw [List.getElem?_eq_getElem hlt, List.getElem?_eq_getElem hkL] at this; exact this
    have HLE2 := Lib.hid hle; clear hle
    obtain ⟨b1, f1, u1, rfl, hbl1, e1, r1⟩ := ((HL1.out _ tb27)).at k hlt
    obtain ⟨b2, f2, u2, rfl, hbl2, e2, r2⟩ := ((HL.out _ tb2)).at k hkL
    obtain ⟨hm1, hn1, aa1, cap1, b3, f3, rfl, hcap1, ha1, hca1⟩ := r1
    obtain ⟨rfl, hbl3⟩ := ha1 (by omega)
    obtain ⟨hm2, hn2, aa2, cap2, b4, f4, rfl, hcap2, ha2, hca2⟩ := r2
    obtain ⟨rfl, hbl4⟩ := ha2 (by omega)
    have HB1 : Hid (∀ r (h : r < G[k].length), wl.cell? ⟨b3, f3 + r, none⟩ = some (.bool G[k][r])) := Lib.hid (fun r h => by have := hca1 r (by rw [bools_length]; exact h); rw [bools_get] at this; exact this)
    have HB2 : Hid (∀ r (h : r < L[k].length), wl.cell? ⟨b4, f4 + r, none⟩ = some (.bool L[k][r])) := Lib.hid (fun r h => by have := hca2 r (by rw [bools_length]; exact h); rw [bools_get] at this; exact this)
    clear ha1 hca1 ha2 hca2 hcap1 hcap2 hn1 hn2 hm1 hm2
    have tbl := Bs wl
    have HI2 : Hid (∃ r : Nat, Value.int .i64 0 = .int .i64 r ∧ r ≤ 14 ∧ Below w1.heap.size w1 wl ∧ Below w4.heap.size w4 wl ∧ Below w.heap.size w wl ∧ Below wl.heap.size wl wl) := Lib.hid ⟨0, rfl, by omega, tb2, tb27, tot, tbl⟩
    go_wp2_with fail
    go_loopw [8] (fun i wr => ∃ r : Nat, i = .int .i64 r ∧ r ≤ 14 ∧ Below w1.heap.size w1 wr ∧ Below w4.heap.size w4 wr ∧ Below w.heap.size w wr ∧ Below wl.heap.size wl wr) (fun i _ => 14 - (intOf i).toNat)
    case atStart => exact HI2.out
    case round =>
     clear HI2 tb2 tb27 tot tbl
     obtain ⟨r, rfl, hr, tb2, tb27, tot, tbl⟩ := hrel
     obtain ⟨wm, rfl⟩ : ∃ X, X = wr := ⟨_, rfl⟩
     by_cases hrt : r < 14
     ·have hq3 : (r : Int) < 14 := by omega
      replace e1 := Kc tbl e1; replace e2 := Kc tbl e2
      have c1 := Kc tbl (HB1.out r (by omega)); have c2 := Kc tbl (HB2.out r (by omega))
      have hq4 : (r : Int) < (G[k].length : Int) := by omega
      have hq5 : (r : Int) < (L[k].length : Int) := by omega
      have hLB : Hid ((G[k][r]'(by omega)) = true → (L[k][r]'(by omega)) = true) := Lib.hid (fun h => leq_bit HLE2.out hrt (by omega) (by omega) h)
      have HTT := Lib.hid (And.intro tb2 (And.intro tb27 (And.intro tot tbl)))
      clear HB1 HB2 HLE2 HLE HR3 HR4
      cases hx : G[k][r] with
      | false =>
       rw [hx] at c1
       clear hLB hx
       go_wp2
       go_roundw
       case rel => exact ⟨r + 1, by go_num, by omega, HTT.out⟩
       case measure => simp [intOf]; omega
      | true =>
       rw [hx] at c1
       rw [hLB.out hx] at c2
       clear hLB hx
       go_wp2
       go_roundw
       case rel => exact ⟨r + 1, by go_num, by omega, HTT.out⟩
       case measure => simp [intOf]; omega
     ·have hq3 : decide ((r : Int) < 14) = false := decide_eq_false (by omega)
      have hq4 : ¬ (r : Int) < 14 := by omega
      have HTT := Lib.hid (And.intro tb2 (And.intro tb27 tot))
      clear HB1 HB2 HLE2 HLE HR3 HR4 e1 e2
      go_wp2
      go_roundw
      case rel => exact ⟨k + 1, by go_num, by omega, HTT.out⟩
      case measure => simp [intOf]; omega
   ·have hq : decide ((k : Int) < (G.length : Int)) = false := decide_eq_false (by omega)
    have hq2 : ¬ (k : Int) < (G.length : Int) := by omega
    have hq3 : ((G.length : Int) == (L.length : Int)) = true := by rw [beq_iff_eq]; omega
    have tt := tot
    clear HLE HR3 HR4
    go_wp2
    go_ret
    exact ⟨rfl, tt⟩
end Go.Proofs.Ytkjedgnepnbkpaa
