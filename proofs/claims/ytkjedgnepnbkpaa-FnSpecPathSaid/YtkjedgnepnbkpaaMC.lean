/-
 Parts of the proof of the law FnSpecPath.
-/
import Derived.Test.YtkjedgnepnbkpaaMA
import Derived.Test.YtkjedgnepnbkpaaRS
import Derived.Test.YtkjedgnepnbkpaaVP
import Derived.Test.YtkjedgnepnbkpaaZ
set_option linter.all false
namespace Go.Proofs.Ytkjedgnepnbkpaa
open Go.RowKit

set_option maxHeartbeats 3200000 in
theorem l3Fits_any (a0 a1 : Option Addr) (nv na c0 c1 : Nat) (vx vy : Value) (m : Mm) (w : World) (_n0 : nv ≤ 9223372036854775807) (_n1 : na ≤ 9223372036854775807) (hx : Reads w 1 vx m.vals.length (ints m.vals)) (hy : Reads2 ints w vy m.arrs) :
  Calls Try.prog 115 #[.agg #[.slice a0 nv c0, .slice a1 na c1, .slice none 0 0], .agg #[vx, vy]] w fun e w' => e = .returned (.bool (memOk nv na m)) ∧ Below w.heap.size w w' := by
 have n2 := hx.2.1
 have n3 := hy.lenle
 have HX := Lib.hid hx
 have HY := Lib.hid hy
 obtain ⟨a2, c2, rfl⟩ := reads_shape hx
 obtain ⟨a3, c3, rfl⟩ := hy.shape
 clear hx hy
 have HD := Lib.hid (memOk_eq nv na m)
 generalize memOk nv na m = D at *
 have hbx := bal (bal (Bs w) (.cells #[.slice a0 nv c0, .slice a1 na c1, .slice none 0 0] 110)) (.cells #[.slice a2 m.vals.length c2, .slice a3 m.arrs.length c3] 37)
 by_cases h1 : m.vals.length = nv
 rotate_left
 ·have e1 : ((m.vals.length : Int) != (nv : Int)) = true := by simp; omega
  have H1 := Lib.hid h1; clear h1
  go_enter Try.func115, Try.ntmps115
  go_wp2
  go_ret
  exact ⟨ret_bool (by rw [HD.out, decide_eq_false H1.out]; rfl), hbx⟩
 have e1 : ((m.vals.length : Int) != (nv : Int)) = false := by simp; omega
 have H1 := Lib.hid h1; clear h1
 by_cases h2 : m.arrs.length = na
 rotate_left
 ·have e2 : ((m.arrs.length : Int) != (na : Int)) = true := by simp; omega
  have H2 := Lib.hid h2; clear h2
  go_enter Try.func115, Try.ntmps115
  go_wp2
  go_ret
  exact ⟨ret_bool (by rw [HD.out, decide_eq_true H1.out, decide_eq_false H2.out]; rfl), hbx⟩
 have e2 : ((m.arrs.length : Int) != (na : Int)) = false := by simp; omega
 have H2 := Lib.hid h2; clear h2
 go_enter Try.func115, Try.ntmps115
 go_wp2_with fail
 refine (l3Values_any _ m.vals _ (HX.out.below hbx)).mono ?_
 rintro e w1 ⟨rfl, rfl⟩
 obtain ⟨w1, hw1⟩ : ∃ X, X = (w.alloc (.cells #[.slice a0 nv c0, .slice a1 na c1, .slice none 0 0] 110)).alloc (.cells #[.slice a2 m.vals.length c2, .slice a3 m.arrs.length c3] 37) := ⟨_, rfl⟩
 have b1 : w1.cell? ⟨w.heap.size + 1, 1, none⟩ = some (.slice a3 m.arrs.length c3) := by rw [hw1]; exact Wc (by simp) rfl
 have kb := Lc b1
 rw [← hw1]
 rw [← hw1] at hbx
 clear hw1
 cases hq : valsOk m.vals with
 | false =>
  have HQ := Lib.hid hq; clear hq
  go_wp2
  go_ret
  exact ⟨ret_bool (by rw [HD.out, decide_eq_true H1.out, decide_eq_true H2.out, HQ.out]; rfl), hbx⟩
 | true =>
  have HQ := Lib.hid hq; clear hq
  go_wp2_with fail
  go_loopw [5] (fun i wr => ∃ k : Nat, k ≤ m.arrs.length ∧ i = .int .i64 k ∧ (∀ j (h : j < m.arrs.length), j < k → arrOk m.arrs[j] = true) ∧ Below w1.heap.size w1 wr) (fun i _ => m.arrs.length - (intOf i).toNat)
  case atStart => exact ⟨0, Nat.zero_le _, rfl, fun j _ h => absurd h (by omega), Bs w1⟩
  case round =>
   obtain ⟨k, hk, rfl, hall, hbel⟩ := hrel
   have HA := Lib.hid hall; clear hall
   have hbw := btr hbx hbel
   have b2 := Kc hbel b1
   have kb2 := Lc b2
   by_cases hlt : k < m.arrs.length
   ·obtain ⟨b, off, u, rfl, hb, hc, hu⟩ := (HY.out.below hbw).at k hlt
    have HN := Lib.hid (fun h => arrs_no hlt h)
    have HYY : Hid (arrOk m.arrs[k] = true → ∀ j (h : j < m.arrs.length), j < k + 1 → arrOk m.arrs[j] = true) := Lib.hid (fun h j hj hlt2 => by
     by_cases e : j = k
     ·subst e; exact h
     ·exact HA.out j hj (by omega))
    have kc := Lc hc
    obtain ⟨pa, pc, rfl⟩ := reads_shape hu
    have hn9 := hu.2.1
    have HU := Lib.hid (l3Values_any _ m.arrs[k] _ hu)
    have HL4 := Lib.hid (fun (h : ¬ m.arrs[k].length = 4) => arrOk_len h)
    have HV4 := Lib.hid (fun (h : m.arrs[k].length = 4) => arrOk_vals h)
    generalize arrOk m.arrs[k] = q at *
    generalize valsOk m.arrs[k] = q2 at *
    clear hu
    by_cases h4 : m.arrs[k].length = 4
    ·have hd : ((m.arrs[k].length : Int) != 4) = false := by simp; omega
     have HQ2 := Lib.hid (HV4.out h4)
     clear h4
     go_wp2_with fail
     refine HU.out.mono ?_
     rintro e w3 ⟨rfl, rfl⟩
     clear HU
     cases q2 with
     | true =>
      go_wp2
      go_roundw
      case rel => exact ⟨k + 1, by omega, by go_num, HYY.out HQ2.out, hbel⟩
      case measure => simp [intOf]; omega
     | false =>
      go_wp2
      go_ret
      exact ⟨ret_bool (by rw [HD.out, decide_eq_true H1.out, decide_eq_true H2.out, HQ.out, HN.out HQ2.out]; rfl), hbw⟩
    ·have hd : ((m.arrs[k].length : Int) != 4) = true := by simp; omega
     have HQ2 := Lib.hid (HL4.out h4)
     clear h4
     go_wp2
     go_ret
     exact ⟨ret_bool (by rw [HD.out, decide_eq_true H1.out, decide_eq_true H2.out, HQ.out, HN.out HQ2.out]; rfl), hbw⟩
   ·have HZ := Lib.hid (arrs_yes (fun j h => HA.out j h (by omega)))
    go_wp2
    go_ret
    exact ⟨ret_bool (by rw [HD.out, decide_eq_true H1.out, decide_eq_true H2.out, HQ.out, HZ.out]; rfl), hbw⟩
end Go.Proofs.Ytkjedgnepnbkpaa
namespace Go.Proofs.Ytkjedgnepnbkpaa
open Go.RowKit

/-- a memory's value reads as it -/
structure ReadsM (w : World) (vx vy : Value) (m : Mm) : Prop where
 x : Reads w 1 vx m.vals.length (ints m.vals)
 y : Reads2 ints w vy m.arrs
theorem ReadsM.below {w w' : World} {vx vy : Value} {m : Mm} (h : ReadsM w vx vy m) (hb : Below w.heap.size w w') : ReadsM w' vx vy m := ⟨h.x.below hb, h.y.below hb⟩
theorem ReadsM.shape {w : World} {vx vy : Value} {m : Mm} (h : ReadsM w vx vy m) : ∃ a0 c0 a1 c1, vx = .slice a0 m.vals.length c0 ∧ vy = .slice a1 m.arrs.length c1 := by
 obtain ⟨a0, c0, h0⟩ := reads_shape h.x
 obtain ⟨a1, c1, h1⟩ := h.y.shape
 exact ⟨a0, c0, a1, c1, h0, h1⟩
/-- the call owns a memory's value -/
structure OwnM (w : World) (base : Nat) (vx vy : Value) (us : List Value) (m : Mm) : Prop where
 x : w.ownsRow base 3 1 vx m.vals.length (ints m.vals)
 y : Own2I w base vy us m.arrs
 ap : ∀ q, vx.ownBlock = some q → ¬ OwnB2 vy us q
def OwnBM (vx vy : Value) (us : List Value) (q : Nat) : Prop := vx.ownBlock = some q ∨ OwnB2 vy us q
section
variable {w w' : World} {base base' : Nat} {vx vy : Value} {us : List Value} {m : Mm}
theorem OwnM.lt (h : OwnM w base vx vy us m) : ∀ q, OwnBM vx vy us q → base ≤ q ∧ q < w.heap.size := by
 rintro q (hq | hq)
 ·exact h.x.lt q hq
 ·exact h.y.lt q hq
theorem OwnM.keep (h : OwnM w base vx vy us m) {S : Nat → Prop} (hc : Chg S w w') (hs : ∀ q, OwnBM vx vy us q → ¬ S q) : OwnM w' base vx vy us m :=
 ⟨Ow h.x hc (fun q hq => hs q (Or.inl hq)), h.y.keep hc (fun q hq => hs q (Or.inr hq)), h.ap⟩
theorem OwnM.below (h : OwnM w base vx vy us m) (hb : Below w.heap.size w w') : OwnM w' base vx vy us m := h.keep (S := fun _ => False) (Chg.of_below hb) (fun _ _ => id)
theorem OwnM.mono (h : OwnM w base vx vy us m) (hb : base' ≤ base) : OwnM w base' vx vy us m := ⟨Om h.x hb, h.y.mono hb, h.ap⟩
theorem OwnM.reads (h : OwnM w base vx vy us m) (h0 : m.vals.length ≤ 1048576) (h1 : m.arrs.length ≤ 1048576) (h2 : pre2 m.arrs m.arrs.length ≤ 1048576) : ReadsM w vx vy m :=
 ⟨Ro h.x (by omega), h.y.reads (by omega) (fun k r hr => by
  obtain ⟨hk, rfl⟩ := List.getElem?_eq_some_iff.1 hr
  have := pre2_all m.arrs k hk m.arrs.length hk
  omega)⟩
theorem OwnM.shape (h : OwnM w base vx vy us m) : ∃ a0 c0 a1 c1, vx = .slice a0 m.vals.length c0 ∧ vy = .slice a1 m.arrs.length c1 := by
 obtain ⟨a0, c0, h0⟩ := Oh h.x
 obtain ⟨a1, c1, h1⟩ := h.y.shape
 exact ⟨a0, c0, a1, c1, h0, h1⟩
end
end Go.Proofs.Ytkjedgnepnbkpaa
namespace Go.Proofs.Ytkjedgnepnbkpaa
open Go.RowKit

theorem labs_all {xs : List Int} (h : ∀ j (h : j < xs.length), labOk xs[j] = true) : labsOk xs = true := by
 unfold labsOk; rw [List.all_eq_true]
 intro x hx
 obtain ⟨j, hj, rfl⟩ := List.getElem_of_mem hx
 exact h j hj
theorem labs_no {xs : List Int} {j : Nat} (h : j < xs.length) (hx : labOk xs[j] = false) : labsOk xs = false := by
 unfold labsOk; rw [List.all_eq_false]
 exact ⟨_, List.getElem_mem h, by simp [hx]⟩

theorem idxLab_any (v : Value) (xs : List Int) (w : World) (hr : Reads w 1 v xs.length (ints xs)) :
  Calls Try.prog 155 #[v, .func (.func 160) #[] #[]] w fun e w' => ∃ r : Int, e = .returned (.int .i64 r) ∧ decide (0 ≤ r) = !labsOk xs ∧ Below w.heap.size w w' := by
 obtain ⟨_, hn, a, cap, b, off, rfl, hcap, ha, hca⟩ := hr
 go_enter Try.func155, Try.ntmps155
 go_wp2
 go_loopw [8] (fun i wr => ∃ k : Nat, k ≤ xs.length ∧ i = .int .i64 k ∧ (∀ j (h : j < xs.length), j < k → labOk xs[j] = true) ∧ Below w.heap.size w wr) (fun i _ => xs.length - (intOf i).toNat)
 case atStart => exact ⟨0, Nat.zero_le _, rfl, fun j _ h => absurd h (by omega), Below.refl _ _⟩
 case round =>
  obtain ⟨k, hk, rfl, hall, hbel⟩ := hrel
  have HA := Lib.hid hall; clear hall
  by_cases hlt : k < xs.length
  ·obtain ⟨rfl, hbs⟩ := ha (by omega)
   have hc1 := hca k (by simpa [ints] using hlt)
   rw [ints_get] at hc1
   have hc1 := (hbel.cell (p := ⟨b, off + k, none⟩) hbs).trans hc1
   clear hca ha
   generalize hx : xs[k] = x at hc1
   have HX := Lib.hid hx; clear hx
   go_wp2_with fail
   refine (notLabel_any x _).mono ?_
   rintro e w1 ⟨rfl, hb⟩
   have hb2 := btr hbel hb
   cases hok : labOk x with
   | true =>
    have HO := Lib.hid hok; clear hok hb hbel
    go_wp2
    go_roundw
    case rel => exact ⟨k + 1, by omega, by go_num, all_succ (P := fun j x => labOk x = true) hlt HA.out (by rw [HX.out]; exact HO.out), hb2⟩
    case measure => simp [intOf]; omega
   | false =>
    have HO := Lib.hid hok; clear hok hb hbel
    go_wp2
    go_ret
    exact ⟨(k : Int), rfl, by rw [labs_no hlt (by rw [HX.out]; exact HO.out)]; simp, hb2⟩
  ·go_wp2
   go_ret
   exact ⟨-1, rfl, by rw [labs_all (fun j h => HA.out j h (by omega))]; rfl, hbel⟩
theorem hasLab_any (v : Value) (xs : List Int) (w : World) (hr : Reads w 1 v xs.length (ints xs)) :
  Calls Try.prog 120 #[v, .func (.func 160) #[] #[]] w fun e w' => e = .returned (.bool (!labsOk xs)) ∧ Below w.heap.size w w' := by
 go_enter Try.func120, Try.ntmps120
 go_wp2_with fail
 refine (idxLab_any _ xs _ hr).mono ?_
 rintro e w1 ⟨r, rfl, hr1, hb⟩
 clear hr
 go_wp2
 go_ret
 exact ⟨rfl, hb⟩
theorem areLabels_any (v : Value) (xs : List Int) (w : World) (hr : Reads w 1 v xs.length (ints xs)) :
  Calls Try.prog 139 #[v] w fun e w' => e = .returned (.bool (labsOk xs)) ∧ Below w.heap.size w w' := by
 go_enter Try.func139, Try.ntmps139
 go_wp2_with fail
 refine (hasLab_any _ xs _ hr).mono ?_
 rintro e w1 ⟨rfl, hb⟩
 clear hr
 go_wp2
 go_ret
 exact ⟨ret_bool (by simp), hb⟩
theorem declared_any (va vb : Value) (xs ys : List Int) (w : World) (hr : Reads w 1 va xs.length (ints xs)) (hs : Reads w 1 vb ys.length (ints ys)) :
  Calls Try.prog 93 #[va, vb] w fun e w' => e = .returned (.bool (declOk xs ys)) ∧ Below w.heap.size w w' := by
 have HD : Hid (declOk xs ys = (wi xs.length 1 12 && (decide ((ys.length : Int) ≤ 2) && (labsOk xs && labsOk ys)))) := Lib.hid (by unfold declOk wi; rw [show decide (1 ≤ xs.length ∧ xs.length ≤ 12) = decide ((1 : Int) ≤ xs.length ∧ (xs.length : Int) ≤ 12) from by rw [decide_eq_decide]; omega, show decide (ys.length ≤ 2) = decide ((ys.length : Int) ≤ 2) from by rw [decide_eq_decide]; omega])
 generalize declOk xs ys = D at *
 obtain ⟨a0, c0, rfl⟩ := reads_shape hr
 obtain ⟨a1, c1, rfl⟩ := reads_shape hs
 go_enter Try.func93, Try.ntmps93
 go_wp2_with fail
 refine (within_any _ 1 12 _).mono ?_
 rintro e w1 ⟨rfl, hb⟩
 replace hr := hr.below hb
 replace hs := hs.below hb
 generalize wi xs.length 1 12 = b1 at *
 cases b1 with
 | false =>
  clear hr hs
  go_wp2
  go_ret
  exact ⟨ret_bool (by rw [HD.out]; rfl), hb⟩
 | true =>
  by_cases h2 : (ys.length : Int) ≤ 2
  ·rw [decide_eq_true h2] at HD
   go_wp2_with fail
   refine (areLabels_any _ xs _ hr).mono ?_
   rintro e w2 ⟨rfl, hb2⟩
   replace hs := hs.below hb2
   replace hb := btr hb hb2
   clear hr hb2
   generalize labsOk xs = b2 at *
   cases b2 with
   | false =>
    clear hs
    go_wp2
    go_ret
    exact ⟨ret_bool (by rw [HD.out]; rfl), hb⟩
   | true =>
    go_wp2_with fail
    refine (areLabels_any _ ys _ hs).mono ?_
    rintro e w3 ⟨rfl, hb3⟩
    replace hb := btr hb hb3
    clear hs hb3
    generalize labsOk ys = b3 at *
    go_wp2
    go_ret
    exact ⟨ret_bool (by rw [HD.out]; rfl), hb⟩
  ·have h3 : decide ((ys.length : Int) ≤ 2) = false := decide_eq_false h2
   rw [h3] at HD
   clear hr hs h2
   go_wp2
   go_ret
   exact ⟨ret_bool (by rw [HD.out]; rfl), hb⟩

set_option maxHeartbeats 1600000 in
theorem fieldOk_any (a0 a1 a2 : Option Addr) (nv na nl c0 c1 c2 : Nat) (k n : Int) (w : World) (h0 : nv ≤ 9223372036854775807) (h1 : na ≤ 9223372036854775807) (h2 : nl ≤ 9223372036854775807) :
  Calls Try.prog 143 #[.agg #[.slice a0 nv c0, .slice a1 na c1, .slice a2 nl c2], .int .u8 k, .int .i64 n] w fun e w' => e = .returned (.bool (fOk nv na nl k n)) ∧ Below w.heap.size w w' := by
 have hk : k = 114 ∨ (¬ k = 114 ∧ (k = 118 ∨ (¬ k = 118 ∧ (k = 97 ∨ (¬ k = 97 ∧ (k = 110 ∨ (¬ k = 110 ∧ (k = 111 ∨ (¬ k = 111 ∧ (k = 105 ∨ ¬ k = 105)))))))))) := by omega
 have hbx := bal (Bs w) (.cells #[.slice a0 nv c0, .slice a1 na c1, .slice a2 nl c2] 26)
 rcases hk with rfl | ⟨g1, rfl | ⟨g2, rfl | ⟨g3, rfl | ⟨g4, rfl | ⟨g5, rfl | g6⟩⟩⟩⟩⟩
 ·go_enter Try.func143, Try.ntmps143
  go_wp2_with fail
  refine (within_any _ _ _ _).mono ?_
  rintro e w1 ⟨rfl, hb⟩
  replace hb := btr hbx hb
  clear hbx
  go_wp2
  go_ret
  exact ⟨rfl, hb⟩
 ·go_enter Try.func143, Try.ntmps143
  go_wp2_with fail
  refine (within_any _ _ _ _).mono ?_
  rintro e w1 ⟨rfl, hb⟩
  replace hb := btr hbx hb
  clear hbx
  go_wp2
  go_ret
  exact ⟨rfl, hb⟩
 ·go_enter Try.func143, Try.ntmps143
  go_wp2_with fail
  refine (within_any _ _ _ _).mono ?_
  rintro e w1 ⟨rfl, hb⟩
  replace hb := btr hbx hb
  clear hbx
  go_wp2
  go_ret
  exact ⟨rfl, hb⟩
 ·go_enter Try.func143, Try.ntmps143
  go_wp2_with fail
  refine (within_any _ _ _ _).mono ?_
  rintro e w1 ⟨rfl, hb⟩
  replace hb := btr hbx hb
  clear hbx
  go_wp2
  go_ret
  exact ⟨rfl, hb⟩
 ·go_enter Try.func143, Try.ntmps143
  go_wp2_with fail
  refine (within_any _ _ _ _).mono ?_
  rintro e w1 ⟨rfl, hb⟩
  replace hb := btr hbx hb
  clear hbx
  go_wp2
  go_ret
  exact ⟨rfl, hb⟩
 ·go_enter Try.func143, Try.ntmps143
  go_wp2_with fail
  refine (within_any _ _ _ _).mono ?_
  rintro e w1 ⟨rfl, hb⟩
  replace hb := btr hbx hb
  clear hbx
  go_wp2
  go_ret
  exact ⟨rfl, hb⟩
 ·have HE : Hid (fOk nv na nl k n = (n == 0)) := Lib.hid (by unfold fOk; rw [if_neg g1, if_neg g2, if_neg g3, if_neg g4, if_neg g5, if_neg g6])
  rw [HE.out]
  have e1 : (k == 114) = false := by simp [g1]
  have e2 : (k == 118) = false := by simp [g2]
  have e3 : (k == 97) = false := by simp [g3]
  have e4 : (k == 110) = false := by simp [g4]
  have e5 : (k == 111) = false := by simp [g5]
  have e6 : (k == 105) = false := by simp [g6]
  clear g1 g2 g3 g4 g5 g6 HE
  go_enter Try.func143, Try.ntmps143
  go_wp2
  go_ret
  exact ⟨rfl, hbx⟩
end Go.Proofs.Ytkjedgnepnbkpaa
