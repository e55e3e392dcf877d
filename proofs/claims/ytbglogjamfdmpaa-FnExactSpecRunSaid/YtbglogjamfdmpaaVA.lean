/-
  Parts of the proof of the law FnExactSpecRun.
-/
import Derived.Test.YtbglogjamfdmpaaRB
namespace Go.Proofs.Ytbglogjamfdmpaa
open Go.RowKit

theorem labs_all {xs : List Int} (h : ∀ j (h : j < xs.length), labOk xs[j] = true) : labsOk xs = true := by
  unfold labsOk; rw [List.all_eq_true]
  intro x hx
  obtain ⟨j, hj, rfl⟩ := List.getElem_of_mem hx
  exact h j hj
theorem labs_no {xs : List Int} {j : Nat} (h : j < xs.length) (hx : labOk xs[j] = false) : labsOk xs = false := by
  unfold labsOk; rw [List.all_eq_false]
  exact ⟨_, List.getElem_mem h, by simp [hx]⟩

theorem idxLab_any (v : Value) (xs : List Int) (w : World) (hr : Reads w 1 v xs.length (ints xs)) :
    Calls Try.prog 188 #[v, .func (.func 194) #[] #[]] w fun e w' => ∃ r : Int, e = .returned (.int .i64 r) ∧ decide (0 ≤ r) = !labsOk xs ∧ Below w.heap.size w w' := by
  obtain ⟨_, hn, a, cap, b, off, rfl, hcap, ha, hca⟩ := hr
  go_enter Try.func188, Try.ntmps188
  go_wp2
  go_loopw [8] (fun i wr => ∃ k : Nat, k ≤ xs.length ∧ i = .int .i64 k ∧ (∀ j (h : j < xs.length), j < k → labOk xs[j] = true) ∧ Below w.heap.size w wr) (fun i _ => xs.length - (intOf i).toNat)
  case atStart => exact ⟨0, Nat.zero_le _, rfl, fun j _ h => absurd h (by omega), Below.refl _ _⟩
  case round =>
    obtain ⟨k, hk, rfl, hall, hbel⟩ := hrel
    have HA := Lib.hid hall; clear hall
    by_cases hlt : k < xs.length
    · obtain ⟨rfl, hbs⟩ := ha (by omega)
      have hc1 := hca k (by simpa [ints] using hlt)
      rw [ints_get] at hc1
      have hc1 := (hbel.cell (p := ⟨b, off + k, none⟩) hbs).trans hc1
      clear hca ha
      generalize hx : xs[k] = x at hc1
      have HX := Lib.hid hx; clear hx
      go_wp2_with fail
      refine (notLabel_any x _).mono ?_
      rintro e w1 ⟨rfl, hb⟩
      have hb2 := btr hbel hb
      cases hok : labOk x with
      | true =>
        have HO := Lib.hid hok; clear hok hb hbel
        go_wp2
        go_roundw
        case rel => exact ⟨k + 1, by omega, by go_num, all_succ (P := fun j x => labOk x = true) hlt HA.out (by rw [HX.out]; exact HO.out), hb2⟩
        case measure => simp [intOf]; omega
      | false =>
        have HO := Lib.hid hok; clear hok hb hbel
        go_wp2
        go_ret
        exact ⟨(k : Int), rfl, by rw [labs_no hlt (by rw [HX.out]; exact HO.out)]; simp, hb2⟩
    · go_wp2
      go_ret
      exact ⟨-1, rfl, by rw [labs_all (fun j h => HA.out j h (by omega))]; rfl, hbel⟩
theorem hasLab_any (v : Value) (xs : List Int) (w : World) (hr : Reads w 1 v xs.length (ints xs)) :
    Calls Try.prog 154 #[v, .func (.func 194) #[] #[]] w fun e w' => e = .returned (.bool (!labsOk xs)) ∧ Below w.heap.size w w' := by
  go_enter Try.func154, Try.ntmps154
  go_wp2_with fail
  refine (idxLab_any _ xs _ hr).mono ?_
  rintro e w1 ⟨r, rfl, hr1, hb⟩
  clear hr
  go_wp2
  go_ret
  exact ⟨rfl, hb⟩
theorem areLabels_any (v : Value) (xs : List Int) (w : World) (hr : Reads w 1 v xs.length (ints xs)) :
    Calls Try.prog 172 #[v] w fun e w' => e = .returned (.bool (labsOk xs)) ∧ Below w.heap.size w w' := by
  go_enter Try.func172, Try.ntmps172
  go_wp2_with fail
  refine (hasLab_any _ xs _ hr).mono ?_
  rintro e w1 ⟨rfl, hb⟩
  clear hr
  go_wp2
  go_ret
  exact ⟨ret_bool (by simp), hb⟩
theorem declared_any (va vb : Value) (xs ys : List Int) (w : World) (hr : Reads w 1 va xs.length (ints xs)) (hs : Reads w 1 vb ys.length (ints ys)) :
    Calls Try.prog 128 #[va, vb] w fun e w' => e = .returned (.bool (declOk xs ys)) ∧ Below w.heap.size w w' := by
  have HD : Hid (declOk xs ys = (wi xs.length 1 12 && (decide ((ys.length : Int) ≤ 2) && (labsOk xs && labsOk ys)))) := Lib.hid (by unfold declOk wi; rw [show decide (1 ≤ xs.length ∧ xs.length ≤ 12) = decide ((1 : Int) ≤ xs.length ∧ (xs.length : Int) ≤ 12) from by rw [decide_eq_decide]; omega, show decide (ys.length ≤ 2) = decide ((ys.length : Int) ≤ 2) from by rw [decide_eq_decide]; omega])
  generalize declOk xs ys = D at *
  obtain ⟨a0, c0, rfl⟩ := reads_shape hr
  obtain ⟨a1, c1, rfl⟩ := reads_shape hs
  go_enter Try.func128, Try.ntmps128
  go_wp2_with fail
  refine (within_any _ 1 12 _).mono ?_
  rintro e w1 ⟨rfl, hb⟩
  replace hr := hr.below hb
  replace hs := hs.below hb
  generalize wi xs.length 1 12 = b1 at *
  cases b1 with
  | false =>
    clear hr hs
    go_wp2
    go_ret
    exact ⟨ret_bool (by rw [HD.out]; rfl), hb⟩
  | true =>
    by_cases h2 : (ys.length : Int) ≤ 2
    · rw [decide_eq_true h2] at HD
      go_wp2_with fail
      refine (areLabels_any _ xs _ hr).mono ?_
      rintro e w2 ⟨rfl, hb2⟩
      replace hs := hs.below hb2
      replace hb := btr hb hb2
      clear hr hb2
      generalize labsOk xs = b2 at *
      cases b2 with
      | false =>
        clear hs
        go_wp2
        go_ret
        exact ⟨ret_bool (by rw [HD.out]; rfl), hb⟩
      | true =>
        go_wp2_with fail
        refine (areLabels_any _ ys _ hs).mono ?_
        rintro e w3 ⟨rfl, hb3⟩
        replace hb := btr hb hb3
        clear hs hb3
        generalize labsOk ys = b3 at *
        go_wp2
        go_ret
        exact ⟨ret_bool (by rw [HD.out]; rfl), hb⟩
    · have h3 : decide ((ys.length : Int) ≤ 2) = false := decide_eq_false h2
      rw [h3] at HD
      clear hr hs h2
      go_wp2
      go_ret
      exact ⟨ret_bool (by rw [HD.out]; rfl), hb⟩

set_option maxHeartbeats 1600000 in
theorem fieldOk_any (a0 a1 a2 : Option Addr) (nv na nl c0 c1 c2 : Nat) (k n : Int) (w : World) (h0 : nv ≤ 9223372036854775807) (h1 : na ≤ 9223372036854775807) (h2 : nl ≤ 9223372036854775807) :
    Calls Try.prog 186 #[.agg #[.slice a0 nv c0, .slice a1 na c1, .slice a2 nl c2], .int .u8 k, .int .i64 n] w fun e w' => e = .returned (.bool (fOk nv na nl k n)) ∧ Below w.heap.size w w' := by
  have hk : k = 114 ∨ (¬ k = 114 ∧ (k = 118 ∨ (¬ k = 118 ∧ (k = 97 ∨ (¬ k = 97 ∧ (k = 110 ∨ (¬ k = 110 ∧ (k = 111 ∨ (¬ k = 111 ∧ (k = 105 ∨ ¬ k = 105)))))))))) := by omega
  have hbx := bal (bself w) (.cells #[.slice a0 nv c0, .slice a1 na c1, .slice a2 nl c2] 35)
  rcases hk with rfl | ⟨g1, rfl | ⟨g2, rfl | ⟨g3, rfl | ⟨g4, rfl | ⟨g5, rfl | g6⟩⟩⟩⟩⟩
  · go_enter Try.func186, Try.ntmps186
    go_wp2_with fail
    refine (within_any _ _ _ _).mono ?_
    rintro e w1 ⟨rfl, hb⟩
    replace hb := btr hbx hb
    clear hbx
    go_wp2
    go_ret
    exact ⟨rfl, hb⟩
  · go_enter Try.func186, Try.ntmps186
    go_wp2_with fail
    refine (within_any _ _ _ _).mono ?_
    rintro e w1 ⟨rfl, hb⟩
    replace hb := btr hbx hb
    clear hbx
    go_wp2
    go_ret
    exact ⟨rfl, hb⟩
  · go_enter Try.func186, Try.ntmps186
    go_wp2_with fail
    refine (within_any _ _ _ _).mono ?_
    rintro e w1 ⟨rfl, hb⟩
    replace hb := btr hbx hb
    clear hbx
    go_wp2
    go_ret
    exact ⟨rfl, hb⟩
  · go_enter Try.func186, Try.ntmps186
    go_wp2_with fail
    refine (within_any _ _ _ _).mono ?_
    rintro e w1 ⟨rfl, hb⟩
    replace hb := btr hbx hb
    clear hbx
    go_wp2
    go_ret
    exact ⟨rfl, hb⟩
  · go_enter Try.func186, Try.ntmps186
    go_wp2_with fail
    refine (within_any _ _ _ _).mono ?_
    rintro e w1 ⟨rfl, hb⟩
    replace hb := btr hbx hb
    clear hbx
    go_wp2
    go_ret
    exact ⟨rfl, hb⟩
  · go_enter Try.func186, Try.ntmps186
    go_wp2_with fail
    refine (within_any _ _ _ _).mono ?_
    rintro e w1 ⟨rfl, hb⟩
    replace hb := btr hbx hb
    clear hbx
    go_wp2
    go_ret
    exact ⟨rfl, hb⟩
  · have HE : Hid (fOk nv na nl k n = (n == 0)) := Lib.hid (by unfold fOk; rw [if_neg g1, if_neg g2, if_neg g3, if_neg g4, if_neg g5, if_neg g6])
    rw [HE.out]
    have e1 : (k == 114) = false := by simp [g1]
    have e2 : (k == 118) = false := by simp [g2]
    have e3 : (k == 97) = false := by simp [g3]
    have e4 : (k == 110) = false := by simp [g4]
    have e5 : (k == 111) = false := by simp [g5]
    have e6 : (k == 105) = false := by simp [g6]
    clear g1 g2 g3 g4 g5 g6 HE
    go_enter Try.func186, Try.ntmps186
    go_wp2
    go_ret
    exact ⟨rfl, hbx⟩
end Go.Proofs.Ytbglogjamfdmpaa
