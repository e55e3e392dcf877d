/-
  Parts of the proof of the law FnExactSpecRun.
-/
import Derived.Test.YtbglogjamfdmpaaVA
namespace Go.Proofs.Ytbglogjamfdmpaa
open Go.RowKit

theorem sLabelValid_any (n : Int) (w : World) :
    Calls Try.prog 165 #[.int .i64 n] w fun e w' => e = .returned (.bool (labOk n)) ∧ Below w.heap.size w w' := by
  have hc : (0 ≤ n ∧ n ≤ 3) ∨ n < 0 ∨ (0 ≤ n ∧ 3 < n) := by omega
  rcases hc with ⟨h1, h2⟩ | h | ⟨h1, h2⟩
  · have HB : Hid (labOk n = true) := Lib.hid (decide_eq_true ⟨h1, h2⟩)
    go_enter Try.func165, Try.ntmps165
    go_wp2
    go_ret
    exact ⟨ret_bool HB.out.symm, bself w⟩
  · have HB : Hid (labOk n = false) := Lib.hid (decide_eq_false (by omega))
    go_enter Try.func165, Try.ntmps165
    go_wp2
    go_ret
    exact ⟨ret_bool HB.out.symm, bself w⟩
  · have HB : Hid (labOk n = false) := Lib.hid (decide_eq_false (by omega))
    have h3 : decide (n ≤ 3) = false := decide_eq_false (by omega)
    clear h2
    go_enter Try.func165, Try.ntmps165
    go_wp2
    go_ret
    exact ⟨ret_bool HB.out.symm, bself w⟩

theorem l6Heads_any (a0 a1 a2 : Option Addr) (nv na nl c0 c1 c2 : Nat) (w : World) :
    Calls Try.prog 82 #[.agg #[.slice a0 nv c0, .slice a1 na c1, .slice a2 nl c2]] w fun e w' => e = .returned (.agg #[.slice a0 nv c0, .slice a1 na c1, .slice none 0 0]) ∧ Below w.heap.size w w' := by
  go_enter Try.func82, Try.ntmps82
  go_wp2
  exact bodyPost_ret (v := .agg #[.slice a0 nv c0, .slice a1 na c1, .slice none 0 0]) (by simp [results, Try.results82, go_sem]) rfl ⟨rfl, by repeat (first | exact Below.refl _ _ | refine Below.alloc ?_ (by simp; try omega) _ | refine Below.setCell ?_ (by simp; try omega) _)⟩

set_option maxHeartbeats 1600000 in
theorem l2Heads_any (va vb : Value) (xs ys : List Int) (a2 : Option Addr) (n2 c2 : Nat) (w : World) (hr : Reads w 1 va xs.length (ints xs)) (hs : Reads w 1 vb ys.length (ints ys)) :
    Calls Try.prog 121 #[.agg #[va, vb, .slice a2 n2 c2]] w fun e w' => e = .returned (.bool (declOk xs ys)) ∧ Below w.heap.size w w' := by
  obtain ⟨_, hn, a, cap, b, off, rfl, hcap, ha, hca⟩ := hr
  obtain ⟨_, hn', a', cap', b', off', rfl, hcap', ha', hcb⟩ := hs
  have HD : Hid (declOk xs ys = (wi xs.length 1 12 && (decide ((ys.length : Int) ≤ 2) && (labsOk xs && labsOk ys)))) := Lib.hid (by unfold declOk wi; rw [show decide (1 ≤ xs.length ∧ xs.length ≤ 12) = decide ((1 : Int) ≤ xs.length ∧ (xs.length : Int) ≤ 12) from by rw [decide_eq_decide]; omega, show decide (ys.length ≤ 2) = decide ((ys.length : Int) ≤ 2) from by rw [decide_eq_decide]; omega])
  generalize declOk xs ys = D at *
  have b0 : (w.alloc (.cells #[.slice a xs.length cap, .slice a' ys.length cap', .slice a2 n2 c2] 71)).cell? ⟨w.heap.size, 0, none⟩ = some (.slice a xs.length cap) := cell_nw rfl rfl
  have b1 : (w.alloc (.cells #[.slice a xs.length cap, .slice a' ys.length cap', .slice a2 n2 c2] 71)).cell? ⟨w.heap.size, 1, none⟩ = some (.slice a' ys.length cap') := cell_nw rfl rfl
  have hbx := bal (bself w) (.cells #[.slice a xs.length cap, .slice a' ys.length cap', .slice a2 n2 c2] 71)
  go_enter Try.func121, Try.ntmps121
  go_wp2
  obtain ⟨w0, hw0⟩ : ∃ w0, w0 = w.alloc (.cells #[.slice a xs.length cap, .slice a' ys.length cap', .slice a2 n2 c2] 71) := ⟨_, rfl⟩
  rw [← hw0] at b0 b1 hbx ⊢
  clear hw0
  go_loopw [3] (fun i wr => ∃ k : Nat, k ≤ xs.length ∧ i = .int .i64 k ∧ (∀ j (h : j < xs.length), j < k → labOk xs[j] = true) ∧ Below w0.heap.size w0 wr) (fun i _ => xs.length - (intOf i).toNat)
  case atStart => exact ⟨0, Nat.zero_le _, rfl, fun j _ h => absurd h (by omega), bself _⟩
  case round =>
    obtain ⟨k, hk, rfl, hall, hbel⟩ := hrel
    have HA := Lib.hid hall; clear hall
    have g0 := kept_cell hbel b0
    have g1 := kept_cell hbel b1
    have k0 := lt_of_cell g0
    have hbw := btr hbx hbel
    by_cases hlt : k < xs.length
    · obtain ⟨rfl, hbs⟩ := ha (by omega)
      have hc1 := hca k (by simpa [ints] using hlt)
      rw [ints_get] at hc1
      have hc1 := (hbw.cell (p := ⟨b, off + k, none⟩) hbs).trans hc1
      clear hca ha b0 b1 hbx ha' hcb
      generalize hx : xs[k] = x at hc1
      have HX := Lib.hid hx; clear hx
      go_wp2_with fail
      refine (sLabelValid_any x _).mono ?_
      rintro e w1 ⟨rfl, hb⟩
      have hb2 := btr hbel hb
      have hb3 := btr hbw hb
      cases hok : labOk x with
      | true =>
        have HO := Lib.hid hok; clear hok hb hbel hbw
        go_wp2
        go_roundw
        case rel => exact ⟨k + 1, by omega, by go_num, all_succ (P := fun j x => labOk x = true) hlt HA.out (by rw [HX.out]; exact HO.out), hb2⟩
        case measure => simp [intOf]; omega
      | false =>
        have HO := Lib.hid hok; clear hok hb hbel hbw
        go_wp2
        go_ret
        exact ⟨ret_bool (by rw [HD.out, labs_no hlt (by rw [HX.out]; exact HO.out)]; simp), hb3⟩
    · have HX : Hid (labsOk xs = true) := Lib.hid (labs_all (fun j h => HA.out j h (by omega)))
      have hlt2 : k = xs.length := by omega
      subst hlt2
      clear hca ha HA hk b0 b1 hbx hbel
      go_wp2
      go_loopw [4] (fun i wr => ∃ k : Nat, k ≤ ys.length ∧ i = .int .i64 k ∧ (∀ j (h : j < ys.length), j < k → labOk ys[j] = true) ∧ Below w.heap.size w wr ∧ wr.cell? ⟨w.heap.size, 0, none⟩ = some (.slice a xs.length cap) ∧ wr.cell? ⟨w.heap.size, 1, none⟩ = some (.slice a' ys.length cap')) (fun i _ => ys.length - (intOf i).toNat)
      case atStart => exact ⟨0, Nat.zero_le _, rfl, fun j _ h => absurd h (by omega), hbw, g0, g1⟩
      case round =>
        obtain ⟨k, hk, rfl, hall, hbel, f0, f1⟩ := hrel
        have HA := Lib.hid hall; clear hall
        have k1 := lt_of_cell f0
        clear hbw g0 g1 k0
        by_cases hlt : k < ys.length
        · obtain ⟨rfl, hbs⟩ := ha' (by omega)
          have hc1 := hcb k (by simpa [ints] using hlt)
          rw [ints_get] at hc1
          have hc1 := (hbel.cell (p := ⟨b', off' + k, none⟩) hbs).trans hc1
          clear hcb ha'
          generalize hx : ys[k] = x at hc1
          have HY := Lib.hid hx; clear hx
          go_wp2_with fail
          refine (sLabelValid_any x _).mono ?_
          rintro e w1 ⟨rfl, hb⟩
          have hb2 := btr hbel hb
          have f0' := kept_cell hb f0
          have f1' := kept_cell hb f1
          cases hok : labOk x with
          | true =>
            have HO := Lib.hid hok; clear hok hb hbel
            go_wp2
            go_roundw
            case rel => exact ⟨k + 1, by omega, by go_num, all_succ (P := fun j x => labOk x = true) hlt HA.out (by rw [HY.out]; exact HO.out), hb2, f0', f1'⟩
            case measure => simp [intOf]; omega
          | false =>
            have HO := Lib.hid hok; clear hok hb hbel
            go_wp2
            go_ret
            exact ⟨ret_bool (by rw [HD.out, labs_no hlt (by rw [HY.out]; exact HO.out)]; simp), hb2⟩
        · have HY : Hid (labsOk ys = true) := Lib.hid (labs_all (fun j h => HA.out j h (by omega)))
          clear hcb ha'
          have hc : (xs.length : Int) < 1 ∨ ((1 : Int) ≤ xs.length ∧ ((12 : Int) < xs.length ∨ ((xs.length : Int) ≤ 12))) := by omega
          rcases hc with hc | ⟨hc1, hc | hc⟩
          · have HW : Hid (wi xs.length 1 12 = false) := Lib.hid (decide_eq_false (by omega))
            go_wp2
            go_ret
            exact ⟨ret_bool (by rw [HD.out, HW.out]; rfl), hbel⟩
          · have HW : Hid (wi xs.length 1 12 = false) := Lib.hid (decide_eq_false (by omega))
            have h3 : decide ((xs.length : Int) ≤ 12) = false := decide_eq_false (by omega)
            clear hc
            go_wp2
            go_ret
            exact ⟨ret_bool (by rw [HD.out, HW.out]; rfl), hbel⟩
          · have HW : Hid (wi xs.length 1 12 = true) := Lib.hid (decide_eq_true (by omega))
            go_wp2
            go_ret
            exact ⟨ret_bool (by rw [HD.out, HW.out, HX.out, HY.out]; simp), hbel⟩
end Go.Proofs.Ytbglogjamfdmpaa
