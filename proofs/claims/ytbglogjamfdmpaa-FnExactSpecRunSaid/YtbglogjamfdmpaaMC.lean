/-
  Parts of the proof of the law FnExactSpecRun.
-/
import Derived.Test.YtbglogjamfdmpaaMB
namespace Go.Proofs.Ytbglogjamfdmpaa
open Go.RowKit

set_option maxHeartbeats 3200000 in
theorem l3Fits_any (a0 a1 : Option Addr) (nv na c0 c1 : Nat) (vx vy : Value) (m : Mm) (w : World) (_n0 : nv ≤ 9223372036854775807) (_n1 : na ≤ 9223372036854775807) (hx : Reads w 1 vx m.vals.length (ints m.vals)) (hy : Reads2 ints w vy m.arrs) :
    Calls Try.prog 81 #[.agg #[.slice a0 nv c0, .slice a1 na c1, .slice none 0 0], .agg #[vx, vy]] w fun e w' => e = .returned (.bool (memOk nv na m)) ∧ Below w.heap.size w w' := by
  have n2 := hx.2.1
  have n3 := hy.lenle
  have HX := Lib.hid hx
  have HY := Lib.hid hy
  obtain ⟨a2, c2, rfl⟩ := reads_shape hx
  obtain ⟨a3, c3, rfl⟩ := hy.shape
  clear hx hy
  have HD := Lib.hid (memOk_eq nv na m)
  generalize memOk nv na m = D at *
  have hbx := bal (bal (bself w) (.cells #[.slice a0 nv c0, .slice a1 na c1, .slice none 0 0] 71)) (.cells #[.slice a2 m.vals.length c2, .slice a3 m.arrs.length c3] 37)
  by_cases h1 : m.vals.length = nv
  rotate_left
  · have e1 : ((m.vals.length : Int) != (nv : Int)) = true := by simp; omega
    have H1 := Lib.hid h1; clear h1
    go_enter Try.func81, Try.ntmps81
    go_wp2
    go_ret
    exact ⟨ret_bool (by rw [HD.out, decide_eq_false H1.out]; rfl), hbx⟩
  have e1 : ((m.vals.length : Int) != (nv : Int)) = false := by simp; omega
  have H1 := Lib.hid h1; clear h1
  by_cases h2 : m.arrs.length = na
  rotate_left
  · have e2 : ((m.arrs.length : Int) != (na : Int)) = true := by simp; omega
    have H2 := Lib.hid h2; clear h2
    go_enter Try.func81, Try.ntmps81
    go_wp2
    go_ret
    exact ⟨ret_bool (by rw [HD.out, decide_eq_true H1.out, decide_eq_false H2.out]; rfl), hbx⟩
  have e2 : ((m.arrs.length : Int) != (na : Int)) = false := by simp; omega
  have H2 := Lib.hid h2; clear h2
  go_enter Try.func81, Try.ntmps81
  go_wp2_with fail
  refine (l3Values_any _ m.vals _ (HX.out.below hbx)).mono ?_
  rintro e w1 ⟨rfl, rfl⟩
  obtain ⟨w1, hw1⟩ : ∃ X, X = (w.alloc (.cells #[.slice a0 nv c0, .slice a1 na c1, .slice none 0 0] 71)).alloc (.cells #[.slice a2 m.vals.length c2, .slice a3 m.arrs.length c3] 37) := ⟨_, rfl⟩
  have b1 : w1.cell? ⟨w.heap.size + 1, 1, none⟩ = some (.slice a3 m.arrs.length c3) := by rw [hw1]; exact cell_nw (by simp) rfl
  have kb := lt_of_cell b1
  rw [← hw1]
  rw [← hw1] at hbx
  clear hw1
  cases hq : valsOk m.vals with
  | false =>
    have HQ := Lib.hid hq; clear hq
    go_wp2
    go_ret
    exact ⟨ret_bool (by rw [HD.out, decide_eq_true H1.out, decide_eq_true H2.out, HQ.out]; rfl), hbx⟩
  | true =>
    have HQ := Lib.hid hq; clear hq
    go_wp2_with fail
    go_loopw [5] (fun i wr => ∃ k : Nat, k ≤ m.arrs.length ∧ i = .int .i64 k ∧ (∀ j (h : j < m.arrs.length), j < k → arrOk m.arrs[j] = true) ∧ Below w1.heap.size w1 wr) (fun i _ => m.arrs.length - (intOf i).toNat)
    case atStart => exact ⟨0, Nat.zero_le _, rfl, fun j _ h => absurd h (by omega), bself w1⟩
    case round =>
      obtain ⟨k, hk, rfl, hall, hbel⟩ := hrel
      have HA := Lib.hid hall; clear hall
      have hbw := btr hbx hbel
      have b2 := kept_cell hbel b1
      have kb2 := lt_of_cell b2
      by_cases hlt : k < m.arrs.length
      · obtain ⟨b, off, u, rfl, hb, hc, hu⟩ := (HY.out.below hbw).at k hlt
        have HN := Lib.hid (fun h => arrs_no hlt h)
        have HYY : Hid (arrOk m.arrs[k] = true → ∀ j (h : j < m.arrs.length), j < k + 1 → arrOk m.arrs[j] = true) := Lib.hid (fun h j hj hlt2 => by
          by_cases e : j = k
          · subst e; exact h
          · exact HA.out j hj (by omega))
        have kc := lt_of_cell hc
        obtain ⟨pa, pc, rfl⟩ := reads_shape hu
        have hn9 := hu.2.1
        have HU := Lib.hid (l3Values_any _ m.arrs[k] _ hu)
        have HL4 := Lib.hid (fun (h : ¬ m.arrs[k].length = 4) => arrOk_len h)
        have HV4 := Lib.hid (fun (h : m.arrs[k].length = 4) => arrOk_vals h)
        generalize arrOk m.arrs[k] = q at *
        generalize valsOk m.arrs[k] = q2 at *
        clear hu
        by_cases h4 : m.arrs[k].length = 4
        · have hd : ((m.arrs[k].length : Int) != 4) = false := by simp; omega
          have HQ2 := Lib.hid (HV4.out h4)
          clear h4
          go_wp2_with fail
          refine HU.out.mono ?_
          rintro e w3 ⟨rfl, rfl⟩
          clear HU
          cases q2 with
          | true =>
            go_wp2
            go_roundw
            case rel => exact ⟨k + 1, by omega, by go_num, HYY.out HQ2.out, hbel⟩
            case measure => simp [intOf]; omega
          | false =>
            go_wp2
            go_ret
            exact ⟨ret_bool (by rw [HD.out, decide_eq_true H1.out, decide_eq_true H2.out, HQ.out, HN.out HQ2.out]; rfl), hbw⟩
        · have hd : ((m.arrs[k].length : Int) != 4) = true := by simp; omega
          have HQ2 := Lib.hid (HL4.out h4)
          clear h4
          go_wp2
          go_ret
          exact ⟨ret_bool (by rw [HD.out, decide_eq_true H1.out, decide_eq_true H2.out, HQ.out, HN.out HQ2.out]; rfl), hbw⟩
      · have HZ := Lib.hid (arrs_yes (fun j h => HA.out j h (by omega)))
        go_wp2
        go_ret
        exact ⟨ret_bool (by rw [HD.out, decide_eq_true H1.out, decide_eq_true H2.out, HQ.out, HZ.out]; rfl), hbw⟩
end Go.Proofs.Ytbglogjamfdmpaa
