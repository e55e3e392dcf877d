/-
  Parts of the proof of the law FnExactSpecRun.
-/
import Derived.Test.YtbglogjamfdmpaaFE
namespace Go.Proofs.Ytbglogjamfdmpaa
open Go.RowKit

theorem vals_all {xs : List Int} (h : ∀ j (h : j < xs.length), valOk xs[j] = true) : valsOk xs = true := by
  unfold valsOk; rw [List.all_eq_true]
  intro x hx
  obtain ⟨j, hj, rfl⟩ := List.getElem_of_mem hx
  exact h j hj
theorem vals_no {xs : List Int} {j : Nat} (h : j < xs.length) (hx : valOk xs[j] = false) : valsOk xs = false := by
  unfold valsOk; rw [List.all_eq_false]
  exact ⟨_, List.getElem_mem h, by simp [hx]⟩
theorem notVal_any (n : Int) (w : World) :
    Calls Try.prog 155 #[.int .i64 n] w fun e w' => e = .returned (.bool (!valOk n)) ∧ Below w.heap.size w w' := by
  go_enter Try.func155, Try.ntmps155
  go_wp2_with fail
  refine (within_any n 0 255 _).mono ?_
  rintro e w1 ⟨rfl, hb⟩
  go_wp2
  go_ret
  exact ⟨rfl, hb⟩
theorem idxVal_any (v : Value) (xs : List Int) (w : World) (hr : Reads w 1 v xs.length (ints xs)) :
    Calls Try.prog 188 #[v, .func (.func 155) #[] #[]] w fun e w' => ∃ r : Int, e = .returned (.int .i64 r) ∧ decide (0 ≤ r) = !valsOk xs ∧ Below w.heap.size w w' := by
  obtain ⟨_, hn, a, cap, b, off, rfl, hcap, ha, hca⟩ := hr
  go_enter Try.func188, Try.ntmps188
  go_wp2
  go_loopw [8] (fun i wr => ∃ k : Nat, k ≤ xs.length ∧ i = .int .i64 k ∧ (∀ j (h : j < xs.length), j < k → valOk xs[j] = true) ∧ Below w.heap.size w wr) (fun i _ => xs.length - (intOf i).toNat)
  case atStart => exact ⟨0, Nat.zero_le _, rfl, fun j _ h => absurd h (by omega), Below.refl _ _⟩
  case round =>
    obtain ⟨k, hk, rfl, hall, hbel⟩ := hrel
    have HA := Lib.hid hall; clear hall
    by_cases hlt : k < xs.length
    · obtain ⟨rfl, hbs⟩ := ha (by omega)
      have hc1 := hca k (by simpa [ints] using hlt)
      rw [ints_get] at hc1
      have hc1 := (hbel.cell (p := ⟨b, off + k, none⟩) hbs).trans hc1
      clear hca ha
      generalize hx : xs[k] = x at hc1
      have HX := Lib.hid hx; clear hx
      go_wp2_with fail
      refine (notVal_any x _).mono ?_
      rintro e w1 ⟨rfl, hb⟩
      have hb2 := btr hbel hb
      cases hok : valOk x with
      | true =>
        have HO := Lib.hid hok; clear hok hb hbel
        go_wp2
        go_roundw
        case rel => exact ⟨k + 1, by omega, by go_num, all_succ (P := fun j x => valOk x = true) hlt HA.out (by rw [HX.out]; exact HO.out), hb2⟩
        case measure => simp [intOf]; omega
      | false =>
        have HO := Lib.hid hok; clear hok hb hbel
        go_wp2
        go_ret
        exact ⟨(k : Int), rfl, by rw [vals_no hlt (by rw [HX.out]; exact HO.out)]; simp, hb2⟩
    · go_wp2
      go_ret
      exact ⟨-1, rfl, by rw [vals_all (fun j h => HA.out j h (by omega))]; rfl, hbel⟩
theorem hasVal_any (v : Value) (xs : List Int) (w : World) (hr : Reads w 1 v xs.length (ints xs)) :
    Calls Try.prog 154 #[v, .func (.func 155) #[] #[]] w fun e w' => e = .returned (.bool (!valsOk xs)) ∧ Below w.heap.size w w' := by
  go_enter Try.func154, Try.ntmps154
  go_wp2_with fail
  refine (idxVal_any _ xs _ hr).mono ?_
  rintro e w1 ⟨r, rfl, hr1, hb⟩
  clear hr
  go_wp2
  go_ret
  exact ⟨rfl, hb⟩
theorem areValues_any (v : Value) (xs : List Int) (w : World) (hr : Reads w 1 v xs.length (ints xs)) :
    Calls Try.prog 114 #[v] w fun e w' => e = .returned (.bool (valsOk xs)) ∧ Below w.heap.size w w' := by
  go_enter Try.func114, Try.ntmps114
  go_wp2_with fail
  refine (hasVal_any _ xs _ hr).mono ?_
  rintro e w1 ⟨rfl, hb⟩
  clear hr
  go_wp2
  go_ret
  exact ⟨ret_bool (by simp), hb⟩
end Go.Proofs.Ytbglogjamfdmpaa
