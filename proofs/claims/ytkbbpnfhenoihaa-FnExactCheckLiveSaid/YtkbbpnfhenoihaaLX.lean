/-
  One row of registers covers another.
-/
import Derived.Test.YtkbbpnfhenoihaaProg
import Derived.Test.YtkbbpnfhenoihaaK
namespace Go.Proofs.Ytkbbpnfhenoihaa
open Go.RowKit

/-- every register of ys is one of xs -/
def cov (xs ys : List Bool) : Bool := (List.range ys.length).all (fun r => !(ys.getD r false) || xs.getD r false)
theorem cov_yes {xs ys : List Bool} (hl : ys.length ≤ xs.length) (h : ∀ r (h1 : r < ys.length) (h2 : r < xs.length), (ys[r] && !xs[r]) = false) : cov xs ys = true := by
  unfold cov
  rw [List.all_eq_true]
  intro r hr
  have hr' : r < ys.length := List.mem_range.1 hr
  have := h r hr' (by omega)
  revert this
  rw [List.getD_eq_getElem?_getD, List.getD_eq_getElem?_getD, List.getElem?_eq_getElem hr', List.getElem?_eq_getElem (show r < xs.length by omega)]
  simp only [Option.getD_some]
  cases ys[r] <;> cases xs[r] <;> simp
theorem cov_no {xs ys : List Bool} {r : Nat} (h1 : r < ys.length) (h2 : r < xs.length) (h : (ys[r] && !xs[r]) = true) : cov xs ys = false := by
  unfold cov
  rw [List.all_eq_false]
  refine ⟨r, List.mem_range.2 h1, ?_⟩
  revert h
  rw [List.getD_eq_getElem?_getD, List.getD_eq_getElem?_getD, List.getElem?_eq_getElem h1, List.getElem?_eq_getElem h2]
  simp only [Option.getD_some]
  cases ys[r] <;> cases xs[r] <;> simp

set_option maxHeartbeats 1600000 in
theorem covers_any (va vb : Value) (xs ys : List Bool) (w : World) (ha : Reads w 1 va xs.length (bools xs)) (hb : Reads w 1 vb ys.length (bools ys)) (hl : ys.length ≤ xs.length) (h0 : 0 < xs.length) :
    Calls Try.prog 112 #[va, vb] w fun e w' => e = .returned (.bool (cov xs ys)) ∧ w = w' := by
  obtain ⟨_, hn, a, cap, b, off, rfl, hcap, ha, hca⟩ := ha
  obtain ⟨_, hn', a', cap', b', off', rfl, hcap', ha', hcb⟩ := hb
  go_enter Try.func112, Try.ntmps112
  go_wp2
  go_loop [9] (fun i => ∃ k : Nat, k ≤ ys.length ∧ i = .int .i64 k ∧ ∀ r (h1 : r < ys.length) (h2 : r < xs.length), r < k → (ys[r] && !xs[r]) = false) (fun i => ys.length - (intOf i).toNat)
  case atStart => exact ⟨0, Nat.zero_le _, rfl, fun r _ _ h => absurd h (by omega)⟩
  case round =>
    obtain ⟨k, hk, rfl, hall⟩ := hrel
    have HA := Lib.hid hall; clear hall
    by_cases hlt : k < ys.length
    · obtain ⟨rfl, hbs⟩ := ha (by omega)
      obtain ⟨rfl, hbs'⟩ := ha' (by omega)
      have hlx : k < xs.length := by omega
      have c1 := hca k (by simpa [bools] using hlx)
      have c2 := hcb k (by simpa [bools] using hlt)
      rw [bools_get] at c1 c2
      have HN := Lib.hid (fun h => cov_no hlt hlx h)
      have HY : Hid ((ys[k] && !xs[k]) = false → ∀ r (h1 : r < ys.length) (h2 : r < xs.length), r < k + 1 → (ys[r] && !xs[r]) = false) := Lib.hid (fun h r h1 h2 hr => by
        by_cases e : r = k
        · subst e; exact h
        · exact HA.out r h1 h2 (by omega))
      have q1 : (k : Int) < (xs.length : Int) := by omega
      generalize xs[k] = p at *
      generalize ys[k] = q at *
      clear HA hca hcb ha ha'
      cases q with
      | false =>
        go_wp2
        go_round
        case rel => exact ⟨k + 1, by omega, by go_num, HY.out rfl⟩
        case measure => simp [intOf]; omega
      | true =>
        cases p with
        | true =>
          go_wp2
          go_round
          case rel => exact ⟨k + 1, by omega, by go_num, HY.out rfl⟩
          case measure => simp [intOf]; omega
        | false =>
          go_wp2
          go_ret
          exact ⟨ret_bool (HN.out rfl).symm, rfl⟩
    · have HZ := Lib.hid (cov_yes hl (fun r h1 h2 => HA.out r h1 h2 (by omega)))
      clear HA
      go_wp2
      go_ret
      exact ⟨ret_bool HZ.out.symm, rfl⟩

set_option maxHeartbeats 1600000 in
theorem l9Below_any (va vb : Value) (xs ys : List Bool) (w : World) (ha : Reads w 1 va xs.length (bools xs)) (hb : Reads w 1 vb ys.length (bools ys)) (hl : ys.length ≤ xs.length) (h0 : 0 < xs.length) :
    Calls Try.prog 106 #[vb, va] w fun e w' => e = .returned (.bool (cov xs ys)) ∧ w = w' := by
  obtain ⟨_, hn, a, cap, b, off, rfl, hcap, ha, hca⟩ := ha
  obtain ⟨_, hn', a', cap', b', off', rfl, hcap', ha', hcb⟩ := hb
  have e0 : ((xs.length : Int) == 0) = false := by simp; intro h; subst h; simp at h0
  go_enter Try.func106, Try.ntmps106
  go_wp2
  go_loop [5] (fun i => ∃ k : Nat, k ≤ ys.length ∧ i = .int .i64 k ∧ ∀ r (h1 : r < ys.length) (h2 : r < xs.length), r < k → (ys[r] && !xs[r]) = false) (fun i => ys.length - (intOf i).toNat)
  case atStart => exact ⟨0, Nat.zero_le _, rfl, fun r _ _ h => absurd h (by omega)⟩
  case round =>
    obtain ⟨k, hk, rfl, hall⟩ := hrel
    have HA := Lib.hid hall; clear hall
    by_cases hlt : k < ys.length
    · obtain ⟨rfl, hbs⟩ := ha (by omega)
      obtain ⟨rfl, hbs'⟩ := ha' (by omega)
      have hlx : k < xs.length := by omega
      have c1 := hca k (by simpa [bools] using hlx)
      have c2 := hcb k (by simpa [bools] using hlt)
      rw [bools_get] at c1 c2
      have HN := Lib.hid (fun h => cov_no hlt hlx h)
      have HY : Hid ((ys[k] && !xs[k]) = false → ∀ r (h1 : r < ys.length) (h2 : r < xs.length), r < k + 1 → (ys[r] && !xs[r]) = false) := Lib.hid (fun h r h1 h2 hr => by
        by_cases e : r = k
        · subst e; exact h
        · exact HA.out r h1 h2 (by omega))
      have q1 : (k : Int) < (xs.length : Int) := by omega
      generalize xs[k] = p at *
      generalize ys[k] = q at *
      clear HA hca hcb ha ha'
      cases q with
      | false =>
        go_wp2
        go_round
        case rel => exact ⟨k + 1, by omega, by go_num, HY.out rfl⟩
        case measure => simp [intOf]; omega
      | true =>
        cases p with
        | true =>
          go_wp2
          go_round
          case rel => exact ⟨k + 1, by omega, by go_num, HY.out rfl⟩
          case measure => simp [intOf]; omega
        | false =>
          go_wp2
          go_ret
          exact ⟨ret_bool (HN.out rfl).symm, rfl⟩
    · have HZ := Lib.hid (cov_yes hl (fun r h1 h2 => HA.out r h1 h2 (by omega)))
      clear HA
      go_wp2
      go_ret
      exact ⟨ret_bool HZ.out.symm, rfl⟩

end Go.Proofs.Ytkbbpnfhenoihaa
