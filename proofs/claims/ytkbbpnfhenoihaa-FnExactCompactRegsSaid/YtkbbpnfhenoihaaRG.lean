/-
  Registers in the order of their first occurrence: plain, and the program's search of a row of ints.
-/
import Derived.Test.YtkbbpnfhenoihaaProg
import Derived.Test.YtkbbpnfhenoihaaK
namespace Go.Proofs.Ytkbbpnfhenoihaa
open Go.RowKit

/-- where r stands in a row, -1 if it does not -/
def idxI (xs : List Int) (r : Int) : Int := match xs.findIdx? (fun x => x == r) with | some k => (k : Int) | none => -1
/-- the order of first occurrence, one register more -/
def ordS (O : List Int) (r : Int) : List Int := if O.contains r then O else O ++ [r]
theorem idxI_at {xs : List Int} {r : Int} {k : Nat} (hk : k < xs.length) (h : xs[k] = r) (hb : ∀ j (h : j < xs.length), j < k → ¬ xs[j] = r) : idxI xs r = k := by
  unfold idxI
  rw [show xs.findIdx? (fun x => x == r) = some k from by
    rw [List.findIdx?_eq_some_iff_getElem]
    exact ⟨hk, by simpa using h, fun j hj => by simpa using hb j (by omega) hj⟩]
theorem idxI_no {xs : List Int} {r : Int} (hb : ∀ j (h : j < xs.length), ¬ xs[j] = r) : idxI xs r = -1 := by
  unfold idxI
  rw [show xs.findIdx? (fun x => x == r) = none from by
    rw [List.findIdx?_eq_none_iff]
    intro x hx
    obtain ⟨j, hj, rfl⟩ := List.getElem_of_mem hx
    simpa using hb j hj]
theorem idxI_has (xs : List Int) (r : Int) : decide (0 ≤ idxI xs r) = xs.contains r := by
  unfold idxI
  cases h : xs.findIdx? (fun x => x == r) with
  | some k =>
    obtain ⟨hk, h1, _⟩ := List.findIdx?_eq_some_iff_getElem.1 h
    have : xs[k] = r := by simpa using h1
    rw [List.contains_iff_mem.2 (this ▸ List.getElem_mem hk)]
    simp
  | none =>
    rw [List.findIdx?_eq_none_iff] at h
    have : ¬ r ∈ xs := fun hm => by have := h r hm; simp at this
    rw [show xs.contains r = false from by simpa using this]
    rfl

theorem indexI_any (v : Value) (xs : List Int) (r : Int) (w : World) (hr : Reads w 1 v xs.length (ints xs)) :
    Calls Try.prog 99 #[v, .int .i64 r] w fun e w' => e = .returned (.int .i64 (idxI xs r)) ∧ w' = w := by
  obtain ⟨_, hn, a, cap, b, off, rfl, hcap, ha, hca⟩ := hr
  go_enter Try.func99, Try.ntmps99
  go_wp2
  go_loop [8] (fun i => ∃ k : Nat, k ≤ xs.length ∧ i = .int .i64 k ∧ (∀ j (h : j < xs.length), j < k → ¬ xs[j] = r)) (fun i => xs.length - (intOf i).toNat)
  case atStart => exact ⟨0, Nat.zero_le _, rfl, fun j _ h => absurd h (by omega)⟩
  case round =>
    obtain ⟨k, hk, rfl, hall⟩ := hrel
    have HA := Lib.hid hall; clear hall
    by_cases hlt : k < xs.length
    · obtain ⟨rfl, hbs⟩ := ha (by omega)
      have hc1 := hca k (by simpa [ints] using hlt)
      rw [ints_get] at hc1
      have HY := Lib.hid (fun (h : xs[k] = r) => idxI_at hlt h HA.out)
      have HN : Hid (¬ xs[k] = r → ∀ j (h : j < xs.length), j < k + 1 → ¬ xs[j] = r) := Lib.hid (fun h j hj hlt2 => by
        by_cases e : j = k
        · subst e; exact h
        · exact HA.out j hj (by omega))
      clear hca ha
      generalize xs[k] = x at *
      by_cases hxy : x = r
      · have e1 : (r == x) = true := by simp [hxy]
        have HX := Lib.hid hxy; clear hxy
        go_wp2
        go_ret
        exact ⟨ret_int (HY.out HX.out).symm, rfl⟩
      · have e1 : (r == x) = false := by simp; exact fun h => hxy h.symm
        have HX := Lib.hid hxy; clear hxy
        go_wp2
        go_round
        case rel => exact ⟨k + 1, by omega, by go_num, HN.out HX.out⟩
        case measure => simp [intOf]; omega
    · have HZ := Lib.hid (idxI_no (fun j h => HA.out j h (by omega)))
      go_wp2
      go_ret
      exact ⟨ret_int HZ.out.symm, rfl⟩
theorem containsI_any (v : Value) (xs : List Int) (r : Int) (w : World) (hr : Reads w 1 v xs.length (ints xs)) :
    Calls Try.prog 145 #[v, .int .i64 r] w fun e w' => e = .returned (.bool (xs.contains r)) ∧ w' = w := by
  go_enter Try.func145, Try.ntmps145
  go_wp2_with fail
  refine (indexI_any _ xs r _ hr).mono ?_
  rintro e w1 ⟨rfl, rfl⟩
  have HI := Lib.hid (idxI_has xs r)
  clear hr
  go_wp2
  go_ret
  exact ⟨ret_bool HI.out, rfl⟩
end Go.Proofs.Ytkbbpnfhenoihaa
