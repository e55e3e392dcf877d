/-
  Parts of the proof of the law FnExactRunTime.
-/
import Derived.Test.YtbglogjamfdmpaaK
import Derived.Test.YtbglogjamfdmpaaProg
namespace Go.Proofs.Ytbglogjamfdmpaa
open Go.RowKit

def lineOk (i : Nat) (n : Int) : Bool := decide (-2 ≤ n ∧ n ≤ 3 ∧ (0 ≤ n → n % 2 = i))
def cacheOk (xs : List Int) : Bool := decide (xs.length = 2 ∧ ∀ j (h : j < xs.length), lineOk j xs[j] = true)

theorem cacheOk_false {xs : List Int} {k : Nat} (h : k < xs.length) (hf : ¬ lineOk k xs[k] = true) : false = cacheOk xs := by
  unfold cacheOk; exact (decide_eq_false (fun hh => hf (hh.2 k h))).symm
theorem cacheOk_end {xs : List Int} (hh : ∀ j (h : j < xs.length), lineOk j xs[j] = true) : (decide (xs.length = 2)) = cacheOk xs := by
  unfold cacheOk; congr 1; simp [hh]

theorem lineOk_cases {k : Nat} {n : Int} (h : ¬ lineOk k n = true) : n < -2 ∨ 3 < n ∨ (0 ≤ n ∧ ¬ n % 2 = k) := by
  unfold lineOk at h; simp at h; omega
theorem lineOk_yes {k : Nat} {n : Int} (h : lineOk k n = true) : -2 ≤ n ∧ n ≤ 3 ∧ (0 ≤ n → n % 2 = k) := by
  unfold lineOk at h; exact of_decide_eq_true h
theorem all_succ {xs : List Int} {k : Nat} {P : (j : Nat) → Int → Prop} (hk : k < xs.length) (h : ∀ j (h : j < xs.length), j < k → P j xs[j]) (hx : P k xs[k]) : ∀ j (h : j < xs.length), j < k + 1 → P j xs[j] := by
  intro j hj hlt
  by_cases e : j = k
  · subst e; exact hx
  · exact h j hj (by omega)

theorem iCacheValid_any (v : Value) (xs : List Int) (w : World) (hr : Reads w 1 v xs.length (ints xs)) :
    Calls Try.prog 162 #[.agg #[v]] w fun e w' => e = .returned (.bool (cacheOk xs)) ∧ Below w.heap.size w w' := by
  obtain ⟨_, hn, a, cap, b, off, rfl, hcap, ha, hca⟩ := hr
  go_enter Try.func162, Try.ntmps162
  go_wp2
  go_loop [8] (fun i => ∃ k : Nat, k ≤ xs.length ∧ i = .int .i64 k ∧ ∀ j (h : j < xs.length), j < k → lineOk j xs[j] = true) (fun i => xs.length - (intOf i).toNat)
  case atStart => exact ⟨0, Nat.zero_le _, rfl, fun j _ h => absurd h (by omega)⟩
  case round =>
    obtain ⟨k, hk, rfl, hall⟩ := hrel
    have HA := Lib.hid hall; clear hall
    by_cases hlt : k < xs.length
    · obtain ⟨rfl, hbs⟩ := ha (by omega)
      have hc1 := hca k (by simpa [ints] using hlt)
      rw [ints_get] at hc1
      clear hca ha
      generalize hx : xs[k] = x at hc1
      have HX := Lib.hid hx; clear hx
      by_cases hok : lineOk k x = true
      · have HO := Lib.hid hok
        obtain ⟨h1, h2, h3⟩ := lineOk_yes hok
        clear hok
        by_cases h0 : 0 ≤ x
        · have h4 : (x % 2 != (k : Int)) = false := by simp [h3 h0]
          clear h3
          go_wp2
          go_round
          case rel => exact ⟨k + 1, by omega, by go_num, all_succ (P := fun j x => lineOk j x = true) hlt HA.out (by rw [HX.out]; exact HO.out)⟩
          case measure => simp [intOf]; omega
        · clear h3
          go_wp2
          go_round
          case rel => exact ⟨k + 1, by omega, by go_num, all_succ (P := fun j x => lineOk j x = true) hlt HA.out (by rw [HX.out]; exact HO.out)⟩
          case measure => simp [intOf]; omega
      · have HO : Hid (false = cacheOk xs) := Lib.hid (cacheOk_false hlt (by rw [HX.out]; exact hok))
        by_cases h0 : -2 ≤ x ∧ x ≤ 3
        · obtain ⟨h1, h2⟩ := h0
          have h3 : 0 ≤ x ∧ ¬ x % 2 = k := by rcases lineOk_cases hok with h | h | h <;> omega
          obtain ⟨h3, h4⟩ := h3
          have h5 : (x % 2 != (k : Int)) = true := by simp [h4]
          clear hok h4
          go_wp2
          go_ret
          exact ⟨ret_bool HO.out, (Below.refl _ _).alloc (Nat.le_refl _) _⟩
        · have h1 : x < -2 ∨ 3 < x := by omega
          clear h0 hok
          rcases h1 with h1 | h1
          all_goals
            go_wp2
            go_ret
            exact ⟨ret_bool HO.out, (Below.refl _ _).alloc (Nat.le_refl _) _⟩
    · have e : k = xs.length := by omega
      subst e
      have HE : Hid (decide (xs.length = 2) = cacheOk xs) := Lib.hid (cacheOk_end (fun j h => HA.out j h h))
      clear HA
      go_wp2
      go_ret
      exact ⟨ret_bool (by rw [← HE.out, Bool.eq_iff_iff, beq_iff_eq, decide_eq_true_iff]; omega), (Below.refl _ _).alloc (Nat.le_refl _) _⟩

theorem sCacheValid_any (v : Value) (xs : List Int) (w : World) (hr : Reads w 1 v xs.length (ints xs)) :
    Calls Try.prog 156 #[.agg #[v]] w fun e w' => e = .returned (.bool (cacheOk xs)) ∧ Below w.heap.size w w' := by
  obtain ⟨_, hn, a, cap, b, off, rfl, hcap, ha, hca⟩ := hr
  by_cases hl : xs.length = 2
  · have e0 : ((xs.length : Int) != 2) = false := by rw [bne_eq_false_iff_eq]; omega
    have HL := Lib.hid hl; clear hl
    go_enter Try.func156, Try.ntmps156
    go_wp2
    go_loop [3] (fun i => ∃ k : Nat, k ≤ xs.length ∧ i = .int .i64 k ∧ ∀ j (h : j < xs.length), j < k → lineOk j xs[j] = true) (fun i => xs.length - (intOf i).toNat)
    case atStart => exact ⟨0, Nat.zero_le _, rfl, fun j _ h => absurd h (by omega)⟩
    case round =>
      obtain ⟨k, hk, rfl, hall⟩ := hrel
      have HA := Lib.hid hall; clear hall
      by_cases hlt : k < xs.length
      · obtain ⟨rfl, hbs⟩ := ha (by omega)
        have hc1 := hca k (by simpa [ints] using hlt)
        rw [ints_get] at hc1
        clear hca ha
        generalize hx : xs[k] = x at hc1
        have HX := Lib.hid hx; clear hx
        by_cases hok : lineOk k x = true
        · have HO := Lib.hid hok
          obtain ⟨h1, h2, h3⟩ := lineOk_yes hok
          clear hok
          by_cases h0 : 0 ≤ x
          · have h4 : (x % 2 != (k : Int)) = false := by simp [h3 h0]
            clear h3
            go_wp2
            go_round
            case rel => exact ⟨k + 1, by omega, by go_num, all_succ (P := fun j x => lineOk j x = true) hlt HA.out (by rw [HX.out]; exact HO.out)⟩
            case measure => simp [intOf]; omega
          · clear h3
            go_wp2
            go_round
            case rel => exact ⟨k + 1, by omega, by go_num, all_succ (P := fun j x => lineOk j x = true) hlt HA.out (by rw [HX.out]; exact HO.out)⟩
            case measure => simp [intOf]; omega
        · have HO : Hid (false = cacheOk xs) := Lib.hid (cacheOk_false hlt (by rw [HX.out]; exact hok))
          by_cases h0 : -2 ≤ x ∧ x ≤ 3
          · obtain ⟨h1, h2⟩ := h0
            have h3 : 0 ≤ x ∧ ¬ x % 2 = k := by rcases lineOk_cases hok with h | h | h <;> omega
            obtain ⟨h3, h4⟩ := h3
            have h5 : (x % 2 != (k : Int)) = true := by simp [h4]
            clear hok h4
            go_wp2
            go_ret
            exact ⟨ret_bool HO.out, (Below.refl _ _).alloc (Nat.le_refl _) _⟩
          · have h1 : x < -2 ∨ 3 < x := by omega
            clear h0 hok
            rcases h1 with h1 | h1
            all_goals
              go_wp2
              go_ret
              exact ⟨ret_bool HO.out, (Below.refl _ _).alloc (Nat.le_refl _) _⟩
      · have e : k = xs.length := by omega
        subst e
        have HE : Hid (decide (xs.length = 2) = cacheOk xs) := Lib.hid (cacheOk_end (fun j h => HA.out j h h))
        clear HA
        go_wp2
        go_ret
        exact ⟨ret_bool (by rw [← HE.out]; exact (decide_eq_true HL.out).symm), (Below.refl _ _).alloc (Nat.le_refl _) _⟩
  · have e0 : ((xs.length : Int) != 2) = true := by rw [bne_iff_ne]; omega
    have HL := Lib.hid hl; clear hl
    go_enter Try.func156, Try.ntmps156
    go_wp2
    go_ret
    exact ⟨ret_bool (by unfold cacheOk; exact (decide_eq_false (fun h => HL.out h.1)).symm), (Below.refl _ _).alloc (Nat.le_refl _) _⟩

end Go.Proofs.Ytbglogjamfdmpaa
