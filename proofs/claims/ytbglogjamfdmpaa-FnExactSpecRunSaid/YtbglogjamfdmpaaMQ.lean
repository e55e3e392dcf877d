/-
  Parts of the proof of the law FnExactSpecRun.
-/
import Derived.Test.YtbglogjamfdmpaaFE
import Derived.Test.YtbglogjamfdmpaaRW
namespace Go.Proofs.Ytbglogjamfdmpaa
open Go.RowKit

theorem l3Bool_any (b : Bool) (w : World) : Calls Try.prog 187 #[.bool b] w fun e w' => e = .returned (.int .i64 (tru b)) ∧ w' = w := by
  cases b
  all_goals
    go_enter Try.func187, Try.ntmps187
    go_wp2
    go_ret
    exact ⟨rfl, rfl⟩
theorem truthS_any (b : Bool) (w : World) : Calls Try.prog 62 #[.bool b] w fun e w' => e = .returned (.int .i64 (tru b)) ∧ w' = w := by
  cases b
  all_goals
    go_enter Try.func62, Try.ntmps62
    go_wp2
    go_ret
    exact ⟨rfl, rfl⟩
theorem opr_cases {k : Int} (h : 4 ≤ k ∧ k ≤ 10) : k = 4 ∨ k = 5 ∨ k = 6 ∨ k = 7 ∨ k = 8 ∨ k = 9 ∨ k = 10 := by omega
theorem mul_small {a b : Int} (ha : 0 ≤ a ∧ a ≤ 255) (hb : 0 ≤ b ∧ b ≤ 255) : 0 ≤ a * b ∧ a * b ≤ 65025 := by
  obtain ⟨m, rfl⟩ : ∃ m : Nat, a = m := ⟨a.toNat, by omega⟩
  obtain ⟨n, rfl⟩ : ∃ n : Nat, b = n := ⟨b.toNat, by omega⟩
  have h : m * n ≤ 255 * 255 := Nat.mul_le_mul (by omega) (by omega)
  have e : ((m : Int) * (n : Int)) = ((m * n : Nat) : Int) := by simp
  rw [e]; omega
theorem mul_rem {a b : Int} (ha : 0 ≤ a ∧ a ≤ 255) (hb : 0 ≤ b ∧ b ≤ 255) : (wrap64 (a * b)).tmod 256 = (a * b) % 256 := by
  obtain ⟨h0, h1⟩ := mul_small ha hb
  have hw : wrap64 (a * b) = a * b := by unfold wrap64; omega
  rw [hw, Int.tmod_eq_emod_of_nonneg h0]

theorem address_any (a i : Int) (w : World) (ha : 0 ≤ a ∧ a ≤ 1048576) (hi : 0 ≤ i ∧ i ≤ 255) :
    Calls Try.prog 149 #[.int .i64 a, .int .i64 i] w fun e w' => e = .returned (.int .i64 (adr a i)) ∧ w' = w := by
  go_enter Try.func149, Try.ntmps149
  go_wp2
  go_ret
  exact ⟨rfl, rfl⟩

theorem l3Address_any (a i : Int) (w : World) (ha : 0 ≤ a ∧ a ≤ 1048576) (hi : 0 ≤ i ∧ i ≤ 255) :
    Calls Try.prog 151 #[.int .i64 a, .int .i64 i] w fun e w' => e = .returned (.int .i64 (adr a i)) ∧ w' = w := by
  go_enter Try.func151, Try.ntmps151
  go_wp2
  go_ret
  exact ⟨rfl, rfl⟩

set_option maxHeartbeats 3200000 in
theorem operate_any (k a b : Int) (w : World) (hk : 4 ≤ k ∧ k ≤ 10) (ha : 0 ≤ a ∧ a ≤ 255) (hb : 0 ≤ b ∧ b ≤ 255) :
    Calls Try.prog 150 #[.int .i64 k, .int .i64 a, .int .i64 b] w fun e w' => e = .returned (.int .i64 (opr k a b)) ∧ w' = w := by
  have HM := Lib.hid (mul_rem ha hb)
  rcases opr_cases hk with rfl | rfl | rfl | rfl | rfl | rfl | rfl
  · clear hk
    go_enter Try.func150, Try.ntmps150
    go_wp2
    go_ret
    exact ⟨rfl, rfl⟩
  · clear hk
    go_enter Try.func150, Try.ntmps150
    go_wp2
    go_ret
    exact ⟨rfl, rfl⟩
  · clear hk
    go_enter Try.func150, Try.ntmps150
    go_wp2
    go_ret
    exact ⟨ret_int HM.out, rfl⟩
  · clear hk
    go_enter Try.func150, Try.ntmps150
    go_wp2
    go_ret
    exact ⟨rfl, rfl⟩
  · clear hk
    go_enter Try.func150, Try.ntmps150
    go_wp2
    go_ret
    exact ⟨rfl, rfl⟩
  · clear hk
    have HO : Hid (opr 9 a b = tru (a == b)) := Lib.hid rfl
    obtain ⟨q, hq⟩ : ∃ q : Bool, (a == b) = q := ⟨_, rfl⟩
    rw [hq] at HO
    go_enter Try.func150, Try.ntmps150
    go_wp2_with fail
    refine (truthS_any q _).mono ?_
    rintro e w1 ⟨rfl, rfl⟩
    clear hq
    cases q
    all_goals
      go_wp2
      go_ret
      exact ⟨ret_int HO.out.symm, rfl⟩
  · clear hk
    have HO : Hid (opr 10 a b = tru (decide (a < b))) := Lib.hid rfl
    obtain ⟨q, hq⟩ : ∃ q : Bool, (decide (a < b)) = q := ⟨_, rfl⟩
    rw [hq] at HO
    go_enter Try.func150, Try.ntmps150
    go_wp2_with fail
    refine (truthS_any q _).mono ?_
    rintro e w1 ⟨rfl, rfl⟩
    clear hq
    cases q
    all_goals
      go_wp2
      go_ret
      exact ⟨ret_int HO.out.symm, rfl⟩

set_option maxHeartbeats 3200000 in
theorem l3Bin_any (k a b : Int) (w : World) (hk : 4 ≤ k ∧ k ≤ 10) (ha : 0 ≤ a ∧ a ≤ 255) (hb : 0 ≤ b ∧ b ≤ 255) :
    Calls Try.prog 152 #[.int .i64 k, .int .i64 a, .int .i64 b] w fun e w' => e = .returned (.int .i64 (opr k a b)) ∧ w' = w := by
  have HM := Lib.hid (mul_rem ha hb)
  rcases opr_cases hk with rfl | rfl | rfl | rfl | rfl | rfl | rfl
  · clear hk
    go_enter Try.func152, Try.ntmps152
    go_wp2
    go_ret
    exact ⟨rfl, rfl⟩
  · clear hk
    go_enter Try.func152, Try.ntmps152
    go_wp2
    go_ret
    exact ⟨rfl, rfl⟩
  · clear hk
    go_enter Try.func152, Try.ntmps152
    go_wp2
    go_ret
    exact ⟨ret_int HM.out, rfl⟩
  · clear hk
    go_enter Try.func152, Try.ntmps152
    go_wp2
    go_ret
    exact ⟨rfl, rfl⟩
  · clear hk
    go_enter Try.func152, Try.ntmps152
    go_wp2
    go_ret
    exact ⟨rfl, rfl⟩
  · clear hk
    have HO : Hid (opr 9 a b = tru (a == b)) := Lib.hid rfl
    obtain ⟨q, hq⟩ : ∃ q : Bool, (a == b) = q := ⟨_, rfl⟩
    rw [hq] at HO
    go_enter Try.func152, Try.ntmps152
    go_wp2_with fail
    refine (l3Bool_any q _).mono ?_
    rintro e w1 ⟨rfl, rfl⟩
    clear hq
    cases q
    all_goals
      go_wp2
      go_ret
      exact ⟨ret_int HO.out.symm, rfl⟩
  · clear hk
    have HO : Hid (opr 10 a b = tru (decide (a < b))) := Lib.hid rfl
    obtain ⟨q, hq⟩ : ∃ q : Bool, (decide (a < b)) = q := ⟨_, rfl⟩
    rw [hq] at HO
    go_enter Try.func152, Try.ntmps152
    go_wp2_with fail
    refine (l3Bool_any q _).mono ?_
    rintro e w1 ⟨rfl, rfl⟩
    clear hq
    cases q
    all_goals
      go_wp2
      go_ret
      exact ⟨ret_int HO.out.symm, rfl⟩
end Go.Proofs.Ytbglogjamfdmpaa
namespace Go.Proofs.Ytbglogjamfdmpaa
open Go.RowKit

theorem ints_set (l : List Int) (k : Nat) (b : Int) : (ints l).set k (.int .i64 b) = ints (l.set k b) := by simp [ints, List.map_set]
theorem ints_at (l : List Int) (k : Nat) (h : k < l.length) : (ints l)[k]? = some (.int .i64 l[k]) := by simp [ints, h]
theorem ints_replicate (n : Nat) (b : Int) : ints (List.replicate n b) = List.replicate n (.int .i64 b) := by simp [ints]
end Go.Proofs.Ytbglogjamfdmpaa
