/-
  Parts of the proof of the law FnExactSpecPath.
-/
import Derived.Test.YtbglogjamfdmpaaK
import Derived.Test.YtbglogjamfdmpaaProg
namespace Go.Proofs.Ytbglogjamfdmpaa
open Go.RowKit

theorem all_succ {xs : List Int} {k : Nat} {P : (j : Nat) → Int → Prop} (hk : k < xs.length) (h : ∀ j (h : j < xs.length), j < k → P j xs[j]) (hx : P k xs[k]) : ∀ j (h : j < xs.length), j < k + 1 → P j xs[j] := by
  intro j hj hlt
  by_cases e : j = k
  · subst e; exact hx
  · exact h j hj (by omega)

end Go.Proofs.Ytbglogjamfdmpaa
namespace Go.Proofs.Ytbglogjamfdmpaa
open Go.RowKit

theorem eqIntS_any (va vb : Value) (xs ys : List Int) (w : World) (ha : Reads w 1 va xs.length (ints xs)) (hb : Reads w 1 vb ys.length (ints ys)) :
    Calls Try.prog 64 #[va, vb] w fun e w' => e = .returned (.bool (decide (xs = ys))) ∧ ∃ k, w' = w.drewN k := by
  obtain ⟨_, hn, a, cap, b, off, rfl, hcap, ha, hca⟩ := ha
  obtain ⟨_, hn', a', cap', b', off', rfl, hcap', ha', hcb⟩ := hb
  by_cases hl : xs.length = ys.length
  · have e0 : ((xs.length : Int) != (ys.length : Int)) = false := by simp [hl]
    have HL := Lib.hid hl; clear hl
    go_enter Try.func64, Try.ntmps64
    go_wp2
    go_loopw [5] (fun i wr => ∃ k : Nat, k ≤ xs.length ∧ i = .int .i64 k ∧ xs.take k = ys.take k ∧ ∃ d, wr = w.drewN d) (fun i _ => xs.length - (intOf i).toNat)
    case atStart => exact ⟨0, Nat.zero_le _, rfl, rfl, 0, rfl⟩
    case round =>
      obtain ⟨k, hk, rfl, he, d, rfl⟩ := hrel
      have HE := Lib.hid he; clear he
      by_cases hlt : k < xs.length
      · obtain ⟨rfl, hbs⟩ := ha (by omega)
        obtain ⟨rfl, hbs'⟩ := ha' (by have := HL.out; omega)
        have hlt' : k < ys.length := by have := HL.out; omega
        have hc1 := hca k (by simpa [ints] using hlt)
        have hc2 := hcb k (by simpa [ints] using hlt')
        rw [ints_get] at hc1 hc2
        clear hca hcb ha ha'
        by_cases hxy : xs[k] = ys[k]
        · have e1 : (xs[k] != ys[k]) = false := by simp [hxy]
          clear hxy
          go_wp2
          go_quiet (fail)
          go_wp2
          go_roundw
          case rel => exact ⟨k + 1, by omega, by go_num, take_succ_eq hlt hlt' HE.out (by simpa using e1), _, rfl⟩
          case measure => simp [intOf]; omega
        · have e1 : (xs[k] != ys[k]) = true := by simp [hxy]
          have HX := Lib.hid hxy; clear hxy
          go_wp2
          go_quiet (fail)
          go_wp2
          go_ret
          exact ⟨ret_bool (decide_eq_false (fun h => HX.out (by subst h; rfl))).symm, _, World.drewN_drewN ..⟩
      · go_wp2
        go_ret
        exact ⟨ret_bool (decide_eq_true (by have h := HE.out; rwa [List.take_of_length_le (by omega), List.take_of_length_le (by have := HL.out; omega)] at h)).symm, _, rfl⟩
  · have e0 : ((xs.length : Int) != (ys.length : Int)) = true := by simp; omega
    have HL := Lib.hid hl; clear hl
    go_enter Try.func64, Try.ntmps64
    go_wp2
    go_ret
    exact ⟨ret_bool (decide_eq_false (fun h => HL.out (by rw [h]))).symm, 0, rfl⟩
end Go.Proofs.Ytbglogjamfdmpaa
