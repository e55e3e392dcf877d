/-
  Parts of the proof of the law FnExactCountBranches.
-/
import Derived.Test.YtbglogjamfdmpaaK
import Derived.Test.YtbglogjamfdmpaaProg
namespace Go.Proofs.Ytbglogjamfdmpaa
open Go.RowKit

theorem szIntS_any (v : Value) (n : Nat) (vs : List Value) (left : Int) (w : World) (hr : Reads w 1 v n vs) (h0 : 0 ≤ left) (h1 : left ≤ 1073741824) :
    Calls Try.prog 51 #[v, .int .i64 left] w fun e w' => e = .returned (.int .i64 (if left < n then -1 else left - n)) ∧ w' = w := by
  obtain ⟨_, hn, a, cap, b, off, rfl, _⟩ := hr
  by_cases h : left < n
  · have h2 : left - (n : Int) < 0 := by omega
    rw [if_pos h]
    clear h
    go_enter Try.func51, Try.ntmps51
    go_wp2
    go_ret
    exact ⟨rfl, rfl⟩
  · have h2 : ¬ left - (n : Int) < 0 := by omega
    rw [if_neg h]
    clear h
    go_enter Try.func51, Try.ntmps51
    go_wp2
    go_ret
    exact ⟨rfl, rfl⟩

end Go.Proofs.Ytbglogjamfdmpaa
namespace Go.Proofs.Ytbglogjamfdmpaa
open Go.RowKit

theorem all_succ {xs : List Int} {k : Nat} {P : (j : Nat) → Int → Prop} (hk : k < xs.length) (h : ∀ j (h : j < xs.length), j < k → P j xs[j]) (hx : P k xs[k]) : ∀ j (h : j < xs.length), j < k + 1 → P j xs[j] := by
  intro j hj hlt
  by_cases e : j = k
  · subst e; exact hx
  · exact h j hj (by omega)

end Go.Proofs.Ytbglogjamfdmpaa
