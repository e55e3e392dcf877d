/-
 Parts of the proofs of the laws FnCheckLive, FnCodeFenced, FnEraseCode, FnEraseSecret, FnFinalRegs, FnLiveRegister, FnLiveRegs, FnSpecPath.
-/
import Derived.Test.YtkjedgnepnbkpaaMW
set_option linter.all false
namespace Go.Proofs.Ytkjedgnepnbkpaa
open Go.RowKit
theorem stN_add (c : Cd) (s : Ms) (a b : Nat) : stN c (a + b) s = stN c b (stN c a s) := by
 induction b with
 | zero => rfl
 | succ b ih => rw [show a + (b + 1) = (a + b) + 1 by omega]; simp only [stN]; rw [ih]
theorem evN_add (c : Cd) (s : Ms) (a b : Nat) : evN c (a + b) s = evN c a s ++ evN c b (stN c a s) := by
 induction b with
 | zero => simp [evN]
 | succ b ih => rw [show a + (b + 1) = (a + b) + 1 by omega]; simp only [evN]; rw [ih, stN_add, List.append_assoc]
end Go.Proofs.Ytkjedgnepnbkpaa
