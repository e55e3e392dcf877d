/-
 Parts of the proofs of the laws FnCheckLive, FnCodeFenced, FnEraseCode, FnEraseSecret, FnFinalRegs, FnLiveRegister, FnLiveRegs, FnSpecPath.
-/
import Derived.Test.YtkjedgnepnbkpaaVV
set_option linter.all false
namespace Go.Proofs.Ytkjedgnepnbkpaa
open Go.RowKit
theorem insOk_op {nv na nl : Nat} {x : Ins} (h : insOk nv na nl x = true) : 1 ≤ x.op ∧ x.op ≤ 13 := by
 unfold insOk at h
 simp only [Bool.and_eq_true] at h
 exact of_decide_eq_true h.1
end Go.Proofs.Ytkjedgnepnbkpaa
namespace Go.Proofs.Ytkjedgnepnbkpaa
open Go.RowKit Go.ChangeShapes Go.WideShapes Go.Deep Go.Joins
theorem Reads2.lenle {α : Type} {f : List α → List Value} {w : World} {v : Value} {rs : List (List α)} (h : Reads2 f w v rs) : rs.length ≤ 9223372036854775807 := by
 obtain ⟨vs, h1, h2⟩ := h
 exact h1.2.1
end Go.Proofs.Ytkjedgnepnbkpaa
