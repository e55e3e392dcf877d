/-
  Parts of the proof of the law FnExactSpecRun.
-/
import Derived.Test.YtbglogjamfdmpaaMX
import Derived.Test.YtbglogjamfdmpaaNI
namespace Go.Proofs.Ytbglogjamfdmpaa
open Go.RowKit

def mrN (c : Cd) (s : Ms) : Mm := match runR c s with | some n => (stN c (n + 1) s).mem | none => ⟨[], []⟩
theorem mrN_some {c : Cd} {s : Ms} {n : Nat} (h : runR c s = some n) : mrN c s = (stN c (n + 1) s).mem := by unfold mrN; rw [h]
theorem mrN_none {c : Cd} {s : Ms} (h : runR c s = none) : mrN c s = ⟨[], []⟩ := by unfold mrN; rw [h]
end Go.Proofs.Ytbglogjamfdmpaa
