/-
  Parts of the proof of the law FnExactCountBranches.
-/
import Derived.Test.YtbglogjamfdmpaaMV
import Derived.Test.YtbglogjamfdmpaaMZ
namespace Go.Proofs.Ytbglogjamfdmpaa
open Go.RowKit

/-- the step at which code halts in a memory -/
def finN (c : Cd) (m : Mm) : Option Nat := if goOk c m = true then runR c (ini m) else none
theorem finN_no {c : Cd} {m : Mm} (h : goOk c m = false) : finN c m = none := by unfold finN; rw [h]; rfl
theorem finN_yes {c : Cd} {m : Mm} (h : goOk c m = true) : finN c m = runR c (ini m) := by unfold finN; rw [if_pos h]

end Go.Proofs.Ytbglogjamfdmpaa
