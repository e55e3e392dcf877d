/-
  Parts of the proof of the law FnExactSpecRun.
-/
import Derived.Test.YtbglogjamfdmpaaMV
import Derived.Test.YtbglogjamfdmpaaMZ
namespace Go.Proofs.Ytbglogjamfdmpaa
open Go.RowKit

/-- the step at which code halts in a memory -/
def finN (c : Cd) (m : Mm) : Option Nat := if goOk c m = true then runR c (ini m) else none
theorem finN_no {c : Cd} {m : Mm} (h : goOk c m = false) : finN c m = none := by unfold finN; rw [h]; rfl
theorem finN_yes {c : Cd} {m : Mm} (h : goOk c m = true) : finN c m = runR c (ini m) := by unfold finN; rw [if_pos h]

end Go.Proofs.Ytbglogjamfdmpaa
namespace Go.Proofs.Ytbglogjamfdmpaa
open Go.RowKit

def brI (b : Bool) : Int := if b = true then 1 else 0
theorem brN_succ (c : Cd) (n : Nat) (s : Ms) : (brN c (n + 1) s : Int) = (brN c n s : Int) + brI (isBr (opAt c s n)) := by
  simp only [brN, brI]; split <;> simp

end Go.Proofs.Ytbglogjamfdmpaa
