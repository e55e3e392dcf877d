/-
 Parts of the proofs of the laws FnCodeFenced,FnCountBranches.
-/
import Derived.Test.YtkjedgnepnbkpaaZE
set_option linter.all false
namespace Go.Proofs.Ytkjedgnepnbkpaa
open Go.RowKit
def DrawCP (w:World) (r:Ending) (w':World):Prop:=∃ (va vb vc:Value) (nv na nl:Nat),r=.returned (.agg #[va,vb,vc])∧DrawC w' w.heap.size va vb vc nv na nl∧(nv≤1000∧na≤1000∧nl≤1000)∧Below w.heap.size w w'
end Go.Proofs.Ytkjedgnepnbkpaa
