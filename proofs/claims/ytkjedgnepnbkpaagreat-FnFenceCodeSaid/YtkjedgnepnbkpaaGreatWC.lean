/-
 Parts of the proofs of the laws FnCompactRegs,FnFenceCode,FnRunTimeSteps.
-/
import Derived.Test.YtkjedgnepnbkpaaGreatNA
set_option linter.all false
namespace Go.Proofs.YtkjedgnepnbkpaaGreat
open Go.RowKit
def pos (l:List Ins) (k:Nat):Nat:=cnt l k+(if needAt l k=true then 1 else 0)
end Go.Proofs.YtkjedgnepnbkpaaGreat
