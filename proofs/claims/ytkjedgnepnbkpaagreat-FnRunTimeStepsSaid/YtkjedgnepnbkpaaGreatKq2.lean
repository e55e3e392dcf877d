/-
 Parts of the proofs of the laws FnCompactRegs,FnFenceCode,FnRunTimeSteps.
-/
import Derived.Test.YtkjedgnepnbkpaaGreatK
set_option linter.all false
namespace Go.Proofs.YtkjedgnepnbkpaaGreat
open Go.RowKit
theorem ints_length (xs:List Int):(ints xs).length=xs.length:=by simp [ints]
end Go.Proofs.YtkjedgnepnbkpaaGreat
