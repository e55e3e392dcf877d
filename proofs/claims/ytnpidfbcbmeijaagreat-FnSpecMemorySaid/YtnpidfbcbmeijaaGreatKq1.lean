/-
 Parts of the proofs of the laws FnRemoveDead,FnRemoveDeadLeak,FnSpecFenced,FnSpecMemory.
-/
import Derived.Test.YtnpidfbcbmeijaaGreatK
set_option linter.all false
namespace Go.Proofs.YtnpidfbcbmeijaaGreat
open Go.RowKit
theorem ints_length (xs:List Int):(ints xs).length=xs.length:=by simp [ints]
end Go.Proofs.YtnpidfbcbmeijaaGreat
