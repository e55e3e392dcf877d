/-
 Parts of the proofs of the laws FnExactDoubleLabels.
-/
import Derived.Test.YtnpidfbcbmeijaaRW
set_option linter.all false
namespace Go.Proofs.Ytnpidfbcbmeijaa
open Go.RowKit
theorem ints_set (l:List Int) (k:Nat) (b:Int):(ints l).set k (.int .i64 b)=ints (l.set k b):=by simp [ints,List.map_set]
theorem ints_at (l:List Int) (k:Nat) (h:k < l.length):(ints l)[k]? = some (.int .i64 l[k]):=by simp [ints,h]
end Go.Proofs.Ytnpidfbcbmeijaa
