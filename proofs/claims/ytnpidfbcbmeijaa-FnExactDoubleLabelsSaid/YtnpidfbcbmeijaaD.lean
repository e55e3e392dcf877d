/-
 Parts of the proofs of the laws FnExactDoubleLabels.
-/
import Derived.Test.YtnpidfbcbmeijaaC
import Derived.Test.YtnpidfbcbmeijaaA
import Derived.Test.YtnpidfbcbmeijaaB
set_option linter.all false
namespace Go.Proofs.Ytnpidfbcbmeijaa
open Go.RowKit
theorem tInts:SliceT Try.prog 22 3 (.int .i64 0) 1 8:=⟨Try.underlying22,info_int,rfl,by omega,by omega⟩
abbrev Ev:=Int × Int
def evs:List Ev→List Value
 | []=>[]
 | e::l=>.int .i64 e.1::.int .i64 e.2::evs l
theorem evs_append (a b:List Ev):evs (a++b)=evs a++evs b:=by
 induction a with
 | nil=>rfl
 | cons e l ih=>simp [evs,ih]
end Go.Proofs.Ytnpidfbcbmeijaa
