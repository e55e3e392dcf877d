/-
 Parts of the proofs of the laws FnExactDoubleLabels.
-/
import Derived.Test.YtnpidfbcbmeijaaVP
set_option linter.all false
namespace Go.Proofs.Ytnpidfbcbmeijaa
open Go.RowKit
structure Mm where
 vals:List Int
 arrs:List (List Int)
deriving DecidableEq
structure Ms where
 pc:Int
 regs:List Int
 mem:Mm
deriving DecidableEq
def gi (xs:List Int) (i:Int):Int:=(xs[i.toNat]?).getD 0
def gr (rs:List (List Int)) (i:Int):List Int:=(rs[i.toNat]?).getD []
end Go.Proofs.Ytnpidfbcbmeijaa
