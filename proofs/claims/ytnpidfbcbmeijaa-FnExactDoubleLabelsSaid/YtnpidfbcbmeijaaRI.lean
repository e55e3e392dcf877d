/-
 Parts of the proofs of the laws FnExactDoubleLabels.
-/
import Derived.Test.YtnpidfbcbmeijaaCN
import Derived.Test.YtnpidfbcbmeijaaQ
import Derived.Test.YtnpidfbcbmeijaaRS
set_option linter.all false
namespace Go.Proofs.Ytnpidfbcbmeijaa
open Go.RowKit
abbrev Own2I:=Own2 ints 3 22
end Go.Proofs.Ytnpidfbcbmeijaa
