/-
 Parts of the proofs of the laws FnExactDoubleLabels.
-/
import Derived.Test.YtnpidfbcbmeijaaProg
import Derived.Test.YtnpidfbcbmeijaaK
set_option linter.all false
namespace Go.Proofs.Ytnpidfbcbmeijaa
open Go.RowKit
theorem all_succ {xs:List Int} {k:Nat} {P:(j:Nat)→Int→Prop} (hk:k < xs.length) (h:∀ j (h:j < xs.length),j < k→P j xs[j]) (hx:P k xs[k]):∀ j (h:j < xs.length),j < k+1→P j xs[j]:=by
 intro j hj a0;by_cases e:j=k
 ·subst e;exact hx
 exact h j hj (by omega)
end Go.Proofs.Ytnpidfbcbmeijaa
