/-
 Parts of the proofs of the laws FnExactDoubleLabels.
-/
import Derived.Test.YtnpidfbcbmeijaaA
set_option linter.all false
namespace Go.Proofs.Ytnpidfbcbmeijaa
open Go.RowKit
theorem eqIntS_b (va vb:Value) (xs ys:List Int) (w:World) (ha:Reads w 1 va xs.length (ints xs)) (hb:Reads w 1 vb ys.length (ints ys)) :
  Calls Try.prog 32 #[va,vb] w fun e w'=>e=.returned (.bool (decide (xs=ys)))∧Below w.heap.size w w':=
 (eqIntS_any va vb xs ys w ha hb).mono fun _ _ ⟨h,k,hk⟩=>⟨h,hk ▸ below_drewN' w k⟩
end Go.Proofs.Ytnpidfbcbmeijaa
