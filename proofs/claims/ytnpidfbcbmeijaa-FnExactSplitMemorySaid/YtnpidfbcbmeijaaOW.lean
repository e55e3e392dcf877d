/-
 Parts of the proofs of the laws FnExactSplitMemory.
-/
import Derived.Test.YtnpidfbcbmeijaaQ
set_option linter.all false
namespace Go.Proofs.Ytnpidfbcbmeijaa
open Go.RowKit
theorem own_nil_rows (w:World) (e:TypeId) (sz:Nat):(w.alloc (.cells #[] e)).ownsRow w.heap.size e sz (.slice (some ⟨w.heap.size,0,none⟩) 0 0) 0 []:=
 World.ownsRow_lit (base:=w.heap.size) (e:=e) (size:=sz) w #[] 0 Lr (by unfold maxLen;omega) (by simp)
end Go.Proofs.Ytnpidfbcbmeijaa
