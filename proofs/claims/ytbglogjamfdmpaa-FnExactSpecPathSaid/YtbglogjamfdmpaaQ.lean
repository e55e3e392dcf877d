/-
  Parts of the proof of the law FnExactSpecPath.
-/
import Derived.Test.YtbglogjamfdmpaaC
namespace Go.Proofs.Ytbglogjamfdmpaa
open Go.RowKit

theorem eqIntS_b (va vb : Value) (xs ys : List Int) (w : World) (ha : Reads w 1 va xs.length (ints xs)) (hb : Reads w 1 vb ys.length (ints ys)) :
    Calls Try.prog 64 #[va, vb] w fun e w' => e = .returned (.bool (decide (xs = ys))) ∧ Below w.heap.size w w' :=
  (eqIntS_any va vb xs ys w ha hb).mono fun _ _ ⟨h, k, hk⟩ => ⟨h, hk ▸ below_drewN' w k⟩
end Go.Proofs.Ytbglogjamfdmpaa
