/-
 Parts of the proofs of the laws FnCheckLive, FnCodeFenced, FnEraseCode, FnEraseSecret, FnFinalRegs, FnLiveRegister, FnLiveRegs, FnSpecPath.
-/
import Derived.Test.YtkjedgnepnbkpaaC
set_option linter.all false
namespace Go.Proofs.Ytkjedgnepnbkpaa
open Go.RowKit
theorem own_made (w : World) (z : Value) (n : Nat) (e : TypeId) (h : n ≤ maxLen) : (w.alloc (.cells (madeCells #[z] n) e)).ownsRow w.heap.size e 1 (.slice (some ⟨w.heap.size, 0, none⟩) n n) n (List.replicate n z) := by
 have h := World.ownsRow_lit (base := w.heap.size) (e := e) (size := 1) w (madeCells #[z] n) n (Nat.le_refl _) h (by rw [size_madeCells, Nat.mul_one])
 rwa [toList_madeCells_one] at h
end Go.Proofs.Ytkjedgnepnbkpaa
