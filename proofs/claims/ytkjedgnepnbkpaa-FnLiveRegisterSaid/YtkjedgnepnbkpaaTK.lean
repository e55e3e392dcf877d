/-
 Parts of the proofs of the laws FnCheckLive, FnCodeFenced, FnEraseCode, FnEraseSecret, FnFinalRegs, FnLiveRegister, FnLiveRegs, FnSpecPath.
-/
import Derived.Test.YtkjedgnepnbkpaaZN
set_option linter.all false
namespace Go.Proofs.Ytkjedgnepnbkpaa
open Go.RowKit
theorem Bk.g4 {w : World} {b : Nat} {x0 x1 x2 x3 : Value} (h : Bk w b [x0, x1, x2, x3]) : w.cell? ⟨b, 0, none⟩ = some x0 ∧ w.cell? ⟨b, 1, none⟩ = some x1 ∧ w.cell? ⟨b, 2, none⟩ = some x2 ∧ w.cell? ⟨b, 3, none⟩ = some x3 := ⟨h.cell 0 rfl, h.cell 1 rfl, h.cell 2 rfl, h.cell 3 rfl⟩
end Go.Proofs.Ytkjedgnepnbkpaa
namespace Go.Proofs.Ytkjedgnepnbkpaa
open Go.RowKit
def DrawCSP (w : World) (r : Ending) (w' : World) : Prop := ∃ (va vb vc ur ux uy : Value) (nv na nl : Nat) (s : Ms), r = .returned (.tuple #[.agg #[va, vb, vc], .agg #[.int .i64 s.pc, ur, ux, uy]]) ∧ DrawC w' w.heap.size va vb vc nv na nl ∧ (nv ≤ 1000 ∧ na ≤ 1000 ∧ nl ≤ 1000) ∧ DrS w' w.heap.size ur ux uy s ∧ Below w.heap.size w w'
end Go.Proofs.Ytkjedgnepnbkpaa
