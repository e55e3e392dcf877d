/-
 Parts of the proofs of the laws FnCheckLive, FnCodeFenced, FnEraseCode, FnEraseSecret, FnFinalRegs, FnLiveRegister, FnLiveRegs, FnSpecPath.
-/
import Derived.Test.YtkjedgnepnbkpaaRB
import Derived.Test.YtkjedgnepnbkpaaB
import Derived.Test.YtkjedgnepnbkpaaKq1
set_option linter.all false
namespace Go.Proofs.Ytkjedgnepnbkpaa
open Go.RowKit
theorem mk_int (n : Nat) (h : n ≤ 1073741824) (u : World) : (Instr.makeSlice 23 (.int .i64 n) (.int .i64 n)).run Try.prog u =
  .ok (.slice (some ⟨u.heap.size, 0, none⟩) n n) (u.alloc (.cells (madeCells #[.int .i64 0] n) 3)) := by
 obtain ⟨i0, hi, a0, b0, c0⟩ := info_parts info_int
 have h := run_make (P := Try.prog) u 23 3 i0 (.int .i64 0) Try.underlying23 hi a0 .i64 .i64 n n (by omega) (Int.le_refl _) (by rw [c0]; omega) (by omega)
 rw [Int.toNat_natCast, b0, Nat.mul_one] at h
 exact h
end Go.Proofs.Ytkjedgnepnbkpaa
namespace Go.Proofs.Ytkjedgnepnbkpaa
open Go.RowKit
theorem ints_replicate (n : Nat) (b : Int) : ints (List.replicate n b) = List.replicate n (.int .i64 b) := by simp [ints]
end Go.Proofs.Ytkjedgnepnbkpaa
