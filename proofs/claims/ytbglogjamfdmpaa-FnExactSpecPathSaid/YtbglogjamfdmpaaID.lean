/-
  Parts of the proof of the law FnExactSpecPath.
-/
import Derived.Test.YtbglogjamfdmpaaRW
namespace Go.Proofs.Ytbglogjamfdmpaa
open Go.RowKit

theorem ints_set (l : List Int) (k : Nat) (b : Int) : (ints l).set k (.int .i64 b) = ints (l.set k b) := by simp [ints, List.map_set]
theorem ints_at (l : List Int) (k : Nat) (h : k < l.length) : (ints l)[k]? = some (.int .i64 l[k]) := by simp [ints, h]
end Go.Proofs.Ytbglogjamfdmpaa
