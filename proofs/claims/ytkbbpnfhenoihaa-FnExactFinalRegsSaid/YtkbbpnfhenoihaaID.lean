/-
  Rows of ints: small laws of lists.
-/
import Derived.Test.YtkbbpnfhenoihaaRW
namespace Go.Proofs.Ytkbbpnfhenoihaa
open Go.RowKit

theorem drop_cons {α : Type} (l : List α) (k : Nat) (h : k < l.length) (a : List α) (ha : a.length = k) (y : α) : (a ++ l.drop k).set k y = (a ++ [y]) ++ l.drop (k + 1) := set_dropped a l y k ha h
theorem get_dropped {α : Type} (l : List α) (k : Nat) (h : k < l.length) (a : List α) (ha : a.length = k) (h2 : k < (a ++ l.drop k).length) : (a ++ l.drop k)[k]'h2 = l[k] := by
  rw [List.getElem_append_right (by omega)]
  simp [ha]
theorem ints_set (l : List Int) (k : Nat) (b : Int) : (ints l).set k (.int .i64 b) = ints (l.set k b) := by simp [ints, List.map_set]
theorem ints_at (l : List Int) (k : Nat) (h : k < l.length) : (ints l)[k]? = some (.int .i64 l[k]) := by simp [ints, h]
theorem ints_replicate (n : Nat) (b : Int) : ints (List.replicate n b) = List.replicate n (.int .i64 b) := by simp [ints]
end Go.Proofs.Ytkbbpnfhenoihaa
