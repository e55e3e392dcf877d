import Derived.Test.YtkbbpnfhenoihaaQ
import Derived.Test.YtkbbpnfhenoihaaM
namespace Go.Proofs.Ytkbbpnfhenoihaa
open Go.RowKit

def probeL (xs : List Int) : List Bool := if cacheOk xs = true then xs.map (fun n => n != -2) else []
theorem probeL_len (xs : List Int) : (probeL xs).length ≤ 2 := by
  unfold probeL; split
  · rename_i h; simp [cacheOk_len h]
  · simp
theorem one_bool1 (b : Bool) : ∀ u ∈ [Value.bool b], u.oneCell' = true := by intro u hu; simp at hu; subst hu; rfl
theorem one_int1 (b : Int) : ∀ u ∈ [Value.int .i64 b], u.oneCell' = true := by intro u hu; simp at hu; subst hu; rfl

theorem bools_snoc (xs : List Int) (f : Int → Bool) (k : Nat) (h : k < xs.length) : bools ((xs.map f).take k) ++ [.bool (f xs[k])] = bools ((xs.map f).take (k + 1)) := by
  rw [List.take_succ_eq_append_getElem (by simpa using h), bools_append]; simp [bools]

end Go.Proofs.Ytkbbpnfhenoihaa
