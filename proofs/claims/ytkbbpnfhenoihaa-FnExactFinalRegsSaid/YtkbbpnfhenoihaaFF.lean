import Derived.Test.YtkbbpnfhenoihaaT
import Derived.Test.YtkbbpnfhenoihaaZ
namespace Go.Proofs.Ytkbbpnfhenoihaa
open Go.RowKit

theorem info_ev : (Try.prog.info? 81).map (fun i => (i.zero, i.size, i.bytes)) = some (some (.agg #[.int .i64 0, .int .i64 0]), 2, 16) := by kernel_rfl
theorem tEvs : SliceT Try.prog 31 81 (.agg #[.int .i64 0, .int .i64 0]) 2 16 := ⟨Try.underlying31, info_ev, rfl, by omega, by omega⟩

theorem own_nil_made2 (w : World) (e : TypeId) : (w.alloc (.cells #[] e)).ownsRow w.heap.size e 2 (.slice (some ⟨w.heap.size, 0, none⟩) 0 0) 0 [] := by
  have h := World.ownsRow_lit (base := w.heap.size) (e := e) (size := 2) w #[] 0 (Nat.le_refl _) (by unfold maxLen; omega) (by simp)
  exact h
theorem one_ev (a b : Int) : ∀ u ∈ [Value.int .i64 a, Value.int .i64 b], u.oneCell' = true := one_evs [(a, b)]

end Go.Proofs.Ytkbbpnfhenoihaa
