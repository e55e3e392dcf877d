import Derived.Test.YtkbbpnfhenoihaaB
namespace Go.Proofs.Ytkbbpnfhenoihaa
open Go.RowKit

theorem tInts : SliceT Try.prog 22 3 (.int .i64 0) 1 8 := ⟨Try.underlying22, info_int, rfl, by omega, by omega⟩

end Go.Proofs.Ytkbbpnfhenoihaa
