import Derived.Test.YtkbbpnfhenoihaaG
namespace Go.Proofs.Ytkbbpnfhenoihaa
open Go.RowKit

end Go.Proofs.Ytkbbpnfhenoihaa
