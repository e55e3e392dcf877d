import Derived.Test.YtkbbpnfhenoihaaL
namespace Go.Proofs.Ytkbbpnfhenoihaa
open Go.RowKit

end Go.Proofs.Ytkbbpnfhenoihaa
