import Derived.Test.YtkbbpnfhenoihaaH
namespace Go.Proofs.Ytkbbpnfhenoihaa
open Go.RowKit

end Go.Proofs.Ytkbbpnfhenoihaa
