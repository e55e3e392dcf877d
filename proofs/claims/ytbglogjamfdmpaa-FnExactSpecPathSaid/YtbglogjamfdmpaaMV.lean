/-
  Parts of the proof of the law FnExactSpecPath.
-/
import Derived.Test.YtbglogjamfdmpaaFE
import Derived.Test.YtbglogjamfdmpaaMC
import Derived.Test.YtbglogjamfdmpaaME
import Derived.Test.YtbglogjamfdmpaaML
import Derived.Test.YtbglogjamfdmpaaMR
import Derived.Test.YtbglogjamfdmpaaMZ
import Derived.Test.YtbglogjamfdmpaaNB
import Derived.Test.YtbglogjamfdmpaaVV


namespace Go.Proofs.Ytbglogjamfdmpaa
open Go.RowKit

theorem OwnMv.toM {w : World} {base : Nat} {vr vv va : Value} {us : List Value} {rs : List Int} {m : Mm} (h : OwnMv w base vr vv va us rs m) : OwnM w base vv va us m := ⟨h.v, h.a, h.va⟩


end Go.Proofs.Ytbglogjamfdmpaa
