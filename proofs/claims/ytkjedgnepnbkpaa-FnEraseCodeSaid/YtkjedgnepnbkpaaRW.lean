/-
 Parts of the proofs of the laws FnCheckLive, FnCodeFenced, FnEraseCode, FnEraseSecret, FnFinalRegs, FnLiveRegister, FnLiveRegs, FnSpecPath.
-/
import Derived.Test.YtkjedgnepnbkpaaNB
import Derived.Test.YtkjedgnepnbkpaaML
import Derived.Test.YtkjedgnepnbkpaaMS2
set_option linter.all false
namespace Go.Proofs.Ytkjedgnepnbkpaa
open Go.RowKit
def evc (e : Ev) : List Value := [.int .i64 e.1, .int .i64 e.2]
theorem evc_len (e : Ev) : (evc e).length = 2 := rfl
theorem evs_rows (l : List Ev) : evs l = rows evc l := by
 induction l with
 | nil => rfl
 | cons e l ih => simp [evs, rows, evc, ih]
theorem reads_Event {w : World} {b off : Nat} {l : List Ev} (hc : ∀ j (h : j < (rows evc l).length), w.cell? ⟨b, off + j, none⟩ = some (rows evc l)[j]) (k : Nat) (h : k < l.length) :
  w.cell? ⟨b, off + k * 2, none⟩ = some (.int .i64 l[k].1) ∧ w.cell? ⟨b, off + k * 2 + 1, none⟩ = some (.int .i64 l[k].2) := by
 have g := fun j hj => reads_row evc_len hc k h j hj
 refine ⟨g 0 (by omega), ?_⟩
 have := g 1 (by omega); rwa [← Nat.add_assoc] at this
end Go.Proofs.Ytkjedgnepnbkpaa
namespace Go.Proofs.Ytkjedgnepnbkpaa
open Go.RowKit
theorem OwnMv.toM {w : World} {base : Nat} {vr vv va : Value} {us : List Value} {rs : List Int} {m : Mm} (h : OwnMv w base vr vv va us rs m) : OwnM w base vv va us m := ⟨h.v, h.a, h.va⟩
end Go.Proofs.Ytkjedgnepnbkpaa
