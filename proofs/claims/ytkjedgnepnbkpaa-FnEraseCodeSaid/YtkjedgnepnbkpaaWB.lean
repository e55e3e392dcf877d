/-
 Parts of the proofs of the laws FnCheckLive, FnCodeFenced, FnEraseCode, FnEraseSecret, FnFinalRegs, FnLiveRegister, FnLiveRegs, FnSpecPath.
-/
import Derived.Test.YtkjedgnepnbkpaaB
import Derived.Test.YtkjedgnepnbkpaaML
import Derived.Test.YtkjedgnepnbkpaaMS2
set_option linter.all false
namespace Go.Proofs.Ytkjedgnepnbkpaa
open Go.RowKit
theorem stp_halt {x : Ins} {s : Ms} (h : x.op = 13) : stp x s = s := by
 obtain ⟨pc, r, m⟩ := s
 simp [stp, stPc, stRegs, stMem, h]
end Go.Proofs.Ytkjedgnepnbkpaa
