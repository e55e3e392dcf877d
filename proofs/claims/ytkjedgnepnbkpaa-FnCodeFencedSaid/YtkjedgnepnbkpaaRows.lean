/-
  No cell of these rows narrows 'for every input' (looked for: loops, veiled, ifaces, maps, wideKeys, modest, calm, conditions, laid).
  DERIVED. THE GIVEN ROWS OF THIS SEAT. 9 by the template 'for every input the law returns true; each argument reads behind the call as it read before'; 0 by the template 'total and deterministic' (their statements: YtkjedgnepnbkpaaTotals.lean).
  GIVEN WITH THE SEED: the statements are not yours to turn. If you find one false, say at which input.
  Laid BY PROGRAM, IN A SANDBOX (cutbox-rows.mjs): the forced cells as the released guide's own fill.sh prints them over the translation 3acf81c0843371c9… (all of the seat's roots in one cut). By AI agents, Wed Nov 11 2026. No macro, syntax, notation, axiom, sorry.
-/
import Derived.Test.YtkjedgnepnbkpaaChecked
import GoSem.Claim
import GoSem.ClaimJoined
import GoSem.ClaimMapViews
import Derived.JoinedTies
import Derived.KernelRfl
namespace Go.Proofs.Ytkjedgnepnbkpaa
/- THE CELL 'sum', in the pinned program and in every row, IS THE sha256 OF THE DUMP (.gsa) THAT YtkjedgnepnbkpaaProg.lean LOADS. Nothing in Lean hashes anything: it is a label: what it is worth is what the hold of that sum in a sandbox is worth. -/
noncomputable def Try.pinned : Pinned := { name := "ytkjedgnepnbkpaa", sum := "3acf81c0843371c96ead0bf3eeab3453844d4f1f8320cf204d31fb9ee2ea47c1", checked := Try.checked }
namespace Rows
def none {H : Type} : Left H := { results := [], args := [] }

/-- 'laws.FnCodeFenced': WHATEVER THE INPUT: true; the input reads as it did. -/
def fnCodeFencedSpec : ChangeSpec := { name := "fnCodeFenced", fn := fun _ => fun
  | [d] => { results := [.lit (.bool true)], args := [d] }
  | _ => none }
def fnCodeFencedRow : OpenClaim := { program := "ytkjedgnepnbkpaa", sum := "3acf81c0843371c96ead0bf3eeab3453844d4f1f8320cf204d31fb9ee2ea47c1", func := "loop.example/constanttime/laws.FnCodeFenced", spec := "fnCodeFenced", unfollowed := true, recurses := true, apart := false }
def FnCodeFencedSaid : Prop := fnCodeFencedRow.holds Try.pinned (OpenSpec.ofChange fnCodeFencedSpec)

/-- ITS FALSE NEIGHBOUR: 'it returns false'. Refute it at one input. -/
def fnCodeFencedWrong : ChangeSpec := { name := "fnCodeFenced", fn := fun _ => fun
  | [d] => { results := [.lit (.bool false)], args := [d] }
  | _ => none }
def FnCodeFencedWrongFalsely : Prop := fnCodeFencedRow.holds Try.pinned (OpenSpec.ofChange fnCodeFencedWrong)

/-- 'laws.FnSpecPath': WHATEVER THE INPUT: true; the input reads as it did. -/
def fnSpecPathSpec : ChangeSpec := { name := "fnSpecPath", fn := fun _ => fun
  | [d] => { results := [.lit (.bool true)], args := [d] }
  | _ => none }
def fnSpecPathRow : OpenClaim := { program := "ytkjedgnepnbkpaa", sum := "3acf81c0843371c96ead0bf3eeab3453844d4f1f8320cf204d31fb9ee2ea47c1", func := "loop.example/constanttime/laws.FnSpecPath", spec := "fnSpecPath", unfollowed := true, recurses := true, apart := false }
def FnSpecPathSaid : Prop := fnSpecPathRow.holds Try.pinned (OpenSpec.ofChange fnSpecPathSpec)

/-- ITS FALSE NEIGHBOUR: 'it returns false'. Refute it at one input. -/
def fnSpecPathWrong : ChangeSpec := { name := "fnSpecPath", fn := fun _ => fun
  | [d] => { results := [.lit (.bool false)], args := [d] }
  | _ => none }
def FnSpecPathWrongFalsely : Prop := fnSpecPathRow.holds Try.pinned (OpenSpec.ofChange fnSpecPathWrong)

/-- 'laws.FnFinalRegs': WHATEVER THE INPUT: true; the input reads as it did. -/
def fnFinalRegsSpec : ChangeSpec := { name := "fnFinalRegs", fn := fun _ => fun
  | [d] => { results := [.lit (.bool true)], args := [d] }
  | _ => none }
def fnFinalRegsRow : OpenClaim := { program := "ytkjedgnepnbkpaa", sum := "3acf81c0843371c96ead0bf3eeab3453844d4f1f8320cf204d31fb9ee2ea47c1", func := "loop.example/constanttime/laws.FnFinalRegs", spec := "fnFinalRegs", unfollowed := true, recurses := true, apart := false }
def FnFinalRegsSaid : Prop := fnFinalRegsRow.holds Try.pinned (OpenSpec.ofChange fnFinalRegsSpec)

/-- ITS FALSE NEIGHBOUR: 'it returns false'. Refute it at one input. -/
def fnFinalRegsWrong : ChangeSpec := { name := "fnFinalRegs", fn := fun _ => fun
  | [d] => { results := [.lit (.bool false)], args := [d] }
  | _ => none }
def FnFinalRegsWrongFalsely : Prop := fnFinalRegsRow.holds Try.pinned (OpenSpec.ofChange fnFinalRegsWrong)

/-- 'laws.FnLiveRegs': WHATEVER THE INPUT: true; the input reads as it did. -/
def fnLiveRegsSpec : ChangeSpec := { name := "fnLiveRegs", fn := fun _ => fun
  | [d] => { results := [.lit (.bool true)], args := [d] }
  | _ => none }
def fnLiveRegsRow : OpenClaim := { program := "ytkjedgnepnbkpaa", sum := "3acf81c0843371c96ead0bf3eeab3453844d4f1f8320cf204d31fb9ee2ea47c1", func := "loop.example/constanttime/laws.FnLiveRegs", spec := "fnLiveRegs", unfollowed := true, recurses := true, apart := false }
def FnLiveRegsSaid : Prop := fnLiveRegsRow.holds Try.pinned (OpenSpec.ofChange fnLiveRegsSpec)

/-- ITS FALSE NEIGHBOUR: 'it returns false'. Refute it at one input. -/
def fnLiveRegsWrong : ChangeSpec := { name := "fnLiveRegs", fn := fun _ => fun
  | [d] => { results := [.lit (.bool false)], args := [d] }
  | _ => none }
def FnLiveRegsWrongFalsely : Prop := fnLiveRegsRow.holds Try.pinned (OpenSpec.ofChange fnLiveRegsWrong)

/-- 'laws.FnCheckLive': WHATEVER THE INPUT: true; the input reads as it did. -/
def fnCheckLiveSpec : ChangeSpec := { name := "fnCheckLive", fn := fun _ => fun
  | [d] => { results := [.lit (.bool true)], args := [d] }
  | _ => none }
def fnCheckLiveRow : OpenClaim := { program := "ytkjedgnepnbkpaa", sum := "3acf81c0843371c96ead0bf3eeab3453844d4f1f8320cf204d31fb9ee2ea47c1", func := "loop.example/constanttime/laws.FnCheckLive", spec := "fnCheckLive", unfollowed := true, recurses := true, apart := false }
def FnCheckLiveSaid : Prop := fnCheckLiveRow.holds Try.pinned (OpenSpec.ofChange fnCheckLiveSpec)

/-- ITS FALSE NEIGHBOUR: 'it returns false'. Refute it at one input. -/
def fnCheckLiveWrong : ChangeSpec := { name := "fnCheckLive", fn := fun _ => fun
  | [d] => { results := [.lit (.bool false)], args := [d] }
  | _ => none }
def FnCheckLiveWrongFalsely : Prop := fnCheckLiveRow.holds Try.pinned (OpenSpec.ofChange fnCheckLiveWrong)

/-- 'laws.FnEraseSecret': WHATEVER THE INPUT: true; the input reads as it did. -/
def fnEraseSecretSpec : ChangeSpec := { name := "fnEraseSecret", fn := fun _ => fun
  | [d] => { results := [.lit (.bool true)], args := [d] }
  | _ => none }
def fnEraseSecretRow : OpenClaim := { program := "ytkjedgnepnbkpaa", sum := "3acf81c0843371c96ead0bf3eeab3453844d4f1f8320cf204d31fb9ee2ea47c1", func := "loop.example/constanttime/laws.FnEraseSecret", spec := "fnEraseSecret", unfollowed := true, recurses := true, apart := false }
def FnEraseSecretSaid : Prop := fnEraseSecretRow.holds Try.pinned (OpenSpec.ofChange fnEraseSecretSpec)

/-- ITS FALSE NEIGHBOUR: 'it returns false'. Refute it at one input. -/
def fnEraseSecretWrong : ChangeSpec := { name := "fnEraseSecret", fn := fun _ => fun
  | [d] => { results := [.lit (.bool false)], args := [d] }
  | _ => none }
def FnEraseSecretWrongFalsely : Prop := fnEraseSecretRow.holds Try.pinned (OpenSpec.ofChange fnEraseSecretWrong)

/-- 'laws.FnEraseCode': WHATEVER THE INPUT: true; the input reads as it did. -/
def fnEraseCodeSpec : ChangeSpec := { name := "fnEraseCode", fn := fun _ => fun
  | [d] => { results := [.lit (.bool true)], args := [d] }
  | _ => none }
def fnEraseCodeRow : OpenClaim := { program := "ytkjedgnepnbkpaa", sum := "3acf81c0843371c96ead0bf3eeab3453844d4f1f8320cf204d31fb9ee2ea47c1", func := "loop.example/constanttime/laws.FnEraseCode", spec := "fnEraseCode", unfollowed := true, recurses := true, apart := false }
def FnEraseCodeSaid : Prop := fnEraseCodeRow.holds Try.pinned (OpenSpec.ofChange fnEraseCodeSpec)

/-- ITS FALSE NEIGHBOUR: 'it returns false'. Refute it at one input. -/
def fnEraseCodeWrong : ChangeSpec := { name := "fnEraseCode", fn := fun _ => fun
  | [d] => { results := [.lit (.bool false)], args := [d] }
  | _ => none }
def FnEraseCodeWrongFalsely : Prop := fnEraseCodeRow.holds Try.pinned (OpenSpec.ofChange fnEraseCodeWrong)

/-- 'laws.FnCountBranches': WHATEVER THE INPUT: true; the input reads as it did. -/
def fnCountBranchesSpec : ChangeSpec := { name := "fnCountBranches", fn := fun _ => fun
  | [d] => { results := [.lit (.bool true)], args := [d] }
  | _ => none }
def fnCountBranchesRow : OpenClaim := { program := "ytkjedgnepnbkpaa", sum := "3acf81c0843371c96ead0bf3eeab3453844d4f1f8320cf204d31fb9ee2ea47c1", func := "loop.example/constanttime/laws.FnCountBranches", spec := "fnCountBranches", unfollowed := true, recurses := true, apart := false }
def FnCountBranchesSaid : Prop := fnCountBranchesRow.holds Try.pinned (OpenSpec.ofChange fnCountBranchesSpec)

/-- ITS FALSE NEIGHBOUR: 'it returns false'. Refute it at one input. -/
def fnCountBranchesWrong : ChangeSpec := { name := "fnCountBranches", fn := fun _ => fun
  | [d] => { results := [.lit (.bool false)], args := [d] }
  | _ => none }
def FnCountBranchesWrongFalsely : Prop := fnCountBranchesRow.holds Try.pinned (OpenSpec.ofChange fnCountBranchesWrong)

/-- 'laws.FnLiveRegister': WHATEVER THE INPUT: true; the input reads as it did. -/
def fnLiveRegisterSpec : ChangeSpec := { name := "fnLiveRegister", fn := fun _ => fun
  | [d1, d2] => { results := [.lit (.bool true)], args := [d1, d2] }
  | _ => none }
def fnLiveRegisterRow : OpenClaim := { program := "ytkjedgnepnbkpaa", sum := "3acf81c0843371c96ead0bf3eeab3453844d4f1f8320cf204d31fb9ee2ea47c1", func := "loop.example/constanttime/laws.FnLiveRegister", spec := "fnLiveRegister", unfollowed := true, recurses := true, apart := false }
def FnLiveRegisterSaid : Prop := fnLiveRegisterRow.holds Try.pinned (OpenSpec.ofChange fnLiveRegisterSpec)

/-- ITS FALSE NEIGHBOUR: 'it returns false'. Refute it at one input. -/
def fnLiveRegisterWrong : ChangeSpec := { name := "fnLiveRegister", fn := fun _ => fun
  | [d1, d2] => { results := [.lit (.bool false)], args := [d1, d2] }
  | _ => none }
def FnLiveRegisterWrongFalsely : Prop := fnLiveRegisterRow.holds Try.pinned (OpenSpec.ofChange fnLiveRegisterWrong)

/- THE SECOND FORM. 'bulk': how many values and letters a reading holds, each counted each time it is reached (what is shared counts as often as it is met; a slice's spare places count too). A statement '..UptoSaid' is the law's where the arguments, and the package variables that the reading takes, are together of bulk at most 1048576: NARROWER than '..Said'. Prove '..Said' where nothing that the law and all that it calls make is longer than what came in: it says more and counts as full. Else prove '..UptoSaid'. A law counts once. -/
mutual
def uptoBulk {H : Type} : DataW H → Nat
  | .lit (.string bytes) => bytes.length + 1
  | .lit _ => 1
  | .nil => 1
  | .ptr d => uptoBulk d + 1
  | .slice elems spare => uptoBulkAll elems + uptoBulkAll spare + 1
  | .agg parts => uptoBulkAll parts + 1
  | .iface _ d => uptoBulk d + 1
  | .map entries => uptoBulkEntries entries + 1
  | .held _ => 1
def uptoBulkAll {H : Type} : List (DataW H) → Nat
  | [] => 0
  | d :: r => uptoBulk d + uptoBulkAll r
def uptoBulkEntries {H : Type} : List (Lit × DataW H) → Nat
  | [] => 0
  | x :: r => uptoBulkEntry x + uptoBulkEntries r
def uptoBulkEntry {H : Type} : Lit × DataW H → Nat
  | (.string bytes, d) => bytes.length + uptoBulk d + 1
  | (_, d) => uptoBulk d + 1
 end
def uptoSmall : (H : Type) → List (DataW H) → Bool := fun _ ds => decide (uptoBulkAll ds ≤ 1048576)
def OpenSpec.upto (s : _root_.Go.ChangeSpec) : _root_.Go.OpenSpec := { _root_.Go.OpenSpec.ofChange s with cond := some uptoSmall }

/-- 'laws.FnCodeFenced', WHERE WHAT IT READS IS OF BULK AT MOST 1048576: true; the input reads as it did. -/
def fnCodeFencedUptoRow : OpenClaim := { program := "ytkjedgnepnbkpaa", sum := "3acf81c0843371c96ead0bf3eeab3453844d4f1f8320cf204d31fb9ee2ea47c1", func := "loop.example/constanttime/laws.FnCodeFenced", spec := "fnCodeFenced", unfollowed := true, recurses := true, apart := false, narrowed := true }
def FnCodeFencedUptoSaid : Prop := fnCodeFencedUptoRow.holds Try.pinned (OpenSpec.upto fnCodeFencedSpec)

/-- 'laws.FnSpecPath', WHERE WHAT IT READS IS OF BULK AT MOST 1048576: true; the input reads as it did. -/
def fnSpecPathUptoRow : OpenClaim := { program := "ytkjedgnepnbkpaa", sum := "3acf81c0843371c96ead0bf3eeab3453844d4f1f8320cf204d31fb9ee2ea47c1", func := "loop.example/constanttime/laws.FnSpecPath", spec := "fnSpecPath", unfollowed := true, recurses := true, apart := false, narrowed := true }
def FnSpecPathUptoSaid : Prop := fnSpecPathUptoRow.holds Try.pinned (OpenSpec.upto fnSpecPathSpec)

/-- 'laws.FnFinalRegs', WHERE WHAT IT READS IS OF BULK AT MOST 1048576: true; the input reads as it did. -/
def fnFinalRegsUptoRow : OpenClaim := { program := "ytkjedgnepnbkpaa", sum := "3acf81c0843371c96ead0bf3eeab3453844d4f1f8320cf204d31fb9ee2ea47c1", func := "loop.example/constanttime/laws.FnFinalRegs", spec := "fnFinalRegs", unfollowed := true, recurses := true, apart := false, narrowed := true }
def FnFinalRegsUptoSaid : Prop := fnFinalRegsUptoRow.holds Try.pinned (OpenSpec.upto fnFinalRegsSpec)

/-- 'laws.FnLiveRegs', WHERE WHAT IT READS IS OF BULK AT MOST 1048576: true; the input reads as it did. -/
def fnLiveRegsUptoRow : OpenClaim := { program := "ytkjedgnepnbkpaa", sum := "3acf81c0843371c96ead0bf3eeab3453844d4f1f8320cf204d31fb9ee2ea47c1", func := "loop.example/constanttime/laws.FnLiveRegs", spec := "fnLiveRegs", unfollowed := true, recurses := true, apart := false, narrowed := true }
def FnLiveRegsUptoSaid : Prop := fnLiveRegsUptoRow.holds Try.pinned (OpenSpec.upto fnLiveRegsSpec)

/-- 'laws.FnCheckLive', WHERE WHAT IT READS IS OF BULK AT MOST 1048576: true; the input reads as it did. -/
def fnCheckLiveUptoRow : OpenClaim := { program := "ytkjedgnepnbkpaa", sum := "3acf81c0843371c96ead0bf3eeab3453844d4f1f8320cf204d31fb9ee2ea47c1", func := "loop.example/constanttime/laws.FnCheckLive", spec := "fnCheckLive", unfollowed := true, recurses := true, apart := false, narrowed := true }
def FnCheckLiveUptoSaid : Prop := fnCheckLiveUptoRow.holds Try.pinned (OpenSpec.upto fnCheckLiveSpec)

/-- 'laws.FnEraseSecret', WHERE WHAT IT READS IS OF BULK AT MOST 1048576: true; the input reads as it did. -/
def fnEraseSecretUptoRow : OpenClaim := { program := "ytkjedgnepnbkpaa", sum := "3acf81c0843371c96ead0bf3eeab3453844d4f1f8320cf204d31fb9ee2ea47c1", func := "loop.example/constanttime/laws.FnEraseSecret", spec := "fnEraseSecret", unfollowed := true, recurses := true, apart := false, narrowed := true }
def FnEraseSecretUptoSaid : Prop := fnEraseSecretUptoRow.holds Try.pinned (OpenSpec.upto fnEraseSecretSpec)

/-- 'laws.FnEraseCode', WHERE WHAT IT READS IS OF BULK AT MOST 1048576: true; the input reads as it did. -/
def fnEraseCodeUptoRow : OpenClaim := { program := "ytkjedgnepnbkpaa", sum := "3acf81c0843371c96ead0bf3eeab3453844d4f1f8320cf204d31fb9ee2ea47c1", func := "loop.example/constanttime/laws.FnEraseCode", spec := "fnEraseCode", unfollowed := true, recurses := true, apart := false, narrowed := true }
def FnEraseCodeUptoSaid : Prop := fnEraseCodeUptoRow.holds Try.pinned (OpenSpec.upto fnEraseCodeSpec)

/-- 'laws.FnCountBranches', WHERE WHAT IT READS IS OF BULK AT MOST 1048576: true; the input reads as it did. -/
def fnCountBranchesUptoRow : OpenClaim := { program := "ytkjedgnepnbkpaa", sum := "3acf81c0843371c96ead0bf3eeab3453844d4f1f8320cf204d31fb9ee2ea47c1", func := "loop.example/constanttime/laws.FnCountBranches", spec := "fnCountBranches", unfollowed := true, recurses := true, apart := false, narrowed := true }
def FnCountBranchesUptoSaid : Prop := fnCountBranchesUptoRow.holds Try.pinned (OpenSpec.upto fnCountBranchesSpec)

/-- 'laws.FnLiveRegister', WHERE WHAT IT READS IS OF BULK AT MOST 1048576: true; the input reads as it did. -/
def fnLiveRegisterUptoRow : OpenClaim := { program := "ytkjedgnepnbkpaa", sum := "3acf81c0843371c96ead0bf3eeab3453844d4f1f8320cf204d31fb9ee2ea47c1", func := "loop.example/constanttime/laws.FnLiveRegister", spec := "fnLiveRegister", unfollowed := true, recurses := true, apart := false, narrowed := true }
def FnLiveRegisterUptoSaid : Prop := fnLiveRegisterUptoRow.holds Try.pinned (OpenSpec.upto fnLiveRegisterSpec)

end Rows
end Go.Proofs.Ytkjedgnepnbkpaa
