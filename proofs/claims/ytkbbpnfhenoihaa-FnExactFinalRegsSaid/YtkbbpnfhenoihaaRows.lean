/-
  No cell of these rows narrows 'for every input' (looked for: loops, veiled, ifaces, maps, wideKeys, modest, calm, conditions, laid).
  DERIVED. THE GIVEN ROWS OF THIS SEAT. 12 by the template 'for every input the law returns true; each argument reads behind the call as it read before'; 0 by the template 'total and deterministic' (their statements: YtkbbpnfhenoihaaTotals.lean).
  GIVEN WITH THE SEED: the statements are not yours to turn. If you find one false, say at which input.
  Laid BY PROGRAM, IN A SANDBOX (cutbox-rows.mjs): the forced cells as the released guide's own fill.sh prints them over the translation fc1ae4f454556599… (all of the seat's roots in one cut). By AI agents, Wed Nov 11 2026. No macro, syntax, notation, axiom, sorry.
-/
import Derived.Test.YtkbbpnfhenoihaaChecked
import GoSem.Claim
import GoSem.ClaimJoined
import GoSem.ClaimMapViews
import Derived.JoinedTies
import Derived.KernelRfl
namespace Go.Proofs.Ytkbbpnfhenoihaa
/- THE CELL 'sum', in the pinned program and in every row, IS THE sha256 OF THE DUMP (.gsa) THAT YtkbbpnfhenoihaaProg.lean LOADS. Nothing in Lean hashes anything: it is a label: what it is worth is what the hold of that sum in a sandbox is worth. -/
noncomputable def Try.pinned : Pinned := { name := "ytkbbpnfhenoihaa", sum := "fc1ae4f4545565997f529c23bc2a16cb21ab27ad80bdba652259de2b592d531b", checked := Try.checked }
namespace Rows
def none {H : Type} : Left H := { results := [], args := [] }

/-- 'laws.FnExactTraceTime': WHATEVER THE INPUT: true; the input reads as it did. -/
def fnExactTraceTimeSpec : ChangeSpec := { name := "fnExactTraceTime", fn := fun _ => fun
  | [d1, d2] => { results := [.lit (.bool true)], args := [d1, d2] }
  | _ => none }
def fnExactTraceTimeRow : OpenClaim := { program := "ytkbbpnfhenoihaa", sum := "fc1ae4f4545565997f529c23bc2a16cb21ab27ad80bdba652259de2b592d531b", func := "loop.example/constanttime/laws.FnExactTraceTime", spec := "fnExactTraceTime", apart := false }
def FnExactTraceTimeSaid : Prop := fnExactTraceTimeRow.holds Try.pinned (OpenSpec.ofChange fnExactTraceTimeSpec)

/-- ITS FALSE NEIGHBOUR: 'it returns false'. Refute it at one input. -/
def fnExactTraceTimeWrong : ChangeSpec := { name := "fnExactTraceTime", fn := fun _ => fun
  | [d1, d2] => { results := [.lit (.bool false)], args := [d1, d2] }
  | _ => none }
def FnExactTraceTimeWrongFalsely : Prop := fnExactTraceTimeRow.holds Try.pinned (OpenSpec.ofChange fnExactTraceTimeWrong)

/-- 'laws.FnExactCacheRun': WHATEVER THE INPUT: true; the input reads as it did. -/
def fnExactCacheRunSpec : ChangeSpec := { name := "fnExactCacheRun", fn := fun _ => fun
  | [d1, d2] => { results := [.lit (.bool true)], args := [d1, d2] }
  | _ => none }
def fnExactCacheRunRow : OpenClaim := { program := "ytkbbpnfhenoihaa", sum := "fc1ae4f4545565997f529c23bc2a16cb21ab27ad80bdba652259de2b592d531b", func := "loop.example/constanttime/laws.FnExactCacheRun", spec := "fnExactCacheRun", apart := false }
def FnExactCacheRunSaid : Prop := fnExactCacheRunRow.holds Try.pinned (OpenSpec.ofChange fnExactCacheRunSpec)

/-- ITS FALSE NEIGHBOUR: 'it returns false'. Refute it at one input. -/
def fnExactCacheRunWrong : ChangeSpec := { name := "fnExactCacheRun", fn := fun _ => fun
  | [d1, d2] => { results := [.lit (.bool false)], args := [d1, d2] }
  | _ => none }
def FnExactCacheRunWrongFalsely : Prop := fnExactCacheRunRow.holds Try.pinned (OpenSpec.ofChange fnExactCacheRunWrong)

/-- 'laws.FnExactCodeFenced': WHATEVER THE INPUT: true; the input reads as it did. -/
def fnExactCodeFencedSpec : ChangeSpec := { name := "fnExactCodeFenced", fn := fun _ => fun
  | [d] => { results := [.lit (.bool true)], args := [d] }
  | _ => none }
def fnExactCodeFencedRow : OpenClaim := { program := "ytkbbpnfhenoihaa", sum := "fc1ae4f4545565997f529c23bc2a16cb21ab27ad80bdba652259de2b592d531b", func := "loop.example/constanttime/laws.FnExactCodeFenced", spec := "fnExactCodeFenced", unfollowed := true, recurses := true, apart := false }
def FnExactCodeFencedSaid : Prop := fnExactCodeFencedRow.holds Try.pinned (OpenSpec.ofChange fnExactCodeFencedSpec)

/-- ITS FALSE NEIGHBOUR: 'it returns false'. Refute it at one input. -/
def fnExactCodeFencedWrong : ChangeSpec := { name := "fnExactCodeFenced", fn := fun _ => fun
  | [d] => { results := [.lit (.bool false)], args := [d] }
  | _ => none }
def FnExactCodeFencedWrongFalsely : Prop := fnExactCodeFencedRow.holds Try.pinned (OpenSpec.ofChange fnExactCodeFencedWrong)

/-- 'laws.FnExactRegsUsed': WHATEVER THE INPUT: true; the input reads as it did. -/
def fnExactRegsUsedSpec : ChangeSpec := { name := "fnExactRegsUsed", fn := fun _ => fun
  | [d] => { results := [.lit (.bool true)], args := [d] }
  | _ => none }
def fnExactRegsUsedRow : OpenClaim := { program := "ytkbbpnfhenoihaa", sum := "fc1ae4f4545565997f529c23bc2a16cb21ab27ad80bdba652259de2b592d531b", func := "loop.example/constanttime/laws.FnExactRegsUsed", spec := "fnExactRegsUsed", unfollowed := true, recurses := true, apart := false }
def FnExactRegsUsedSaid : Prop := fnExactRegsUsedRow.holds Try.pinned (OpenSpec.ofChange fnExactRegsUsedSpec)

/-- ITS FALSE NEIGHBOUR: 'it returns false'. Refute it at one input. -/
def fnExactRegsUsedWrong : ChangeSpec := { name := "fnExactRegsUsed", fn := fun _ => fun
  | [d] => { results := [.lit (.bool false)], args := [d] }
  | _ => none }
def FnExactRegsUsedWrongFalsely : Prop := fnExactRegsUsedRow.holds Try.pinned (OpenSpec.ofChange fnExactRegsUsedWrong)

/-- 'laws.FnExactEraseCode': WHATEVER THE INPUT: true; the input reads as it did. -/
def fnExactEraseCodeSpec : ChangeSpec := { name := "fnExactEraseCode", fn := fun _ => fun
  | [d] => { results := [.lit (.bool true)], args := [d] }
  | _ => none }
def fnExactEraseCodeRow : OpenClaim := { program := "ytkbbpnfhenoihaa", sum := "fc1ae4f4545565997f529c23bc2a16cb21ab27ad80bdba652259de2b592d531b", func := "loop.example/constanttime/laws.FnExactEraseCode", spec := "fnExactEraseCode", unfollowed := true, recurses := true, apart := false }
def FnExactEraseCodeSaid : Prop := fnExactEraseCodeRow.holds Try.pinned (OpenSpec.ofChange fnExactEraseCodeSpec)

/-- ITS FALSE NEIGHBOUR: 'it returns false'. Refute it at one input. -/
def fnExactEraseCodeWrong : ChangeSpec := { name := "fnExactEraseCode", fn := fun _ => fun
  | [d] => { results := [.lit (.bool false)], args := [d] }
  | _ => none }
def FnExactEraseCodeWrongFalsely : Prop := fnExactEraseCodeRow.holds Try.pinned (OpenSpec.ofChange fnExactEraseCodeWrong)

/-- 'laws.FnExactCompactRegs': WHATEVER THE INPUT: true; the input reads as it did. -/
def fnExactCompactRegsSpec : ChangeSpec := { name := "fnExactCompactRegs", fn := fun _ => fun
  | [d] => { results := [.lit (.bool true)], args := [d] }
  | _ => none }
def fnExactCompactRegsRow : OpenClaim := { program := "ytkbbpnfhenoihaa", sum := "fc1ae4f4545565997f529c23bc2a16cb21ab27ad80bdba652259de2b592d531b", func := "loop.example/constanttime/laws.FnExactCompactRegs", spec := "fnExactCompactRegs", unfollowed := true, recurses := true, apart := false }
def FnExactCompactRegsSaid : Prop := fnExactCompactRegsRow.holds Try.pinned (OpenSpec.ofChange fnExactCompactRegsSpec)

/-- ITS FALSE NEIGHBOUR: 'it returns false'. Refute it at one input. -/
def fnExactCompactRegsWrong : ChangeSpec := { name := "fnExactCompactRegs", fn := fun _ => fun
  | [d] => { results := [.lit (.bool false)], args := [d] }
  | _ => none }
def FnExactCompactRegsWrongFalsely : Prop := fnExactCompactRegsRow.holds Try.pinned (OpenSpec.ofChange fnExactCompactRegsWrong)

/-- 'laws.FnExactFenceCode': WHATEVER THE INPUT: true; the input reads as it did. -/
def fnExactFenceCodeSpec : ChangeSpec := { name := "fnExactFenceCode", fn := fun _ => fun
  | [d] => { results := [.lit (.bool true)], args := [d] }
  | _ => none }
def fnExactFenceCodeRow : OpenClaim := { program := "ytkbbpnfhenoihaa", sum := "fc1ae4f4545565997f529c23bc2a16cb21ab27ad80bdba652259de2b592d531b", func := "loop.example/constanttime/laws.FnExactFenceCode", spec := "fnExactFenceCode", unfollowed := true, recurses := true, apart := false }
def FnExactFenceCodeSaid : Prop := fnExactFenceCodeRow.holds Try.pinned (OpenSpec.ofChange fnExactFenceCodeSpec)

/-- ITS FALSE NEIGHBOUR: 'it returns false'. Refute it at one input. -/
def fnExactFenceCodeWrong : ChangeSpec := { name := "fnExactFenceCode", fn := fun _ => fun
  | [d] => { results := [.lit (.bool false)], args := [d] }
  | _ => none }
def FnExactFenceCodeWrongFalsely : Prop := fnExactFenceCodeRow.holds Try.pinned (OpenSpec.ofChange fnExactFenceCodeWrong)

/-- 'laws.FnExactCheckLive': WHATEVER THE INPUT: true; the input reads as it did. -/
def fnExactCheckLiveSpec : ChangeSpec := { name := "fnExactCheckLive", fn := fun _ => fun
  | [d1, d2] => { results := [.lit (.bool true)], args := [d1, d2] }
  | _ => none }
def fnExactCheckLiveRow : OpenClaim := { program := "ytkbbpnfhenoihaa", sum := "fc1ae4f4545565997f529c23bc2a16cb21ab27ad80bdba652259de2b592d531b", func := "loop.example/constanttime/laws.FnExactCheckLive", spec := "fnExactCheckLive", unfollowed := true, recurses := true, apart := false }
def FnExactCheckLiveSaid : Prop := fnExactCheckLiveRow.holds Try.pinned (OpenSpec.ofChange fnExactCheckLiveSpec)

/-- ITS FALSE NEIGHBOUR: 'it returns false'. Refute it at one input. -/
def fnExactCheckLiveWrong : ChangeSpec := { name := "fnExactCheckLive", fn := fun _ => fun
  | [d1, d2] => { results := [.lit (.bool false)], args := [d1, d2] }
  | _ => none }
def FnExactCheckLiveWrongFalsely : Prop := fnExactCheckLiveRow.holds Try.pinned (OpenSpec.ofChange fnExactCheckLiveWrong)

/-- 'laws.FnExactLiveRegs': WHATEVER THE INPUT: true; the input reads as it did. -/
def fnExactLiveRegsSpec : ChangeSpec := { name := "fnExactLiveRegs", fn := fun _ => fun
  | [d] => { results := [.lit (.bool true)], args := [d] }
  | _ => none }
def fnExactLiveRegsRow : OpenClaim := { program := "ytkbbpnfhenoihaa", sum := "fc1ae4f4545565997f529c23bc2a16cb21ab27ad80bdba652259de2b592d531b", func := "loop.example/constanttime/laws.FnExactLiveRegs", spec := "fnExactLiveRegs", unfollowed := true, recurses := true, apart := false }
def FnExactLiveRegsSaid : Prop := fnExactLiveRegsRow.holds Try.pinned (OpenSpec.ofChange fnExactLiveRegsSpec)

/-- ITS FALSE NEIGHBOUR: 'it returns false'. Refute it at one input. -/
def fnExactLiveRegsWrong : ChangeSpec := { name := "fnExactLiveRegs", fn := fun _ => fun
  | [d] => { results := [.lit (.bool false)], args := [d] }
  | _ => none }
def FnExactLiveRegsWrongFalsely : Prop := fnExactLiveRegsRow.holds Try.pinned (OpenSpec.ofChange fnExactLiveRegsWrong)

/-- 'laws.FnExactRemoveDead': WHATEVER THE INPUT: true; the input reads as it did. -/
def fnExactRemoveDeadSpec : ChangeSpec := { name := "fnExactRemoveDead", fn := fun _ => fun
  | [d] => { results := [.lit (.bool true)], args := [d] }
  | _ => none }
def fnExactRemoveDeadRow : OpenClaim := { program := "ytkbbpnfhenoihaa", sum := "fc1ae4f4545565997f529c23bc2a16cb21ab27ad80bdba652259de2b592d531b", func := "loop.example/constanttime/laws.FnExactRemoveDead", spec := "fnExactRemoveDead", unfollowed := true, recurses := true, apart := false }
def FnExactRemoveDeadSaid : Prop := fnExactRemoveDeadRow.holds Try.pinned (OpenSpec.ofChange fnExactRemoveDeadSpec)

/-- ITS FALSE NEIGHBOUR: 'it returns false'. Refute it at one input. -/
def fnExactRemoveDeadWrong : ChangeSpec := { name := "fnExactRemoveDead", fn := fun _ => fun
  | [d] => { results := [.lit (.bool false)], args := [d] }
  | _ => none }
def FnExactRemoveDeadWrongFalsely : Prop := fnExactRemoveDeadRow.holds Try.pinned (OpenSpec.ofChange fnExactRemoveDeadWrong)

/-- 'laws.FnExactCountBranches': WHATEVER THE INPUT: true; the input reads as it did. -/
def fnExactCountBranchesSpec : ChangeSpec := { name := "fnExactCountBranches", fn := fun _ => fun
  | [d1, d2] => { results := [.lit (.bool true)], args := [d1, d2] }
  | _ => none }
def fnExactCountBranchesRow : OpenClaim := { program := "ytkbbpnfhenoihaa", sum := "fc1ae4f4545565997f529c23bc2a16cb21ab27ad80bdba652259de2b592d531b", func := "loop.example/constanttime/laws.FnExactCountBranches", spec := "fnExactCountBranches", unfollowed := true, recurses := true, apart := false }
def FnExactCountBranchesSaid : Prop := fnExactCountBranchesRow.holds Try.pinned (OpenSpec.ofChange fnExactCountBranchesSpec)

/-- ITS FALSE NEIGHBOUR: 'it returns false'. Refute it at one input. -/
def fnExactCountBranchesWrong : ChangeSpec := { name := "fnExactCountBranches", fn := fun _ => fun
  | [d1, d2] => { results := [.lit (.bool false)], args := [d1, d2] }
  | _ => none }
def FnExactCountBranchesWrongFalsely : Prop := fnExactCountBranchesRow.holds Try.pinned (OpenSpec.ofChange fnExactCountBranchesWrong)

/-- 'laws.FnExactFinalRegs': WHATEVER THE INPUT: true; the input reads as it did. -/
def fnExactFinalRegsSpec : ChangeSpec := { name := "fnExactFinalRegs", fn := fun _ => fun
  | [d1, d2] => { results := [.lit (.bool true)], args := [d1, d2] }
  | _ => none }
def fnExactFinalRegsRow : OpenClaim := { program := "ytkbbpnfhenoihaa", sum := "fc1ae4f4545565997f529c23bc2a16cb21ab27ad80bdba652259de2b592d531b", func := "loop.example/constanttime/laws.FnExactFinalRegs", spec := "fnExactFinalRegs", unfollowed := true, recurses := true, apart := false }
def FnExactFinalRegsSaid : Prop := fnExactFinalRegsRow.holds Try.pinned (OpenSpec.ofChange fnExactFinalRegsSpec)

/-- ITS FALSE NEIGHBOUR: 'it returns false'. Refute it at one input. -/
def fnExactFinalRegsWrong : ChangeSpec := { name := "fnExactFinalRegs", fn := fun _ => fun
  | [d1, d2] => { results := [.lit (.bool false)], args := [d1, d2] }
  | _ => none }
def FnExactFinalRegsWrongFalsely : Prop := fnExactFinalRegsRow.holds Try.pinned (OpenSpec.ofChange fnExactFinalRegsWrong)

/- THE SECOND FORM. 'bulk': how many values and letters a reading holds, each counted each time it is reached (what is shared counts as often as it is met; a slice's spare places count too). A statement '..UptoSaid' is the law's where the arguments, and the package variables that the reading takes, are together of bulk at most 1048576: NARROWER than '..Said'. Prove '..Said' where nothing that the law and all that it calls make is longer than what came in: it says more and counts as full. Else prove '..UptoSaid'. A law counts once. -/
mutual
def uptoBulk {H : Type} : DataW H → Nat
  | .lit (.string bytes) => bytes.length + 1
  | .lit _ => 1
  | .nil => 1
  | .ptr d => uptoBulk d + 1
  | .slice elems spare => uptoBulkAll elems + uptoBulkAll spare + 1
  | .agg parts => uptoBulkAll parts + 1
  | .iface _ d => uptoBulk d + 1
  | .map entries => uptoBulkEntries entries + 1
  | .held _ => 1
def uptoBulkAll {H : Type} : List (DataW H) → Nat
  | [] => 0
  | d :: r => uptoBulk d + uptoBulkAll r
def uptoBulkEntries {H : Type} : List (Lit × DataW H) → Nat
  | [] => 0
  | x :: r => uptoBulkEntry x + uptoBulkEntries r
def uptoBulkEntry {H : Type} : Lit × DataW H → Nat
  | (.string bytes, d) => bytes.length + uptoBulk d + 1
  | (_, d) => uptoBulk d + 1
 end
def uptoSmall : (H : Type) → List (DataW H) → Bool := fun _ ds => decide (uptoBulkAll ds ≤ 1048576)
def OpenSpec.upto (s : _root_.Go.ChangeSpec) : _root_.Go.OpenSpec := { _root_.Go.OpenSpec.ofChange s with cond := some uptoSmall }

/-- 'laws.FnExactTraceTime', WHERE WHAT IT READS IS OF BULK AT MOST 1048576: true; the input reads as it did. -/
def fnExactTraceTimeUptoRow : OpenClaim := { program := "ytkbbpnfhenoihaa", sum := "fc1ae4f4545565997f529c23bc2a16cb21ab27ad80bdba652259de2b592d531b", func := "loop.example/constanttime/laws.FnExactTraceTime", spec := "fnExactTraceTime", apart := false, narrowed := true }
def FnExactTraceTimeUptoSaid : Prop := fnExactTraceTimeUptoRow.holds Try.pinned (OpenSpec.upto fnExactTraceTimeSpec)

/-- 'laws.FnExactCacheRun', WHERE WHAT IT READS IS OF BULK AT MOST 1048576: true; the input reads as it did. -/
def fnExactCacheRunUptoRow : OpenClaim := { program := "ytkbbpnfhenoihaa", sum := "fc1ae4f4545565997f529c23bc2a16cb21ab27ad80bdba652259de2b592d531b", func := "loop.example/constanttime/laws.FnExactCacheRun", spec := "fnExactCacheRun", apart := false, narrowed := true }
def FnExactCacheRunUptoSaid : Prop := fnExactCacheRunUptoRow.holds Try.pinned (OpenSpec.upto fnExactCacheRunSpec)

/-- 'laws.FnExactCodeFenced', WHERE WHAT IT READS IS OF BULK AT MOST 1048576: true; the input reads as it did. -/
def fnExactCodeFencedUptoRow : OpenClaim := { program := "ytkbbpnfhenoihaa", sum := "fc1ae4f4545565997f529c23bc2a16cb21ab27ad80bdba652259de2b592d531b", func := "loop.example/constanttime/laws.FnExactCodeFenced", spec := "fnExactCodeFenced", unfollowed := true, recurses := true, apart := false, narrowed := true }
def FnExactCodeFencedUptoSaid : Prop := fnExactCodeFencedUptoRow.holds Try.pinned (OpenSpec.upto fnExactCodeFencedSpec)

/-- 'laws.FnExactRegsUsed', WHERE WHAT IT READS IS OF BULK AT MOST 1048576: true; the input reads as it did. -/
def fnExactRegsUsedUptoRow : OpenClaim := { program := "ytkbbpnfhenoihaa", sum := "fc1ae4f4545565997f529c23bc2a16cb21ab27ad80bdba652259de2b592d531b", func := "loop.example/constanttime/laws.FnExactRegsUsed", spec := "fnExactRegsUsed", unfollowed := true, recurses := true, apart := false, narrowed := true }
def FnExactRegsUsedUptoSaid : Prop := fnExactRegsUsedUptoRow.holds Try.pinned (OpenSpec.upto fnExactRegsUsedSpec)

/-- 'laws.FnExactEraseCode', WHERE WHAT IT READS IS OF BULK AT MOST 1048576: true; the input reads as it did. -/
def fnExactEraseCodeUptoRow : OpenClaim := { program := "ytkbbpnfhenoihaa", sum := "fc1ae4f4545565997f529c23bc2a16cb21ab27ad80bdba652259de2b592d531b", func := "loop.example/constanttime/laws.FnExactEraseCode", spec := "fnExactEraseCode", unfollowed := true, recurses := true, apart := false, narrowed := true }
def FnExactEraseCodeUptoSaid : Prop := fnExactEraseCodeUptoRow.holds Try.pinned (OpenSpec.upto fnExactEraseCodeSpec)

/-- 'laws.FnExactCompactRegs', WHERE WHAT IT READS IS OF BULK AT MOST 1048576: true; the input reads as it did. -/
def fnExactCompactRegsUptoRow : OpenClaim := { program := "ytkbbpnfhenoihaa", sum := "fc1ae4f4545565997f529c23bc2a16cb21ab27ad80bdba652259de2b592d531b", func := "loop.example/constanttime/laws.FnExactCompactRegs", spec := "fnExactCompactRegs", unfollowed := true, recurses := true, apart := false, narrowed := true }
def FnExactCompactRegsUptoSaid : Prop := fnExactCompactRegsUptoRow.holds Try.pinned (OpenSpec.upto fnExactCompactRegsSpec)

/-- 'laws.FnExactFenceCode', WHERE WHAT IT READS IS OF BULK AT MOST 1048576: true; the input reads as it did. -/
def fnExactFenceCodeUptoRow : OpenClaim := { program := "ytkbbpnfhenoihaa", sum := "fc1ae4f4545565997f529c23bc2a16cb21ab27ad80bdba652259de2b592d531b", func := "loop.example/constanttime/laws.FnExactFenceCode", spec := "fnExactFenceCode", unfollowed := true, recurses := true, apart := false, narrowed := true }
def FnExactFenceCodeUptoSaid : Prop := fnExactFenceCodeUptoRow.holds Try.pinned (OpenSpec.upto fnExactFenceCodeSpec)

/-- 'laws.FnExactCheckLive', WHERE WHAT IT READS IS OF BULK AT MOST 1048576: true; the input reads as it did. -/
def fnExactCheckLiveUptoRow : OpenClaim := { program := "ytkbbpnfhenoihaa", sum := "fc1ae4f4545565997f529c23bc2a16cb21ab27ad80bdba652259de2b592d531b", func := "loop.example/constanttime/laws.FnExactCheckLive", spec := "fnExactCheckLive", unfollowed := true, recurses := true, apart := false, narrowed := true }
def FnExactCheckLiveUptoSaid : Prop := fnExactCheckLiveUptoRow.holds Try.pinned (OpenSpec.upto fnExactCheckLiveSpec)

/-- 'laws.FnExactLiveRegs', WHERE WHAT IT READS IS OF BULK AT MOST 1048576: true; the input reads as it did. -/
def fnExactLiveRegsUptoRow : OpenClaim := { program := "ytkbbpnfhenoihaa", sum := "fc1ae4f4545565997f529c23bc2a16cb21ab27ad80bdba652259de2b592d531b", func := "loop.example/constanttime/laws.FnExactLiveRegs", spec := "fnExactLiveRegs", unfollowed := true, recurses := true, apart := false, narrowed := true }
def FnExactLiveRegsUptoSaid : Prop := fnExactLiveRegsUptoRow.holds Try.pinned (OpenSpec.upto fnExactLiveRegsSpec)

/-- 'laws.FnExactRemoveDead', WHERE WHAT IT READS IS OF BULK AT MOST 1048576: true; the input reads as it did. -/
def fnExactRemoveDeadUptoRow : OpenClaim := { program := "ytkbbpnfhenoihaa", sum := "fc1ae4f4545565997f529c23bc2a16cb21ab27ad80bdba652259de2b592d531b", func := "loop.example/constanttime/laws.FnExactRemoveDead", spec := "fnExactRemoveDead", unfollowed := true, recurses := true, apart := false, narrowed := true }
def FnExactRemoveDeadUptoSaid : Prop := fnExactRemoveDeadUptoRow.holds Try.pinned (OpenSpec.upto fnExactRemoveDeadSpec)

/-- 'laws.FnExactCountBranches', WHERE WHAT IT READS IS OF BULK AT MOST 1048576: true; the input reads as it did. -/
def fnExactCountBranchesUptoRow : OpenClaim := { program := "ytkbbpnfhenoihaa", sum := "fc1ae4f4545565997f529c23bc2a16cb21ab27ad80bdba652259de2b592d531b", func := "loop.example/constanttime/laws.FnExactCountBranches", spec := "fnExactCountBranches", unfollowed := true, recurses := true, apart := false, narrowed := true }
def FnExactCountBranchesUptoSaid : Prop := fnExactCountBranchesUptoRow.holds Try.pinned (OpenSpec.upto fnExactCountBranchesSpec)

/-- 'laws.FnExactFinalRegs', WHERE WHAT IT READS IS OF BULK AT MOST 1048576: true; the input reads as it did. -/
def fnExactFinalRegsUptoRow : OpenClaim := { program := "ytkbbpnfhenoihaa", sum := "fc1ae4f4545565997f529c23bc2a16cb21ab27ad80bdba652259de2b592d531b", func := "loop.example/constanttime/laws.FnExactFinalRegs", spec := "fnExactFinalRegs", unfollowed := true, recurses := true, apart := false, narrowed := true }
def FnExactFinalRegsUptoSaid : Prop := fnExactFinalRegsUptoRow.holds Try.pinned (OpenSpec.upto fnExactFinalRegsSpec)

end Rows
end Go.Proofs.Ytkbbpnfhenoihaa
