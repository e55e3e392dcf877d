/-
  No cell of these rows narrows 'for every input' (looked for: loops, veiled, ifaces, maps, wideKeys, modest, calm, conditions, laid).
  DERIVED. THE GIVEN ROWS OF THIS SEAT. 4 by the template 'for every input the law returns true; each argument reads behind the call as it read before'; 0 by the template 'total and deterministic' (their statements: YtnpidfbcbmeijaaGreatTotals.lean).
  GIVEN WITH THE SEED: the statements are not yours to turn. If you find one false, say at which input.
  Laid BY PROGRAM, IN A SANDBOX (cutbox-rows.mjs): the forced cells as the released guide's own fill.sh prints them over the translation 1c6efc1fd42a35e1… (all of the seat's roots in one cut). By AI agents, Wed Nov 11 2026. No macro, syntax, notation, axiom, sorry.
-/
import Derived.Test.YtnpidfbcbmeijaaGreatChecked
import GoSem.Claim
import GoSem.ClaimJoined
import GoSem.ClaimMapViews
import Derived.JoinedTies
import Derived.KernelRfl
namespace Go.Proofs.YtnpidfbcbmeijaaGreat
/- THE CELL 'sum', in the pinned program and in every row, IS THE sha256 OF THE DUMP (.gsa) THAT YtnpidfbcbmeijaaGreatProg.lean LOADS. Nothing in Lean hashes anything: it is a label: what it is worth is what the hold of that sum in a sandbox is worth. -/
noncomputable def Tryz.pinned : Pinned := { name := "ytnpidfbcbmeijaagreat", sum := "1c6efc1fd42a35e1939d61d6e9409f8cbda844e3d0116619a481baaf341a9701", checked := Tryz.checked }
namespace Rows
def none {H : Type} : Left H := { results := [], args := [] }

/-- 'laws.FnSpecFenced': WHATEVER THE INPUT: true; the input reads as it did. -/
def fnSpecFencedSpec : ChangeSpec := { name := "fnSpecFenced", fn := fun _ => fun
  | [d] => { results := [.lit (.bool true)], args := [d] }
  | _ => none }
def fnSpecFencedRow : OpenClaim := { program := "ytnpidfbcbmeijaagreat", sum := "1c6efc1fd42a35e1939d61d6e9409f8cbda844e3d0116619a481baaf341a9701", func := "loop.example/constanttime/laws.FnSpecFenced", spec := "fnSpecFenced", unfollowed := true, recurses := true, apart := false }
def FnSpecFencedSaid : Prop := fnSpecFencedRow.holds Tryz.pinned (OpenSpec.ofChange fnSpecFencedSpec)

/-- ITS FALSE NEIGHBOUR: 'it returns false'. Refute it at one input. -/
def fnSpecFencedWrong : ChangeSpec := { name := "fnSpecFenced", fn := fun _ => fun
  | [d] => { results := [.lit (.bool false)], args := [d] }
  | _ => none }
def FnSpecFencedWrongFalsely : Prop := fnSpecFencedRow.holds Tryz.pinned (OpenSpec.ofChange fnSpecFencedWrong)

/-- 'laws.FnSpecMemory': WHATEVER THE INPUT: true; the input reads as it did. -/
def fnSpecMemorySpec : ChangeSpec := { name := "fnSpecMemory", fn := fun _ => fun
  | [d] => { results := [.lit (.bool true)], args := [d] }
  | _ => none }
def fnSpecMemoryRow : OpenClaim := { program := "ytnpidfbcbmeijaagreat", sum := "1c6efc1fd42a35e1939d61d6e9409f8cbda844e3d0116619a481baaf341a9701", func := "loop.example/constanttime/laws.FnSpecMemory", spec := "fnSpecMemory", unfollowed := true, recurses := true, apart := false }
def FnSpecMemorySaid : Prop := fnSpecMemoryRow.holds Tryz.pinned (OpenSpec.ofChange fnSpecMemorySpec)

/-- ITS FALSE NEIGHBOUR: 'it returns false'. Refute it at one input. -/
def fnSpecMemoryWrong : ChangeSpec := { name := "fnSpecMemory", fn := fun _ => fun
  | [d] => { results := [.lit (.bool false)], args := [d] }
  | _ => none }
def FnSpecMemoryWrongFalsely : Prop := fnSpecMemoryRow.holds Tryz.pinned (OpenSpec.ofChange fnSpecMemoryWrong)

/-- 'laws.FnRemoveDeadLeak': WHATEVER THE INPUT: true; the input reads as it did. -/
def fnRemoveDeadLeakSpec : ChangeSpec := { name := "fnRemoveDeadLeak", fn := fun _ => fun
  | [d] => { results := [.lit (.bool true)], args := [d] }
  | _ => none }
def fnRemoveDeadLeakRow : OpenClaim := { program := "ytnpidfbcbmeijaagreat", sum := "1c6efc1fd42a35e1939d61d6e9409f8cbda844e3d0116619a481baaf341a9701", func := "loop.example/constanttime/laws.FnRemoveDeadLeak", spec := "fnRemoveDeadLeak", unfollowed := true, recurses := true, apart := false }
def FnRemoveDeadLeakSaid : Prop := fnRemoveDeadLeakRow.holds Tryz.pinned (OpenSpec.ofChange fnRemoveDeadLeakSpec)

/-- ITS FALSE NEIGHBOUR: 'it returns false'. Refute it at one input. -/
def fnRemoveDeadLeakWrong : ChangeSpec := { name := "fnRemoveDeadLeak", fn := fun _ => fun
  | [d] => { results := [.lit (.bool false)], args := [d] }
  | _ => none }
def FnRemoveDeadLeakWrongFalsely : Prop := fnRemoveDeadLeakRow.holds Tryz.pinned (OpenSpec.ofChange fnRemoveDeadLeakWrong)

/-- 'laws.FnRemoveDead': WHATEVER THE INPUT: true; the input reads as it did. -/
def fnRemoveDeadSpec : ChangeSpec := { name := "fnRemoveDead", fn := fun _ => fun
  | [d] => { results := [.lit (.bool true)], args := [d] }
  | _ => none }
def fnRemoveDeadRow : OpenClaim := { program := "ytnpidfbcbmeijaagreat", sum := "1c6efc1fd42a35e1939d61d6e9409f8cbda844e3d0116619a481baaf341a9701", func := "loop.example/constanttime/laws.FnRemoveDead", spec := "fnRemoveDead", unfollowed := true, recurses := true, apart := false }
def FnRemoveDeadSaid : Prop := fnRemoveDeadRow.holds Tryz.pinned (OpenSpec.ofChange fnRemoveDeadSpec)

/-- ITS FALSE NEIGHBOUR: 'it returns false'. Refute it at one input. -/
def fnRemoveDeadWrong : ChangeSpec := { name := "fnRemoveDead", fn := fun _ => fun
  | [d] => { results := [.lit (.bool false)], args := [d] }
  | _ => none }
def FnRemoveDeadWrongFalsely : Prop := fnRemoveDeadRow.holds Tryz.pinned (OpenSpec.ofChange fnRemoveDeadWrong)

/- THE SECOND FORM. 'bulk': how many values and letters a reading holds, each counted each time it is reached (what is shared counts as often as it is met; a slice's spare places count too). A statement '..UptoSaid' is the law's where the arguments, and the package variables that the reading takes, are together of bulk at most 1048576: NARROWER than '..Said'. Prove '..Said' where nothing that the law and all that it calls make is longer than what came in: it says more and counts as full. Else prove '..UptoSaid'. A law counts once. -/
mutual
def uptoBulk {H : Type} : DataW H → Nat
  | .lit (.string bytes) => bytes.length + 1
  | .lit _ => 1
  | .nil => 1
  | .ptr d => uptoBulk d + 1
  | .slice elems spare => uptoBulkAll elems + uptoBulkAll spare + 1
  | .agg parts => uptoBulkAll parts + 1
  | .iface _ d => uptoBulk d + 1
  | .map entries => uptoBulkEntries entries + 1
  | .held _ => 1
def uptoBulkAll {H : Type} : List (DataW H) → Nat
  | [] => 0
  | d :: r => uptoBulk d + uptoBulkAll r
def uptoBulkEntries {H : Type} : List (Lit × DataW H) → Nat
  | [] => 0
  | x :: r => uptoBulkEntry x + uptoBulkEntries r
def uptoBulkEntry {H : Type} : Lit × DataW H → Nat
  | (.string bytes, d) => bytes.length + uptoBulk d + 1
  | (_, d) => uptoBulk d + 1
 end
def uptoSmall : (H : Type) → List (DataW H) → Bool := fun _ ds => decide (uptoBulkAll ds ≤ 1048576)
def OpenSpec.upto (s : _root_.Go.ChangeSpec) : _root_.Go.OpenSpec := { _root_.Go.OpenSpec.ofChange s with cond := some uptoSmall }

/-- 'laws.FnSpecFenced', WHERE WHAT IT READS IS OF BULK AT MOST 1048576: true; the input reads as it did. -/
def fnSpecFencedUptoRow : OpenClaim := { program := "ytnpidfbcbmeijaagreat", sum := "1c6efc1fd42a35e1939d61d6e9409f8cbda844e3d0116619a481baaf341a9701", func := "loop.example/constanttime/laws.FnSpecFenced", spec := "fnSpecFenced", unfollowed := true, recurses := true, apart := false, narrowed := true }
def FnSpecFencedUptoSaid : Prop := fnSpecFencedUptoRow.holds Tryz.pinned (OpenSpec.upto fnSpecFencedSpec)

/-- 'laws.FnSpecMemory', WHERE WHAT IT READS IS OF BULK AT MOST 1048576: true; the input reads as it did. -/
def fnSpecMemoryUptoRow : OpenClaim := { program := "ytnpidfbcbmeijaagreat", sum := "1c6efc1fd42a35e1939d61d6e9409f8cbda844e3d0116619a481baaf341a9701", func := "loop.example/constanttime/laws.FnSpecMemory", spec := "fnSpecMemory", unfollowed := true, recurses := true, apart := false, narrowed := true }
def FnSpecMemoryUptoSaid : Prop := fnSpecMemoryUptoRow.holds Tryz.pinned (OpenSpec.upto fnSpecMemorySpec)

/-- 'laws.FnRemoveDeadLeak', WHERE WHAT IT READS IS OF BULK AT MOST 1048576: true; the input reads as it did. -/
def fnRemoveDeadLeakUptoRow : OpenClaim := { program := "ytnpidfbcbmeijaagreat", sum := "1c6efc1fd42a35e1939d61d6e9409f8cbda844e3d0116619a481baaf341a9701", func := "loop.example/constanttime/laws.FnRemoveDeadLeak", spec := "fnRemoveDeadLeak", unfollowed := true, recurses := true, apart := false, narrowed := true }
def FnRemoveDeadLeakUptoSaid : Prop := fnRemoveDeadLeakUptoRow.holds Tryz.pinned (OpenSpec.upto fnRemoveDeadLeakSpec)

/-- 'laws.FnRemoveDead', WHERE WHAT IT READS IS OF BULK AT MOST 1048576: true; the input reads as it did. -/
def fnRemoveDeadUptoRow : OpenClaim := { program := "ytnpidfbcbmeijaagreat", sum := "1c6efc1fd42a35e1939d61d6e9409f8cbda844e3d0116619a481baaf341a9701", func := "loop.example/constanttime/laws.FnRemoveDead", spec := "fnRemoveDead", unfollowed := true, recurses := true, apart := false, narrowed := true }
def FnRemoveDeadUptoSaid : Prop := fnRemoveDeadUptoRow.holds Tryz.pinned (OpenSpec.upto fnRemoveDeadSpec)

end Rows
end Go.Proofs.YtnpidfbcbmeijaaGreat
