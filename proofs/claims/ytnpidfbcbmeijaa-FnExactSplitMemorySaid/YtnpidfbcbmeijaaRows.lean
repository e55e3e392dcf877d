/-
  NARROWER THAN 'FOR EVERY INPUT', by the rows' own cells (each row's printed sentence says how): FnExactDoubleLabels: loops · FnExactPairMemory: loops · FnExactSplitMemory: loops · FnExactProductProgram: loops.
  DERIVED. THE GIVEN ROWS OF THIS SEAT. 4 by the template 'for every input the law returns true; each argument reads behind the call as it read before'; 0 by the template 'total and deterministic' (their statements: YtnpidfbcbmeijaaTotals.lean).
  GIVEN WITH THE SEED: the statements are not yours to turn. If you find one false, say at which input.
  Laid BY PROGRAM, IN A SANDBOX (cutbox-rows.mjs): the forced cells as the released guide's own fill.sh prints them over the translation 8279585e4dea7cac… (all of the seat's roots in one cut). By AI agents, Wed Nov 11 2026. No macro, syntax, notation, axiom, sorry.
-/
import Derived.Test.YtnpidfbcbmeijaaChecked
import GoSem.Claim
import GoSem.ClaimJoined
import GoSem.ClaimMapViews
import Derived.JoinedTies
import Derived.KernelRfl
namespace Go.Proofs.Ytnpidfbcbmeijaa
/- THE CELL 'sum', in the pinned program and in every row, IS THE sha256 OF THE DUMP (.gsa) THAT YtnpidfbcbmeijaaProg.lean LOADS. Nothing in Lean hashes anything: it is a label: what it is worth is what the hold of that sum in a sandbox is worth. -/
noncomputable def Try.pinned : Pinned := { name := "ytnpidfbcbmeijaa", sum := "8279585e4dea7cacfe02f1dac4a90f7163565a36a9e09d7510f413ed080c62c7", checked := Try.checked }
namespace Rows
def none {H : Type} : Left H := { results := [], args := [] }

/-- 'laws.FnExactDoubleLabels': WHATEVER THE INPUT: true; the input reads as it did. -/
def fnExactDoubleLabelsSpec : ChangeSpec := { name := "fnExactDoubleLabels", fn := fun _ => fun
  | [d] => { results := [.lit (.bool true)], args := [d] }
  | _ => none }
def fnExactDoubleLabelsRow : OpenClaim := { program := "ytnpidfbcbmeijaa", sum := "8279585e4dea7cacfe02f1dac4a90f7163565a36a9e09d7510f413ed080c62c7", func := "loop.example/constanttime/laws.FnExactDoubleLabels", spec := "fnExactDoubleLabels", unfollowed := true, recurses := true, loops := true, apart := false }
def FnExactDoubleLabelsSaid : Prop := fnExactDoubleLabelsRow.holds Try.pinned (OpenSpec.ofChange fnExactDoubleLabelsSpec)

/-- ITS FALSE NEIGHBOUR: 'it returns false'. Refute it at one input. -/
def fnExactDoubleLabelsWrong : ChangeSpec := { name := "fnExactDoubleLabels", fn := fun _ => fun
  | [d] => { results := [.lit (.bool false)], args := [d] }
  | _ => none }
def FnExactDoubleLabelsWrongFalsely : Prop := fnExactDoubleLabelsRow.holds Try.pinned (OpenSpec.ofChange fnExactDoubleLabelsWrong)

/-- 'laws.FnExactPairMemory': WHATEVER THE INPUT: true; the input reads as it did. -/
def fnExactPairMemorySpec : ChangeSpec := { name := "fnExactPairMemory", fn := fun _ => fun
  | [d1, d2, d3] => { results := [.lit (.bool true)], args := [d1, d2, d3] }
  | _ => none }
def fnExactPairMemoryRow : OpenClaim := { program := "ytnpidfbcbmeijaa", sum := "8279585e4dea7cacfe02f1dac4a90f7163565a36a9e09d7510f413ed080c62c7", func := "loop.example/constanttime/laws.FnExactPairMemory", spec := "fnExactPairMemory", unfollowed := true, recurses := true, loops := true, apart := false }
def FnExactPairMemorySaid : Prop := fnExactPairMemoryRow.holds Try.pinned (OpenSpec.ofChange fnExactPairMemorySpec)

/-- ITS FALSE NEIGHBOUR: 'it returns false'. Refute it at one input. -/
def fnExactPairMemoryWrong : ChangeSpec := { name := "fnExactPairMemory", fn := fun _ => fun
  | [d1, d2, d3] => { results := [.lit (.bool false)], args := [d1, d2, d3] }
  | _ => none }
def FnExactPairMemoryWrongFalsely : Prop := fnExactPairMemoryRow.holds Try.pinned (OpenSpec.ofChange fnExactPairMemoryWrong)

/-- 'laws.FnExactSplitMemory': WHATEVER THE INPUT: true; the input reads as it did. -/
def fnExactSplitMemorySpec : ChangeSpec := { name := "fnExactSplitMemory", fn := fun _ => fun
  | [d1, d2] => { results := [.lit (.bool true)], args := [d1, d2] }
  | _ => none }
def fnExactSplitMemoryRow : OpenClaim := { program := "ytnpidfbcbmeijaa", sum := "8279585e4dea7cacfe02f1dac4a90f7163565a36a9e09d7510f413ed080c62c7", func := "loop.example/constanttime/laws.FnExactSplitMemory", spec := "fnExactSplitMemory", unfollowed := true, recurses := true, loops := true, apart := false }
def FnExactSplitMemorySaid : Prop := fnExactSplitMemoryRow.holds Try.pinned (OpenSpec.ofChange fnExactSplitMemorySpec)

/-- ITS FALSE NEIGHBOUR: 'it returns false'. Refute it at one input. -/
def fnExactSplitMemoryWrong : ChangeSpec := { name := "fnExactSplitMemory", fn := fun _ => fun
  | [d1, d2] => { results := [.lit (.bool false)], args := [d1, d2] }
  | _ => none }
def FnExactSplitMemoryWrongFalsely : Prop := fnExactSplitMemoryRow.holds Try.pinned (OpenSpec.ofChange fnExactSplitMemoryWrong)

/-- 'laws.FnExactProductProgram': WHATEVER THE INPUT: true; the input reads as it did. -/
def fnExactProductProgramSpec : ChangeSpec := { name := "fnExactProductProgram", fn := fun _ => fun
  | [d] => { results := [.lit (.bool true)], args := [d] }
  | _ => none }
def fnExactProductProgramRow : OpenClaim := { program := "ytnpidfbcbmeijaa", sum := "8279585e4dea7cacfe02f1dac4a90f7163565a36a9e09d7510f413ed080c62c7", func := "loop.example/constanttime/laws.FnExactProductProgram", spec := "fnExactProductProgram", unfollowed := true, recurses := true, loops := true, apart := false }
def FnExactProductProgramSaid : Prop := fnExactProductProgramRow.holds Try.pinned (OpenSpec.ofChange fnExactProductProgramSpec)

/-- ITS FALSE NEIGHBOUR: 'it returns false'. Refute it at one input. -/
def fnExactProductProgramWrong : ChangeSpec := { name := "fnExactProductProgram", fn := fun _ => fun
  | [d] => { results := [.lit (.bool false)], args := [d] }
  | _ => none }
def FnExactProductProgramWrongFalsely : Prop := fnExactProductProgramRow.holds Try.pinned (OpenSpec.ofChange fnExactProductProgramWrong)

/- THE SECOND FORM. 'bulk': how many values and letters a reading holds, each counted each time it is reached (what is shared counts as often as it is met; a slice's spare places count too). A statement '..UptoSaid' is the law's where the arguments, and the package variables that the reading takes, are together of bulk at most 1048576: NARROWER than '..Said'. Prove '..Said' where nothing that the law and all that it calls make is longer than what came in: it says more and counts as full. Else prove '..UptoSaid'. A law counts once. -/
mutual
def uptoBulk {H : Type} : DataW H → Nat
  | .lit (.string bytes) => bytes.length + 1
  | .lit _ => 1
  | .nil => 1
  | .ptr d => uptoBulk d + 1
  | .slice elems spare => uptoBulkAll elems + uptoBulkAll spare + 1
  | .agg parts => uptoBulkAll parts + 1
  | .iface _ d => uptoBulk d + 1
  | .map entries => uptoBulkEntries entries + 1
  | .held _ => 1
def uptoBulkAll {H : Type} : List (DataW H) → Nat
  | [] => 0
  | d :: r => uptoBulk d + uptoBulkAll r
def uptoBulkEntries {H : Type} : List (Lit × DataW H) → Nat
  | [] => 0
  | x :: r => uptoBulkEntry x + uptoBulkEntries r
def uptoBulkEntry {H : Type} : Lit × DataW H → Nat
  | (.string bytes, d) => bytes.length + uptoBulk d + 1
  | (_, d) => uptoBulk d + 1
 end
def uptoSmall : (H : Type) → List (DataW H) → Bool := fun _ ds => decide (uptoBulkAll ds ≤ 1048576)
def OpenSpec.upto (s : _root_.Go.ChangeSpec) : _root_.Go.OpenSpec := { _root_.Go.OpenSpec.ofChange s with cond := some uptoSmall }

/-- 'laws.FnExactDoubleLabels', WHERE WHAT IT READS IS OF BULK AT MOST 1048576: true; the input reads as it did. -/
def fnExactDoubleLabelsUptoRow : OpenClaim := { program := "ytnpidfbcbmeijaa", sum := "8279585e4dea7cacfe02f1dac4a90f7163565a36a9e09d7510f413ed080c62c7", func := "loop.example/constanttime/laws.FnExactDoubleLabels", spec := "fnExactDoubleLabels", unfollowed := true, recurses := true, loops := true, apart := false, narrowed := true }
def FnExactDoubleLabelsUptoSaid : Prop := fnExactDoubleLabelsUptoRow.holds Try.pinned (OpenSpec.upto fnExactDoubleLabelsSpec)

/-- 'laws.FnExactPairMemory', WHERE WHAT IT READS IS OF BULK AT MOST 1048576: true; the input reads as it did. -/
def fnExactPairMemoryUptoRow : OpenClaim := { program := "ytnpidfbcbmeijaa", sum := "8279585e4dea7cacfe02f1dac4a90f7163565a36a9e09d7510f413ed080c62c7", func := "loop.example/constanttime/laws.FnExactPairMemory", spec := "fnExactPairMemory", unfollowed := true, recurses := true, loops := true, apart := false, narrowed := true }
def FnExactPairMemoryUptoSaid : Prop := fnExactPairMemoryUptoRow.holds Try.pinned (OpenSpec.upto fnExactPairMemorySpec)

/-- 'laws.FnExactSplitMemory', WHERE WHAT IT READS IS OF BULK AT MOST 1048576: true; the input reads as it did. -/
def fnExactSplitMemoryUptoRow : OpenClaim := { program := "ytnpidfbcbmeijaa", sum := "8279585e4dea7cacfe02f1dac4a90f7163565a36a9e09d7510f413ed080c62c7", func := "loop.example/constanttime/laws.FnExactSplitMemory", spec := "fnExactSplitMemory", unfollowed := true, recurses := true, loops := true, apart := false, narrowed := true }
def FnExactSplitMemoryUptoSaid : Prop := fnExactSplitMemoryUptoRow.holds Try.pinned (OpenSpec.upto fnExactSplitMemorySpec)

/-- 'laws.FnExactProductProgram', WHERE WHAT IT READS IS OF BULK AT MOST 1048576: true; the input reads as it did. -/
def fnExactProductProgramUptoRow : OpenClaim := { program := "ytnpidfbcbmeijaa", sum := "8279585e4dea7cacfe02f1dac4a90f7163565a36a9e09d7510f413ed080c62c7", func := "loop.example/constanttime/laws.FnExactProductProgram", spec := "fnExactProductProgram", unfollowed := true, recurses := true, loops := true, apart := false, narrowed := true }
def FnExactProductProgramUptoSaid : Prop := fnExactProductProgramUptoRow.holds Try.pinned (OpenSpec.upto fnExactProductProgramSpec)

end Rows
end Go.Proofs.Ytnpidfbcbmeijaa
