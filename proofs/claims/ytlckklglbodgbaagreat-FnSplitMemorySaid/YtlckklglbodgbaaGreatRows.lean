/-
  No cell of these rows narrows 'for every input' (looked for: loops, veiled, ifaces, maps, wideKeys, modest, calm, conditions, laid).
  DERIVED. THE GIVEN ROWS OF THIS SEAT. 3 by the template 'for every input the law returns true; each argument reads behind the call as it read before'; 0 by the template 'total and deterministic' (their statements: YtlckklglbodgbaaGreatTotals.lean).
  GIVEN WITH THE SEED: the statements are not yours to turn. If you find one false, say at which input.
  Laid BY PROGRAM, IN A SANDBOX (cutbox-rows.mjs): the forced cells as the released guide's own fill.sh prints them over the translation ffed64bc978524e6… (all of the seat's roots in one cut). By AI agents, Wed Nov 11 2026. No macro, syntax, notation, axiom, sorry.
-/
import Derived.Test.YtlckklglbodgbaaGreatChecked
import GoSem.Claim
import GoSem.ClaimJoined
import GoSem.ClaimMapViews
import Derived.JoinedTies
import Derived.KernelRfl
namespace Go.Proofs.YtlckklglbodgbaaGreat
/- THE CELL 'sum', in the pinned program and in every row, IS THE sha256 OF THE DUMP (.gsa) THAT YtlckklglbodgbaaGreatProg.lean LOADS. Nothing in Lean hashes anything: it is a label: what it is worth is what the hold of that sum in a sandbox is worth. -/
noncomputable def Tryz.pinned : Pinned := { name := "ytlckklglbodgbaagreat", sum := "ffed64bc978524e663d732304c447e7b67d43eab2b1795a9a2fe415a0a0403fa", checked := Tryz.checked }
namespace Rows
def none {H : Type} : Left H := { results := [], args := [] }

/-- 'laws.FnPairMemory': WHATEVER THE INPUT: true; the input reads as it did. -/
def fnPairMemorySpec : ChangeSpec := { name := "fnPairMemory", fn := fun _ => fun
  | [d] => { results := [.lit (.bool true)], args := [d] }
  | _ => none }
def fnPairMemoryRow : OpenClaim := { program := "ytlckklglbodgbaagreat", sum := "ffed64bc978524e663d732304c447e7b67d43eab2b1795a9a2fe415a0a0403fa", func := "loop.example/constanttime/laws.FnPairMemory", spec := "fnPairMemory", unfollowed := true, recurses := true, apart := false }
def FnPairMemorySaid : Prop := fnPairMemoryRow.holds Tryz.pinned (OpenSpec.ofChange fnPairMemorySpec)

/-- ITS FALSE NEIGHBOUR: 'it returns false'. Refute it at one input. -/
def fnPairMemoryWrong : ChangeSpec := { name := "fnPairMemory", fn := fun _ => fun
  | [d] => { results := [.lit (.bool false)], args := [d] }
  | _ => none }
def FnPairMemoryWrongFalsely : Prop := fnPairMemoryRow.holds Tryz.pinned (OpenSpec.ofChange fnPairMemoryWrong)

/-- 'laws.FnSplitMemory': WHATEVER THE INPUT: true; the input reads as it did. -/
def fnSplitMemorySpec : ChangeSpec := { name := "fnSplitMemory", fn := fun _ => fun
  | [d] => { results := [.lit (.bool true)], args := [d] }
  | _ => none }
def fnSplitMemoryRow : OpenClaim := { program := "ytlckklglbodgbaagreat", sum := "ffed64bc978524e663d732304c447e7b67d43eab2b1795a9a2fe415a0a0403fa", func := "loop.example/constanttime/laws.FnSplitMemory", spec := "fnSplitMemory", unfollowed := true, recurses := true, apart := false }
def FnSplitMemorySaid : Prop := fnSplitMemoryRow.holds Tryz.pinned (OpenSpec.ofChange fnSplitMemorySpec)

/-- ITS FALSE NEIGHBOUR: 'it returns false'. Refute it at one input. -/
def fnSplitMemoryWrong : ChangeSpec := { name := "fnSplitMemory", fn := fun _ => fun
  | [d] => { results := [.lit (.bool false)], args := [d] }
  | _ => none }
def FnSplitMemoryWrongFalsely : Prop := fnSplitMemoryRow.holds Tryz.pinned (OpenSpec.ofChange fnSplitMemoryWrong)

/-- 'laws.FnProductFlow': WHATEVER THE INPUT: true; the input reads as it did. -/
def fnProductFlowSpec : ChangeSpec := { name := "fnProductFlow", fn := fun _ => fun
  | [d] => { results := [.lit (.bool true)], args := [d] }
  | _ => none }
def fnProductFlowRow : OpenClaim := { program := "ytlckklglbodgbaagreat", sum := "ffed64bc978524e663d732304c447e7b67d43eab2b1795a9a2fe415a0a0403fa", func := "loop.example/constanttime/laws.FnProductFlow", spec := "fnProductFlow", unfollowed := true, recurses := true, apart := false }
def FnProductFlowSaid : Prop := fnProductFlowRow.holds Tryz.pinned (OpenSpec.ofChange fnProductFlowSpec)

/-- ITS FALSE NEIGHBOUR: 'it returns false'. Refute it at one input. -/
def fnProductFlowWrong : ChangeSpec := { name := "fnProductFlow", fn := fun _ => fun
  | [d] => { results := [.lit (.bool false)], args := [d] }
  | _ => none }
def FnProductFlowWrongFalsely : Prop := fnProductFlowRow.holds Tryz.pinned (OpenSpec.ofChange fnProductFlowWrong)

/- THE SECOND FORM. 'bulk': how many values and letters a reading holds, each counted each time it is reached (what is shared counts as often as it is met; a slice's spare places count too). A statement '..UptoSaid' is the law's where the arguments, and the package variables that the reading takes, are together of bulk at most 1048576: NARROWER than '..Said'. Prove '..Said' where nothing that the law and all that it calls make is longer than what came in: it says more and counts as full. Else prove '..UptoSaid'. A law counts once. -/
mutual
def uptoBulk {H : Type} : DataW H → Nat
  | .lit (.string bytes) => bytes.length + 1
  | .lit _ => 1
  | .nil => 1
  | .ptr d => uptoBulk d + 1
  | .slice elems spare => uptoBulkAll elems + uptoBulkAll spare + 1
  | .agg parts => uptoBulkAll parts + 1
  | .iface _ d => uptoBulk d + 1
  | .map entries => uptoBulkEntries entries + 1
  | .held _ => 1
def uptoBulkAll {H : Type} : List (DataW H) → Nat
  | [] => 0
  | d :: r => uptoBulk d + uptoBulkAll r
def uptoBulkEntries {H : Type} : List (Lit × DataW H) → Nat
  | [] => 0
  | x :: r => uptoBulkEntry x + uptoBulkEntries r
def uptoBulkEntry {H : Type} : Lit × DataW H → Nat
  | (.string bytes, d) => bytes.length + uptoBulk d + 1
  | (_, d) => uptoBulk d + 1
 end
def uptoSmall : (H : Type) → List (DataW H) → Bool := fun _ ds => decide (uptoBulkAll ds ≤ 1048576)
def OpenSpec.upto (s : _root_.Go.ChangeSpec) : _root_.Go.OpenSpec := { _root_.Go.OpenSpec.ofChange s with cond := some uptoSmall }

/-- 'laws.FnPairMemory', WHERE WHAT IT READS IS OF BULK AT MOST 1048576: true; the input reads as it did. -/
def fnPairMemoryUptoRow : OpenClaim := { program := "ytlckklglbodgbaagreat", sum := "ffed64bc978524e663d732304c447e7b67d43eab2b1795a9a2fe415a0a0403fa", func := "loop.example/constanttime/laws.FnPairMemory", spec := "fnPairMemory", unfollowed := true, recurses := true, apart := false, narrowed := true }
def FnPairMemoryUptoSaid : Prop := fnPairMemoryUptoRow.holds Tryz.pinned (OpenSpec.upto fnPairMemorySpec)

/-- 'laws.FnSplitMemory', WHERE WHAT IT READS IS OF BULK AT MOST 1048576: true; the input reads as it did. -/
def fnSplitMemoryUptoRow : OpenClaim := { program := "ytlckklglbodgbaagreat", sum := "ffed64bc978524e663d732304c447e7b67d43eab2b1795a9a2fe415a0a0403fa", func := "loop.example/constanttime/laws.FnSplitMemory", spec := "fnSplitMemory", unfollowed := true, recurses := true, apart := false, narrowed := true }
def FnSplitMemoryUptoSaid : Prop := fnSplitMemoryUptoRow.holds Tryz.pinned (OpenSpec.upto fnSplitMemorySpec)

/-- 'laws.FnProductFlow', WHERE WHAT IT READS IS OF BULK AT MOST 1048576: true; the input reads as it did. -/
def fnProductFlowUptoRow : OpenClaim := { program := "ytlckklglbodgbaagreat", sum := "ffed64bc978524e663d732304c447e7b67d43eab2b1795a9a2fe415a0a0403fa", func := "loop.example/constanttime/laws.FnProductFlow", spec := "fnProductFlow", unfollowed := true, recurses := true, apart := false, narrowed := true }
def FnProductFlowUptoSaid : Prop := fnProductFlowUptoRow.holds Tryz.pinned (OpenSpec.upto fnProductFlowSpec)

end Rows
end Go.Proofs.YtlckklglbodgbaaGreat
