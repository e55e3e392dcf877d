/-
  No cell of these rows narrows 'for every input' (looked for: loops, veiled, ifaces, maps, wideKeys, modest, calm, conditions, laid).
  DERIVED. THE GIVEN ROWS OF THIS SEAT. 3 by the template 'for every input the law returns true; each argument reads behind the call as it read before'; 0 by the template 'total and deterministic' (their statements: YtkjedgnepnbkpaaGreatTotals.lean).
  GIVEN WITH THE SEED: the statements are not yours to turn. If you find one false, say at which input.
  Laid BY PROGRAM, IN A SANDBOX (cutbox-rows.mjs): the forced cells as the released guide's own fill.sh prints them over the translation 68925e10075f969a… (all of the seat's roots in one cut). By AI agents, Wed Nov 11 2026. No macro, syntax, notation, axiom, sorry.
-/
import Derived.Test.YtkjedgnepnbkpaaGreatChecked
import GoSem.Claim
import GoSem.ClaimJoined
import GoSem.ClaimMapViews
import Derived.JoinedTies
import Derived.KernelRfl
namespace Go.Proofs.YtkjedgnepnbkpaaGreat
/- THE CELL 'sum', in the pinned program and in every row, IS THE sha256 OF THE DUMP (.gsa) THAT YtkjedgnepnbkpaaGreatProg.lean LOADS. Nothing in Lean hashes anything: it is a label: what it is worth is what the hold of that sum in a sandbox is worth. -/
noncomputable def Tryz.pinned : Pinned := { name := "ytkjedgnepnbkpaagreat", sum := "68925e10075f969a56d4bdb34cc3f4574deacaefbbafe5745a6d6d259cc9ef96", checked := Tryz.checked }
namespace Rows
def none {H : Type} : Left H := { results := [], args := [] }

/-- 'laws.FnRunTimeSteps': WHATEVER THE INPUT: true; the input reads as it did. -/
def fnRunTimeStepsSpec : ChangeSpec := { name := "fnRunTimeSteps", fn := fun _ => fun
  | [d] => { results := [.lit (.bool true)], args := [d] }
  | _ => none }
def fnRunTimeStepsRow : OpenClaim := { program := "ytkjedgnepnbkpaagreat", sum := "68925e10075f969a56d4bdb34cc3f4574deacaefbbafe5745a6d6d259cc9ef96", func := "loop.example/constanttime/laws.FnRunTimeSteps", spec := "fnRunTimeSteps", unfollowed := true, recurses := true, apart := false }
def FnRunTimeStepsSaid : Prop := fnRunTimeStepsRow.holds Tryz.pinned (OpenSpec.ofChange fnRunTimeStepsSpec)

/-- ITS FALSE NEIGHBOUR: 'it returns false'. Refute it at one input. -/
def fnRunTimeStepsWrong : ChangeSpec := { name := "fnRunTimeSteps", fn := fun _ => fun
  | [d] => { results := [.lit (.bool false)], args := [d] }
  | _ => none }
def FnRunTimeStepsWrongFalsely : Prop := fnRunTimeStepsRow.holds Tryz.pinned (OpenSpec.ofChange fnRunTimeStepsWrong)

/-- 'laws.FnCompactRegs': WHATEVER THE INPUT: true; the input reads as it did. -/
def fnCompactRegsSpec : ChangeSpec := { name := "fnCompactRegs", fn := fun _ => fun
  | [d] => { results := [.lit (.bool true)], args := [d] }
  | _ => none }
def fnCompactRegsRow : OpenClaim := { program := "ytkjedgnepnbkpaagreat", sum := "68925e10075f969a56d4bdb34cc3f4574deacaefbbafe5745a6d6d259cc9ef96", func := "loop.example/constanttime/laws.FnCompactRegs", spec := "fnCompactRegs", unfollowed := true, recurses := true, apart := false }
def FnCompactRegsSaid : Prop := fnCompactRegsRow.holds Tryz.pinned (OpenSpec.ofChange fnCompactRegsSpec)

/-- ITS FALSE NEIGHBOUR: 'it returns false'. Refute it at one input. -/
def fnCompactRegsWrong : ChangeSpec := { name := "fnCompactRegs", fn := fun _ => fun
  | [d] => { results := [.lit (.bool false)], args := [d] }
  | _ => none }
def FnCompactRegsWrongFalsely : Prop := fnCompactRegsRow.holds Tryz.pinned (OpenSpec.ofChange fnCompactRegsWrong)

/-- 'laws.FnFenceCode': WHATEVER THE INPUT: true; the input reads as it did. -/
def fnFenceCodeSpec : ChangeSpec := { name := "fnFenceCode", fn := fun _ => fun
  | [d] => { results := [.lit (.bool true)], args := [d] }
  | _ => none }
def fnFenceCodeRow : OpenClaim := { program := "ytkjedgnepnbkpaagreat", sum := "68925e10075f969a56d4bdb34cc3f4574deacaefbbafe5745a6d6d259cc9ef96", func := "loop.example/constanttime/laws.FnFenceCode", spec := "fnFenceCode", unfollowed := true, recurses := true, apart := false }
def FnFenceCodeSaid : Prop := fnFenceCodeRow.holds Tryz.pinned (OpenSpec.ofChange fnFenceCodeSpec)

/-- ITS FALSE NEIGHBOUR: 'it returns false'. Refute it at one input. -/
def fnFenceCodeWrong : ChangeSpec := { name := "fnFenceCode", fn := fun _ => fun
  | [d] => { results := [.lit (.bool false)], args := [d] }
  | _ => none }
def FnFenceCodeWrongFalsely : Prop := fnFenceCodeRow.holds Tryz.pinned (OpenSpec.ofChange fnFenceCodeWrong)

/- THE SECOND FORM. 'bulk': how many values and letters a reading holds, each counted each time it is reached (what is shared counts as often as it is met; a slice's spare places count too). A statement '..UptoSaid' is the law's where the arguments, and the package variables that the reading takes, are together of bulk at most 1048576: NARROWER than '..Said'. Prove '..Said' where nothing that the law and all that it calls make is longer than what came in: it says more and counts as full. Else prove '..UptoSaid'. A law counts once. -/
mutual
def uptoBulk {H : Type} : DataW H → Nat
  | .lit (.string bytes) => bytes.length + 1
  | .lit _ => 1
  | .nil => 1
  | .ptr d => uptoBulk d + 1
  | .slice elems spare => uptoBulkAll elems + uptoBulkAll spare + 1
  | .agg parts => uptoBulkAll parts + 1
  | .iface _ d => uptoBulk d + 1
  | .map entries => uptoBulkEntries entries + 1
  | .held _ => 1
def uptoBulkAll {H : Type} : List (DataW H) → Nat
  | [] => 0
  | d :: r => uptoBulk d + uptoBulkAll r
def uptoBulkEntries {H : Type} : List (Lit × DataW H) → Nat
  | [] => 0
  | x :: r => uptoBulkEntry x + uptoBulkEntries r
def uptoBulkEntry {H : Type} : Lit × DataW H → Nat
  | (.string bytes, d) => bytes.length + uptoBulk d + 1
  | (_, d) => uptoBulk d + 1
 end
def uptoSmall : (H : Type) → List (DataW H) → Bool := fun _ ds => decide (uptoBulkAll ds ≤ 1048576)
def OpenSpec.upto (s : _root_.Go.ChangeSpec) : _root_.Go.OpenSpec := { _root_.Go.OpenSpec.ofChange s with cond := some uptoSmall }

/-- 'laws.FnRunTimeSteps', WHERE WHAT IT READS IS OF BULK AT MOST 1048576: true; the input reads as it did. -/
def fnRunTimeStepsUptoRow : OpenClaim := { program := "ytkjedgnepnbkpaagreat", sum := "68925e10075f969a56d4bdb34cc3f4574deacaefbbafe5745a6d6d259cc9ef96", func := "loop.example/constanttime/laws.FnRunTimeSteps", spec := "fnRunTimeSteps", unfollowed := true, recurses := true, apart := false, narrowed := true }
def FnRunTimeStepsUptoSaid : Prop := fnRunTimeStepsUptoRow.holds Tryz.pinned (OpenSpec.upto fnRunTimeStepsSpec)

/-- 'laws.FnCompactRegs', WHERE WHAT IT READS IS OF BULK AT MOST 1048576: true; the input reads as it did. -/
def fnCompactRegsUptoRow : OpenClaim := { program := "ytkjedgnepnbkpaagreat", sum := "68925e10075f969a56d4bdb34cc3f4574deacaefbbafe5745a6d6d259cc9ef96", func := "loop.example/constanttime/laws.FnCompactRegs", spec := "fnCompactRegs", unfollowed := true, recurses := true, apart := false, narrowed := true }
def FnCompactRegsUptoSaid : Prop := fnCompactRegsUptoRow.holds Tryz.pinned (OpenSpec.upto fnCompactRegsSpec)

/-- 'laws.FnFenceCode', WHERE WHAT IT READS IS OF BULK AT MOST 1048576: true; the input reads as it did. -/
def fnFenceCodeUptoRow : OpenClaim := { program := "ytkjedgnepnbkpaagreat", sum := "68925e10075f969a56d4bdb34cc3f4574deacaefbbafe5745a6d6d259cc9ef96", func := "loop.example/constanttime/laws.FnFenceCode", spec := "fnFenceCode", unfollowed := true, recurses := true, apart := false, narrowed := true }
def FnFenceCodeUptoSaid : Prop := fnFenceCodeUptoRow.holds Tryz.pinned (OpenSpec.upto fnFenceCodeSpec)

end Rows
end Go.Proofs.YtkjedgnepnbkpaaGreat
