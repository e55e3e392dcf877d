/-
  No cell of these rows narrows 'for every input' (looked for: loops, veiled, ifaces, maps, wideKeys, modest, calm, conditions, laid).
  DERIVED. THE GIVEN ROWS OF THIS SEAT. 12 by the template 'for every input the law returns true; each argument reads behind the call as it read before'; 0 by the template 'total and deterministic' (their statements: YtcnaeeejffeeoaaTotals.lean).
  GIVEN WITH THE SEED: the statements are not yours to turn. If you find one false, say at which input.
  Laid BY PROGRAM, IN A SANDBOX (cutbox-rows.mjs): the forced cells as the released guide's own fill.sh prints them over the translation 61c282cc39794cc3… (all of the seat's roots in one cut). By AI agents, Wed Nov 11 2026. No macro, syntax, notation, axiom, sorry.
-/
import Derived.Test.YtcnaeeejffeeoaaChecked
import GoSem.Claim
import GoSem.ClaimJoined
import GoSem.ClaimMapViews
import Derived.JoinedTies
import Derived.KernelRfl
namespace Go.Proofs.Ytcnaeeejffeeoaa
/- THE CELL 'sum', in the pinned program and in every row, IS THE sha256 OF THE DUMP (.gsa) THAT YtcnaeeejffeeoaaProg.lean LOADS. Nothing in Lean hashes anything: it is a label: what it is worth is what the hold of that sum in a sandbox is worth. -/
noncomputable def Try.pinned : Pinned := { name := "ytcnaeeejffeeoaa", sum := "61c282cc39794cc3f34967fe7fc783c3958a055432a2c6170c98858674b27206", checked := Try.checked }
namespace Rows
def none {H : Type} : Left H := { results := [], args := [] }

/-- 'laws.FnExactEmptyCache': WHATEVER THE INPUT: true; the input reads as it did. -/
def fnExactEmptyCacheSpec : ChangeSpec := { name := "fnExactEmptyCache", fn := fun _ => fun
  | [] => { results := [.lit (.bool true)], args := [] }
  | _ => none }
def fnExactEmptyCacheRow : OpenClaim := { program := "ytcnaeeejffeeoaa", sum := "61c282cc39794cc3f34967fe7fc783c3958a055432a2c6170c98858674b27206", func := "loop.example/constanttime/laws.FnExactEmptyCache", spec := "fnExactEmptyCache", apart := false }
def FnExactEmptyCacheSaid : Prop := fnExactEmptyCacheRow.holds Try.pinned (OpenSpec.ofChange fnExactEmptyCacheSpec)

/-- ITS FALSE NEIGHBOUR: 'it returns false'. Refute it at one input. -/
def fnExactEmptyCacheWrong : ChangeSpec := { name := "fnExactEmptyCache", fn := fun _ => fun
  | [] => { results := [.lit (.bool false)], args := [] }
  | _ => none }
def FnExactEmptyCacheWrongFalsely : Prop := fnExactEmptyCacheRow.holds Try.pinned (OpenSpec.ofChange fnExactEmptyCacheWrong)

/-- 'laws.FnExactPrimeCache': WHATEVER THE INPUT: true; the input reads as it did. -/
def fnExactPrimeCacheSpec : ChangeSpec := { name := "fnExactPrimeCache", fn := fun _ => fun
  | [] => { results := [.lit (.bool true)], args := [] }
  | _ => none }
def fnExactPrimeCacheRow : OpenClaim := { program := "ytcnaeeejffeeoaa", sum := "61c282cc39794cc3f34967fe7fc783c3958a055432a2c6170c98858674b27206", func := "loop.example/constanttime/laws.FnExactPrimeCache", spec := "fnExactPrimeCache", apart := false }
def FnExactPrimeCacheSaid : Prop := fnExactPrimeCacheRow.holds Try.pinned (OpenSpec.ofChange fnExactPrimeCacheSpec)

/-- ITS FALSE NEIGHBOUR: 'it returns false'. Refute it at one input. -/
def fnExactPrimeCacheWrong : ChangeSpec := { name := "fnExactPrimeCache", fn := fun _ => fun
  | [] => { results := [.lit (.bool false)], args := [] }
  | _ => none }
def FnExactPrimeCacheWrongFalsely : Prop := fnExactPrimeCacheRow.holds Try.pinned (OpenSpec.ofChange fnExactPrimeCacheWrong)

/-- 'laws.FnExactCacheValid': WHATEVER THE INPUT: true; the input reads as it did. -/
def fnExactCacheValidSpec : ChangeSpec := { name := "fnExactCacheValid", fn := fun _ => fun
  | [d] => { results := [.lit (.bool true)], args := [d] }
  | _ => none }
def fnExactCacheValidRow : OpenClaim := { program := "ytcnaeeejffeeoaa", sum := "61c282cc39794cc3f34967fe7fc783c3958a055432a2c6170c98858674b27206", func := "loop.example/constanttime/laws.FnExactCacheValid", spec := "fnExactCacheValid", apart := false }
def FnExactCacheValidSaid : Prop := fnExactCacheValidRow.holds Try.pinned (OpenSpec.ofChange fnExactCacheValidSpec)

/-- ITS FALSE NEIGHBOUR: 'it returns false'. Refute it at one input. -/
def fnExactCacheValidWrong : ChangeSpec := { name := "fnExactCacheValid", fn := fun _ => fun
  | [d] => { results := [.lit (.bool false)], args := [d] }
  | _ => none }
def FnExactCacheValidWrongFalsely : Prop := fnExactCacheValidRow.holds Try.pinned (OpenSpec.ofChange fnExactCacheValidWrong)

/-- 'laws.FnAccessCache': WHATEVER THE INPUT: true; the input reads as it did. -/
def fnAccessCacheSpec : ChangeSpec := { name := "fnAccessCache", fn := fun _ => fun
  | [d] => { results := [.lit (.bool true)], args := [d] }
  | _ => none }
def fnAccessCacheRow : OpenClaim := { program := "ytcnaeeejffeeoaa", sum := "61c282cc39794cc3f34967fe7fc783c3958a055432a2c6170c98858674b27206", func := "loop.example/constanttime/laws.FnAccessCache", spec := "fnAccessCache", apart := false }
def FnAccessCacheSaid : Prop := fnAccessCacheRow.holds Try.pinned (OpenSpec.ofChange fnAccessCacheSpec)

/-- ITS FALSE NEIGHBOUR: 'it returns false'. Refute it at one input. -/
def fnAccessCacheWrong : ChangeSpec := { name := "fnAccessCache", fn := fun _ => fun
  | [d] => { results := [.lit (.bool false)], args := [d] }
  | _ => none }
def FnAccessCacheWrongFalsely : Prop := fnAccessCacheRow.holds Try.pinned (OpenSpec.ofChange fnAccessCacheWrong)

/-- 'laws.FnProbeEmpty': WHATEVER THE INPUT: true; the input reads as it did. -/
def fnProbeEmptySpec : ChangeSpec := { name := "fnProbeEmpty", fn := fun _ => fun
  | [d] => { results := [.lit (.bool true)], args := [d] }
  | _ => none }
def fnProbeEmptyRow : OpenClaim := { program := "ytcnaeeejffeeoaa", sum := "61c282cc39794cc3f34967fe7fc783c3958a055432a2c6170c98858674b27206", func := "loop.example/constanttime/laws.FnProbeEmpty", spec := "fnProbeEmpty", apart := false }
def FnProbeEmptySaid : Prop := fnProbeEmptyRow.holds Try.pinned (OpenSpec.ofChange fnProbeEmptySpec)

/-- ITS FALSE NEIGHBOUR: 'it returns false'. Refute it at one input. -/
def fnProbeEmptyWrong : ChangeSpec := { name := "fnProbeEmpty", fn := fun _ => fun
  | [d] => { results := [.lit (.bool false)], args := [d] }
  | _ => none }
def FnProbeEmptyWrongFalsely : Prop := fnProbeEmptyRow.holds Try.pinned (OpenSpec.ofChange fnProbeEmptyWrong)

/-- 'laws.FnExactProbeCache': WHATEVER THE INPUT: true; the input reads as it did. -/
def fnExactProbeCacheSpec : ChangeSpec := { name := "fnExactProbeCache", fn := fun _ => fun
  | [d] => { results := [.lit (.bool true)], args := [d] }
  | _ => none }
def fnExactProbeCacheRow : OpenClaim := { program := "ytcnaeeejffeeoaa", sum := "61c282cc39794cc3f34967fe7fc783c3958a055432a2c6170c98858674b27206", func := "loop.example/constanttime/laws.FnExactProbeCache", spec := "fnExactProbeCache", apart := false }
def FnExactProbeCacheSaid : Prop := fnExactProbeCacheRow.holds Try.pinned (OpenSpec.ofChange fnExactProbeCacheSpec)

/-- ITS FALSE NEIGHBOUR: 'it returns false'. Refute it at one input. -/
def fnExactProbeCacheWrong : ChangeSpec := { name := "fnExactProbeCache", fn := fun _ => fun
  | [d] => { results := [.lit (.bool false)], args := [d] }
  | _ => none }
def FnExactProbeCacheWrongFalsely : Prop := fnExactProbeCacheRow.holds Try.pinned (OpenSpec.ofChange fnExactProbeCacheWrong)

/-- 'laws.FnExactAccessCache': WHATEVER THE INPUT: true; the input reads as it did. -/
def fnExactAccessCacheSpec : ChangeSpec := { name := "fnExactAccessCache", fn := fun _ => fun
  | [d1, d2] => { results := [.lit (.bool true)], args := [d1, d2] }
  | _ => none }
def fnExactAccessCacheRow : OpenClaim := { program := "ytcnaeeejffeeoaa", sum := "61c282cc39794cc3f34967fe7fc783c3958a055432a2c6170c98858674b27206", func := "loop.example/constanttime/laws.FnExactAccessCache", spec := "fnExactAccessCache", apart := false }
def FnExactAccessCacheSaid : Prop := fnExactAccessCacheRow.holds Try.pinned (OpenSpec.ofChange fnExactAccessCacheSpec)

/-- ITS FALSE NEIGHBOUR: 'it returns false'. Refute it at one input. -/
def fnExactAccessCacheWrong : ChangeSpec := { name := "fnExactAccessCache", fn := fun _ => fun
  | [d1, d2] => { results := [.lit (.bool false)], args := [d1, d2] }
  | _ => none }
def FnExactAccessCacheWrongFalsely : Prop := fnExactAccessCacheRow.holds Try.pinned (OpenSpec.ofChange fnExactAccessCacheWrong)

/-- 'laws.FnCacheState': WHATEVER THE INPUT: true; the input reads as it did. -/
def fnCacheStateSpec : ChangeSpec := { name := "fnCacheState", fn := fun _ => fun
  | [d] => { results := [.lit (.bool true)], args := [d] }
  | _ => none }
def fnCacheStateRow : OpenClaim := { program := "ytcnaeeejffeeoaa", sum := "61c282cc39794cc3f34967fe7fc783c3958a055432a2c6170c98858674b27206", func := "loop.example/constanttime/laws.FnCacheState", spec := "fnCacheState", apart := false }
def FnCacheStateSaid : Prop := fnCacheStateRow.holds Try.pinned (OpenSpec.ofChange fnCacheStateSpec)

/-- ITS FALSE NEIGHBOUR: 'it returns false'. Refute it at one input. -/
def fnCacheStateWrong : ChangeSpec := { name := "fnCacheState", fn := fun _ => fun
  | [d] => { results := [.lit (.bool false)], args := [d] }
  | _ => none }
def FnCacheStateWrongFalsely : Prop := fnCacheStateRow.holds Try.pinned (OpenSpec.ofChange fnCacheStateWrong)

/-- 'laws.FnCacheRun': WHATEVER THE INPUT: true; the input reads as it did. -/
def fnCacheRunSpec : ChangeSpec := { name := "fnCacheRun", fn := fun _ => fun
  | [d1, d2] => { results := [.lit (.bool true)], args := [d1, d2] }
  | _ => none }
def fnCacheRunRow : OpenClaim := { program := "ytcnaeeejffeeoaa", sum := "61c282cc39794cc3f34967fe7fc783c3958a055432a2c6170c98858674b27206", func := "loop.example/constanttime/laws.FnCacheRun", spec := "fnCacheRun", apart := false }
def FnCacheRunSaid : Prop := fnCacheRunRow.holds Try.pinned (OpenSpec.ofChange fnCacheRunSpec)

/-- ITS FALSE NEIGHBOUR: 'it returns false'. Refute it at one input. -/
def fnCacheRunWrong : ChangeSpec := { name := "fnCacheRun", fn := fun _ => fun
  | [d1, d2] => { results := [.lit (.bool false)], args := [d1, d2] }
  | _ => none }
def FnCacheRunWrongFalsely : Prop := fnCacheRunRow.holds Try.pinned (OpenSpec.ofChange fnCacheRunWrong)

/-- 'laws.FnProbeCache': WHATEVER THE INPUT: true; the input reads as it did. -/
def fnProbeCacheSpec : ChangeSpec := { name := "fnProbeCache", fn := fun _ => fun
  | [d] => { results := [.lit (.bool true)], args := [d] }
  | _ => none }
def fnProbeCacheRow : OpenClaim := { program := "ytcnaeeejffeeoaa", sum := "61c282cc39794cc3f34967fe7fc783c3958a055432a2c6170c98858674b27206", func := "loop.example/constanttime/laws.FnProbeCache", spec := "fnProbeCache", apart := false }
def FnProbeCacheSaid : Prop := fnProbeCacheRow.holds Try.pinned (OpenSpec.ofChange fnProbeCacheSpec)

/-- ITS FALSE NEIGHBOUR: 'it returns false'. Refute it at one input. -/
def fnProbeCacheWrong : ChangeSpec := { name := "fnProbeCache", fn := fun _ => fun
  | [d] => { results := [.lit (.bool false)], args := [d] }
  | _ => none }
def FnProbeCacheWrongFalsely : Prop := fnProbeCacheRow.holds Try.pinned (OpenSpec.ofChange fnProbeCacheWrong)

/-- 'laws.FnTimeEqual': WHATEVER THE INPUT: true; the input reads as it did. -/
def fnTimeEqualSpec : ChangeSpec := { name := "fnTimeEqual", fn := fun _ => fun
  | [d] => { results := [.lit (.bool true)], args := [d] }
  | _ => none }
def fnTimeEqualRow : OpenClaim := { program := "ytcnaeeejffeeoaa", sum := "61c282cc39794cc3f34967fe7fc783c3958a055432a2c6170c98858674b27206", func := "loop.example/constanttime/laws.FnTimeEqual", spec := "fnTimeEqual", apart := false }
def FnTimeEqualSaid : Prop := fnTimeEqualRow.holds Try.pinned (OpenSpec.ofChange fnTimeEqualSpec)

/-- ITS FALSE NEIGHBOUR: 'it returns false'. Refute it at one input. -/
def fnTimeEqualWrong : ChangeSpec := { name := "fnTimeEqual", fn := fun _ => fun
  | [d] => { results := [.lit (.bool false)], args := [d] }
  | _ => none }
def FnTimeEqualWrongFalsely : Prop := fnTimeEqualRow.holds Try.pinned (OpenSpec.ofChange fnTimeEqualWrong)

/-- 'laws.FnTraceTime': WHATEVER THE INPUT: true; the input reads as it did. -/
def fnTraceTimeSpec : ChangeSpec := { name := "fnTraceTime", fn := fun _ => fun
  | [d1, d2] => { results := [.lit (.bool true)], args := [d1, d2] }
  | _ => none }
def fnTraceTimeRow : OpenClaim := { program := "ytcnaeeejffeeoaa", sum := "61c282cc39794cc3f34967fe7fc783c3958a055432a2c6170c98858674b27206", func := "loop.example/constanttime/laws.FnTraceTime", spec := "fnTraceTime", apart := false }
def FnTraceTimeSaid : Prop := fnTraceTimeRow.holds Try.pinned (OpenSpec.ofChange fnTraceTimeSpec)

/-- ITS FALSE NEIGHBOUR: 'it returns false'. Refute it at one input. -/
def fnTraceTimeWrong : ChangeSpec := { name := "fnTraceTime", fn := fun _ => fun
  | [d1, d2] => { results := [.lit (.bool false)], args := [d1, d2] }
  | _ => none }
def FnTraceTimeWrongFalsely : Prop := fnTraceTimeRow.holds Try.pinned (OpenSpec.ofChange fnTraceTimeWrong)

/- THE SECOND FORM. 'bulk': how many values and letters a reading holds, each counted each time it is reached (what is shared counts as often as it is met; a slice's spare places count too). A statement '..UptoSaid' is the law's where the arguments, and the package variables that the reading takes, are together of bulk at most 1048576: NARROWER than '..Said'. Prove '..Said' where nothing that the law and all that it calls make is longer than what came in: it says more and counts as full. Else prove '..UptoSaid'. A law counts once. -/
mutual
def uptoBulk {H : Type} : DataW H → Nat
  | .lit (.string bytes) => bytes.length + 1
  | .lit _ => 1
  | .nil => 1
  | .ptr d => uptoBulk d + 1
  | .slice elems spare => uptoBulkAll elems + uptoBulkAll spare + 1
  | .agg parts => uptoBulkAll parts + 1
  | .iface _ d => uptoBulk d + 1
  | .map entries => uptoBulkEntries entries + 1
  | .held _ => 1
def uptoBulkAll {H : Type} : List (DataW H) → Nat
  | [] => 0
  | d :: r => uptoBulk d + uptoBulkAll r
def uptoBulkEntries {H : Type} : List (Lit × DataW H) → Nat
  | [] => 0
  | x :: r => uptoBulkEntry x + uptoBulkEntries r
def uptoBulkEntry {H : Type} : Lit × DataW H → Nat
  | (.string bytes, d) => bytes.length + uptoBulk d + 1
  | (_, d) => uptoBulk d + 1
 end
def uptoSmall : (H : Type) → List (DataW H) → Bool := fun _ ds => decide (uptoBulkAll ds ≤ 1048576)
def OpenSpec.upto (s : _root_.Go.ChangeSpec) : _root_.Go.OpenSpec := { _root_.Go.OpenSpec.ofChange s with cond := some uptoSmall }

/-- 'laws.FnExactEmptyCache', WHERE WHAT IT READS IS OF BULK AT MOST 1048576: true; the input reads as it did. -/
def fnExactEmptyCacheUptoRow : OpenClaim := { program := "ytcnaeeejffeeoaa", sum := "61c282cc39794cc3f34967fe7fc783c3958a055432a2c6170c98858674b27206", func := "loop.example/constanttime/laws.FnExactEmptyCache", spec := "fnExactEmptyCache", apart := false, narrowed := true }
def FnExactEmptyCacheUptoSaid : Prop := fnExactEmptyCacheUptoRow.holds Try.pinned (OpenSpec.upto fnExactEmptyCacheSpec)

/-- 'laws.FnExactPrimeCache', WHERE WHAT IT READS IS OF BULK AT MOST 1048576: true; the input reads as it did. -/
def fnExactPrimeCacheUptoRow : OpenClaim := { program := "ytcnaeeejffeeoaa", sum := "61c282cc39794cc3f34967fe7fc783c3958a055432a2c6170c98858674b27206", func := "loop.example/constanttime/laws.FnExactPrimeCache", spec := "fnExactPrimeCache", apart := false, narrowed := true }
def FnExactPrimeCacheUptoSaid : Prop := fnExactPrimeCacheUptoRow.holds Try.pinned (OpenSpec.upto fnExactPrimeCacheSpec)

/-- 'laws.FnExactCacheValid', WHERE WHAT IT READS IS OF BULK AT MOST 1048576: true; the input reads as it did. -/
def fnExactCacheValidUptoRow : OpenClaim := { program := "ytcnaeeejffeeoaa", sum := "61c282cc39794cc3f34967fe7fc783c3958a055432a2c6170c98858674b27206", func := "loop.example/constanttime/laws.FnExactCacheValid", spec := "fnExactCacheValid", apart := false, narrowed := true }
def FnExactCacheValidUptoSaid : Prop := fnExactCacheValidUptoRow.holds Try.pinned (OpenSpec.upto fnExactCacheValidSpec)

/-- 'laws.FnAccessCache', WHERE WHAT IT READS IS OF BULK AT MOST 1048576: true; the input reads as it did. -/
def fnAccessCacheUptoRow : OpenClaim := { program := "ytcnaeeejffeeoaa", sum := "61c282cc39794cc3f34967fe7fc783c3958a055432a2c6170c98858674b27206", func := "loop.example/constanttime/laws.FnAccessCache", spec := "fnAccessCache", apart := false, narrowed := true }
def FnAccessCacheUptoSaid : Prop := fnAccessCacheUptoRow.holds Try.pinned (OpenSpec.upto fnAccessCacheSpec)

/-- 'laws.FnProbeEmpty', WHERE WHAT IT READS IS OF BULK AT MOST 1048576: true; the input reads as it did. -/
def fnProbeEmptyUptoRow : OpenClaim := { program := "ytcnaeeejffeeoaa", sum := "61c282cc39794cc3f34967fe7fc783c3958a055432a2c6170c98858674b27206", func := "loop.example/constanttime/laws.FnProbeEmpty", spec := "fnProbeEmpty", apart := false, narrowed := true }
def FnProbeEmptyUptoSaid : Prop := fnProbeEmptyUptoRow.holds Try.pinned (OpenSpec.upto fnProbeEmptySpec)

/-- 'laws.FnExactProbeCache', WHERE WHAT IT READS IS OF BULK AT MOST 1048576: true; the input reads as it did. -/
def fnExactProbeCacheUptoRow : OpenClaim := { program := "ytcnaeeejffeeoaa", sum := "61c282cc39794cc3f34967fe7fc783c3958a055432a2c6170c98858674b27206", func := "loop.example/constanttime/laws.FnExactProbeCache", spec := "fnExactProbeCache", apart := false, narrowed := true }
def FnExactProbeCacheUptoSaid : Prop := fnExactProbeCacheUptoRow.holds Try.pinned (OpenSpec.upto fnExactProbeCacheSpec)

/-- 'laws.FnExactAccessCache', WHERE WHAT IT READS IS OF BULK AT MOST 1048576: true; the input reads as it did. -/
def fnExactAccessCacheUptoRow : OpenClaim := { program := "ytcnaeeejffeeoaa", sum := "61c282cc39794cc3f34967fe7fc783c3958a055432a2c6170c98858674b27206", func := "loop.example/constanttime/laws.FnExactAccessCache", spec := "fnExactAccessCache", apart := false, narrowed := true }
def FnExactAccessCacheUptoSaid : Prop := fnExactAccessCacheUptoRow.holds Try.pinned (OpenSpec.upto fnExactAccessCacheSpec)

/-- 'laws.FnCacheState', WHERE WHAT IT READS IS OF BULK AT MOST 1048576: true; the input reads as it did. -/
def fnCacheStateUptoRow : OpenClaim := { program := "ytcnaeeejffeeoaa", sum := "61c282cc39794cc3f34967fe7fc783c3958a055432a2c6170c98858674b27206", func := "loop.example/constanttime/laws.FnCacheState", spec := "fnCacheState", apart := false, narrowed := true }
def FnCacheStateUptoSaid : Prop := fnCacheStateUptoRow.holds Try.pinned (OpenSpec.upto fnCacheStateSpec)

/-- 'laws.FnCacheRun', WHERE WHAT IT READS IS OF BULK AT MOST 1048576: true; the input reads as it did. -/
def fnCacheRunUptoRow : OpenClaim := { program := "ytcnaeeejffeeoaa", sum := "61c282cc39794cc3f34967fe7fc783c3958a055432a2c6170c98858674b27206", func := "loop.example/constanttime/laws.FnCacheRun", spec := "fnCacheRun", apart := false, narrowed := true }
def FnCacheRunUptoSaid : Prop := fnCacheRunUptoRow.holds Try.pinned (OpenSpec.upto fnCacheRunSpec)

/-- 'laws.FnProbeCache', WHERE WHAT IT READS IS OF BULK AT MOST 1048576: true; the input reads as it did. -/
def fnProbeCacheUptoRow : OpenClaim := { program := "ytcnaeeejffeeoaa", sum := "61c282cc39794cc3f34967fe7fc783c3958a055432a2c6170c98858674b27206", func := "loop.example/constanttime/laws.FnProbeCache", spec := "fnProbeCache", apart := false, narrowed := true }
def FnProbeCacheUptoSaid : Prop := fnProbeCacheUptoRow.holds Try.pinned (OpenSpec.upto fnProbeCacheSpec)

/-- 'laws.FnTimeEqual', WHERE WHAT IT READS IS OF BULK AT MOST 1048576: true; the input reads as it did. -/
def fnTimeEqualUptoRow : OpenClaim := { program := "ytcnaeeejffeeoaa", sum := "61c282cc39794cc3f34967fe7fc783c3958a055432a2c6170c98858674b27206", func := "loop.example/constanttime/laws.FnTimeEqual", spec := "fnTimeEqual", apart := false, narrowed := true }
def FnTimeEqualUptoSaid : Prop := fnTimeEqualUptoRow.holds Try.pinned (OpenSpec.upto fnTimeEqualSpec)

/-- 'laws.FnTraceTime', WHERE WHAT IT READS IS OF BULK AT MOST 1048576: true; the input reads as it did. -/
def fnTraceTimeUptoRow : OpenClaim := { program := "ytcnaeeejffeeoaa", sum := "61c282cc39794cc3f34967fe7fc783c3958a055432a2c6170c98858674b27206", func := "loop.example/constanttime/laws.FnTraceTime", spec := "fnTraceTime", apart := false, narrowed := true }
def FnTraceTimeUptoSaid : Prop := fnTraceTimeUptoRow.holds Try.pinned (OpenSpec.upto fnTraceTimeSpec)

end Rows
end Go.Proofs.Ytcnaeeejffeeoaa
