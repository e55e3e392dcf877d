/-
 The law FnExactSplitMemory returns true for every input: the program's SplitMemory returns what the reference returns. No conditions.
-/
import Derived.Test.YtnpidfbcbmeijaaRows
import Derived.Below
import Derived.ChangeOld
import Derived.Test.YtnpidfbcbmeijaaOB
import Derived.Test.YtnpidfbcbmeijaaOT
import Derived.Test.YtnpidfbcbmeijaaSV
set_option linter.all false
namespace Go.Proofs.Ytnpidfbcbmeijaa.fnExactSplitMemory
open Go.ChangeShapes Go.WideShapes Go.ChangeAt Go.RowKit
theorem own : ownKnob Try.prog.godebug = none := by kernel_rfl
theorem laidOut : laidOutB Try.prog = true := by kernel_rfl
set_option maxRecDepth 100000 in
theorem lifted (os : Os) (started : os.Started) (H : Type) (enc : TypeId × Value → H) :
  ReturnsInHanded {} Try.checked os 5 .any (Rows.fnExactSplitMemorySpec.pre6 enc Try.prog Try.f5 Rows.fnExactSplitMemoryRow.domain false) (Rows.fnExactSplitMemorySpec.post enc Try.prog Try.f5 false true false false) := by
 refine returnsInHanded_of_change (C := Try.checked) own started (by kernel_rfl) Try.func5
  (ChangeSpec.witness6 (enc := enc) (C := Try.checked) false ⟨#[], #[.agg #[.slice none 0 0, .slice none 0 0, .slice none 0 0], .agg #[.slice none 0 0, .slice none 0 0]], []⟩ 8 (by kernel_rfl) (by kernel_rfl) (by kernel_rfl) (by kernel_rfl)) ?_
 intro W b0 a0 ds gs c0 hval0 hW _ _
 have hval : ∀ (j : Nat) t v, Try.f5.params[j]? = some t → a0[j]? = some v → Value.okWide Try.prog W .any b0 t v := hval0
 have hW' := hW
 obtain ⟨p, q, l0, hV, rfl, f1, g1⟩ := hW
 have hA : DataW.TrodAll enc Try.prog W 0 (fun _ => true) true Try.f5.params.toList a0.toList ds p := l0
 rw [Try.params5] at hA hval
 obtain ⟨v0, l1, d0, c1, p0, q0, m0, rfl, rfl, h0, r0⟩ := trodAll_cons hA
 obtain ⟨v1, m1, d1, e1, p1, q1, rfl, rfl, rfl, h1, r1⟩ := trodAll_cons r0
 obtain ⟨rfl, rfl, rfl⟩ := trodAll_nil r1
 obtain rfl : a0 = #[v0, v1] := by cases a0; simp_all
 obtain ⟨rfl, rfl⟩ := trodVars_none hV
 have k0 := h0
 have n0 : ∀ x ∈ p0, x.block < W.heap.size := by obtain ⟨m, hm⟩ := k0; exact DataW.trod_lt m _ _ _ hm
 have k1 := h1
 have o0 : ∀ x ∈ p1, x.block < W.heap.size := by obtain ⟨m, hm⟩ := k1; exact DataW.trod_lt m _ _ _ hm
 obtain ⟨x0, y0, z0, a1, b1, u0, w0, rfl, g0, i0, j0⟩ := op_program Try.underlying25 (by kernel_rfl) (by kernel_rfl) Try.underlying22 Try.underlying22 Try.underlying3 (by kernel_rfl) Try.underlying23 ⟨Try.underlying73, by kernel_rfl, Try.underlying3, Try.underlying3, Try.underlying71, by kernel_rfl, by kernel_rfl, by kernel_rfl, by kernel_rfl, by kernel_rfl, by kernel_rfl⟩ ⟨Try.underlying75, by kernel_rfl, Try.underlying3, Try.underlying3, rfl, rfl, Try.underlying3, Try.underlying23, Try.underlying23, ⟨by kernel_rfl, by kernel_rfl⟩, ⟨by kernel_rfl, by kernel_rfl⟩, ⟨by kernel_rfl, by kernel_rfl⟩, ⟨by kernel_rfl, by kernel_rfl⟩, ⟨by kernel_rfl, by kernel_rfl⟩, ⟨by kernel_rfl, by kernel_rfl⟩, ⟨by kernel_rfl, by kernel_rfl⟩⟩ (hval 0 25 v0 rfl rfl) h0
 obtain ⟨i1, j1, s0, t0, rfl, e0, f0⟩ := op_memory Try.underlying38 (by kernel_rfl) (by kernel_rfl) Try.underlying22 Try.underlying3 (by kernel_rfl) Try.underlying36 Try.underlying22 (by kernel_rfl) (hval 1 38 v1 rfl rfl) h1
 clear l0 hval0
 refine (FnExactSplitMemory_walk x0 y0 z0 _ _ a1 b1 u0 w0 ⟨s0, t0⟩ W ⟨g0, i0, j0⟩ ⟨e0, f0⟩).mono fun e W' ⟨he, bel⟩ => ?_
 subst he
 exact ⟨_, rfl, _, _, _, [], _, [], hW', trodAll_mk1 (shut_bool Try.underlying4 _), (trodAll_cons_mk (Below.trod laidOut (by kernel_rfl) (of_decide_eq_true (by kernel_rfl)) k0 bel n0) (trodAll_cons_mk (Below.trod laidOut (by kernel_rfl) (of_decide_eq_true (by kernel_rfl)) k1 bel o0) trodAll_mk0)), rfl, bel.frame _, fun h => by cases h⟩
theorem named : Try.pinned.checked.prog.funcNamed Rows.fnExactSplitMemoryRow.func = some 5 := by kernel_rfl
theorem joined : joinedFacts Try.pinned.checked.prog 5 Try.f5 Rows.fnExactSplitMemorySpec Rows.fnExactSplitMemoryRow = true := by kernel_rfl
theorem inst : Try.f5.isInstance Try.pinned.checked.prog Rows.fnExactSplitMemoryRow.origin Rows.fnExactSplitMemoryRow.targs := of_decide_eq_true (by kernel_rfl)
theorem wrap : Try.f5.isWrapper Try.pinned.checked.prog Rows.fnExactSplitMemoryRow.wrapper Rows.fnExactSplitMemoryRow.mainSum := by unfold Func.isWrapper; first | (rw [if_pos (by decide +kernel)]; kernel_rfl) | (rw [if_neg (by decide +kernel)]; exact ⟨rfl, rfl⟩)
theorem proved : Rows.FnExactSplitMemorySaid :=
 OpenClaim.holds_of_wide 5 Try.f5 rfl rfl rfl rfl rfl rfl rfl ⟨rfl, rfl, rfl, rfl, rfl⟩ rfl rfl rfl rfl rfl named Try.func5 joined inst wrap
  (fun os started H enc _ => lifted os started H enc)
#print axioms proved
end Go.Proofs.Ytnpidfbcbmeijaa.fnExactSplitMemory
