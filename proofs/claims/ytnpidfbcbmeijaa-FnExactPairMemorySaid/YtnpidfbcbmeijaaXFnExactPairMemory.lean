/-
 The law FnExactPairMemory returns true for every input: the program's PairMemory returns what the reference returns. No conditions.
-/
import Derived.Test.YtnpidfbcbmeijaaRows
import Derived.Below
import Derived.ChangeOld
import Derived.Test.YtnpidfbcbmeijaaGZ
import Derived.Test.YtnpidfbcbmeijaaOT
set_option linter.all false
namespace Go.Proofs.Ytnpidfbcbmeijaa.fnExactPairMemory
open Go.ChangeShapes Go.WideShapes Go.ChangeAt Go.RowKit
theorem own : ownKnob Try.prog.godebug = none := by kernel_rfl
theorem laidOut : laidOutB Try.prog = true := by kernel_rfl
set_option maxRecDepth 100000 in
theorem lifted (os : Os) (started : os.Started) (H : Type) (enc : TypeId × Value → H) :
  ReturnsInHanded {} Try.checked os 4 .any (Rows.fnExactPairMemorySpec.pre6 enc Try.prog Try.f4 Rows.fnExactPairMemoryRow.domain false) (Rows.fnExactPairMemorySpec.post enc Try.prog Try.f4 false true false false) := by
 refine returnsInHanded_of_change (C := Try.checked) own started (by kernel_rfl) Try.func4
  (ChangeSpec.witness6 (enc := enc) (C := Try.checked) false ⟨#[], #[.agg #[.slice none 0 0, .slice none 0 0, .slice none 0 0], .agg #[.slice none 0 0, .slice none 0 0], .agg #[.slice none 0 0, .slice none 0 0]], []⟩ 8 (by kernel_rfl) (by kernel_rfl) (by kernel_rfl) (by kernel_rfl)) ?_
 intro W b0 a0 ds gs c0 hval0 hW _ _
 have hval : ∀ (j : Nat) t v, Try.f4.params[j]? = some t → a0[j]? = some v → Value.okWide Try.prog W .any b0 t v := hval0
 have hW' := hW
 obtain ⟨p, q, n0, hV, rfl, n1, o1⟩ := hW
 have hA : DataW.TrodAll enc Try.prog W 0 (fun _ => true) true Try.f4.params.toList a0.toList ds p := n0
 rw [Try.params4] at hA hval
 obtain ⟨v0, x1, d0, j1, p0, q0, o0, rfl, rfl, h0, r0⟩ := trodAll_cons hA
 obtain ⟨v1, y1, d1, l1, p1, q1, rfl, rfl, rfl, h1, r1⟩ := trodAll_cons r0
 obtain ⟨v2, z1, d2, m1, p2, q2, rfl, rfl, rfl, h2, r2⟩ := trodAll_cons r1
 obtain ⟨rfl, rfl, rfl⟩ := trodAll_nil r2
 obtain rfl : a0 = #[v0, v1, v2] := by cases a0; simp_all
 obtain ⟨rfl, rfl⟩ := trodVars_none hV
 have k0 := h0
 have s0 : ∀ x ∈ p0, x.block < W.heap.size := by obtain ⟨m, hm⟩ := k0; exact DataW.trod_lt m _ _ _ hm
 have k1 := h1
 have t0 : ∀ x ∈ p1, x.block < W.heap.size := by obtain ⟨m, hm⟩ := k1; exact DataW.trod_lt m _ _ _ hm
 have k2 := h2
 have u0 : ∀ x ∈ p2, x.block < W.heap.size := by obtain ⟨m, hm⟩ := k2; exact DataW.trod_lt m _ _ _ hm
 obtain ⟨c1, e1, f1, g1, i1, a1, b1, rfl, j0, l0, m0⟩ := op_program Try.underlying25 (by kernel_rfl) (by kernel_rfl) Try.underlying22 Try.underlying22 Try.underlying3 (by kernel_rfl) Try.underlying23 ⟨Try.underlying73, by kernel_rfl, Try.underlying3, Try.underlying3, Try.underlying71, by kernel_rfl, by kernel_rfl, by kernel_rfl, by kernel_rfl, by kernel_rfl, by kernel_rfl⟩ ⟨Try.underlying75, by kernel_rfl, Try.underlying3, Try.underlying3, rfl, rfl, Try.underlying3, Try.underlying23, Try.underlying23, ⟨by kernel_rfl, by kernel_rfl⟩, ⟨by kernel_rfl, by kernel_rfl⟩, ⟨by kernel_rfl, by kernel_rfl⟩, ⟨by kernel_rfl, by kernel_rfl⟩, ⟨by kernel_rfl, by kernel_rfl⟩, ⟨by kernel_rfl, by kernel_rfl⟩, ⟨by kernel_rfl, by kernel_rfl⟩⟩ (hval 0 25 v0 rfl rfl) h0
 obtain ⟨s1, u1, w0, y0, rfl, e0, g0⟩ := op_memory Try.underlying38 (by kernel_rfl) (by kernel_rfl) Try.underlying22 Try.underlying3 (by kernel_rfl) Try.underlying36 Try.underlying22 (by kernel_rfl) (hval 1 38 v1 rfl rfl) h1
 obtain ⟨t1, w1, x0, z0, rfl, f0, i0⟩ := op_memory Try.underlying38 (by kernel_rfl) (by kernel_rfl) Try.underlying22 Try.underlying3 (by kernel_rfl) Try.underlying36 Try.underlying22 (by kernel_rfl) (hval 2 38 v2 rfl rfl) h2
 clear n0 hval0
 refine (FnExactPairMemory_walk c1 e1 f1 _ _ _ _ g1 i1 a1 b1 ⟨w0, y0⟩ ⟨x0, z0⟩ W ⟨j0, l0, m0⟩ ⟨e0, g0⟩ ⟨f0, i0⟩).mono fun e W' ⟨he, bel⟩ => ?_
 subst he
 exact ⟨_, rfl, _, _, _, [], _, [], hW', trodAll_mk1 (shut_bool Try.underlying4 _), (trodAll_cons_mk (Below.trod laidOut (by kernel_rfl) (of_decide_eq_true (by kernel_rfl)) k0 bel s0) (trodAll_cons_mk (Below.trod laidOut (by kernel_rfl) (of_decide_eq_true (by kernel_rfl)) k1 bel t0) (trodAll_cons_mk (Below.trod laidOut (by kernel_rfl) (of_decide_eq_true (by kernel_rfl)) k2 bel u0) trodAll_mk0))), rfl, bel.frame _, fun h => by cases h⟩
theorem named : Try.pinned.checked.prog.funcNamed Rows.fnExactPairMemoryRow.func = some 4 := by kernel_rfl
theorem joined : joinedFacts Try.pinned.checked.prog 4 Try.f4 Rows.fnExactPairMemorySpec Rows.fnExactPairMemoryRow = true := by kernel_rfl
theorem inst : Try.f4.isInstance Try.pinned.checked.prog Rows.fnExactPairMemoryRow.origin Rows.fnExactPairMemoryRow.targs := of_decide_eq_true (by kernel_rfl)
theorem wrap : Try.f4.isWrapper Try.pinned.checked.prog Rows.fnExactPairMemoryRow.wrapper Rows.fnExactPairMemoryRow.mainSum := by unfold Func.isWrapper; first | (rw [if_pos (by decide +kernel)]; kernel_rfl) | (rw [if_neg (by decide +kernel)]; exact ⟨rfl, rfl⟩)
theorem proved : Rows.FnExactPairMemorySaid :=
 OpenClaim.holds_of_wide 4 Try.f4 rfl rfl rfl rfl rfl rfl rfl ⟨rfl, rfl, rfl, rfl, rfl⟩ rfl rfl rfl rfl rfl named Try.func4 joined inst wrap
  (fun os started H enc _ => lifted os started H enc)
#print axioms proved
end Go.Proofs.Ytnpidfbcbmeijaa.fnExactPairMemory
