/-
 The law FnPairMemory returns true for every input: splitting inverts pairing: splitting a pair yields its memories. No conditions.
-/
import Derived.Test.YtlckklglbodgbaaGreatRows
import Derived.Below
import Derived.ChangeOld
import Derived.Test.YtlckklglbodgbaaGreatMC5
set_option linter.all false
namespace Go.Proofs.YtlckklglbodgbaaGreat.fnPairMemory
open Go.ChangeShapes Go.WideShapes Go.ChangeAt Go.RowKit
theorem own : ownKnob Tryz.prog.godebug = none := by kernel_rfl
theorem laidOut : laidOutB Tryz.prog = true := by kernel_rfl
set_option maxRecDepth 100000 in
theorem lifted (os : Os) (started : os.Started) (H : Type) (enc : TypeId × Value → H) :
  ReturnsInHanded {} Tryz.checked os 3 .any (Rows.fnPairMemorySpec.pre6 enc Tryz.prog Tryz.f3 Rows.fnPairMemoryRow.domain false) (Rows.fnPairMemorySpec.post enc Tryz.prog Tryz.f3 false true false false) := by
 refine returnsInHanded_of_change (C := Tryz.checked) own started (by kernel_rfl) Tryz.func3
  (ChangeSpec.witness6 (enc := enc) (C := Tryz.checked) false ⟨#[], #[.slice none 0 0], []⟩ 8 (by kernel_rfl) (by kernel_rfl) (by kernel_rfl) (by kernel_rfl)) ?_
 intro W b0 a0 ds gs c0 hval0 hW _ _
 have hval : ∀ (j : Nat) t v, Tryz.f3.params[j]? = some t → a0[j]? = some v → Value.okWide Tryz.prog W .any b0 t v := hval0
 have hW' := hW
 obtain ⟨p, q, e0, hV, rfl, m0, n0⟩ := hW
 have hA : DataW.TrodAll enc Tryz.prog W 0 (fun _ => true) true Tryz.f3.params.toList a0.toList ds p := e0
 rw [Tryz.params3] at hA hval
 obtain ⟨v0, o0, d0, l0, p0, q0, f0, rfl, rfl, h0, r0⟩ := trodAll_cons hA
 obtain ⟨rfl, rfl, rfl⟩ := trodAll_nil r0
 obtain rfl : a0 = #[v0] := by cases a0; simp_all
 obtain ⟨rfl, rfl⟩ := trodVars_none hV
 have k0 := h0
 have g0 : ∀ x ∈ p0, x.block < W.heap.size := by obtain ⟨m, hm⟩ := k0; exact DataW.trod_lt m _ _ _ hm
 obtain ⟨j0, s0, i0⟩ := op_bytes Tryz.underlying22 Tryz.underlying5 (by kernel_rfl) (hval 0 22 v0 rfl rfl) h0
 clear e0 hval0
 refine (FnPairMemory_walk v0 _ j0 W s0 i0).mono fun e W' ⟨he, bel⟩ => ?_
 subst he
 exact ⟨_, rfl, _, _, _, [], _, [], hW', trodAll_mk1 (shut_bool Tryz.underlying4 _), (trodAll_cons_mk (Below.trod laidOut (by kernel_rfl) (of_decide_eq_true (by kernel_rfl)) k0 bel g0) trodAll_mk0), rfl, bel.frame _, fun h => by cases h⟩
theorem named : Tryz.pinned.checked.prog.funcNamed Rows.fnPairMemoryRow.func = some 3 := by kernel_rfl
theorem joined : joinedFacts Tryz.pinned.checked.prog 3 Tryz.f3 Rows.fnPairMemorySpec Rows.fnPairMemoryRow = true := by kernel_rfl
theorem inst : Tryz.f3.isInstance Tryz.pinned.checked.prog Rows.fnPairMemoryRow.origin Rows.fnPairMemoryRow.targs := of_decide_eq_true (by kernel_rfl)
theorem wrap : Tryz.f3.isWrapper Tryz.pinned.checked.prog Rows.fnPairMemoryRow.wrapper Rows.fnPairMemoryRow.mainSum := by unfold Func.isWrapper; first | (rw [if_pos (by decide +kernel)]; kernel_rfl) | (rw [if_neg (by decide +kernel)]; exact ⟨rfl, rfl⟩)
theorem proved : Rows.FnPairMemorySaid :=
 OpenClaim.holds_of_wide 3 Tryz.f3 rfl rfl rfl rfl rfl rfl rfl ⟨rfl, rfl, rfl, rfl, rfl⟩ rfl rfl rfl rfl rfl named Tryz.func3 joined inst wrap
  (fun os started H enc _ => lifted os started H enc)
#print axioms proved
end Go.Proofs.YtlckklglbodgbaaGreat.fnPairMemory
