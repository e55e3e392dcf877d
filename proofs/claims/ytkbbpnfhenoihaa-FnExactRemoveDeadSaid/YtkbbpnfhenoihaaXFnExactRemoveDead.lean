/-
  The law FnExactRemoveDead returns true for every input: the program's RemoveDead returns what the reference returns. No conditions.
-/
import Derived.Test.YtkbbpnfhenoihaaRows
import Derived.Below
import Derived.ChangeOld
import Derived.Test.YtkbbpnfhenoihaaDU
import Derived.Test.YtkbbpnfhenoihaaOS
namespace Go.Proofs.Ytkbbpnfhenoihaa.fnExactRemoveDead
open Go.ChangeShapes Go.WideShapes Go.ChangeAt Go.RowKit

theorem own : ownKnob Try.prog.godebug = none := by kernel_rfl
theorem laidOut : laidOutB Try.prog = true := by kernel_rfl

set_option maxRecDepth 100000 in
theorem lifted (os : Os) (started : os.Started) (H : Type) (enc : TypeId × Value → H) :
    ReturnsInHanded {} Try.checked os 12 .any (Rows.fnExactRemoveDeadSpec.pre6 enc Try.prog Try.f12 Rows.fnExactRemoveDeadRow.domain false) (Rows.fnExactRemoveDeadSpec.post enc Try.prog Try.f12 false true false false) := by
  refine returnsInHanded_of_change (C := Try.checked) own started (by kernel_rfl) Try.func12
    (ChangeSpec.witness6 (enc := enc) (C := Try.checked) false ⟨#[], #[.agg #[.slice none 0 0, .slice none 0 0, .slice none 0 0]], []⟩ 8 (by kernel_rfl) (by kernel_rfl) (by kernel_rfl) (by kernel_rfl)) ?_
  intro W base args ds gs before hval0 hW _ _
  have hval : ∀ (j : Nat) t v, Try.f12.params[j]? = some t → args[j]? = some v → Value.okWide Try.prog W .any base t v := hval0
  have hW' := hW
  obtain ⟨p, q, hA0, hV, rfl, hfz, hnd⟩ := hW
  have hA : DataW.TrodAll enc Try.prog W 0 (fun _ => true) true Try.f12.params.toList args.toList ds p := hA0
  rw [Try.params12] at hA hval
  obtain ⟨v0, vs0, d0, ds0, p0, q0, hargs, rfl, rfl, h0, r0⟩ := trodAll_cons hA
  obtain ⟨rfl, rfl, rfl⟩ := trodAll_nil r0
  obtain rfl : args = #[v0] := by cases args; simp_all
  obtain ⟨rfl, rfl⟩ := trodVars_none hV
  have k0 := h0
  have lt0 : ∀ x ∈ p0, x.block < W.heap.size := by obtain ⟨m, hm⟩ := k0; exact DataW.trod_lt m _ _ _ hm
  obtain ⟨ca0, cb0, cc0, ix0, iy0, il0, rfl, ra0, rb0, rc0⟩ := op_code Try.underlying45 (by kernel_rfl) (by kernel_rfl) Try.underlying22 Try.underlying22 Try.underlying3 (by kernel_rfl) Try.underlying43 Try.underlying154 (by kernel_rfl) (by kernel_rfl) Try.underlying3 Try.underlying3 Try.underlying3 Try.underlying3 Try.underlying3 (hval 0 45 v0 rfl rfl) h0
  clear hA0 hval0
  refine (FnExactRemoveDead_walk ca0 cb0 cc0 ⟨ix0, iy0, il0⟩ W ⟨ra0, rb0, rc0⟩).mono fun e W' ⟨he, bel⟩ => ?_
  subst he
  exact ⟨_, rfl, _, _, _, [], _, [], hW', trodAll_mk1 (shut_bool Try.underlying4 _), (trodAll_cons_mk (Below.trod laidOut (by kernel_rfl) (of_decide_eq_true (by kernel_rfl)) k0 bel lt0) trodAll_mk0), rfl, bel.frame _, fun h => by cases h⟩

theorem named : Try.pinned.checked.prog.funcNamed Rows.fnExactRemoveDeadRow.func = some 12 := by kernel_rfl
theorem joined : joinedFacts Try.pinned.checked.prog 12 Try.f12 Rows.fnExactRemoveDeadSpec Rows.fnExactRemoveDeadRow = true := by kernel_rfl
theorem inst : Try.f12.isInstance Try.pinned.checked.prog Rows.fnExactRemoveDeadRow.origin Rows.fnExactRemoveDeadRow.targs := of_decide_eq_true (by kernel_rfl)
theorem wrap : Try.f12.isWrapper Try.pinned.checked.prog Rows.fnExactRemoveDeadRow.wrapper Rows.fnExactRemoveDeadRow.mainSum := by unfold Func.isWrapper; first | (rw [if_pos (by decide +kernel)]; kernel_rfl) | (rw [if_neg (by decide +kernel)]; exact ⟨rfl, rfl⟩)

theorem proved : Rows.FnExactRemoveDeadSaid :=
  OpenClaim.holds_of_wide 12 Try.f12 rfl rfl rfl rfl rfl rfl rfl ⟨rfl, rfl, rfl, rfl, rfl⟩ rfl rfl rfl rfl rfl named Try.func12 joined inst wrap
    (fun os started H enc _ => lifted os started H enc)
#print axioms proved
end Go.Proofs.Ytkbbpnfhenoihaa.fnExactRemoveDead
