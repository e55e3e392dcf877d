/-
 The law FnExactProductProgram returns true for every input: the program's ProductProgram returns what the reference returns. No conditions.
-/
import Derived.Test.YtlckklglbodgbaaRows
import Derived.Below
import Derived.ChangeOld
import Derived.Test.YtlckklglbodgbaaOH5
import Derived.Test.YtlckklglbodgbaaO
set_option linter.all false
namespace Go.Proofs.Ytlckklglbodgbaa.fnExactProductProgram
open Go.ChangeShapes Go.WideShapes Go.ChangeAt Go.RowKit
theorem own : ownKnob Try.prog.godebug = none := by kernel_rfl
theorem laidOut : laidOutB Try.prog = true := by kernel_rfl
set_option maxRecDepth 100000 in
theorem lifted (os : Os) (started : os.Started) (H : Type) (enc : TypeId × Value → H) :
  ReturnsInHanded {} Try.checked os 4 .any (Rows.fnExactProductProgramSpec.pre6 enc Try.prog Try.f4 Rows.fnExactProductProgramRow.domain false) (Rows.fnExactProductProgramSpec.post enc Try.prog Try.f4 false true false false) := by
 refine returnsInHanded_of_change (C := Try.checked) own started (by kernel_rfl) Try.func4
  (ChangeSpec.witness6 (enc := enc) (C := Try.checked) false ⟨#[], #[.agg #[.slice none 0 0, .slice none 0 0, .slice none 0 0]], []⟩ 8 (by kernel_rfl) (by kernel_rfl) (by kernel_rfl) (by kernel_rfl)) ?_
 intro W b0 a0 ds gs c0 hval0 hW _ _
 have hval : ∀ (j : Nat) t v, Try.f4.params[j]? = some t → a0[j]? = some v → Value.okWide Try.prog W .any b0 t v := hval0
 have hW' := hW
 obtain ⟨p, q, i0, hV, rfl, y0, z0⟩ := hW
 have hA : DataW.TrodAll enc Try.prog W 0 (fun _ => true) true Try.f4.params.toList a0.toList ds p := i0
 rw [Try.params4] at hA hval
 obtain ⟨v0, a1, d0, x0, p0, q0, j0, rfl, rfl, h0, r0⟩ := trodAll_cons hA
 obtain ⟨rfl, rfl, rfl⟩ := trodAll_nil r0
 obtain rfl : a0 = #[v0] := by cases a0; simp_all
 obtain ⟨rfl, rfl⟩ := trodVars_none hV
 have k0 := h0
 have l0 : ∀ x ∈ p0, x.block < W.heap.size := by obtain ⟨m, hm⟩ := k0; exact DataW.trod_lt m _ _ _ hm
 obtain ⟨o0, s0, t0, u0, w0, m0, n0, rfl, e0, f0, g0⟩ := op_program Try.underlying36 (by kernel_rfl) (by kernel_rfl) Try.underlying23 Try.underlying23 Try.underlying3 (by kernel_rfl) Try.underlying34 ⟨Try.underlying79, by kernel_rfl, Try.underlying3, Try.underlying3, Try.underlying77, by kernel_rfl, by kernel_rfl, by kernel_rfl, by kernel_rfl, by kernel_rfl, by kernel_rfl⟩ ⟨Try.underlying81, by kernel_rfl, Try.underlying3, Try.underlying3, rfl, rfl, Try.underlying3, Try.underlying34, Try.underlying34, ⟨by kernel_rfl, by kernel_rfl⟩, ⟨by kernel_rfl, by kernel_rfl⟩, ⟨by kernel_rfl, by kernel_rfl⟩, ⟨by kernel_rfl, by kernel_rfl⟩, ⟨by kernel_rfl, by kernel_rfl⟩, ⟨by kernel_rfl, by kernel_rfl⟩, ⟨by kernel_rfl, by kernel_rfl⟩⟩ (hval 0 36 v0 rfl rfl) h0
 clear i0 hval0
 refine (FnExactProductProgram_walk o0 s0 t0 u0 w0 m0 n0 W ⟨e0, f0, g0⟩).mono fun e W' ⟨he, bel⟩ => ?_
 subst he
 exact ⟨_, rfl, _, _, _, [], _, [], hW', trodAll_mk1 (shut_bool Try.underlying4 _), (trodAll_cons_mk (Below.trod laidOut (by kernel_rfl) (of_decide_eq_true (by kernel_rfl)) k0 bel l0) trodAll_mk0), rfl, bel.frame _, fun h => by cases h⟩
theorem named : Try.pinned.checked.prog.funcNamed Rows.fnExactProductProgramRow.func = some 4 := by kernel_rfl
theorem joined : joinedFacts Try.pinned.checked.prog 4 Try.f4 Rows.fnExactProductProgramSpec Rows.fnExactProductProgramRow = true := by kernel_rfl
theorem inst : Try.f4.isInstance Try.pinned.checked.prog Rows.fnExactProductProgramRow.origin Rows.fnExactProductProgramRow.targs := of_decide_eq_true (by kernel_rfl)
theorem wrap : Try.f4.isWrapper Try.pinned.checked.prog Rows.fnExactProductProgramRow.wrapper Rows.fnExactProductProgramRow.mainSum := by unfold Func.isWrapper; first | (rw [if_pos (by decide +kernel)]; kernel_rfl) | (rw [if_neg (by decide +kernel)]; exact ⟨rfl, rfl⟩)
theorem proved : Rows.FnExactProductProgramSaid :=
 OpenClaim.holds_of_wide 4 Try.f4 rfl rfl rfl rfl rfl rfl rfl ⟨rfl, rfl, rfl, rfl, rfl⟩ rfl rfl rfl rfl rfl named Try.func4 joined inst wrap
  (fun os started H enc _ => lifted os started H enc)
#print axioms proved
end Go.Proofs.Ytlckklglbodgbaa.fnExactProductProgram
