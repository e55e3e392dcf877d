/-
  The law FnExactSpecRun returns true for every input: the program's SpecRun returns what the reference returns. No conditions.
-/
import Derived.Test.YtbglogjamfdmpaaRows
import Derived.Below
import Derived.ChangeOld
import Derived.Test.YtbglogjamfdmpaaOB
import Derived.Test.YtbglogjamfdmpaaXL
namespace Go.Proofs.Ytbglogjamfdmpaa.fnExactSpecRun
open Go.ChangeShapes Go.WideShapes Go.ChangeAt Go.RowKit

theorem own : ownKnob Try.prog.godebug = none := by kernel_rfl
theorem laidOut : laidOutB Try.prog = true := by kernel_rfl

set_option maxRecDepth 100000 in
theorem lifted (os : Os) (started : os.Started) (H : Type) (enc : TypeId × Value → H) :
    ReturnsInHanded {} Try.checked os 6 .any (Rows.fnExactSpecRunSpec.pre6 enc Try.prog Try.f6 Rows.fnExactSpecRunRow.domain false) (Rows.fnExactSpecRunSpec.post enc Try.prog Try.f6 false true false false) := by
  refine returnsInHanded_of_change (C := Try.checked) own started (by kernel_rfl) Try.func6
    (ChangeSpec.witness6 (enc := enc) (C := Try.checked) false ⟨#[], #[.agg #[.slice none 0 0, .slice none 0 0, .slice none 0 0], .agg #[.slice none 0 0, .slice none 0 0], .slice none 0 0], []⟩ 8 (by kernel_rfl) (by kernel_rfl) (by kernel_rfl) (by kernel_rfl)) ?_
  intro W base args ds gs before hval0 hW _ _
  have hval : ∀ (j : Nat) t v, Try.f6.params[j]? = some t → args[j]? = some v → Value.okWide Try.prog W .any base t v := hval0
  have hW' := hW
  obtain ⟨p, q, hA0, hV, rfl, hfz, hnd⟩ := hW
  have hA : DataW.TrodAll enc Try.prog W 0 (fun _ => true) true Try.f6.params.toList args.toList ds p := hA0
  rw [Try.params6] at hA hval
  obtain ⟨v0, vs0, d0, ds0, p0, q0, hargs, rfl, rfl, h0, r0⟩ := trodAll_cons hA
  obtain ⟨v1, vs1, d1, ds1, p1, q1, rfl, rfl, rfl, h1, r1⟩ := trodAll_cons r0
  obtain ⟨v2, vs2, d2, ds2, p2, q2, rfl, rfl, rfl, h2, r2⟩ := trodAll_cons r1
  obtain ⟨rfl, rfl, rfl⟩ := trodAll_nil r2
  obtain rfl : args = #[v0, v1, v2] := by cases args; simp_all
  obtain ⟨rfl, rfl⟩ := trodVars_none hV
  have k0 := h0
  have lt0 : ∀ x ∈ p0, x.block < W.heap.size := by obtain ⟨m, hm⟩ := k0; exact DataW.trod_lt m _ _ _ hm
  have k1 := h1
  have lt1 : ∀ x ∈ p1, x.block < W.heap.size := by obtain ⟨m, hm⟩ := k1; exact DataW.trod_lt m _ _ _ hm
  have k2 := h2
  have lt2 : ∀ x ∈ p2, x.block < W.heap.size := by obtain ⟨m, hm⟩ := k2; exact DataW.trod_lt m _ _ _ hm
  obtain ⟨ca0, cb0, cc0, ix0, iy0, il0, rfl, ra0, rb0, rc0⟩ := op_code Try.underlying25 (by kernel_rfl) (by kernel_rfl) Try.underlying22 Try.underlying22 Try.underlying3 (by kernel_rfl) Try.underlying23 Try.underlying135 (by kernel_rfl) (by kernel_rfl) Try.underlying3 Try.underlying3 Try.underlying3 Try.underlying3 Try.underlying3 (hval 0 25 v0 rfl rfl) h0
  obtain ⟨mx1, my1, mi1, mr1, rfl, rmx1, rmy1⟩ := op_memory Try.underlying28 (by kernel_rfl) (by kernel_rfl) Try.underlying22 Try.underlying3 (by kernel_rfl) Try.underlying26 Try.underlying22 (by kernel_rfl) (hval 1 28 v1 rfl rfl) h1
  obtain ⟨bs2, rbs2⟩ := op_bools Try.underlying57 Try.underlying4 (by kernel_rfl) (hval 2 57 v2 rfl rfl) h2
  clear hA0 hval0
  refine (FnExactSpecRun_walk ca0 cb0 cc0 _ _ _ ⟨ix0, iy0, il0⟩ ⟨mi1, mr1⟩ bs2 W ⟨ra0, rb0, rc0⟩ ⟨rmx1, rmy1⟩ rbs2).mono fun e W' ⟨he, bel⟩ => ?_
  subst he
  exact ⟨_, rfl, _, _, _, [], _, [], hW', trodAll_mk1 (shut_bool Try.underlying4 _), (trodAll_cons_mk (Below.trod laidOut (by kernel_rfl) (of_decide_eq_true (by kernel_rfl)) k0 bel lt0) (trodAll_cons_mk (Below.trod laidOut (by kernel_rfl) (of_decide_eq_true (by kernel_rfl)) k1 bel lt1) (trodAll_cons_mk (Below.trod laidOut (by kernel_rfl) (of_decide_eq_true (by kernel_rfl)) k2 bel lt2) trodAll_mk0))), rfl, bel.frame _, fun h => by cases h⟩

theorem named : Try.pinned.checked.prog.funcNamed Rows.fnExactSpecRunRow.func = some 6 := by kernel_rfl
theorem joined : joinedFacts Try.pinned.checked.prog 6 Try.f6 Rows.fnExactSpecRunSpec Rows.fnExactSpecRunRow = true := by kernel_rfl
theorem inst : Try.f6.isInstance Try.pinned.checked.prog Rows.fnExactSpecRunRow.origin Rows.fnExactSpecRunRow.targs := of_decide_eq_true (by kernel_rfl)
theorem wrap : Try.f6.isWrapper Try.pinned.checked.prog Rows.fnExactSpecRunRow.wrapper Rows.fnExactSpecRunRow.mainSum := by unfold Func.isWrapper; first | (rw [if_pos (by decide +kernel)]; kernel_rfl) | (rw [if_neg (by decide +kernel)]; exact ⟨rfl, rfl⟩)

theorem proved : Rows.FnExactSpecRunSaid :=
  OpenClaim.holds_of_wide 6 Try.f6 rfl rfl rfl rfl rfl rfl rfl ⟨rfl, rfl, rfl, rfl, rfl⟩ rfl rfl rfl rfl rfl named Try.func6 joined inst wrap
    (fun os started H enc _ => lifted os started H enc)
#print axioms proved
end Go.Proofs.Ytbglogjamfdmpaa.fnExactSpecRun
