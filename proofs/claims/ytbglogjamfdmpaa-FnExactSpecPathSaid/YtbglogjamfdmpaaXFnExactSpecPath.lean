/-
  The law FnExactSpecPath returns true for every input: the program's SpecPath returns what the reference returns. No conditions.
-/
import Derived.Test.YtbglogjamfdmpaaRows
import Derived.Below
import Derived.ChangeOld
import Derived.Test.YtbglogjamfdmpaaOB
import Derived.Test.YtbglogjamfdmpaaOS
import Derived.Test.YtbglogjamfdmpaaSF
namespace Go.Proofs.Ytbglogjamfdmpaa.fnExactSpecPath
open Go.ChangeShapes Go.WideShapes Go.ChangeAt Go.RowKit

theorem own : ownKnob Try.prog.godebug = none := by kernel_rfl
theorem laidOut : laidOutB Try.prog = true := by kernel_rfl

set_option maxRecDepth 100000 in
theorem lifted (os : Os) (started : os.Started) (H : Type) (enc : TypeId × Value → H) :
    ReturnsInHanded {} Try.checked os 4 .any (Rows.fnExactSpecPathSpec.pre6 enc Try.prog Try.f4 Rows.fnExactSpecPathRow.domain false) (Rows.fnExactSpecPathSpec.post enc Try.prog Try.f4 false true false false) := by
  refine returnsInHanded_of_change (C := Try.checked) own started (by kernel_rfl) Try.func4
    (ChangeSpec.witness6 (enc := enc) (C := Try.checked) false ⟨#[], #[.agg #[.slice none 0 0, .slice none 0 0, .slice none 0 0], .agg #[.int .i64 0, .slice none 0 0, .slice none 0 0, .slice none 0 0]], []⟩ 8 (by kernel_rfl) (by kernel_rfl) (by kernel_rfl) (by kernel_rfl)) ?_
  intro W base args ds gs before hval0 hW _ _
  have hval : ∀ (j : Nat) t v, Try.f4.params[j]? = some t → args[j]? = some v → Value.okWide Try.prog W .any base t v := hval0
  have hW' := hW
  obtain ⟨p, q, hA0, hV, rfl, hfz, hnd⟩ := hW
  have hA : DataW.TrodAll enc Try.prog W 0 (fun _ => true) true Try.f4.params.toList args.toList ds p := hA0
  rw [Try.params4] at hA hval
  obtain ⟨v0, vs0, d0, ds0, p0, q0, hargs, rfl, rfl, h0, r0⟩ := trodAll_cons hA
  obtain ⟨v1, vs1, d1, ds1, p1, q1, rfl, rfl, rfl, h1, r1⟩ := trodAll_cons r0
  obtain ⟨rfl, rfl, rfl⟩ := trodAll_nil r1
  obtain rfl : args = #[v0, v1] := by cases args; simp_all
  obtain ⟨rfl, rfl⟩ := trodVars_none hV
  have k0 := h0
  have lt0 : ∀ x ∈ p0, x.block < W.heap.size := by obtain ⟨m, hm⟩ := k0; exact DataW.trod_lt m _ _ _ hm
  have k1 := h1
  have lt1 : ∀ x ∈ p1, x.block < W.heap.size := by obtain ⟨m, hm⟩ := k1; exact DataW.trod_lt m _ _ _ hm
  obtain ⟨ca0, cb0, cc0, ix0, iy0, il0, rfl, ra0, rb0, rc0⟩ := op_code Try.underlying25 (by kernel_rfl) (by kernel_rfl) Try.underlying22 Try.underlying22 Try.underlying3 (by kernel_rfl) Try.underlying23 Try.underlying135 (by kernel_rfl) (by kernel_rfl) Try.underlying3 Try.underlying3 Try.underlying3 Try.underlying3 Try.underlying3 (hval 0 25 v0 rfl rfl) h0
  obtain ⟨mn1, mr1, mx1, my1, irs1, ixs1, iqs1, rfl, rr1, rx1, ry1⟩ := op_machine Try.underlying43 (by kernel_rfl) Try.underlying3 ⟨by kernel_rfl, rfl⟩ Try.underlying22 ⟨by kernel_rfl, rfl⟩ ⟨by kernel_rfl, rfl⟩ Try.underlying28 (by kernel_rfl) Try.underlying22 Try.underlying3 (by kernel_rfl) Try.underlying26 Try.underlying22 (by kernel_rfl) (hval 1 43 v1 rfl rfl) h1
  clear hA0 hval0
  refine (FnExactSpecPath_walk ca0 cb0 cc0 _ _ _ ⟨ix0, iy0, il0⟩ ⟨mn1, irs1, ⟨ixs1, iqs1⟩⟩ W ⟨ra0, rb0, rc0⟩ ⟨rr1, ⟨rx1, ry1⟩⟩).mono fun e W' ⟨he, bel⟩ => ?_
  subst he
  exact ⟨_, rfl, _, _, _, [], _, [], hW', trodAll_mk1 (shut_bool Try.underlying4 _), (trodAll_cons_mk (Below.trod laidOut (by kernel_rfl) (of_decide_eq_true (by kernel_rfl)) k0 bel lt0) (trodAll_cons_mk (Below.trod laidOut (by kernel_rfl) (of_decide_eq_true (by kernel_rfl)) k1 bel lt1) trodAll_mk0)), rfl, bel.frame _, fun h => by cases h⟩

theorem named : Try.pinned.checked.prog.funcNamed Rows.fnExactSpecPathRow.func = some 4 := by kernel_rfl
theorem joined : joinedFacts Try.pinned.checked.prog 4 Try.f4 Rows.fnExactSpecPathSpec Rows.fnExactSpecPathRow = true := by kernel_rfl
theorem inst : Try.f4.isInstance Try.pinned.checked.prog Rows.fnExactSpecPathRow.origin Rows.fnExactSpecPathRow.targs := of_decide_eq_true (by kernel_rfl)
theorem wrap : Try.f4.isWrapper Try.pinned.checked.prog Rows.fnExactSpecPathRow.wrapper Rows.fnExactSpecPathRow.mainSum := by unfold Func.isWrapper; first | (rw [if_pos (by decide +kernel)]; kernel_rfl) | (rw [if_neg (by decide +kernel)]; exact ⟨rfl, rfl⟩)

theorem proved : Rows.FnExactSpecPathSaid :=
  OpenClaim.holds_of_wide 4 Try.f4 rfl rfl rfl rfl rfl rfl rfl ⟨rfl, rfl, rfl, rfl, rfl⟩ rfl rfl rfl rfl rfl named Try.func4 joined inst wrap
    (fun os started H enc _ => lifted os started H enc)
#print axioms proved
end Go.Proofs.Ytbglogjamfdmpaa.fnExactSpecPath
