/-
 The law FnLiveRegister returns true for every input: a machine whose registers differ in those that are not live takes the same steps. No conditions.
-/
import Derived.Test.YtkjedgnepnbkpaaRows
import Derived.Below
import Derived.ChangeOld
import Derived.Test.YtkjedgnepnbkpaaUF
set_option linter.all false
namespace Go.Proofs.Ytkjedgnepnbkpaa.fnLiveRegister
open Go.ChangeShapes Go.WideShapes Go.ChangeAt Go.RowKit
theorem own : ownKnob Try.prog.godebug = none := by kernel_rfl
theorem laidOut : laidOutB Try.prog = true := by kernel_rfl
set_option maxRecDepth 100000 in
theorem lifted (os : Os) (started : os.Started) (H : Type) (enc : TypeId × Value → H) :
  ReturnsInHanded {} Try.checked os 11 .any (Rows.fnLiveRegisterSpec.pre6 enc Try.prog Try.f11 Rows.fnLiveRegisterRow.domain false) (Rows.fnLiveRegisterSpec.post enc Try.prog Try.f11 false true false false) := by
 refine returnsInHanded_of_change (C := Try.checked) own started (by kernel_rfl) Try.func11
  (ChangeSpec.witness6 (enc := enc) (C := Try.checked) false ⟨#[], #[.slice none 0 0, .slice none 0 0], []⟩ 8 (by kernel_rfl) (by kernel_rfl) (by kernel_rfl) (by kernel_rfl)) ?_
 intro W b0 a0 ds gs c0 hval0 hW _ _
 have hval : ∀ (j : Nat) t v, Try.f11.params[j]? = some t → a0[j]? = some v → Value.okWide Try.prog W .any b0 t v := hval0
 have hW' := hW
 obtain ⟨p, q, e0, hV, rfl, o0, t0⟩ := hW
 have hA : DataW.TrodAll enc Try.prog W 0 (fun _ => true) true Try.f11.params.toList a0.toList ds p := e0
 rw [Try.params11] at hA hval
 obtain ⟨v0, u0, d0, m0, p0, q0, f0, rfl, rfl, h0, r0⟩ := trodAll_cons hA
 obtain ⟨v1, w0, d1, n0, p1, q1, rfl, rfl, rfl, h1, r1⟩ := trodAll_cons r0
 obtain ⟨rfl, rfl, rfl⟩ := trodAll_nil r1
 obtain rfl : a0 = #[v0, v1] := by cases a0; simp_all
 obtain ⟨rfl, rfl⟩ := trodVars_none hV
 have k0 := h0
 have g0 : ∀ x ∈ p0, x.block < W.heap.size := by obtain ⟨m, hm⟩ := k0; exact DataW.trod_lt m _ _ _ hm
 have k1 := h1
 have i0 : ∀ x ∈ p1, x.block < W.heap.size := by obtain ⟨m, hm⟩ := k1; exact DataW.trod_lt m _ _ _ hm
 obtain ⟨l0, s0, j0⟩ := op_bytes Try.underlying22 Try.underlying5 (by kernel_rfl) (hval 0 22 v0 rfl rfl) h0
 obtain ⟨y0, s1, x0⟩ := op_bytes Try.underlying22 Try.underlying5 (by kernel_rfl) (hval 1 22 v1 rfl rfl) h1
 clear e0 hval0
 refine (FnLiveRegister_walk v0 _ l0 v1 _ _ W s0 j0 s1).mono fun e W' ⟨he, bel⟩ => ?_
 subst he
 exact ⟨_, rfl, _, _, _, [], _, [], hW', trodAll_mk1 (shut_bool Try.underlying4 _), (trodAll_cons_mk (Below.trod laidOut (by kernel_rfl) (of_decide_eq_true (by kernel_rfl)) k0 bel g0) (trodAll_cons_mk (Below.trod laidOut (by kernel_rfl) (of_decide_eq_true (by kernel_rfl)) k1 bel i0) trodAll_mk0)), rfl, bel.frame _, fun h => by cases h⟩
theorem named : Try.pinned.checked.prog.funcNamed Rows.fnLiveRegisterRow.func = some 11 := by kernel_rfl
theorem joined : joinedFacts Try.pinned.checked.prog 11 Try.f11 Rows.fnLiveRegisterSpec Rows.fnLiveRegisterRow = true := by kernel_rfl
theorem inst : Try.f11.isInstance Try.pinned.checked.prog Rows.fnLiveRegisterRow.origin Rows.fnLiveRegisterRow.targs := of_decide_eq_true (by kernel_rfl)
theorem wrap : Try.f11.isWrapper Try.pinned.checked.prog Rows.fnLiveRegisterRow.wrapper Rows.fnLiveRegisterRow.mainSum := by unfold Func.isWrapper; first | (rw [if_pos (by decide +kernel)]; kernel_rfl) | (rw [if_neg (by decide +kernel)]; exact ⟨rfl, rfl⟩)
theorem proved : Rows.FnLiveRegisterSaid :=
 OpenClaim.holds_of_wide 11 Try.f11 rfl rfl rfl rfl rfl rfl rfl ⟨rfl, rfl, rfl, rfl, rfl⟩ rfl rfl rfl rfl rfl named Try.func11 joined inst wrap
  (fun os started H enc _ => lifted os started H enc)
#print axioms proved
end Go.Proofs.Ytkjedgnepnbkpaa.fnLiveRegister
