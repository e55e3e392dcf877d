/-
  Parts of the proof of the law FnExactSpecPath.
-/
import Derived.Test.YtbglogjamfdmpaaQ
import Derived.Test.YtbglogjamfdmpaaVP
namespace Go.Proofs.Ytbglogjamfdmpaa
open Go.RowKit

theorem codeOk_all {c : Cd} (h : codeOk c = true) : ∀ (k : Nat) (hk : k < c.list.length), insOk c.vars.length c.arrays.length c.list.length c.list[k] = true := by
  intro k hk
  unfold codeOk at h
  simp only [Bool.and_eq_true] at h
  exact List.all_eq_true.1 h.2.2.1 _ (List.getElem_mem hk)
theorem codeOk_len {c : Cd} (h : codeOk c = true) : 1 ≤ c.list.length ∧ c.list.length ≤ 400 := by
  unfold codeOk at h
  simp only [Bool.and_eq_true] at h
  exact of_decide_eq_true h.2.1
theorem codeOk_decl {c : Cd} (h : codeOk c = true) : declOk c.vars c.arrays = true := by
  unfold codeOk at h
  simp only [Bool.and_eq_true] at h
  exact h.1
theorem codeOk_last {c : Cd} (h : codeOk c = true) : ∃ hk : c.list.length - 1 < c.list.length, (c.list[c.list.length - 1]'hk).op = 13 ∨ (c.list[c.list.length - 1]'hk).op = 8 := by
  have hl := codeOk_len h
  unfold codeOk at h
  simp only [Bool.and_eq_true] at h
  have h2 := h.2.2.2
  unfold lastOk at h2
  rw [List.getLast?_eq_getElem?, List.getElem?_eq_getElem (by omega)] at h2
  refine ⟨by omega, ?_⟩
  simpa using h2
theorem declOk_len {xs ys : List Int} (h : declOk xs ys = true) : xs.length ≤ 12 ∧ ys.length ≤ 2 := by
  unfold declOk at h
  simp only [Bool.and_eq_true] at h
  exact ⟨(of_decide_eq_true h.1).2, of_decide_eq_true h.2.1⟩
theorem insOk_op {nv na nl : Nat} {x : Ins} (h : insOk nv na nl x = true) : 1 ≤ x.op ∧ x.op ≤ 13 := by
  unfold insOk at h
  simp only [Bool.and_eq_true] at h
  exact of_decide_eq_true h.1
end Go.Proofs.Ytbglogjamfdmpaa
