/-
  Parts of the proof of the law FnExactCountBranches.
-/
import Derived.Test.YtbglogjamfdmpaaQ
import Derived.Test.YtbglogjamfdmpaaVP
namespace Go.Proofs.Ytbglogjamfdmpaa
open Go.RowKit

def isBr (op : Int) : Bool := op == 9 || op == 10
theorem codeOk_all {c : Cd} (h : codeOk c = true) : ∀ (k : Nat) (hk : k < c.list.length), insOk c.vars.length c.arrays.length c.list.length c.list[k] = true := by
  intro k hk
  unfold codeOk at h
  simp only [Bool.and_eq_true] at h
  exact List.all_eq_true.1 h.2.2.1 _ (List.getElem_mem hk)
theorem codeOk_len {c : Cd} (h : codeOk c = true) : 1 ≤ c.list.length ∧ c.list.length ≤ 400 := by
  unfold codeOk at h
  simp only [Bool.and_eq_true] at h
  exact of_decide_eq_true h.2.1
theorem codeOk_decl {c : Cd} (h : codeOk c = true) : declOk c.vars c.arrays = true := by
  unfold codeOk at h
  simp only [Bool.and_eq_true] at h
  exact h.1
theorem codeOk_last {c : Cd} (h : codeOk c = true) : ∃ hk : c.list.length - 1 < c.list.length, (c.list[c.list.length - 1]'hk).op = 13 ∨ (c.list[c.list.length - 1]'hk).op = 8 := by
  have hl := codeOk_len h
  unfold codeOk at h
  simp only [Bool.and_eq_true] at h
  have h2 := h.2.2.2
  unfold lastOk at h2
  rw [List.getLast?_eq_getElem?, List.getElem?_eq_getElem (by omega)] at h2
  refine ⟨by omega, ?_⟩
  simpa using h2
theorem declOk_len {xs ys : List Int} (h : declOk xs ys = true) : xs.length ≤ 12 ∧ ys.length ≤ 2 := by
  unfold declOk at h
  simp only [Bool.and_eq_true] at h
  exact ⟨(of_decide_eq_true h.1).2, of_decide_eq_true h.2.1⟩
theorem insOk_op {nv na nl : Nat} {x : Ins} (h : insOk nv na nl x = true) : 1 ≤ x.op ∧ x.op ≤ 13 := by
  unfold insOk at h
  simp only [Bool.and_eq_true] at h
  exact of_decide_eq_true h.1
theorem isBranch_any (op a b c d : Int) (w : World) :
    Calls Try.prog 63 #[.agg #[.int .i64 op, .int .i64 a, .int .i64 b, .int .i64 c, .int .i64 d]] w fun e w' => e = .returned (.bool (isBr op)) ∧ Below w.heap.size w w' := by
  have hc : (op == 9) = true ∨ ((op == 9) = false ∧ ((op == 10) = true ∨ (op == 10) = false)) := by
    cases (op == 9) <;> cases (op == 10) <;> simp
  have hbx := bal (bself w) (.cells #[.int .i64 op, .int .i64 a, .int .i64 b, .int .i64 c, .int .i64 d] 92)
  rcases hc with h | ⟨h, h2 | h2⟩
  · have HB : Hid (isBr op = true) := Lib.hid (by unfold isBr; rw [h]; rfl)
    go_enter Try.func63, Try.ntmps63
    go_wp2
    go_ret
    exact ⟨ret_bool HB.out.symm, hbx⟩
  · have HB : Hid (isBr op = true) := Lib.hid (by unfold isBr; rw [h, h2]; rfl)
    go_enter Try.func63, Try.ntmps63
    go_wp2
    go_ret
    exact ⟨ret_bool HB.out.symm, hbx⟩
  · have HB : Hid (isBr op = false) := Lib.hid (by unfold isBr; rw [h, h2]; rfl)
    go_enter Try.func63, Try.ntmps63
    go_wp2
    go_ret
    exact ⟨ret_bool HB.out.symm, hbx⟩
theorem l11Branch_any (op a b c d : Int) (w : World) :
    Calls Try.prog 55 #[.agg #[.int .i64 op, .int .i64 a, .int .i64 b, .int .i64 c, .int .i64 d]] w fun e w' => e = .returned (.bool (isBr op)) ∧ Below w.heap.size w w' := by
  have hc : (op == 9) = true ∨ ((op == 9) = false ∧ ((op == 10) = true ∨ (op == 10) = false)) := by
    cases (op == 9) <;> cases (op == 10) <;> simp
  have hbx := bal (bself w) (.cells #[.int .i64 op, .int .i64 a, .int .i64 b, .int .i64 c, .int .i64 d] 92)
  rcases hc with h | ⟨h, h2 | h2⟩
  · have HB : Hid (isBr op = true) := Lib.hid (by unfold isBr; rw [h]; rfl)
    go_enter Try.func55, Try.ntmps55
    go_wp2
    go_ret
    exact ⟨ret_bool HB.out.symm, hbx⟩
  · have HB : Hid (isBr op = true) := Lib.hid (by unfold isBr; rw [h, h2]; rfl)
    go_enter Try.func55, Try.ntmps55
    go_wp2
    go_ret
    exact ⟨ret_bool HB.out.symm, hbx⟩
  · have HB : Hid (isBr op = false) := Lib.hid (by unfold isBr; rw [h, h2]; rfl)
    go_enter Try.func55, Try.ntmps55
    go_wp2
    go_ret
    exact ⟨ret_bool HB.out.symm, hbx⟩

end Go.Proofs.Ytbglogjamfdmpaa
