/-
  Targets of jumps: the program's and the reference's helpers.
-/
import Derived.Test.YtkbbpnfhenoihaaRW
namespace Go.Proofs.Ytkbbpnfhenoihaa
open Go.RowKit

def tgt (x : Ins) : Int := if x.op = 8 then x.a else if x.op = 9 ∨ x.op = 10 then x.b else -1
/-- an instruction whose target is another -/
def aim (x : Ins) (t : Int) : Ins := if x.op = 8 then { x with a := t } else if x.op = 9 ∨ x.op = 10 then { x with b := t } else x
theorem tgt_cases (x : Ins) : (x.op = 8 ∧ tgt x = x.a ∧ ∀ t, aim x t = { x with a := t }) ∨ (x.op = 9 ∧ tgt x = x.b ∧ ∀ t, aim x t = { x with b := t }) ∨ (x.op = 10 ∧ tgt x = x.b ∧ ∀ t, aim x t = { x with b := t }) ∨ ((¬ x.op = 8 ∧ ¬ x.op = 9 ∧ ¬ x.op = 10) ∧ tgt x = -1 ∧ ∀ t, aim x t = x) := by
  by_cases h8 : x.op = 8
  · refine Or.inl ⟨h8, ?_, fun t => ?_⟩
    · unfold tgt; rw [if_pos h8]
    · unfold aim; rw [if_pos h8]
  by_cases h9 : x.op = 9
  · refine Or.inr (Or.inl ⟨h9, ?_, fun t => ?_⟩)
    · unfold tgt; rw [if_neg h8, if_pos (Or.inl h9)]
    · unfold aim; rw [if_neg h8, if_pos (Or.inl h9)]
  by_cases h10 : x.op = 10
  · refine Or.inr (Or.inr (Or.inl ⟨h10, ?_, fun t => ?_⟩))
    · unfold tgt; rw [if_neg h8, if_pos (Or.inr h10)]
    · unfold aim; rw [if_neg h8, if_pos (Or.inr h10)]
  · refine Or.inr (Or.inr (Or.inr ⟨⟨h8, h9, h10⟩, ?_, fun t => ?_⟩))
    · unfold tgt; rw [if_neg h8, if_neg (by omega)]
    · unfold aim; rw [if_neg h8, if_neg (by omega)]

theorem truth_any (b : Bool) (w : World) : Calls Try.prog 71 #[.bool b] w fun e w' => e = .returned (.int .i64 (if b = true then 1 else 0)) ∧ Below w.heap.size w w' := by
  cases b
  all_goals
    go_enter Try.func71, Try.ntmps71
    go_wp2
    go_ret
    exact ⟨rfl, bself w⟩

set_option maxHeartbeats 1600000 in
theorem target_any (x : Ins) (w : World) :
    Calls Try.prog 102 #[.agg #[.int .i64 x.op, .int .i64 x.a, .int .i64 x.b, .int .i64 x.c, .int .i64 x.d]] w fun e w' => e = .returned (.int .i64 (tgt x)) ∧ Below w.heap.size w w' := by
  have hbx := bal (bself w) (.cells #[.int .i64 x.op, .int .i64 x.a, .int .i64 x.b, .int .i64 x.c, .int .i64 x.d] 98)
  obtain ⟨op, a, b, c, d⟩ := x
  rcases tgt_cases ⟨op, a, b, c, d⟩ with ⟨h, ht, _⟩ | ⟨h, ht, _⟩ | ⟨h, ht, _⟩ | ⟨⟨h1, h2, h3⟩, ht, _⟩
  · rw [ht]
    simp only at h ⊢ hbx
    subst h
    clear ht
    go_enter Try.func102, Try.ntmps102
    go_wp2
    go_ret
    exact ⟨rfl, hbx⟩
  · rw [ht]
    simp only at h ⊢ hbx
    subst h
    clear ht
    go_enter Try.func102, Try.ntmps102
    go_wp2
    go_ret
    exact ⟨rfl, hbx⟩
  · rw [ht]
    simp only at h ⊢ hbx
    subst h
    clear ht
    go_enter Try.func102, Try.ntmps102
    go_wp2
    go_ret
    exact ⟨rfl, hbx⟩
  · rw [ht]
    simp only at h1 h2 h3 ⊢ hbx
    have e1 : (op == 8) = false := by simp [h1]
    have e2 : (op == 9) = false := by simp [h2]
    have e3 : (op == 10) = false := by simp [h3]
    clear ht h1 h2 h3
    go_enter Try.func102, Try.ntmps102
    go_wp2
    go_ret
    exact ⟨rfl, hbx⟩
end Go.Proofs.Ytkbbpnfhenoihaa
