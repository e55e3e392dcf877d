/-
 Parts of the proofs of the laws FnCheckLive, FnCodeFenced, FnEraseCode, FnEraseSecret, FnFinalRegs, FnLiveRegister, FnLiveRegs, FnSpecPath.
-/
import Derived.Test.YtkjedgnepnbkpaaVV
import Derived.Test.YtkjedgnepnbkpaaB
set_option linter.all false
namespace Go.Proofs.Ytkjedgnepnbkpaa
open Go.RowKit
theorem info_bool : (Try.prog.info? 4).map (fun i => (i.zero, i.size, i.bytes)) = some (some (.bool false), 1, 1) := by kernel_rfl
theorem mk_boolF (n : Nat) (h : n ≤ 1073741824) (u : World) : (Instr.makeSlice 66 (.int .i64 n) (.int .i64 n)).run Try.prog u =
  .ok (.slice (some ⟨u.heap.size, 0, none⟩) n n) (u.alloc (.cells (madeCells #[.bool false] n) 4)) := by
 obtain ⟨i0, hi, a0, b0, c0⟩ := info_parts info_bool
 have h := run_make (P := Try.prog) u 66 4 i0 (.bool false) Try.underlying66 hi a0 .i64 .i64 n n (by omega) (Int.le_refl _) (by rw [c0]; omega) (by omega)
 rw [Int.toNat_natCast, b0, Nat.mul_one] at h
 exact h
end Go.Proofs.Ytkjedgnepnbkpaa
namespace Go.Proofs.Ytkjedgnepnbkpaa
open Go.RowKit
def isBr (op : Int) : Bool := op == 9 || op == 10
theorem br_in {nv na nl : Nat} {x : Ins} (h : insOk nv na nl x = true) (hb : isBr x.op = true) : 0 ≤ x.b ∧ x.b < nl := by
 obtain ⟨op, a, b, c, d⟩ := x
 unfold isBr at hb
 simp only [Bool.or_eq_true, beq_iff_eq] at hb
 have a0 : wi b 0 ((nl : Int) - 1) = true := by
  rcases hb with rfl | rfl
  all_goals
   unfold insOk at h
   simp [shp, flds, fOk] at h
   exact h.2.2.1
 have := of_decide_eq_true a0
 constructor <;> simp only <;> omega
theorem bools_replicate (n : Nat) (b : Bool) : bools (List.replicate n b) = List.replicate n (.bool b) := by simp [bools]
end Go.Proofs.Ytkjedgnepnbkpaa
namespace Go.Proofs.Ytkjedgnepnbkpaa
open Go.RowKit
def tgt (x : Ins) : Int := if x.op = 8 then x.a else if x.op = 9 ∨ x.op = 10 then x.b else -1
def aim (x : Ins) (t : Int) : Ins := if x.op = 8 then { x with a := t } else if x.op = 9 ∨ x.op = 10 then { x with b := t } else x
theorem tgt_cases (x : Ins) : (x.op = 8 ∧ tgt x = x.a ∧ ∀ t, aim x t = { x with a := t }) ∨ (x.op = 9 ∧ tgt x = x.b ∧ ∀ t, aim x t = { x with b := t }) ∨ (x.op = 10 ∧ tgt x = x.b ∧ ∀ t, aim x t = { x with b := t }) ∨ ((¬ x.op = 8 ∧ ¬ x.op = 9 ∧ ¬ x.op = 10) ∧ tgt x = -1 ∧ ∀ t, aim x t = x) := by
 by_cases h8 : x.op = 8
 ·refine Or.inl ⟨h8, ?_, fun t => ?_⟩
  ·unfold tgt; rw [if_pos h8]
  unfold aim; rw [if_pos h8]
 by_cases h9 : x.op = 9
 ·refine Or.inr (Or.inl ⟨h9, ?_, fun t => ?_⟩)
  ·unfold tgt; rw [if_neg h8, if_pos (Or.inl h9)]
  unfold aim; rw [if_neg h8, if_pos (Or.inl h9)]
 by_cases h10 : x.op = 10
 ·refine Or.inr (Or.inr (Or.inl ⟨h10, ?_, fun t => ?_⟩))
  ·unfold tgt; rw [if_neg h8, if_pos (Or.inr h10)]
  unfold aim; rw [if_neg h8, if_pos (Or.inr h10)]
 refine Or.inr (Or.inr (Or.inr ⟨⟨h8, h9, h10⟩, ?_, fun t => ?_⟩))
 ·unfold tgt; rw [if_neg h8, if_neg (by omega)]
 unfold aim; rw [if_neg h8, if_neg (by omega)]
set_option maxHeartbeats 1600000 in
theorem target_any (x : Ins) (w : World) :
  Calls Try.prog 54 #[.agg #[.int .i64 x.op, .int .i64 x.a, .int .i64 x.b, .int .i64 x.c, .int .i64 x.d]] w fun e w' => e = .returned (.int .i64 (tgt x)) ∧ Below w.heap.size w w' := by
 have a0 := bal (Bs w) (.cells #[.int .i64 x.op, .int .i64 x.a, .int .i64 x.b, .int .i64 x.c, .int .i64 x.d] 32)
 obtain ⟨op, a, b, c, d⟩ := x
 rcases tgt_cases ⟨op, a, b, c, d⟩ with ⟨h, ht, _⟩ | ⟨h, ht, _⟩ | ⟨h, ht, _⟩ | ⟨⟨h1, h2, h3⟩, ht, _⟩
 ·rw [ht]
  simp only at h ⊢ a0
  subst h
  clear ht
  go_enter Try.func54, Try.ntmps54
  go_wp2
  go_ret
  exact ⟨rfl, a0⟩
 ·rw [ht]
  simp only at h ⊢ a0
  subst h
  clear ht
  go_enter Try.func54, Try.ntmps54
  go_wp2
  go_ret
  exact ⟨rfl, a0⟩
 ·rw [ht]
  simp only at h ⊢ a0
  subst h
  clear ht
  go_enter Try.func54, Try.ntmps54
  go_wp2
  go_ret
  exact ⟨rfl, a0⟩
 rw [ht]
 simp only at h1 h2 h3 ⊢ a0
 have e1 : (op == 8) = false := by simp [h1]
 have e2 : (op == 9) = false := by simp [h2]
 have e3 : (op == 10) = false := by simp [h3]
 clear ht h1 h2 h3
 go_enter Try.func54, Try.ntmps54
 go_wp2
 go_ret
 exact ⟨rfl, a0⟩
end Go.Proofs.Ytkjedgnepnbkpaa
namespace Go.Proofs.Ytkjedgnepnbkpaa
open Go.RowKit
theorem tgt_in {nv na nl : Nat} {x : Ins} (h : insOk nv na nl x = true) (h0 : 0 ≤ tgt x) : tgt x < nl ∧ (x.op = 8 ∨ x.op = 9 ∨ x.op = 10) := by
 rcases tgt_cases x with ⟨h8, ht, _⟩ | ⟨h9, ht, _⟩ | ⟨h9, ht, _⟩ | ⟨_, ht, _⟩
 ·refine ⟨?_, Or.inl h8⟩
  rw [ht]
  obtain ⟨op, a, b, c, d⟩ := x
  simp only at h8
  subst h8
  unfold insOk at h
  simp [shp, flds, fOk] at h
  have := of_decide_eq_true h.2.1
  simp only
  omega
 ·have := br_in h (by unfold isBr; rw [h9]; rfl)
  exact ⟨by rw [ht]; exact this.2, Or.inr (Or.inl h9)⟩
 ·have := br_in h (by unfold isBr; rw [h9]; rfl)
  exact ⟨by rw [ht]; exact this.2, Or.inr (Or.inr h9)⟩
 omega
end Go.Proofs.Ytkjedgnepnbkpaa
