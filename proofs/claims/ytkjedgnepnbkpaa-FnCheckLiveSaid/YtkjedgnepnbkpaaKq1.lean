/-
 Parts of the proofs of the laws FnCheckLive, FnFinalRegs, FnLiveRegister, FnLiveRegs.
-/
import Derived.Test.YtkjedgnepnbkpaaVV
set_option maxHeartbeats 12800000
set_option maxRecDepth 100000
set_option linter.all false
namespace Go.Proofs.Ytkjedgnepnbkpaa
open Go.RowKit

theorem bools_length (xs : List Bool) : (bools xs).length = xs.length := by simp [bools]
theorem bools_get (xs : List Bool) (j : Nat) (h : j < (bools xs).length) : (bools xs)[j] = .bool (xs[j]'(by simpa [bools] using h)) := by simp [bools]
end Go.Proofs.Ytkjedgnepnbkpaa
namespace Go.Proofs.Ytkjedgnepnbkpaa
open Go.RowKit

theorem set_next {α : Type} (l : List α) (z : α) (k : Nat) (h : k < l.length) : (l.take k ++ List.replicate (l.length - k) z).set k l[k] = l.take (k + 1) ++ List.replicate (l.length - (k + 1)) z := by
 apply List.ext_getElem?
 intro j
 simp only [List.getElem?_set, List.getElem?_append, List.length_take, List.length_append, List.length_replicate, List.getElem?_take, List.getElem?_replicate]
 grind
end Go.Proofs.Ytkjedgnepnbkpaa
namespace Go.Proofs.Ytkjedgnepnbkpaa
open Go.RowKit

theorem info_bool : (Try.prog.info? 4).map (fun i => (i.zero, i.size, i.bytes)) = some (some (.bool false), 1, 1) := by kernel_rfl
theorem tBools : SliceT Try.prog 66 4 (.bool false) 1 1 := ⟨Try.underlying66, info_bool, rfl, by omega, by omega⟩
theorem mk_boolF (n : Nat) (h : n ≤ 1073741824) (u : World) : (Instr.makeSlice 66 (.int .i64 n) (.int .i64 n)).run Try.prog u =
  .ok (.slice (some ⟨u.heap.size, 0, none⟩) n n) (u.alloc (.cells (madeCells #[.bool false] n) 4)) := by
 obtain ⟨i0, hi, hz0, hz1, hz2⟩ := info_parts info_bool
 have h := run_make (P := Try.prog) u 66 4 i0 (.bool false) Try.underlying66 hi hz0 .i64 .i64 n n (by omega) (Int.le_refl _) (by rw [hz2]; omega) (by omega)
 rw [Int.toNat_natCast, hz1, Nat.mul_one] at h
 exact h

end Go.Proofs.Ytkjedgnepnbkpaa
namespace Go.Proofs.Ytkjedgnepnbkpaa
open Go.RowKit

def isBr (op : Int) : Bool := op == 9 || op == 10
theorem br_in {nv na nl : Nat} {x : Ins} (h : insOk nv na nl x = true) (hb : isBr x.op = true) : 0 ≤ x.b ∧ x.b < nl := by
 obtain ⟨op, a, b, c, d⟩ := x
 unfold isBr at hb
 simp only [Bool.or_eq_true, beq_iff_eq] at hb
 have key : wi b 0 ((nl : Int) - 1) = true := by
  rcases hb with rfl | rfl
  all_goals
   unfold insOk at h
   simp [shp, flds, fOk] at h
   exact h.2.2.1
 have := of_decide_eq_true key
 constructor <;> simp only <;> omega
theorem bools_replicate (n : Nat) (b : Bool) : bools (List.replicate n b) = List.replicate n (.bool b) := by simp [bools]
end Go.Proofs.Ytkjedgnepnbkpaa
namespace Go.Proofs.Ytkjedgnepnbkpaa
open Go.RowKit

def tgt (x : Ins) : Int := if x.op = 8 then x.a else if x.op = 9 ∨ x.op = 10 then x.b else -1
/-- an instruction whose target is another -/
def aim (x : Ins) (t : Int) : Ins := if x.op = 8 then { x with a := t } else if x.op = 9 ∨ x.op = 10 then { x with b := t } else x
theorem tgt_cases (x : Ins) : (x.op = 8 ∧ tgt x = x.a ∧ ∀ t, aim x t = { x with a := t }) ∨ (x.op = 9 ∧ tgt x = x.b ∧ ∀ t, aim x t = { x with b := t }) ∨ (x.op = 10 ∧ tgt x = x.b ∧ ∀ t, aim x t = { x with b := t }) ∨ ((¬ x.op = 8 ∧ ¬ x.op = 9 ∧ ¬ x.op = 10) ∧ tgt x = -1 ∧ ∀ t, aim x t = x) := by
 by_cases h8 : x.op = 8
 ·refine Or.inl ⟨h8, ?_, fun t => ?_⟩
  ·unfold tgt; rw [if_pos h8]
  ·unfold aim; rw [if_pos h8]
 by_cases h9 : x.op = 9
 ·refine Or.inr (Or.inl ⟨h9, ?_, fun t => ?_⟩)
  ·unfold tgt; rw [if_neg h8, if_pos (Or.inl h9)]
  ·unfold aim; rw [if_neg h8, if_pos (Or.inl h9)]
 by_cases h10 : x.op = 10
 ·refine Or.inr (Or.inr (Or.inl ⟨h10, ?_, fun t => ?_⟩))
  ·unfold tgt; rw [if_neg h8, if_pos (Or.inr h10)]
  ·unfold aim; rw [if_neg h8, if_pos (Or.inr h10)]
 ·refine Or.inr (Or.inr (Or.inr ⟨⟨h8, h9, h10⟩, ?_, fun t => ?_⟩))
  ·unfold tgt; rw [if_neg h8, if_neg (by omega)]
  ·unfold aim; rw [if_neg h8, if_neg (by omega)]

theorem target_any (x : Ins) (w : World) :
  Calls Try.prog 54 #[.agg #[.int .i64 x.op, .int .i64 x.a, .int .i64 x.b, .int .i64 x.c, .int .i64 x.d]] w fun e w' => e = .returned (.int .i64 (tgt x)) ∧ Below w.heap.size w w' := by
 have hbx := bal (Bs w) (.cells #[.int .i64 x.op, .int .i64 x.a, .int .i64 x.b, .int .i64 x.c, .int .i64 x.d] 32)
 obtain ⟨op, a, b, c, d⟩ := x
 rcases tgt_cases ⟨op, a, b, c, d⟩ with ⟨h, ht, _⟩ | ⟨h, ht, _⟩ | ⟨h, ht, _⟩ | ⟨⟨h1, h2, h3⟩, ht, _⟩
 ·rw [ht]
  simp only at h ⊢ hbx
  subst h
  clear ht
  go_enter Try.func54, Try.ntmps54
  go_wp2
  go_ret
  exact ⟨rfl, hbx⟩
 ·rw [ht]
  simp only at h ⊢ hbx
  subst h
  clear ht
  go_enter Try.func54, Try.ntmps54
  go_wp2
  go_ret
  exact ⟨rfl, hbx⟩
 ·rw [ht]
  simp only at h ⊢ hbx
  subst h
  clear ht
  go_enter Try.func54, Try.ntmps54
  go_wp2
  go_ret
  exact ⟨rfl, hbx⟩
 ·rw [ht]
  simp only at h1 h2 h3 ⊢ hbx
  have e1 : (op == 8) = false := by simp [h1]
  have e2 : (op == 9) = false := by simp [h2]
  have e3 : (op == 10) = false := by simp [h3]
  clear ht h1 h2 h3
  go_enter Try.func54, Try.ntmps54
  go_wp2
  go_ret
  exact ⟨rfl, hbx⟩
end Go.Proofs.Ytkjedgnepnbkpaa
namespace Go.Proofs.Ytkjedgnepnbkpaa
open Go.RowKit

theorem tgt_in {nv na nl : Nat} {x : Ins} (h : insOk nv na nl x = true) (h0 : 0 ≤ tgt x) : tgt x < nl ∧ (x.op = 8 ∨ x.op = 9 ∨ x.op = 10) := by
 rcases tgt_cases x with ⟨h8, ht, _⟩ | ⟨h9, ht, _⟩ | ⟨h9, ht, _⟩ | ⟨_, ht, _⟩
 ·refine ⟨?_, Or.inl h8⟩
  rw [ht]
  obtain ⟨op, a, b, c, d⟩ := x
  simp only at h8
  subst h8
  unfold insOk at h
  simp [shp, flds, fOk] at h
  have := of_decide_eq_true h.2.1
  simp only
  omega
 ·have := br_in h (by unfold isBr; rw [h9]; rfl)
  exact ⟨by rw [ht]; exact this.2, Or.inr (Or.inl h9)⟩
 ·have := br_in h (by unfold isBr; rw [h9]; rfl)
  exact ⟨by rw [ht]; exact this.2, Or.inr (Or.inr h9)⟩
 ·omega
end Go.Proofs.Ytkjedgnepnbkpaa
namespace Go.Proofs.Ytkjedgnepnbkpaa
open Go.RowKit

def knl (op : Int) : List UInt8 := if op = 1 then [50, 48] else if op = 2 then [50, 48] else if op = 3 then [48, 49] else if op = 4 then [50, 48, 49] else if op = 5 then [48, 49, 49] else if op = 6 then [50, 48, 49, 49] else if op = 7 then [50, 49, 49, 49] else if op = 8 then [48] else if op = 9 then [49, 48] else if op = 10 then [51, 48] else if op = 11 then [49] else []

theorem writes_any (x : Ins) (w : World) (hop : ¬ (x.op < 1 ∨ 13 < x.op)) :
  Calls Try.prog 133 #[.agg #[.int .i64 x.op, .int .i64 x.a, .int .i64 x.b, .int .i64 x.c, .int .i64 x.d]] w fun e w' => e = .returned (.int .i64 (wrt x)) ∧ Below w.heap.size w w' := by
 obtain ⟨op, a, b, c, d⟩ := x
 simp only at hop ⊢
 rcases shp_cases op with h | rfl | rfl | rfl | rfl | rfl | rfl | rfl | rfl | rfl | rfl | rfl | rfl | rfl
 ·exact absurd h hop
 ·clear hop
  go_enter Try.func133, Try.ntmps133
  go_wp2
  go_ret
  exact ⟨rfl, bal (Bs w) _⟩
 ·clear hop
  go_enter Try.func133, Try.ntmps133
  go_wp2
  go_ret
  exact ⟨rfl, bal (Bs w) _⟩
 ·clear hop
  go_enter Try.func133, Try.ntmps133
  go_wp2
  go_ret
  exact ⟨rfl, bal (Bs w) _⟩
 ·clear hop
  go_enter Try.func133, Try.ntmps133
  go_wp2
  go_ret
  exact ⟨rfl, bal (Bs w) _⟩
 ·clear hop
  go_enter Try.func133, Try.ntmps133
  go_wp2
  go_ret
  exact ⟨rfl, bal (Bs w) _⟩
 ·clear hop
  go_enter Try.func133, Try.ntmps133
  go_wp2
  go_ret
  exact ⟨rfl, bal (Bs w) _⟩
 ·clear hop
  go_enter Try.func133, Try.ntmps133
  go_wp2
  go_ret
  exact ⟨rfl, bal (Bs w) _⟩
 ·clear hop
  go_enter Try.func133, Try.ntmps133
  go_wp2
  go_ret
  exact ⟨rfl, bal (Bs w) _⟩
 ·clear hop
  go_enter Try.func133, Try.ntmps133
  go_wp2
  go_ret
  exact ⟨rfl, bal (Bs w) _⟩
 ·clear hop
  go_enter Try.func133, Try.ntmps133
  go_wp2
  go_ret
  exact ⟨rfl, bal (Bs w) _⟩
 ·clear hop
  go_enter Try.func133, Try.ntmps133
  go_wp2
  go_ret
  exact ⟨rfl, bal (Bs w) _⟩
 ·clear hop
  go_enter Try.func133, Try.ntmps133
  go_wp2
  go_ret
  exact ⟨rfl, bal (Bs w) _⟩
 ·clear hop
  go_enter Try.func133, Try.ntmps133
  go_wp2
  go_ret
  exact ⟨rfl, bal (Bs w) _⟩

theorem uses_any (x : Ins) (w : World) (hop : ¬ (x.op < 1 ∨ 13 < x.op)) :
  Calls Try.prog 134 #[.agg #[.int .i64 x.op, .int .i64 x.a, .int .i64 x.b, .int .i64 x.c, .int .i64 x.d]] w fun e w' => ∃ u, e = .returned u ∧ w'.ownsRow w.heap.size 3 1 u (use x).length (ints (use x)) ∧ Below w.heap.size w w' := by
 obtain ⟨op, a, b, c, d⟩ := x
 simp only at hop ⊢
 rcases shp_cases op with h | rfl | rfl | rfl | rfl | rfl | rfl | rfl | rfl | rfl | rfl | rfl | rfl | rfl
 ·exact absurd h hop
 ·clear hop
  go_enter Try.func134, Try.ntmps134
  go_wp2
  go_ret
  exact ⟨_, rfl, World.ownsRow_nil _ _ _ _, bal (Bs w) _⟩
 ·clear hop
  go_enter Try.func134, Try.ntmps134
  go_wp2
  go_ret
  exact ⟨_, rfl, World.ownsRow_nil _ _ _ _, bal (Bs w) _⟩
 ·clear hop
  have ho := own_lit (w.alloc (.cells #[.int .i64 3, .int .i64 a, .int .i64 b, .int .i64 c, .int .i64 d] 32)) #[.int .i64 b] 1 3 rfl (by omega)
  simp only [Sa] at ho
  go_enter Try.func134, Try.ntmps134
  go_wp2
  go_ret
  exact ⟨_, rfl, Om ho (by omega), bal (bal (Bs w) _) _⟩
 ·clear hop
  have ho := own_lit (w.alloc (.cells #[.int .i64 4, .int .i64 a, .int .i64 b, .int .i64 c, .int .i64 d] 32)) #[.int .i64 c] 1 3 rfl (by omega)
  simp only [Sa] at ho
  go_enter Try.func134, Try.ntmps134
  go_wp2
  go_ret
  exact ⟨_, rfl, Om ho (by omega), bal (bal (Bs w) _) _⟩
 ·clear hop
  have ho := own_lit (w.alloc (.cells #[.int .i64 5, .int .i64 a, .int .i64 b, .int .i64 c, .int .i64 d] 32)) #[.int .i64 b, .int .i64 c] 2 3 rfl (by omega)
  simp only [Sa] at ho
  go_enter Try.func134, Try.ntmps134
  go_wp2
  go_ret
  exact ⟨_, rfl, Om ho (by omega), bal (bal (Bs w) _) _⟩
 ·clear hop
  have ho := own_lit (w.alloc (.cells #[.int .i64 6, .int .i64 a, .int .i64 b, .int .i64 c, .int .i64 d] 32)) #[.int .i64 c, .int .i64 d] 2 3 rfl (by omega)
  simp only [Sa] at ho
  go_enter Try.func134, Try.ntmps134
  go_wp2
  go_ret
  exact ⟨_, rfl, Om ho (by omega), bal (bal (Bs w) _) _⟩
 ·clear hop
  have ho := own_lit (w.alloc (.cells #[.int .i64 7, .int .i64 a, .int .i64 b, .int .i64 c, .int .i64 d] 32)) #[.int .i64 b, .int .i64 c, .int .i64 d] 3 3 rfl (by omega)
  simp only [Sa] at ho
  go_enter Try.func134, Try.ntmps134
  go_wp2
  go_ret
  exact ⟨_, rfl, Om ho (by omega), bal (bal (Bs w) _) _⟩
 ·clear hop
  go_enter Try.func134, Try.ntmps134
  go_wp2
  go_ret
  exact ⟨_, rfl, World.ownsRow_nil _ _ _ _, bal (Bs w) _⟩
 ·clear hop
  have ho := own_lit (w.alloc (.cells #[.int .i64 9, .int .i64 a, .int .i64 b, .int .i64 c, .int .i64 d] 32)) #[.int .i64 a] 1 3 rfl (by omega)
  simp only [Sa] at ho
  go_enter Try.func134, Try.ntmps134
  go_wp2
  go_ret
  exact ⟨_, rfl, Om ho (by omega), bal (bal (Bs w) _) _⟩
 ·clear hop
  have ho := own_lit (w.alloc (.cells #[.int .i64 10, .int .i64 a, .int .i64 b, .int .i64 c, .int .i64 d] 32)) #[.int .i64 a] 1 3 rfl (by omega)
  simp only [Sa] at ho
  go_enter Try.func134, Try.ntmps134
  go_wp2
  go_ret
  exact ⟨_, rfl, Om ho (by omega), bal (bal (Bs w) _) _⟩
 ·clear hop
  have ho := own_lit (w.alloc (.cells #[.int .i64 11, .int .i64 a, .int .i64 b, .int .i64 c, .int .i64 d] 32)) #[.int .i64 a] 1 3 rfl (by omega)
  simp only [Sa] at ho
  go_enter Try.func134, Try.ntmps134
  go_wp2
  go_ret
  exact ⟨_, rfl, Om ho (by omega), bal (bal (Bs w) _) _⟩
 ·clear hop
  go_enter Try.func134, Try.ntmps134
  go_wp2
  go_ret
  exact ⟨_, rfl, World.ownsRow_nil _ _ _ _, bal (Bs w) _⟩
 ·clear hop
  go_enter Try.func134, Try.ntmps134
  go_wp2
  go_ret
  exact ⟨_, rfl, World.ownsRow_nil _ _ _ _, bal (Bs w) _⟩

theorem l12Kind_any (op : Int) (w : World) (hop : ¬ (op < 1 ∨ 13 < op)) :
  Calls Try.prog 159 #[.int .i64 op] w fun e w' => e = .returned (.string ⟨(knl op).toArray⟩) ∧ Below w.heap.size w w' := by
 rcases shp_cases op with h | rfl | rfl | rfl | rfl | rfl | rfl | rfl | rfl | rfl | rfl | rfl | rfl | rfl
 ·exact absurd h hop
 all_goals
  clear hop
  go_enter Try.func159, Try.ntmps159
  go_wp2
  go_ret
  exact ⟨rfl, bal (Bs w) _⟩

end Go.Proofs.Ytkjedgnepnbkpaa
