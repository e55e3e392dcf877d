/-
  Parts of the proof of the law FnExactCountBranches.
-/
import Derived.Test.YtbglogjamfdmpaaMX
import Derived.Test.YtbglogjamfdmpaaNF
namespace Go.Proofs.Ytbglogjamfdmpaa
open Go.RowKit

/-- does this event tell of a branch that was executed -/
def evBr (c : Cd) (e : Ev) : Bool := (e.1 == 5) && isBr (insAt c e.2).op
def cntE (c : Cd) : List Ev → Int
  | [] => 0
  | e :: l => (if evBr c e = true then 1 else 0) + cntE c l
theorem cntE_append (c : Cd) (a b : List Ev) : cntE c (a ++ b) = cntE c a + cntE c b := by
  induction a with
  | nil => simp [cntE]
  | cons x l ih => simp only [List.cons_append, cntE, ih]; omega
theorem cntE_take (c : Cd) (l : List Ev) (k : Nat) (h : k < l.length) : cntE c (l.take (k + 1)) = cntE c (l.take k) + (if evBr c l[k] = true then 1 else 0) := by
  rw [List.take_succ_eq_append_getElem h, cntE_append]; simp [cntE]
theorem cntE_le (c : Cd) (l : List Ev) : 0 ≤ cntE c l ∧ cntE c l ≤ l.length := by
  induction l with
  | nil => simp [cntE]
  | cons x l ih => simp only [cntE, List.length_cons]; split <;> omega
theorem cntE_stEvs (c : Cd) (x : Ins) (s : Ms) : cntE c (stEvs x s) = if evBr c (5, s.pc) = true then 1 else 0 := by
  unfold stEvs
  have h2 : ∀ v, evBr c (2, v) = false := fun v => rfl
  have h3 : ∀ v, evBr c (3, v) = false := fun v => rfl
  have h4 : ∀ v, evBr c (4, v) = false := fun v => rfl
  by_cases k4 : x.op = 4
  · simp [k4, cntE, h2]
  · by_cases k5 : x.op = 5
    · simp [k5, cntE, h3]
    · by_cases k11 : x.op = 11
      · simp [k11, cntE, h4]
      · simp [k4, k5, k11, cntE]
theorem cntE_evN (c : Cd) (s : Ms) (n : Nat) : cntE c (evN c n s) = (brN c n s : Int) := by
  induction n with
  | zero => simp [evN, cntE, brN]
  | succ n ih =>
    simp only [evN, brN, cntE_append, cntE_stEvs, ih]
    have e : evBr c (5, (stN c n s).pc) = isBr (opAt c s n) := by simp [evBr, opAt]
    rw [e]
    split <;> simp
theorem stEvs_five {x : Ins} {s : Ms} {e : Ev} (h : e ∈ stEvs x s) (h5 : e.1 = 5) : e.2 = s.pc := by
  unfold stEvs at h
  have key : ∀ (k v : Int) (l : List Ev), e ∈ (5, s.pc) :: (if x.op = 4 then [(2, adr x.b (gi s.regs x.c))] else if x.op = 5 then [(3, adr x.a (gi s.regs x.b))] else if x.op = 11 then [(4, gi s.regs x.a)] else []) → e.2 = s.pc := by
    intro _ _ _ h
    rcases List.mem_cons.1 h with rfl | h
    · rfl
    · repeat (first | (split at h) | (have h6 := List.mem_singleton.1 h; subst h6; simp at h5) | (cases h))
  exact key 0 0 [] h
theorem evN_five {c : Cd} {s : Ms} (hok : codeOk c = true) (hs : MsOk c s) (n : Nat) : ∀ e ∈ evN c n s, e.1 = 5 → 0 ≤ e.2 ∧ e.2 < c.list.length := by
  induction n with
  | zero => intro e h; simp [evN] at h
  | succ n ih =>
    intro e h h5
    simp only [evN, List.mem_append] at h
    rcases h with h | h
    · exact ih e h h5
    · rw [stEvs_five h h5]
      have hm := stN_ok hok hs n
      exact ⟨hm.pc0, hm.pc1⟩
theorem runE_five (c : Cd) (m : Mm) : ∀ e ∈ runE c m, e.1 = 5 → 0 ≤ e.2 ∧ e.2 < c.list.length := by
  cases h : finN c m with
  | none => rw [(run_no h).1]; intro e h; simp at h
  | some n =>
    rw [(run_yes h).1]
    have hg : goOk c m = true := by
      unfold finN at h
      split at h
      · assumption
      · cases h
    exact evN_five (goOk_code hg) (ini_ok hg) (n + 1)
theorem cntR_eq (c : Cd) (m : Mm) : cntR c m = (cntE c (runE c m), runB c m) := by
  cases h : finN c m with
  | none => rw [cntR_no h, (run_no h).1, (run_no h).2.2]; rfl
  | some n => rw [cntR_yes h, (run_yes h).1, (run_yes h).2.2, cntE_evN]
end Go.Proofs.Ytbglogjamfdmpaa
