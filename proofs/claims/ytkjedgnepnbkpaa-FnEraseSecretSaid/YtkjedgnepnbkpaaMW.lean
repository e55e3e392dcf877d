/-
 Parts of the proofs of the laws FnCheckLive, FnCodeFenced, FnEraseCode, FnEraseSecret, FnFinalRegs, FnLiveRegister, FnLiveRegs, FnSpecPath.
-/
import Derived.Test.YtkjedgnepnbkpaaML
import Derived.Test.YtkjedgnepnbkpaaMS2
set_option linter.all false
namespace Go.Proofs.Ytkjedgnepnbkpaa
open Go.RowKit
def stN (c : Cd) : Nat → Ms → Ms
 | 0, s => s
 | n + 1, s => stp (insAt c (stN c n s).pc) (stN c n s)
def evN (c : Cd) : Nat → Ms → List Ev
 | 0, _ => []
 | n + 1, s => evN c n s ++ stEvs (insAt c (stN c n s).pc) (stN c n s)
def opAt (c : Cd) (s : Ms) (n : Nat) : Int := (insAt c (stN c n s).pc).op
theorem stN_ok {c : Cd} {s : Ms} (hok : codeOk c = true) (h : MsOk c s) (n : Nat) : MsOk c (stN c n s) := by
 induction n with
 | zero => exact h
 | succ n ih => exact stp_ok hok ih
theorem evN_len (c : Cd) (s : Ms) (n : Nat) : (evN c n s).length ≤ 2 * n := by
 induction n with
 | zero => simp [evN]
 | succ n ih =>
  have := (stEvs_len (insAt c (stN c n s).pc) (stN c n s)).1
  simp only [evN, List.length_append]
  omega
def fstH (p : Nat → Bool) : Nat → Nat → Option Nat
 | 0, _ => none
 | f + 1, k => if p k = true then some k else fstH p f (k + 1)
theorem fstH_some {p : Nat → Bool} : ∀ (f k n : Nat), n < f → (∀ j, j < n → p (k + j) = false) → p (k + n) = true → fstH p f k = some (k + n) := by
 intro f
 induction f with
 | zero => intro k n h; omega
 | succ f ih =>
  intro k n hn a0 hp
  rw [fstH]
  cases n with
  | zero => rw [if_pos (by simpa using hp)]; rfl
  | succ n =>
   have h0 := a0 0 (by omega)
   rw [if_neg (by rw [Nat.add_zero] at h0; rw [h0]; exact Bool.false_ne_true), ih (k + 1) n (by omega) (fun j hj => by have := a0 (j + 1) (by omega); rw [← this]; congr 1; omega) (by rw [← hp]; congr 1; omega)]
   congr 1; omega
theorem fstH_none {p : Nat → Bool} : ∀ (f k : Nat), (∀ j, j < f → p (k + j) = false) → fstH p f k = none := by
 intro f
 induction f with
 | zero => intro k _; rfl
 | succ f ih =>
  intro k h
  have h0 := h 0 (by omega)
  rw [fstH, if_neg (by rw [Nat.add_zero] at h0; rw [h0]; exact Bool.false_ne_true)]
  exact ih (k + 1) (fun j hj => by have := h (j + 1) (by omega); rw [← this]; congr 1; omega)
end Go.Proofs.Ytkjedgnepnbkpaa
namespace Go.Proofs.Ytkjedgnepnbkpaa
open Go.RowKit
def accE (x : Ins) (s : Ms) : List Ev := if x.op = 4 then [(2, adr x.b (gi s.regs x.c))] else if x.op = 5 then [(3, adr x.a (gi s.regs x.b))] else if x.op = 11 then [(4, gi s.regs x.a)] else []
theorem stEvs_acc (x : Ins) (s : Ms) : stEvs x s = (5, s.pc) :: accE x s := rfl
end Go.Proofs.Ytkjedgnepnbkpaa
