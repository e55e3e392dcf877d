/-
 Parts of the proofs of the laws FnCheckLive, FnCodeFenced, FnEraseCode, FnEraseSecret, FnFinalRegs, FnLiveRegister, FnLiveRegs, FnSpecPath.
-/
import Derived.Test.YtkjedgnepnbkpaaZA
import Derived.Test.YtkjedgnepnbkpaaMW
import Derived.Test.YtkjedgnepnbkpaaZB
import Derived.Test.YtkjedgnepnbkpaaZN
import Derived.Test.YtkjedgnepnbkpaaMX1
import Derived.Test.YtkjedgnepnbkpaaMX2
set_option linter.all false
namespace Go.Proofs.Ytkjedgnepnbkpaa
open Go.RowKit
theorem exec_any (tb base : Nat) (va vb vc vr vv vA u : Value) (us : List Value) (c : Cd) (s : Ms) (E : List Ev) (w : World) (hr : ReadsC w va vb vc c) (hO : OwnMv w base vr vv vA us s.regs s.mem) (hE : w.ownsRow tb 47 2 u E.length (evs E)) (hd : ∀ q, u.ownBlock = some q → ¬ OwnMB vr vv vA us q) (htb : tb ≤ w.heap.size) (hEl : E.length ≤ 1048576) (hM : MsOk c s) (hok : codeOk c = true) :
  Calls Try.prog 75 #[.agg #[va, vb, vc], .agg #[.int .i64 s.pc, vr, vv, vA], u] w fun e w' => ∃ u', e = .returned (.tuple #[.agg #[.int .i64 (stPc (insAt c s.pc) s), vr, vv, vA], u']) ∧ OwnMv w' base vr vv vA us (stRegs (insAt c s.pc) s) (stMem (insAt c s.pc) s) ∧ w'.ownsRow tb 47 2 u' (E ++ stEvs (insAt c s.pc) s).length (evs (E ++ stEvs (insAt c s.pc) s)) ∧ (∀ q, u'.ownBlock = some q → ¬ OwnMB vr vv vA us q ∧ (u.ownBlock = some q ∨ w.heap.size ≤ q)) ∧ Chg (fun q => OwnMB vr vv vA us q ∨ u.ownBlock = some q) w w' := by
 have a0 : 1 ≤ (insAt c s.pc).op ∧ (insAt c s.pc).op ≤ 13 := by
  have h0 := hM.pc0
  have h1 := hM.pc1
  unfold insAt
  rw [List.getElem?_eq_getElem (by omega)]
  exact insOk_op (codeOk_all hok _ (by omega))
 by_cases h : (insAt c s.pc).op ≤ 5
 ·exact exec_1_5 tb base va vb vc vr vv vA u us c s E w hr hO hE hd htb hEl hM hok ⟨a0.1, h⟩
 exact exec_6_13 tb base va vb vc vr vv vA u us c s E w hr hO hE hd htb hEl hM hok ⟨by omega, a0.2⟩
end Go.Proofs.Ytkjedgnepnbkpaa
namespace Go.Proofs.Ytkjedgnepnbkpaa
open Go.RowKit
def five (L : List Ev) : Nat := (L.filter (fun e => e.1 == 5)).length
theorem five_app (a b : List Ev) : five (a ++ b) = five a + five b := by unfold five; rw [List.filter_append, List.length_append]
theorem five_acc (x : Ins) (s : Ms) : five (accE x s) = 0 := by
 unfold accE
 split
 ·rfl
 split
 ·rfl
 split <;> rfl
theorem five_stEvs (x : Ins) (s : Ms) : five (stEvs x s) = 1 := by
 rw [stEvs_acc, show (5, s.pc) :: accE x s = [(5, s.pc)] ++ accE x s from rfl, five_app, five_acc]; rfl
theorem five_evN (c : Cd) (s : Ms) (n : Nat) : five (evN c n s) = n := by
 induction n with
 | zero => rfl
 | succ n ih => simp only [evN]; rw [five_app, ih, five_stEvs]
end Go.Proofs.Ytkjedgnepnbkpaa
namespace Go.Proofs.Ytkjedgnepnbkpaa
open Go.RowKit
theorem five_take (L : List Ev) (k : Nat) (h : k < L.length) : five (L.take (k + 1)) = five (L.take k) + (if (L[k].1 == 5) = true then 1 else 0) := by
 rw [List.take_succ_eq_append_getElem h, five_app]
 congr 1
 unfold five
 simp only [List.filter_cons, List.filter_nil]
 split <;> rfl
end Go.Proofs.Ytkjedgnepnbkpaa
