/-
 Parts of the proof of the law FnSpecPath.
-/
import Derived.Test.YtkjedgnepnbkpaaC
import Derived.Test.YtkjedgnepnbkpaaMC
import Derived.Test.YtkjedgnepnbkpaaME
import Derived.Test.YtkjedgnepnbkpaaML
import Derived.Test.YtkjedgnepnbkpaaMW
import Derived.Test.YtkjedgnepnbkpaaRS
import Derived.Test.YtkjedgnepnbkpaaRows
import Derived.Test.YtkjedgnepnbkpaaSC
import Derived.Test.YtkjedgnepnbkpaaVP
import Derived.Test.YtkjedgnepnbkpaaVV


set_option linter.all false
namespace Go.Proofs.Ytkjedgnepnbkpaa
open Go.RowKit

theorem stN_add (c : Cd) (s : Ms) (a b : Nat) : stN c (a + b) s = stN c b (stN c a s) := by
 induction b with
 | zero => rfl
 | succ b ih => rw [show a + (b + 1) = (a + b) + 1 by omega]; simp only [stN]; rw [ih]
theorem evN_add (c : Cd) (s : Ms) (a b : Nat) : evN c (a + b) s = evN c a s ++ evN c b (stN c a s) := by
 induction b with
 | zero => simp [evN]
 | succ b ih => rw [show a + (b + 1) = (a + b) + 1 by omega]; simp only [evN]; rw [ih, stN_add, List.append_assoc]
theorem evN_one (c : Cd) (s : Ms) : evN c 1 s = stEvs (insAt c s.pc) s := by simp [evN, stN]
def accE (x : Ins) (s : Ms) : List Ev := if x.op = 4 then [(2, adr x.b (gi s.regs x.c))] else if x.op = 5 then [(3, adr x.a (gi s.regs x.b))] else if x.op = 11 then [(4, gi s.regs x.a)] else []
theorem stEvs_acc (x : Ins) (s : Ms) : stEvs x s = (5, s.pc) :: accE x s := rfl
end Go.Proofs.Ytkjedgnepnbkpaa
namespace Go.Proofs.Ytkjedgnepnbkpaa
open Go.RowKit

theorem OwnMv.toM {w : World} {base : Nat} {vr vv va : Value} {us : List Value} {rs : List Int} {m : Mm} (h : OwnMv w base vr vv va us rs m) : OwnM w base vv va us m := ⟨h.v, h.a, h.va⟩


end Go.Proofs.Ytkjedgnepnbkpaa


namespace Go.Proofs.Ytkjedgnepnbkpaa
open Go.RowKit

/-- the steps in a trace -/
def five (L : List Ev) : Nat := (L.filter (fun e => e.1 == 5)).length
theorem five_app (a b : List Ev) : five (a ++ b) = five a + five b := by unfold five; rw [List.filter_append, List.length_append]
theorem five_acc (x : Ins) (s : Ms) : five (accE x s) = 0 := by
 unfold accE
 split
 ·rfl
 ·split
  ·rfl
  ·split <;> rfl
theorem five_stEvs (x : Ins) (s : Ms) : five (stEvs x s) = 1 := by
 rw [stEvs_acc, show (5, s.pc) :: accE x s = [(5, s.pc)] ++ accE x s from rfl, five_app, five_acc]; rfl
theorem five_evN (c : Cd) (s : Ms) (n : Nat) : five (evN c n s) = n := by
 induction n with
 | zero => rfl
 | succ n ih => simp only [evN]; rw [five_app, ih, five_stEvs]
theorem evN_first (c : Cd) (s : Ms) (n : Nat) (h : 1 ≤ n) : ∃ rest, evN c n s = stEvs (insAt c s.pc) s ++ rest := by
 obtain ⟨m, rfl⟩ : ∃ m, n = 1 + m := ⟨n - 1, by omega⟩
 exact ⟨_, by rw [evN_add, evN_one]⟩
theorem pathN_range (c : Cd) (s : Ms) : 1 ≤ pathN c s ∧ pathN c s ≤ 4 := by
 unfold pathN
 have key : ∀ (f k n : Nat), fstH (stopAt c s) f k = some n → n < k + f := by
  intro f
  induction f with
  | zero => intro k n h; simp [fstH] at h
  | succ f ih =>
   intro k n h
   rw [fstH] at h
   split at h
   ·have := Option.some.inj h; omega
   ·have := ih _ _ h; omega
 cases h : fstH (stopAt c s) 4 0 with
 | none => simp
 | some n => have := key 4 0 n h; simp only; omega
/-- the law of speculative paths, plain -/
theorem law_path (c : Cd) (s : Ms) : 1 ≤ five (pathE c s) ∧ five (pathE c s) ≤ 4 ∧ ∃ rest, pathE c s = stEvs (insAt c s.pc) s ++ rest := by
 have h := pathN_range c s
 unfold pathE
 rw [five_evN]
 exact ⟨h.1, h.2, evN_first c s _ h.1⟩
theorem mvOk_of {c : Cd} {s : Ms} (hok : codeOk c = true) (h : MsOk c s) : mvOk c s = true := by
 have hv : ∀ xs : List Int, (∀ n ∈ xs, 0 ≤ n ∧ n < 256) → valsOk xs = true := fun xs hx => List.all_eq_true.2 (fun n hn => by
  have := hx n hn
  exact decide_eq_true (p := 0 ≤ n ∧ n ≤ 255) (by omega))
 have h0 := h.pc0
 have h1 := h.pc1
 unfold mvOk
 rw [hok, decide_eq_true h.regs, hv _ h.rv, h.mem, show wi s.pc 0 ((c.list.length : Int) - 1) = true from decide_eq_true (by omega)]
 rfl
theorem mvOk_step {c : Cd} {s : Ms} (h : mvOk c s = true) : mvOk c (stp (insAt c s.pc) s) = true := by
 obtain ⟨h1, h2⟩ := mvOk_ok h
 exact mvOk_of h1 (stp_ok h1 h2)
end Go.Proofs.Ytkjedgnepnbkpaa
namespace Go.Proofs.Ytkjedgnepnbkpaa
open Go.RowKit

def arity (k : Int) : Int := if k = 1 ∨ k = 2 then 0 else if k = 3 then 1 else if 4 ≤ k ∧ k ≤ 10 then 2 else if k = 11 then 3 else -1
def limitOf (nv na : Nat) (k : Int) : Int := if k = 1 then 256 else if k = 2 then nv else if k = 3 then na else 1
def atomK (k : Int) : Bool := k == 1 || k == 2
/-- well-formed, down to a depth -/
def exOk (nv na : Nat) : Nat → Ex → Bool
 | 0, _ => false
 | d + 1, e => ((e.kids.length : Int) == arity e.k) && (decide (0 ≤ e.v) && (decide (e.v < limitOf nv na e.k) && (e.kids.all (exOk nv na d) && (!(e.k == 3) || (match e.kids with | [] => false | x :: _ => atomK x.k)))))
/-- the number of nodes, down to a depth -/
def exCnt : Nat → Ex → Int
 | 0, _ => 1
 | d + 1, e => 1 + (e.kids.map (exCnt d)).sum
/-- three operands at most, to a depth -/
def Thin : Nat → Ex → Prop
 | 0, _ => False
 | d + 1, e => e.kids.length ≤ 3 ∧ ∀ x ∈ e.kids, Thin d x
theorem Thin.mono : ∀ {d d' : Nat} {e : Ex}, d ≤ d' → Thin d e → Thin d' e := by
 intro d
 induction d with
 | zero => intro d' e _ h; cases h
 | succ d ih =>
  intro d' e hd h
  cases d' with
  | zero => omega
  | succ d' => exact ⟨h.1, fun x hx => ih (by omega) (h.2 x hx)⟩
def noneE (e : Ex) : Bool := e.k == 0 && (e.v == 0 && decide (e.kids.length = 0))

theorem l2Arity_any (k : Int) (w : World) : Calls Try.prog 176 #[.int .i64 k] w fun e w' => e = .returned (.int .i64 (arity k)) ∧ w' = w := by
 have hc : k = 1 ∨ k = 2 ∨ k = 3 ∨ (4 ≤ k ∧ k ≤ 10) ∨ k = 11 ∨ k < 1 ∨ 11 < k := by omega
 rcases hc with rfl | rfl | rfl | h | rfl | h | h
 ·go_enter Try.func176, Try.ntmps176
  go_wp2
  go_ret
  exact ⟨rfl, rfl⟩
 ·go_enter Try.func176, Try.ntmps176
  go_wp2
  go_ret
  exact ⟨rfl, rfl⟩
 ·go_enter Try.func176, Try.ntmps176
  go_wp2
  go_ret
  exact ⟨rfl, rfl⟩
 ·have HA : Hid (arity k = 2) := Lib.hid (by unfold arity; rw [if_neg (by omega), if_neg (by omega), if_pos h])
  obtain ⟨h1, h2⟩ := h
  have n1 : (k == 1) = false := by simp; omega
  have n2 : (k == 2) = false := by simp; omega
  have n3 : (k == 3) = false := by simp; omega
  go_enter Try.func176, Try.ntmps176
  go_wp2
  go_ret
  exact ⟨ret_int HA.out.symm, rfl⟩
 ·go_enter Try.func176, Try.ntmps176
  go_wp2
  go_ret
  exact ⟨rfl, rfl⟩
 ·have HA : Hid (arity k = -1) := Lib.hid (by unfold arity; rw [if_neg (by omega), if_neg (by omega), if_neg (by omega), if_neg (by omega)])
  have n1 : (k == 1) = false := by simp; omega
  have n2 : (k == 2) = false := by simp; omega
  have n3 : (k == 3) = false := by simp; omega
  have n4 : (k == 11) = false := by simp; omega
  have n5 : decide (4 ≤ k) = false := by simp; omega
  go_enter Try.func176, Try.ntmps176
  go_wp2
  go_ret
  exact ⟨ret_int HA.out.symm, rfl⟩
 ·have HA : Hid (arity k = -1) := Lib.hid (by unfold arity; rw [if_neg (by omega), if_neg (by omega), if_neg (by omega), if_neg (by omega)])
  have n1 : (k == 1) = false := by simp; omega
  have n2 : (k == 2) = false := by simp; omega
  have n3 : (k == 3) = false := by simp; omega
  have n4 : (k == 11) = false := by simp; omega
  have n5 : decide (k ≤ 10) = false := by simp; omega
  go_enter Try.func176, Try.ntmps176
  go_wp2
  go_ret
  exact ⟨ret_int HA.out.symm, rfl⟩

theorem l2Limit_any (a0 a1 : Option Addr) (nv c0 na c1 : Nat) (vb : Value) (k : Int) (w : World) : Calls Try.prog 180 #[.agg #[.slice a0 nv c0, .slice a1 na c1, vb], .int .i64 k] w fun e w' => e = .returned (.int .i64 (limitOf nv na k)) ∧ Below w.heap.size w w' := by
 have hbx := bal (Bs w) (.cells #[.slice a0 nv c0, .slice a1 na c1, vb] 110)
 have hc : k = 1 ∨ k = 2 ∨ k = 3 ∨ (k ≠ 1 ∧ k ≠ 2 ∧ k ≠ 3) := by omega
 rcases hc with rfl | rfl | rfl | h
 ·go_enter Try.func180, Try.ntmps180
  go_wp2
  go_ret
  exact ⟨rfl, hbx⟩
 ·go_enter Try.func180, Try.ntmps180
  go_wp2
  go_ret
  exact ⟨rfl, hbx⟩
 ·go_enter Try.func180, Try.ntmps180
  go_wp2
  go_ret
  exact ⟨rfl, hbx⟩
 ·have HA : Hid (limitOf nv na k = 1) := Lib.hid (by unfold limitOf; rw [if_neg h.1, if_neg h.2.1, if_neg h.2.2])
  have n1 : (k == 1) = false := by simpa using h.1
  have n2 : (k == 2) = false := by simpa using h.2.1
  have n3 : (k == 3) = false := by simpa using h.2.2
  clear h
  go_enter Try.func180, Try.ntmps180
  go_wp2
  go_ret
  exact ⟨ret_int HA.out.symm, hbx⟩

theorem l2Atom_any (k v : Int) (u : Value) (w : World) : Calls Try.prog 175 #[.agg #[.int .i64 k, .int .i64 v, u]] w fun e w' => e = .returned (.bool (atomK k)) ∧ Below w.heap.size w w' := by
 have hbx := bal (Bs w) (.cells #[.int .i64 k, .int .i64 v, u] 161)
 have hc : (k == 1) = true ∨ ((k == 1) = false ∧ ((k == 2) = true ∨ (k == 2) = false)) := by
  cases (k == 1) <;> cases (k == 2) <;> simp
 rcases hc with h | ⟨h, h2 | h2⟩
 ·have HB : Hid (atomK k = true) := Lib.hid (by unfold atomK; rw [h]; rfl)
  go_enter Try.func175, Try.ntmps175
  go_wp2
  go_ret
  exact ⟨ret_bool HB.out.symm, hbx⟩
 ·have HB : Hid (atomK k = true) := Lib.hid (by unfold atomK; rw [h, h2]; rfl)
  go_enter Try.func175, Try.ntmps175
  go_wp2
  go_ret
  exact ⟨ret_bool HB.out.symm, hbx⟩
 ·have HB : Hid (atomK k = false) := Lib.hid (by unfold atomK; rw [h, h2]; rfl)
  go_enter Try.func175, Try.ntmps175
  go_wp2
  go_ret
  exact ⟨ret_bool HB.out.symm, hbx⟩

theorem l2None_any (n : En) (e : Ex) (hk : n.k = e.k) (hv : n.v = e.v) (hn : n.n = e.kids.length) (w : World) : Calls Try.prog 179 #[.agg #[.int .i64 n.k, .int .i64 n.v, .slice n.p n.n n.c]] w fun r w' => r = .returned (.bool (noneE e)) ∧ Below w.heap.size w w' := by
 have hbx := bal (Bs w) (.cells #[.int .i64 n.k, .int .i64 n.v, .slice n.p n.n n.c] 161)
 have HQ : Hid (noneE e = (n.k == 0 && (n.v == 0 && decide (n.n = 0)))) := Lib.hid (by unfold noneE; rw [hk, hv, hn])
 clear hk hv hn
 generalize noneE e = E at *
 obtain ⟨k, v, p, m, c⟩ := n
 simp only at *
 have hc : (k == 0) = false ∨ ((k == 0) = true ∧ ((v == 0) = false ∨ ((v == 0) = true ∧ (¬ m = 0 ∨ m = 0)))) := by
  cases (k == 0) <;> cases (v == 0) <;> simp <;> omega
 rcases hc with h | ⟨h, h2 | ⟨h2, h3 | h3⟩⟩
 ·have HB : Hid (E = false) := Lib.hid (by rw [HQ.out, h]; rfl)
  clear HQ
  go_enter Try.func179, Try.ntmps179
  go_wp2
  go_ret
  exact ⟨ret_bool HB.out.symm, hbx⟩
 ·have HB : Hid (E = false) := Lib.hid (by rw [HQ.out, h, h2]; rfl)
  clear HQ
  go_enter Try.func179, Try.ntmps179
  go_wp2
  go_ret
  exact ⟨ret_bool HB.out.symm, hbx⟩
 ·have HB : Hid (E = false) := Lib.hid (by rw [HQ.out, h, h2, decide_eq_false h3]; rfl)
  have h4 : ((m : Int) == 0) = false := by simp; omega
  clear HQ
  go_enter Try.func179, Try.ntmps179
  go_wp2
  go_ret
  exact ⟨ret_bool HB.out.symm, hbx⟩
 ·subst h3
  have HB : Hid (E = true) := Lib.hid (by rw [HQ.out, h, h2]; rfl)
  clear HQ
  go_enter Try.func179, Try.ntmps179
  go_wp2
  go_ret
  exact ⟨ret_bool HB.out.symm, hbx⟩
end Go.Proofs.Ytkjedgnepnbkpaa
