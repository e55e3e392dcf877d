/-
 Parts of the proofs of the laws FnCheckLive, FnCodeFenced, FnEraseCode, FnEraseSecret, FnFinalRegs, FnLiveRegister, FnLiveRegs, FnSpecPath.
-/
import Derived.Test.YtkjedgnepnbkpaaO
set_option linter.all false
namespace Go.Proofs.Ytkjedgnepnbkpaa
open Go.RowKit
theorem not_own {w : World} {base : Nat} {e : TypeId} {size : Nat} {v : Value} {n : Nat} {xs : List Value} (h : w.ownsRow base e size v n xs) {k : Nat} (hk : k < base) : ¬ v.ownBlock = some k := by
 intro hv; have := h.lt k hv; omega
theorem own_nil_made (w : World) (e : TypeId) : (w.alloc (.cells #[] e)).ownsRow w.heap.size e 1 (.slice (some ⟨w.heap.size, 0, none⟩) 0 0) 0 [] := by
 have h := World.ownsRow_lit (base := w.heap.size) (e := e) (size := 1) w #[] 0 (Nat.le_refl _) (by unfold maxLen; omega) (by simp)
 exact h
end Go.Proofs.Ytkjedgnepnbkpaa
namespace Go.Proofs.Ytkjedgnepnbkpaa
open Go.RowKit
theorem clone_any (v : Value) (xs : List Int) (w : World) (hr : Reads w 1 v xs.length (ints xs)) (hsz : xs.length ≤ 1073741824) :
  Calls Try.prog 110 #[v] w fun e w' => ∃ u, e = .returned u ∧ w'.ownsRow w.heap.size 3 1 u xs.length (ints xs) ∧ Below w.heap.size w w' := by
 have c0 := hr
 have f0 := fun w a n c => Lib.run_eql_slice_nil (P := Try.prog) w 23 3 a n c 0 0 Try.underlying23
 obtain ⟨_, hn, a, i0, b, j0, rfl, ⟨e0, b0⟩, ha, d0⟩ := hr
 cases a with
 | none =>
  have h0 := b0 rfl
  have h1 : xs = [] := List.eq_nil_of_length_eq_zero (by omega)
  subst h1 h0
  go_enter Try.func110, Try.ntmps110
  go_wp2
  go_ret
  exact ⟨_, rfl, World.ownsRow_nil _ _ _ _, Below.refl _ _⟩
 | some a =>
  have a0 := own_nil_made w 3
  have g0 := c0.below ((Below.refl w.heap.size w).alloc (Nat.le_refl _) (.cells #[] 3))
  clear c0 ha d0 b0
  go_enter Try.func110, Try.ntmps110
  go_wp2_with (at_builtin; refine wpList_aps tInts rfl _ _ rfl w.heap.size _ 0 [] rfl a0 _ _ _ rfl g0 (one_ints xs) (by omega) ?c1 ?_)
  case c1 => simp
  intro v' w' ho' hc' hn' _
  have hb := ((Below.refl w.heap.size w).alloc (Nat.le_refl _) (.cells #[] 3)).trans (hc'.below w.heap.size (by simp) (fun k hk => not_own a0 hk))
  clear hc' hn' f0 a0
  go_wp2
  go_ret
  exact ⟨_, rfl, ho', hb⟩
end Go.Proofs.Ytkjedgnepnbkpaa
namespace Go.Proofs.Ytkjedgnepnbkpaa
open Go.RowKit
theorem set_dropped {α : Type} (a l : List α) (x : α) (k : Nat) (ha : a.length = k) (h : k < l.length) : (a ++ l.drop k).set k x = (a ++ [x]) ++ l.drop (k + 1) := by
 have e : l.drop k = l[k] :: l.drop (k + 1) := by rw [List.drop_eq_getElem_cons h]
 rw [e, List.set_append_right _ _ (by omega), ha, Nat.sub_self]
 simp only [List.set_cons_zero, List.append_assoc, List.cons_append, List.nil_append]
end Go.Proofs.Ytkjedgnepnbkpaa
namespace Go.Proofs.Ytkjedgnepnbkpaa
open Go.RowKit
theorem codeOk_decl {c : Cd} (h : codeOk c = true) : declOk c.vars c.arrays = true := by
 unfold codeOk at h
 simp only [Bool.and_eq_true] at h
 exact h.1
theorem declOk_len {xs ys : List Int} (h : declOk xs ys = true) : xs.length ≤ 12 ∧ ys.length ≤ 2 := by
 unfold declOk at h
 simp only [Bool.and_eq_true] at h
 exact ⟨(of_decide_eq_true h.1).2, of_decide_eq_true h.2.1⟩
end Go.Proofs.Ytkjedgnepnbkpaa
namespace Go.Proofs.Ytkjedgnepnbkpaa
open Go.RowKit
theorem own_nil_rows (w : World) (e : TypeId) (sz : Nat) : (w.alloc (.cells #[] e)).ownsRow w.heap.size e sz (.slice (some ⟨w.heap.size, 0, none⟩) 0 0) 0 [] :=
 World.ownsRow_lit (base := w.heap.size) (e := e) (size := sz) w #[] 0 (Nat.le_refl _) (by unfold maxLen; omega) (by simp)
end Go.Proofs.Ytkjedgnepnbkpaa
