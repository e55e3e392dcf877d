/-
  Parts of the proof of the law FnExactSpecPath.
-/
import Derived.Test.YtbglogjamfdmpaaB
import Derived.Test.YtbglogjamfdmpaaC
namespace Go.Proofs.Ytbglogjamfdmpaa
open Go.RowKit

theorem tInts : SliceT Try.prog 22 3 (.int .i64 0) 1 8 := ⟨Try.underlying22, info_int, rfl, by omega, by omega⟩

end Go.Proofs.Ytbglogjamfdmpaa
namespace Go.Proofs.Ytbglogjamfdmpaa
open Go.RowKit

theorem clone_any (v : Value) (xs : List Int) (w : World) (hr : Reads w 1 v xs.length (ints xs)) (hsz : xs.length ≤ 1073741824) :
    Calls Try.prog 136 #[v] w fun e w' => ∃ u, e = .returned u ∧ w'.ownsRow w.heap.size 3 1 u xs.length (ints xs) ∧ Below w.heap.size w w' := by
  have hr0 := hr
  have heq := fun w a n c => Lib.run_eql_slice_nil (P := Try.prog) w 22 3 a n c 0 0 Try.underlying22
  obtain ⟨_, hn, a, cap, b, off, rfl, ⟨hcap, hnil⟩, ha, hca⟩ := hr
  cases a with
  | none =>
    have h0 := hnil rfl
    have h1 : xs = [] := List.eq_nil_of_length_eq_zero (by omega)
    subst h1 h0
    go_enter Try.func136, Try.ntmps136
    go_wp2
    go_ret
    exact ⟨_, rfl, World.ownsRow_nil _ _ _ _, Below.refl _ _⟩
  | some a =>
    have hown := own_nil_made w 3
    have hr1 := hr0.below ((Below.refl w.heap.size w).alloc (Nat.le_refl _) (.cells #[] 3))
    clear hr0 ha hca hnil
    go_enter Try.func136, Try.ntmps136
    go_wp2_with (at_builtin; refine wpList_aps tInts rfl _ _ rfl w.heap.size _ 0 [] rfl hown _ _ _ rfl hr1 (one_ints xs) (by omega) ?c1 ?_)
    case c1 => simp
    · intro v' w' ho' hc' hn' _
      have hb := ((Below.refl w.heap.size w).alloc (Nat.le_refl _) (.cells #[] 3)).trans (hc'.below w.heap.size (by simp) (fun k hk => not_own hown hk))
      clear hc' hn' heq hown
      go_wp2
      go_ret
      exact ⟨_, rfl, ho', hb⟩

end Go.Proofs.Ytbglogjamfdmpaa

namespace Go.Proofs.Ytbglogjamfdmpaa
open Go.RowKit

abbrev Ev := Int × Int
/-- a row of events, as cells -/
def evs : List Ev → List Value
  | [] => []
  | e :: l => .int .i64 e.1 :: .int .i64 e.2 :: evs l
theorem evs_append (a b : List Ev) : evs (a ++ b) = evs a ++ evs b := by
  induction a with
  | nil => rfl
  | cons e l ih => simp [evs, ih]
theorem one_evs (l : List Ev) : ∀ u ∈ evs l, u.oneCell' = true := by
  induction l with
  | nil => intro u hu; cases hu
  | cons e l ih =>
    intro u hu
    simp only [evs, List.mem_cons] at hu
    rcases hu with rfl | rfl | hu
    · rfl
    · rfl
    · exact ih u hu

end Go.Proofs.Ytbglogjamfdmpaa
