/-
  Parts of the proof of the law FnExactRunTime.
-/
import Derived.Test.YtbglogjamfdmpaaJ
import Derived.Test.YtbglogjamfdmpaaK
import Derived.Test.YtbglogjamfdmpaaProg
import Derived.Test.YtbglogjamfdmpaaQ
namespace Go.Proofs.Ytbglogjamfdmpaa
open Go.RowKit

set_option maxHeartbeats 1600000 in
theorem l10Access_any (g c : Nat) (x y : Int) (a : Int) (w : World) (base : Nat) (ho : w.ownsRow base 3 1 (.slice (some ⟨g, 0, none⟩) 2 c) 2 (ints [x, y])) (h0 : 0 ≤ a) (h7 : a ≤ 7) :
    Calls Try.prog 160 #[.agg #[.slice (some ⟨g, 0, none⟩) 2 c], .int .i64 a] w fun e w' => e = .returned (.bool ([x, y].getD ((a / 2) % 2).toNat 0 == a / 2)) ∧
      w'.ownsRow base 3 1 (.slice (some ⟨g, 0, none⟩) 2 c) 2 (ints ([x, y].set ((a / 2) % 2).toNat (a / 2))) ∧ Chg (fun k => k = g) w w' := by
  have hg := ho.lt g rfl
  have hc0 := ho.cellAt 0 (by simp)
  have hc1 := ho.cellAt 1 (by simp)
  have hf := ho.frozenAt
  simp only [ints, List.map_cons, List.map_nil, List.getElem?_cons_zero, List.getElem?_cons_succ] at hc0 hc1
  obtain ⟨_, hg⟩ := hg
  have hcases : a = 0 ∨ a = 1 ∨ a = 2 ∨ a = 3 ∨ a = 4 ∨ a = 5 ∨ a = 6 ∨ a = 7 := by omega
  rcases hcases with rfl | rfl | rfl | rfl | rfl | rfl | rfl | rfl
  all_goals
    clear h0 h7
    go_enter Try.func160, Try.ntmps160
    go_wp2
    go_ret
    refine ⟨rfl, ?_, ?_⟩
    · exact own_keep (ho.stored _ _).1 (S := fun _ => False) (Chg.of_below (bal (bself _) _)) (fun _ _ => id)
    · exact ((Chg.refl (fun k => k = g) w).setCell g _ _ (fun _ => rfl)).trans (Chg.of_below (bal (bself _) _))

theorem l10Limit_any (w : World) : Calls Try.prog 159 #[] w fun e w' => e = .returned (.int .i64 8) ∧ w = w' := by
  go_enter Try.func159, Try.ntmps159
  go_wp2
  go_ret
  exact ⟨rfl, rfl⟩
end Go.Proofs.Ytbglogjamfdmpaa
namespace Go.Proofs.Ytbglogjamfdmpaa
open Go.RowKit

theorem one_bool1 (b : Bool) : ∀ u ∈ [Value.bool b], u.oneCell' = true := by intro u hu; simp at hu; subst hu; rfl
end Go.Proofs.Ytbglogjamfdmpaa
