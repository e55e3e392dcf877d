/-
  Liveness: plain.
-/
import Derived.Test.YtkbbpnfhenoihaaLV
import Derived.Test.YtkbbpnfhenoihaaLW
namespace Go.Proofs.Ytkbbpnfhenoihaa
open Go.RowKit

theorem flw_any (x : Ins) (i : Nat) (p : Int → Bool) : (flw x i).any p = (nxt x i).any p := by
  unfold flw nxt
  split
  · rfl
  · split
    · simp [Bool.or_comm]
    · rfl
/-- the letters say which registers are read -/
theorem knl_reads {x : Ins} (hop : ¬ (x.op < 1 ∨ 13 < x.op)) (r : Int) : ((knl x.op).zip (flds x)).any (fun p => (p.1 == 49 || p.1 == 51) && p.2 == r) = (use x).any (fun u => u == r) := by
  obtain ⟨op, a, b, c, d⟩ := x
  rcases shp_cases op with h | rfl | rfl | rfl | rfl | rfl | rfl | rfl | rfl | rfl | rfl | rfl | rfl | rfl
  · exact absurd h hop
  all_goals simp [knl, use, flds]
/-- and which is written -/
theorem knl_writes {x : Ins} (hop : ¬ (x.op < 1 ∨ 13 < x.op)) (r : Int) (h0 : 0 ≤ r) : ((knl x.op).zip (flds x)).any (fun p => (p.1 == 50 || p.1 == 51) && p.2 == r) = (wrt x == r) := by
  obtain ⟨op, a, b, c, d⟩ := x
  have hm : (-1 == r) = false := by simp; omega
  rcases shp_cases op with h | rfl | rfl | rfl | rfl | rfl | rfl | rfl | rfl | rfl | rfl | rfl | rfl | rfl
  · exact absurd h hop
  all_goals simp [knl, wrt, flds, hm]
end Go.Proofs.Ytkbbpnfhenoihaa
