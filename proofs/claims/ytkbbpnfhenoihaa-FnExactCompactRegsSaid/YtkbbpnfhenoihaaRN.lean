/-
  An instruction with other fields.
-/
import Derived.Test.YtkbbpnfhenoihaaCN
namespace Go.Proofs.Ytkbbpnfhenoihaa
open Go.RowKit

set_option maxHeartbeats 6400000 in
theorem withFields_any (op a b c d f0 f1 f2 f3 : Int) (g cap : Nat) (w : World) (h0 : w.cell? ⟨g, 0, none⟩ = some (.int .i64 f0)) (h1 : w.cell? ⟨g, 1, none⟩ = some (.int .i64 f1)) (h2 : w.cell? ⟨g, 2, none⟩ = some (.int .i64 f2)) (h3 : w.cell? ⟨g, 3, none⟩ = some (.int .i64 f3)) :
    Calls Try.prog 149 #[.agg #[.int .i64 op, .int .i64 a, .int .i64 b, .int .i64 c, .int .i64 d], .slice (some ⟨g, 0, none⟩) 4 cap] w fun e w' => e = .returned (.agg #[.int .i64 op, .int .i64 f0, .int .i64 f1, .int .i64 f2, .int .i64 f3]) ∧ Below w.heap.size w w' := by
  have kg := lt_of_cell h0
  go_enter Try.func149, Try.ntmps149
  go_upto_region 1 with (fail)
  obtain ⟨w2, hw2⟩ : ∃ X, X = (w.alloc (.cells #[.int .i64 op, .int .i64 a, .int .i64 b, .int .i64 c, .int .i64 d] 98)).alloc (.cells #[.int .i64 0, .int .i64 0, .int .i64 0, .int .i64 0, .int .i64 0] 98) := ⟨_, rfl⟩
  have e0 : w2.cell? ⟨w.heap.size, 0, none⟩ = some (.int .i64 op) := by rw [hw2]; exact cell_al (cell_nw rfl rfl) _
  have r0 : w2.cell? ⟨w.heap.size + 1, 0, none⟩ = some (.int .i64 0) := by rw [hw2]; exact cell_nw (by simp) rfl
  have r1 : w2.cell? ⟨w.heap.size + 1, 1, none⟩ = some (.int .i64 0) := by rw [hw2]; exact cell_nw (by simp) rfl
  have r2 : w2.cell? ⟨w.heap.size + 1, 2, none⟩ = some (.int .i64 0) := by rw [hw2]; exact cell_nw (by simp) rfl
  have r3 : w2.cell? ⟨w.heap.size + 1, 3, none⟩ = some (.int .i64 0) := by rw [hw2]; exact cell_nw (by simp) rfl
  have r4 : w2.cell? ⟨w.heap.size + 1, 4, none⟩ = some (.int .i64 0) := by rw [hw2]; exact cell_nw (by simp) rfl
  have q0 : w2.frozen? ⟨w.heap.size + 1, 0, none⟩ = false := by rw [hw2]; exact froz_nw (by simp)
  have q1 : w2.frozen? ⟨w.heap.size + 1, 1, none⟩ = false := by rw [hw2]; exact froz_nw (by simp)
  have q2 : w2.frozen? ⟨w.heap.size + 1, 2, none⟩ = false := by rw [hw2]; exact froz_nw (by simp)
  have q3 : w2.frozen? ⟨w.heap.size + 1, 3, none⟩ = false := by rw [hw2]; exact froz_nw (by simp)
  have q4 : w2.frozen? ⟨w.heap.size + 1, 4, none⟩ = false := by rw [hw2]; exact froz_nw (by simp)
  have hb : Below w.heap.size w w2 := by rw [hw2]; exact bal (bal (bself w) _) _
  rw [← hw2]
  replace h0 := kept_cell hb h0; replace h1 := kept_cell hb h1; replace h2 := kept_cell hb h2; replace h3 := kept_cell hb h3
  clear hw2
  have D := Below.drew hb
  clear D
  go_region
  have x0 := (cell_ne (b := w.heap.size + 1) (j := 4) (cell_ne (b := w.heap.size + 1) (j := 3) (cell_ne (b := w.heap.size + 1) (j := 2) (cell_ne (b := w.heap.size + 1) (j := 1) (cell_at _ (w.heap.size + 1) 0 (.int .i64 op) r0) (by omega) (.int .i64 f0)) (by omega) (.int .i64 f1)) (by omega) (.int .i64 f2)) (by omega) (.int .i64 f3))
  have x1 := (cell_ne (b := w.heap.size + 1) (j := 4) (cell_ne (b := w.heap.size + 1) (j := 3) (cell_ne (b := w.heap.size + 1) (j := 2) (cell_at _ (w.heap.size + 1) 1 (.int .i64 f0) (cell_ne (b := w.heap.size + 1) (j := 0) r1 (by omega) (.int .i64 op))) (by omega) (.int .i64 f1)) (by omega) (.int .i64 f2)) (by omega) (.int .i64 f3))
  have x2 := (cell_ne (b := w.heap.size + 1) (j := 4) (cell_ne (b := w.heap.size + 1) (j := 3) (cell_at _ (w.heap.size + 1) 2 (.int .i64 f1) (cell_ne (b := w.heap.size + 1) (j := 1) (cell_ne (b := w.heap.size + 1) (j := 0) r2 (by omega) (.int .i64 op)) (by omega) (.int .i64 f0))) (by omega) (.int .i64 f2)) (by omega) (.int .i64 f3))
  have x3 := (cell_ne (b := w.heap.size + 1) (j := 4) (cell_at _ (w.heap.size + 1) 3 (.int .i64 f2) (cell_ne (b := w.heap.size + 1) (j := 2) (cell_ne (b := w.heap.size + 1) (j := 1) (cell_ne (b := w.heap.size + 1) (j := 0) r3 (by omega) (.int .i64 op)) (by omega) (.int .i64 f0)) (by omega) (.int .i64 f1))) (by omega) (.int .i64 f3))
  have x4 := (cell_at _ (w.heap.size + 1) 4 (.int .i64 f3) (cell_ne (b := w.heap.size + 1) (j := 3) (cell_ne (b := w.heap.size + 1) (j := 2) (cell_ne (b := w.heap.size + 1) (j := 1) (cell_ne (b := w.heap.size + 1) (j := 0) r4 (by omega) (.int .i64 op)) (by omega) (.int .i64 f0)) (by omega) (.int .i64 f1)) (by omega) (.int .i64 f2)))
  have tt := (bst (bst (bst (bst (bst hb (w.heap.size + 1) 0 (by omega) (.int .i64 op)) (w.heap.size + 1) 1 (by omega) (.int .i64 f0)) (w.heap.size + 1) 2 (by omega) (.int .i64 f1)) (w.heap.size + 1) 3 (by omega) (.int .i64 f2)) (w.heap.size + 1) 4 (by omega) (.int .i64 f3))
  clear r0 r1 r2 r3 r4 h0 h1 h2 h3 e0 hb
  go_wp2
  exact bodyPost_ret (v := .agg #[.int .i64 op, .int .i64 f0, .int .i64 f1, .int .i64 f2, .int .i64 f3]) (by simp [results, Try.results149, go_sem, x0, x1, x2, x3, x4]) rfl (by exact ⟨rfl, Below.drew tt⟩)
end Go.Proofs.Ytkbbpnfhenoihaa
