import Derived.Test.YtkbbpnfhenoihaaY
namespace Go.Proofs.Ytkbbpnfhenoihaa
open Go.RowKit

theorem rnd_new (w : World) (a : Option Addr) (b off L cap : Nat) (t : TypeId) (vs : List Int) (hl : L ≤ vs.length) (hL : L ≤ 1048576) (hv : ∀ x ∈ vs, 0 ≤ x ∧ x < 256) (ha : 0 < L → a = some ⟨b, off, none⟩ ∧ b < w.heap.size)
    (hc : ∀ j (h : j < vs.length), w.cell? ⟨b, off + j, none⟩ = some (.int .u8 vs[j])) : Rnd (w.alloc (.cells #[.slice a L cap, .int .i64 0] t)) w.heap.size w.heap.size 0 := by
  have hb := bal (bself w) (.cells #[.slice a L cap, .int .i64 0] t)
  refine ⟨a, L, cap, ?_, ?_, froz_new _ _ _ _, hL, Nat.le_refl _, hb.size, fun h0 => ?_⟩
  · rw [cell_of_row _ _ 0 _ t (0, 0) (heap_alloc_new w _)]; rfl
  · rw [cell_of_row _ _ 1 _ t (0, 0) (heap_alloc_new w _)]; rfl
  · obtain ⟨h1, h2⟩ := ha h0
    refine ⟨b, off, h1, h2, fun j hj => ⟨vs[j]'(by omega), (hv _ (List.getElem_mem _)).1, (hv _ (List.getElem_mem _)).2, ?_⟩⟩
    exact (hb.cell (p := ⟨b, off + j, none⟩) h2).trans (hc j (by omega))

theorem reads_lit (w : World) (xs : List Int) (e : TypeId) (h : xs.length ≤ 1073741824) : Reads (w.alloc (.cells (ints xs).toArray e)) 1 (.slice (some ⟨w.heap.size, 0, none⟩) xs.length xs.length) xs.length (ints xs) := by
  have ho := World.ownsRow_lit (base := w.heap.size) (e := e) (size := 1) w (ints xs).toArray xs.length (Nat.le_refl _) (by unfold maxLen; omega) (by simp [ints])
  have hr := reads_of_owns ho (by omega)
  simpa using hr

end Go.Proofs.Ytkbbpnfhenoihaa
