/-
  Parts of the proof of the law FnExactSpecPath.
-/
import Derived.Test.YtbglogjamfdmpaaD
import Derived.Test.YtbglogjamfdmpaaK
import Derived.Test.YtbglogjamfdmpaaProg
namespace Go.Proofs.Ytbglogjamfdmpaa
open Go.RowKit

/-- block g holds a random source whose bytes lie below block B, at place p -/
def Rnd (w : World) (B g p : Nat) : Prop :=
  ∃ a L cap, w.cell? ⟨g, 0, none⟩ = some (.slice a L cap) ∧ w.cell? ⟨g, 1, none⟩ = some (.int .i64 p) ∧ w.frozen? ⟨g, 1, none⟩ = false ∧ L ≤ 1048576 ∧ B ≤ g ∧ B ≤ w.heap.size ∧
    (0 < L → ∃ b off, a = some ⟨b, off, none⟩ ∧ b < B ∧ ∀ j, j < L → ∃ x : Int, 0 ≤ x ∧ x < 256 ∧ w.cell? ⟨b, off + j, none⟩ = some (.int .u8 x))

theorem Rnd.keep {w w' : World} {B g p : Nat} (h : Rnd w B g p) {S : Nat → Prop} (hc : Chg S w w') (hg : ¬ S g) (hB : ∀ k, k < B → ¬ S k) : Rnd w' B g p := by
  obtain ⟨a, L, cap, h0, h1, hf, hL, hBg, hBs, hb⟩ := h
  have hl := lt_of_cell h0
  refine ⟨a, L, cap, (hc.cell 0 hl hg).trans h0, (hc.cell 1 hl hg).trans h1, (hc.frozen 1 hl hg).trans hf, hL, hBg, Nat.le_trans hBs hc.size, fun h0 => ?_⟩
  obtain ⟨b, off, ha, hbB, hcell⟩ := hb h0
  refine ⟨b, off, ha, hbB, fun j hj => ?_⟩
  obtain ⟨x, hx0, hx1, hx⟩ := hcell j hj
  exact ⟨x, hx0, hx1, (hc.cell (off + j) (by omega) (hB b hbB)).trans hx⟩
theorem Rnd.below {w w' : World} {B g p : Nat} (h : Rnd w B g p) (hb : Below w.heap.size w w') : Rnd w' B g p := h.keep (S := fun _ => False) (Chg.of_below hb) id (fun _ _ => id)
theorem Rnd.lt {w : World} {B g p : Nat} (h : Rnd w B g p) : B ≤ g ∧ g < w.heap.size := by
  obtain ⟨a, L, cap, h0, h1, hf, hL, hBg, _⟩ := h
  exact ⟨hBg, lt_of_cell h0⟩

end Go.Proofs.Ytbglogjamfdmpaa

namespace Go.Proofs.Ytbglogjamfdmpaa
open Go.RowKit

theorem info_ev : (Try.prog.info? 89).map (fun i => (i.zero, i.size, i.bytes)) = some (some (.agg #[.int .i64 0, .int .i64 0]), 2, 16) := by kernel_rfl
theorem tEvs : SliceT Try.prog 45 89 (.agg #[.int .i64 0, .int .i64 0]) 2 16 := ⟨Try.underlying45, info_ev, rfl, by omega, by omega⟩

theorem one_ev (a b : Int) : ∀ u ∈ [Value.int .i64 a, Value.int .i64 b], u.oneCell' = true := one_evs [(a, b)]

end Go.Proofs.Ytbglogjamfdmpaa
