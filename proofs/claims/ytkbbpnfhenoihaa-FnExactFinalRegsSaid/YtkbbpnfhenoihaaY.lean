/-
  The random source: what it is, and that a draw is a number in range.
-/
import Derived.Test.YtkbbpnfhenoihaaProg
import Derived.Test.YtkbbpnfhenoihaaK
namespace Go.Proofs.Ytkbbpnfhenoihaa
open Go.RowKit

/-- block g holds a random source whose bytes lie below block B, at place p -/
def Rnd (w : World) (B g p : Nat) : Prop :=
  ∃ a L cap, w.cell? ⟨g, 0, none⟩ = some (.slice a L cap) ∧ w.cell? ⟨g, 1, none⟩ = some (.int .i64 p) ∧ w.frozen? ⟨g, 1, none⟩ = false ∧ L ≤ 1048576 ∧ B ≤ g ∧ B ≤ w.heap.size ∧
    (0 < L → ∃ b off, a = some ⟨b, off, none⟩ ∧ b < B ∧ ∀ j, j < L → ∃ x : Int, 0 ≤ x ∧ x < 256 ∧ w.cell? ⟨b, off + j, none⟩ = some (.int .u8 x))

theorem Rnd.keep {w w' : World} {B g p : Nat} (h : Rnd w B g p) {S : Nat → Prop} (hc : Chg S w w') (hg : ¬ S g) (hB : ∀ k, k < B → ¬ S k) : Rnd w' B g p := by
  obtain ⟨a, L, cap, h0, h1, hf, hL, hBg, hBs, hb⟩ := h
  have hl := lt_of_cell h0
  refine ⟨a, L, cap, (hc.cell 0 hl hg).trans h0, (hc.cell 1 hl hg).trans h1, (hc.frozen 1 hl hg).trans hf, hL, hBg, Nat.le_trans hBs hc.size, fun h0 => ?_⟩
  obtain ⟨b, off, ha, hbB, hcell⟩ := hb h0
  refine ⟨b, off, ha, hbB, fun j hj => ?_⟩
  obtain ⟨x, hx0, hx1, hx⟩ := hcell j hj
  exact ⟨x, hx0, hx1, (hc.cell (off + j) (by omega) (hB b hbB)).trans hx⟩
theorem Rnd.below {w w' : World} {B g p : Nat} (h : Rnd w B g p) (hb : Below w.heap.size w w') : Rnd w' B g p := h.keep (S := fun _ => False) (Chg.of_below hb) id (fun _ _ => id)
theorem Rnd.lt {w : World} {B g p : Nat} (h : Rnd w B g p) : B ≤ g ∧ g < w.heap.size := by
  obtain ⟨a, L, cap, h0, h1, hf, hL, hBg, _⟩ := h
  exact ⟨hBg, lt_of_cell h0⟩

theorem i64_xor_nn (a b : Int) (h1 : 0 ≤ a) (h2 : a < 4611686018427387904) (h3 : 0 ≤ b) (h4 : b < 4611686018427387904) : 0 ≤ bits .xor .i64 a b ∧ bits .xor .i64 a b < 4611686018427387904 := by
  obtain ⟨A, rfl⟩ := Int.eq_ofNat_of_zero_le h1
  obtain ⟨B, rfl⟩ := Int.eq_ofNat_of_zero_le h3
  have hA : A < 2 ^ 62 := by omega
  have hB : B < 2 ^ 62 := by omega
  have hx : A ^^^ B < 2 ^ 62 := Nat.xor_lt_two_pow hA hB
  have hA' : A % 2 ^ 64 = A := Nat.mod_eq_of_lt (by omega)
  have hB' : B % 2 ^ 64 = B := Nat.mod_eq_of_lt (by omega)
  have e : bits .xor .i64 (A : Int) (B : Int) = IntKind.i64.wrap ((A ^^^ B : Nat) : Int) := by
    show IntKind.i64.wrap ((BitVec.ofInt 64 (A : Int) ^^^ BitVec.ofInt 64 (B : Int)).toNat : Int) = _
    rw [BitVec.toNat_xor, BitVec.ofInt_natCast, BitVec.ofInt_natCast, BitVec.toNat_ofNat, BitVec.toNat_ofNat, hA', hB']
  rw [e, IntWalk.i64_in _ (by omega)]
  omega

end Go.Proofs.Ytkbbpnfhenoihaa
