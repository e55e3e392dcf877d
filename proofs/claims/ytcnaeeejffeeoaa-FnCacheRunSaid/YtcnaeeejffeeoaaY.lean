/-
  The random source: what it is, and that a draw is a number in range.
-/
import Derived.Test.YtcnaeeejffeeoaaB
namespace Go.Proofs.Ytcnaeeejffeeoaa
open Go.RowKit

/-- block g holds a random source whose bytes lie below block B, at place p -/
def Rnd (w : World) (B g p : Nat) : Prop :=
  ∃ a L cap, w.cell? ⟨g, 0, none⟩ = some (.slice a L cap) ∧ w.cell? ⟨g, 1, none⟩ = some (.int .i64 p) ∧ w.frozen? ⟨g, 1, none⟩ = false ∧ L ≤ 1048576 ∧ B ≤ g ∧ B ≤ w.heap.size ∧
    (0 < L → ∃ b off, a = some ⟨b, off, none⟩ ∧ b < B ∧ ∀ j, j < L → ∃ x : Int, 0 ≤ x ∧ x < 256 ∧ w.cell? ⟨b, off + j, none⟩ = some (.int .u8 x))

theorem Rnd.keep {w w' : World} {B g p : Nat} (h : Rnd w B g p) {S : Nat → Prop} (hc : Chg S w w') (hg : ¬ S g) (hB : ∀ k, k < B → ¬ S k) : Rnd w' B g p := by
  obtain ⟨a, L, cap, h0, h1, hf, hL, hBg, hBs, hb⟩ := h
  have hl := lt_of_cell h0
  refine ⟨a, L, cap, (hc.cell 0 hl hg).trans h0, (hc.cell 1 hl hg).trans h1, (hc.frozen 1 hl hg).trans hf, hL, hBg, Nat.le_trans hBs hc.size, fun h0 => ?_⟩
  obtain ⟨b, off, ha, hbB, hcell⟩ := hb h0
  refine ⟨b, off, ha, hbB, fun j hj => ?_⟩
  obtain ⟨x, hx0, hx1, hx⟩ := hcell j hj
  exact ⟨x, hx0, hx1, (hc.cell (off + j) (by omega) (hB b hbB)).trans hx⟩
theorem Rnd.below {w w' : World} {B g p : Nat} (h : Rnd w B g p) (hb : Below w.heap.size w w') : Rnd w' B g p := h.keep (S := fun _ => False) (Chg.of_below hb) id (fun _ _ => id)
theorem Rnd.lt {w : World} {B g p : Nat} (h : Rnd w B g p) : B ≤ g ∧ g < w.heap.size := by
  obtain ⟨a, L, cap, h0, h1, hf, hL, hBg, _⟩ := h
  exact ⟨hBg, lt_of_cell h0⟩

theorem i64_xor_nn (a b : Int) (h1 : 0 ≤ a) (h2 : a < 4611686018427387904) (h3 : 0 ≤ b) (h4 : b < 4611686018427387904) : 0 ≤ bits .xor .i64 a b ∧ bits .xor .i64 a b < 4611686018427387904 := by
  obtain ⟨A, rfl⟩ := Int.eq_ofNat_of_zero_le h1
  obtain ⟨B, rfl⟩ := Int.eq_ofNat_of_zero_le h3
  have hA : A < 2 ^ 62 := by omega
  have hB : B < 2 ^ 62 := by omega
  have hx : A ^^^ B < 2 ^ 62 := Nat.xor_lt_two_pow hA hB
  have hA' : A % 2 ^ 64 = A := Nat.mod_eq_of_lt (by omega)
  have hB' : B % 2 ^ 64 = B := Nat.mod_eq_of_lt (by omega)
  have e : bits .xor .i64 (A : Int) (B : Int) = IntKind.i64.wrap ((A ^^^ B : Nat) : Int) := by
    show IntKind.i64.wrap ((BitVec.ofInt 64 (A : Int) ^^^ BitVec.ofInt 64 (B : Int)).toNat : Int) = _
    rw [BitVec.toNat_xor, BitVec.ofInt_natCast, BitVec.ofInt_natCast, BitVec.toNat_ofNat, BitVec.toNat_ofNat, hA', hB']
  rw [e, IntWalk.i64_in _ (by omega)]
  omega

set_option maxHeartbeats 1600000 in
theorem pick_any (n : Int) (w : World) (B g p : Nat) (hr : Rnd w B g p) (hn : 1 ≤ n) (hn2 : n ≤ 9223372036854775807) (hp : p ≤ 1099511627776) :
    Calls Try.prog 62 #[.pointer (some ⟨g, 0, none⟩), .int .i64 n] w fun e w' => ∃ r : Int, 0 ≤ r ∧ r < n ∧ e = .returned (.int .i64 r) ∧ Rnd w' B g (p + 1) ∧ Chg (fun k => k = g) w w' := by
  have hr0 := hr
  obtain ⟨a, L, cap, h0, h1, hf, hL, hBg, hBs, hb⟩ := hr
  have hl := lt_of_cell h0
  have hset : Rnd (w.setCell ⟨g, 1, none⟩ (.int .i64 ((p : Int) + 1))) B g (p + 1) := by
    refine ⟨a, L, cap, ?_, ?_, by rw [froz_set]; exact hf, hL, hBg, by simpa using hBs, fun h0 => ?_⟩
    · rw [World.cell?_setCell_other _ _ _ _ (by simp)]; exact h0
    · rw [cell_at _ _ _ _ h1]; simp
    · obtain ⟨b, off, ha, hbB, hcell⟩ := hb h0
      refine ⟨b, off, ha, hbB, fun j hj => ?_⟩
      obtain ⟨x, hx0, hx1, hx⟩ := hcell j hj
      exact ⟨x, hx0, hx1, (cell_far _ _ _ _ _ _ (by omega)).trans hx⟩
  have hchg : Chg (fun k => k = g) w (w.setCell ⟨g, 1, none⟩ (.int .i64 ((p : Int) + 1))) := (Chg.refl (fun k => k = g) w).setCell g 1 _ (fun _ => rfl)
  by_cases hL0 : L = 0
  · subst hL0
    clear hb
    go_enter Try.func62, Try.ntmps62
    go_wp2
    go_ret
    exact ⟨0, by omega, by omega, rfl, hset, hchg⟩
  · obtain ⟨b, off, rfl, hbB, hcell⟩ := hb (by omega)
    have hLp : (0 : Int) < (L : Int) := by omega
    have hL1 : ((L : Int) == 0) = false := by simp; omega
    have hne : ¬ b = g := by omega
    have hne' : ¬ g = b := by omega
    by_cases hpl : p < L
    · obtain ⟨x, hx0, hx1, hx⟩ := hcell p hpl
      clear hcell hb
      go_enter Try.func62, Try.ntmps62
      go_wp2
      go_ret
      exact ⟨x % n, Int.emod_nonneg _ (by omega), Int.emod_lt_of_pos _ (by omega), rfl, hset, hchg⟩
    · have hpl2 : ¬ ((p : Int) < (L : Int)) := by omega
      obtain ⟨x, hx0, hx1, hx⟩ := hcell (p % L) (Nat.mod_lt _ (by omega))
      obtain ⟨y, hy0, hy1, hy⟩ := hcell ((p * 7 + 3) % L) (Nat.mod_lt _ (by omega))
      have e1 : ((p : Int) % (L : Int)).toNat = p % L := by rw [← Int.natCast_emod, Int.toNat_natCast]
      have hLn : (L : Int) ≠ 0 := Int.ne_of_gt hLp
      have i1 : (0 : Int) ≤ (p : Int) % (L : Int) := Int.emod_nonneg _ hLn
      have i2 : (p : Int) % (L : Int) < (L : Int) := Int.emod_lt_of_pos _ hLp
      have e2 : (((p : Int) * 7 + 3) % (L : Int)).toNat = (p * 7 + 3) % L := by
        have h : ((p : Int) * 7 + 3) = ((p * 7 + 3 : Nat) : Int) := by omega
        rw [h, ← Int.natCast_emod, Int.toNat_natCast]
      have j1 : (0 : Int) ≤ ((p : Int) * 7 + 3) % (L : Int) := Int.emod_nonneg _ hLn
      have j2 : ((p : Int) * 7 + 3) % (L : Int) < (L : Int) := Int.emod_lt_of_pos _ hLp
      have d0 : (0 : Int) ≤ (p : Int) / (L : Int) := Int.ediv_nonneg (Int.natCast_nonneg _) (Int.natCast_nonneg _)
      have d1 : (p : Int) / (L : Int) ≤ 1099511627776 := Int.le_trans (Int.ediv_le_self _ (Int.natCast_nonneg _)) (by omega)
      have m1 : IntKind.i64.wrap ((p : Int) * 7) = (p : Int) * 7 := IntWalk.i64_in _ (by omega)
      have m2 : IntKind.i64.wrap ((p : Int) * 7 + 3) = (p : Int) * 7 + 3 := IntWalk.i64_in _ (by omega)
      have m3 : IntKind.i64.wrap (x * 131) = x * 131 := IntWalk.i64_in _ (by omega)
      have m4 : IntKind.i64.wrap (y * 1117) = y * 1117 := IntWalk.i64_in _ (by omega)
      have m5 : IntKind.i64.wrap (x * 131 + y * 1117) = x * 131 + y * 1117 := IntWalk.i64_in _ (by omega)
      have m6 : IntKind.i64.wrap ((p : Int) * 29) = (p : Int) * 29 := IntWalk.i64_in _ (by omega)
      have m7 : IntKind.i64.wrap (x * 131 + y * 1117 + (p : Int) * 29) = x * 131 + y * 1117 + (p : Int) * 29 := IntWalk.i64_in _ (by omega)
      have m8 : IntKind.i64.wrap ((p : Int) / (L : Int) * 53) = (p : Int) / (L : Int) * 53 := IntWalk.i64_in _ (by omega)
      have m9 : IntKind.i64.wrap (x * 131 + y * 1117 + (p : Int) * 29 + (p : Int) / (L : Int) * 53) = x * 131 + y * 1117 + (p : Int) * 29 + (p : Int) / (L : Int) * 53 := IntWalk.i64_in _ (by omega)
      clear hcell hb
      go_enter Try.func62, Try.ntmps62
      go_wp2
      go_quiet (fail)
      have hX0 : 0 ≤ x * 131 + y * 1117 + (p : Int) * 29 + (p : Int) / (L : Int) * 53 := by omega
      have hX1 : x * 131 + y * 1117 + (p : Int) * 29 + (p : Int) / (L : Int) * 53 ≤ 1000000000000000 := by omega
      clear hLn m1 m2 m3 m4 m5 m6 m7 m8 m9 e1 e2 i1 i2 j1 j2
      generalize x * 131 + y * 1117 + (p : Int) * 29 + (p : Int) / (L : Int) * 53 = X at *
      have hxor := i64_xor_nn X (X / 64) hX0 (by omega) (by omega) (by omega)
      obtain ⟨hq0, hq1⟩ := hxor
      go_wp2
      generalize bits BinOp.xor IntKind.i64 X (X / 64) = Y at *
      go_ret
      refine ⟨Y % n, Int.emod_nonneg _ (by omega), Int.emod_lt_of_pos _ (by omega), ?_, hset.below (below_drewN' _ nq), hchg.trans (Chg.of_below (below_drewN' _ nq))⟩
      rfl
end Go.Proofs.Ytcnaeeejffeeoaa
