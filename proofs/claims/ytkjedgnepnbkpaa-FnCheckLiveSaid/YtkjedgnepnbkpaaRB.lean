/-
 Parts of the proofs of the laws FnCheckLive, FnFinalRegs, FnLiveRegister, FnLiveRegs.
-/
import Derived.Test.YtkjedgnepnbkpaaVV
set_option linter.all false
namespace Go.Proofs.Ytkjedgnepnbkpaa
open Go.RowKit

abbrev Own2B := Own2 bools 4 66

end Go.Proofs.Ytkjedgnepnbkpaa
namespace Go.Proofs.Ytkjedgnepnbkpaa
open Go.RowKit

/-- a memory -/
structure Mm where
 vals : List Int
 arrs : List (List Int)
deriving DecidableEq
/-- a state of the machine -/
structure Ms where
 pc : Int
 regs : List Int
 mem : Mm
deriving DecidableEq

/-- element i of a row, 0 outside it -/
def gi (xs : List Int) (i : Int) : Int := (xs[i.toNat]?).getD 0
def gr (rs : List (List Int)) (i : Int) : List Int := (rs[i.toNat]?).getD []
end Go.Proofs.Ytkjedgnepnbkpaa
namespace Go.Proofs.Ytkjedgnepnbkpaa
open Go.RowKit

abbrev Own2I := Own2 ints 3 23

end Go.Proofs.Ytkjedgnepnbkpaa
namespace Go.Proofs.Ytkjedgnepnbkpaa
open Go.RowKit

theorem ints_set (l : List Int) (k : Nat) (b : Int) : (ints l).set k (.int .i64 b) = ints (l.set k b) := by simp [ints, List.map_set]
theorem ints_at (l : List Int) (k : Nat) (h : k < l.length) : (ints l)[k]? = some (.int .i64 l[k]) := by simp [ints, h]
end Go.Proofs.Ytkjedgnepnbkpaa
namespace Go.Proofs.Ytkjedgnepnbkpaa
open Go.RowKit

/-- registers (vr), variables (vv) and arrays (va, with rows us), in blocks of their own -/
structure OwnMv (w : World) (base : Nat) (vr vv va : Value) (us : List Value) (rs : List Int) (m : Mm) : Prop where
 r : w.ownsRow base 3 1 vr rs.length (ints rs)
 v : w.ownsRow base 3 1 vv m.vals.length (ints m.vals)
 a : Own2I w base va us m.arrs
 rv : ∀ q, vr.ownBlock = some q → vv.ownBlock = some q → False
 ra : ∀ q, vr.ownBlock = some q → ¬ OwnB2 va us q
 va : ∀ q, vv.ownBlock = some q → ¬ OwnB2 va us q
/-- q is one of its blocks -/
def OwnMB (vr vv va : Value) (us : List Value) (q : Nat) : Prop := vr.ownBlock = some q ∨ vv.ownBlock = some q ∨ OwnB2 va us q

section
variable {w w' : World} {base base' : Nat} {vr vv va : Value} {us : List Value} {rs : List Int} {m : Mm}
theorem OwnMv.lt (h : OwnMv w base vr vv va us rs m) : ∀ q, OwnMB vr vv va us q → base ≤ q ∧ q < w.heap.size := by
 rintro q (hq | hq | hq)
 ·exact h.r.lt q hq
 ·exact h.v.lt q hq
 ·exact h.a.lt q hq
theorem OwnMv.keep (h : OwnMv w base vr vv va us rs m) {S : Nat → Prop} (hc : Chg S w w') (hs : ∀ q, OwnMB vr vv va us q → ¬ S q) : OwnMv w' base vr vv va us rs m :=
 ⟨Ow h.r hc (fun q hq => hs q (Or.inl hq)), Ow h.v hc (fun q hq => hs q (Or.inr (Or.inl hq))), h.a.keep hc (fun q hq => hs q (Or.inr (Or.inr hq))), h.rv, h.ra, h.va⟩
theorem OwnMv.below (h : OwnMv w base vr vv va us rs m) (hb : Below w.heap.size w w') : OwnMv w' base vr vv va us rs m := h.keep (S := fun _ => False) (Chg.of_below hb) (fun _ _ => id)
theorem OwnMv.mono (h : OwnMv w base vr vv va us rs m) (hb : base' ≤ base) : OwnMv w base' vr vv va us rs m := ⟨Om h.r hb, Om h.v hb, h.a.mono hb, h.rv, h.ra, h.va⟩
/-- behind a store elsewhere -/
theorem OwnMv.far (h : OwnMv w base vr vv va us rs m) (b j : Nat) (x : Value) (hb : ¬ OwnMB vr vv va us b) : OwnMv (w.setCell ⟨b, j, none⟩ x) base vr vv va us rs m :=
 h.keep ((Chg.refl (fun q => q = b) w).setCell b j x (fun _ => rfl)) (fun _ hq e => hb (e ▸ hq))
theorem OwnMv.setReg {g n c : Nat} (h : OwnMv w base (.slice (some ⟨g, 0, none⟩) n c) vv va us rs m) (k : Nat) (x : Int) : OwnMv (w.setCell ⟨g, k, none⟩ (.int .i64 x)) base (.slice (some ⟨g, 0, none⟩) n c) vv va us (rs.set k x) m := by
 have hC : Chg (fun q => q = g) w (w.setCell ⟨g, k, none⟩ (.int .i64 x)) := (Chg.refl _ _).setCell g k _ (fun _ => rfl)
 have hn : n = rs.length := by
  obtain ⟨a, c', hs⟩ := Oh h.r
  simp at hs; omega
 subst hn
 refine ⟨?_, Ow h.v hC (fun q hq e => h.rv q (by subst e; rfl) hq), h.a.keep hC (fun q hq e => h.ra q (by subst e; rfl) hq), h.rv, h.ra, h.va⟩
 have h1 := (h.r.stored k (.int .i64 x)).1
 rw [ints_set] at h1
 rw [List.length_set]; exact h1
theorem OwnMv.setVal {g n c : Nat} (h : OwnMv w base vr (.slice (some ⟨g, 0, none⟩) n c) va us rs m) (k : Nat) (x : Int) : OwnMv (w.setCell ⟨g, k, none⟩ (.int .i64 x)) base vr (.slice (some ⟨g, 0, none⟩) n c) va us rs ⟨m.vals.set k x, m.arrs⟩ := by
 have hC : Chg (fun q => q = g) w (w.setCell ⟨g, k, none⟩ (.int .i64 x)) := (Chg.refl _ _).setCell g k _ (fun _ => rfl)
 have hn : n = m.vals.length := by
  obtain ⟨a, c', hs⟩ := Oh h.v
  simp at hs; omega
 subst hn
 refine ⟨Ow h.r hC (fun q hq e => h.rv q hq (by subst e; rfl)), ?_, h.a.keep hC (fun q hq e => h.va q (by subst e; rfl) hq), h.rv, h.ra, h.va⟩
 have h1 := (h.v.stored k (.int .i64 x)).1
 rw [ints_set] at h1
 simp only [List.length_set]; exact h1
theorem OwnMv.setArr {i g n c : Nat} (h : OwnMv w base vr vv va us rs m) (hu : us[i]? = some (.slice (some ⟨g, 0, none⟩) n c)) (k : Nat) (x : Int) : OwnMv (w.setCell ⟨g, k, none⟩ (.int .i64 x)) base vr vv va us rs ⟨m.vals, m.arrs.set i ((gr m.arrs i).set k x)⟩ := by
 have hC : Chg (fun q => q = g) w (w.setCell ⟨g, k, none⟩ (.int .i64 x)) := (Chg.refl _ _).setCell g k _ (fun _ => rfl)
 have hi : i < m.arrs.length := by rw [← h.a.len]; exact (List.getElem?_eq_some_iff.1 hu).1
 have hgr : gr m.arrs i = m.arrs[i] := by unfold gr; rw [Int.toNat_natCast, List.getElem?_eq_getElem hi]; rfl
 have hrow := h.a.row i _ _ hu (List.getElem?_eq_getElem hi)
 have hn : n = m.arrs[i].length := by
  obtain ⟨a, c', hs⟩ := Oh hrow
  simp at hs; omega
 subst hn
 have hg : OwnB2 va us g := Or.inr ⟨i, _, hu, rfl⟩
 have h1 := (hrow.stored k (.int .i64 x)).1
 rw [ints_set] at h1
 refine ⟨Ow h.r hC (fun q hq e => h.ra q hq (e ▸ hg)), Ow h.v hC (fun q hq e => h.va q hq (e ▸ hg)), ?_, h.rv, h.ra, h.va⟩
 rw [hgr]
 refine h.a.turn hu (r := m.arrs[i].set k x) (by rw [List.length_set]; exact h1) ?_ (by decide)
 exact (Chg.refl _ _).setCell g k _ (fun _ => rfl)
/-- a register's cell -/
theorem OwnMv.regAt {g n c : Nat} (h : OwnMv w base (.slice (some ⟨g, 0, none⟩) n c) vv va us rs m) (k : Nat) (hk : k < rs.length) : w.cell? ⟨g, k, none⟩ = some (.int .i64 (gi rs k)) := by
 have hn : n = rs.length := by
  obtain ⟨a, c', hs⟩ := Oh h.r
  simp at hs; omega
 subst hn
 rw [h.r.cellAt k (by omega), ints_at _ _ hk]
 unfold gi; rw [Int.toNat_natCast, List.getElem?_eq_getElem hk]; rfl
theorem OwnMv.valAt {g n c : Nat} (h : OwnMv w base vr (.slice (some ⟨g, 0, none⟩) n c) va us rs m) (k : Nat) (hk : k < m.vals.length) : w.cell? ⟨g, k, none⟩ = some (.int .i64 (gi m.vals k)) := by
 have hn : n = m.vals.length := by
  obtain ⟨a, c', hs⟩ := Oh h.v
  simp at hs; omega
 subst hn
 rw [h.v.cellAt k (by omega), ints_at _ _ hk]
 unfold gi; rw [Int.toNat_natCast, List.getElem?_eq_getElem hk]; rfl
/-- an array's row, and its cells -/
theorem OwnMv.arrAt {g n c : Nat} (h : OwnMv w base vr vv (.slice (some ⟨g, 0, none⟩) n c) us rs m) (i : Nat) (hi : i < m.arrs.length) (hl : (gr m.arrs i).length = 4) :
  ∃ ga ca, w.cell? ⟨g, i, none⟩ = some (.slice (some ⟨ga, 0, none⟩) 4 ca) ∧ us[i]? = some (.slice (some ⟨ga, 0, none⟩) 4 ca) ∧ ∀ k, k < 4 → w.cell? ⟨ga, k, none⟩ = some (.int .i64 (gi (gr m.arrs i) k)) ∧ w.frozen? ⟨ga, k, none⟩ = false := by
 obtain ⟨u, hu, hrow⟩ := h.a.rowAt i hi
 have hgr : gr m.arrs i = m.arrs[i] := by unfold gr; rw [Int.toNat_natCast, List.getElem?_eq_getElem hi]; rfl
 rw [hgr] at hl ⊢
 rw [hl] at hrow
 obtain ⟨ga, ca, rfl⟩ := own_pos hrow (by omega)
 have hn : n = m.arrs.length := by
  obtain ⟨a, c', hs⟩ := Oh h.a.out
  simp at hs; omega
 subst hn
 refine ⟨ga, ca, ?_, hu, fun k hk => ⟨?_, hrow.frozenAt k⟩⟩
 ·rw [h.a.outAt.cellAt i (by omega)]; exact hu
 ·rw [hrow.cellAt k (by omega), ints_at _ _ (by omega)]
  unfold gi; rw [Int.toNat_natCast, List.getElem?_eq_getElem (by omega)]; rfl
end
end Go.Proofs.Ytkjedgnepnbkpaa
namespace Go.Proofs.Ytkjedgnepnbkpaa
open Go.RowKit

/-- block g holds a random source whose bytes lie below block B, at place p -/
def Rnd (w : World) (B g p : Nat) : Prop :=
 ∃ a L cap, w.cell? ⟨g, 0, none⟩ = some (.slice a L cap) ∧ w.cell? ⟨g, 1, none⟩ = some (.int .i64 p) ∧ w.frozen? ⟨g, 1, none⟩ = false ∧ L ≤ 1048576 ∧ B ≤ g ∧ B ≤ w.heap.size ∧
  (0 < L → ∃ b off, a = some ⟨b, off, none⟩ ∧ b < B ∧ ∀ j, j < L → ∃ x : Int, 0 ≤ x ∧ x < 256 ∧ w.cell? ⟨b, off + j, none⟩ = some (.int .u8 x))

theorem Rnd.keep {w w' : World} {B g p : Nat} (h : Rnd w B g p) {S : Nat → Prop} (hc : Chg S w w') (hg : ¬ S g) (hB : ∀ k, k < B → ¬ S k) : Rnd w' B g p := by
 obtain ⟨a, L, cap, h0, h1, hf, hL, hBg, hBs, hb⟩ := h
 have hl := Lc h0
 refine ⟨a, L, cap, (hc.cell 0 hl hg).trans h0, (hc.cell 1 hl hg).trans h1, (hc.frozen 1 hl hg).trans hf, hL, hBg, Nat.le_trans hBs hc.size, fun h0 => ?_⟩
 obtain ⟨b, off, ha, hbB, hcell⟩ := hb h0
 refine ⟨b, off, ha, hbB, fun j hj => ?_⟩
 obtain ⟨x, hx0, hx1, hx⟩ := hcell j hj
 exact ⟨x, hx0, hx1, (hc.cell (off + j) (by omega) (hB b hbB)).trans hx⟩
theorem Rnd.below {w w' : World} {B g p : Nat} (h : Rnd w B g p) (hb : Below w.heap.size w w') : Rnd w' B g p := h.keep (S := fun _ => False) (Chg.of_below hb) id (fun _ _ => id)
theorem Rnd.lt {w : World} {B g p : Nat} (h : Rnd w B g p) : B ≤ g ∧ g < w.heap.size := by
 obtain ⟨a, L, cap, h0, h1, hf, hL, hBg, _⟩ := h
 exact ⟨hBg, Lc h0⟩

theorem i64_xor_nn (a b : Int) (h1 : 0 ≤ a) (h2 : a < 4611686018427387904) (h3 : 0 ≤ b) (h4 : b < 4611686018427387904) : 0 ≤ bits .xor .i64 a b ∧ bits .xor .i64 a b < 4611686018427387904 := by
 obtain ⟨A, rfl⟩ := Int.eq_ofNat_of_zero_le h1
 obtain ⟨B, rfl⟩ := Int.eq_ofNat_of_zero_le h3
 have hA : A < 2 ^ 62 := by omega
 have hB : B < 2 ^ 62 := by omega
 have hx : A ^^^ B < 2 ^ 62 := Nat.xor_lt_two_pow hA hB
 have hA' : A % 2 ^ 64 = A := Nat.mod_eq_of_lt (by omega)
 have hB' : B % 2 ^ 64 = B := Nat.mod_eq_of_lt (by omega)
 have e : bits .xor .i64 (A : Int) (B : Int) = IntKind.i64.wrap ((A ^^^ B : Nat) : Int) := by
  show IntKind.i64.wrap ((BitVec.ofInt 64 (A : Int) ^^^ BitVec.ofInt 64 (B : Int)).toNat : Int) = _
  rw [BitVec.toNat_xor, BitVec.ofInt_natCast, BitVec.ofInt_natCast, BitVec.toNat_ofNat, BitVec.toNat_ofNat, hA', hB']
 rw [e, IntWalk.i64_in _ (by omega)]
 omega

set_option maxHeartbeats 1600000 in
theorem pick_any (n : Int) (w : World) (B g p : Nat) (hr : Rnd w B g p) (hn : 1 ≤ n) (hn2 : n ≤ 9223372036854775807) (hp : p ≤ 1099511627776) :
  Calls Try.prog 51 #[.pointer (some ⟨g, 0, none⟩), .int .i64 n] w fun e w' => ∃ r : Int, 0 ≤ r ∧ r < n ∧ e = .returned (.int .i64 r) ∧ Rnd w' B g (p + 1) ∧ Chg (fun k => k = g) w w' := by
 have hr0 := hr
 obtain ⟨a, L, cap, h0, h1, hf, hL, hBg, hBs, hb⟩ := hr
 have hl := Lc h0
 have hset : Rnd (w.setCell ⟨g, 1, none⟩ (.int .i64 ((p : Int) + 1))) B g (p + 1) := by
  refine ⟨a, L, cap, ?_, ?_, by rw [froz_set]; exact hf, hL, hBg, by simpa using hBs, fun h0 => ?_⟩
  ·rw [World.cell?_setCell_other _ _ _ _ (by simp)]; exact h0
  ·rw [Tc _ _ _ _ h1]; simp
  ·obtain ⟨b, off, ha, hbB, hcell⟩ := hb h0
   refine ⟨b, off, ha, hbB, fun j hj => ?_⟩
   obtain ⟨x, hx0, hx1, hx⟩ := hcell j hj
   exact ⟨x, hx0, hx1, (cell_far _ _ _ _ _ _ (by omega)).trans hx⟩
 have hchg : Chg (fun k => k = g) w (w.setCell ⟨g, 1, none⟩ (.int .i64 ((p : Int) + 1))) := (Chg.refl (fun k => k = g) w).setCell g 1 _ (fun _ => rfl)
 by_cases hL0 : L = 0
 ·subst hL0
  clear hb
  go_enter Try.func51, Try.ntmps51
  go_wp2
  go_ret
  exact ⟨0, by omega, by omega, rfl, hset, hchg⟩
 ·obtain ⟨b, off, rfl, hbB, hcell⟩ := hb (by omega)
  have hLp : (0 : Int) < (L : Int) := by omega
  have hL1 : ((L : Int) == 0) = false := by simp; omega
  have hne : ¬ b = g := by omega
  have hne' : ¬ g = b := by omega
  by_cases hpl : p < L
  ·obtain ⟨x, hx0, hx1, hx⟩ := hcell p hpl
   clear hcell hb
   go_enter Try.func51, Try.ntmps51
   go_wp2
   go_ret
   exact ⟨x % n, Int.emod_nonneg _ (by omega), Int.emod_lt_of_pos _ (by omega), rfl, hset, hchg⟩
  ·have hpl2 : ¬ ((p : Int) < (L : Int)) := by omega
   obtain ⟨x, hx0, hx1, hx⟩ := hcell (p % L) (Nat.mod_lt _ (by omega))
   obtain ⟨y, hy0, hy1, hy⟩ := hcell ((p * 7 + 3) % L) (Nat.mod_lt _ (by omega))
   have e1 : ((p : Int) % (L : Int)).toNat = p % L := by rw [← Int.natCast_emod, Int.toNat_natCast]
   have hLn : (L : Int) ≠ 0 := Int.ne_of_gt hLp
   have i1 : (0 : Int) ≤ (p : Int) % (L : Int) := Int.emod_nonneg _ hLn
   have i2 : (p : Int) % (L : Int) < (L : Int) := Int.emod_lt_of_pos _ hLp
   have e2 : (((p : Int) * 7 + 3) % (L : Int)).toNat = (p * 7 + 3) % L := by
    have h : ((p : Int) * 7 + 3) = ((p * 7 + 3 : Nat) : Int) := by omega
    rw [h, ← Int.natCast_emod, Int.toNat_natCast]
   have j1 : (0 : Int) ≤ ((p : Int) * 7 + 3) % (L : Int) := Int.emod_nonneg _ hLn
   have j2 : ((p : Int) * 7 + 3) % (L : Int) < (L : Int) := Int.emod_lt_of_pos _ hLp
   have d0 : (0 : Int) ≤ (p : Int) / (L : Int) := Int.ediv_nonneg (Int.natCast_nonneg _) (Int.natCast_nonneg _)
   have d1 : (p : Int) / (L : Int) ≤ 1099511627776 := Int.le_trans (Int.ediv_le_self _ (Int.natCast_nonneg _)) (by omega)
   have m1 : IntKind.i64.wrap ((p : Int) * 7) = (p : Int) * 7 := IntWalk.i64_in _ (by omega)
   have m2 : IntKind.i64.wrap ((p : Int) * 7 + 3) = (p : Int) * 7 + 3 := IntWalk.i64_in _ (by omega)
   have m3 : IntKind.i64.wrap (x * 131) = x * 131 := IntWalk.i64_in _ (by omega)
   have m4 : IntKind.i64.wrap (y * 1117) = y * 1117 := IntWalk.i64_in _ (by omega)
   have m5 : IntKind.i64.wrap (x * 131 + y * 1117) = x * 131 + y * 1117 := IntWalk.i64_in _ (by omega)
   have m6 : IntKind.i64.wrap ((p : Int) * 29) = (p : Int) * 29 := IntWalk.i64_in _ (by omega)
   have m7 : IntKind.i64.wrap (x * 131 + y * 1117 + (p : Int) * 29) = x * 131 + y * 1117 + (p : Int) * 29 := IntWalk.i64_in _ (by omega)
   have m8 : IntKind.i64.wrap ((p : Int) / (L : Int) * 53) = (p : Int) / (L : Int) * 53 := IntWalk.i64_in _ (by omega)
   have m9 : IntKind.i64.wrap (x * 131 + y * 1117 + (p : Int) * 29 + (p : Int) / (L : Int) * 53) = x * 131 + y * 1117 + (p : Int) * 29 + (p : Int) / (L : Int) * 53 := IntWalk.i64_in _ (by omega)
   clear hcell hb
   go_enter Try.func51, Try.ntmps51
   go_wp2
   go_quiet (fail)
   have hX0 : 0 ≤ x * 131 + y * 1117 + (p : Int) * 29 + (p : Int) / (L : Int) * 53 := by omega
   have hX1 : x * 131 + y * 1117 + (p : Int) * 29 + (p : Int) / (L : Int) * 53 ≤ 1000000000000000 := by omega
   clear hLn m1 m2 m3 m4 m5 m6 m7 m8 m9 e1 e2 i1 i2 j1 j2
   generalize x * 131 + y * 1117 + (p : Int) * 29 + (p : Int) / (L : Int) * 53 = X at *
   have hxor := i64_xor_nn X (X / 64) hX0 (by omega) (by omega) (by omega)
   obtain ⟨hq0, hq1⟩ := hxor
   go_wp2
   generalize bits BinOp.xor IntKind.i64 X (X / 64) = Y at *
   go_ret
   refine ⟨Y % n, Int.emod_nonneg _ (by omega), Int.emod_lt_of_pos _ (by omega), ?_, hset.below (below_drewN' _ nq), hchg.trans (Chg.of_below (below_drewN' _ nq))⟩
   rfl
end Go.Proofs.Ytkjedgnepnbkpaa
