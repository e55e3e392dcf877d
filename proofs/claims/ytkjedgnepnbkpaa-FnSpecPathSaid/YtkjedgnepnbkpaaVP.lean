/-
 Parts of the proof of the law FnSpecPath.
-/
import Derived.Test.YtkjedgnepnbkpaaK
import Derived.Test.YtkjedgnepnbkpaaO
import Derived.Test.YtkjedgnepnbkpaaProg
set_option linter.all false
namespace Go.Proofs.Ytkjedgnepnbkpaa
open Go.RowKit

/-- a number is in a range -/
def wi (n lo hi : Int) : Bool := decide (lo ≤ n ∧ n ≤ hi)
def labOk (n : Int) : Bool := wi n 0 3
def labsOk (xs : List Int) : Bool := xs.all labOk
def declOk (xs ys : List Int) : Bool := decide (1 ≤ xs.length ∧ xs.length ≤ 12) && (decide (ys.length ≤ 2) && (labsOk xs && labsOk ys))
/-- the letters of an operation's fields -/
def shp (op : Int) : List UInt8 :=
 if op = 1 then [114, 110, 45, 45] else if op = 2 then [114, 118, 45, 45] else if op = 3 then [118, 114, 45, 45] else if op = 4 then [114, 97, 114, 45] else if op = 5 then [97, 114, 114, 45]
 else if op = 6 then [114, 111, 114, 114] else if op = 7 then [114, 114, 114, 114] else if op = 8 then [105, 45, 45, 45] else if op = 9 then [114, 105, 45, 45] else if op = 10 then [114, 105, 45, 45]
 else if op = 11 then [114, 45, 45, 45] else if op = 12 then [45, 45, 45, 45] else if op = 13 then [45, 45, 45, 45] else []
theorem shp_cases (op : Int) : (op < 1 ∨ 13 < op) ∨ op = 1 ∨ op = 2 ∨ op = 3 ∨ op = 4 ∨ op = 5 ∨ op = 6 ∨ op = 7 ∨ op = 8 ∨ op = 9 ∨ op = 10 ∨ op = 11 ∨ op = 12 ∨ op = 13 := by omega
theorem shp_none {op : Int} (h : op < 1 ∨ 13 < op) : shp op = [] := by unfold shp; repeat rw [if_neg (by omega)]
theorem shp_len {op : Int} (h : ¬ (op < 1 ∨ 13 < op)) : (shp op).length = 4 := by
 rcases shp_cases op with h' | rfl | rfl | rfl | rfl | rfl | rfl | rfl | rfl | rfl | rfl | rfl | rfl | rfl
 ·exact absurd h' h
 all_goals rfl
/-- a field is as its letter says -/
def fOk (nv na nl : Nat) (k n : Int) : Bool :=
 if k = 114 then wi n 0 (13) else if k = 118 then wi n 0 ((nv : Int) - 1) else if k = 97 then wi n 0 ((na : Int) - 1) else if k = 110 then wi n 0 (255)
 else if k = 111 then wi n 4 (10) else if k = 105 then wi n 0 ((nl : Int) - 1) else n == 0
def flds (x : Ins) : List Int := [x.a, x.b, x.c, x.d]
def insOk (nv na nl : Nat) (x : Ins) : Bool := wi x.op 1 13 && ((shp x.op).zip (flds x)).all (fun p => fOk nv na nl p.1.toNat p.2)
def lastOk (l : List Ins) : Bool := match l.getLast? with | some x => x.op == 13 || x.op == 8 | none => false
def codeOk (c : Cd) : Bool := declOk c.vars c.arrays && (decide (1 ≤ c.list.length ∧ c.list.length ≤ 400) && (c.list.all (insOk c.vars.length c.arrays.length c.list.length) && lastOk c.list))

theorem within_any (n lo hi : Int) (w : World) :
  Calls Try.prog 69 #[.int .i64 n, .int .i64 lo, .int .i64 hi] w fun e w' => e = .returned (.bool (wi n lo hi)) ∧ Below w.heap.size w w' := by
 by_cases h1 : lo ≤ n
 ·by_cases h2 : n ≤ hi
  ·have HD : Hid (wi n lo hi = true) := Lib.hid (decide_eq_true (p := lo ≤ n ∧ n ≤ hi) ⟨h1, h2⟩)
   go_enter Try.func69, Try.ntmps69
   go_wp2
   go_ret
   exact ⟨ret_bool HD.out.symm, Below.refl _ _⟩
  ·have HD : Hid (wi n lo hi = false) := Lib.hid (decide_eq_false (p := lo ≤ n ∧ n ≤ hi) (by omega))
   have h3 : decide (n ≤ hi) = false := decide_eq_false h2
   clear h2
   go_enter Try.func69, Try.ntmps69
   go_wp2
   go_ret
   exact ⟨ret_bool HD.out.symm, Below.refl _ _⟩
 ·have HD : Hid (wi n lo hi = false) := Lib.hid (decide_eq_false (p := lo ≤ n ∧ n ≤ hi) (by omega))
  go_enter Try.func69, Try.ntmps69
  go_wp2
  go_ret
  exact ⟨ret_bool HD.out.symm, Below.refl _ _⟩

theorem iLabelValid_any (n : Int) (w : World) :
  Calls Try.prog 161 #[.int .i64 n] w fun e w' => e = .returned (.bool (labOk n)) ∧ Below w.heap.size w w' := by
 go_enter Try.func161, Try.ntmps161
 go_wp2_with fail
 refine (within_any n 0 3 _).mono ?_
 rintro e w1 ⟨rfl, hb⟩
 go_wp2
 go_ret
 exact ⟨rfl, hb⟩
theorem notLabel_any (n : Int) (w : World) :
  Calls Try.prog 160 #[.int .i64 n] w fun e w' => e = .returned (.bool (!labOk n)) ∧ Below w.heap.size w w' := by
 go_enter Try.func160, Try.ntmps160
 go_wp2_with fail
 refine (iLabelValid_any n _).mono ?_
 rintro e w1 ⟨rfl, hb⟩
 go_wp2
 go_ret
 exact ⟨rfl, hb⟩

set_option maxHeartbeats 3200000 in
theorem shape_any (op : Int) (w : World) :
  Calls Try.prog 141 #[.int .i64 op] w fun e w' => e = .returned (.string ⟨(shp op).toArray⟩) ∧ Below w.heap.size w w' := by
 rcases shp_cases op with h | rfl | rfl | rfl | rfl | rfl | rfl | rfl | rfl | rfl | rfl | rfl | rfl | rfl
 ·rw [shp_none h]
  have HD : wi op 1 13 = false := decide_eq_false (p := 1 ≤ op ∧ op ≤ 13) (by omega)
  go_enter Try.func141, Try.ntmps141
  go_wp2_with fail
  refine (within_any op 1 13 _).mono ?_
  rintro e w1 ⟨rfl, hb⟩
  rw [HD]
  clear HD h
  go_wp2
  go_ret
  exact ⟨rfl, hb⟩
 all_goals
  go_enter Try.func141, Try.ntmps141
  go_wp2_with fail
  refine (within_any _ 1 13 _).mono ?_
  rintro e w1 ⟨rfl, hb⟩
  rw [show wi _ 1 13 = true from rfl]
  go_wp2
  go_ret
  exact ⟨rfl, bal hb _⟩
end Go.Proofs.Ytkjedgnepnbkpaa
namespace Go.Proofs.Ytkjedgnepnbkpaa
open Go.RowKit

theorem codeOk_all {c : Cd} (h : codeOk c = true) : ∀ (k : Nat) (hk : k < c.list.length), insOk c.vars.length c.arrays.length c.list.length c.list[k] = true := by
 intro k hk
 unfold codeOk at h
 simp only [Bool.and_eq_true] at h
 exact List.all_eq_true.1 h.2.2.1 _ (List.getElem_mem hk)
theorem codeOk_len {c : Cd} (h : codeOk c = true) : 1 ≤ c.list.length ∧ c.list.length ≤ 400 := by
 unfold codeOk at h
 simp only [Bool.and_eq_true] at h
 exact of_decide_eq_true h.2.1
theorem codeOk_decl {c : Cd} (h : codeOk c = true) : declOk c.vars c.arrays = true := by
 unfold codeOk at h
 simp only [Bool.and_eq_true] at h
 exact h.1
theorem codeOk_last {c : Cd} (h : codeOk c = true) : ∃ hk : c.list.length - 1 < c.list.length, (c.list[c.list.length - 1]'hk).op = 13 ∨ (c.list[c.list.length - 1]'hk).op = 8 := by
 have hl := codeOk_len h
 unfold codeOk at h
 simp only [Bool.and_eq_true] at h
 have h2 := h.2.2.2
 unfold lastOk at h2
 rw [List.getLast?_eq_getElem?, List.getElem?_eq_getElem (by omega)] at h2
 refine ⟨by omega, ?_⟩
 simpa using h2
theorem declOk_len {xs ys : List Int} (h : declOk xs ys = true) : xs.length ≤ 12 ∧ ys.length ≤ 2 := by
 unfold declOk at h
 simp only [Bool.and_eq_true] at h
 exact ⟨(of_decide_eq_true h.1).2, of_decide_eq_true h.2.1⟩
theorem insOk_op {nv na nl : Nat} {x : Ins} (h : insOk nv na nl x = true) : 1 ≤ x.op ∧ x.op ≤ 13 := by
 unfold insOk at h
 simp only [Bool.and_eq_true] at h
 exact of_decide_eq_true h.1
end Go.Proofs.Ytkjedgnepnbkpaa
namespace Go.Proofs.Ytkjedgnepnbkpaa
open Go.RowKit

/-- block g holds a random source whose bytes lie below block B, at place p -/
def Rnd (w : World) (B g p : Nat) : Prop :=
 ∃ a L cap, w.cell? ⟨g, 0, none⟩ = some (.slice a L cap) ∧ w.cell? ⟨g, 1, none⟩ = some (.int .i64 p) ∧ w.frozen? ⟨g, 1, none⟩ = false ∧ L ≤ 1048576 ∧ B ≤ g ∧ B ≤ w.heap.size ∧
  (0 < L → ∃ b off, a = some ⟨b, off, none⟩ ∧ b < B ∧ ∀ j, j < L → ∃ x : Int, 0 ≤ x ∧ x < 256 ∧ w.cell? ⟨b, off + j, none⟩ = some (.int .u8 x))

theorem Rnd.keep {w w' : World} {B g p : Nat} (h : Rnd w B g p) {S : Nat → Prop} (hc : Chg S w w') (hg : ¬ S g) (hB : ∀ k, k < B → ¬ S k) : Rnd w' B g p := by
 obtain ⟨a, L, cap, h0, h1, hf, hL, hBg, hBs, hb⟩ := h
 have hl := Lc h0
 refine ⟨a, L, cap, (hc.cell 0 hl hg).trans h0, (hc.cell 1 hl hg).trans h1, (hc.frozen 1 hl hg).trans hf, hL, hBg, Nat.le_trans hBs hc.size, fun h0 => ?_⟩
 obtain ⟨b, off, ha, hbB, hcell⟩ := hb h0
 refine ⟨b, off, ha, hbB, fun j hj => ?_⟩
 obtain ⟨x, hx0, hx1, hx⟩ := hcell j hj
 exact ⟨x, hx0, hx1, (hc.cell (off + j) (by omega) (hB b hbB)).trans hx⟩
theorem Rnd.below {w w' : World} {B g p : Nat} (h : Rnd w B g p) (hb : Below w.heap.size w w') : Rnd w' B g p := h.keep (S := fun _ => False) (Chg.of_below hb) id (fun _ _ => id)
theorem Rnd.lt {w : World} {B g p : Nat} (h : Rnd w B g p) : B ≤ g ∧ g < w.heap.size := by
 obtain ⟨a, L, cap, h0, h1, hf, hL, hBg, _⟩ := h
 exact ⟨hBg, Lc h0⟩

theorem i64_xor_nn (a b : Int) (h1 : 0 ≤ a) (h2 : a < 4611686018427387904) (h3 : 0 ≤ b) (h4 : b < 4611686018427387904) : 0 ≤ bits .xor .i64 a b ∧ bits .xor .i64 a b < 4611686018427387904 := by
 obtain ⟨A, rfl⟩ := Int.eq_ofNat_of_zero_le h1
 obtain ⟨B, rfl⟩ := Int.eq_ofNat_of_zero_le h3
 have hA : A < 2 ^ 62 := by omega
 have hB : B < 2 ^ 62 := by omega
 have hx : A ^^^ B < 2 ^ 62 := Nat.xor_lt_two_pow hA hB
 have hA' : A % 2 ^ 64 = A := Nat.mod_eq_of_lt (by omega)
 have hB' : B % 2 ^ 64 = B := Nat.mod_eq_of_lt (by omega)
 have e : bits .xor .i64 (A : Int) (B : Int) = IntKind.i64.wrap ((A ^^^ B : Nat) : Int) := by
  show IntKind.i64.wrap ((BitVec.ofInt 64 (A : Int) ^^^ BitVec.ofInt 64 (B : Int)).toNat : Int) = _
  rw [BitVec.toNat_xor, BitVec.ofInt_natCast, BitVec.ofInt_natCast, BitVec.toNat_ofNat, BitVec.toNat_ofNat, hA', hB']
 rw [e, IntWalk.i64_in _ (by omega)]
 omega

set_option maxHeartbeats 1600000 in
theorem pick_any (n : Int) (w : World) (B g p : Nat) (hr : Rnd w B g p) (hn : 1 ≤ n) (hn2 : n ≤ 9223372036854775807) (hp : p ≤ 1099511627776) :
  Calls Try.prog 51 #[.pointer (some ⟨g, 0, none⟩), .int .i64 n] w fun e w' => ∃ r : Int, 0 ≤ r ∧ r < n ∧ e = .returned (.int .i64 r) ∧ Rnd w' B g (p + 1) ∧ Chg (fun k => k = g) w w' := by
 have hr0 := hr
 obtain ⟨a, L, cap, h0, h1, hf, hL, hBg, hBs, hb⟩ := hr
 have hl := Lc h0
 have hset : Rnd (w.setCell ⟨g, 1, none⟩ (.int .i64 ((p : Int) + 1))) B g (p + 1) := by
  refine ⟨a, L, cap, ?_, ?_, by rw [froz_set]; exact hf, hL, hBg, by simpa using hBs, fun h0 => ?_⟩
  ·rw [World.cell?_setCell_other _ _ _ _ (by simp)]; exact h0
  ·rw [Tc _ _ _ _ h1]; simp
  ·obtain ⟨b, off, ha, hbB, hcell⟩ := hb h0
   refine ⟨b, off, ha, hbB, fun j hj => ?_⟩
   obtain ⟨x, hx0, hx1, hx⟩ := hcell j hj
   exact ⟨x, hx0, hx1, (cell_far _ _ _ _ _ _ (by omega)).trans hx⟩
 have hchg : Chg (fun k => k = g) w (w.setCell ⟨g, 1, none⟩ (.int .i64 ((p : Int) + 1))) := (Chg.refl (fun k => k = g) w).setCell g 1 _ (fun _ => rfl)
 by_cases hL0 : L = 0
 ·subst hL0
  clear hb
  go_enter Try.func51, Try.ntmps51
  go_wp2
  go_ret
  exact ⟨0, by omega, by omega, rfl, hset, hchg⟩
 ·obtain ⟨b, off, rfl, hbB, hcell⟩ := hb (by omega)
  have hLp : (0 : Int) < (L : Int) := by omega
  have hL1 : ((L : Int) == 0) = false := by simp; omega
  have hne : ¬ b = g := by omega
  have hne' : ¬ g = b := by omega
  by_cases hpl : p < L
  ·obtain ⟨x, hx0, hx1, hx⟩ := hcell p hpl
   clear hcell hb
   go_enter Try.func51, Try.ntmps51
   go_wp2
   go_ret
   exact ⟨x % n, Int.emod_nonneg _ (by omega), Int.emod_lt_of_pos _ (by omega), rfl, hset, hchg⟩
  ·have hpl2 : ¬ ((p : Int) < (L : Int)) := by omega
   obtain ⟨x, hx0, hx1, hx⟩ := hcell (p % L) (Nat.mod_lt _ (by omega))
   obtain ⟨y, hy0, hy1, hy⟩ := hcell ((p * 7 + 3) % L) (Nat.mod_lt _ (by omega))
   have e1 : ((p : Int) % (L : Int)).toNat = p % L := by rw [← Int.natCast_emod, Int.toNat_natCast]
   have hLn : (L : Int) ≠ 0 := Int.ne_of_gt hLp
   have i1 : (0 : Int) ≤ (p : Int) % (L : Int) := Int.emod_nonneg _ hLn
   have i2 : (p : Int) % (L : Int) < (L : Int) := Int.emod_lt_of_pos _ hLp
   have e2 : (((p : Int) * 7 + 3) % (L : Int)).toNat = (p * 7 + 3) % L := by
    have h : ((p : Int) * 7 + 3) = ((p * 7 + 3 : Nat) : Int) := by omega
    rw [h, ← Int.natCast_emod, Int.toNat_natCast]
   have j1 : (0 : Int) ≤ ((p : Int) * 7 + 3) % (L : Int) := Int.emod_nonneg _ hLn
   have j2 : ((p : Int) * 7 + 3) % (L : Int) < (L : Int) := Int.emod_lt_of_pos _ hLp
   have d0 : (0 : Int) ≤ (p : Int) / (L : Int) := Int.ediv_nonneg (Int.natCast_nonneg _) (Int.natCast_nonneg _)
   have d1 : (p : Int) / (L : Int) ≤ 1099511627776 := Int.le_trans (Int.ediv_le_self _ (Int.natCast_nonneg _)) (by omega)
   have m1 : IntKind.i64.wrap ((p : Int) * 7) = (p : Int) * 7 := IntWalk.i64_in _ (by omega)
   have m2 : IntKind.i64.wrap ((p : Int) * 7 + 3) = (p : Int) * 7 + 3 := IntWalk.i64_in _ (by omega)
   have m3 : IntKind.i64.wrap (x * 131) = x * 131 := IntWalk.i64_in _ (by omega)
   have m4 : IntKind.i64.wrap (y * 1117) = y * 1117 := IntWalk.i64_in _ (by omega)
   have m5 : IntKind.i64.wrap (x * 131 + y * 1117) = x * 131 + y * 1117 := IntWalk.i64_in _ (by omega)
   have m6 : IntKind.i64.wrap ((p : Int) * 29) = (p : Int) * 29 := IntWalk.i64_in _ (by omega)
   have m7 : IntKind.i64.wrap (x * 131 + y * 1117 + (p : Int) * 29) = x * 131 + y * 1117 + (p : Int) * 29 := IntWalk.i64_in _ (by omega)
   have m8 : IntKind.i64.wrap ((p : Int) / (L : Int) * 53) = (p : Int) / (L : Int) * 53 := IntWalk.i64_in _ (by omega)
   have m9 : IntKind.i64.wrap (x * 131 + y * 1117 + (p : Int) * 29 + (p : Int) / (L : Int) * 53) = x * 131 + y * 1117 + (p : Int) * 29 + (p : Int) / (L : Int) * 53 := IntWalk.i64_in _ (by omega)
   clear hcell hb
   go_enter Try.func51, Try.ntmps51
   go_wp2
   go_quiet (fail)
   have hX0 : 0 ≤ x * 131 + y * 1117 + (p : Int) * 29 + (p : Int) / (L : Int) * 53 := by omega
   have hX1 : x * 131 + y * 1117 + (p : Int) * 29 + (p : Int) / (L : Int) * 53 ≤ 1000000000000000 := by omega
   clear hLn m1 m2 m3 m4 m5 m6 m7 m8 m9 e1 e2 i1 i2 j1 j2
   generalize x * 131 + y * 1117 + (p : Int) * 29 + (p : Int) / (L : Int) * 53 = X at *
   have hxor := i64_xor_nn X (X / 64) hX0 (by omega) (by omega) (by omega)
   obtain ⟨hq0, hq1⟩ := hxor
   go_wp2
   generalize bits BinOp.xor IntKind.i64 X (X / 64) = Y at *
   go_ret
   refine ⟨Y % n, Int.emod_nonneg _ (by omega), Int.emod_lt_of_pos _ (by omega), ?_, hset.below (below_drewN' _ nq), hchg.trans (Chg.of_below (below_drewN' _ nq))⟩
   rfl
end Go.Proofs.Ytkjedgnepnbkpaa
