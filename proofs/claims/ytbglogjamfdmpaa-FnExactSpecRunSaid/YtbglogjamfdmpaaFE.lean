/-
  Parts of the proof of the law FnExactSpecRun.
-/
import Derived.Test.YtbglogjamfdmpaaC
import Derived.Test.YtbglogjamfdmpaaK
import Derived.Test.YtbglogjamfdmpaaProg
import Derived.Test.YtbglogjamfdmpaaQ
import Derived.Test.YtbglogjamfdmpaaRB
namespace Go.Proofs.Ytbglogjamfdmpaa
open Go.RowKit

def isBr (op : Int) : Bool := op == 9 || op == 10
theorem codeOk_all {c : Cd} (h : codeOk c = true) : ∀ (k : Nat) (hk : k < c.list.length), insOk c.vars.length c.arrays.length c.list.length c.list[k] = true := by
  intro k hk
  unfold codeOk at h
  simp only [Bool.and_eq_true] at h
  exact List.all_eq_true.1 h.2.2.1 _ (List.getElem_mem hk)
theorem codeOk_len {c : Cd} (h : codeOk c = true) : 1 ≤ c.list.length ∧ c.list.length ≤ 400 := by
  unfold codeOk at h
  simp only [Bool.and_eq_true] at h
  exact of_decide_eq_true h.2.1
theorem codeOk_decl {c : Cd} (h : codeOk c = true) : declOk c.vars c.arrays = true := by
  unfold codeOk at h
  simp only [Bool.and_eq_true] at h
  exact h.1
theorem codeOk_last {c : Cd} (h : codeOk c = true) : ∃ hk : c.list.length - 1 < c.list.length, (c.list[c.list.length - 1]'hk).op = 13 ∨ (c.list[c.list.length - 1]'hk).op = 8 := by
  have hl := codeOk_len h
  unfold codeOk at h
  simp only [Bool.and_eq_true] at h
  have h2 := h.2.2.2
  unfold lastOk at h2
  rw [List.getLast?_eq_getElem?, List.getElem?_eq_getElem (by omega)] at h2
  refine ⟨by omega, ?_⟩
  simpa using h2
theorem declOk_len {xs ys : List Int} (h : declOk xs ys = true) : xs.length ≤ 12 ∧ ys.length ≤ 2 := by
  unfold declOk at h
  simp only [Bool.and_eq_true] at h
  exact ⟨(of_decide_eq_true h.1).2, of_decide_eq_true h.2.1⟩
theorem insOk_op {nv na nl : Nat} {x : Ins} (h : insOk nv na nl x = true) : 1 ≤ x.op ∧ x.op ≤ 13 := by
  unfold insOk at h
  simp only [Bool.and_eq_true] at h
  exact of_decide_eq_true h.1
theorem isBranch_any (op a b c d : Int) (w : World) :
    Calls Try.prog 63 #[.agg #[.int .i64 op, .int .i64 a, .int .i64 b, .int .i64 c, .int .i64 d]] w fun e w' => e = .returned (.bool (isBr op)) ∧ Below w.heap.size w w' := by
  have hc : (op == 9) = true ∨ ((op == 9) = false ∧ ((op == 10) = true ∨ (op == 10) = false)) := by
    cases (op == 9) <;> cases (op == 10) <;> simp
  have hbx := bal (bself w) (.cells #[.int .i64 op, .int .i64 a, .int .i64 b, .int .i64 c, .int .i64 d] 92)
  rcases hc with h | ⟨h, h2 | h2⟩
  · have HB : Hid (isBr op = true) := Lib.hid (by unfold isBr; rw [h]; rfl)
    go_enter Try.func63, Try.ntmps63
    go_wp2
    go_ret
    exact ⟨ret_bool HB.out.symm, hbx⟩
  · have HB : Hid (isBr op = true) := Lib.hid (by unfold isBr; rw [h, h2]; rfl)
    go_enter Try.func63, Try.ntmps63
    go_wp2
    go_ret
    exact ⟨ret_bool HB.out.symm, hbx⟩
  · have HB : Hid (isBr op = false) := Lib.hid (by unfold isBr; rw [h, h2]; rfl)
    go_enter Try.func63, Try.ntmps63
    go_wp2
    go_ret
    exact ⟨ret_bool HB.out.symm, hbx⟩
theorem l11Branch_any (op a b c d : Int) (w : World) :
    Calls Try.prog 55 #[.agg #[.int .i64 op, .int .i64 a, .int .i64 b, .int .i64 c, .int .i64 d]] w fun e w' => e = .returned (.bool (isBr op)) ∧ Below w.heap.size w w' := by
  have hc : (op == 9) = true ∨ ((op == 9) = false ∧ ((op == 10) = true ∨ (op == 10) = false)) := by
    cases (op == 9) <;> cases (op == 10) <;> simp
  have hbx := bal (bself w) (.cells #[.int .i64 op, .int .i64 a, .int .i64 b, .int .i64 c, .int .i64 d] 92)
  rcases hc with h | ⟨h, h2 | h2⟩
  · have HB : Hid (isBr op = true) := Lib.hid (by unfold isBr; rw [h]; rfl)
    go_enter Try.func55, Try.ntmps55
    go_wp2
    go_ret
    exact ⟨ret_bool HB.out.symm, hbx⟩
  · have HB : Hid (isBr op = true) := Lib.hid (by unfold isBr; rw [h, h2]; rfl)
    go_enter Try.func55, Try.ntmps55
    go_wp2
    go_ret
    exact ⟨ret_bool HB.out.symm, hbx⟩
  · have HB : Hid (isBr op = false) := Lib.hid (by unfold isBr; rw [h, h2]; rfl)
    go_enter Try.func55, Try.ntmps55
    go_wp2
    go_ret
    exact ⟨ret_bool HB.out.symm, hbx⟩

end Go.Proofs.Ytbglogjamfdmpaa
namespace Go.Proofs.Ytbglogjamfdmpaa
open Go.RowKit

/-- block g holds a random source whose bytes lie below block B, at place p -/
def Rnd (w : World) (B g p : Nat) : Prop :=
  ∃ a L cap, w.cell? ⟨g, 0, none⟩ = some (.slice a L cap) ∧ w.cell? ⟨g, 1, none⟩ = some (.int .i64 p) ∧ w.frozen? ⟨g, 1, none⟩ = false ∧ L ≤ 1048576 ∧ B ≤ g ∧ B ≤ w.heap.size ∧
    (0 < L → ∃ b off, a = some ⟨b, off, none⟩ ∧ b < B ∧ ∀ j, j < L → ∃ x : Int, 0 ≤ x ∧ x < 256 ∧ w.cell? ⟨b, off + j, none⟩ = some (.int .u8 x))

theorem Rnd.keep {w w' : World} {B g p : Nat} (h : Rnd w B g p) {S : Nat → Prop} (hc : Chg S w w') (hg : ¬ S g) (hB : ∀ k, k < B → ¬ S k) : Rnd w' B g p := by
  obtain ⟨a, L, cap, h0, h1, hf, hL, hBg, hBs, hb⟩ := h
  have hl := lt_of_cell h0
  refine ⟨a, L, cap, (hc.cell 0 hl hg).trans h0, (hc.cell 1 hl hg).trans h1, (hc.frozen 1 hl hg).trans hf, hL, hBg, Nat.le_trans hBs hc.size, fun h0 => ?_⟩
  obtain ⟨b, off, ha, hbB, hcell⟩ := hb h0
  refine ⟨b, off, ha, hbB, fun j hj => ?_⟩
  obtain ⟨x, hx0, hx1, hx⟩ := hcell j hj
  exact ⟨x, hx0, hx1, (hc.cell (off + j) (by omega) (hB b hbB)).trans hx⟩
theorem Rnd.below {w w' : World} {B g p : Nat} (h : Rnd w B g p) (hb : Below w.heap.size w w') : Rnd w' B g p := h.keep (S := fun _ => False) (Chg.of_below hb) id (fun _ _ => id)
theorem Rnd.lt {w : World} {B g p : Nat} (h : Rnd w B g p) : B ≤ g ∧ g < w.heap.size := by
  obtain ⟨a, L, cap, h0, h1, hf, hL, hBg, _⟩ := h
  exact ⟨hBg, lt_of_cell h0⟩

end Go.Proofs.Ytbglogjamfdmpaa

namespace Go.Proofs.Ytbglogjamfdmpaa
open Go.RowKit

theorem info_ev : (Try.prog.info? 89).map (fun i => (i.zero, i.size, i.bytes)) = some (some (.agg #[.int .i64 0, .int .i64 0]), 2, 16) := by kernel_rfl
theorem tEvs : SliceT Try.prog 45 89 (.agg #[.int .i64 0, .int .i64 0]) 2 16 := ⟨Try.underlying45, info_ev, rfl, by omega, by omega⟩

theorem one_ev (a b : Int) : ∀ u ∈ [Value.int .i64 a, Value.int .i64 b], u.oneCell' = true := one_evs [(a, b)]

end Go.Proofs.Ytbglogjamfdmpaa
namespace Go.Proofs.Ytbglogjamfdmpaa
open Go.RowKit

/-- a memory -/
structure Mm where
  vals : List Int
  arrs : List (List Int)
deriving DecidableEq
/-- a state of the machine -/
structure Ms where
  pc : Int
  regs : List Int
  mem : Mm
deriving DecidableEq

def valOk (n : Int) : Bool := wi n 0 255
def valsOk (xs : List Int) : Bool := xs.all valOk
/-- the memory is one for so many variables and arrays -/
def memOk (nv na : Nat) (m : Mm) : Bool := decide (m.vals.length = nv) && (decide (m.arrs.length = na) && (valsOk m.vals && m.arrs.all (fun a => decide (a.length = 4) && valsOk a)))

/-- element i of a row, 0 outside it -/
def gi (xs : List Int) (i : Int) : Int := (xs[i.toNat]?).getD 0
def gr (rs : List (List Int)) (i : Int) : List Int := (rs[i.toNat]?).getD []
def tru (b : Bool) : Int := if b then 1 else 0
def opr (k a b : Int) : Int :=
  if k = 4 then (a + b) % 256 else if k = 5 then (a - b + 256) % 256 else if k = 6 then (a * b) % 256 else if k = 7 then bits .and .i64 a b else if k = 8 then bits .xor .i64 a b
  else if k = 9 then tru (a == b) else tru (decide (a < b))
def adr (a i : Int) : Int := a * 4 + i % 4

/-- what an instruction does -/
def stRegs (x : Ins) (s : Ms) : List Int :=
  if x.op = 1 then s.regs.set x.a.toNat x.b
  else if x.op = 2 then s.regs.set x.a.toNat (gi s.mem.vals x.b)
  else if x.op = 4 then s.regs.set x.a.toNat (gi (gr s.mem.arrs x.b) (gi s.regs x.c % 4))
  else if x.op = 6 then s.regs.set x.a.toNat (opr x.b (gi s.regs x.c) (gi s.regs x.d))
  else if x.op = 7 then s.regs.set x.a.toNat (if gi s.regs x.b ≠ 0 then gi s.regs x.c else gi s.regs x.d)
  else if x.op = 10 then s.regs.set x.a.toNat ((gi s.regs x.a + 255) % 256)
  else s.regs
def stMem (x : Ins) (s : Ms) : Mm :=
  if x.op = 3 then ⟨s.mem.vals.set x.a.toNat (gi s.regs x.b), s.mem.arrs⟩
  else if x.op = 5 then ⟨s.mem.vals, s.mem.arrs.set x.a.toNat ((gr s.mem.arrs x.a).set (gi s.regs x.b % 4).toNat (gi s.regs x.c))⟩
  else s.mem
def stPc (x : Ins) (s : Ms) : Int :=
  if x.op = 8 then x.a
  else if x.op = 9 then (if gi s.regs x.a = 0 then x.b else s.pc + 1)
  else if x.op = 10 then (if (gi s.regs x.a + 255) % 256 ≠ 0 then x.b else s.pc + 1)
  else if x.op = 13 then s.pc
  else s.pc + 1
def stEvs (x : Ins) (s : Ms) : List Ev :=
  (5, s.pc) :: (if x.op = 4 then [(2, adr x.b (gi s.regs x.c))] else if x.op = 5 then [(3, adr x.a (gi s.regs x.b))] else if x.op = 11 then [(4, gi s.regs x.a)] else [])
def stp (x : Ins) (s : Ms) : Ms := ⟨stPc x s, stRegs x s, stMem x s⟩
def insAt (c : Cd) (pc : Int) : Ins := (c.list[pc.toNat]?).getD ⟨13, 0, 0, 0, 0⟩

/-- a state that code may be in -/
structure MsOk (c : Cd) (s : Ms) : Prop where
  pc0 : 0 ≤ s.pc
  pc1 : s.pc < c.list.length
  regs : s.regs.length = 14
  rv : ∀ n ∈ s.regs, 0 ≤ n ∧ n < 256
  mem : memOk c.vars.length c.arrays.length s.mem = true
end Go.Proofs.Ytbglogjamfdmpaa
