/-
  Parts of the proof of the law FnExactSpecRun.
-/
import Derived.Test.YtbglogjamfdmpaaCN
import Derived.Test.YtbglogjamfdmpaaQ
import Derived.Test.YtbglogjamfdmpaaRS
namespace Go.Proofs.Ytbglogjamfdmpaa
open Go.RowKit

theorem toBoolS_any (v : Value) (xs : List Bool) (w : World) (hr : Reads w 1 v xs.length (bools xs)) (hsz : xs.length ≤ 1073741824) :
    Calls Try.prog 32 #[v] w fun e w' => ∃ u, e = .returned u ∧ w'.ownsRow w.heap.size 4 1 u xs.length (bools xs) ∧ Below w.heap.size w w' := by
  obtain ⟨_, hn, a, cap, b, off, rfl, hcap, ha, hca⟩ := hr
  have hmk := mk_boolF xs.length hsz
  have hown := own_made w (.bool false) xs.length 4 (by unfold maxLen; omega)
  go_enter Try.func32, Try.ntmps32
  go_wp2
  go_loopw [4] (fun i wr => ∃ k : Nat, k ≤ xs.length ∧ i = .int .i64 k ∧ wr.ownsRow w.heap.size 4 1 (.slice (some ⟨w.heap.size, 0, none⟩) xs.length xs.length) xs.length ((bools xs).take k ++ List.replicate ((bools xs).length - k) (.bool false)) ∧ Below w.heap.size w wr) (fun i _ => xs.length - (intOf i).toNat)
  case atStart => exact ⟨0, Nat.zero_le _, rfl, by rw [bools_length]; exact hown, (Below.refl _ _).alloc (Nat.le_refl _) _⟩
  case round =>
    obtain ⟨k, hk, rfl, ho, hbel⟩ := hrel
    clear hown
    by_cases hlt : k < xs.length
    · obtain ⟨rfl, hbs⟩ := ha (by omega)
      have hc1 := hca k (by simpa [bools] using hlt)
      rw [bools_get] at hc1
      have hc1' := (hbel.cell (p := ⟨b, off + k, none⟩) hbs).trans hc1
      have hc2 : wr.cell? ⟨w.heap.size, k, none⟩ = some (.bool false) := by rw [ho.cellAt k (by omega)]; exact fill_at _ _ _ (by simpa [bools] using hlt)
      have hf := ho.frozenAt k
      have hst := (ho.stored k (.bool xs[k])).1
      have hsf := set_fill (bools xs) (.bool false) k (by simpa [bools] using hlt)
      rw [bools_get] at hsf
      rw [hsf] at hst
      have hb2 := hbel.setCell (p := ⟨w.heap.size, k, none⟩) (Nat.le_refl _) (.bool xs[k])
      clear hca ha hc1 hsf
      go_wp2
      go_roundw
      case rel => exact ⟨k + 1, by omega, by go_num, hst, hb2⟩
      case measure => simp [intOf]; omega
    · go_wp2
      go_ret
      have e : k = xs.length := by omega
      subst e
      exact ⟨_, rfl, by rw [fill_full _ _ _ (by simp [bools])] at ho; exact ho, hbel⟩
end Go.Proofs.Ytbglogjamfdmpaa
namespace Go.Proofs.Ytbglogjamfdmpaa
open Go.RowKit

/-- a number is in a range -/
def wi (n lo hi : Int) : Bool := decide (lo ≤ n ∧ n ≤ hi)
def labOk (n : Int) : Bool := wi n 0 3
def labsOk (xs : List Int) : Bool := xs.all labOk
def declOk (xs ys : List Int) : Bool := decide (1 ≤ xs.length ∧ xs.length ≤ 12) && (decide (ys.length ≤ 2) && (labsOk xs && labsOk ys))
/-- the letters of an operation's fields -/
def shp (op : Int) : List UInt8 :=
  if op = 1 then [114, 110, 45, 45] else if op = 2 then [114, 118, 45, 45] else if op = 3 then [118, 114, 45, 45] else if op = 4 then [114, 97, 114, 45] else if op = 5 then [97, 114, 114, 45]
  else if op = 6 then [114, 111, 114, 114] else if op = 7 then [114, 114, 114, 114] else if op = 8 then [105, 45, 45, 45] else if op = 9 then [114, 105, 45, 45] else if op = 10 then [114, 105, 45, 45]
  else if op = 11 then [114, 45, 45, 45] else if op = 12 then [45, 45, 45, 45] else if op = 13 then [45, 45, 45, 45] else []
theorem shp_cases (op : Int) : (op < 1 ∨ 13 < op) ∨ op = 1 ∨ op = 2 ∨ op = 3 ∨ op = 4 ∨ op = 5 ∨ op = 6 ∨ op = 7 ∨ op = 8 ∨ op = 9 ∨ op = 10 ∨ op = 11 ∨ op = 12 ∨ op = 13 := by omega
theorem shp_none {op : Int} (h : op < 1 ∨ 13 < op) : shp op = [] := by unfold shp; repeat rw [if_neg (by omega)]
theorem shp_len {op : Int} (h : ¬ (op < 1 ∨ 13 < op)) : (shp op).length = 4 := by
  rcases shp_cases op with h' | rfl | rfl | rfl | rfl | rfl | rfl | rfl | rfl | rfl | rfl | rfl | rfl | rfl
  · exact absurd h' h
  all_goals rfl
/-- a field is as its letter says -/
def fOk (nv na nl : Nat) (k n : Int) : Bool :=
  if k = 114 then wi n 0 (13) else if k = 118 then wi n 0 ((nv : Int) - 1) else if k = 97 then wi n 0 ((na : Int) - 1) else if k = 110 then wi n 0 (255)
  else if k = 111 then wi n 4 (10) else if k = 105 then wi n 0 ((nl : Int) - 1) else n == 0
def flds (x : Ins) : List Int := [x.a, x.b, x.c, x.d]
def insOk (nv na nl : Nat) (x : Ins) : Bool := wi x.op 1 13 && ((shp x.op).zip (flds x)).all (fun p => fOk nv na nl p.1.toNat p.2)
def lastOk (l : List Ins) : Bool := match l.getLast? with | some x => x.op == 13 || x.op == 8 | none => false
def codeOk (c : Cd) : Bool := declOk c.vars c.arrays && (decide (1 ≤ c.list.length ∧ c.list.length ≤ 400) && (c.list.all (insOk c.vars.length c.arrays.length c.list.length) && lastOk c.list))

theorem within_any (n lo hi : Int) (w : World) :
    Calls Try.prog 113 #[.int .i64 n, .int .i64 lo, .int .i64 hi] w fun e w' => e = .returned (.bool (wi n lo hi)) ∧ Below w.heap.size w w' := by
  by_cases h1 : lo ≤ n
  · by_cases h2 : n ≤ hi
    · have HD : Hid (wi n lo hi = true) := Lib.hid (decide_eq_true (p := lo ≤ n ∧ n ≤ hi) ⟨h1, h2⟩)
      go_enter Try.func113, Try.ntmps113
      go_wp2
      go_ret
      exact ⟨ret_bool HD.out.symm, Below.refl _ _⟩
    · have HD : Hid (wi n lo hi = false) := Lib.hid (decide_eq_false (p := lo ≤ n ∧ n ≤ hi) (by omega))
      have h3 : decide (n ≤ hi) = false := decide_eq_false h2
      clear h2
      go_enter Try.func113, Try.ntmps113
      go_wp2
      go_ret
      exact ⟨ret_bool HD.out.symm, Below.refl _ _⟩
  · have HD : Hid (wi n lo hi = false) := Lib.hid (decide_eq_false (p := lo ≤ n ∧ n ≤ hi) (by omega))
    go_enter Try.func113, Try.ntmps113
    go_wp2
    go_ret
    exact ⟨ret_bool HD.out.symm, Below.refl _ _⟩

theorem iLabelValid_any (n : Int) (w : World) :
    Calls Try.prog 195 #[.int .i64 n] w fun e w' => e = .returned (.bool (labOk n)) ∧ Below w.heap.size w w' := by
  go_enter Try.func195, Try.ntmps195
  go_wp2_with fail
  refine (within_any n 0 3 _).mono ?_
  rintro e w1 ⟨rfl, hb⟩
  go_wp2
  go_ret
  exact ⟨rfl, hb⟩
theorem notLabel_any (n : Int) (w : World) :
    Calls Try.prog 194 #[.int .i64 n] w fun e w' => e = .returned (.bool (!labOk n)) ∧ Below w.heap.size w w' := by
  go_enter Try.func194, Try.ntmps194
  go_wp2_with fail
  refine (iLabelValid_any n _).mono ?_
  rintro e w1 ⟨rfl, hb⟩
  go_wp2
  go_ret
  exact ⟨rfl, hb⟩

set_option maxHeartbeats 3200000 in
theorem shape_any (op : Int) (w : World) :
    Calls Try.prog 184 #[.int .i64 op] w fun e w' => e = .returned (.string ⟨(shp op).toArray⟩) ∧ Below w.heap.size w w' := by
  rcases shp_cases op with h | rfl | rfl | rfl | rfl | rfl | rfl | rfl | rfl | rfl | rfl | rfl | rfl | rfl
  · rw [shp_none h]
    have HD : wi op 1 13 = false := decide_eq_false (p := 1 ≤ op ∧ op ≤ 13) (by omega)
    go_enter Try.func184, Try.ntmps184
    go_wp2_with fail
    refine (within_any op 1 13 _).mono ?_
    rintro e w1 ⟨rfl, hb⟩
    rw [HD]
    clear HD h
    go_wp2
    go_ret
    exact ⟨rfl, hb⟩
  all_goals
    go_enter Try.func184, Try.ntmps184
    go_wp2_with fail
    refine (within_any _ 1 13 _).mono ?_
    rintro e w1 ⟨rfl, hb⟩
    rw [show wi _ 1 13 = true from rfl]
    go_wp2
    go_ret
    exact ⟨rfl, bal hb _⟩
end Go.Proofs.Ytbglogjamfdmpaa
