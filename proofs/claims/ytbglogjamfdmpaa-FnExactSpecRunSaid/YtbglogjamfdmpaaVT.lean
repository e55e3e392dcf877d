/-
  Parts of the proof of the law FnExactSpecRun.
-/
import Derived.Test.YtbglogjamfdmpaaVB
namespace Go.Proofs.Ytbglogjamfdmpaa
open Go.RowKit

/-- the letters of an operation's fields, as the reference has them -/
def knd (op : Int) : List UInt8 :=
  if op = 1 then [114, 99] else if op = 2 then [114, 118] else if op = 3 then [118, 114] else if op = 4 then [114, 97, 114] else if op = 5 then [97, 114, 114]
  else if op = 6 then [114, 111, 114, 114] else if op = 7 then [114, 114, 114, 114] else if op = 8 then [116] else if op = 9 then [114, 116] else if op = 10 then [114, 116]
  else if op = 11 then [114] else []
def rOk (nv na nl : Nat) (k n : Int) : Bool :=
  if k = 114 then wi n 0 13 else if k = 99 then wi n 0 255 else if k = 118 then wi n 0 ((nv : Int) - 1) else if k = 97 then wi n 0 ((na : Int) - 1) else if k = 111 then wi n 4 10 else wi n 0 ((nl : Int) - 1)
/-- what the reference asks of field j -/
def jOk (nv na nl : Nat) (x : Ins) (j : Nat) : Bool := match (knd x.op)[j]?, (flds x)[j]? with
  | some k, some n => rOk nv na nl k.toNat n
  | none, some n => n == 0
  | _, none => true
theorem insOk_knd {nv na nl : Nat} {x : Ins} (hop : ¬ (x.op < 1 ∨ 13 < x.op)) : insOk nv na nl x = (jOk nv na nl x 0 && (jOk nv na nl x 1 && (jOk nv na nl x 2 && jOk nv na nl x 3))) := by
  obtain ⟨op, a, b, c, d⟩ := x
  rcases shp_cases op with h' | rfl | rfl | rfl | rfl | rfl | rfl | rfl | rfl | rfl | rfl | rfl | rfl | rfl
  · exact absurd h' hop
  all_goals simp [insOk, jOk, shp, knd, flds, fOk, rOk, show wi 1 1 13 = true from rfl, show wi 2 1 13 = true from rfl, show wi 3 1 13 = true from rfl, show wi 4 1 13 = true from rfl, show wi 5 1 13 = true from rfl, show wi 6 1 13 = true from rfl, show wi 7 1 13 = true from rfl, show wi 8 1 13 = true from rfl, show wi 9 1 13 = true from rfl, show wi 10 1 13 = true from rfl, show wi 11 1 13 = true from rfl, show wi 12 1 13 = true from rfl, show wi 13 1 13 = true from rfl]
theorem insOk_kyes {nv na nl : Nat} {x : Ins} (hop : ¬ (x.op < 1 ∨ 13 < x.op)) (h : ∀ j, j < 4 → jOk nv na nl x j = true) : insOk nv na nl x = true := by
  rw [insOk_knd hop, h 0 (by omega), h 1 (by omega), h 2 (by omega), h 3 (by omega)]; rfl
theorem insOk_kno {nv na nl : Nat} {x : Ins} (hop : ¬ (x.op < 1 ∨ 13 < x.op)) {j : Nat} (hj : j < 4) (h : jOk nv na nl x j = false) : insOk nv na nl x = false := by
  rw [insOk_knd hop]
  match j, hj with
  | 0, _ => rw [h]; rfl
  | 1, _ => rw [h]; simp
  | 2, _ => rw [h]; simp
  | 3, _ => rw [h]; simp
theorem knd_len {op : Int} (h : ¬ (op < 1 ∨ 13 < op)) : (knd op).length ≤ 4 := by
  rcases shp_cases op with h' | rfl | rfl | rfl | rfl | rfl | rfl | rfl | rfl | rfl | rfl | rfl | rfl | rfl
  · exact absurd h' h
  all_goals decide

set_option maxHeartbeats 3200000 in
theorem l6Fields_any (op : Int) (w : World) (hop : ¬ (op < 1 ∨ 13 < op)) :
    Calls Try.prog 166 #[.int .i64 op] w fun e w' => e = .returned (.string ⟨(knd op).toArray⟩) ∧ Below w.heap.size w w' := by
  rcases shp_cases op with h | rfl | rfl | rfl | rfl | rfl | rfl | rfl | rfl | rfl | rfl | rfl | rfl | rfl
  · exact absurd h hop
  all_goals
    clear hop
    go_enter Try.func166, Try.ntmps166
    go_wp2
    go_ret
    exact ⟨rfl, bal (bself w) _⟩

theorem l6Parts_any (x : Ins) (w : World) :
    Calls Try.prog 167 #[.agg #[.int .i64 x.op, .int .i64 x.a, .int .i64 x.b, .int .i64 x.c, .int .i64 x.d]] w fun e w' => ∃ g, e = .returned (.slice (some ⟨g, 0, none⟩) 4 4) ∧ w'.ownsRow w.heap.size 3 1 (.slice (some ⟨g, 0, none⟩) 4 4) 4 (ints (flds x)) ∧ Below w.heap.size w w' := by
  have ho := own_lit (w.alloc (.cells #[.int .i64 x.op, .int .i64 x.a, .int .i64 x.b, .int .i64 x.c, .int .i64 x.d] 92)) #[.int .i64 x.a, .int .i64 x.b, .int .i64 x.c, .int .i64 x.d] 4 3 rfl (by omega)
  simp only [World.size_alloc] at ho
  go_enter Try.func167, Try.ntmps167
  go_wp2
  go_ret
  exact ⟨_, rfl, own_mono ho (by omega), bal (bal (bself w) _) _⟩

theorem wi_cases (n lo hi : Int) : (n < lo ∧ wi n lo hi = false) ∨ (lo ≤ n ∧ n ≤ hi ∧ wi n lo hi = true) ∨ (lo ≤ n ∧ hi < n ∧ wi n lo hi = false) := by
  unfold wi
  by_cases h1 : n < lo
  · exact Or.inl ⟨h1, decide_eq_false (by omega)⟩
  · by_cases h2 : n ≤ hi
    · exact Or.inr (Or.inl ⟨by omega, h2, decide_eq_true ⟨by omega, h2⟩⟩)
    · exact Or.inr (Or.inr ⟨by omega, by omega, decide_eq_false (by omega)⟩)

set_option maxHeartbeats 6400000 in
theorem l6Range_any (a0 a1 a2 : Option Addr) (nv na nl c0 c1 c2 : Nat) (k n : Int) (w : World) :
    Calls Try.prog 168 #[.agg #[.slice a0 nv c0, .slice a1 na c1, .slice a2 nl c2], .int .u8 k, .int .i64 n] w fun e w' => e = .returned (.bool (rOk nv na nl k n)) ∧ Below w.heap.size w w' := by
  have hk : k = 114 ∨ (¬ k = 114 ∧ (k = 99 ∨ (¬ k = 99 ∧ (k = 118 ∨ (¬ k = 118 ∧ (k = 97 ∨ (¬ k = 97 ∧ (k = 111 ∨ ¬ k = 111)))))))) := by omega
  have hbx := bal (bself w) (.cells #[.slice a0 nv c0, .slice a1 na c1, .slice a2 nl c2] 35)
  rcases hk with rfl | ⟨g1, rfl | ⟨g2, rfl | ⟨g3, rfl | ⟨g4, rfl | g5⟩⟩⟩⟩
  · have hr : rOk nv na nl 114 n = wi n 0 13 := rfl
    rw [hr]
    rcases wi_cases n 0 13 with ⟨q1, hw⟩ | ⟨q1, q2, hw⟩ | ⟨q1, q2, hw⟩
    · rw [hw]; clear hw hr
      go_enter Try.func168, Try.ntmps168
      go_wp2
      go_ret
      exact ⟨rfl, hbx⟩
    · rw [hw]; clear hw hr
      have q3 : n < 14 := by omega
      go_enter Try.func168, Try.ntmps168
      go_wp2
      go_ret
      exact ⟨rfl, hbx⟩
    · rw [hw]; clear hw hr
      have q3 : decide (n < 14) = false := decide_eq_false (by omega)
      clear q2
      go_enter Try.func168, Try.ntmps168
      go_wp2
      go_ret
      exact ⟨rfl, hbx⟩
  · have hr : rOk nv na nl 99 n = wi n 0 255 := rfl
    rw [hr]
    rcases wi_cases n 0 255 with ⟨q1, hw⟩ | ⟨q1, q2, hw⟩ | ⟨q1, q2, hw⟩
    · rw [hw]; clear hw hr
      go_enter Try.func168, Try.ntmps168
      go_wp2
      go_ret
      exact ⟨rfl, hbx⟩
    · rw [hw]; clear hw hr
      go_enter Try.func168, Try.ntmps168
      go_wp2
      go_ret
      exact ⟨rfl, hbx⟩
    · rw [hw]; clear hw hr
      have q3 : decide (n ≤ 255) = false := decide_eq_false (by omega)
      clear q2
      go_enter Try.func168, Try.ntmps168
      go_wp2
      go_ret
      exact ⟨rfl, hbx⟩
  · have hr : rOk nv na nl 118 n = wi n 0 ((nv : Int) - 1) := rfl
    rw [hr]
    rcases wi_cases n 0 ((nv : Int) - 1) with ⟨q1, hw⟩ | ⟨q1, q2, hw⟩ | ⟨q1, q2, hw⟩
    · rw [hw]; clear hw hr
      go_enter Try.func168, Try.ntmps168
      go_wp2
      go_ret
      exact ⟨rfl, hbx⟩
    · rw [hw]; clear hw hr
      have q3 : n < (nv : Int) := by omega
      go_enter Try.func168, Try.ntmps168
      go_wp2
      go_ret
      exact ⟨rfl, hbx⟩
    · rw [hw]; clear hw hr
      have q3 : decide (n < (nv : Int)) = false := decide_eq_false (by omega)
      clear q2
      go_enter Try.func168, Try.ntmps168
      go_wp2
      go_ret
      exact ⟨rfl, hbx⟩
  · have hr : rOk nv na nl 97 n = wi n 0 ((na : Int) - 1) := rfl
    rw [hr]
    rcases wi_cases n 0 ((na : Int) - 1) with ⟨q1, hw⟩ | ⟨q1, q2, hw⟩ | ⟨q1, q2, hw⟩
    · rw [hw]; clear hw hr
      go_enter Try.func168, Try.ntmps168
      go_wp2
      go_ret
      exact ⟨rfl, hbx⟩
    · rw [hw]; clear hw hr
      have q3 : n < (na : Int) := by omega
      go_enter Try.func168, Try.ntmps168
      go_wp2
      go_ret
      exact ⟨rfl, hbx⟩
    · rw [hw]; clear hw hr
      have q3 : decide (n < (na : Int)) = false := decide_eq_false (by omega)
      clear q2
      go_enter Try.func168, Try.ntmps168
      go_wp2
      go_ret
      exact ⟨rfl, hbx⟩
  · have hr : rOk nv na nl 111 n = wi n 4 10 := rfl
    rw [hr]
    rcases wi_cases n 4 10 with ⟨q1, hw⟩ | ⟨q1, q2, hw⟩ | ⟨q1, q2, hw⟩
    · rw [hw]; clear hw hr
      go_enter Try.func168, Try.ntmps168
      go_wp2
      go_ret
      exact ⟨rfl, hbx⟩
    · rw [hw]; clear hw hr
      go_enter Try.func168, Try.ntmps168
      go_wp2
      go_ret
      exact ⟨rfl, hbx⟩
    · rw [hw]; clear hw hr
      have q3 : decide (n ≤ 10) = false := decide_eq_false (by omega)
      clear q2
      go_enter Try.func168, Try.ntmps168
      go_wp2
      go_ret
      exact ⟨rfl, hbx⟩
  · have hr : rOk nv na nl k n = wi n 0 ((nl : Int) - 1) := by unfold rOk; rw [if_neg g1, if_neg g2, if_neg g3, if_neg g4, if_neg g5]
    rw [hr]
    have e1 : (k == 114) = false := by simp [g1]
    have e2 : (k == 99) = false := by simp [g2]
    have e3 : (k == 118) = false := by simp [g3]
    have e4 : (k == 97) = false := by simp [g4]
    have e5 : (k == 111) = false := by simp [g5]
    clear g1 g2 g3 g4 g5
    rcases wi_cases n 0 ((nl : Int) - 1) with ⟨q1, hw⟩ | ⟨q1, q2, hw⟩ | ⟨q1, q2, hw⟩
    · rw [hw]; clear hw hr
      go_enter Try.func168, Try.ntmps168
      go_wp2
      go_ret
      exact ⟨rfl, hbx⟩
    · rw [hw]; clear hw hr
      have q3 : n < (nl : Int) := by omega
      go_enter Try.func168, Try.ntmps168
      go_wp2
      go_ret
      exact ⟨rfl, hbx⟩
    · rw [hw]; clear hw hr
      have q3 : decide (n < (nl : Int)) = false := decide_eq_false (by omega)
      clear q2
      go_enter Try.func168, Try.ntmps168
      go_wp2
      go_ret
      exact ⟨rfl, hbx⟩
end Go.Proofs.Ytbglogjamfdmpaa
