/-
 Parts of the proofs of the laws FnCheckLive, FnCodeFenced, FnEraseCode, FnEraseSecret, FnFinalRegs, FnLiveRegister, FnLiveRegs, FnSpecPath.
-/
import Derived.Test.YtkjedgnepnbkpaaRW
set_option linter.all false
namespace Go.Proofs.Ytkjedgnepnbkpaa
open Go.RowKit
theorem equalE_any_eq (d : Nat) (x0 x1 y0 y1 : Int) (W : World) : (Op.equalIn (d + 2) 47 (.agg #[.int .i64 x0, .int .i64 x1]) (.agg #[.int .i64 y0, .int .i64 y1])).run Try.prog W = .ok (x0 == y0 && x1 == y1) W := by
 have a0 : ∀ (d : Nat) (a b : Int) (W : World), (Op.equalIn (d + 1) 3 (.int .i64 a) (.int .i64 b)).run Try.prog W = .ok (a == b) W := fun d a b W => by simp [Op.equalIn, run_underlying Try.underlying3]
 rw [Op.equalIn]
 simp only [Sem.run_bind, run_underlying Try.underlying47, Result.andThen_ok]
 simp [a0, part]
 by_cases h0 : x0 = y0 <;> by_cases h1 : x1 = y1 <;> simp [h0, h1]
theorem equalE_any_ne (x0 x1 y0 y1 : Int) (W : World) : (binOp .neq 47 (.agg #[.int .i64 x0, .int .i64 x1]) (.agg #[.int .i64 y0, .int .i64 y1])).run Try.prog W = .ok (.bool (!(x0 == y0 && x1 == y1))) W := by
 have h : (Op.equal 47 (.agg #[.int .i64 x0, .int .i64 x1]) (.agg #[.int .i64 y0, .int .i64 y1])).run Try.prog W = .ok (x0 == y0 && x1 == y1) W := equalE_any_eq 9998 x0 x1 y0 y1 W
 simp only [binOp, Sem.run_bind, h, Result.andThen_ok]
 rfl
set_option maxHeartbeats 3200000 in
theorem equalE_any (va vb : Value) (xs ys : List Ev) (w : World) (ha : Reads w 2 va xs.length (evs xs)) (hb : Reads w 2 vb ys.length (evs ys)) :
  Calls Try.prog 66 #[va, vb] w fun e w' => e = .returned (.bool (decide (xs = ys))) ∧ Below w.heap.size w w' := by
 simp only [evs_rows] at ha hb
 obtain ⟨_, hn, a, l0, b, n0, rfl, j0, ha, f0⟩ := ha
 obtain ⟨_, hn', a', cap', b', off', rfl, hcap', ha', g0⟩ := hb
 have HC := Lib.hid (reads_Event f0)
 have HD := Lib.hid (reads_Event g0)
 clear f0 g0
 by_cases hl : xs.length = ys.length
 ·have e0 : ((xs.length : Int) != (ys.length : Int)) = false := by simp [hl]
  have HL := Lib.hid hl; clear hl
  go_enter Try.func66, Try.ntmps66
  go_wp2
  go_loopw [13] (fun i wr => ∃ k : Nat, k ≤ xs.length ∧ i = .int .i64 k ∧ xs.take k = ys.take k ∧ ∃ d, wr = w.drewN d) (fun i _ => xs.length - (intOf i).toNat)
  case atStart => exact ⟨0, Nat.zero_le _, rfl, rfl, 0, rfl⟩
  case round =>
   obtain ⟨k, hk, rfl, he, d, rfl⟩ := hrel
   have HE := Lib.hid he; clear he
   by_cases hlt : k < xs.length
   ·obtain ⟨rfl, m0⟩ := ha (by omega)
    obtain ⟨rfl, hbs'⟩ := ha' (by have := HL.out; omega)
    have hlt' : k < ys.length := by have := HL.out; omega
    obtain ⟨c0, c1⟩ := HC.out k hlt
    obtain ⟨d0, d1⟩ := HD.out k hlt'
    have b0 := Lib.hid (fun h => take_succ_eq hlt hlt' HE.out h)
    have i0 := Lib.hid (fun (h : xs = ys) => show xs[k] = ys[k] by subst h; rfl)
    generalize xs[k] = x at *
    generalize ys[k] = y at *
    clear HC HD ha ha'
    have a0 : ∀ W, (binOp .neq 47 (.agg #[.int .i64 x.1, .int .i64 x.2]) (.agg #[.int .i64 y.1, .int .i64 y.2])).run Try.prog W = .ok (.bool (!(x.1 == y.1 && x.2 == y.2))) W := fun W => equalE_any_ne x.1 x.2 y.1 y.2 W
    by_cases hxy : x = y
    ·have h0 := Lib.hid (b0.out hxy); clear b0
     subst hxy
     clear a0
     go_wp2
     go_quiet (fail)
     go_wp2
     go_roundw
     case rel => exact ⟨k + 1, by omega, by go_num, h0.out, _, rfl⟩
     case measure => simp [intOf]; omega
    have hq : (x.1 == y.1 && x.2 == y.2) = false := by
     cases hz : (x.1 == y.1 && x.2 == y.2) with
     | false => rfl
     | true =>
      simp only [Bool.and_eq_true, beq_iff_eq] at hz
      exact absurd (by obtain ⟨x0, x1⟩ := x; obtain ⟨y0, y1⟩ := y; simp only at hz; simp [hz]) hxy
    have HX := Lib.hid hxy; clear hxy
    have k0 : ∀ W, (binOp .neq 47 (.agg #[.int .i64 x.1, .int .i64 x.2]) (.agg #[.int .i64 y.1, .int .i64 y.2])).run Try.prog W = .ok (.bool true) W := fun W => by rw [a0 W, hq]; rfl
    clear a0 hq
    go_wp2
    go_quiet (fail)
    go_wp2
    go_ret
    exact ⟨ret_bool (decide_eq_false (fun h => HX.out (i0.out h))).symm, by rw [World.drewN_drewN]; exact below_drewN' w _⟩
   go_wp2
   go_ret
   exact ⟨ret_bool (decide_eq_true (by have h := HE.out; rwa [List.take_of_length_le (by omega), List.take_of_length_le (by have := HL.out; omega)] at h)).symm, below_drewN' w _⟩
 have e0 : ((xs.length : Int) != (ys.length : Int)) = true := by simp; omega
 have HL := Lib.hid hl; clear hl
 go_enter Try.func66, Try.ntmps66
 go_wp2
 go_ret
 exact ⟨ret_bool (decide_eq_false (fun h => HL.out (by rw [h]))).symm, Bs w⟩
end Go.Proofs.Ytkjedgnepnbkpaa
namespace Go.Proofs.Ytkjedgnepnbkpaa
open Go.RowKit
theorem TraceSame_any (va vb : Value) (xs ys : List Ev) (w : World) (ha : Reads w 2 va xs.length (evs xs)) (hb : Reads w 2 vb ys.length (evs ys)) :
  Calls Try.prog 20 #[va, vb] w fun e w' => e = .returned (.bool (decide (xs = ys))) ∧ Below w.heap.size w w' := by
 have HQ := Lib.hid (equalE_any va vb xs ys w ha hb)
 obtain ⟨a, c, rfl⟩ := reads_shape ha
 obtain ⟨a', c', rfl⟩ := reads_shape hb
 clear ha hb
 go_enter Try.func20, Try.ntmps20
 go_wp2_with fail
 refine HQ.out.mono ?_
 rintro e w1 ⟨rfl, a0⟩
 go_wp2
 go_ret
 exact ⟨rfl, a0⟩
end Go.Proofs.Ytkjedgnepnbkpaa
