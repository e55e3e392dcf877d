/-
 Parts of the proofs of the laws FnCheckLive, FnCodeFenced, FnEraseCode, FnEraseSecret, FnFinalRegs, FnLiveRegister, FnLiveRegs, FnSpecPath.
-/
import Derived.Test.YtkjedgnepnbkpaaLE2
set_option linter.all false
namespace Go.Proofs.Ytkjedgnepnbkpaa
open Go.RowKit
theorem swpTo_offs {c : Cd} : ∀ (k : Nat) {L : List (List Bool)}, InvL c L → k ≤ L.length → offs (swpTo c k L) ≤ offs L ∧ (((∀ j (h : j < L.length), j < k → befAt c L j = L[j]) ∧ swpTo c k L = L) ∨ offs (swpTo c k L) < offs L) := by
 intro k
 induction k with
 | zero => intro L _ _; exact ⟨Nat.le_refl _, Or.inl ⟨fun j _ h => by omega, rfl⟩⟩
 | succ k ih =>
  intro L hi hk
  have a0 : k < L.length := by omega
  have hu := up_offs hi k a0
  have hs := ih (up_inv hi k a0) (by rw [List.length_set]; omega)
  rw [swpTo_step]
  by_cases e : befAt c L k = L[k]
  ·rw [set_self a0 e] at hs ⊢
   refine ⟨hs.1, ?_⟩
   rcases hs.2 with ⟨h1, h2⟩ | h1
   ·refine Or.inl ⟨fun j hj hjk => ?_, h2⟩
    by_cases e2 : j = k
    ·subst e2; exact e
    exact h1 j hj (by omega)
   exact Or.inr h1
  have := hu.2 e
  exact ⟨by omega, Or.inr (by omega)⟩
theorem live_swp (c : Cd) : swp c (liveOf c) = liveOf c := by
 have a0 : ∀ n, (∃ m, m < n ∧ swp c (swps c m) = swps c m) ∨ offs (swps c n) + n ≤ 14 * c.list.length := by
  intro n
  induction n with
  | zero => exact Or.inr (by simp only [swps]; rw [zero_offs]; omega)
  | succ n ih =>
   rcases ih with ⟨m, h1, h2⟩ | h
   ·exact Or.inl ⟨m, by omega, h2⟩
   have hi := swps_inv c n
   have := swpTo_offs c.list.length hi (by rw [hi.len]; exact Nat.le_refl _)
   rcases this.2 with ⟨_, h2⟩ | h2
   ·exact Or.inl ⟨n, by omega, h2⟩
   refine Or.inr ?_
   have : offs (swps c (n + 1)) < offs (swps c n) := h2
   omega
 rcases a0 (14 * c.list.length + 1) with ⟨m, h1, h2⟩ | h
 ·rw [← liveOf_of h2 (by omega)]; exact h2
 omega
theorem live_fix (c : Cd) : ∀ j (h : j < (liveOf c).length), befAt c (liveOf c) j = (liveOf c)[j] := by
 have hi := live_inv c
 have := swpTo_offs c.list.length hi (by rw [hi.len]; exact Nat.le_refl _)
 have hs : swpTo c c.list.length (liveOf c) = liveOf c := live_swp c
 rw [hs] at this
 rcases this.2 with ⟨h1, _⟩ | h1
 ·intro j hj; exact h1 j hj (by rw [← hi.len]; exact hj)
 omega
end Go.Proofs.Ytkjedgnepnbkpaa
namespace Go.Proofs.Ytkjedgnepnbkpaa
open Go.RowKit
theorem ctBools_any (va vb : Value) (xs ys : List Bool) (w : World) (ha : Reads w 1 va xs.length (bools xs)) (hb : Reads w 1 vb ys.length (bools ys)) :
  Calls Try.prog 79 #[va, vb] w fun e w' => e = .returned (.bool (decide (xs = ys))) ∧ ∃ k, w' = w.drewN k := by
 obtain ⟨_, hn, a, g0, b, i0, rfl, f0, ha, a0⟩ := ha
 obtain ⟨_, hn', a', cap', b', off', rfl, hcap', ha', b0⟩ := hb
 by_cases hl : xs.length = ys.length
 ·have e0 : ((xs.length : Int) != (ys.length : Int)) = false := by simp [hl]
  have HL := Lib.hid hl; clear hl
  go_enter Try.func79, Try.ntmps79
  go_wp2
  go_loopw [5] (fun i wr => ∃ k : Nat, k ≤ xs.length ∧ i = .int .i64 k ∧ xs.take k = ys.take k ∧ ∃ d, wr = w.drewN d) (fun i _ => xs.length - (intOf i).toNat)
  case atStart => exact ⟨0, Nat.zero_le _, rfl, rfl, 0, rfl⟩
  case round =>
   obtain ⟨k, hk, rfl, he, d, rfl⟩ := hrel
   have HE := Lib.hid he; clear he
   by_cases hlt : k < xs.length
   ·obtain ⟨rfl, h0⟩ := ha (by omega)
    obtain ⟨rfl, hbs'⟩ := ha' (by have := HL.out; omega)
    have hlt' : k < ys.length := by have := HL.out; omega
    have c0 := a0 k (by simpa [bools] using hlt)
    have d0 := b0 k (by simpa [bools] using hlt')
    rw [bools_get] at c0 d0
    clear a0 b0 ha ha'
    by_cases hxy : xs[k] = ys[k]
    ·have e1 : (!(xs[k] == ys[k])) = false := by simp [hxy]
     clear hxy
     go_wp2
     go_quiet (fail)
     go_wp2
     go_roundw
     case rel => exact ⟨k + 1, by omega, by go_num, take_succ_eq hlt hlt' HE.out (by simpa using e1), _, rfl⟩
     case measure => simp [intOf]; omega
    have e1 : (!(xs[k] == ys[k])) = true := by simp [hxy]
    have HX := Lib.hid hxy; clear hxy
    go_wp2
    go_quiet (fail)
    go_wp2
    go_ret
    exact ⟨ret_bool (decide_eq_false (fun h => HX.out (by subst h; rfl))).symm, _, World.drewN_drewN ..⟩
   go_wp2
   go_ret
   exact ⟨ret_bool (decide_eq_true (by have h := HE.out; rwa [List.take_of_length_le (by omega), List.take_of_length_le (by have := HL.out; omega)] at h)).symm, _, rfl⟩
 have e0 : ((xs.length : Int) != (ys.length : Int)) = true := by simp; omega
 have HL := Lib.hid hl; clear hl
 go_enter Try.func79, Try.ntmps79
 go_wp2
 go_ret
 exact ⟨ret_bool (decide_eq_false (fun h => HL.out (by rw [h]))).symm, 0, rfl⟩
end Go.Proofs.Ytkjedgnepnbkpaa
namespace Go.Proofs.Ytkjedgnepnbkpaa
open Go.RowKit
set_option maxHeartbeats 3200000 in
theorem ctRows_any (va vb : Value) (xs ys : List (List Bool)) (w : World) (hx : Reads2 bools w va xs) (hy : Reads2 bools w vb ys) :
  Calls Try.prog 31 #[va, vb] w fun e w' => e = .returned (.bool (decide (xs = ys))) ∧ Below w.heap.size w w' := by
 obtain ⟨a, c, rfl⟩ := hx.shape
 obtain ⟨a', c', rfl⟩ := hy.shape
 have hn := hx.lenle
 have hn' := hy.lenle
 have HX := Lib.hid hx
 have HY := Lib.hid hy
 clear hx hy
 by_cases hl : xs.length = ys.length
 ·have e0 : ((xs.length : Int) != (ys.length : Int)) = false := by simp [hl]
  have HL := Lib.hid hl; clear hl
  go_enter Try.func31, Try.ntmps31
  go_wp2
  go_loopw [5] (fun i wr => ∃ k : Nat, k ≤ xs.length ∧ i = .int .i64 k ∧ xs.take k = ys.take k ∧ Below w.heap.size w wr) (fun i _ => xs.length - (intOf i).toNat)
  case atStart => exact ⟨0, Nat.zero_le _, rfl, rfl, Bs w⟩
  case round =>
   obtain ⟨k, hk, rfl, he, a0⟩ := hrel
   have HE := Lib.hid he; clear he
   by_cases hlt : k < xs.length
   ·have hlt' : k < ys.length := by have := HL.out; omega
    obtain ⟨b, h0, u, rfl, g0, hc, hu⟩ := (HX.out.below a0).at k hlt
    obtain ⟨b', off', u', rfl, hbs', hc', hu'⟩ := (HY.out.below a0).at k hlt'
    have f0 := Lib.hid (fun h => take_succ_eq hlt hlt' HE.out h)
    have d0 := Lib.hid (fun (h : xs = ys) => show xs[k] = ys[k] by subst h; rfl)
    have HQ := Lib.hid (fun W (hW : Below wr.heap.size wr W) => ctBools_any u u' xs[k] ys[k] W (hu.below hW) (hu'.below hW))
    generalize xs[k] = x at *
    generalize ys[k] = y at *
    clear hu hu'
    go_upto_region 6 with (fail)
    go_cut [26] (fun s wx => s = .bool (!decide (x = y)) ∧ Below wr.heap.size wr wx)
    case first =>
     have D := Below.drew (Bs wr)
     have k1 := Kc D hc
     have k2 := Kc D hc'
     go_region_with (go_at_call 79; refine (HQ.out _ D).mono ?_; rintro e wb ⟨rfl, d, rfl⟩)
     all_goals (go_wp2_with fail; go_meet; exact ⟨rfl, below_drewN' _ _⟩)
    obtain ⟨W5, rfl⟩ : ∃ W, W = wc := ⟨_, rfl⟩
    obtain ⟨rfl, c0⟩ := hcut
    have b0 := btr a0 c0
    clear c0 a0
    by_cases hxy : x = y
    ·rw [decide_eq_true hxy]
     have HZ := Lib.hid hxy; clear hxy
     go_wp2
     go_roundw
     case rel => exact ⟨k + 1, by omega, by go_num, f0.out HZ.out, b0⟩
     case measure => simp [intOf]; omega
    rw [decide_eq_false hxy]
    have HZ := Lib.hid hxy; clear hxy
    go_wp2
    go_ret
    exact ⟨ret_bool (decide_eq_false (fun h => HZ.out (d0.out h))).symm, b0⟩
   go_wp2
   go_ret
   exact ⟨ret_bool (decide_eq_true (by have h := HE.out; rwa [List.take_of_length_le (by omega), List.take_of_length_le (by have := HL.out; omega)] at h)).symm, a0⟩
 have e0 : ((xs.length : Int) != (ys.length : Int)) = true := by simp; omega
 have HL := Lib.hid hl; clear hl
 go_enter Try.func31, Try.ntmps31
 go_wp2
 go_ret
 exact ⟨ret_bool (decide_eq_false (fun h => HL.out (by rw [h]))).symm, Bs w⟩
end Go.Proofs.Ytkjedgnepnbkpaa
