/-
 Parts of the proofs of the laws FnCheckLive, FnCodeFenced, FnEraseCode, FnEraseSecret, FnFinalRegs, FnLiveRegister, FnLiveRegs, FnSpecPath.
-/
import Derived.Test.YtkjedgnepnbkpaaLB
import Derived.Test.YtkjedgnepnbkpaaLC
set_option maxHeartbeats 12800000
set_option maxRecDepth 100000
set_option linter.all false
namespace Go.Proofs.Ytkjedgnepnbkpaa
open Go.RowKit
def cov (xs ys : List Bool) : Bool := (List.range ys.length).all (fun r => !(ys.getD r false) || xs.getD r false)
theorem cov_yes {xs ys : List Bool} (hl : ys.length ≤ xs.length) (h : ∀ r (h1 : r < ys.length) (h2 : r < xs.length), (ys[r] && !xs[r]) = false) : cov xs ys = true := by
 unfold cov
 rw [List.all_eq_true]
 intro r hr
 have hr' : r < ys.length := List.mem_range.1 hr
 have := h r hr' (by omega)
 revert this
 rw [List.getD_eq_getElem?_getD, List.getD_eq_getElem?_getD, List.getElem?_eq_getElem hr', List.getElem?_eq_getElem (show r < xs.length by omega)]
 simp only [Option.getD_some]
 cases ys[r] <;> cases xs[r] <;> simp
theorem cov_no {xs ys : List Bool} {r : Nat} (h1 : r < ys.length) (h2 : r < xs.length) (h : (ys[r] && !xs[r]) = true) : cov xs ys = false := by
 unfold cov
 rw [List.all_eq_false]
 refine ⟨r, List.mem_range.2 h1, ?_⟩
 revert h
 rw [List.getD_eq_getElem?_getD, List.getD_eq_getElem?_getD, List.getElem?_eq_getElem h1, List.getElem?_eq_getElem h2]
 simp only [Option.getD_some]
 cases ys[r] <;> cases xs[r] <;> simp
theorem covers_any (va vb : Value) (xs ys : List Bool) (w : World) (ha : Reads w 1 va xs.length (bools xs)) (hb : Reads w 1 vb ys.length (bools ys)) (hl : ys.length ≤ xs.length) (h0 : 0 < xs.length) :
  Calls Try.prog 83 #[va, vb] w fun e w' => e = .returned (.bool (cov xs ys)) ∧ w = w' := by
 obtain ⟨_, hn, a, f0, b, i0, rfl, e0, ha, b0⟩ := ha
 obtain ⟨_, hn', a', cap', b', off', rfl, hcap', ha', c0⟩ := hb
 go_enter Try.func83, Try.ntmps83
 go_wp2
 go_loop [9] (fun i => ∃ k : Nat, k ≤ ys.length ∧ i = .int .i64 k ∧ ∀ r (h1 : r < ys.length) (h2 : r < xs.length), r < k → (ys[r] && !xs[r]) = false) (fun i => ys.length - (intOf i).toNat)
 case atStart => exact ⟨0, Nat.zero_le _, rfl, fun r _ _ h => absurd h (by omega)⟩
 case round =>
  obtain ⟨k, hk, rfl, a0⟩ := hrel
  have HA := Lib.hid a0; clear a0
  by_cases hlt : k < ys.length
  ·obtain ⟨rfl, g0⟩ := ha (by omega)
   obtain ⟨rfl, hbs'⟩ := ha' (by omega)
   have d0 : k < xs.length := by omega
   have c1 := b0 k (by simpa [bools] using d0)
   have c2 := c0 k (by simpa [bools] using hlt)
   rw [bools_get] at c1 c2
   have HN := Lib.hid (fun h => cov_no hlt d0 h)
   have HY : Hid ((ys[k] && !xs[k]) = false → ∀ r (h1 : r < ys.length) (h2 : r < xs.length), r < k + 1 → (ys[r] && !xs[r]) = false) := Lib.hid (fun h r h1 h2 hr => by
    by_cases e : r = k
    ·subst e; exact h
    exact HA.out r h1 h2 (by omega))
   have q1 : (k : Int) < (xs.length : Int) := by omega
   generalize xs[k] = p at *
   generalize ys[k] = q at *
   clear HA b0 c0 ha ha'
   cases q with
   | false =>
    go_wp2
    go_round
    case rel => exact ⟨k + 1, by omega, by go_num, HY.out rfl⟩
    case measure => simp [intOf]; omega
   | true =>
    cases p with
    | true =>
     go_wp2
     go_round
     case rel => exact ⟨k + 1, by omega, by go_num, HY.out rfl⟩
     case measure => simp [intOf]; omega
    | false =>
     go_wp2
     go_ret
     exact ⟨ret_bool (HN.out rfl).symm, rfl⟩
  have HZ := Lib.hid (cov_yes hl (fun r h1 h2 => HA.out r h1 h2 (by omega)))
  clear HA
  go_wp2
  go_ret
  exact ⟨ret_bool HZ.out.symm, rfl⟩
end Go.Proofs.Ytkjedgnepnbkpaa
namespace Go.Proofs.Ytkjedgnepnbkpaa
open Go.RowKit
def all14 (L : List (List Bool)) : Bool := L.all (fun r => decide (r.length = 14))
def covAt (c : Cd) (L : List (List Bool)) (k : Nat) : Bool := cov ((L[k]?).getD []) (befAt c L k)
def covAll (c : Cd) (L : List (List Bool)) : Bool := (List.range c.list.length).all (covAt c L)
def checkR (c : Cd) (L : List (List Bool)) : Bool := codeOk c && (decide (L.length = c.list.length) && (all14 L && covAll c L))
theorem all14_no {L : List (List Bool)} {k : Nat} (h : k < L.length) (h2 : ¬ L[k].length = 14) : all14 L = false := by
 unfold all14; rw [List.all_eq_false]
 exact ⟨_, List.getElem_mem h, by simpa using h2⟩
theorem all14_yes {L : List (List Bool)} (h : ∀ k (hk : k < L.length), L[k].length = 14) : all14 L = true := by
 unfold all14; rw [List.all_eq_true]
 intro r hr
 obtain ⟨k, hk, rfl⟩ := List.getElem_of_mem hr
 simpa using h k hk
theorem all14_at {L : List (List Bool)} (h : all14 L = true) : ∀ k (hk : k < L.length), L[k].length = 14 := by
 intro k hk
 unfold all14 at h
 simpa using List.all_eq_true.1 h _ (List.getElem_mem hk)
theorem covAll_no {c : Cd} {L : List (List Bool)} {k : Nat} (h : k < c.list.length) (h2 : covAt c L k = false) : covAll c L = false := by
 unfold covAll; rw [List.all_eq_false]
 exact ⟨k, List.mem_range.2 h, by simp [h2]⟩
theorem covAll_yes {c : Cd} {L : List (List Bool)} (h : ∀ k, k < c.list.length → covAt c L k = true) : covAll c L = true := by
 unfold covAll; rw [List.all_eq_true]
 intro k hk
 exact h k (List.mem_range.1 hk)
theorem covAt_at (c : Cd) (L : List (List Bool)) (k : Nat) (h : k < L.length) : covAt c L k = cov L[k] (befAt c L k) := by unfold covAt; rw [List.getElem?_eq_getElem h]; rfl
theorem not14_any (u : Value) (n : Nat) (vs : List Value) (w : World) (hu : Reads w 1 u n vs) :
  Calls Try.prog 82 #[u] w fun e w' => e = .returned (.bool (!decide (n = 14))) ∧ Below w.heap.size w w' := by
 obtain ⟨a, c, rfl⟩ := reads_shape hu
 have hn := hu.2.1
 clear hu
 have hd : Hid (((n : Int) != 14) = !decide (n = 14)) := Lib.hid (by rw [Bool.eq_iff_iff]; simp; omega)
 go_enter Try.func82, Try.ntmps82
 go_wp2
 go_ret
 exact ⟨ret_bool hd.out, Bs w⟩
theorem idxRow_any (v : Value) (L : List (List Bool)) (w : World) (hr : Reads2 bools w v L) :
  Calls Try.prog 131 #[v, .func (.func 82) #[] #[]] w fun e w' => ∃ r : Int, e = .returned (.int .i64 r) ∧ decide (0 ≤ r) = !all14 L ∧ Below w.heap.size w w' := by
 obtain ⟨a, c, rfl⟩ := hr.shape
 have hn := hr.lenle
 have HR := Lib.hid hr
 clear hr
 go_enter Try.func131, Try.ntmps131
 go_wp2
 go_loopw [8] (fun i wr => ∃ k : Nat, k ≤ L.length ∧ i = .int .i64 k ∧ (∀ j (h : j < L.length), j < k → L[j].length = 14) ∧ Below w.heap.size w wr) (fun i _ => L.length - (intOf i).toNat)
 case atStart => exact ⟨0, Nat.zero_le _, rfl, fun j _ h => absurd h (by omega), Bs w⟩
 case round =>
  obtain ⟨k, hk, rfl, b0, a0⟩ := hrel
  have HA := Lib.hid b0; clear b0
  by_cases hlt : k < L.length
  ·obtain ⟨b, e0, u, rfl, hb, hc, hu⟩ := (HR.out.below a0).at k hlt
   have HN := Lib.hid (fun h => all14_no hlt h)
   have HY : Hid (L[k].length = 14 → ∀ j (h : j < L.length), j < k + 1 → L[j].length = 14) := Lib.hid (fun h j hj hlt2 => by
    by_cases e : j = k
    ·subst e; exact h
    exact HA.out j hj (by omega))
   have kc := Lc hc
   generalize hq : L[k].length = n at *
   have HQ := Lib.hid hq
   clear hq
   go_wp2_with fail
   refine (not14_any u _ _ _ hu).mono ?_
   rintro e w1 ⟨rfl, c0⟩
   have d0 := btr a0 c0
   clear hu hc
   by_cases hok : n = 14
   ·have HO := Lib.hid hok
    rw [decide_eq_true hok]
    clear hok c0 a0
    go_wp2
    go_roundw
    case rel => exact ⟨k + 1, by omega, by go_num, HY.out HO.out, d0⟩
    case measure => simp [intOf]; omega
   have HO := Lib.hid hok
   rw [decide_eq_false hok]
   clear hok c0 a0
   go_wp2
   go_ret
   exact ⟨(k : Int), rfl, by rw [HN.out HO.out]; simp, d0⟩
  go_wp2
  go_ret
  exact ⟨-1, rfl, by rw [all14_yes (fun j h => HA.out j h (by omega))]; rfl, a0⟩
theorem hasRow_any (v : Value) (L : List (List Bool)) (w : World) (hr : Reads2 bools w v L) :
  Calls Try.prog 81 #[v, .func (.func 82) #[] #[]] w fun e w' => e = .returned (.bool (!all14 L)) ∧ Below w.heap.size w w' := by
 go_enter Try.func81, Try.ntmps81
 go_wp2_with fail
 refine (idxRow_any _ L _ hr).mono ?_
 rintro e w1 ⟨r, rfl, a0, hb⟩
 clear hr
 go_wp2
 go_ret
 exact ⟨rfl, hb⟩
theorem iCheckLive_any (va vb vc v : Value) (c : Cd) (L : List (List Bool)) (w : World) (hr : ReadsC w va vb vc c) (hv : Reads2 bools w v L) :
  Calls Try.prog 33 #[.agg #[va, vb, vc], v] w fun e w' => e = .returned (.bool (checkR c L)) ∧ Below w.heap.size w w' := by
 obtain ⟨a0, c0, a1, c1, a2, c2, rfl, rfl, rfl⟩ := hr.shape
 obtain ⟨a3, c3, rfl⟩ := hv.shape
 have x0 := hv.lenle
 have w0 := hr.l.2.1
 have HD : Hid (checkR c L = (codeOk c && (decide (L.length = c.list.length) && (all14 L && covAll c L)))) := Lib.hid rfl
 generalize checkR c L = D at *
 have e0 := bal (Bs w) (.cells #[.slice a0 c.vars.length c0, .slice a1 c.arrays.length c1, .slice a2 c.list.length c2] 26)
 have HR := Lib.hid hr
 have HV := Lib.hid hv
 clear hr hv
 go_enter Try.func33, Try.ntmps33
 go_wp2_with fail
 refine (iCodeValid_any _ _ _ c _ (HR.out.below e0)).mono ?_
 rintro e w1 ⟨rfl, hb⟩
 have b0 : w1.cell? ⟨w.heap.size, 0, none⟩ = some (.slice a0 c.vars.length c0) := Kc hb (Wc (by simp) (by rfl))
 have b1 : w1.cell? ⟨w.heap.size, 1, none⟩ = some (.slice a1 c.arrays.length c1) := Kc hb (Wc (by simp) (by rfl))
 have b2 : w1.cell? ⟨w.heap.size, 2, none⟩ = some (.slice a2 c.list.length c2) := Kc hb (Wc (by simp) (by rfl))
 have k2 := Lc b2
 replace e0 := btr e0 hb
 clear hb
 cases hok : codeOk c with
 | false =>
  have HO := Lib.hid hok; clear hok
  go_wp2
  go_ret
  exact ⟨ret_bool (by rw [HD.out, HO.out]; rfl), e0⟩
 | true =>
  have HO := Lib.hid hok; clear hok
  obtain ⟨t0, u0⟩ := codeOk_len HO.out
  by_cases hll : L.length = c.list.length
  rotate_left
  ·have p0 : ((L.length : Int) != (c.list.length : Int)) = true := by simp; omega
   have i0 := Lib.hid hll; clear hll
   go_wp2
   go_ret
   exact ⟨ret_bool (by rw [HD.out, HO.out, decide_eq_false i0.out]; rfl), e0⟩
  have p0 : ((L.length : Int) != (c.list.length : Int)) = false := by simp; omega
  have v0 : L.length ≤ c.list.length := by omega
  have s0 : c.list.length ≤ L.length := by omega
  have i0 := Lib.hid hll; clear hll
  go_wp2_with fail
  refine (hasRow_any _ L _ (HV.out.below e0)).mono ?_
  rintro e w2 ⟨rfl, hb⟩
  replace b0 := Kc hb b0
  replace b1 := Kc hb b1
  replace b2 := Kc hb b2
  replace k2 := Lc b2
  replace e0 := btr e0 hb
  clear hb p0
  cases h14 : all14 L with
  | false =>
   have g0 := Lib.hid h14; clear h14
   go_wp2
   go_ret
   exact ⟨ret_bool (by rw [HD.out, HO.out, decide_eq_true i0.out, g0.out]; rfl), e0⟩
  | true =>
   have g0 := Lib.hid h14; clear h14
   have HB := Lib.hid (fun (i : Nat) (hi : i < c.list.length) W (hW : Below w.heap.size w W) => liveBefore_any _ _ _ _ c L i W (HR.out.below hW) (HV.out.below hW) i0.out (all14_at g0.out) HO.out hi)
   obtain ⟨w3, rfl⟩ : ∃ X, X = w2 := ⟨_, rfl⟩
   go_wp2_with fail
   go_loopw [24] (fun i wr => ∃ k : Nat, k ≤ L.length ∧ i = .int .i64 k ∧ (∀ j, j < k → covAt c L j = true) ∧ Below w3.heap.size w3 wr) (fun i _ => L.length - (intOf i).toNat)
   case atStart => exact ⟨0, Nat.zero_le _, rfl, fun j h => absurd h (by omega), Bs w3⟩
   case round =>
    obtain ⟨k, hk, rfl, k0, d0⟩ := hrel
    have HA := Lib.hid k0; clear k0
    have m0 := btr e0 d0
    by_cases hlt : k < L.length
    ·have n0 : k < c.list.length := by omega
     obtain ⟨b, y0, u, rfl, hb, hc, hu⟩ := (HV.out.below m0).at k hlt
     rw [all14_at g0.out k hlt] at hu
     obtain ⟨pa, pc, rfl⟩ := reads_shape hu
     have kc := Lc hc
     have HN := Lib.hid (fun h => covAll_no (c := c) (L := L) n0 h)
     have HY : Hid (covAt c L k = true → ∀ j, j < k + 1 → covAt c L j = true) := Lib.hid (fun h j hj => by
      by_cases e : j = k
      ·subst e; exact h
      exact HA.out j (by omega))
     have HE := Lib.hid (covAt_at c L k hlt)
     have h0 : Hid (L[k].length = 14) := Lib.hid (all14_at g0.out k hlt)
     have j0 : Hid ((befAt c L k).length = 14) := Lib.hid (befAt_len n0)
     have f2 := Kc d0 b2
     have f1 := Kc d0 b1
     have f0 := Kc d0 b0
     have kf := Lc f2
     have o0 := Lib.hid (HB.out k n0 _ m0)
     clear HB
     go_wp2_with fail
     refine o0.out.mono ?_
     rintro e w4 ⟨g4, rfl, o4, l0⟩
     replace hu := hu.below l0
     have q0 := btr d0 l0
     have r0 := btr m0 l0
     clear o0 hc l0
     go_wp2_with fail
     refine (covers_any _ _ L[k] (befAt c L k) _ (by rw [h0.out]; exact hu) (by rw [j0.out]; exact Ro o4 (by omega)) (by rw [h0.out, j0.out]; omega) (by rw [h0.out]; omega)).mono ?_
     rintro e w5 ⟨rfl, rfl⟩
     rw [← HE.out]
     cases hcv : covAt c L k with
     | true =>
      have HC := Lib.hid hcv; clear hcv
      go_wp2
      go_roundw
      case rel => exact ⟨k + 1, by omega, by go_num, HY.out HC.out, q0⟩
      case measure => simp [intOf]; omega
     | false =>
      have HC := Lib.hid hcv; clear hcv
      go_wp2
      go_ret
      exact ⟨ret_bool (by rw [HD.out, HO.out, decide_eq_true i0.out, g0.out, HN.out HC.out]; rfl), r0⟩
    have HZ := Lib.hid (covAll_yes (c := c) (L := L) (fun j h => HA.out j (by omega)))
    go_wp2
    go_ret
    exact ⟨ret_bool (by rw [HD.out, HO.out, decide_eq_true i0.out, g0.out, HZ.out]; rfl), m0⟩
end Go.Proofs.Ytkjedgnepnbkpaa
