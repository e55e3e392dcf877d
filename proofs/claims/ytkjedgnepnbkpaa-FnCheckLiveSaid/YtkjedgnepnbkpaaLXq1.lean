/-
 Parts of the proofs of the laws FnCheckLive, FnCodeFenced, FnEraseCode, FnEraseSecret, FnFinalRegs, FnLiveRegister, FnLiveRegs, FnSpecPath.
-/
import Derived.Test.YtkjedgnepnbkpaaNB
import Derived.Test.YtkjedgnepnbkpaaPU
import Derived.Test.YtkjedgnepnbkpaaLE2
import Derived.Test.YtkjedgnepnbkpaaLX
set_option maxHeartbeats 12800000
set_option maxRecDepth 100000
set_option linter.all false
namespace Go.Proofs.Ytkjedgnepnbkpaa
open Go.RowKit
theorem l9Below_any (va vb : Value) (xs ys : List Bool) (w : World) (ha : Reads w 1 va xs.length (bools xs)) (hb : Reads w 1 vb ys.length (bools ys)) (hl : ys.length ≤ xs.length) (h0 : 0 < xs.length) :
  Calls Try.prog 85 #[vb, va] w fun e w' => e = .returned (.bool (cov xs ys)) ∧ w = w' := by
 obtain ⟨_, hn, a, g0, b, j0, rfl, f0, ha, b0⟩ := ha
 obtain ⟨_, hn', a', cap', b', off', rfl, hcap', ha', c0⟩ := hb
 have e0 : ((xs.length : Int) == 0) = false := by simp; intro h; subst h; simp at h0
 go_enter Try.func85, Try.ntmps85
 go_wp2
 go_loop [5] (fun i => ∃ k : Nat, k ≤ ys.length ∧ i = .int .i64 k ∧ ∀ r (h1 : r < ys.length) (h2 : r < xs.length), r < k → (ys[r] && !xs[r]) = false) (fun i => ys.length - (intOf i).toNat)
 case atStart => exact ⟨0, Nat.zero_le _, rfl, fun r _ _ h => absurd h (by omega)⟩
 case round =>
  obtain ⟨k, hk, rfl, a0⟩ := hrel
  have HA := Lib.hid a0; clear a0
  by_cases hlt : k < ys.length
  ·obtain ⟨rfl, i0⟩ := ha (by omega)
   obtain ⟨rfl, hbs'⟩ := ha' (by omega)
   have d0 : k < xs.length := by omega
   have c1 := b0 k (by simpa [bools] using d0)
   have c2 := c0 k (by simpa [bools] using hlt)
   rw [bools_get] at c1 c2
   have HN := Lib.hid (fun h => cov_no hlt d0 h)
   have HY : Hid ((ys[k] && !xs[k]) = false → ∀ r (h1 : r < ys.length) (h2 : r < xs.length), r < k + 1 → (ys[r] && !xs[r]) = false) := Lib.hid (fun h r h1 h2 hr => by
    by_cases e : r = k
    ·subst e; exact h
    exact HA.out r h1 h2 (by omega))
   have q1 : (k : Int) < (xs.length : Int) := by omega
   generalize xs[k] = p at *
   generalize ys[k] = q at *
   clear HA b0 c0 ha ha'
   cases q with
   | false =>
    go_wp2
    go_round
    case rel => exact ⟨k + 1, by omega, by go_num, HY.out rfl⟩
    case measure => simp [intOf]; omega
   | true =>
    cases p with
    | true =>
     go_wp2
     go_round
     case rel => exact ⟨k + 1, by omega, by go_num, HY.out rfl⟩
     case measure => simp [intOf]; omega
    | false =>
     go_wp2
     go_ret
     exact ⟨ret_bool (HN.out rfl).symm, rfl⟩
  have HZ := Lib.hid (cov_yes hl (fun r h1 h2 => HA.out r h1 h2 (by omega)))
  clear HA
  go_wp2
  go_ret
  exact ⟨ret_bool HZ.out.symm, rfl⟩
end Go.Proofs.Ytkjedgnepnbkpaa
namespace Go.Proofs.Ytkjedgnepnbkpaa
open Go.RowKit
theorem sCheckLive_any (va vb vc v : Value) (c : Cd) (L : List (List Bool)) (w : World) (hr : ReadsC w va vb vc c) (hv : Reads2 bools w v L) :
  Calls Try.prog 35 #[.agg #[va, vb, vc], v] w fun e w' => e = .returned (.bool (checkR c L)) ∧ Below w.heap.size w w' := by
 obtain ⟨a0, c0, a1, c1, a2, c2, rfl, rfl, rfl⟩ := hr.shape
 obtain ⟨a3, c3, rfl⟩ := hv.shape
 have t1 := hv.lenle
 have s1 := hr.l.2.1
 have HD : Hid (checkR c L = (codeOk c && (decide (L.length = c.list.length) && (all14 L && covAll c L)))) := Lib.hid rfl
 generalize checkR c L = D at *
 have k0 := bal (Bs w) (.cells #[.slice a0 c.vars.length c0, .slice a1 c.arrays.length c1, .slice a2 c.list.length c2] 26)
 have HR := Lib.hid hr
 have HV := Lib.hid hv
 clear hr hv
 go_enter Try.func35, Try.ntmps35
 go_wp2_with fail
 refine (sCodeValid_any _ _ _ c _ (HR.out.below k0)).mono ?_
 rintro e w1 ⟨rfl, hb⟩
 have b0 : w1.cell? ⟨w.heap.size, 0, none⟩ = some (.slice a0 c.vars.length c0) := Kc hb (Wc (by simp) (by rfl))
 have b1 : w1.cell? ⟨w.heap.size, 1, none⟩ = some (.slice a1 c.arrays.length c1) := Kc hb (Wc (by simp) (by rfl))
 have b2 : w1.cell? ⟨w.heap.size, 2, none⟩ = some (.slice a2 c.list.length c2) := Kc hb (Wc (by simp) (by rfl))
 have k2 := Lc b2
 replace k0 := btr k0 hb
 clear hb
 cases hok : codeOk c with
 | false =>
  have HO := Lib.hid hok; clear hok
  go_wp2
  go_ret
  exact ⟨ret_bool (by rw [HD.out, HO.out]; rfl), k0⟩
 | true =>
  have HO := Lib.hid hok; clear hok
  obtain ⟨o1, p1⟩ := codeOk_len HO.out
  by_cases hll : L.length = c.list.length
  rotate_left
  ·have l1 : ((L.length : Int) != (c.list.length : Int)) = true := by simp; omega
   have n0 := Lib.hid hll; clear hll
   go_wp2
   go_ret
   exact ⟨ret_bool (by rw [HD.out, HO.out, decide_eq_false n0.out]; rfl), k0⟩
  have l1 : ((L.length : Int) != (c.list.length : Int)) = false := by simp; omega
  have q1 : L.length ≤ c.list.length := by omega
  have k1 : c.list.length ≤ L.length := by omega
  have n0 := Lib.hid hll; clear hll
  obtain ⟨b9, g0, hb9a, n1, y0⟩ : ∃ b' h0, a2 = some ⟨b', h0, none⟩ ∧ b' < w.heap.size ∧ Hid (∀ k (h : k < c.list.length), w.cell? ⟨b', h0 + k * 5, none⟩ = some (.int .i64 c.list[k].op) ∧ w.cell? ⟨b', h0 + k * 5 + 1, none⟩ = some (.int .i64 c.list[k].a) ∧ w.cell? ⟨b', h0 + k * 5 + 2, none⟩ = some (.int .i64 c.list[k].b) ∧ w.cell? ⟨b', h0 + k * 5 + 3, none⟩ = some (.int .i64 c.list[k].c) ∧ w.cell? ⟨b', h0 + k * 5 + 4, none⟩ = some (.int .i64 c.list[k].d)) := by
   obtain ⟨_, hn', aa, cap', b', h0, x0, j1, ha, i1⟩ := HR.out.l
   simp only [Value.slice.injEq, true_and] at x0
   obtain ⟨rfl, rfl⟩ := x0
   obtain ⟨rfl, h1⟩ := ha (by omega)
   exact ⟨b', h0, rfl, h1, Lib.hid (reads_Instr i1)⟩
  subst hb9a
  obtain ⟨w2, rfl⟩ : ∃ X, X = w1 := ⟨_, rfl⟩
  go_wp2_with fail
  go_loopw [5] (fun i wr => ∃ k : Nat, k ≤ L.length ∧ i = .int .i64 k ∧ (∀ j (h : j < L.length), j < k → L[j].length = 14) ∧ Below w2.heap.size w2 wr) (fun i _ => L.length - (intOf i).toNat)
  case atStart => exact ⟨0, Nat.zero_le _, rfl, fun j _ h => absurd h (by omega), Bs w2⟩
  case round =>
   obtain ⟨k, hk, rfl, i0, d0⟩ := hrel
   have HA := Lib.hid i0; clear i0
   by_cases hlt : k < L.length
   ·obtain ⟨b, h0, u, rfl, hb, hc, hu⟩ := (HV.out.below (btr k0 d0)).at k hlt
    have HN := Lib.hid (fun h => all14_no hlt h)
    have HY : Hid (L[k].length = 14 → ∀ j (h : j < L.length), j < k + 1 → L[j].length = 14) := Lib.hid (fun h j hj hlt2 => by
     by_cases e : j = k
     ·subst e; exact h
     exact HA.out j hj (by omega))
    have kc := Lc hc
    obtain ⟨pa, pc, rfl⟩ := reads_shape hu
    have r1 := hu.2.1
    clear hu
    have j0 := btr k0 d0
    generalize L[k].length = n at *
    by_cases h14 : n = 14
    ·have hq : ((n : Int) != 14) = false := by simp; omega
     have l0 := Lib.hid h14; clear h14
     go_wp2
     go_roundw
     case rel => exact ⟨k + 1, by omega, by go_num, HY.out l0.out, d0⟩
     case measure => simp [intOf]; omega
    have hq : ((n : Int) != 14) = true := by simp; omega
    have l0 := Lib.hid h14; clear h14
    go_wp2
    go_ret
    exact ⟨ret_bool (by rw [HD.out, HO.out, decide_eq_true n0.out, HN.out l0.out]; rfl), j0⟩
   have l0 := Lib.hid (all14_yes (fun j h => HA.out j h (by omega)))
   have u0 := Lib.hid (fun (i : Nat) (hi : i < c.list.length) W (hW : Below w.heap.size w W) => l12After_any _ _ _ _ c L i W (HR.out.below hW) (HV.out.below hW) n0.out (all14_at l0.out) HO.out hi)
   have w0 := Lib.hid (fun (v : Value) (A : Nat → Bool) (i : Nat) (hi : i < c.list.length) W (hv : Reads W 1 v 14 (bools (tab A))) => l12Before_any c.list[i] v A W (by have h := insOk_op (codeOk_all HO.out i hi); omega) (fun p hp => knl_in (codeOk_all HO.out i hi) p hp) hv)
   obtain ⟨w3, rfl⟩ : ∃ X, X = wr := ⟨_, rfl⟩
   replace b0 := Kc d0 b0
   replace b1 := Kc d0 b1
   replace b2 := Kc d0 b2
   replace k2 := Lc b2
   replace k0 := btr k0 d0
   clear HA d0
   go_wp2_with fail
   clear hlt hk
   go_loopw [6] (fun i wr => ∃ k : Nat, k ≤ L.length ∧ i = .int .i64 k ∧ (∀ j, j < k → covAt c L j = true) ∧ Below w3.heap.size w3 wr) (fun i _ => L.length - (intOf i).toNat)
   case atStart => exact ⟨0, Nat.zero_le _, rfl, fun j h => absurd h (by omega), Bs w3⟩
   case round =>
    obtain ⟨k, hk, rfl, i0, d0⟩ := hrel
    have HA := Lib.hid i0; clear i0
    have j0 := btr k0 d0
    by_cases hlt : k < L.length
    ·have o0 : k < c.list.length := by omega
     obtain ⟨b, h0, u, rfl, hb, hc, hu⟩ := (HV.out.below j0).at k hlt
     rw [all14_at l0.out k hlt] at hu
     obtain ⟨pa, pc, rfl⟩ := reads_shape hu
     have kc := Lc hc
     have HN := Lib.hid (fun h => covAll_no (c := c) (L := L) o0 h)
     have HY : Hid (covAt c L k = true → ∀ j, j < k + 1 → covAt c L j = true) := Lib.hid (fun h j hj => by
      by_cases e : j = k
      ·subst e; exact h
      exact HA.out j (by omega))
     have HE := Lib.hid (covAt_at c L k hlt)
     have m0 : Hid (L[k].length = 14) := Lib.hid (all14_at l0.out k hlt)
     have p0 : Hid ((befAt c L k).length = 14) := Lib.hid (befAt_len o0)
     have f2 := Kc d0 b2
     have f1 := Kc d0 b1
     have f0 := Kc d0 b0
     have kf := Lc f2
     obtain ⟨e0, e1, e2, e3, e4⟩ := y0.out k o0
     replace e0 := Kc j0 e0; replace e1 := Kc j0 e1; replace e2 := Kc j0 e2; replace e3 := Kc j0 e3; replace e4 := Kc j0 e4
     have m1 := Lc e0
     have q0 : Hid (befAt c L k = tab (befF c.list[k] (aftF L (flw c.list[k] k)))) := Lib.hid (befAt_at c L k o0)
     have z0 : Hid (aft L (nxt c.list[k] k) = tab (aftF L (flw c.list[k] k))) := Lib.hid (by rw [← aft_same]; rfl)
     have t0 := Lib.hid (fun W (hW : Below wr.heap.size wr W) => by
      have h := u0.out k o0 W (btr j0 hW)
      rw [z0.out] at h; exact h)
     have v0 := Lib.hid (fun (v : Value) (W : World) (hv : Reads W 1 v 14 (bools (tab (aftF L (flw c.list[k] k))))) => w0.out v (aftF L (flw c.list[k] k)) k o0 W hv)
     clear u0 w0
     have hq : (k : Int) < (c.list.length : Int) := by omega
     generalize c.list[k] = x at *
     have r0 := Lib.hid (show ∀ W', Below wr.heap.size wr W' → (fun W' => W'.cell? ⟨b9, g0 + k * 5, none⟩ = some (.int .i64 x.op) ∧ W'.cell? ⟨b9, g0 + k * 5 + 1, none⟩ = some (.int .i64 x.a) ∧ W'.cell? ⟨b9, g0 + k * 5 + 2, none⟩ = some (.int .i64 x.b) ∧ W'.cell? ⟨b9, g0 + k * 5 + 3, none⟩ = some (.int .i64 x.c) ∧ W'.cell? ⟨b9, g0 + k * 5 + 4, none⟩ = some (.int .i64 x.d) ∧ W'.cell? ⟨w.heap.size, 0, none⟩ = some (.slice a0 c.vars.length c0) ∧ W'.cell? ⟨w.heap.size, 1, none⟩ = some (.slice a1 c.arrays.length c1) ∧ W'.cell? ⟨w.heap.size, 2, none⟩ = some (.slice (some ⟨b9, g0, none⟩) c.list.length c2) ∧ W'.cell? ⟨b, h0 + k, none⟩ = some (.slice pa 14 pc)) W' from fun W' h => ⟨Kc h e0, Kc h e1, Kc h e2, Kc h e3, Kc h e4, Kc h f0, Kc h f1, Kc h f2, Kc h hc⟩)
     go_upto_region 11 with (fail)
     have D2 := Below.drew (Bs wr)
     go_cut [51] (fun s wx => s = .bool (!covAt c L k) ∧ Below wr.heap.size wr wx)
     case first =>
      go_region_held3 (fun W' => W'.cell? ⟨b9, g0 + k * 5, none⟩ = some (.int .i64 x.op) ∧ W'.cell? ⟨b9, g0 + k * 5 + 1, none⟩ = some (.int .i64 x.a) ∧ W'.cell? ⟨b9, g0 + k * 5 + 2, none⟩ = some (.int .i64 x.b) ∧ W'.cell? ⟨b9, g0 + k * 5 + 3, none⟩ = some (.int .i64 x.c) ∧ W'.cell? ⟨b9, g0 + k * 5 + 4, none⟩ = some (.int .i64 x.d) ∧ W'.cell? ⟨w.heap.size, 0, none⟩ = some (.slice a0 c.vars.length c0) ∧ W'.cell? ⟨w.heap.size, 1, none⟩ = some (.slice a1 c.arrays.length c1) ∧ W'.cell? ⟨w.heap.size, 2, none⟩ = some (.slice (some ⟨b9, g0, none⟩) c.list.length c2) ∧ W'.cell? ⟨b, h0 + k, none⟩ = some (.slice pa 14 pc)) (first | exact r0.out _ (btr (btr D2 ba) bb) | exact r0.out _ (btr D2 ba) | exact r0.out _ D2) (first | (go_at_call 87; refine (t0.out _ D2).mono ?_; rintro e wa ⟨ga, rfl, oa, ba⟩) | (go_at_call 86; refine (v0.out _ _ (Ro oa (by omega))).mono ?_; rintro e wb ⟨gb, cb', rfl, ob, bb⟩) | (go_at_call 85; refine (l9Below_any _ _ L[k] (befAt c L k) _ (by rw [m0.out]; exact hu.below (btr (btr D2 ba) bb)) (by rw [p0.out, q0.out]; exact Ro ob (by omega)) (by rw [m0.out, p0.out]; omega) (by rw [m0.out]; omega)).mono ?_; rintro e w5 ⟨rfl, rfl⟩))
      all_goals (go_wp2_with fail; go_meet; exact ⟨by rw [HE.out], btr (btr D2 ba) bb⟩)
     obtain ⟨w5, rfl⟩ : ∃ W, W = wc := ⟨_, rfl⟩
     obtain ⟨rfl, s0⟩ := hcut
     have d1 := btr d0 s0
     have g1 := btr j0 s0
     clear D2 s0 e0 e1 e2 e3 e4 m1 hc v0 t0
     cases hcv : covAt c L k with
     | true =>
      have HC := Lib.hid hcv; clear hcv
      go_wp2
      go_roundw
      case rel => exact ⟨k + 1, by omega, by go_num, HY.out HC.out, d1⟩
      case measure => simp [intOf]; omega
     | false =>
      have HC := Lib.hid hcv; clear hcv
      go_wp2
      go_ret
      exact ⟨ret_bool (by rw [HD.out, HO.out, decide_eq_true n0.out, l0.out, HN.out HC.out]; rfl), g1⟩
    have HZ := Lib.hid (covAll_yes (c := c) (L := L) (fun j h => HA.out j (by omega)))
    go_wp2
    go_ret
    exact ⟨ret_bool (by rw [HD.out, HO.out, decide_eq_true n0.out, l0.out, HZ.out]; rfl), j0⟩
end Go.Proofs.Ytkjedgnepnbkpaa
namespace Go.Proofs.Ytkjedgnepnbkpaa
open Go.RowKit
theorem cov_leq {xs ys : List Bool} (h : cov xs ys = true) (hy : ys.length = 14) : leq ys xs := by
 intro r hr hb
 unfold cov at h
 have := List.all_eq_true.1 h r (List.mem_range.2 (by omega))
 rw [hb] at this
 simpa using this
theorem swps_le {c : Cd} {L : List (List Bool)} (hlen : L.length = c.list.length) (hc : ∀ k, k < c.list.length → leq (befAt c L k) ((L[k]?).getD [])) : ∀ (n k : Nat), leq (((swps c n)[k]?).getD []) ((L[k]?).getD []) := by
 have a0 : ∀ (m : Nat) (M : List (List Bool)), m ≤ c.list.length → (∀ k : Nat, leq ((M[k]?).getD []) ((L[k]?).getD [])) → ∀ k : Nat, leq (((swpTo c m M)[k]?).getD []) ((L[k]?).getD []) := by
  intro m
  induction m with
  | zero => intro M _ h; exact h
  | succ m ih =>
   intro M hm h
   rw [swpTo_step]
   refine ih _ (by omega) (fun k => ?_)
   rw [List.getElem?_set]
   by_cases e : m = k
   ·subst e
    rw [if_pos rfl]
    split
    ·exact leq_trans (befAt_mono h m) (hc m (by omega))
    intro r _ hb; simp at hb
   rw [if_neg e]; exact h k
 intro n
 induction n with
 | zero =>
  intro k r hr hb
  simp only [swps, zeroL] at hb
  by_cases hk : k < c.list.length
  ·rw [List.getElem?_replicate, if_pos hk, Option.getD_some, tab_getD _ _ hr] at hb; cases hb
  rw [List.getElem?_replicate, if_neg hk] at hb; simp at hb
 | succ n ih => exact a0 _ _ (Nat.le_refl _) ih
theorem law_check {c : Cd} {L : List (List Bool)} (h : checkR c L = true) : codeOk c = true ∧ (liveR c).length = L.length ∧ L.length = c.list.length ∧ (∀ k (hk : k < L.length), L[k].length = 14) ∧ (∀ k (hk : k < (liveR c).length), (liveR c)[k].length = 14) ∧ ∀ k : Nat, leq (((liveR c)[k]?).getD []) ((L[k]?).getD []) := by
 unfold checkR at h
 simp only [Bool.and_eq_true] at h
 obtain ⟨h1, h2, h3, h4⟩ := h
 have a0 := of_decide_eq_true h2
 have c0 := all14_at h3
 rw [liveR_yes h1]
 have hi := live_inv c
 refine ⟨h1, by rw [hi.len, a0], a0, c0, hi.rows, fun k => swps_le a0 (fun j hj => ?_) _ k⟩
 have b0 : j < L.length := by omega
 unfold covAll at h4
 have := List.all_eq_true.1 h4 j (List.mem_range.2 hj)
 rw [covAt_at c L j b0] at this
 rw [List.getElem?_eq_getElem b0, Option.getD_some]
 exact cov_leq this (befAt_len hj)
end Go.Proofs.Ytkjedgnepnbkpaa
namespace Go.Proofs.Ytkjedgnepnbkpaa
open Go.RowKit
def DrawCLP (w : World) (r : Ending) (w' : World) : Prop := ∃ (va vb vc u : Value) (nv na nl : Nat) (L : List (List Bool)), r = .returned (.tuple #[.agg #[va, vb, vc], u]) ∧ DrawC w' w.heap.size va vb vc nv na nl ∧ (nv ≤ 1000 ∧ na ≤ 1000 ∧ nl ≤ 1000) ∧ (Reads2 bools w' u L ∧ L.length ≤ 1000 ∧ ∀ r ∈ L, r.length ≤ 14) ∧ Below w.heap.size w w'
theorem liveD {w : World} {base : Nat} {c : Cd} {u : Value} {us : List Value} (h : Own2B w base u us (liveR c)) : LvD w base u us (liveR c).length := by
 refine ⟨liveR c, rfl, fun r hr => ?_, h⟩
 obtain ⟨k, hk, rfl⟩ := List.getElem_of_mem hr
 by_cases hok : codeOk c = true
 ·have hi := (live_inv c).rows
  have e := liveR_yes hok
  revert hk
  rw [e]
  intro hk _
  exact hi k hk
 have e := liveR_no (c := c) (by cases h : codeOk c <;> simp_all)
 revert hk
 rw [e]
 intro hk _
 exact absurd hk (by simp)
end Go.Proofs.Ytkjedgnepnbkpaa
