/-
 Parts of the proofs of the laws FnCheckLive, FnFinalRegs, FnLiveRegister, FnLiveRegs.
-/
import Derived.Test.YtkjedgnepnbkpaaUH
import Derived.Test.YtkjedgnepnbkpaaLE2
import Derived.Test.YtkjedgnepnbkpaaQJ
set_option maxHeartbeats 12800000
set_option maxRecDepth 100000
set_option linter.all false
namespace Go.Proofs.Ytkjedgnepnbkpaa
open Go.RowKit

theorem l9Below_any (va vb : Value) (xs ys : List Bool) (w : World) (ha : Reads w 1 va xs.length (bools xs)) (hb : Reads w 1 vb ys.length (bools ys)) (hl : ys.length ≤ xs.length) (h0 : 0 < xs.length) :
  Calls Try.prog 85 #[vb, va] w fun e w' => e = .returned (.bool (cov xs ys)) ∧ w = w' := by
 obtain ⟨_, hn, a, cap, b, off, rfl, hcap, ha, hca⟩ := ha
 obtain ⟨_, hn', a', cap', b', off', rfl, hcap', ha', hcb⟩ := hb
 have e0 : ((xs.length : Int) == 0) = false := by simp; intro h; subst h; simp at h0
 go_enter Try.func85, Try.ntmps85
 go_wp2
 go_loop [5] (fun i => ∃ k : Nat, k ≤ ys.length ∧ i = .int .i64 k ∧ ∀ r (h1 : r < ys.length) (h2 : r < xs.length), r < k → (ys[r] && !xs[r]) = false) (fun i => ys.length - (intOf i).toNat)
 case atStart => exact ⟨0, Nat.zero_le _, rfl, fun r _ _ h => absurd h (by omega)⟩
 case round =>
  obtain ⟨k, hk, rfl, hall⟩ := hrel
  have HA := Lib.hid hall; clear hall
  by_cases hlt : k < ys.length
  ·obtain ⟨rfl, hbs⟩ := ha (by omega)
   obtain ⟨rfl, hbs'⟩ := ha' (by omega)
   have hlx : k < xs.length := by omega
   have c1 := hca k (by simpa [bools] using hlx)
   have c2 := hcb k (by simpa [bools] using hlt)
   rw [bools_get] at c1 c2
   have HN := Lib.hid (fun h => cov_no hlt hlx h)
   have HY : Hid ((ys[k] && !xs[k]) = false → ∀ r (h1 : r < ys.length) (h2 : r < xs.length), r < k + 1 → (ys[r] && !xs[r]) = false) := Lib.hid (fun h r h1 h2 hr => by
    by_cases e : r = k
    ·subst e; exact h
    ·exact HA.out r h1 h2 (by omega))
   have q1 : (k : Int) < (xs.length : Int) := by omega
   generalize xs[k] = p at *
   generalize ys[k] = q at *
   clear HA hca hcb ha ha'
   cases q with
   | false =>
    go_wp2
    go_round
    case rel => exact ⟨k + 1, by omega, by go_num, HY.out rfl⟩
    case measure => simp [intOf]; omega
   | true =>
    cases p with
    | true =>
     go_wp2
     go_round
     case rel => exact ⟨k + 1, by omega, by go_num, HY.out rfl⟩
     case measure => simp [intOf]; omega
    | false =>
     go_wp2
     go_ret
     exact ⟨ret_bool (HN.out rfl).symm, rfl⟩
  ·have HZ := Lib.hid (cov_yes hl (fun r h1 h2 => HA.out r h1 h2 (by omega)))
   clear HA
   go_wp2
   go_ret
   exact ⟨ret_bool HZ.out.symm, rfl⟩

end Go.Proofs.Ytkjedgnepnbkpaa
namespace Go.Proofs.Ytkjedgnepnbkpaa
open Go.RowKit

theorem sCheckLive_any (va vb vc v : Value) (c : Cd) (L : List (List Bool)) (w : World) (hr : ReadsC w va vb vc c) (hv : Reads2 bools w v L) :
  Calls Try.prog 35 #[.agg #[va, vb, vc], v] w fun e w' => e = .returned (.bool (checkR c L)) ∧ Below w.heap.size w w' := by
 obtain ⟨a0, c0, a1, c1, a2, c2, rfl, rfl, rfl⟩ := hr.shape
 obtain ⟨a3, c3, rfl⟩ := hv.shape
 have hnl := hv.lenle
 have hnc := hr.l.2.1
 have HD : Hid (checkR c L = (codeOk c && (decide (L.length = c.list.length) && (all14 L && covAll c L)))) := Lib.hid rfl
 generalize checkR c L = D at *
 have hbx := bal (Bs w) (.cells #[.slice a0 c.vars.length c0, .slice a1 c.arrays.length c1, .slice a2 c.list.length c2] 26)
 have HR := Lib.hid hr
 have HV := Lib.hid hv
 clear hr hv
 go_enter Try.func35, Try.ntmps35
 go_wp2_with fail
 refine (sCodeValid_any _ _ _ c _ (HR.out.below hbx)).mono ?_
 rintro e w1 ⟨rfl, hb⟩
 have b0 : w1.cell? ⟨w.heap.size, 0, none⟩ = some (.slice a0 c.vars.length c0) := Kc hb (Wc (by simp) (by rfl))
 have b1 : w1.cell? ⟨w.heap.size, 1, none⟩ = some (.slice a1 c.arrays.length c1) := Kc hb (Wc (by simp) (by rfl))
 have b2 : w1.cell? ⟨w.heap.size, 2, none⟩ = some (.slice a2 c.list.length c2) := Kc hb (Wc (by simp) (by rfl))
 have k2 := Lc b2
 replace hbx := btr hbx hb
 clear hb
 cases hok : codeOk c with
 | false =>
  have HO := Lib.hid hok; clear hok
  go_wp2
  go_ret
  exact ⟨ret_bool (by rw [HD.out, HO.out]; rfl), hbx⟩
 | true =>
  have HO := Lib.hid hok; clear hok
  obtain ⟨hl1, hl2⟩ := codeOk_len HO.out
  by_cases hll : L.length = c.list.length
  rotate_left
  ·have hne : ((L.length : Int) != (c.list.length : Int)) = true := by simp; omega
   have HLL := Lib.hid hll; clear hll
   go_wp2
   go_ret
   exact ⟨ret_bool (by rw [HD.out, HO.out, decide_eq_false HLL.out]; rfl), hbx⟩
  have hne : ((L.length : Int) != (c.list.length : Int)) = false := by simp; omega
  have hle : L.length ≤ c.list.length := by omega
  have hle2 : c.list.length ≤ L.length := by omega
  have HLL := Lib.hid hll; clear hll
  obtain ⟨b9, off9, hb9a, hb9, HCC⟩ : ∃ b' off, a2 = some ⟨b', off, none⟩ ∧ b' < w.heap.size ∧ Hid (∀ k (h : k < c.list.length), w.cell? ⟨b', off + k * 5, none⟩ = some (.int .i64 c.list[k].op) ∧ w.cell? ⟨b', off + k * 5 + 1, none⟩ = some (.int .i64 c.list[k].a) ∧ w.cell? ⟨b', off + k * 5 + 2, none⟩ = some (.int .i64 c.list[k].b) ∧ w.cell? ⟨b', off + k * 5 + 3, none⟩ = some (.int .i64 c.list[k].c) ∧ w.cell? ⟨b', off + k * 5 + 4, none⟩ = some (.int .i64 c.list[k].d)) := by
   obtain ⟨_, hn', aa, cap', b', off, hvv, hcap, ha, hca⟩ := HR.out.l
   simp only [Value.slice.injEq, true_and] at hvv
   obtain ⟨rfl, rfl⟩ := hvv
   obtain ⟨rfl, hbs⟩ := ha (by omega)
   exact ⟨b', off, rfl, hbs, Lib.hid (reads_Instr hca)⟩
  subst hb9a
  obtain ⟨w2, rfl⟩ : ∃ X, X = w1 := ⟨_, rfl⟩
  go_wp2_with fail
  go_loopw [5] (fun i wr => ∃ k : Nat, k ≤ L.length ∧ i = .int .i64 k ∧ (∀ j (h : j < L.length), j < k → L[j].length = 14) ∧ Below w2.heap.size w2 wr) (fun i _ => L.length - (intOf i).toNat)
  case atStart => exact ⟨0, Nat.zero_le _, rfl, fun j _ h => absurd h (by omega), Bs w2⟩
  case round =>
   obtain ⟨k, hk, rfl, hall, hbel⟩ := hrel
   have HA := Lib.hid hall; clear hall
   by_cases hlt : k < L.length
   ·obtain ⟨b, off, u, rfl, hb, hc, hu⟩ := (HV.out.below (btr hbx hbel)).at k hlt
    have HN := Lib.hid (fun h => all14_no hlt h)
    have HY : Hid (L[k].length = 14 → ∀ j (h : j < L.length), j < k + 1 → L[j].length = 14) := Lib.hid (fun h j hj hlt2 => by
     by_cases e : j = k
     ·subst e; exact h
     ·exact HA.out j hj (by omega))
    have kc := Lc hc
    obtain ⟨pa, pc, rfl⟩ := reads_shape hu
    have hn9 := hu.2.1
    clear hu
    have hbw := btr hbx hbel
    generalize L[k].length = n at *
    by_cases h14 : n = 14
    ·have hq : ((n : Int) != 14) = false := by simp; omega
     have H14 := Lib.hid h14; clear h14
     go_wp2
     go_roundw
     case rel => exact ⟨k + 1, by omega, by go_num, HY.out H14.out, hbel⟩
     case measure => simp [intOf]; omega
    ·have hq : ((n : Int) != 14) = true := by simp; omega
     have H14 := Lib.hid h14; clear h14
     go_wp2
     go_ret
     exact ⟨ret_bool (by rw [HD.out, HO.out, decide_eq_true HLL.out, HN.out H14.out]; rfl), hbw⟩
   ·have H14 := Lib.hid (all14_yes (fun j h => HA.out j h (by omega)))
    have HAF := Lib.hid (fun (i : Nat) (hi : i < c.list.length) W (hW : Below w.heap.size w W) => l12After_any _ _ _ _ c L i W (HR.out.below hW) (HV.out.below hW) HLL.out (all14_at H14.out) HO.out hi)
    have HBE := Lib.hid (fun (v : Value) (A : Nat → Bool) (i : Nat) (hi : i < c.list.length) W (hv : Reads W 1 v 14 (bools (tab A))) => l12Before_any c.list[i] v A W (by have h := insOk_op (codeOk_all HO.out i hi); omega) (fun p hp => knl_in (codeOk_all HO.out i hi) p hp) hv)
    obtain ⟨w3, rfl⟩ : ∃ X, X = wr := ⟨_, rfl⟩
    replace b0 := Kc hbel b0
    replace b1 := Kc hbel b1
    replace b2 := Kc hbel b2
    replace k2 := Lc b2
    replace hbx := btr hbx hbel
    clear HA hbel
    go_wp2_with fail
    clear hlt hk
    go_loopw [6] (fun i wr => ∃ k : Nat, k ≤ L.length ∧ i = .int .i64 k ∧ (∀ j, j < k → covAt c L j = true) ∧ Below w3.heap.size w3 wr) (fun i _ => L.length - (intOf i).toNat)
    case atStart => exact ⟨0, Nat.zero_le _, rfl, fun j h => absurd h (by omega), Bs w3⟩
    case round =>
     obtain ⟨k, hk, rfl, hall, hbel⟩ := hrel
     have HA := Lib.hid hall; clear hall
     have hbw := btr hbx hbel
     by_cases hlt : k < L.length
     ·have hkc : k < c.list.length := by omega
      obtain ⟨b, off, u, rfl, hb, hc, hu⟩ := (HV.out.below hbw).at k hlt
      rw [all14_at H14.out k hlt] at hu
      obtain ⟨pa, pc, rfl⟩ := reads_shape hu
      have kc := Lc hc
      have HN := Lib.hid (fun h => covAll_no (c := c) (L := L) hkc h)
      have HY : Hid (covAt c L k = true → ∀ j, j < k + 1 → covAt c L j = true) := Lib.hid (fun h j hj => by
       by_cases e : j = k
       ·subst e; exact h
       ·exact HA.out j (by omega))
      have HE := Lib.hid (covAt_at c L k hlt)
      have HL14 : Hid (L[k].length = 14) := Lib.hid (all14_at H14.out k hlt)
      have HB14 : Hid ((befAt c L k).length = 14) := Lib.hid (befAt_len hkc)
      have f2 := Kc hbel b2
      have f1 := Kc hbel b1
      have f0 := Kc hbel b0
      have kf := Lc f2
      obtain ⟨e0, e1, e2, e3, e4⟩ := HCC.out k hkc
      replace e0 := Kc hbw e0; replace e1 := Kc hbw e1; replace e2 := Kc hbw e2; replace e3 := Kc hbw e3; replace e4 := Kc hbw e4
      have ke0 := Lc e0
      have HEQF : Hid (befAt c L k = tab (befF c.list[k] (aftF L (flw c.list[k] k)))) := Lib.hid (befAt_at c L k hkc)
      have HSM : Hid (aft L (nxt c.list[k] k) = tab (aftF L (flw c.list[k] k))) := Lib.hid (by rw [← aft_same]; rfl)
      have HA2 := Lib.hid (fun W (hW : Below wr.heap.size wr W) => by
       have h := HAF.out k hkc W (btr hbw hW)
       rw [HSM.out] at h; exact h)
      have HBB := Lib.hid (fun (v : Value) (W : World) (hv : Reads W 1 v 14 (bools (tab (aftF L (flw c.list[k] k))))) => HBE.out v (aftF L (flw c.list[k] k)) k hkc W hv)
      clear HAF HBE
      have hq : (k : Int) < (c.list.length : Int) := by omega
      generalize c.list[k] = x at *
      have HSS := Lib.hid (show ∀ W', Below wr.heap.size wr W' → (fun W' => W'.cell? ⟨b9, off9 + k * 5, none⟩ = some (.int .i64 x.op) ∧ W'.cell? ⟨b9, off9 + k * 5 + 1, none⟩ = some (.int .i64 x.a) ∧ W'.cell? ⟨b9, off9 + k * 5 + 2, none⟩ = some (.int .i64 x.b) ∧ W'.cell? ⟨b9, off9 + k * 5 + 3, none⟩ = some (.int .i64 x.c) ∧ W'.cell? ⟨b9, off9 + k * 5 + 4, none⟩ = some (.int .i64 x.d) ∧ W'.cell? ⟨w.heap.size, 0, none⟩ = some (.slice a0 c.vars.length c0) ∧ W'.cell? ⟨w.heap.size, 1, none⟩ = some (.slice a1 c.arrays.length c1) ∧ W'.cell? ⟨w.heap.size, 2, none⟩ = some (.slice (some ⟨b9, off9, none⟩) c.list.length c2) ∧ W'.cell? ⟨b, off + k, none⟩ = some (.slice pa 14 pc)) W' from fun W' h => ⟨Kc h e0, Kc h e1, Kc h e2, Kc h e3, Kc h e4, Kc h f0, Kc h f1, Kc h f2, Kc h hc⟩)
      go_upto_region 11 with (fail)
      have D2 := Below.drew (Bs wr)
      go_cut [51] (fun s wx => s = .bool (!covAt c L k) ∧ Below wr.heap.size wr wx)
      case first =>
       go_region_held3 (fun W' => W'.cell? ⟨b9, off9 + k * 5, none⟩ = some (.int .i64 x.op) ∧ W'.cell? ⟨b9, off9 + k * 5 + 1, none⟩ = some (.int .i64 x.a) ∧ W'.cell? ⟨b9, off9 + k * 5 + 2, none⟩ = some (.int .i64 x.b) ∧ W'.cell? ⟨b9, off9 + k * 5 + 3, none⟩ = some (.int .i64 x.c) ∧ W'.cell? ⟨b9, off9 + k * 5 + 4, none⟩ = some (.int .i64 x.d) ∧ W'.cell? ⟨w.heap.size, 0, none⟩ = some (.slice a0 c.vars.length c0) ∧ W'.cell? ⟨w.heap.size, 1, none⟩ = some (.slice a1 c.arrays.length c1) ∧ W'.cell? ⟨w.heap.size, 2, none⟩ = some (.slice (some ⟨b9, off9, none⟩) c.list.length c2) ∧ W'.cell? ⟨b, off + k, none⟩ = some (.slice pa 14 pc)) (first | exact HSS.out _ (btr (btr D2 ba) bb) | exact HSS.out _ (btr D2 ba) | exact HSS.out _ D2) (first | (go_at_call 87; refine (HA2.out _ D2).mono ?_; rintro e wa ⟨ga, rfl, oa, ba⟩) | (go_at_call 86; refine (HBB.out _ _ (Ro oa (by omega))).mono ?_; rintro e wb ⟨gb, cb', rfl, ob, bb⟩) | (go_at_call 85; refine (l9Below_any _ _ L[k] (befAt c L k) _ (by rw [HL14.out]; exact hu.below (btr (btr D2 ba) bb)) (by rw [HB14.out, HEQF.out]; exact Ro ob (by omega)) (by rw [HL14.out, HB14.out]; omega) (by rw [HL14.out]; omega)).mono ?_; rintro e w5 ⟨rfl, rfl⟩))
       all_goals (go_wp2_with fail; go_meet; exact ⟨by rw [HE.out], btr (btr D2 ba) bb⟩)
      obtain ⟨w5, rfl⟩ : ∃ W, W = wc := ⟨_, rfl⟩
      obtain ⟨rfl, hb5⟩ := hcut
      have hbe := btr hbel hb5
      have hbf := btr hbw hb5
      clear D2 hb5 e0 e1 e2 e3 e4 ke0 hc HBB HA2
      cases hcv : covAt c L k with
      | true =>
       have HC := Lib.hid hcv; clear hcv
       go_wp2
       go_roundw
       case rel => exact ⟨k + 1, by omega, by go_num, HY.out HC.out, hbe⟩
       case measure => simp [intOf]; omega
      | false =>
       have HC := Lib.hid hcv; clear hcv
       go_wp2
       go_ret
       exact ⟨ret_bool (by rw [HD.out, HO.out, decide_eq_true HLL.out, H14.out, HN.out HC.out]; rfl), hbf⟩
     ·have HZ := Lib.hid (covAll_yes (c := c) (L := L) (fun j h => HA.out j (by omega)))
      go_wp2
      go_ret
      exact ⟨ret_bool (by rw [HD.out, HO.out, decide_eq_true HLL.out, H14.out, HZ.out]; rfl), hbw⟩
end Go.Proofs.Ytkjedgnepnbkpaa
namespace Go.Proofs.Ytkjedgnepnbkpaa
open Go.RowKit

theorem cov_leq {xs ys : List Bool} (h : cov xs ys = true) (hy : ys.length = 14) : leq ys xs := by
 intro r hr hb
 unfold cov at h
 have := List.all_eq_true.1 h r (List.mem_range.2 (by omega))
 rw [hb] at this
 simpa using this
theorem swps_le {c : Cd} {L : List (List Bool)} (hlen : L.length = c.list.length) (hc : ∀ k, k < c.list.length → leq (befAt c L k) ((L[k]?).getD [])) : ∀ (n k : Nat), leq (((swps c n)[k]?).getD []) ((L[k]?).getD []) := by
 have hto : ∀ (m : Nat) (M : List (List Bool)), m ≤ c.list.length → (∀ k : Nat, leq ((M[k]?).getD []) ((L[k]?).getD [])) → ∀ k : Nat, leq (((swpTo c m M)[k]?).getD []) ((L[k]?).getD []) := by
  intro m
  induction m with
  | zero => intro M _ h; exact h
  | succ m ih =>
   intro M hm h
   rw [swpTo_step]
   refine ih _ (by omega) (fun k => ?_)
   rw [List.getElem?_set]
   by_cases e : m = k
   ·subst e
    rw [if_pos rfl]
    split
    ·exact leq_trans (befAt_mono h m) (hc m (by omega))
    ·intro r _ hb; simp at hb
   ·rw [if_neg e]; exact h k
 intro n
 induction n with
 | zero =>
  intro k r hr hb
  simp only [swps, zeroL] at hb
  by_cases hk : k < c.list.length
  ·rw [List.getElem?_replicate, if_pos hk, Option.getD_some, tab_getD _ _ hr] at hb; cases hb
  ·rw [List.getElem?_replicate, if_neg hk] at hb; simp at hb
 | succ n ih => exact hto _ _ (Nat.le_refl _) ih
theorem law_check {c : Cd} {L : List (List Bool)} (h : checkR c L = true) : codeOk c = true ∧ (liveR c).length = L.length ∧ L.length = c.list.length ∧ (∀ k (hk : k < L.length), L[k].length = 14) ∧ (∀ k (hk : k < (liveR c).length), (liveR c)[k].length = 14) ∧ ∀ k : Nat, leq (((liveR c)[k]?).getD []) ((L[k]?).getD []) := by
 unfold checkR at h
 simp only [Bool.and_eq_true] at h
 obtain ⟨h1, h2, h3, h4⟩ := h
 have hlen := of_decide_eq_true h2
 have h14 := all14_at h3
 rw [liveR_yes h1]
 have hi := live_inv c
 refine ⟨h1, by rw [hi.len, hlen], hlen, h14, hi.rows, fun k => swps_le hlen (fun j hj => ?_) _ k⟩
 have hjl : j < L.length := by omega
 unfold covAll at h4
 have := List.all_eq_true.1 h4 j (List.mem_range.2 hj)
 rw [covAt_at c L j hjl] at this
 rw [List.getElem?_eq_getElem hjl, Option.getD_some]
 exact cov_leq this (befAt_len hj)

end Go.Proofs.Ytkjedgnepnbkpaa
namespace Go.Proofs.Ytkjedgnepnbkpaa
open Go.RowKit

/-- what DrawCheckLive gives -/
def DrawCLP (w : World) (r : Ending) (w' : World) : Prop := ∃ (va vb vc u : Value) (nv na nl : Nat) (L : List (List Bool)), r = .returned (.tuple #[.agg #[va, vb, vc], u]) ∧ DrawC w' w.heap.size va vb vc nv na nl ∧ (nv ≤ 1000 ∧ na ≤ 1000 ∧ nl ≤ 1000) ∧ (Reads2 bools w' u L ∧ L.length ≤ 1000 ∧ ∀ r ∈ L, r.length ≤ 14) ∧ Below w.heap.size w w'
theorem liveD {w : World} {base : Nat} {c : Cd} {u : Value} {us : List Value} (h : Own2B w base u us (liveR c)) : LvD w base u us (liveR c).length := by
 refine ⟨liveR c, rfl, fun r hr => ?_, h⟩
 obtain ⟨k, hk, rfl⟩ := List.getElem_of_mem hr
 by_cases hok : codeOk c = true
 ·have hi := (live_inv c).rows
  have e := liveR_yes hok
  revert hk
  rw [e]
  intro hk _
  exact hi k hk
 ·have e := liveR_no (c := c) (by cases h : codeOk c <;> simp_all)
  revert hk
  rw [e]
  intro hk _
  exact absurd hk (by simp)
end Go.Proofs.Ytkjedgnepnbkpaa
