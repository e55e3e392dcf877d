/-
 Parts of the proofs of the laws FnCheckLive, FnFinalRegs, FnLiveRegister, FnLiveRegs.
-/
import Derived.Test.YtkjedgnepnbkpaaRB
import Derived.Test.YtkjedgnepnbkpaaLA
set_option linter.all false
namespace Go.Proofs.Ytkjedgnepnbkpaa
open Go.RowKit

def usesF (us : List Int) (F : Nat → Bool) (q : Nat) : Bool := us.any (fun u => u == (q : Int)) || F q
theorem usesF_succ (us : List Int) (F : Nat → Bool) (k : Nat) (h : k < us.length) (nu : Nat) (hn : us[k] = (nu : Int)) (q : Nat) : (if q = nu then true else usesF (us.take k) F q) = usesF (us.take (k + 1)) F q := by
 unfold usesF
 rw [List.take_succ_eq_append_getElem h, List.any_append, hn]
 simp only [List.any_cons, List.any_nil, Bool.or_false]
 by_cases e : q = nu
 ·subst e; simp
 ·rw [if_neg e, show ((nu : Int) == (q : Int)) = false from by simp; omega, Bool.or_false]
theorem use_len (x : Ins) : (use x).length ≤ 3 := by unfold use; repeat (first | split | simp)

set_option maxHeartbeats 6400000 in
set_option maxRecDepth 100000 in
theorem liveBefore_any (va vb vc v : Value) (c : Cd) (L : List (List Bool)) (i : Nat) (w : World) (hr : ReadsC w va vb vc c) (hv : Reads2 bools w v L) (hL : L.length = c.list.length) (hrow : ∀ k (h : k < L.length), L[k].length = 14) (hok : codeOk c = true) (hi : i < c.list.length) :
  Calls Try.prog 84 #[.agg #[va, vb, vc], .int .i64 i, v] w fun e w' => ∃ g, e = .returned (.slice (some ⟨g, 0, none⟩) 14 14) ∧ w'.ownsRow w.heap.size 4 1 (.slice (some ⟨g, 0, none⟩) 14 14) 14 (bools (befAt c L i)) ∧ Below w.heap.size w w' := by
 rw [befAt_at c L i hi]
 obtain ⟨a0, c0, a1, c1, a2, c2, rfl, rfl, rfl⟩ := hr.shape
 obtain ⟨a3, c3, rfl⟩ := hv.shape
 obtain ⟨hl1, hl2⟩ := codeOk_len hok
 have hbx := bal (Bs w) (.cells #[.slice a0 c.vars.length c0, .slice a1 c.arrays.length c1, .slice a2 c.list.length c2] 26)
 have HA := Lib.hid (fun W (hW : Below w.heap.size w W) => liveAfter_any _ _ _ _ c L i W (hr.below hW) (hv.below hW) hL hrow hok hi)
 have hin := codeOk_all hok i hi
 have hop := insOk_op hin
 have hwr := wrt_in hin
 have hus := use_in hin
 have hul := use_len c.list[i]
 obtain ⟨_, hn', aa, cap, b', off, hvv, hcap, ha, hca⟩ := hr.l
 simp only [Value.slice.injEq, true_and] at hvv
 obtain ⟨rfl, rfl⟩ := hvv
 obtain ⟨rfl, hbs⟩ := ha (by omega)
 obtain ⟨e0, e1, e2, e3, e4⟩ := reads_Instr hca i hi
 clear hca ha hr hv hL hrow hok hin
 unfold aft at HA
 generalize aftF L (flw c.list[i] i) = A at *
 generalize c.list[i] = x at *
 have hq : (i : Int) < (c.list.length : Int) := by omega
 have HU := Lib.hid hus
 clear hus
 go_enter Try.func84, Try.ntmps84
 go_wp2_with fail
 refine (HA.out _ hbx).mono ?_
 rintro e w1 ⟨g, rfl, ho, hb⟩
 have hz := hb.size
 simp only [Sa] at hz
 have b2 : w1.cell? ⟨w.heap.size, 2, none⟩ = some (.slice (some ⟨b', off, none⟩) c.list.length c2) := Kc hb (Wc rfl rfl)
 have hB := btr hbx hb
 replace e0 := Kc hB e0; replace e1 := Kc hB e1; replace e2 := Kc hB e2; replace e3 := Kc hB e3; replace e4 := Kc hB e4
 have hgi := ho.lt g rfl
 simp only [Sa] at hgi
 replace ho := Om ho (base' := w.heap.size + 1) (by simp)
 have k2 := Lc b2
 have k3 := Lc e0
 clear hb hbx HA
 go_wp2_with fail
 refine (writes_any x _ (by omega)).mono ?_
 rintro e w2 ⟨rfl, hb⟩
 have hz2 := hb.size
 replace ho := Ob ho hb
 replace b2 := Kc hb b2; replace e0 := Kc hb e0; replace e1 := Kc hb e1; replace e2 := Kc hb e2; replace e3 := Kc hb e3; replace e4 := Kc hb e4
 replace hB := btr hB hb
 clear hb
 rcases hwr with hwr | ⟨hw0, hw1⟩
 ·rw [hwr]
  obtain ⟨F0, hF0⟩ : ∃ F0 : Nat → Bool, ∀ q, q < 14 → (A q && !(wrt x == (q : Int))) = F0 q := ⟨A, fun q _ => by rw [hwr, show ((-1 : Int) == (q : Int)) = false from by simp]; simp⟩
  replace ho : w2.ownsRow (w.heap.size + 1) 4 1 (.slice (some ⟨g, 0, none⟩) 14 14) 14 (bools (tab F0)) := by rw [tab_congr (f := F0) (g := A) (fun q hq => by rw [← hF0 q hq, hwr, show ((-1 : Int) == (q : Int)) = false from by simp]; simp)]; exact ho
  clear hwr
  have HT : Hid (tab (befF x A) = tab (usesF (use x) F0)) := Lib.hid (tab_congr (fun q hq => by unfold befF usesF; rw [hF0 q hq]))
  have k2 := Lc b2
  have k3 := Lc e0
  go_wp2_with fail
  refine (uses_any x _ (by omega)).mono ?_
  rintro e w4 ⟨u, rfl, hu, hb⟩
  have hz4 := hb.size
  (try simp only [Ss] at hz4)
  replace ho := Ob ho hb
  replace hB := btr hB hb
  have hui := hu.lt
  (try simp only [Ss] at hui)
  clear hb b2 e0 e1 e2 e3 e4 k2 k3 hF0
  obtain ⟨ua, uc, rfl⟩ := Oh hu
  generalize use x = us at *
  go_wp2_with fail
  go_loopw [33] (fun t wr => ∃ k : Nat, k ≤ us.length ∧ t = .int .i64 k ∧ wr.ownsRow (w.heap.size + 1) 4 1 (.slice (some ⟨g, 0, none⟩) 14 14) 14 (bools (tab (usesF (us.take k) F0))) ∧ Chg (fun q => q = g) w4 wr) (fun t _ => us.length - (intOf t).toNat)
  case atStart => exact ⟨0, Nat.zero_le _, rfl, by rw [tab_congr (g := F0) (fun q _ => by simp [usesF])]; exact ho, Chg.refl _ _⟩
  case round =>
   obtain ⟨k, hk, rfl, hor, hC⟩ := hrel
   have hzr := hC.size
   by_cases hlt : k < us.length
   ·have hu2 := Ow hu hC (fun q hq h => by have := hui q hq; omega)
    obtain ⟨g', c', hgv⟩ := own_pos hu2 (by omega)
    simp only [Value.slice.injEq, true_and] at hgv
    obtain ⟨rfl, rfl⟩ := hgv
    have hcell := hu2.cellAt k (by omega)
    rw [List.getElem?_eq_getElem (by rw [ints_length]; exact hlt), ints_get] at hcell
    obtain ⟨hr0, hr1⟩ := HU.out _ (List.getElem_mem hlt)
    obtain ⟨nu, hnu⟩ : ∃ nu : Nat, us[k] = (nu : Int) := ⟨us[k].toNat, by omega⟩
    rw [hnu] at hcell
    have hn14 : nu < 14 := by omega
    have hout := own_tab_at hor nu hn14
    have hf := hor.frozenAt nu
    have hst := own_tab_set hor nu true (G := usesF (us.take (k + 1)) F0) (fun q hq => usesF_succ us F0 k hlt nu hnu q)
    have hC2 := hC.setCell g nu (.bool true) (fun _ => rfl)
    generalize usesF (us.take k) F0 nu = y at *
    clear hor hC hnu hr0 hr1 ho hu hu2
    go_wp2
    go_roundw
    case rel => exact ⟨k + 1, by omega, by go_num, hst, hC2⟩
    case measure => simp [intOf]; omega
   ·have e : k = us.length := by omega
    subst e
    rw [List.take_length] at hor
    go_wp2
    go_ret
    exact ⟨_, rfl, by rw [HT.out]; exact Om hor (by omega), hB.trans (hC.below w.heap.size hB.size (fun q hq h => by omega))⟩
 ·obtain ⟨nr, hnr⟩ : ∃ nr : Nat, wrt x = (nr : Int) := ⟨(wrt x).toNat, by omega⟩
  have hn14 : nr < 14 := by omega
  rw [hnr]
  obtain ⟨F0, hF0⟩ : ∃ F0 : Nat → Bool, ∀ q, q < 14 → (A q && !(wrt x == (q : Int))) = F0 q := ⟨_, fun q _ => rfl⟩
  have hout := own_tab_at ho nr hn14
  have hf := ho.frozenAt nr
  replace ho := own_tab_set ho nr false (G := F0) (fun q hq => by
   rw [← hF0 q hq, hnr]
   by_cases e : q = nr
   ·subst e; simp
   ·rw [if_neg e, show ((nr : Int) == (q : Int)) = false from by simp; omega]; simp)
  replace hB := bst hB g nr (by omega) (.bool false)
  replace b2 := Nc (b := g) (j := nr) b2 (by omega) (.bool false)
  replace e0 := Nc (b := g) (j := nr) e0 (by omega) (.bool false)
  replace e1 := Nc (b := g) (j := nr) e1 (by omega) (.bool false)
  replace e2 := Nc (b := g) (j := nr) e2 (by omega) (.bool false)
  replace e3 := Nc (b := g) (j := nr) e3 (by omega) (.bool false)
  replace e4 := Nc (b := g) (j := nr) e4 (by omega) (.bool false)
  generalize A nr = y at hout
  clear hw0 hw1 hnr
  have HT : Hid (tab (befF x A) = tab (usesF (use x) F0)) := Lib.hid (tab_congr (fun q hq => by unfold befF usesF; rw [hF0 q hq]))
  have k2 := Lc b2
  have k3 := Lc e0
  go_wp2_with fail
  refine (uses_any x _ (by omega)).mono ?_
  rintro e w4 ⟨u, rfl, hu, hb⟩
  have hz4 := hb.size
  (try simp only [Ss] at hz4)
  replace ho := Ob ho hb
  replace hB := btr hB hb
  have hui := hu.lt
  (try simp only [Ss] at hui)
  clear hb b2 e0 e1 e2 e3 e4 k2 k3 hF0
  obtain ⟨ua, uc, rfl⟩ := Oh hu
  generalize use x = us at *
  go_wp2_with fail
  go_loopw [33] (fun t wr => ∃ k : Nat, k ≤ us.length ∧ t = .int .i64 k ∧ wr.ownsRow (w.heap.size + 1) 4 1 (.slice (some ⟨g, 0, none⟩) 14 14) 14 (bools (tab (usesF (us.take k) F0))) ∧ Chg (fun q => q = g) w4 wr) (fun t _ => us.length - (intOf t).toNat)
  case atStart => exact ⟨0, Nat.zero_le _, rfl, by rw [tab_congr (g := F0) (fun q _ => by simp [usesF])]; exact ho, Chg.refl _ _⟩
  case round =>
   obtain ⟨k, hk, rfl, hor, hC⟩ := hrel
   have hzr := hC.size
   by_cases hlt : k < us.length
   ·have hu2 := Ow hu hC (fun q hq h => by have := hui q hq; omega)
    obtain ⟨g', c', hgv⟩ := own_pos hu2 (by omega)
    simp only [Value.slice.injEq, true_and] at hgv
    obtain ⟨rfl, rfl⟩ := hgv
    have hcell := hu2.cellAt k (by omega)
    rw [List.getElem?_eq_getElem (by rw [ints_length]; exact hlt), ints_get] at hcell
    obtain ⟨hr0, hr1⟩ := HU.out _ (List.getElem_mem hlt)
    obtain ⟨nu, hnu⟩ : ∃ nu : Nat, us[k] = (nu : Int) := ⟨us[k].toNat, by omega⟩
    rw [hnu] at hcell
    have hn14 : nu < 14 := by omega
    have hout := own_tab_at hor nu hn14
    have hf := hor.frozenAt nu
    have hst := own_tab_set hor nu true (G := usesF (us.take (k + 1)) F0) (fun q hq => usesF_succ us F0 k hlt nu hnu q)
    have hC2 := hC.setCell g nu (.bool true) (fun _ => rfl)
    generalize usesF (us.take k) F0 nu = y at *
    clear hor hC hnu hr0 hr1 ho hu hu2
    go_wp2
    go_roundw
    case rel => exact ⟨k + 1, by omega, by go_num, hst, hC2⟩
    case measure => simp [intOf]; omega
   ·have e : k = us.length := by omega
    subst e
    rw [List.take_length] at hor
    go_wp2
    go_ret
    exact ⟨_, rfl, by rw [HT.out]; exact Om hor (by omega), hB.trans (hC.below w.heap.size hB.size (fun q hq h => by omega))⟩
end Go.Proofs.Ytkjedgnepnbkpaa
namespace Go.Proofs.Ytkjedgnepnbkpaa
open Go.RowKit

theorem equalB_any (va vb : Value) (xs ys : List Bool) (w : World) (ha : Reads w 1 va xs.length (bools xs)) (hb : Reads w 1 vb ys.length (bools ys)) :
  Calls Try.prog 129 #[va, vb] w fun e w' => e = .returned (.bool (decide (xs = ys))) ∧ Below w.heap.size w w' := by
 obtain ⟨_, hn, a, cap, b, off, rfl, hcap, ha, hca⟩ := ha
 obtain ⟨_, hn', a', cap', b', off', rfl, hcap', ha', hcb⟩ := hb
 by_cases hl : xs.length = ys.length
 ·have e0 : ((xs.length : Int) != (ys.length : Int)) = false := by simp [hl]
  have HL := Lib.hid hl; clear hl
  go_enter Try.func129, Try.ntmps129
  go_wp2
  go_loopw [13] (fun i wr => ∃ k : Nat, k ≤ xs.length ∧ i = .int .i64 k ∧ xs.take k = ys.take k ∧ ∃ d, wr = w.drewN d) (fun i _ => xs.length - (intOf i).toNat)
  case atStart => exact ⟨0, Nat.zero_le _, rfl, rfl, 0, rfl⟩
  case round =>
   obtain ⟨k, hk, rfl, he, d, rfl⟩ := hrel
   have HE := Lib.hid he; clear he
   by_cases hlt : k < xs.length
   ·obtain ⟨rfl, hbs⟩ := ha (by omega)
    obtain ⟨rfl, hbs'⟩ := ha' (by have := HL.out; omega)
    have hlt' : k < ys.length := by have := HL.out; omega
    have hc1 := hca k (by simpa [bools] using hlt)
    have hc2 := hcb k (by simpa [bools] using hlt')
    rw [bools_get] at hc1 hc2
    clear hca hcb ha ha'
    by_cases hxy : xs[k] = ys[k]
    ·have e1 : (!(xs[k] == ys[k])) = false := by simp [hxy]
     clear hxy
     go_wp2
     go_quiet (fail)
     go_wp2
     go_roundw
     case rel => exact ⟨k + 1, by omega, by go_num, take_succ_eq hlt hlt' HE.out (by simpa using e1), _, rfl⟩
     case measure => simp [intOf]; omega
    ·have e1 : (!(xs[k] == ys[k])) = true := by simp [hxy]
     have HX := Lib.hid hxy; clear hxy
     go_wp2
     go_quiet (fail)
     go_wp2
     go_ret
     exact ⟨ret_bool (decide_eq_false (fun h => HX.out (by subst h; rfl))).symm, by rw [World.drewN_drewN]; exact below_drewN' w _⟩
   ·go_wp2
    go_ret
    exact ⟨ret_bool (decide_eq_true (by have h := HE.out; rwa [List.take_of_length_le (by omega), List.take_of_length_le (by have := HL.out; omega)] at h)).symm, below_drewN' w _⟩
 ·have e0 : ((xs.length : Int) != (ys.length : Int)) = true := by simp; omega
  have HL := Lib.hid hl; clear hl
  go_enter Try.func129, Try.ntmps129
  go_wp2
  go_ret
  exact ⟨ret_bool (decide_eq_false (fun h => HL.out (by rw [h]))).symm, Bs w⟩

theorem l12Same_any (va vb : Value) (xs ys : List Bool) (w : World) (ha : Reads w 1 va xs.length (bools xs)) (hb : Reads w 1 vb ys.length (bools ys)) :
  Calls Try.prog 130 #[va, vb] w fun e w' => e = .returned (.bool (decide (xs = ys))) ∧ Below w.heap.size w w' := by
 obtain ⟨_, hn, a, cap, b, off, rfl, hcap, ha, hca⟩ := ha
 obtain ⟨_, hn', a', cap', b', off', rfl, hcap', ha', hcb⟩ := hb
 by_cases hl : xs.length = ys.length
 ·have e0 : ((xs.length : Int) != (ys.length : Int)) = false := by simp [hl]
  have HL := Lib.hid hl; clear hl
  go_enter Try.func130, Try.ntmps130
  go_wp2
  go_loopw [5] (fun i wr => ∃ k : Nat, k ≤ xs.length ∧ i = .int .i64 k ∧ xs.take k = ys.take k ∧ ∃ d, wr = w.drewN d) (fun i _ => xs.length - (intOf i).toNat)
  case atStart => exact ⟨0, Nat.zero_le _, rfl, rfl, 0, rfl⟩
  case round =>
   obtain ⟨k, hk, rfl, he, d, rfl⟩ := hrel
   have HE := Lib.hid he; clear he
   by_cases hlt : k < xs.length
   ·obtain ⟨rfl, hbs⟩ := ha (by omega)
    obtain ⟨rfl, hbs'⟩ := ha' (by have := HL.out; omega)
    have hlt' : k < ys.length := by have := HL.out; omega
    have hc1 := hca k (by simpa [bools] using hlt)
    have hc2 := hcb k (by simpa [bools] using hlt')
    rw [bools_get] at hc1 hc2
    clear hca hcb ha ha'
    by_cases hxy : xs[k] = ys[k]
    ·have e1 : (!(xs[k] == ys[k])) = false := by simp [hxy]
     clear hxy
     go_wp2
     go_quiet (fail)
     go_wp2
     go_roundw
     case rel => exact ⟨k + 1, by omega, by go_num, take_succ_eq hlt hlt' HE.out (by simpa using e1), _, rfl⟩
     case measure => simp [intOf]; omega
    ·have e1 : (!(xs[k] == ys[k])) = true := by simp [hxy]
     have HX := Lib.hid hxy; clear hxy
     go_wp2
     go_quiet (fail)
     go_wp2
     go_ret
     exact ⟨ret_bool (decide_eq_false (fun h => HX.out (by subst h; rfl))).symm, by rw [World.drewN_drewN]; exact below_drewN' w _⟩
   ·go_wp2
    go_ret
    exact ⟨ret_bool (decide_eq_true (by have h := HE.out; rwa [List.take_of_length_le (by omega), List.take_of_length_le (by have := HL.out; omega)] at h)).symm, below_drewN' w _⟩
 ·have e0 : ((xs.length : Int) != (ys.length : Int)) = true := by simp; omega
  have HL := Lib.hid hl; clear hl
  go_enter Try.func130, Try.ntmps130
  go_wp2
  go_ret
  exact ⟨ret_bool (decide_eq_false (fun h => HL.out (by rw [h]))).symm, Bs w⟩
end Go.Proofs.Ytkjedgnepnbkpaa
namespace Go.Proofs.Ytkjedgnepnbkpaa
open Go.RowKit

theorem info_bools : (Try.prog.info? 66).map (fun i => (i.zero, i.size, i.bytes)) = some (some (.slice none 0 0), 1, 24) := by kernel_rfl
theorem tBoolSS : SliceT Try.prog 60 66 (.slice none 0 0) 1 24 := ⟨Try.underlying60, info_bools, rfl, by omega, by omega⟩
theorem mk_boolS (n : Nat) (h : n ≤ 1073741824) (u : World) : (Instr.makeSlice 60 (.int .i64 n) (.int .i64 n)).run Try.prog u =
  .ok (.slice (some ⟨u.heap.size, 0, none⟩) n n) (u.alloc (.cells (madeCells #[.slice none 0 0] n) 66)) := by
 obtain ⟨i0, hi, hz0, hz1, hz2⟩ := info_parts info_bools
 have h := run_make (P := Try.prog) u 60 66 i0 (.slice none 0 0) Try.underlying60 hi hz0 .i64 .i64 n n (by omega) (Int.le_refl _) (by rw [hz2]; omega) (by omega)
 rw [Int.toNat_natCast, hz1, Nat.mul_one] at h
 exact h
end Go.Proofs.Ytkjedgnepnbkpaa
