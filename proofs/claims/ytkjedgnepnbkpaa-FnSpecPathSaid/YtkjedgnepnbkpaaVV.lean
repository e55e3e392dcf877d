/-
 Parts of the proof of the law FnSpecPath.
-/
import Derived.Test.YtkjedgnepnbkpaaVB
import Derived.Test.YtkjedgnepnbkpaaVS
import Derived.Test.YtkjedgnepnbkpaaVU
set_option linter.all false
namespace Go.Proofs.Ytkjedgnepnbkpaa
open Go.RowKit

set_option maxHeartbeats 3200000 in
theorem sCodeValid_any (va vb vc : Value) (c : Cd) (w : World) (hr : ReadsC w va vb vc c) :
  Calls Try.prog 57 #[.agg #[va, vb, vc]] w fun e w' => e = .returned (.bool (codeOk c)) ∧ Below w.heap.size w w' := by
 obtain ⟨a0, c0, a1, c1, a2, c2, rfl, rfl, rfl⟩ := hr.shape
 have HD : Hid (codeOk c = (declOk c.vars c.arrays && (wi c.list.length 1 400 && (c.list.all (insOk c.vars.length c.arrays.length c.list.length) && lastOk c.list)))) := Lib.hid (by unfold codeOk wi; rw [show decide (1 ≤ c.list.length ∧ c.list.length ≤ 400) = decide ((1 : Int) ≤ c.list.length ∧ (c.list.length : Int) ≤ 400) from by rw [decide_eq_decide]; omega])
 generalize codeOk c = D at *
 have hbx := bal (Bs w) (.cells #[.slice a0 c.vars.length c0, .slice a1 c.arrays.length c1, .slice a2 c.list.length c2] 26)
 go_enter Try.func57, Try.ntmps57
 go_wp2_with fail
 refine (l6Heads_any a0 a1 a2 _ _ _ c0 c1 c2 _).mono ?_
 rintro e w1 ⟨rfl, hb⟩
 have b0 : w1.cell? ⟨w.heap.size, 0, none⟩ = some (.slice a0 c.vars.length c0) := Kc hb (Wc (by simp) (by rfl))
 have b1 : w1.cell? ⟨w.heap.size, 1, none⟩ = some (.slice a1 c.arrays.length c1) := Kc hb (Wc (by simp) (by rfl))
 have b2 : w1.cell? ⟨w.heap.size, 2, none⟩ = some (.slice a2 c.list.length c2) := Kc hb (Wc (by simp) (by rfl))
 replace hbx := btr hbx hb
 clear hb
 go_wp2_with fail
 refine (l2Heads_any _ _ c.vars c.arrays none 0 0 _ (hr.below hbx).a (hr.below hbx).b).mono ?_
 rintro e w2 ⟨rfl, hb⟩
 replace b0 := Kc hb b0
 replace b1 := Kc hb b1
 replace b2 := Kc hb b2
 replace hbx := btr hbx hb
 clear hb
 generalize declOk c.vars c.arrays = q1 at *
 cases q1 with
 | false =>
  clear hr
  go_wp2
  go_ret
  exact ⟨ret_bool (by rw [HD.out]; rfl), hbx⟩
 | true =>
  rcases wi_cases c.list.length 1 400 with ⟨l1, hq⟩ | ⟨l1, l2, hq⟩ | ⟨l1, l2, hq⟩
  ·rw [hq] at HD
   clear hr hq
   go_wp2
   go_ret
   exact ⟨ret_bool (by rw [HD.out]; rfl), hbx⟩
  rotate_left
  ·rw [hq] at HD
   clear hr hq
   have l3 : ¬ (c.list.length : Int) < 1 := by omega
   clear l1
   go_wp2
   go_ret
   exact ⟨ret_bool (by rw [HD.out]; rfl), hbx⟩
  rw [hq] at HD
  have l3 : ¬ (c.list.length : Int) < 1 := by omega
  have l4 : ¬ (400 : Int) < (c.list.length : Int) := by omega
  have hrl := (hr.below hbx).l
  clear hq hr
  obtain ⟨_, hn, aa, cap, b, off, hv, hcap, ha, hca⟩ := hrl
  simp only [Value.slice.injEq, true_and] at hv
  obtain ⟨rfl, rfl⟩ := hv
  obtain ⟨rfl, hbs⟩ := ha (by omega)
  have HC := Lib.hid (reads_Instr hca)
  clear hca ha
  go_wp2
  go_loopw [4] (fun i wr => ∃ k : Nat, k ≤ c.list.length ∧ i = .int .i64 k ∧ (∀ j (h : j < c.list.length), j < k → insOk c.vars.length c.arrays.length c.list.length c.list[j] = true) ∧ Below w2.heap.size w2 wr) (fun i _ => c.list.length - (intOf i).toNat)
  case atStart => exact ⟨0, Nat.zero_le _, rfl, fun j _ h => absurd h (by omega), Bs w2⟩
  case round =>
   obtain ⟨k, hk, rfl, hall, hbel⟩ := hrel
   have HA := Lib.hid hall; clear hall
   have g0 := Kc hbel b0
   have g1 := Kc hbel b1
   have g2 := Kc hbel b2
   have k0 := Lc g0
   have hbw := btr hbx hbel
   by_cases hlt : k < c.list.length
   ·obtain ⟨e0, e1, e2, e3, e4⟩ := HC.out k hlt
    have e0 := (hbel.cell (p := ⟨b, off + k * 5, none⟩) hbs).trans e0
    have e1 := (hbel.cell (p := ⟨b, off + k * 5 + 1, none⟩) hbs).trans e1
    have e2 := (hbel.cell (p := ⟨b, off + k * 5 + 2, none⟩) hbs).trans e2
    have e3 := (hbel.cell (p := ⟨b, off + k * 5 + 3, none⟩) hbs).trans e3
    have e4 := (hbel.cell (p := ⟨b, off + k * 5 + 4, none⟩) hbs).trans e4
    have HN := Lib.hid (fun (h : insOk c.vars.length c.arrays.length c.list.length c.list[k] = false) => show c.list.all (insOk c.vars.length c.arrays.length c.list.length) = false by rw [List.all_eq_false]; exact ⟨c.list[k], List.getElem_mem hlt, by simp [h]⟩)
    have HY := Lib.hid (fun (h : insOk c.vars.length c.arrays.length c.list.length c.list[k] = true) => all_succ_ins (P := insOk c.vars.length c.arrays.length c.list.length) hlt HA.out h)
    generalize c.list[k] = x at *
    clear HC b0 b1 b2 hbx
    go_upto_region 7 with (fail)
    have D := Below.drew (Bs wr)
    go_cut [32] (fun s wx => s = .bool (!(insOk c.vars.length c.arrays.length c.list.length x)) ∧ Below wr.heap.size wr wx)
    case first =>
     go_region_with (go_at_call 112; refine (l6Instr_any a0 a1 _ _ _ _ c0 c1 c2 x _).mono ?_; rintro e wb ⟨rfl, bb⟩)
     all_goals (go_wp2_with fail; go_meet; exact ⟨rfl, btr D bb⟩)
    obtain ⟨W5, rfl⟩ : ∃ W, W = wc := ⟨_, rfl⟩
    obtain ⟨rfl, hbc⟩ := hcut
    have hbe := btr hbel hbc
    have hbf := btr hbw hbc
    cases hok : insOk c.vars.length c.arrays.length c.list.length x with
    | true =>
     have HO := Lib.hid hok; clear hok D hbc hbel hbw
     go_wp2
     go_roundw
     case rel => exact ⟨k + 1, by omega, by go_num, HY.out HO.out, hbe⟩
     case measure => simp [intOf]; omega
    | false =>
     have HO := Lib.hid hok; clear hok D hbc hbel hbw
     go_wp2
     go_ret
     exact ⟨ret_bool (by rw [HD.out, HN.out HO.out]; simp), hbf⟩
   ·have HZ : Hid (c.list.all (insOk c.vars.length c.arrays.length c.list.length) = true) := Lib.hid (by rw [List.all_eq_true]; intro x hx; obtain ⟨j, hj, rfl⟩ := List.getElem_of_mem hx; exact HA.out j hj (by omega))
    obtain ⟨e0, _⟩ := HC.out (c.list.length - 1) (by omega)
    have e0 := (hbel.cell (p := ⟨b, off + (c.list.length - 1) * 5, none⟩) hbs).trans e0
    have HL : Hid (lastOk c.list = ((c.list[c.list.length - 1]'(by omega)).op == 13 || (c.list[c.list.length - 1]'(by omega)).op == 8)) := Lib.hid (by unfold lastOk; rw [List.getLast?_eq_getElem?, List.getElem?_eq_getElem (by omega)])
    generalize (c.list[c.list.length - 1]'(by omega)) = x at *
    generalize hm : c.list.length - 1 = m at *
    have hm1 : ((c.list.length : Int) - 1) = (m : Int) := by omega
    have hm2 : m < c.list.length := by omega
    clear hm HC HA b0 b1 b2
    by_cases h13 : (x.op == 13) = true
    ·have HO := Lib.hid h13
     go_wp2
     go_ret
     exact ⟨ret_bool (by rw [HD.out, HZ.out, HL.out, HO.out]; rfl), hbw⟩
    ·have h13' : (x.op == 13) = false := by simpa using h13
     have HO := Lib.hid h13'
     clear h13
     go_wp2
     go_ret
     exact ⟨ret_bool (by rw [HD.out, HZ.out, HL.out, HO.out]; rfl), hbw⟩
end Go.Proofs.Ytkjedgnepnbkpaa
