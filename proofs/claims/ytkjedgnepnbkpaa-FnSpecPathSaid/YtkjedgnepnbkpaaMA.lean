/-
 Parts of the proof of the law FnSpecPath.
-/
import Derived.Test.YtkjedgnepnbkpaaRS
import Derived.Test.YtkjedgnepnbkpaaZ
set_option linter.all false
namespace Go.Proofs.Ytkjedgnepnbkpaa
open Go.RowKit

theorem vals_all {xs : List Int} (h : ∀ j (h : j < xs.length), valOk xs[j] = true) : valsOk xs = true := by
 unfold valsOk; rw [List.all_eq_true]
 intro x hx
 obtain ⟨j, hj, rfl⟩ := List.getElem_of_mem hx
 exact h j hj
theorem vals_no {xs : List Int} {j : Nat} (h : j < xs.length) (hx : valOk xs[j] = false) : valsOk xs = false := by
 unfold valsOk; rw [List.all_eq_false]
 exact ⟨_, List.getElem_mem h, by simp [hx]⟩
theorem notVal_any (n : Int) (w : World) :
  Calls Try.prog 121 #[.int .i64 n] w fun e w' => e = .returned (.bool (!valOk n)) ∧ Below w.heap.size w w' := by
 go_enter Try.func121, Try.ntmps121
 go_wp2_with fail
 refine (within_any n 0 255 _).mono ?_
 rintro e w1 ⟨rfl, hb⟩
 go_wp2
 go_ret
 exact ⟨rfl, hb⟩
theorem idxVal_any (v : Value) (xs : List Int) (w : World) (hr : Reads w 1 v xs.length (ints xs)) :
  Calls Try.prog 155 #[v, .func (.func 121) #[] #[]] w fun e w' => ∃ r : Int, e = .returned (.int .i64 r) ∧ decide (0 ≤ r) = !valsOk xs ∧ Below w.heap.size w w' := by
 obtain ⟨_, hn, a, cap, b, off, rfl, hcap, ha, hca⟩ := hr
 go_enter Try.func155, Try.ntmps155
 go_wp2
 go_loopw [8] (fun i wr => ∃ k : Nat, k ≤ xs.length ∧ i = .int .i64 k ∧ (∀ j (h : j < xs.length), j < k → valOk xs[j] = true) ∧ Below w.heap.size w wr) (fun i _ => xs.length - (intOf i).toNat)
 case atStart => exact ⟨0, Nat.zero_le _, rfl, fun j _ h => absurd h (by omega), Below.refl _ _⟩
 case round =>
  obtain ⟨k, hk, rfl, hall, hbel⟩ := hrel
  have HA := Lib.hid hall; clear hall
  by_cases hlt : k < xs.length
  ·obtain ⟨rfl, hbs⟩ := ha (by omega)
   have hc1 := hca k (by simpa [ints] using hlt)
   rw [ints_get] at hc1
   have hc1 := (hbel.cell (p := ⟨b, off + k, none⟩) hbs).trans hc1
   clear hca ha
   generalize hx : xs[k] = x at hc1
   have HX := Lib.hid hx; clear hx
   go_wp2_with fail
   refine (notVal_any x _).mono ?_
   rintro e w1 ⟨rfl, hb⟩
   have hb2 := btr hbel hb
   cases hok : valOk x with
   | true =>
    have HO := Lib.hid hok; clear hok hb hbel
    go_wp2
    go_roundw
    case rel => exact ⟨k + 1, by omega, by go_num, all_succ (P := fun j x => valOk x = true) hlt HA.out (by rw [HX.out]; exact HO.out), hb2⟩
    case measure => simp [intOf]; omega
   | false =>
    have HO := Lib.hid hok; clear hok hb hbel
    go_wp2
    go_ret
    exact ⟨(k : Int), rfl, by rw [vals_no hlt (by rw [HX.out]; exact HO.out)]; simp, hb2⟩
  ·go_wp2
   go_ret
   exact ⟨-1, rfl, by rw [vals_all (fun j h => HA.out j h (by omega))]; rfl, hbel⟩
theorem hasVal_any (v : Value) (xs : List Int) (w : World) (hr : Reads w 1 v xs.length (ints xs)) :
  Calls Try.prog 120 #[v, .func (.func 121) #[] #[]] w fun e w' => e = .returned (.bool (!valsOk xs)) ∧ Below w.heap.size w w' := by
 go_enter Try.func120, Try.ntmps120
 go_wp2_with fail
 refine (idxVal_any _ xs _ hr).mono ?_
 rintro e w1 ⟨r, rfl, hr1, hb⟩
 clear hr
 go_wp2
 go_ret
 exact ⟨rfl, hb⟩
theorem areValues_any (v : Value) (xs : List Int) (w : World) (hr : Reads w 1 v xs.length (ints xs)) :
  Calls Try.prog 70 #[v] w fun e w' => e = .returned (.bool (valsOk xs)) ∧ Below w.heap.size w w' := by
 go_enter Try.func70, Try.ntmps70
 go_wp2_with fail
 refine (hasVal_any _ xs _ hr).mono ?_
 rintro e w1 ⟨rfl, hb⟩
 clear hr
 go_wp2
 go_ret
 exact ⟨ret_bool (by simp), hb⟩
end Go.Proofs.Ytkjedgnepnbkpaa
namespace Go.Proofs.Ytkjedgnepnbkpaa
open Go.RowKit

def arrOk (a : List Int) : Bool := decide (a.length = 4) && valsOk a
def arrsOk (rs : List (List Int)) : Bool := rs.all arrOk
theorem memOk_eq (nv na : Nat) (m : Mm) : memOk nv na m = (decide (m.vals.length = nv) && (decide (m.arrs.length = na) && (valsOk m.vals && arrsOk m.arrs))) := rfl
theorem arrs_no {L : List (List Int)} {k : Nat} (h : k < L.length) (h2 : arrOk L[k] = false) : arrsOk L = false := by
 unfold arrsOk; rw [List.all_eq_false]
 exact ⟨_, List.getElem_mem h, by simp [h2]⟩
theorem arrs_yes {L : List (List Int)} (h : ∀ k (hk : k < L.length), arrOk L[k] = true) : arrsOk L = true := by
 unfold arrsOk; rw [List.all_eq_true]
 intro r hr
 obtain ⟨k, hk, rfl⟩ := List.getElem_of_mem hr
 exact h k hk
theorem arrOk_len {a : List Int} (h : ¬ a.length = 4) : arrOk a = false := by unfold arrOk; rw [decide_eq_false h]; rfl
theorem arrOk_vals {a : List Int} (h : a.length = 4) : arrOk a = valsOk a := by unfold arrOk; rw [decide_eq_true h]; rfl

theorem l3Values_any (v : Value) (xs : List Int) (w : World) (hr : Reads w 1 v xs.length (ints xs)) :
  Calls Try.prog 114 #[v] w fun e w' => e = .returned (.bool (valsOk xs)) ∧ w' = w := by
 obtain ⟨_, hn, a, cap, b, off, rfl, hcap, ha, hca⟩ := hr
 go_enter Try.func114, Try.ntmps114
 go_wp2
 go_loop [3] (fun i => ∃ k : Nat, k ≤ xs.length ∧ i = .int .i64 k ∧ (∀ j (h : j < xs.length), j < k → valOk xs[j] = true)) (fun i => xs.length - (intOf i).toNat)
 case atStart => exact ⟨0, Nat.zero_le _, rfl, fun j _ h => absurd h (by omega)⟩
 case round =>
  obtain ⟨k, hk, rfl, hall⟩ := hrel
  have HA := Lib.hid hall; clear hall
  by_cases hlt : k < xs.length
  ·obtain ⟨rfl, hbs⟩ := ha (by omega)
   have hc1 := hca k (by simpa [ints] using hlt)
   rw [ints_get] at hc1
   have HN := Lib.hid (fun h => vals_no hlt h)
   have HY : Hid (valOk xs[k] = true → ∀ j (h : j < xs.length), j < k + 1 → valOk xs[j] = true) := Lib.hid (fun h j hj hlt2 => by
    by_cases e : j = k
    ·subst e; exact h
    ·exact HA.out j hj (by omega))
   clear hca ha
   generalize xs[k] = x at *
   by_cases h0 : x < 0
   ·have HV : Hid (valOk x = false) := Lib.hid (decide_eq_false (p := 0 ≤ x ∧ x ≤ 255) (by omega))
    go_wp2
    go_ret
    exact ⟨ret_bool (HN.out HV.out).symm, rfl⟩
   ·by_cases h1 : 255 < x
    ·have HV : Hid (valOk x = false) := Lib.hid (decide_eq_false (p := 0 ≤ x ∧ x ≤ 255) (by omega))
     go_wp2
     go_ret
     exact ⟨ret_bool (HN.out HV.out).symm, rfl⟩
    ·have HV : Hid (valOk x = true) := Lib.hid (decide_eq_true (p := 0 ≤ x ∧ x ≤ 255) (by omega))
     go_wp2
     go_round
     case rel => exact ⟨k + 1, by omega, by go_num, HY.out HV.out⟩
     case measure => simp [intOf]; omega
  ·have HZ := Lib.hid (vals_all (fun j h => HA.out j h (by omega)))
   go_wp2
   go_ret
   exact ⟨ret_bool HZ.out.symm, rfl⟩

theorem notArr_any (u : Value) (xs : List Int) (w : World) (hu : Reads w 1 u xs.length (ints xs)) :
  Calls Try.prog 123 #[u] w fun e w' => e = .returned (.bool (!arrOk xs)) ∧ Below w.heap.size w w' := by
 have hu2 := hu
 obtain ⟨a, c, rfl⟩ := reads_shape hu
 have hn := hu.2.1
 by_cases h : xs.length = 4
 ·have hd : ((xs.length : Int) != 4) = false := by simp; omega
  have HA := Lib.hid (arrOk_vals h)
  have HR := Lib.hid hu2
  clear h hu hu2
  go_enter Try.func123, Try.ntmps123
  go_wp2_with fail
  refine (areValues_any _ xs _ HR.out).mono ?_
  rintro e w1 ⟨rfl, hb⟩
  go_wp2
  go_ret
  exact ⟨ret_bool (by rw [HA.out]), hb⟩
 ·have hd : ((xs.length : Int) != 4) = true := by simp; omega
  have HA := Lib.hid (arrOk_len h)
  clear h hu hu2
  go_enter Try.func123, Try.ntmps123
  go_wp2
  go_ret
  exact ⟨ret_bool (by rw [HA.out]; rfl), Bs w⟩
theorem idxArr_any (v : Value) (L : List (List Int)) (w : World) (hr : Reads2 ints w v L) :
  Calls Try.prog 156 #[v, .func (.func 123) #[] #[]] w fun e w' => ∃ r : Int, e = .returned (.int .i64 r) ∧ decide (0 ≤ r) = !arrsOk L ∧ Below w.heap.size w w' := by
 obtain ⟨a, c, rfl⟩ := hr.shape
 have hn := hr.lenle
 have HR := Lib.hid hr
 clear hr
 go_enter Try.func156, Try.ntmps156
 go_wp2
 go_loopw [8] (fun i wr => ∃ k : Nat, k ≤ L.length ∧ i = .int .i64 k ∧ (∀ j (h : j < L.length), j < k → arrOk L[j] = true) ∧ Below w.heap.size w wr) (fun i _ => L.length - (intOf i).toNat)
 case atStart => exact ⟨0, Nat.zero_le _, rfl, fun j _ h => absurd h (by omega), Bs w⟩
 case round =>
  obtain ⟨k, hk, rfl, hall, hbel⟩ := hrel
  have HA := Lib.hid hall; clear hall
  by_cases hlt : k < L.length
  ·obtain ⟨b, off, u, rfl, hb, hc, hu⟩ := (HR.out.below hbel).at k hlt
   have HN := Lib.hid (fun h => arrs_no hlt h)
   have HY : Hid (arrOk L[k] = true → ∀ j (h : j < L.length), j < k + 1 → arrOk L[j] = true) := Lib.hid (fun h j hj hlt2 => by
    by_cases e : j = k
    ·subst e; exact h
    ·exact HA.out j hj (by omega))
   have kc := Lc hc
   have HU := Lib.hid (notArr_any u L[k] _ hu)
   generalize arrOk L[k] = q at *
   clear hu
   go_wp2_with fail
   refine HU.out.mono ?_
   rintro e w1 ⟨rfl, hb1⟩
   have hb2 := btr hbel hb1
   clear hc HU
   cases q with
   | true =>
    clear hb1 hbel
    go_wp2
    go_roundw
    case rel => exact ⟨k + 1, by omega, by go_num, HY.out (by trivial), hb2⟩
    case measure => simp [intOf]; omega
   | false =>
    clear hb1 hbel
    go_wp2
    go_ret
    exact ⟨(k : Int), rfl, by rw [HN.out (by trivial)]; simp, hb2⟩
  ·go_wp2
   go_ret
   exact ⟨-1, rfl, by rw [arrs_yes (fun j h => HA.out j h (by omega))]; rfl, hbel⟩
theorem hasArr_any (v : Value) (L : List (List Int)) (w : World) (hr : Reads2 ints w v L) :
  Calls Try.prog 122 #[v, .func (.func 123) #[] #[]] w fun e w' => e = .returned (.bool (!arrsOk L)) ∧ Below w.heap.size w w' := by
 go_enter Try.func122, Try.ntmps122
 go_wp2_with fail
 refine (idxArr_any _ L _ hr).mono ?_
 rintro e w1 ⟨r, rfl, hr1, hb⟩
 clear hr
 go_wp2
 go_ret
 exact ⟨rfl, hb⟩

set_option maxHeartbeats 1600000 in
theorem isMemory_any (va vb vx vy : Value) (xs ys : List Int) (m : Mm) (w : World) (ha : Reads w 1 va xs.length (ints xs)) (hb : Reads w 1 vb ys.length (ints ys)) (hx : Reads w 1 vx m.vals.length (ints m.vals)) (hy : Reads2 ints w vy m.arrs) :
  Calls Try.prog 71 #[va, vb, .agg #[vx, vy]] w fun e w' => e = .returned (.bool (memOk xs.length ys.length m)) ∧ Below w.heap.size w w' := by
 have n0 := ha.2.1
 have n1 := hb.2.1
 have n2 := hx.2.1
 have n3 := hy.lenle
 obtain ⟨a0, c0, rfl⟩ := reads_shape ha
 obtain ⟨a1, c1, rfl⟩ := reads_shape hb
 have HX := Lib.hid hx
 have HY := Lib.hid hy
 obtain ⟨a2, c2, rfl⟩ := reads_shape hx
 obtain ⟨a3, c3, rfl⟩ := hy.shape
 clear ha hb hx hy
 have HD := Lib.hid (memOk_eq xs.length ys.length m)
 generalize memOk xs.length ys.length m = D at *
 have hbx := bal (Bs w) (.cells #[.slice a2 m.vals.length c2, .slice a3 m.arrs.length c3] 37)
 by_cases h1 : m.vals.length = xs.length
 rotate_left
 ·have e1 : ((m.vals.length : Int) != (xs.length : Int)) = true := by simp; omega
  have H1 := Lib.hid h1; clear h1
  go_enter Try.func71, Try.ntmps71
  go_wp2
  go_ret
  exact ⟨ret_bool (by rw [HD.out, decide_eq_false H1.out]; rfl), hbx⟩
 have e1 : ((m.vals.length : Int) != (xs.length : Int)) = false := by simp; omega
 have H1 := Lib.hid h1; clear h1
 by_cases h2 : m.arrs.length = ys.length
 rotate_left
 ·have e2 : ((m.arrs.length : Int) != (ys.length : Int)) = true := by simp; omega
  have H2 := Lib.hid h2; clear h2
  go_enter Try.func71, Try.ntmps71
  go_wp2
  go_ret
  exact ⟨ret_bool (by rw [HD.out, decide_eq_true H1.out, decide_eq_false H2.out]; rfl), hbx⟩
 have e2 : ((m.arrs.length : Int) != (ys.length : Int)) = false := by simp; omega
 have H2 := Lib.hid h2; clear h2
 go_enter Try.func71, Try.ntmps71
 go_wp2_with fail
 refine (areValues_any _ m.vals _ (HX.out.below hbx)).mono ?_
 rintro e w1 ⟨rfl, hb⟩
 have b1 : w1.cell? ⟨w.heap.size, 1, none⟩ = some (.slice a3 m.arrs.length c3) := Kc hb (Wc (by simp) (by rfl))
 have kb := Lc b1
 replace hbx := btr hbx hb
 clear hb
 generalize valsOk m.vals = q at *
 cases q with
 | false =>
  go_wp2
  go_ret
  exact ⟨ret_bool (by rw [HD.out, decide_eq_true H1.out, decide_eq_true H2.out]; rfl), hbx⟩
 | true =>
  go_wp2_with fail
  refine (hasArr_any _ m.arrs _ (HY.out.below hbx)).mono ?_
  rintro e w2 ⟨rfl, hb⟩
  go_wp2
  go_ret
  exact ⟨ret_bool (by rw [HD.out, decide_eq_true H1.out, decide_eq_true H2.out]; simp), btr hbx hb⟩
end Go.Proofs.Ytkjedgnepnbkpaa
