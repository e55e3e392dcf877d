/-
  Parts of the proof of the law FnExactRunTime.
-/
import Derived.Test.YtbglogjamfdmpaaV
namespace Go.Proofs.Ytbglogjamfdmpaa
open Go.RowKit

theorem iCacheRun_any (v tv : Value) (xs : List Int) (l : List Ev) (w : World) (hr : Reads w 1 v xs.length (ints xs)) (ht : Reads w 2 tv l.length (evs l)) (hlen : l.length ≤ 1073741824) :
    Calls Try.prog 119 #[.agg #[v], tv] w fun e w' => ∃ u b, e = .returned (.tuple #[.agg #[u], b, .bool (crunR xs l).2.2]) ∧
      w'.ownsRow w.heap.size 3 1 u (crunR xs l).1.length (ints (crunR xs l).1) ∧ w'.ownsRow w.heap.size 4 1 b (crunR xs l).2.1.length (bools (crunR xs l).2.1) ∧ Below w.heap.size w w' := by
  by_cases hok : cacheOk xs = true
  · exact iCacheRun_ok v tv xs l w hr ht hok hlen
  · rw [crunR_bad hok]
    refine (iCacheRun_bad v tv xs w hr hok).mono ?_
    rintro e w' ⟨rfl, hb⟩
    exact ⟨_, _, rfl, World.ownsRow_nil _ _ _ _, World.ownsRow_nil _ _ _ _, hb⟩
theorem sCacheRun_any (v tv : Value) (xs : List Int) (l : List Ev) (w : World) (hr : Reads w 1 v xs.length (ints xs)) (ht : Reads w 2 tv l.length (evs l)) (hlen : l.length ≤ 1073741824) :
    Calls Try.prog 116 #[.agg #[v], tv] w fun e w' => ∃ u b, e = .returned (.tuple #[.agg #[u], b, .bool (crunR xs l).2.2]) ∧
      w'.ownsRow w.heap.size 3 1 u (crunR xs l).1.length (ints (crunR xs l).1) ∧ w'.ownsRow w.heap.size 4 1 b (crunR xs l).2.1.length (bools (crunR xs l).2.1) ∧ Below w.heap.size w w' := by
  by_cases hok : cacheOk xs = true
  · exact sCacheRun_ok v tv xs l w hr ht hok hlen
  · rw [crunR_bad hok]
    refine (sCacheRun_bad v tv xs w hr hok).mono ?_
    rintro e w' ⟨b, rfl, ho, hb⟩
    exact ⟨_, _, rfl, World.ownsRow_nil _ _ _ _, ho, hb⟩

def stepsOf (l : List Ev) : Int := (l.filter (fun e => e.1 == 5)).length
def missOf (h : List Bool) : Int := (h.filter (fun b => !b)).length
def traceT (xs : List Int) (l : List Ev) : Int := if (crunR xs l).2.2 = true then stepsOf l + 10 * missOf (crunR xs l).2.1 else -1

theorem stepsOf_take (l : List Ev) (k : Nat) (h : k < l.length) : stepsOf (l.take (k + 1)) = stepsOf (l.take k) + if (l[k].1 == 5) = true then 1 else 0 := by
  rw [List.take_succ_eq_append_getElem h]; unfold stepsOf
  rw [List.filter_append]
  by_cases hx : (l[k].1 == 5) = true <;> simp [hx]
theorem missOf_take (l : List Bool) (k : Nat) (h : k < l.length) : missOf (l.take (k + 1)) = missOf (l.take k) + if l[k] = true then 0 else 1 := by
  rw [List.take_succ_eq_append_getElem h]; unfold missOf
  rw [List.filter_append]
  by_cases hx : l[k] = true <;> simp [hx]
theorem stepsOf_le (l : List Ev) : 0 ≤ stepsOf l ∧ stepsOf l ≤ l.length := by
  unfold stepsOf; have := List.length_filter_le (fun e : Ev => e.1 == 5) l; omega
theorem missOf_le (l : List Bool) : 0 ≤ missOf l ∧ missOf l ≤ l.length := by
  unfold missOf; have := List.length_filter_le (fun b : Bool => !b) l; omega
theorem crunR_hits (xs : List Int) (l : List Ev) : (crunR xs l).2.1.length ≤ l.length ∧ (crunR xs l).1.length ≤ 2 := by
  unfold crunR
  split
  · rename_i hok
    split
    · rename_i y h hr
      have := crun_inv xs hok l y h hr
      exact ⟨this.2, by simp [cacheOk_len this.1]⟩
    · simp
  · simp

set_option maxHeartbeats 1600000 in
theorem iTraceTime_any (v tv : Value) (xs : List Int) (l : List Ev) (w : World) (hr : Reads w 1 v xs.length (ints xs)) (ht : Reads w 2 tv l.length (evs l)) (hlen : l.length ≤ 1073741824) :
    Calls Try.prog 78 #[.agg #[v], tv] w fun e w' => e = .returned (.int .i64 (traceT xs l)) ∧ Below w.heap.size w w' := by
  have hR := crunR_hits xs l
  have hCR := fun W h1 h2 => iCacheRun_any v tv xs l W h1 h2 hlen
  have hT : traceT xs l = if (crunR xs l).2.2 = true then stepsOf l + 10 * missOf (crunR xs l).2.1 else -1 := rfl
  generalize crunR xs l = R at *
  obtain ⟨ys, hits, ok⟩ := R
  simp only at hR hCR hT
  obtain ⟨hh, hy⟩ := hR
  generalize hTT : traceT xs l = T at *
  have HT := Lib.hid hT
  have HC := Lib.hid hCR
  clear hT hCR hTT
  obtain ⟨va, vc, rfl⟩ := reads_shape hr
  have hr0 := ht
  obtain ⟨_, hn, a, cap, tb, toff, rfl, hcap, ha, hca⟩ := ht
  have HE := Lib.hid (reads_ev hca)
  clear hca
  have hb0 := bal (bself w) (.cells #[.slice va xs.length vc] 114)
  cases ok with
  | false =>
    go_enter Try.func78, Try.ntmps78
    go_wp2_with fail
    refine (HC.out _ (hr.below hb0) (hr0.below hb0)).mono ?_
    rintro e w1 ⟨u, b, rfl, o1, o2, hb1⟩
    obtain ⟨ua, uc, rfl⟩ := own_shape o1
    have hk1 := bal (btr hb0 hb1) (.cells #[.slice ua ys.length uc] 114)
    clear o1 o2 hb1 hb0 hr hr0
    go_wp2
    go_ret
    exact ⟨ret_int (by rw [HT.out]; rfl), hk1⟩
  | true =>
    go_enter Try.func78, Try.ntmps78
    go_wp2_with fail
    refine (HC.out _ (hr.below hb0) (hr0.below hb0)).mono ?_
    rintro e w1 ⟨u, b, rfl, o1, o2, hb1⟩
    obtain ⟨ua, uc, rfl⟩ := own_shape o1
    have hkw := btr hb0 hb1
    clear o1 hb1 hb0 hr hr0
    have hsb := own_shape o2
    obtain ⟨ba, bc, rfl⟩ := hsb
    go_wp2
    go_loopw [8, 24] (fun t i wr => ∃ k : Nat, k ≤ l.length ∧ i = .int .i64 k ∧ t = .int .i64 (stepsOf (l.take k)) ∧ Below w1.heap.size w1 wr) (fun _ i _ => l.length - (intOf i).toNat)
    case atStart => exact ⟨0, Nat.zero_le _, rfl, rfl, bal (bself w1) _⟩
    case round =>
      obtain ⟨k, hk, rfl, rfl, hb⟩ := hrel
      have hsl := stepsOf_le (l.take k)
      obtain ⟨hs0, hs1⟩ := hsl
      have hs2 : stepsOf (l.take k) ≤ 1073741824 := by simp at hs1; omega
      clear hs1
      by_cases hlt : k < l.length
      · obtain ⟨rfl, htb⟩ := ha (by omega)
        obtain ⟨c1, c2⟩ := HE.out k hlt
        have c1 := ((btr hkw hb).cell (p := ⟨tb, toff + k * 2, none⟩) htb).trans c1
        have c2 := ((btr hkw hb).cell (p := ⟨tb, toff + k * 2 + 1, none⟩) htb).trans c2
        have htk := stepsOf_take l k hlt
        generalize l[k] = ev at c1 c2 htk
        obtain ⟨kd, va⟩ := ev
        simp only at c1 c2 htk
        by_cases h5 : (kd == 5) = true
        · rw [if_pos h5] at htk
          have HS := Lib.hid htk
          clear htk HE ha o2
          generalize stepsOf (l.take k) = S at *
          go_wp2
          go_roundw
          case rel => exact ⟨k + 1, by omega, by go_num, by rw [HS.out], bal hb _⟩
          case measure => simp [intOf]; omega
        · rw [if_neg h5] at htk
          have h5 : (kd == 5) = false := by simpa using h5
          have HS := Lib.hid htk
          clear htk HE ha o2
          generalize stepsOf (l.take k) = S at *
          go_wp2
          go_roundw
          case rel => exact ⟨k + 1, by omega, by go_num, by rw [HS.out]; simp, bal hb _⟩
          case measure => simp [intOf]; omega
      · have e : k = l.length := by omega
        subst e
        have HS := Lib.hid (congrArg stepsOf (List.take_length (l := l)))
        generalize stepsOf (l.take l.length) = S at *
        have rb := reads_of_owns (own_below o2 hb) (by omega)
        obtain ⟨_, hbn, ba', bc', bb, boff, hbe, hbcap, hba, hbcell⟩ := rb
        simp only [Value.slice.injEq, true_and] at hbe
        obtain ⟨rfl, rfl⟩ := hbe
        have HBC := Lib.hid hbcell
        have hbw := btr hkw hb
        clear hbcell HE ha o2 hb hkw
        go_wp2
        go_loopw [8, 37] (fun t i wz => ∃ k : Nat, k ≤ hits.length ∧ i = .int .i64 k ∧ t = .int .i64 (S + 10 * missOf (hits.take k)) ∧ wz = wr) (fun _ i _ => hits.length - (intOf i).toNat)
        case atStart => exact ⟨0, Nat.zero_le _, rfl, by simp [missOf], rfl⟩
        case round =>
          obtain ⟨k, hk, rfl, rfl, rfl⟩ := hrel
          have hsl := missOf_le (hits.take k)
          obtain ⟨hm0, hm1⟩ := hsl
          have hm2 : missOf (hits.take k) ≤ 1073741824 := by simp at hm1; omega
          clear hm1
          by_cases hlt : k < hits.length
          · obtain ⟨rfl, _⟩ := hba (by omega)
            have hc1 := HBC.out k (by simpa [bools] using hlt)
            rw [bools_get] at hc1
            have htk := missOf_take hits k hlt
            clear hba HBC
            generalize hits[k] = bt at hc1 htk
            have HS2 := Lib.hid htk
            clear htk
            generalize missOf (hits.take k) = M at *
            cases bt
            all_goals
              go_wp2
              go_roundw
              case rel => exact ⟨k + 1, by omega, by go_num, by rw [HS2.out]; first | (congr 1; simp; omega) | (congr 1; simp), trivial⟩
              case measure => simp [intOf]; omega
          · have e : k = hits.length := by omega
            subst e
            have HM := Lib.hid (congrArg missOf (List.take_length (l := hits)))
            generalize missOf (hits.take hits.length) = M at *
            clear HBC hba
            go_wp2
            go_ret
            exact ⟨ret_int (by rw [HT.out, if_pos trivial, ← HS.out, ← HM.out]), hbw⟩
set_option maxHeartbeats 1600000 in
theorem sTraceTime_any (v tv : Value) (xs : List Int) (l : List Ev) (w : World) (hr : Reads w 1 v xs.length (ints xs)) (ht : Reads w 2 tv l.length (evs l)) (hlen : l.length ≤ 1073741824) :
    Calls Try.prog 75 #[.agg #[v], tv] w fun e w' => e = .returned (.int .i64 (traceT xs l)) ∧ Below w.heap.size w w' := by
  have hR := crunR_hits xs l
  have hCR := fun W h1 h2 => sCacheRun_any v tv xs l W h1 h2 hlen
  have hT : traceT xs l = if (crunR xs l).2.2 = true then stepsOf l + 10 * missOf (crunR xs l).2.1 else -1 := rfl
  generalize crunR xs l = R at *
  obtain ⟨ys, hits, ok⟩ := R
  simp only at hR hCR hT
  obtain ⟨hh, hy⟩ := hR
  generalize hTT : traceT xs l = T at *
  have HT := Lib.hid hT
  have HC := Lib.hid hCR
  clear hT hCR hTT
  obtain ⟨va, vc, rfl⟩ := reads_shape hr
  have hr0 := ht
  obtain ⟨_, hn, a, cap, tb, toff, rfl, hcap, ha, hca⟩ := ht
  have HE := Lib.hid (reads_ev hca)
  clear hca
  have hb0 := bal (bself w) (.cells #[.slice va xs.length vc] 114)
  cases ok with
  | false =>
    go_enter Try.func75, Try.ntmps75
    go_wp2_with fail
    refine (HC.out _ (hr.below hb0) (hr0.below hb0)).mono ?_
    rintro e w1 ⟨u, b, rfl, o1, o2, hb1⟩
    obtain ⟨ua, uc, rfl⟩ := own_shape o1
    have hk1 := bal (btr hb0 hb1) (.cells #[.slice ua ys.length uc] 114)
    clear o1 o2 hb1 hb0 hr hr0
    go_wp2
    go_ret
    exact ⟨ret_int (by rw [HT.out]; rfl), hk1⟩
  | true =>
    go_enter Try.func75, Try.ntmps75
    go_wp2_with fail
    refine (HC.out _ (hr.below hb0) (hr0.below hb0)).mono ?_
    rintro e w1 ⟨u, b, rfl, o1, o2, hb1⟩
    obtain ⟨ua, uc, rfl⟩ := own_shape o1
    have hkw := btr hb0 hb1
    clear o1 hb1 hb0 hr hr0
    have hsb := own_shape o2
    obtain ⟨ba, bc, rfl⟩ := hsb
    go_wp2
    go_loopw [8, 9] (fun t i wr => ∃ k : Nat, k ≤ l.length ∧ i = .int .i64 k ∧ t = .int .i64 (stepsOf (l.take k)) ∧ Below w1.heap.size w1 wr) (fun _ i _ => l.length - (intOf i).toNat)
    case atStart => exact ⟨0, Nat.zero_le _, rfl, rfl, bal (bself w1) _⟩
    case round =>
      obtain ⟨k, hk, rfl, rfl, hb⟩ := hrel
      have hsl := stepsOf_le (l.take k)
      obtain ⟨hs0, hs1⟩ := hsl
      have hs2 : stepsOf (l.take k) ≤ 1073741824 := by simp at hs1; omega
      clear hs1
      by_cases hlt : k < l.length
      · obtain ⟨rfl, htb⟩ := ha (by omega)
        obtain ⟨c1, c2⟩ := HE.out k hlt
        have c1 := ((btr hkw hb).cell (p := ⟨tb, toff + k * 2, none⟩) htb).trans c1
        have c2 := ((btr hkw hb).cell (p := ⟨tb, toff + k * 2 + 1, none⟩) htb).trans c2
        have htk := stepsOf_take l k hlt
        generalize l[k] = ev at c1 c2 htk
        obtain ⟨kd, va⟩ := ev
        simp only at c1 c2 htk
        by_cases h5 : (kd == 5) = true
        · rw [if_pos h5] at htk
          have HS := Lib.hid htk
          clear htk HE ha o2
          generalize stepsOf (l.take k) = S at *
          go_wp2
          go_roundw
          case rel => exact ⟨k + 1, by omega, by go_num, by rw [HS.out], hb⟩
          case measure => simp [intOf]; omega
        · rw [if_neg h5] at htk
          have h5 : (kd == 5) = false := by simpa using h5
          have HS := Lib.hid htk
          clear htk HE ha o2
          generalize stepsOf (l.take k) = S at *
          go_wp2
          go_roundw
          case rel => exact ⟨k + 1, by omega, by go_num, by rw [HS.out]; simp, hb⟩
          case measure => simp [intOf]; omega
      · have e : k = l.length := by omega
        subst e
        have HS := Lib.hid (congrArg stepsOf (List.take_length (l := l)))
        generalize stepsOf (l.take l.length) = S at *
        have rb := reads_of_owns (own_below o2 hb) (by omega)
        obtain ⟨_, hbn, ba', bc', bb, boff, hbe, hbcap, hba, hbcell⟩ := rb
        simp only [Value.slice.injEq, true_and] at hbe
        obtain ⟨rfl, rfl⟩ := hbe
        have HBC := Lib.hid hbcell
        have hbw := btr hkw hb
        clear hbcell HE ha o2 hb hkw
        go_wp2
        go_loopw [8, 10] (fun t i wz => ∃ k : Nat, k ≤ hits.length ∧ i = .int .i64 k ∧ t = .int .i64 (S + 10 * missOf (hits.take k)) ∧ wz = wr) (fun _ i _ => hits.length - (intOf i).toNat)
        case atStart => exact ⟨0, Nat.zero_le _, rfl, by simp [missOf], rfl⟩
        case round =>
          obtain ⟨k, hk, rfl, rfl, rfl⟩ := hrel
          have hsl := missOf_le (hits.take k)
          obtain ⟨hm0, hm1⟩ := hsl
          have hm2 : missOf (hits.take k) ≤ 1073741824 := by simp at hm1; omega
          clear hm1
          by_cases hlt : k < hits.length
          · obtain ⟨rfl, _⟩ := hba (by omega)
            have hc1 := HBC.out k (by simpa [bools] using hlt)
            rw [bools_get] at hc1
            have htk := missOf_take hits k hlt
            clear hba HBC
            generalize hits[k] = bt at hc1 htk
            have HS2 := Lib.hid htk
            clear htk
            generalize missOf (hits.take k) = M at *
            cases bt
            all_goals
              go_wp2
              go_roundw
              case rel => exact ⟨k + 1, by omega, by go_num, by rw [HS2.out]; first | (congr 1; simp; omega) | (congr 1; simp), trivial⟩
              case measure => simp [intOf]; omega
          · have e : k = hits.length := by omega
            subst e
            have HM := Lib.hid (congrArg missOf (List.take_length (l := hits)))
            generalize missOf (hits.take hits.length) = M at *
            clear HBC hba
            go_wp2
            go_ret
            exact ⟨ret_int (by rw [HT.out, if_pos trivial, ← HS.out, ← HM.out]), hbw⟩
end Go.Proofs.Ytbglogjamfdmpaa
