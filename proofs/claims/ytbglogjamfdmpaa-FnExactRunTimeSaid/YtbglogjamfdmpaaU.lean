/-
  Parts of the proof of the law FnExactRunTime.
-/
import Derived.Test.YtbglogjamfdmpaaL
import Derived.Test.YtbglogjamfdmpaaT
namespace Go.Proofs.Ytbglogjamfdmpaa
open Go.RowKit

theorem crunR_ok {xs : List Int} {l : List Ev} {y : List Int} {h : List Bool} (hok : cacheOk xs = true) (hr : crun xs l = some (y, h)) : crunR xs l = (y, h, true) := by
  unfold crunR; rw [if_pos hok, hr]
theorem crunR_none {xs : List Int} {l : List Ev} (hr : crun xs l = none) : crunR xs l = ([], [], false) := by
  unfold crunR; split
  · rw [hr]
  · rfl
theorem crunR_bad {xs : List Int} {l : List Ev} (hok : ¬ cacheOk xs = true) : crunR xs l = ([], [], false) := by
  unfold crunR; rw [if_neg hok]

theorem iCacheRun_bad (v tv : Value) (xs : List Int) (w : World) (hr : Reads w 1 v xs.length (ints xs)) (hok : ¬ cacheOk xs = true) :
    Calls Try.prog 119 #[.agg #[v], tv] w fun e w' => e = .returned (.tuple #[.agg #[.slice none 0 0], .slice none 0 0, .bool false]) ∧ Below w.heap.size w w' := by
  have hv := iCacheValid_any v xs
  have hf : cacheOk xs = false := by simpa using hok
  rw [hf] at hv
  have HV := Lib.hid hv; clear hv hok hf
  obtain ⟨va, vc, rfl⟩ := reads_shape hr
  have hb0 := bal (bal (bself w) (.cells #[.slice va xs.length vc] 114)) (.cells #[.slice none 0 0] 114)
  go_enter Try.func119, Try.ntmps119
  go_wp2_with fail
  refine (HV.out _ (hr.below hb0)).mono ?_
  rintro e w1 ⟨rfl, hb1⟩
  have hk1 := btr hb0 hb1
  have bx2 : w1.cell? ⟨w.heap.size + 1, 0, none⟩ = some (.slice none 0 0) := kept_cell hb1 (by simp [go_sem])
  have bf2 : w1.frozen? ⟨w.heap.size + 1, 0, none⟩ = false := kept_froz hb1 (by simp) (by simp [go_sem])
  clear hb0 hb1 hr
  go_wp2
  exact bodyPost_ret (v := .tuple #[.agg #[.slice none 0 0], .slice none 0 0, .bool false]) (by simp [results, Try.results119, go_sem, bx2]) rfl ⟨rfl, bst hk1 _ _ (by omega) _⟩

theorem isAddress_yes (n : Int) (w : World) (h : isAddr n = true) : Calls Try.prog 163 #[.int .i64 n] w fun e w' => e = .returned (.bool true) ∧ w = w' := by
  obtain ⟨h0, h7⟩ := of_decide_eq_true h
  clear h
  go_enter Try.func163, Try.ntmps163
  go_wp2
  go_ret
  exact ⟨rfl, rfl⟩
theorem isAddress_no (n : Int) (w : World) (h : ¬ isAddr n = true) : Calls Try.prog 163 #[.int .i64 n] w fun e w' => e = .returned (.bool false) ∧ w = w' := by
  have h : n < 0 ∨ (0 ≤ n ∧ decide (n ≤ 7) = false) := by
    unfold isAddr at h
    by_cases h0 : n < 0
    · exact Or.inl h0
    · refine Or.inr ⟨by omega, ?_⟩
      rw [decide_eq_false_iff_not]
      intro h7
      exact h (decide_eq_true ⟨by omega, h7⟩)
  rcases h with h | ⟨h, h'⟩
  all_goals
    go_enter Try.func163, Try.ntmps163
    go_wp2
    go_ret
    exact ⟨rfl, rfl⟩

theorem accL_len2 {xs : List Int} {a : Int} (h : cacheOk xs = true) (ha : isAddr a = true) : (accL xs a).length = 2 := by
  have hh := of_decide_eq_true ha
  unfold accL; rw [if_pos (accOk_of h hh.1 hh.2)]; simp [cacheOk_len h]

set_option maxHeartbeats 800000 in
set_option maxRecDepth 100000 in
theorem iCacheRun_ok (v tv : Value) (xs : List Int) (l : List Ev) (w : World) (hr : Reads w 1 v xs.length (ints xs)) (ht : Reads w 2 tv l.length (evs l)) (hok : cacheOk xs = true) (hlen : l.length ≤ 1073741824) :
    Calls Try.prog 119 #[.agg #[v], tv] w fun e w' => ∃ u b, e = .returned (.tuple #[.agg #[u], b, .bool (crunR xs l).2.2]) ∧
      w'.ownsRow w.heap.size 3 1 u (crunR xs l).1.length (ints (crunR xs l).1) ∧ w'.ownsRow w.heap.size 4 1 b (crunR xs l).2.1.length (bools (crunR xs l).2.1) ∧ Below w.heap.size w w' := by
  have hv := iCacheValid_any v xs
  rw [hok] at hv
  have HV := Lib.hid hv; clear hv
  have hx2 : xs.length ≤ 2 := by rw [cacheOk_len hok]; omega
  have HOK := Lib.hid hok; clear hok
  obtain ⟨va, vc, rfl⟩ := reads_shape hr
  obtain ⟨_, hn, a, cap, tb, toff, rfl, hcap, ha, hca⟩ := ht
  have HC := Lib.hid (reads_ev hca)
  clear hca
  have hb0 := bal (bal (bself w) (.cells #[.slice va xs.length vc] 114)) (.cells #[.slice none 0 0] 114)
  go_enter Try.func119, Try.ntmps119
  go_wp2_with fail
  refine (HV.out _ (hr.below hb0)).mono ?_
  rintro e w1 ⟨rfl, hb1⟩
  have hk1 := btr hb0 hb1
  have bx1 : w1.cell? ⟨w.heap.size, 0, none⟩ = some (.slice va xs.length vc) := kept_cell hb1 (by simp [go_sem])
  have bx2 : w1.cell? ⟨w.heap.size + 1, 0, none⟩ = some (.slice none 0 0) := kept_cell hb1 (by simp [go_sem])
  have bf2 : w1.frozen? ⟨w.heap.size + 1, 0, none⟩ = false := kept_froz hb1 (by simp) (by simp [go_sem])
  have hr1 := hr.below hk1
  clear hb0 hb1 hr HV
  go_wp2_with fail
  refine (clone_any _ xs _ hr1 (by omega)).mono ?_
  rintro e w2 ⟨u, rfl, o2, hb2⟩
  have hk2 := btr hk1 hb2
  have bx3 := kept_cell hb2 bx2
  have bf3 := kept_froz hb2 (lt_of_cell bx2) bf2
  have hs2 := hk1.size
  have hl2 := lt_of_cell bx2
  have hs3 := hb2.size
  obtain ⟨ua, uc, rfl⟩ := own_shape o2
  clear hk1 hb2 bx1 bx2 bf2 hr1
  go_wp2_with fail
  have hg0 := own_pos o2 (by have := cacheOk_len HOK.out; omega)
  obtain ⟨g0, cc0, hgv⟩ := hg0
  simp only [Value.slice.injEq, true_and] at hgv
  obtain ⟨rfl, rfl⟩ := hgv
  have hg0 := o2.lt g0 rfl
  go_loopw [8, 23] (fun hv i wr => ∃ (k : Nat) (ys : List Int) (hits : List Bool) (g c : Nat), k ≤ l.length ∧ i = .int .i64 k ∧ crun xs (l.take k) = some (ys, hits) ∧
      wr.cell? ⟨w2.heap.size, 0, none⟩ = some (.slice (some ⟨g, 0, none⟩) ys.length c) ∧ wr.frozen? ⟨w2.heap.size, 0, none⟩ = false ∧ ¬ g = w2.heap.size ∧
      wr.ownsRow (w.heap.size + 2) 3 1 (.slice (some ⟨g, 0, none⟩) ys.length c) ys.length (ints ys) ∧ wr.ownsRow (w2.heap.size + 1) 4 1 hv hits.length (bools hits) ∧
      wr.cell? ⟨w.heap.size + 1, 0, none⟩ = some (.slice none 0 0) ∧ wr.frozen? ⟨w.heap.size + 1, 0, none⟩ = false ∧ Below w.heap.size w wr) (fun _ i _ => l.length - (intOf i).toNat)
  case atStart =>
    refine ⟨0, xs, [], g0, uc, Nat.zero_le _, rfl, rfl, cell_new1 _ _ _, froz_new _ _ _ _, by omega, own_mono (o2.alloc _) (by omega), World.ownsRow_nil _ _ _ _, kept_cell (bal (bself w2) _) bx3, kept_froz (bal (bself w2) _) (lt_of_cell bx3) bf3, bal hk2 _⟩
  case round =>
    obtain ⟨k, ys, hits, g, c, hk, rfl, hst, hb7, hf7, hg7, oy, oh, hbr, hfr, hbel⟩ := hrel
    clear o2 hk2 bx3 bf3 hg0
    by_cases hlt : k < l.length
    · obtain ⟨rfl, htb⟩ := ha (by omega)
      obtain ⟨c1, c2⟩ := HC.out k hlt
      have c1 := (hbel.cell (p := ⟨tb, toff + k * 2, none⟩) htb).trans c1
      have c2 := (hbel.cell (p := ⟨tb, toff + k * 2 + 1, none⟩) htb).trans c2
      have htk := crun_take xs l k hlt
      rw [hst] at htk
      simp only [Option.bind_some] at htk
      generalize l[k] = ev at c1 c2 htk
      obtain ⟨kd, va⟩ := ev
      have HT := Lib.hid htk
      have HS := Lib.hid hst
      clear htk hst HC ha
      simp only at c1 c2
      by_cases ht : touches (kd, va) = true
      · have hk23 : (kd != 2) = false ∨ ((kd != 2) = true ∧ (kd != 3) = false) := by
          have h := of_decide_eq_true ht
          simp only at h
          rcases h with rfl | rfl
          · exact Or.inl rfl
          · exact Or.inr ⟨rfl, rfl⟩
        have HT2 := Lib.hid ht
        clear ht
        by_cases hadr : isAddr va = true
        · have hadr2 := of_decide_eq_true hadr
          obtain ⟨hv0, hv7⟩ := hadr2
          have HA := Lib.hid hadr
          clear hadr
          have hys := crun_inv xs HOK.out _ _ _ HS.out
          have HY := Lib.hid hys
          clear hys
          have hz := bal (bself wr) (.cells #[.int .i64 kd, .int .i64 va] 89)
          rcases hk23 with hk23 | ⟨hk23, hk33⟩
          all_goals
            have hhu := oh.lt
            have hb7z := kept_cell hz hb7
            have hb7l := lt_of_cell hb7
            have oyz := own_below oy hz
            have ohz := own_below oh hz
            have hf7z := kept_froz hz hb7l hf7
            have hbrz := kept_cell hz hbr
            have hbrl := lt_of_cell hbr
            have hfrz := kept_froz hz hbrl hfr
            have hbz := btr hbel hz
            clear oy oh hf7 hfr hbel
            go_wp2_with fail
            refine (isAddress_yes va _ HA.out).mono ?_
            rintro e wq ⟨rfl, rfl⟩
            go_wp2_with fail
            refine (iAccess_any _ ys va _ (reads_of_owns oyz (by have := cacheOk_len HY.out.1; omega))).mono ?_
            rintro e w3 ⟨u, rfl, ou, hb3⟩
            obtain ⟨g2, cc2, rfl⟩ := own_pos ou (by rw [accL_len2 HY.out.1 HA.out]; omega)
            have hg2 := ou.lt g2 rfl
            simp only [World.size_alloc] at hg2
            replace ou := own_mono ou (base' := w.heap.size + 2) (by simp; omega)
            have b7 := kept_cell hb3 hb7z
            have b7f := kept_froz hb3 (lt_of_cell hb7z) hf7z
            have br := kept_cell hb3 hbrz
            have brf := kept_froz hb3 (lt_of_cell hbrz) hfrz
            have hbz3 := btr hbz hb3
            have oh3 := own_below ohz hb3
            have hl7 := lt_of_cell b7
            have hlr := lt_of_cell br
            have hne7 : ¬ g2 = w2.heap.size := by omega
            clear oyz ohz hf7z hbrz hfrz hbz hb3 hb7z hz hbr hb7
            go_wp2_with fail
            have hbX := Below.drew (bal (bal (bself w3) (.cells #[.slice (some ⟨g2, 0, none⟩) (accL ys va).length cc2] 114)) (.cells #[.bool (accH ys va)] 4))
            have ohX := own_below oh3 hbX
            have hbXA := Below.drew (bal (bself (w3.alloc (.cells #[.slice (some ⟨g2, 0, none⟩) (accL ys va).length cc2] 114))) (.cells #[.bool (accH ys va)] 4))
            have h11 := cell_new1 w3 (.slice (some ⟨g2, 0, none⟩) (accL ys va).length cc2) 114
            have hn11 : ¬ u8.ownBlock = some w3.heap.size := fun h => by have := oh3.lt _ h; omega
            have hl11 : w3.heap.size < (w3.alloc (.cells #[.slice (some ⟨g2, 0, none⟩) (accL ys va).length cc2] 114)).heap.size := by simp
            have hsX := (reads_new (w3.alloc (.cells #[.slice (some ⟨g2, 0, none⟩) (accL ys va).length cc2] 114)) [.bool (accH ys va)] 4 1 rfl).below (Below.drew (bself _))
            rw [World.size_alloc] at hsX
            have hnX : hits.length + 1 ≤ 4294967296 := by have := HY.out.2; simp at this; omega
            have hds : ∀ q, Value.ownBlock (.slice (some ⟨g2, 0, none⟩) (accL ys va).length cc2) = some q → ¬ u8.ownBlock = some q := fun q h1 h2 => by
              have := hhu q h2
              simp [Value.ownBlock] at h1
              omega
            have hsz3 : w2.heap.size + 1 ≤ w3.heap.size := by omega
            go_region_law (refine step_aps tBools rfl (.tmp 48) (.tmp 50) rfl (w2.heap.size + 1) u8 hits.length (bools hits) (by simp [Act.eval]) ohX (.slice (some ⟨w3.heap.size + 1, 0, none⟩) 1 1) 1 [.bool (accH ys va)] (by simp [Act.eval]) hsX (one_bool1 _) hnX (Nat.le_trans hsz3 hbX.size) ?_; intro v' w' ho' hc' hn' _; have hcW := (Chg.of_below (S := fun k => u8.ownBlock = some k) hbX).trans hc'; have b7w := (hcW.cell 0 hl7 (not_own oh3 (by omega))).trans b7; have f7w := (hcW.frozen 0 hl7 (not_own oh3 (by omega))).trans b7f; have brw := (hcW.cell 0 hlr (not_own oh3 (by omega))).trans br; have frw := (hcW.frozen 0 hlr (not_own oh3 (by omega))).trans brf; have ouw := own_keep ou hcW (fun q h1 h2 => hds q h1 h2); have hbw := hbz3.trans (hcW.below w.heap.size (by omega) (fun q hq => not_own oh3 (by omega))); have b11w := (((Chg.of_below (S := fun k => u8.ownBlock = some k) hbXA).trans hc').cell 0 hl11 hn11).trans h11; clear hcW hc' hn' ohX hsX hbX hbXA)
            all_goals (go_wp2_with fail)
            all_goals
              go_roundw
              case rel =>
                refine ⟨k + 1, accL ys va, hits ++ [accH ys va], g2, cc2, by omega, by go_num, by rw [HT.out]; unfold cstep; rw [if_pos HT2.out, if_pos HA.out], cell_at _ _ _ _ b7w, (froz_set ..).trans f7w, hne7, ?_, ?_, (cell_far _ _ _ _ _ _ (by omega)).trans brw, (froz_set ..).trans frw, bst hbw _ _ (by omega) _⟩
                · exact own_set ouw _ _ (fun h => hne7 (by simpa [Value.ownBlock] using h)) _
                · rw [bools_append, List.length_append]
                  exact own_set ho' _ _ (fun h => by have := ho'.lt _ h; omega) _
              case measure => simp [intOf]; omega
        · have hk23 : (kd != 2) = false ∨ ((kd != 2) = true ∧ (kd != 3) = false) := by
            have h := of_decide_eq_true HT2.out
            simp only at h
            rcases h with rfl | rfl
            · exact Or.inl rfl
            · exact Or.inr ⟨rfl, rfl⟩
          have hnone : crun xs l = none := by
            refine crun_none xs l (k + 1) ?_
            rw [HT.out]; unfold cstep; rw [if_pos HT2.out, if_neg hadr]
          have HS2 := Lib.hid (crunR_none hnone)
          have HA := Lib.hid hadr
          clear hadr hnone
          have hz := bal (bself wr) (.cells #[.int .i64 kd, .int .i64 va] 89)
          have hbrz := kept_cell hz hbr
          have hbrl := lt_of_cell hbr
          have hfrz := kept_froz hz hbrl hfr
          have hres := kept_cell (bal (bself (wr.setCell ⟨w.heap.size + 1, 0, none⟩ (.slice none 0 0))) (.cells #[.int .i64 kd, .int .i64 va] 89)) (cell_at wr (w.heap.size + 1) 0 (.slice none 0 0) hbr)
          clear oy oh hf7 hfr hb7 hbr hz
          rcases hk23 with hk23 | ⟨hk23, hk33⟩
          all_goals
            go_wp2_with fail
            refine (isAddress_no va _ HA.out).mono ?_
            rintro e wq ⟨rfl, rfl⟩
            go_wp2_with fail
            refine bodyPost_ret (v := .tuple #[.agg #[.slice none 0 0], .slice none 0 0, .bool false]) (by simp [results, Try.results119, go_sem, hres]) rfl ⟨_, _, by rw [HS2.out], by rw [HS2.out]; exact World.ownsRow_nil _ _ _ _, by rw [HS2.out]; exact World.ownsRow_nil _ _ _ _, bal (bst hbel _ _ (by omega) _) _⟩
      · have h2 : (kd != 2) = true := by unfold touches at ht; simp at ht ⊢; exact ht.1
        have h3 : (kd != 3) = true := by unfold touches at ht; simp at ht ⊢; exact ht.2
        have HT2 := Lib.hid ht
        clear ht
        go_wp2_with fail
        go_roundw
        case rel =>
          have hz := bal (bself wr) (.cells #[.int .i64 kd, .int .i64 va] 89)
          exact ⟨k + 1, ys, hits, g, c, by omega, by go_num, by rw [HT.out]; unfold cstep; rw [if_neg HT2.out], kept_cell hz hb7, kept_froz hz (lt_of_cell hb7) hf7, hg7, own_below oy hz, own_below oh hz, kept_cell hz hbr, kept_froz hz (lt_of_cell hbr) hfr, bal hbel _⟩
        case measure => simp [intOf]; omega
    · have e : k = l.length := by omega
      subst e
      rw [List.take_length] at hst
      have HS := Lib.hid (crunR_ok HOK.out hst)
      have hres := cell_at wr (w.heap.size + 1) 0 (.slice (some ⟨g, 0, none⟩) ys.length c) hbr
      obtain ⟨ha2, hc2, rfl⟩ := own_shape oh
      have oy2 := own_mono (own_set oy (w.heap.size + 1) 0 (fun h => by have := oy.lt _ h; omega) (.slice (some ⟨g, 0, none⟩) ys.length c)) (base' := w.heap.size) (by omega)
      have oh2 := own_mono (own_set oh (w.heap.size + 1) 0 (fun h => by have := oh.lt _ h; omega) (.slice (some ⟨g, 0, none⟩) ys.length c)) (base' := w.heap.size) (by omega)
      clear hst HC ha
      go_wp2
      refine bodyPost_ret (v := .tuple #[.agg #[.slice (some ⟨g, 0, none⟩) ys.length c], .slice ha2 hits.length hc2, .bool true]) (by simp [results, Try.results119, go_sem, hres]) rfl ⟨_, _, by rw [HS.out], by rw [HS.out]; exact oy2, by rw [HS.out]; exact oh2, bst hbel _ _ (by omega) _⟩
end Go.Proofs.Ytbglogjamfdmpaa
