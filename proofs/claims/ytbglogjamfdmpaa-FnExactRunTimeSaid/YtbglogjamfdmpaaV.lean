/-
  Parts of the proof of the law FnExactRunTime.
-/
import Derived.Test.YtbglogjamfdmpaaL
import Derived.Test.YtbglogjamfdmpaaU
namespace Go.Proofs.Ytbglogjamfdmpaa
open Go.RowKit

theorem l10Touches_any (kd va : Int) (w : World) :
    Calls Try.prog 158 #[.agg #[.int .i64 kd, .int .i64 va]] w fun e w' => e = .returned (.bool (touches (kd, va))) ∧ Below w.heap.size w w' := by
  have hx : ((kd == 2) = true ∧ true = touches (kd, va)) ∨ ((kd == 2) = false ∧ (kd == 3) = touches (kd, va)) := by
    unfold touches
    by_cases h : kd = 2
    · left; subst h; exact ⟨rfl, (decide_eq_true (Or.inl rfl)).symm⟩
    · right
      refine ⟨by simpa using h, ?_⟩
      rw [Bool.eq_iff_iff, beq_iff_eq, decide_eq_true_iff]
      simp [h]
  have hb := bal (bself w) (.cells #[.int .i64 kd, .int .i64 va] 89)
  rcases hx with ⟨h1, h2⟩ | ⟨h1, h2⟩
  all_goals
    have H2 := Lib.hid h2
    clear h2
    go_enter Try.func158, Try.ntmps158
    go_wp2
    go_ret
    exact ⟨ret_bool H2.out, hb⟩

theorem sCacheRun_bad (v tv : Value) (xs : List Int) (w : World) (hr : Reads w 1 v xs.length (ints xs)) (hok : ¬ cacheOk xs = true) :
    Calls Try.prog 116 #[.agg #[v], tv] w fun e w' => ∃ b, e = .returned (.tuple #[.agg #[.slice none 0 0], b, .bool false]) ∧ w'.ownsRow w.heap.size 4 1 b 0 [] ∧ Below w.heap.size w w' := by
  have hv := sCacheValid_any v xs
  have hf : cacheOk xs = false := by simpa using hok
  rw [hf] at hv
  have HV := Lib.hid hv; clear hv hok hf
  obtain ⟨va, vc, rfl⟩ := reads_shape hr
  have hb0 := bal (bal (bself w) (.cells #[.slice va xs.length vc] 114)) (.cells #[.slice none 0 0] 114)
  go_enter Try.func116, Try.ntmps116
  go_wp2_with fail
  refine (HV.out _ (hr.below hb0)).mono ?_
  rintro e w1 ⟨rfl, hb1⟩
  have hk1 := btr hb0 hb1
  have bx2 : w1.cell? ⟨w.heap.size + 1, 0, none⟩ = some (.slice none 0 0) := kept_cell hb1 (by simp [go_sem])
  have bf2 : w1.frozen? ⟨w.heap.size + 1, 0, none⟩ = false := kept_froz hb1 (by simp) (by simp [go_sem])
  have hl2 := lt_of_cell bx2
  have hs1 := hk1.size
  clear hb0 hb1 hr
  go_wp2
  have hres := kept_cell (bal (bself (w1.setCell ⟨w.heap.size + 1, 0, none⟩ (.slice none 0 0))) (.cells #[] 4)) (cell_at w1 (w.heap.size + 1) 0 (.slice none 0 0) bx2)
  have ho := own_nil_made (w1.setCell ⟨w.heap.size + 1, 0, none⟩ (.slice none 0 0)) 4
  simp only [World.size_setCell] at ho
  refine bodyPost_ret (v := .tuple #[.agg #[.slice none 0 0], .slice (some ⟨w1.heap.size, 0, none⟩) 0 0, .bool false]) (by simp [results, Try.results116, go_sem, hres]) rfl ⟨_, rfl, own_mono ho (by omega), bal (bst hk1 _ _ (by omega) _) _⟩

theorem l10Limit_q (w : World) (n : Nat) : Calls Try.prog 159 #[] (w.drewN n) fun e w'' => e = .returned (.int .i64 8) ∧ ∃ m, w'' = w.drewN m :=
  Calls.quiet_of_same ((l10Limit_any _).mono fun _ _ ⟨h1, h2⟩ => ⟨h1, h2.symm⟩)

theorem l10Access_v (g c : Nat) (ys : List Int) (a : Int) (w : World) (base : Nat) (ho : w.ownsRow base 3 1 (.slice (some ⟨g, 0, none⟩) ys.length c) ys.length (ints ys)) (hok : cacheOk ys = true) (ha : isAddr a = true) :
    Calls Try.prog 160 #[.agg #[.slice (some ⟨g, 0, none⟩) ys.length c], .int .i64 a] w fun e w' => e = .returned (.bool (accH ys a)) ∧
      w'.ownsRow base 3 1 (.slice (some ⟨g, 0, none⟩) (accL ys a).length c) (accL ys a).length (ints (accL ys a)) ∧ Chg (fun k => k = g) w w' := by
  have h := of_decide_eq_true ha
  obtain ⟨x, y, rfl⟩ := cacheOk_two hok
  have hA := accOk_of hok h.1 h.2
  have e1 : accL [x, y] a = [x, y].set ((a / 2) % 2).toNat (a / 2) := by unfold accL; rw [if_pos hA]
  have e2 : accH [x, y] a = ([x, y].getD ((a / 2) % 2).toNat 0 == a / 2) := by unfold accH; rw [hA, Bool.true_and]
  rw [e1, e2, List.length_set]
  exact l10Access_any g c x y a w base ho h.1 h.2

set_option maxHeartbeats 1600000 in
set_option maxRecDepth 100000 in
theorem sCacheRun_ok (v tv : Value) (xs : List Int) (l : List Ev) (w : World) (hr : Reads w 1 v xs.length (ints xs)) (ht : Reads w 2 tv l.length (evs l)) (hok : cacheOk xs = true) (hlen : l.length ≤ 1073741824) :
    Calls Try.prog 116 #[.agg #[v], tv] w fun e w' => ∃ u b, e = .returned (.tuple #[.agg #[u], b, .bool (crunR xs l).2.2]) ∧
      w'.ownsRow w.heap.size 3 1 u (crunR xs l).1.length (ints (crunR xs l).1) ∧ w'.ownsRow w.heap.size 4 1 b (crunR xs l).2.1.length (bools (crunR xs l).2.1) ∧ Below w.heap.size w w' := by
  have hv := sCacheValid_any v xs
  rw [hok] at hv
  have HV := Lib.hid hv; clear hv
  have hx2 : xs.length ≤ 2 := by rw [cacheOk_len hok]; omega
  have HOK := Lib.hid hok; clear hok
  obtain ⟨va, vc, rfl⟩ := reads_shape hr
  obtain ⟨_, hn, a, cap, tb, toff, rfl, hcap, ha, hca⟩ := ht
  have HC := Lib.hid (reads_ev hca)
  clear hca
  have hb0 := bal (bal (bself w) (.cells #[.slice va xs.length vc] 114)) (.cells #[.slice none 0 0] 114)
  go_enter Try.func116, Try.ntmps116
  go_wp2_with fail
  refine (HV.out _ (hr.below hb0)).mono ?_
  rintro e w1 ⟨rfl, hb1⟩
  have hk1 := btr hb0 hb1
  have bx1 : w1.cell? ⟨w.heap.size, 0, none⟩ = some (.slice va xs.length vc) := kept_cell hb1 (by simp [go_sem])
  have bx2 : w1.cell? ⟨w.heap.size + 1, 0, none⟩ = some (.slice none 0 0) := kept_cell hb1 (by simp [go_sem])
  have bf2 : w1.frozen? ⟨w.heap.size + 1, 0, none⟩ = false := kept_froz hb1 (by simp) (by simp [go_sem])
  have hr1 := hr.below hk1
  clear hb0 hb1 hr HV
  go_wp2_with fail
  refine (l10Copy_any _ xs _ hr1 (by omega)).mono ?_
  rintro e w2 ⟨u, rfl, o2, hb2⟩
  have hk2 := btr hk1 hb2
  have bx3 := kept_cell hb2 bx2
  have bf3 := kept_froz hb2 (lt_of_cell bx2) bf2
  have hs2 := hk1.size
  have hl2 := lt_of_cell bx2
  have hs3 := hb2.size
  obtain ⟨g0, uc, rfl⟩ := own_pos o2 (by have := cacheOk_len HOK.out; omega)
  clear hk1 hb2 bx1 bx2 bf2 hr1
  go_wp2_with fail
  have hg0 := o2.lt g0 rfl
  have hz0 := bal (bal (bself w2) (.cells #[.slice (some ⟨g0, 0, none⟩) xs.length uc] 114)) (.cells #[] 4)
  have hz1 := bal (bself (w2.alloc (.cells #[.slice (some ⟨g0, 0, none⟩) xs.length uc] 114))) (.cells #[] 4)
  have hon := own_nil_made (w2.alloc (.cells #[.slice (some ⟨g0, 0, none⟩) xs.length uc] 114)) 4
  simp only [World.size_alloc] at hon
  go_loopw [8, 9] (fun hv i wr => ∃ (k : Nat) (ys : List Int) (hits : List Bool) (g c : Nat), k ≤ l.length ∧ i = .int .i64 k ∧ crun xs (l.take k) = some (ys, hits) ∧
      wr.cell? ⟨w2.heap.size, 0, none⟩ = some (.slice (some ⟨g, 0, none⟩) ys.length c) ∧ ¬ g = w2.heap.size ∧ g < w2.heap.size ∧
      wr.ownsRow (w.heap.size + 2) 3 1 (.slice (some ⟨g, 0, none⟩) ys.length c) ys.length (ints ys) ∧ wr.ownsRow (w2.heap.size + 1) 4 1 hv hits.length (bools hits) ∧
      wr.cell? ⟨w.heap.size + 1, 0, none⟩ = some (.slice none 0 0) ∧ wr.frozen? ⟨w.heap.size + 1, 0, none⟩ = false ∧ Below w.heap.size w wr) (fun _ i _ => l.length - (intOf i).toNat)
  case atStart =>
    exact ⟨0, xs, [], g0, uc, Nat.zero_le _, rfl, rfl, kept_cell hz1 (cell_new1 _ _ _), by omega, by omega, own_mono (own_below o2 hz0) (by omega), hon, kept_cell hz0 bx3, kept_froz hz0 (lt_of_cell bx3) bf3, btr hk2 hz0⟩
  case round =>
    obtain ⟨k, ys, hits, g, c, hk, rfl, hst, hb7, hg7, hg7', oy, oh, hbr, hfr, hbel⟩ := hrel
    clear o2 hk2 bx3 bf3 hg0 hz0 hz1 hon
    by_cases hlt : k < l.length
    · obtain ⟨rfl, htb⟩ := ha (by omega)
      obtain ⟨c1, c2⟩ := HC.out k hlt
      have c1 := (hbel.cell (p := ⟨tb, toff + k * 2, none⟩) htb).trans c1
      have c2 := (hbel.cell (p := ⟨tb, toff + k * 2 + 1, none⟩) htb).trans c2
      have htk := crun_take xs l k hlt
      rw [hst] at htk
      simp only [Option.bind_some] at htk
      generalize l[k] = ev at c1 c2 htk
      obtain ⟨kd, va⟩ := ev
      have HT := Lib.hid htk
      have HS := Lib.hid hst
      clear htk hst HC ha
      simp only at c1 c2
      go_wp2_with fail
      refine (l10Touches_any kd va _).mono ?_
      rintro e wt ⟨rfl, hbt⟩
      have hb7l := lt_of_cell hb7
      have hbrl := lt_of_cell hbr
      have c1 := kept_cell hbt c1
      have c2 := kept_cell hbt c2
      have hhu := oh.lt
      have hb7t := kept_cell hbt hb7
      have oyt := own_below oy hbt
      have oht := own_below oh hbt
      have hbrt := kept_cell hbt hbr
      have hfrt := kept_froz hbt hbrl hfr
      have hbelt := btr hbel hbt
      have hst7 := hbt.size
      clear hbt oy oh hbr hfr hbel hb7
      by_cases ht : touches (kd, va) = true
      · have HT2 := Lib.hid ht
        rw [ht]
        clear ht
        by_cases hadr : isAddr va = true
        · have hadr2 := of_decide_eq_true hadr
          obtain ⟨hv0, hv7⟩ := hadr2
          have HA := Lib.hid hadr
          clear hadr
          have hys := crun_inv xs HOK.out _ _ _ HS.out
          have HY := Lib.hid hys
          clear hys
          have hd0 : decide (va < 0) = false := by simp; omega
          have hd8 : decide (8 ≤ va) = false := by simp; omega
          go_wp2_with fail
          go_quiet ((go_at_call 159; exact l10Limit_q _ _))
          go_wp2_with fail
          have hq := below_drewN' wt nq
          replace c1 := kept_cell hq c1
          replace c2 := kept_cell hq c2
          replace hb7t := kept_cell hq hb7t
          replace oyt := own_below oyt hq
          replace oht := own_below oht hq
          replace hfrt := kept_froz hq (lt_of_cell hbrt) hfrt
          replace hbrt := kept_cell hq hbrt
          replace hbelt := btr hbelt hq
          replace hst7 := Nat.le_trans hst7 hq.size
          clear hq
          generalize wt.drewN nq = wz at *
          have hdr := Below.drew (bself wz)
          have oyd := own_below oyt hdr
          have ohd := own_below oht hdr
          have hac := l10Access_v g c ys va wz.drew _ oyd HY.out.1 HA.out
          have HAC := Lib.hid hac
          have hnX : hits.length + 1 ≤ 4294967296 := by have := HY.out.2; simp at this; omega
          clear hac oyd
          have hl7 := lt_of_cell hb7t
          have hlr := lt_of_cell hbrt
          have hgl := oyt.lt g rfl
          have n7 : ¬ (w2.heap.size = g ∨ u8.ownBlock = some w2.heap.size) := fun h => by
            rcases h with h | h
            · omega
            · have := hhu _ h; omega
          have nr : ¬ (w.heap.size + 1 = g ∨ u8.ownBlock = some (w.heap.size + 1)) := fun h => by
            rcases h with h | h
            · omega
            · have := hhu _ h; omega
          have nb : ∀ q, q < w.heap.size → ¬ (q = g ∨ u8.ownBlock = some q) := fun q hq h => by
            rcases h with h | h
            · omega
            · have := hhu _ h; omega
          have ng : ∀ q, u8.ownBlock = some q → ¬ q = g := fun q h => by have := hhu _ h; omega
          have ng2 : ∀ q, Value.ownBlock (.slice (some ⟨g, 0, none⟩) (accL ys va).length c) = some q → ¬ u8.ownBlock = some q := fun q h1 h2 => by
            have := hhu _ h2
            simp [Value.ownBlock] at h1
            omega
          have HLE : Hid (ys.length = (accL ys va).length) := Lib.hid (by rw [accL_len2 HY.out.1 HA.out, cacheOk_len HY.out.1])
          have hb8 := Nat.le_trans (Nat.succ_le_of_lt hl7) hdr.size
          go_region_law (first | (refine step_aps tBools rfl (.tmp 47) (.tmp 55) rfl (w2.heap.size + 1) u8 hits.length (bools hits) (by simp [Act.eval]) (own_below (own_keep ohd hca ng) (bal (bself wa) _)) (.slice (some ⟨wa.heap.size, 0, none⟩) 1 1) 1 [.bool (accH ys va)] (by simp [Act.eval]) (reads_new wa [.bool (accH ys va)] 4 1 rfl) (one_bool1 _) hnX (Nat.le_trans hb8 (Nat.le_trans hca.size (bal (bself wa) _).size)) ?_; intro v' w' ho' hc' hn' _; have hcX := (Chg.of_below (S := fun q => q = g ∨ u8.ownBlock = some q) hdr).trans ((hca.mono (fun q _ h => Or.inl h)).trans ((Chg.of_below (bal (bself wa) _)).trans (hc'.mono (fun q _ h => Or.inr h)))); have b7w := (hcX.cell 0 hl7 n7).trans hb7t; have brw := (hcX.cell 0 hlr nr).trans hbrt; have frw := (hcX.frozen 0 hlr nr).trans hfrt; have ouw := own_keep (own_below oa (bal (bself wa) _)) hc' ng2; have hbw := hbelt.trans (hcX.below w.heap.size hbelt.size nb); clear hcX hc' hn' hca oa) | (go_simp; go_at_call 160; refine HAC.out.mono ?_; rintro e wa ⟨rfl, oa, hca⟩))
          all_goals (go_wp2_with fail)
          all_goals
            go_roundw
            case rel => exact ⟨k + 1, accL ys va, hits ++ [accH ys va], g, c, by omega, by go_num, by rw [HT.out]; unfold cstep; rw [if_pos HT2.out, if_pos HA.out], by rw [← HLE.out]; exact b7w, hg7, hg7', ouw, by rw [bools_append, List.length_append]; exact ho', brw, frw, hbw⟩
            case measure => simp [intOf]; omega
        · have hnone : crun xs l = none := by
            refine crun_none xs l (k + 1) ?_
            rw [HT.out]; unfold cstep; rw [if_pos HT2.out, if_neg hadr]
          have HS2 := Lib.hid (crunR_none hnone)
          have hv : decide (va < 0) = true ∨ (decide (va < 0) = false ∧ decide (8 ≤ va) = true) := by
            unfold isAddr at hadr
            simp at hadr ⊢
            omega
          clear hadr hnone
          have hsz := hbelt.size
          have hbrl2 := lt_of_cell hbrt
          rcases hv with hd0 | ⟨hd0, hd8⟩
          all_goals
            go_wp2_with fail
            go_quiet ((go_at_call 159; exact l10Limit_q _ _))
            have hq := below_drewN' wt nq
            replace hfrt := kept_froz hq (lt_of_cell hbrt) hfrt
            replace hbrt := kept_cell hq hbrt
            replace hbelt := btr hbelt hq
            clear hq hbrl2 oyt oht hb7t c1 c2 hst7
            generalize wt.drewN nq = wz at *
            have hbrl3 := lt_of_cell hbrt
            have hres := kept_cell (bal (bself (wz.setCell ⟨w.heap.size + 1, 0, none⟩ (.slice none 0 0))) (.cells #[] 4)) (cell_at wz (w.heap.size + 1) 0 (.slice none 0 0) hbrt)
            have ho := own_nil_made (wz.setCell ⟨w.heap.size + 1, 0, none⟩ (.slice none 0 0)) 4
            simp only [World.size_setCell] at ho
            go_wp2_with fail
            refine bodyPost_ret (v := .tuple #[.agg #[.slice none 0 0], .slice (some ⟨wz.heap.size, 0, none⟩) 0 0, .bool false]) (by simp [results, Try.results116, go_sem, hres]) rfl ⟨_, _, by rw [HS2.out], by rw [HS2.out]; exact World.ownsRow_nil _ _ _ _, by rw [HS2.out]; exact own_mono ho (by omega), bal (bst hbelt _ _ (by omega) _) _⟩
      · have hf : touches (kd, va) = false := by simpa using ht
        rw [hf]
        have HT2 := Lib.hid ht
        clear ht hf
        go_wp2_with fail
        go_roundw
        case rel => exact ⟨k + 1, ys, hits, g, c, by omega, by go_num, by rw [HT.out]; unfold cstep; rw [if_neg HT2.out], hb7t, hg7, hg7', oyt, oht, hbrt, hfrt, hbelt⟩
        case measure => simp [intOf]; omega
    · have e : k = l.length := by omega
      subst e
      rw [List.take_length] at hst
      have HS := Lib.hid (crunR_ok HOK.out hst)
      have hres := cell_at wr (w.heap.size + 1) 0 (.slice (some ⟨g, 0, none⟩) ys.length c) hbr
      obtain ⟨ha2, hc2, rfl⟩ := own_shape oh
      have oy2 := own_mono (own_set oy (w.heap.size + 1) 0 (fun h => by have := oy.lt _ h; omega) (.slice (some ⟨g, 0, none⟩) ys.length c)) (base' := w.heap.size) (by omega)
      have oh2 := own_mono (own_set oh (w.heap.size + 1) 0 (fun h => by have := oh.lt _ h; omega) (.slice (some ⟨g, 0, none⟩) ys.length c)) (base' := w.heap.size) (by omega)
      clear hst HC ha
      go_wp2
      refine bodyPost_ret (v := .tuple #[.agg #[.slice (some ⟨g, 0, none⟩) ys.length c], .slice ha2 hits.length hc2, .bool true]) (by simp [results, Try.results116, go_sem, hres]) rfl ⟨_, _, by rw [HS.out], by rw [HS.out]; exact oy2, by rw [HS.out]; exact oh2, bst hbel _ _ (by omega) _⟩
end Go.Proofs.Ytbglogjamfdmpaa
