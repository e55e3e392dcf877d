import Derived.Test.YtcnaeeejffeeoaaHH
import Derived.Test.YtcnaeeejffeeoaaGG
namespace Go.Proofs.Ytcnaeeejffeeoaa
open Go.RowKit

theorem DrawTraceTime_any (v : Value) (n : Nat) (vs : List Int) (w : World) (hr : Reads w 1 v n (vs.map (Value.int .u8))) (hv : ∀ x ∈ vs, 0 ≤ x ∧ x < 256) (hn : n ≤ 1048576) :
    Calls Try.prog 40 #[v] w fun e w' => ∃ (u tv : Value) (ys : List Int) (l : List Ev), e = .returned (.tuple #[.agg #[u], tv]) ∧ w'.ownsRow w.heap.size 3 1 u ys.length (ints ys) ∧ ys.length ≤ 3 ∧ w'.ownsRow w.heap.size 53 2 tv l.length (evs l) ∧ l.length ≤ 8 ∧ Below w.heap.size w w' := by
  have hb0 := bal (bself w) (.cells #[.slice none 0 0] 24)
  go_enter Try.func40, Try.ntmps40
  go_wp2_with fail
  refine (DrawCacheRun_any v n vs _ (hr.below hb0) hv hn).mono ?_
  rintro e w1 ⟨u, tv, ys, l, rfl, ho, hl, ot, hl8, hb1⟩
  have hR1 : w1.cell? ⟨w.heap.size, 0, none⟩ = some (.slice none 0 0) := kept_cell hb1 (by simp [go_sem])
  have hF1 : w1.frozen? ⟨w.heap.size, 0, none⟩ = false := kept_froz hb1 (by simp) (by simp [go_sem])
  have hk1 := btr hb0 hb1
  obtain ⟨ua, uc, rfl⟩ := own_shape ho
  obtain ⟨ta, tc, rfl⟩ := own_shape ot
  simp only [World.size_alloc] at ho ot
  have ho2 := own_mono (own_set ho w.heap.size 0 (fun h => by have := ho.lt _ h; omega) (.slice ua ys.length uc)) (base' := w.heap.size) (by omega)
  have ot2 := own_mono (own_set ot w.heap.size 0 (fun h => by have := ot.lt _ h; omega) (.slice ua ys.length uc)) (base' := w.heap.size) (by omega)
  have hres := cell_at w1 w.heap.size 0 (.slice ua ys.length uc) hR1
  clear ho ot hb0 hb1 hr
  go_wp2
  exact bodyPost_ret (v := .tuple #[.agg #[.slice ua ys.length uc], .slice ta l.length tc]) (by simp [results, Try.results40, go_sem, hres]) rfl ⟨_, _, ys, l, rfl, ho2, hl, ot2, hl8, bst hk1 _ _ (Nat.le_refl _) _⟩

def keepE (e : Ev) : Bool := e.1 == 5 || touches e
theorem crun_keep (xs : List Int) : ∀ l : List Ev, crun xs (l.filter keepE) = crun xs l := by
  intro l
  refine snoc_ind (P := fun l => crun xs (l.filter keepE) = crun xs l) rfl ?_ l
  intro l e ih
  rw [List.filter_append, crun_snoc, ← ih]
  by_cases hk : keepE e = true
  · rw [List.filter_cons_of_pos hk, List.filter_nil, crun_snoc]
  · have ht : ¬ touches e = true := fun h => hk (by unfold keepE; rw [h, Bool.or_true])
    rw [List.filter_cons_of_neg hk, List.filter_nil, List.append_nil]
    have : (fun s => cstep s e) = fun s => some s := by funext s; unfold cstep; rw [if_neg ht]
    rw [this]; simp
theorem traceT_keep (xs : List Int) (l : List Ev) : traceT xs (l.filter keepE) = traceT xs l := by
  have h1 : crunR xs (l.filter keepE) = crunR xs l := by unfold crunR; rw [crun_keep]
  have h2 : stepsOf (l.filter keepE) = stepsOf l := by
    unfold stepsOf; rw [List.filter_filter]; congr 2; congr 1
    funext e; unfold keepE; cases (e.1 == 5) <;> simp
  unfold traceT; rw [h1, h2]
theorem keep_take (l : List Ev) (k : Nat) (h : k < l.length) : (l.take (k + 1)).filter keepE = (l.take k).filter keepE ++ if keepE l[k] = true then [l[k]] else [] := by
  rw [List.take_succ_eq_append_getElem h, List.filter_append]
  by_cases hx : keepE l[k] = true
  · rw [List.filter_cons_of_pos hx, if_pos hx]; rfl
  · rw [List.filter_cons_of_neg hx, if_neg hx]; rfl
theorem traceT_lo (xs : List Int) (l : List Ev) (h : l.length ≤ 1000000) : -1 ≤ traceT xs l ∧ traceT xs l ≤ 100000000 := by
  have h1 := stepsOf_le l
  have h2 := missOf_le (crunR xs l).2.1
  have h3 := (crunR_hits xs l).1
  unfold traceT
  split <;> omega

set_option maxHeartbeats 4000000 in
set_option maxRecDepth 100000 in
theorem FnTimeEqual_walk (v : Value) (n : Nat) (vs : List Int) (w : World) (r0 : Reads w 1 v n (vs.map (Value.int .u8))) (hv : ∀ x ∈ vs, 0 ≤ x ∧ x < 256) :
    Calls Try.prog 13 #[v] w fun e w' => e = .returned (.bool true) ∧ Below w.heap.size w w' := by
  by_cases hn : n ≤ 1048576
  · obtain ⟨va, vc, rfl⟩ := reads_shape r0
    have hn2 : ¬ (1048576 : Int) < (n : Int) := by omega
    go_enter Try.func13, Try.ntmps13
    go_wp2_with fail
    refine (DrawTraceTime_any _ n vs _ r0 hv hn).mono ?_
    rintro e w1 ⟨u, tv, xs, l, rfl, oc, hxl, ot, hl8, hb⟩
    have hk1 := btr (bself w) hb
    have hsz1 := hb.size
    have tot := hk1
    clear hk1 hb
    clear r0 hv
    obtain ⟨a1, c1, rfl⟩ := own_shape oc
    have iv2 := oc.lt
    obtain ⟨ta, tc, rfl⟩ := own_shape ot
    have iv3 := ot.lt
    have htl := traceT_lo xs l (by omega)
    obtain ⟨htl, hth⟩ := htl
    have HKT := Lib.hid (traceT_keep xs l)
    go_wp2_with fail
    refine (iTraceTime_any _ _ xs l _ (reads_of_owns (own_below oc (bal (bself w1) _)) (by omega)) (reads_of_owns (own_below ot (bal (bself w1) _)) (by omega)) (by omega)).mono ?_
    rintro e w2 ⟨rfl, hb⟩
    have hk4 := btr (bal (bself w1) _) hb
    have hsz4 := hb.size
    simp only [World.size_alloc] at hsz4
    replace oc := own_below oc hk4
    replace ot := own_below ot hk4
    have bx5 : w2.cell? ⟨w1.heap.size, 0, none⟩ = some (.slice a1 xs.length c1) := kept_cell hb (by simp [go_sem])
    replace tot := btr tot hk4
    clear hk4 hb
    have lt6 := lt_of_cell bx5
    go_wp2_with fail
    refine (sTraceTime_any _ _ xs l _ (reads_of_owns oc (by omega)) (reads_of_owns ot (by omega)) (by omega)).mono ?_
    rintro e w3 ⟨rfl, hb⟩
    have hk7 := btr (bself w2) hb
    have hsz7 := hb.size
    replace oc := own_below oc hk7
    replace ot := own_below ot hk7
    replace bx5 := kept_cell hk7 bx5
    replace tot := btr tot hk7
    clear hk7 hb
    have lt8 := lt_of_cell bx5
    have HIT := fun (W : World) (kv : Value) (r1 : Reads W 1 (.slice a1 xs.length c1) xs.length (ints xs)) (r2 : Reads W 2 kv (l.filter keepE).length (evs (l.filter keepE))) => iTraceTime_any (.slice a1 xs.length c1) kv xs (l.filter keepE) W r1 r2 (by have := List.length_filter_le keepE l; omega)
    rw [HKT.out] at HIT
    have HI := Lib.hid HIT
    clear HIT HKT
    have HST := fun (W : World) (r1 : Reads W 1 (.slice a1 xs.length c1) xs.length (ints xs)) (r2 : Reads W 2 (.slice ta l.length tc) l.length (evs l)) => sTraceTime_any (.slice a1 xs.length c1) (.slice ta l.length tc) xs l W r1 r2 (by omega)
    have HS := Lib.hid HST
    clear HST
    generalize traceT xs l = T at *
    by_cases h0 : T < 0
    · go_wp2_with fail
      refine (HS.out _ (reads_of_owns oc (by omega)) (reads_of_owns ot (by omega))).mono ?_
      rintro e w4 ⟨rfl, hb⟩
      have hk9 := btr (bself w3) hb
      have hsz9 := hb.size
      replace oc := own_below oc hk9
      replace ot := own_below ot hk9
      replace bx5 := kept_cell hk9 bx5
      replace tot := btr tot hk9
      clear hk9 hb
      clear oc ot
      go_wp2
      go_ret
      exact ⟨ret_bool (by simp), tot⟩
    · have hon := own_nil_made2 w3 53
      have hz := bal (bself w3) (.cells #[] 53)
      go_wp2_with fail
      go_loopw [6, 7] (fun kv i wr => ∃ j : Nat, j ≤ l.length ∧ i = .int .i64 j ∧ wr.ownsRow w3.heap.size 53 2 kv ((l.take j).filter keepE).length (evs ((l.take j).filter keepE)) ∧ Below w3.heap.size w3 wr) (fun _ i _ => l.length - (intOf i).toNat)
      case atStart => exact ⟨0, Nat.zero_le _, rfl, hon, hz⟩
      case round =>
        obtain ⟨j, hj, rfl, ok, hbr⟩ := hrel
        clear hon hz
        by_cases hlj : j < l.length
        · obtain ⟨tg, tc', htg⟩ := own_pos ot (by omega)
          simp only [Value.slice.injEq, true_and] at htg
          obtain ⟨rfl, rfl⟩ := htg
          obtain ⟨e1, e2⟩ := own_ev (own_below ot hbr) j hlj
          have htk := keep_take l j hlj
          have hkl := List.length_filter_le keepE (l.take j)
          have hkl2 : ((l.take j).filter keepE).length ≤ 8 := by simp at hkl; omega
          generalize l[j] = ev at e1 e2 htk
          obtain ⟨kd, v0⟩ := ev
          simp only at e1 e2
          have HT := Lib.hid htk
          have hji : (j : Int) < (l.length : Int) := by omega
          have hsz := hbr.size
          clear htk ot oc tot hkl
          generalize (l.take j).filter keepE = K at *
          by_cases hk : keepE (kd, v0) = true
          · have HK := Lib.hid hk
            have hc3 : (kd == 5) = true ∨ ((kd == 5) = false ∧ (kd == 2) = true) ∨ ((kd == 5) = false ∧ (kd == 2) = false ∧ (kd == 3) = true) := by
              unfold keepE touches at hk
              by_cases h5 : kd = 5
              · left; simp [h5]
              · by_cases h2 : kd = 2
                · right; left; subst h2; exact ⟨rfl, rfl⟩
                · right; right
                  simp [h5, h2] at hk
                  subst hk; exact ⟨rfl, rfl, rfl⟩
            clear hk
            rcases hc3 with h5 | ⟨h5, h2⟩ | ⟨h5, h2, h3⟩
            all_goals
              go_wp2_with (at_builtin; refine wpList_ap tEvs rfl _ _ rfl w3.heap.size _ K.length _ rfl ok [.int .i64 kd, .int .i64 v0] rfl rfl (one_ev kd v0) (by omega) ?_ ?_; exact hsz; intro gg c w' ho' hc' hg'; have hb2 := hbr.trans (hc'.below w3.heap.size hsz (fun q hq => not_own ok hq)); have ho2 : w'.ownsRow w3.heap.size 53 2 (.slice (some ⟨gg, 0, none⟩) (K.length + 1) c) (K.length + 1) (evs (K ++ [(kd, v0)])) := (by rw [evs_append]; exact ho'); clear hc' ho' hg')
              go_roundw
              case rel => exact ⟨j + 1, by omega, by go_num, by rw [HT.out, if_pos HK.out]; simpa using ho2, hb2⟩
              case measure => simp [intOf]; omega
          · have HK := Lib.hid hk
            have h5 : (kd == 5) = false := by unfold keepE at hk; simp at hk ⊢; exact hk.1
            have h2 : (kd == 2) = false := by unfold keepE touches at hk; simp at hk ⊢; exact hk.2.1
            have h3 : (kd == 3) = false := by unfold keepE touches at hk; simp at hk ⊢; exact hk.2.2
            clear hk
            go_wp2_with fail
            go_roundw
            case rel => exact ⟨j + 1, by omega, by go_num, by rw [HT.out, if_neg HK.out, List.append_nil]; exact ok, hbr⟩
            case measure => simp [intOf]; omega
        · have e : j = l.length := by omega
          subst e
          rw [List.take_length] at ok
          have hkl := List.length_filter_le keepE l
          have tot2 := btr tot hbr
          have oc2 := own_below oc hbr
          have cc := kept_cell hbr bx5
          have lc := lt_of_cell cc
          obtain ⟨ka, kc, rfl⟩ := own_shape ok
          clear ot oc tot
          go_wp2_with fail
          refine (HI.out _ _ (reads_of_owns oc2 (by omega)) (reads_of_owns ok (by omega))).mono ?_
          rintro e w9 ⟨rfl, hb9⟩
          have tot3 := btr tot2 hb9
          clear oc2 ok hbr
          go_wp2_with fail
          go_ret
          exact ⟨ret_bool (by simp), tot3⟩
  · have hn2 : (1048576 : Int) < (n : Int) := by omega
    obtain ⟨va, vc, rfl⟩ := reads_shape r0
    clear r0
    go_enter Try.func13, Try.ntmps13
    go_wp2
    go_ret
    exact ⟨rfl, Below.refl _ _⟩
end Go.Proofs.Ytcnaeeejffeeoaa
