import Derived.Test.YtcnaeeejffeeoaaLL
import Derived.Test.YtcnaeeejffeeoaaKK
namespace Go.Proofs.Ytcnaeeejffeeoaa
open Go.RowKit

set_option maxHeartbeats 4000000 in
set_option maxRecDepth 100000 in
theorem FnTraceTime_walk (v : Value) (n : Nat) (vs : List Int) (v2 : Value) (n2 : Nat) (vs2 : List Value) (w : World) (r0 : Reads w 1 v n (vs.map (Value.int .u8))) (hv : ∀ x ∈ vs, 0 ≤ x ∧ x < 256) (r2 : Reads w 1 v2 n2 vs2) :
    Calls Try.prog 14 #[v, v2] w fun e w' => e = .returned (.bool true) ∧ Below w.heap.size w w' := by
  by_cases hn : n ≤ 1048576 ∧ n2 ≤ 1048576
  · obtain ⟨hn, hm⟩ := hn
    obtain ⟨va, vc, rfl⟩ := reads_shape r0
    obtain ⟨vb, vd, rfl⟩ := reads_shape r2
    have hn2 : ¬ (1048576 : Int) < (n : Int) := by omega
    have hm2 : ¬ (1048576 : Int) < (n2 : Int) := by omega
    clear r2
    go_enter Try.func14, Try.ntmps14
    go_wp2_with fail
    refine (DrawTraceTime_any _ n vs _ r0 hv hn).mono ?_
    rintro e w1 ⟨u, tv, xs, l, rfl, oc, hxl, ot, hl8, hb⟩
    have hk1 := btr (bself w) hb
    have hsz1 := hb.size
    have tot := hk1
    clear hk1 hb
    clear r0 hv
    obtain ⟨a1, c1, rfl⟩ := own_shape oc
    have iv2 := oc.lt
    obtain ⟨ta, tc, rfl⟩ := own_shape ot
    have iv3 := ot.lt
    have htl := traceT_lo xs l (by omega)
    obtain ⟨htl, hth⟩ := htl
    have hcr := crunR_hits xs l
    obtain ⟨hcr1, hcr2⟩ := hcr
    go_wp2_with fail
    refine (iTraceTime_any _ _ xs l _ (reads_of_owns (own_below oc (bal (bself w1) _)) (by omega)) (reads_of_owns (own_below ot (bal (bself w1) _)) (by omega)) (by omega)).mono ?_
    rintro e w2 ⟨rfl, hb⟩
    have hk4 := btr (bal (bself w1) _) hb
    have hsz4 := hb.size
    simp only [World.size_alloc] at hsz4
    replace oc := own_below oc hk4
    replace ot := own_below ot hk4
    have bx5 : w2.cell? ⟨w1.heap.size, 0, none⟩ = some (.slice a1 xs.length c1) := kept_cell hb (by simp [go_sem])
    replace tot := btr tot hk4
    clear hk4 hb
    have lt6 := lt_of_cell bx5
    go_wp2_with fail
    refine (iCacheRun_any _ _ xs l _ (reads_of_owns oc (by omega)) (reads_of_owns ot (by omega)) (by omega)).mono ?_
    rintro e w3 ⟨u2, b2, rfl, oy, oh, hb⟩
    have hk7 := btr (bself w2) hb
    have hsz7 := hb.size
    replace oc := own_below oc hk7
    replace ot := own_below ot hk7
    replace bx5 := kept_cell hk7 bx5
    replace tot := btr tot hk7
    clear hk7 hb
    obtain ⟨a2, c2, rfl⟩ := own_shape oy
    have iv8 := oy.lt
    obtain ⟨a3, c3, rfl⟩ := own_shape oh
    clear oh
    have lt9 := lt_of_cell bx5
    go_wp2_with fail
    refine (sTraceTime_any _ _ xs l _ (reads_of_owns (own_below oc (bal (bself w3) _)) (by omega)) (reads_of_owns (own_below ot (bal (bself w3) _)) (by omega)) (by omega)).mono ?_
    rintro e w4 ⟨rfl, hb⟩
    have hk10 := btr (bal (bself w3) _) hb
    have hsz10 := hb.size
    simp only [World.size_alloc] at hsz10
    replace oc := own_below oc hk10
    replace ot := own_below ot hk10
    replace bx5 := kept_cell hk10 bx5
    replace oy := own_below oy hk10
    have bx11 : w4.cell? ⟨w3.heap.size, 0, none⟩ = some (.slice a2 (crunR xs l).1.length c2) := kept_cell hb (by simp [go_sem])
    replace tot := btr tot hk10
    clear hk10 hb
    have lt12 := lt_of_cell bx5
    have lt13 := lt_of_cell bx11
    cases hok : (crunR xs l).2.2
    · have hT1 : traceT xs l = -1 := by unfold traceT; rw [hok]; rfl
      have HST := fun (W : World) (r1 : Reads W 1 (.slice a1 xs.length c1) xs.length (ints xs)) (r2 : Reads W 2 (.slice ta l.length tc) l.length (evs l)) => sTraceTime_any (.slice a1 xs.length c1) (.slice ta l.length tc) xs l W r1 r2 (by omega)
      rw [hT1] at HST ⊢
      have HS := Lib.hid HST
      clear HST hT1 htl hth
      go_wp2_with fail
      refine (HS.out _ (reads_of_owns oc (by omega)) (reads_of_owns ot (by omega))).mono ?_
      rintro e w5 ⟨rfl, hb⟩
      have hk14 := btr (bself w4) hb
      have hsz14 := hb.size
      replace oc := own_below oc hk14
      replace ot := own_below ot hk14
      replace bx5 := kept_cell hk14 bx5
      replace oy := own_below oy hk14
      replace bx11 := kept_cell hk14 bx11
      replace tot := btr tot hk14
      clear hk14 hb
      clear oc ot oy
      go_wp2
      go_ret
      exact ⟨rfl, tot⟩
    · have hkb : n2 % (l.length + 1) < l.length + 1 := Nat.mod_lt _ (by omega)
      have hke : ((n2 : Int) % ((l.length : Int) + 1)) = ((n2 % (l.length + 1) : Nat) : Int) := by
        have : ((l.length : Int) + 1) = ((l.length + 1 : Nat) : Int) := by omega
        rw [this, ← Int.natCast_emod]
      generalize n2 % (l.length + 1) = k at *
      have hkl : k ≤ l.length := by omega
      have hcrp := crunR_parts hok k
      have htp := traceT_parts hok k
      have hhi := traceT_hi hok
      have hval : cacheOk (crunR xs l).1 = true := by
        obtain ⟨h1, h2⟩ := crunR_true hok
        exact (crun_inv xs h1 l _ _ h2).1
      have hy2 := (crunR_hits xs (l.take k)).2
      have hta := traceT_lo xs (l.take k) (by rw [List.length_take]; omega)
      have htb := traceT_lo (crunR xs (l.take k)).1 (l.drop k) (by rw [List.length_drop]; omega)
      have hcap : k ≤ tc := by
        obtain ⟨_, _, a', c', _, _, hq, ⟨hq1, _⟩, _⟩ := reads_of_owns ot (by omega)
        simp only [Value.slice.injEq, true_and] at hq
        omega
      have hp1 := run_pre tEvs ta l.length tc k hcap
      have hp2 := run_post tEvs ta l.length tc k hkl
      have hR1 : ∀ W', Below w4.heap.size w4 W' → Reads W' 2 (.slice ta k tc) k (evs (l.take k)) := fun W' h => by rw [← evs_take]; exact own_pre (own_below ot h) (by omega) k hkl
      have hR2 : ∀ W', Below w4.heap.size w4 W' → Reads W' 2 (.slice (if tc = k then ta else ta.map (fun x => x.add (k * 2))) (l.length - k) (tc - k)) (l.length - k) (evs (l.drop k)) := fun W' h => by rw [← evs_drop]; exact own_post (own_below ot h) (by omega) k hkl
      generalize (if tc = k then ta else ta.map (fun x => x.add (k * 2))) = tp at *
      have hRc : ∀ W', Below w4.heap.size w4 W' → Reads W' 1 (.slice a1 xs.length c1) xs.length (ints xs) := fun W' h => reads_of_owns (own_below oc h) (by omega)
      have htake : (l.take k).length = k := by rw [List.length_take]; omega
      have hdrop : (l.drop k).length = l.length - k := List.length_drop
      have hCR := fun (W : World) r1 r2 => iCacheRun_any (.slice a1 xs.length c1) (.slice ta k tc) xs (l.take k) W r1 r2 (by omega)
      have hTA := fun (W : World) r1 r2 => iTraceTime_any (.slice a1 xs.length c1) (.slice ta k tc) xs (l.take k) W r1 r2 (by omega)
      have hTB := fun (W : World) ya yc r1 r2 => iTraceTime_any (.slice ya (crunR xs (l.take k)).1.length yc) (.slice tp (l.length - k) (tc - k)) (crunR xs (l.take k)).1 (l.drop k) W r1 r2 (by omega)
      rw [htake] at hCR hTA
      rw [hdrop] at hTB
      obtain ⟨q1, q2, q3, q4⟩ := hcrp
      rw [q1] at hCR
      have HCR := Lib.hid hCR
      have HTA := Lib.hid hTA
      have HTB := Lib.hid hTB
      have HR1 := Lib.hid hR1
      have HR2 := Lib.hid hR2
      have HRc := Lib.hid hRc
      have hC0 : ∀ W', Below w4.heap.size w4 W' → W'.cell? ⟨w1.heap.size, 0, none⟩ = some (.slice a1 xs.length c1) := fun W' h => kept_cell h bx5
      have HC0 := Lib.hid hC0
      generalize crunR xs (l.take k) = R1 at *
      obtain ⟨ys, h1, ok1⟩ := R1
      simp only at *
      generalize traceT xs (l.take k) = TA at *
      generalize traceT ys (l.drop k) = TB at *
      have HTP := Lib.hid htp
      generalize traceT xs l = T at *
      obtain ⟨hta0, hta1⟩ := hta
      obtain ⟨htb0, htb1⟩ := htb
      have HHI := Lib.hid hhi
      have c0 := Below.drew (bself w4)
      clear htp hCR hTA hTB hR1 hR2 hRc hC0 q1 q2 q3 q4 oc ot hok htake hdrop hkb hhi hcap
      go_upto_region 9 with (fail)
      rw [hke]
      clear hke
      go_cut [12, 13, 14] (fun sa _ sc wx => ∃ (bb : Nat) (ya : Option Addr) (yc : Nat), sa = .pointer (some ⟨bb, 0, none⟩) ∧ sc = .bool true ∧ wx.cell? ⟨bb, 0, none⟩ = some (.slice ya ys.length yc) ∧ wx.ownsRow w4.heap.size 3 1 (.slice ya ys.length yc) ys.length (ints ys) ∧ Below w4.heap.size w4 wx)
      case first =>
        clear tot oy
        have d1 := Below.drew (bal (bself w4) (.cells #[.slice none 0 0] 24))
        go_region_with (first | (go_at_call 38; refine (HCR.out _ (HRc.out _ c0) (HR1.out _ c0)).mono ?_; rintro e w5 ⟨u9, b9, rfl, o9, oh9, hb9⟩; obtain ⟨a9, c9, rfl⟩ := own_shape o9; clear oh9; have k5 := btr c0 hb9) | (go_at_call 38; refine (HCR.out _ (HRc.out _ d1) (HR1.out _ d1)).mono ?_; rintro e w5 ⟨u9, b9, rfl, o9, oh9, hb9⟩; obtain ⟨a9, c9, rfl⟩ := own_shape o9; clear oh9; have k5 := btr d1 hb9; have q5 : w5.cell? ⟨w4.heap.size, 0, none⟩ = some (.slice none 0 0) := kept_cell hb9 (by simp [go_sem]); have r5 : w5.frozen? ⟨w4.heap.size, 0, none⟩ = false := kept_froz hb9 (by simp) (by simp [go_sem])))
        all_goals (go_wp2_with fail; go_meet; refine ⟨_, a9, c9, rfl, rfl, ?_⟩)
        all_goals first | exact ⟨cell_new1 _ _ _, own_below (own_mono o9 (by simp)) (bal (bself w5) _), bal k5 _⟩ | exact ⟨cell_at _ _ _ _ q5, own_set (own_mono o9 (by simp)) _ _ (fun h => by have := o9.lt _ h; simp at this; omega) _, bst k5 _ _ (by omega) _⟩
      obtain ⟨W5, rfl⟩ : ∃ W, W = wc := ⟨_, rfl⟩
      obtain ⟨bb, ya, yc, rfl, rfl, cb, oys, hb⟩ := hcut
      have k5 := hb
      have hk14 := btr (bself w4) hb
      have hsz14 := hb.size
      replace bx5 := kept_cell hk14 bx5
      replace oy := own_below oy hk14
      replace bx11 := kept_cell hk14 bx11
      replace tot := btr tot hk14
      clear hk14 hb
      go_upto_region 10 with (fail)
      go_cut [15] (fun sa wx => sa = .int .i64 TA ∧ Below W5.heap.size W5 wx)
      case first =>
        clear tot oy
        go_region_with (go_at_call 41; refine (HTA.out _ (HRc.out _ (btr k5 (Below.drew (bself W5)))) (HR1.out _ (btr k5 (Below.drew (bself W5))))).mono ?_; rintro e w9 ⟨rfl, hb9⟩)
        all_goals (go_wp2_with fail; go_meet; exact ⟨rfl, btr (Below.drew (bself W5)) hb9⟩)
      obtain ⟨W6, rfl⟩ : ∃ W, W = wc := ⟨_, rfl⟩
      obtain ⟨rfl, hb⟩ := hcut
      replace k5 := btr k5 hb
      have hk15 := btr (bself W5) hb
      have hsz15 := hb.size
      replace bx5 := kept_cell hk15 bx5
      replace oy := own_below oy hk15
      replace bx11 := kept_cell hk15 bx11
      replace oys := own_below oys hk15
      replace cb := kept_cell hk15 cb
      replace tot := btr tot hk15
      clear hk15 hb
      go_upto_region 11 with (fail)
      go_cut [16] (fun sa wx => sa = .int .i64 TB ∧ Below W6.heap.size W6 wx)
      case first =>
        clear tot oy
        go_region_with (go_at_call 41; refine (HTB.out _ ya yc (reads_of_owns (own_below oys (Below.drew (bself W6))) (by omega)) (HR2.out _ (btr k5 (Below.drew (bself W6))))).mono ?_; rintro e w9 ⟨rfl, hb9⟩)
        all_goals (go_wp2_with fail; go_meet; exact ⟨rfl, btr (Below.drew (bself W6)) hb9⟩)
      obtain ⟨W7, rfl⟩ : ∃ W, W = wc := ⟨_, rfl⟩
      obtain ⟨rfl, hb⟩ := hcut
      replace k5 := btr k5 hb
      have hk16 := btr (bself W6) hb
      have hsz16 := hb.size
      replace bx5 := kept_cell hk16 bx5
      replace oy := own_below oy hk16
      replace bx11 := kept_cell hk16 bx11
      replace oys := own_below oys hk16
      replace cb := kept_cell hk16 cb
      replace tot := btr tot hk16
      clear hk16 hb
      have htp := HTP.out
      have hhi := HHI.out
      subst htp
      have hle : decide (TA + TB ≤ (l.length : Int) * 10) = true := decide_eq_true (by omega)
      have heq : (TA + TB == TA + TB) = true := by simp
      clear hhi HHI HTP HTA HTB HCR HR1 HR2 HRc oys cb k5 c0 hp1 hp2
      go_wp2_with fail
      refine (iCacheValid_any _ (crunR xs l).1 _ (reads_of_owns oy (by omega))).mono ?_
      rintro e w9 ⟨rfl, hb⟩
      rw [hval]
      replace tot := btr tot hb
      clear oy hb
      go_wp2
      go_ret
      exact ⟨rfl, tot⟩
  · have hm2 : (1048576 : Int) < (n : Int) ∨ (¬ (1048576 : Int) < (n : Int) ∧ (1048576 : Int) < (n2 : Int)) := by omega
    obtain ⟨va, vc, rfl⟩ := reads_shape r0
    obtain ⟨vb, vd, rfl⟩ := reads_shape r2
    clear r0 r2 hn
    rcases hm2 with hm2 | ⟨hm1, hm2⟩
    all_goals
      go_enter Try.func14, Try.ntmps14
      go_wp2
      go_ret
      exact ⟨rfl, Below.refl _ _⟩
end Go.Proofs.Ytcnaeeejffeeoaa
