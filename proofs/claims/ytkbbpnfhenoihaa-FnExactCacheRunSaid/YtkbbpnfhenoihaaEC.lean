import Derived.Test.YtkbbpnfhenoihaaET
namespace Go.Proofs.Ytkbbpnfhenoihaa
open Go.RowKit

/-- rows of different element types lie in different blocks -/
theorem own_diff {w : World} {base base' : Nat} {e e' : TypeId} {sz sz' n n' : Nat} {v v' : Value} {xs ys : List Value} (h : w.ownsRow base e sz v n xs) (h' : w.ownsRow base' e' sz' v' n' ys) (he : e ≠ e') : ∀ q, v.ownBlock = some q → v'.ownBlock = some q → False := by
  intro q h1 h2
  rcases h.2 with ⟨rfl, _⟩ | ⟨g, cap, cur, rfl, _, hg, _⟩
  · simp [Value.ownBlock] at h1
  · rcases h'.2 with ⟨rfl, _⟩ | ⟨g', cap', cur', rfl, _, hg', _⟩
    · simp [Value.ownBlock] at h2
    · have e1 : g = q := Option.some.inj h1
      have e2 : g' = q := Option.some.inj h2
      subst e1
      subst e2
      rw [hg] at hg'
      simp only [Option.some.injEq, Obj.cells.injEq] at hg'
      exact he hg'.2.1

set_option maxHeartbeats 8000000 in
set_option maxRecDepth 100000 in
theorem FnExactCacheRun_walk (v tv : Value) (xs : List Int) (l : List Ev) (w : World) (r0 : Reads w 1 v xs.length (ints xs)) (r1 : Reads w 2 tv l.length (rows evc l)) :
    Calls Try.prog 4 #[.agg #[v], tv] w fun e w' => e = .returned (.bool true) ∧ Below w.heap.size w w' := by
  have ivr := reads_lt r0
  have ivs := reads_lt r1
  have hll := crunR_hits xs l
  obtain ⟨va, vc, rfl⟩ := reads_shape r0
  obtain ⟨ta, tc, rfl⟩ := reads_shape r1
  have hI := fun (v tv : Value) (W : World) (h : l.length ≤ 1073741824) (h1 : Reads W 1 v xs.length (ints xs)) (h2 : Reads W 2 tv l.length (rows evc l)) => iCacheRun_any v tv xs l W h1 (by rw [evs_rows]; exact h2) h
  have hS := fun (v tv : Value) (W : World) (h : l.length ≤ 1073741824) (h1 : Reads W 1 v xs.length (ints xs)) (h2 : Reads W 2 tv l.length (rows evc l)) => sCacheRun_any v tv xs l W h1 (by rw [evs_rows]; exact h2) h
  generalize crunR xs l = R at *
  obtain ⟨ys, hs, ok⟩ := R
  simp only at hll hI hS
  obtain ⟨hh, hy⟩ := hll
  have HI := Lib.hid hI
  have HS := Lib.hid hS
  clear hI hS
  go_enter Try.func4, Try.ntmps4
  go_wp2_with fail
  refine (szCache_any _ _ _ 1048576 _ (r0.below (bal (bself w) _)) (by omega) (by omega)).mono ?_
  rintro e w1 ⟨rfl, hb⟩
  have hk1 := btr (bal (bself w) _) hb
  have hsz1 := hb.size
  simp only [World.size_alloc] at hsz1
  replace r0 := r0.below hk1
  replace r1 := r1.below hk1
  have bx2 : w1.cell? ⟨w.heap.size, 0, none⟩ = some (.slice va xs.length vc) := kept_cell hb (by simp [go_sem])
  have tot := hk1
  clear hk1 hb
  by_cases hl : (1048576 : Int) < xs.length
  · rw [if_pos hl]
    clear hl r0 r1
    go_wp2
    go_ret
    exact ⟨rfl, tot⟩
  rw [if_neg hl]
  have hnn : ¬ (1048576 : Int) - xs.length < 0 := by omega
  have hlen : xs.length ≤ 1048576 := by omega
  clear hl
  have lt3 := lt_of_cell bx2
  go_wp2_with fail
  refine (szEventS_any _ _ _ (1048576 - xs.length) _ r1 (by omega) (by omega)).mono ?_
  rintro e w2 ⟨rfl, hb⟩
  have hk4 := btr (bself w1) hb
  have hsz4 := hb.size
  replace r0 := r0.below hk4
  replace r1 := r1.below hk4
  replace bx2 := kept_cell hk4 bx2
  replace tot := btr tot hk4
  clear hk4 hb
  by_cases hl : (1048576 : Int) - xs.length < l.length
  · rw [if_pos hl]
    clear hl r0 r1
    go_wp2
    go_ret
    exact ⟨rfl, tot⟩
  rw [if_neg hl]
  have hnm : ¬ (1048576 : Int) - xs.length - l.length < 0 := by omega
  have hlem : l.length ≤ 1048576 := by omega
  clear hl
  have lt5 := lt_of_cell bx2
  have hok : (!(ok == ok)) = false := by simp
  go_wp2_with fail
  refine (toCache_any _ xs _ r0 (by omega)).mono ?_
  rintro e w3 ⟨v1, rfl, o1, hb⟩
  have hk6 := btr (bself w2) hb
  have hsz6 := hb.size
  replace r0 := r0.below hk6
  replace r1 := r1.below hk6
  replace bx2 := kept_cell hk6 bx2
  replace tot := btr tot hk6
  clear hk6 hb
  obtain ⟨a1, c1, rfl⟩ := own_shape o1
  have iv7 := o1.lt
  have lt8 := lt_of_cell bx2
  go_wp2_with fail
  refine (toEventS_any _ l _ r1 (by omega)).mono ?_
  rintro e w4 ⟨v2, rfl, o2, hb⟩
  have hk9 := btr (bself w3) hb
  have hsz9 := hb.size
  replace r0 := r0.below hk9
  replace r1 := r1.below hk9
  replace bx2 := kept_cell hk9 bx2
  replace o1 := own_below o1 hk9
  replace tot := btr tot hk9
  clear hk9 hb
  obtain ⟨a2, c2, rfl⟩ := own_shape o2
  have iv10 := o2.lt
  have lt11 := lt_of_cell bx2
  go_wp2_with fail
  refine (HS.out _ _ _ (by omega) (reads_of_owns o1 (by omega)) (reads_of_owns o2 (by omega))).mono ?_
  rintro e w5 ⟨u1, b1, rfl, ow, oh, hb⟩
  have hk12 := btr (bself w4) hb
  have hsz12 := hb.size
  replace r0 := r0.below hk12
  replace r1 := r1.below hk12
  replace bx2 := kept_cell hk12 bx2
  replace o1 := own_below o1 hk12
  replace o2 := own_below o2 hk12
  replace tot := btr tot hk12
  clear hk12 hb
  obtain ⟨p1, q1, rfl⟩ := own_shape ow
  have iv13 := ow.lt
  obtain ⟨g1, k1, rfl⟩ := own_shape oh
  have iv14 := oh.lt
  have lt15 := lt_of_cell bx2
  clear o1
  clear o2
  go_wp2_with fail
  refine (toCache_any _ xs _ (r0.below (bal (bself w5) _)) (by omega)).mono ?_
  rintro e w6 ⟨v3, rfl, ox, hb⟩
  have hk16 := btr (bal (bself w5) _) hb
  have hsz16 := hb.size
  simp only [World.size_alloc] at hsz16
  replace r0 := r0.below hk16
  replace r1 := r1.below hk16
  replace bx2 := kept_cell hk16 bx2
  replace ow := own_below ow hk16
  replace oh := own_below oh hk16
  have bx17 : w6.cell? ⟨w5.heap.size, 0, none⟩ = some (.slice p1 ys.length q1) := kept_cell hb (by simp [go_sem])
  replace tot := btr tot hk16
  clear hk16 hb
  obtain ⟨a3, c3, rfl⟩ := own_shape ox
  have iv18 := ox.lt
  simp only [World.size_alloc] at iv18
  have lt19 := lt_of_cell bx2
  have lt20 := lt_of_cell bx17
  go_wp2_with fail
  refine (toEventS_any _ l _ (r1.below (bal (bself w6) _)) (by omega)).mono ?_
  rintro e w7 ⟨v4, rfl, oy, hb⟩
  have hk21 := btr (bal (bself w6) _) hb
  have hsz21 := hb.size
  simp only [World.size_alloc] at hsz21
  replace r0 := r0.below hk21
  replace r1 := r1.below hk21
  replace bx2 := kept_cell hk21 bx2
  replace ow := own_below ow hk21
  replace oh := own_below oh hk21
  replace bx17 := kept_cell hk21 bx17
  replace ox := own_below ox hk21
  have bx22 : w7.cell? ⟨w6.heap.size, 0, none⟩ = some (.slice a3 xs.length c3) := kept_cell hb (by simp [go_sem])
  replace tot := btr tot hk21
  clear hk21 hb
  obtain ⟨a4, c4, rfl⟩ := own_shape oy
  have iv23 := oy.lt
  simp only [World.size_alloc] at iv23
  have lt24 := lt_of_cell bx2
  have lt25 := lt_of_cell bx17
  have lt26 := lt_of_cell bx22
  go_wp2_with fail
  refine (HI.out _ _ _ (by omega) (reads_of_owns ox (by omega)) (reads_of_owns oy (by omega))).mono ?_
  rintro e w8 ⟨u2, b2, rfl, og, oi, hb⟩
  have hk27 := btr (bself w7) hb
  have hsz27 := hb.size
  replace r0 := r0.below hk27
  replace r1 := r1.below hk27
  replace bx2 := kept_cell hk27 bx2
  replace ow := own_below ow hk27
  replace oh := own_below oh hk27
  replace bx17 := kept_cell hk27 bx17
  replace ox := own_below ox hk27
  replace bx22 := kept_cell hk27 bx22
  replace oy := own_below oy hk27
  replace tot := btr tot hk27
  clear hk27 hb
  obtain ⟨p2, q2, rfl⟩ := own_shape og
  have iv28 := og.lt
  obtain ⟨g2, k2, rfl⟩ := own_shape oi
  have iv29 := oi.lt
  have lt30 := lt_of_cell bx2
  have lt31 := lt_of_cell bx17
  have lt32 := lt_of_cell bx22
  have hne := own_diff og oi (by decide)
  have hne2 := fun q h h2 => hne q h2 h
  go_wp2_with fail
  refine (eqCache_any _ _ ys ys _ (reads_of_owns (own_below og (bal (bself w8) _)) (by omega)) (reads_of_owns (own_below ow (bal (bself w8) _)) (by omega))).mono ?_
  rintro e w9 ⟨rfl, hb⟩
  have hk33 := btr (bal (bself w8) _) hb
  have hsz33 := hb.size
  simp only [World.size_alloc] at hsz33
  replace r0 := r0.below hk33
  replace r1 := r1.below hk33
  replace bx2 := kept_cell hk33 bx2
  replace ow := own_below ow hk33
  replace oh := own_below oh hk33
  replace bx17 := kept_cell hk33 bx17
  replace ox := own_below ox hk33
  replace bx22 := kept_cell hk33 bx22
  replace oy := own_below oy hk33
  replace og := own_below og hk33
  replace oi := own_below oi hk33
  have bx34 : w9.cell? ⟨w8.heap.size, 0, none⟩ = some (.slice p2 ys.length q2) := kept_cell hb (by simp [go_sem])
  replace tot := btr tot hk33
  clear hk33 hb
  rw [decide_eq_true (Eq.refl ys)]
  have lt35 := lt_of_cell bx2
  have lt36 := lt_of_cell bx17
  have lt37 := lt_of_cell bx22
  have lt38 := lt_of_cell bx34
  go_wp2_with fail
  refine (eqBoolS_b _ _ hs hs _ (reads_of_owns oi (by omega)) (reads_of_owns oh (by omega))).mono ?_
  rintro e w10 ⟨rfl, hb⟩
  have hk39 := btr (bself w9) hb
  have hsz39 := hb.size
  replace r0 := r0.below hk39
  replace r1 := r1.below hk39
  replace bx2 := kept_cell hk39 bx2
  replace ow := own_below ow hk39
  replace oh := own_below oh hk39
  replace bx17 := kept_cell hk39 bx17
  replace ox := own_below ox hk39
  replace bx22 := kept_cell hk39 bx22
  replace oy := own_below oy hk39
  replace og := own_below og hk39
  replace oi := own_below oi hk39
  replace bx34 := kept_cell hk39 bx34
  replace tot := btr tot hk39
  clear hk39 hb
  rw [decide_eq_true (Eq.refl hs)]
  have lt40 := lt_of_cell bx2
  have lt41 := lt_of_cell bx17
  have lt42 := lt_of_cell bx22
  have lt43 := lt_of_cell bx34
  go_upto_region 14 with (fail)
  go_cut [69] (fun s wx => s = .bool false ∧ Below w10.heap.size w10 wx)
  case first =>
    clear tot
    go_region_with (first | (go_at_call 18; refine (toCache_any _ xs _ (r0.below (Below.drew (bself w10))) (by omega)).mono ?_; rintro e wa ⟨ua, rfl, oa, ba⟩; obtain ⟨aa, ca, rfl⟩ := own_shape oa; have xbx22 := kept_cell (btr (Below.drew (bself w10)) ba) bx22) | (go_at_call 21; refine (eqCache_any _ _ xs xs _ (reads_of_owns (own_below ox (btr (Below.drew (bself w10)) ba)) (by omega)) (reads_of_owns oa (by omega))).mono ?_; rintro e wb ⟨rfl, bb⟩))
    all_goals (go_wp2_with fail; go_meet; exact ⟨rfl, btr (btr (Below.drew (bself w10)) ba) bb⟩)
  obtain ⟨w11, rfl⟩ : ∃ W, W = wc := ⟨_, rfl⟩
  obtain ⟨rfl, hb⟩ := hcut
  have hk44 := btr (bself w10) hb
  have hsz44 := hb.size
  replace r0 := r0.below hk44
  replace r1 := r1.below hk44
  replace bx2 := kept_cell hk44 bx2
  replace ow := own_below ow hk44
  replace oh := own_below oh hk44
  replace bx17 := kept_cell hk44 bx17
  replace ox := own_below ox hk44
  replace bx22 := kept_cell hk44 bx22
  replace oy := own_below oy hk44
  replace og := own_below og hk44
  replace oi := own_below oi hk44
  replace bx34 := kept_cell hk44 bx34
  replace tot := btr tot hk44
  clear hk44 hb
  have lt45 := lt_of_cell bx2
  have lt46 := lt_of_cell bx17
  have lt47 := lt_of_cell bx22
  have lt48 := lt_of_cell bx34
  go_wp2_with fail
  refine (toEventS_any _ l _ r1 (by omega)).mono ?_
  rintro e w12 ⟨v5, rfl, oz, hb⟩
  have hk49 := btr (bself w11) hb
  have hsz49 := hb.size
  replace r0 := r0.below hk49
  replace r1 := r1.below hk49
  replace bx2 := kept_cell hk49 bx2
  replace ow := own_below ow hk49
  replace oh := own_below oh hk49
  replace bx17 := kept_cell hk49 bx17
  replace ox := own_below ox hk49
  replace bx22 := kept_cell hk49 bx22
  replace oy := own_below oy hk49
  replace og := own_below og hk49
  replace oi := own_below oi hk49
  replace bx34 := kept_cell hk49 bx34
  replace tot := btr tot hk49
  clear hk49 hb
  obtain ⟨a5, c5, rfl⟩ := own_shape oz
  have iv50 := oz.lt
  have lt51 := lt_of_cell bx2
  have lt52 := lt_of_cell bx17
  have lt53 := lt_of_cell bx22
  have lt54 := lt_of_cell bx34
  go_wp2_with fail
  refine (eqEventS_any _ _ l l _ (reads_of_owns oy (by omega)) (reads_of_owns oz (by omega))).mono ?_
  rintro e w13 ⟨rfl, hb⟩
  have hk55 := btr (bself w12) hb
  have hsz55 := hb.size
  replace r0 := r0.below hk55
  replace r1 := r1.below hk55
  replace bx2 := kept_cell hk55 bx2
  replace ow := own_below ow hk55
  replace oh := own_below oh hk55
  replace bx17 := kept_cell hk55 bx17
  replace ox := own_below ox hk55
  replace bx22 := kept_cell hk55 bx22
  replace oy := own_below oy hk55
  replace og := own_below og hk55
  replace oi := own_below oi hk55
  replace bx34 := kept_cell hk55 bx34
  replace oz := own_below oz hk55
  replace tot := btr tot hk55
  clear hk55 hb
  rw [decide_eq_true (Eq.refl l)]
  clear oz
  have lt56 := lt_of_cell bx2
  have lt57 := lt_of_cell bx17
  have lt58 := lt_of_cell bx22
  have lt59 := lt_of_cell bx34
  go_wp2_with fail
  refine (markCache_any _ xs 1 _ _ ox (by omega) (by omega) (by omega)).mono ?_
  rintro e w14 ⟨rfl, mx, hb⟩
  have hk60 := (Chg.of_below (bself w13)).trans hb
  have hsz60 := hb.size
  replace r0 := r0.keep hk60 (fun b _ _ h0 h h2 => by have := ivr b _ _ h0 h; have := iv18 b h2; omega)
  replace r1 := r1.keep hk60 (fun b _ _ h0 h h2 => by have := ivs b _ _ h0 h; have := iv18 b h2; omega)
  replace bx2 := (hk60.cell 0 (lt_of_cell bx2) (fun h => by have := iv18 _ h; omega)).trans bx2
  replace ow := own_keep ow hk60 (fun gq h h2 => by have := iv13 gq h; have := iv18 gq h2; omega)
  replace oh := own_keep oh hk60 (fun gq h h2 => by have := iv14 gq h; have := iv18 gq h2; omega)
  replace bx17 := (hk60.cell 0 (lt_of_cell bx17) (fun h => by have := iv18 _ h; omega)).trans bx17
  replace bx22 := (hk60.cell 0 (lt_of_cell bx22) (fun h => by have := iv18 _ h; omega)).trans bx22
  replace oy := own_keep oy hk60 (fun gq h h2 => by have := iv23 gq h; have := iv18 gq h2; omega)
  replace og := own_keep og hk60 (fun gq h h2 => by have := iv28 gq h; have := iv18 gq h2; omega)
  replace oi := own_keep oi hk60 (fun gq h h2 => by have := iv29 gq h; have := iv18 gq h2; omega)
  replace bx34 := (hk60.cell 0 (lt_of_cell bx34) (fun h => by have := iv18 _ h; omega)).trans bx34
  replace tot := tot.trans (hk60.below w.heap.size (by have := tot.size; omega) (fun gq hgq h => by have := iv18 gq h; omega))
  clear hk60 hb
  clear ox
  clear mx
  have lt61 := lt_of_cell bx2
  have lt62 := lt_of_cell bx17
  have lt63 := lt_of_cell bx22
  have lt64 := lt_of_cell bx34
  go_wp2_with fail
  refine (markEventS_any _ l (1 + xs.length) _ _ oy (by omega) (by omega) (by omega)).mono ?_
  rintro e w15 ⟨rfl, my, hb⟩
  have hk65 := (Chg.of_below (bself w14)).trans hb
  have hsz65 := hb.size
  replace r0 := r0.keep hk65 (fun b _ _ h0 h h2 => by have := ivr b _ _ h0 h; have := iv23 b h2; omega)
  replace r1 := r1.keep hk65 (fun b _ _ h0 h h2 => by have := ivs b _ _ h0 h; have := iv23 b h2; omega)
  replace bx2 := (hk65.cell 0 (lt_of_cell bx2) (fun h => by have := iv23 _ h; omega)).trans bx2
  replace ow := own_keep ow hk65 (fun gq h h2 => by have := iv13 gq h; have := iv23 gq h2; omega)
  replace oh := own_keep oh hk65 (fun gq h h2 => by have := iv14 gq h; have := iv23 gq h2; omega)
  replace bx17 := (hk65.cell 0 (lt_of_cell bx17) (fun h => by have := iv23 _ h; omega)).trans bx17
  replace bx22 := (hk65.cell 0 (lt_of_cell bx22) (fun h => by have := iv23 _ h; omega)).trans bx22
  replace og := own_keep og hk65 (fun gq h h2 => by have := iv28 gq h; have := iv23 gq h2; omega)
  replace oi := own_keep oi hk65 (fun gq h h2 => by have := iv29 gq h; have := iv23 gq h2; omega)
  replace bx34 := (hk65.cell 0 (lt_of_cell bx34) (fun h => by have := iv23 _ h; omega)).trans bx34
  replace tot := tot.trans (hk65.below w.heap.size (by have := tot.size; omega) (fun gq hgq h => by have := iv23 gq h; omega))
  clear hk65 hb
  clear oy
  clear my
  have lt66 := lt_of_cell bx2
  have lt67 := lt_of_cell bx17
  have lt68 := lt_of_cell bx22
  have lt69 := lt_of_cell bx34
  have hk0 : ¬ (1 + (xs.length : Int) + 2 * (l.length : Int)) < 0 := by omega
  go_wp2_with fail
  refine (eqCache_any _ _ ys ys _ (reads_of_owns og (by omega)) (reads_of_owns ow (by omega))).mono ?_
  rintro e w16 ⟨rfl, hb⟩
  have hk70 := btr (bself w15) hb
  have hsz70 := hb.size
  replace r0 := r0.below hk70
  replace r1 := r1.below hk70
  replace bx2 := kept_cell hk70 bx2
  replace ow := own_below ow hk70
  replace oh := own_below oh hk70
  replace bx17 := kept_cell hk70 bx17
  replace bx22 := kept_cell hk70 bx22
  replace og := own_below og hk70
  replace oi := own_below oi hk70
  replace bx34 := kept_cell hk70 bx34
  replace tot := btr tot hk70
  clear hk70 hb
  rw [decide_eq_true (Eq.refl ys)]
  have lt71 := lt_of_cell bx2
  have lt72 := lt_of_cell bx17
  have lt73 := lt_of_cell bx22
  have lt74 := lt_of_cell bx34
  go_wp2_with fail
  refine (eqBoolS_b _ _ hs hs _ (reads_of_owns oi (by omega)) (reads_of_owns oh (by omega))).mono ?_
  rintro e w17 ⟨rfl, hb⟩
  have hk75 := btr (bself w16) hb
  have hsz75 := hb.size
  replace r0 := r0.below hk75
  replace r1 := r1.below hk75
  replace bx2 := kept_cell hk75 bx2
  replace ow := own_below ow hk75
  replace oh := own_below oh hk75
  replace bx17 := kept_cell hk75 bx17
  replace bx22 := kept_cell hk75 bx22
  replace og := own_below og hk75
  replace oi := own_below oi hk75
  replace bx34 := kept_cell hk75 bx34
  replace tot := btr tot hk75
  clear hk75 hb
  rw [decide_eq_true (Eq.refl hs)]
  have lt76 := lt_of_cell bx2
  have lt77 := lt_of_cell bx17
  have lt78 := lt_of_cell bx22
  have lt79 := lt_of_cell bx34
  go_wp2_with fail
  refine (markCache_any _ ys 1 _ _ og (by omega) (by omega) (by omega)).mono ?_
  rintro e w18 ⟨rfl, mg, hb⟩
  have hk80 := (Chg.of_below (bself w17)).trans hb
  have hsz80 := hb.size
  replace r0 := r0.keep hk80 (fun b _ _ h0 h h2 => by have := ivr b _ _ h0 h; have := iv28 b h2; omega)
  replace r1 := r1.keep hk80 (fun b _ _ h0 h h2 => by have := ivs b _ _ h0 h; have := iv28 b h2; omega)
  replace bx2 := (hk80.cell 0 (lt_of_cell bx2) (fun h => by have := iv28 _ h; omega)).trans bx2
  replace ow := own_keep ow hk80 (fun gq h h2 => by have := iv13 gq h; have := iv28 gq h2; omega)
  replace oh := own_keep oh hk80 (fun gq h h2 => by have := iv14 gq h; have := iv28 gq h2; omega)
  replace bx17 := (hk80.cell 0 (lt_of_cell bx17) (fun h => by have := iv28 _ h; omega)).trans bx17
  replace bx22 := (hk80.cell 0 (lt_of_cell bx22) (fun h => by have := iv28 _ h; omega)).trans bx22
  replace oi := own_keep oi hk80 (fun gq h h2 => hne2 gq h h2)
  replace bx34 := (hk80.cell 0 (lt_of_cell bx34) (fun h => by have := iv28 _ h; omega)).trans bx34
  replace tot := tot.trans (hk80.below w.heap.size (by have := tot.size; omega) (fun gq hgq h => by have := iv28 gq h; omega))
  clear hk80 hb
  clear og
  have lt81 := lt_of_cell bx2
  have lt82 := lt_of_cell bx17
  have lt83 := lt_of_cell bx22
  have lt84 := lt_of_cell bx34
  go_wp2_with fail
  refine (markBoolS_any _ hs (1 + ys.length) _ _ oi (by omega) (by omega) (by omega)).mono ?_
  rintro e w19 ⟨rfl, mi, hb⟩
  have hk85 := (Chg.of_below (bself w18)).trans hb
  have hsz85 := hb.size
  replace r0 := r0.keep hk85 (fun b _ _ h0 h h2 => by have := ivr b _ _ h0 h; have := iv29 b h2; omega)
  replace r1 := r1.keep hk85 (fun b _ _ h0 h h2 => by have := ivs b _ _ h0 h; have := iv29 b h2; omega)
  replace bx2 := (hk85.cell 0 (lt_of_cell bx2) (fun h => by have := iv29 _ h; omega)).trans bx2
  replace ow := own_keep ow hk85 (fun gq h h2 => by have := iv13 gq h; have := iv29 gq h2; omega)
  replace oh := own_keep oh hk85 (fun gq h h2 => by have := iv14 gq h; have := iv29 gq h2; omega)
  replace bx17 := (hk85.cell 0 (lt_of_cell bx17) (fun h => by have := iv29 _ h; omega)).trans bx17
  replace bx22 := (hk85.cell 0 (lt_of_cell bx22) (fun h => by have := iv29 _ h; omega)).trans bx22
  replace bx34 := (hk85.cell 0 (lt_of_cell bx34) (fun h => by have := iv29 _ h; omega)).trans bx34
  replace mg := own_keep mg hk85 (fun gq h h2 => hne gq h h2)
  replace tot := tot.trans (hk85.below w.heap.size (by have := tot.size; omega) (fun gq hgq h => by have := iv29 gq h; omega))
  clear hk85 hb
  clear oi
  have lt86 := lt_of_cell bx2
  have lt87 := lt_of_cell bx17
  have lt88 := lt_of_cell bx22
  have lt89 := lt_of_cell bx34
  have hk1 : ¬ (1 + (ys.length : Int)) < 0 := by omega
  have hk2 : ¬ (1 + (ys.length : Int) + (hs.length : Int)) < 0 := by omega
  go_wp2_with fail
  refine (heldCache_any _ ys.length 1 _ (reads_of_owns mg (by omega)) (by omega) (by omega) (by omega)).mono ?_
  rintro e w20 ⟨rfl, hb⟩
  have hk90 := btr (bself w19) hb
  have hsz90 := hb.size
  replace r0 := r0.below hk90
  replace r1 := r1.below hk90
  replace bx2 := kept_cell hk90 bx2
  replace ow := own_below ow hk90
  replace oh := own_below oh hk90
  replace bx17 := kept_cell hk90 bx17
  replace bx22 := kept_cell hk90 bx22
  replace bx34 := kept_cell hk90 bx34
  replace mg := own_below mg hk90
  replace mi := own_below mi hk90
  replace tot := btr tot hk90
  clear hk90 hb
  have lt91 := lt_of_cell bx2
  have lt92 := lt_of_cell bx17
  have lt93 := lt_of_cell bx22
  have lt94 := lt_of_cell bx34
  go_wp2_with fail
  refine (heldBoolS_b _ hs.length (1 + ys.length) _ (reads_of_owns mi (by omega)) (by omega) (by omega) (by omega)).mono ?_
  rintro e w21 ⟨rfl, hb⟩
  have hk95 := btr (bself w20) hb
  have hsz95 := hb.size
  replace r0 := r0.below hk95
  replace r1 := r1.below hk95
  replace bx2 := kept_cell hk95 bx2
  replace ow := own_below ow hk95
  replace oh := own_below oh hk95
  replace bx17 := kept_cell hk95 bx17
  replace bx22 := kept_cell hk95 bx22
  replace bx34 := kept_cell hk95 bx34
  replace mg := own_below mg hk95
  replace mi := own_below mi hk95
  replace tot := btr tot hk95
  clear hk95 hb
  have lt96 := lt_of_cell bx2
  have lt97 := lt_of_cell bx17
  have lt98 := lt_of_cell bx22
  have lt99 := lt_of_cell bx34
  go_wp2_with fail
  refine (toCache_any _ xs _ r0 (by omega)).mono ?_
  rintro e w22 ⟨v6, rfl, o6, hb⟩
  have hk100 := btr (bself w21) hb
  have hsz100 := hb.size
  replace r0 := r0.below hk100
  replace r1 := r1.below hk100
  replace bx2 := kept_cell hk100 bx2
  replace ow := own_below ow hk100
  replace oh := own_below oh hk100
  replace bx17 := kept_cell hk100 bx17
  replace bx22 := kept_cell hk100 bx22
  replace bx34 := kept_cell hk100 bx34
  replace mg := own_below mg hk100
  replace mi := own_below mi hk100
  replace tot := btr tot hk100
  clear hk100 hb
  obtain ⟨a6, c6, rfl⟩ := own_shape o6
  have iv101 := o6.lt
  have lt102 := lt_of_cell bx2
  have lt103 := lt_of_cell bx17
  have lt104 := lt_of_cell bx22
  have lt105 := lt_of_cell bx34
  go_wp2_with fail
  refine (toEventS_any _ l _ r1 (by omega)).mono ?_
  rintro e w23 ⟨v7, rfl, o7, hb⟩
  have hk106 := btr (bself w22) hb
  have hsz106 := hb.size
  replace r0 := r0.below hk106
  replace r1 := r1.below hk106
  replace bx2 := kept_cell hk106 bx2
  replace ow := own_below ow hk106
  replace oh := own_below oh hk106
  replace bx17 := kept_cell hk106 bx17
  replace bx22 := kept_cell hk106 bx22
  replace bx34 := kept_cell hk106 bx34
  replace mg := own_below mg hk106
  replace mi := own_below mi hk106
  replace o6 := own_below o6 hk106
  replace tot := btr tot hk106
  clear hk106 hb
  obtain ⟨a7, c7, rfl⟩ := own_shape o7
  have iv107 := o7.lt
  have lt108 := lt_of_cell bx2
  have lt109 := lt_of_cell bx17
  have lt110 := lt_of_cell bx22
  have lt111 := lt_of_cell bx34
  go_wp2_with fail
  refine (HI.out _ _ _ (by omega) (reads_of_owns o6 (by omega)) (reads_of_owns o7 (by omega))).mono ?_
  rintro e w24 ⟨u3, b3, rfl, oj, ok3, hb⟩
  have hk112 := btr (bself w23) hb
  have hsz112 := hb.size
  replace r0 := r0.below hk112
  replace r1 := r1.below hk112
  replace bx2 := kept_cell hk112 bx2
  replace ow := own_below ow hk112
  replace oh := own_below oh hk112
  replace bx17 := kept_cell hk112 bx17
  replace bx22 := kept_cell hk112 bx22
  replace bx34 := kept_cell hk112 bx34
  replace mg := own_below mg hk112
  replace mi := own_below mi hk112
  replace o6 := own_below o6 hk112
  replace o7 := own_below o7 hk112
  replace tot := btr tot hk112
  clear hk112 hb
  obtain ⟨p3, q3, rfl⟩ := own_shape oj
  have iv113 := oj.lt
  obtain ⟨g3, k3, rfl⟩ := own_shape ok3
  have iv114 := ok3.lt
  have lt115 := lt_of_cell bx2
  have lt116 := lt_of_cell bx17
  have lt117 := lt_of_cell bx22
  have lt118 := lt_of_cell bx34
  clear o6
  clear o7
  go_wp2_with fail
  refine (eqCache_any _ _ ys ys _ (reads_of_owns (own_below oj (bal (bself w24) _)) (by omega)) (reads_of_owns (own_below ow (bal (bself w24) _)) (by omega))).mono ?_
  rintro e w25 ⟨rfl, hb⟩
  have hk119 := btr (bal (bself w24) _) hb
  have hsz119 := hb.size
  simp only [World.size_alloc] at hsz119
  replace r0 := r0.below hk119
  replace r1 := r1.below hk119
  replace bx2 := kept_cell hk119 bx2
  replace ow := own_below ow hk119
  replace oh := own_below oh hk119
  replace bx17 := kept_cell hk119 bx17
  replace bx22 := kept_cell hk119 bx22
  replace bx34 := kept_cell hk119 bx34
  replace mg := own_below mg hk119
  replace mi := own_below mi hk119
  replace oj := own_below oj hk119
  replace ok3 := own_below ok3 hk119
  have bx120 : w25.cell? ⟨w24.heap.size, 0, none⟩ = some (.slice p3 ys.length q3) := kept_cell hb (by simp [go_sem])
  replace tot := btr tot hk119
  clear hk119 hb
  rw [decide_eq_true (Eq.refl ys)]
  have lt121 := lt_of_cell bx2
  have lt122 := lt_of_cell bx17
  have lt123 := lt_of_cell bx22
  have lt124 := lt_of_cell bx34
  have lt125 := lt_of_cell bx120
  go_wp2_with fail
  refine (eqBoolS_b _ _ hs hs _ (reads_of_owns ok3 (by omega)) (reads_of_owns oh (by omega))).mono ?_
  rintro e w26 ⟨rfl, hb⟩
  have hk126 := btr (bself w25) hb
  have hsz126 := hb.size
  replace r0 := r0.below hk126
  replace r1 := r1.below hk126
  replace bx2 := kept_cell hk126 bx2
  replace ow := own_below ow hk126
  replace oh := own_below oh hk126
  replace bx17 := kept_cell hk126 bx17
  replace bx22 := kept_cell hk126 bx22
  replace bx34 := kept_cell hk126 bx34
  replace mg := own_below mg hk126
  replace mi := own_below mi hk126
  replace oj := own_below oj hk126
  replace ok3 := own_below ok3 hk126
  replace bx120 := kept_cell hk126 bx120
  replace tot := btr tot hk126
  clear hk126 hb
  rw [decide_eq_true (Eq.refl hs)]
  have lt127 := lt_of_cell bx2
  have lt128 := lt_of_cell bx17
  have lt129 := lt_of_cell bx22
  have lt130 := lt_of_cell bx34
  have lt131 := lt_of_cell bx120
  clear oj
  clear ok3
  clear ow
  clear oh
  clear r0
  clear r1
  go_wp2_with fail
  refine (heldCache_any _ ys.length 1 _ (reads_of_owns mg (by omega)) (by omega) (by omega) (by omega)).mono ?_
  rintro e w27 ⟨rfl, hb⟩
  have hk132 := btr (bself w26) hb
  have hsz132 := hb.size
  replace bx2 := kept_cell hk132 bx2
  replace bx17 := kept_cell hk132 bx17
  replace bx22 := kept_cell hk132 bx22
  replace bx34 := kept_cell hk132 bx34
  replace mg := own_below mg hk132
  replace mi := own_below mi hk132
  replace bx120 := kept_cell hk132 bx120
  replace tot := btr tot hk132
  clear hk132 hb
  have lt133 := lt_of_cell bx2
  have lt134 := lt_of_cell bx17
  have lt135 := lt_of_cell bx22
  have lt136 := lt_of_cell bx34
  have lt137 := lt_of_cell bx120
  go_wp2_with fail
  refine (heldBoolS_b _ hs.length (1 + ys.length) _ (reads_of_owns mi (by omega)) (by omega) (by omega) (by omega)).mono ?_
  rintro e w28 ⟨rfl, hb⟩
  have hk138 := btr (bself w27) hb
  have hsz138 := hb.size
  replace bx2 := kept_cell hk138 bx2
  replace bx17 := kept_cell hk138 bx17
  replace bx22 := kept_cell hk138 bx22
  replace bx34 := kept_cell hk138 bx34
  replace mg := own_below mg hk138
  replace mi := own_below mi hk138
  replace bx120 := kept_cell hk138 bx120
  replace tot := btr tot hk138
  clear hk138 hb
  have lt139 := lt_of_cell bx2
  have lt140 := lt_of_cell bx17
  have lt141 := lt_of_cell bx22
  have lt142 := lt_of_cell bx34
  have lt143 := lt_of_cell bx120
  clear mg mi
  go_wp2
  go_ret
  exact ⟨rfl, tot⟩
end Go.Proofs.Ytkbbpnfhenoihaa
