import Derived.Test.YtkbbpnfhenoihaaCO
import Derived.Test.YtkbbpnfhenoihaaLG1
namespace Go.Proofs.Ytkbbpnfhenoihaa
open Go.RowKit


set_option maxHeartbeats 8000000 in
set_option maxRecDepth 100000 in
theorem FnExactLiveRegs_walk (va vb vc : Value) (c : Cd) (w : World) (r0 : ReadsC w va vb vc c) :
    Calls Try.prog 11 #[.agg #[va, vb, vc]] w fun e w' => e = .returned (.bool true) ∧ Below w.heap.size w w' := by
  have ivr := r0.lt
  obtain ⟨a0, c0, a1, c1, a2, c2, rfl, rfl, rfl⟩ := r0.shape
  obtain ⟨hl0, hl1⟩ := liveR_len c
  have hpre := pre2_le (liveR c) 14 hl1 _ (Nat.le_refl _)
  have hmr := mk2B_rows 1 (liveR c) 14 hl1
  have hI := fun (va vb vc : Value) (W : World) h => iLiveRegs_any va vb vc c W h
  have hS := fun (va vb vc : Value) (W : World) h => sLiveRegs_any va vb vc c W h
  generalize liveR c = R at *
  have HI := Lib.hid hI
  have HS := Lib.hid hS
  have HR1 := Lib.hid (fun (k : Nat) (r : List Bool) (h : R[k]? = some r) => show r.length ≤ 9223372036854775807 from by have := hl1 k r h; omega)
  have HR2 := Lib.hid (fun (k : Nat) (r : List Bool) (h : (mk2B 1 R)[k]? = some r) => show r.length ≤ 9223372036854775807 from by have := hmr k r h; omega)
  have hszM : 0 ≤ sizeM c := by unfold sizeM; omega
  have hp1 : (1 : Int) + (pre2 R R.length : Nat) ≤ 1073741824 := by omega
  clear hI hS hl1 hmr
  go_enter Try.func11, Try.ntmps11
  go_wp2_with fail
  refine (szCode_any _ _ _ c 1048576 _ (r0.below (bal (bself _) (.cells #[.slice a0 c.vars.length c0, .slice a1 c.arrays.length c1, .slice a2 c.list.length c2] 45))) (by omega) (by omega)).mono ?_
  rintro e w1 ⟨rfl, hb⟩
  have hsz1 := hb.size
  simp only [World.size_alloc] at hsz1
  replace r0 := (r0.below (bal (bself _) (.cells #[.slice a0 c.vars.length c0, .slice a1 c.arrays.length c1, .slice a2 c.list.length c2] 45))).below hb
  have bx2 : w1.cell? ⟨w.heap.size, 0, none⟩ = some (.slice a0 c.vars.length c0) := kept_cell hb (cell_nw (by simp) (by rfl))
  have bx3 : w1.cell? ⟨w.heap.size, 1, none⟩ = some (.slice a1 c.arrays.length c1) := kept_cell hb (cell_nw (by simp) (by rfl))
  have bx4 : w1.cell? ⟨w.heap.size, 2, none⟩ = some (.slice a2 c.list.length c2) := kept_cell hb (cell_nw (by simp) (by rfl))
  have tot := btr (bal (bself w) (.cells #[.slice a0 c.vars.length c0, .slice a1 c.arrays.length c1, .slice a2 c.list.length c2] 45)) hb
  clear hb
  by_cases hl : (1048576 : Int) < (c.vars.length + c.arrays.length + c.list.length : Nat)
  · rw [if_pos hl]
    clear hl r0
    go_wp2
    go_ret
    exact ⟨rfl, tot⟩
  rw [if_neg hl]
  have hnn : ¬ (1048576 : Int) - (c.vars.length + c.arrays.length + c.list.length : Nat) < 0 := by omega
  have hv : c.vars.length ≤ 1048576 := by omega
  have ha : c.arrays.length ≤ 1048576 := by omega
  have hc : c.list.length ≤ 1048576 := by omega
  clear hl
  have lt5 := lt_of_cell bx2
  have lt6 := lt_of_cell bx3
  have lt7 := lt_of_cell bx4
  have hk0 : ¬ (1 + sizeM c) < 0 := by omega
  have hk1 : ¬ ((1 : Int) + (pre2 R R.length : Nat)) < 0 := by omega
  go_wp2_with fail
  refine (toCode_any _ _ _ c _ r0 (by omega) (by omega) (by omega)).mono ?_
  rintro e w2 ⟨u100, v100, x100, rfl, o1, hb⟩
  have hsz8 := hb.size
  replace r0 := r0.below hb
  replace bx2 : w2.cell? ⟨w.heap.size, 0, none⟩ = some (.slice a0 c.vars.length c0) := kept_cell hb bx2
  replace bx3 : w2.cell? ⟨w.heap.size, 1, none⟩ = some (.slice a1 c.arrays.length c1) := kept_cell hb bx3
  replace bx4 : w2.cell? ⟨w.heap.size, 2, none⟩ = some (.slice a2 c.list.length c2) := kept_cell hb bx4
  replace tot := btr tot hb
  clear hb
  obtain ⟨p300, q300, p301, q301, p302, q302, rfl, rfl, rfl⟩ := o1.shape
  have iv9 := o1.lt
  have lt10 := lt_of_cell bx2
  have lt11 := lt_of_cell bx3
  have lt12 := lt_of_cell bx4
  go_wp2_with fail
  refine (HS.out _ _ _ _ (o1.reads (by omega) (by omega) (by omega))).mono ?_
  rintro e w3 ⟨u1, us1, rfl, ow, hb⟩
  have hsz13 := hb.size
  replace r0 := r0.below hb
  replace bx2 : w3.cell? ⟨w.heap.size, 0, none⟩ = some (.slice a0 c.vars.length c0) := kept_cell hb bx2
  replace bx3 : w3.cell? ⟨w.heap.size, 1, none⟩ = some (.slice a1 c.arrays.length c1) := kept_cell hb bx3
  replace bx4 : w3.cell? ⟨w.heap.size, 2, none⟩ = some (.slice a2 c.list.length c2) := kept_cell hb bx4
  replace o1 := o1.below hb
  replace tot := btr tot hb
  clear hb
  obtain ⟨p1, q1, rfl⟩ := ow.shape
  have iv14 := ow.lt
  have lt15 := lt_of_cell bx2
  have lt16 := lt_of_cell bx3
  have lt17 := lt_of_cell bx4
  clear o1
  go_wp2_with fail
  refine (toCode_any _ _ _ c _ r0 (by omega) (by omega) (by omega)).mono ?_
  rintro e w4 ⟨u101, v101, x101, rfl, ox, hb⟩
  have hsz18 := hb.size
  replace r0 := r0.below hb
  replace bx2 : w4.cell? ⟨w.heap.size, 0, none⟩ = some (.slice a0 c.vars.length c0) := kept_cell hb bx2
  replace bx3 : w4.cell? ⟨w.heap.size, 1, none⟩ = some (.slice a1 c.arrays.length c1) := kept_cell hb bx3
  replace bx4 : w4.cell? ⟨w.heap.size, 2, none⟩ = some (.slice a2 c.list.length c2) := kept_cell hb bx4
  replace ow := ow.below hb
  replace tot := btr tot hb
  clear hb
  obtain ⟨p303, q303, p304, q304, p305, q305, rfl, rfl, rfl⟩ := ox.shape
  have iv19 := ox.lt
  have lt20 := lt_of_cell bx2
  have lt21 := lt_of_cell bx3
  have lt22 := lt_of_cell bx4
  go_wp2_with fail
  refine (HI.out _ _ _ _ ((ox.below (bal (bself _) (.cells #[.slice p303 c.vars.length q303, .slice p304 c.arrays.length q304, .slice p305 c.list.length q305] 50))).reads (by omega) (by omega) (by omega))).mono ?_
  rintro e w5 ⟨u3, us3, rfl, og, hb⟩
  have hsz23 := hb.size
  simp only [World.size_alloc] at hsz23
  replace r0 := (r0.below (bal (bself _) (.cells #[.slice p303 c.vars.length q303, .slice p304 c.arrays.length q304, .slice p305 c.list.length q305] 50))).below hb
  replace bx2 : w5.cell? ⟨w.heap.size, 0, none⟩ = some (.slice a0 c.vars.length c0) := kept_cell hb (cell_al bx2 (.cells #[.slice p303 c.vars.length q303, .slice p304 c.arrays.length q304, .slice p305 c.list.length q305] 50))
  replace bx3 : w5.cell? ⟨w.heap.size, 1, none⟩ = some (.slice a1 c.arrays.length c1) := kept_cell hb (cell_al bx3 (.cells #[.slice p303 c.vars.length q303, .slice p304 c.arrays.length q304, .slice p305 c.list.length q305] 50))
  replace bx4 : w5.cell? ⟨w.heap.size, 2, none⟩ = some (.slice a2 c.list.length c2) := kept_cell hb (cell_al bx4 (.cells #[.slice p303 c.vars.length q303, .slice p304 c.arrays.length q304, .slice p305 c.list.length q305] 50))
  replace ow := (ow.below (bal (bself _) (.cells #[.slice p303 c.vars.length q303, .slice p304 c.arrays.length q304, .slice p305 c.list.length q305] 50))).below hb
  replace ox := (ox.below (bal (bself _) (.cells #[.slice p303 c.vars.length q303, .slice p304 c.arrays.length q304, .slice p305 c.list.length q305] 50))).below hb
  have bx24 : w5.cell? ⟨w4.heap.size, 0, none⟩ = some (.slice p303 c.vars.length q303) := kept_cell hb (cell_nw (by simp) (by rfl))
  have bx25 : w5.cell? ⟨w4.heap.size, 1, none⟩ = some (.slice p304 c.arrays.length q304) := kept_cell hb (cell_nw (by simp) (by rfl))
  have bx26 : w5.cell? ⟨w4.heap.size, 2, none⟩ = some (.slice p305 c.list.length q305) := kept_cell hb (cell_nw (by simp) (by rfl))
  replace tot := btr (bal tot (.cells #[.slice p303 c.vars.length q303, .slice p304 c.arrays.length q304, .slice p305 c.list.length q305] 50)) hb
  clear hb
  obtain ⟨p3, q3, rfl⟩ := og.shape
  have iv27 := og.lt
  try simp only [World.size_alloc] at iv27
  have lt28 := lt_of_cell bx2
  have lt29 := lt_of_cell bx3
  have lt30 := lt_of_cell bx4
  have lt31 := lt_of_cell bx24
  have lt32 := lt_of_cell bx25
  have lt33 := lt_of_cell bx26
  go_wp2_with fail
  refine (eqBoolSS_any _ _ R R _ (og.reads (by omega) HR1.out) (ow.reads (by omega) HR1.out)).mono ?_
  rintro e w6 ⟨rfl, hb⟩
  have hsz34 := hb.size
  replace r0 := r0.below hb
  replace bx2 : w6.cell? ⟨w.heap.size, 0, none⟩ = some (.slice a0 c.vars.length c0) := kept_cell hb bx2
  replace bx3 : w6.cell? ⟨w.heap.size, 1, none⟩ = some (.slice a1 c.arrays.length c1) := kept_cell hb bx3
  replace bx4 : w6.cell? ⟨w.heap.size, 2, none⟩ = some (.slice a2 c.list.length c2) := kept_cell hb bx4
  replace ow := ow.below hb
  replace ox := ox.below hb
  replace bx24 : w6.cell? ⟨w4.heap.size, 0, none⟩ = some (.slice p303 c.vars.length q303) := kept_cell hb bx24
  replace bx25 : w6.cell? ⟨w4.heap.size, 1, none⟩ = some (.slice p304 c.arrays.length q304) := kept_cell hb bx25
  replace bx26 : w6.cell? ⟨w4.heap.size, 2, none⟩ = some (.slice p305 c.list.length q305) := kept_cell hb bx26
  replace og := og.below hb
  replace tot := btr tot hb
  clear hb
  rw [decide_eq_true (Eq.refl R)]
  have lt35 := lt_of_cell bx2
  have lt36 := lt_of_cell bx3
  have lt37 := lt_of_cell bx4
  have lt38 := lt_of_cell bx24
  have lt39 := lt_of_cell bx25
  have lt40 := lt_of_cell bx26
  go_upto_region 10 with (fail)
  go_cut [31] (fun s wx => s = .bool false ∧ Below w6.heap.size w6 wx)
  case first =>
    clear tot
    go_region_with (first | (go_at_call 33; refine (toCode_any _ _ _ c _ (r0.below (Below.drew (bself w6))) (by omega) (by omega) (by omega)).mono ?_; rintro e wa ⟨ua, ub, uc, rfl, oa, ba⟩; obtain ⟨pa, qa, pb, qb, pc, qc, rfl, rfl, rfl⟩ := oa.shape; have xbx24 := kept_cell (btr (Below.drew (bself w6)) ba) bx24; have xbx25 := kept_cell (btr (Below.drew (bself w6)) ba) bx25; have xbx26 := kept_cell (btr (Below.drew (bself w6)) ba) bx26) | (go_at_call 35; refine (eqCode_any _ _ _ _ _ _ c c _ ((ox.below (btr (Below.drew (bself w6)) ba)).reads (by omega) (by omega) (by omega)) (oa.reads (by omega) (by omega) (by omega))).mono ?_; rintro e wb ⟨rfl, bb⟩))
    all_goals (go_wp2_with fail; go_meet; exact ⟨rfl, btr (btr (Below.drew (bself w6)) ba) bb⟩)
  obtain ⟨w7, rfl⟩ : ∃ W, W = wc := ⟨_, rfl⟩
  obtain ⟨rfl, hb⟩ := hcut
  have hsz41 := hb.size
  replace r0 := r0.below hb
  replace bx2 : w7.cell? ⟨w.heap.size, 0, none⟩ = some (.slice a0 c.vars.length c0) := kept_cell hb bx2
  replace bx3 : w7.cell? ⟨w.heap.size, 1, none⟩ = some (.slice a1 c.arrays.length c1) := kept_cell hb bx3
  replace bx4 : w7.cell? ⟨w.heap.size, 2, none⟩ = some (.slice a2 c.list.length c2) := kept_cell hb bx4
  replace ow := ow.below hb
  replace ox := ox.below hb
  replace bx24 : w7.cell? ⟨w4.heap.size, 0, none⟩ = some (.slice p303 c.vars.length q303) := kept_cell hb bx24
  replace bx25 : w7.cell? ⟨w4.heap.size, 1, none⟩ = some (.slice p304 c.arrays.length q304) := kept_cell hb bx25
  replace bx26 : w7.cell? ⟨w4.heap.size, 2, none⟩ = some (.slice p305 c.list.length q305) := kept_cell hb bx26
  replace og := og.below hb
  replace tot := btr tot hb
  clear hb
  have lt42 := lt_of_cell bx2
  have lt43 := lt_of_cell bx3
  have lt44 := lt_of_cell bx4
  have lt45 := lt_of_cell bx24
  have lt46 := lt_of_cell bx25
  have lt47 := lt_of_cell bx26
  go_wp2_with fail
  refine (markCode_any _ _ _ c 1 _ _ ox (by omega) (by omega) (by omega) (by omega) (by omega)).mono ?_
  rintro e w8 ⟨rfl, mx, hb⟩
  have hsz48 := hb.size
  replace r0 := r0.keep hb (fun gq h h2 => by have := ivr gq h; have := iv19 gq h2; omega)
  replace bx2 : w8.cell? ⟨w.heap.size, 0, none⟩ = some (.slice a0 c.vars.length c0) := chg_cell hb bx2 (fun h => by have := iv19 _ h; omega)
  replace bx3 : w8.cell? ⟨w.heap.size, 1, none⟩ = some (.slice a1 c.arrays.length c1) := chg_cell hb bx3 (fun h => by have := iv19 _ h; omega)
  replace bx4 : w8.cell? ⟨w.heap.size, 2, none⟩ = some (.slice a2 c.list.length c2) := chg_cell hb bx4 (fun h => by have := iv19 _ h; omega)
  replace ow := ow.keep hb (fun gq h h2 => by have := iv14 gq h; have := iv19 gq h2; omega)
  replace bx24 : w8.cell? ⟨w4.heap.size, 0, none⟩ = some (.slice p303 c.vars.length q303) := chg_cell hb bx24 (fun h => by have := iv19 _ h; omega)
  replace bx25 : w8.cell? ⟨w4.heap.size, 1, none⟩ = some (.slice p304 c.arrays.length q304) := chg_cell hb bx25 (fun h => by have := iv19 _ h; omega)
  replace bx26 : w8.cell? ⟨w4.heap.size, 2, none⟩ = some (.slice p305 c.list.length q305) := chg_cell hb bx26 (fun h => by have := iv19 _ h; omega)
  replace og := og.keep hb (fun gq h h2 => by have := iv27 gq h; have := iv19 gq h2; omega)
  replace tot := tot.trans (hb.below w.heap.size (by have := tot.size; omega) (fun gq hgq h => by have := iv19 gq h; omega))
  clear hb
  clear ox
  clear mx
  clear bx24 bx25 bx26
  have lt49 := lt_of_cell bx2
  have lt50 := lt_of_cell bx3
  have lt51 := lt_of_cell bx4
  go_wp2_with fail
  refine (eqBoolSS_any _ _ R R _ (og.reads (by omega) HR1.out) (ow.reads (by omega) HR1.out)).mono ?_
  rintro e w9 ⟨rfl, hb⟩
  have hsz52 := hb.size
  replace r0 := r0.below hb
  replace bx2 : w9.cell? ⟨w.heap.size, 0, none⟩ = some (.slice a0 c.vars.length c0) := kept_cell hb bx2
  replace bx3 : w9.cell? ⟨w.heap.size, 1, none⟩ = some (.slice a1 c.arrays.length c1) := kept_cell hb bx3
  replace bx4 : w9.cell? ⟨w.heap.size, 2, none⟩ = some (.slice a2 c.list.length c2) := kept_cell hb bx4
  replace ow := ow.below hb
  replace og := og.below hb
  replace tot := btr tot hb
  clear hb
  rw [decide_eq_true (Eq.refl R)]
  have lt53 := lt_of_cell bx2
  have lt54 := lt_of_cell bx3
  have lt55 := lt_of_cell bx4
  go_wp2_with fail
  refine (markBoolSS_any _ _ R 1 _ _ og (by omega) (by omega) hp1).mono ?_
  rintro e w10 ⟨rfl, mg, hb⟩
  have hsz56 := hb.size
  replace r0 := r0.keep hb (fun gq h h2 => by have := ivr gq h; have := iv27 gq h2; omega)
  replace bx2 : w10.cell? ⟨w.heap.size, 0, none⟩ = some (.slice a0 c.vars.length c0) := chg_cell hb bx2 (fun h => by have := iv27 _ h; omega)
  replace bx3 : w10.cell? ⟨w.heap.size, 1, none⟩ = some (.slice a1 c.arrays.length c1) := chg_cell hb bx3 (fun h => by have := iv27 _ h; omega)
  replace bx4 : w10.cell? ⟨w.heap.size, 2, none⟩ = some (.slice a2 c.list.length c2) := chg_cell hb bx4 (fun h => by have := iv27 _ h; omega)
  replace ow := ow.keep hb (fun gq h h2 => by have := iv14 gq h; have := iv27 gq h2; omega)
  replace tot := tot.trans (hb.below w.heap.size (by have := tot.size; omega) (fun gq hgq h => by have := iv27 gq h; omega))
  clear hb
  clear og
  have lt57 := lt_of_cell bx2
  have lt58 := lt_of_cell bx3
  have lt59 := lt_of_cell bx4
  go_wp2_with fail
  refine (heldBoolSS_any _ R 1 _ (mg.reads (by rw [mk2B_len]; omega) HR2.out) (by omega) hp1).mono ?_
  rintro e w11 ⟨rfl, hb⟩
  have hsz60 := hb.size
  replace r0 := r0.below hb
  replace bx2 : w11.cell? ⟨w.heap.size, 0, none⟩ = some (.slice a0 c.vars.length c0) := kept_cell hb bx2
  replace bx3 : w11.cell? ⟨w.heap.size, 1, none⟩ = some (.slice a1 c.arrays.length c1) := kept_cell hb bx3
  replace bx4 : w11.cell? ⟨w.heap.size, 2, none⟩ = some (.slice a2 c.list.length c2) := kept_cell hb bx4
  replace ow := ow.below hb
  replace mg := mg.below hb
  replace tot := btr tot hb
  clear hb
  have lt61 := lt_of_cell bx2
  have lt62 := lt_of_cell bx3
  have lt63 := lt_of_cell bx4
  go_wp2_with fail
  refine (toCode_any _ _ _ c _ r0 (by omega) (by omega) (by omega)).mono ?_
  rintro e w12 ⟨u102, v102, x102, rfl, oy, hb⟩
  have hsz64 := hb.size
  replace r0 := r0.below hb
  replace bx2 : w12.cell? ⟨w.heap.size, 0, none⟩ = some (.slice a0 c.vars.length c0) := kept_cell hb bx2
  replace bx3 : w12.cell? ⟨w.heap.size, 1, none⟩ = some (.slice a1 c.arrays.length c1) := kept_cell hb bx3
  replace bx4 : w12.cell? ⟨w.heap.size, 2, none⟩ = some (.slice a2 c.list.length c2) := kept_cell hb bx4
  replace ow := ow.below hb
  replace mg := mg.below hb
  replace tot := btr tot hb
  clear hb
  obtain ⟨p306, q306, p307, q307, p308, q308, rfl, rfl, rfl⟩ := oy.shape
  have iv65 := oy.lt
  have lt66 := lt_of_cell bx2
  have lt67 := lt_of_cell bx3
  have lt68 := lt_of_cell bx4
  go_wp2_with fail
  refine (HI.out _ _ _ _ (oy.reads (by omega) (by omega) (by omega))).mono ?_
  rintro e w13 ⟨u5, us5, rfl, oh, hb⟩
  have hsz69 := hb.size
  replace r0 := r0.below hb
  replace bx2 : w13.cell? ⟨w.heap.size, 0, none⟩ = some (.slice a0 c.vars.length c0) := kept_cell hb bx2
  replace bx3 : w13.cell? ⟨w.heap.size, 1, none⟩ = some (.slice a1 c.arrays.length c1) := kept_cell hb bx3
  replace bx4 : w13.cell? ⟨w.heap.size, 2, none⟩ = some (.slice a2 c.list.length c2) := kept_cell hb bx4
  replace ow := ow.below hb
  replace mg := mg.below hb
  replace oy := oy.below hb
  replace tot := btr tot hb
  clear hb
  obtain ⟨p5, q5, rfl⟩ := oh.shape
  have iv70 := oh.lt
  have lt71 := lt_of_cell bx2
  have lt72 := lt_of_cell bx3
  have lt73 := lt_of_cell bx4
  clear oy
  go_wp2_with fail
  refine (eqBoolSS_any _ _ R R _ (oh.reads (by omega) HR1.out) (ow.reads (by omega) HR1.out)).mono ?_
  rintro e w14 ⟨rfl, hb⟩
  have hsz74 := hb.size
  replace r0 := r0.below hb
  replace bx2 : w14.cell? ⟨w.heap.size, 0, none⟩ = some (.slice a0 c.vars.length c0) := kept_cell hb bx2
  replace bx3 : w14.cell? ⟨w.heap.size, 1, none⟩ = some (.slice a1 c.arrays.length c1) := kept_cell hb bx3
  replace bx4 : w14.cell? ⟨w.heap.size, 2, none⟩ = some (.slice a2 c.list.length c2) := kept_cell hb bx4
  replace ow := ow.below hb
  replace mg := mg.below hb
  replace oh := oh.below hb
  replace tot := btr tot hb
  clear hb
  rw [decide_eq_true (Eq.refl R)]
  have lt75 := lt_of_cell bx2
  have lt76 := lt_of_cell bx3
  have lt77 := lt_of_cell bx4
  clear oh
  clear ow
  clear r0
  go_wp2_with fail
  refine (heldBoolSS_any _ R 1 _ (mg.reads (by rw [mk2B_len]; omega) HR2.out) (by omega) hp1).mono ?_
  rintro e w15 ⟨rfl, hb⟩
  have hsz78 := hb.size
  replace bx2 : w15.cell? ⟨w.heap.size, 0, none⟩ = some (.slice a0 c.vars.length c0) := kept_cell hb bx2
  replace bx3 : w15.cell? ⟨w.heap.size, 1, none⟩ = some (.slice a1 c.arrays.length c1) := kept_cell hb bx3
  replace bx4 : w15.cell? ⟨w.heap.size, 2, none⟩ = some (.slice a2 c.list.length c2) := kept_cell hb bx4
  replace mg := mg.below hb
  replace tot := btr tot hb
  clear hb
  have lt79 := lt_of_cell bx2
  have lt80 := lt_of_cell bx3
  have lt81 := lt_of_cell bx4
  clear mg
  go_wp2
  go_ret
  exact ⟨rfl, tot⟩
end Go.Proofs.Ytkbbpnfhenoihaa
