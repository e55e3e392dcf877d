import Derived.Test.YtkbbpnfhenoihaaCO
import Derived.Test.YtkbbpnfhenoihaaDR1
import Derived.Test.YtkbbpnfhenoihaaDR2
namespace Go.Proofs.Ytkbbpnfhenoihaa
open Go.RowKit


set_option maxHeartbeats 8000000 in
set_option maxRecDepth 100000 in
theorem FnExactRemoveDead_walk (va vb vc : Value) (c : Cd) (w : World) (r0 : ReadsC w va vb vc c) :
    Calls Try.prog 12 #[.agg #[va, vb, vc]] w fun e w' => e = .returned (.bool true) ∧ Below w.heap.size w w' := by
  have ivr := r0.lt
  obtain ⟨a0, c0, a1, c1, a2, c2, rfl, rfl, rfl⟩ := r0.shape
  have hlens := remR_lens c
  have hI := fun (va vb vc : Value) (W : World) h => iRemove_any va vb vc c W h
  have hS := fun (va vb vc : Value) (W : World) h => sRemove_any va vb vc c W h
  generalize remR c = R at *
  obtain ⟨D, ok⟩ := R
  simp only at hlens hI hS
  obtain ⟨d0, d1, d2⟩ := hlens
  have HI := Lib.hid hI
  have HS := Lib.hid hS
  have hszM : 0 ≤ sizeM c := by unfold sizeM; omega
  have hszD : 0 ≤ sizeM D := by unfold sizeM; omega
  have hszD2 : sizeM D ≤ 1073741824 := by unfold sizeM; omega
  clear hI hS
  go_enter Try.func12, Try.ntmps12
  go_wp2_with fail
  refine (szCode_any _ _ _ c 1048576 _ (r0.below (bal (bself _) (.cells #[.slice a0 c.vars.length c0, .slice a1 c.arrays.length c1, .slice a2 c.list.length c2] 45))) (by omega) (by omega)).mono ?_
  rintro e w1 ⟨rfl, hb⟩
  have hsz1 := hb.size
  simp only [World.size_alloc] at hsz1
  replace r0 := (r0.below (bal (bself _) (.cells #[.slice a0 c.vars.length c0, .slice a1 c.arrays.length c1, .slice a2 c.list.length c2] 45))).below hb
  have bx2 : w1.cell? ⟨w.heap.size, 0, none⟩ = some (.slice a0 c.vars.length c0) := kept_cell hb (cell_nw (by simp) (by rfl))
  have bx3 : w1.cell? ⟨w.heap.size, 1, none⟩ = some (.slice a1 c.arrays.length c1) := kept_cell hb (cell_nw (by simp) (by rfl))
  have bx4 : w1.cell? ⟨w.heap.size, 2, none⟩ = some (.slice a2 c.list.length c2) := kept_cell hb (cell_nw (by simp) (by rfl))
  have tot := btr (bal (bself w) (.cells #[.slice a0 c.vars.length c0, .slice a1 c.arrays.length c1, .slice a2 c.list.length c2] 45)) hb
  clear hb
  by_cases hl : (1048576 : Int) < (c.vars.length + c.arrays.length + c.list.length : Nat)
  · rw [if_pos hl]
    clear hl r0
    go_wp2
    go_ret
    exact ⟨rfl, tot⟩
  rw [if_neg hl]
  have hnn : ¬ (1048576 : Int) - (c.vars.length + c.arrays.length + c.list.length : Nat) < 0 := by omega
  have hv : c.vars.length ≤ 1048576 := by omega
  have ha : c.arrays.length ≤ 1048576 := by omega
  have hc : c.list.length ≤ 1048576 := by omega
  clear hl
  have lt5 := lt_of_cell bx2
  have lt6 := lt_of_cell bx3
  have lt7 := lt_of_cell bx4
  have hok : (!(ok == ok)) = false := by simp
  have hk0 : ¬ (1 + sizeM c) < 0 := by omega
  have hk1 : ¬ (1 + sizeM D) < 0 := by omega
  go_wp2_with fail
  refine (toCode_any _ _ _ c _ r0 (by omega) (by omega) (by omega)).mono ?_
  rintro e w2 ⟨u0, v0, x0, rfl, o1, hb⟩
  have hsz8 := hb.size
  replace r0 := r0.below hb
  replace bx2 : w2.cell? ⟨w.heap.size, 0, none⟩ = some (.slice a0 c.vars.length c0) := kept_cell hb bx2
  replace bx3 : w2.cell? ⟨w.heap.size, 1, none⟩ = some (.slice a1 c.arrays.length c1) := kept_cell hb bx3
  replace bx4 : w2.cell? ⟨w.heap.size, 2, none⟩ = some (.slice a2 c.list.length c2) := kept_cell hb bx4
  replace tot := btr tot hb
  clear hb
  obtain ⟨p0, q0, p1, q1, p2, q2, rfl, rfl, rfl⟩ := o1.shape
  have iv9 := o1.lt
  have lt10 := lt_of_cell bx2
  have lt11 := lt_of_cell bx3
  have lt12 := lt_of_cell bx4
  go_wp2_with fail
  refine (HS.out _ _ _ _ (o1.reads (by omega) (by omega) (by omega))).mono ?_
  rintro e w3 ⟨u1, v1, x1, rfl, ow, hb⟩
  have hsz13 := hb.size
  replace r0 := r0.below hb
  replace bx2 : w3.cell? ⟨w.heap.size, 0, none⟩ = some (.slice a0 c.vars.length c0) := kept_cell hb bx2
  replace bx3 : w3.cell? ⟨w.heap.size, 1, none⟩ = some (.slice a1 c.arrays.length c1) := kept_cell hb bx3
  replace bx4 : w3.cell? ⟨w.heap.size, 2, none⟩ = some (.slice a2 c.list.length c2) := kept_cell hb bx4
  replace o1 := o1.below hb
  replace tot := btr tot hb
  clear hb
  obtain ⟨p3, q3, p4, q4, p5, q5, rfl, rfl, rfl⟩ := ow.shape
  have iv14 := ow.lt
  have lt15 := lt_of_cell bx2
  have lt16 := lt_of_cell bx3
  have lt17 := lt_of_cell bx4
  clear o1
  go_wp2_with fail
  refine (toCode_any _ _ _ c _ (r0.below (bal (bself _) (.cells #[.slice p3 D.vars.length q3, .slice p4 D.arrays.length q4, .slice p5 D.list.length q5] 50))) (by omega) (by omega) (by omega)).mono ?_
  rintro e w4 ⟨u2, v2, x2, rfl, ox, hb⟩
  have hsz18 := hb.size
  simp only [World.size_alloc] at hsz18
  replace r0 := (r0.below (bal (bself _) (.cells #[.slice p3 D.vars.length q3, .slice p4 D.arrays.length q4, .slice p5 D.list.length q5] 50))).below hb
  replace bx2 : w4.cell? ⟨w.heap.size, 0, none⟩ = some (.slice a0 c.vars.length c0) := kept_cell hb (cell_al bx2 (.cells #[.slice p3 D.vars.length q3, .slice p4 D.arrays.length q4, .slice p5 D.list.length q5] 50))
  replace bx3 : w4.cell? ⟨w.heap.size, 1, none⟩ = some (.slice a1 c.arrays.length c1) := kept_cell hb (cell_al bx3 (.cells #[.slice p3 D.vars.length q3, .slice p4 D.arrays.length q4, .slice p5 D.list.length q5] 50))
  replace bx4 : w4.cell? ⟨w.heap.size, 2, none⟩ = some (.slice a2 c.list.length c2) := kept_cell hb (cell_al bx4 (.cells #[.slice p3 D.vars.length q3, .slice p4 D.arrays.length q4, .slice p5 D.list.length q5] 50))
  replace ow := (ow.below (bal (bself _) (.cells #[.slice p3 D.vars.length q3, .slice p4 D.arrays.length q4, .slice p5 D.list.length q5] 50))).below hb
  have bx19 : w4.cell? ⟨w3.heap.size, 0, none⟩ = some (.slice p3 D.vars.length q3) := kept_cell hb (cell_nw (by simp) (by rfl))
  have bx20 : w4.cell? ⟨w3.heap.size, 1, none⟩ = some (.slice p4 D.arrays.length q4) := kept_cell hb (cell_nw (by simp) (by rfl))
  have bx21 : w4.cell? ⟨w3.heap.size, 2, none⟩ = some (.slice p5 D.list.length q5) := kept_cell hb (cell_nw (by simp) (by rfl))
  replace tot := btr (bal tot (.cells #[.slice p3 D.vars.length q3, .slice p4 D.arrays.length q4, .slice p5 D.list.length q5] 50)) hb
  clear hb
  obtain ⟨p6, q6, p7, q7, p8, q8, rfl, rfl, rfl⟩ := ox.shape
  have iv22 := ox.lt
  try simp only [World.size_alloc] at iv22
  have lt23 := lt_of_cell bx2
  have lt24 := lt_of_cell bx3
  have lt25 := lt_of_cell bx4
  have lt26 := lt_of_cell bx19
  have lt27 := lt_of_cell bx20
  have lt28 := lt_of_cell bx21
  go_wp2_with fail
  refine (HI.out _ _ _ _ ((ox.below (bal (bself _) (.cells #[.slice p6 c.vars.length q6, .slice p7 c.arrays.length q7, .slice p8 c.list.length q8] 50))).reads (by omega) (by omega) (by omega))).mono ?_
  rintro e w5 ⟨u3, v3, x3, rfl, og, hb⟩
  have hsz29 := hb.size
  simp only [World.size_alloc] at hsz29
  replace r0 := (r0.below (bal (bself _) (.cells #[.slice p6 c.vars.length q6, .slice p7 c.arrays.length q7, .slice p8 c.list.length q8] 50))).below hb
  replace bx2 : w5.cell? ⟨w.heap.size, 0, none⟩ = some (.slice a0 c.vars.length c0) := kept_cell hb (cell_al bx2 (.cells #[.slice p6 c.vars.length q6, .slice p7 c.arrays.length q7, .slice p8 c.list.length q8] 50))
  replace bx3 : w5.cell? ⟨w.heap.size, 1, none⟩ = some (.slice a1 c.arrays.length c1) := kept_cell hb (cell_al bx3 (.cells #[.slice p6 c.vars.length q6, .slice p7 c.arrays.length q7, .slice p8 c.list.length q8] 50))
  replace bx4 : w5.cell? ⟨w.heap.size, 2, none⟩ = some (.slice a2 c.list.length c2) := kept_cell hb (cell_al bx4 (.cells #[.slice p6 c.vars.length q6, .slice p7 c.arrays.length q7, .slice p8 c.list.length q8] 50))
  replace ow := (ow.below (bal (bself _) (.cells #[.slice p6 c.vars.length q6, .slice p7 c.arrays.length q7, .slice p8 c.list.length q8] 50))).below hb
  replace bx19 : w5.cell? ⟨w3.heap.size, 0, none⟩ = some (.slice p3 D.vars.length q3) := kept_cell hb (cell_al bx19 (.cells #[.slice p6 c.vars.length q6, .slice p7 c.arrays.length q7, .slice p8 c.list.length q8] 50))
  replace bx20 : w5.cell? ⟨w3.heap.size, 1, none⟩ = some (.slice p4 D.arrays.length q4) := kept_cell hb (cell_al bx20 (.cells #[.slice p6 c.vars.length q6, .slice p7 c.arrays.length q7, .slice p8 c.list.length q8] 50))
  replace bx21 : w5.cell? ⟨w3.heap.size, 2, none⟩ = some (.slice p5 D.list.length q5) := kept_cell hb (cell_al bx21 (.cells #[.slice p6 c.vars.length q6, .slice p7 c.arrays.length q7, .slice p8 c.list.length q8] 50))
  replace ox := (ox.below (bal (bself _) (.cells #[.slice p6 c.vars.length q6, .slice p7 c.arrays.length q7, .slice p8 c.list.length q8] 50))).below hb
  have bx30 : w5.cell? ⟨w4.heap.size, 0, none⟩ = some (.slice p6 c.vars.length q6) := kept_cell hb (cell_nw (by simp) (by rfl))
  have bx31 : w5.cell? ⟨w4.heap.size, 1, none⟩ = some (.slice p7 c.arrays.length q7) := kept_cell hb (cell_nw (by simp) (by rfl))
  have bx32 : w5.cell? ⟨w4.heap.size, 2, none⟩ = some (.slice p8 c.list.length q8) := kept_cell hb (cell_nw (by simp) (by rfl))
  replace tot := btr (bal tot (.cells #[.slice p6 c.vars.length q6, .slice p7 c.arrays.length q7, .slice p8 c.list.length q8] 50)) hb
  clear hb
  obtain ⟨p9, q9, p10, q10, p11, q11, rfl, rfl, rfl⟩ := og.shape
  have iv33 := og.lt
  try simp only [World.size_alloc] at iv33
  have lt34 := lt_of_cell bx2
  have lt35 := lt_of_cell bx3
  have lt36 := lt_of_cell bx4
  have lt37 := lt_of_cell bx19
  have lt38 := lt_of_cell bx20
  have lt39 := lt_of_cell bx21
  have lt40 := lt_of_cell bx30
  have lt41 := lt_of_cell bx31
  have lt42 := lt_of_cell bx32
  go_wp2_with fail
  refine (eqCode_any _ _ _ _ _ _ D D _ ((og.below (bal (bself _) (.cells #[.slice p9 D.vars.length q9, .slice p10 D.arrays.length q10, .slice p11 D.list.length q11] 50))).reads (by omega) (by omega) (by omega)) ((ow.below (bal (bself _) (.cells #[.slice p9 D.vars.length q9, .slice p10 D.arrays.length q10, .slice p11 D.list.length q11] 50))).reads (by omega) (by omega) (by omega))).mono ?_
  rintro e w6 ⟨rfl, hb⟩
  have hsz43 := hb.size
  simp only [World.size_alloc] at hsz43
  replace r0 := (r0.below (bal (bself _) (.cells #[.slice p9 D.vars.length q9, .slice p10 D.arrays.length q10, .slice p11 D.list.length q11] 50))).below hb
  replace bx2 : w6.cell? ⟨w.heap.size, 0, none⟩ = some (.slice a0 c.vars.length c0) := kept_cell hb (cell_al bx2 (.cells #[.slice p9 D.vars.length q9, .slice p10 D.arrays.length q10, .slice p11 D.list.length q11] 50))
  replace bx3 : w6.cell? ⟨w.heap.size, 1, none⟩ = some (.slice a1 c.arrays.length c1) := kept_cell hb (cell_al bx3 (.cells #[.slice p9 D.vars.length q9, .slice p10 D.arrays.length q10, .slice p11 D.list.length q11] 50))
  replace bx4 : w6.cell? ⟨w.heap.size, 2, none⟩ = some (.slice a2 c.list.length c2) := kept_cell hb (cell_al bx4 (.cells #[.slice p9 D.vars.length q9, .slice p10 D.arrays.length q10, .slice p11 D.list.length q11] 50))
  replace ow := (ow.below (bal (bself _) (.cells #[.slice p9 D.vars.length q9, .slice p10 D.arrays.length q10, .slice p11 D.list.length q11] 50))).below hb
  replace bx19 : w6.cell? ⟨w3.heap.size, 0, none⟩ = some (.slice p3 D.vars.length q3) := kept_cell hb (cell_al bx19 (.cells #[.slice p9 D.vars.length q9, .slice p10 D.arrays.length q10, .slice p11 D.list.length q11] 50))
  replace bx20 : w6.cell? ⟨w3.heap.size, 1, none⟩ = some (.slice p4 D.arrays.length q4) := kept_cell hb (cell_al bx20 (.cells #[.slice p9 D.vars.length q9, .slice p10 D.arrays.length q10, .slice p11 D.list.length q11] 50))
  replace bx21 : w6.cell? ⟨w3.heap.size, 2, none⟩ = some (.slice p5 D.list.length q5) := kept_cell hb (cell_al bx21 (.cells #[.slice p9 D.vars.length q9, .slice p10 D.arrays.length q10, .slice p11 D.list.length q11] 50))
  replace ox := (ox.below (bal (bself _) (.cells #[.slice p9 D.vars.length q9, .slice p10 D.arrays.length q10, .slice p11 D.list.length q11] 50))).below hb
  replace bx30 : w6.cell? ⟨w4.heap.size, 0, none⟩ = some (.slice p6 c.vars.length q6) := kept_cell hb (cell_al bx30 (.cells #[.slice p9 D.vars.length q9, .slice p10 D.arrays.length q10, .slice p11 D.list.length q11] 50))
  replace bx31 : w6.cell? ⟨w4.heap.size, 1, none⟩ = some (.slice p7 c.arrays.length q7) := kept_cell hb (cell_al bx31 (.cells #[.slice p9 D.vars.length q9, .slice p10 D.arrays.length q10, .slice p11 D.list.length q11] 50))
  replace bx32 : w6.cell? ⟨w4.heap.size, 2, none⟩ = some (.slice p8 c.list.length q8) := kept_cell hb (cell_al bx32 (.cells #[.slice p9 D.vars.length q9, .slice p10 D.arrays.length q10, .slice p11 D.list.length q11] 50))
  replace og := (og.below (bal (bself _) (.cells #[.slice p9 D.vars.length q9, .slice p10 D.arrays.length q10, .slice p11 D.list.length q11] 50))).below hb
  have bx44 : w6.cell? ⟨w5.heap.size, 0, none⟩ = some (.slice p9 D.vars.length q9) := kept_cell hb (cell_nw (by simp) (by rfl))
  have bx45 : w6.cell? ⟨w5.heap.size, 1, none⟩ = some (.slice p10 D.arrays.length q10) := kept_cell hb (cell_nw (by simp) (by rfl))
  have bx46 : w6.cell? ⟨w5.heap.size, 2, none⟩ = some (.slice p11 D.list.length q11) := kept_cell hb (cell_nw (by simp) (by rfl))
  replace tot := btr (bal tot (.cells #[.slice p9 D.vars.length q9, .slice p10 D.arrays.length q10, .slice p11 D.list.length q11] 50)) hb
  clear hb
  rw [decide_eq_true (Eq.refl D)]
  have lt47 := lt_of_cell bx2
  have lt48 := lt_of_cell bx3
  have lt49 := lt_of_cell bx4
  have lt50 := lt_of_cell bx19
  have lt51 := lt_of_cell bx20
  have lt52 := lt_of_cell bx21
  have lt53 := lt_of_cell bx30
  have lt54 := lt_of_cell bx31
  have lt55 := lt_of_cell bx32
  have lt56 := lt_of_cell bx44
  have lt57 := lt_of_cell bx45
  have lt58 := lt_of_cell bx46
  go_upto_region 10 with (fail)
  go_cut [45] (fun s wx => s = .bool false ∧ Below w6.heap.size w6 wx)
  case first =>
    clear tot
    go_region_with (first | (go_at_call 33; refine (toCode_any _ _ _ c _ (r0.below (Below.drew (bself w6))) (by omega) (by omega) (by omega)).mono ?_; rintro e wa ⟨ua, ub, uc, rfl, oa, ba⟩; obtain ⟨pa, qa, pb, qb, pc, qc, rfl, rfl, rfl⟩ := oa.shape; have xbx30 := kept_cell (btr (Below.drew (bself w6)) ba) bx30; have xbx31 := kept_cell (btr (Below.drew (bself w6)) ba) bx31; have xbx32 := kept_cell (btr (Below.drew (bself w6)) ba) bx32) | (go_at_call 35; refine (eqCode_any _ _ _ _ _ _ c c _ ((ox.below (btr (Below.drew (bself w6)) ba)).reads (by omega) (by omega) (by omega)) (oa.reads (by omega) (by omega) (by omega))).mono ?_; rintro e wb ⟨rfl, bb⟩))
    all_goals (go_wp2_with fail; go_meet; exact ⟨rfl, btr (btr (Below.drew (bself w6)) ba) bb⟩)
  obtain ⟨w7, rfl⟩ : ∃ W, W = wc := ⟨_, rfl⟩
  obtain ⟨rfl, hb⟩ := hcut
  have hsz59 := hb.size
  replace r0 := r0.below hb
  replace bx2 : w7.cell? ⟨w.heap.size, 0, none⟩ = some (.slice a0 c.vars.length c0) := kept_cell hb bx2
  replace bx3 : w7.cell? ⟨w.heap.size, 1, none⟩ = some (.slice a1 c.arrays.length c1) := kept_cell hb bx3
  replace bx4 : w7.cell? ⟨w.heap.size, 2, none⟩ = some (.slice a2 c.list.length c2) := kept_cell hb bx4
  replace ow := ow.below hb
  replace bx19 : w7.cell? ⟨w3.heap.size, 0, none⟩ = some (.slice p3 D.vars.length q3) := kept_cell hb bx19
  replace bx20 : w7.cell? ⟨w3.heap.size, 1, none⟩ = some (.slice p4 D.arrays.length q4) := kept_cell hb bx20
  replace bx21 : w7.cell? ⟨w3.heap.size, 2, none⟩ = some (.slice p5 D.list.length q5) := kept_cell hb bx21
  replace ox := ox.below hb
  replace bx30 : w7.cell? ⟨w4.heap.size, 0, none⟩ = some (.slice p6 c.vars.length q6) := kept_cell hb bx30
  replace bx31 : w7.cell? ⟨w4.heap.size, 1, none⟩ = some (.slice p7 c.arrays.length q7) := kept_cell hb bx31
  replace bx32 : w7.cell? ⟨w4.heap.size, 2, none⟩ = some (.slice p8 c.list.length q8) := kept_cell hb bx32
  replace og := og.below hb
  replace bx44 : w7.cell? ⟨w5.heap.size, 0, none⟩ = some (.slice p9 D.vars.length q9) := kept_cell hb bx44
  replace bx45 : w7.cell? ⟨w5.heap.size, 1, none⟩ = some (.slice p10 D.arrays.length q10) := kept_cell hb bx45
  replace bx46 : w7.cell? ⟨w5.heap.size, 2, none⟩ = some (.slice p11 D.list.length q11) := kept_cell hb bx46
  replace tot := btr tot hb
  clear hb
  have lt60 := lt_of_cell bx2
  have lt61 := lt_of_cell bx3
  have lt62 := lt_of_cell bx4
  have lt63 := lt_of_cell bx19
  have lt64 := lt_of_cell bx20
  have lt65 := lt_of_cell bx21
  have lt66 := lt_of_cell bx30
  have lt67 := lt_of_cell bx31
  have lt68 := lt_of_cell bx32
  have lt69 := lt_of_cell bx44
  have lt70 := lt_of_cell bx45
  have lt71 := lt_of_cell bx46
  go_wp2_with fail
  refine (markCode_any _ _ _ c 1 _ _ ox (by omega) (by omega) (by omega) (by omega) (by omega)).mono ?_
  rintro e w8 ⟨rfl, mx, hb⟩
  have hsz72 := hb.size
  replace r0 := r0.keep hb (fun gq h h2 => by have := ivr gq h; have := iv22 gq h2; omega)
  replace bx2 : w8.cell? ⟨w.heap.size, 0, none⟩ = some (.slice a0 c.vars.length c0) := chg_cell hb bx2 (fun h => by have := iv22 _ h; omega)
  replace bx3 : w8.cell? ⟨w.heap.size, 1, none⟩ = some (.slice a1 c.arrays.length c1) := chg_cell hb bx3 (fun h => by have := iv22 _ h; omega)
  replace bx4 : w8.cell? ⟨w.heap.size, 2, none⟩ = some (.slice a2 c.list.length c2) := chg_cell hb bx4 (fun h => by have := iv22 _ h; omega)
  replace ow := ow.keep hb (fun gq h h2 => by have := iv14 gq h; have := iv22 gq h2; omega)
  replace bx19 : w8.cell? ⟨w3.heap.size, 0, none⟩ = some (.slice p3 D.vars.length q3) := chg_cell hb bx19 (fun h => by have := iv22 _ h; omega)
  replace bx20 : w8.cell? ⟨w3.heap.size, 1, none⟩ = some (.slice p4 D.arrays.length q4) := chg_cell hb bx20 (fun h => by have := iv22 _ h; omega)
  replace bx21 : w8.cell? ⟨w3.heap.size, 2, none⟩ = some (.slice p5 D.list.length q5) := chg_cell hb bx21 (fun h => by have := iv22 _ h; omega)
  replace bx30 : w8.cell? ⟨w4.heap.size, 0, none⟩ = some (.slice p6 c.vars.length q6) := chg_cell hb bx30 (fun h => by have := iv22 _ h; omega)
  replace bx31 : w8.cell? ⟨w4.heap.size, 1, none⟩ = some (.slice p7 c.arrays.length q7) := chg_cell hb bx31 (fun h => by have := iv22 _ h; omega)
  replace bx32 : w8.cell? ⟨w4.heap.size, 2, none⟩ = some (.slice p8 c.list.length q8) := chg_cell hb bx32 (fun h => by have := iv22 _ h; omega)
  replace og := og.keep hb (fun gq h h2 => by have := iv33 gq h; have := iv22 gq h2; omega)
  replace bx44 : w8.cell? ⟨w5.heap.size, 0, none⟩ = some (.slice p9 D.vars.length q9) := chg_cell hb bx44 (fun h => by have := iv22 _ h; omega)
  replace bx45 : w8.cell? ⟨w5.heap.size, 1, none⟩ = some (.slice p10 D.arrays.length q10) := chg_cell hb bx45 (fun h => by have := iv22 _ h; omega)
  replace bx46 : w8.cell? ⟨w5.heap.size, 2, none⟩ = some (.slice p11 D.list.length q11) := chg_cell hb bx46 (fun h => by have := iv22 _ h; omega)
  replace tot := tot.trans (hb.below w.heap.size (by have := tot.size; omega) (fun gq hgq h => by have := iv22 gq h; omega))
  clear hb
  clear ox
  clear mx
  clear bx30 bx31 bx32
  have lt73 := lt_of_cell bx2
  have lt74 := lt_of_cell bx3
  have lt75 := lt_of_cell bx4
  have lt76 := lt_of_cell bx19
  have lt77 := lt_of_cell bx20
  have lt78 := lt_of_cell bx21
  have lt79 := lt_of_cell bx44
  have lt80 := lt_of_cell bx45
  have lt81 := lt_of_cell bx46
  go_wp2_with fail
  refine (eqCode_any _ _ _ _ _ _ D D _ (og.reads (by omega) (by omega) (by omega)) (ow.reads (by omega) (by omega) (by omega))).mono ?_
  rintro e w9 ⟨rfl, hb⟩
  have hsz82 := hb.size
  replace r0 := r0.below hb
  replace bx2 : w9.cell? ⟨w.heap.size, 0, none⟩ = some (.slice a0 c.vars.length c0) := kept_cell hb bx2
  replace bx3 : w9.cell? ⟨w.heap.size, 1, none⟩ = some (.slice a1 c.arrays.length c1) := kept_cell hb bx3
  replace bx4 : w9.cell? ⟨w.heap.size, 2, none⟩ = some (.slice a2 c.list.length c2) := kept_cell hb bx4
  replace ow := ow.below hb
  replace bx19 : w9.cell? ⟨w3.heap.size, 0, none⟩ = some (.slice p3 D.vars.length q3) := kept_cell hb bx19
  replace bx20 : w9.cell? ⟨w3.heap.size, 1, none⟩ = some (.slice p4 D.arrays.length q4) := kept_cell hb bx20
  replace bx21 : w9.cell? ⟨w3.heap.size, 2, none⟩ = some (.slice p5 D.list.length q5) := kept_cell hb bx21
  replace og := og.below hb
  replace bx44 : w9.cell? ⟨w5.heap.size, 0, none⟩ = some (.slice p9 D.vars.length q9) := kept_cell hb bx44
  replace bx45 : w9.cell? ⟨w5.heap.size, 1, none⟩ = some (.slice p10 D.arrays.length q10) := kept_cell hb bx45
  replace bx46 : w9.cell? ⟨w5.heap.size, 2, none⟩ = some (.slice p11 D.list.length q11) := kept_cell hb bx46
  replace tot := btr tot hb
  clear hb
  rw [decide_eq_true (Eq.refl D)]
  have lt83 := lt_of_cell bx2
  have lt84 := lt_of_cell bx3
  have lt85 := lt_of_cell bx4
  have lt86 := lt_of_cell bx19
  have lt87 := lt_of_cell bx20
  have lt88 := lt_of_cell bx21
  have lt89 := lt_of_cell bx44
  have lt90 := lt_of_cell bx45
  have lt91 := lt_of_cell bx46
  go_wp2_with fail
  refine (markCode_any _ _ _ D 1 _ _ og (by omega) (by omega) (by omega) (by omega) (by omega)).mono ?_
  rintro e w10 ⟨rfl, mg, hb⟩
  have hsz92 := hb.size
  replace r0 := r0.keep hb (fun gq h h2 => by have := ivr gq h; have := iv33 gq h2; omega)
  replace bx2 : w10.cell? ⟨w.heap.size, 0, none⟩ = some (.slice a0 c.vars.length c0) := chg_cell hb bx2 (fun h => by have := iv33 _ h; omega)
  replace bx3 : w10.cell? ⟨w.heap.size, 1, none⟩ = some (.slice a1 c.arrays.length c1) := chg_cell hb bx3 (fun h => by have := iv33 _ h; omega)
  replace bx4 : w10.cell? ⟨w.heap.size, 2, none⟩ = some (.slice a2 c.list.length c2) := chg_cell hb bx4 (fun h => by have := iv33 _ h; omega)
  replace ow := ow.keep hb (fun gq h h2 => by have := iv14 gq h; have := iv33 gq h2; omega)
  replace bx19 : w10.cell? ⟨w3.heap.size, 0, none⟩ = some (.slice p3 D.vars.length q3) := chg_cell hb bx19 (fun h => by have := iv33 _ h; omega)
  replace bx20 : w10.cell? ⟨w3.heap.size, 1, none⟩ = some (.slice p4 D.arrays.length q4) := chg_cell hb bx20 (fun h => by have := iv33 _ h; omega)
  replace bx21 : w10.cell? ⟨w3.heap.size, 2, none⟩ = some (.slice p5 D.list.length q5) := chg_cell hb bx21 (fun h => by have := iv33 _ h; omega)
  replace bx44 : w10.cell? ⟨w5.heap.size, 0, none⟩ = some (.slice p9 D.vars.length q9) := chg_cell hb bx44 (fun h => by have := iv33 _ h; omega)
  replace bx45 : w10.cell? ⟨w5.heap.size, 1, none⟩ = some (.slice p10 D.arrays.length q10) := chg_cell hb bx45 (fun h => by have := iv33 _ h; omega)
  replace bx46 : w10.cell? ⟨w5.heap.size, 2, none⟩ = some (.slice p11 D.list.length q11) := chg_cell hb bx46 (fun h => by have := iv33 _ h; omega)
  replace tot := tot.trans (hb.below w.heap.size (by have := tot.size; omega) (fun gq hgq h => by have := iv33 gq h; omega))
  clear hb
  clear og
  have lt93 := lt_of_cell bx2
  have lt94 := lt_of_cell bx3
  have lt95 := lt_of_cell bx4
  have lt96 := lt_of_cell bx19
  have lt97 := lt_of_cell bx20
  have lt98 := lt_of_cell bx21
  have lt99 := lt_of_cell bx44
  have lt100 := lt_of_cell bx45
  have lt101 := lt_of_cell bx46
  go_wp2_with fail
  refine (heldCode_any _ _ _ D 1 _ (mg.reads (by rw [markC_vars]; omega) (by rw [markC_arrays]; omega) (by rw [markC_list]; omega)) (by omega) (by omega) (by omega) (by omega) (by omega)).mono ?_
  rintro e w11 ⟨rfl, hb⟩
  have hsz102 := hb.size
  replace r0 := r0.below hb
  replace bx2 : w11.cell? ⟨w.heap.size, 0, none⟩ = some (.slice a0 c.vars.length c0) := kept_cell hb bx2
  replace bx3 : w11.cell? ⟨w.heap.size, 1, none⟩ = some (.slice a1 c.arrays.length c1) := kept_cell hb bx3
  replace bx4 : w11.cell? ⟨w.heap.size, 2, none⟩ = some (.slice a2 c.list.length c2) := kept_cell hb bx4
  replace ow := ow.below hb
  replace bx19 : w11.cell? ⟨w3.heap.size, 0, none⟩ = some (.slice p3 D.vars.length q3) := kept_cell hb bx19
  replace bx20 : w11.cell? ⟨w3.heap.size, 1, none⟩ = some (.slice p4 D.arrays.length q4) := kept_cell hb bx20
  replace bx21 : w11.cell? ⟨w3.heap.size, 2, none⟩ = some (.slice p5 D.list.length q5) := kept_cell hb bx21
  replace bx44 : w11.cell? ⟨w5.heap.size, 0, none⟩ = some (.slice p9 D.vars.length q9) := kept_cell hb bx44
  replace bx45 : w11.cell? ⟨w5.heap.size, 1, none⟩ = some (.slice p10 D.arrays.length q10) := kept_cell hb bx45
  replace bx46 : w11.cell? ⟨w5.heap.size, 2, none⟩ = some (.slice p11 D.list.length q11) := kept_cell hb bx46
  replace mg := mg.below hb
  replace tot := btr tot hb
  clear hb
  have lt103 := lt_of_cell bx2
  have lt104 := lt_of_cell bx3
  have lt105 := lt_of_cell bx4
  have lt106 := lt_of_cell bx19
  have lt107 := lt_of_cell bx20
  have lt108 := lt_of_cell bx21
  have lt109 := lt_of_cell bx44
  have lt110 := lt_of_cell bx45
  have lt111 := lt_of_cell bx46
  go_wp2_with fail
  refine (toCode_any _ _ _ c _ r0 (by omega) (by omega) (by omega)).mono ?_
  rintro e w12 ⟨u4, v4, x4, rfl, oy, hb⟩
  have hsz112 := hb.size
  replace r0 := r0.below hb
  replace bx2 : w12.cell? ⟨w.heap.size, 0, none⟩ = some (.slice a0 c.vars.length c0) := kept_cell hb bx2
  replace bx3 : w12.cell? ⟨w.heap.size, 1, none⟩ = some (.slice a1 c.arrays.length c1) := kept_cell hb bx3
  replace bx4 : w12.cell? ⟨w.heap.size, 2, none⟩ = some (.slice a2 c.list.length c2) := kept_cell hb bx4
  replace ow := ow.below hb
  replace bx19 : w12.cell? ⟨w3.heap.size, 0, none⟩ = some (.slice p3 D.vars.length q3) := kept_cell hb bx19
  replace bx20 : w12.cell? ⟨w3.heap.size, 1, none⟩ = some (.slice p4 D.arrays.length q4) := kept_cell hb bx20
  replace bx21 : w12.cell? ⟨w3.heap.size, 2, none⟩ = some (.slice p5 D.list.length q5) := kept_cell hb bx21
  replace bx44 : w12.cell? ⟨w5.heap.size, 0, none⟩ = some (.slice p9 D.vars.length q9) := kept_cell hb bx44
  replace bx45 : w12.cell? ⟨w5.heap.size, 1, none⟩ = some (.slice p10 D.arrays.length q10) := kept_cell hb bx45
  replace bx46 : w12.cell? ⟨w5.heap.size, 2, none⟩ = some (.slice p11 D.list.length q11) := kept_cell hb bx46
  replace mg := mg.below hb
  replace tot := btr tot hb
  clear hb
  obtain ⟨p12, q12, p13, q13, p14, q14, rfl, rfl, rfl⟩ := oy.shape
  have iv113 := oy.lt
  have lt114 := lt_of_cell bx2
  have lt115 := lt_of_cell bx3
  have lt116 := lt_of_cell bx4
  have lt117 := lt_of_cell bx19
  have lt118 := lt_of_cell bx20
  have lt119 := lt_of_cell bx21
  have lt120 := lt_of_cell bx44
  have lt121 := lt_of_cell bx45
  have lt122 := lt_of_cell bx46
  go_wp2_with fail
  refine (HI.out _ _ _ _ (oy.reads (by omega) (by omega) (by omega))).mono ?_
  rintro e w13 ⟨u5, v5, x5, rfl, oh, hb⟩
  have hsz123 := hb.size
  replace r0 := r0.below hb
  replace bx2 : w13.cell? ⟨w.heap.size, 0, none⟩ = some (.slice a0 c.vars.length c0) := kept_cell hb bx2
  replace bx3 : w13.cell? ⟨w.heap.size, 1, none⟩ = some (.slice a1 c.arrays.length c1) := kept_cell hb bx3
  replace bx4 : w13.cell? ⟨w.heap.size, 2, none⟩ = some (.slice a2 c.list.length c2) := kept_cell hb bx4
  replace ow := ow.below hb
  replace bx19 : w13.cell? ⟨w3.heap.size, 0, none⟩ = some (.slice p3 D.vars.length q3) := kept_cell hb bx19
  replace bx20 : w13.cell? ⟨w3.heap.size, 1, none⟩ = some (.slice p4 D.arrays.length q4) := kept_cell hb bx20
  replace bx21 : w13.cell? ⟨w3.heap.size, 2, none⟩ = some (.slice p5 D.list.length q5) := kept_cell hb bx21
  replace bx44 : w13.cell? ⟨w5.heap.size, 0, none⟩ = some (.slice p9 D.vars.length q9) := kept_cell hb bx44
  replace bx45 : w13.cell? ⟨w5.heap.size, 1, none⟩ = some (.slice p10 D.arrays.length q10) := kept_cell hb bx45
  replace bx46 : w13.cell? ⟨w5.heap.size, 2, none⟩ = some (.slice p11 D.list.length q11) := kept_cell hb bx46
  replace mg := mg.below hb
  replace oy := oy.below hb
  replace tot := btr tot hb
  clear hb
  obtain ⟨p15, q15, p16, q16, p17, q17, rfl, rfl, rfl⟩ := oh.shape
  have iv124 := oh.lt
  have lt125 := lt_of_cell bx2
  have lt126 := lt_of_cell bx3
  have lt127 := lt_of_cell bx4
  have lt128 := lt_of_cell bx19
  have lt129 := lt_of_cell bx20
  have lt130 := lt_of_cell bx21
  have lt131 := lt_of_cell bx44
  have lt132 := lt_of_cell bx45
  have lt133 := lt_of_cell bx46
  clear oy
  go_wp2_with fail
  refine (eqCode_any _ _ _ _ _ _ D D _ ((oh.below (bal (bself _) (.cells #[.slice p15 D.vars.length q15, .slice p16 D.arrays.length q16, .slice p17 D.list.length q17] 50))).reads (by omega) (by omega) (by omega)) ((ow.below (bal (bself _) (.cells #[.slice p15 D.vars.length q15, .slice p16 D.arrays.length q16, .slice p17 D.list.length q17] 50))).reads (by omega) (by omega) (by omega))).mono ?_
  rintro e w14 ⟨rfl, hb⟩
  have hsz134 := hb.size
  simp only [World.size_alloc] at hsz134
  replace r0 := (r0.below (bal (bself _) (.cells #[.slice p15 D.vars.length q15, .slice p16 D.arrays.length q16, .slice p17 D.list.length q17] 50))).below hb
  replace bx2 : w14.cell? ⟨w.heap.size, 0, none⟩ = some (.slice a0 c.vars.length c0) := kept_cell hb (cell_al bx2 (.cells #[.slice p15 D.vars.length q15, .slice p16 D.arrays.length q16, .slice p17 D.list.length q17] 50))
  replace bx3 : w14.cell? ⟨w.heap.size, 1, none⟩ = some (.slice a1 c.arrays.length c1) := kept_cell hb (cell_al bx3 (.cells #[.slice p15 D.vars.length q15, .slice p16 D.arrays.length q16, .slice p17 D.list.length q17] 50))
  replace bx4 : w14.cell? ⟨w.heap.size, 2, none⟩ = some (.slice a2 c.list.length c2) := kept_cell hb (cell_al bx4 (.cells #[.slice p15 D.vars.length q15, .slice p16 D.arrays.length q16, .slice p17 D.list.length q17] 50))
  replace ow := (ow.below (bal (bself _) (.cells #[.slice p15 D.vars.length q15, .slice p16 D.arrays.length q16, .slice p17 D.list.length q17] 50))).below hb
  replace bx19 : w14.cell? ⟨w3.heap.size, 0, none⟩ = some (.slice p3 D.vars.length q3) := kept_cell hb (cell_al bx19 (.cells #[.slice p15 D.vars.length q15, .slice p16 D.arrays.length q16, .slice p17 D.list.length q17] 50))
  replace bx20 : w14.cell? ⟨w3.heap.size, 1, none⟩ = some (.slice p4 D.arrays.length q4) := kept_cell hb (cell_al bx20 (.cells #[.slice p15 D.vars.length q15, .slice p16 D.arrays.length q16, .slice p17 D.list.length q17] 50))
  replace bx21 : w14.cell? ⟨w3.heap.size, 2, none⟩ = some (.slice p5 D.list.length q5) := kept_cell hb (cell_al bx21 (.cells #[.slice p15 D.vars.length q15, .slice p16 D.arrays.length q16, .slice p17 D.list.length q17] 50))
  replace bx44 : w14.cell? ⟨w5.heap.size, 0, none⟩ = some (.slice p9 D.vars.length q9) := kept_cell hb (cell_al bx44 (.cells #[.slice p15 D.vars.length q15, .slice p16 D.arrays.length q16, .slice p17 D.list.length q17] 50))
  replace bx45 : w14.cell? ⟨w5.heap.size, 1, none⟩ = some (.slice p10 D.arrays.length q10) := kept_cell hb (cell_al bx45 (.cells #[.slice p15 D.vars.length q15, .slice p16 D.arrays.length q16, .slice p17 D.list.length q17] 50))
  replace bx46 : w14.cell? ⟨w5.heap.size, 2, none⟩ = some (.slice p11 D.list.length q11) := kept_cell hb (cell_al bx46 (.cells #[.slice p15 D.vars.length q15, .slice p16 D.arrays.length q16, .slice p17 D.list.length q17] 50))
  replace mg := (mg.below (bal (bself _) (.cells #[.slice p15 D.vars.length q15, .slice p16 D.arrays.length q16, .slice p17 D.list.length q17] 50))).below hb
  replace oh := (oh.below (bal (bself _) (.cells #[.slice p15 D.vars.length q15, .slice p16 D.arrays.length q16, .slice p17 D.list.length q17] 50))).below hb
  have bx135 : w14.cell? ⟨w13.heap.size, 0, none⟩ = some (.slice p15 D.vars.length q15) := kept_cell hb (cell_nw (by simp) (by rfl))
  have bx136 : w14.cell? ⟨w13.heap.size, 1, none⟩ = some (.slice p16 D.arrays.length q16) := kept_cell hb (cell_nw (by simp) (by rfl))
  have bx137 : w14.cell? ⟨w13.heap.size, 2, none⟩ = some (.slice p17 D.list.length q17) := kept_cell hb (cell_nw (by simp) (by rfl))
  replace tot := btr (bal tot (.cells #[.slice p15 D.vars.length q15, .slice p16 D.arrays.length q16, .slice p17 D.list.length q17] 50)) hb
  clear hb
  rw [decide_eq_true (Eq.refl D)]
  have lt138 := lt_of_cell bx2
  have lt139 := lt_of_cell bx3
  have lt140 := lt_of_cell bx4
  have lt141 := lt_of_cell bx19
  have lt142 := lt_of_cell bx20
  have lt143 := lt_of_cell bx21
  have lt144 := lt_of_cell bx44
  have lt145 := lt_of_cell bx45
  have lt146 := lt_of_cell bx46
  have lt147 := lt_of_cell bx135
  have lt148 := lt_of_cell bx136
  have lt149 := lt_of_cell bx137
  clear oh
  clear ow
  clear r0
  go_wp2_with fail
  refine (heldCode_any _ _ _ D 1 _ (mg.reads (by rw [markC_vars]; omega) (by rw [markC_arrays]; omega) (by rw [markC_list]; omega)) (by omega) (by omega) (by omega) (by omega) (by omega)).mono ?_
  rintro e w15 ⟨rfl, hb⟩
  have hsz150 := hb.size
  replace bx2 : w15.cell? ⟨w.heap.size, 0, none⟩ = some (.slice a0 c.vars.length c0) := kept_cell hb bx2
  replace bx3 : w15.cell? ⟨w.heap.size, 1, none⟩ = some (.slice a1 c.arrays.length c1) := kept_cell hb bx3
  replace bx4 : w15.cell? ⟨w.heap.size, 2, none⟩ = some (.slice a2 c.list.length c2) := kept_cell hb bx4
  replace bx19 : w15.cell? ⟨w3.heap.size, 0, none⟩ = some (.slice p3 D.vars.length q3) := kept_cell hb bx19
  replace bx20 : w15.cell? ⟨w3.heap.size, 1, none⟩ = some (.slice p4 D.arrays.length q4) := kept_cell hb bx20
  replace bx21 : w15.cell? ⟨w3.heap.size, 2, none⟩ = some (.slice p5 D.list.length q5) := kept_cell hb bx21
  replace bx44 : w15.cell? ⟨w5.heap.size, 0, none⟩ = some (.slice p9 D.vars.length q9) := kept_cell hb bx44
  replace bx45 : w15.cell? ⟨w5.heap.size, 1, none⟩ = some (.slice p10 D.arrays.length q10) := kept_cell hb bx45
  replace bx46 : w15.cell? ⟨w5.heap.size, 2, none⟩ = some (.slice p11 D.list.length q11) := kept_cell hb bx46
  replace mg := mg.below hb
  replace bx135 : w15.cell? ⟨w13.heap.size, 0, none⟩ = some (.slice p15 D.vars.length q15) := kept_cell hb bx135
  replace bx136 : w15.cell? ⟨w13.heap.size, 1, none⟩ = some (.slice p16 D.arrays.length q16) := kept_cell hb bx136
  replace bx137 : w15.cell? ⟨w13.heap.size, 2, none⟩ = some (.slice p17 D.list.length q17) := kept_cell hb bx137
  replace tot := btr tot hb
  clear hb
  have lt151 := lt_of_cell bx2
  have lt152 := lt_of_cell bx3
  have lt153 := lt_of_cell bx4
  have lt154 := lt_of_cell bx19
  have lt155 := lt_of_cell bx20
  have lt156 := lt_of_cell bx21
  have lt157 := lt_of_cell bx44
  have lt158 := lt_of_cell bx45
  have lt159 := lt_of_cell bx46
  have lt160 := lt_of_cell bx135
  have lt161 := lt_of_cell bx136
  have lt162 := lt_of_cell bx137
  clear mg
  go_wp2
  go_ret
  exact ⟨rfl, tot⟩
end Go.Proofs.Ytkbbpnfhenoihaa
