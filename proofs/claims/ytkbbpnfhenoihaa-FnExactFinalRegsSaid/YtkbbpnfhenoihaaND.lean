import Derived.Test.YtkbbpnfhenoihaaCO
import Derived.Test.YtkbbpnfhenoihaaNC
namespace Go.Proofs.Ytkbbpnfhenoihaa
open Go.RowKit

set_option maxHeartbeats 12800000 in
set_option maxRecDepth 100000 in
theorem FnExactFinalRegs_walk (va vb vc vx vy : Value) (c : Cd) (m : Mm) (w : World) (r0 : ReadsC w va vb vc c) (rm : ReadsM w vx vy m) :
    Calls Try.prog 14 #[.agg #[va, vb, vc], .agg #[vx, vy]] w fun e w' => e = .returned (.bool true) ∧ Below w.heap.size w w' := by
  have ivr := r0.lt
  obtain ⟨a0, c0, a1, c1, a2, c2, rfl, rfl, rfl⟩ := r0.shape
  obtain ⟨a3, c3, a4, c4, rfl, rfl⟩ := rm.shape
  have hlens := finR_len c m
  have hI := fun (va vb vc vx vy : Value) (W : World) h1 h2 h3 h4 h5 => iFinal_any va vb vc vx vy c m W h1 h2 h3 h4 h5
  have hS := fun (va vb vc vx vy : Value) (W : World) h1 h2 h3 h4 h5 => sFinal_any va vb vc vx vy c m W h1 h2 h3 h4 h5
  generalize finR c m = R at *
  obtain ⟨L, ok⟩ := R
  simp only at hlens hI hS
  have HI := Lib.hid hI
  have HS := Lib.hid hS
  have hszM : 0 ≤ sizeM c := by unfold sizeM; omega
  clear hI hS
  have HR0 := Lib.hid (fun W (hW : Below w.heap.size w W) => r0.below hW)
  have HRM := Lib.hid (fun W (hW : Below w.heap.size w W) => rm.below hW)
  clear r0 rm ivr
  go_enter Try.func14, Try.ntmps14
  go_wp2_with fail
  refine (szCode_any _ _ _ c 1048576 _ (HR0.out _ (bal (bal (bself w) (.cells #[.slice a0 c.vars.length c0, .slice a1 c.arrays.length c1, .slice a2 c.list.length c2] 45)) (.cells #[.slice a3 m.vals.length c3, .slice a4 m.arrs.length c4] 67))) (by omega) (by omega)).mono ?_
  rintro e w1 ⟨rfl, hb⟩
  have hsz1 := hb.size
  simp only [World.size_alloc] at hsz1
  have bx2 : w1.cell? ⟨w.heap.size, 0, none⟩ = some (.slice a0 c.vars.length c0) := kept_cell hb (cell_al (cell_nw (by simp) (by rfl)) _)
  have bx3 : w1.cell? ⟨w.heap.size, 1, none⟩ = some (.slice a1 c.arrays.length c1) := kept_cell hb (cell_al (cell_nw (by simp) (by rfl)) _)
  have bx4 : w1.cell? ⟨w.heap.size, 2, none⟩ = some (.slice a2 c.list.length c2) := kept_cell hb (cell_al (cell_nw (by simp) (by rfl)) _)
  have bx5 : w1.cell? ⟨w.heap.size + 1, 0, none⟩ = some (.slice a3 m.vals.length c3) := kept_cell hb (cell_nw (by simp) (by rfl))
  have bx6 : w1.cell? ⟨w.heap.size + 1, 1, none⟩ = some (.slice a4 m.arrs.length c4) := kept_cell hb (cell_nw (by simp) (by rfl))
  have tot := btr (bal (bal (bself w) (.cells #[.slice a0 c.vars.length c0, .slice a1 c.arrays.length c1, .slice a2 c.list.length c2] 45)) (.cells #[.slice a3 m.vals.length c3, .slice a4 m.arrs.length c4] 67)) hb
  clear hb
  by_cases hl : (1048576 : Int) < (c.vars.length + c.arrays.length + c.list.length : Nat)
  · rw [if_pos hl]
    clear hl
    go_wp2
    go_ret
    exact ⟨rfl, tot⟩
  rw [if_neg hl]
  have hnn : ¬ (1048576 : Int) - (c.vars.length + c.arrays.length + c.list.length : Nat) < 0 := by omega
  have hv : c.vars.length ≤ 1048576 := by omega
  have ha : c.arrays.length ≤ 1048576 := by omega
  have hc : c.list.length ≤ 1048576 := by omega
  have lt7 := lt_of_cell bx2
  have lt8 := lt_of_cell bx3
  have lt9 := lt_of_cell bx4
  have lt10 := lt_of_cell bx5
  have lt11 := lt_of_cell bx6
  go_wp2_with fail
  refine (szMemory_any _ _ m (1048576 - (c.vars.length + c.arrays.length + c.list.length : Nat)) _ (HRM.out _ tot) (by omega) (by omega)).mono ?_
  rintro e w2 ⟨rsz, rfl, hrsz, hb⟩
  have hsz12 := hb.size
  replace bx2 : w2.cell? ⟨w.heap.size, 0, none⟩ = some (.slice a0 c.vars.length c0) := kept_cell hb bx2
  replace bx3 : w2.cell? ⟨w.heap.size, 1, none⟩ = some (.slice a1 c.arrays.length c1) := kept_cell hb bx3
  replace bx4 : w2.cell? ⟨w.heap.size, 2, none⟩ = some (.slice a2 c.list.length c2) := kept_cell hb bx4
  replace bx5 : w2.cell? ⟨w.heap.size + 1, 0, none⟩ = some (.slice a3 m.vals.length c3) := kept_cell hb bx5
  replace bx6 : w2.cell? ⟨w.heap.size + 1, 1, none⟩ = some (.slice a4 m.arrs.length c4) := kept_cell hb bx6
  replace tot := btr tot hb
  clear hb
  rcases hrsz with rfl | ⟨hrsz0, hrsz⟩
  · clear hl
    go_wp2
    go_ret
    exact ⟨rfl, tot⟩
  have hn1 : ¬ rsz < 0 := by omega
  have hm1 : m.vals.length ≤ 1048576 := by omega
  have hm2 : m.arrs.length ≤ 1048576 := by omega
  have hm3 : pre2 m.arrs m.arrs.length ≤ 1048576 := by omega
  clear hrsz hl
  clear lt7 lt8 lt9 lt10 lt11
  have lt13 := lt_of_cell bx2
  have lt14 := lt_of_cell bx3
  have lt15 := lt_of_cell bx4
  have lt16 := lt_of_cell bx5
  have lt17 := lt_of_cell bx6
  have hok : (!(ok == ok)) = false := by simp
  have hk0 : ¬ (1 + sizeM c + (m.vals.length : Int) + (pre2 m.arrs m.arrs.length : Nat)) < 0 := by omega
  have hk1 : ¬ (1 + (L.length : Int)) < 0 := by omega
  have hsz2 : sizeM c ≤ 16777216 := by unfold sizeM; omega
  go_upto_region 8 with (fail)
  have HSS := Lib.hid (show ∀ W', Below w2.heap.size w2 W' → (fun W' => W'.cell? ⟨w.heap.size, 0, none⟩ = some (.slice a0 c.vars.length c0) ∧ W'.cell? ⟨w.heap.size, 1, none⟩ = some (.slice a1 c.arrays.length c1) ∧ W'.cell? ⟨w.heap.size, 2, none⟩ = some (.slice a2 c.list.length c2) ∧ W'.cell? ⟨w.heap.size + 1, 0, none⟩ = some (.slice a3 m.vals.length c3) ∧ W'.cell? ⟨w.heap.size + 1, 1, none⟩ = some (.slice a4 m.arrs.length c4)) W' from fun W' h => ⟨kept_cell h bx2, kept_cell h bx3, kept_cell h bx4, kept_cell h bx5, kept_cell h bx6⟩)
  have D := Below.drew (bself w2)
  go_cut [6, 7] (fun s6 s7 wx => ∃ p9 t9, s6 = .slice p9 L.length t9 ∧ s7 = .bool ok ∧ wx.ownsRow w2.heap.size 3 1 (.slice p9 L.length t9) L.length (ints L) ∧ Below w2.heap.size w2 wx)
  case first =>
    have HTO := Lib.hid tot
    clear tot
    go_region_held3 (fun W' => W'.cell? ⟨w.heap.size, 0, none⟩ = some (.slice a0 c.vars.length c0) ∧ W'.cell? ⟨w.heap.size, 1, none⟩ = some (.slice a1 c.arrays.length c1) ∧ W'.cell? ⟨w.heap.size, 2, none⟩ = some (.slice a2 c.list.length c2) ∧ W'.cell? ⟨w.heap.size + 1, 0, none⟩ = some (.slice a3 m.vals.length c3) ∧ W'.cell? ⟨w.heap.size + 1, 1, none⟩ = some (.slice a4 m.arrs.length c4)) (first | exact HSS.out _ BT | exact HSS.out _ (btr (btr D ba) bm) | exact HSS.out _ (btr (btr D bm) ba) | exact HSS.out _ (btr D ba) | exact HSS.out _ (btr D bm) | exact HSS.out _ D) (first | (go_at_call 62; refine (HS.out _ _ _ _ _ _ ((oa.below bm).reads (by omega) (by omega) (by omega)) (om.reads (by omega) (by omega) (by omega)) hm1 hm2 hm3).mono ?_; rintro e wf ⟨uF, rfl, oF, bF⟩; have BT := btr (btr (btr D ba) bm) bF) | (go_at_call 62; refine (HS.out _ _ _ _ _ _ (oa.reads (by omega) (by omega) (by omega)) ((om.below ba).reads (by omega) (by omega) (by omega)) hm1 hm2 hm3).mono ?_; rintro e wf ⟨uF, rfl, oF, bF⟩; have BT := btr (btr (btr D bm) ba) bF) | (go_at_call 59; refine (toMemory_any _ _ m _ (HRM.out _ (btr HTO.out (btr D ba))) (by omega) (by omega) (by omega)).mono ?_; rintro e wm ⟨ux, uy, us9, rfl, om, bm⟩; obtain ⟨px, qx, py, qy, rfl, rfl⟩ := om.shape) | (go_at_call 33; refine (toCode_any _ _ _ c _ (HR0.out _ (btr HTO.out (btr D bm))) (by omega) (by omega) (by omega)).mono ?_; rintro e wa ⟨ua, ub, uc, rfl, oa, ba⟩; obtain ⟨pa, qa, pb, qb, pc, qc, rfl, rfl, rfl⟩ := oa.shape) | (go_at_call 33; refine (toCode_any _ _ _ c _ (HR0.out _ (btr HTO.out D)) (by omega) (by omega) (by omega)).mono ?_; rintro e wa ⟨ua, ub, uc, rfl, oa, ba⟩; obtain ⟨pa, qa, pb, qb, pc, qc, rfl, rfl, rfl⟩ := oa.shape) | (go_at_call 59; refine (toMemory_any _ _ m _ (HRM.out _ (btr HTO.out D)) (by omega) (by omega) (by omega)).mono ?_; rintro e wm ⟨ux, uy, us9, rfl, om, bm⟩; obtain ⟨px, qx, py, qy, rfl, rfl⟩ := om.shape))
    all_goals (obtain ⟨pF, tF, rfl⟩ := own_shape oF)
    all_goals (go_wp2_with fail; go_meet; exact ⟨pF, tF, rfl, rfl, own_mono oF (by have := BT.size; have := bF.size; have := D.size; first | (have := bm.size; have := ba.size; omega)), BT⟩)
  obtain ⟨w3, rfl⟩ : ∃ W, W = wc := ⟨_, rfl⟩
  obtain ⟨P0, T0, rfl, rfl, ow, hb⟩ := hcut
  clear HSS D
  have hsz18 := hb.size
  replace bx2 : w3.cell? ⟨w.heap.size, 0, none⟩ = some (.slice a0 c.vars.length c0) := kept_cell hb bx2
  replace bx3 : w3.cell? ⟨w.heap.size, 1, none⟩ = some (.slice a1 c.arrays.length c1) := kept_cell hb bx3
  replace bx4 : w3.cell? ⟨w.heap.size, 2, none⟩ = some (.slice a2 c.list.length c2) := kept_cell hb bx4
  replace bx5 : w3.cell? ⟨w.heap.size + 1, 0, none⟩ = some (.slice a3 m.vals.length c3) := kept_cell hb bx5
  replace bx6 : w3.cell? ⟨w.heap.size + 1, 1, none⟩ = some (.slice a4 m.arrs.length c4) := kept_cell hb bx6
  replace tot := btr tot hb
  clear hb
  have iv19 := ow.lt
  clear lt13 lt14 lt15 lt16 lt17
  have lt20 := lt_of_cell bx2
  have lt21 := lt_of_cell bx3
  have lt22 := lt_of_cell bx4
  have lt23 := lt_of_cell bx5
  have lt24 := lt_of_cell bx6
  go_wp2_with fail
  refine (toCode_any _ _ _ c _ (HR0.out _ tot) (by omega) (by omega) (by omega)).mono ?_
  rintro e w4 ⟨u2, v2, x2, rfl, ox, hb⟩
  have hsz25 := hb.size
  replace bx2 : w4.cell? ⟨w.heap.size, 0, none⟩ = some (.slice a0 c.vars.length c0) := kept_cell hb bx2
  replace bx3 : w4.cell? ⟨w.heap.size, 1, none⟩ = some (.slice a1 c.arrays.length c1) := kept_cell hb bx3
  replace bx4 : w4.cell? ⟨w.heap.size, 2, none⟩ = some (.slice a2 c.list.length c2) := kept_cell hb bx4
  replace bx5 : w4.cell? ⟨w.heap.size + 1, 0, none⟩ = some (.slice a3 m.vals.length c3) := kept_cell hb bx5
  replace bx6 : w4.cell? ⟨w.heap.size + 1, 1, none⟩ = some (.slice a4 m.arrs.length c4) := kept_cell hb bx6
  replace ow := own_below ow hb
  replace tot := btr tot hb
  clear hb
  obtain ⟨p6, q6, p7, q7, p8, q8, rfl, rfl, rfl⟩ := ox.shape
  have iv26 := ox.lt
  clear lt20 lt21 lt22 lt23 lt24
  have lt27 := lt_of_cell bx2
  have lt28 := lt_of_cell bx3
  have lt29 := lt_of_cell bx4
  have lt30 := lt_of_cell bx5
  have lt31 := lt_of_cell bx6
  go_wp2_with fail
  refine (toMemory_any _ _ m _ (HRM.out _ (bal tot (.cells #[.slice p6 c.vars.length q6, .slice p7 c.arrays.length q7, .slice p8 c.list.length q8] 50))) (by omega) (by omega) (by omega)).mono ?_
  rintro e w5 ⟨ux, uy, usx, rfl, mx, hb⟩
  have hsz32 := hb.size
  simp only [World.size_alloc] at hsz32
  replace bx2 : w5.cell? ⟨w.heap.size, 0, none⟩ = some (.slice a0 c.vars.length c0) := kept_cell hb (cell_al bx2 (.cells #[.slice p6 c.vars.length q6, .slice p7 c.arrays.length q7, .slice p8 c.list.length q8] 50))
  replace bx3 : w5.cell? ⟨w.heap.size, 1, none⟩ = some (.slice a1 c.arrays.length c1) := kept_cell hb (cell_al bx3 (.cells #[.slice p6 c.vars.length q6, .slice p7 c.arrays.length q7, .slice p8 c.list.length q8] 50))
  replace bx4 : w5.cell? ⟨w.heap.size, 2, none⟩ = some (.slice a2 c.list.length c2) := kept_cell hb (cell_al bx4 (.cells #[.slice p6 c.vars.length q6, .slice p7 c.arrays.length q7, .slice p8 c.list.length q8] 50))
  replace bx5 : w5.cell? ⟨w.heap.size + 1, 0, none⟩ = some (.slice a3 m.vals.length c3) := kept_cell hb (cell_al bx5 (.cells #[.slice p6 c.vars.length q6, .slice p7 c.arrays.length q7, .slice p8 c.list.length q8] 50))
  replace bx6 : w5.cell? ⟨w.heap.size + 1, 1, none⟩ = some (.slice a4 m.arrs.length c4) := kept_cell hb (cell_al bx6 (.cells #[.slice p6 c.vars.length q6, .slice p7 c.arrays.length q7, .slice p8 c.list.length q8] 50))
  replace ow := own_below (own_below ow (bal (bself _) (.cells #[.slice p6 c.vars.length q6, .slice p7 c.arrays.length q7, .slice p8 c.list.length q8] 50))) hb
  replace ox := (ox.below (bal (bself _) (.cells #[.slice p6 c.vars.length q6, .slice p7 c.arrays.length q7, .slice p8 c.list.length q8] 50))).below hb
  have bx33 : w5.cell? ⟨w4.heap.size, 0, none⟩ = some (.slice p6 c.vars.length q6) := kept_cell hb (cell_nw (by simp) (by rfl))
  have bx34 : w5.cell? ⟨w4.heap.size, 1, none⟩ = some (.slice p7 c.arrays.length q7) := kept_cell hb (cell_nw (by simp) (by rfl))
  have bx35 : w5.cell? ⟨w4.heap.size, 2, none⟩ = some (.slice p8 c.list.length q8) := kept_cell hb (cell_nw (by simp) (by rfl))
  replace tot := btr (bal tot (.cells #[.slice p6 c.vars.length q6, .slice p7 c.arrays.length q7, .slice p8 c.list.length q8] 50)) hb
  clear hb
  obtain ⟨y40, z40, y41, z41, rfl, rfl⟩ := mx.shape
  have iv36 := mx.lt
  try simp only [World.size_alloc] at iv36
  clear lt27 lt28 lt29 lt30 lt31
  have lt37 := lt_of_cell bx2
  have lt38 := lt_of_cell bx3
  have lt39 := lt_of_cell bx4
  have lt40 := lt_of_cell bx5
  have lt41 := lt_of_cell bx6
  have lt42 := lt_of_cell bx33
  have lt43 := lt_of_cell bx34
  have lt44 := lt_of_cell bx35
  go_wp2_with fail
  refine (HI.out _ _ _ _ _ _ ((ox.below (bal (bself _) (.cells #[.slice y40 m.vals.length z40, .slice y41 m.arrs.length z41] 71))).reads (by omega) (by omega) (by omega)) ((mx.below (bal (bself _) (.cells #[.slice y40 m.vals.length z40, .slice y41 m.arrs.length z41] 71))).reads (by omega) (by omega) (by omega)) hm1 hm2 hm3).mono ?_
  rintro e w6 ⟨ug, rfl, og, hb⟩
  have hsz45 := hb.size
  simp only [World.size_alloc] at hsz45
  replace bx2 : w6.cell? ⟨w.heap.size, 0, none⟩ = some (.slice a0 c.vars.length c0) := kept_cell hb (cell_al bx2 (.cells #[.slice y40 m.vals.length z40, .slice y41 m.arrs.length z41] 71))
  replace bx3 : w6.cell? ⟨w.heap.size, 1, none⟩ = some (.slice a1 c.arrays.length c1) := kept_cell hb (cell_al bx3 (.cells #[.slice y40 m.vals.length z40, .slice y41 m.arrs.length z41] 71))
  replace bx4 : w6.cell? ⟨w.heap.size, 2, none⟩ = some (.slice a2 c.list.length c2) := kept_cell hb (cell_al bx4 (.cells #[.slice y40 m.vals.length z40, .slice y41 m.arrs.length z41] 71))
  replace bx5 : w6.cell? ⟨w.heap.size + 1, 0, none⟩ = some (.slice a3 m.vals.length c3) := kept_cell hb (cell_al bx5 (.cells #[.slice y40 m.vals.length z40, .slice y41 m.arrs.length z41] 71))
  replace bx6 : w6.cell? ⟨w.heap.size + 1, 1, none⟩ = some (.slice a4 m.arrs.length c4) := kept_cell hb (cell_al bx6 (.cells #[.slice y40 m.vals.length z40, .slice y41 m.arrs.length z41] 71))
  replace ow := own_below (own_below ow (bal (bself _) (.cells #[.slice y40 m.vals.length z40, .slice y41 m.arrs.length z41] 71))) hb
  replace ox := (ox.below (bal (bself _) (.cells #[.slice y40 m.vals.length z40, .slice y41 m.arrs.length z41] 71))).below hb
  replace bx33 : w6.cell? ⟨w4.heap.size, 0, none⟩ = some (.slice p6 c.vars.length q6) := kept_cell hb (cell_al bx33 (.cells #[.slice y40 m.vals.length z40, .slice y41 m.arrs.length z41] 71))
  replace bx34 : w6.cell? ⟨w4.heap.size, 1, none⟩ = some (.slice p7 c.arrays.length q7) := kept_cell hb (cell_al bx34 (.cells #[.slice y40 m.vals.length z40, .slice y41 m.arrs.length z41] 71))
  replace bx35 : w6.cell? ⟨w4.heap.size, 2, none⟩ = some (.slice p8 c.list.length q8) := kept_cell hb (cell_al bx35 (.cells #[.slice y40 m.vals.length z40, .slice y41 m.arrs.length z41] 71))
  replace mx := (mx.below (bal (bself _) (.cells #[.slice y40 m.vals.length z40, .slice y41 m.arrs.length z41] 71))).below hb
  have bx46 : w6.cell? ⟨w5.heap.size, 0, none⟩ = some (.slice y40 m.vals.length z40) := kept_cell hb (cell_nw (by simp) (by rfl))
  have bx47 : w6.cell? ⟨w5.heap.size, 1, none⟩ = some (.slice y41 m.arrs.length z41) := kept_cell hb (cell_nw (by simp) (by rfl))
  replace tot := btr (bal tot (.cells #[.slice y40 m.vals.length z40, .slice y41 m.arrs.length z41] 71)) hb
  clear hb
  obtain ⟨P1, T1, rfl⟩ := own_shape og
  have iv48 := og.lt
  try simp only [World.size_alloc] at iv48
  clear lt37 lt38 lt39 lt40 lt41 lt42 lt43 lt44
  have lt49 := lt_of_cell bx2
  have lt50 := lt_of_cell bx3
  have lt51 := lt_of_cell bx4
  have lt52 := lt_of_cell bx5
  have lt53 := lt_of_cell bx6
  have lt54 := lt_of_cell bx33
  have lt55 := lt_of_cell bx34
  have lt56 := lt_of_cell bx35
  have lt57 := lt_of_cell bx46
  have lt58 := lt_of_cell bx47
  go_wp2_with fail
  refine (eqIntS_b _ _ L L _ (reads_of_owns og (by omega)) (reads_of_owns ow (by omega))).mono ?_
  rintro e w7 ⟨rfl, hb⟩
  have hsz59 := hb.size
  replace bx2 : w7.cell? ⟨w.heap.size, 0, none⟩ = some (.slice a0 c.vars.length c0) := kept_cell hb bx2
  replace bx3 : w7.cell? ⟨w.heap.size, 1, none⟩ = some (.slice a1 c.arrays.length c1) := kept_cell hb bx3
  replace bx4 : w7.cell? ⟨w.heap.size, 2, none⟩ = some (.slice a2 c.list.length c2) := kept_cell hb bx4
  replace bx5 : w7.cell? ⟨w.heap.size + 1, 0, none⟩ = some (.slice a3 m.vals.length c3) := kept_cell hb bx5
  replace bx6 : w7.cell? ⟨w.heap.size + 1, 1, none⟩ = some (.slice a4 m.arrs.length c4) := kept_cell hb bx6
  replace ow := own_below ow hb
  replace ox := ox.below hb
  replace bx33 : w7.cell? ⟨w4.heap.size, 0, none⟩ = some (.slice p6 c.vars.length q6) := kept_cell hb bx33
  replace bx34 : w7.cell? ⟨w4.heap.size, 1, none⟩ = some (.slice p7 c.arrays.length q7) := kept_cell hb bx34
  replace bx35 : w7.cell? ⟨w4.heap.size, 2, none⟩ = some (.slice p8 c.list.length q8) := kept_cell hb bx35
  replace mx := mx.below hb
  replace bx46 : w7.cell? ⟨w5.heap.size, 0, none⟩ = some (.slice y40 m.vals.length z40) := kept_cell hb bx46
  replace bx47 : w7.cell? ⟨w5.heap.size, 1, none⟩ = some (.slice y41 m.arrs.length z41) := kept_cell hb bx47
  replace og := own_below og hb
  replace tot := btr tot hb
  clear hb
  rw [decide_eq_true (Eq.refl L)]
  clear lt49 lt50 lt51 lt52 lt53 lt54 lt55 lt56 lt57 lt58
  have lt60 := lt_of_cell bx2
  have lt61 := lt_of_cell bx3
  have lt62 := lt_of_cell bx4
  have lt63 := lt_of_cell bx5
  have lt64 := lt_of_cell bx6
  have lt65 := lt_of_cell bx33
  have lt66 := lt_of_cell bx34
  have lt67 := lt_of_cell bx35
  have lt68 := lt_of_cell bx46
  have lt69 := lt_of_cell bx47
  have HSS := Lib.hid (show ∀ W', Below w7.heap.size w7 W' → (fun W' => W'.cell? ⟨w4.heap.size, 0, none⟩ = some (.slice p6 c.vars.length q6) ∧ W'.cell? ⟨w4.heap.size, 1, none⟩ = some (.slice p7 c.arrays.length q7) ∧ W'.cell? ⟨w4.heap.size, 2, none⟩ = some (.slice p8 c.list.length q8) ∧ W'.cell? ⟨w.heap.size, 0, none⟩ = some (.slice a0 c.vars.length c0) ∧ W'.cell? ⟨w.heap.size, 1, none⟩ = some (.slice a1 c.arrays.length c1) ∧ W'.cell? ⟨w.heap.size, 2, none⟩ = some (.slice a2 c.list.length c2)) W' from fun W' h => ⟨kept_cell h bx33, kept_cell h bx34, kept_cell h bx35, kept_cell h bx2, kept_cell h bx3, kept_cell h bx4⟩)
  go_upto_region 14 with (fail)
  have D := Below.drew (bself w7)
  go_cut [58] (fun s wx => s = .bool false ∧ Below w7.heap.size w7 wx)
  case first =>
    have HTO := Lib.hid tot
    clear tot
    go_region_held3 (fun W' => W'.cell? ⟨w4.heap.size, 0, none⟩ = some (.slice p6 c.vars.length q6) ∧ W'.cell? ⟨w4.heap.size, 1, none⟩ = some (.slice p7 c.arrays.length q7) ∧ W'.cell? ⟨w4.heap.size, 2, none⟩ = some (.slice p8 c.list.length q8) ∧ W'.cell? ⟨w.heap.size, 0, none⟩ = some (.slice a0 c.vars.length c0) ∧ W'.cell? ⟨w.heap.size, 1, none⟩ = some (.slice a1 c.arrays.length c1) ∧ W'.cell? ⟨w.heap.size, 2, none⟩ = some (.slice a2 c.list.length c2)) (first | exact HSS.out _ (btr (btr D ba) bb) | exact HSS.out _ (btr D ba) | exact HSS.out _ D) (first | (go_at_call 35; refine (eqCode_any _ _ _ _ _ _ c c _ ((ox.below (btr D ba)).reads (by omega) (by omega) (by omega)) (oa.reads (by omega) (by omega) (by omega))).mono ?_; rintro e wb ⟨rfl, bb⟩) | (go_at_call 33; refine (toCode_any _ _ _ c _ (HR0.out _ (btr HTO.out D)) (by omega) (by omega) (by omega)).mono ?_; rintro e wa ⟨ua, ub, uc, rfl, oa, ba⟩; obtain ⟨pa, qa, pb, qb, pc, qc, rfl, rfl, rfl⟩ := oa.shape))
    all_goals (go_wp2_with fail; go_meet; exact ⟨rfl, btr (btr D ba) bb⟩)
  obtain ⟨w8, rfl⟩ : ∃ W, W = wc := ⟨_, rfl⟩
  obtain ⟨rfl, hb⟩ := hcut
  clear HSS D
  have hsz70 := hb.size
  replace bx2 : w8.cell? ⟨w.heap.size, 0, none⟩ = some (.slice a0 c.vars.length c0) := kept_cell hb bx2
  replace bx3 : w8.cell? ⟨w.heap.size, 1, none⟩ = some (.slice a1 c.arrays.length c1) := kept_cell hb bx3
  replace bx4 : w8.cell? ⟨w.heap.size, 2, none⟩ = some (.slice a2 c.list.length c2) := kept_cell hb bx4
  replace bx5 : w8.cell? ⟨w.heap.size + 1, 0, none⟩ = some (.slice a3 m.vals.length c3) := kept_cell hb bx5
  replace bx6 : w8.cell? ⟨w.heap.size + 1, 1, none⟩ = some (.slice a4 m.arrs.length c4) := kept_cell hb bx6
  replace ow := own_below ow hb
  replace ox := ox.below hb
  replace bx33 : w8.cell? ⟨w4.heap.size, 0, none⟩ = some (.slice p6 c.vars.length q6) := kept_cell hb bx33
  replace bx34 : w8.cell? ⟨w4.heap.size, 1, none⟩ = some (.slice p7 c.arrays.length q7) := kept_cell hb bx34
  replace bx35 : w8.cell? ⟨w4.heap.size, 2, none⟩ = some (.slice p8 c.list.length q8) := kept_cell hb bx35
  replace mx := mx.below hb
  replace bx46 : w8.cell? ⟨w5.heap.size, 0, none⟩ = some (.slice y40 m.vals.length z40) := kept_cell hb bx46
  replace bx47 : w8.cell? ⟨w5.heap.size, 1, none⟩ = some (.slice y41 m.arrs.length z41) := kept_cell hb bx47
  replace og := own_below og hb
  replace tot := btr tot hb
  clear hb
  clear lt60 lt61 lt62 lt63 lt64 lt65 lt66 lt67 lt68 lt69
  have lt71 := lt_of_cell bx2
  have lt72 := lt_of_cell bx3
  have lt73 := lt_of_cell bx4
  have lt74 := lt_of_cell bx5
  have lt75 := lt_of_cell bx6
  have lt76 := lt_of_cell bx33
  have lt77 := lt_of_cell bx34
  have lt78 := lt_of_cell bx35
  have lt79 := lt_of_cell bx46
  have lt80 := lt_of_cell bx47
  have HSS := Lib.hid (show ∀ W', Below w8.heap.size w8 W' → (fun W' => W'.cell? ⟨w5.heap.size, 0, none⟩ = some (.slice y40 m.vals.length z40) ∧ W'.cell? ⟨w5.heap.size, 1, none⟩ = some (.slice y41 m.arrs.length z41) ∧ W'.cell? ⟨w.heap.size + 1, 0, none⟩ = some (.slice a3 m.vals.length c3) ∧ W'.cell? ⟨w.heap.size + 1, 1, none⟩ = some (.slice a4 m.arrs.length c4)) W' from fun W' h => ⟨kept_cell h bx46, kept_cell h bx47, kept_cell h bx5, kept_cell h bx6⟩)
  go_upto_region 16 with (fail)
  have D := Below.drew (bself w8)
  go_cut [63] (fun s wx => s = .bool false ∧ Below w8.heap.size w8 wx)
  case first =>
    have HTO := Lib.hid tot
    clear tot
    go_region_held3 (fun W' => W'.cell? ⟨w5.heap.size, 0, none⟩ = some (.slice y40 m.vals.length z40) ∧ W'.cell? ⟨w5.heap.size, 1, none⟩ = some (.slice y41 m.arrs.length z41) ∧ W'.cell? ⟨w.heap.size + 1, 0, none⟩ = some (.slice a3 m.vals.length c3) ∧ W'.cell? ⟨w.heap.size + 1, 1, none⟩ = some (.slice a4 m.arrs.length c4)) (first | exact HSS.out _ (btr (btr D ba) bb) | exact HSS.out _ (btr D ba) | exact HSS.out _ D) (first | (go_at_call 61; refine (eqMemory_any _ _ _ _ m _ ((mx.below (btr D ba)).reads (by omega) (by omega) (by omega)) (oa.reads (by omega) (by omega) (by omega))).mono ?_; rintro e wb ⟨rfl, bb⟩) | (go_at_call 59; refine (toMemory_any _ _ m _ (HRM.out _ (btr HTO.out D)) (by omega) (by omega) (by omega)).mono ?_; rintro e wa ⟨ux, uy, us9, rfl, oa, ba⟩; obtain ⟨px, qx, py, qy, rfl, rfl⟩ := oa.shape))
    all_goals (go_wp2_with fail; go_meet; exact ⟨rfl, btr (btr D ba) bb⟩)
  obtain ⟨w9, rfl⟩ : ∃ W, W = wc := ⟨_, rfl⟩
  obtain ⟨rfl, hb⟩ := hcut
  clear HSS D
  have hsz81 := hb.size
  replace bx2 : w9.cell? ⟨w.heap.size, 0, none⟩ = some (.slice a0 c.vars.length c0) := kept_cell hb bx2
  replace bx3 : w9.cell? ⟨w.heap.size, 1, none⟩ = some (.slice a1 c.arrays.length c1) := kept_cell hb bx3
  replace bx4 : w9.cell? ⟨w.heap.size, 2, none⟩ = some (.slice a2 c.list.length c2) := kept_cell hb bx4
  replace bx5 : w9.cell? ⟨w.heap.size + 1, 0, none⟩ = some (.slice a3 m.vals.length c3) := kept_cell hb bx5
  replace bx6 : w9.cell? ⟨w.heap.size + 1, 1, none⟩ = some (.slice a4 m.arrs.length c4) := kept_cell hb bx6
  replace ow := own_below ow hb
  replace ox := ox.below hb
  replace bx33 : w9.cell? ⟨w4.heap.size, 0, none⟩ = some (.slice p6 c.vars.length q6) := kept_cell hb bx33
  replace bx34 : w9.cell? ⟨w4.heap.size, 1, none⟩ = some (.slice p7 c.arrays.length q7) := kept_cell hb bx34
  replace bx35 : w9.cell? ⟨w4.heap.size, 2, none⟩ = some (.slice p8 c.list.length q8) := kept_cell hb bx35
  replace mx := mx.below hb
  replace bx46 : w9.cell? ⟨w5.heap.size, 0, none⟩ = some (.slice y40 m.vals.length z40) := kept_cell hb bx46
  replace bx47 : w9.cell? ⟨w5.heap.size, 1, none⟩ = some (.slice y41 m.arrs.length z41) := kept_cell hb bx47
  replace og := own_below og hb
  replace tot := btr tot hb
  clear hb
  clear lt71 lt72 lt73 lt74 lt75 lt76 lt77 lt78 lt79 lt80
  have lt82 := lt_of_cell bx2
  have lt83 := lt_of_cell bx3
  have lt84 := lt_of_cell bx4
  have lt85 := lt_of_cell bx5
  have lt86 := lt_of_cell bx6
  have lt87 := lt_of_cell bx33
  have lt88 := lt_of_cell bx34
  have lt89 := lt_of_cell bx35
  have lt90 := lt_of_cell bx46
  have lt91 := lt_of_cell bx47
  go_wp2_with fail
  refine (markCode_any _ _ _ c 1 _ _ ox (by omega) (by omega) (by omega) (by omega) (by omega)).mono ?_
  rintro e w10 ⟨rfl, mc, hb⟩
  have hsz92 := hb.size
  replace bx2 : w10.cell? ⟨w.heap.size, 0, none⟩ = some (.slice a0 c.vars.length c0) := chg_cell hb bx2 (fun h => by have := iv26 _ h; omega)
  replace bx3 : w10.cell? ⟨w.heap.size, 1, none⟩ = some (.slice a1 c.arrays.length c1) := chg_cell hb bx3 (fun h => by have := iv26 _ h; omega)
  replace bx4 : w10.cell? ⟨w.heap.size, 2, none⟩ = some (.slice a2 c.list.length c2) := chg_cell hb bx4 (fun h => by have := iv26 _ h; omega)
  replace bx5 : w10.cell? ⟨w.heap.size + 1, 0, none⟩ = some (.slice a3 m.vals.length c3) := chg_cell hb bx5 (fun h => by have := iv26 _ h; omega)
  replace bx6 : w10.cell? ⟨w.heap.size + 1, 1, none⟩ = some (.slice a4 m.arrs.length c4) := chg_cell hb bx6 (fun h => by have := iv26 _ h; omega)
  replace ow := own_keep ow hb (fun gq h h2 => by have := iv19 gq h; have := iv26 gq h2; omega)
  replace bx33 : w10.cell? ⟨w4.heap.size, 0, none⟩ = some (.slice p6 c.vars.length q6) := chg_cell hb bx33 (fun h => by have := iv26 _ h; omega)
  replace bx34 : w10.cell? ⟨w4.heap.size, 1, none⟩ = some (.slice p7 c.arrays.length q7) := chg_cell hb bx34 (fun h => by have := iv26 _ h; omega)
  replace bx35 : w10.cell? ⟨w4.heap.size, 2, none⟩ = some (.slice p8 c.list.length q8) := chg_cell hb bx35 (fun h => by have := iv26 _ h; omega)
  replace mx := mx.keep hb (fun gq h h2 => by have := iv36 gq h; have := iv26 gq h2; omega)
  replace bx46 : w10.cell? ⟨w5.heap.size, 0, none⟩ = some (.slice y40 m.vals.length z40) := chg_cell hb bx46 (fun h => by have := iv26 _ h; omega)
  replace bx47 : w10.cell? ⟨w5.heap.size, 1, none⟩ = some (.slice y41 m.arrs.length z41) := chg_cell hb bx47 (fun h => by have := iv26 _ h; omega)
  replace og := own_keep og hb (fun gq h h2 => by have := iv48 gq h; have := iv26 gq h2; omega)
  replace tot := tot.trans (hb.below w.heap.size (by have := tot.size; omega) (fun gq hgq h => by have := iv26 gq h; omega))
  clear hb
  clear ox
  clear iv26
  clear mc
  clear bx33 bx34 bx35
  clear lt82 lt83 lt84 lt85 lt86 lt87 lt88 lt89 lt90 lt91
  have lt93 := lt_of_cell bx2
  have lt94 := lt_of_cell bx3
  have lt95 := lt_of_cell bx4
  have lt96 := lt_of_cell bx5
  have lt97 := lt_of_cell bx6
  have lt98 := lt_of_cell bx46
  have lt99 := lt_of_cell bx47
  go_wp2_with fail
  refine (markMemory_any _ _ _ m (1 + sizeM c) _ _ mx (by omega) (by omega) (by omega) (by omega)).mono ?_
  rintro e w11 ⟨rfl, hb⟩
  have hsz100 := hb.size
  replace bx2 : w11.cell? ⟨w.heap.size, 0, none⟩ = some (.slice a0 c.vars.length c0) := chg_cell hb bx2 (fun h => by have := iv36 _ h; omega)
  replace bx3 : w11.cell? ⟨w.heap.size, 1, none⟩ = some (.slice a1 c.arrays.length c1) := chg_cell hb bx3 (fun h => by have := iv36 _ h; omega)
  replace bx4 : w11.cell? ⟨w.heap.size, 2, none⟩ = some (.slice a2 c.list.length c2) := chg_cell hb bx4 (fun h => by have := iv36 _ h; omega)
  replace bx5 : w11.cell? ⟨w.heap.size + 1, 0, none⟩ = some (.slice a3 m.vals.length c3) := chg_cell hb bx5 (fun h => by have := iv36 _ h; omega)
  replace bx6 : w11.cell? ⟨w.heap.size + 1, 1, none⟩ = some (.slice a4 m.arrs.length c4) := chg_cell hb bx6 (fun h => by have := iv36 _ h; omega)
  replace ow := own_keep ow hb (fun gq h h2 => by have := iv19 gq h; have := iv36 gq h2; omega)
  replace bx46 : w11.cell? ⟨w5.heap.size, 0, none⟩ = some (.slice y40 m.vals.length z40) := chg_cell hb bx46 (fun h => by have := iv36 _ h; omega)
  replace bx47 : w11.cell? ⟨w5.heap.size, 1, none⟩ = some (.slice y41 m.arrs.length z41) := chg_cell hb bx47 (fun h => by have := iv36 _ h; omega)
  replace og := own_keep og hb (fun gq h h2 => by have := iv48 gq h; have := iv36 gq h2; omega)
  replace tot := tot.trans (hb.below w.heap.size (by have := tot.size; omega) (fun gq hgq h => by have := iv36 gq h; omega))
  clear hb
  clear mx
  clear iv36
  clear bx46 bx47
  clear lt93 lt94 lt95 lt96 lt97 lt98 lt99
  have lt101 := lt_of_cell bx2
  have lt102 := lt_of_cell bx3
  have lt103 := lt_of_cell bx4
  have lt104 := lt_of_cell bx5
  have lt105 := lt_of_cell bx6
  go_wp2_with fail
  refine (eqIntS_b _ _ L L _ (reads_of_owns og (by omega)) (reads_of_owns ow (by omega))).mono ?_
  rintro e w12 ⟨rfl, hb⟩
  have hsz106 := hb.size
  replace bx2 : w12.cell? ⟨w.heap.size, 0, none⟩ = some (.slice a0 c.vars.length c0) := kept_cell hb bx2
  replace bx3 : w12.cell? ⟨w.heap.size, 1, none⟩ = some (.slice a1 c.arrays.length c1) := kept_cell hb bx3
  replace bx4 : w12.cell? ⟨w.heap.size, 2, none⟩ = some (.slice a2 c.list.length c2) := kept_cell hb bx4
  replace bx5 : w12.cell? ⟨w.heap.size + 1, 0, none⟩ = some (.slice a3 m.vals.length c3) := kept_cell hb bx5
  replace bx6 : w12.cell? ⟨w.heap.size + 1, 1, none⟩ = some (.slice a4 m.arrs.length c4) := kept_cell hb bx6
  replace ow := own_below ow hb
  replace og := own_below og hb
  replace tot := btr tot hb
  clear hb
  rw [decide_eq_true (Eq.refl L)]
  clear lt101 lt102 lt103 lt104 lt105
  have lt107 := lt_of_cell bx2
  have lt108 := lt_of_cell bx3
  have lt109 := lt_of_cell bx4
  have lt110 := lt_of_cell bx5
  have lt111 := lt_of_cell bx6
  go_wp2_with fail
  refine (markIntS_any _ L 1 _ _ og (by omega) (by omega) (by omega)).mono ?_
  rintro e w13 ⟨rfl, mg, hb⟩
  have hsz112 := hb.size
  replace bx2 : w13.cell? ⟨w.heap.size, 0, none⟩ = some (.slice a0 c.vars.length c0) := chg_cell hb bx2 (fun h => by have := iv48 _ h; omega)
  replace bx3 : w13.cell? ⟨w.heap.size, 1, none⟩ = some (.slice a1 c.arrays.length c1) := chg_cell hb bx3 (fun h => by have := iv48 _ h; omega)
  replace bx4 : w13.cell? ⟨w.heap.size, 2, none⟩ = some (.slice a2 c.list.length c2) := chg_cell hb bx4 (fun h => by have := iv48 _ h; omega)
  replace bx5 : w13.cell? ⟨w.heap.size + 1, 0, none⟩ = some (.slice a3 m.vals.length c3) := chg_cell hb bx5 (fun h => by have := iv48 _ h; omega)
  replace bx6 : w13.cell? ⟨w.heap.size + 1, 1, none⟩ = some (.slice a4 m.arrs.length c4) := chg_cell hb bx6 (fun h => by have := iv48 _ h; omega)
  replace ow := own_keep ow hb (fun gq h h2 => by have := iv19 gq h; have := iv48 gq h2; omega)
  replace tot := tot.trans (hb.below w.heap.size (by have := tot.size; omega) (fun gq hgq h => by have := iv48 gq h; omega))
  clear hb
  clear og
  clear lt107 lt108 lt109 lt110 lt111
  have lt113 := lt_of_cell bx2
  have lt114 := lt_of_cell bx3
  have lt115 := lt_of_cell bx4
  have lt116 := lt_of_cell bx5
  have lt117 := lt_of_cell bx6
  go_wp2_with fail
  refine (heldIntS_b _ L.length 1 _ (reads_of_owns mg (by omega)) (by omega) (by omega) (by omega)).mono ?_
  rintro e w14 ⟨rfl, hb⟩
  have hsz118 := hb.size
  replace bx2 : w14.cell? ⟨w.heap.size, 0, none⟩ = some (.slice a0 c.vars.length c0) := kept_cell hb bx2
  replace bx3 : w14.cell? ⟨w.heap.size, 1, none⟩ = some (.slice a1 c.arrays.length c1) := kept_cell hb bx3
  replace bx4 : w14.cell? ⟨w.heap.size, 2, none⟩ = some (.slice a2 c.list.length c2) := kept_cell hb bx4
  replace bx5 : w14.cell? ⟨w.heap.size + 1, 0, none⟩ = some (.slice a3 m.vals.length c3) := kept_cell hb bx5
  replace bx6 : w14.cell? ⟨w.heap.size + 1, 1, none⟩ = some (.slice a4 m.arrs.length c4) := kept_cell hb bx6
  replace ow := own_below ow hb
  replace mg := own_below mg hb
  replace tot := btr tot hb
  clear hb
  clear lt113 lt114 lt115 lt116 lt117
  have lt119 := lt_of_cell bx2
  have lt120 := lt_of_cell bx3
  have lt121 := lt_of_cell bx4
  have lt122 := lt_of_cell bx5
  have lt123 := lt_of_cell bx6
  go_upto_region 31 with (fail)
  have HSS := Lib.hid (show ∀ W', Below w14.heap.size w14 W' → (fun W' => W'.cell? ⟨w.heap.size, 0, none⟩ = some (.slice a0 c.vars.length c0) ∧ W'.cell? ⟨w.heap.size, 1, none⟩ = some (.slice a1 c.arrays.length c1) ∧ W'.cell? ⟨w.heap.size, 2, none⟩ = some (.slice a2 c.list.length c2) ∧ W'.cell? ⟨w.heap.size + 1, 0, none⟩ = some (.slice a3 m.vals.length c3) ∧ W'.cell? ⟨w.heap.size + 1, 1, none⟩ = some (.slice a4 m.arrs.length c4)) W' from fun W' h => ⟨kept_cell h bx2, kept_cell h bx3, kept_cell h bx4, kept_cell h bx5, kept_cell h bx6⟩)
  have D := Below.drew (bself w14)
  go_cut [15, 16] (fun s15 s16 wx => ∃ p9 t9, s15 = .slice p9 L.length t9 ∧ s16 = .bool ok ∧ wx.ownsRow w14.heap.size 3 1 (.slice p9 L.length t9) L.length (ints L) ∧ Below w14.heap.size w14 wx)
  case first =>
    have HTO := Lib.hid tot
    clear tot
    go_region_held3 (fun W' => W'.cell? ⟨w.heap.size, 0, none⟩ = some (.slice a0 c.vars.length c0) ∧ W'.cell? ⟨w.heap.size, 1, none⟩ = some (.slice a1 c.arrays.length c1) ∧ W'.cell? ⟨w.heap.size, 2, none⟩ = some (.slice a2 c.list.length c2) ∧ W'.cell? ⟨w.heap.size + 1, 0, none⟩ = some (.slice a3 m.vals.length c3) ∧ W'.cell? ⟨w.heap.size + 1, 1, none⟩ = some (.slice a4 m.arrs.length c4)) (first | exact HSS.out _ BT | exact HSS.out _ (btr (btr D ba) bm) | exact HSS.out _ (btr (btr D bm) ba) | exact HSS.out _ (btr D ba) | exact HSS.out _ (btr D bm) | exact HSS.out _ D) (first | (go_at_call 63; refine (HI.out _ _ _ _ _ _ ((oa.below bm).reads (by omega) (by omega) (by omega)) (om.reads (by omega) (by omega) (by omega)) hm1 hm2 hm3).mono ?_; rintro e wf ⟨uF, rfl, oF, bF⟩; have BT := btr (btr (btr D ba) bm) bF) | (go_at_call 63; refine (HI.out _ _ _ _ _ _ (oa.reads (by omega) (by omega) (by omega)) ((om.below ba).reads (by omega) (by omega) (by omega)) hm1 hm2 hm3).mono ?_; rintro e wf ⟨uF, rfl, oF, bF⟩; have BT := btr (btr (btr D bm) ba) bF) | (go_at_call 59; refine (toMemory_any _ _ m _ (HRM.out _ (btr HTO.out (btr D ba))) (by omega) (by omega) (by omega)).mono ?_; rintro e wm ⟨ux, uy, us9, rfl, om, bm⟩; obtain ⟨px, qx, py, qy, rfl, rfl⟩ := om.shape) | (go_at_call 33; refine (toCode_any _ _ _ c _ (HR0.out _ (btr HTO.out (btr D bm))) (by omega) (by omega) (by omega)).mono ?_; rintro e wa ⟨ua, ub, uc, rfl, oa, ba⟩; obtain ⟨pa, qa, pb, qb, pc, qc, rfl, rfl, rfl⟩ := oa.shape) | (go_at_call 33; refine (toCode_any _ _ _ c _ (HR0.out _ (btr HTO.out D)) (by omega) (by omega) (by omega)).mono ?_; rintro e wa ⟨ua, ub, uc, rfl, oa, ba⟩; obtain ⟨pa, qa, pb, qb, pc, qc, rfl, rfl, rfl⟩ := oa.shape) | (go_at_call 59; refine (toMemory_any _ _ m _ (HRM.out _ (btr HTO.out D)) (by omega) (by omega) (by omega)).mono ?_; rintro e wm ⟨ux, uy, us9, rfl, om, bm⟩; obtain ⟨px, qx, py, qy, rfl, rfl⟩ := om.shape))
    all_goals (obtain ⟨pF, tF, rfl⟩ := own_shape oF)
    all_goals (go_wp2_with fail; go_meet; exact ⟨pF, tF, rfl, rfl, own_mono oF (by have := BT.size; have := bF.size; have := D.size; first | (have := bm.size; have := ba.size; omega)), BT⟩)
  obtain ⟨w15, rfl⟩ : ∃ W, W = wc := ⟨_, rfl⟩
  obtain ⟨P5, T5, rfl, rfl, oh, hb⟩ := hcut
  clear HSS D
  have hsz124 := hb.size
  replace bx2 : w15.cell? ⟨w.heap.size, 0, none⟩ = some (.slice a0 c.vars.length c0) := kept_cell hb bx2
  replace bx3 : w15.cell? ⟨w.heap.size, 1, none⟩ = some (.slice a1 c.arrays.length c1) := kept_cell hb bx3
  replace bx4 : w15.cell? ⟨w.heap.size, 2, none⟩ = some (.slice a2 c.list.length c2) := kept_cell hb bx4
  replace bx5 : w15.cell? ⟨w.heap.size + 1, 0, none⟩ = some (.slice a3 m.vals.length c3) := kept_cell hb bx5
  replace bx6 : w15.cell? ⟨w.heap.size + 1, 1, none⟩ = some (.slice a4 m.arrs.length c4) := kept_cell hb bx6
  replace ow := own_below ow hb
  replace mg := own_below mg hb
  replace tot := btr tot hb
  clear hb
  have iv125 := oh.lt
  clear lt119 lt120 lt121 lt122 lt123
  have lt126 := lt_of_cell bx2
  have lt127 := lt_of_cell bx3
  have lt128 := lt_of_cell bx4
  have lt129 := lt_of_cell bx5
  have lt130 := lt_of_cell bx6
  go_wp2_with fail
  refine (eqIntS_b _ _ L L _ (reads_of_owns oh (by omega)) (reads_of_owns ow (by omega))).mono ?_
  rintro e w16 ⟨rfl, hb⟩
  have hsz131 := hb.size
  replace bx2 : w16.cell? ⟨w.heap.size, 0, none⟩ = some (.slice a0 c.vars.length c0) := kept_cell hb bx2
  replace bx3 : w16.cell? ⟨w.heap.size, 1, none⟩ = some (.slice a1 c.arrays.length c1) := kept_cell hb bx3
  replace bx4 : w16.cell? ⟨w.heap.size, 2, none⟩ = some (.slice a2 c.list.length c2) := kept_cell hb bx4
  replace bx5 : w16.cell? ⟨w.heap.size + 1, 0, none⟩ = some (.slice a3 m.vals.length c3) := kept_cell hb bx5
  replace bx6 : w16.cell? ⟨w.heap.size + 1, 1, none⟩ = some (.slice a4 m.arrs.length c4) := kept_cell hb bx6
  replace ow := own_below ow hb
  replace mg := own_below mg hb
  replace oh := own_below oh hb
  replace tot := btr tot hb
  clear hb
  rw [decide_eq_true (Eq.refl L)]
  clear lt126 lt127 lt128 lt129 lt130
  have lt132 := lt_of_cell bx2
  have lt133 := lt_of_cell bx3
  have lt134 := lt_of_cell bx4
  have lt135 := lt_of_cell bx5
  have lt136 := lt_of_cell bx6
  clear oh
  clear iv125
  clear ow
  clear iv19
  go_wp2_with fail
  refine (heldIntS_b _ L.length 1 _ (reads_of_owns mg (by omega)) (by omega) (by omega) (by omega)).mono ?_
  rintro e w17 ⟨rfl, hb⟩
  have hsz137 := hb.size
  replace bx2 : w17.cell? ⟨w.heap.size, 0, none⟩ = some (.slice a0 c.vars.length c0) := kept_cell hb bx2
  replace bx3 : w17.cell? ⟨w.heap.size, 1, none⟩ = some (.slice a1 c.arrays.length c1) := kept_cell hb bx3
  replace bx4 : w17.cell? ⟨w.heap.size, 2, none⟩ = some (.slice a2 c.list.length c2) := kept_cell hb bx4
  replace bx5 : w17.cell? ⟨w.heap.size + 1, 0, none⟩ = some (.slice a3 m.vals.length c3) := kept_cell hb bx5
  replace bx6 : w17.cell? ⟨w.heap.size + 1, 1, none⟩ = some (.slice a4 m.arrs.length c4) := kept_cell hb bx6
  replace mg := own_below mg hb
  replace tot := btr tot hb
  clear hb
  clear lt132 lt133 lt134 lt135 lt136
  have lt138 := lt_of_cell bx2
  have lt139 := lt_of_cell bx3
  have lt140 := lt_of_cell bx4
  have lt141 := lt_of_cell bx5
  have lt142 := lt_of_cell bx6
  clear mg
  go_wp2
  go_ret
  exact ⟨rfl, tot⟩
end Go.Proofs.Ytkbbpnfhenoihaa
