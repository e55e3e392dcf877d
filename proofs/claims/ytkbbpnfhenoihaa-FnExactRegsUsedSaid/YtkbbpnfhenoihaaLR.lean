import Derived.Test.YtkbbpnfhenoihaaCO
import Derived.Test.YtkbbpnfhenoihaaRP
namespace Go.Proofs.Ytkbbpnfhenoihaa
open Go.RowKit


set_option maxHeartbeats 8000000 in
set_option maxRecDepth 100000 in
theorem FnExactRegsUsed_walk (va vb vc : Value) (c : Cd) (w : World) (r0 : ReadsC w va vb vc c) :
    Calls Try.prog 6 #[.agg #[va, vb, vc]] w fun e w' => e = .returned (.bool true) ∧ Below w.heap.size w w' := by
  have ivr := r0.lt
  obtain ⟨a0, c0, a1, c1, a2, c2, rfl, rfl, rfl⟩ := r0.shape
  go_enter Try.func6, Try.ntmps6
  go_wp2_with fail
  refine (szCode_any _ _ _ c 1048576 _ (r0.below (bal (bself _) (.cells #[.slice a0 c.vars.length c0, .slice a1 c.arrays.length c1, .slice a2 c.list.length c2] 45))) (by omega) (by omega)).mono ?_
  rintro e w1 ⟨rfl, hb⟩
  have hsz1 := hb.size
  simp only [World.size_alloc] at hsz1
  replace r0 := (r0.below (bal (bself _) (.cells #[.slice a0 c.vars.length c0, .slice a1 c.arrays.length c1, .slice a2 c.list.length c2] 45))).below hb
  have bx2 : w1.cell? ⟨w.heap.size, 0, none⟩ = some (.slice a0 c.vars.length c0) := kept_cell hb (cell_nw (by simp) (by rfl))
  have bx3 : w1.cell? ⟨w.heap.size, 1, none⟩ = some (.slice a1 c.arrays.length c1) := kept_cell hb (cell_nw (by simp) (by rfl))
  have bx4 : w1.cell? ⟨w.heap.size, 2, none⟩ = some (.slice a2 c.list.length c2) := kept_cell hb (cell_nw (by simp) (by rfl))
  have tot := btr (bal (bself w) (.cells #[.slice a0 c.vars.length c0, .slice a1 c.arrays.length c1, .slice a2 c.list.length c2] 45)) hb
  clear hb
  by_cases hl : (1048576 : Int) < (c.vars.length + c.arrays.length + c.list.length : Nat)
  · rw [if_pos hl]
    clear hl r0
    go_wp2
    go_ret
    exact ⟨rfl, tot⟩
  rw [if_neg hl]
  have hnn : ¬ (1048576 : Int) - (c.vars.length + c.arrays.length + c.list.length : Nat) < 0 := by omega
  have hv : c.vars.length ≤ 1048576 := by omega
  have ha : c.arrays.length ≤ 1048576 := by omega
  have hc : c.list.length ≤ 1048576 := by omega
  clear hl
  have lt5 := lt_of_cell bx2
  have lt6 := lt_of_cell bx3
  have lt7 := lt_of_cell bx4
  go_wp2_with fail
  refine (toCode_any _ _ _ c _ r0 (by omega) (by omega) (by omega)).mono ?_
  rintro e w2 ⟨u0, v0, x0, rfl, o1, hb⟩
  have hsz8 := hb.size
  replace r0 := r0.below hb
  replace bx2 : w2.cell? ⟨w.heap.size, 0, none⟩ = some (.slice a0 c.vars.length c0) := kept_cell hb bx2
  replace bx3 : w2.cell? ⟨w.heap.size, 1, none⟩ = some (.slice a1 c.arrays.length c1) := kept_cell hb bx3
  replace bx4 : w2.cell? ⟨w.heap.size, 2, none⟩ = some (.slice a2 c.list.length c2) := kept_cell hb bx4
  replace tot := btr tot hb
  clear hb
  obtain ⟨p0, q0, p1, q1, p2, q2, rfl, rfl, rfl⟩ := o1.shape
  have iv9 := o1.lt
  have lt10 := lt_of_cell bx2
  have lt11 := lt_of_cell bx3
  have lt12 := lt_of_cell bx4
  go_wp2_with fail
  refine (sRegsUsed_any _ _ _ c _ (o1.reads (by omega) (by omega) (by omega))).mono ?_
  rintro e w3 ⟨rfl, hb⟩
  have hsz13 := hb.size
  replace r0 := r0.below hb
  replace bx2 : w3.cell? ⟨w.heap.size, 0, none⟩ = some (.slice a0 c.vars.length c0) := kept_cell hb bx2
  replace bx3 : w3.cell? ⟨w.heap.size, 1, none⟩ = some (.slice a1 c.arrays.length c1) := kept_cell hb bx3
  replace bx4 : w3.cell? ⟨w.heap.size, 2, none⟩ = some (.slice a2 c.list.length c2) := kept_cell hb bx4
  replace o1 := o1.below hb
  replace tot := btr tot hb
  clear hb
  clear o1
  have lt14 := lt_of_cell bx2
  have lt15 := lt_of_cell bx3
  have lt16 := lt_of_cell bx4
  go_wp2_with fail
  refine (toCode_any _ _ _ c _ r0 (by omega) (by omega) (by omega)).mono ?_
  rintro e w4 ⟨u1, v1, x1, rfl, ox, hb⟩
  have hsz17 := hb.size
  replace r0 := r0.below hb
  replace bx2 : w4.cell? ⟨w.heap.size, 0, none⟩ = some (.slice a0 c.vars.length c0) := kept_cell hb bx2
  replace bx3 : w4.cell? ⟨w.heap.size, 1, none⟩ = some (.slice a1 c.arrays.length c1) := kept_cell hb bx3
  replace bx4 : w4.cell? ⟨w.heap.size, 2, none⟩ = some (.slice a2 c.list.length c2) := kept_cell hb bx4
  replace tot := btr tot hb
  clear hb
  obtain ⟨p3, q3, p4, q4, p5, q5, rfl, rfl, rfl⟩ := ox.shape
  have iv18 := ox.lt
  have lt19 := lt_of_cell bx2
  have lt20 := lt_of_cell bx3
  have lt21 := lt_of_cell bx4
  go_wp2_with fail
  refine (iRegsUsed_any _ _ _ c _ ((ox.below (bal (bself _) (.cells #[.slice p3 c.vars.length q3, .slice p4 c.arrays.length q4, .slice p5 c.list.length q5] 50))).reads (by omega) (by omega) (by omega))).mono ?_
  rintro e w5 ⟨rfl, hb⟩
  have hsz22 := hb.size
  simp only [World.size_alloc] at hsz22
  replace r0 := (r0.below (bal (bself _) (.cells #[.slice p3 c.vars.length q3, .slice p4 c.arrays.length q4, .slice p5 c.list.length q5] 50))).below hb
  replace bx2 : w5.cell? ⟨w.heap.size, 0, none⟩ = some (.slice a0 c.vars.length c0) := kept_cell hb (cell_al bx2 (.cells #[.slice p3 c.vars.length q3, .slice p4 c.arrays.length q4, .slice p5 c.list.length q5] 50))
  replace bx3 : w5.cell? ⟨w.heap.size, 1, none⟩ = some (.slice a1 c.arrays.length c1) := kept_cell hb (cell_al bx3 (.cells #[.slice p3 c.vars.length q3, .slice p4 c.arrays.length q4, .slice p5 c.list.length q5] 50))
  replace bx4 : w5.cell? ⟨w.heap.size, 2, none⟩ = some (.slice a2 c.list.length c2) := kept_cell hb (cell_al bx4 (.cells #[.slice p3 c.vars.length q3, .slice p4 c.arrays.length q4, .slice p5 c.list.length q5] 50))
  replace ox := (ox.below (bal (bself _) (.cells #[.slice p3 c.vars.length q3, .slice p4 c.arrays.length q4, .slice p5 c.list.length q5] 50))).below hb
  have bx23 : w5.cell? ⟨w4.heap.size, 0, none⟩ = some (.slice p3 c.vars.length q3) := kept_cell hb (cell_nw (by simp) (by rfl))
  have bx24 : w5.cell? ⟨w4.heap.size, 1, none⟩ = some (.slice p4 c.arrays.length q4) := kept_cell hb (cell_nw (by simp) (by rfl))
  have bx25 : w5.cell? ⟨w4.heap.size, 2, none⟩ = some (.slice p5 c.list.length q5) := kept_cell hb (cell_nw (by simp) (by rfl))
  replace tot := btr (bal tot (.cells #[.slice p3 c.vars.length q3, .slice p4 c.arrays.length q4, .slice p5 c.list.length q5] 50)) hb
  clear hb
  have lt26 := lt_of_cell bx2
  have lt27 := lt_of_cell bx3
  have lt28 := lt_of_cell bx4
  have lt29 := lt_of_cell bx23
  have lt30 := lt_of_cell bx24
  have lt31 := lt_of_cell bx25
  have hne : (!(regsUsed c == regsUsed c)) = false := by simp
  go_upto_region 10 with (fail)
  go_cut [26] (fun s wx => s = .bool false ∧ Below w5.heap.size w5 wx)
  case first =>
    clear tot
    go_region_with (first | (go_at_call 33; refine (toCode_any _ _ _ c _ (r0.below (Below.drew (bself w5))) (by omega) (by omega) (by omega)).mono ?_; rintro e wa ⟨ua, ub, uc, rfl, oa, ba⟩; obtain ⟨pa, qa, pb, qb, pc, qc, rfl, rfl, rfl⟩ := oa.shape; have xbx23 := kept_cell (btr (Below.drew (bself w5)) ba) bx23; have xbx24 := kept_cell (btr (Below.drew (bself w5)) ba) bx24; have xbx25 := kept_cell (btr (Below.drew (bself w5)) ba) bx25) | (go_at_call 35; refine (eqCode_any _ _ _ _ _ _ c c _ ((ox.below (btr (Below.drew (bself w5)) ba)).reads (by omega) (by omega) (by omega)) (oa.reads (by omega) (by omega) (by omega))).mono ?_; rintro e wb ⟨rfl, bb⟩))
    all_goals (go_wp2_with fail; go_meet; exact ⟨rfl, btr (btr (Below.drew (bself w5)) ba) bb⟩)
  obtain ⟨w6, rfl⟩ : ∃ W, W = wc := ⟨_, rfl⟩
  obtain ⟨rfl, hb⟩ := hcut
  have hsz32 := hb.size
  replace r0 := r0.below hb
  replace bx2 : w6.cell? ⟨w.heap.size, 0, none⟩ = some (.slice a0 c.vars.length c0) := kept_cell hb bx2
  replace bx3 : w6.cell? ⟨w.heap.size, 1, none⟩ = some (.slice a1 c.arrays.length c1) := kept_cell hb bx3
  replace bx4 : w6.cell? ⟨w.heap.size, 2, none⟩ = some (.slice a2 c.list.length c2) := kept_cell hb bx4
  replace ox := ox.below hb
  replace bx23 : w6.cell? ⟨w4.heap.size, 0, none⟩ = some (.slice p3 c.vars.length q3) := kept_cell hb bx23
  replace bx24 : w6.cell? ⟨w4.heap.size, 1, none⟩ = some (.slice p4 c.arrays.length q4) := kept_cell hb bx24
  replace bx25 : w6.cell? ⟨w4.heap.size, 2, none⟩ = some (.slice p5 c.list.length q5) := kept_cell hb bx25
  replace tot := btr tot hb
  clear hb
  clear ox r0
  go_wp2
  go_ret
  exact ⟨rfl, tot⟩
end Go.Proofs.Ytkbbpnfhenoihaa
