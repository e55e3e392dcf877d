/-
  Parts of the proof of the law FnExactCountBranches.
-/
import Derived.Test.YtbglogjamfdmpaaCO
import Derived.Test.YtbglogjamfdmpaaNG
import Derived.Test.YtbglogjamfdmpaaNP
namespace Go.Proofs.Ytbglogjamfdmpaa
open Go.RowKit

set_option maxHeartbeats 12800000 in
set_option maxRecDepth 100000 in
theorem FnExactCountBranches_walk (va vb vc vx vy : Value) (c : Cd) (m : Mm) (w : World) (r0 : ReadsC w va vb vc c) (rm : ReadsM w vx vy m) :
    Calls Try.prog 3 #[.agg #[va, vb, vc], .agg #[vx, vy]] w fun e w' => e = .returned (.bool true) ∧ Below w.heap.size w w' := by
  obtain ⟨a0, c0, a1, c1, a2, c2, rfl, rfl, rfl⟩ := r0.shape
  obtain ⟨a3, c3, a4, c4, rfl, rfl⟩ := rm.shape
  have hI := fun (va vb vc vx vy : Value) (W : World) h1 h2 h3 h4 h5 => iCount_any va vb vc vx vy c m W h1 h2 h3 h4 h5
  have hS := fun (va vb vc vx vy : Value) (W : World) h1 h2 h3 h4 h5 => sCount_any va vb vc vx vy c m W h1 h2 h3 h4 h5
  generalize cntR c m = R at *
  obtain ⟨rv, ok⟩ := R
  simp only at hI hS
  have HI := Lib.hid hI; have HS := Lib.hid hS; clear hI hS
  have HR0 := Lib.hid (fun W (hW : Below w.heap.size w W) => r0.below hW)
  have HRM := Lib.hid (fun W (hW : Below w.heap.size w W) => rm.below hW)
  clear r0 rm
  have hok : (!(ok == ok)) = false := by simp
  go_enter Try.func3, Try.ntmps3
  go_wp2_with fail
  refine (szCode_any _ _ _ c 1048576 _ (HR0.out _ (bal (bal (bself w) (.cells #[.slice a0 c.vars.length c0, .slice a1 c.arrays.length c1, .slice a2 c.list.length c2] 25)) (.cells #[.slice a3 m.vals.length c3, .slice a4 m.arrs.length c4] 28))) (by omega) (by omega)).mono ?_
  rintro e w1 ⟨rfl, hb⟩
  have hsz1 := hb.size
  simp only [World.size_alloc] at hsz1
  have bx2 : w1.cell? ⟨w.heap.size, 0, none⟩ = some (.slice a0 c.vars.length c0) := kept_cell hb (cell_al (cell_nw (by simp) (by rfl)) _)
  have bx3 : w1.cell? ⟨w.heap.size, 1, none⟩ = some (.slice a1 c.arrays.length c1) := kept_cell hb (cell_al (cell_nw (by simp) (by rfl)) _)
  have bx4 : w1.cell? ⟨w.heap.size, 2, none⟩ = some (.slice a2 c.list.length c2) := kept_cell hb (cell_al (cell_nw (by simp) (by rfl)) _)
  have bx5 : w1.cell? ⟨w.heap.size + 1, 0, none⟩ = some (.slice a3 m.vals.length c3) := kept_cell hb (cell_nw (by simp) (by rfl))
  have bx6 : w1.cell? ⟨w.heap.size + 1, 1, none⟩ = some (.slice a4 m.arrs.length c4) := kept_cell hb (cell_nw (by simp) (by rfl))
  have tot := btr (bal (bal (bself w) (.cells #[.slice a0 c.vars.length c0, .slice a1 c.arrays.length c1, .slice a2 c.list.length c2] 25)) (.cells #[.slice a3 m.vals.length c3, .slice a4 m.arrs.length c4] 28)) hb
  clear hb
  have lt7 := lt_of_cell bx2
  have lt8 := lt_of_cell bx5
  by_cases hl : (1048576 : Int) < (c.vars.length + c.arrays.length + c.list.length : Nat)
  · rw [if_pos hl]
    clear hl
    have tt := tot
    go_wp2
    go_ret
    exact ⟨rfl, tt⟩
  rw [if_neg hl]
  have hnn : ¬ (1048576 : Int) - (c.vars.length + c.arrays.length + c.list.length : Nat) < 0 := by omega
  have hv : c.vars.length ≤ 1048576 := by omega
  have ha : c.arrays.length ≤ 1048576 := by omega
  have hc : c.list.length ≤ 1048576 := by omega
  clear lt7 lt8
  have lt9 := lt_of_cell bx2
  have lt10 := lt_of_cell bx5
  go_wp2_with fail
  refine (szMemory_any _ _ m (1048576 - (c.vars.length + c.arrays.length + c.list.length : Nat)) _ (HRM.out _ tot) (by omega) (by omega)).mono ?_
  rintro e w2 ⟨rsz, rfl, hrsz, hb⟩
  have hsz11 := hb.size
  replace bx2 : w2.cell? ⟨w.heap.size, 0, none⟩ = some (.slice a0 c.vars.length c0) := kept_cell hb bx2
  replace bx3 : w2.cell? ⟨w.heap.size, 1, none⟩ = some (.slice a1 c.arrays.length c1) := kept_cell hb bx3
  replace bx4 : w2.cell? ⟨w.heap.size, 2, none⟩ = some (.slice a2 c.list.length c2) := kept_cell hb bx4
  replace bx5 : w2.cell? ⟨w.heap.size + 1, 0, none⟩ = some (.slice a3 m.vals.length c3) := kept_cell hb bx5
  replace bx6 : w2.cell? ⟨w.heap.size + 1, 1, none⟩ = some (.slice a4 m.arrs.length c4) := kept_cell hb bx6
  replace tot := btr tot hb
  clear hb
  clear lt9 lt10
  have lt12 := lt_of_cell bx2
  have lt13 := lt_of_cell bx5
  rcases hrsz with rfl | ⟨hrsz0, hrsz⟩
  · clear hl
    have tt := tot
    go_wp2
    go_ret
    exact ⟨rfl, tt⟩
  have hn1 : ¬ rsz < 0 := by omega
  have hm1 : m.vals.length ≤ 1048576 := by omega
  have hm2 : m.arrs.length ≤ 1048576 := by omega
  have hm3 : pre2 m.arrs m.arrs.length ≤ 1048576 := by omega
  clear hrsz hl
  clear lt12 lt13
  have lt14 := lt_of_cell bx2
  have lt15 := lt_of_cell bx5
  go_upto_region 8 with (fail)
  clear lt14 lt15
  have lt16 := lt_of_cell bx2
  have lt17 := lt_of_cell bx5
  refine wp_region_noPanic ?_
  refine wp_region_held_drew (S := (fun W' => W'.cell? ⟨w.heap.size, 0, none⟩ = some (.slice a0 c.vars.length c0) ∧ W'.cell? ⟨w.heap.size, 1, none⟩ = some (.slice a1 c.arrays.length c1) ∧ W'.cell? ⟨w.heap.size, 2, none⟩ = some (.slice a2 c.list.length c2) ∧ W'.cell? ⟨w.heap.size + 1, 0, none⟩ = some (.slice a3 m.vals.length c3) ∧ W'.cell? ⟨w.heap.size + 1, 1, none⟩ = some (.slice a4 m.arrs.length c4))) (by kernel_rfl) ⟨kept_cell (Below.drew (bself w2)) bx2, kept_cell (Below.drew (bself w2)) bx3, kept_cell (Below.drew (bself w2)) bx4, kept_cell (Below.drew (bself w2)) bx5, kept_cell (Below.drew (bself w2)) bx6⟩ (fun hHeld => ?_)
  obtain ⟨w3, hwd⟩ : ∃ X, X = World.drew w2 := ⟨_, rfl⟩
  rw [← hwd] at hHeld ⊢
  have hb : Below w2.heap.size w2 w3 := by rw [hwd]; exact Below.drew (bself _)
  clear hwd
  have hsz18 := hb.size
  replace bx2 : w3.cell? ⟨w.heap.size, 0, none⟩ = some (.slice a0 c.vars.length c0) := kept_cell hb bx2
  replace bx3 : w3.cell? ⟨w.heap.size, 1, none⟩ = some (.slice a1 c.arrays.length c1) := kept_cell hb bx3
  replace bx4 : w3.cell? ⟨w.heap.size, 2, none⟩ = some (.slice a2 c.list.length c2) := kept_cell hb bx4
  replace bx5 : w3.cell? ⟨w.heap.size + 1, 0, none⟩ = some (.slice a3 m.vals.length c3) := kept_cell hb bx5
  replace bx6 : w3.cell? ⟨w.heap.size + 1, 1, none⟩ = some (.slice a4 m.arrs.length c4) := kept_cell hb bx6
  replace tot := btr tot hb
  clear hb
  clear lt16 lt17
  have lt19 := lt_of_cell bx2
  have lt20 := lt_of_cell bx5
  refine take_d (i := 0) (d := 23) (v := ?_) rfl rfl (by kernel_rfl) (by kernel_rfl) (by kernel_rfl) (fun _ _ _ h => h) (Or.inl ⟨by rfl, ?_⟩) (by assumption) ?_
  rotate_left
  · intro W' hSw; (try dsimp only at hSw); obtain ⟨s0, s1, s2, s3, s4⟩ := hSw; go_simp; try with_reducible rfl
  try simp only [Act.put, List.setIfInBounds_toArray, List.set]
  refine take_d (i := 2) (d := 25) (v := ?_) rfl rfl (by kernel_rfl) (by kernel_rfl) (by kernel_rfl) (fun _ _ _ h => h) (Or.inl ⟨by rfl, ?_⟩) (by assumption) ?_
  rotate_left
  · intro W' hSw; (try dsimp only at hSw); obtain ⟨s0, s1, s2, s3, s4⟩ := hSw; go_simp; try with_reducible rfl
  try simp only [Act.put, List.setIfInBounds_toArray, List.set]
  refine wpAnyH_ready (rs := [1]) (by kernel_rfl) (by simp) ?_
  refine AllReadyH.cons rfl (fun K hK => ?_) AllReadyH.nil
  go_simp
  refine (toCode_any _ _ _ c _ (HR0.out _ tot) (by omega) (by omega) (by omega)).mono ?_
  rintro e w4 ⟨ua, ub, uc, rfl, oc1, hb⟩
  obtain ⟨pa1, qa1, pb1, qb1, pc1, qc1, rfl, rfl, rfl⟩ := oc1.shape
  have hsz21 := hb.size
  replace bx2 : w4.cell? ⟨w.heap.size, 0, none⟩ = some (.slice a0 c.vars.length c0) := kept_cell hb bx2
  replace bx3 : w4.cell? ⟨w.heap.size, 1, none⟩ = some (.slice a1 c.arrays.length c1) := kept_cell hb bx3
  replace bx4 : w4.cell? ⟨w.heap.size, 2, none⟩ = some (.slice a2 c.list.length c2) := kept_cell hb bx4
  replace bx5 : w4.cell? ⟨w.heap.size + 1, 0, none⟩ = some (.slice a3 m.vals.length c3) := kept_cell hb bx5
  replace bx6 : w4.cell? ⟨w.heap.size + 1, 1, none⟩ = some (.slice a4 m.arrs.length c4) := kept_cell hb bx6
  replace tot := btr tot hb
  clear hb
  have iv22 := oc1.lt
  clear lt19 lt20
  have lt23 := lt_of_cell bx2
  have lt24 := lt_of_cell bx5
  refine hK.out _ _ ⟨bx2, bx3, bx4, bx5, bx6⟩ (fun hHeld => ?_)
  clear hK K
  try simp only [Act.put, List.setIfInBounds_toArray, List.set]
  refine wpAnyH_ready (rs := [3]) (by kernel_rfl) (by simp) ?_
  refine AllReadyH.cons rfl (fun K hK => ?_) AllReadyH.nil
  go_simp
  refine (toMemory_any _ _ m _ (HRM.out _ tot) (by omega) (by omega) (by omega)).mono ?_
  rintro e w5 ⟨ux, uy, us2, rfl, om2, hb⟩
  obtain ⟨px2, qx2, py2, qy2, rfl, rfl⟩ := om2.shape
  have hsz25 := hb.size
  replace bx2 : w5.cell? ⟨w.heap.size, 0, none⟩ = some (.slice a0 c.vars.length c0) := kept_cell hb bx2
  replace bx3 : w5.cell? ⟨w.heap.size, 1, none⟩ = some (.slice a1 c.arrays.length c1) := kept_cell hb bx3
  replace bx4 : w5.cell? ⟨w.heap.size, 2, none⟩ = some (.slice a2 c.list.length c2) := kept_cell hb bx4
  replace bx5 : w5.cell? ⟨w.heap.size + 1, 0, none⟩ = some (.slice a3 m.vals.length c3) := kept_cell hb bx5
  replace bx6 : w5.cell? ⟨w.heap.size + 1, 1, none⟩ = some (.slice a4 m.arrs.length c4) := kept_cell hb bx6
  replace oc1 := oc1.below hb
  replace tot := btr tot hb
  clear hb
  have iv26 := om2.lt
  clear lt23 lt24
  have lt27 := lt_of_cell bx2
  have lt28 := lt_of_cell bx5
  refine hK.out _ _ ⟨bx2, bx3, bx4, bx5, bx6⟩ (fun hHeld => ?_)
  clear hK K
  try simp only [Act.put, List.setIfInBounds_toArray, List.set]
  refine wpAnyH_ready (rs := [4]) (by kernel_rfl) (by simp) ?_
  refine AllReadyH.cons rfl (fun K hK => ?_) AllReadyH.nil
  go_simp
  refine (HS.out _ _ _ _ _ _ (oc1.reads (by omega) (by omega) (by omega)) (om2.reads (by omega) (by omega) (by omega)) hm1 hm2 hm3).mono ?_
  rintro e w6 ⟨rfl, hb⟩
  have hsz29 := hb.size
  replace bx2 : w6.cell? ⟨w.heap.size, 0, none⟩ = some (.slice a0 c.vars.length c0) := kept_cell hb bx2
  replace bx3 : w6.cell? ⟨w.heap.size, 1, none⟩ = some (.slice a1 c.arrays.length c1) := kept_cell hb bx3
  replace bx4 : w6.cell? ⟨w.heap.size, 2, none⟩ = some (.slice a2 c.list.length c2) := kept_cell hb bx4
  replace bx5 : w6.cell? ⟨w.heap.size + 1, 0, none⟩ = some (.slice a3 m.vals.length c3) := kept_cell hb bx5
  replace bx6 : w6.cell? ⟨w.heap.size + 1, 1, none⟩ = some (.slice a4 m.arrs.length c4) := kept_cell hb bx6
  replace oc1 := oc1.below hb
  replace om2 := om2.below hb
  replace tot := btr tot hb
  clear hb
  clear lt27 lt28
  have lt30 := lt_of_cell bx2
  have lt31 := lt_of_cell bx5
  refine hK.out _ _ ⟨bx2, bx3, bx4, bx5, bx6⟩ (fun hHeld => ?_)
  clear hK K
  try simp only [Act.put, List.setIfInBounds_toArray, List.set]
  refine take_d (i := 5) (d := 22) (v := ?_) rfl rfl (by kernel_rfl) (by kernel_rfl) (by kernel_rfl) (fun _ _ _ h => h) (Or.inl ⟨by rfl, ?_⟩) (by assumption) ?_
  rotate_left
  · intro W' hSw; (try dsimp only at hSw); obtain ⟨s0, s1, s2, s3, s4⟩ := hSw; go_simp; try with_reducible rfl
  try simp only [Act.put, List.setIfInBounds_toArray, List.set]
  refine take_d (i := 6) (d := 28) (v := ?_) rfl rfl (by kernel_rfl) (by kernel_rfl) (by kernel_rfl) (fun _ _ _ h => h) (Or.inl ⟨by rfl, ?_⟩) (by assumption) ?_
  rotate_left
  · intro W' hSw; (try dsimp only at hSw); obtain ⟨s0, s1, s2, s3, s4⟩ := hSw; go_simp; try with_reducible rfl
  try simp only [Act.put, List.setIfInBounds_toArray, List.set]
  refine take_d (i := 7) (d := 29) (v := ?_) rfl rfl (by kernel_rfl) (by kernel_rfl) (by kernel_rfl) (fun _ _ _ h => h) (Or.inl ⟨by rfl, ?_⟩) (by assumption) ?_
  rotate_left
  · intro W' hSw; (try dsimp only at hSw); obtain ⟨s0, s1, s2, s3, s4⟩ := hSw; go_simp; try with_reducible rfl
  try simp only [Act.put, List.setIfInBounds_toArray, List.set]
  refine take_d (i := 8) (d := 6) (v := ?_) rfl rfl (by kernel_rfl) (by kernel_rfl) (by kernel_rfl) (fun _ _ _ h => h) (Or.inl ⟨by rfl, ?_⟩) (by assumption) ?_
  rotate_left
  · intro W' hSw; (try dsimp only at hSw); obtain ⟨s0, s1, s2, s3, s4⟩ := hSw; go_simp; try with_reducible rfl
  try simp only [Act.put, List.setIfInBounds_toArray, List.set]
  refine take_d (i := 9) (d := 7) (v := ?_) rfl rfl (by kernel_rfl) (by kernel_rfl) (by kernel_rfl) (fun _ _ _ h => h) (Or.inl ⟨by rfl, ?_⟩) (by assumption) ?_
  rotate_left
  · intro W' hSw; (try dsimp only at hSw); obtain ⟨s0, s1, s2, s3, s4⟩ := hSw; go_simp; try with_reducible rfl
  try simp only [Act.put, List.setIfInBounds_toArray, List.set]
  refine wpAnyH_done (by kernel_rfl) ?_ _
  refine NoPanic.normal ?_
  clear hHeld
  go_wp2_with fail
  refine (toCode_any _ _ _ c _ (HR0.out _ tot) (by omega) (by omega) (by omega)).mono ?_
  rintro e w7 ⟨ua, ub, uc, rfl, oc3, hb⟩
  obtain ⟨pa3, qa3, pb3, qb3, pc3, qc3, rfl, rfl, rfl⟩ := oc3.shape
  have hsz32 := hb.size
  replace bx2 : w7.cell? ⟨w.heap.size, 0, none⟩ = some (.slice a0 c.vars.length c0) := kept_cell hb bx2
  replace bx3 : w7.cell? ⟨w.heap.size, 1, none⟩ = some (.slice a1 c.arrays.length c1) := kept_cell hb bx3
  replace bx4 : w7.cell? ⟨w.heap.size, 2, none⟩ = some (.slice a2 c.list.length c2) := kept_cell hb bx4
  replace bx5 : w7.cell? ⟨w.heap.size + 1, 0, none⟩ = some (.slice a3 m.vals.length c3) := kept_cell hb bx5
  replace bx6 : w7.cell? ⟨w.heap.size + 1, 1, none⟩ = some (.slice a4 m.arrs.length c4) := kept_cell hb bx6
  replace oc1 := oc1.below hb
  replace om2 := om2.below hb
  replace tot := btr tot hb
  clear hb
  have iv33 := oc3.lt
  clear lt30 lt31
  have lt34 := lt_of_cell bx2
  have lt35 := lt_of_cell bx5
  go_wp2_with fail
  refine (toMemory_any _ _ m _ (HRM.out _ (bal tot (.cells #[.slice pa3 c.vars.length qa3, .slice pb3 c.arrays.length qb3, .slice pc3 c.list.length qc3] 35))) (by omega) (by omega) (by omega)).mono ?_
  rintro e w8 ⟨ux, uy, us4, rfl, om4, hb⟩
  obtain ⟨px4, qx4, py4, qy4, rfl, rfl⟩ := om4.shape
  have hsz36 := hb.size
  simp only [World.size_alloc] at hsz36
  replace bx2 : w8.cell? ⟨w.heap.size, 0, none⟩ = some (.slice a0 c.vars.length c0) := kept_cell hb (cell_al bx2 (.cells #[.slice pa3 c.vars.length qa3, .slice pb3 c.arrays.length qb3, .slice pc3 c.list.length qc3] 35))
  replace bx3 : w8.cell? ⟨w.heap.size, 1, none⟩ = some (.slice a1 c.arrays.length c1) := kept_cell hb (cell_al bx3 (.cells #[.slice pa3 c.vars.length qa3, .slice pb3 c.arrays.length qb3, .slice pc3 c.list.length qc3] 35))
  replace bx4 : w8.cell? ⟨w.heap.size, 2, none⟩ = some (.slice a2 c.list.length c2) := kept_cell hb (cell_al bx4 (.cells #[.slice pa3 c.vars.length qa3, .slice pb3 c.arrays.length qb3, .slice pc3 c.list.length qc3] 35))
  replace bx5 : w8.cell? ⟨w.heap.size + 1, 0, none⟩ = some (.slice a3 m.vals.length c3) := kept_cell hb (cell_al bx5 (.cells #[.slice pa3 c.vars.length qa3, .slice pb3 c.arrays.length qb3, .slice pc3 c.list.length qc3] 35))
  replace bx6 : w8.cell? ⟨w.heap.size + 1, 1, none⟩ = some (.slice a4 m.arrs.length c4) := kept_cell hb (cell_al bx6 (.cells #[.slice pa3 c.vars.length qa3, .slice pb3 c.arrays.length qb3, .slice pc3 c.list.length qc3] 35))
  replace oc1 := (oc1.below (bal (bself _) (.cells #[.slice pa3 c.vars.length qa3, .slice pb3 c.arrays.length qb3, .slice pc3 c.list.length qc3] 35))).below hb
  replace om2 := (om2.below (bal (bself _) (.cells #[.slice pa3 c.vars.length qa3, .slice pb3 c.arrays.length qb3, .slice pc3 c.list.length qc3] 35))).below hb
  replace oc3 := (oc3.below (bal (bself _) (.cells #[.slice pa3 c.vars.length qa3, .slice pb3 c.arrays.length qb3, .slice pc3 c.list.length qc3] 35))).below hb
  have bx37 : w8.cell? ⟨w7.heap.size, 0, none⟩ = some (.slice pa3 c.vars.length qa3) := kept_cell hb (cell_nw (by simp) (by rfl))
  have bf38 : w8.frozen? ⟨w7.heap.size, 0, none⟩ = false := kept_froz hb (by simp) (froz_nw (by simp))
  have bx39 : w8.cell? ⟨w7.heap.size, 1, none⟩ = some (.slice pb3 c.arrays.length qb3) := kept_cell hb (cell_nw (by simp) (by rfl))
  have bf40 : w8.frozen? ⟨w7.heap.size, 1, none⟩ = false := kept_froz hb (by simp) (froz_nw (by simp))
  have bx41 : w8.cell? ⟨w7.heap.size, 2, none⟩ = some (.slice pc3 c.list.length qc3) := kept_cell hb (cell_nw (by simp) (by rfl))
  have bf42 : w8.frozen? ⟨w7.heap.size, 2, none⟩ = false := kept_froz hb (by simp) (froz_nw (by simp))
  replace tot := btr (bal tot (.cells #[.slice pa3 c.vars.length qa3, .slice pb3 c.arrays.length qb3, .slice pc3 c.list.length qc3] 35)) hb
  clear hb
  have iv43 := om4.lt
  try simp only [World.size_alloc] at iv43
  clear lt34 lt35
  have lt44 := lt_of_cell bx2
  have lt45 := lt_of_cell bx5
  have lt46 := lt_of_cell bx37
  go_wp2_with fail
  refine (HI.out _ _ _ _ _ _ ((oc3.below (bal (bself _) (.cells #[.slice px4 m.vals.length qx4, .slice py4 m.arrs.length qy4] 37))).reads (by omega) (by omega) (by omega)) ((om4.below (bal (bself _) (.cells #[.slice px4 m.vals.length qx4, .slice py4 m.arrs.length qy4] 37))).reads (by omega) (by omega) (by omega)) hm1 hm2 hm3).mono ?_
  rintro e w9 ⟨rfl, hb⟩
  have hsz47 := hb.size
  simp only [World.size_alloc] at hsz47
  replace bf38 := kept_froz hb (lt_of_cell (cell_al bx37 (.cells #[.slice px4 m.vals.length qx4, .slice py4 m.arrs.length qy4] 37))) (froz_al (lt_of_cell bx37) bf38 (.cells #[.slice px4 m.vals.length qx4, .slice py4 m.arrs.length qy4] 37))
  replace bf40 := kept_froz hb (lt_of_cell (cell_al bx39 (.cells #[.slice px4 m.vals.length qx4, .slice py4 m.arrs.length qy4] 37))) (froz_al (lt_of_cell bx39) bf40 (.cells #[.slice px4 m.vals.length qx4, .slice py4 m.arrs.length qy4] 37))
  replace bf42 := kept_froz hb (lt_of_cell (cell_al bx41 (.cells #[.slice px4 m.vals.length qx4, .slice py4 m.arrs.length qy4] 37))) (froz_al (lt_of_cell bx41) bf42 (.cells #[.slice px4 m.vals.length qx4, .slice py4 m.arrs.length qy4] 37))
  replace bx2 : w9.cell? ⟨w.heap.size, 0, none⟩ = some (.slice a0 c.vars.length c0) := kept_cell hb (cell_al bx2 (.cells #[.slice px4 m.vals.length qx4, .slice py4 m.arrs.length qy4] 37))
  replace bx3 : w9.cell? ⟨w.heap.size, 1, none⟩ = some (.slice a1 c.arrays.length c1) := kept_cell hb (cell_al bx3 (.cells #[.slice px4 m.vals.length qx4, .slice py4 m.arrs.length qy4] 37))
  replace bx4 : w9.cell? ⟨w.heap.size, 2, none⟩ = some (.slice a2 c.list.length c2) := kept_cell hb (cell_al bx4 (.cells #[.slice px4 m.vals.length qx4, .slice py4 m.arrs.length qy4] 37))
  replace bx5 : w9.cell? ⟨w.heap.size + 1, 0, none⟩ = some (.slice a3 m.vals.length c3) := kept_cell hb (cell_al bx5 (.cells #[.slice px4 m.vals.length qx4, .slice py4 m.arrs.length qy4] 37))
  replace bx6 : w9.cell? ⟨w.heap.size + 1, 1, none⟩ = some (.slice a4 m.arrs.length c4) := kept_cell hb (cell_al bx6 (.cells #[.slice px4 m.vals.length qx4, .slice py4 m.arrs.length qy4] 37))
  replace oc1 := (oc1.below (bal (bself _) (.cells #[.slice px4 m.vals.length qx4, .slice py4 m.arrs.length qy4] 37))).below hb
  replace om2 := (om2.below (bal (bself _) (.cells #[.slice px4 m.vals.length qx4, .slice py4 m.arrs.length qy4] 37))).below hb
  replace oc3 := (oc3.below (bal (bself _) (.cells #[.slice px4 m.vals.length qx4, .slice py4 m.arrs.length qy4] 37))).below hb
  replace bx37 : w9.cell? ⟨w7.heap.size, 0, none⟩ = some (.slice pa3 c.vars.length qa3) := kept_cell hb (cell_al bx37 (.cells #[.slice px4 m.vals.length qx4, .slice py4 m.arrs.length qy4] 37))
  replace bx39 : w9.cell? ⟨w7.heap.size, 1, none⟩ = some (.slice pb3 c.arrays.length qb3) := kept_cell hb (cell_al bx39 (.cells #[.slice px4 m.vals.length qx4, .slice py4 m.arrs.length qy4] 37))
  replace bx41 : w9.cell? ⟨w7.heap.size, 2, none⟩ = some (.slice pc3 c.list.length qc3) := kept_cell hb (cell_al bx41 (.cells #[.slice px4 m.vals.length qx4, .slice py4 m.arrs.length qy4] 37))
  replace om4 := (om4.below (bal (bself _) (.cells #[.slice px4 m.vals.length qx4, .slice py4 m.arrs.length qy4] 37))).below hb
  have bx48 : w9.cell? ⟨w8.heap.size, 0, none⟩ = some (.slice px4 m.vals.length qx4) := kept_cell hb (cell_nw (by simp) (by rfl))
  have bf49 : w9.frozen? ⟨w8.heap.size, 0, none⟩ = false := kept_froz hb (by simp) (froz_nw (by simp))
  have bx50 : w9.cell? ⟨w8.heap.size, 1, none⟩ = some (.slice py4 m.arrs.length qy4) := kept_cell hb (cell_nw (by simp) (by rfl))
  have bf51 : w9.frozen? ⟨w8.heap.size, 1, none⟩ = false := kept_froz hb (by simp) (froz_nw (by simp))
  replace tot := btr (bal tot (.cells #[.slice px4 m.vals.length qx4, .slice py4 m.arrs.length qy4] 37)) hb
  clear hb
  clear lt44 lt45 lt46
  have lt52 := lt_of_cell bx2
  have lt53 := lt_of_cell bx5
  have lt54 := lt_of_cell bx37
  have lt55 := lt_of_cell bx48
  go_upto_region 14 with (fail)
  clear lt52 lt53 lt54 lt55
  have lt56 := lt_of_cell bx2
  have lt57 := lt_of_cell bx5
  have lt58 := lt_of_cell bx37
  have lt59 := lt_of_cell bx48
  refine wp_region_noPanic ?_
  refine wp_region_held_drew (S := (fun W' => W'.cell? ⟨w7.heap.size, 0, none⟩ = some (.slice pa3 c.vars.length qa3) ∧ W'.cell? ⟨w7.heap.size, 1, none⟩ = some (.slice pb3 c.arrays.length qb3) ∧ W'.cell? ⟨w7.heap.size, 2, none⟩ = some (.slice pc3 c.list.length qc3) ∧ W'.cell? ⟨w.heap.size, 0, none⟩ = some (.slice a0 c.vars.length c0) ∧ W'.cell? ⟨w.heap.size, 1, none⟩ = some (.slice a1 c.arrays.length c1) ∧ W'.cell? ⟨w.heap.size, 2, none⟩ = some (.slice a2 c.list.length c2))) (by kernel_rfl) ⟨kept_cell (Below.drew (bself w9)) bx37, kept_cell (Below.drew (bself w9)) bx39, kept_cell (Below.drew (bself w9)) bx41, kept_cell (Below.drew (bself w9)) bx2, kept_cell (Below.drew (bself w9)) bx3, kept_cell (Below.drew (bself w9)) bx4⟩ (fun hHeld => ?_)
  obtain ⟨w10, hwd⟩ : ∃ X, X = World.drew w9 := ⟨_, rfl⟩
  rw [← hwd] at hHeld ⊢
  have hb : Below w9.heap.size w9 w10 := by rw [hwd]; exact Below.drew (bself _)
  clear hwd
  have hsz60 := hb.size
  replace bf38 := kept_froz hb (lt_of_cell bx37) bf38
  replace bf40 := kept_froz hb (lt_of_cell bx39) bf40
  replace bf42 := kept_froz hb (lt_of_cell bx41) bf42
  replace bf49 := kept_froz hb (lt_of_cell bx48) bf49
  replace bf51 := kept_froz hb (lt_of_cell bx50) bf51
  replace bx2 : w10.cell? ⟨w.heap.size, 0, none⟩ = some (.slice a0 c.vars.length c0) := kept_cell hb bx2
  replace bx3 : w10.cell? ⟨w.heap.size, 1, none⟩ = some (.slice a1 c.arrays.length c1) := kept_cell hb bx3
  replace bx4 : w10.cell? ⟨w.heap.size, 2, none⟩ = some (.slice a2 c.list.length c2) := kept_cell hb bx4
  replace bx5 : w10.cell? ⟨w.heap.size + 1, 0, none⟩ = some (.slice a3 m.vals.length c3) := kept_cell hb bx5
  replace bx6 : w10.cell? ⟨w.heap.size + 1, 1, none⟩ = some (.slice a4 m.arrs.length c4) := kept_cell hb bx6
  replace oc1 := oc1.below hb
  replace om2 := om2.below hb
  replace oc3 := oc3.below hb
  replace bx37 : w10.cell? ⟨w7.heap.size, 0, none⟩ = some (.slice pa3 c.vars.length qa3) := kept_cell hb bx37
  replace bx39 : w10.cell? ⟨w7.heap.size, 1, none⟩ = some (.slice pb3 c.arrays.length qb3) := kept_cell hb bx39
  replace bx41 : w10.cell? ⟨w7.heap.size, 2, none⟩ = some (.slice pc3 c.list.length qc3) := kept_cell hb bx41
  replace om4 := om4.below hb
  replace bx48 : w10.cell? ⟨w8.heap.size, 0, none⟩ = some (.slice px4 m.vals.length qx4) := kept_cell hb bx48
  replace bx50 : w10.cell? ⟨w8.heap.size, 1, none⟩ = some (.slice py4 m.arrs.length qy4) := kept_cell hb bx50
  replace tot := btr tot hb
  clear hb
  clear lt56 lt57 lt58 lt59
  have lt61 := lt_of_cell bx2
  have lt62 := lt_of_cell bx5
  have lt63 := lt_of_cell bx37
  have lt64 := lt_of_cell bx48
  refine take_d (i := 0) (d := 48) (v := ?_) rfl rfl (by kernel_rfl) (by kernel_rfl) (by kernel_rfl) (fun _ _ _ h => h) (Or.inl ⟨by rfl, ?_⟩) (by assumption) ?_
  rotate_left
  · intro W' hSw; (try dsimp only at hSw); obtain ⟨s0, s1, s2, s3, s4, s5⟩ := hSw; go_simp; try with_reducible rfl
  try simp only [Act.put, List.setIfInBounds_toArray, List.set]
  refine take_d (i := 1) (d := 49) (v := ?_) rfl rfl (by kernel_rfl) (by kernel_rfl) (by kernel_rfl) (fun _ _ _ h => h) (Or.inl ⟨by rfl, ?_⟩) (by assumption) ?_
  rotate_left
  · intro W' hSw; (try dsimp only at hSw); obtain ⟨s0, s1, s2, s3, s4, s5⟩ := hSw; go_simp; try with_reducible rfl
  try simp only [Act.put, List.setIfInBounds_toArray, List.set]
  refine wpAnyH_ready (rs := [2]) (by kernel_rfl) (by simp) ?_
  refine AllReadyH.cons rfl (fun K hK => ?_) AllReadyH.nil
  go_simp
  refine (toCode_any _ _ _ c _ (HR0.out _ tot) (by omega) (by omega) (by omega)).mono ?_
  rintro e w11 ⟨ua, ub, uc, rfl, oc5, hb⟩
  obtain ⟨pa5, qa5, pb5, qb5, pc5, qc5, rfl, rfl, rfl⟩ := oc5.shape
  have hsz65 := hb.size
  replace bf38 := kept_froz hb (lt_of_cell bx37) bf38
  replace bf40 := kept_froz hb (lt_of_cell bx39) bf40
  replace bf42 := kept_froz hb (lt_of_cell bx41) bf42
  replace bf49 := kept_froz hb (lt_of_cell bx48) bf49
  replace bf51 := kept_froz hb (lt_of_cell bx50) bf51
  replace bx2 : w11.cell? ⟨w.heap.size, 0, none⟩ = some (.slice a0 c.vars.length c0) := kept_cell hb bx2
  replace bx3 : w11.cell? ⟨w.heap.size, 1, none⟩ = some (.slice a1 c.arrays.length c1) := kept_cell hb bx3
  replace bx4 : w11.cell? ⟨w.heap.size, 2, none⟩ = some (.slice a2 c.list.length c2) := kept_cell hb bx4
  replace bx5 : w11.cell? ⟨w.heap.size + 1, 0, none⟩ = some (.slice a3 m.vals.length c3) := kept_cell hb bx5
  replace bx6 : w11.cell? ⟨w.heap.size + 1, 1, none⟩ = some (.slice a4 m.arrs.length c4) := kept_cell hb bx6
  replace oc1 := oc1.below hb
  replace om2 := om2.below hb
  replace oc3 := oc3.below hb
  replace bx37 : w11.cell? ⟨w7.heap.size, 0, none⟩ = some (.slice pa3 c.vars.length qa3) := kept_cell hb bx37
  replace bx39 : w11.cell? ⟨w7.heap.size, 1, none⟩ = some (.slice pb3 c.arrays.length qb3) := kept_cell hb bx39
  replace bx41 : w11.cell? ⟨w7.heap.size, 2, none⟩ = some (.slice pc3 c.list.length qc3) := kept_cell hb bx41
  replace om4 := om4.below hb
  replace bx48 : w11.cell? ⟨w8.heap.size, 0, none⟩ = some (.slice px4 m.vals.length qx4) := kept_cell hb bx48
  replace bx50 : w11.cell? ⟨w8.heap.size, 1, none⟩ = some (.slice py4 m.arrs.length qy4) := kept_cell hb bx50
  replace tot := btr tot hb
  clear hb
  have iv66 := oc5.lt
  clear lt61 lt62 lt63 lt64
  have lt67 := lt_of_cell bx2
  have lt68 := lt_of_cell bx5
  have lt69 := lt_of_cell bx37
  have lt70 := lt_of_cell bx48
  refine hK.out _ _ ⟨bx37, bx39, bx41, bx2, bx3, bx4⟩ (fun hHeld => ?_)
  clear hK K
  try simp only [Act.put, List.setIfInBounds_toArray, List.set]
  refine wpAnyH_ready (rs := [3]) (by kernel_rfl) (by simp) ?_
  refine AllReadyH.cons rfl (fun K hK => ?_) AllReadyH.nil
  go_simp
  refine (eqCode_any _ _ _ _ _ _ c c _ (oc3.reads (by omega) (by omega) (by omega)) (oc5.reads (by omega) (by omega) (by omega))).mono ?_
  rintro e w12 ⟨rfl, hb⟩
  rw [decide_eq_true (Eq.refl c)]
  have hsz71 := hb.size
  replace bf38 := kept_froz hb (lt_of_cell bx37) bf38
  replace bf40 := kept_froz hb (lt_of_cell bx39) bf40
  replace bf42 := kept_froz hb (lt_of_cell bx41) bf42
  replace bf49 := kept_froz hb (lt_of_cell bx48) bf49
  replace bf51 := kept_froz hb (lt_of_cell bx50) bf51
  replace bx2 : w12.cell? ⟨w.heap.size, 0, none⟩ = some (.slice a0 c.vars.length c0) := kept_cell hb bx2
  replace bx3 : w12.cell? ⟨w.heap.size, 1, none⟩ = some (.slice a1 c.arrays.length c1) := kept_cell hb bx3
  replace bx4 : w12.cell? ⟨w.heap.size, 2, none⟩ = some (.slice a2 c.list.length c2) := kept_cell hb bx4
  replace bx5 : w12.cell? ⟨w.heap.size + 1, 0, none⟩ = some (.slice a3 m.vals.length c3) := kept_cell hb bx5
  replace bx6 : w12.cell? ⟨w.heap.size + 1, 1, none⟩ = some (.slice a4 m.arrs.length c4) := kept_cell hb bx6
  replace oc1 := oc1.below hb
  replace om2 := om2.below hb
  replace oc3 := oc3.below hb
  replace bx37 : w12.cell? ⟨w7.heap.size, 0, none⟩ = some (.slice pa3 c.vars.length qa3) := kept_cell hb bx37
  replace bx39 : w12.cell? ⟨w7.heap.size, 1, none⟩ = some (.slice pb3 c.arrays.length qb3) := kept_cell hb bx39
  replace bx41 : w12.cell? ⟨w7.heap.size, 2, none⟩ = some (.slice pc3 c.list.length qc3) := kept_cell hb bx41
  replace om4 := om4.below hb
  replace bx48 : w12.cell? ⟨w8.heap.size, 0, none⟩ = some (.slice px4 m.vals.length qx4) := kept_cell hb bx48
  replace bx50 : w12.cell? ⟨w8.heap.size, 1, none⟩ = some (.slice py4 m.arrs.length qy4) := kept_cell hb bx50
  replace oc5 := oc5.below hb
  replace tot := btr tot hb
  clear hb
  clear lt67 lt68 lt69 lt70
  have lt72 := lt_of_cell bx2
  have lt73 := lt_of_cell bx5
  have lt74 := lt_of_cell bx37
  have lt75 := lt_of_cell bx48
  refine hK.out _ _ ⟨bx37, bx39, bx41, bx2, bx3, bx4⟩ (fun hHeld => ?_)
  clear hK K
  try simp only [Act.put, List.setIfInBounds_toArray, List.set]
  refine take_d (i := 4) (d := 52) (v := ?_) rfl rfl (by kernel_rfl) (by kernel_rfl) (by kernel_rfl) (fun _ _ _ h => h) (Or.inl ⟨by rfl, ?_⟩) (by assumption) ?_
  rotate_left
  · intro W' hSw; (try dsimp only at hSw); obtain ⟨s0, s1, s2, s3, s4, s5⟩ := hSw; go_simp; try with_reducible rfl
  try simp only [Act.put, List.setIfInBounds_toArray, List.set]
  refine wpAnyH_done (by kernel_rfl) ?_ _
  refine NoPanic.normal ?_
  clear hHeld
  go_upto_region 16 with (fail)
  clear lt72 lt73 lt74 lt75
  have lt76 := lt_of_cell bx2
  have lt77 := lt_of_cell bx5
  have lt78 := lt_of_cell bx37
  have lt79 := lt_of_cell bx48
  refine wp_region_noPanic ?_
  refine wp_region_held_drew (S := (fun W' => W'.cell? ⟨w8.heap.size, 0, none⟩ = some (.slice px4 m.vals.length qx4) ∧ W'.cell? ⟨w8.heap.size, 1, none⟩ = some (.slice py4 m.arrs.length qy4) ∧ W'.cell? ⟨w.heap.size + 1, 0, none⟩ = some (.slice a3 m.vals.length c3) ∧ W'.cell? ⟨w.heap.size + 1, 1, none⟩ = some (.slice a4 m.arrs.length c4))) (by kernel_rfl) ⟨kept_cell (Below.drew (bself w12)) bx48, kept_cell (Below.drew (bself w12)) bx50, kept_cell (Below.drew (bself w12)) bx5, kept_cell (Below.drew (bself w12)) bx6⟩ (fun hHeld => ?_)
  obtain ⟨w13, hwd⟩ : ∃ X, X = World.drew w12 := ⟨_, rfl⟩
  rw [← hwd] at hHeld ⊢
  have hb : Below w12.heap.size w12 w13 := by rw [hwd]; exact Below.drew (bself _)
  clear hwd
  have hsz80 := hb.size
  replace bf38 := kept_froz hb (lt_of_cell bx37) bf38
  replace bf40 := kept_froz hb (lt_of_cell bx39) bf40
  replace bf42 := kept_froz hb (lt_of_cell bx41) bf42
  replace bf49 := kept_froz hb (lt_of_cell bx48) bf49
  replace bf51 := kept_froz hb (lt_of_cell bx50) bf51
  replace bx2 : w13.cell? ⟨w.heap.size, 0, none⟩ = some (.slice a0 c.vars.length c0) := kept_cell hb bx2
  replace bx3 : w13.cell? ⟨w.heap.size, 1, none⟩ = some (.slice a1 c.arrays.length c1) := kept_cell hb bx3
  replace bx4 : w13.cell? ⟨w.heap.size, 2, none⟩ = some (.slice a2 c.list.length c2) := kept_cell hb bx4
  replace bx5 : w13.cell? ⟨w.heap.size + 1, 0, none⟩ = some (.slice a3 m.vals.length c3) := kept_cell hb bx5
  replace bx6 : w13.cell? ⟨w.heap.size + 1, 1, none⟩ = some (.slice a4 m.arrs.length c4) := kept_cell hb bx6
  replace oc1 := oc1.below hb
  replace om2 := om2.below hb
  replace oc3 := oc3.below hb
  replace bx37 : w13.cell? ⟨w7.heap.size, 0, none⟩ = some (.slice pa3 c.vars.length qa3) := kept_cell hb bx37
  replace bx39 : w13.cell? ⟨w7.heap.size, 1, none⟩ = some (.slice pb3 c.arrays.length qb3) := kept_cell hb bx39
  replace bx41 : w13.cell? ⟨w7.heap.size, 2, none⟩ = some (.slice pc3 c.list.length qc3) := kept_cell hb bx41
  replace om4 := om4.below hb
  replace bx48 : w13.cell? ⟨w8.heap.size, 0, none⟩ = some (.slice px4 m.vals.length qx4) := kept_cell hb bx48
  replace bx50 : w13.cell? ⟨w8.heap.size, 1, none⟩ = some (.slice py4 m.arrs.length qy4) := kept_cell hb bx50
  replace oc5 := oc5.below hb
  replace tot := btr tot hb
  clear hb
  clear lt76 lt77 lt78 lt79
  have lt81 := lt_of_cell bx2
  have lt82 := lt_of_cell bx5
  have lt83 := lt_of_cell bx37
  have lt84 := lt_of_cell bx48
  refine take_d (i := 0) (d := 53) (v := ?_) rfl rfl (by kernel_rfl) (by kernel_rfl) (by kernel_rfl) (fun _ _ _ h => h) (Or.inl ⟨by rfl, ?_⟩) (by assumption) ?_
  rotate_left
  · intro W' hSw; (try dsimp only at hSw); obtain ⟨s0, s1, s2, s3⟩ := hSw; go_simp; try with_reducible rfl
  try simp only [Act.put, List.setIfInBounds_toArray, List.set]
  refine take_d (i := 1) (d := 54) (v := ?_) rfl rfl (by kernel_rfl) (by kernel_rfl) (by kernel_rfl) (fun _ _ _ h => h) (Or.inl ⟨by rfl, ?_⟩) (by assumption) ?_
  rotate_left
  · intro W' hSw; (try dsimp only at hSw); obtain ⟨s0, s1, s2, s3⟩ := hSw; go_simp; try with_reducible rfl
  try simp only [Act.put, List.setIfInBounds_toArray, List.set]
  refine wpAnyH_ready (rs := [2]) (by kernel_rfl) (by simp) ?_
  refine AllReadyH.cons rfl (fun K hK => ?_) AllReadyH.nil
  go_simp
  refine (toMemory_any _ _ m _ (HRM.out _ tot) (by omega) (by omega) (by omega)).mono ?_
  rintro e w14 ⟨ux, uy, us6, rfl, om6, hb⟩
  obtain ⟨px6, qx6, py6, qy6, rfl, rfl⟩ := om6.shape
  have hsz85 := hb.size
  replace bf38 := kept_froz hb (lt_of_cell bx37) bf38
  replace bf40 := kept_froz hb (lt_of_cell bx39) bf40
  replace bf42 := kept_froz hb (lt_of_cell bx41) bf42
  replace bf49 := kept_froz hb (lt_of_cell bx48) bf49
  replace bf51 := kept_froz hb (lt_of_cell bx50) bf51
  replace bx2 : w14.cell? ⟨w.heap.size, 0, none⟩ = some (.slice a0 c.vars.length c0) := kept_cell hb bx2
  replace bx3 : w14.cell? ⟨w.heap.size, 1, none⟩ = some (.slice a1 c.arrays.length c1) := kept_cell hb bx3
  replace bx4 : w14.cell? ⟨w.heap.size, 2, none⟩ = some (.slice a2 c.list.length c2) := kept_cell hb bx4
  replace bx5 : w14.cell? ⟨w.heap.size + 1, 0, none⟩ = some (.slice a3 m.vals.length c3) := kept_cell hb bx5
  replace bx6 : w14.cell? ⟨w.heap.size + 1, 1, none⟩ = some (.slice a4 m.arrs.length c4) := kept_cell hb bx6
  replace oc1 := oc1.below hb
  replace om2 := om2.below hb
  replace oc3 := oc3.below hb
  replace bx37 : w14.cell? ⟨w7.heap.size, 0, none⟩ = some (.slice pa3 c.vars.length qa3) := kept_cell hb bx37
  replace bx39 : w14.cell? ⟨w7.heap.size, 1, none⟩ = some (.slice pb3 c.arrays.length qb3) := kept_cell hb bx39
  replace bx41 : w14.cell? ⟨w7.heap.size, 2, none⟩ = some (.slice pc3 c.list.length qc3) := kept_cell hb bx41
  replace om4 := om4.below hb
  replace bx48 : w14.cell? ⟨w8.heap.size, 0, none⟩ = some (.slice px4 m.vals.length qx4) := kept_cell hb bx48
  replace bx50 : w14.cell? ⟨w8.heap.size, 1, none⟩ = some (.slice py4 m.arrs.length qy4) := kept_cell hb bx50
  replace oc5 := oc5.below hb
  replace tot := btr tot hb
  clear hb
  have iv86 := om6.lt
  clear lt81 lt82 lt83 lt84
  have lt87 := lt_of_cell bx2
  have lt88 := lt_of_cell bx5
  have lt89 := lt_of_cell bx37
  have lt90 := lt_of_cell bx48
  refine hK.out _ _ ⟨bx48, bx50, bx5, bx6⟩ (fun hHeld => ?_)
  clear hK K
  try simp only [Act.put, List.setIfInBounds_toArray, List.set]
  refine wpAnyH_ready (rs := [3]) (by kernel_rfl) (by simp) ?_
  refine AllReadyH.cons rfl (fun K hK => ?_) AllReadyH.nil
  go_simp
  refine (eqMemory_any _ _ _ _ m _ (om4.reads (by omega) (by omega) (by omega)) (om6.reads (by omega) (by omega) (by omega))).mono ?_
  rintro e w15 ⟨rfl, hb⟩
  have hsz91 := hb.size
  replace bf38 := kept_froz hb (lt_of_cell bx37) bf38
  replace bf40 := kept_froz hb (lt_of_cell bx39) bf40
  replace bf42 := kept_froz hb (lt_of_cell bx41) bf42
  replace bf49 := kept_froz hb (lt_of_cell bx48) bf49
  replace bf51 := kept_froz hb (lt_of_cell bx50) bf51
  replace bx2 : w15.cell? ⟨w.heap.size, 0, none⟩ = some (.slice a0 c.vars.length c0) := kept_cell hb bx2
  replace bx3 : w15.cell? ⟨w.heap.size, 1, none⟩ = some (.slice a1 c.arrays.length c1) := kept_cell hb bx3
  replace bx4 : w15.cell? ⟨w.heap.size, 2, none⟩ = some (.slice a2 c.list.length c2) := kept_cell hb bx4
  replace bx5 : w15.cell? ⟨w.heap.size + 1, 0, none⟩ = some (.slice a3 m.vals.length c3) := kept_cell hb bx5
  replace bx6 : w15.cell? ⟨w.heap.size + 1, 1, none⟩ = some (.slice a4 m.arrs.length c4) := kept_cell hb bx6
  replace oc1 := oc1.below hb
  replace om2 := om2.below hb
  replace oc3 := oc3.below hb
  replace bx37 : w15.cell? ⟨w7.heap.size, 0, none⟩ = some (.slice pa3 c.vars.length qa3) := kept_cell hb bx37
  replace bx39 : w15.cell? ⟨w7.heap.size, 1, none⟩ = some (.slice pb3 c.arrays.length qb3) := kept_cell hb bx39
  replace bx41 : w15.cell? ⟨w7.heap.size, 2, none⟩ = some (.slice pc3 c.list.length qc3) := kept_cell hb bx41
  replace om4 := om4.below hb
  replace bx48 : w15.cell? ⟨w8.heap.size, 0, none⟩ = some (.slice px4 m.vals.length qx4) := kept_cell hb bx48
  replace bx50 : w15.cell? ⟨w8.heap.size, 1, none⟩ = some (.slice py4 m.arrs.length qy4) := kept_cell hb bx50
  replace oc5 := oc5.below hb
  replace om6 := om6.below hb
  replace tot := btr tot hb
  clear hb
  clear lt87 lt88 lt89 lt90
  have lt92 := lt_of_cell bx2
  have lt93 := lt_of_cell bx5
  have lt94 := lt_of_cell bx37
  have lt95 := lt_of_cell bx48
  refine hK.out _ _ ⟨bx48, bx50, bx5, bx6⟩ (fun hHeld => ?_)
  clear hK K
  try simp only [Act.put, List.setIfInBounds_toArray, List.set]
  refine take_d (i := 4) (d := 57) (v := ?_) rfl rfl (by kernel_rfl) (by kernel_rfl) (by kernel_rfl) (fun _ _ _ h => h) (Or.inl ⟨by rfl, ?_⟩) (by assumption) ?_
  rotate_left
  · intro W' hSw; (try dsimp only at hSw); obtain ⟨s0, s1, s2, s3⟩ := hSw; go_simp; try with_reducible rfl
  try simp only [Act.put, List.setIfInBounds_toArray, List.set]
  refine wpAnyH_done (by kernel_rfl) ?_ _
  refine NoPanic.normal ?_
  clear hHeld
  have tt := tot
  go_wp2
  go_ret
  exact ⟨rfl, tt⟩
end Go.Proofs.Ytbglogjamfdmpaa
