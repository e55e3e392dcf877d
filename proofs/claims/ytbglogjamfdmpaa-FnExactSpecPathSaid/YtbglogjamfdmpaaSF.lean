/-
  Parts of the proof of the law FnExactSpecPath.
-/
import Derived.Test.YtbglogjamfdmpaaCO
import Derived.Test.YtbglogjamfdmpaaEV
import Derived.Test.YtbglogjamfdmpaaSD
import Derived.Test.YtbglogjamfdmpaaSE
namespace Go.Proofs.Ytbglogjamfdmpaa
open Go.RowKit

theorem heldEventS_b (v : Value) (n : Nat) (k : Int) (w : World) (hr : Reads w 2 v n (rows evc (marksEvent k n))) (hn : n ≤ 1073741824) (h0 : 0 ≤ k) (h1 : k ≤ 1073741824) :
    Calls Try.prog 28 #[v, .int .i64 k] w fun e w' => e = .returned (.int .i64 (k + 2 * (n : Int))) ∧ Below w.heap.size w w' :=
  (heldEventS_any v n k w hr hn h0 h1).mono (fun _ _ ⟨h, d, hd⟩ => ⟨h, by rw [hd]; exact below_drewN' _ _⟩)

set_option maxHeartbeats 12800000 in
set_option maxRecDepth 100000 in
theorem FnExactSpecPath_walk (va vb vc vr vx vy : Value) (c : Cd) (ms : Ms) (w : World) (r0 : ReadsC w va vb vc c) (rs : ReadsS w vr vx vy ms) :
    Calls Try.prog 4 #[.agg #[va, vb, vc], .agg #[.int .i64 ms.pc, vr, vx, vy]] w fun e w' => e = .returned (.bool true) ∧ Below w.heap.size w w' := by
  obtain ⟨a0, c0, a1, c1, a2, c2, rfl, rfl, rfl⟩ := r0.shape
  obtain ⟨a5, c5, rfl⟩ := reads_shape rs.r
  obtain ⟨a3, c3, a4, c4, rfl, rfl⟩ := rs.m.shape
  have hlens := spathR_len c ms
  have hI := fun (va vb vc vr vx vy : Value) (W : World) h1 h2 h3 h4 h5 h6 => iSpecPath_any va vb vc vr vx vy c ms W h1 h2 h3 h4 h5 h6
  have hS := fun (va vb vc vr vx vy : Value) (W : World) h1 h2 h3 h4 h5 h6 => sSpecPath_any va vb vc vr vx vy c ms W h1 h2 h3 h4 h5 h6
  generalize spathR c ms = R at *
  obtain ⟨L, ok⟩ := R
  simp only [evs_rows] at hlens hI hS
  have HI := Lib.hid hI; have HS := Lib.hid hS; clear hI hS
  have hszM : 0 ≤ sizeM c := by unfold sizeM; omega
  have HR0 := Lib.hid (fun W (hW : Below w.heap.size w W) => r0.below hW); have HRS := Lib.hid (fun W (hW : Below w.heap.size w W) => rs.below hW); clear r0 rs
  have hok : (!(ok == ok)) = false := by simp
  go_enter Try.func4, Try.ntmps4
  go_wp2_with fail
  refine (szCode_any _ _ _ c 1048576 _ (HR0.out _ (bal (bal (bself w) (.cells #[.slice a0 c.vars.length c0, .slice a1 c.arrays.length c1, .slice a2 c.list.length c2] 25)) (.cells #[.int .i64 ms.pc, .slice a5 ms.regs.length c5, .slice a3 ms.mem.vals.length c3, .slice a4 ms.mem.arrs.length c4] 43))) (by omega) (by omega)).mono ?_
  rintro e w1 ⟨rfl, hb⟩
  have hsz1 := hb.size
  simp only [World.size_alloc] at hsz1
  have bx2 : w1.cell? ⟨w.heap.size, 0, none⟩ = some (.slice a0 c.vars.length c0) := kept_cell hb (cell_al (cell_nw (by simp) (by rfl)) _)
  have bx3 : w1.cell? ⟨w.heap.size, 1, none⟩ = some (.slice a1 c.arrays.length c1) := kept_cell hb (cell_al (cell_nw (by simp) (by rfl)) _)
  have bx4 : w1.cell? ⟨w.heap.size, 2, none⟩ = some (.slice a2 c.list.length c2) := kept_cell hb (cell_al (cell_nw (by simp) (by rfl)) _)
  have bx5 : w1.cell? ⟨w.heap.size + 1, 0, none⟩ = some (.int .i64 ms.pc) := kept_cell hb (cell_nw (by simp) (by rfl))
  have bx6 : w1.cell? ⟨w.heap.size + 1, 1, none⟩ = some (.slice a5 ms.regs.length c5) := kept_cell hb (cell_nw (by simp) (by rfl))
  have bx7 : w1.cell? ⟨w.heap.size + 1, 2, none⟩ = some (.slice a3 ms.mem.vals.length c3) := kept_cell hb (cell_nw (by simp) (by rfl))
  have bx8 : w1.cell? ⟨w.heap.size + 1, 3, none⟩ = some (.slice a4 ms.mem.arrs.length c4) := kept_cell hb (cell_nw (by simp) (by rfl))
  have tot := btr (bal (bal (bself w) (.cells #[.slice a0 c.vars.length c0, .slice a1 c.arrays.length c1, .slice a2 c.list.length c2] 25)) (.cells #[.int .i64 ms.pc, .slice a5 ms.regs.length c5, .slice a3 ms.mem.vals.length c3, .slice a4 ms.mem.arrs.length c4] 43)) hb
  clear hb
  have lt9 := lt_of_cell bx2
  have lt10 := lt_of_cell bx5
  by_cases hl : (1048576 : Int) < (c.vars.length + c.arrays.length + c.list.length : Nat)
  · rw [if_pos hl]
    clear hl
    have tt := tot
    go_wp2
    go_ret
    exact ⟨rfl, tt⟩
  rw [if_neg hl]
  have hnn : ¬ (1048576 : Int) - (c.vars.length + c.arrays.length + c.list.length : Nat) < 0 := by omega
  have hv : c.vars.length ≤ 1048576 := by omega
  have ha : c.arrays.length ≤ 1048576 := by omega
  have hc : c.list.length ≤ 1048576 := by omega
  clear lt9 lt10
  have lt11 := lt_of_cell bx2
  have lt12 := lt_of_cell bx5
  go_wp2_with fail
  refine (szMachine_any _ _ _ ms (1048576 - (c.vars.length + c.arrays.length + c.list.length : Nat)) _ (HRS.out _ tot) (by omega) (by omega)).mono ?_
  rintro e w2 ⟨rsz, rfl, hrsz, hb⟩
  have hsz13 := hb.size
  replace bx2 : w2.cell? ⟨w.heap.size, 0, none⟩ = some (.slice a0 c.vars.length c0) := kept_cell hb bx2
  replace bx3 : w2.cell? ⟨w.heap.size, 1, none⟩ = some (.slice a1 c.arrays.length c1) := kept_cell hb bx3
  replace bx4 : w2.cell? ⟨w.heap.size, 2, none⟩ = some (.slice a2 c.list.length c2) := kept_cell hb bx4
  replace bx5 : w2.cell? ⟨w.heap.size + 1, 0, none⟩ = some (.int .i64 ms.pc) := kept_cell hb bx5
  replace bx6 : w2.cell? ⟨w.heap.size + 1, 1, none⟩ = some (.slice a5 ms.regs.length c5) := kept_cell hb bx6
  replace bx7 : w2.cell? ⟨w.heap.size + 1, 2, none⟩ = some (.slice a3 ms.mem.vals.length c3) := kept_cell hb bx7
  replace bx8 : w2.cell? ⟨w.heap.size + 1, 3, none⟩ = some (.slice a4 ms.mem.arrs.length c4) := kept_cell hb bx8
  replace tot := btr tot hb
  clear hb
  clear lt11 lt12
  have lt14 := lt_of_cell bx2
  have lt15 := lt_of_cell bx5
  rcases hrsz with rfl | ⟨hrsz0, hrsz⟩
  · clear hl
    have tt := tot
    go_wp2
    go_ret
    exact ⟨rfl, tt⟩
  have hn1 : ¬ rsz < 0 := by omega
  have hr0 : ms.regs.length ≤ 1048576 := by omega
  have hm1 : ms.mem.vals.length ≤ 1048576 := by omega
  have hm2 : ms.mem.arrs.length ≤ 1048576 := by omega
  have hm3 : pre2 ms.mem.arrs ms.mem.arrs.length ≤ 1048576 := by omega
  clear hrsz hl
  have hk0 : ¬ (1 + sizeM c + (ms.regs.length : Int) + (ms.mem.vals.length : Int) + (pre2 ms.mem.arrs ms.mem.arrs.length : Nat)) < 0 := by omega
  have hk1 : ¬ (1 + 2 * (L.length : Int)) < 0 := by omega
  have hsz2 : sizeM c ≤ 16777216 := by unfold sizeM; omega
  clear lt14 lt15
  have lt16 := lt_of_cell bx2
  have lt17 := lt_of_cell bx5
  go_upto_region 8 with (fail)
  clear lt16 lt17
  have lt18 := lt_of_cell bx2
  have lt19 := lt_of_cell bx5
  refine wp_region_noPanic ?_
  refine wp_region_held_drew (S := (fun W' => W'.cell? ⟨w.heap.size, 0, none⟩ = some (.slice a0 c.vars.length c0) ∧ W'.cell? ⟨w.heap.size, 1, none⟩ = some (.slice a1 c.arrays.length c1) ∧ W'.cell? ⟨w.heap.size, 2, none⟩ = some (.slice a2 c.list.length c2) ∧ W'.cell? ⟨w.heap.size + 1, 0, none⟩ = some (.int .i64 ms.pc) ∧ W'.cell? ⟨w.heap.size + 1, 1, none⟩ = some (.slice a5 ms.regs.length c5) ∧ W'.cell? ⟨w.heap.size + 1, 2, none⟩ = some (.slice a3 ms.mem.vals.length c3) ∧ W'.cell? ⟨w.heap.size + 1, 3, none⟩ = some (.slice a4 ms.mem.arrs.length c4))) (by kernel_rfl) ⟨kept_cell (Below.drew (bself w2)) bx2, kept_cell (Below.drew (bself w2)) bx3, kept_cell (Below.drew (bself w2)) bx4, kept_cell (Below.drew (bself w2)) bx5, kept_cell (Below.drew (bself w2)) bx6, kept_cell (Below.drew (bself w2)) bx7, kept_cell (Below.drew (bself w2)) bx8⟩ (fun hHeld => ?_)
  obtain ⟨w3, hwd⟩ : ∃ X, X = World.drew w2 := ⟨_, rfl⟩
  rw [← hwd] at hHeld ⊢
  have hb : Below w2.heap.size w2 w3 := by rw [hwd]; exact Below.drew (bself _)
  clear hwd
  have hsz20 := hb.size
  replace bx2 : w3.cell? ⟨w.heap.size, 0, none⟩ = some (.slice a0 c.vars.length c0) := kept_cell hb bx2
  replace bx3 : w3.cell? ⟨w.heap.size, 1, none⟩ = some (.slice a1 c.arrays.length c1) := kept_cell hb bx3
  replace bx4 : w3.cell? ⟨w.heap.size, 2, none⟩ = some (.slice a2 c.list.length c2) := kept_cell hb bx4
  replace bx5 : w3.cell? ⟨w.heap.size + 1, 0, none⟩ = some (.int .i64 ms.pc) := kept_cell hb bx5
  replace bx6 : w3.cell? ⟨w.heap.size + 1, 1, none⟩ = some (.slice a5 ms.regs.length c5) := kept_cell hb bx6
  replace bx7 : w3.cell? ⟨w.heap.size + 1, 2, none⟩ = some (.slice a3 ms.mem.vals.length c3) := kept_cell hb bx7
  replace bx8 : w3.cell? ⟨w.heap.size + 1, 3, none⟩ = some (.slice a4 ms.mem.arrs.length c4) := kept_cell hb bx8
  replace tot := btr tot hb
  clear hb
  clear lt18 lt19
  have lt21 := lt_of_cell bx2
  have lt22 := lt_of_cell bx5
  refine take_d (i := 0) (d := 28) (v := ?_) rfl rfl (by kernel_rfl) (by kernel_rfl) (by kernel_rfl) (fun _ _ _ h => h) (Or.inl ⟨by rfl, ?_⟩) (by assumption) ?_
  rotate_left
  · intro W' hSw; (try dsimp only at hSw); obtain ⟨s0, s1, s2, s3, s4, s5, s6⟩ := hSw; go_simp; try with_reducible rfl
  try simp only [Act.put, List.setIfInBounds_toArray, List.set]
  refine take_d (i := 2) (d := 30) (v := ?_) rfl rfl (by kernel_rfl) (by kernel_rfl) (by kernel_rfl) (fun _ _ _ h => h) (Or.inl ⟨by rfl, ?_⟩) (by assumption) ?_
  rotate_left
  · intro W' hSw; (try dsimp only at hSw); obtain ⟨s0, s1, s2, s3, s4, s5, s6⟩ := hSw; go_simp; try with_reducible rfl
  try simp only [Act.put, List.setIfInBounds_toArray, List.set]
  refine wpAnyH_ready (rs := [1]) (by kernel_rfl) (by simp) ?_
  refine AllReadyH.cons rfl (fun K hK => ?_) AllReadyH.nil
  go_simp
  refine (toCode_any _ _ _ c _ (HR0.out _ tot) (by omega) (by omega) (by omega)).mono ?_
  rintro e w4 ⟨ua, ub, uc, rfl, oc1, hb⟩
  obtain ⟨pa1, qa1, pb1, qb1, pc1, qc1, rfl, rfl, rfl⟩ := oc1.shape
  have hsz23 := hb.size
  replace bx2 : w4.cell? ⟨w.heap.size, 0, none⟩ = some (.slice a0 c.vars.length c0) := kept_cell hb bx2
  replace bx3 : w4.cell? ⟨w.heap.size, 1, none⟩ = some (.slice a1 c.arrays.length c1) := kept_cell hb bx3
  replace bx4 : w4.cell? ⟨w.heap.size, 2, none⟩ = some (.slice a2 c.list.length c2) := kept_cell hb bx4
  replace bx5 : w4.cell? ⟨w.heap.size + 1, 0, none⟩ = some (.int .i64 ms.pc) := kept_cell hb bx5
  replace bx6 : w4.cell? ⟨w.heap.size + 1, 1, none⟩ = some (.slice a5 ms.regs.length c5) := kept_cell hb bx6
  replace bx7 : w4.cell? ⟨w.heap.size + 1, 2, none⟩ = some (.slice a3 ms.mem.vals.length c3) := kept_cell hb bx7
  replace bx8 : w4.cell? ⟨w.heap.size + 1, 3, none⟩ = some (.slice a4 ms.mem.arrs.length c4) := kept_cell hb bx8
  replace tot := btr tot hb
  clear hb
  have iv24 := oc1.lt
  clear lt21 lt22
  have lt25 := lt_of_cell bx2
  have lt26 := lt_of_cell bx5
  refine hK.out _ _ ⟨bx2, bx3, bx4, bx5, bx6, bx7, bx8⟩ (fun hHeld => ?_)
  clear hK K
  try simp only [Act.put, List.setIfInBounds_toArray, List.set]
  refine wpAnyH_ready (rs := [3]) (by kernel_rfl) (by simp) ?_
  refine AllReadyH.cons rfl (fun K hK => ?_) AllReadyH.nil
  go_simp
  refine (toMachine_any _ _ _ ms _ (HRS.out _ tot) hr0 hm1 hm2 hm3).mono ?_
  rintro e w5 ⟨ur, ux, uy, us2, rfl, os2, hb⟩
  obtain ⟨pr2, qr2, rfl⟩ := own_shape os2.r
  obtain ⟨px2, qx2, rfl⟩ := own_shape os2.v
  obtain ⟨py2, qy2, rfl⟩ := own_shape os2.a.out
  have hsz27 := hb.size
  replace bx2 : w5.cell? ⟨w.heap.size, 0, none⟩ = some (.slice a0 c.vars.length c0) := kept_cell hb bx2
  replace bx3 : w5.cell? ⟨w.heap.size, 1, none⟩ = some (.slice a1 c.arrays.length c1) := kept_cell hb bx3
  replace bx4 : w5.cell? ⟨w.heap.size, 2, none⟩ = some (.slice a2 c.list.length c2) := kept_cell hb bx4
  replace bx5 : w5.cell? ⟨w.heap.size + 1, 0, none⟩ = some (.int .i64 ms.pc) := kept_cell hb bx5
  replace bx6 : w5.cell? ⟨w.heap.size + 1, 1, none⟩ = some (.slice a5 ms.regs.length c5) := kept_cell hb bx6
  replace bx7 : w5.cell? ⟨w.heap.size + 1, 2, none⟩ = some (.slice a3 ms.mem.vals.length c3) := kept_cell hb bx7
  replace bx8 : w5.cell? ⟨w.heap.size + 1, 3, none⟩ = some (.slice a4 ms.mem.arrs.length c4) := kept_cell hb bx8
  replace oc1 := oc1.below hb
  replace tot := btr tot hb
  clear hb
  have iv28 := os2.lt
  clear lt25 lt26
  have lt29 := lt_of_cell bx2
  have lt30 := lt_of_cell bx5
  refine hK.out _ _ ⟨bx2, bx3, bx4, bx5, bx6, bx7, bx8⟩ (fun hHeld => ?_)
  clear hK K
  try simp only [Act.put, List.setIfInBounds_toArray, List.set]
  refine wpAnyH_ready (rs := [4]) (by kernel_rfl) (by simp) ?_
  refine AllReadyH.cons rfl (fun K hK => ?_) AllReadyH.nil
  go_simp
  refine (HS.out _ _ _ _ _ _ _ (oc1.reads (by omega) (by omega) (by omega)) (os2.readsS hr0 hm1 hm2 hm3) hr0 hm1 hm2 hm3).mono ?_
  rintro e w6 ⟨ue, rfl, oe31, hb⟩
  obtain ⟨P31, Q31, rfl⟩ := own_shape oe31
  have hsz32 := hb.size
  replace bx2 : w6.cell? ⟨w.heap.size, 0, none⟩ = some (.slice a0 c.vars.length c0) := kept_cell hb bx2
  replace bx3 : w6.cell? ⟨w.heap.size, 1, none⟩ = some (.slice a1 c.arrays.length c1) := kept_cell hb bx3
  replace bx4 : w6.cell? ⟨w.heap.size, 2, none⟩ = some (.slice a2 c.list.length c2) := kept_cell hb bx4
  replace bx5 : w6.cell? ⟨w.heap.size + 1, 0, none⟩ = some (.int .i64 ms.pc) := kept_cell hb bx5
  replace bx6 : w6.cell? ⟨w.heap.size + 1, 1, none⟩ = some (.slice a5 ms.regs.length c5) := kept_cell hb bx6
  replace bx7 : w6.cell? ⟨w.heap.size + 1, 2, none⟩ = some (.slice a3 ms.mem.vals.length c3) := kept_cell hb bx7
  replace bx8 : w6.cell? ⟨w.heap.size + 1, 3, none⟩ = some (.slice a4 ms.mem.arrs.length c4) := kept_cell hb bx8
  replace oc1 := oc1.below hb
  replace os2 := os2.below hb
  replace tot := btr tot hb
  clear hb
  have iv33 := oe31.lt
  clear lt29 lt30
  have lt34 := lt_of_cell bx2
  have lt35 := lt_of_cell bx5
  refine hK.out _ _ ⟨bx2, bx3, bx4, bx5, bx6, bx7, bx8⟩ (fun hHeld => ?_)
  clear hK K
  try simp only [Act.put, List.setIfInBounds_toArray, List.set]
  refine take_d (i := 5) (d := 27) (v := ?_) rfl rfl (by kernel_rfl) (by kernel_rfl) (by kernel_rfl) (fun _ _ _ h => h) (Or.inl ⟨by rfl, ?_⟩) (by assumption) ?_
  rotate_left
  · intro W' hSw; (try dsimp only at hSw); obtain ⟨s0, s1, s2, s3, s4, s5, s6⟩ := hSw; go_simp; try with_reducible rfl
  try simp only [Act.put, List.setIfInBounds_toArray, List.set]
  refine take_d (i := 6) (d := 33) (v := ?_) rfl rfl (by kernel_rfl) (by kernel_rfl) (by kernel_rfl) (fun _ _ _ h => h) (Or.inl ⟨by rfl, ?_⟩) (by assumption) ?_
  rotate_left
  · intro W' hSw; (try dsimp only at hSw); obtain ⟨s0, s1, s2, s3, s4, s5, s6⟩ := hSw; go_simp; try with_reducible rfl
  try simp only [Act.put, List.setIfInBounds_toArray, List.set]
  refine take_d (i := 7) (d := 34) (v := ?_) rfl rfl (by kernel_rfl) (by kernel_rfl) (by kernel_rfl) (fun _ _ _ h => h) (Or.inl ⟨by rfl, ?_⟩) (by assumption) ?_
  rotate_left
  · intro W' hSw; (try dsimp only at hSw); obtain ⟨s0, s1, s2, s3, s4, s5, s6⟩ := hSw; go_simp; try with_reducible rfl
  try simp only [Act.put, List.setIfInBounds_toArray, List.set]
  refine take_d (i := 8) (d := 6) (v := ?_) rfl rfl (by kernel_rfl) (by kernel_rfl) (by kernel_rfl) (fun _ _ _ h => h) (Or.inl ⟨by rfl, ?_⟩) (by assumption) ?_
  rotate_left
  · intro W' hSw; (try dsimp only at hSw); obtain ⟨s0, s1, s2, s3, s4, s5, s6⟩ := hSw; go_simp; try with_reducible rfl
  try simp only [Act.put, List.setIfInBounds_toArray, List.set]
  refine take_d (i := 9) (d := 7) (v := ?_) rfl rfl (by kernel_rfl) (by kernel_rfl) (by kernel_rfl) (fun _ _ _ h => h) (Or.inl ⟨by rfl, ?_⟩) (by assumption) ?_
  rotate_left
  · intro W' hSw; (try dsimp only at hSw); obtain ⟨s0, s1, s2, s3, s4, s5, s6⟩ := hSw; go_simp; try with_reducible rfl
  try simp only [Act.put, List.setIfInBounds_toArray, List.set]
  refine wpAnyH_done (by kernel_rfl) ?_ _
  refine NoPanic.normal ?_
  clear hHeld
  go_wp2_with fail
  refine (toCode_any _ _ _ c _ (HR0.out _ tot) (by omega) (by omega) (by omega)).mono ?_
  rintro e w7 ⟨ua, ub, uc, rfl, oc3, hb⟩
  obtain ⟨pa3, qa3, pb3, qb3, pc3, qc3, rfl, rfl, rfl⟩ := oc3.shape
  have hsz36 := hb.size
  replace bx2 : w7.cell? ⟨w.heap.size, 0, none⟩ = some (.slice a0 c.vars.length c0) := kept_cell hb bx2
  replace bx3 : w7.cell? ⟨w.heap.size, 1, none⟩ = some (.slice a1 c.arrays.length c1) := kept_cell hb bx3
  replace bx4 : w7.cell? ⟨w.heap.size, 2, none⟩ = some (.slice a2 c.list.length c2) := kept_cell hb bx4
  replace bx5 : w7.cell? ⟨w.heap.size + 1, 0, none⟩ = some (.int .i64 ms.pc) := kept_cell hb bx5
  replace bx6 : w7.cell? ⟨w.heap.size + 1, 1, none⟩ = some (.slice a5 ms.regs.length c5) := kept_cell hb bx6
  replace bx7 : w7.cell? ⟨w.heap.size + 1, 2, none⟩ = some (.slice a3 ms.mem.vals.length c3) := kept_cell hb bx7
  replace bx8 : w7.cell? ⟨w.heap.size + 1, 3, none⟩ = some (.slice a4 ms.mem.arrs.length c4) := kept_cell hb bx8
  replace oc1 := oc1.below hb
  replace os2 := os2.below hb
  replace oe31 := own_below oe31 hb
  replace tot := btr tot hb
  clear hb
  have iv37 := oc3.lt
  clear lt34 lt35
  have lt38 := lt_of_cell bx2
  have lt39 := lt_of_cell bx5
  go_wp2_with fail
  refine (toMachine_any _ _ _ ms _ (HRS.out _ (bal tot (.cells #[.slice pa3 c.vars.length qa3, .slice pb3 c.arrays.length qb3, .slice pc3 c.list.length qc3] 35))) hr0 hm1 hm2 hm3).mono ?_
  rintro e w8 ⟨ur, ux, uy, us4, rfl, os4, hb⟩
  obtain ⟨pr4, qr4, rfl⟩ := own_shape os4.r
  obtain ⟨px4, qx4, rfl⟩ := own_shape os4.v
  obtain ⟨py4, qy4, rfl⟩ := own_shape os4.a.out
  have hsz40 := hb.size
  simp only [World.size_alloc] at hsz40
  replace bx2 : w8.cell? ⟨w.heap.size, 0, none⟩ = some (.slice a0 c.vars.length c0) := kept_cell hb (cell_al bx2 (.cells #[.slice pa3 c.vars.length qa3, .slice pb3 c.arrays.length qb3, .slice pc3 c.list.length qc3] 35))
  replace bx3 : w8.cell? ⟨w.heap.size, 1, none⟩ = some (.slice a1 c.arrays.length c1) := kept_cell hb (cell_al bx3 (.cells #[.slice pa3 c.vars.length qa3, .slice pb3 c.arrays.length qb3, .slice pc3 c.list.length qc3] 35))
  replace bx4 : w8.cell? ⟨w.heap.size, 2, none⟩ = some (.slice a2 c.list.length c2) := kept_cell hb (cell_al bx4 (.cells #[.slice pa3 c.vars.length qa3, .slice pb3 c.arrays.length qb3, .slice pc3 c.list.length qc3] 35))
  replace bx5 : w8.cell? ⟨w.heap.size + 1, 0, none⟩ = some (.int .i64 ms.pc) := kept_cell hb (cell_al bx5 (.cells #[.slice pa3 c.vars.length qa3, .slice pb3 c.arrays.length qb3, .slice pc3 c.list.length qc3] 35))
  replace bx6 : w8.cell? ⟨w.heap.size + 1, 1, none⟩ = some (.slice a5 ms.regs.length c5) := kept_cell hb (cell_al bx6 (.cells #[.slice pa3 c.vars.length qa3, .slice pb3 c.arrays.length qb3, .slice pc3 c.list.length qc3] 35))
  replace bx7 : w8.cell? ⟨w.heap.size + 1, 2, none⟩ = some (.slice a3 ms.mem.vals.length c3) := kept_cell hb (cell_al bx7 (.cells #[.slice pa3 c.vars.length qa3, .slice pb3 c.arrays.length qb3, .slice pc3 c.list.length qc3] 35))
  replace bx8 : w8.cell? ⟨w.heap.size + 1, 3, none⟩ = some (.slice a4 ms.mem.arrs.length c4) := kept_cell hb (cell_al bx8 (.cells #[.slice pa3 c.vars.length qa3, .slice pb3 c.arrays.length qb3, .slice pc3 c.list.length qc3] 35))
  replace oc1 := (oc1.below (bal (bself _) (.cells #[.slice pa3 c.vars.length qa3, .slice pb3 c.arrays.length qb3, .slice pc3 c.list.length qc3] 35))).below hb
  replace os2 := (os2.below (bal (bself _) (.cells #[.slice pa3 c.vars.length qa3, .slice pb3 c.arrays.length qb3, .slice pc3 c.list.length qc3] 35))).below hb
  replace oe31 := own_below (own_below oe31 (bal (bself _) (.cells #[.slice pa3 c.vars.length qa3, .slice pb3 c.arrays.length qb3, .slice pc3 c.list.length qc3] 35))) hb
  replace oc3 := (oc3.below (bal (bself _) (.cells #[.slice pa3 c.vars.length qa3, .slice pb3 c.arrays.length qb3, .slice pc3 c.list.length qc3] 35))).below hb
  have bx41 : w8.cell? ⟨w7.heap.size, 0, none⟩ = some (.slice pa3 c.vars.length qa3) := kept_cell hb (cell_nw (by simp) (by rfl))
  have bf42 : w8.frozen? ⟨w7.heap.size, 0, none⟩ = false := kept_froz hb (by simp) (froz_nw (by simp))
  have bx43 : w8.cell? ⟨w7.heap.size, 1, none⟩ = some (.slice pb3 c.arrays.length qb3) := kept_cell hb (cell_nw (by simp) (by rfl))
  have bf44 : w8.frozen? ⟨w7.heap.size, 1, none⟩ = false := kept_froz hb (by simp) (froz_nw (by simp))
  have bx45 : w8.cell? ⟨w7.heap.size, 2, none⟩ = some (.slice pc3 c.list.length qc3) := kept_cell hb (cell_nw (by simp) (by rfl))
  have bf46 : w8.frozen? ⟨w7.heap.size, 2, none⟩ = false := kept_froz hb (by simp) (froz_nw (by simp))
  replace tot := btr (bal tot (.cells #[.slice pa3 c.vars.length qa3, .slice pb3 c.arrays.length qb3, .slice pc3 c.list.length qc3] 35)) hb
  clear hb
  have iv47 := os4.lt
  try simp only [World.size_alloc] at iv47
  clear lt38 lt39
  have lt48 := lt_of_cell bx2
  have lt49 := lt_of_cell bx5
  have lt50 := lt_of_cell bx41
  go_wp2_with fail
  refine (HI.out _ _ _ _ _ _ _ ((oc3.below (bal (bself _) (.cells #[.int .i64 ms.pc, .slice pr4 ms.regs.length qr4, .slice px4 ms.mem.vals.length qx4, .slice py4 ms.mem.arrs.length qy4] 49))).reads (by omega) (by omega) (by omega)) ((os4.below (bal (bself _) (.cells #[.int .i64 ms.pc, .slice pr4 ms.regs.length qr4, .slice px4 ms.mem.vals.length qx4, .slice py4 ms.mem.arrs.length qy4] 49))).readsS hr0 hm1 hm2 hm3) hr0 hm1 hm2 hm3).mono ?_
  rintro e w9 ⟨ue, rfl, oe51, hb⟩
  obtain ⟨P51, Q51, rfl⟩ := own_shape oe51
  have hsz52 := hb.size
  simp only [World.size_alloc] at hsz52
  replace bf42 := kept_froz hb (lt_of_cell (cell_al bx41 (.cells #[.int .i64 ms.pc, .slice pr4 ms.regs.length qr4, .slice px4 ms.mem.vals.length qx4, .slice py4 ms.mem.arrs.length qy4] 49))) (froz_al (lt_of_cell bx41) bf42 (.cells #[.int .i64 ms.pc, .slice pr4 ms.regs.length qr4, .slice px4 ms.mem.vals.length qx4, .slice py4 ms.mem.arrs.length qy4] 49))
  replace bf44 := kept_froz hb (lt_of_cell (cell_al bx43 (.cells #[.int .i64 ms.pc, .slice pr4 ms.regs.length qr4, .slice px4 ms.mem.vals.length qx4, .slice py4 ms.mem.arrs.length qy4] 49))) (froz_al (lt_of_cell bx43) bf44 (.cells #[.int .i64 ms.pc, .slice pr4 ms.regs.length qr4, .slice px4 ms.mem.vals.length qx4, .slice py4 ms.mem.arrs.length qy4] 49))
  replace bf46 := kept_froz hb (lt_of_cell (cell_al bx45 (.cells #[.int .i64 ms.pc, .slice pr4 ms.regs.length qr4, .slice px4 ms.mem.vals.length qx4, .slice py4 ms.mem.arrs.length qy4] 49))) (froz_al (lt_of_cell bx45) bf46 (.cells #[.int .i64 ms.pc, .slice pr4 ms.regs.length qr4, .slice px4 ms.mem.vals.length qx4, .slice py4 ms.mem.arrs.length qy4] 49))
  replace bx2 : w9.cell? ⟨w.heap.size, 0, none⟩ = some (.slice a0 c.vars.length c0) := kept_cell hb (cell_al bx2 (.cells #[.int .i64 ms.pc, .slice pr4 ms.regs.length qr4, .slice px4 ms.mem.vals.length qx4, .slice py4 ms.mem.arrs.length qy4] 49))
  replace bx3 : w9.cell? ⟨w.heap.size, 1, none⟩ = some (.slice a1 c.arrays.length c1) := kept_cell hb (cell_al bx3 (.cells #[.int .i64 ms.pc, .slice pr4 ms.regs.length qr4, .slice px4 ms.mem.vals.length qx4, .slice py4 ms.mem.arrs.length qy4] 49))
  replace bx4 : w9.cell? ⟨w.heap.size, 2, none⟩ = some (.slice a2 c.list.length c2) := kept_cell hb (cell_al bx4 (.cells #[.int .i64 ms.pc, .slice pr4 ms.regs.length qr4, .slice px4 ms.mem.vals.length qx4, .slice py4 ms.mem.arrs.length qy4] 49))
  replace bx5 : w9.cell? ⟨w.heap.size + 1, 0, none⟩ = some (.int .i64 ms.pc) := kept_cell hb (cell_al bx5 (.cells #[.int .i64 ms.pc, .slice pr4 ms.regs.length qr4, .slice px4 ms.mem.vals.length qx4, .slice py4 ms.mem.arrs.length qy4] 49))
  replace bx6 : w9.cell? ⟨w.heap.size + 1, 1, none⟩ = some (.slice a5 ms.regs.length c5) := kept_cell hb (cell_al bx6 (.cells #[.int .i64 ms.pc, .slice pr4 ms.regs.length qr4, .slice px4 ms.mem.vals.length qx4, .slice py4 ms.mem.arrs.length qy4] 49))
  replace bx7 : w9.cell? ⟨w.heap.size + 1, 2, none⟩ = some (.slice a3 ms.mem.vals.length c3) := kept_cell hb (cell_al bx7 (.cells #[.int .i64 ms.pc, .slice pr4 ms.regs.length qr4, .slice px4 ms.mem.vals.length qx4, .slice py4 ms.mem.arrs.length qy4] 49))
  replace bx8 : w9.cell? ⟨w.heap.size + 1, 3, none⟩ = some (.slice a4 ms.mem.arrs.length c4) := kept_cell hb (cell_al bx8 (.cells #[.int .i64 ms.pc, .slice pr4 ms.regs.length qr4, .slice px4 ms.mem.vals.length qx4, .slice py4 ms.mem.arrs.length qy4] 49))
  replace oc1 := (oc1.below (bal (bself _) (.cells #[.int .i64 ms.pc, .slice pr4 ms.regs.length qr4, .slice px4 ms.mem.vals.length qx4, .slice py4 ms.mem.arrs.length qy4] 49))).below hb
  replace os2 := (os2.below (bal (bself _) (.cells #[.int .i64 ms.pc, .slice pr4 ms.regs.length qr4, .slice px4 ms.mem.vals.length qx4, .slice py4 ms.mem.arrs.length qy4] 49))).below hb
  replace oe31 := own_below (own_below oe31 (bal (bself _) (.cells #[.int .i64 ms.pc, .slice pr4 ms.regs.length qr4, .slice px4 ms.mem.vals.length qx4, .slice py4 ms.mem.arrs.length qy4] 49))) hb
  replace oc3 := (oc3.below (bal (bself _) (.cells #[.int .i64 ms.pc, .slice pr4 ms.regs.length qr4, .slice px4 ms.mem.vals.length qx4, .slice py4 ms.mem.arrs.length qy4] 49))).below hb
  replace bx41 : w9.cell? ⟨w7.heap.size, 0, none⟩ = some (.slice pa3 c.vars.length qa3) := kept_cell hb (cell_al bx41 (.cells #[.int .i64 ms.pc, .slice pr4 ms.regs.length qr4, .slice px4 ms.mem.vals.length qx4, .slice py4 ms.mem.arrs.length qy4] 49))
  replace bx43 : w9.cell? ⟨w7.heap.size, 1, none⟩ = some (.slice pb3 c.arrays.length qb3) := kept_cell hb (cell_al bx43 (.cells #[.int .i64 ms.pc, .slice pr4 ms.regs.length qr4, .slice px4 ms.mem.vals.length qx4, .slice py4 ms.mem.arrs.length qy4] 49))
  replace bx45 : w9.cell? ⟨w7.heap.size, 2, none⟩ = some (.slice pc3 c.list.length qc3) := kept_cell hb (cell_al bx45 (.cells #[.int .i64 ms.pc, .slice pr4 ms.regs.length qr4, .slice px4 ms.mem.vals.length qx4, .slice py4 ms.mem.arrs.length qy4] 49))
  replace os4 := (os4.below (bal (bself _) (.cells #[.int .i64 ms.pc, .slice pr4 ms.regs.length qr4, .slice px4 ms.mem.vals.length qx4, .slice py4 ms.mem.arrs.length qy4] 49))).below hb
  have bx53 : w9.cell? ⟨w8.heap.size, 0, none⟩ = some (.int .i64 ms.pc) := kept_cell hb (cell_nw (by simp) (by rfl))
  have bf54 : w9.frozen? ⟨w8.heap.size, 0, none⟩ = false := kept_froz hb (by simp) (froz_nw (by simp))
  have bx55 : w9.cell? ⟨w8.heap.size, 1, none⟩ = some (.slice pr4 ms.regs.length qr4) := kept_cell hb (cell_nw (by simp) (by rfl))
  have bf56 : w9.frozen? ⟨w8.heap.size, 1, none⟩ = false := kept_froz hb (by simp) (froz_nw (by simp))
  have bx57 : w9.cell? ⟨w8.heap.size, 2, none⟩ = some (.slice px4 ms.mem.vals.length qx4) := kept_cell hb (cell_nw (by simp) (by rfl))
  have bf58 : w9.frozen? ⟨w8.heap.size, 2, none⟩ = false := kept_froz hb (by simp) (froz_nw (by simp))
  have bx59 : w9.cell? ⟨w8.heap.size, 3, none⟩ = some (.slice py4 ms.mem.arrs.length qy4) := kept_cell hb (cell_nw (by simp) (by rfl))
  have bf60 : w9.frozen? ⟨w8.heap.size, 3, none⟩ = false := kept_froz hb (by simp) (froz_nw (by simp))
  replace tot := btr (bal tot (.cells #[.int .i64 ms.pc, .slice pr4 ms.regs.length qr4, .slice px4 ms.mem.vals.length qx4, .slice py4 ms.mem.arrs.length qy4] 49)) hb
  clear hb
  have iv61 := oe51.lt
  try simp only [World.size_alloc] at iv61
  clear lt48 lt49 lt50
  have lt62 := lt_of_cell bx2
  have lt63 := lt_of_cell bx5
  have lt64 := lt_of_cell bx41
  have lt65 := lt_of_cell bx53
  go_wp2_with fail
  refine (eqEventS_any _ _ L L _ (reads_of_owns oe51 (by omega)) (reads_of_owns oe31 (by omega))).mono ?_
  rintro e w10 ⟨rfl, hb⟩
  rw [decide_eq_true (Eq.refl L)]
  have hsz66 := hb.size
  replace bf42 := kept_froz hb (lt_of_cell bx41) bf42
  replace bf44 := kept_froz hb (lt_of_cell bx43) bf44
  replace bf46 := kept_froz hb (lt_of_cell bx45) bf46
  replace bf54 := kept_froz hb (lt_of_cell bx53) bf54
  replace bf56 := kept_froz hb (lt_of_cell bx55) bf56
  replace bf58 := kept_froz hb (lt_of_cell bx57) bf58
  replace bf60 := kept_froz hb (lt_of_cell bx59) bf60
  replace bx2 : w10.cell? ⟨w.heap.size, 0, none⟩ = some (.slice a0 c.vars.length c0) := kept_cell hb bx2
  replace bx3 : w10.cell? ⟨w.heap.size, 1, none⟩ = some (.slice a1 c.arrays.length c1) := kept_cell hb bx3
  replace bx4 : w10.cell? ⟨w.heap.size, 2, none⟩ = some (.slice a2 c.list.length c2) := kept_cell hb bx4
  replace bx5 : w10.cell? ⟨w.heap.size + 1, 0, none⟩ = some (.int .i64 ms.pc) := kept_cell hb bx5
  replace bx6 : w10.cell? ⟨w.heap.size + 1, 1, none⟩ = some (.slice a5 ms.regs.length c5) := kept_cell hb bx6
  replace bx7 : w10.cell? ⟨w.heap.size + 1, 2, none⟩ = some (.slice a3 ms.mem.vals.length c3) := kept_cell hb bx7
  replace bx8 : w10.cell? ⟨w.heap.size + 1, 3, none⟩ = some (.slice a4 ms.mem.arrs.length c4) := kept_cell hb bx8
  replace oc1 := oc1.below hb
  replace os2 := os2.below hb
  replace oe31 := own_below oe31 hb
  replace oc3 := oc3.below hb
  replace bx41 : w10.cell? ⟨w7.heap.size, 0, none⟩ = some (.slice pa3 c.vars.length qa3) := kept_cell hb bx41
  replace bx43 : w10.cell? ⟨w7.heap.size, 1, none⟩ = some (.slice pb3 c.arrays.length qb3) := kept_cell hb bx43
  replace bx45 : w10.cell? ⟨w7.heap.size, 2, none⟩ = some (.slice pc3 c.list.length qc3) := kept_cell hb bx45
  replace os4 := os4.below hb
  replace bx53 : w10.cell? ⟨w8.heap.size, 0, none⟩ = some (.int .i64 ms.pc) := kept_cell hb bx53
  replace bx55 : w10.cell? ⟨w8.heap.size, 1, none⟩ = some (.slice pr4 ms.regs.length qr4) := kept_cell hb bx55
  replace bx57 : w10.cell? ⟨w8.heap.size, 2, none⟩ = some (.slice px4 ms.mem.vals.length qx4) := kept_cell hb bx57
  replace bx59 : w10.cell? ⟨w8.heap.size, 3, none⟩ = some (.slice py4 ms.mem.arrs.length qy4) := kept_cell hb bx59
  replace oe51 := own_below oe51 hb
  replace tot := btr tot hb
  clear hb
  clear lt62 lt63 lt64 lt65
  have lt67 := lt_of_cell bx2
  have lt68 := lt_of_cell bx5
  have lt69 := lt_of_cell bx41
  have lt70 := lt_of_cell bx53
  go_upto_region 14 with (fail)
  clear lt67 lt68 lt69 lt70
  have lt71 := lt_of_cell bx2
  have lt72 := lt_of_cell bx5
  have lt73 := lt_of_cell bx41
  have lt74 := lt_of_cell bx53
  refine wp_region_noPanic ?_
  refine wp_region_held_drew (S := (fun W' => W'.cell? ⟨w7.heap.size, 0, none⟩ = some (.slice pa3 c.vars.length qa3) ∧ W'.cell? ⟨w7.heap.size, 1, none⟩ = some (.slice pb3 c.arrays.length qb3) ∧ W'.cell? ⟨w7.heap.size, 2, none⟩ = some (.slice pc3 c.list.length qc3) ∧ W'.cell? ⟨w.heap.size, 0, none⟩ = some (.slice a0 c.vars.length c0) ∧ W'.cell? ⟨w.heap.size, 1, none⟩ = some (.slice a1 c.arrays.length c1) ∧ W'.cell? ⟨w.heap.size, 2, none⟩ = some (.slice a2 c.list.length c2))) (by kernel_rfl) ⟨kept_cell (Below.drew (bself w10)) bx41, kept_cell (Below.drew (bself w10)) bx43, kept_cell (Below.drew (bself w10)) bx45, kept_cell (Below.drew (bself w10)) bx2, kept_cell (Below.drew (bself w10)) bx3, kept_cell (Below.drew (bself w10)) bx4⟩ (fun hHeld => ?_)
  obtain ⟨w11, hwd⟩ : ∃ X, X = World.drew w10 := ⟨_, rfl⟩
  rw [← hwd] at hHeld ⊢
  have hb : Below w10.heap.size w10 w11 := by rw [hwd]; exact Below.drew (bself _)
  clear hwd
  have hsz75 := hb.size
  replace bf42 := kept_froz hb (lt_of_cell bx41) bf42
  replace bf44 := kept_froz hb (lt_of_cell bx43) bf44
  replace bf46 := kept_froz hb (lt_of_cell bx45) bf46
  replace bf54 := kept_froz hb (lt_of_cell bx53) bf54
  replace bf56 := kept_froz hb (lt_of_cell bx55) bf56
  replace bf58 := kept_froz hb (lt_of_cell bx57) bf58
  replace bf60 := kept_froz hb (lt_of_cell bx59) bf60
  replace bx2 : w11.cell? ⟨w.heap.size, 0, none⟩ = some (.slice a0 c.vars.length c0) := kept_cell hb bx2
  replace bx3 : w11.cell? ⟨w.heap.size, 1, none⟩ = some (.slice a1 c.arrays.length c1) := kept_cell hb bx3
  replace bx4 : w11.cell? ⟨w.heap.size, 2, none⟩ = some (.slice a2 c.list.length c2) := kept_cell hb bx4
  replace bx5 : w11.cell? ⟨w.heap.size + 1, 0, none⟩ = some (.int .i64 ms.pc) := kept_cell hb bx5
  replace bx6 : w11.cell? ⟨w.heap.size + 1, 1, none⟩ = some (.slice a5 ms.regs.length c5) := kept_cell hb bx6
  replace bx7 : w11.cell? ⟨w.heap.size + 1, 2, none⟩ = some (.slice a3 ms.mem.vals.length c3) := kept_cell hb bx7
  replace bx8 : w11.cell? ⟨w.heap.size + 1, 3, none⟩ = some (.slice a4 ms.mem.arrs.length c4) := kept_cell hb bx8
  replace oc1 := oc1.below hb
  replace os2 := os2.below hb
  replace oe31 := own_below oe31 hb
  replace oc3 := oc3.below hb
  replace bx41 : w11.cell? ⟨w7.heap.size, 0, none⟩ = some (.slice pa3 c.vars.length qa3) := kept_cell hb bx41
  replace bx43 : w11.cell? ⟨w7.heap.size, 1, none⟩ = some (.slice pb3 c.arrays.length qb3) := kept_cell hb bx43
  replace bx45 : w11.cell? ⟨w7.heap.size, 2, none⟩ = some (.slice pc3 c.list.length qc3) := kept_cell hb bx45
  replace os4 := os4.below hb
  replace bx53 : w11.cell? ⟨w8.heap.size, 0, none⟩ = some (.int .i64 ms.pc) := kept_cell hb bx53
  replace bx55 : w11.cell? ⟨w8.heap.size, 1, none⟩ = some (.slice pr4 ms.regs.length qr4) := kept_cell hb bx55
  replace bx57 : w11.cell? ⟨w8.heap.size, 2, none⟩ = some (.slice px4 ms.mem.vals.length qx4) := kept_cell hb bx57
  replace bx59 : w11.cell? ⟨w8.heap.size, 3, none⟩ = some (.slice py4 ms.mem.arrs.length qy4) := kept_cell hb bx59
  replace oe51 := own_below oe51 hb
  replace tot := btr tot hb
  clear hb
  clear lt71 lt72 lt73 lt74
  have lt76 := lt_of_cell bx2
  have lt77 := lt_of_cell bx5
  have lt78 := lt_of_cell bx41
  have lt79 := lt_of_cell bx53
  refine take_d (i := 0) (d := 54) (v := ?_) rfl rfl (by kernel_rfl) (by kernel_rfl) (by kernel_rfl) (fun _ _ _ h => h) (Or.inl ⟨by rfl, ?_⟩) (by assumption) ?_
  rotate_left
  · intro W' hSw; (try dsimp only at hSw); obtain ⟨s0, s1, s2, s3, s4, s5⟩ := hSw; go_simp; try with_reducible rfl
  try simp only [Act.put, List.setIfInBounds_toArray, List.set]
  refine take_d (i := 1) (d := 55) (v := ?_) rfl rfl (by kernel_rfl) (by kernel_rfl) (by kernel_rfl) (fun _ _ _ h => h) (Or.inl ⟨by rfl, ?_⟩) (by assumption) ?_
  rotate_left
  · intro W' hSw; (try dsimp only at hSw); obtain ⟨s0, s1, s2, s3, s4, s5⟩ := hSw; go_simp; try with_reducible rfl
  try simp only [Act.put, List.setIfInBounds_toArray, List.set]
  refine wpAnyH_ready (rs := [2]) (by kernel_rfl) (by simp) ?_
  refine AllReadyH.cons rfl (fun K hK => ?_) AllReadyH.nil
  go_simp
  refine (toCode_any _ _ _ c _ (HR0.out _ tot) (by omega) (by omega) (by omega)).mono ?_
  rintro e w12 ⟨ua, ub, uc, rfl, oc5, hb⟩
  obtain ⟨pa5, qa5, pb5, qb5, pc5, qc5, rfl, rfl, rfl⟩ := oc5.shape
  have hsz80 := hb.size
  replace bf42 := kept_froz hb (lt_of_cell bx41) bf42
  replace bf44 := kept_froz hb (lt_of_cell bx43) bf44
  replace bf46 := kept_froz hb (lt_of_cell bx45) bf46
  replace bf54 := kept_froz hb (lt_of_cell bx53) bf54
  replace bf56 := kept_froz hb (lt_of_cell bx55) bf56
  replace bf58 := kept_froz hb (lt_of_cell bx57) bf58
  replace bf60 := kept_froz hb (lt_of_cell bx59) bf60
  replace bx2 : w12.cell? ⟨w.heap.size, 0, none⟩ = some (.slice a0 c.vars.length c0) := kept_cell hb bx2
  replace bx3 : w12.cell? ⟨w.heap.size, 1, none⟩ = some (.slice a1 c.arrays.length c1) := kept_cell hb bx3
  replace bx4 : w12.cell? ⟨w.heap.size, 2, none⟩ = some (.slice a2 c.list.length c2) := kept_cell hb bx4
  replace bx5 : w12.cell? ⟨w.heap.size + 1, 0, none⟩ = some (.int .i64 ms.pc) := kept_cell hb bx5
  replace bx6 : w12.cell? ⟨w.heap.size + 1, 1, none⟩ = some (.slice a5 ms.regs.length c5) := kept_cell hb bx6
  replace bx7 : w12.cell? ⟨w.heap.size + 1, 2, none⟩ = some (.slice a3 ms.mem.vals.length c3) := kept_cell hb bx7
  replace bx8 : w12.cell? ⟨w.heap.size + 1, 3, none⟩ = some (.slice a4 ms.mem.arrs.length c4) := kept_cell hb bx8
  replace oc1 := oc1.below hb
  replace os2 := os2.below hb
  replace oe31 := own_below oe31 hb
  replace oc3 := oc3.below hb
  replace bx41 : w12.cell? ⟨w7.heap.size, 0, none⟩ = some (.slice pa3 c.vars.length qa3) := kept_cell hb bx41
  replace bx43 : w12.cell? ⟨w7.heap.size, 1, none⟩ = some (.slice pb3 c.arrays.length qb3) := kept_cell hb bx43
  replace bx45 : w12.cell? ⟨w7.heap.size, 2, none⟩ = some (.slice pc3 c.list.length qc3) := kept_cell hb bx45
  replace os4 := os4.below hb
  replace bx53 : w12.cell? ⟨w8.heap.size, 0, none⟩ = some (.int .i64 ms.pc) := kept_cell hb bx53
  replace bx55 : w12.cell? ⟨w8.heap.size, 1, none⟩ = some (.slice pr4 ms.regs.length qr4) := kept_cell hb bx55
  replace bx57 : w12.cell? ⟨w8.heap.size, 2, none⟩ = some (.slice px4 ms.mem.vals.length qx4) := kept_cell hb bx57
  replace bx59 : w12.cell? ⟨w8.heap.size, 3, none⟩ = some (.slice py4 ms.mem.arrs.length qy4) := kept_cell hb bx59
  replace oe51 := own_below oe51 hb
  replace tot := btr tot hb
  clear hb
  have iv81 := oc5.lt
  clear lt76 lt77 lt78 lt79
  have lt82 := lt_of_cell bx2
  have lt83 := lt_of_cell bx5
  have lt84 := lt_of_cell bx41
  have lt85 := lt_of_cell bx53
  refine hK.out _ _ ⟨bx41, bx43, bx45, bx2, bx3, bx4⟩ (fun hHeld => ?_)
  clear hK K
  try simp only [Act.put, List.setIfInBounds_toArray, List.set]
  refine wpAnyH_ready (rs := [3]) (by kernel_rfl) (by simp) ?_
  refine AllReadyH.cons rfl (fun K hK => ?_) AllReadyH.nil
  go_simp
  refine (eqCode_any _ _ _ _ _ _ c c _ (oc3.reads (by omega) (by omega) (by omega)) (oc5.reads (by omega) (by omega) (by omega))).mono ?_
  rintro e w13 ⟨rfl, hb⟩
  rw [decide_eq_true (Eq.refl c)]
  have hsz86 := hb.size
  replace bf42 := kept_froz hb (lt_of_cell bx41) bf42
  replace bf44 := kept_froz hb (lt_of_cell bx43) bf44
  replace bf46 := kept_froz hb (lt_of_cell bx45) bf46
  replace bf54 := kept_froz hb (lt_of_cell bx53) bf54
  replace bf56 := kept_froz hb (lt_of_cell bx55) bf56
  replace bf58 := kept_froz hb (lt_of_cell bx57) bf58
  replace bf60 := kept_froz hb (lt_of_cell bx59) bf60
  replace bx2 : w13.cell? ⟨w.heap.size, 0, none⟩ = some (.slice a0 c.vars.length c0) := kept_cell hb bx2
  replace bx3 : w13.cell? ⟨w.heap.size, 1, none⟩ = some (.slice a1 c.arrays.length c1) := kept_cell hb bx3
  replace bx4 : w13.cell? ⟨w.heap.size, 2, none⟩ = some (.slice a2 c.list.length c2) := kept_cell hb bx4
  replace bx5 : w13.cell? ⟨w.heap.size + 1, 0, none⟩ = some (.int .i64 ms.pc) := kept_cell hb bx5
  replace bx6 : w13.cell? ⟨w.heap.size + 1, 1, none⟩ = some (.slice a5 ms.regs.length c5) := kept_cell hb bx6
  replace bx7 : w13.cell? ⟨w.heap.size + 1, 2, none⟩ = some (.slice a3 ms.mem.vals.length c3) := kept_cell hb bx7
  replace bx8 : w13.cell? ⟨w.heap.size + 1, 3, none⟩ = some (.slice a4 ms.mem.arrs.length c4) := kept_cell hb bx8
  replace oc1 := oc1.below hb
  replace os2 := os2.below hb
  replace oe31 := own_below oe31 hb
  replace oc3 := oc3.below hb
  replace bx41 : w13.cell? ⟨w7.heap.size, 0, none⟩ = some (.slice pa3 c.vars.length qa3) := kept_cell hb bx41
  replace bx43 : w13.cell? ⟨w7.heap.size, 1, none⟩ = some (.slice pb3 c.arrays.length qb3) := kept_cell hb bx43
  replace bx45 : w13.cell? ⟨w7.heap.size, 2, none⟩ = some (.slice pc3 c.list.length qc3) := kept_cell hb bx45
  replace os4 := os4.below hb
  replace bx53 : w13.cell? ⟨w8.heap.size, 0, none⟩ = some (.int .i64 ms.pc) := kept_cell hb bx53
  replace bx55 : w13.cell? ⟨w8.heap.size, 1, none⟩ = some (.slice pr4 ms.regs.length qr4) := kept_cell hb bx55
  replace bx57 : w13.cell? ⟨w8.heap.size, 2, none⟩ = some (.slice px4 ms.mem.vals.length qx4) := kept_cell hb bx57
  replace bx59 : w13.cell? ⟨w8.heap.size, 3, none⟩ = some (.slice py4 ms.mem.arrs.length qy4) := kept_cell hb bx59
  replace oe51 := own_below oe51 hb
  replace oc5 := oc5.below hb
  replace tot := btr tot hb
  clear hb
  clear lt82 lt83 lt84 lt85
  have lt87 := lt_of_cell bx2
  have lt88 := lt_of_cell bx5
  have lt89 := lt_of_cell bx41
  have lt90 := lt_of_cell bx53
  refine hK.out _ _ ⟨bx41, bx43, bx45, bx2, bx3, bx4⟩ (fun hHeld => ?_)
  clear hK K
  try simp only [Act.put, List.setIfInBounds_toArray, List.set]
  refine take_d (i := 4) (d := 58) (v := ?_) rfl rfl (by kernel_rfl) (by kernel_rfl) (by kernel_rfl) (fun _ _ _ h => h) (Or.inl ⟨by rfl, ?_⟩) (by assumption) ?_
  rotate_left
  · intro W' hSw; (try dsimp only at hSw); obtain ⟨s0, s1, s2, s3, s4, s5⟩ := hSw; go_simp; try with_reducible rfl
  try simp only [Act.put, List.setIfInBounds_toArray, List.set]
  refine wpAnyH_done (by kernel_rfl) ?_ _
  refine NoPanic.normal ?_
  clear hHeld
  go_upto_region 16 with (fail)
  clear lt87 lt88 lt89 lt90
  have lt91 := lt_of_cell bx2
  have lt92 := lt_of_cell bx5
  have lt93 := lt_of_cell bx41
  have lt94 := lt_of_cell bx53
  refine wp_region_noPanic ?_
  refine wp_region_held_drew (S := (fun W' => W'.cell? ⟨w8.heap.size, 0, none⟩ = some (.int .i64 ms.pc) ∧ W'.cell? ⟨w8.heap.size, 1, none⟩ = some (.slice pr4 ms.regs.length qr4) ∧ W'.cell? ⟨w8.heap.size, 2, none⟩ = some (.slice px4 ms.mem.vals.length qx4) ∧ W'.cell? ⟨w8.heap.size, 3, none⟩ = some (.slice py4 ms.mem.arrs.length qy4) ∧ W'.cell? ⟨w.heap.size + 1, 0, none⟩ = some (.int .i64 ms.pc) ∧ W'.cell? ⟨w.heap.size + 1, 1, none⟩ = some (.slice a5 ms.regs.length c5) ∧ W'.cell? ⟨w.heap.size + 1, 2, none⟩ = some (.slice a3 ms.mem.vals.length c3) ∧ W'.cell? ⟨w.heap.size + 1, 3, none⟩ = some (.slice a4 ms.mem.arrs.length c4))) (by kernel_rfl) ⟨kept_cell (Below.drew (bself w13)) bx53, kept_cell (Below.drew (bself w13)) bx55, kept_cell (Below.drew (bself w13)) bx57, kept_cell (Below.drew (bself w13)) bx59, kept_cell (Below.drew (bself w13)) bx5, kept_cell (Below.drew (bself w13)) bx6, kept_cell (Below.drew (bself w13)) bx7, kept_cell (Below.drew (bself w13)) bx8⟩ (fun hHeld => ?_)
  obtain ⟨w14, hwd⟩ : ∃ X, X = World.drew w13 := ⟨_, rfl⟩
  rw [← hwd] at hHeld ⊢
  have hb : Below w13.heap.size w13 w14 := by rw [hwd]; exact Below.drew (bself _)
  clear hwd
  have hsz95 := hb.size
  replace bf42 := kept_froz hb (lt_of_cell bx41) bf42
  replace bf44 := kept_froz hb (lt_of_cell bx43) bf44
  replace bf46 := kept_froz hb (lt_of_cell bx45) bf46
  replace bf54 := kept_froz hb (lt_of_cell bx53) bf54
  replace bf56 := kept_froz hb (lt_of_cell bx55) bf56
  replace bf58 := kept_froz hb (lt_of_cell bx57) bf58
  replace bf60 := kept_froz hb (lt_of_cell bx59) bf60
  replace bx2 : w14.cell? ⟨w.heap.size, 0, none⟩ = some (.slice a0 c.vars.length c0) := kept_cell hb bx2
  replace bx3 : w14.cell? ⟨w.heap.size, 1, none⟩ = some (.slice a1 c.arrays.length c1) := kept_cell hb bx3
  replace bx4 : w14.cell? ⟨w.heap.size, 2, none⟩ = some (.slice a2 c.list.length c2) := kept_cell hb bx4
  replace bx5 : w14.cell? ⟨w.heap.size + 1, 0, none⟩ = some (.int .i64 ms.pc) := kept_cell hb bx5
  replace bx6 : w14.cell? ⟨w.heap.size + 1, 1, none⟩ = some (.slice a5 ms.regs.length c5) := kept_cell hb bx6
  replace bx7 : w14.cell? ⟨w.heap.size + 1, 2, none⟩ = some (.slice a3 ms.mem.vals.length c3) := kept_cell hb bx7
  replace bx8 : w14.cell? ⟨w.heap.size + 1, 3, none⟩ = some (.slice a4 ms.mem.arrs.length c4) := kept_cell hb bx8
  replace oc1 := oc1.below hb
  replace os2 := os2.below hb
  replace oe31 := own_below oe31 hb
  replace oc3 := oc3.below hb
  replace bx41 : w14.cell? ⟨w7.heap.size, 0, none⟩ = some (.slice pa3 c.vars.length qa3) := kept_cell hb bx41
  replace bx43 : w14.cell? ⟨w7.heap.size, 1, none⟩ = some (.slice pb3 c.arrays.length qb3) := kept_cell hb bx43
  replace bx45 : w14.cell? ⟨w7.heap.size, 2, none⟩ = some (.slice pc3 c.list.length qc3) := kept_cell hb bx45
  replace os4 := os4.below hb
  replace bx53 : w14.cell? ⟨w8.heap.size, 0, none⟩ = some (.int .i64 ms.pc) := kept_cell hb bx53
  replace bx55 : w14.cell? ⟨w8.heap.size, 1, none⟩ = some (.slice pr4 ms.regs.length qr4) := kept_cell hb bx55
  replace bx57 : w14.cell? ⟨w8.heap.size, 2, none⟩ = some (.slice px4 ms.mem.vals.length qx4) := kept_cell hb bx57
  replace bx59 : w14.cell? ⟨w8.heap.size, 3, none⟩ = some (.slice py4 ms.mem.arrs.length qy4) := kept_cell hb bx59
  replace oe51 := own_below oe51 hb
  replace oc5 := oc5.below hb
  replace tot := btr tot hb
  clear hb
  clear lt91 lt92 lt93 lt94
  have lt96 := lt_of_cell bx2
  have lt97 := lt_of_cell bx5
  have lt98 := lt_of_cell bx41
  have lt99 := lt_of_cell bx53
  refine take_d (i := 0) (d := 59) (v := ?_) rfl rfl (by kernel_rfl) (by kernel_rfl) (by kernel_rfl) (fun _ _ _ h => h) (Or.inl ⟨by rfl, ?_⟩) (by assumption) ?_
  rotate_left
  · intro W' hSw; (try dsimp only at hSw); obtain ⟨s0, s1, s2, s3, s4, s5, s6, s7⟩ := hSw; go_simp; try with_reducible rfl
  try simp only [Act.put, List.setIfInBounds_toArray, List.set]
  refine take_d (i := 1) (d := 60) (v := ?_) rfl rfl (by kernel_rfl) (by kernel_rfl) (by kernel_rfl) (fun _ _ _ h => h) (Or.inl ⟨by rfl, ?_⟩) (by assumption) ?_
  rotate_left
  · intro W' hSw; (try dsimp only at hSw); obtain ⟨s0, s1, s2, s3, s4, s5, s6, s7⟩ := hSw; go_simp; try with_reducible rfl
  try simp only [Act.put, List.setIfInBounds_toArray, List.set]
  refine wpAnyH_ready (rs := [2]) (by kernel_rfl) (by simp) ?_
  refine AllReadyH.cons rfl (fun K hK => ?_) AllReadyH.nil
  go_simp
  refine (toMachine_any _ _ _ ms _ (HRS.out _ tot) hr0 hm1 hm2 hm3).mono ?_
  rintro e w15 ⟨ur, ux, uy, us6, rfl, os6, hb⟩
  obtain ⟨pr6, qr6, rfl⟩ := own_shape os6.r
  obtain ⟨px6, qx6, rfl⟩ := own_shape os6.v
  obtain ⟨py6, qy6, rfl⟩ := own_shape os6.a.out
  have hsz100 := hb.size
  replace bf42 := kept_froz hb (lt_of_cell bx41) bf42
  replace bf44 := kept_froz hb (lt_of_cell bx43) bf44
  replace bf46 := kept_froz hb (lt_of_cell bx45) bf46
  replace bf54 := kept_froz hb (lt_of_cell bx53) bf54
  replace bf56 := kept_froz hb (lt_of_cell bx55) bf56
  replace bf58 := kept_froz hb (lt_of_cell bx57) bf58
  replace bf60 := kept_froz hb (lt_of_cell bx59) bf60
  replace bx2 : w15.cell? ⟨w.heap.size, 0, none⟩ = some (.slice a0 c.vars.length c0) := kept_cell hb bx2
  replace bx3 : w15.cell? ⟨w.heap.size, 1, none⟩ = some (.slice a1 c.arrays.length c1) := kept_cell hb bx3
  replace bx4 : w15.cell? ⟨w.heap.size, 2, none⟩ = some (.slice a2 c.list.length c2) := kept_cell hb bx4
  replace bx5 : w15.cell? ⟨w.heap.size + 1, 0, none⟩ = some (.int .i64 ms.pc) := kept_cell hb bx5
  replace bx6 : w15.cell? ⟨w.heap.size + 1, 1, none⟩ = some (.slice a5 ms.regs.length c5) := kept_cell hb bx6
  replace bx7 : w15.cell? ⟨w.heap.size + 1, 2, none⟩ = some (.slice a3 ms.mem.vals.length c3) := kept_cell hb bx7
  replace bx8 : w15.cell? ⟨w.heap.size + 1, 3, none⟩ = some (.slice a4 ms.mem.arrs.length c4) := kept_cell hb bx8
  replace oc1 := oc1.below hb
  replace os2 := os2.below hb
  replace oe31 := own_below oe31 hb
  replace oc3 := oc3.below hb
  replace bx41 : w15.cell? ⟨w7.heap.size, 0, none⟩ = some (.slice pa3 c.vars.length qa3) := kept_cell hb bx41
  replace bx43 : w15.cell? ⟨w7.heap.size, 1, none⟩ = some (.slice pb3 c.arrays.length qb3) := kept_cell hb bx43
  replace bx45 : w15.cell? ⟨w7.heap.size, 2, none⟩ = some (.slice pc3 c.list.length qc3) := kept_cell hb bx45
  replace os4 := os4.below hb
  replace bx53 : w15.cell? ⟨w8.heap.size, 0, none⟩ = some (.int .i64 ms.pc) := kept_cell hb bx53
  replace bx55 : w15.cell? ⟨w8.heap.size, 1, none⟩ = some (.slice pr4 ms.regs.length qr4) := kept_cell hb bx55
  replace bx57 : w15.cell? ⟨w8.heap.size, 2, none⟩ = some (.slice px4 ms.mem.vals.length qx4) := kept_cell hb bx57
  replace bx59 : w15.cell? ⟨w8.heap.size, 3, none⟩ = some (.slice py4 ms.mem.arrs.length qy4) := kept_cell hb bx59
  replace oe51 := own_below oe51 hb
  replace oc5 := oc5.below hb
  replace tot := btr tot hb
  clear hb
  have iv101 := os6.lt
  clear lt96 lt97 lt98 lt99
  have lt102 := lt_of_cell bx2
  have lt103 := lt_of_cell bx5
  have lt104 := lt_of_cell bx41
  have lt105 := lt_of_cell bx53
  refine hK.out _ _ ⟨bx53, bx55, bx57, bx59, bx5, bx6, bx7, bx8⟩ (fun hHeld => ?_)
  clear hK K
  try simp only [Act.put, List.setIfInBounds_toArray, List.set]
  refine wpAnyH_ready (rs := [3]) (by kernel_rfl) (by simp) ?_
  refine AllReadyH.cons rfl (fun K hK => ?_) AllReadyH.nil
  go_simp
  refine (eqMachine_any _ _ _ _ _ _ ms _ (os4.readsS hr0 hm1 hm2 hm3) (os6.readsS hr0 hm1 hm2 hm3)).mono ?_
  rintro e w16 ⟨rfl, hb⟩
  have hsz106 := hb.size
  replace bf42 := kept_froz hb (lt_of_cell bx41) bf42
  replace bf44 := kept_froz hb (lt_of_cell bx43) bf44
  replace bf46 := kept_froz hb (lt_of_cell bx45) bf46
  replace bf54 := kept_froz hb (lt_of_cell bx53) bf54
  replace bf56 := kept_froz hb (lt_of_cell bx55) bf56
  replace bf58 := kept_froz hb (lt_of_cell bx57) bf58
  replace bf60 := kept_froz hb (lt_of_cell bx59) bf60
  replace bx2 : w16.cell? ⟨w.heap.size, 0, none⟩ = some (.slice a0 c.vars.length c0) := kept_cell hb bx2
  replace bx3 : w16.cell? ⟨w.heap.size, 1, none⟩ = some (.slice a1 c.arrays.length c1) := kept_cell hb bx3
  replace bx4 : w16.cell? ⟨w.heap.size, 2, none⟩ = some (.slice a2 c.list.length c2) := kept_cell hb bx4
  replace bx5 : w16.cell? ⟨w.heap.size + 1, 0, none⟩ = some (.int .i64 ms.pc) := kept_cell hb bx5
  replace bx6 : w16.cell? ⟨w.heap.size + 1, 1, none⟩ = some (.slice a5 ms.regs.length c5) := kept_cell hb bx6
  replace bx7 : w16.cell? ⟨w.heap.size + 1, 2, none⟩ = some (.slice a3 ms.mem.vals.length c3) := kept_cell hb bx7
  replace bx8 : w16.cell? ⟨w.heap.size + 1, 3, none⟩ = some (.slice a4 ms.mem.arrs.length c4) := kept_cell hb bx8
  replace oc1 := oc1.below hb
  replace os2 := os2.below hb
  replace oe31 := own_below oe31 hb
  replace oc3 := oc3.below hb
  replace bx41 : w16.cell? ⟨w7.heap.size, 0, none⟩ = some (.slice pa3 c.vars.length qa3) := kept_cell hb bx41
  replace bx43 : w16.cell? ⟨w7.heap.size, 1, none⟩ = some (.slice pb3 c.arrays.length qb3) := kept_cell hb bx43
  replace bx45 : w16.cell? ⟨w7.heap.size, 2, none⟩ = some (.slice pc3 c.list.length qc3) := kept_cell hb bx45
  replace os4 := os4.below hb
  replace bx53 : w16.cell? ⟨w8.heap.size, 0, none⟩ = some (.int .i64 ms.pc) := kept_cell hb bx53
  replace bx55 : w16.cell? ⟨w8.heap.size, 1, none⟩ = some (.slice pr4 ms.regs.length qr4) := kept_cell hb bx55
  replace bx57 : w16.cell? ⟨w8.heap.size, 2, none⟩ = some (.slice px4 ms.mem.vals.length qx4) := kept_cell hb bx57
  replace bx59 : w16.cell? ⟨w8.heap.size, 3, none⟩ = some (.slice py4 ms.mem.arrs.length qy4) := kept_cell hb bx59
  replace oe51 := own_below oe51 hb
  replace oc5 := oc5.below hb
  replace os6 := os6.below hb
  replace tot := btr tot hb
  clear hb
  clear lt102 lt103 lt104 lt105
  have lt107 := lt_of_cell bx2
  have lt108 := lt_of_cell bx5
  have lt109 := lt_of_cell bx41
  have lt110 := lt_of_cell bx53
  refine hK.out _ _ ⟨bx53, bx55, bx57, bx59, bx5, bx6, bx7, bx8⟩ (fun hHeld => ?_)
  clear hK K
  try simp only [Act.put, List.setIfInBounds_toArray, List.set]
  refine take_d (i := 4) (d := 63) (v := ?_) rfl rfl (by kernel_rfl) (by kernel_rfl) (by kernel_rfl) (fun _ _ _ h => h) (Or.inl ⟨by rfl, ?_⟩) (by assumption) ?_
  rotate_left
  · intro W' hSw; (try dsimp only at hSw); obtain ⟨s0, s1, s2, s3, s4, s5, s6, s7⟩ := hSw; go_simp; try with_reducible rfl
  try simp only [Act.put, List.setIfInBounds_toArray, List.set]
  refine wpAnyH_done (by kernel_rfl) ?_ _
  refine NoPanic.normal ?_
  clear hHeld
  go_wp2_with fail
  refine (markCode_any _ _ _ c 1 _ _ oc3 (by omega) (by omega) (by omega) (by omega) (by omega)).mono ?_
  rintro e w17 ⟨rfl, mc, hb⟩
  have hsz111 := hb.size
  replace bf42 := chg_froz hb (lt_of_cell bx41) bf42 (fun h => by have := iv37 _ h; omega)
  replace bf44 := chg_froz hb (lt_of_cell bx43) bf44 (fun h => by have := iv37 _ h; omega)
  replace bf46 := chg_froz hb (lt_of_cell bx45) bf46 (fun h => by have := iv37 _ h; omega)
  replace bf54 := chg_froz hb (lt_of_cell bx53) bf54 (fun h => by have := iv37 _ h; omega)
  replace bf56 := chg_froz hb (lt_of_cell bx55) bf56 (fun h => by have := iv37 _ h; omega)
  replace bf58 := chg_froz hb (lt_of_cell bx57) bf58 (fun h => by have := iv37 _ h; omega)
  replace bf60 := chg_froz hb (lt_of_cell bx59) bf60 (fun h => by have := iv37 _ h; omega)
  replace bx2 : w17.cell? ⟨w.heap.size, 0, none⟩ = some (.slice a0 c.vars.length c0) := chg_cell hb bx2 (fun h => by have := iv37 _ h; omega)
  replace bx3 : w17.cell? ⟨w.heap.size, 1, none⟩ = some (.slice a1 c.arrays.length c1) := chg_cell hb bx3 (fun h => by have := iv37 _ h; omega)
  replace bx4 : w17.cell? ⟨w.heap.size, 2, none⟩ = some (.slice a2 c.list.length c2) := chg_cell hb bx4 (fun h => by have := iv37 _ h; omega)
  replace bx5 : w17.cell? ⟨w.heap.size + 1, 0, none⟩ = some (.int .i64 ms.pc) := chg_cell hb bx5 (fun h => by have := iv37 _ h; omega)
  replace bx6 : w17.cell? ⟨w.heap.size + 1, 1, none⟩ = some (.slice a5 ms.regs.length c5) := chg_cell hb bx6 (fun h => by have := iv37 _ h; omega)
  replace bx7 : w17.cell? ⟨w.heap.size + 1, 2, none⟩ = some (.slice a3 ms.mem.vals.length c3) := chg_cell hb bx7 (fun h => by have := iv37 _ h; omega)
  replace bx8 : w17.cell? ⟨w.heap.size + 1, 3, none⟩ = some (.slice a4 ms.mem.arrs.length c4) := chg_cell hb bx8 (fun h => by have := iv37 _ h; omega)
  replace oc1 := oc1.keep hb (fun gq h h2 => by have := iv24 gq h; have := iv37 gq h2; omega)
  replace os2 := os2.keep hb (fun gq h h2 => by have := iv28 gq h; have := iv37 gq h2; omega)
  replace oe31 := own_keep oe31 hb (fun gq h h2 => by have := iv33 gq h; have := iv37 gq h2; omega)
  replace bx41 : w17.cell? ⟨w7.heap.size, 0, none⟩ = some (.slice pa3 c.vars.length qa3) := chg_cell hb bx41 (fun h => by have := iv37 _ h; omega)
  replace bx43 : w17.cell? ⟨w7.heap.size, 1, none⟩ = some (.slice pb3 c.arrays.length qb3) := chg_cell hb bx43 (fun h => by have := iv37 _ h; omega)
  replace bx45 : w17.cell? ⟨w7.heap.size, 2, none⟩ = some (.slice pc3 c.list.length qc3) := chg_cell hb bx45 (fun h => by have := iv37 _ h; omega)
  replace os4 := os4.keep hb (fun gq h h2 => by have := iv47 gq h; have := iv37 gq h2; omega)
  replace bx53 : w17.cell? ⟨w8.heap.size, 0, none⟩ = some (.int .i64 ms.pc) := chg_cell hb bx53 (fun h => by have := iv37 _ h; omega)
  replace bx55 : w17.cell? ⟨w8.heap.size, 1, none⟩ = some (.slice pr4 ms.regs.length qr4) := chg_cell hb bx55 (fun h => by have := iv37 _ h; omega)
  replace bx57 : w17.cell? ⟨w8.heap.size, 2, none⟩ = some (.slice px4 ms.mem.vals.length qx4) := chg_cell hb bx57 (fun h => by have := iv37 _ h; omega)
  replace bx59 : w17.cell? ⟨w8.heap.size, 3, none⟩ = some (.slice py4 ms.mem.arrs.length qy4) := chg_cell hb bx59 (fun h => by have := iv37 _ h; omega)
  replace oe51 := own_keep oe51 hb (fun gq h h2 => by have := iv61 gq h; have := iv37 gq h2; omega)
  replace oc5 := oc5.keep hb (fun gq h h2 => by have := iv81 gq h; have := iv37 gq h2; omega)
  replace os6 := os6.keep hb (fun gq h h2 => by have := iv101 gq h; have := iv37 gq h2; omega)
  replace tot := tot.trans (hb.below w.heap.size (by have := tot.size; omega) (fun gq hgq h => by have := iv37 gq h; omega))
  clear hb
  clear oc3 iv37 mc
  clear bx41 bf42 bx43 bf44 bx45 bf46
  clear lt107 lt108 lt109 lt110
  have lt112 := lt_of_cell bx2
  have lt113 := lt_of_cell bx5
  have lt114 := lt_of_cell bx53
  go_wp2_with fail
  refine (markMachine_any _ _ _ _ ms (1 + sizeM c) _ _ os4 (by omega) (by omega) (by omega) (by omega) (by omega)).mono ?_
  rintro e w18 ⟨rfl, hb⟩
  have hsz115 := hb.size
  replace bf54 := chg_froz hb (lt_of_cell bx53) bf54 (fun h => by have := iv47 _ h; omega)
  replace bf56 := chg_froz hb (lt_of_cell bx55) bf56 (fun h => by have := iv47 _ h; omega)
  replace bf58 := chg_froz hb (lt_of_cell bx57) bf58 (fun h => by have := iv47 _ h; omega)
  replace bf60 := chg_froz hb (lt_of_cell bx59) bf60 (fun h => by have := iv47 _ h; omega)
  replace bx2 : w18.cell? ⟨w.heap.size, 0, none⟩ = some (.slice a0 c.vars.length c0) := chg_cell hb bx2 (fun h => by have := iv47 _ h; omega)
  replace bx3 : w18.cell? ⟨w.heap.size, 1, none⟩ = some (.slice a1 c.arrays.length c1) := chg_cell hb bx3 (fun h => by have := iv47 _ h; omega)
  replace bx4 : w18.cell? ⟨w.heap.size, 2, none⟩ = some (.slice a2 c.list.length c2) := chg_cell hb bx4 (fun h => by have := iv47 _ h; omega)
  replace bx5 : w18.cell? ⟨w.heap.size + 1, 0, none⟩ = some (.int .i64 ms.pc) := chg_cell hb bx5 (fun h => by have := iv47 _ h; omega)
  replace bx6 : w18.cell? ⟨w.heap.size + 1, 1, none⟩ = some (.slice a5 ms.regs.length c5) := chg_cell hb bx6 (fun h => by have := iv47 _ h; omega)
  replace bx7 : w18.cell? ⟨w.heap.size + 1, 2, none⟩ = some (.slice a3 ms.mem.vals.length c3) := chg_cell hb bx7 (fun h => by have := iv47 _ h; omega)
  replace bx8 : w18.cell? ⟨w.heap.size + 1, 3, none⟩ = some (.slice a4 ms.mem.arrs.length c4) := chg_cell hb bx8 (fun h => by have := iv47 _ h; omega)
  replace oc1 := oc1.keep hb (fun gq h h2 => by have := iv24 gq h; have := iv47 gq h2; omega)
  replace os2 := os2.keep hb (fun gq h h2 => by have := iv28 gq h; have := iv47 gq h2; omega)
  replace oe31 := own_keep oe31 hb (fun gq h h2 => by have := iv33 gq h; have := iv47 gq h2; omega)
  replace bx53 : w18.cell? ⟨w8.heap.size, 0, none⟩ = some (.int .i64 ms.pc) := chg_cell hb bx53 (fun h => by have := iv47 _ h; omega)
  replace bx55 : w18.cell? ⟨w8.heap.size, 1, none⟩ = some (.slice pr4 ms.regs.length qr4) := chg_cell hb bx55 (fun h => by have := iv47 _ h; omega)
  replace bx57 : w18.cell? ⟨w8.heap.size, 2, none⟩ = some (.slice px4 ms.mem.vals.length qx4) := chg_cell hb bx57 (fun h => by have := iv47 _ h; omega)
  replace bx59 : w18.cell? ⟨w8.heap.size, 3, none⟩ = some (.slice py4 ms.mem.arrs.length qy4) := chg_cell hb bx59 (fun h => by have := iv47 _ h; omega)
  replace oe51 := own_keep oe51 hb (fun gq h h2 => by have := iv61 gq h; have := iv47 gq h2; omega)
  replace oc5 := oc5.keep hb (fun gq h h2 => by have := iv81 gq h; have := iv47 gq h2; omega)
  replace os6 := os6.keep hb (fun gq h h2 => by have := iv101 gq h; have := iv47 gq h2; omega)
  replace tot := tot.trans (hb.below w.heap.size (by have := tot.size; omega) (fun gq hgq h => by have := iv47 gq h; omega))
  clear hb
  clear os4 iv47
  clear bx53 bf54 bx55 bf56 bx57 bf58 bx59 bf60
  clear lt112 lt113 lt114
  have lt116 := lt_of_cell bx2
  have lt117 := lt_of_cell bx5
  go_wp2_with fail
  refine (eqEventS_any _ _ L L _ (reads_of_owns oe51 (by omega)) (reads_of_owns oe31 (by omega))).mono ?_
  rintro e w19 ⟨rfl, hb⟩
  rw [decide_eq_true (Eq.refl L)]
  have hsz118 := hb.size
  replace bx2 : w19.cell? ⟨w.heap.size, 0, none⟩ = some (.slice a0 c.vars.length c0) := kept_cell hb bx2
  replace bx3 : w19.cell? ⟨w.heap.size, 1, none⟩ = some (.slice a1 c.arrays.length c1) := kept_cell hb bx3
  replace bx4 : w19.cell? ⟨w.heap.size, 2, none⟩ = some (.slice a2 c.list.length c2) := kept_cell hb bx4
  replace bx5 : w19.cell? ⟨w.heap.size + 1, 0, none⟩ = some (.int .i64 ms.pc) := kept_cell hb bx5
  replace bx6 : w19.cell? ⟨w.heap.size + 1, 1, none⟩ = some (.slice a5 ms.regs.length c5) := kept_cell hb bx6
  replace bx7 : w19.cell? ⟨w.heap.size + 1, 2, none⟩ = some (.slice a3 ms.mem.vals.length c3) := kept_cell hb bx7
  replace bx8 : w19.cell? ⟨w.heap.size + 1, 3, none⟩ = some (.slice a4 ms.mem.arrs.length c4) := kept_cell hb bx8
  replace oc1 := oc1.below hb
  replace os2 := os2.below hb
  replace oe31 := own_below oe31 hb
  replace oe51 := own_below oe51 hb
  replace oc5 := oc5.below hb
  replace os6 := os6.below hb
  replace tot := btr tot hb
  clear hb
  clear lt116 lt117
  have lt119 := lt_of_cell bx2
  have lt120 := lt_of_cell bx5
  go_wp2_with fail
  refine (markEventS_any _ L (1) _ _ oe51 (by omega) (by omega) (by omega)).mono ?_
  rintro e w20 ⟨rfl, mg121, hb⟩
  have hsz122 := hb.size
  replace bx2 : w20.cell? ⟨w.heap.size, 0, none⟩ = some (.slice a0 c.vars.length c0) := chg_cell hb bx2 (fun h => by have := iv61 _ h; omega)
  replace bx3 : w20.cell? ⟨w.heap.size, 1, none⟩ = some (.slice a1 c.arrays.length c1) := chg_cell hb bx3 (fun h => by have := iv61 _ h; omega)
  replace bx4 : w20.cell? ⟨w.heap.size, 2, none⟩ = some (.slice a2 c.list.length c2) := chg_cell hb bx4 (fun h => by have := iv61 _ h; omega)
  replace bx5 : w20.cell? ⟨w.heap.size + 1, 0, none⟩ = some (.int .i64 ms.pc) := chg_cell hb bx5 (fun h => by have := iv61 _ h; omega)
  replace bx6 : w20.cell? ⟨w.heap.size + 1, 1, none⟩ = some (.slice a5 ms.regs.length c5) := chg_cell hb bx6 (fun h => by have := iv61 _ h; omega)
  replace bx7 : w20.cell? ⟨w.heap.size + 1, 2, none⟩ = some (.slice a3 ms.mem.vals.length c3) := chg_cell hb bx7 (fun h => by have := iv61 _ h; omega)
  replace bx8 : w20.cell? ⟨w.heap.size + 1, 3, none⟩ = some (.slice a4 ms.mem.arrs.length c4) := chg_cell hb bx8 (fun h => by have := iv61 _ h; omega)
  replace oc1 := oc1.keep hb (fun gq h h2 => by have := iv24 gq h; have := iv61 gq h2; omega)
  replace os2 := os2.keep hb (fun gq h h2 => by have := iv28 gq h; have := iv61 gq h2; omega)
  replace oe31 := own_keep oe31 hb (fun gq h h2 => by have := iv33 gq h; have := iv61 gq h2; omega)
  replace oc5 := oc5.keep hb (fun gq h h2 => by have := iv81 gq h; have := iv61 gq h2; omega)
  replace os6 := os6.keep hb (fun gq h h2 => by have := iv101 gq h; have := iv61 gq h2; omega)
  replace tot := tot.trans (hb.below w.heap.size (by have := tot.size; omega) (fun gq hgq h => by have := iv61 gq h; omega))
  clear hb
  clear oe51
  clear lt119 lt120
  have lt123 := lt_of_cell bx2
  have lt124 := lt_of_cell bx5
  go_wp2_with fail
  refine (heldEventS_b _ L.length (1) _ (reads_of_owns mg121 (by omega)) (by omega) (by omega) (by omega)).mono ?_
  rintro e w21 ⟨rfl, hb⟩
  have hsz125 := hb.size
  replace bx2 : w21.cell? ⟨w.heap.size, 0, none⟩ = some (.slice a0 c.vars.length c0) := kept_cell hb bx2
  replace bx3 : w21.cell? ⟨w.heap.size, 1, none⟩ = some (.slice a1 c.arrays.length c1) := kept_cell hb bx3
  replace bx4 : w21.cell? ⟨w.heap.size, 2, none⟩ = some (.slice a2 c.list.length c2) := kept_cell hb bx4
  replace bx5 : w21.cell? ⟨w.heap.size + 1, 0, none⟩ = some (.int .i64 ms.pc) := kept_cell hb bx5
  replace bx6 : w21.cell? ⟨w.heap.size + 1, 1, none⟩ = some (.slice a5 ms.regs.length c5) := kept_cell hb bx6
  replace bx7 : w21.cell? ⟨w.heap.size + 1, 2, none⟩ = some (.slice a3 ms.mem.vals.length c3) := kept_cell hb bx7
  replace bx8 : w21.cell? ⟨w.heap.size + 1, 3, none⟩ = some (.slice a4 ms.mem.arrs.length c4) := kept_cell hb bx8
  replace oc1 := oc1.below hb
  replace os2 := os2.below hb
  replace oe31 := own_below oe31 hb
  replace oc5 := oc5.below hb
  replace os6 := os6.below hb
  replace mg121 := own_below mg121 hb
  replace tot := btr tot hb
  clear hb
  clear lt123 lt124
  have lt126 := lt_of_cell bx2
  have lt127 := lt_of_cell bx5
  go_upto_region 31 with (fail)
  clear lt126 lt127
  have lt128 := lt_of_cell bx2
  have lt129 := lt_of_cell bx5
  refine wp_region_noPanic ?_
  refine wp_region_held_drew (S := (fun W' => W'.cell? ⟨w.heap.size, 0, none⟩ = some (.slice a0 c.vars.length c0) ∧ W'.cell? ⟨w.heap.size, 1, none⟩ = some (.slice a1 c.arrays.length c1) ∧ W'.cell? ⟨w.heap.size, 2, none⟩ = some (.slice a2 c.list.length c2) ∧ W'.cell? ⟨w.heap.size + 1, 0, none⟩ = some (.int .i64 ms.pc) ∧ W'.cell? ⟨w.heap.size + 1, 1, none⟩ = some (.slice a5 ms.regs.length c5) ∧ W'.cell? ⟨w.heap.size + 1, 2, none⟩ = some (.slice a3 ms.mem.vals.length c3) ∧ W'.cell? ⟨w.heap.size + 1, 3, none⟩ = some (.slice a4 ms.mem.arrs.length c4))) (by kernel_rfl) ⟨kept_cell (Below.drew (bself w21)) bx2, kept_cell (Below.drew (bself w21)) bx3, kept_cell (Below.drew (bself w21)) bx4, kept_cell (Below.drew (bself w21)) bx5, kept_cell (Below.drew (bself w21)) bx6, kept_cell (Below.drew (bself w21)) bx7, kept_cell (Below.drew (bself w21)) bx8⟩ (fun hHeld => ?_)
  obtain ⟨w22, hwd⟩ : ∃ X, X = World.drew w21 := ⟨_, rfl⟩
  rw [← hwd] at hHeld ⊢
  have hb : Below w21.heap.size w21 w22 := by rw [hwd]; exact Below.drew (bself _)
  clear hwd
  have hsz130 := hb.size
  replace bx2 : w22.cell? ⟨w.heap.size, 0, none⟩ = some (.slice a0 c.vars.length c0) := kept_cell hb bx2
  replace bx3 : w22.cell? ⟨w.heap.size, 1, none⟩ = some (.slice a1 c.arrays.length c1) := kept_cell hb bx3
  replace bx4 : w22.cell? ⟨w.heap.size, 2, none⟩ = some (.slice a2 c.list.length c2) := kept_cell hb bx4
  replace bx5 : w22.cell? ⟨w.heap.size + 1, 0, none⟩ = some (.int .i64 ms.pc) := kept_cell hb bx5
  replace bx6 : w22.cell? ⟨w.heap.size + 1, 1, none⟩ = some (.slice a5 ms.regs.length c5) := kept_cell hb bx6
  replace bx7 : w22.cell? ⟨w.heap.size + 1, 2, none⟩ = some (.slice a3 ms.mem.vals.length c3) := kept_cell hb bx7
  replace bx8 : w22.cell? ⟨w.heap.size + 1, 3, none⟩ = some (.slice a4 ms.mem.arrs.length c4) := kept_cell hb bx8
  replace oc1 := oc1.below hb
  replace os2 := os2.below hb
  replace oe31 := own_below oe31 hb
  replace oc5 := oc5.below hb
  replace os6 := os6.below hb
  replace mg121 := own_below mg121 hb
  replace tot := btr tot hb
  clear hb
  clear lt128 lt129
  have lt131 := lt_of_cell bx2
  have lt132 := lt_of_cell bx5
  refine take_d (i := 0) (d := 95) (v := ?_) rfl rfl (by kernel_rfl) (by kernel_rfl) (by kernel_rfl) (fun _ _ _ h => h) (Or.inl ⟨by rfl, ?_⟩) (by assumption) ?_
  rotate_left
  · intro W' hSw; (try dsimp only at hSw); obtain ⟨s0, s1, s2, s3, s4, s5, s6⟩ := hSw; go_simp; try with_reducible rfl
  try simp only [Act.put, List.setIfInBounds_toArray, List.set]
  refine take_d (i := 2) (d := 97) (v := ?_) rfl rfl (by kernel_rfl) (by kernel_rfl) (by kernel_rfl) (fun _ _ _ h => h) (Or.inl ⟨by rfl, ?_⟩) (by assumption) ?_
  rotate_left
  · intro W' hSw; (try dsimp only at hSw); obtain ⟨s0, s1, s2, s3, s4, s5, s6⟩ := hSw; go_simp; try with_reducible rfl
  try simp only [Act.put, List.setIfInBounds_toArray, List.set]
  refine wpAnyH_ready (rs := [1]) (by kernel_rfl) (by simp) ?_
  refine AllReadyH.cons rfl (fun K hK => ?_) AllReadyH.nil
  go_simp
  refine (toCode_any _ _ _ c _ (HR0.out _ tot) (by omega) (by omega) (by omega)).mono ?_
  rintro e w23 ⟨ua, ub, uc, rfl, oc7, hb⟩
  obtain ⟨pa7, qa7, pb7, qb7, pc7, qc7, rfl, rfl, rfl⟩ := oc7.shape
  have hsz133 := hb.size
  replace bx2 : w23.cell? ⟨w.heap.size, 0, none⟩ = some (.slice a0 c.vars.length c0) := kept_cell hb bx2
  replace bx3 : w23.cell? ⟨w.heap.size, 1, none⟩ = some (.slice a1 c.arrays.length c1) := kept_cell hb bx3
  replace bx4 : w23.cell? ⟨w.heap.size, 2, none⟩ = some (.slice a2 c.list.length c2) := kept_cell hb bx4
  replace bx5 : w23.cell? ⟨w.heap.size + 1, 0, none⟩ = some (.int .i64 ms.pc) := kept_cell hb bx5
  replace bx6 : w23.cell? ⟨w.heap.size + 1, 1, none⟩ = some (.slice a5 ms.regs.length c5) := kept_cell hb bx6
  replace bx7 : w23.cell? ⟨w.heap.size + 1, 2, none⟩ = some (.slice a3 ms.mem.vals.length c3) := kept_cell hb bx7
  replace bx8 : w23.cell? ⟨w.heap.size + 1, 3, none⟩ = some (.slice a4 ms.mem.arrs.length c4) := kept_cell hb bx8
  replace oc1 := oc1.below hb
  replace os2 := os2.below hb
  replace oe31 := own_below oe31 hb
  replace oc5 := oc5.below hb
  replace os6 := os6.below hb
  replace mg121 := own_below mg121 hb
  replace tot := btr tot hb
  clear hb
  have iv134 := oc7.lt
  clear lt131 lt132
  have lt135 := lt_of_cell bx2
  have lt136 := lt_of_cell bx5
  refine hK.out _ _ ⟨bx2, bx3, bx4, bx5, bx6, bx7, bx8⟩ (fun hHeld => ?_)
  clear hK K
  try simp only [Act.put, List.setIfInBounds_toArray, List.set]
  refine wpAnyH_ready (rs := [3]) (by kernel_rfl) (by simp) ?_
  refine AllReadyH.cons rfl (fun K hK => ?_) AllReadyH.nil
  go_simp
  refine (toMachine_any _ _ _ ms _ (HRS.out _ tot) hr0 hm1 hm2 hm3).mono ?_
  rintro e w24 ⟨ur, ux, uy, us8, rfl, os8, hb⟩
  obtain ⟨pr8, qr8, rfl⟩ := own_shape os8.r
  obtain ⟨px8, qx8, rfl⟩ := own_shape os8.v
  obtain ⟨py8, qy8, rfl⟩ := own_shape os8.a.out
  have hsz137 := hb.size
  replace bx2 : w24.cell? ⟨w.heap.size, 0, none⟩ = some (.slice a0 c.vars.length c0) := kept_cell hb bx2
  replace bx3 : w24.cell? ⟨w.heap.size, 1, none⟩ = some (.slice a1 c.arrays.length c1) := kept_cell hb bx3
  replace bx4 : w24.cell? ⟨w.heap.size, 2, none⟩ = some (.slice a2 c.list.length c2) := kept_cell hb bx4
  replace bx5 : w24.cell? ⟨w.heap.size + 1, 0, none⟩ = some (.int .i64 ms.pc) := kept_cell hb bx5
  replace bx6 : w24.cell? ⟨w.heap.size + 1, 1, none⟩ = some (.slice a5 ms.regs.length c5) := kept_cell hb bx6
  replace bx7 : w24.cell? ⟨w.heap.size + 1, 2, none⟩ = some (.slice a3 ms.mem.vals.length c3) := kept_cell hb bx7
  replace bx8 : w24.cell? ⟨w.heap.size + 1, 3, none⟩ = some (.slice a4 ms.mem.arrs.length c4) := kept_cell hb bx8
  replace oc1 := oc1.below hb
  replace os2 := os2.below hb
  replace oe31 := own_below oe31 hb
  replace oc5 := oc5.below hb
  replace os6 := os6.below hb
  replace mg121 := own_below mg121 hb
  replace oc7 := oc7.below hb
  replace tot := btr tot hb
  clear hb
  have iv138 := os8.lt
  clear lt135 lt136
  have lt139 := lt_of_cell bx2
  have lt140 := lt_of_cell bx5
  refine hK.out _ _ ⟨bx2, bx3, bx4, bx5, bx6, bx7, bx8⟩ (fun hHeld => ?_)
  clear hK K
  try simp only [Act.put, List.setIfInBounds_toArray, List.set]
  refine wpAnyH_ready (rs := [4]) (by kernel_rfl) (by simp) ?_
  refine AllReadyH.cons rfl (fun K hK => ?_) AllReadyH.nil
  go_simp
  refine (HI.out _ _ _ _ _ _ _ (oc7.reads (by omega) (by omega) (by omega)) (os8.readsS hr0 hm1 hm2 hm3) hr0 hm1 hm2 hm3).mono ?_
  rintro e w25 ⟨ue, rfl, oe141, hb⟩
  obtain ⟨P141, Q141, rfl⟩ := own_shape oe141
  have hsz142 := hb.size
  replace bx2 : w25.cell? ⟨w.heap.size, 0, none⟩ = some (.slice a0 c.vars.length c0) := kept_cell hb bx2
  replace bx3 : w25.cell? ⟨w.heap.size, 1, none⟩ = some (.slice a1 c.arrays.length c1) := kept_cell hb bx3
  replace bx4 : w25.cell? ⟨w.heap.size, 2, none⟩ = some (.slice a2 c.list.length c2) := kept_cell hb bx4
  replace bx5 : w25.cell? ⟨w.heap.size + 1, 0, none⟩ = some (.int .i64 ms.pc) := kept_cell hb bx5
  replace bx6 : w25.cell? ⟨w.heap.size + 1, 1, none⟩ = some (.slice a5 ms.regs.length c5) := kept_cell hb bx6
  replace bx7 : w25.cell? ⟨w.heap.size + 1, 2, none⟩ = some (.slice a3 ms.mem.vals.length c3) := kept_cell hb bx7
  replace bx8 : w25.cell? ⟨w.heap.size + 1, 3, none⟩ = some (.slice a4 ms.mem.arrs.length c4) := kept_cell hb bx8
  replace oc1 := oc1.below hb
  replace os2 := os2.below hb
  replace oe31 := own_below oe31 hb
  replace oc5 := oc5.below hb
  replace os6 := os6.below hb
  replace mg121 := own_below mg121 hb
  replace oc7 := oc7.below hb
  replace os8 := os8.below hb
  replace tot := btr tot hb
  clear hb
  have iv143 := oe141.lt
  clear lt139 lt140
  have lt144 := lt_of_cell bx2
  have lt145 := lt_of_cell bx5
  refine hK.out _ _ ⟨bx2, bx3, bx4, bx5, bx6, bx7, bx8⟩ (fun hHeld => ?_)
  clear hK K
  try simp only [Act.put, List.setIfInBounds_toArray, List.set]
  refine take_d (i := 5) (d := 94) (v := ?_) rfl rfl (by kernel_rfl) (by kernel_rfl) (by kernel_rfl) (fun _ _ _ h => h) (Or.inl ⟨by rfl, ?_⟩) (by assumption) ?_
  rotate_left
  · intro W' hSw; (try dsimp only at hSw); obtain ⟨s0, s1, s2, s3, s4, s5, s6⟩ := hSw; go_simp; try with_reducible rfl
  try simp only [Act.put, List.setIfInBounds_toArray, List.set]
  refine take_d (i := 6) (d := 100) (v := ?_) rfl rfl (by kernel_rfl) (by kernel_rfl) (by kernel_rfl) (fun _ _ _ h => h) (Or.inl ⟨by rfl, ?_⟩) (by assumption) ?_
  rotate_left
  · intro W' hSw; (try dsimp only at hSw); obtain ⟨s0, s1, s2, s3, s4, s5, s6⟩ := hSw; go_simp; try with_reducible rfl
  try simp only [Act.put, List.setIfInBounds_toArray, List.set]
  refine take_d (i := 7) (d := 101) (v := ?_) rfl rfl (by kernel_rfl) (by kernel_rfl) (by kernel_rfl) (fun _ _ _ h => h) (Or.inl ⟨by rfl, ?_⟩) (by assumption) ?_
  rotate_left
  · intro W' hSw; (try dsimp only at hSw); obtain ⟨s0, s1, s2, s3, s4, s5, s6⟩ := hSw; go_simp; try with_reducible rfl
  try simp only [Act.put, List.setIfInBounds_toArray, List.set]
  refine take_d (i := 8) (d := 15) (v := ?_) rfl rfl (by kernel_rfl) (by kernel_rfl) (by kernel_rfl) (fun _ _ _ h => h) (Or.inl ⟨by rfl, ?_⟩) (by assumption) ?_
  rotate_left
  · intro W' hSw; (try dsimp only at hSw); obtain ⟨s0, s1, s2, s3, s4, s5, s6⟩ := hSw; go_simp; try with_reducible rfl
  try simp only [Act.put, List.setIfInBounds_toArray, List.set]
  refine take_d (i := 9) (d := 16) (v := ?_) rfl rfl (by kernel_rfl) (by kernel_rfl) (by kernel_rfl) (fun _ _ _ h => h) (Or.inl ⟨by rfl, ?_⟩) (by assumption) ?_
  rotate_left
  · intro W' hSw; (try dsimp only at hSw); obtain ⟨s0, s1, s2, s3, s4, s5, s6⟩ := hSw; go_simp; try with_reducible rfl
  try simp only [Act.put, List.setIfInBounds_toArray, List.set]
  refine wpAnyH_done (by kernel_rfl) ?_ _
  refine NoPanic.normal ?_
  clear hHeld
  go_wp2_with fail
  refine (eqEventS_any _ _ L L _ (reads_of_owns oe141 (by omega)) (reads_of_owns oe31 (by omega))).mono ?_
  rintro e w26 ⟨rfl, hb⟩
  rw [decide_eq_true (Eq.refl L)]
  have hsz146 := hb.size
  replace bx2 : w26.cell? ⟨w.heap.size, 0, none⟩ = some (.slice a0 c.vars.length c0) := kept_cell hb bx2
  replace bx3 : w26.cell? ⟨w.heap.size, 1, none⟩ = some (.slice a1 c.arrays.length c1) := kept_cell hb bx3
  replace bx4 : w26.cell? ⟨w.heap.size, 2, none⟩ = some (.slice a2 c.list.length c2) := kept_cell hb bx4
  replace bx5 : w26.cell? ⟨w.heap.size + 1, 0, none⟩ = some (.int .i64 ms.pc) := kept_cell hb bx5
  replace bx6 : w26.cell? ⟨w.heap.size + 1, 1, none⟩ = some (.slice a5 ms.regs.length c5) := kept_cell hb bx6
  replace bx7 : w26.cell? ⟨w.heap.size + 1, 2, none⟩ = some (.slice a3 ms.mem.vals.length c3) := kept_cell hb bx7
  replace bx8 : w26.cell? ⟨w.heap.size + 1, 3, none⟩ = some (.slice a4 ms.mem.arrs.length c4) := kept_cell hb bx8
  replace oc1 := oc1.below hb
  replace os2 := os2.below hb
  replace oe31 := own_below oe31 hb
  replace oc5 := oc5.below hb
  replace os6 := os6.below hb
  replace mg121 := own_below mg121 hb
  replace oc7 := oc7.below hb
  replace os8 := os8.below hb
  replace oe141 := own_below oe141 hb
  replace tot := btr tot hb
  clear hb
  clear bx2 bx3 bx4 bx5 bx6 bx7 bx8
  clear lt144 lt145
  go_wp2_with fail
  refine (heldEventS_b _ L.length (1) _ (reads_of_owns mg121 (by omega)) (by omega) (by omega) (by omega)).mono ?_
  rintro e w27 ⟨rfl, hb⟩
  have hsz147 := hb.size
  replace oc1 := oc1.below hb
  replace os2 := os2.below hb
  replace oe31 := own_below oe31 hb
  replace oc5 := oc5.below hb
  replace os6 := os6.below hb
  replace mg121 := own_below mg121 hb
  replace oc7 := oc7.below hb
  replace os8 := os8.below hb
  replace oe141 := own_below oe141 hb
  replace tot := btr tot hb
  clear hb
  have tt := tot
  go_wp2
  go_ret
  exact ⟨rfl, tt⟩
end Go.Proofs.Ytbglogjamfdmpaa
