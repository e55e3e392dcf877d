/-
  Parts of the proof of the law FnExactSpecRun.
-/
import Derived.Test.YtbglogjamfdmpaaME
import Derived.Test.YtbglogjamfdmpaaML
import Derived.Test.YtbglogjamfdmpaaMR
import Derived.Test.YtbglogjamfdmpaaMX
namespace Go.Proofs.Ytbglogjamfdmpaa
open Go.RowKit

set_option maxHeartbeats 6400000 in
set_option maxRecDepth 100000 in
theorem iMOwn_any (vr vx vy : Value) (s : Ms) (w : World) (hs : ReadsS w vr vx vy s) (h0 : s.regs.length ≤ 1048576) (hl : s.mem.vals.length ≤ 1048576) (hn : s.mem.arrs.length ≤ 1048576) (hp : pre2 s.mem.arrs s.mem.arrs.length ≤ 1048576) :
    Calls Try.prog 115 #[.agg #[.int .i64 s.pc, vr, vx, vy]] w fun e w' => ∃ ur ux uy us, e = .returned (.agg #[.int .i64 s.pc, ur, ux, uy]) ∧ OwnMv w' w.heap.size ur ux uy us s.regs s.mem ∧ Below w.heap.size w w' := by
  obtain ⟨a5, c5, rfl⟩ := reads_shape hs.r
  obtain ⟨a3, c3, a4, c4, rfl, rfl⟩ := hs.m.shape
  have HS := Lib.hid (fun W (hW : Below w.heap.size w W) => hs.below hW)
  have HCP := Lib.hid (fun W (hW : Below w.heap.size w W) => memOwn_any _ _ s.mem W (HS.out W hW).m.x (HS.out W hW).m.y hl hn hp)
  clear hs
  go_enter Try.func115, Try.ntmps115
  go_upto_region 1 with (fail)
  obtain ⟨w1, hnw⟩ : ∃ X, X = (World.alloc (World.alloc w (.cells #[.int .i64 s.pc, .slice a5 s.regs.length c5, .slice a3 s.mem.vals.length c3, .slice a4 s.mem.arrs.length c4] 49)) (.cells #[.int .i64 0, .slice none 0 0, .slice none 0 0, .slice none 0 0] 49)) := ⟨_, rfl⟩
  have hb : Below (World.alloc (World.alloc w (.cells #[.int .i64 s.pc, .slice a5 s.regs.length c5, .slice a3 s.mem.vals.length c3, .slice a4 s.mem.arrs.length c4] 49)) (.cells #[.int .i64 0, .slice none 0 0, .slice none 0 0, .slice none 0 0] 49)).heap.size (World.alloc (World.alloc w (.cells #[.int .i64 s.pc, .slice a5 s.regs.length c5, .slice a3 s.mem.vals.length c3, .slice a4 s.mem.arrs.length c4] 49)) (.cells #[.int .i64 0, .slice none 0 0, .slice none 0 0, .slice none 0 0] 49)) w1 := by rw [hnw]; exact bself _
  have hsz1 := hb.size
  simp only [World.size_alloc] at hsz1
  have bx2 : w1.cell? ⟨w.heap.size, 0, none⟩ = some (.int .i64 s.pc) := kept_cell hb (cell_al (cell_nw (by simp) (by rfl)) _)
  have bx3 : w1.cell? ⟨w.heap.size, 1, none⟩ = some (.slice a5 s.regs.length c5) := kept_cell hb (cell_al (cell_nw (by simp) (by rfl)) _)
  have bx4 : w1.cell? ⟨w.heap.size, 2, none⟩ = some (.slice a3 s.mem.vals.length c3) := kept_cell hb (cell_al (cell_nw (by simp) (by rfl)) _)
  have bx5 : w1.cell? ⟨w.heap.size, 3, none⟩ = some (.slice a4 s.mem.arrs.length c4) := kept_cell hb (cell_al (cell_nw (by simp) (by rfl)) _)
  have bx6 : w1.cell? ⟨w.heap.size + 1, 0, none⟩ = some (.int .i64 0) := kept_cell hb (cell_nw (by simp) (by rfl))
  have bf7 : w1.frozen? ⟨w.heap.size + 1, 0, none⟩ = false := kept_froz hb (by simp) (froz_nw (by simp))
  have bx8 : w1.cell? ⟨w.heap.size + 1, 1, none⟩ = some (.slice none 0 0) := kept_cell hb (cell_nw (by simp) (by rfl))
  have bf9 : w1.frozen? ⟨w.heap.size + 1, 1, none⟩ = false := kept_froz hb (by simp) (froz_nw (by simp))
  have bx10 : w1.cell? ⟨w.heap.size + 1, 2, none⟩ = some (.slice none 0 0) := kept_cell hb (cell_nw (by simp) (by rfl))
  have bf11 : w1.frozen? ⟨w.heap.size + 1, 2, none⟩ = false := kept_froz hb (by simp) (froz_nw (by simp))
  have bx12 : w1.cell? ⟨w.heap.size + 1, 3, none⟩ = some (.slice none 0 0) := kept_cell hb (cell_nw (by simp) (by rfl))
  have bf13 : w1.frozen? ⟨w.heap.size + 1, 3, none⟩ = false := kept_froz hb (by simp) (froz_nw (by simp))
  have tot := btr (bal (bal (bself w) (.cells #[.int .i64 s.pc, .slice a5 s.regs.length c5, .slice a3 s.mem.vals.length c3, .slice a4 s.mem.arrs.length c4] 49)) (.cells #[.int .i64 0, .slice none 0 0, .slice none 0 0, .slice none 0 0] 49)) hb
  clear hb
  rw [← hnw]
  clear hnw
  have lt14 := lt_of_cell bx2
  have lt15 := lt_of_cell bx6
  refine wp_region_noPanic ?_
  refine wp_region_held_drew (S := (fun W' => W'.cell? ⟨w.heap.size, 0, none⟩ = some (.int .i64 s.pc) ∧ W'.cell? ⟨w.heap.size, 1, none⟩ = some (.slice a5 s.regs.length c5) ∧ W'.cell? ⟨w.heap.size, 2, none⟩ = some (.slice a3 s.mem.vals.length c3) ∧ W'.cell? ⟨w.heap.size, 3, none⟩ = some (.slice a4 s.mem.arrs.length c4))) (by kernel_rfl) ⟨kept_cell (Below.drew (bself w1)) bx2, kept_cell (Below.drew (bself w1)) bx3, kept_cell (Below.drew (bself w1)) bx4, kept_cell (Below.drew (bself w1)) bx5⟩ (fun hHeld => ?_)
  obtain ⟨w2, hwd⟩ : ∃ X, X = World.drew w1 := ⟨_, rfl⟩
  rw [← hwd] at hHeld ⊢
  have hb : Below w1.heap.size w1 w2 := by rw [hwd]; exact Below.drew (bself _)
  clear hwd
  have hsz16 := hb.size
  replace bf7 := kept_froz hb (lt_of_cell bx6) bf7
  replace bf9 := kept_froz hb (lt_of_cell bx8) bf9
  replace bf11 := kept_froz hb (lt_of_cell bx10) bf11
  replace bf13 := kept_froz hb (lt_of_cell bx12) bf13
  replace bx2 : w2.cell? ⟨w.heap.size, 0, none⟩ = some (.int .i64 s.pc) := kept_cell hb bx2
  replace bx3 : w2.cell? ⟨w.heap.size, 1, none⟩ = some (.slice a5 s.regs.length c5) := kept_cell hb bx3
  replace bx4 : w2.cell? ⟨w.heap.size, 2, none⟩ = some (.slice a3 s.mem.vals.length c3) := kept_cell hb bx4
  replace bx5 : w2.cell? ⟨w.heap.size, 3, none⟩ = some (.slice a4 s.mem.arrs.length c4) := kept_cell hb bx5
  replace bx6 : w2.cell? ⟨w.heap.size + 1, 0, none⟩ = some (.int .i64 0) := kept_cell hb bx6
  replace bx8 : w2.cell? ⟨w.heap.size + 1, 1, none⟩ = some (.slice none 0 0) := kept_cell hb bx8
  replace bx10 : w2.cell? ⟨w.heap.size + 1, 2, none⟩ = some (.slice none 0 0) := kept_cell hb bx10
  replace bx12 : w2.cell? ⟨w.heap.size + 1, 3, none⟩ = some (.slice none 0 0) := kept_cell hb bx12
  replace tot := btr tot hb
  clear hb
  clear lt14 lt15
  have lt17 := lt_of_cell bx2
  have lt18 := lt_of_cell bx6
  refine take_d (i := 0) (d := 3) (v := ?_) rfl rfl (by kernel_rfl) (by kernel_rfl) (by kernel_rfl) (fun _ _ _ h => h) (Or.inl ⟨by rfl, ?_⟩) (by assumption) ?_
  rotate_left
  · intro W' hSw; (try dsimp only at hSw); obtain ⟨s0, s1, s2, s3⟩ := hSw; go_simp; try with_reducible rfl
  try simp only [Act.put, List.setIfInBounds_toArray, List.set]
  refine take_d (i := 1) (d := 4) (v := ?_) rfl rfl (by kernel_rfl) (by kernel_rfl) (by kernel_rfl) (fun _ _ _ h => h) (Or.inl ⟨by rfl, ?_⟩) (by assumption) ?_
  rotate_left
  · intro W' hSw; (try dsimp only at hSw); obtain ⟨s0, s1, s2, s3⟩ := hSw; go_simp; try with_reducible rfl
  try simp only [Act.put, List.setIfInBounds_toArray, List.set]
  refine take_d (i := 2) (d := 5) (v := ?_) rfl rfl (by kernel_rfl) (by kernel_rfl) (by kernel_rfl) (fun _ _ _ h => h) (Or.inl ⟨by rfl, ?_⟩) (by assumption) ?_
  rotate_left
  · intro W' hSw; (try dsimp only at hSw); obtain ⟨s0, s1, s2, s3⟩ := hSw; go_simp; try with_reducible rfl
  try simp only [Act.put, List.setIfInBounds_toArray, List.set]
  refine take_d (i := 3) (d := 6) (v := ?_) rfl rfl (by kernel_rfl) (by kernel_rfl) (by kernel_rfl) (fun _ _ _ h => h) (Or.inl ⟨by rfl, ?_⟩) (by assumption) ?_
  rotate_left
  · intro W' hSw; (try dsimp only at hSw); obtain ⟨s0, s1, s2, s3⟩ := hSw; go_simp; try with_reducible rfl
  try simp only [Act.put, List.setIfInBounds_toArray, List.set]
  refine take_d (i := 5) (d := 8) (v := ?_) rfl rfl (by kernel_rfl) (by kernel_rfl) (by kernel_rfl) (fun _ _ _ h => h) (Or.inl ⟨by rfl, ?_⟩) (by assumption) ?_
  rotate_left
  · intro W' hSw; (try dsimp only at hSw); obtain ⟨s0, s1, s2, s3⟩ := hSw; go_simp; try with_reducible rfl
  try simp only [Act.put, List.setIfInBounds_toArray, List.set]
  refine take_d (i := 6) (d := 9) (v := ?_) rfl rfl (by kernel_rfl) (by kernel_rfl) (by kernel_rfl) (fun _ _ _ h => h) (Or.inl ⟨by rfl, ?_⟩) (by assumption) ?_
  rotate_left
  · intro W' hSw; (try dsimp only at hSw); obtain ⟨s0, s1, s2, s3⟩ := hSw; go_simp; try with_reducible rfl
  try simp only [Act.put, List.setIfInBounds_toArray, List.set]
  refine wpAnyH_ready (rs := [4]) (by kernel_rfl) (by simp) ?_
  refine AllReadyH.cons rfl (fun K hK => ?_) AllReadyH.nil
  go_simp
  refine (clone_any _ s.regs _ (HS.out _ tot).r (by omega)).mono ?_
  rintro e w3 ⟨ur, rfl, oR, hb⟩
  obtain ⟨pr, tr, rfl⟩ := own_shape oR
  have hsz19 := hb.size
  replace bf7 := kept_froz hb (lt_of_cell bx6) bf7
  replace bf9 := kept_froz hb (lt_of_cell bx8) bf9
  replace bf11 := kept_froz hb (lt_of_cell bx10) bf11
  replace bf13 := kept_froz hb (lt_of_cell bx12) bf13
  replace bx2 : w3.cell? ⟨w.heap.size, 0, none⟩ = some (.int .i64 s.pc) := kept_cell hb bx2
  replace bx3 : w3.cell? ⟨w.heap.size, 1, none⟩ = some (.slice a5 s.regs.length c5) := kept_cell hb bx3
  replace bx4 : w3.cell? ⟨w.heap.size, 2, none⟩ = some (.slice a3 s.mem.vals.length c3) := kept_cell hb bx4
  replace bx5 : w3.cell? ⟨w.heap.size, 3, none⟩ = some (.slice a4 s.mem.arrs.length c4) := kept_cell hb bx5
  replace bx6 : w3.cell? ⟨w.heap.size + 1, 0, none⟩ = some (.int .i64 0) := kept_cell hb bx6
  replace bx8 : w3.cell? ⟨w.heap.size + 1, 1, none⟩ = some (.slice none 0 0) := kept_cell hb bx8
  replace bx10 : w3.cell? ⟨w.heap.size + 1, 2, none⟩ = some (.slice none 0 0) := kept_cell hb bx10
  replace bx12 : w3.cell? ⟨w.heap.size + 1, 3, none⟩ = some (.slice none 0 0) := kept_cell hb bx12
  replace tot := btr tot hb
  clear hb
  have iv20 := oR.lt
  clear lt17 lt18
  have lt21 := lt_of_cell bx2
  have lt22 := lt_of_cell bx6
  refine hK.out _ _ ⟨bx2, bx3, bx4, bx5⟩ (fun hHeld => ?_)
  clear hK K
  try simp only [Act.put, List.setIfInBounds_toArray, List.set]
  refine wpAnyH_ready (rs := [7]) (by kernel_rfl) (by simp) ?_
  refine AllReadyH.cons rfl (fun K hK => ?_) AllReadyH.nil
  go_simp
  refine (HCP.out _ tot).mono ?_
  rintro e w4 ⟨ux, uy, us, rfl, ox, oy, hap, hb⟩
  obtain ⟨px, tx, rfl⟩ := own_shape ox
  obtain ⟨py, ty, rfl⟩ := own_shape oy.out
  have oM : OwnM w4 _ _ _ _ s.mem := ⟨ox, oy, hap⟩
  clear ox oy hap
  have hsz23 := hb.size
  replace bf7 := kept_froz hb (lt_of_cell bx6) bf7
  replace bf9 := kept_froz hb (lt_of_cell bx8) bf9
  replace bf11 := kept_froz hb (lt_of_cell bx10) bf11
  replace bf13 := kept_froz hb (lt_of_cell bx12) bf13
  replace bx2 : w4.cell? ⟨w.heap.size, 0, none⟩ = some (.int .i64 s.pc) := kept_cell hb bx2
  replace bx3 : w4.cell? ⟨w.heap.size, 1, none⟩ = some (.slice a5 s.regs.length c5) := kept_cell hb bx3
  replace bx4 : w4.cell? ⟨w.heap.size, 2, none⟩ = some (.slice a3 s.mem.vals.length c3) := kept_cell hb bx4
  replace bx5 : w4.cell? ⟨w.heap.size, 3, none⟩ = some (.slice a4 s.mem.arrs.length c4) := kept_cell hb bx5
  replace bx6 : w4.cell? ⟨w.heap.size + 1, 0, none⟩ = some (.int .i64 0) := kept_cell hb bx6
  replace bx8 : w4.cell? ⟨w.heap.size + 1, 1, none⟩ = some (.slice none 0 0) := kept_cell hb bx8
  replace bx10 : w4.cell? ⟨w.heap.size + 1, 2, none⟩ = some (.slice none 0 0) := kept_cell hb bx10
  replace bx12 : w4.cell? ⟨w.heap.size + 1, 3, none⟩ = some (.slice none 0 0) := kept_cell hb bx12
  replace oR := own_below oR hb
  replace tot := btr tot hb
  clear hb
  have iv24 := oM.lt
  clear lt21 lt22
  have lt25 := lt_of_cell bx2
  have lt26 := lt_of_cell bx6
  refine hK.out _ _ ⟨bx2, bx3, bx4, bx5⟩ (fun hHeld => ?_)
  clear hK K
  try simp only [Act.put, List.setIfInBounds_toArray, List.set]
  refine take_d (i := 8) (d := 11) (v := ?_) rfl rfl (by kernel_rfl) (by kernel_rfl) (by kernel_rfl) (fun _ _ _ h => h) (Or.inl ⟨by rfl, ?_⟩) (by assumption) ?_
  rotate_left
  · intro W' hSw; (try dsimp only at hSw); obtain ⟨s0, s1, s2, s3⟩ := hSw; go_simp; try with_reducible rfl
  try simp only [Act.put, List.setIfInBounds_toArray, List.set]
  refine wpAnyH_ready (rs := [9]) (by kernel_rfl) (by simp) ?_
  refine AllReadyH.cons rfl (fun K hK => ?_) AllReadyH.nil
  go_simp
  obtain ⟨w5, hnw⟩ : ∃ X, X = (World.setCell (World.setCell (World.setCell (World.setCell w4 ⟨w.heap.size + 1, 0, none⟩ (.int .i64 s.pc)) ⟨w.heap.size + 1, 1, none⟩ (.slice pr s.regs.length tr)) ⟨w.heap.size + 1, 2, none⟩ (.slice px s.mem.vals.length tx)) ⟨w.heap.size + 1, 3, none⟩ (.slice py s.mem.arrs.length ty)) := ⟨_, rfl⟩
  have hb : Below (World.setCell (World.setCell (World.setCell (World.setCell w4 ⟨w.heap.size + 1, 0, none⟩ (.int .i64 s.pc)) ⟨w.heap.size + 1, 1, none⟩ (.slice pr s.regs.length tr)) ⟨w.heap.size + 1, 2, none⟩ (.slice px s.mem.vals.length tx)) ⟨w.heap.size + 1, 3, none⟩ (.slice py s.mem.arrs.length ty)).heap.size (World.setCell (World.setCell (World.setCell (World.setCell w4 ⟨w.heap.size + 1, 0, none⟩ (.int .i64 s.pc)) ⟨w.heap.size + 1, 1, none⟩ (.slice pr s.regs.length tr)) ⟨w.heap.size + 1, 2, none⟩ (.slice px s.mem.vals.length tx)) ⟨w.heap.size + 1, 3, none⟩ (.slice py s.mem.arrs.length ty)) w5 := by rw [hnw]; exact bself _
  have hsz27 := hb.size
  simp only [World.size_setCell] at hsz27
  replace bf7 := kept_froz hb (lt_of_cell (cell_ne (b := (w.heap.size + 1)) (j := 3) (cell_ne (b := (w.heap.size + 1)) (j := 2) (cell_ne (b := (w.heap.size + 1)) (j := 1) (cell_at _ (w.heap.size + 1) 0 (.int .i64 s.pc) bx6) (by omega) (.slice pr s.regs.length tr)) (by omega) (.slice px s.mem.vals.length tx)) (by omega) (.slice py s.mem.arrs.length ty))) (froz_st (b := ⟨(w.heap.size + 1), 3, none⟩) (froz_st (b := ⟨(w.heap.size + 1), 2, none⟩) (froz_st (b := ⟨(w.heap.size + 1), 1, none⟩) (froz_st (b := ⟨(w.heap.size + 1), 0, none⟩) bf7 (.int .i64 s.pc)) (.slice pr s.regs.length tr)) (.slice px s.mem.vals.length tx)) (.slice py s.mem.arrs.length ty))
  replace bf9 := kept_froz hb (lt_of_cell (cell_ne (b := (w.heap.size + 1)) (j := 3) (cell_ne (b := (w.heap.size + 1)) (j := 2) (cell_at _ (w.heap.size + 1) 1 (.slice pr s.regs.length tr) (cell_ne (b := (w.heap.size + 1)) (j := 0) bx8 (by omega) (.int .i64 s.pc))) (by omega) (.slice px s.mem.vals.length tx)) (by omega) (.slice py s.mem.arrs.length ty))) (froz_st (b := ⟨(w.heap.size + 1), 3, none⟩) (froz_st (b := ⟨(w.heap.size + 1), 2, none⟩) (froz_st (b := ⟨(w.heap.size + 1), 1, none⟩) (froz_st (b := ⟨(w.heap.size + 1), 0, none⟩) bf9 (.int .i64 s.pc)) (.slice pr s.regs.length tr)) (.slice px s.mem.vals.length tx)) (.slice py s.mem.arrs.length ty))
  replace bf11 := kept_froz hb (lt_of_cell (cell_ne (b := (w.heap.size + 1)) (j := 3) (cell_at _ (w.heap.size + 1) 2 (.slice px s.mem.vals.length tx) (cell_ne (b := (w.heap.size + 1)) (j := 1) (cell_ne (b := (w.heap.size + 1)) (j := 0) bx10 (by omega) (.int .i64 s.pc)) (by omega) (.slice pr s.regs.length tr))) (by omega) (.slice py s.mem.arrs.length ty))) (froz_st (b := ⟨(w.heap.size + 1), 3, none⟩) (froz_st (b := ⟨(w.heap.size + 1), 2, none⟩) (froz_st (b := ⟨(w.heap.size + 1), 1, none⟩) (froz_st (b := ⟨(w.heap.size + 1), 0, none⟩) bf11 (.int .i64 s.pc)) (.slice pr s.regs.length tr)) (.slice px s.mem.vals.length tx)) (.slice py s.mem.arrs.length ty))
  replace bf13 := kept_froz hb (lt_of_cell (cell_at _ (w.heap.size + 1) 3 (.slice py s.mem.arrs.length ty) (cell_ne (b := (w.heap.size + 1)) (j := 2) (cell_ne (b := (w.heap.size + 1)) (j := 1) (cell_ne (b := (w.heap.size + 1)) (j := 0) bx12 (by omega) (.int .i64 s.pc)) (by omega) (.slice pr s.regs.length tr)) (by omega) (.slice px s.mem.vals.length tx)))) (froz_st (b := ⟨(w.heap.size + 1), 3, none⟩) (froz_st (b := ⟨(w.heap.size + 1), 2, none⟩) (froz_st (b := ⟨(w.heap.size + 1), 1, none⟩) (froz_st (b := ⟨(w.heap.size + 1), 0, none⟩) bf13 (.int .i64 s.pc)) (.slice pr s.regs.length tr)) (.slice px s.mem.vals.length tx)) (.slice py s.mem.arrs.length ty))
  replace bx2 : w5.cell? ⟨w.heap.size, 0, none⟩ = some (.int .i64 s.pc) := kept_cell hb (cell_ne (b := (w.heap.size + 1)) (j := 3) (cell_ne (b := (w.heap.size + 1)) (j := 2) (cell_ne (b := (w.heap.size + 1)) (j := 1) (cell_ne (b := (w.heap.size + 1)) (j := 0) bx2 (by omega) (.int .i64 s.pc)) (by omega) (.slice pr s.regs.length tr)) (by omega) (.slice px s.mem.vals.length tx)) (by omega) (.slice py s.mem.arrs.length ty))
  replace bx3 : w5.cell? ⟨w.heap.size, 1, none⟩ = some (.slice a5 s.regs.length c5) := kept_cell hb (cell_ne (b := (w.heap.size + 1)) (j := 3) (cell_ne (b := (w.heap.size + 1)) (j := 2) (cell_ne (b := (w.heap.size + 1)) (j := 1) (cell_ne (b := (w.heap.size + 1)) (j := 0) bx3 (by omega) (.int .i64 s.pc)) (by omega) (.slice pr s.regs.length tr)) (by omega) (.slice px s.mem.vals.length tx)) (by omega) (.slice py s.mem.arrs.length ty))
  replace bx4 : w5.cell? ⟨w.heap.size, 2, none⟩ = some (.slice a3 s.mem.vals.length c3) := kept_cell hb (cell_ne (b := (w.heap.size + 1)) (j := 3) (cell_ne (b := (w.heap.size + 1)) (j := 2) (cell_ne (b := (w.heap.size + 1)) (j := 1) (cell_ne (b := (w.heap.size + 1)) (j := 0) bx4 (by omega) (.int .i64 s.pc)) (by omega) (.slice pr s.regs.length tr)) (by omega) (.slice px s.mem.vals.length tx)) (by omega) (.slice py s.mem.arrs.length ty))
  replace bx5 : w5.cell? ⟨w.heap.size, 3, none⟩ = some (.slice a4 s.mem.arrs.length c4) := kept_cell hb (cell_ne (b := (w.heap.size + 1)) (j := 3) (cell_ne (b := (w.heap.size + 1)) (j := 2) (cell_ne (b := (w.heap.size + 1)) (j := 1) (cell_ne (b := (w.heap.size + 1)) (j := 0) bx5 (by omega) (.int .i64 s.pc)) (by omega) (.slice pr s.regs.length tr)) (by omega) (.slice px s.mem.vals.length tx)) (by omega) (.slice py s.mem.arrs.length ty))
  replace bx6 : w5.cell? ⟨w.heap.size + 1, 0, none⟩ = some (.int .i64 s.pc) := kept_cell hb (cell_ne (b := (w.heap.size + 1)) (j := 3) (cell_ne (b := (w.heap.size + 1)) (j := 2) (cell_ne (b := (w.heap.size + 1)) (j := 1) (cell_at _ (w.heap.size + 1) 0 (.int .i64 s.pc) bx6) (by omega) (.slice pr s.regs.length tr)) (by omega) (.slice px s.mem.vals.length tx)) (by omega) (.slice py s.mem.arrs.length ty))
  replace bx8 : w5.cell? ⟨w.heap.size + 1, 1, none⟩ = some (.slice pr s.regs.length tr) := kept_cell hb (cell_ne (b := (w.heap.size + 1)) (j := 3) (cell_ne (b := (w.heap.size + 1)) (j := 2) (cell_at _ (w.heap.size + 1) 1 (.slice pr s.regs.length tr) (cell_ne (b := (w.heap.size + 1)) (j := 0) bx8 (by omega) (.int .i64 s.pc))) (by omega) (.slice px s.mem.vals.length tx)) (by omega) (.slice py s.mem.arrs.length ty))
  replace bx10 : w5.cell? ⟨w.heap.size + 1, 2, none⟩ = some (.slice px s.mem.vals.length tx) := kept_cell hb (cell_ne (b := (w.heap.size + 1)) (j := 3) (cell_at _ (w.heap.size + 1) 2 (.slice px s.mem.vals.length tx) (cell_ne (b := (w.heap.size + 1)) (j := 1) (cell_ne (b := (w.heap.size + 1)) (j := 0) bx10 (by omega) (.int .i64 s.pc)) (by omega) (.slice pr s.regs.length tr))) (by omega) (.slice py s.mem.arrs.length ty))
  replace bx12 : w5.cell? ⟨w.heap.size + 1, 3, none⟩ = some (.slice py s.mem.arrs.length ty) := kept_cell hb (cell_at _ (w.heap.size + 1) 3 (.slice py s.mem.arrs.length ty) (cell_ne (b := (w.heap.size + 1)) (j := 2) (cell_ne (b := (w.heap.size + 1)) (j := 1) (cell_ne (b := (w.heap.size + 1)) (j := 0) bx12 (by omega) (.int .i64 s.pc)) (by omega) (.slice pr s.regs.length tr)) (by omega) (.slice px s.mem.vals.length tx)))
  replace oR := own_below (own_set (own_set (own_set (own_set oR (w.heap.size + 1) 0 (fun h => by have := iv20 _ h; omega) (.int .i64 s.pc)) (w.heap.size + 1) 1 (fun h => by have := iv20 _ h; omega) (.slice pr s.regs.length tr)) (w.heap.size + 1) 2 (fun h => by have := iv20 _ h; omega) (.slice px s.mem.vals.length tx)) (w.heap.size + 1) 3 (fun h => by have := iv20 _ h; omega) (.slice py s.mem.arrs.length ty)) hb
  replace oM := ((((oM.keep ((Chg.refl (fun gk => gk = (w.heap.size + 1)) _).setCell (w.heap.size + 1) 0 (.int .i64 s.pc) (fun _ => rfl)) (fun gq h h2 => by have := iv24 gq h; omega)).keep ((Chg.refl (fun gk => gk = (w.heap.size + 1)) _).setCell (w.heap.size + 1) 1 (.slice pr s.regs.length tr) (fun _ => rfl)) (fun gq h h2 => by have := iv24 gq h; omega)).keep ((Chg.refl (fun gk => gk = (w.heap.size + 1)) _).setCell (w.heap.size + 1) 2 (.slice px s.mem.vals.length tx) (fun _ => rfl)) (fun gq h h2 => by have := iv24 gq h; omega)).keep ((Chg.refl (fun gk => gk = (w.heap.size + 1)) _).setCell (w.heap.size + 1) 3 (.slice py s.mem.arrs.length ty) (fun _ => rfl)) (fun gq h h2 => by have := iv24 gq h; omega)).below hb
  replace tot := btr (bst (bst (bst (bst tot (w.heap.size + 1) 0 (by omega) (.int .i64 s.pc)) (w.heap.size + 1) 1 (by omega) (.slice pr s.regs.length tr)) (w.heap.size + 1) 2 (by omega) (.slice px s.mem.vals.length tx)) (w.heap.size + 1) 3 (by omega) (.slice py s.mem.arrs.length ty)) hb
  clear hb
  rw [← hnw]
  clear hnw
  clear lt25 lt26
  have lt28 := lt_of_cell bx2
  have lt29 := lt_of_cell bx6
  refine hK.out _ _ ⟨bx2, bx3, bx4, bx5⟩ (fun hHeld => ?_)
  clear hK K
  try simp only [Act.put, List.setIfInBounds_toArray, List.set]
  refine wpAnyH_done (by kernel_rfl) ?_ _
  refine NoPanic.normal ?_
  clear hHeld
  have OM : OwnMv w5 w.heap.size (.slice pr s.regs.length tr) (.slice px s.mem.vals.length tx) (.slice py s.mem.arrs.length ty) us s.regs s.mem := ⟨own_mono oR (by omega), own_mono oM.x (by omega), oM.y.mono (by omega), fun q h h2 => by have := iv20 q h; have := iv24 q (Or.inl h2); omega, fun q h h2 => by have := iv20 q h; have := iv24 q (Or.inr h2); omega, oM.ap⟩
  have x30 := bx6
  have x31 := bx8
  have x32 := bx10
  have x33 := bx12
  have tt := tot
  go_wp2
  exact bodyPost_ret (v := .agg #[.int .i64 s.pc, .slice pr s.regs.length tr, .slice px s.mem.vals.length tx, .slice py s.mem.arrs.length ty]) (by simp [results, Try.results115, go_sem, x30, x31, x32, x33]) rfl (by exact ⟨_, _, _, us, rfl, OM, tt⟩)
set_option maxHeartbeats 6400000 in
set_option maxRecDepth 100000 in
theorem sMOwn_any (vr vx vy : Value) (s : Ms) (w : World) (hs : ReadsS w vr vx vy s) (h0 : s.regs.length ≤ 1048576) (hl : s.mem.vals.length ≤ 1048576) (hn : s.mem.arrs.length ≤ 1048576) (hp : pre2 s.mem.arrs s.mem.arrs.length ≤ 1048576) :
    Calls Try.prog 69 #[.agg #[.int .i64 s.pc, vr, vx, vy]] w fun e w' => ∃ ur ux uy us, e = .returned (.agg #[.int .i64 s.pc, ur, ux, uy]) ∧ OwnMv w' w.heap.size ur ux uy us s.regs s.mem ∧ Below w.heap.size w w' := by
  obtain ⟨a5, c5, rfl⟩ := reads_shape hs.r
  obtain ⟨a3, c3, a4, c4, rfl, rfl⟩ := hs.m.shape
  have HS := Lib.hid (fun W (hW : Below w.heap.size w W) => hs.below hW)
  have HCP := Lib.hid (fun W (hW : Below w.heap.size w W) => l3Copy_any _ _ s.mem W (HS.out W hW).m.x (HS.out W hW).m.y hl hn hp)
  clear hs
  go_enter Try.func69, Try.ntmps69
  go_upto_region 1 with (fail)
  obtain ⟨w1, hnw⟩ : ∃ X, X = (World.alloc (World.alloc w (.cells #[.int .i64 s.pc, .slice a5 s.regs.length c5, .slice a3 s.mem.vals.length c3, .slice a4 s.mem.arrs.length c4] 49)) (.cells #[.int .i64 0, .slice none 0 0, .slice none 0 0, .slice none 0 0] 49)) := ⟨_, rfl⟩
  have hb : Below (World.alloc (World.alloc w (.cells #[.int .i64 s.pc, .slice a5 s.regs.length c5, .slice a3 s.mem.vals.length c3, .slice a4 s.mem.arrs.length c4] 49)) (.cells #[.int .i64 0, .slice none 0 0, .slice none 0 0, .slice none 0 0] 49)).heap.size (World.alloc (World.alloc w (.cells #[.int .i64 s.pc, .slice a5 s.regs.length c5, .slice a3 s.mem.vals.length c3, .slice a4 s.mem.arrs.length c4] 49)) (.cells #[.int .i64 0, .slice none 0 0, .slice none 0 0, .slice none 0 0] 49)) w1 := by rw [hnw]; exact bself _
  have hsz1 := hb.size
  simp only [World.size_alloc] at hsz1
  have bx2 : w1.cell? ⟨w.heap.size, 0, none⟩ = some (.int .i64 s.pc) := kept_cell hb (cell_al (cell_nw (by simp) (by rfl)) _)
  have bx3 : w1.cell? ⟨w.heap.size, 1, none⟩ = some (.slice a5 s.regs.length c5) := kept_cell hb (cell_al (cell_nw (by simp) (by rfl)) _)
  have bx4 : w1.cell? ⟨w.heap.size, 2, none⟩ = some (.slice a3 s.mem.vals.length c3) := kept_cell hb (cell_al (cell_nw (by simp) (by rfl)) _)
  have bx5 : w1.cell? ⟨w.heap.size, 3, none⟩ = some (.slice a4 s.mem.arrs.length c4) := kept_cell hb (cell_al (cell_nw (by simp) (by rfl)) _)
  have bx6 : w1.cell? ⟨w.heap.size + 1, 0, none⟩ = some (.int .i64 0) := kept_cell hb (cell_nw (by simp) (by rfl))
  have bf7 : w1.frozen? ⟨w.heap.size + 1, 0, none⟩ = false := kept_froz hb (by simp) (froz_nw (by simp))
  have bx8 : w1.cell? ⟨w.heap.size + 1, 1, none⟩ = some (.slice none 0 0) := kept_cell hb (cell_nw (by simp) (by rfl))
  have bf9 : w1.frozen? ⟨w.heap.size + 1, 1, none⟩ = false := kept_froz hb (by simp) (froz_nw (by simp))
  have bx10 : w1.cell? ⟨w.heap.size + 1, 2, none⟩ = some (.slice none 0 0) := kept_cell hb (cell_nw (by simp) (by rfl))
  have bf11 : w1.frozen? ⟨w.heap.size + 1, 2, none⟩ = false := kept_froz hb (by simp) (froz_nw (by simp))
  have bx12 : w1.cell? ⟨w.heap.size + 1, 3, none⟩ = some (.slice none 0 0) := kept_cell hb (cell_nw (by simp) (by rfl))
  have bf13 : w1.frozen? ⟨w.heap.size + 1, 3, none⟩ = false := kept_froz hb (by simp) (froz_nw (by simp))
  have tot := btr (bal (bal (bself w) (.cells #[.int .i64 s.pc, .slice a5 s.regs.length c5, .slice a3 s.mem.vals.length c3, .slice a4 s.mem.arrs.length c4] 49)) (.cells #[.int .i64 0, .slice none 0 0, .slice none 0 0, .slice none 0 0] 49)) hb
  clear hb
  rw [← hnw]
  clear hnw
  have lt14 := lt_of_cell bx2
  have lt15 := lt_of_cell bx6
  refine wp_region_noPanic ?_
  refine wp_region_held_drew (S := (fun W' => W'.cell? ⟨w.heap.size, 0, none⟩ = some (.int .i64 s.pc) ∧ W'.cell? ⟨w.heap.size, 1, none⟩ = some (.slice a5 s.regs.length c5) ∧ W'.cell? ⟨w.heap.size, 2, none⟩ = some (.slice a3 s.mem.vals.length c3) ∧ W'.cell? ⟨w.heap.size, 3, none⟩ = some (.slice a4 s.mem.arrs.length c4))) (by kernel_rfl) ⟨kept_cell (Below.drew (bself w1)) bx2, kept_cell (Below.drew (bself w1)) bx3, kept_cell (Below.drew (bself w1)) bx4, kept_cell (Below.drew (bself w1)) bx5⟩ (fun hHeld => ?_)
  obtain ⟨w2, hwd⟩ : ∃ X, X = World.drew w1 := ⟨_, rfl⟩
  rw [← hwd] at hHeld ⊢
  have hb : Below w1.heap.size w1 w2 := by rw [hwd]; exact Below.drew (bself _)
  clear hwd
  have hsz16 := hb.size
  replace bf7 := kept_froz hb (lt_of_cell bx6) bf7
  replace bf9 := kept_froz hb (lt_of_cell bx8) bf9
  replace bf11 := kept_froz hb (lt_of_cell bx10) bf11
  replace bf13 := kept_froz hb (lt_of_cell bx12) bf13
  replace bx2 : w2.cell? ⟨w.heap.size, 0, none⟩ = some (.int .i64 s.pc) := kept_cell hb bx2
  replace bx3 : w2.cell? ⟨w.heap.size, 1, none⟩ = some (.slice a5 s.regs.length c5) := kept_cell hb bx3
  replace bx4 : w2.cell? ⟨w.heap.size, 2, none⟩ = some (.slice a3 s.mem.vals.length c3) := kept_cell hb bx4
  replace bx5 : w2.cell? ⟨w.heap.size, 3, none⟩ = some (.slice a4 s.mem.arrs.length c4) := kept_cell hb bx5
  replace bx6 : w2.cell? ⟨w.heap.size + 1, 0, none⟩ = some (.int .i64 0) := kept_cell hb bx6
  replace bx8 : w2.cell? ⟨w.heap.size + 1, 1, none⟩ = some (.slice none 0 0) := kept_cell hb bx8
  replace bx10 : w2.cell? ⟨w.heap.size + 1, 2, none⟩ = some (.slice none 0 0) := kept_cell hb bx10
  replace bx12 : w2.cell? ⟨w.heap.size + 1, 3, none⟩ = some (.slice none 0 0) := kept_cell hb bx12
  replace tot := btr tot hb
  clear hb
  clear lt14 lt15
  have lt17 := lt_of_cell bx2
  have lt18 := lt_of_cell bx6
  refine take_d (i := 0) (d := 3) (v := ?_) rfl rfl (by kernel_rfl) (by kernel_rfl) (by kernel_rfl) (fun _ _ _ h => h) (Or.inl ⟨by rfl, ?_⟩) (by assumption) ?_
  rotate_left
  · intro W' hSw; (try dsimp only at hSw); obtain ⟨s0, s1, s2, s3⟩ := hSw; go_simp; try with_reducible rfl
  try simp only [Act.put, List.setIfInBounds_toArray, List.set]
  refine take_d (i := 1) (d := 4) (v := ?_) rfl rfl (by kernel_rfl) (by kernel_rfl) (by kernel_rfl) (fun _ _ _ h => h) (Or.inl ⟨by rfl, ?_⟩) (by assumption) ?_
  rotate_left
  · intro W' hSw; (try dsimp only at hSw); obtain ⟨s0, s1, s2, s3⟩ := hSw; go_simp; try with_reducible rfl
  try simp only [Act.put, List.setIfInBounds_toArray, List.set]
  refine take_d (i := 3) (d := 6) (v := ?_) rfl rfl (by kernel_rfl) (by kernel_rfl) (by kernel_rfl) (fun _ _ _ h => h) (Or.inl ⟨by rfl, ?_⟩) (by assumption) ?_
  rotate_left
  · intro W' hSw; (try dsimp only at hSw); obtain ⟨s0, s1, s2, s3⟩ := hSw; go_simp; try with_reducible rfl
  try simp only [Act.put, List.setIfInBounds_toArray, List.set]
  refine take_d (i := 4) (d := 7) (v := ?_) rfl rfl (by kernel_rfl) (by kernel_rfl) (by kernel_rfl) (fun _ _ _ h => h) (Or.inl ⟨by rfl, ?_⟩) (by assumption) ?_
  rotate_left
  · intro W' hSw; (try dsimp only at hSw); obtain ⟨s0, s1, s2, s3⟩ := hSw; go_simp; try with_reducible rfl
  try simp only [Act.put, List.setIfInBounds_toArray, List.set]
  refine take_d (i := 6) (d := 9) (v := ?_) rfl rfl (by kernel_rfl) (by kernel_rfl) (by kernel_rfl) (fun _ _ _ h => h) (Or.inl ⟨by rfl, ?_⟩) (by assumption) ?_
  rotate_left
  · intro W' hSw; (try dsimp only at hSw); obtain ⟨s0, s1, s2, s3⟩ := hSw; go_simp; try with_reducible rfl
  try simp only [Act.put, List.setIfInBounds_toArray, List.set]
  refine take_d (i := 7) (d := 10) (v := ?_) rfl rfl (by kernel_rfl) (by kernel_rfl) (by kernel_rfl) (fun _ _ _ h => h) (Or.inl ⟨by rfl, ?_⟩) (by assumption) ?_
  rotate_left
  · intro W' hSw; (try dsimp only at hSw); obtain ⟨s0, s1, s2, s3⟩ := hSw; go_simp; try with_reducible rfl
  try simp only [Act.put, List.setIfInBounds_toArray, List.set]
  refine wpAnyH_ready (rs := [2]) (by kernel_rfl) (by simp) ?_
  refine AllReadyH.cons rfl (fun K hK => ?_) AllReadyH.nil
  go_simp
  obtain ⟨w3, hnw⟩ : ∃ X, X = (World.alloc w2 (.cells #[] 3)) := ⟨_, rfl⟩
  have hb : Below (World.alloc w2 (.cells #[] 3)).heap.size (World.alloc w2 (.cells #[] 3)) w3 := by rw [hnw]; exact bself _
  have ol19 := own_below (World.ownsRow_lit (base := (w2).heap.size) (e := 3) (size := 1) (w2) #[] 0 (Nat.le_refl _) (by unfold maxLen; omega) (by simp)) hb
  try simp only [World.size_alloc, World.size_setCell] at ol19
  have hsz20 := hb.size
  simp only [World.size_alloc] at hsz20
  replace bf7 := kept_froz hb (lt_of_cell (cell_al bx6 (.cells #[] 3))) (froz_al (lt_of_cell bx6) bf7 (.cells #[] 3))
  replace bf9 := kept_froz hb (lt_of_cell (cell_al bx8 (.cells #[] 3))) (froz_al (lt_of_cell bx8) bf9 (.cells #[] 3))
  replace bf11 := kept_froz hb (lt_of_cell (cell_al bx10 (.cells #[] 3))) (froz_al (lt_of_cell bx10) bf11 (.cells #[] 3))
  replace bf13 := kept_froz hb (lt_of_cell (cell_al bx12 (.cells #[] 3))) (froz_al (lt_of_cell bx12) bf13 (.cells #[] 3))
  replace bx2 : w3.cell? ⟨w.heap.size, 0, none⟩ = some (.int .i64 s.pc) := kept_cell hb (cell_al bx2 (.cells #[] 3))
  replace bx3 : w3.cell? ⟨w.heap.size, 1, none⟩ = some (.slice a5 s.regs.length c5) := kept_cell hb (cell_al bx3 (.cells #[] 3))
  replace bx4 : w3.cell? ⟨w.heap.size, 2, none⟩ = some (.slice a3 s.mem.vals.length c3) := kept_cell hb (cell_al bx4 (.cells #[] 3))
  replace bx5 : w3.cell? ⟨w.heap.size, 3, none⟩ = some (.slice a4 s.mem.arrs.length c4) := kept_cell hb (cell_al bx5 (.cells #[] 3))
  replace bx6 : w3.cell? ⟨w.heap.size + 1, 0, none⟩ = some (.int .i64 0) := kept_cell hb (cell_al bx6 (.cells #[] 3))
  replace bx8 : w3.cell? ⟨w.heap.size + 1, 1, none⟩ = some (.slice none 0 0) := kept_cell hb (cell_al bx8 (.cells #[] 3))
  replace bx10 : w3.cell? ⟨w.heap.size + 1, 2, none⟩ = some (.slice none 0 0) := kept_cell hb (cell_al bx10 (.cells #[] 3))
  replace bx12 : w3.cell? ⟨w.heap.size + 1, 3, none⟩ = some (.slice none 0 0) := kept_cell hb (cell_al bx12 (.cells #[] 3))
  replace tot := btr (bal tot (.cells #[] 3)) hb
  clear hb
  have iv21 := ol19.lt
  try simp only [World.size_alloc] at iv21
  rw [← hnw]
  clear hnw
  clear lt17 lt18
  have lt22 := lt_of_cell bx2
  have lt23 := lt_of_cell bx6
  refine hK.out _ _ ⟨bx2, bx3, bx4, bx5⟩ (fun hHeld => ?_)
  clear hK K
  try simp only [Act.put, List.setIfInBounds_toArray, List.set]
  refine wpAnyH_ready (rs := [5]) (by kernel_rfl) (by simp) ?_
  refine AllReadyH.cons rfl (fun K hK => ?_) AllReadyH.nil
  refine step_aps tInts rfl _ _ rfl (w2.heap.size) _ 0 ([]) rfl ol19 _ s.regs.length (ints s.regs) rfl ((HS.out _ tot).r) (one_ints s.regs) (by omega) (by omega) ?_
  intro vA w4 oA24 hc hNw _
  try simp only [Nat.zero_add, List.nil_append] at oA24
  obtain ⟨pA24, tA24, rfl⟩ := own_shape oA24
  have hsz25 := hc.size
  replace bf7 := chg_froz hc (lt_of_cell bx6) bf7 (fun h => by have := iv21 _ h; omega)
  replace bf9 := chg_froz hc (lt_of_cell bx8) bf9 (fun h => by have := iv21 _ h; omega)
  replace bf11 := chg_froz hc (lt_of_cell bx10) bf11 (fun h => by have := iv21 _ h; omega)
  replace bf13 := chg_froz hc (lt_of_cell bx12) bf13 (fun h => by have := iv21 _ h; omega)
  replace bx2 : w4.cell? ⟨w.heap.size, 0, none⟩ = some (.int .i64 s.pc) := chg_cell hc bx2 (fun h => by have := iv21 _ h; omega)
  replace bx3 : w4.cell? ⟨w.heap.size, 1, none⟩ = some (.slice a5 s.regs.length c5) := chg_cell hc bx3 (fun h => by have := iv21 _ h; omega)
  replace bx4 : w4.cell? ⟨w.heap.size, 2, none⟩ = some (.slice a3 s.mem.vals.length c3) := chg_cell hc bx4 (fun h => by have := iv21 _ h; omega)
  replace bx5 : w4.cell? ⟨w.heap.size, 3, none⟩ = some (.slice a4 s.mem.arrs.length c4) := chg_cell hc bx5 (fun h => by have := iv21 _ h; omega)
  replace bx6 : w4.cell? ⟨w.heap.size + 1, 0, none⟩ = some (.int .i64 0) := chg_cell hc bx6 (fun h => by have := iv21 _ h; omega)
  replace bx8 : w4.cell? ⟨w.heap.size + 1, 1, none⟩ = some (.slice none 0 0) := chg_cell hc bx8 (fun h => by have := iv21 _ h; omega)
  replace bx10 : w4.cell? ⟨w.heap.size + 1, 2, none⟩ = some (.slice none 0 0) := chg_cell hc bx10 (fun h => by have := iv21 _ h; omega)
  replace bx12 : w4.cell? ⟨w.heap.size + 1, 3, none⟩ = some (.slice none 0 0) := chg_cell hc bx12 (fun h => by have := iv21 _ h; omega)
  replace tot := tot.trans (hc.below w.heap.size (by have := tot.size; omega) (fun gq hgq h => by have := iv21 gq h; omega))
  clear hc
  have iv26 := oA24.lt
  clear hNw ol19
  clear lt22 lt23
  have lt27 := lt_of_cell bx2
  have lt28 := lt_of_cell bx6
  refine hK.out _ _ ⟨bx2, bx3, bx4, bx5⟩ (fun hHeld => ?_)
  clear hK K
  try simp only [Act.put, List.setIfInBounds_toArray, List.set]
  refine wpAnyH_ready (rs := [8]) (by kernel_rfl) (by simp) ?_
  refine AllReadyH.cons rfl (fun K hK => ?_) AllReadyH.nil
  go_simp
  refine (HCP.out _ tot).mono ?_
  rintro e w5 ⟨ux, uy, us, rfl, ox, oy, hap, hb⟩
  obtain ⟨px, tx, rfl⟩ := own_shape ox
  obtain ⟨py, ty, rfl⟩ := own_shape oy.out
  have oM : OwnM w5 _ _ _ _ s.mem := ⟨ox, oy, hap⟩
  clear ox oy hap
  have hsz29 := hb.size
  replace bf7 := kept_froz hb (lt_of_cell bx6) bf7
  replace bf9 := kept_froz hb (lt_of_cell bx8) bf9
  replace bf11 := kept_froz hb (lt_of_cell bx10) bf11
  replace bf13 := kept_froz hb (lt_of_cell bx12) bf13
  replace bx2 : w5.cell? ⟨w.heap.size, 0, none⟩ = some (.int .i64 s.pc) := kept_cell hb bx2
  replace bx3 : w5.cell? ⟨w.heap.size, 1, none⟩ = some (.slice a5 s.regs.length c5) := kept_cell hb bx3
  replace bx4 : w5.cell? ⟨w.heap.size, 2, none⟩ = some (.slice a3 s.mem.vals.length c3) := kept_cell hb bx4
  replace bx5 : w5.cell? ⟨w.heap.size, 3, none⟩ = some (.slice a4 s.mem.arrs.length c4) := kept_cell hb bx5
  replace bx6 : w5.cell? ⟨w.heap.size + 1, 0, none⟩ = some (.int .i64 0) := kept_cell hb bx6
  replace bx8 : w5.cell? ⟨w.heap.size + 1, 1, none⟩ = some (.slice none 0 0) := kept_cell hb bx8
  replace bx10 : w5.cell? ⟨w.heap.size + 1, 2, none⟩ = some (.slice none 0 0) := kept_cell hb bx10
  replace bx12 : w5.cell? ⟨w.heap.size + 1, 3, none⟩ = some (.slice none 0 0) := kept_cell hb bx12
  replace oA24 := own_below oA24 hb
  replace tot := btr tot hb
  clear hb
  have iv30 := oM.lt
  clear lt27 lt28
  have lt31 := lt_of_cell bx2
  have lt32 := lt_of_cell bx6
  refine hK.out _ _ ⟨bx2, bx3, bx4, bx5⟩ (fun hHeld => ?_)
  clear hK K
  try simp only [Act.put, List.setIfInBounds_toArray, List.set]
  refine take_d (i := 9) (d := 12) (v := ?_) rfl rfl (by kernel_rfl) (by kernel_rfl) (by kernel_rfl) (fun _ _ _ h => h) (Or.inl ⟨by rfl, ?_⟩) (by assumption) ?_
  rotate_left
  · intro W' hSw; (try dsimp only at hSw); obtain ⟨s0, s1, s2, s3⟩ := hSw; go_simp; try with_reducible rfl
  try simp only [Act.put, List.setIfInBounds_toArray, List.set]
  refine wpAnyH_ready (rs := [10]) (by kernel_rfl) (by simp) ?_
  refine AllReadyH.cons rfl (fun K hK => ?_) AllReadyH.nil
  go_simp
  obtain ⟨w6, hnw⟩ : ∃ X, X = (World.setCell (World.setCell (World.setCell (World.setCell w5 ⟨w.heap.size + 1, 0, none⟩ (.int .i64 s.pc)) ⟨w.heap.size + 1, 1, none⟩ (.slice pA24 s.regs.length tA24)) ⟨w.heap.size + 1, 2, none⟩ (.slice px s.mem.vals.length tx)) ⟨w.heap.size + 1, 3, none⟩ (.slice py s.mem.arrs.length ty)) := ⟨_, rfl⟩
  have hb : Below (World.setCell (World.setCell (World.setCell (World.setCell w5 ⟨w.heap.size + 1, 0, none⟩ (.int .i64 s.pc)) ⟨w.heap.size + 1, 1, none⟩ (.slice pA24 s.regs.length tA24)) ⟨w.heap.size + 1, 2, none⟩ (.slice px s.mem.vals.length tx)) ⟨w.heap.size + 1, 3, none⟩ (.slice py s.mem.arrs.length ty)).heap.size (World.setCell (World.setCell (World.setCell (World.setCell w5 ⟨w.heap.size + 1, 0, none⟩ (.int .i64 s.pc)) ⟨w.heap.size + 1, 1, none⟩ (.slice pA24 s.regs.length tA24)) ⟨w.heap.size + 1, 2, none⟩ (.slice px s.mem.vals.length tx)) ⟨w.heap.size + 1, 3, none⟩ (.slice py s.mem.arrs.length ty)) w6 := by rw [hnw]; exact bself _
  have hsz33 := hb.size
  simp only [World.size_setCell] at hsz33
  replace bf7 := kept_froz hb (lt_of_cell (cell_ne (b := (w.heap.size + 1)) (j := 3) (cell_ne (b := (w.heap.size + 1)) (j := 2) (cell_ne (b := (w.heap.size + 1)) (j := 1) (cell_at _ (w.heap.size + 1) 0 (.int .i64 s.pc) bx6) (by omega) (.slice pA24 s.regs.length tA24)) (by omega) (.slice px s.mem.vals.length tx)) (by omega) (.slice py s.mem.arrs.length ty))) (froz_st (b := ⟨(w.heap.size + 1), 3, none⟩) (froz_st (b := ⟨(w.heap.size + 1), 2, none⟩) (froz_st (b := ⟨(w.heap.size + 1), 1, none⟩) (froz_st (b := ⟨(w.heap.size + 1), 0, none⟩) bf7 (.int .i64 s.pc)) (.slice pA24 s.regs.length tA24)) (.slice px s.mem.vals.length tx)) (.slice py s.mem.arrs.length ty))
  replace bf9 := kept_froz hb (lt_of_cell (cell_ne (b := (w.heap.size + 1)) (j := 3) (cell_ne (b := (w.heap.size + 1)) (j := 2) (cell_at _ (w.heap.size + 1) 1 (.slice pA24 s.regs.length tA24) (cell_ne (b := (w.heap.size + 1)) (j := 0) bx8 (by omega) (.int .i64 s.pc))) (by omega) (.slice px s.mem.vals.length tx)) (by omega) (.slice py s.mem.arrs.length ty))) (froz_st (b := ⟨(w.heap.size + 1), 3, none⟩) (froz_st (b := ⟨(w.heap.size + 1), 2, none⟩) (froz_st (b := ⟨(w.heap.size + 1), 1, none⟩) (froz_st (b := ⟨(w.heap.size + 1), 0, none⟩) bf9 (.int .i64 s.pc)) (.slice pA24 s.regs.length tA24)) (.slice px s.mem.vals.length tx)) (.slice py s.mem.arrs.length ty))
  replace bf11 := kept_froz hb (lt_of_cell (cell_ne (b := (w.heap.size + 1)) (j := 3) (cell_at _ (w.heap.size + 1) 2 (.slice px s.mem.vals.length tx) (cell_ne (b := (w.heap.size + 1)) (j := 1) (cell_ne (b := (w.heap.size + 1)) (j := 0) bx10 (by omega) (.int .i64 s.pc)) (by omega) (.slice pA24 s.regs.length tA24))) (by omega) (.slice py s.mem.arrs.length ty))) (froz_st (b := ⟨(w.heap.size + 1), 3, none⟩) (froz_st (b := ⟨(w.heap.size + 1), 2, none⟩) (froz_st (b := ⟨(w.heap.size + 1), 1, none⟩) (froz_st (b := ⟨(w.heap.size + 1), 0, none⟩) bf11 (.int .i64 s.pc)) (.slice pA24 s.regs.length tA24)) (.slice px s.mem.vals.length tx)) (.slice py s.mem.arrs.length ty))
  replace bf13 := kept_froz hb (lt_of_cell (cell_at _ (w.heap.size + 1) 3 (.slice py s.mem.arrs.length ty) (cell_ne (b := (w.heap.size + 1)) (j := 2) (cell_ne (b := (w.heap.size + 1)) (j := 1) (cell_ne (b := (w.heap.size + 1)) (j := 0) bx12 (by omega) (.int .i64 s.pc)) (by omega) (.slice pA24 s.regs.length tA24)) (by omega) (.slice px s.mem.vals.length tx)))) (froz_st (b := ⟨(w.heap.size + 1), 3, none⟩) (froz_st (b := ⟨(w.heap.size + 1), 2, none⟩) (froz_st (b := ⟨(w.heap.size + 1), 1, none⟩) (froz_st (b := ⟨(w.heap.size + 1), 0, none⟩) bf13 (.int .i64 s.pc)) (.slice pA24 s.regs.length tA24)) (.slice px s.mem.vals.length tx)) (.slice py s.mem.arrs.length ty))
  replace bx2 : w6.cell? ⟨w.heap.size, 0, none⟩ = some (.int .i64 s.pc) := kept_cell hb (cell_ne (b := (w.heap.size + 1)) (j := 3) (cell_ne (b := (w.heap.size + 1)) (j := 2) (cell_ne (b := (w.heap.size + 1)) (j := 1) (cell_ne (b := (w.heap.size + 1)) (j := 0) bx2 (by omega) (.int .i64 s.pc)) (by omega) (.slice pA24 s.regs.length tA24)) (by omega) (.slice px s.mem.vals.length tx)) (by omega) (.slice py s.mem.arrs.length ty))
  replace bx3 : w6.cell? ⟨w.heap.size, 1, none⟩ = some (.slice a5 s.regs.length c5) := kept_cell hb (cell_ne (b := (w.heap.size + 1)) (j := 3) (cell_ne (b := (w.heap.size + 1)) (j := 2) (cell_ne (b := (w.heap.size + 1)) (j := 1) (cell_ne (b := (w.heap.size + 1)) (j := 0) bx3 (by omega) (.int .i64 s.pc)) (by omega) (.slice pA24 s.regs.length tA24)) (by omega) (.slice px s.mem.vals.length tx)) (by omega) (.slice py s.mem.arrs.length ty))
  replace bx4 : w6.cell? ⟨w.heap.size, 2, none⟩ = some (.slice a3 s.mem.vals.length c3) := kept_cell hb (cell_ne (b := (w.heap.size + 1)) (j := 3) (cell_ne (b := (w.heap.size + 1)) (j := 2) (cell_ne (b := (w.heap.size + 1)) (j := 1) (cell_ne (b := (w.heap.size + 1)) (j := 0) bx4 (by omega) (.int .i64 s.pc)) (by omega) (.slice pA24 s.regs.length tA24)) (by omega) (.slice px s.mem.vals.length tx)) (by omega) (.slice py s.mem.arrs.length ty))
  replace bx5 : w6.cell? ⟨w.heap.size, 3, none⟩ = some (.slice a4 s.mem.arrs.length c4) := kept_cell hb (cell_ne (b := (w.heap.size + 1)) (j := 3) (cell_ne (b := (w.heap.size + 1)) (j := 2) (cell_ne (b := (w.heap.size + 1)) (j := 1) (cell_ne (b := (w.heap.size + 1)) (j := 0) bx5 (by omega) (.int .i64 s.pc)) (by omega) (.slice pA24 s.regs.length tA24)) (by omega) (.slice px s.mem.vals.length tx)) (by omega) (.slice py s.mem.arrs.length ty))
  replace bx6 : w6.cell? ⟨w.heap.size + 1, 0, none⟩ = some (.int .i64 s.pc) := kept_cell hb (cell_ne (b := (w.heap.size + 1)) (j := 3) (cell_ne (b := (w.heap.size + 1)) (j := 2) (cell_ne (b := (w.heap.size + 1)) (j := 1) (cell_at _ (w.heap.size + 1) 0 (.int .i64 s.pc) bx6) (by omega) (.slice pA24 s.regs.length tA24)) (by omega) (.slice px s.mem.vals.length tx)) (by omega) (.slice py s.mem.arrs.length ty))
  replace bx8 : w6.cell? ⟨w.heap.size + 1, 1, none⟩ = some (.slice pA24 s.regs.length tA24) := kept_cell hb (cell_ne (b := (w.heap.size + 1)) (j := 3) (cell_ne (b := (w.heap.size + 1)) (j := 2) (cell_at _ (w.heap.size + 1) 1 (.slice pA24 s.regs.length tA24) (cell_ne (b := (w.heap.size + 1)) (j := 0) bx8 (by omega) (.int .i64 s.pc))) (by omega) (.slice px s.mem.vals.length tx)) (by omega) (.slice py s.mem.arrs.length ty))
  replace bx10 : w6.cell? ⟨w.heap.size + 1, 2, none⟩ = some (.slice px s.mem.vals.length tx) := kept_cell hb (cell_ne (b := (w.heap.size + 1)) (j := 3) (cell_at _ (w.heap.size + 1) 2 (.slice px s.mem.vals.length tx) (cell_ne (b := (w.heap.size + 1)) (j := 1) (cell_ne (b := (w.heap.size + 1)) (j := 0) bx10 (by omega) (.int .i64 s.pc)) (by omega) (.slice pA24 s.regs.length tA24))) (by omega) (.slice py s.mem.arrs.length ty))
  replace bx12 : w6.cell? ⟨w.heap.size + 1, 3, none⟩ = some (.slice py s.mem.arrs.length ty) := kept_cell hb (cell_at _ (w.heap.size + 1) 3 (.slice py s.mem.arrs.length ty) (cell_ne (b := (w.heap.size + 1)) (j := 2) (cell_ne (b := (w.heap.size + 1)) (j := 1) (cell_ne (b := (w.heap.size + 1)) (j := 0) bx12 (by omega) (.int .i64 s.pc)) (by omega) (.slice pA24 s.regs.length tA24)) (by omega) (.slice px s.mem.vals.length tx)))
  replace oA24 := own_below (own_set (own_set (own_set (own_set oA24 (w.heap.size + 1) 0 (fun h => by have := iv26 _ h; omega) (.int .i64 s.pc)) (w.heap.size + 1) 1 (fun h => by have := iv26 _ h; omega) (.slice pA24 s.regs.length tA24)) (w.heap.size + 1) 2 (fun h => by have := iv26 _ h; omega) (.slice px s.mem.vals.length tx)) (w.heap.size + 1) 3 (fun h => by have := iv26 _ h; omega) (.slice py s.mem.arrs.length ty)) hb
  replace oM := ((((oM.keep ((Chg.refl (fun gk => gk = (w.heap.size + 1)) _).setCell (w.heap.size + 1) 0 (.int .i64 s.pc) (fun _ => rfl)) (fun gq h h2 => by have := iv30 gq h; omega)).keep ((Chg.refl (fun gk => gk = (w.heap.size + 1)) _).setCell (w.heap.size + 1) 1 (.slice pA24 s.regs.length tA24) (fun _ => rfl)) (fun gq h h2 => by have := iv30 gq h; omega)).keep ((Chg.refl (fun gk => gk = (w.heap.size + 1)) _).setCell (w.heap.size + 1) 2 (.slice px s.mem.vals.length tx) (fun _ => rfl)) (fun gq h h2 => by have := iv30 gq h; omega)).keep ((Chg.refl (fun gk => gk = (w.heap.size + 1)) _).setCell (w.heap.size + 1) 3 (.slice py s.mem.arrs.length ty) (fun _ => rfl)) (fun gq h h2 => by have := iv30 gq h; omega)).below hb
  replace tot := btr (bst (bst (bst (bst tot (w.heap.size + 1) 0 (by omega) (.int .i64 s.pc)) (w.heap.size + 1) 1 (by omega) (.slice pA24 s.regs.length tA24)) (w.heap.size + 1) 2 (by omega) (.slice px s.mem.vals.length tx)) (w.heap.size + 1) 3 (by omega) (.slice py s.mem.arrs.length ty)) hb
  clear hb
  rw [← hnw]
  clear hnw
  clear lt31 lt32
  have lt34 := lt_of_cell bx2
  have lt35 := lt_of_cell bx6
  refine hK.out _ _ ⟨bx2, bx3, bx4, bx5⟩ (fun hHeld => ?_)
  clear hK K
  try simp only [Act.put, List.setIfInBounds_toArray, List.set]
  refine wpAnyH_done (by kernel_rfl) ?_ _
  refine NoPanic.normal ?_
  clear hHeld
  have OM : OwnMv w6 w.heap.size (.slice pA24 s.regs.length tA24) (.slice px s.mem.vals.length tx) (.slice py s.mem.arrs.length ty) us s.regs s.mem := ⟨own_mono oA24 (by omega), own_mono oM.x (by omega), oM.y.mono (by omega), fun q h h2 => by have := iv26 q h; have := iv30 q (Or.inl h2); omega, fun q h h2 => by have := iv26 q h; have := iv30 q (Or.inr h2); omega, oM.ap⟩
  have x36 := bx6
  have x37 := bx8
  have x38 := bx10
  have x39 := bx12
  have tt := tot
  go_wp2
  exact bodyPost_ret (v := .agg #[.int .i64 s.pc, .slice pA24 s.regs.length tA24, .slice px s.mem.vals.length tx, .slice py s.mem.arrs.length ty]) (by simp [results, Try.results69, go_sem, x36, x37, x38, x39]) rfl (by exact ⟨_, _, _, us, rfl, OM, tt⟩)
end Go.Proofs.Ytbglogjamfdmpaa
