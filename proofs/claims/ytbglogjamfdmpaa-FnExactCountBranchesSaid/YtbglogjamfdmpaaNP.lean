/-
  Parts of the proof of the law FnExactCountBranches.
-/
import Derived.Test.YtbglogjamfdmpaaNK
import Derived.Test.YtbglogjamfdmpaaNL
namespace Go.Proofs.Ytbglogjamfdmpaa
open Go.RowKit

set_option maxHeartbeats 6400000 in
set_option maxRecDepth 100000 in
theorem sCount_any (va vb vc vx vy : Value) (c : Cd) (m : Mm) (w : World) (hr : ReadsC w va vb vc c) (hm : ReadsM w vx vy m) (hl : m.vals.length ≤ 1048576) (hn : m.arrs.length ≤ 1048576) (hp : pre2 m.arrs m.arrs.length ≤ 1048576) :
    Calls Try.prog 13 #[.agg #[va, vb, vc], .agg #[vx, vy]] w fun e w' => e = .returned (.tuple #[.int .i64 (cntR c m).1, .bool (cntR c m).2]) ∧ Below w.heap.size w w' := by
  obtain ⟨a0, c0, a1, c1, a2, c2, rfl, rfl, rfl⟩ := hr.shape
  obtain ⟨a3, c3, a4, c4, rfl, rfl⟩ := hm.shape
  rw [cntR_eq]
  have hlen := runE_len c m
  have HF := Lib.hid (runE_five c m)
  have HRUN := Lib.hid (sRunCode_any _ _ _ _ _ c m _ (hr.below (bal (bal (bself w) (.cells #[.slice a0 c.vars.length c0, .slice a1 c.arrays.length c1, .slice a2 c.list.length c2] 35)) (.cells #[.slice a3 m.vals.length c3, .slice a4 m.arrs.length c4] 37))) (hm.below (bal (bal (bself w) (.cells #[.slice a0 c.vars.length c0, .slice a1 c.arrays.length c1, .slice a2 c.list.length c2] 35)) (.cells #[.slice a3 m.vals.length c3, .slice a4 m.arrs.length c4] 37))) hl hn hp)
  have HR := Lib.hid (fun W (hW : Below w.heap.size w W) => hr.below hW)
  clear hr hm hl hn hp
  generalize runE c m = RE at *; generalize runM c m = RM at *; generalize runB c m = RB at *
  go_enter Try.func13, Try.ntmps13
  go_wp2_with fail
  refine (HRUN.out).mono ?_
  rintro e w1 ⟨ux, uy, us, u, rfl, hOM, hE, hb⟩
  obtain ⟨p0, q0, p1, q1, rfl, rfl⟩ := hOM.shape
  obtain ⟨pu, qu, rfl⟩ := own_shape hE
  clear HRUN hOM
  have hsz1 := hb.size
  simp only [World.size_alloc] at hsz1
  have bx2 : w1.cell? ⟨w.heap.size, 0, none⟩ = some (.slice a0 c.vars.length c0) := kept_cell hb (cell_al (cell_nw (by simp) (by rfl)) _)
  have bx3 : w1.cell? ⟨w.heap.size, 1, none⟩ = some (.slice a1 c.arrays.length c1) := kept_cell hb (cell_al (cell_nw (by simp) (by rfl)) _)
  have bx4 : w1.cell? ⟨w.heap.size, 2, none⟩ = some (.slice a2 c.list.length c2) := kept_cell hb (cell_al (cell_nw (by simp) (by rfl)) _)
  have bx5 : w1.cell? ⟨w.heap.size + 1, 0, none⟩ = some (.slice a3 m.vals.length c3) := kept_cell hb (cell_nw (by simp) (by rfl))
  have bx6 : w1.cell? ⟨w.heap.size + 1, 1, none⟩ = some (.slice a4 m.arrs.length c4) := kept_cell hb (cell_nw (by simp) (by rfl))
  have tot := btr (bal (bal (bself w) (.cells #[.slice a0 c.vars.length c0, .slice a1 c.arrays.length c1, .slice a2 c.list.length c2] 35)) (.cells #[.slice a3 m.vals.length c3, .slice a4 m.arrs.length c4] 37)) hb
  clear hb
  clear bx5 bx6
  have lt7 := lt_of_cell bx2
  have iv8 := hE.lt
  try simp only [World.size_alloc] at iv8
  go_upto_region 3 with (fail)
  obtain ⟨w2, hnw⟩ : ∃ X, X = (World.alloc w1 (.cells #[.slice p0 RM.vals.length q0, .slice p1 RM.arrs.length q1] 37)) := ⟨_, rfl⟩
  have hb : Below (World.alloc w1 (.cells #[.slice p0 RM.vals.length q0, .slice p1 RM.arrs.length q1] 37)).heap.size (World.alloc w1 (.cells #[.slice p0 RM.vals.length q0, .slice p1 RM.arrs.length q1] 37)) w2 := by rw [hnw]; exact bself _
  have hsz9 := hb.size
  simp only [World.size_alloc] at hsz9
  replace bx2 : w2.cell? ⟨w.heap.size, 0, none⟩ = some (.slice a0 c.vars.length c0) := kept_cell hb (cell_al bx2 (.cells #[.slice p0 RM.vals.length q0, .slice p1 RM.arrs.length q1] 37))
  replace bx3 : w2.cell? ⟨w.heap.size, 1, none⟩ = some (.slice a1 c.arrays.length c1) := kept_cell hb (cell_al bx3 (.cells #[.slice p0 RM.vals.length q0, .slice p1 RM.arrs.length q1] 37))
  replace bx4 : w2.cell? ⟨w.heap.size, 2, none⟩ = some (.slice a2 c.list.length c2) := kept_cell hb (cell_al bx4 (.cells #[.slice p0 RM.vals.length q0, .slice p1 RM.arrs.length q1] 37))
  replace hE := own_below (own_below hE (bal (bself _) (.cells #[.slice p0 RM.vals.length q0, .slice p1 RM.arrs.length q1] 37))) hb
  have bx10 : w2.cell? ⟨w1.heap.size, 0, none⟩ = some (.slice p0 RM.vals.length q0) := kept_cell hb (cell_nw (by simp) (by rfl))
  have bf11 : w2.frozen? ⟨w1.heap.size, 0, none⟩ = false := kept_froz hb (by simp) (froz_nw (by simp))
  have bx12 : w2.cell? ⟨w1.heap.size, 1, none⟩ = some (.slice p1 RM.arrs.length q1) := kept_cell hb (cell_nw (by simp) (by rfl))
  have bf13 : w2.frozen? ⟨w1.heap.size, 1, none⟩ = false := kept_froz hb (by simp) (froz_nw (by simp))
  replace tot := btr (bal tot (.cells #[.slice p0 RM.vals.length q0, .slice p1 RM.arrs.length q1] 37)) hb
  clear hb
  rw [← hnw]
  clear hnw
  clear bx10 bf11 bx12 bf13
  clear lt7
  have lt14 := lt_of_cell bx2
  have HEV := Lib.hid (fun W (hW : Below w2.heap.size w2 W) => reads_of_owns (own_below hE hW) (by omega))
  have HT := Lib.hid tot
  have HN2 := Lib.hid (fun W (hW : Below w2.heap.size w2 W) => kept_cell hW bx4)
  have hcl := fun k => cntE_le c (RE.take k)
  have HCL := Lib.hid hcl; clear hcl hE tot bx4
  clear bx2 bx3 lt14
  go_wp2_with fail
  go_loopw [9, 10] (fun nn t wr => ∃ k : Nat, k ≤ RE.length ∧ t = .int .i64 k ∧ nn = .int .i64 (cntE c (RE.take k)) ∧ Below w2.heap.size w2 wr) (fun _ t _ => RE.length - (intOf t).toNat)
  case atStart => exact ⟨0, Nat.zero_le _, rfl, by simp [cntE], bself _⟩
  case round =>
    obtain ⟨k, hk, rfl, rfl, hB⟩ := hrel
    have hcl := HCL.out k
    have hn2 := HN2.out _ hB
    have kn := lt_of_cell hn2
    have totr := btr HT.out hB
    have hzB := hB.size
    have htl : (RE.take k).length ≤ k := List.length_take_le _ _
    by_cases hlt : k < RE.length
    · have hqk : (k : Int) < (RE.length : Int) := by omega
      have hre := HEV.out _ hB
      obtain ⟨_, _, aa, cap, tb, toff, hv, hcap, ha, hca⟩ := hre
      simp only [Value.slice.injEq, true_and] at hv
      obtain ⟨rfl, rfl⟩ := hv
      obtain ⟨rfl, hbs⟩ := ha (by omega)
      obtain ⟨e1, e2⟩ := reads_ev hca k hlt
      have HX : Hid (cntE c (RE.take (k + 1)) = cntE c (RE.take k) + (if evBr c RE[k] = true then 1 else 0)) := Lib.hid (cntE_take c RE k hlt)
      have H5 := Lib.hid (HF.out RE[k] (List.getElem_mem hlt))
      clear hca ha hbs
      obtain ⟨x, HXE⟩ : ∃ x, Hid (x = RE[k]) := ⟨RE[k], Lib.hid rfl⟩
      rw [← HXE.out] at e1 e2
      have HX2 : Hid (cntE c (RE.take (k + 1)) = cntE c (RE.take k) + (if evBr c x = true then 1 else 0)) := Lib.hid (by rw [HXE.out]; exact HX.out)
      have H52 : Hid (x.1 = 5 → 0 ≤ x.2 ∧ x.2 < c.list.length) := Lib.hid (by rw [HXE.out]; exact H5.out)
      clear HX H5 HXE
      obtain ⟨kd, ev⟩ := x
      simp only at e1 e2
      have ke := lt_of_cell e1
      by_cases h5 : kd = 5
      · have hx : (kd == 5) = true := by simp [h5]
        subst h5
        obtain ⟨h6, h7⟩ := H52.out rfl
        obtain ⟨q, rfl⟩ : ∃ q : Nat, ev = q := ⟨ev.toNat, by omega⟩
        have hql : q < c.list.length := by omega
        have hqq : (q : Int) < (c.list.length : Int) := by omega
        have hrl := (HR.out wr totr).l
        obtain ⟨_, hn, aa, cap, lb, loff, hv, hcap, ha, hca⟩ := hrl
        simp only [Value.slice.injEq, true_and] at hv
        obtain ⟨rfl, rfl⟩ := hv
        obtain ⟨rfl, hbs⟩ := ha (by omega)
        obtain ⟨f0, f1, f2, f3, f4⟩ := reads_Instr hca q hql
        clear hca ha hbs
        have HY : Hid ((insAt c (q : Int)) = c.list[q]) := Lib.hid (by unfold insAt; rw [Int.toNat_natCast, List.getElem?_eq_getElem hql]; rfl)
        obtain ⟨y, HYE⟩ : ∃ y, Hid (y = c.list[q]) := ⟨c.list[q], Lib.hid rfl⟩
        rw [← HYE.out] at f0 f1 f2 f3 f4
        have HBR : Hid (evBr c (5, (q : Int)) = isBr y.op) := Lib.hid (by show ((5 : Int) == 5 && _) = _; rw [HY.out, HYE.out]; rfl)
        clear HY HYE
        have kf := lt_of_cell f0
        go_upto_region 6 with (fail)
        have lt15 := lt_of_cell hn2
        have lt16 := lt_of_cell e1
        have lt17 := lt_of_cell f0
        refine wp_region_noPanic ?_
        refine wp_region_held_drew (S := (fun W' => W'.cell? ⟨tb, toff + k * 2, none⟩ = some (.int .i64 5) ∧ W'.cell? ⟨w.heap.size, 2, none⟩ = some (.slice (some ⟨lb, loff, none⟩) c.list.length c2) ∧ W'.cell? ⟨tb, toff + k * 2 + 1, none⟩ = some (.int .i64 q) ∧ W'.cell? ⟨lb, loff + q * 5, none⟩ = some (.int .i64 y.op) ∧ W'.cell? ⟨lb, loff + q * 5 + 1, none⟩ = some (.int .i64 y.a) ∧ W'.cell? ⟨lb, loff + q * 5 + 2, none⟩ = some (.int .i64 y.b) ∧ W'.cell? ⟨lb, loff + q * 5 + 3, none⟩ = some (.int .i64 y.c) ∧ W'.cell? ⟨lb, loff + q * 5 + 4, none⟩ = some (.int .i64 y.d))) (by kernel_rfl) ⟨kept_cell (Below.drew (bself wr)) e1, kept_cell (Below.drew (bself wr)) hn2, kept_cell (Below.drew (bself wr)) e2, kept_cell (Below.drew (bself wr)) f0, kept_cell (Below.drew (bself wr)) f1, kept_cell (Below.drew (bself wr)) f2, kept_cell (Below.drew (bself wr)) f3, kept_cell (Below.drew (bself wr)) f4⟩ (fun hHeld => ?_)
        obtain ⟨w3, hwd⟩ : ∃ X, X = World.drew wr := ⟨_, rfl⟩
        rw [← hwd] at hHeld ⊢
        have hb : Below wr.heap.size wr w3 := by rw [hwd]; exact Below.drew (bself _)
        clear hwd
        have hBn := btr hB hb
        have hB9 := hBn; clear hBn
        have hsz18 := hb.size
        replace hn2 : w3.cell? ⟨w.heap.size, 2, none⟩ = some (.slice (some ⟨lb, loff, none⟩) c.list.length c2) := kept_cell hb hn2
        replace e1 : w3.cell? ⟨tb, toff + k * 2, none⟩ = some (.int .i64 5) := kept_cell hb e1
        replace e2 : w3.cell? ⟨tb, toff + k * 2 + 1, none⟩ = some (.int .i64 q) := kept_cell hb e2
        replace f0 : w3.cell? ⟨lb, loff + q * 5, none⟩ = some (.int .i64 y.op) := kept_cell hb f0
        replace f1 : w3.cell? ⟨lb, loff + q * 5 + 1, none⟩ = some (.int .i64 y.a) := kept_cell hb f1
        replace f2 : w3.cell? ⟨lb, loff + q * 5 + 2, none⟩ = some (.int .i64 y.b) := kept_cell hb f2
        replace f3 : w3.cell? ⟨lb, loff + q * 5 + 3, none⟩ = some (.int .i64 y.c) := kept_cell hb f3
        replace f4 : w3.cell? ⟨lb, loff + q * 5 + 4, none⟩ = some (.int .i64 y.d) := kept_cell hb f4
        replace tot := btr totr hb
        clear hb
        clear lt15 lt16 lt17
        have lt19 := lt_of_cell hn2
        have lt20 := lt_of_cell e1
        have lt21 := lt_of_cell f0
        refine take_d (i := 0) (d := 24) (v := ?_) rfl rfl (by kernel_rfl) (by kernel_rfl) (by kernel_rfl) (fun _ _ _ h => h) (Or.inl ⟨by rfl, ?_⟩) (by assumption) ?_
        rotate_left
        · intro W' hSw; (try dsimp only at hSw); obtain ⟨s0, s1, s2, s3, s4, s5, s6, s7⟩ := hSw; go_simp; try with_reducible rfl
        try simp only [Act.put, List.setIfInBounds_toArray, List.set]
        refine take_d (i := 1) (d := 25) (v := ?_) rfl rfl (by kernel_rfl) (by kernel_rfl) (by kernel_rfl) (fun _ _ _ h => h) (Or.inl ⟨by rfl, ?_⟩) (by assumption) ?_
        rotate_left
        · intro W' hSw; (try dsimp only at hSw); obtain ⟨s0, s1, s2, s3, s4, s5, s6, s7⟩ := hSw; go_simp; try with_reducible rfl
        try simp only [Act.put, List.setIfInBounds_toArray, List.set]
        refine take_d (i := 2) (d := 26) (v := ?_) rfl rfl (by kernel_rfl) (by kernel_rfl) (by kernel_rfl) (fun _ _ _ h => h) (Or.inl ⟨by rfl, ?_⟩) (by assumption) ?_
        rotate_left
        · intro W' hSw; (try dsimp only at hSw); obtain ⟨s0, s1, s2, s3, s4, s5, s6, s7⟩ := hSw; go_simp; try with_reducible rfl
        try simp only [Act.put, List.setIfInBounds_toArray, List.set]
        refine take_d (i := 3) (d := 27) (v := ?_) rfl rfl (by kernel_rfl) (by kernel_rfl) (by kernel_rfl) (fun _ _ _ h => h) (Or.inl ⟨by rfl, ?_⟩) (by assumption) ?_
        rotate_left
        · intro W' hSw; (try dsimp only at hSw); obtain ⟨s0, s1, s2, s3, s4, s5, s6, s7⟩ := hSw; go_simp; try with_reducible rfl
        try simp only [Act.put, List.setIfInBounds_toArray, List.set]
        refine take_d (i := 4) (d := 28) (v := ?_) rfl rfl (by kernel_rfl) (by kernel_rfl) (by kernel_rfl) (fun _ _ _ h => h) (Or.inl ⟨by rfl, ?_⟩) (by assumption) ?_
        rotate_left
        · intro W' hSw; (try dsimp only at hSw); obtain ⟨s0, s1, s2, s3, s4, s5, s6, s7⟩ := hSw; go_simp; try with_reducible rfl
        try simp only [Act.put, List.setIfInBounds_toArray, List.set]
        refine take_d (i := 5) (d := 29) (v := ?_) rfl rfl (by kernel_rfl) (by kernel_rfl) (by kernel_rfl) (fun _ _ _ h => h) (Or.inl ⟨by rfl, ?_⟩) (by assumption) ?_
        rotate_left
        · intro W' hSw; (try dsimp only at hSw); obtain ⟨s0, s1, s2, s3, s4, s5, s6, s7⟩ := hSw; go_simp; try with_reducible rfl
        try simp only [Act.put, List.setIfInBounds_toArray, List.set]
        refine take_d (i := 6) (d := 30) (v := ?_) rfl rfl (by kernel_rfl) (by kernel_rfl) (by kernel_rfl) (fun _ _ _ h => h) (Or.inl ⟨by rfl, ?_⟩) (by assumption) ?_
        rotate_left
        · intro W' hSw; (try dsimp only at hSw); obtain ⟨s0, s1, s2, s3, s4, s5, s6, s7⟩ := hSw; go_simp; try with_reducible rfl
        try simp only [Act.put, List.setIfInBounds_toArray, List.set]
        refine take_d (i := 7) (d := 31) (v := ?_) rfl rfl (by kernel_rfl) (by kernel_rfl) (by kernel_rfl) (fun _ _ _ h => h) (Or.inl ⟨by rfl, ?_⟩) (by assumption) ?_
        rotate_left
        · intro W' hSw; (try dsimp only at hSw); obtain ⟨s0, s1, s2, s3, s4, s5, s6, s7⟩ := hSw; go_simp; try with_reducible rfl
        try simp only [Act.put, List.setIfInBounds_toArray, List.set]
        refine take_d (i := 8) (d := 32) (v := ?_) rfl rfl (by kernel_rfl) (by kernel_rfl) (by kernel_rfl) (fun _ _ _ h => h) (Or.inl ⟨by rfl, ?_⟩) (by assumption) ?_
        rotate_left
        · intro W' hSw; (try dsimp only at hSw); obtain ⟨s0, s1, s2, s3, s4, s5, s6, s7⟩ := hSw; go_simp; try with_reducible rfl
        try simp only [Act.put, List.setIfInBounds_toArray, List.set]
        refine take_d (i := 9) (d := 33) (v := ?_) rfl rfl (by kernel_rfl) (by kernel_rfl) (by kernel_rfl) (fun _ _ _ h => h) (Or.inl ⟨by rfl, ?_⟩) (by assumption) ?_
        rotate_left
        · intro W' hSw; (try dsimp only at hSw); obtain ⟨s0, s1, s2, s3, s4, s5, s6, s7⟩ := hSw; go_simp; try with_reducible rfl
        try simp only [Act.put, List.setIfInBounds_toArray, List.set]
        refine take_d (i := 10) (d := 34) (v := ?_) rfl rfl (by kernel_rfl) (by kernel_rfl) (by kernel_rfl) (fun _ _ _ h => h) (Or.inl ⟨by rfl, ?_⟩) (by assumption) ?_
        rotate_left
        · intro W' hSw; (try dsimp only at hSw); obtain ⟨s0, s1, s2, s3, s4, s5, s6, s7⟩ := hSw; go_simp; try with_reducible rfl
        try simp only [Act.put, List.setIfInBounds_toArray, List.set]
        refine take_d (i := 11) (d := 35) (v := ?_) rfl rfl (by kernel_rfl) (by kernel_rfl) (by kernel_rfl) (fun _ _ _ h => h) (Or.inl ⟨by rfl, ?_⟩) (by assumption) ?_
        rotate_left
        · intro W' hSw; (try dsimp only at hSw); obtain ⟨s0, s1, s2, s3, s4, s5, s6, s7⟩ := hSw; go_simp; try with_reducible rfl
        try simp only [Act.put, List.setIfInBounds_toArray, List.set]
        refine take_d (i := 12) (d := 36) (v := ?_) rfl rfl (by kernel_rfl) (by kernel_rfl) (by kernel_rfl) (fun _ _ _ h => h) (Or.inl ⟨by rfl, ?_⟩) (by assumption) ?_
        rotate_left
        · intro W' hSw; (try dsimp only at hSw); obtain ⟨s0, s1, s2, s3, s4, s5, s6, s7⟩ := hSw; go_simp; try with_reducible rfl
        try simp only [Act.put, List.setIfInBounds_toArray, List.set]
        refine take_d (i := 13) (d := 37) (v := ?_) rfl rfl (by kernel_rfl) (by kernel_rfl) (by kernel_rfl) (fun _ _ _ h => h) (Or.inl ⟨by rfl, ?_⟩) (by assumption) ?_
        rotate_left
        · intro W' hSw; (try dsimp only at hSw); obtain ⟨s0, s1, s2, s3, s4, s5, s6, s7⟩ := hSw; go_simp; try with_reducible rfl
        try simp only [Act.put, List.setIfInBounds_toArray, List.set]
        refine take_d (i := 14) (d := 38) (v := ?_) rfl rfl (by kernel_rfl) (by kernel_rfl) (by kernel_rfl) (fun _ _ _ h => h) (Or.inl ⟨by rfl, ?_⟩) (by assumption) ?_
        rotate_left
        · intro W' hSw; (try dsimp only at hSw); obtain ⟨s0, s1, s2, s3, s4, s5, s6, s7⟩ := hSw; go_simp; try with_reducible rfl
        try simp only [Act.put, List.setIfInBounds_toArray, List.set]
        refine take_d (i := 15) (d := 39) (v := ?_) rfl rfl (by kernel_rfl) (by kernel_rfl) (by kernel_rfl) (fun _ _ _ h => h) (Or.inl ⟨by rfl, ?_⟩) (by assumption) ?_
        rotate_left
        · intro W' hSw; (try dsimp only at hSw); obtain ⟨s0, s1, s2, s3, s4, s5, s6, s7⟩ := hSw; go_simp; try with_reducible rfl
        try simp only [Act.put, List.setIfInBounds_toArray, List.set]
        refine wpAnyH_ready (rs := [16]) (by kernel_rfl) (by simp) ?_
        refine AllReadyH.cons rfl (fun K hK => ?_) AllReadyH.nil
        go_simp
        refine (l11Branch_any _ _ _ _ _ _).mono ?_
        rintro e w4 ⟨rfl, hb⟩
        have hBn := btr hB9 hb
        have hB9 := hBn; clear hBn
        have hsz22 := hb.size
        replace hn2 : w4.cell? ⟨w.heap.size, 2, none⟩ = some (.slice (some ⟨lb, loff, none⟩) c.list.length c2) := kept_cell hb hn2
        replace e1 : w4.cell? ⟨tb, toff + k * 2, none⟩ = some (.int .i64 5) := kept_cell hb e1
        replace e2 : w4.cell? ⟨tb, toff + k * 2 + 1, none⟩ = some (.int .i64 q) := kept_cell hb e2
        replace f0 : w4.cell? ⟨lb, loff + q * 5, none⟩ = some (.int .i64 y.op) := kept_cell hb f0
        replace f1 : w4.cell? ⟨lb, loff + q * 5 + 1, none⟩ = some (.int .i64 y.a) := kept_cell hb f1
        replace f2 : w4.cell? ⟨lb, loff + q * 5 + 2, none⟩ = some (.int .i64 y.b) := kept_cell hb f2
        replace f3 : w4.cell? ⟨lb, loff + q * 5 + 3, none⟩ = some (.int .i64 y.c) := kept_cell hb f3
        replace f4 : w4.cell? ⟨lb, loff + q * 5 + 4, none⟩ = some (.int .i64 y.d) := kept_cell hb f4
        replace tot := btr tot hb
        clear hb
        clear lt19 lt20 lt21
        have lt23 := lt_of_cell hn2
        have lt24 := lt_of_cell e1
        have lt25 := lt_of_cell f0
        refine hK.out _ _ ⟨e1, hn2, e2, f0, f1, f2, f3, f4⟩ (fun hHeld => ?_)
        clear hK K
        try simp only [Act.put, List.setIfInBounds_toArray, List.set]
        refine take_d (i := 17) (d := 41) (v := ?_) rfl rfl (by kernel_rfl) (by kernel_rfl) (by kernel_rfl) (fun _ _ _ h => h) (Or.inl ⟨by rfl, ?_⟩) (by assumption) ?_
        rotate_left
        · intro W' hSw; (try dsimp only at hSw); obtain ⟨s0, s1, s2, s3, s4, s5, s6, s7⟩ := hSw; go_simp; try with_reducible rfl
        try simp only [Act.put, List.setIfInBounds_toArray, List.set]
        refine wpAnyH_done (by kernel_rfl) ?_ _
        refine NoPanic.normal ?_
        clear hHeld
        have HBR2 := Lib.hid HBR.out
        cases hbr : isBr y.op
        · have HX3 : Hid (cntE c (RE.take (k + 1)) = cntE c (RE.take k)) := Lib.hid (by rw [HX2.out, HBR.out, hbr]; simp)
          clear HX2 HBR HBR2 H52
          go_wp2
          go_roundw
          case rel => exact ⟨k + 1, by omega, by go_num, by rw [HX3.out], hB9⟩
          case measure => simp [intOf]; omega
        · have HX3 : Hid (cntE c (RE.take (k + 1)) = cntE c (RE.take k) + 1) := Lib.hid (by rw [HX2.out, HBR.out, hbr]; simp)
          clear HX2 HBR HBR2 H52
          go_wp2
          go_roundw
          case rel => exact ⟨k + 1, by omega, by go_num, by rw [HX3.out], hB9⟩
          case measure => simp [intOf]; omega
      · have hx : (kd == 5) = false := by simp [h5]
        go_upto_region 6 with (fail)
        have lt26 := lt_of_cell hn2
        have lt27 := lt_of_cell e1
        refine wp_region_noPanic ?_
        refine wp_region_held_drew (S := (fun W' => W'.cell? ⟨tb, toff + k * 2, none⟩ = some (.int .i64 kd) ∧ W'.cell? ⟨w.heap.size, 2, none⟩ = some (.slice a2 c.list.length c2) ∧ W'.cell? ⟨tb, toff + k * 2 + 1, none⟩ = some (.int .i64 ev))) (by kernel_rfl) ⟨kept_cell (Below.drew (bself wr)) e1, kept_cell (Below.drew (bself wr)) hn2, kept_cell (Below.drew (bself wr)) e2⟩ (fun hHeld => ?_)
        obtain ⟨w3, hwd⟩ : ∃ X, X = World.drew wr := ⟨_, rfl⟩
        rw [← hwd] at hHeld ⊢
        have hb : Below wr.heap.size wr w3 := by rw [hwd]; exact Below.drew (bself _)
        clear hwd
        have hBn := btr hB hb
        have hB9 := hBn; clear hBn
        have hsz28 := hb.size
        replace hn2 : w3.cell? ⟨w.heap.size, 2, none⟩ = some (.slice a2 c.list.length c2) := kept_cell hb hn2
        replace e1 : w3.cell? ⟨tb, toff + k * 2, none⟩ = some (.int .i64 kd) := kept_cell hb e1
        replace e2 : w3.cell? ⟨tb, toff + k * 2 + 1, none⟩ = some (.int .i64 ev) := kept_cell hb e2
        replace tot := btr totr hb
        clear hb
        clear lt26 lt27
        have lt29 := lt_of_cell hn2
        have lt30 := lt_of_cell e1
        refine take_d (i := 0) (d := 24) (v := ?_) rfl rfl (by kernel_rfl) (by kernel_rfl) (by kernel_rfl) (fun _ _ _ h => h) (Or.inl ⟨by rfl, ?_⟩) (by assumption) ?_
        rotate_left
        · intro W' hSw; (try dsimp only at hSw); obtain ⟨s0, s1, s2⟩ := hSw; go_simp; try with_reducible rfl
        try simp only [Act.put, List.setIfInBounds_toArray, List.set]
        refine take_d (i := 1) (d := 25) (v := ?_) rfl rfl (by kernel_rfl) (by kernel_rfl) (by kernel_rfl) (fun _ _ _ h => h) (Or.inl ⟨by rfl, ?_⟩) (by assumption) ?_
        rotate_left
        · intro W' hSw; (try dsimp only at hSw); obtain ⟨s0, s1, s2⟩ := hSw; go_simp; try with_reducible rfl
        try simp only [Act.put, List.setIfInBounds_toArray, List.set]
        refine take_d (i := 2) (d := 26) (v := ?_) rfl rfl (by kernel_rfl) (by kernel_rfl) (by kernel_rfl) (fun _ _ _ h => h) (Or.inl ⟨by rfl, ?_⟩) (by assumption) ?_
        rotate_left
        · intro W' hSw; (try dsimp only at hSw); obtain ⟨s0, s1, s2⟩ := hSw; go_simp; try with_reducible rfl
        try simp only [Act.put, List.setIfInBounds_toArray, List.set]
        refine take_d (i := 3) (d := 27) (v := ?_) rfl rfl (by kernel_rfl) (by kernel_rfl) (by kernel_rfl) (fun _ _ _ h => h) (Or.inl ⟨by rfl, ?_⟩) (by assumption) ?_
        rotate_left
        · intro W' hSw; (try dsimp only at hSw); obtain ⟨s0, s1, s2⟩ := hSw; go_simp; try with_reducible rfl
        try simp only [Act.put, List.setIfInBounds_toArray, List.set]
        refine take_d (i := 4) (d := 28) (v := ?_) rfl rfl (by kernel_rfl) (by kernel_rfl) (by kernel_rfl) (fun _ _ _ h => h) (Or.inl ⟨by rfl, ?_⟩) (by assumption) ?_
        rotate_left
        · intro W' hSw; (try dsimp only at hSw); obtain ⟨s0, s1, s2⟩ := hSw; go_simp; try with_reducible rfl
        try simp only [Act.put, List.setIfInBounds_toArray, List.set]
        refine take_d (i := 5) (d := 29) (v := ?_) rfl rfl (by kernel_rfl) (by kernel_rfl) (by kernel_rfl) (fun _ _ _ h => h) (Or.inl ⟨by rfl, ?_⟩) (by assumption) ?_
        rotate_left
        · intro W' hSw; (try dsimp only at hSw); obtain ⟨s0, s1, s2⟩ := hSw; go_simp; try with_reducible rfl
        try simp only [Act.put, List.setIfInBounds_toArray, List.set]
        refine take_d (i := 6) (d := 30) (v := ?_) rfl rfl (by kernel_rfl) (by kernel_rfl) (by kernel_rfl) (fun _ _ _ h => h) (Or.inl ⟨by rfl, ?_⟩) (by assumption) ?_
        rotate_left
        · intro W' hSw; (try dsimp only at hSw); obtain ⟨s0, s1, s2⟩ := hSw; go_simp; try with_reducible rfl
        try simp only [Act.put, List.setIfInBounds_toArray, List.set]
        refine take_d (i := 7) (d := 31) rfl rfl (by kernel_rfl) (by kernel_rfl) (by kernel_rfl) (fun _ _ _ h => h) (Or.inr ⟨by rfl, rfl⟩) (by assumption) ?_
        try simp only [Act.put, List.setIfInBounds_toArray, List.set]
        refine take_d (i := 8) (d := 32) rfl rfl (by kernel_rfl) (by kernel_rfl) (by kernel_rfl) (fun _ _ _ h => h) (Or.inr ⟨by rfl, rfl⟩) (by assumption) ?_
        try simp only [Act.put, List.setIfInBounds_toArray, List.set]
        refine take_d (i := 9) (d := 33) rfl rfl (by kernel_rfl) (by kernel_rfl) (by kernel_rfl) (fun _ _ _ h => h) (Or.inr ⟨by rfl, rfl⟩) (by assumption) ?_
        try simp only [Act.put, List.setIfInBounds_toArray, List.set]
        refine take_d (i := 10) (d := 34) rfl rfl (by kernel_rfl) (by kernel_rfl) (by kernel_rfl) (fun _ _ _ h => h) (Or.inr ⟨by rfl, rfl⟩) (by assumption) ?_
        try simp only [Act.put, List.setIfInBounds_toArray, List.set]
        refine take_d (i := 11) (d := 35) rfl rfl (by kernel_rfl) (by kernel_rfl) (by kernel_rfl) (fun _ _ _ h => h) (Or.inr ⟨by rfl, rfl⟩) (by assumption) ?_
        try simp only [Act.put, List.setIfInBounds_toArray, List.set]
        refine take_d (i := 12) (d := 36) rfl rfl (by kernel_rfl) (by kernel_rfl) (by kernel_rfl) (fun _ _ _ h => h) (Or.inr ⟨by rfl, rfl⟩) (by assumption) ?_
        try simp only [Act.put, List.setIfInBounds_toArray, List.set]
        refine take_d (i := 13) (d := 37) rfl rfl (by kernel_rfl) (by kernel_rfl) (by kernel_rfl) (fun _ _ _ h => h) (Or.inr ⟨by rfl, rfl⟩) (by assumption) ?_
        try simp only [Act.put, List.setIfInBounds_toArray, List.set]
        refine take_d (i := 14) (d := 38) rfl rfl (by kernel_rfl) (by kernel_rfl) (by kernel_rfl) (fun _ _ _ h => h) (Or.inr ⟨by rfl, rfl⟩) (by assumption) ?_
        try simp only [Act.put, List.setIfInBounds_toArray, List.set]
        refine take_d (i := 15) (d := 39) rfl rfl (by kernel_rfl) (by kernel_rfl) (by kernel_rfl) (fun _ _ _ h => h) (Or.inr ⟨by rfl, rfl⟩) (by assumption) ?_
        try simp only [Act.put, List.setIfInBounds_toArray, List.set]
        refine take_d (i := 16) (d := 40) rfl rfl (by kernel_rfl) (by kernel_rfl) (by kernel_rfl) (fun _ _ _ h => h) (Or.inr ⟨by rfl, rfl⟩) (by assumption) ?_
        try simp only [Act.put, List.setIfInBounds_toArray, List.set]
        refine take_d (i := 17) (d := 41) (v := ?_) rfl rfl (by kernel_rfl) (by kernel_rfl) (by kernel_rfl) (fun _ _ _ h => h) (Or.inl ⟨by rfl, ?_⟩) (by assumption) ?_
        rotate_left
        · intro W' hSw; (try dsimp only at hSw); obtain ⟨s0, s1, s2⟩ := hSw; go_simp; try with_reducible rfl
        try simp only [Act.put, List.setIfInBounds_toArray, List.set]
        refine wpAnyH_done (by kernel_rfl) ?_ _
        refine NoPanic.normal ?_
        clear hHeld
        have HX3 : Hid (cntE c (RE.take (k + 1)) = cntE c (RE.take k)) := Lib.hid (by rw [HX2.out]; simp [evBr, hx])
        clear HX2 H52
        go_wp2
        go_roundw
        case rel => exact ⟨k + 1, by omega, by go_num, by rw [HX3.out], hB9⟩
        case measure => simp [intOf]; omega
    · have hke : k = RE.length := by omega
      subst hke
      have HTK : Hid (RE.take RE.length = RE) := Lib.hid (List.take_of_length_le (Nat.le_refl _))
      rw [HTK.out] at hcl ⊢
      have tt := totr
      go_wp2
      exact bodyPost_ret (v := .tuple #[.int .i64 (cntE c RE), .bool RB]) (by simp [results, Try.results13, go_sem]) rfl (by exact ⟨rfl, tt⟩)
end Go.Proofs.Ytbglogjamfdmpaa
