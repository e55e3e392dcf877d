/-
  Parts of the proof of the law FnExactSpecRun.
-/
import Derived.Test.YtbglogjamfdmpaaCO
import Derived.Test.YtbglogjamfdmpaaEV
import Derived.Test.YtbglogjamfdmpaaRB
import Derived.Test.YtbglogjamfdmpaaRows
import Derived.Test.YtbglogjamfdmpaaXH
import Derived.Test.YtbglogjamfdmpaaXI
import Derived.Test.YtbglogjamfdmpaaXK
namespace Go.Proofs.Ytbglogjamfdmpaa
open Go.RowKit

theorem runM_small (c : Cd) (m : Mm) : (runM c m).vals.length ≤ 1048576 ∧ (runM c m).arrs.length ≤ 1048576 ∧ pre2 (runM c m).arrs (runM c m).arrs.length ≤ 1048576 := by
  cases h : finN c m with
  | none => rw [(run_no h).2.1]; simp [pre2]
  | some n =>
    rw [(run_yes h).2.1]
    have hg : goOk c m = true := by
      unfold finN at h
      cases hg : goOk c m with
      | true => rfl
      | false => rw [hg] at h; simp at h
    exact (mem_small (goOk_code hg) (stN_ok (goOk_code hg) (ini_ok hg) (n + 1))).2
theorem mkM_small {k : Int} {m : Mm} (h1 : m.vals.length ≤ 1048576) (h2 : m.arrs.length ≤ 1048576) (h3 : pre2 m.arrs m.arrs.length ≤ 1048576) : (mkM k m).vals.length ≤ 1048576 ∧ (mkM k m).arrs.length ≤ 1048576 ∧ pre2 (mkM k m).arrs (mkM k m).arrs.length ≤ 1048576 :=
  ⟨by show (marks _ _).length ≤ _; rw [marks_length]; exact h1, by show (mk2I _ _).length ≤ _; rw [mk2I_len]; exact h2, by show pre2 (mk2I _ _) (mk2I _ _).length ≤ _; rw [mk2I_len, mk2I_pre]; exact h3⟩
theorem heldEventS_b (v : Value) (n : Nat) (k : Int) (w : World) (hr : Reads w 2 v n (rows evc (marksEvent k n))) (hn : n ≤ 1073741824) (h0 : 0 ≤ k) (h1 : k ≤ 1073741824) :
    Calls Try.prog 28 #[v, .int .i64 k] w fun e w' => e = .returned (.int .i64 (k + 2 * (n : Int))) ∧ Below w.heap.size w w' :=
  (heldEventS_any v n k w hr hn h0 h1).mono (fun _ _ ⟨h, d, hd⟩ => ⟨h, by rw [hd]; exact below_drewN' _ _⟩)
theorem mem_ev_apart {w : World} {base base' n : Nat} {vx vy u : Value} {us ys : List Value} {m : Mm} (h : OwnM w base vx vy us m) (h' : w.ownsRow base' 89 2 u n ys) : ∀ q, OwnBM vx vy us q → ¬ u.ownBlock = some q := by
  rintro q (hq | hq) h2
  · exact own_diff h.x h' (by decide) q hq h2
  · rcases hq with hq | ⟨k, r, hk, hq⟩
    · exact own_diff h.y.out h' (by decide) q hq h2
    · obtain ⟨h3, rfl⟩ := List.getElem?_eq_some_iff.1 hk
      exact own_diff (h.y.row k _ _ (List.getElem?_eq_getElem h3) (List.getElem?_eq_getElem (by rw [← h.y.len]; exact h3))) h' (by decide) q hq h2
set_option maxHeartbeats 25600000 in
set_option maxRecDepth 100000 in
theorem FnExactSpecRun_walk (va vb vc vx vy vw : Value) (c : Cd) (m : Mm) (ws : List Bool) (w : World) (r0 : ReadsC w va vb vc c) (rm : ReadsM w vx vy m) (rw0 : Reads w 1 vw ws.length (bools ws)) :
    Calls Try.prog 6 #[.agg #[va, vb, vc], .agg #[vx, vy], vw] w fun e w' => e = .returned (.bool true) ∧ Below w.heap.size w w' := by
  obtain ⟨a0, c0, a1, c1, a2, c2, rfl, rfl, rfl⟩ := r0.shape
  obtain ⟨a3, c3, a4, c4, rfl, rfl⟩ := rm.shape
  obtain ⟨aw, cw, rfl⟩ := reads_shape rw0
  have hI := fun (va vb vc vx vy : Value) (W : World) h1 h2 h3 h4 h5 aw cw h6 => iSpecRun_any va vb vc vx vy c m W h1 h2 h3 h4 h5 aw cw ws h6
  have hS := fun (va vb vc vx vy : Value) (W : World) h1 h2 h3 h4 h5 aw cw h6 => sSpecRun_any va vb vc vx vy c m W h1 h2 h3 h4 h5 aw cw ws h6
  obtain ⟨hM1, hM2, hM3⟩ := runM_small c m
  have hE := srE_len c m ws
  generalize runM c m = RM at *; generalize srE c m ws = L at *; generalize runB c m = ok at *
  simp only [evs_rows] at hI hS
  have HI := Lib.hid hI; have HS := Lib.hid hS; clear hI hS
  have hszM : 0 ≤ sizeM c := by unfold sizeM; omega
  have hok : (!(ok == ok)) = false := by simp
  have hok2 : (ok != ok) = false := by simp
  have HRW := Lib.hid (fun W (hW : Below w.heap.size w W) => rw0.below hW)
  have HRW63 := Lib.hid rw0.2.1
  clear rw0
  have HR0 := Lib.hid (fun W (hW : Below w.heap.size w W) => r0.below hW)
  have HRM := Lib.hid (fun W (hW : Below w.heap.size w W) => rm.below hW)
  clear r0 rm
  go_enter Try.func6, Try.ntmps6
  by_cases hlw : (1048576 : Int) < (ws.length : Int)
  · skip
    have tt := (bal (bal (bself w) (.cells #[.slice a0 c.vars.length c0, .slice a1 c.arrays.length c1, .slice a2 c.list.length c2] 25)) (.cells #[.slice a3 m.vals.length c3, .slice a4 m.arrs.length c4] 28))
    go_wp2
    go_ret
    exact ⟨rfl, tt⟩
  have hlw2 : ws.length ≤ 1048576 := by omega
  go_wp2_with fail
  refine (szCode_any _ _ _ c 1048576 _ (HR0.out _ (bal (bal (bself w) (.cells #[.slice a0 c.vars.length c0, .slice a1 c.arrays.length c1, .slice a2 c.list.length c2] 25)) (.cells #[.slice a3 m.vals.length c3, .slice a4 m.arrs.length c4] 28))) (by omega) (by omega)).mono ?_
  rintro e w1 ⟨rfl, hb⟩
  have hsz1 := hb.size
  simp only [World.size_alloc] at hsz1
  have bx2 : w1.cell? ⟨w.heap.size, 0, none⟩ = some (.slice a0 c.vars.length c0) := kept_cell hb (cell_al (cell_nw (by simp) (by rfl)) _)
  have bx3 : w1.cell? ⟨w.heap.size, 1, none⟩ = some (.slice a1 c.arrays.length c1) := kept_cell hb (cell_al (cell_nw (by simp) (by rfl)) _)
  have bx4 : w1.cell? ⟨w.heap.size, 2, none⟩ = some (.slice a2 c.list.length c2) := kept_cell hb (cell_al (cell_nw (by simp) (by rfl)) _)
  have bx5 : w1.cell? ⟨w.heap.size + 1, 0, none⟩ = some (.slice a3 m.vals.length c3) := kept_cell hb (cell_nw (by simp) (by rfl))
  have bx6 : w1.cell? ⟨w.heap.size + 1, 1, none⟩ = some (.slice a4 m.arrs.length c4) := kept_cell hb (cell_nw (by simp) (by rfl))
  have tot := btr (bal (bal (bself w) (.cells #[.slice a0 c.vars.length c0, .slice a1 c.arrays.length c1, .slice a2 c.list.length c2] 25)) (.cells #[.slice a3 m.vals.length c3, .slice a4 m.arrs.length c4] 28)) hb
  clear hb
  have lt7 := lt_of_cell bx2
  have lt8 := lt_of_cell bx5
  by_cases hl : (1048576 : Int) < (c.vars.length + c.arrays.length + c.list.length : Nat)
  · rw [if_pos hl]
    clear hl
    have tt := tot
    go_wp2
    go_ret
    exact ⟨rfl, tt⟩
  rw [if_neg hl]
  have hnn : ¬ (1048576 : Int) - (c.vars.length + c.arrays.length + c.list.length : Nat) < 0 := by omega
  have hv : c.vars.length ≤ 1048576 := by omega
  have ha : c.arrays.length ≤ 1048576 := by omega
  have hc : c.list.length ≤ 1048576 := by omega
  clear lt7 lt8
  have lt9 := lt_of_cell bx2
  have lt10 := lt_of_cell bx5
  go_wp2_with fail
  refine (szMemory_any _ _ m (1048576 - (c.vars.length + c.arrays.length + c.list.length : Nat)) _ (HRM.out _ tot) (by omega) (by omega)).mono ?_
  rintro e w2 ⟨rsz, rfl, hrsz, hb⟩
  have hsz11 := hb.size
  replace bx2 : w2.cell? ⟨w.heap.size, 0, none⟩ = some (.slice a0 c.vars.length c0) := kept_cell hb bx2
  replace bx3 : w2.cell? ⟨w.heap.size, 1, none⟩ = some (.slice a1 c.arrays.length c1) := kept_cell hb bx3
  replace bx4 : w2.cell? ⟨w.heap.size, 2, none⟩ = some (.slice a2 c.list.length c2) := kept_cell hb bx4
  replace bx5 : w2.cell? ⟨w.heap.size + 1, 0, none⟩ = some (.slice a3 m.vals.length c3) := kept_cell hb bx5
  replace bx6 : w2.cell? ⟨w.heap.size + 1, 1, none⟩ = some (.slice a4 m.arrs.length c4) := kept_cell hb bx6
  replace tot := btr tot hb
  clear hb
  clear lt9 lt10
  have lt12 := lt_of_cell bx2
  have lt13 := lt_of_cell bx5
  rcases hrsz with rfl | ⟨hrsz0, hrsz⟩
  · clear hl
    have tt := tot
    go_wp2
    go_ret
    exact ⟨rfl, tt⟩
  have hn1 : ¬ rsz < 0 := by omega
  have hm1 : m.vals.length ≤ 1048576 := by omega
  have hm2 : m.arrs.length ≤ 1048576 := by omega
  have hm3 : pre2 m.arrs m.arrs.length ≤ 1048576 := by omega
  clear hrsz hl
  have hsz2 : sizeM c ≤ 16777216 := by unfold sizeM; omega
  have hk0 : ¬ (1 + sizeM c + (m.vals.length : Int) + (pre2 m.arrs m.arrs.length : Nat) + (ws.length : Int)) < 0 := by omega
  have hk1 : ¬ (1 + (RM.vals.length : Int) + (pre2 RM.arrs RM.arrs.length : Nat)) < 0 := by omega
  have hk2 : ¬ (1 + (RM.vals.length : Int) + (pre2 RM.arrs RM.arrs.length : Nat) + 2 * (L.length : Int)) < 0 := by omega
  obtain ⟨hK1, hK2, hK3⟩ : (mkM 1 RM).vals.length ≤ 1048576 ∧ (mkM 1 RM).arrs.length ≤ 1048576 ∧ pre2 (mkM 1 RM).arrs (mkM 1 RM).arrs.length ≤ 1048576 := mkM_small hM1 hM2 hM3
  clear lt12 lt13
  have lt14 := lt_of_cell bx2
  have lt15 := lt_of_cell bx5
  go_upto_region 10 with (fail)
  clear lt14 lt15
  have lt16 := lt_of_cell bx2
  have lt17 := lt_of_cell bx5
  go_cut [8, 9, 10] (fun s8 s9 s10 wx => ∃ (bb : Nat) (P S U : Option Addr) (Q T V : Nat) (us : List Value), s8 = .pointer (some ⟨bb, 0, none⟩) ∧ s9 = .slice U L.length V ∧ s10 = .bool ok ∧ w2.heap.size ≤ bb ∧ wx.cell? ⟨bb, 0, none⟩ = some (.slice P RM.vals.length Q) ∧ wx.cell? ⟨bb, 1, none⟩ = some (.slice S RM.arrs.length T) ∧ OwnM wx w2.heap.size (.slice P RM.vals.length Q) (.slice S RM.arrs.length T) us RM ∧ wx.ownsRow w2.heap.size 89 2 (.slice U L.length V) L.length (rows evc L) ∧ (∀ q, OwnBM (.slice P RM.vals.length Q) (.slice S RM.arrs.length T) us q → ¬ q = bb) ∧ (∀ q, (Value.slice U L.length V).ownBlock = some q → ¬ q = bb) ∧ Below w2.heap.size w2 wx)
  case first =>
    clear lt16 lt17
    have lt19 := lt_of_cell bx2
    have lt20 := lt_of_cell bx5
    clear lt19 lt20
    have lt21 := lt_of_cell bx2
    have lt22 := lt_of_cell bx5
    refine wp_region_noPanic ?_
    refine wp_region_held_drew (S := (fun W' => W'.cell? ⟨w.heap.size, 0, none⟩ = some (.slice a0 c.vars.length c0) ∧ W'.cell? ⟨w.heap.size, 1, none⟩ = some (.slice a1 c.arrays.length c1) ∧ W'.cell? ⟨w.heap.size, 2, none⟩ = some (.slice a2 c.list.length c2) ∧ W'.cell? ⟨w.heap.size + 1, 0, none⟩ = some (.slice a3 m.vals.length c3) ∧ W'.cell? ⟨w.heap.size + 1, 1, none⟩ = some (.slice a4 m.arrs.length c4))) (by kernel_rfl) ⟨kept_cell (Below.drew (bself w2)) bx2, kept_cell (Below.drew (bself w2)) bx3, kept_cell (Below.drew (bself w2)) bx4, kept_cell (Below.drew (bself w2)) bx5, kept_cell (Below.drew (bself w2)) bx6⟩ (fun hHeld => ?_)
    obtain ⟨w3, hwd⟩ : ∃ X, X = World.drew w2 := ⟨_, rfl⟩
    rw [← hwd] at hHeld ⊢
    have hb : Below w2.heap.size w2 w3 := by rw [hwd]; exact Below.drew (bself _)
    clear hwd
    have hBn := btr (bself w2) hb
    have hsz23 := hb.size
    replace bx2 : w3.cell? ⟨w.heap.size, 0, none⟩ = some (.slice a0 c.vars.length c0) := kept_cell hb bx2
    replace bx3 : w3.cell? ⟨w.heap.size, 1, none⟩ = some (.slice a1 c.arrays.length c1) := kept_cell hb bx3
    replace bx4 : w3.cell? ⟨w.heap.size, 2, none⟩ = some (.slice a2 c.list.length c2) := kept_cell hb bx4
    replace bx5 : w3.cell? ⟨w.heap.size + 1, 0, none⟩ = some (.slice a3 m.vals.length c3) := kept_cell hb bx5
    replace bx6 : w3.cell? ⟨w.heap.size + 1, 1, none⟩ = some (.slice a4 m.arrs.length c4) := kept_cell hb bx6
    replace tot := btr tot hb
    clear hb
    have hB9 := hBn; clear hBn
    clear lt21 lt22
    have lt24 := lt_of_cell bx2
    have lt25 := lt_of_cell bx5
    refine take_d (i := 0) (d := 37) (v := ?_) rfl rfl (by kernel_rfl) (by kernel_rfl) (by kernel_rfl) (fun _ _ _ h => h) (Or.inl ⟨by rfl, ?_⟩) (by assumption) ?_
    rotate_left
    · intro W' hSw; (try dsimp only at hSw); obtain ⟨s0, s1, s2, s3, s4⟩ := hSw; go_simp; try with_reducible rfl
    try simp only [Act.put, List.setIfInBounds_toArray, List.set]
    refine take_d (i := 2) (d := 39) (v := ?_) rfl rfl (by kernel_rfl) (by kernel_rfl) (by kernel_rfl) (fun _ _ _ h => h) (Or.inl ⟨by rfl, ?_⟩) (by assumption) ?_
    rotate_left
    · intro W' hSw; (try dsimp only at hSw); obtain ⟨s0, s1, s2, s3, s4⟩ := hSw; go_simp; try with_reducible rfl
    try simp only [Act.put, List.setIfInBounds_toArray, List.set]
    refine take_d (i := 4) (d := 41) (v := ?_) rfl rfl (by kernel_rfl) (by kernel_rfl) (by kernel_rfl) (fun _ _ _ h => h) (Or.inl ⟨by rfl, ?_⟩) (by assumption) ?_
    rotate_left
    · intro W' hSw; (try dsimp only at hSw); obtain ⟨s0, s1, s2, s3, s4⟩ := hSw; go_simp; try with_reducible rfl
    try simp only [Act.put, List.setIfInBounds_toArray, List.set]
    refine wpAnyH_ready (rs := [1, 11]) (by kernel_rfl) (by simp) ?_
    refine AllReadyH.cons rfl (fun K hK => ?_) ?_
    · -- 1
      go_simp
      refine (toCode_any _ _ _ c _ (HR0.out _ tot) (by omega) (by omega) (by omega)).mono ?_
      rintro e w4 ⟨ua, ub, uc, rfl, oc1, hb⟩
      obtain ⟨pa1, qa1, pb1, qb1, pc1, qc1, rfl, rfl, rfl⟩ := oc1.shape
      have hBn := btr hB9 hb
      have hsz26 := hb.size
      replace bx2 : w4.cell? ⟨w.heap.size, 0, none⟩ = some (.slice a0 c.vars.length c0) := kept_cell hb bx2
      replace bx3 : w4.cell? ⟨w.heap.size, 1, none⟩ = some (.slice a1 c.arrays.length c1) := kept_cell hb bx3
      replace bx4 : w4.cell? ⟨w.heap.size, 2, none⟩ = some (.slice a2 c.list.length c2) := kept_cell hb bx4
      replace bx5 : w4.cell? ⟨w.heap.size + 1, 0, none⟩ = some (.slice a3 m.vals.length c3) := kept_cell hb bx5
      replace bx6 : w4.cell? ⟨w.heap.size + 1, 1, none⟩ = some (.slice a4 m.arrs.length c4) := kept_cell hb bx6
      replace tot := btr tot hb
      clear hb
      clear hB9
      have hB9 := hBn; clear hBn
      have iv27 := oc1.lt
      clear lt24 lt25
      have lt28 := lt_of_cell bx2
      have lt29 := lt_of_cell bx5
      refine hK.out _ _ ⟨bx2, bx3, bx4, bx5, bx6⟩ (fun hHeld => ?_)
      clear hK K
      try simp only [Act.put, List.setIfInBounds_toArray, List.set]
      refine wpAnyH_ready (rs := [3, 11]) (by kernel_rfl) (by simp) ?_
      refine AllReadyH.cons rfl (fun K hK => ?_) ?_
      · -- 3
        go_simp
        refine (toMemory_any _ _ m _ (HRM.out _ tot) (by omega) (by omega) (by omega)).mono ?_
        rintro e w5 ⟨ux, uy, us2, rfl, om2, hb⟩
        obtain ⟨px2, qx2, py2, qy2, rfl, rfl⟩ := om2.shape
        have hBn := btr hB9 hb
        have hsz30 := hb.size
        replace bx2 : w5.cell? ⟨w.heap.size, 0, none⟩ = some (.slice a0 c.vars.length c0) := kept_cell hb bx2
        replace bx3 : w5.cell? ⟨w.heap.size, 1, none⟩ = some (.slice a1 c.arrays.length c1) := kept_cell hb bx3
        replace bx4 : w5.cell? ⟨w.heap.size, 2, none⟩ = some (.slice a2 c.list.length c2) := kept_cell hb bx4
        replace bx5 : w5.cell? ⟨w.heap.size + 1, 0, none⟩ = some (.slice a3 m.vals.length c3) := kept_cell hb bx5
        replace bx6 : w5.cell? ⟨w.heap.size + 1, 1, none⟩ = some (.slice a4 m.arrs.length c4) := kept_cell hb bx6
        replace oc1 := oc1.below hb
        replace tot := btr tot hb
        clear hb
        clear hB9
        have hB9 := hBn; clear hBn
        have iv31 := om2.lt
        clear lt28 lt29
        have lt32 := lt_of_cell bx2
        have lt33 := lt_of_cell bx5
        refine hK.out _ _ ⟨bx2, bx3, bx4, bx5, bx6⟩ (fun hHeld => ?_)
        clear hK K
        try simp only [Act.put, List.setIfInBounds_toArray, List.set]
        refine wpAnyH_ready (rs := [5, 11]) (by kernel_rfl) (by simp) ?_
        refine AllReadyH.cons rfl (fun K hK => ?_) ?_
        · -- 5
          go_simp
          refine (toBoolS_any _ ws _ (HRW.out _ tot) (by omega)).mono ?_
          rintro e w6 ⟨uw, rfl, ow3, hb⟩
          obtain ⟨pw3, qw3, rfl⟩ := own_shape ow3
          have hBn := btr hB9 hb
          have hsz34 := hb.size
          replace bx2 : w6.cell? ⟨w.heap.size, 0, none⟩ = some (.slice a0 c.vars.length c0) := kept_cell hb bx2
          replace bx3 : w6.cell? ⟨w.heap.size, 1, none⟩ = some (.slice a1 c.arrays.length c1) := kept_cell hb bx3
          replace bx4 : w6.cell? ⟨w.heap.size, 2, none⟩ = some (.slice a2 c.list.length c2) := kept_cell hb bx4
          replace bx5 : w6.cell? ⟨w.heap.size + 1, 0, none⟩ = some (.slice a3 m.vals.length c3) := kept_cell hb bx5
          replace bx6 : w6.cell? ⟨w.heap.size + 1, 1, none⟩ = some (.slice a4 m.arrs.length c4) := kept_cell hb bx6
          replace oc1 := oc1.below hb
          replace om2 := om2.below hb
          replace tot := btr tot hb
          clear hb
          clear hB9
          have hB9 := hBn; clear hBn
          have iv35 := ow3.lt
          clear lt32 lt33
          have lt36 := lt_of_cell bx2
          have lt37 := lt_of_cell bx5
          refine hK.out _ _ ⟨bx2, bx3, bx4, bx5, bx6⟩ (fun hHeld => ?_)
          clear hK K
          try simp only [Act.put, List.setIfInBounds_toArray, List.set]
          refine wpAnyH_ready (rs := [6, 11]) (by kernel_rfl) (by simp) ?_
          refine AllReadyH.cons rfl (fun K hK => ?_) ?_
          · -- 6
            go_simp
            refine (HS.out _ _ _ _ _ _ (oc1.reads (by omega) (by omega) (by omega)) (om2.reads hm1 hm2 hm3) hm1 hm2 hm3 _ _ (reads_of_owns ow3 (by omega))).mono ?_
            rintro e w7 ⟨gx38, gy38, gu38, ge38, rfl, om38, oe38, hb⟩
            obtain ⟨P38, Q38, S38, T38, rfl, rfl⟩ := om38.shape
            obtain ⟨U38, V38, rfl⟩ := own_shape oe38
            have hBn := btr hB9 hb
            have hsz39 := hb.size
            replace bx2 : w7.cell? ⟨w.heap.size, 0, none⟩ = some (.slice a0 c.vars.length c0) := kept_cell hb bx2
            replace bx3 : w7.cell? ⟨w.heap.size, 1, none⟩ = some (.slice a1 c.arrays.length c1) := kept_cell hb bx3
            replace bx4 : w7.cell? ⟨w.heap.size, 2, none⟩ = some (.slice a2 c.list.length c2) := kept_cell hb bx4
            replace bx5 : w7.cell? ⟨w.heap.size + 1, 0, none⟩ = some (.slice a3 m.vals.length c3) := kept_cell hb bx5
            replace bx6 : w7.cell? ⟨w.heap.size + 1, 1, none⟩ = some (.slice a4 m.arrs.length c4) := kept_cell hb bx6
            replace oc1 := oc1.below hb
            replace om2 := om2.below hb
            replace ow3 := own_below ow3 hb
            replace tot := btr tot hb
            clear hb
            clear hB9
            have hB9 := hBn; clear hBn
            have ap38 := Lib.hid (mem_ev_apart om38 oe38)
            have iv40 := om38.lt
            have iv41 := oe38.lt
            clear lt36 lt37
            have lt42 := lt_of_cell bx2
            have lt43 := lt_of_cell bx5
            refine hK.out _ _ ⟨bx2, bx3, bx4, bx5, bx6⟩ (fun hHeld => ?_)
            clear hK K
            try simp only [Act.put, List.setIfInBounds_toArray, List.set]
            refine take_d (i := 7) (d := 36) (v := ?_) rfl rfl (by kernel_rfl) (by kernel_rfl) (by kernel_rfl) (fun _ _ _ h => h) (Or.inl ⟨by rfl, ?_⟩) (by assumption) ?_
            rotate_left
            · intro W' hSw; (try dsimp only at hSw); obtain ⟨s0, s1, s2, s3, s4⟩ := hSw; go_simp; try with_reducible rfl
            try simp only [Act.put, List.setIfInBounds_toArray, List.set]
            refine take_d (i := 8) (d := 44) (v := ?_) rfl rfl (by kernel_rfl) (by kernel_rfl) (by kernel_rfl) (fun _ _ _ h => h) (Or.inl ⟨by rfl, ?_⟩) (by assumption) ?_
            rotate_left
            · intro W' hSw; (try dsimp only at hSw); obtain ⟨s0, s1, s2, s3, s4⟩ := hSw; go_simp; try with_reducible rfl
            try simp only [Act.put, List.setIfInBounds_toArray, List.set]
            refine take_d (i := 9) (d := 45) (v := ?_) rfl rfl (by kernel_rfl) (by kernel_rfl) (by kernel_rfl) (fun _ _ _ h => h) (Or.inl ⟨by rfl, ?_⟩) (by assumption) ?_
            rotate_left
            · intro W' hSw; (try dsimp only at hSw); obtain ⟨s0, s1, s2, s3, s4⟩ := hSw; go_simp; try with_reducible rfl
            try simp only [Act.put, List.setIfInBounds_toArray, List.set]
            refine take_d (i := 10) (d := 46) (v := ?_) rfl rfl (by kernel_rfl) (by kernel_rfl) (by kernel_rfl) (fun _ _ _ h => h) (Or.inl ⟨by rfl, ?_⟩) (by assumption) ?_
            rotate_left
            · intro W' hSw; (try dsimp only at hSw); obtain ⟨s0, s1, s2, s3, s4⟩ := hSw; go_simp; try with_reducible rfl
            try simp only [Act.put, List.setIfInBounds_toArray, List.set]
            refine wpAnyH_ready (rs := [11]) (by kernel_rfl) (by simp) ?_
            refine AllReadyH.cons rfl (fun K hK => ?_) AllReadyH.nil
            go_simp
            obtain ⟨w8, hnw⟩ : ∃ X, X = (World.alloc w7 (.cells #[.slice none 0 0, .slice none 0 0] 37)) := ⟨_, rfl⟩
            have hb : Below (World.alloc w7 (.cells #[.slice none 0 0, .slice none 0 0] 37)).heap.size (World.alloc w7 (.cells #[.slice none 0 0, .slice none 0 0] 37)) w8 := by rw [hnw]; exact bself _
            have hBn := btr (bal hB9 (.cells #[.slice none 0 0, .slice none 0 0] 37)) hb
            have hsz44 := hb.size
            simp only [World.size_alloc] at hsz44
            replace bx2 : w8.cell? ⟨w.heap.size, 0, none⟩ = some (.slice a0 c.vars.length c0) := kept_cell hb (cell_al bx2 (.cells #[.slice none 0 0, .slice none 0 0] 37))
            replace bx3 : w8.cell? ⟨w.heap.size, 1, none⟩ = some (.slice a1 c.arrays.length c1) := kept_cell hb (cell_al bx3 (.cells #[.slice none 0 0, .slice none 0 0] 37))
            replace bx4 : w8.cell? ⟨w.heap.size, 2, none⟩ = some (.slice a2 c.list.length c2) := kept_cell hb (cell_al bx4 (.cells #[.slice none 0 0, .slice none 0 0] 37))
            replace bx5 : w8.cell? ⟨w.heap.size + 1, 0, none⟩ = some (.slice a3 m.vals.length c3) := kept_cell hb (cell_al bx5 (.cells #[.slice none 0 0, .slice none 0 0] 37))
            replace bx6 : w8.cell? ⟨w.heap.size + 1, 1, none⟩ = some (.slice a4 m.arrs.length c4) := kept_cell hb (cell_al bx6 (.cells #[.slice none 0 0, .slice none 0 0] 37))
            replace oc1 := (oc1.below (bal (bself _) (.cells #[.slice none 0 0, .slice none 0 0] 37))).below hb
            replace om2 := (om2.below (bal (bself _) (.cells #[.slice none 0 0, .slice none 0 0] 37))).below hb
            replace ow3 := own_below (own_below ow3 (bal (bself _) (.cells #[.slice none 0 0, .slice none 0 0] 37))) hb
            replace om38 := (om38.below (bal (bself _) (.cells #[.slice none 0 0, .slice none 0 0] 37))).below hb
            replace oe38 := own_below (own_below oe38 (bal (bself _) (.cells #[.slice none 0 0, .slice none 0 0] 37))) hb
            have bx45 : w8.cell? ⟨w7.heap.size, 0, none⟩ = some (.slice none 0 0) := kept_cell hb (cell_nw (by simp) (by rfl))
            have bf46 : w8.frozen? ⟨w7.heap.size, 0, none⟩ = false := kept_froz hb (by simp <;> omega) (froz_nw (by simp))
            have bx47 : w8.cell? ⟨w7.heap.size, 1, none⟩ = some (.slice none 0 0) := kept_cell hb (cell_nw (by simp) (by rfl))
            have bf48 : w8.frozen? ⟨w7.heap.size, 1, none⟩ = false := kept_froz hb (by simp <;> omega) (froz_nw (by simp))
            replace tot := btr (bal tot (.cells #[.slice none 0 0, .slice none 0 0] 37)) hb
            clear hb
            clear hB9
            have hB9 := hBn; clear hBn
            rw [← hnw]
            clear hnw
            clear lt42 lt43
            have lt49 := lt_of_cell bx2
            have lt50 := lt_of_cell bx5
            have lt51 := lt_of_cell bx45
            refine hK.out _ _ ⟨bx2, bx3, bx4, bx5, bx6⟩ (fun hHeld => ?_)
            clear hK K
            try simp only [Act.put, List.setIfInBounds_toArray, List.set]
            refine wpAnyH_ready (rs := [12]) (by kernel_rfl) (by simp) ?_
            refine AllReadyH.cons rfl (fun K hK => ?_) AllReadyH.nil
            go_simp
            obtain ⟨w9, hnw⟩ : ∃ X, X = (World.setCell (World.setCell w8 ⟨w7.heap.size, 0, none⟩ (.slice P38 RM.vals.length Q38)) ⟨w7.heap.size, 1, none⟩ (.slice S38 RM.arrs.length T38)) := ⟨_, rfl⟩
            have hb : Below (World.setCell (World.setCell w8 ⟨w7.heap.size, 0, none⟩ (.slice P38 RM.vals.length Q38)) ⟨w7.heap.size, 1, none⟩ (.slice S38 RM.arrs.length T38)).heap.size (World.setCell (World.setCell w8 ⟨w7.heap.size, 0, none⟩ (.slice P38 RM.vals.length Q38)) ⟨w7.heap.size, 1, none⟩ (.slice S38 RM.arrs.length T38)) w9 := by rw [hnw]; exact bself _
            have hBn := btr (bst (bst hB9 (w7.heap.size) 0 (by omega) (.slice P38 RM.vals.length Q38)) (w7.heap.size) 1 (by omega) (.slice S38 RM.arrs.length T38)) hb
            have hsz52 := hb.size
            simp only [World.size_setCell] at hsz52
            replace bf46 := kept_froz hb (lt_of_cell (cell_ne (b := (w7.heap.size)) (j := 1) (cell_at _ (w7.heap.size) 0 (.slice P38 RM.vals.length Q38) bx45) (by omega) (.slice S38 RM.arrs.length T38))) (froz_st (b := ⟨(w7.heap.size), 1, none⟩) (froz_st (b := ⟨(w7.heap.size), 0, none⟩) bf46 (.slice P38 RM.vals.length Q38)) (.slice S38 RM.arrs.length T38))
            replace bf48 := kept_froz hb (lt_of_cell (cell_at _ (w7.heap.size) 1 (.slice S38 RM.arrs.length T38) (cell_ne (b := (w7.heap.size)) (j := 0) bx47 (by omega) (.slice P38 RM.vals.length Q38)))) (froz_st (b := ⟨(w7.heap.size), 1, none⟩) (froz_st (b := ⟨(w7.heap.size), 0, none⟩) bf48 (.slice P38 RM.vals.length Q38)) (.slice S38 RM.arrs.length T38))
            replace bx2 : w9.cell? ⟨w.heap.size, 0, none⟩ = some (.slice a0 c.vars.length c0) := kept_cell hb (cell_ne (b := (w7.heap.size)) (j := 1) (cell_ne (b := (w7.heap.size)) (j := 0) bx2 (by omega) (.slice P38 RM.vals.length Q38)) (by omega) (.slice S38 RM.arrs.length T38))
            replace bx3 : w9.cell? ⟨w.heap.size, 1, none⟩ = some (.slice a1 c.arrays.length c1) := kept_cell hb (cell_ne (b := (w7.heap.size)) (j := 1) (cell_ne (b := (w7.heap.size)) (j := 0) bx3 (by omega) (.slice P38 RM.vals.length Q38)) (by omega) (.slice S38 RM.arrs.length T38))
            replace bx4 : w9.cell? ⟨w.heap.size, 2, none⟩ = some (.slice a2 c.list.length c2) := kept_cell hb (cell_ne (b := (w7.heap.size)) (j := 1) (cell_ne (b := (w7.heap.size)) (j := 0) bx4 (by omega) (.slice P38 RM.vals.length Q38)) (by omega) (.slice S38 RM.arrs.length T38))
            replace bx5 : w9.cell? ⟨w.heap.size + 1, 0, none⟩ = some (.slice a3 m.vals.length c3) := kept_cell hb (cell_ne (b := (w7.heap.size)) (j := 1) (cell_ne (b := (w7.heap.size)) (j := 0) bx5 (by omega) (.slice P38 RM.vals.length Q38)) (by omega) (.slice S38 RM.arrs.length T38))
            replace bx6 : w9.cell? ⟨w.heap.size + 1, 1, none⟩ = some (.slice a4 m.arrs.length c4) := kept_cell hb (cell_ne (b := (w7.heap.size)) (j := 1) (cell_ne (b := (w7.heap.size)) (j := 0) bx6 (by omega) (.slice P38 RM.vals.length Q38)) (by omega) (.slice S38 RM.arrs.length T38))
            replace oc1 := ((oc1.keep ((Chg.refl (fun gk => gk = (w7.heap.size)) _).setCell (w7.heap.size) 0 (.slice P38 RM.vals.length Q38) (fun _ => rfl)) (fun gq h h2 => by have := iv27 gq h; omega)).keep ((Chg.refl (fun gk => gk = (w7.heap.size)) _).setCell (w7.heap.size) 1 (.slice S38 RM.arrs.length T38) (fun _ => rfl)) (fun gq h h2 => by have := iv27 gq h; omega)).below hb
            replace om2 := ((om2.keep ((Chg.refl (fun gk => gk = (w7.heap.size)) _).setCell (w7.heap.size) 0 (.slice P38 RM.vals.length Q38) (fun _ => rfl)) (fun gq h h2 => by have := iv31 gq h; omega)).keep ((Chg.refl (fun gk => gk = (w7.heap.size)) _).setCell (w7.heap.size) 1 (.slice S38 RM.arrs.length T38) (fun _ => rfl)) (fun gq h h2 => by have := iv31 gq h; omega)).below hb
            replace ow3 := own_below (own_set (own_set ow3 (w7.heap.size) 0 (fun h => by have := iv35 _ h; omega) (.slice P38 RM.vals.length Q38)) (w7.heap.size) 1 (fun h => by have := iv35 _ h; omega) (.slice S38 RM.arrs.length T38)) hb
            replace om38 := ((om38.keep ((Chg.refl (fun gk => gk = (w7.heap.size)) _).setCell (w7.heap.size) 0 (.slice P38 RM.vals.length Q38) (fun _ => rfl)) (fun gq h h2 => by have := iv40 gq h; omega)).keep ((Chg.refl (fun gk => gk = (w7.heap.size)) _).setCell (w7.heap.size) 1 (.slice S38 RM.arrs.length T38) (fun _ => rfl)) (fun gq h h2 => by have := iv40 gq h; omega)).below hb
            replace oe38 := own_below (own_set (own_set oe38 (w7.heap.size) 0 (fun h => by have := iv41 _ h; omega) (.slice P38 RM.vals.length Q38)) (w7.heap.size) 1 (fun h => by have := iv41 _ h; omega) (.slice S38 RM.arrs.length T38)) hb
            replace bx45 : w9.cell? ⟨w7.heap.size, 0, none⟩ = some (.slice P38 RM.vals.length Q38) := kept_cell hb (cell_ne (b := (w7.heap.size)) (j := 1) (cell_at _ (w7.heap.size) 0 (.slice P38 RM.vals.length Q38) bx45) (by omega) (.slice S38 RM.arrs.length T38))
            replace bx47 : w9.cell? ⟨w7.heap.size, 1, none⟩ = some (.slice S38 RM.arrs.length T38) := kept_cell hb (cell_at _ (w7.heap.size) 1 (.slice S38 RM.arrs.length T38) (cell_ne (b := (w7.heap.size)) (j := 0) bx47 (by omega) (.slice P38 RM.vals.length Q38)))
            replace tot := btr (bst (bst tot (w7.heap.size) 0 (by omega) (.slice P38 RM.vals.length Q38)) (w7.heap.size) 1 (by omega) (.slice S38 RM.arrs.length T38)) hb
            clear hb
            clear hB9
            have hB9 := hBn; clear hBn
            rw [← hnw]
            clear hnw
            clear lt49 lt50 lt51
            have lt53 := lt_of_cell bx2
            have lt54 := lt_of_cell bx5
            have lt55 := lt_of_cell bx45
            refine hK.out _ _ ⟨bx2, bx3, bx4, bx5, bx6⟩ (fun hHeld => ?_)
            clear hK K
            try simp only [Act.put, List.setIfInBounds_toArray, List.set]
            refine take_d (i := 13) (d := 9) (v := ?_) rfl rfl (by kernel_rfl) (by kernel_rfl) (by kernel_rfl) (fun _ _ _ h => h) (Or.inl ⟨by rfl, ?_⟩) (by assumption) ?_
            rotate_left
            · intro W' hSw; (try dsimp only at hSw); obtain ⟨s0, s1, s2, s3, s4⟩ := hSw; go_simp; try with_reducible rfl
            try simp only [Act.put, List.setIfInBounds_toArray, List.set]
            refine take_d (i := 14) (d := 10) (v := ?_) rfl rfl (by kernel_rfl) (by kernel_rfl) (by kernel_rfl) (fun _ _ _ h => h) (Or.inl ⟨by rfl, ?_⟩) (by assumption) ?_
            rotate_left
            · intro W' hSw; (try dsimp only at hSw); obtain ⟨s0, s1, s2, s3, s4⟩ := hSw; go_simp; try with_reducible rfl
            try simp only [Act.put, List.setIfInBounds_toArray, List.set]
            refine wpAnyH_done (by kernel_rfl) ?_ _
            refine NoPanic.normal ?_
            clear hHeld
            go_wp2_with fail
            go_meet
            have lz56 := lt_of_cell bx45
            exact ⟨w7.heap.size, P38, S38, U38, Q38, T38, V38, gu38, rfl, rfl, rfl, by omega, bx45, bx47, om38.mono (by omega), own_mono oe38 (by omega), fun q h => by have := iv40 q h; omega, fun q h => by have := iv41 q h; omega, hB9⟩
          refine AllReadyH.cons rfl (fun K hK => ?_) AllReadyH.nil
          go_simp
          obtain ⟨w7, hnw⟩ : ∃ X, X = (World.alloc w6 (.cells #[.slice none 0 0, .slice none 0 0] 37)) := ⟨_, rfl⟩
          have hb : Below (World.alloc w6 (.cells #[.slice none 0 0, .slice none 0 0] 37)).heap.size (World.alloc w6 (.cells #[.slice none 0 0, .slice none 0 0] 37)) w7 := by rw [hnw]; exact bself _
          have hBn := btr (bal hB9 (.cells #[.slice none 0 0, .slice none 0 0] 37)) hb
          have hsz57 := hb.size
          simp only [World.size_alloc] at hsz57
          replace bx2 : w7.cell? ⟨w.heap.size, 0, none⟩ = some (.slice a0 c.vars.length c0) := kept_cell hb (cell_al bx2 (.cells #[.slice none 0 0, .slice none 0 0] 37))
          replace bx3 : w7.cell? ⟨w.heap.size, 1, none⟩ = some (.slice a1 c.arrays.length c1) := kept_cell hb (cell_al bx3 (.cells #[.slice none 0 0, .slice none 0 0] 37))
          replace bx4 : w7.cell? ⟨w.heap.size, 2, none⟩ = some (.slice a2 c.list.length c2) := kept_cell hb (cell_al bx4 (.cells #[.slice none 0 0, .slice none 0 0] 37))
          replace bx5 : w7.cell? ⟨w.heap.size + 1, 0, none⟩ = some (.slice a3 m.vals.length c3) := kept_cell hb (cell_al bx5 (.cells #[.slice none 0 0, .slice none 0 0] 37))
          replace bx6 : w7.cell? ⟨w.heap.size + 1, 1, none⟩ = some (.slice a4 m.arrs.length c4) := kept_cell hb (cell_al bx6 (.cells #[.slice none 0 0, .slice none 0 0] 37))
          replace oc1 := (oc1.below (bal (bself _) (.cells #[.slice none 0 0, .slice none 0 0] 37))).below hb
          replace om2 := (om2.below (bal (bself _) (.cells #[.slice none 0 0, .slice none 0 0] 37))).below hb
          replace ow3 := own_below (own_below ow3 (bal (bself _) (.cells #[.slice none 0 0, .slice none 0 0] 37))) hb
          have bx58 : w7.cell? ⟨w6.heap.size, 0, none⟩ = some (.slice none 0 0) := kept_cell hb (cell_nw (by simp) (by rfl))
          have bf59 : w7.frozen? ⟨w6.heap.size, 0, none⟩ = false := kept_froz hb (by simp <;> omega) (froz_nw (by simp))
          have bx60 : w7.cell? ⟨w6.heap.size, 1, none⟩ = some (.slice none 0 0) := kept_cell hb (cell_nw (by simp) (by rfl))
          have bf61 : w7.frozen? ⟨w6.heap.size, 1, none⟩ = false := kept_froz hb (by simp <;> omega) (froz_nw (by simp))
          replace tot := btr (bal tot (.cells #[.slice none 0 0, .slice none 0 0] 37)) hb
          clear hb
          clear hB9
          have hB9 := hBn; clear hBn
          rw [← hnw]
          clear hnw
          clear lt36 lt37
          have lt62 := lt_of_cell bx2
          have lt63 := lt_of_cell bx5
          have lt64 := lt_of_cell bx58
          refine hK.out _ _ ⟨bx2, bx3, bx4, bx5, bx6⟩ (fun hHeld => ?_)
          clear hK K
          try simp only [Act.put, List.setIfInBounds_toArray, List.set]
          refine wpAnyH_ready (rs := [6]) (by kernel_rfl) (by simp) ?_
          refine AllReadyH.cons rfl (fun K hK => ?_) AllReadyH.nil
          go_simp
          refine (HS.out _ _ _ _ _ _ (oc1.reads (by omega) (by omega) (by omega)) (om2.reads hm1 hm2 hm3) hm1 hm2 hm3 _ _ (reads_of_owns ow3 (by omega))).mono ?_
          rintro e w8 ⟨gx65, gy65, gu65, ge65, rfl, om65, oe65, hb⟩
          obtain ⟨P65, Q65, S65, T65, rfl, rfl⟩ := om65.shape
          obtain ⟨U65, V65, rfl⟩ := own_shape oe65
          have hBn := btr hB9 hb
          have hsz66 := hb.size
          replace bf59 := kept_froz hb (lt_of_cell bx58) bf59
          replace bf61 := kept_froz hb (lt_of_cell bx60) bf61
          replace bx2 : w8.cell? ⟨w.heap.size, 0, none⟩ = some (.slice a0 c.vars.length c0) := kept_cell hb bx2
          replace bx3 : w8.cell? ⟨w.heap.size, 1, none⟩ = some (.slice a1 c.arrays.length c1) := kept_cell hb bx3
          replace bx4 : w8.cell? ⟨w.heap.size, 2, none⟩ = some (.slice a2 c.list.length c2) := kept_cell hb bx4
          replace bx5 : w8.cell? ⟨w.heap.size + 1, 0, none⟩ = some (.slice a3 m.vals.length c3) := kept_cell hb bx5
          replace bx6 : w8.cell? ⟨w.heap.size + 1, 1, none⟩ = some (.slice a4 m.arrs.length c4) := kept_cell hb bx6
          replace oc1 := oc1.below hb
          replace om2 := om2.below hb
          replace ow3 := own_below ow3 hb
          replace bx58 : w8.cell? ⟨w6.heap.size, 0, none⟩ = some (.slice none 0 0) := kept_cell hb bx58
          replace bx60 : w8.cell? ⟨w6.heap.size, 1, none⟩ = some (.slice none 0 0) := kept_cell hb bx60
          replace tot := btr tot hb
          clear hb
          clear hB9
          have hB9 := hBn; clear hBn
          have ap65 := Lib.hid (mem_ev_apart om65 oe65)
          have iv67 := om65.lt
          have iv68 := oe65.lt
          clear lt62 lt63 lt64
          have lt69 := lt_of_cell bx2
          have lt70 := lt_of_cell bx5
          have lt71 := lt_of_cell bx58
          refine hK.out _ _ ⟨bx2, bx3, bx4, bx5, bx6⟩ (fun hHeld => ?_)
          clear hK K
          try simp only [Act.put, List.setIfInBounds_toArray, List.set]
          refine take_d (i := 7) (d := 36) (v := ?_) rfl rfl (by kernel_rfl) (by kernel_rfl) (by kernel_rfl) (fun _ _ _ h => h) (Or.inl ⟨by rfl, ?_⟩) (by assumption) ?_
          rotate_left
          · intro W' hSw; (try dsimp only at hSw); obtain ⟨s0, s1, s2, s3, s4⟩ := hSw; go_simp; try with_reducible rfl
          try simp only [Act.put, List.setIfInBounds_toArray, List.set]
          refine take_d (i := 8) (d := 44) (v := ?_) rfl rfl (by kernel_rfl) (by kernel_rfl) (by kernel_rfl) (fun _ _ _ h => h) (Or.inl ⟨by rfl, ?_⟩) (by assumption) ?_
          rotate_left
          · intro W' hSw; (try dsimp only at hSw); obtain ⟨s0, s1, s2, s3, s4⟩ := hSw; go_simp; try with_reducible rfl
          try simp only [Act.put, List.setIfInBounds_toArray, List.set]
          refine take_d (i := 9) (d := 45) (v := ?_) rfl rfl (by kernel_rfl) (by kernel_rfl) (by kernel_rfl) (fun _ _ _ h => h) (Or.inl ⟨by rfl, ?_⟩) (by assumption) ?_
          rotate_left
          · intro W' hSw; (try dsimp only at hSw); obtain ⟨s0, s1, s2, s3, s4⟩ := hSw; go_simp; try with_reducible rfl
          try simp only [Act.put, List.setIfInBounds_toArray, List.set]
          refine take_d (i := 10) (d := 46) (v := ?_) rfl rfl (by kernel_rfl) (by kernel_rfl) (by kernel_rfl) (fun _ _ _ h => h) (Or.inl ⟨by rfl, ?_⟩) (by assumption) ?_
          rotate_left
          · intro W' hSw; (try dsimp only at hSw); obtain ⟨s0, s1, s2, s3, s4⟩ := hSw; go_simp; try with_reducible rfl
          try simp only [Act.put, List.setIfInBounds_toArray, List.set]
          refine wpAnyH_ready (rs := [12]) (by kernel_rfl) (by simp) ?_
          refine AllReadyH.cons rfl (fun K hK => ?_) AllReadyH.nil
          go_simp
          obtain ⟨w9, hnw⟩ : ∃ X, X = (World.setCell (World.setCell w8 ⟨w6.heap.size, 0, none⟩ (.slice P65 RM.vals.length Q65)) ⟨w6.heap.size, 1, none⟩ (.slice S65 RM.arrs.length T65)) := ⟨_, rfl⟩
          have hb : Below (World.setCell (World.setCell w8 ⟨w6.heap.size, 0, none⟩ (.slice P65 RM.vals.length Q65)) ⟨w6.heap.size, 1, none⟩ (.slice S65 RM.arrs.length T65)).heap.size (World.setCell (World.setCell w8 ⟨w6.heap.size, 0, none⟩ (.slice P65 RM.vals.length Q65)) ⟨w6.heap.size, 1, none⟩ (.slice S65 RM.arrs.length T65)) w9 := by rw [hnw]; exact bself _
          have hBn := btr (bst (bst hB9 (w6.heap.size) 0 (by omega) (.slice P65 RM.vals.length Q65)) (w6.heap.size) 1 (by omega) (.slice S65 RM.arrs.length T65)) hb
          have hsz72 := hb.size
          simp only [World.size_setCell] at hsz72
          replace bf59 := kept_froz hb (lt_of_cell (cell_ne (b := (w6.heap.size)) (j := 1) (cell_at _ (w6.heap.size) 0 (.slice P65 RM.vals.length Q65) bx58) (by omega) (.slice S65 RM.arrs.length T65))) (froz_st (b := ⟨(w6.heap.size), 1, none⟩) (froz_st (b := ⟨(w6.heap.size), 0, none⟩) bf59 (.slice P65 RM.vals.length Q65)) (.slice S65 RM.arrs.length T65))
          replace bf61 := kept_froz hb (lt_of_cell (cell_at _ (w6.heap.size) 1 (.slice S65 RM.arrs.length T65) (cell_ne (b := (w6.heap.size)) (j := 0) bx60 (by omega) (.slice P65 RM.vals.length Q65)))) (froz_st (b := ⟨(w6.heap.size), 1, none⟩) (froz_st (b := ⟨(w6.heap.size), 0, none⟩) bf61 (.slice P65 RM.vals.length Q65)) (.slice S65 RM.arrs.length T65))
          replace bx2 : w9.cell? ⟨w.heap.size, 0, none⟩ = some (.slice a0 c.vars.length c0) := kept_cell hb (cell_ne (b := (w6.heap.size)) (j := 1) (cell_ne (b := (w6.heap.size)) (j := 0) bx2 (by omega) (.slice P65 RM.vals.length Q65)) (by omega) (.slice S65 RM.arrs.length T65))
          replace bx3 : w9.cell? ⟨w.heap.size, 1, none⟩ = some (.slice a1 c.arrays.length c1) := kept_cell hb (cell_ne (b := (w6.heap.size)) (j := 1) (cell_ne (b := (w6.heap.size)) (j := 0) bx3 (by omega) (.slice P65 RM.vals.length Q65)) (by omega) (.slice S65 RM.arrs.length T65))
          replace bx4 : w9.cell? ⟨w.heap.size, 2, none⟩ = some (.slice a2 c.list.length c2) := kept_cell hb (cell_ne (b := (w6.heap.size)) (j := 1) (cell_ne (b := (w6.heap.size)) (j := 0) bx4 (by omega) (.slice P65 RM.vals.length Q65)) (by omega) (.slice S65 RM.arrs.length T65))
          replace bx5 : w9.cell? ⟨w.heap.size + 1, 0, none⟩ = some (.slice a3 m.vals.length c3) := kept_cell hb (cell_ne (b := (w6.heap.size)) (j := 1) (cell_ne (b := (w6.heap.size)) (j := 0) bx5 (by omega) (.slice P65 RM.vals.length Q65)) (by omega) (.slice S65 RM.arrs.length T65))
          replace bx6 : w9.cell? ⟨w.heap.size + 1, 1, none⟩ = some (.slice a4 m.arrs.length c4) := kept_cell hb (cell_ne (b := (w6.heap.size)) (j := 1) (cell_ne (b := (w6.heap.size)) (j := 0) bx6 (by omega) (.slice P65 RM.vals.length Q65)) (by omega) (.slice S65 RM.arrs.length T65))
          replace oc1 := ((oc1.keep ((Chg.refl (fun gk => gk = (w6.heap.size)) _).setCell (w6.heap.size) 0 (.slice P65 RM.vals.length Q65) (fun _ => rfl)) (fun gq h h2 => by have := iv27 gq h; omega)).keep ((Chg.refl (fun gk => gk = (w6.heap.size)) _).setCell (w6.heap.size) 1 (.slice S65 RM.arrs.length T65) (fun _ => rfl)) (fun gq h h2 => by have := iv27 gq h; omega)).below hb
          replace om2 := ((om2.keep ((Chg.refl (fun gk => gk = (w6.heap.size)) _).setCell (w6.heap.size) 0 (.slice P65 RM.vals.length Q65) (fun _ => rfl)) (fun gq h h2 => by have := iv31 gq h; omega)).keep ((Chg.refl (fun gk => gk = (w6.heap.size)) _).setCell (w6.heap.size) 1 (.slice S65 RM.arrs.length T65) (fun _ => rfl)) (fun gq h h2 => by have := iv31 gq h; omega)).below hb
          replace ow3 := own_below (own_set (own_set ow3 (w6.heap.size) 0 (fun h => by have := iv35 _ h; omega) (.slice P65 RM.vals.length Q65)) (w6.heap.size) 1 (fun h => by have := iv35 _ h; omega) (.slice S65 RM.arrs.length T65)) hb
          replace bx58 : w9.cell? ⟨w6.heap.size, 0, none⟩ = some (.slice P65 RM.vals.length Q65) := kept_cell hb (cell_ne (b := (w6.heap.size)) (j := 1) (cell_at _ (w6.heap.size) 0 (.slice P65 RM.vals.length Q65) bx58) (by omega) (.slice S65 RM.arrs.length T65))
          replace bx60 : w9.cell? ⟨w6.heap.size, 1, none⟩ = some (.slice S65 RM.arrs.length T65) := kept_cell hb (cell_at _ (w6.heap.size) 1 (.slice S65 RM.arrs.length T65) (cell_ne (b := (w6.heap.size)) (j := 0) bx60 (by omega) (.slice P65 RM.vals.length Q65)))
          replace om65 := ((om65.keep ((Chg.refl (fun gk => gk = (w6.heap.size)) _).setCell (w6.heap.size) 0 (.slice P65 RM.vals.length Q65) (fun _ => rfl)) (fun gq h h2 => by have := iv67 gq h; omega)).keep ((Chg.refl (fun gk => gk = (w6.heap.size)) _).setCell (w6.heap.size) 1 (.slice S65 RM.arrs.length T65) (fun _ => rfl)) (fun gq h h2 => by have := iv67 gq h; omega)).below hb
          replace oe65 := own_below (own_set (own_set oe65 (w6.heap.size) 0 (fun h => by have := iv68 _ h; omega) (.slice P65 RM.vals.length Q65)) (w6.heap.size) 1 (fun h => by have := iv68 _ h; omega) (.slice S65 RM.arrs.length T65)) hb
          replace tot := btr (bst (bst tot (w6.heap.size) 0 (by omega) (.slice P65 RM.vals.length Q65)) (w6.heap.size) 1 (by omega) (.slice S65 RM.arrs.length T65)) hb
          clear hb
          clear hB9
          have hB9 := hBn; clear hBn
          rw [← hnw]
          clear hnw
          clear lt69 lt70 lt71
          have lt73 := lt_of_cell bx2
          have lt74 := lt_of_cell bx5
          have lt75 := lt_of_cell bx58
          refine hK.out _ _ ⟨bx2, bx3, bx4, bx5, bx6⟩ (fun hHeld => ?_)
          clear hK K
          try simp only [Act.put, List.setIfInBounds_toArray, List.set]
          refine take_d (i := 13) (d := 9) (v := ?_) rfl rfl (by kernel_rfl) (by kernel_rfl) (by kernel_rfl) (fun _ _ _ h => h) (Or.inl ⟨by rfl, ?_⟩) (by assumption) ?_
          rotate_left
          · intro W' hSw; (try dsimp only at hSw); obtain ⟨s0, s1, s2, s3, s4⟩ := hSw; go_simp; try with_reducible rfl
          try simp only [Act.put, List.setIfInBounds_toArray, List.set]
          refine take_d (i := 14) (d := 10) (v := ?_) rfl rfl (by kernel_rfl) (by kernel_rfl) (by kernel_rfl) (fun _ _ _ h => h) (Or.inl ⟨by rfl, ?_⟩) (by assumption) ?_
          rotate_left
          · intro W' hSw; (try dsimp only at hSw); obtain ⟨s0, s1, s2, s3, s4⟩ := hSw; go_simp; try with_reducible rfl
          try simp only [Act.put, List.setIfInBounds_toArray, List.set]
          refine wpAnyH_done (by kernel_rfl) ?_ _
          refine NoPanic.normal ?_
          clear hHeld
          go_wp2_with fail
          go_meet
          have lz76 := lt_of_cell bx58
          exact ⟨w6.heap.size, P65, S65, U65, Q65, T65, V65, gu65, rfl, rfl, rfl, by omega, bx58, bx60, om65.mono (by omega), own_mono oe65 (by omega), fun q h => by have := iv67 q h; omega, fun q h => by have := iv68 q h; omega, hB9⟩
        refine AllReadyH.cons rfl (fun K hK => ?_) AllReadyH.nil
        go_simp
        obtain ⟨w6, hnw⟩ : ∃ X, X = (World.alloc w5 (.cells #[.slice none 0 0, .slice none 0 0] 37)) := ⟨_, rfl⟩
        have hb : Below (World.alloc w5 (.cells #[.slice none 0 0, .slice none 0 0] 37)).heap.size (World.alloc w5 (.cells #[.slice none 0 0, .slice none 0 0] 37)) w6 := by rw [hnw]; exact bself _
        have hBn := btr (bal hB9 (.cells #[.slice none 0 0, .slice none 0 0] 37)) hb
        have hsz77 := hb.size
        simp only [World.size_alloc] at hsz77
        replace bx2 : w6.cell? ⟨w.heap.size, 0, none⟩ = some (.slice a0 c.vars.length c0) := kept_cell hb (cell_al bx2 (.cells #[.slice none 0 0, .slice none 0 0] 37))
        replace bx3 : w6.cell? ⟨w.heap.size, 1, none⟩ = some (.slice a1 c.arrays.length c1) := kept_cell hb (cell_al bx3 (.cells #[.slice none 0 0, .slice none 0 0] 37))
        replace bx4 : w6.cell? ⟨w.heap.size, 2, none⟩ = some (.slice a2 c.list.length c2) := kept_cell hb (cell_al bx4 (.cells #[.slice none 0 0, .slice none 0 0] 37))
        replace bx5 : w6.cell? ⟨w.heap.size + 1, 0, none⟩ = some (.slice a3 m.vals.length c3) := kept_cell hb (cell_al bx5 (.cells #[.slice none 0 0, .slice none 0 0] 37))
        replace bx6 : w6.cell? ⟨w.heap.size + 1, 1, none⟩ = some (.slice a4 m.arrs.length c4) := kept_cell hb (cell_al bx6 (.cells #[.slice none 0 0, .slice none 0 0] 37))
        replace oc1 := (oc1.below (bal (bself _) (.cells #[.slice none 0 0, .slice none 0 0] 37))).below hb
        replace om2 := (om2.below (bal (bself _) (.cells #[.slice none 0 0, .slice none 0 0] 37))).below hb
        have bx78 : w6.cell? ⟨w5.heap.size, 0, none⟩ = some (.slice none 0 0) := kept_cell hb (cell_nw (by simp) (by rfl))
        have bf79 : w6.frozen? ⟨w5.heap.size, 0, none⟩ = false := kept_froz hb (by simp <;> omega) (froz_nw (by simp))
        have bx80 : w6.cell? ⟨w5.heap.size, 1, none⟩ = some (.slice none 0 0) := kept_cell hb (cell_nw (by simp) (by rfl))
        have bf81 : w6.frozen? ⟨w5.heap.size, 1, none⟩ = false := kept_froz hb (by simp <;> omega) (froz_nw (by simp))
        replace tot := btr (bal tot (.cells #[.slice none 0 0, .slice none 0 0] 37)) hb
        clear hb
        clear hB9
        have hB9 := hBn; clear hBn
        rw [← hnw]
        clear hnw
        clear lt32 lt33
        have lt82 := lt_of_cell bx2
        have lt83 := lt_of_cell bx5
        have lt84 := lt_of_cell bx78
        refine hK.out _ _ ⟨bx2, bx3, bx4, bx5, bx6⟩ (fun hHeld => ?_)
        clear hK K
        try simp only [Act.put, List.setIfInBounds_toArray, List.set]
        refine wpAnyH_ready (rs := [5]) (by kernel_rfl) (by simp) ?_
        refine AllReadyH.cons rfl (fun K hK => ?_) AllReadyH.nil
        go_simp
        refine (toBoolS_any _ ws _ (HRW.out _ tot) (by omega)).mono ?_
        rintro e w7 ⟨uw, rfl, ow3, hb⟩
        obtain ⟨pw3, qw3, rfl⟩ := own_shape ow3
        have hBn := btr hB9 hb
        have hsz85 := hb.size
        replace bf79 := kept_froz hb (lt_of_cell bx78) bf79
        replace bf81 := kept_froz hb (lt_of_cell bx80) bf81
        replace bx2 : w7.cell? ⟨w.heap.size, 0, none⟩ = some (.slice a0 c.vars.length c0) := kept_cell hb bx2
        replace bx3 : w7.cell? ⟨w.heap.size, 1, none⟩ = some (.slice a1 c.arrays.length c1) := kept_cell hb bx3
        replace bx4 : w7.cell? ⟨w.heap.size, 2, none⟩ = some (.slice a2 c.list.length c2) := kept_cell hb bx4
        replace bx5 : w7.cell? ⟨w.heap.size + 1, 0, none⟩ = some (.slice a3 m.vals.length c3) := kept_cell hb bx5
        replace bx6 : w7.cell? ⟨w.heap.size + 1, 1, none⟩ = some (.slice a4 m.arrs.length c4) := kept_cell hb bx6
        replace oc1 := oc1.below hb
        replace om2 := om2.below hb
        replace bx78 : w7.cell? ⟨w5.heap.size, 0, none⟩ = some (.slice none 0 0) := kept_cell hb bx78
        replace bx80 : w7.cell? ⟨w5.heap.size, 1, none⟩ = some (.slice none 0 0) := kept_cell hb bx80
        replace tot := btr tot hb
        clear hb
        clear hB9
        have hB9 := hBn; clear hBn
        have iv86 := ow3.lt
        clear lt82 lt83 lt84
        have lt87 := lt_of_cell bx2
        have lt88 := lt_of_cell bx5
        have lt89 := lt_of_cell bx78
        refine hK.out _ _ ⟨bx2, bx3, bx4, bx5, bx6⟩ (fun hHeld => ?_)
        clear hK K
        try simp only [Act.put, List.setIfInBounds_toArray, List.set]
        refine wpAnyH_ready (rs := [6]) (by kernel_rfl) (by simp) ?_
        refine AllReadyH.cons rfl (fun K hK => ?_) AllReadyH.nil
        go_simp
        refine (HS.out _ _ _ _ _ _ (oc1.reads (by omega) (by omega) (by omega)) (om2.reads hm1 hm2 hm3) hm1 hm2 hm3 _ _ (reads_of_owns ow3 (by omega))).mono ?_
        rintro e w8 ⟨gx90, gy90, gu90, ge90, rfl, om90, oe90, hb⟩
        obtain ⟨P90, Q90, S90, T90, rfl, rfl⟩ := om90.shape
        obtain ⟨U90, V90, rfl⟩ := own_shape oe90
        have hBn := btr hB9 hb
        have hsz91 := hb.size
        replace bf79 := kept_froz hb (lt_of_cell bx78) bf79
        replace bf81 := kept_froz hb (lt_of_cell bx80) bf81
        replace bx2 : w8.cell? ⟨w.heap.size, 0, none⟩ = some (.slice a0 c.vars.length c0) := kept_cell hb bx2
        replace bx3 : w8.cell? ⟨w.heap.size, 1, none⟩ = some (.slice a1 c.arrays.length c1) := kept_cell hb bx3
        replace bx4 : w8.cell? ⟨w.heap.size, 2, none⟩ = some (.slice a2 c.list.length c2) := kept_cell hb bx4
        replace bx5 : w8.cell? ⟨w.heap.size + 1, 0, none⟩ = some (.slice a3 m.vals.length c3) := kept_cell hb bx5
        replace bx6 : w8.cell? ⟨w.heap.size + 1, 1, none⟩ = some (.slice a4 m.arrs.length c4) := kept_cell hb bx6
        replace oc1 := oc1.below hb
        replace om2 := om2.below hb
        replace bx78 : w8.cell? ⟨w5.heap.size, 0, none⟩ = some (.slice none 0 0) := kept_cell hb bx78
        replace bx80 : w8.cell? ⟨w5.heap.size, 1, none⟩ = some (.slice none 0 0) := kept_cell hb bx80
        replace ow3 := own_below ow3 hb
        replace tot := btr tot hb
        clear hb
        clear hB9
        have hB9 := hBn; clear hBn
        have ap90 := Lib.hid (mem_ev_apart om90 oe90)
        have iv92 := om90.lt
        have iv93 := oe90.lt
        clear lt87 lt88 lt89
        have lt94 := lt_of_cell bx2
        have lt95 := lt_of_cell bx5
        have lt96 := lt_of_cell bx78
        refine hK.out _ _ ⟨bx2, bx3, bx4, bx5, bx6⟩ (fun hHeld => ?_)
        clear hK K
        try simp only [Act.put, List.setIfInBounds_toArray, List.set]
        refine take_d (i := 7) (d := 36) (v := ?_) rfl rfl (by kernel_rfl) (by kernel_rfl) (by kernel_rfl) (fun _ _ _ h => h) (Or.inl ⟨by rfl, ?_⟩) (by assumption) ?_
        rotate_left
        · intro W' hSw; (try dsimp only at hSw); obtain ⟨s0, s1, s2, s3, s4⟩ := hSw; go_simp; try with_reducible rfl
        try simp only [Act.put, List.setIfInBounds_toArray, List.set]
        refine take_d (i := 8) (d := 44) (v := ?_) rfl rfl (by kernel_rfl) (by kernel_rfl) (by kernel_rfl) (fun _ _ _ h => h) (Or.inl ⟨by rfl, ?_⟩) (by assumption) ?_
        rotate_left
        · intro W' hSw; (try dsimp only at hSw); obtain ⟨s0, s1, s2, s3, s4⟩ := hSw; go_simp; try with_reducible rfl
        try simp only [Act.put, List.setIfInBounds_toArray, List.set]
        refine take_d (i := 9) (d := 45) (v := ?_) rfl rfl (by kernel_rfl) (by kernel_rfl) (by kernel_rfl) (fun _ _ _ h => h) (Or.inl ⟨by rfl, ?_⟩) (by assumption) ?_
        rotate_left
        · intro W' hSw; (try dsimp only at hSw); obtain ⟨s0, s1, s2, s3, s4⟩ := hSw; go_simp; try with_reducible rfl
        try simp only [Act.put, List.setIfInBounds_toArray, List.set]
        refine take_d (i := 10) (d := 46) (v := ?_) rfl rfl (by kernel_rfl) (by kernel_rfl) (by kernel_rfl) (fun _ _ _ h => h) (Or.inl ⟨by rfl, ?_⟩) (by assumption) ?_
        rotate_left
        · intro W' hSw; (try dsimp only at hSw); obtain ⟨s0, s1, s2, s3, s4⟩ := hSw; go_simp; try with_reducible rfl
        try simp only [Act.put, List.setIfInBounds_toArray, List.set]
        refine wpAnyH_ready (rs := [12]) (by kernel_rfl) (by simp) ?_
        refine AllReadyH.cons rfl (fun K hK => ?_) AllReadyH.nil
        go_simp
        obtain ⟨w9, hnw⟩ : ∃ X, X = (World.setCell (World.setCell w8 ⟨w5.heap.size, 0, none⟩ (.slice P90 RM.vals.length Q90)) ⟨w5.heap.size, 1, none⟩ (.slice S90 RM.arrs.length T90)) := ⟨_, rfl⟩
        have hb : Below (World.setCell (World.setCell w8 ⟨w5.heap.size, 0, none⟩ (.slice P90 RM.vals.length Q90)) ⟨w5.heap.size, 1, none⟩ (.slice S90 RM.arrs.length T90)).heap.size (World.setCell (World.setCell w8 ⟨w5.heap.size, 0, none⟩ (.slice P90 RM.vals.length Q90)) ⟨w5.heap.size, 1, none⟩ (.slice S90 RM.arrs.length T90)) w9 := by rw [hnw]; exact bself _
        have hBn := btr (bst (bst hB9 (w5.heap.size) 0 (by omega) (.slice P90 RM.vals.length Q90)) (w5.heap.size) 1 (by omega) (.slice S90 RM.arrs.length T90)) hb
        have hsz97 := hb.size
        simp only [World.size_setCell] at hsz97
        replace bf79 := kept_froz hb (lt_of_cell (cell_ne (b := (w5.heap.size)) (j := 1) (cell_at _ (w5.heap.size) 0 (.slice P90 RM.vals.length Q90) bx78) (by omega) (.slice S90 RM.arrs.length T90))) (froz_st (b := ⟨(w5.heap.size), 1, none⟩) (froz_st (b := ⟨(w5.heap.size), 0, none⟩) bf79 (.slice P90 RM.vals.length Q90)) (.slice S90 RM.arrs.length T90))
        replace bf81 := kept_froz hb (lt_of_cell (cell_at _ (w5.heap.size) 1 (.slice S90 RM.arrs.length T90) (cell_ne (b := (w5.heap.size)) (j := 0) bx80 (by omega) (.slice P90 RM.vals.length Q90)))) (froz_st (b := ⟨(w5.heap.size), 1, none⟩) (froz_st (b := ⟨(w5.heap.size), 0, none⟩) bf81 (.slice P90 RM.vals.length Q90)) (.slice S90 RM.arrs.length T90))
        replace bx2 : w9.cell? ⟨w.heap.size, 0, none⟩ = some (.slice a0 c.vars.length c0) := kept_cell hb (cell_ne (b := (w5.heap.size)) (j := 1) (cell_ne (b := (w5.heap.size)) (j := 0) bx2 (by omega) (.slice P90 RM.vals.length Q90)) (by omega) (.slice S90 RM.arrs.length T90))
        replace bx3 : w9.cell? ⟨w.heap.size, 1, none⟩ = some (.slice a1 c.arrays.length c1) := kept_cell hb (cell_ne (b := (w5.heap.size)) (j := 1) (cell_ne (b := (w5.heap.size)) (j := 0) bx3 (by omega) (.slice P90 RM.vals.length Q90)) (by omega) (.slice S90 RM.arrs.length T90))
        replace bx4 : w9.cell? ⟨w.heap.size, 2, none⟩ = some (.slice a2 c.list.length c2) := kept_cell hb (cell_ne (b := (w5.heap.size)) (j := 1) (cell_ne (b := (w5.heap.size)) (j := 0) bx4 (by omega) (.slice P90 RM.vals.length Q90)) (by omega) (.slice S90 RM.arrs.length T90))
        replace bx5 : w9.cell? ⟨w.heap.size + 1, 0, none⟩ = some (.slice a3 m.vals.length c3) := kept_cell hb (cell_ne (b := (w5.heap.size)) (j := 1) (cell_ne (b := (w5.heap.size)) (j := 0) bx5 (by omega) (.slice P90 RM.vals.length Q90)) (by omega) (.slice S90 RM.arrs.length T90))
        replace bx6 : w9.cell? ⟨w.heap.size + 1, 1, none⟩ = some (.slice a4 m.arrs.length c4) := kept_cell hb (cell_ne (b := (w5.heap.size)) (j := 1) (cell_ne (b := (w5.heap.size)) (j := 0) bx6 (by omega) (.slice P90 RM.vals.length Q90)) (by omega) (.slice S90 RM.arrs.length T90))
        replace oc1 := ((oc1.keep ((Chg.refl (fun gk => gk = (w5.heap.size)) _).setCell (w5.heap.size) 0 (.slice P90 RM.vals.length Q90) (fun _ => rfl)) (fun gq h h2 => by have := iv27 gq h; omega)).keep ((Chg.refl (fun gk => gk = (w5.heap.size)) _).setCell (w5.heap.size) 1 (.slice S90 RM.arrs.length T90) (fun _ => rfl)) (fun gq h h2 => by have := iv27 gq h; omega)).below hb
        replace om2 := ((om2.keep ((Chg.refl (fun gk => gk = (w5.heap.size)) _).setCell (w5.heap.size) 0 (.slice P90 RM.vals.length Q90) (fun _ => rfl)) (fun gq h h2 => by have := iv31 gq h; omega)).keep ((Chg.refl (fun gk => gk = (w5.heap.size)) _).setCell (w5.heap.size) 1 (.slice S90 RM.arrs.length T90) (fun _ => rfl)) (fun gq h h2 => by have := iv31 gq h; omega)).below hb
        replace bx78 : w9.cell? ⟨w5.heap.size, 0, none⟩ = some (.slice P90 RM.vals.length Q90) := kept_cell hb (cell_ne (b := (w5.heap.size)) (j := 1) (cell_at _ (w5.heap.size) 0 (.slice P90 RM.vals.length Q90) bx78) (by omega) (.slice S90 RM.arrs.length T90))
        replace bx80 : w9.cell? ⟨w5.heap.size, 1, none⟩ = some (.slice S90 RM.arrs.length T90) := kept_cell hb (cell_at _ (w5.heap.size) 1 (.slice S90 RM.arrs.length T90) (cell_ne (b := (w5.heap.size)) (j := 0) bx80 (by omega) (.slice P90 RM.vals.length Q90)))
        replace ow3 := own_below (own_set (own_set ow3 (w5.heap.size) 0 (fun h => by have := iv86 _ h; omega) (.slice P90 RM.vals.length Q90)) (w5.heap.size) 1 (fun h => by have := iv86 _ h; omega) (.slice S90 RM.arrs.length T90)) hb
        replace om90 := ((om90.keep ((Chg.refl (fun gk => gk = (w5.heap.size)) _).setCell (w5.heap.size) 0 (.slice P90 RM.vals.length Q90) (fun _ => rfl)) (fun gq h h2 => by have := iv92 gq h; omega)).keep ((Chg.refl (fun gk => gk = (w5.heap.size)) _).setCell (w5.heap.size) 1 (.slice S90 RM.arrs.length T90) (fun _ => rfl)) (fun gq h h2 => by have := iv92 gq h; omega)).below hb
        replace oe90 := own_below (own_set (own_set oe90 (w5.heap.size) 0 (fun h => by have := iv93 _ h; omega) (.slice P90 RM.vals.length Q90)) (w5.heap.size) 1 (fun h => by have := iv93 _ h; omega) (.slice S90 RM.arrs.length T90)) hb
        replace tot := btr (bst (bst tot (w5.heap.size) 0 (by omega) (.slice P90 RM.vals.length Q90)) (w5.heap.size) 1 (by omega) (.slice S90 RM.arrs.length T90)) hb
        clear hb
        clear hB9
        have hB9 := hBn; clear hBn
        rw [← hnw]
        clear hnw
        clear lt94 lt95 lt96
        have lt98 := lt_of_cell bx2
        have lt99 := lt_of_cell bx5
        have lt100 := lt_of_cell bx78
        refine hK.out _ _ ⟨bx2, bx3, bx4, bx5, bx6⟩ (fun hHeld => ?_)
        clear hK K
        try simp only [Act.put, List.setIfInBounds_toArray, List.set]
        refine take_d (i := 13) (d := 9) (v := ?_) rfl rfl (by kernel_rfl) (by kernel_rfl) (by kernel_rfl) (fun _ _ _ h => h) (Or.inl ⟨by rfl, ?_⟩) (by assumption) ?_
        rotate_left
        · intro W' hSw; (try dsimp only at hSw); obtain ⟨s0, s1, s2, s3, s4⟩ := hSw; go_simp; try with_reducible rfl
        try simp only [Act.put, List.setIfInBounds_toArray, List.set]
        refine take_d (i := 14) (d := 10) (v := ?_) rfl rfl (by kernel_rfl) (by kernel_rfl) (by kernel_rfl) (fun _ _ _ h => h) (Or.inl ⟨by rfl, ?_⟩) (by assumption) ?_
        rotate_left
        · intro W' hSw; (try dsimp only at hSw); obtain ⟨s0, s1, s2, s3, s4⟩ := hSw; go_simp; try with_reducible rfl
        try simp only [Act.put, List.setIfInBounds_toArray, List.set]
        refine wpAnyH_done (by kernel_rfl) ?_ _
        refine NoPanic.normal ?_
        clear hHeld
        go_wp2_with fail
        go_meet
        have lz101 := lt_of_cell bx78
        exact ⟨w5.heap.size, P90, S90, U90, Q90, T90, V90, gu90, rfl, rfl, rfl, by omega, bx78, bx80, om90.mono (by omega), own_mono oe90 (by omega), fun q h => by have := iv92 q h; omega, fun q h => by have := iv93 q h; omega, hB9⟩
      refine AllReadyH.cons rfl (fun K hK => ?_) AllReadyH.nil
      go_simp
      obtain ⟨w5, hnw⟩ : ∃ X, X = (World.alloc w4 (.cells #[.slice none 0 0, .slice none 0 0] 37)) := ⟨_, rfl⟩
      have hb : Below (World.alloc w4 (.cells #[.slice none 0 0, .slice none 0 0] 37)).heap.size (World.alloc w4 (.cells #[.slice none 0 0, .slice none 0 0] 37)) w5 := by rw [hnw]; exact bself _
      have hBn := btr (bal hB9 (.cells #[.slice none 0 0, .slice none 0 0] 37)) hb
      have hsz102 := hb.size
      simp only [World.size_alloc] at hsz102
      replace bx2 : w5.cell? ⟨w.heap.size, 0, none⟩ = some (.slice a0 c.vars.length c0) := kept_cell hb (cell_al bx2 (.cells #[.slice none 0 0, .slice none 0 0] 37))
      replace bx3 : w5.cell? ⟨w.heap.size, 1, none⟩ = some (.slice a1 c.arrays.length c1) := kept_cell hb (cell_al bx3 (.cells #[.slice none 0 0, .slice none 0 0] 37))
      replace bx4 : w5.cell? ⟨w.heap.size, 2, none⟩ = some (.slice a2 c.list.length c2) := kept_cell hb (cell_al bx4 (.cells #[.slice none 0 0, .slice none 0 0] 37))
      replace bx5 : w5.cell? ⟨w.heap.size + 1, 0, none⟩ = some (.slice a3 m.vals.length c3) := kept_cell hb (cell_al bx5 (.cells #[.slice none 0 0, .slice none 0 0] 37))
      replace bx6 : w5.cell? ⟨w.heap.size + 1, 1, none⟩ = some (.slice a4 m.arrs.length c4) := kept_cell hb (cell_al bx6 (.cells #[.slice none 0 0, .slice none 0 0] 37))
      replace oc1 := (oc1.below (bal (bself _) (.cells #[.slice none 0 0, .slice none 0 0] 37))).below hb
      have bx103 : w5.cell? ⟨w4.heap.size, 0, none⟩ = some (.slice none 0 0) := kept_cell hb (cell_nw (by simp) (by rfl))
      have bf104 : w5.frozen? ⟨w4.heap.size, 0, none⟩ = false := kept_froz hb (by simp <;> omega) (froz_nw (by simp))
      have bx105 : w5.cell? ⟨w4.heap.size, 1, none⟩ = some (.slice none 0 0) := kept_cell hb (cell_nw (by simp) (by rfl))
      have bf106 : w5.frozen? ⟨w4.heap.size, 1, none⟩ = false := kept_froz hb (by simp <;> omega) (froz_nw (by simp))
      replace tot := btr (bal tot (.cells #[.slice none 0 0, .slice none 0 0] 37)) hb
      clear hb
      clear hB9
      have hB9 := hBn; clear hBn
      rw [← hnw]
      clear hnw
      clear lt28 lt29
      have lt107 := lt_of_cell bx2
      have lt108 := lt_of_cell bx5
      have lt109 := lt_of_cell bx103
      refine hK.out _ _ ⟨bx2, bx3, bx4, bx5, bx6⟩ (fun hHeld => ?_)
      clear hK K
      try simp only [Act.put, List.setIfInBounds_toArray, List.set]
      refine wpAnyH_ready (rs := [3]) (by kernel_rfl) (by simp) ?_
      refine AllReadyH.cons rfl (fun K hK => ?_) AllReadyH.nil
      go_simp
      refine (toMemory_any _ _ m _ (HRM.out _ tot) (by omega) (by omega) (by omega)).mono ?_
      rintro e w6 ⟨ux, uy, us2, rfl, om2, hb⟩
      obtain ⟨px2, qx2, py2, qy2, rfl, rfl⟩ := om2.shape
      have hBn := btr hB9 hb
      have hsz110 := hb.size
      replace bf104 := kept_froz hb (lt_of_cell bx103) bf104
      replace bf106 := kept_froz hb (lt_of_cell bx105) bf106
      replace bx2 : w6.cell? ⟨w.heap.size, 0, none⟩ = some (.slice a0 c.vars.length c0) := kept_cell hb bx2
      replace bx3 : w6.cell? ⟨w.heap.size, 1, none⟩ = some (.slice a1 c.arrays.length c1) := kept_cell hb bx3
      replace bx4 : w6.cell? ⟨w.heap.size, 2, none⟩ = some (.slice a2 c.list.length c2) := kept_cell hb bx4
      replace bx5 : w6.cell? ⟨w.heap.size + 1, 0, none⟩ = some (.slice a3 m.vals.length c3) := kept_cell hb bx5
      replace bx6 : w6.cell? ⟨w.heap.size + 1, 1, none⟩ = some (.slice a4 m.arrs.length c4) := kept_cell hb bx6
      replace oc1 := oc1.below hb
      replace bx103 : w6.cell? ⟨w4.heap.size, 0, none⟩ = some (.slice none 0 0) := kept_cell hb bx103
      replace bx105 : w6.cell? ⟨w4.heap.size, 1, none⟩ = some (.slice none 0 0) := kept_cell hb bx105
      replace tot := btr tot hb
      clear hb
      clear hB9
      have hB9 := hBn; clear hBn
      have iv111 := om2.lt
      clear lt107 lt108 lt109
      have lt112 := lt_of_cell bx2
      have lt113 := lt_of_cell bx5
      have lt114 := lt_of_cell bx103
      refine hK.out _ _ ⟨bx2, bx3, bx4, bx5, bx6⟩ (fun hHeld => ?_)
      clear hK K
      try simp only [Act.put, List.setIfInBounds_toArray, List.set]
      refine wpAnyH_ready (rs := [5]) (by kernel_rfl) (by simp) ?_
      refine AllReadyH.cons rfl (fun K hK => ?_) AllReadyH.nil
      go_simp
      refine (toBoolS_any _ ws _ (HRW.out _ tot) (by omega)).mono ?_
      rintro e w7 ⟨uw, rfl, ow3, hb⟩
      obtain ⟨pw3, qw3, rfl⟩ := own_shape ow3
      have hBn := btr hB9 hb
      have hsz115 := hb.size
      replace bf104 := kept_froz hb (lt_of_cell bx103) bf104
      replace bf106 := kept_froz hb (lt_of_cell bx105) bf106
      replace bx2 : w7.cell? ⟨w.heap.size, 0, none⟩ = some (.slice a0 c.vars.length c0) := kept_cell hb bx2
      replace bx3 : w7.cell? ⟨w.heap.size, 1, none⟩ = some (.slice a1 c.arrays.length c1) := kept_cell hb bx3
      replace bx4 : w7.cell? ⟨w.heap.size, 2, none⟩ = some (.slice a2 c.list.length c2) := kept_cell hb bx4
      replace bx5 : w7.cell? ⟨w.heap.size + 1, 0, none⟩ = some (.slice a3 m.vals.length c3) := kept_cell hb bx5
      replace bx6 : w7.cell? ⟨w.heap.size + 1, 1, none⟩ = some (.slice a4 m.arrs.length c4) := kept_cell hb bx6
      replace oc1 := oc1.below hb
      replace bx103 : w7.cell? ⟨w4.heap.size, 0, none⟩ = some (.slice none 0 0) := kept_cell hb bx103
      replace bx105 : w7.cell? ⟨w4.heap.size, 1, none⟩ = some (.slice none 0 0) := kept_cell hb bx105
      replace om2 := om2.below hb
      replace tot := btr tot hb
      clear hb
      clear hB9
      have hB9 := hBn; clear hBn
      have iv116 := ow3.lt
      clear lt112 lt113 lt114
      have lt117 := lt_of_cell bx2
      have lt118 := lt_of_cell bx5
      have lt119 := lt_of_cell bx103
      refine hK.out _ _ ⟨bx2, bx3, bx4, bx5, bx6⟩ (fun hHeld => ?_)
      clear hK K
      try simp only [Act.put, List.setIfInBounds_toArray, List.set]
      refine wpAnyH_ready (rs := [6]) (by kernel_rfl) (by simp) ?_
      refine AllReadyH.cons rfl (fun K hK => ?_) AllReadyH.nil
      go_simp
      refine (HS.out _ _ _ _ _ _ (oc1.reads (by omega) (by omega) (by omega)) (om2.reads hm1 hm2 hm3) hm1 hm2 hm3 _ _ (reads_of_owns ow3 (by omega))).mono ?_
      rintro e w8 ⟨gx120, gy120, gu120, ge120, rfl, om120, oe120, hb⟩
      obtain ⟨P120, Q120, S120, T120, rfl, rfl⟩ := om120.shape
      obtain ⟨U120, V120, rfl⟩ := own_shape oe120
      have hBn := btr hB9 hb
      have hsz121 := hb.size
      replace bf104 := kept_froz hb (lt_of_cell bx103) bf104
      replace bf106 := kept_froz hb (lt_of_cell bx105) bf106
      replace bx2 : w8.cell? ⟨w.heap.size, 0, none⟩ = some (.slice a0 c.vars.length c0) := kept_cell hb bx2
      replace bx3 : w8.cell? ⟨w.heap.size, 1, none⟩ = some (.slice a1 c.arrays.length c1) := kept_cell hb bx3
      replace bx4 : w8.cell? ⟨w.heap.size, 2, none⟩ = some (.slice a2 c.list.length c2) := kept_cell hb bx4
      replace bx5 : w8.cell? ⟨w.heap.size + 1, 0, none⟩ = some (.slice a3 m.vals.length c3) := kept_cell hb bx5
      replace bx6 : w8.cell? ⟨w.heap.size + 1, 1, none⟩ = some (.slice a4 m.arrs.length c4) := kept_cell hb bx6
      replace oc1 := oc1.below hb
      replace bx103 : w8.cell? ⟨w4.heap.size, 0, none⟩ = some (.slice none 0 0) := kept_cell hb bx103
      replace bx105 : w8.cell? ⟨w4.heap.size, 1, none⟩ = some (.slice none 0 0) := kept_cell hb bx105
      replace om2 := om2.below hb
      replace ow3 := own_below ow3 hb
      replace tot := btr tot hb
      clear hb
      clear hB9
      have hB9 := hBn; clear hBn
      have ap120 := Lib.hid (mem_ev_apart om120 oe120)
      have iv122 := om120.lt
      have iv123 := oe120.lt
      clear lt117 lt118 lt119
      have lt124 := lt_of_cell bx2
      have lt125 := lt_of_cell bx5
      have lt126 := lt_of_cell bx103
      refine hK.out _ _ ⟨bx2, bx3, bx4, bx5, bx6⟩ (fun hHeld => ?_)
      clear hK K
      try simp only [Act.put, List.setIfInBounds_toArray, List.set]
      refine take_d (i := 7) (d := 36) (v := ?_) rfl rfl (by kernel_rfl) (by kernel_rfl) (by kernel_rfl) (fun _ _ _ h => h) (Or.inl ⟨by rfl, ?_⟩) (by assumption) ?_
      rotate_left
      · intro W' hSw; (try dsimp only at hSw); obtain ⟨s0, s1, s2, s3, s4⟩ := hSw; go_simp; try with_reducible rfl
      try simp only [Act.put, List.setIfInBounds_toArray, List.set]
      refine take_d (i := 8) (d := 44) (v := ?_) rfl rfl (by kernel_rfl) (by kernel_rfl) (by kernel_rfl) (fun _ _ _ h => h) (Or.inl ⟨by rfl, ?_⟩) (by assumption) ?_
      rotate_left
      · intro W' hSw; (try dsimp only at hSw); obtain ⟨s0, s1, s2, s3, s4⟩ := hSw; go_simp; try with_reducible rfl
      try simp only [Act.put, List.setIfInBounds_toArray, List.set]
      refine take_d (i := 9) (d := 45) (v := ?_) rfl rfl (by kernel_rfl) (by kernel_rfl) (by kernel_rfl) (fun _ _ _ h => h) (Or.inl ⟨by rfl, ?_⟩) (by assumption) ?_
      rotate_left
      · intro W' hSw; (try dsimp only at hSw); obtain ⟨s0, s1, s2, s3, s4⟩ := hSw; go_simp; try with_reducible rfl
      try simp only [Act.put, List.setIfInBounds_toArray, List.set]
      refine take_d (i := 10) (d := 46) (v := ?_) rfl rfl (by kernel_rfl) (by kernel_rfl) (by kernel_rfl) (fun _ _ _ h => h) (Or.inl ⟨by rfl, ?_⟩) (by assumption) ?_
      rotate_left
      · intro W' hSw; (try dsimp only at hSw); obtain ⟨s0, s1, s2, s3, s4⟩ := hSw; go_simp; try with_reducible rfl
      try simp only [Act.put, List.setIfInBounds_toArray, List.set]
      refine wpAnyH_ready (rs := [12]) (by kernel_rfl) (by simp) ?_
      refine AllReadyH.cons rfl (fun K hK => ?_) AllReadyH.nil
      go_simp
      obtain ⟨w9, hnw⟩ : ∃ X, X = (World.setCell (World.setCell w8 ⟨w4.heap.size, 0, none⟩ (.slice P120 RM.vals.length Q120)) ⟨w4.heap.size, 1, none⟩ (.slice S120 RM.arrs.length T120)) := ⟨_, rfl⟩
      have hb : Below (World.setCell (World.setCell w8 ⟨w4.heap.size, 0, none⟩ (.slice P120 RM.vals.length Q120)) ⟨w4.heap.size, 1, none⟩ (.slice S120 RM.arrs.length T120)).heap.size (World.setCell (World.setCell w8 ⟨w4.heap.size, 0, none⟩ (.slice P120 RM.vals.length Q120)) ⟨w4.heap.size, 1, none⟩ (.slice S120 RM.arrs.length T120)) w9 := by rw [hnw]; exact bself _
      have hBn := btr (bst (bst hB9 (w4.heap.size) 0 (by omega) (.slice P120 RM.vals.length Q120)) (w4.heap.size) 1 (by omega) (.slice S120 RM.arrs.length T120)) hb
      have hsz127 := hb.size
      simp only [World.size_setCell] at hsz127
      replace bf104 := kept_froz hb (lt_of_cell (cell_ne (b := (w4.heap.size)) (j := 1) (cell_at _ (w4.heap.size) 0 (.slice P120 RM.vals.length Q120) bx103) (by omega) (.slice S120 RM.arrs.length T120))) (froz_st (b := ⟨(w4.heap.size), 1, none⟩) (froz_st (b := ⟨(w4.heap.size), 0, none⟩) bf104 (.slice P120 RM.vals.length Q120)) (.slice S120 RM.arrs.length T120))
      replace bf106 := kept_froz hb (lt_of_cell (cell_at _ (w4.heap.size) 1 (.slice S120 RM.arrs.length T120) (cell_ne (b := (w4.heap.size)) (j := 0) bx105 (by omega) (.slice P120 RM.vals.length Q120)))) (froz_st (b := ⟨(w4.heap.size), 1, none⟩) (froz_st (b := ⟨(w4.heap.size), 0, none⟩) bf106 (.slice P120 RM.vals.length Q120)) (.slice S120 RM.arrs.length T120))
      replace bx2 : w9.cell? ⟨w.heap.size, 0, none⟩ = some (.slice a0 c.vars.length c0) := kept_cell hb (cell_ne (b := (w4.heap.size)) (j := 1) (cell_ne (b := (w4.heap.size)) (j := 0) bx2 (by omega) (.slice P120 RM.vals.length Q120)) (by omega) (.slice S120 RM.arrs.length T120))
      replace bx3 : w9.cell? ⟨w.heap.size, 1, none⟩ = some (.slice a1 c.arrays.length c1) := kept_cell hb (cell_ne (b := (w4.heap.size)) (j := 1) (cell_ne (b := (w4.heap.size)) (j := 0) bx3 (by omega) (.slice P120 RM.vals.length Q120)) (by omega) (.slice S120 RM.arrs.length T120))
      replace bx4 : w9.cell? ⟨w.heap.size, 2, none⟩ = some (.slice a2 c.list.length c2) := kept_cell hb (cell_ne (b := (w4.heap.size)) (j := 1) (cell_ne (b := (w4.heap.size)) (j := 0) bx4 (by omega) (.slice P120 RM.vals.length Q120)) (by omega) (.slice S120 RM.arrs.length T120))
      replace bx5 : w9.cell? ⟨w.heap.size + 1, 0, none⟩ = some (.slice a3 m.vals.length c3) := kept_cell hb (cell_ne (b := (w4.heap.size)) (j := 1) (cell_ne (b := (w4.heap.size)) (j := 0) bx5 (by omega) (.slice P120 RM.vals.length Q120)) (by omega) (.slice S120 RM.arrs.length T120))
      replace bx6 : w9.cell? ⟨w.heap.size + 1, 1, none⟩ = some (.slice a4 m.arrs.length c4) := kept_cell hb (cell_ne (b := (w4.heap.size)) (j := 1) (cell_ne (b := (w4.heap.size)) (j := 0) bx6 (by omega) (.slice P120 RM.vals.length Q120)) (by omega) (.slice S120 RM.arrs.length T120))
      replace oc1 := ((oc1.keep ((Chg.refl (fun gk => gk = (w4.heap.size)) _).setCell (w4.heap.size) 0 (.slice P120 RM.vals.length Q120) (fun _ => rfl)) (fun gq h h2 => by have := iv27 gq h; omega)).keep ((Chg.refl (fun gk => gk = (w4.heap.size)) _).setCell (w4.heap.size) 1 (.slice S120 RM.arrs.length T120) (fun _ => rfl)) (fun gq h h2 => by have := iv27 gq h; omega)).below hb
      replace bx103 : w9.cell? ⟨w4.heap.size, 0, none⟩ = some (.slice P120 RM.vals.length Q120) := kept_cell hb (cell_ne (b := (w4.heap.size)) (j := 1) (cell_at _ (w4.heap.size) 0 (.slice P120 RM.vals.length Q120) bx103) (by omega) (.slice S120 RM.arrs.length T120))
      replace bx105 : w9.cell? ⟨w4.heap.size, 1, none⟩ = some (.slice S120 RM.arrs.length T120) := kept_cell hb (cell_at _ (w4.heap.size) 1 (.slice S120 RM.arrs.length T120) (cell_ne (b := (w4.heap.size)) (j := 0) bx105 (by omega) (.slice P120 RM.vals.length Q120)))
      replace om2 := ((om2.keep ((Chg.refl (fun gk => gk = (w4.heap.size)) _).setCell (w4.heap.size) 0 (.slice P120 RM.vals.length Q120) (fun _ => rfl)) (fun gq h h2 => by have := iv111 gq h; omega)).keep ((Chg.refl (fun gk => gk = (w4.heap.size)) _).setCell (w4.heap.size) 1 (.slice S120 RM.arrs.length T120) (fun _ => rfl)) (fun gq h h2 => by have := iv111 gq h; omega)).below hb
      replace ow3 := own_below (own_set (own_set ow3 (w4.heap.size) 0 (fun h => by have := iv116 _ h; omega) (.slice P120 RM.vals.length Q120)) (w4.heap.size) 1 (fun h => by have := iv116 _ h; omega) (.slice S120 RM.arrs.length T120)) hb
      replace om120 := ((om120.keep ((Chg.refl (fun gk => gk = (w4.heap.size)) _).setCell (w4.heap.size) 0 (.slice P120 RM.vals.length Q120) (fun _ => rfl)) (fun gq h h2 => by have := iv122 gq h; omega)).keep ((Chg.refl (fun gk => gk = (w4.heap.size)) _).setCell (w4.heap.size) 1 (.slice S120 RM.arrs.length T120) (fun _ => rfl)) (fun gq h h2 => by have := iv122 gq h; omega)).below hb
      replace oe120 := own_below (own_set (own_set oe120 (w4.heap.size) 0 (fun h => by have := iv123 _ h; omega) (.slice P120 RM.vals.length Q120)) (w4.heap.size) 1 (fun h => by have := iv123 _ h; omega) (.slice S120 RM.arrs.length T120)) hb
      replace tot := btr (bst (bst tot (w4.heap.size) 0 (by omega) (.slice P120 RM.vals.length Q120)) (w4.heap.size) 1 (by omega) (.slice S120 RM.arrs.length T120)) hb
      clear hb
      clear hB9
      have hB9 := hBn; clear hBn
      rw [← hnw]
      clear hnw
      clear lt124 lt125 lt126
      have lt128 := lt_of_cell bx2
      have lt129 := lt_of_cell bx5
      have lt130 := lt_of_cell bx103
      refine hK.out _ _ ⟨bx2, bx3, bx4, bx5, bx6⟩ (fun hHeld => ?_)
      clear hK K
      try simp only [Act.put, List.setIfInBounds_toArray, List.set]
      refine take_d (i := 13) (d := 9) (v := ?_) rfl rfl (by kernel_rfl) (by kernel_rfl) (by kernel_rfl) (fun _ _ _ h => h) (Or.inl ⟨by rfl, ?_⟩) (by assumption) ?_
      rotate_left
      · intro W' hSw; (try dsimp only at hSw); obtain ⟨s0, s1, s2, s3, s4⟩ := hSw; go_simp; try with_reducible rfl
      try simp only [Act.put, List.setIfInBounds_toArray, List.set]
      refine take_d (i := 14) (d := 10) (v := ?_) rfl rfl (by kernel_rfl) (by kernel_rfl) (by kernel_rfl) (fun _ _ _ h => h) (Or.inl ⟨by rfl, ?_⟩) (by assumption) ?_
      rotate_left
      · intro W' hSw; (try dsimp only at hSw); obtain ⟨s0, s1, s2, s3, s4⟩ := hSw; go_simp; try with_reducible rfl
      try simp only [Act.put, List.setIfInBounds_toArray, List.set]
      refine wpAnyH_done (by kernel_rfl) ?_ _
      refine NoPanic.normal ?_
      clear hHeld
      go_wp2_with fail
      go_meet
      have lz131 := lt_of_cell bx103
      exact ⟨w4.heap.size, P120, S120, U120, Q120, T120, V120, gu120, rfl, rfl, rfl, by omega, bx103, bx105, om120.mono (by omega), own_mono oe120 (by omega), fun q h => by have := iv122 q h; omega, fun q h => by have := iv123 q h; omega, hB9⟩
    refine AllReadyH.cons rfl (fun K hK => ?_) AllReadyH.nil
    go_simp
    obtain ⟨w4, hnw⟩ : ∃ X, X = (World.alloc w3 (.cells #[.slice none 0 0, .slice none 0 0] 37)) := ⟨_, rfl⟩
    have hb : Below (World.alloc w3 (.cells #[.slice none 0 0, .slice none 0 0] 37)).heap.size (World.alloc w3 (.cells #[.slice none 0 0, .slice none 0 0] 37)) w4 := by rw [hnw]; exact bself _
    have hBn := btr (bal hB9 (.cells #[.slice none 0 0, .slice none 0 0] 37)) hb
    have hsz132 := hb.size
    simp only [World.size_alloc] at hsz132
    replace bx2 : w4.cell? ⟨w.heap.size, 0, none⟩ = some (.slice a0 c.vars.length c0) := kept_cell hb (cell_al bx2 (.cells #[.slice none 0 0, .slice none 0 0] 37))
    replace bx3 : w4.cell? ⟨w.heap.size, 1, none⟩ = some (.slice a1 c.arrays.length c1) := kept_cell hb (cell_al bx3 (.cells #[.slice none 0 0, .slice none 0 0] 37))
    replace bx4 : w4.cell? ⟨w.heap.size, 2, none⟩ = some (.slice a2 c.list.length c2) := kept_cell hb (cell_al bx4 (.cells #[.slice none 0 0, .slice none 0 0] 37))
    replace bx5 : w4.cell? ⟨w.heap.size + 1, 0, none⟩ = some (.slice a3 m.vals.length c3) := kept_cell hb (cell_al bx5 (.cells #[.slice none 0 0, .slice none 0 0] 37))
    replace bx6 : w4.cell? ⟨w.heap.size + 1, 1, none⟩ = some (.slice a4 m.arrs.length c4) := kept_cell hb (cell_al bx6 (.cells #[.slice none 0 0, .slice none 0 0] 37))
    have bx133 : w4.cell? ⟨w3.heap.size, 0, none⟩ = some (.slice none 0 0) := kept_cell hb (cell_nw (by simp) (by rfl))
    have bf134 : w4.frozen? ⟨w3.heap.size, 0, none⟩ = false := kept_froz hb (by simp <;> omega) (froz_nw (by simp))
    have bx135 : w4.cell? ⟨w3.heap.size, 1, none⟩ = some (.slice none 0 0) := kept_cell hb (cell_nw (by simp) (by rfl))
    have bf136 : w4.frozen? ⟨w3.heap.size, 1, none⟩ = false := kept_froz hb (by simp <;> omega) (froz_nw (by simp))
    replace tot := btr (bal tot (.cells #[.slice none 0 0, .slice none 0 0] 37)) hb
    clear hb
    clear hB9
    have hB9 := hBn; clear hBn
    rw [← hnw]
    clear hnw
    clear lt24 lt25
    have lt137 := lt_of_cell bx2
    have lt138 := lt_of_cell bx5
    have lt139 := lt_of_cell bx133
    refine hK.out _ _ ⟨bx2, bx3, bx4, bx5, bx6⟩ (fun hHeld => ?_)
    clear hK K
    try simp only [Act.put, List.setIfInBounds_toArray, List.set]
    refine wpAnyH_ready (rs := [1]) (by kernel_rfl) (by simp) ?_
    refine AllReadyH.cons rfl (fun K hK => ?_) AllReadyH.nil
    go_simp
    refine (toCode_any _ _ _ c _ (HR0.out _ tot) (by omega) (by omega) (by omega)).mono ?_
    rintro e w5 ⟨ua, ub, uc, rfl, oc1, hb⟩
    obtain ⟨pa1, qa1, pb1, qb1, pc1, qc1, rfl, rfl, rfl⟩ := oc1.shape
    have hBn := btr hB9 hb
    have hsz140 := hb.size
    replace bf134 := kept_froz hb (lt_of_cell bx133) bf134
    replace bf136 := kept_froz hb (lt_of_cell bx135) bf136
    replace bx2 : w5.cell? ⟨w.heap.size, 0, none⟩ = some (.slice a0 c.vars.length c0) := kept_cell hb bx2
    replace bx3 : w5.cell? ⟨w.heap.size, 1, none⟩ = some (.slice a1 c.arrays.length c1) := kept_cell hb bx3
    replace bx4 : w5.cell? ⟨w.heap.size, 2, none⟩ = some (.slice a2 c.list.length c2) := kept_cell hb bx4
    replace bx5 : w5.cell? ⟨w.heap.size + 1, 0, none⟩ = some (.slice a3 m.vals.length c3) := kept_cell hb bx5
    replace bx6 : w5.cell? ⟨w.heap.size + 1, 1, none⟩ = some (.slice a4 m.arrs.length c4) := kept_cell hb bx6
    replace bx133 : w5.cell? ⟨w3.heap.size, 0, none⟩ = some (.slice none 0 0) := kept_cell hb bx133
    replace bx135 : w5.cell? ⟨w3.heap.size, 1, none⟩ = some (.slice none 0 0) := kept_cell hb bx135
    replace tot := btr tot hb
    clear hb
    clear hB9
    have hB9 := hBn; clear hBn
    have iv141 := oc1.lt
    clear lt137 lt138 lt139
    have lt142 := lt_of_cell bx2
    have lt143 := lt_of_cell bx5
    have lt144 := lt_of_cell bx133
    refine hK.out _ _ ⟨bx2, bx3, bx4, bx5, bx6⟩ (fun hHeld => ?_)
    clear hK K
    try simp only [Act.put, List.setIfInBounds_toArray, List.set]
    refine wpAnyH_ready (rs := [3]) (by kernel_rfl) (by simp) ?_
    refine AllReadyH.cons rfl (fun K hK => ?_) AllReadyH.nil
    go_simp
    refine (toMemory_any _ _ m _ (HRM.out _ tot) (by omega) (by omega) (by omega)).mono ?_
    rintro e w6 ⟨ux, uy, us2, rfl, om2, hb⟩
    obtain ⟨px2, qx2, py2, qy2, rfl, rfl⟩ := om2.shape
    have hBn := btr hB9 hb
    have hsz145 := hb.size
    replace bf134 := kept_froz hb (lt_of_cell bx133) bf134
    replace bf136 := kept_froz hb (lt_of_cell bx135) bf136
    replace bx2 : w6.cell? ⟨w.heap.size, 0, none⟩ = some (.slice a0 c.vars.length c0) := kept_cell hb bx2
    replace bx3 : w6.cell? ⟨w.heap.size, 1, none⟩ = some (.slice a1 c.arrays.length c1) := kept_cell hb bx3
    replace bx4 : w6.cell? ⟨w.heap.size, 2, none⟩ = some (.slice a2 c.list.length c2) := kept_cell hb bx4
    replace bx5 : w6.cell? ⟨w.heap.size + 1, 0, none⟩ = some (.slice a3 m.vals.length c3) := kept_cell hb bx5
    replace bx6 : w6.cell? ⟨w.heap.size + 1, 1, none⟩ = some (.slice a4 m.arrs.length c4) := kept_cell hb bx6
    replace bx133 : w6.cell? ⟨w3.heap.size, 0, none⟩ = some (.slice none 0 0) := kept_cell hb bx133
    replace bx135 : w6.cell? ⟨w3.heap.size, 1, none⟩ = some (.slice none 0 0) := kept_cell hb bx135
    replace oc1 := oc1.below hb
    replace tot := btr tot hb
    clear hb
    clear hB9
    have hB9 := hBn; clear hBn
    have iv146 := om2.lt
    clear lt142 lt143 lt144
    have lt147 := lt_of_cell bx2
    have lt148 := lt_of_cell bx5
    have lt149 := lt_of_cell bx133
    refine hK.out _ _ ⟨bx2, bx3, bx4, bx5, bx6⟩ (fun hHeld => ?_)
    clear hK K
    try simp only [Act.put, List.setIfInBounds_toArray, List.set]
    refine wpAnyH_ready (rs := [5]) (by kernel_rfl) (by simp) ?_
    refine AllReadyH.cons rfl (fun K hK => ?_) AllReadyH.nil
    go_simp
    refine (toBoolS_any _ ws _ (HRW.out _ tot) (by omega)).mono ?_
    rintro e w7 ⟨uw, rfl, ow3, hb⟩
    obtain ⟨pw3, qw3, rfl⟩ := own_shape ow3
    have hBn := btr hB9 hb
    have hsz150 := hb.size
    replace bf134 := kept_froz hb (lt_of_cell bx133) bf134
    replace bf136 := kept_froz hb (lt_of_cell bx135) bf136
    replace bx2 : w7.cell? ⟨w.heap.size, 0, none⟩ = some (.slice a0 c.vars.length c0) := kept_cell hb bx2
    replace bx3 : w7.cell? ⟨w.heap.size, 1, none⟩ = some (.slice a1 c.arrays.length c1) := kept_cell hb bx3
    replace bx4 : w7.cell? ⟨w.heap.size, 2, none⟩ = some (.slice a2 c.list.length c2) := kept_cell hb bx4
    replace bx5 : w7.cell? ⟨w.heap.size + 1, 0, none⟩ = some (.slice a3 m.vals.length c3) := kept_cell hb bx5
    replace bx6 : w7.cell? ⟨w.heap.size + 1, 1, none⟩ = some (.slice a4 m.arrs.length c4) := kept_cell hb bx6
    replace bx133 : w7.cell? ⟨w3.heap.size, 0, none⟩ = some (.slice none 0 0) := kept_cell hb bx133
    replace bx135 : w7.cell? ⟨w3.heap.size, 1, none⟩ = some (.slice none 0 0) := kept_cell hb bx135
    replace oc1 := oc1.below hb
    replace om2 := om2.below hb
    replace tot := btr tot hb
    clear hb
    clear hB9
    have hB9 := hBn; clear hBn
    have iv151 := ow3.lt
    clear lt147 lt148 lt149
    have lt152 := lt_of_cell bx2
    have lt153 := lt_of_cell bx5
    have lt154 := lt_of_cell bx133
    refine hK.out _ _ ⟨bx2, bx3, bx4, bx5, bx6⟩ (fun hHeld => ?_)
    clear hK K
    try simp only [Act.put, List.setIfInBounds_toArray, List.set]
    refine wpAnyH_ready (rs := [6]) (by kernel_rfl) (by simp) ?_
    refine AllReadyH.cons rfl (fun K hK => ?_) AllReadyH.nil
    go_simp
    refine (HS.out _ _ _ _ _ _ (oc1.reads (by omega) (by omega) (by omega)) (om2.reads hm1 hm2 hm3) hm1 hm2 hm3 _ _ (reads_of_owns ow3 (by omega))).mono ?_
    rintro e w8 ⟨gx155, gy155, gu155, ge155, rfl, om155, oe155, hb⟩
    obtain ⟨P155, Q155, S155, T155, rfl, rfl⟩ := om155.shape
    obtain ⟨U155, V155, rfl⟩ := own_shape oe155
    have hBn := btr hB9 hb
    have hsz156 := hb.size
    replace bf134 := kept_froz hb (lt_of_cell bx133) bf134
    replace bf136 := kept_froz hb (lt_of_cell bx135) bf136
    replace bx2 : w8.cell? ⟨w.heap.size, 0, none⟩ = some (.slice a0 c.vars.length c0) := kept_cell hb bx2
    replace bx3 : w8.cell? ⟨w.heap.size, 1, none⟩ = some (.slice a1 c.arrays.length c1) := kept_cell hb bx3
    replace bx4 : w8.cell? ⟨w.heap.size, 2, none⟩ = some (.slice a2 c.list.length c2) := kept_cell hb bx4
    replace bx5 : w8.cell? ⟨w.heap.size + 1, 0, none⟩ = some (.slice a3 m.vals.length c3) := kept_cell hb bx5
    replace bx6 : w8.cell? ⟨w.heap.size + 1, 1, none⟩ = some (.slice a4 m.arrs.length c4) := kept_cell hb bx6
    replace bx133 : w8.cell? ⟨w3.heap.size, 0, none⟩ = some (.slice none 0 0) := kept_cell hb bx133
    replace bx135 : w8.cell? ⟨w3.heap.size, 1, none⟩ = some (.slice none 0 0) := kept_cell hb bx135
    replace oc1 := oc1.below hb
    replace om2 := om2.below hb
    replace ow3 := own_below ow3 hb
    replace tot := btr tot hb
    clear hb
    clear hB9
    have hB9 := hBn; clear hBn
    have ap155 := Lib.hid (mem_ev_apart om155 oe155)
    have iv157 := om155.lt
    have iv158 := oe155.lt
    clear lt152 lt153 lt154
    have lt159 := lt_of_cell bx2
    have lt160 := lt_of_cell bx5
    have lt161 := lt_of_cell bx133
    refine hK.out _ _ ⟨bx2, bx3, bx4, bx5, bx6⟩ (fun hHeld => ?_)
    clear hK K
    try simp only [Act.put, List.setIfInBounds_toArray, List.set]
    refine take_d (i := 7) (d := 36) (v := ?_) rfl rfl (by kernel_rfl) (by kernel_rfl) (by kernel_rfl) (fun _ _ _ h => h) (Or.inl ⟨by rfl, ?_⟩) (by assumption) ?_
    rotate_left
    · intro W' hSw; (try dsimp only at hSw); obtain ⟨s0, s1, s2, s3, s4⟩ := hSw; go_simp; try with_reducible rfl
    try simp only [Act.put, List.setIfInBounds_toArray, List.set]
    refine take_d (i := 8) (d := 44) (v := ?_) rfl rfl (by kernel_rfl) (by kernel_rfl) (by kernel_rfl) (fun _ _ _ h => h) (Or.inl ⟨by rfl, ?_⟩) (by assumption) ?_
    rotate_left
    · intro W' hSw; (try dsimp only at hSw); obtain ⟨s0, s1, s2, s3, s4⟩ := hSw; go_simp; try with_reducible rfl
    try simp only [Act.put, List.setIfInBounds_toArray, List.set]
    refine take_d (i := 9) (d := 45) (v := ?_) rfl rfl (by kernel_rfl) (by kernel_rfl) (by kernel_rfl) (fun _ _ _ h => h) (Or.inl ⟨by rfl, ?_⟩) (by assumption) ?_
    rotate_left
    · intro W' hSw; (try dsimp only at hSw); obtain ⟨s0, s1, s2, s3, s4⟩ := hSw; go_simp; try with_reducible rfl
    try simp only [Act.put, List.setIfInBounds_toArray, List.set]
    refine take_d (i := 10) (d := 46) (v := ?_) rfl rfl (by kernel_rfl) (by kernel_rfl) (by kernel_rfl) (fun _ _ _ h => h) (Or.inl ⟨by rfl, ?_⟩) (by assumption) ?_
    rotate_left
    · intro W' hSw; (try dsimp only at hSw); obtain ⟨s0, s1, s2, s3, s4⟩ := hSw; go_simp; try with_reducible rfl
    try simp only [Act.put, List.setIfInBounds_toArray, List.set]
    refine wpAnyH_ready (rs := [12]) (by kernel_rfl) (by simp) ?_
    refine AllReadyH.cons rfl (fun K hK => ?_) AllReadyH.nil
    go_simp
    obtain ⟨w9, hnw⟩ : ∃ X, X = (World.setCell (World.setCell w8 ⟨w3.heap.size, 0, none⟩ (.slice P155 RM.vals.length Q155)) ⟨w3.heap.size, 1, none⟩ (.slice S155 RM.arrs.length T155)) := ⟨_, rfl⟩
    have hb : Below (World.setCell (World.setCell w8 ⟨w3.heap.size, 0, none⟩ (.slice P155 RM.vals.length Q155)) ⟨w3.heap.size, 1, none⟩ (.slice S155 RM.arrs.length T155)).heap.size (World.setCell (World.setCell w8 ⟨w3.heap.size, 0, none⟩ (.slice P155 RM.vals.length Q155)) ⟨w3.heap.size, 1, none⟩ (.slice S155 RM.arrs.length T155)) w9 := by rw [hnw]; exact bself _
    have hBn := btr (bst (bst hB9 (w3.heap.size) 0 (by omega) (.slice P155 RM.vals.length Q155)) (w3.heap.size) 1 (by omega) (.slice S155 RM.arrs.length T155)) hb
    have hsz162 := hb.size
    simp only [World.size_setCell] at hsz162
    replace bf134 := kept_froz hb (lt_of_cell (cell_ne (b := (w3.heap.size)) (j := 1) (cell_at _ (w3.heap.size) 0 (.slice P155 RM.vals.length Q155) bx133) (by omega) (.slice S155 RM.arrs.length T155))) (froz_st (b := ⟨(w3.heap.size), 1, none⟩) (froz_st (b := ⟨(w3.heap.size), 0, none⟩) bf134 (.slice P155 RM.vals.length Q155)) (.slice S155 RM.arrs.length T155))
    replace bf136 := kept_froz hb (lt_of_cell (cell_at _ (w3.heap.size) 1 (.slice S155 RM.arrs.length T155) (cell_ne (b := (w3.heap.size)) (j := 0) bx135 (by omega) (.slice P155 RM.vals.length Q155)))) (froz_st (b := ⟨(w3.heap.size), 1, none⟩) (froz_st (b := ⟨(w3.heap.size), 0, none⟩) bf136 (.slice P155 RM.vals.length Q155)) (.slice S155 RM.arrs.length T155))
    replace bx2 : w9.cell? ⟨w.heap.size, 0, none⟩ = some (.slice a0 c.vars.length c0) := kept_cell hb (cell_ne (b := (w3.heap.size)) (j := 1) (cell_ne (b := (w3.heap.size)) (j := 0) bx2 (by omega) (.slice P155 RM.vals.length Q155)) (by omega) (.slice S155 RM.arrs.length T155))
    replace bx3 : w9.cell? ⟨w.heap.size, 1, none⟩ = some (.slice a1 c.arrays.length c1) := kept_cell hb (cell_ne (b := (w3.heap.size)) (j := 1) (cell_ne (b := (w3.heap.size)) (j := 0) bx3 (by omega) (.slice P155 RM.vals.length Q155)) (by omega) (.slice S155 RM.arrs.length T155))
    replace bx4 : w9.cell? ⟨w.heap.size, 2, none⟩ = some (.slice a2 c.list.length c2) := kept_cell hb (cell_ne (b := (w3.heap.size)) (j := 1) (cell_ne (b := (w3.heap.size)) (j := 0) bx4 (by omega) (.slice P155 RM.vals.length Q155)) (by omega) (.slice S155 RM.arrs.length T155))
    replace bx5 : w9.cell? ⟨w.heap.size + 1, 0, none⟩ = some (.slice a3 m.vals.length c3) := kept_cell hb (cell_ne (b := (w3.heap.size)) (j := 1) (cell_ne (b := (w3.heap.size)) (j := 0) bx5 (by omega) (.slice P155 RM.vals.length Q155)) (by omega) (.slice S155 RM.arrs.length T155))
    replace bx6 : w9.cell? ⟨w.heap.size + 1, 1, none⟩ = some (.slice a4 m.arrs.length c4) := kept_cell hb (cell_ne (b := (w3.heap.size)) (j := 1) (cell_ne (b := (w3.heap.size)) (j := 0) bx6 (by omega) (.slice P155 RM.vals.length Q155)) (by omega) (.slice S155 RM.arrs.length T155))
    replace bx133 : w9.cell? ⟨w3.heap.size, 0, none⟩ = some (.slice P155 RM.vals.length Q155) := kept_cell hb (cell_ne (b := (w3.heap.size)) (j := 1) (cell_at _ (w3.heap.size) 0 (.slice P155 RM.vals.length Q155) bx133) (by omega) (.slice S155 RM.arrs.length T155))
    replace bx135 : w9.cell? ⟨w3.heap.size, 1, none⟩ = some (.slice S155 RM.arrs.length T155) := kept_cell hb (cell_at _ (w3.heap.size) 1 (.slice S155 RM.arrs.length T155) (cell_ne (b := (w3.heap.size)) (j := 0) bx135 (by omega) (.slice P155 RM.vals.length Q155)))
    replace oc1 := ((oc1.keep ((Chg.refl (fun gk => gk = (w3.heap.size)) _).setCell (w3.heap.size) 0 (.slice P155 RM.vals.length Q155) (fun _ => rfl)) (fun gq h h2 => by have := iv141 gq h; omega)).keep ((Chg.refl (fun gk => gk = (w3.heap.size)) _).setCell (w3.heap.size) 1 (.slice S155 RM.arrs.length T155) (fun _ => rfl)) (fun gq h h2 => by have := iv141 gq h; omega)).below hb
    replace om2 := ((om2.keep ((Chg.refl (fun gk => gk = (w3.heap.size)) _).setCell (w3.heap.size) 0 (.slice P155 RM.vals.length Q155) (fun _ => rfl)) (fun gq h h2 => by have := iv146 gq h; omega)).keep ((Chg.refl (fun gk => gk = (w3.heap.size)) _).setCell (w3.heap.size) 1 (.slice S155 RM.arrs.length T155) (fun _ => rfl)) (fun gq h h2 => by have := iv146 gq h; omega)).below hb
    replace ow3 := own_below (own_set (own_set ow3 (w3.heap.size) 0 (fun h => by have := iv151 _ h; omega) (.slice P155 RM.vals.length Q155)) (w3.heap.size) 1 (fun h => by have := iv151 _ h; omega) (.slice S155 RM.arrs.length T155)) hb
    replace om155 := ((om155.keep ((Chg.refl (fun gk => gk = (w3.heap.size)) _).setCell (w3.heap.size) 0 (.slice P155 RM.vals.length Q155) (fun _ => rfl)) (fun gq h h2 => by have := iv157 gq h; omega)).keep ((Chg.refl (fun gk => gk = (w3.heap.size)) _).setCell (w3.heap.size) 1 (.slice S155 RM.arrs.length T155) (fun _ => rfl)) (fun gq h h2 => by have := iv157 gq h; omega)).below hb
    replace oe155 := own_below (own_set (own_set oe155 (w3.heap.size) 0 (fun h => by have := iv158 _ h; omega) (.slice P155 RM.vals.length Q155)) (w3.heap.size) 1 (fun h => by have := iv158 _ h; omega) (.slice S155 RM.arrs.length T155)) hb
    replace tot := btr (bst (bst tot (w3.heap.size) 0 (by omega) (.slice P155 RM.vals.length Q155)) (w3.heap.size) 1 (by omega) (.slice S155 RM.arrs.length T155)) hb
    clear hb
    clear hB9
    have hB9 := hBn; clear hBn
    rw [← hnw]
    clear hnw
    clear lt159 lt160 lt161
    have lt163 := lt_of_cell bx2
    have lt164 := lt_of_cell bx5
    have lt165 := lt_of_cell bx133
    refine hK.out _ _ ⟨bx2, bx3, bx4, bx5, bx6⟩ (fun hHeld => ?_)
    clear hK K
    try simp only [Act.put, List.setIfInBounds_toArray, List.set]
    refine take_d (i := 13) (d := 9) (v := ?_) rfl rfl (by kernel_rfl) (by kernel_rfl) (by kernel_rfl) (fun _ _ _ h => h) (Or.inl ⟨by rfl, ?_⟩) (by assumption) ?_
    rotate_left
    · intro W' hSw; (try dsimp only at hSw); obtain ⟨s0, s1, s2, s3, s4⟩ := hSw; go_simp; try with_reducible rfl
    try simp only [Act.put, List.setIfInBounds_toArray, List.set]
    refine take_d (i := 14) (d := 10) (v := ?_) rfl rfl (by kernel_rfl) (by kernel_rfl) (by kernel_rfl) (fun _ _ _ h => h) (Or.inl ⟨by rfl, ?_⟩) (by assumption) ?_
    rotate_left
    · intro W' hSw; (try dsimp only at hSw); obtain ⟨s0, s1, s2, s3, s4⟩ := hSw; go_simp; try with_reducible rfl
    try simp only [Act.put, List.setIfInBounds_toArray, List.set]
    refine wpAnyH_done (by kernel_rfl) ?_ _
    refine NoPanic.normal ?_
    clear hHeld
    go_wp2_with fail
    go_meet
    have lz166 := lt_of_cell bx133
    exact ⟨w3.heap.size, P155, S155, U155, Q155, T155, V155, gu155, rfl, rfl, rfl, by omega, bx133, bx135, om155.mono (by omega), own_mono oe155 (by omega), fun q h => by have := iv157 q h; omega, fun q h => by have := iv158 q h; omega, hB9⟩
  obtain ⟨w4, rfl⟩ : ∃ W, W = wc := ⟨_, rfl⟩
  obtain ⟨bbz18, Pz18, Sz18, Uz18, Qz18, Tz18, Vz18, guz18, rfl, rfl, rfl, hb0z18, e0z18, e1z18, omz18, oez18, nmz18, nez18, hb⟩ := hcut
  have apz18 := Lib.hid (mem_ev_apart omz18 oez18)
  have hsz167 := hb.size
  replace bx2 : w4.cell? ⟨w.heap.size, 0, none⟩ = some (.slice a0 c.vars.length c0) := kept_cell hb bx2
  replace bx3 : w4.cell? ⟨w.heap.size, 1, none⟩ = some (.slice a1 c.arrays.length c1) := kept_cell hb bx3
  replace bx4 : w4.cell? ⟨w.heap.size, 2, none⟩ = some (.slice a2 c.list.length c2) := kept_cell hb bx4
  replace bx5 : w4.cell? ⟨w.heap.size + 1, 0, none⟩ = some (.slice a3 m.vals.length c3) := kept_cell hb bx5
  replace bx6 : w4.cell? ⟨w.heap.size + 1, 1, none⟩ = some (.slice a4 m.arrs.length c4) := kept_cell hb bx6
  replace tot := btr tot hb
  clear hb
  have ltez18 := lt_of_cell e0z18
  have imz18 : ∀ q, OwnBM (.slice Pz18 RM.vals.length Qz18) (.slice Sz18 RM.arrs.length Tz18) guz18 q → w2.heap.size ≤ q ∧ q < w4.heap.size ∧ ¬ q = bbz18 := fun q h => by have h1 := omz18.lt q h; have h2 := nmz18 q h; exact ⟨h1.1, h1.2, h2⟩
  have iez18 : ∀ q, (Value.slice Uz18 L.length Vz18).ownBlock = some q → w2.heap.size ≤ q ∧ q < w4.heap.size ∧ ¬ q = bbz18 := fun q h => by have h1 := oez18.lt q h; have h2 := nez18 q h; exact ⟨h1.1, h1.2, h2⟩
  clear nmz18 nez18
  clear lt16 lt17
  have lt168 := lt_of_cell bx2
  have lt169 := lt_of_cell bx5
  have lt170 := lt_of_cell e0z18
  go_wp2_with fail
  refine (toCode_any _ _ _ c _ (HR0.out _ tot) (by omega) (by omega) (by omega)).mono ?_
  rintro e w5 ⟨ua, ub, uc, rfl, oc1, hb⟩
  obtain ⟨pa1, qa1, pb1, qb1, pc1, qc1, rfl, rfl, rfl⟩ := oc1.shape
  have hsz171 := hb.size
  replace bx2 : w5.cell? ⟨w.heap.size, 0, none⟩ = some (.slice a0 c.vars.length c0) := kept_cell hb bx2
  replace bx3 : w5.cell? ⟨w.heap.size, 1, none⟩ = some (.slice a1 c.arrays.length c1) := kept_cell hb bx3
  replace bx4 : w5.cell? ⟨w.heap.size, 2, none⟩ = some (.slice a2 c.list.length c2) := kept_cell hb bx4
  replace bx5 : w5.cell? ⟨w.heap.size + 1, 0, none⟩ = some (.slice a3 m.vals.length c3) := kept_cell hb bx5
  replace bx6 : w5.cell? ⟨w.heap.size + 1, 1, none⟩ = some (.slice a4 m.arrs.length c4) := kept_cell hb bx6
  replace omz18 := omz18.below hb
  replace oez18 := own_below oez18 hb
  replace e0z18 : w5.cell? ⟨bbz18, 0, none⟩ = some (.slice Pz18 RM.vals.length Qz18) := kept_cell hb e0z18
  replace e1z18 : w5.cell? ⟨bbz18, 1, none⟩ = some (.slice Sz18 RM.arrs.length Tz18) := kept_cell hb e1z18
  replace tot := btr tot hb
  clear hb
  have iv172 := oc1.lt
  clear lt168 lt169 lt170
  have lt173 := lt_of_cell bx2
  have lt174 := lt_of_cell bx5
  have lt175 := lt_of_cell e0z18
  go_wp2_with fail
  refine (toMemory_any _ _ m _ (HRM.out _ (bal tot (.cells #[.slice pa1 c.vars.length qa1, .slice pb1 c.arrays.length qb1, .slice pc1 c.list.length qc1] 35))) (by omega) (by omega) (by omega)).mono ?_
  rintro e w6 ⟨ux, uy, us2, rfl, om2, hb⟩
  obtain ⟨px2, qx2, py2, qy2, rfl, rfl⟩ := om2.shape
  have hsz176 := hb.size
  simp only [World.size_alloc] at hsz176
  replace bx2 : w6.cell? ⟨w.heap.size, 0, none⟩ = some (.slice a0 c.vars.length c0) := kept_cell hb (cell_al bx2 (.cells #[.slice pa1 c.vars.length qa1, .slice pb1 c.arrays.length qb1, .slice pc1 c.list.length qc1] 35))
  replace bx3 : w6.cell? ⟨w.heap.size, 1, none⟩ = some (.slice a1 c.arrays.length c1) := kept_cell hb (cell_al bx3 (.cells #[.slice pa1 c.vars.length qa1, .slice pb1 c.arrays.length qb1, .slice pc1 c.list.length qc1] 35))
  replace bx4 : w6.cell? ⟨w.heap.size, 2, none⟩ = some (.slice a2 c.list.length c2) := kept_cell hb (cell_al bx4 (.cells #[.slice pa1 c.vars.length qa1, .slice pb1 c.arrays.length qb1, .slice pc1 c.list.length qc1] 35))
  replace bx5 : w6.cell? ⟨w.heap.size + 1, 0, none⟩ = some (.slice a3 m.vals.length c3) := kept_cell hb (cell_al bx5 (.cells #[.slice pa1 c.vars.length qa1, .slice pb1 c.arrays.length qb1, .slice pc1 c.list.length qc1] 35))
  replace bx6 : w6.cell? ⟨w.heap.size + 1, 1, none⟩ = some (.slice a4 m.arrs.length c4) := kept_cell hb (cell_al bx6 (.cells #[.slice pa1 c.vars.length qa1, .slice pb1 c.arrays.length qb1, .slice pc1 c.list.length qc1] 35))
  replace omz18 := (omz18.below (bal (bself _) (.cells #[.slice pa1 c.vars.length qa1, .slice pb1 c.arrays.length qb1, .slice pc1 c.list.length qc1] 35))).below hb
  replace oez18 := own_below (own_below oez18 (bal (bself _) (.cells #[.slice pa1 c.vars.length qa1, .slice pb1 c.arrays.length qb1, .slice pc1 c.list.length qc1] 35))) hb
  replace e0z18 : w6.cell? ⟨bbz18, 0, none⟩ = some (.slice Pz18 RM.vals.length Qz18) := kept_cell hb (cell_al e0z18 (.cells #[.slice pa1 c.vars.length qa1, .slice pb1 c.arrays.length qb1, .slice pc1 c.list.length qc1] 35))
  replace e1z18 : w6.cell? ⟨bbz18, 1, none⟩ = some (.slice Sz18 RM.arrs.length Tz18) := kept_cell hb (cell_al e1z18 (.cells #[.slice pa1 c.vars.length qa1, .slice pb1 c.arrays.length qb1, .slice pc1 c.list.length qc1] 35))
  replace oc1 := (oc1.below (bal (bself _) (.cells #[.slice pa1 c.vars.length qa1, .slice pb1 c.arrays.length qb1, .slice pc1 c.list.length qc1] 35))).below hb
  have bx177 : w6.cell? ⟨w5.heap.size, 0, none⟩ = some (.slice pa1 c.vars.length qa1) := kept_cell hb (cell_nw (by simp) (by rfl))
  have bf178 : w6.frozen? ⟨w5.heap.size, 0, none⟩ = false := kept_froz hb (by simp <;> omega) (froz_nw (by simp))
  have bx179 : w6.cell? ⟨w5.heap.size, 1, none⟩ = some (.slice pb1 c.arrays.length qb1) := kept_cell hb (cell_nw (by simp) (by rfl))
  have bf180 : w6.frozen? ⟨w5.heap.size, 1, none⟩ = false := kept_froz hb (by simp <;> omega) (froz_nw (by simp))
  have bx181 : w6.cell? ⟨w5.heap.size, 2, none⟩ = some (.slice pc1 c.list.length qc1) := kept_cell hb (cell_nw (by simp) (by rfl))
  have bf182 : w6.frozen? ⟨w5.heap.size, 2, none⟩ = false := kept_froz hb (by simp <;> omega) (froz_nw (by simp))
  replace tot := btr (bal tot (.cells #[.slice pa1 c.vars.length qa1, .slice pb1 c.arrays.length qb1, .slice pc1 c.list.length qc1] 35)) hb
  clear hb
  have iv183 := om2.lt
  try simp only [World.size_alloc] at iv183
  clear lt173 lt174 lt175
  have lt184 := lt_of_cell bx2
  have lt185 := lt_of_cell bx5
  have lt186 := lt_of_cell e0z18
  have lt187 := lt_of_cell bx177
  go_wp2_with fail
  refine (toBoolS_any _ ws _ (HRW.out _ (bal tot (.cells #[.slice px2 m.vals.length qx2, .slice py2 m.arrs.length qy2] 37))) (by omega)).mono ?_
  rintro e w7 ⟨uw, rfl, ow3, hb⟩
  obtain ⟨pw3, qw3, rfl⟩ := own_shape ow3
  have hsz188 := hb.size
  simp only [World.size_alloc] at hsz188
  replace bf178 := kept_froz hb (lt_of_cell (cell_al bx177 (.cells #[.slice px2 m.vals.length qx2, .slice py2 m.arrs.length qy2] 37))) (froz_al (lt_of_cell bx177) bf178 (.cells #[.slice px2 m.vals.length qx2, .slice py2 m.arrs.length qy2] 37))
  replace bf180 := kept_froz hb (lt_of_cell (cell_al bx179 (.cells #[.slice px2 m.vals.length qx2, .slice py2 m.arrs.length qy2] 37))) (froz_al (lt_of_cell bx179) bf180 (.cells #[.slice px2 m.vals.length qx2, .slice py2 m.arrs.length qy2] 37))
  replace bf182 := kept_froz hb (lt_of_cell (cell_al bx181 (.cells #[.slice px2 m.vals.length qx2, .slice py2 m.arrs.length qy2] 37))) (froz_al (lt_of_cell bx181) bf182 (.cells #[.slice px2 m.vals.length qx2, .slice py2 m.arrs.length qy2] 37))
  replace bx2 : w7.cell? ⟨w.heap.size, 0, none⟩ = some (.slice a0 c.vars.length c0) := kept_cell hb (cell_al bx2 (.cells #[.slice px2 m.vals.length qx2, .slice py2 m.arrs.length qy2] 37))
  replace bx3 : w7.cell? ⟨w.heap.size, 1, none⟩ = some (.slice a1 c.arrays.length c1) := kept_cell hb (cell_al bx3 (.cells #[.slice px2 m.vals.length qx2, .slice py2 m.arrs.length qy2] 37))
  replace bx4 : w7.cell? ⟨w.heap.size, 2, none⟩ = some (.slice a2 c.list.length c2) := kept_cell hb (cell_al bx4 (.cells #[.slice px2 m.vals.length qx2, .slice py2 m.arrs.length qy2] 37))
  replace bx5 : w7.cell? ⟨w.heap.size + 1, 0, none⟩ = some (.slice a3 m.vals.length c3) := kept_cell hb (cell_al bx5 (.cells #[.slice px2 m.vals.length qx2, .slice py2 m.arrs.length qy2] 37))
  replace bx6 : w7.cell? ⟨w.heap.size + 1, 1, none⟩ = some (.slice a4 m.arrs.length c4) := kept_cell hb (cell_al bx6 (.cells #[.slice px2 m.vals.length qx2, .slice py2 m.arrs.length qy2] 37))
  replace omz18 := (omz18.below (bal (bself _) (.cells #[.slice px2 m.vals.length qx2, .slice py2 m.arrs.length qy2] 37))).below hb
  replace oez18 := own_below (own_below oez18 (bal (bself _) (.cells #[.slice px2 m.vals.length qx2, .slice py2 m.arrs.length qy2] 37))) hb
  replace e0z18 : w7.cell? ⟨bbz18, 0, none⟩ = some (.slice Pz18 RM.vals.length Qz18) := kept_cell hb (cell_al e0z18 (.cells #[.slice px2 m.vals.length qx2, .slice py2 m.arrs.length qy2] 37))
  replace e1z18 : w7.cell? ⟨bbz18, 1, none⟩ = some (.slice Sz18 RM.arrs.length Tz18) := kept_cell hb (cell_al e1z18 (.cells #[.slice px2 m.vals.length qx2, .slice py2 m.arrs.length qy2] 37))
  replace oc1 := (oc1.below (bal (bself _) (.cells #[.slice px2 m.vals.length qx2, .slice py2 m.arrs.length qy2] 37))).below hb
  replace bx177 : w7.cell? ⟨w5.heap.size, 0, none⟩ = some (.slice pa1 c.vars.length qa1) := kept_cell hb (cell_al bx177 (.cells #[.slice px2 m.vals.length qx2, .slice py2 m.arrs.length qy2] 37))
  replace bx179 : w7.cell? ⟨w5.heap.size, 1, none⟩ = some (.slice pb1 c.arrays.length qb1) := kept_cell hb (cell_al bx179 (.cells #[.slice px2 m.vals.length qx2, .slice py2 m.arrs.length qy2] 37))
  replace bx181 : w7.cell? ⟨w5.heap.size, 2, none⟩ = some (.slice pc1 c.list.length qc1) := kept_cell hb (cell_al bx181 (.cells #[.slice px2 m.vals.length qx2, .slice py2 m.arrs.length qy2] 37))
  replace om2 := (om2.below (bal (bself _) (.cells #[.slice px2 m.vals.length qx2, .slice py2 m.arrs.length qy2] 37))).below hb
  have bx189 : w7.cell? ⟨w6.heap.size, 0, none⟩ = some (.slice px2 m.vals.length qx2) := kept_cell hb (cell_nw (by simp) (by rfl))
  have bf190 : w7.frozen? ⟨w6.heap.size, 0, none⟩ = false := kept_froz hb (by simp <;> omega) (froz_nw (by simp))
  have bx191 : w7.cell? ⟨w6.heap.size, 1, none⟩ = some (.slice py2 m.arrs.length qy2) := kept_cell hb (cell_nw (by simp) (by rfl))
  have bf192 : w7.frozen? ⟨w6.heap.size, 1, none⟩ = false := kept_froz hb (by simp <;> omega) (froz_nw (by simp))
  replace tot := btr (bal tot (.cells #[.slice px2 m.vals.length qx2, .slice py2 m.arrs.length qy2] 37)) hb
  clear hb
  have iv193 := ow3.lt
  try simp only [World.size_alloc] at iv193
  clear lt184 lt185 lt186 lt187
  have lt194 := lt_of_cell bx2
  have lt195 := lt_of_cell bx5
  have lt196 := lt_of_cell e0z18
  have lt197 := lt_of_cell bx177
  have lt198 := lt_of_cell bx189
  go_wp2_with fail
  refine (HI.out _ _ _ _ _ _ (oc1.reads (by omega) (by omega) (by omega)) (om2.reads hm1 hm2 hm3) hm1 hm2 hm3 _ _ (reads_of_owns ow3 (by omega))).mono ?_
  rintro e w8 ⟨gx199, gy199, gu199, ge199, rfl, om199, oe199, hb⟩
  obtain ⟨P199, Q199, S199, T199, rfl, rfl⟩ := om199.shape
  obtain ⟨U199, V199, rfl⟩ := own_shape oe199
  have hsz200 := hb.size
  replace bf178 := kept_froz hb (lt_of_cell bx177) bf178
  replace bf180 := kept_froz hb (lt_of_cell bx179) bf180
  replace bf182 := kept_froz hb (lt_of_cell bx181) bf182
  replace bf190 := kept_froz hb (lt_of_cell bx189) bf190
  replace bf192 := kept_froz hb (lt_of_cell bx191) bf192
  replace bx2 : w8.cell? ⟨w.heap.size, 0, none⟩ = some (.slice a0 c.vars.length c0) := kept_cell hb bx2
  replace bx3 : w8.cell? ⟨w.heap.size, 1, none⟩ = some (.slice a1 c.arrays.length c1) := kept_cell hb bx3
  replace bx4 : w8.cell? ⟨w.heap.size, 2, none⟩ = some (.slice a2 c.list.length c2) := kept_cell hb bx4
  replace bx5 : w8.cell? ⟨w.heap.size + 1, 0, none⟩ = some (.slice a3 m.vals.length c3) := kept_cell hb bx5
  replace bx6 : w8.cell? ⟨w.heap.size + 1, 1, none⟩ = some (.slice a4 m.arrs.length c4) := kept_cell hb bx6
  replace omz18 := omz18.below hb
  replace oez18 := own_below oez18 hb
  replace e0z18 : w8.cell? ⟨bbz18, 0, none⟩ = some (.slice Pz18 RM.vals.length Qz18) := kept_cell hb e0z18
  replace e1z18 : w8.cell? ⟨bbz18, 1, none⟩ = some (.slice Sz18 RM.arrs.length Tz18) := kept_cell hb e1z18
  replace oc1 := oc1.below hb
  replace bx177 : w8.cell? ⟨w5.heap.size, 0, none⟩ = some (.slice pa1 c.vars.length qa1) := kept_cell hb bx177
  replace bx179 : w8.cell? ⟨w5.heap.size, 1, none⟩ = some (.slice pb1 c.arrays.length qb1) := kept_cell hb bx179
  replace bx181 : w8.cell? ⟨w5.heap.size, 2, none⟩ = some (.slice pc1 c.list.length qc1) := kept_cell hb bx181
  replace om2 := om2.below hb
  replace bx189 : w8.cell? ⟨w6.heap.size, 0, none⟩ = some (.slice px2 m.vals.length qx2) := kept_cell hb bx189
  replace bx191 : w8.cell? ⟨w6.heap.size, 1, none⟩ = some (.slice py2 m.arrs.length qy2) := kept_cell hb bx191
  replace ow3 := own_below ow3 hb
  replace tot := btr tot hb
  clear hb
  have ap199 := Lib.hid (mem_ev_apart om199 oe199)
  have iv201 := om199.lt
  have iv202 := oe199.lt
  clear lt194 lt195 lt196 lt197 lt198
  have lt203 := lt_of_cell bx2
  have lt204 := lt_of_cell bx5
  have lt205 := lt_of_cell e0z18
  have lt206 := lt_of_cell bx177
  have lt207 := lt_of_cell bx189
  go_wp2_with fail
  refine (eqMemory_any _ _ _ _ RM _ ((om199.below (bal (bself _) (.cells #[.slice P199 RM.vals.length Q199, .slice S199 RM.arrs.length T199] 37))).reads hM1 hM2 hM3) ((omz18.below (bal (bself _) (.cells #[.slice P199 RM.vals.length Q199, .slice S199 RM.arrs.length T199] 37))).reads hM1 hM2 hM3)).mono ?_
  rintro e w9 ⟨rfl, hb⟩
  have hsz208 := hb.size
  simp only [World.size_alloc] at hsz208
  replace bf178 := kept_froz hb (lt_of_cell (cell_al bx177 (.cells #[.slice P199 RM.vals.length Q199, .slice S199 RM.arrs.length T199] 37))) (froz_al (lt_of_cell bx177) bf178 (.cells #[.slice P199 RM.vals.length Q199, .slice S199 RM.arrs.length T199] 37))
  replace bf180 := kept_froz hb (lt_of_cell (cell_al bx179 (.cells #[.slice P199 RM.vals.length Q199, .slice S199 RM.arrs.length T199] 37))) (froz_al (lt_of_cell bx179) bf180 (.cells #[.slice P199 RM.vals.length Q199, .slice S199 RM.arrs.length T199] 37))
  replace bf182 := kept_froz hb (lt_of_cell (cell_al bx181 (.cells #[.slice P199 RM.vals.length Q199, .slice S199 RM.arrs.length T199] 37))) (froz_al (lt_of_cell bx181) bf182 (.cells #[.slice P199 RM.vals.length Q199, .slice S199 RM.arrs.length T199] 37))
  replace bf190 := kept_froz hb (lt_of_cell (cell_al bx189 (.cells #[.slice P199 RM.vals.length Q199, .slice S199 RM.arrs.length T199] 37))) (froz_al (lt_of_cell bx189) bf190 (.cells #[.slice P199 RM.vals.length Q199, .slice S199 RM.arrs.length T199] 37))
  replace bf192 := kept_froz hb (lt_of_cell (cell_al bx191 (.cells #[.slice P199 RM.vals.length Q199, .slice S199 RM.arrs.length T199] 37))) (froz_al (lt_of_cell bx191) bf192 (.cells #[.slice P199 RM.vals.length Q199, .slice S199 RM.arrs.length T199] 37))
  replace bx2 : w9.cell? ⟨w.heap.size, 0, none⟩ = some (.slice a0 c.vars.length c0) := kept_cell hb (cell_al bx2 (.cells #[.slice P199 RM.vals.length Q199, .slice S199 RM.arrs.length T199] 37))
  replace bx3 : w9.cell? ⟨w.heap.size, 1, none⟩ = some (.slice a1 c.arrays.length c1) := kept_cell hb (cell_al bx3 (.cells #[.slice P199 RM.vals.length Q199, .slice S199 RM.arrs.length T199] 37))
  replace bx4 : w9.cell? ⟨w.heap.size, 2, none⟩ = some (.slice a2 c.list.length c2) := kept_cell hb (cell_al bx4 (.cells #[.slice P199 RM.vals.length Q199, .slice S199 RM.arrs.length T199] 37))
  replace bx5 : w9.cell? ⟨w.heap.size + 1, 0, none⟩ = some (.slice a3 m.vals.length c3) := kept_cell hb (cell_al bx5 (.cells #[.slice P199 RM.vals.length Q199, .slice S199 RM.arrs.length T199] 37))
  replace bx6 : w9.cell? ⟨w.heap.size + 1, 1, none⟩ = some (.slice a4 m.arrs.length c4) := kept_cell hb (cell_al bx6 (.cells #[.slice P199 RM.vals.length Q199, .slice S199 RM.arrs.length T199] 37))
  replace omz18 := (omz18.below (bal (bself _) (.cells #[.slice P199 RM.vals.length Q199, .slice S199 RM.arrs.length T199] 37))).below hb
  replace oez18 := own_below (own_below oez18 (bal (bself _) (.cells #[.slice P199 RM.vals.length Q199, .slice S199 RM.arrs.length T199] 37))) hb
  replace e0z18 : w9.cell? ⟨bbz18, 0, none⟩ = some (.slice Pz18 RM.vals.length Qz18) := kept_cell hb (cell_al e0z18 (.cells #[.slice P199 RM.vals.length Q199, .slice S199 RM.arrs.length T199] 37))
  replace e1z18 : w9.cell? ⟨bbz18, 1, none⟩ = some (.slice Sz18 RM.arrs.length Tz18) := kept_cell hb (cell_al e1z18 (.cells #[.slice P199 RM.vals.length Q199, .slice S199 RM.arrs.length T199] 37))
  replace oc1 := (oc1.below (bal (bself _) (.cells #[.slice P199 RM.vals.length Q199, .slice S199 RM.arrs.length T199] 37))).below hb
  replace bx177 : w9.cell? ⟨w5.heap.size, 0, none⟩ = some (.slice pa1 c.vars.length qa1) := kept_cell hb (cell_al bx177 (.cells #[.slice P199 RM.vals.length Q199, .slice S199 RM.arrs.length T199] 37))
  replace bx179 : w9.cell? ⟨w5.heap.size, 1, none⟩ = some (.slice pb1 c.arrays.length qb1) := kept_cell hb (cell_al bx179 (.cells #[.slice P199 RM.vals.length Q199, .slice S199 RM.arrs.length T199] 37))
  replace bx181 : w9.cell? ⟨w5.heap.size, 2, none⟩ = some (.slice pc1 c.list.length qc1) := kept_cell hb (cell_al bx181 (.cells #[.slice P199 RM.vals.length Q199, .slice S199 RM.arrs.length T199] 37))
  replace om2 := (om2.below (bal (bself _) (.cells #[.slice P199 RM.vals.length Q199, .slice S199 RM.arrs.length T199] 37))).below hb
  replace bx189 : w9.cell? ⟨w6.heap.size, 0, none⟩ = some (.slice px2 m.vals.length qx2) := kept_cell hb (cell_al bx189 (.cells #[.slice P199 RM.vals.length Q199, .slice S199 RM.arrs.length T199] 37))
  replace bx191 : w9.cell? ⟨w6.heap.size, 1, none⟩ = some (.slice py2 m.arrs.length qy2) := kept_cell hb (cell_al bx191 (.cells #[.slice P199 RM.vals.length Q199, .slice S199 RM.arrs.length T199] 37))
  replace ow3 := own_below (own_below ow3 (bal (bself _) (.cells #[.slice P199 RM.vals.length Q199, .slice S199 RM.arrs.length T199] 37))) hb
  replace om199 := (om199.below (bal (bself _) (.cells #[.slice P199 RM.vals.length Q199, .slice S199 RM.arrs.length T199] 37))).below hb
  replace oe199 := own_below (own_below oe199 (bal (bself _) (.cells #[.slice P199 RM.vals.length Q199, .slice S199 RM.arrs.length T199] 37))) hb
  have bx209 : w9.cell? ⟨w8.heap.size, 0, none⟩ = some (.slice P199 RM.vals.length Q199) := kept_cell hb (cell_nw (by simp) (by rfl))
  have bf210 : w9.frozen? ⟨w8.heap.size, 0, none⟩ = false := kept_froz hb (by simp <;> omega) (froz_nw (by simp))
  have bx211 : w9.cell? ⟨w8.heap.size, 1, none⟩ = some (.slice S199 RM.arrs.length T199) := kept_cell hb (cell_nw (by simp) (by rfl))
  have bf212 : w9.frozen? ⟨w8.heap.size, 1, none⟩ = false := kept_froz hb (by simp <;> omega) (froz_nw (by simp))
  replace tot := btr (bal tot (.cells #[.slice P199 RM.vals.length Q199, .slice S199 RM.arrs.length T199] 37)) hb
  clear hb
  clear lt203 lt204 lt205 lt206 lt207
  have lt213 := lt_of_cell bx2
  have lt214 := lt_of_cell bx5
  have lt215 := lt_of_cell e0z18
  have lt216 := lt_of_cell bx177
  have lt217 := lt_of_cell bx189
  have lt218 := lt_of_cell bx209
  go_wp2_with fail
  refine (eqEventS_any _ _ L L _ (reads_of_owns oe199 (by omega)) (reads_of_owns oez18 (by omega))).mono ?_
  rintro e w10 ⟨rfl, hb⟩
  rw [decide_eq_true (Eq.refl L)]
  have hsz219 := hb.size
  replace bf178 := kept_froz hb (lt_of_cell bx177) bf178
  replace bf180 := kept_froz hb (lt_of_cell bx179) bf180
  replace bf182 := kept_froz hb (lt_of_cell bx181) bf182
  replace bf190 := kept_froz hb (lt_of_cell bx189) bf190
  replace bf192 := kept_froz hb (lt_of_cell bx191) bf192
  replace bf210 := kept_froz hb (lt_of_cell bx209) bf210
  replace bf212 := kept_froz hb (lt_of_cell bx211) bf212
  replace bx2 : w10.cell? ⟨w.heap.size, 0, none⟩ = some (.slice a0 c.vars.length c0) := kept_cell hb bx2
  replace bx3 : w10.cell? ⟨w.heap.size, 1, none⟩ = some (.slice a1 c.arrays.length c1) := kept_cell hb bx3
  replace bx4 : w10.cell? ⟨w.heap.size, 2, none⟩ = some (.slice a2 c.list.length c2) := kept_cell hb bx4
  replace bx5 : w10.cell? ⟨w.heap.size + 1, 0, none⟩ = some (.slice a3 m.vals.length c3) := kept_cell hb bx5
  replace bx6 : w10.cell? ⟨w.heap.size + 1, 1, none⟩ = some (.slice a4 m.arrs.length c4) := kept_cell hb bx6
  replace omz18 := omz18.below hb
  replace oez18 := own_below oez18 hb
  replace e0z18 : w10.cell? ⟨bbz18, 0, none⟩ = some (.slice Pz18 RM.vals.length Qz18) := kept_cell hb e0z18
  replace e1z18 : w10.cell? ⟨bbz18, 1, none⟩ = some (.slice Sz18 RM.arrs.length Tz18) := kept_cell hb e1z18
  replace oc1 := oc1.below hb
  replace bx177 : w10.cell? ⟨w5.heap.size, 0, none⟩ = some (.slice pa1 c.vars.length qa1) := kept_cell hb bx177
  replace bx179 : w10.cell? ⟨w5.heap.size, 1, none⟩ = some (.slice pb1 c.arrays.length qb1) := kept_cell hb bx179
  replace bx181 : w10.cell? ⟨w5.heap.size, 2, none⟩ = some (.slice pc1 c.list.length qc1) := kept_cell hb bx181
  replace om2 := om2.below hb
  replace bx189 : w10.cell? ⟨w6.heap.size, 0, none⟩ = some (.slice px2 m.vals.length qx2) := kept_cell hb bx189
  replace bx191 : w10.cell? ⟨w6.heap.size, 1, none⟩ = some (.slice py2 m.arrs.length qy2) := kept_cell hb bx191
  replace ow3 := own_below ow3 hb
  replace om199 := om199.below hb
  replace oe199 := own_below oe199 hb
  replace bx209 : w10.cell? ⟨w8.heap.size, 0, none⟩ = some (.slice P199 RM.vals.length Q199) := kept_cell hb bx209
  replace bx211 : w10.cell? ⟨w8.heap.size, 1, none⟩ = some (.slice S199 RM.arrs.length T199) := kept_cell hb bx211
  replace tot := btr tot hb
  clear hb
  clear lt213 lt214 lt215 lt216 lt217 lt218
  have lt220 := lt_of_cell bx2
  have lt221 := lt_of_cell bx5
  have lt222 := lt_of_cell e0z18
  have lt223 := lt_of_cell bx177
  have lt224 := lt_of_cell bx189
  have lt225 := lt_of_cell bx209
  go_upto_region 17 with (fail)
  clear lt220 lt221 lt222 lt223 lt224 lt225
  have lt226 := lt_of_cell bx2
  have lt227 := lt_of_cell bx5
  have lt228 := lt_of_cell e0z18
  have lt229 := lt_of_cell bx177
  have lt230 := lt_of_cell bx189
  have lt231 := lt_of_cell bx209
  refine wp_region_noPanic ?_
  refine wp_region_held_drew (S := (fun W' => W'.cell? ⟨w5.heap.size, 0, none⟩ = some (.slice pa1 c.vars.length qa1) ∧ W'.cell? ⟨w5.heap.size, 1, none⟩ = some (.slice pb1 c.arrays.length qb1) ∧ W'.cell? ⟨w5.heap.size, 2, none⟩ = some (.slice pc1 c.list.length qc1) ∧ W'.cell? ⟨w.heap.size, 0, none⟩ = some (.slice a0 c.vars.length c0) ∧ W'.cell? ⟨w.heap.size, 1, none⟩ = some (.slice a1 c.arrays.length c1) ∧ W'.cell? ⟨w.heap.size, 2, none⟩ = some (.slice a2 c.list.length c2))) (by kernel_rfl) ⟨kept_cell (Below.drew (bself w10)) bx177, kept_cell (Below.drew (bself w10)) bx179, kept_cell (Below.drew (bself w10)) bx181, kept_cell (Below.drew (bself w10)) bx2, kept_cell (Below.drew (bself w10)) bx3, kept_cell (Below.drew (bself w10)) bx4⟩ (fun hHeld => ?_)
  obtain ⟨w11, hwd⟩ : ∃ X, X = World.drew w10 := ⟨_, rfl⟩
  rw [← hwd] at hHeld ⊢
  have hb : Below w10.heap.size w10 w11 := by rw [hwd]; exact Below.drew (bself _)
  clear hwd
  have hsz232 := hb.size
  replace bf178 := kept_froz hb (lt_of_cell bx177) bf178
  replace bf180 := kept_froz hb (lt_of_cell bx179) bf180
  replace bf182 := kept_froz hb (lt_of_cell bx181) bf182
  replace bf190 := kept_froz hb (lt_of_cell bx189) bf190
  replace bf192 := kept_froz hb (lt_of_cell bx191) bf192
  replace bf210 := kept_froz hb (lt_of_cell bx209) bf210
  replace bf212 := kept_froz hb (lt_of_cell bx211) bf212
  replace bx2 : w11.cell? ⟨w.heap.size, 0, none⟩ = some (.slice a0 c.vars.length c0) := kept_cell hb bx2
  replace bx3 : w11.cell? ⟨w.heap.size, 1, none⟩ = some (.slice a1 c.arrays.length c1) := kept_cell hb bx3
  replace bx4 : w11.cell? ⟨w.heap.size, 2, none⟩ = some (.slice a2 c.list.length c2) := kept_cell hb bx4
  replace bx5 : w11.cell? ⟨w.heap.size + 1, 0, none⟩ = some (.slice a3 m.vals.length c3) := kept_cell hb bx5
  replace bx6 : w11.cell? ⟨w.heap.size + 1, 1, none⟩ = some (.slice a4 m.arrs.length c4) := kept_cell hb bx6
  replace omz18 := omz18.below hb
  replace oez18 := own_below oez18 hb
  replace e0z18 : w11.cell? ⟨bbz18, 0, none⟩ = some (.slice Pz18 RM.vals.length Qz18) := kept_cell hb e0z18
  replace e1z18 : w11.cell? ⟨bbz18, 1, none⟩ = some (.slice Sz18 RM.arrs.length Tz18) := kept_cell hb e1z18
  replace oc1 := oc1.below hb
  replace bx177 : w11.cell? ⟨w5.heap.size, 0, none⟩ = some (.slice pa1 c.vars.length qa1) := kept_cell hb bx177
  replace bx179 : w11.cell? ⟨w5.heap.size, 1, none⟩ = some (.slice pb1 c.arrays.length qb1) := kept_cell hb bx179
  replace bx181 : w11.cell? ⟨w5.heap.size, 2, none⟩ = some (.slice pc1 c.list.length qc1) := kept_cell hb bx181
  replace om2 := om2.below hb
  replace bx189 : w11.cell? ⟨w6.heap.size, 0, none⟩ = some (.slice px2 m.vals.length qx2) := kept_cell hb bx189
  replace bx191 : w11.cell? ⟨w6.heap.size, 1, none⟩ = some (.slice py2 m.arrs.length qy2) := kept_cell hb bx191
  replace ow3 := own_below ow3 hb
  replace om199 := om199.below hb
  replace oe199 := own_below oe199 hb
  replace bx209 : w11.cell? ⟨w8.heap.size, 0, none⟩ = some (.slice P199 RM.vals.length Q199) := kept_cell hb bx209
  replace bx211 : w11.cell? ⟨w8.heap.size, 1, none⟩ = some (.slice S199 RM.arrs.length T199) := kept_cell hb bx211
  replace tot := btr tot hb
  clear hb
  clear lt226 lt227 lt228 lt229 lt230 lt231
  have lt233 := lt_of_cell bx2
  have lt234 := lt_of_cell bx5
  have lt235 := lt_of_cell e0z18
  have lt236 := lt_of_cell bx177
  have lt237 := lt_of_cell bx189
  have lt238 := lt_of_cell bx209
  refine take_d (i := 0) (d := 76) (v := ?_) rfl rfl (by kernel_rfl) (by kernel_rfl) (by kernel_rfl) (fun _ _ _ h => h) (Or.inl ⟨by rfl, ?_⟩) (by assumption) ?_
  rotate_left
  · intro W' hSw; (try dsimp only at hSw); obtain ⟨s0, s1, s2, s3, s4, s5⟩ := hSw; go_simp; try with_reducible rfl
  try simp only [Act.put, List.setIfInBounds_toArray, List.set]
  refine take_d (i := 1) (d := 77) (v := ?_) rfl rfl (by kernel_rfl) (by kernel_rfl) (by kernel_rfl) (fun _ _ _ h => h) (Or.inl ⟨by rfl, ?_⟩) (by assumption) ?_
  rotate_left
  · intro W' hSw; (try dsimp only at hSw); obtain ⟨s0, s1, s2, s3, s4, s5⟩ := hSw; go_simp; try with_reducible rfl
  try simp only [Act.put, List.setIfInBounds_toArray, List.set]
  refine wpAnyH_ready (rs := [2]) (by kernel_rfl) (by simp) ?_
  refine AllReadyH.cons rfl (fun K hK => ?_) AllReadyH.nil
  go_simp
  refine (toCode_any _ _ _ c _ (HR0.out _ tot) (by omega) (by omega) (by omega)).mono ?_
  rintro e w12 ⟨ua, ub, uc, rfl, oc4, hb⟩
  obtain ⟨pa4, qa4, pb4, qb4, pc4, qc4, rfl, rfl, rfl⟩ := oc4.shape
  have hsz239 := hb.size
  replace bf178 := kept_froz hb (lt_of_cell bx177) bf178
  replace bf180 := kept_froz hb (lt_of_cell bx179) bf180
  replace bf182 := kept_froz hb (lt_of_cell bx181) bf182
  replace bf190 := kept_froz hb (lt_of_cell bx189) bf190
  replace bf192 := kept_froz hb (lt_of_cell bx191) bf192
  replace bf210 := kept_froz hb (lt_of_cell bx209) bf210
  replace bf212 := kept_froz hb (lt_of_cell bx211) bf212
  replace bx2 : w12.cell? ⟨w.heap.size, 0, none⟩ = some (.slice a0 c.vars.length c0) := kept_cell hb bx2
  replace bx3 : w12.cell? ⟨w.heap.size, 1, none⟩ = some (.slice a1 c.arrays.length c1) := kept_cell hb bx3
  replace bx4 : w12.cell? ⟨w.heap.size, 2, none⟩ = some (.slice a2 c.list.length c2) := kept_cell hb bx4
  replace bx5 : w12.cell? ⟨w.heap.size + 1, 0, none⟩ = some (.slice a3 m.vals.length c3) := kept_cell hb bx5
  replace bx6 : w12.cell? ⟨w.heap.size + 1, 1, none⟩ = some (.slice a4 m.arrs.length c4) := kept_cell hb bx6
  replace omz18 := omz18.below hb
  replace oez18 := own_below oez18 hb
  replace e0z18 : w12.cell? ⟨bbz18, 0, none⟩ = some (.slice Pz18 RM.vals.length Qz18) := kept_cell hb e0z18
  replace e1z18 : w12.cell? ⟨bbz18, 1, none⟩ = some (.slice Sz18 RM.arrs.length Tz18) := kept_cell hb e1z18
  replace oc1 := oc1.below hb
  replace bx177 : w12.cell? ⟨w5.heap.size, 0, none⟩ = some (.slice pa1 c.vars.length qa1) := kept_cell hb bx177
  replace bx179 : w12.cell? ⟨w5.heap.size, 1, none⟩ = some (.slice pb1 c.arrays.length qb1) := kept_cell hb bx179
  replace bx181 : w12.cell? ⟨w5.heap.size, 2, none⟩ = some (.slice pc1 c.list.length qc1) := kept_cell hb bx181
  replace om2 := om2.below hb
  replace bx189 : w12.cell? ⟨w6.heap.size, 0, none⟩ = some (.slice px2 m.vals.length qx2) := kept_cell hb bx189
  replace bx191 : w12.cell? ⟨w6.heap.size, 1, none⟩ = some (.slice py2 m.arrs.length qy2) := kept_cell hb bx191
  replace ow3 := own_below ow3 hb
  replace om199 := om199.below hb
  replace oe199 := own_below oe199 hb
  replace bx209 : w12.cell? ⟨w8.heap.size, 0, none⟩ = some (.slice P199 RM.vals.length Q199) := kept_cell hb bx209
  replace bx211 : w12.cell? ⟨w8.heap.size, 1, none⟩ = some (.slice S199 RM.arrs.length T199) := kept_cell hb bx211
  replace tot := btr tot hb
  clear hb
  have iv240 := oc4.lt
  clear lt233 lt234 lt235 lt236 lt237 lt238
  have lt241 := lt_of_cell bx2
  have lt242 := lt_of_cell bx5
  have lt243 := lt_of_cell e0z18
  have lt244 := lt_of_cell bx177
  have lt245 := lt_of_cell bx189
  have lt246 := lt_of_cell bx209
  refine hK.out _ _ ⟨bx177, bx179, bx181, bx2, bx3, bx4⟩ (fun hHeld => ?_)
  clear hK K
  try simp only [Act.put, List.setIfInBounds_toArray, List.set]
  refine wpAnyH_ready (rs := [3]) (by kernel_rfl) (by simp) ?_
  refine AllReadyH.cons rfl (fun K hK => ?_) AllReadyH.nil
  go_simp
  refine (eqCode_any _ _ _ _ _ _ c c _ (oc1.reads (by omega) (by omega) (by omega)) (oc4.reads (by omega) (by omega) (by omega))).mono ?_
  rintro e w13 ⟨rfl, hb⟩
  rw [decide_eq_true (Eq.refl c)]
  have hsz247 := hb.size
  replace bf178 := kept_froz hb (lt_of_cell bx177) bf178
  replace bf180 := kept_froz hb (lt_of_cell bx179) bf180
  replace bf182 := kept_froz hb (lt_of_cell bx181) bf182
  replace bf190 := kept_froz hb (lt_of_cell bx189) bf190
  replace bf192 := kept_froz hb (lt_of_cell bx191) bf192
  replace bf210 := kept_froz hb (lt_of_cell bx209) bf210
  replace bf212 := kept_froz hb (lt_of_cell bx211) bf212
  replace bx2 : w13.cell? ⟨w.heap.size, 0, none⟩ = some (.slice a0 c.vars.length c0) := kept_cell hb bx2
  replace bx3 : w13.cell? ⟨w.heap.size, 1, none⟩ = some (.slice a1 c.arrays.length c1) := kept_cell hb bx3
  replace bx4 : w13.cell? ⟨w.heap.size, 2, none⟩ = some (.slice a2 c.list.length c2) := kept_cell hb bx4
  replace bx5 : w13.cell? ⟨w.heap.size + 1, 0, none⟩ = some (.slice a3 m.vals.length c3) := kept_cell hb bx5
  replace bx6 : w13.cell? ⟨w.heap.size + 1, 1, none⟩ = some (.slice a4 m.arrs.length c4) := kept_cell hb bx6
  replace omz18 := omz18.below hb
  replace oez18 := own_below oez18 hb
  replace e0z18 : w13.cell? ⟨bbz18, 0, none⟩ = some (.slice Pz18 RM.vals.length Qz18) := kept_cell hb e0z18
  replace e1z18 : w13.cell? ⟨bbz18, 1, none⟩ = some (.slice Sz18 RM.arrs.length Tz18) := kept_cell hb e1z18
  replace oc1 := oc1.below hb
  replace bx177 : w13.cell? ⟨w5.heap.size, 0, none⟩ = some (.slice pa1 c.vars.length qa1) := kept_cell hb bx177
  replace bx179 : w13.cell? ⟨w5.heap.size, 1, none⟩ = some (.slice pb1 c.arrays.length qb1) := kept_cell hb bx179
  replace bx181 : w13.cell? ⟨w5.heap.size, 2, none⟩ = some (.slice pc1 c.list.length qc1) := kept_cell hb bx181
  replace om2 := om2.below hb
  replace bx189 : w13.cell? ⟨w6.heap.size, 0, none⟩ = some (.slice px2 m.vals.length qx2) := kept_cell hb bx189
  replace bx191 : w13.cell? ⟨w6.heap.size, 1, none⟩ = some (.slice py2 m.arrs.length qy2) := kept_cell hb bx191
  replace ow3 := own_below ow3 hb
  replace om199 := om199.below hb
  replace oe199 := own_below oe199 hb
  replace bx209 : w13.cell? ⟨w8.heap.size, 0, none⟩ = some (.slice P199 RM.vals.length Q199) := kept_cell hb bx209
  replace bx211 : w13.cell? ⟨w8.heap.size, 1, none⟩ = some (.slice S199 RM.arrs.length T199) := kept_cell hb bx211
  replace oc4 := oc4.below hb
  replace tot := btr tot hb
  clear hb
  clear lt241 lt242 lt243 lt244 lt245 lt246
  have lt248 := lt_of_cell bx2
  have lt249 := lt_of_cell bx5
  have lt250 := lt_of_cell e0z18
  have lt251 := lt_of_cell bx177
  have lt252 := lt_of_cell bx189
  have lt253 := lt_of_cell bx209
  refine hK.out _ _ ⟨bx177, bx179, bx181, bx2, bx3, bx4⟩ (fun hHeld => ?_)
  clear hK K
  try simp only [Act.put, List.setIfInBounds_toArray, List.set]
  refine take_d (i := 4) (d := 80) (v := ?_) rfl rfl (by kernel_rfl) (by kernel_rfl) (by kernel_rfl) (fun _ _ _ h => h) (Or.inl ⟨by rfl, ?_⟩) (by assumption) ?_
  rotate_left
  · intro W' hSw; (try dsimp only at hSw); obtain ⟨s0, s1, s2, s3, s4, s5⟩ := hSw; go_simp; try with_reducible rfl
  try simp only [Act.put, List.setIfInBounds_toArray, List.set]
  refine wpAnyH_done (by kernel_rfl) ?_ _
  refine NoPanic.normal ?_
  clear hHeld
  clear oc4
  clear iv240
  go_upto_region 19 with (fail)
  clear lt248 lt249 lt250 lt251 lt252 lt253
  have lt254 := lt_of_cell bx2
  have lt255 := lt_of_cell bx5
  have lt256 := lt_of_cell e0z18
  have lt257 := lt_of_cell bx177
  have lt258 := lt_of_cell bx189
  have lt259 := lt_of_cell bx209
  refine wp_region_noPanic ?_
  refine wp_region_held_drew (S := (fun W' => W'.cell? ⟨w6.heap.size, 0, none⟩ = some (.slice px2 m.vals.length qx2) ∧ W'.cell? ⟨w6.heap.size, 1, none⟩ = some (.slice py2 m.arrs.length qy2) ∧ W'.cell? ⟨w.heap.size + 1, 0, none⟩ = some (.slice a3 m.vals.length c3) ∧ W'.cell? ⟨w.heap.size + 1, 1, none⟩ = some (.slice a4 m.arrs.length c4))) (by kernel_rfl) ⟨kept_cell (Below.drew (bself w13)) bx189, kept_cell (Below.drew (bself w13)) bx191, kept_cell (Below.drew (bself w13)) bx5, kept_cell (Below.drew (bself w13)) bx6⟩ (fun hHeld => ?_)
  obtain ⟨w14, hwd⟩ : ∃ X, X = World.drew w13 := ⟨_, rfl⟩
  rw [← hwd] at hHeld ⊢
  have hb : Below w13.heap.size w13 w14 := by rw [hwd]; exact Below.drew (bself _)
  clear hwd
  have hsz260 := hb.size
  replace bf178 := kept_froz hb (lt_of_cell bx177) bf178
  replace bf180 := kept_froz hb (lt_of_cell bx179) bf180
  replace bf182 := kept_froz hb (lt_of_cell bx181) bf182
  replace bf190 := kept_froz hb (lt_of_cell bx189) bf190
  replace bf192 := kept_froz hb (lt_of_cell bx191) bf192
  replace bf210 := kept_froz hb (lt_of_cell bx209) bf210
  replace bf212 := kept_froz hb (lt_of_cell bx211) bf212
  replace bx2 : w14.cell? ⟨w.heap.size, 0, none⟩ = some (.slice a0 c.vars.length c0) := kept_cell hb bx2
  replace bx3 : w14.cell? ⟨w.heap.size, 1, none⟩ = some (.slice a1 c.arrays.length c1) := kept_cell hb bx3
  replace bx4 : w14.cell? ⟨w.heap.size, 2, none⟩ = some (.slice a2 c.list.length c2) := kept_cell hb bx4
  replace bx5 : w14.cell? ⟨w.heap.size + 1, 0, none⟩ = some (.slice a3 m.vals.length c3) := kept_cell hb bx5
  replace bx6 : w14.cell? ⟨w.heap.size + 1, 1, none⟩ = some (.slice a4 m.arrs.length c4) := kept_cell hb bx6
  replace omz18 := omz18.below hb
  replace oez18 := own_below oez18 hb
  replace e0z18 : w14.cell? ⟨bbz18, 0, none⟩ = some (.slice Pz18 RM.vals.length Qz18) := kept_cell hb e0z18
  replace e1z18 : w14.cell? ⟨bbz18, 1, none⟩ = some (.slice Sz18 RM.arrs.length Tz18) := kept_cell hb e1z18
  replace oc1 := oc1.below hb
  replace bx177 : w14.cell? ⟨w5.heap.size, 0, none⟩ = some (.slice pa1 c.vars.length qa1) := kept_cell hb bx177
  replace bx179 : w14.cell? ⟨w5.heap.size, 1, none⟩ = some (.slice pb1 c.arrays.length qb1) := kept_cell hb bx179
  replace bx181 : w14.cell? ⟨w5.heap.size, 2, none⟩ = some (.slice pc1 c.list.length qc1) := kept_cell hb bx181
  replace om2 := om2.below hb
  replace bx189 : w14.cell? ⟨w6.heap.size, 0, none⟩ = some (.slice px2 m.vals.length qx2) := kept_cell hb bx189
  replace bx191 : w14.cell? ⟨w6.heap.size, 1, none⟩ = some (.slice py2 m.arrs.length qy2) := kept_cell hb bx191
  replace ow3 := own_below ow3 hb
  replace om199 := om199.below hb
  replace oe199 := own_below oe199 hb
  replace bx209 : w14.cell? ⟨w8.heap.size, 0, none⟩ = some (.slice P199 RM.vals.length Q199) := kept_cell hb bx209
  replace bx211 : w14.cell? ⟨w8.heap.size, 1, none⟩ = some (.slice S199 RM.arrs.length T199) := kept_cell hb bx211
  replace tot := btr tot hb
  clear hb
  clear lt254 lt255 lt256 lt257 lt258 lt259
  have lt261 := lt_of_cell bx2
  have lt262 := lt_of_cell bx5
  have lt263 := lt_of_cell e0z18
  have lt264 := lt_of_cell bx177
  have lt265 := lt_of_cell bx189
  have lt266 := lt_of_cell bx209
  refine take_d (i := 0) (d := 81) (v := ?_) rfl rfl (by kernel_rfl) (by kernel_rfl) (by kernel_rfl) (fun _ _ _ h => h) (Or.inl ⟨by rfl, ?_⟩) (by assumption) ?_
  rotate_left
  · intro W' hSw; (try dsimp only at hSw); obtain ⟨s0, s1, s2, s3⟩ := hSw; go_simp; try with_reducible rfl
  try simp only [Act.put, List.setIfInBounds_toArray, List.set]
  refine take_d (i := 1) (d := 82) (v := ?_) rfl rfl (by kernel_rfl) (by kernel_rfl) (by kernel_rfl) (fun _ _ _ h => h) (Or.inl ⟨by rfl, ?_⟩) (by assumption) ?_
  rotate_left
  · intro W' hSw; (try dsimp only at hSw); obtain ⟨s0, s1, s2, s3⟩ := hSw; go_simp; try with_reducible rfl
  try simp only [Act.put, List.setIfInBounds_toArray, List.set]
  refine wpAnyH_ready (rs := [2]) (by kernel_rfl) (by simp) ?_
  refine AllReadyH.cons rfl (fun K hK => ?_) AllReadyH.nil
  go_simp
  refine (toMemory_any _ _ m _ (HRM.out _ tot) (by omega) (by omega) (by omega)).mono ?_
  rintro e w15 ⟨ux, uy, us5, rfl, om5, hb⟩
  obtain ⟨px5, qx5, py5, qy5, rfl, rfl⟩ := om5.shape
  have hsz267 := hb.size
  replace bf178 := kept_froz hb (lt_of_cell bx177) bf178
  replace bf180 := kept_froz hb (lt_of_cell bx179) bf180
  replace bf182 := kept_froz hb (lt_of_cell bx181) bf182
  replace bf190 := kept_froz hb (lt_of_cell bx189) bf190
  replace bf192 := kept_froz hb (lt_of_cell bx191) bf192
  replace bf210 := kept_froz hb (lt_of_cell bx209) bf210
  replace bf212 := kept_froz hb (lt_of_cell bx211) bf212
  replace bx2 : w15.cell? ⟨w.heap.size, 0, none⟩ = some (.slice a0 c.vars.length c0) := kept_cell hb bx2
  replace bx3 : w15.cell? ⟨w.heap.size, 1, none⟩ = some (.slice a1 c.arrays.length c1) := kept_cell hb bx3
  replace bx4 : w15.cell? ⟨w.heap.size, 2, none⟩ = some (.slice a2 c.list.length c2) := kept_cell hb bx4
  replace bx5 : w15.cell? ⟨w.heap.size + 1, 0, none⟩ = some (.slice a3 m.vals.length c3) := kept_cell hb bx5
  replace bx6 : w15.cell? ⟨w.heap.size + 1, 1, none⟩ = some (.slice a4 m.arrs.length c4) := kept_cell hb bx6
  replace omz18 := omz18.below hb
  replace oez18 := own_below oez18 hb
  replace e0z18 : w15.cell? ⟨bbz18, 0, none⟩ = some (.slice Pz18 RM.vals.length Qz18) := kept_cell hb e0z18
  replace e1z18 : w15.cell? ⟨bbz18, 1, none⟩ = some (.slice Sz18 RM.arrs.length Tz18) := kept_cell hb e1z18
  replace oc1 := oc1.below hb
  replace bx177 : w15.cell? ⟨w5.heap.size, 0, none⟩ = some (.slice pa1 c.vars.length qa1) := kept_cell hb bx177
  replace bx179 : w15.cell? ⟨w5.heap.size, 1, none⟩ = some (.slice pb1 c.arrays.length qb1) := kept_cell hb bx179
  replace bx181 : w15.cell? ⟨w5.heap.size, 2, none⟩ = some (.slice pc1 c.list.length qc1) := kept_cell hb bx181
  replace om2 := om2.below hb
  replace bx189 : w15.cell? ⟨w6.heap.size, 0, none⟩ = some (.slice px2 m.vals.length qx2) := kept_cell hb bx189
  replace bx191 : w15.cell? ⟨w6.heap.size, 1, none⟩ = some (.slice py2 m.arrs.length qy2) := kept_cell hb bx191
  replace ow3 := own_below ow3 hb
  replace om199 := om199.below hb
  replace oe199 := own_below oe199 hb
  replace bx209 : w15.cell? ⟨w8.heap.size, 0, none⟩ = some (.slice P199 RM.vals.length Q199) := kept_cell hb bx209
  replace bx211 : w15.cell? ⟨w8.heap.size, 1, none⟩ = some (.slice S199 RM.arrs.length T199) := kept_cell hb bx211
  replace tot := btr tot hb
  clear hb
  have iv268 := om5.lt
  clear lt261 lt262 lt263 lt264 lt265 lt266
  have lt269 := lt_of_cell bx2
  have lt270 := lt_of_cell bx5
  have lt271 := lt_of_cell e0z18
  have lt272 := lt_of_cell bx177
  have lt273 := lt_of_cell bx189
  have lt274 := lt_of_cell bx209
  refine hK.out _ _ ⟨bx189, bx191, bx5, bx6⟩ (fun hHeld => ?_)
  clear hK K
  try simp only [Act.put, List.setIfInBounds_toArray, List.set]
  refine wpAnyH_ready (rs := [3]) (by kernel_rfl) (by simp) ?_
  refine AllReadyH.cons rfl (fun K hK => ?_) AllReadyH.nil
  go_simp
  refine (eqMemory_any _ _ _ _ m _ (om2.reads hm1 hm2 hm3) (om5.reads hm1 hm2 hm3)).mono ?_
  rintro e w16 ⟨rfl, hb⟩
  have hsz275 := hb.size
  replace bf178 := kept_froz hb (lt_of_cell bx177) bf178
  replace bf180 := kept_froz hb (lt_of_cell bx179) bf180
  replace bf182 := kept_froz hb (lt_of_cell bx181) bf182
  replace bf190 := kept_froz hb (lt_of_cell bx189) bf190
  replace bf192 := kept_froz hb (lt_of_cell bx191) bf192
  replace bf210 := kept_froz hb (lt_of_cell bx209) bf210
  replace bf212 := kept_froz hb (lt_of_cell bx211) bf212
  replace bx2 : w16.cell? ⟨w.heap.size, 0, none⟩ = some (.slice a0 c.vars.length c0) := kept_cell hb bx2
  replace bx3 : w16.cell? ⟨w.heap.size, 1, none⟩ = some (.slice a1 c.arrays.length c1) := kept_cell hb bx3
  replace bx4 : w16.cell? ⟨w.heap.size, 2, none⟩ = some (.slice a2 c.list.length c2) := kept_cell hb bx4
  replace bx5 : w16.cell? ⟨w.heap.size + 1, 0, none⟩ = some (.slice a3 m.vals.length c3) := kept_cell hb bx5
  replace bx6 : w16.cell? ⟨w.heap.size + 1, 1, none⟩ = some (.slice a4 m.arrs.length c4) := kept_cell hb bx6
  replace omz18 := omz18.below hb
  replace oez18 := own_below oez18 hb
  replace e0z18 : w16.cell? ⟨bbz18, 0, none⟩ = some (.slice Pz18 RM.vals.length Qz18) := kept_cell hb e0z18
  replace e1z18 : w16.cell? ⟨bbz18, 1, none⟩ = some (.slice Sz18 RM.arrs.length Tz18) := kept_cell hb e1z18
  replace oc1 := oc1.below hb
  replace bx177 : w16.cell? ⟨w5.heap.size, 0, none⟩ = some (.slice pa1 c.vars.length qa1) := kept_cell hb bx177
  replace bx179 : w16.cell? ⟨w5.heap.size, 1, none⟩ = some (.slice pb1 c.arrays.length qb1) := kept_cell hb bx179
  replace bx181 : w16.cell? ⟨w5.heap.size, 2, none⟩ = some (.slice pc1 c.list.length qc1) := kept_cell hb bx181
  replace om2 := om2.below hb
  replace bx189 : w16.cell? ⟨w6.heap.size, 0, none⟩ = some (.slice px2 m.vals.length qx2) := kept_cell hb bx189
  replace bx191 : w16.cell? ⟨w6.heap.size, 1, none⟩ = some (.slice py2 m.arrs.length qy2) := kept_cell hb bx191
  replace ow3 := own_below ow3 hb
  replace om199 := om199.below hb
  replace oe199 := own_below oe199 hb
  replace bx209 : w16.cell? ⟨w8.heap.size, 0, none⟩ = some (.slice P199 RM.vals.length Q199) := kept_cell hb bx209
  replace bx211 : w16.cell? ⟨w8.heap.size, 1, none⟩ = some (.slice S199 RM.arrs.length T199) := kept_cell hb bx211
  replace om5 := om5.below hb
  replace tot := btr tot hb
  clear hb
  clear lt269 lt270 lt271 lt272 lt273 lt274
  have lt276 := lt_of_cell bx2
  have lt277 := lt_of_cell bx5
  have lt278 := lt_of_cell e0z18
  have lt279 := lt_of_cell bx177
  have lt280 := lt_of_cell bx189
  have lt281 := lt_of_cell bx209
  refine hK.out _ _ ⟨bx189, bx191, bx5, bx6⟩ (fun hHeld => ?_)
  clear hK K
  try simp only [Act.put, List.setIfInBounds_toArray, List.set]
  refine take_d (i := 4) (d := 85) (v := ?_) rfl rfl (by kernel_rfl) (by kernel_rfl) (by kernel_rfl) (fun _ _ _ h => h) (Or.inl ⟨by rfl, ?_⟩) (by assumption) ?_
  rotate_left
  · intro W' hSw; (try dsimp only at hSw); obtain ⟨s0, s1, s2, s3⟩ := hSw; go_simp; try with_reducible rfl
  try simp only [Act.put, List.setIfInBounds_toArray, List.set]
  refine wpAnyH_done (by kernel_rfl) ?_ _
  refine NoPanic.normal ?_
  clear hHeld
  clear om5
  clear iv268
  go_wp2_with fail
  refine (toBoolS_any _ ws _ (HRW.out _ tot) (by omega)).mono ?_
  rintro e w17 ⟨uw, rfl, ow6, hb⟩
  obtain ⟨pw6, qw6, rfl⟩ := own_shape ow6
  have hsz282 := hb.size
  replace bf178 := kept_froz hb (lt_of_cell bx177) bf178
  replace bf180 := kept_froz hb (lt_of_cell bx179) bf180
  replace bf182 := kept_froz hb (lt_of_cell bx181) bf182
  replace bf190 := kept_froz hb (lt_of_cell bx189) bf190
  replace bf192 := kept_froz hb (lt_of_cell bx191) bf192
  replace bf210 := kept_froz hb (lt_of_cell bx209) bf210
  replace bf212 := kept_froz hb (lt_of_cell bx211) bf212
  replace bx2 : w17.cell? ⟨w.heap.size, 0, none⟩ = some (.slice a0 c.vars.length c0) := kept_cell hb bx2
  replace bx3 : w17.cell? ⟨w.heap.size, 1, none⟩ = some (.slice a1 c.arrays.length c1) := kept_cell hb bx3
  replace bx4 : w17.cell? ⟨w.heap.size, 2, none⟩ = some (.slice a2 c.list.length c2) := kept_cell hb bx4
  replace bx5 : w17.cell? ⟨w.heap.size + 1, 0, none⟩ = some (.slice a3 m.vals.length c3) := kept_cell hb bx5
  replace bx6 : w17.cell? ⟨w.heap.size + 1, 1, none⟩ = some (.slice a4 m.arrs.length c4) := kept_cell hb bx6
  replace omz18 := omz18.below hb
  replace oez18 := own_below oez18 hb
  replace e0z18 : w17.cell? ⟨bbz18, 0, none⟩ = some (.slice Pz18 RM.vals.length Qz18) := kept_cell hb e0z18
  replace e1z18 : w17.cell? ⟨bbz18, 1, none⟩ = some (.slice Sz18 RM.arrs.length Tz18) := kept_cell hb e1z18
  replace oc1 := oc1.below hb
  replace bx177 : w17.cell? ⟨w5.heap.size, 0, none⟩ = some (.slice pa1 c.vars.length qa1) := kept_cell hb bx177
  replace bx179 : w17.cell? ⟨w5.heap.size, 1, none⟩ = some (.slice pb1 c.arrays.length qb1) := kept_cell hb bx179
  replace bx181 : w17.cell? ⟨w5.heap.size, 2, none⟩ = some (.slice pc1 c.list.length qc1) := kept_cell hb bx181
  replace om2 := om2.below hb
  replace bx189 : w17.cell? ⟨w6.heap.size, 0, none⟩ = some (.slice px2 m.vals.length qx2) := kept_cell hb bx189
  replace bx191 : w17.cell? ⟨w6.heap.size, 1, none⟩ = some (.slice py2 m.arrs.length qy2) := kept_cell hb bx191
  replace ow3 := own_below ow3 hb
  replace om199 := om199.below hb
  replace oe199 := own_below oe199 hb
  replace bx209 : w17.cell? ⟨w8.heap.size, 0, none⟩ = some (.slice P199 RM.vals.length Q199) := kept_cell hb bx209
  replace bx211 : w17.cell? ⟨w8.heap.size, 1, none⟩ = some (.slice S199 RM.arrs.length T199) := kept_cell hb bx211
  replace tot := btr tot hb
  clear hb
  have iv283 := ow6.lt
  clear lt276 lt277 lt278 lt279 lt280 lt281
  have lt284 := lt_of_cell bx2
  have lt285 := lt_of_cell bx5
  have lt286 := lt_of_cell e0z18
  have lt287 := lt_of_cell bx177
  have lt288 := lt_of_cell bx189
  have lt289 := lt_of_cell bx209
  go_wp2_with fail
  refine (eqBoolS_b _ _ ws ws _ (reads_of_owns ow3 (by omega)) (reads_of_owns ow6 (by omega))).mono ?_
  rintro e w18 ⟨rfl, hb⟩
  rw [decide_eq_true (Eq.refl ws)]
  have hsz290 := hb.size
  replace bf178 := kept_froz hb (lt_of_cell bx177) bf178
  replace bf180 := kept_froz hb (lt_of_cell bx179) bf180
  replace bf182 := kept_froz hb (lt_of_cell bx181) bf182
  replace bf190 := kept_froz hb (lt_of_cell bx189) bf190
  replace bf192 := kept_froz hb (lt_of_cell bx191) bf192
  replace bf210 := kept_froz hb (lt_of_cell bx209) bf210
  replace bf212 := kept_froz hb (lt_of_cell bx211) bf212
  replace bx2 : w18.cell? ⟨w.heap.size, 0, none⟩ = some (.slice a0 c.vars.length c0) := kept_cell hb bx2
  replace bx3 : w18.cell? ⟨w.heap.size, 1, none⟩ = some (.slice a1 c.arrays.length c1) := kept_cell hb bx3
  replace bx4 : w18.cell? ⟨w.heap.size, 2, none⟩ = some (.slice a2 c.list.length c2) := kept_cell hb bx4
  replace bx5 : w18.cell? ⟨w.heap.size + 1, 0, none⟩ = some (.slice a3 m.vals.length c3) := kept_cell hb bx5
  replace bx6 : w18.cell? ⟨w.heap.size + 1, 1, none⟩ = some (.slice a4 m.arrs.length c4) := kept_cell hb bx6
  replace omz18 := omz18.below hb
  replace oez18 := own_below oez18 hb
  replace e0z18 : w18.cell? ⟨bbz18, 0, none⟩ = some (.slice Pz18 RM.vals.length Qz18) := kept_cell hb e0z18
  replace e1z18 : w18.cell? ⟨bbz18, 1, none⟩ = some (.slice Sz18 RM.arrs.length Tz18) := kept_cell hb e1z18
  replace oc1 := oc1.below hb
  replace bx177 : w18.cell? ⟨w5.heap.size, 0, none⟩ = some (.slice pa1 c.vars.length qa1) := kept_cell hb bx177
  replace bx179 : w18.cell? ⟨w5.heap.size, 1, none⟩ = some (.slice pb1 c.arrays.length qb1) := kept_cell hb bx179
  replace bx181 : w18.cell? ⟨w5.heap.size, 2, none⟩ = some (.slice pc1 c.list.length qc1) := kept_cell hb bx181
  replace om2 := om2.below hb
  replace bx189 : w18.cell? ⟨w6.heap.size, 0, none⟩ = some (.slice px2 m.vals.length qx2) := kept_cell hb bx189
  replace bx191 : w18.cell? ⟨w6.heap.size, 1, none⟩ = some (.slice py2 m.arrs.length qy2) := kept_cell hb bx191
  replace ow3 := own_below ow3 hb
  replace om199 := om199.below hb
  replace oe199 := own_below oe199 hb
  replace bx209 : w18.cell? ⟨w8.heap.size, 0, none⟩ = some (.slice P199 RM.vals.length Q199) := kept_cell hb bx209
  replace bx211 : w18.cell? ⟨w8.heap.size, 1, none⟩ = some (.slice S199 RM.arrs.length T199) := kept_cell hb bx211
  replace ow6 := own_below ow6 hb
  replace tot := btr tot hb
  clear hb
  clear lt284 lt285 lt286 lt287 lt288 lt289
  have lt291 := lt_of_cell bx2
  have lt292 := lt_of_cell bx5
  have lt293 := lt_of_cell e0z18
  have lt294 := lt_of_cell bx177
  have lt295 := lt_of_cell bx189
  have lt296 := lt_of_cell bx209
  clear ow6
  clear iv283
  go_wp2_with fail
  refine (markCode_any _ _ _ c 1 _ _ oc1 (by omega) (by omega) (by omega) (by omega) (by omega)).mono ?_
  rintro e w19 ⟨rfl, mc, hb⟩
  have hsz297 := hb.size
  replace bf178 := chg_froz hb (lt_of_cell bx177) bf178 (fun h => by have := iv172 _ h; omega)
  replace bf180 := chg_froz hb (lt_of_cell bx179) bf180 (fun h => by have := iv172 _ h; omega)
  replace bf182 := chg_froz hb (lt_of_cell bx181) bf182 (fun h => by have := iv172 _ h; omega)
  replace bf190 := chg_froz hb (lt_of_cell bx189) bf190 (fun h => by have := iv172 _ h; omega)
  replace bf192 := chg_froz hb (lt_of_cell bx191) bf192 (fun h => by have := iv172 _ h; omega)
  replace bf210 := chg_froz hb (lt_of_cell bx209) bf210 (fun h => by have := iv172 _ h; omega)
  replace bf212 := chg_froz hb (lt_of_cell bx211) bf212 (fun h => by have := iv172 _ h; omega)
  replace bx2 : w19.cell? ⟨w.heap.size, 0, none⟩ = some (.slice a0 c.vars.length c0) := chg_cell hb bx2 (fun h => by have := iv172 _ h; omega)
  replace bx3 : w19.cell? ⟨w.heap.size, 1, none⟩ = some (.slice a1 c.arrays.length c1) := chg_cell hb bx3 (fun h => by have := iv172 _ h; omega)
  replace bx4 : w19.cell? ⟨w.heap.size, 2, none⟩ = some (.slice a2 c.list.length c2) := chg_cell hb bx4 (fun h => by have := iv172 _ h; omega)
  replace bx5 : w19.cell? ⟨w.heap.size + 1, 0, none⟩ = some (.slice a3 m.vals.length c3) := chg_cell hb bx5 (fun h => by have := iv172 _ h; omega)
  replace bx6 : w19.cell? ⟨w.heap.size + 1, 1, none⟩ = some (.slice a4 m.arrs.length c4) := chg_cell hb bx6 (fun h => by have := iv172 _ h; omega)
  replace omz18 := omz18.keep hb (fun gq h h2 => by have := imz18 gq h; have := iv172 gq h2; omega)
  replace oez18 := own_keep oez18 hb (fun gq h h2 => by have := iez18 gq h; have := iv172 gq h2; omega)
  replace e0z18 : w19.cell? ⟨bbz18, 0, none⟩ = some (.slice Pz18 RM.vals.length Qz18) := chg_cell hb e0z18 (fun h => by have := iv172 _ h; omega)
  replace e1z18 : w19.cell? ⟨bbz18, 1, none⟩ = some (.slice Sz18 RM.arrs.length Tz18) := chg_cell hb e1z18 (fun h => by have := iv172 _ h; omega)
  replace bx177 : w19.cell? ⟨w5.heap.size, 0, none⟩ = some (.slice pa1 c.vars.length qa1) := chg_cell hb bx177 (fun h => by have := iv172 _ h; omega)
  replace bx179 : w19.cell? ⟨w5.heap.size, 1, none⟩ = some (.slice pb1 c.arrays.length qb1) := chg_cell hb bx179 (fun h => by have := iv172 _ h; omega)
  replace bx181 : w19.cell? ⟨w5.heap.size, 2, none⟩ = some (.slice pc1 c.list.length qc1) := chg_cell hb bx181 (fun h => by have := iv172 _ h; omega)
  replace om2 := om2.keep hb (fun gq h h2 => by have := iv183 gq h; have := iv172 gq h2; omega)
  replace bx189 : w19.cell? ⟨w6.heap.size, 0, none⟩ = some (.slice px2 m.vals.length qx2) := chg_cell hb bx189 (fun h => by have := iv172 _ h; omega)
  replace bx191 : w19.cell? ⟨w6.heap.size, 1, none⟩ = some (.slice py2 m.arrs.length qy2) := chg_cell hb bx191 (fun h => by have := iv172 _ h; omega)
  replace ow3 := own_keep ow3 hb (fun gq h h2 => by have := iv193 gq h; have := iv172 gq h2; omega)
  replace om199 := om199.keep hb (fun gq h h2 => by have := iv201 gq h; have := iv172 gq h2; omega)
  replace oe199 := own_keep oe199 hb (fun gq h h2 => by have := iv202 gq h; have := iv172 gq h2; omega)
  replace bx209 : w19.cell? ⟨w8.heap.size, 0, none⟩ = some (.slice P199 RM.vals.length Q199) := chg_cell hb bx209 (fun h => by have := iv172 _ h; omega)
  replace bx211 : w19.cell? ⟨w8.heap.size, 1, none⟩ = some (.slice S199 RM.arrs.length T199) := chg_cell hb bx211 (fun h => by have := iv172 _ h; omega)
  replace tot := tot.trans (hb.below w.heap.size (by have := tot.size; omega) (fun gq hgq h => by have := iv172 gq h; omega))
  clear hb
  clear oc1 iv172 mc
  clear bx177 bf178 bx179 bf180 bx181 bf182
  clear lt291 lt292 lt293 lt294 lt295 lt296
  have lt298 := lt_of_cell bx2
  have lt299 := lt_of_cell bx5
  have lt300 := lt_of_cell e0z18
  have lt301 := lt_of_cell bx189
  have lt302 := lt_of_cell bx209
  go_wp2_with fail
  refine (markMemory_any _ _ _ m (1 + sizeM c) _ _ om2 (by omega) (by omega) (by omega) (by omega)).mono ?_
  rintro e w20 ⟨rfl, hb⟩
  have hsz303 := hb.size
  replace bf190 := chg_froz hb (lt_of_cell bx189) bf190 (fun h => by have := iv183 _ h; omega)
  replace bf192 := chg_froz hb (lt_of_cell bx191) bf192 (fun h => by have := iv183 _ h; omega)
  replace bf210 := chg_froz hb (lt_of_cell bx209) bf210 (fun h => by have := iv183 _ h; omega)
  replace bf212 := chg_froz hb (lt_of_cell bx211) bf212 (fun h => by have := iv183 _ h; omega)
  replace bx2 : w20.cell? ⟨w.heap.size, 0, none⟩ = some (.slice a0 c.vars.length c0) := chg_cell hb bx2 (fun h => by have := iv183 _ h; omega)
  replace bx3 : w20.cell? ⟨w.heap.size, 1, none⟩ = some (.slice a1 c.arrays.length c1) := chg_cell hb bx3 (fun h => by have := iv183 _ h; omega)
  replace bx4 : w20.cell? ⟨w.heap.size, 2, none⟩ = some (.slice a2 c.list.length c2) := chg_cell hb bx4 (fun h => by have := iv183 _ h; omega)
  replace bx5 : w20.cell? ⟨w.heap.size + 1, 0, none⟩ = some (.slice a3 m.vals.length c3) := chg_cell hb bx5 (fun h => by have := iv183 _ h; omega)
  replace bx6 : w20.cell? ⟨w.heap.size + 1, 1, none⟩ = some (.slice a4 m.arrs.length c4) := chg_cell hb bx6 (fun h => by have := iv183 _ h; omega)
  replace omz18 := omz18.keep hb (fun gq h h2 => by have := imz18 gq h; have := iv183 gq h2; omega)
  replace oez18 := own_keep oez18 hb (fun gq h h2 => by have := iez18 gq h; have := iv183 gq h2; omega)
  replace e0z18 : w20.cell? ⟨bbz18, 0, none⟩ = some (.slice Pz18 RM.vals.length Qz18) := chg_cell hb e0z18 (fun h => by have := iv183 _ h; omega)
  replace e1z18 : w20.cell? ⟨bbz18, 1, none⟩ = some (.slice Sz18 RM.arrs.length Tz18) := chg_cell hb e1z18 (fun h => by have := iv183 _ h; omega)
  replace bx189 : w20.cell? ⟨w6.heap.size, 0, none⟩ = some (.slice px2 m.vals.length qx2) := chg_cell hb bx189 (fun h => by have := iv183 _ h; omega)
  replace bx191 : w20.cell? ⟨w6.heap.size, 1, none⟩ = some (.slice py2 m.arrs.length qy2) := chg_cell hb bx191 (fun h => by have := iv183 _ h; omega)
  replace ow3 := own_keep ow3 hb (fun gq h h2 => by have := iv193 gq h; have := iv183 gq h2; omega)
  replace om199 := om199.keep hb (fun gq h h2 => by have := iv201 gq h; have := iv183 gq h2; omega)
  replace oe199 := own_keep oe199 hb (fun gq h h2 => by have := iv202 gq h; have := iv183 gq h2; omega)
  replace bx209 : w20.cell? ⟨w8.heap.size, 0, none⟩ = some (.slice P199 RM.vals.length Q199) := chg_cell hb bx209 (fun h => by have := iv183 _ h; omega)
  replace bx211 : w20.cell? ⟨w8.heap.size, 1, none⟩ = some (.slice S199 RM.arrs.length T199) := chg_cell hb bx211 (fun h => by have := iv183 _ h; omega)
  replace tot := tot.trans (hb.below w.heap.size (by have := tot.size; omega) (fun gq hgq h => by have := iv183 gq h; omega))
  clear hb
  clear om2 iv183
  clear bx189 bf190 bx191 bf192
  clear lt298 lt299 lt300 lt301 lt302
  have lt304 := lt_of_cell bx2
  have lt305 := lt_of_cell bx5
  have lt306 := lt_of_cell e0z18
  have lt307 := lt_of_cell bx209
  go_wp2_with fail
  refine (markBoolS_any _ ws (1 + sizeM c + (m.vals.length : Int) + (pre2 m.arrs m.arrs.length : Nat)) _ _ ow3 (by omega) (by omega) (by omega)).mono ?_
  rintro e w21 ⟨rfl, mb, hb⟩
  have hsz308 := hb.size
  replace bf210 := chg_froz hb (lt_of_cell bx209) bf210 (fun h => by have := iv193 _ h; omega)
  replace bf212 := chg_froz hb (lt_of_cell bx211) bf212 (fun h => by have := iv193 _ h; omega)
  replace bx2 : w21.cell? ⟨w.heap.size, 0, none⟩ = some (.slice a0 c.vars.length c0) := chg_cell hb bx2 (fun h => by have := iv193 _ h; omega)
  replace bx3 : w21.cell? ⟨w.heap.size, 1, none⟩ = some (.slice a1 c.arrays.length c1) := chg_cell hb bx3 (fun h => by have := iv193 _ h; omega)
  replace bx4 : w21.cell? ⟨w.heap.size, 2, none⟩ = some (.slice a2 c.list.length c2) := chg_cell hb bx4 (fun h => by have := iv193 _ h; omega)
  replace bx5 : w21.cell? ⟨w.heap.size + 1, 0, none⟩ = some (.slice a3 m.vals.length c3) := chg_cell hb bx5 (fun h => by have := iv193 _ h; omega)
  replace bx6 : w21.cell? ⟨w.heap.size + 1, 1, none⟩ = some (.slice a4 m.arrs.length c4) := chg_cell hb bx6 (fun h => by have := iv193 _ h; omega)
  replace omz18 := omz18.keep hb (fun gq h h2 => by have := imz18 gq h; have := iv193 gq h2; omega)
  replace oez18 := own_keep oez18 hb (fun gq h h2 => by have := iez18 gq h; have := iv193 gq h2; omega)
  replace e0z18 : w21.cell? ⟨bbz18, 0, none⟩ = some (.slice Pz18 RM.vals.length Qz18) := chg_cell hb e0z18 (fun h => by have := iv193 _ h; omega)
  replace e1z18 : w21.cell? ⟨bbz18, 1, none⟩ = some (.slice Sz18 RM.arrs.length Tz18) := chg_cell hb e1z18 (fun h => by have := iv193 _ h; omega)
  replace om199 := om199.keep hb (fun gq h h2 => by have := iv201 gq h; have := iv193 gq h2; omega)
  replace oe199 := own_keep oe199 hb (fun gq h h2 => by have := iv202 gq h; have := iv193 gq h2; omega)
  replace bx209 : w21.cell? ⟨w8.heap.size, 0, none⟩ = some (.slice P199 RM.vals.length Q199) := chg_cell hb bx209 (fun h => by have := iv193 _ h; omega)
  replace bx211 : w21.cell? ⟨w8.heap.size, 1, none⟩ = some (.slice S199 RM.arrs.length T199) := chg_cell hb bx211 (fun h => by have := iv193 _ h; omega)
  replace tot := tot.trans (hb.below w.heap.size (by have := tot.size; omega) (fun gq hgq h => by have := iv193 gq h; omega))
  clear hb
  clear ow3 iv193 mb
  clear lt304 lt305 lt306 lt307
  have lt309 := lt_of_cell bx2
  have lt310 := lt_of_cell bx5
  have lt311 := lt_of_cell e0z18
  have lt312 := lt_of_cell bx209
  go_wp2_with fail
  refine (eqMemory_any _ _ _ _ RM _ (om199.reads hM1 hM2 hM3) (omz18.reads hM1 hM2 hM3)).mono ?_
  rintro e w22 ⟨rfl, hb⟩
  have hsz313 := hb.size
  replace bf210 := kept_froz hb (lt_of_cell bx209) bf210
  replace bf212 := kept_froz hb (lt_of_cell bx211) bf212
  replace bx2 : w22.cell? ⟨w.heap.size, 0, none⟩ = some (.slice a0 c.vars.length c0) := kept_cell hb bx2
  replace bx3 : w22.cell? ⟨w.heap.size, 1, none⟩ = some (.slice a1 c.arrays.length c1) := kept_cell hb bx3
  replace bx4 : w22.cell? ⟨w.heap.size, 2, none⟩ = some (.slice a2 c.list.length c2) := kept_cell hb bx4
  replace bx5 : w22.cell? ⟨w.heap.size + 1, 0, none⟩ = some (.slice a3 m.vals.length c3) := kept_cell hb bx5
  replace bx6 : w22.cell? ⟨w.heap.size + 1, 1, none⟩ = some (.slice a4 m.arrs.length c4) := kept_cell hb bx6
  replace omz18 := omz18.below hb
  replace oez18 := own_below oez18 hb
  replace e0z18 : w22.cell? ⟨bbz18, 0, none⟩ = some (.slice Pz18 RM.vals.length Qz18) := kept_cell hb e0z18
  replace e1z18 : w22.cell? ⟨bbz18, 1, none⟩ = some (.slice Sz18 RM.arrs.length Tz18) := kept_cell hb e1z18
  replace om199 := om199.below hb
  replace oe199 := own_below oe199 hb
  replace bx209 : w22.cell? ⟨w8.heap.size, 0, none⟩ = some (.slice P199 RM.vals.length Q199) := kept_cell hb bx209
  replace bx211 : w22.cell? ⟨w8.heap.size, 1, none⟩ = some (.slice S199 RM.arrs.length T199) := kept_cell hb bx211
  replace tot := btr tot hb
  clear hb
  clear lt309 lt310 lt311 lt312
  have lt314 := lt_of_cell bx2
  have lt315 := lt_of_cell bx5
  have lt316 := lt_of_cell e0z18
  have lt317 := lt_of_cell bx209
  go_wp2_with fail
  refine (eqEventS_any _ _ L L _ (reads_of_owns oe199 (by omega)) (reads_of_owns oez18 (by omega))).mono ?_
  rintro e w23 ⟨rfl, hb⟩
  rw [decide_eq_true (Eq.refl L)]
  have hsz318 := hb.size
  replace bf210 := kept_froz hb (lt_of_cell bx209) bf210
  replace bf212 := kept_froz hb (lt_of_cell bx211) bf212
  replace bx2 : w23.cell? ⟨w.heap.size, 0, none⟩ = some (.slice a0 c.vars.length c0) := kept_cell hb bx2
  replace bx3 : w23.cell? ⟨w.heap.size, 1, none⟩ = some (.slice a1 c.arrays.length c1) := kept_cell hb bx3
  replace bx4 : w23.cell? ⟨w.heap.size, 2, none⟩ = some (.slice a2 c.list.length c2) := kept_cell hb bx4
  replace bx5 : w23.cell? ⟨w.heap.size + 1, 0, none⟩ = some (.slice a3 m.vals.length c3) := kept_cell hb bx5
  replace bx6 : w23.cell? ⟨w.heap.size + 1, 1, none⟩ = some (.slice a4 m.arrs.length c4) := kept_cell hb bx6
  replace omz18 := omz18.below hb
  replace oez18 := own_below oez18 hb
  replace e0z18 : w23.cell? ⟨bbz18, 0, none⟩ = some (.slice Pz18 RM.vals.length Qz18) := kept_cell hb e0z18
  replace e1z18 : w23.cell? ⟨bbz18, 1, none⟩ = some (.slice Sz18 RM.arrs.length Tz18) := kept_cell hb e1z18
  replace om199 := om199.below hb
  replace oe199 := own_below oe199 hb
  replace bx209 : w23.cell? ⟨w8.heap.size, 0, none⟩ = some (.slice P199 RM.vals.length Q199) := kept_cell hb bx209
  replace bx211 : w23.cell? ⟨w8.heap.size, 1, none⟩ = some (.slice S199 RM.arrs.length T199) := kept_cell hb bx211
  replace tot := btr tot hb
  clear hb
  clear lt314 lt315 lt316 lt317
  have lt319 := lt_of_cell bx2
  have lt320 := lt_of_cell bx5
  have lt321 := lt_of_cell e0z18
  have lt322 := lt_of_cell bx209
  go_wp2_with fail
  refine (markMemory_x _ _ _ RM (1) _ _ om199 (by omega) (by omega) (by omega) (by omega)).mono ?_
  rintro e w24 ⟨rfl, mm323, hb⟩
  have hsz324 := hb.size
  replace bf210 := chg_froz hb (lt_of_cell bx209) bf210 (fun h => by have := iv201 _ h; omega)
  replace bf212 := chg_froz hb (lt_of_cell bx211) bf212 (fun h => by have := iv201 _ h; omega)
  replace bx2 : w24.cell? ⟨w.heap.size, 0, none⟩ = some (.slice a0 c.vars.length c0) := chg_cell hb bx2 (fun h => by have := iv201 _ h; omega)
  replace bx3 : w24.cell? ⟨w.heap.size, 1, none⟩ = some (.slice a1 c.arrays.length c1) := chg_cell hb bx3 (fun h => by have := iv201 _ h; omega)
  replace bx4 : w24.cell? ⟨w.heap.size, 2, none⟩ = some (.slice a2 c.list.length c2) := chg_cell hb bx4 (fun h => by have := iv201 _ h; omega)
  replace bx5 : w24.cell? ⟨w.heap.size + 1, 0, none⟩ = some (.slice a3 m.vals.length c3) := chg_cell hb bx5 (fun h => by have := iv201 _ h; omega)
  replace bx6 : w24.cell? ⟨w.heap.size + 1, 1, none⟩ = some (.slice a4 m.arrs.length c4) := chg_cell hb bx6 (fun h => by have := iv201 _ h; omega)
  replace omz18 := omz18.keep hb (fun gq h h2 => by have := imz18 gq h; have := iv201 gq h2; omega)
  replace oez18 := own_keep oez18 hb (fun gq h h2 => by have := iez18 gq h; have := iv201 gq h2; omega)
  replace e0z18 : w24.cell? ⟨bbz18, 0, none⟩ = some (.slice Pz18 RM.vals.length Qz18) := chg_cell hb e0z18 (fun h => by have := iv201 _ h; omega)
  replace e1z18 : w24.cell? ⟨bbz18, 1, none⟩ = some (.slice Sz18 RM.arrs.length Tz18) := chg_cell hb e1z18 (fun h => by have := iv201 _ h; omega)
  replace oe199 := own_keep oe199 hb (fun gq h h2 => (fun gq h h2 => ap199.out gq h2 h) gq h h2)
  replace bx209 : w24.cell? ⟨w8.heap.size, 0, none⟩ = some (.slice P199 RM.vals.length Q199) := chg_cell hb bx209 (fun h => by have := iv201 _ h; omega)
  replace bx211 : w24.cell? ⟨w8.heap.size, 1, none⟩ = some (.slice S199 RM.arrs.length T199) := chg_cell hb bx211 (fun h => by have := iv201 _ h; omega)
  replace tot := tot.trans (hb.below w.heap.size (by have := tot.size; omega) (fun gq hgq h => by have := iv201 gq h; omega))
  clear hb
  clear om199
  clear lt319 lt320 lt321 lt322
  have lt325 := lt_of_cell bx2
  have lt326 := lt_of_cell bx5
  have lt327 := lt_of_cell e0z18
  have lt328 := lt_of_cell bx209
  go_wp2_with fail
  refine (markEventS_any _ L (1 + (RM.vals.length : Int) + (pre2 RM.arrs RM.arrs.length : Nat)) _ _ oe199 (by omega) (by omega) (by omega)).mono ?_
  rintro e w25 ⟨rfl, mg329, hb⟩
  have hsz330 := hb.size
  replace bf210 := chg_froz hb (lt_of_cell bx209) bf210 (fun h => by have := iv202 _ h; omega)
  replace bf212 := chg_froz hb (lt_of_cell bx211) bf212 (fun h => by have := iv202 _ h; omega)
  replace bx2 : w25.cell? ⟨w.heap.size, 0, none⟩ = some (.slice a0 c.vars.length c0) := chg_cell hb bx2 (fun h => by have := iv202 _ h; omega)
  replace bx3 : w25.cell? ⟨w.heap.size, 1, none⟩ = some (.slice a1 c.arrays.length c1) := chg_cell hb bx3 (fun h => by have := iv202 _ h; omega)
  replace bx4 : w25.cell? ⟨w.heap.size, 2, none⟩ = some (.slice a2 c.list.length c2) := chg_cell hb bx4 (fun h => by have := iv202 _ h; omega)
  replace bx5 : w25.cell? ⟨w.heap.size + 1, 0, none⟩ = some (.slice a3 m.vals.length c3) := chg_cell hb bx5 (fun h => by have := iv202 _ h; omega)
  replace bx6 : w25.cell? ⟨w.heap.size + 1, 1, none⟩ = some (.slice a4 m.arrs.length c4) := chg_cell hb bx6 (fun h => by have := iv202 _ h; omega)
  replace omz18 := omz18.keep hb (fun gq h h2 => by have := imz18 gq h; have := iv202 gq h2; omega)
  replace oez18 := own_keep oez18 hb (fun gq h h2 => by have := iez18 gq h; have := iv202 gq h2; omega)
  replace e0z18 : w25.cell? ⟨bbz18, 0, none⟩ = some (.slice Pz18 RM.vals.length Qz18) := chg_cell hb e0z18 (fun h => by have := iv202 _ h; omega)
  replace e1z18 : w25.cell? ⟨bbz18, 1, none⟩ = some (.slice Sz18 RM.arrs.length Tz18) := chg_cell hb e1z18 (fun h => by have := iv202 _ h; omega)
  replace bx209 : w25.cell? ⟨w8.heap.size, 0, none⟩ = some (.slice P199 RM.vals.length Q199) := chg_cell hb bx209 (fun h => by have := iv202 _ h; omega)
  replace bx211 : w25.cell? ⟨w8.heap.size, 1, none⟩ = some (.slice S199 RM.arrs.length T199) := chg_cell hb bx211 (fun h => by have := iv202 _ h; omega)
  replace mm323 := mm323.keep hb (fun gq h h2 => (fun gq h h2 => ap199.out gq h h2) gq h h2)
  replace tot := tot.trans (hb.below w.heap.size (by have := tot.size; omega) (fun gq hgq h => by have := iv202 gq h; omega))
  clear hb
  clear oe199
  clear lt325 lt326 lt327 lt328
  have lt331 := lt_of_cell bx2
  have lt332 := lt_of_cell bx5
  have lt333 := lt_of_cell e0z18
  have lt334 := lt_of_cell bx209
  go_wp2_with fail
  refine (heldMemory_any _ _ RM (1) _ (mm323.reads hK1 hK2 hK3) (by omega) (by omega)).mono ?_
  rintro e w26 ⟨rfl, hb⟩
  have hsz335 := hb.size
  replace bf210 := kept_froz hb (lt_of_cell bx209) bf210
  replace bf212 := kept_froz hb (lt_of_cell bx211) bf212
  replace bx2 : w26.cell? ⟨w.heap.size, 0, none⟩ = some (.slice a0 c.vars.length c0) := kept_cell hb bx2
  replace bx3 : w26.cell? ⟨w.heap.size, 1, none⟩ = some (.slice a1 c.arrays.length c1) := kept_cell hb bx3
  replace bx4 : w26.cell? ⟨w.heap.size, 2, none⟩ = some (.slice a2 c.list.length c2) := kept_cell hb bx4
  replace bx5 : w26.cell? ⟨w.heap.size + 1, 0, none⟩ = some (.slice a3 m.vals.length c3) := kept_cell hb bx5
  replace bx6 : w26.cell? ⟨w.heap.size + 1, 1, none⟩ = some (.slice a4 m.arrs.length c4) := kept_cell hb bx6
  replace omz18 := omz18.below hb
  replace oez18 := own_below oez18 hb
  replace e0z18 : w26.cell? ⟨bbz18, 0, none⟩ = some (.slice Pz18 RM.vals.length Qz18) := kept_cell hb e0z18
  replace e1z18 : w26.cell? ⟨bbz18, 1, none⟩ = some (.slice Sz18 RM.arrs.length Tz18) := kept_cell hb e1z18
  replace bx209 : w26.cell? ⟨w8.heap.size, 0, none⟩ = some (.slice P199 RM.vals.length Q199) := kept_cell hb bx209
  replace bx211 : w26.cell? ⟨w8.heap.size, 1, none⟩ = some (.slice S199 RM.arrs.length T199) := kept_cell hb bx211
  replace mm323 := mm323.below hb
  replace mg329 := own_below mg329 hb
  replace tot := btr tot hb
  clear hb
  clear lt331 lt332 lt333 lt334
  have lt336 := lt_of_cell bx2
  have lt337 := lt_of_cell bx5
  have lt338 := lt_of_cell e0z18
  have lt339 := lt_of_cell bx209
  go_wp2_with fail
  refine (heldEventS_b _ L.length (1 + (RM.vals.length : Int) + (pre2 RM.arrs RM.arrs.length : Nat)) _ (reads_of_owns mg329 (by omega)) (by omega) (by omega) (by omega)).mono ?_
  rintro e w27 ⟨rfl, hb⟩
  have hsz340 := hb.size
  replace bf210 := kept_froz hb (lt_of_cell bx209) bf210
  replace bf212 := kept_froz hb (lt_of_cell bx211) bf212
  replace bx2 : w27.cell? ⟨w.heap.size, 0, none⟩ = some (.slice a0 c.vars.length c0) := kept_cell hb bx2
  replace bx3 : w27.cell? ⟨w.heap.size, 1, none⟩ = some (.slice a1 c.arrays.length c1) := kept_cell hb bx3
  replace bx4 : w27.cell? ⟨w.heap.size, 2, none⟩ = some (.slice a2 c.list.length c2) := kept_cell hb bx4
  replace bx5 : w27.cell? ⟨w.heap.size + 1, 0, none⟩ = some (.slice a3 m.vals.length c3) := kept_cell hb bx5
  replace bx6 : w27.cell? ⟨w.heap.size + 1, 1, none⟩ = some (.slice a4 m.arrs.length c4) := kept_cell hb bx6
  replace omz18 := omz18.below hb
  replace oez18 := own_below oez18 hb
  replace e0z18 : w27.cell? ⟨bbz18, 0, none⟩ = some (.slice Pz18 RM.vals.length Qz18) := kept_cell hb e0z18
  replace e1z18 : w27.cell? ⟨bbz18, 1, none⟩ = some (.slice Sz18 RM.arrs.length Tz18) := kept_cell hb e1z18
  replace bx209 : w27.cell? ⟨w8.heap.size, 0, none⟩ = some (.slice P199 RM.vals.length Q199) := kept_cell hb bx209
  replace bx211 : w27.cell? ⟨w8.heap.size, 1, none⟩ = some (.slice S199 RM.arrs.length T199) := kept_cell hb bx211
  replace mm323 := mm323.below hb
  replace mg329 := own_below mg329 hb
  replace tot := btr tot hb
  clear hb
  clear lt336 lt337 lt338 lt339
  have lt341 := lt_of_cell bx2
  have lt342 := lt_of_cell bx5
  have lt343 := lt_of_cell e0z18
  have lt344 := lt_of_cell bx209
  go_upto_region 41 with (fail)
  clear lt341 lt342 lt343 lt344
  have lt345 := lt_of_cell bx2
  have lt346 := lt_of_cell bx5
  have lt347 := lt_of_cell e0z18
  have lt348 := lt_of_cell bx209
  go_cut [20, 21, 22] (fun s8 s9 s10 wx => ∃ (bb : Nat) (P S U : Option Addr) (Q T V : Nat) (us : List Value), s8 = .pointer (some ⟨bb, 0, none⟩) ∧ s9 = .slice U L.length V ∧ s10 = .bool ok ∧ w27.heap.size ≤ bb ∧ wx.cell? ⟨bb, 0, none⟩ = some (.slice P RM.vals.length Q) ∧ wx.cell? ⟨bb, 1, none⟩ = some (.slice S RM.arrs.length T) ∧ OwnM wx w27.heap.size (.slice P RM.vals.length Q) (.slice S RM.arrs.length T) us RM ∧ wx.ownsRow w27.heap.size 89 2 (.slice U L.length V) L.length (rows evc L) ∧ (∀ q, OwnBM (.slice P RM.vals.length Q) (.slice S RM.arrs.length T) us q → ¬ q = bb) ∧ (∀ q, (Value.slice U L.length V).ownBlock = some q → ¬ q = bb) ∧ Below w27.heap.size w27 wx)
  case first =>
    clear omz18 oez18 e0z18 e1z18 bx209 bf210 bx211 bf212 mm323 mg329
    clear lt345 lt346 lt347 lt348
    have lt350 := lt_of_cell bx2
    have lt351 := lt_of_cell bx5
    clear lt350 lt351
    have lt352 := lt_of_cell bx2
    have lt353 := lt_of_cell bx5
    refine wp_region_noPanic ?_
    refine wp_region_held_drew (S := (fun W' => W'.cell? ⟨w.heap.size, 0, none⟩ = some (.slice a0 c.vars.length c0) ∧ W'.cell? ⟨w.heap.size, 1, none⟩ = some (.slice a1 c.arrays.length c1) ∧ W'.cell? ⟨w.heap.size, 2, none⟩ = some (.slice a2 c.list.length c2) ∧ W'.cell? ⟨w.heap.size + 1, 0, none⟩ = some (.slice a3 m.vals.length c3) ∧ W'.cell? ⟨w.heap.size + 1, 1, none⟩ = some (.slice a4 m.arrs.length c4))) (by kernel_rfl) ⟨kept_cell (Below.drew (bself w27)) bx2, kept_cell (Below.drew (bself w27)) bx3, kept_cell (Below.drew (bself w27)) bx4, kept_cell (Below.drew (bself w27)) bx5, kept_cell (Below.drew (bself w27)) bx6⟩ (fun hHeld => ?_)
    obtain ⟨w28, hwd⟩ : ∃ X, X = World.drew w27 := ⟨_, rfl⟩
    rw [← hwd] at hHeld ⊢
    have hb : Below w27.heap.size w27 w28 := by rw [hwd]; exact Below.drew (bself _)
    clear hwd
    have hBn := btr (bself w27) hb
    have hsz354 := hb.size
    replace bx2 : w28.cell? ⟨w.heap.size, 0, none⟩ = some (.slice a0 c.vars.length c0) := kept_cell hb bx2
    replace bx3 : w28.cell? ⟨w.heap.size, 1, none⟩ = some (.slice a1 c.arrays.length c1) := kept_cell hb bx3
    replace bx4 : w28.cell? ⟨w.heap.size, 2, none⟩ = some (.slice a2 c.list.length c2) := kept_cell hb bx4
    replace bx5 : w28.cell? ⟨w.heap.size + 1, 0, none⟩ = some (.slice a3 m.vals.length c3) := kept_cell hb bx5
    replace bx6 : w28.cell? ⟨w.heap.size + 1, 1, none⟩ = some (.slice a4 m.arrs.length c4) := kept_cell hb bx6
    replace tot := btr tot hb
    clear hb
    have hB9 := hBn; clear hBn
    clear lt352 lt353
    have lt355 := lt_of_cell bx2
    have lt356 := lt_of_cell bx5
    refine take_d (i := 0) (d := 139) (v := ?_) rfl rfl (by kernel_rfl) (by kernel_rfl) (by kernel_rfl) (fun _ _ _ h => h) (Or.inl ⟨by rfl, ?_⟩) (by assumption) ?_
    rotate_left
    · intro W' hSw; (try dsimp only at hSw); obtain ⟨s0, s1, s2, s3, s4⟩ := hSw; go_simp; try with_reducible rfl
    try simp only [Act.put, List.setIfInBounds_toArray, List.set]
    refine take_d (i := 2) (d := 141) (v := ?_) rfl rfl (by kernel_rfl) (by kernel_rfl) (by kernel_rfl) (fun _ _ _ h => h) (Or.inl ⟨by rfl, ?_⟩) (by assumption) ?_
    rotate_left
    · intro W' hSw; (try dsimp only at hSw); obtain ⟨s0, s1, s2, s3, s4⟩ := hSw; go_simp; try with_reducible rfl
    try simp only [Act.put, List.setIfInBounds_toArray, List.set]
    refine take_d (i := 4) (d := 143) (v := ?_) rfl rfl (by kernel_rfl) (by kernel_rfl) (by kernel_rfl) (fun _ _ _ h => h) (Or.inl ⟨by rfl, ?_⟩) (by assumption) ?_
    rotate_left
    · intro W' hSw; (try dsimp only at hSw); obtain ⟨s0, s1, s2, s3, s4⟩ := hSw; go_simp; try with_reducible rfl
    try simp only [Act.put, List.setIfInBounds_toArray, List.set]
    refine wpAnyH_ready (rs := [1, 11]) (by kernel_rfl) (by simp) ?_
    refine AllReadyH.cons rfl (fun K hK => ?_) ?_
    · -- 1
      go_simp
      refine (toCode_any _ _ _ c _ (HR0.out _ tot) (by omega) (by omega) (by omega)).mono ?_
      rintro e w29 ⟨ua, ub, uc, rfl, oc7, hb⟩
      obtain ⟨pa7, qa7, pb7, qb7, pc7, qc7, rfl, rfl, rfl⟩ := oc7.shape
      have hBn := btr hB9 hb
      have hsz357 := hb.size
      replace bx2 : w29.cell? ⟨w.heap.size, 0, none⟩ = some (.slice a0 c.vars.length c0) := kept_cell hb bx2
      replace bx3 : w29.cell? ⟨w.heap.size, 1, none⟩ = some (.slice a1 c.arrays.length c1) := kept_cell hb bx3
      replace bx4 : w29.cell? ⟨w.heap.size, 2, none⟩ = some (.slice a2 c.list.length c2) := kept_cell hb bx4
      replace bx5 : w29.cell? ⟨w.heap.size + 1, 0, none⟩ = some (.slice a3 m.vals.length c3) := kept_cell hb bx5
      replace bx6 : w29.cell? ⟨w.heap.size + 1, 1, none⟩ = some (.slice a4 m.arrs.length c4) := kept_cell hb bx6
      replace tot := btr tot hb
      clear hb
      clear hB9
      have hB9 := hBn; clear hBn
      have iv358 := oc7.lt
      clear lt355 lt356
      have lt359 := lt_of_cell bx2
      have lt360 := lt_of_cell bx5
      refine hK.out _ _ ⟨bx2, bx3, bx4, bx5, bx6⟩ (fun hHeld => ?_)
      clear hK K
      try simp only [Act.put, List.setIfInBounds_toArray, List.set]
      refine wpAnyH_ready (rs := [3, 11]) (by kernel_rfl) (by simp) ?_
      refine AllReadyH.cons rfl (fun K hK => ?_) ?_
      · -- 3
        go_simp
        refine (toMemory_any _ _ m _ (HRM.out _ tot) (by omega) (by omega) (by omega)).mono ?_
        rintro e w30 ⟨ux, uy, us8, rfl, om8, hb⟩
        obtain ⟨px8, qx8, py8, qy8, rfl, rfl⟩ := om8.shape
        have hBn := btr hB9 hb
        have hsz361 := hb.size
        replace bx2 : w30.cell? ⟨w.heap.size, 0, none⟩ = some (.slice a0 c.vars.length c0) := kept_cell hb bx2
        replace bx3 : w30.cell? ⟨w.heap.size, 1, none⟩ = some (.slice a1 c.arrays.length c1) := kept_cell hb bx3
        replace bx4 : w30.cell? ⟨w.heap.size, 2, none⟩ = some (.slice a2 c.list.length c2) := kept_cell hb bx4
        replace bx5 : w30.cell? ⟨w.heap.size + 1, 0, none⟩ = some (.slice a3 m.vals.length c3) := kept_cell hb bx5
        replace bx6 : w30.cell? ⟨w.heap.size + 1, 1, none⟩ = some (.slice a4 m.arrs.length c4) := kept_cell hb bx6
        replace oc7 := oc7.below hb
        replace tot := btr tot hb
        clear hb
        clear hB9
        have hB9 := hBn; clear hBn
        have iv362 := om8.lt
        clear lt359 lt360
        have lt363 := lt_of_cell bx2
        have lt364 := lt_of_cell bx5
        refine hK.out _ _ ⟨bx2, bx3, bx4, bx5, bx6⟩ (fun hHeld => ?_)
        clear hK K
        try simp only [Act.put, List.setIfInBounds_toArray, List.set]
        refine wpAnyH_ready (rs := [5, 11]) (by kernel_rfl) (by simp) ?_
        refine AllReadyH.cons rfl (fun K hK => ?_) ?_
        · -- 5
          go_simp
          refine (toBoolS_any _ ws _ (HRW.out _ tot) (by omega)).mono ?_
          rintro e w31 ⟨uw, rfl, ow9, hb⟩
          obtain ⟨pw9, qw9, rfl⟩ := own_shape ow9
          have hBn := btr hB9 hb
          have hsz365 := hb.size
          replace bx2 : w31.cell? ⟨w.heap.size, 0, none⟩ = some (.slice a0 c.vars.length c0) := kept_cell hb bx2
          replace bx3 : w31.cell? ⟨w.heap.size, 1, none⟩ = some (.slice a1 c.arrays.length c1) := kept_cell hb bx3
          replace bx4 : w31.cell? ⟨w.heap.size, 2, none⟩ = some (.slice a2 c.list.length c2) := kept_cell hb bx4
          replace bx5 : w31.cell? ⟨w.heap.size + 1, 0, none⟩ = some (.slice a3 m.vals.length c3) := kept_cell hb bx5
          replace bx6 : w31.cell? ⟨w.heap.size + 1, 1, none⟩ = some (.slice a4 m.arrs.length c4) := kept_cell hb bx6
          replace oc7 := oc7.below hb
          replace om8 := om8.below hb
          replace tot := btr tot hb
          clear hb
          clear hB9
          have hB9 := hBn; clear hBn
          have iv366 := ow9.lt
          clear lt363 lt364
          have lt367 := lt_of_cell bx2
          have lt368 := lt_of_cell bx5
          refine hK.out _ _ ⟨bx2, bx3, bx4, bx5, bx6⟩ (fun hHeld => ?_)
          clear hK K
          try simp only [Act.put, List.setIfInBounds_toArray, List.set]
          refine wpAnyH_ready (rs := [6, 11]) (by kernel_rfl) (by simp) ?_
          refine AllReadyH.cons rfl (fun K hK => ?_) ?_
          · -- 6
            go_simp
            refine (HI.out _ _ _ _ _ _ (oc7.reads (by omega) (by omega) (by omega)) (om8.reads hm1 hm2 hm3) hm1 hm2 hm3 _ _ (reads_of_owns ow9 (by omega))).mono ?_
            rintro e w32 ⟨gx369, gy369, gu369, ge369, rfl, om369, oe369, hb⟩
            obtain ⟨P369, Q369, S369, T369, rfl, rfl⟩ := om369.shape
            obtain ⟨U369, V369, rfl⟩ := own_shape oe369
            have hBn := btr hB9 hb
            have hsz370 := hb.size
            replace bx2 : w32.cell? ⟨w.heap.size, 0, none⟩ = some (.slice a0 c.vars.length c0) := kept_cell hb bx2
            replace bx3 : w32.cell? ⟨w.heap.size, 1, none⟩ = some (.slice a1 c.arrays.length c1) := kept_cell hb bx3
            replace bx4 : w32.cell? ⟨w.heap.size, 2, none⟩ = some (.slice a2 c.list.length c2) := kept_cell hb bx4
            replace bx5 : w32.cell? ⟨w.heap.size + 1, 0, none⟩ = some (.slice a3 m.vals.length c3) := kept_cell hb bx5
            replace bx6 : w32.cell? ⟨w.heap.size + 1, 1, none⟩ = some (.slice a4 m.arrs.length c4) := kept_cell hb bx6
            replace oc7 := oc7.below hb
            replace om8 := om8.below hb
            replace ow9 := own_below ow9 hb
            replace tot := btr tot hb
            clear hb
            clear hB9
            have hB9 := hBn; clear hBn
            have ap369 := Lib.hid (mem_ev_apart om369 oe369)
            have iv371 := om369.lt
            have iv372 := oe369.lt
            clear lt367 lt368
            have lt373 := lt_of_cell bx2
            have lt374 := lt_of_cell bx5
            refine hK.out _ _ ⟨bx2, bx3, bx4, bx5, bx6⟩ (fun hHeld => ?_)
            clear hK K
            try simp only [Act.put, List.setIfInBounds_toArray, List.set]
            refine take_d (i := 7) (d := 138) (v := ?_) rfl rfl (by kernel_rfl) (by kernel_rfl) (by kernel_rfl) (fun _ _ _ h => h) (Or.inl ⟨by rfl, ?_⟩) (by assumption) ?_
            rotate_left
            · intro W' hSw; (try dsimp only at hSw); obtain ⟨s0, s1, s2, s3, s4⟩ := hSw; go_simp; try with_reducible rfl
            try simp only [Act.put, List.setIfInBounds_toArray, List.set]
            refine take_d (i := 8) (d := 146) (v := ?_) rfl rfl (by kernel_rfl) (by kernel_rfl) (by kernel_rfl) (fun _ _ _ h => h) (Or.inl ⟨by rfl, ?_⟩) (by assumption) ?_
            rotate_left
            · intro W' hSw; (try dsimp only at hSw); obtain ⟨s0, s1, s2, s3, s4⟩ := hSw; go_simp; try with_reducible rfl
            try simp only [Act.put, List.setIfInBounds_toArray, List.set]
            refine take_d (i := 9) (d := 147) (v := ?_) rfl rfl (by kernel_rfl) (by kernel_rfl) (by kernel_rfl) (fun _ _ _ h => h) (Or.inl ⟨by rfl, ?_⟩) (by assumption) ?_
            rotate_left
            · intro W' hSw; (try dsimp only at hSw); obtain ⟨s0, s1, s2, s3, s4⟩ := hSw; go_simp; try with_reducible rfl
            try simp only [Act.put, List.setIfInBounds_toArray, List.set]
            refine take_d (i := 10) (d := 148) (v := ?_) rfl rfl (by kernel_rfl) (by kernel_rfl) (by kernel_rfl) (fun _ _ _ h => h) (Or.inl ⟨by rfl, ?_⟩) (by assumption) ?_
            rotate_left
            · intro W' hSw; (try dsimp only at hSw); obtain ⟨s0, s1, s2, s3, s4⟩ := hSw; go_simp; try with_reducible rfl
            try simp only [Act.put, List.setIfInBounds_toArray, List.set]
            refine wpAnyH_ready (rs := [11]) (by kernel_rfl) (by simp) ?_
            refine AllReadyH.cons rfl (fun K hK => ?_) AllReadyH.nil
            go_simp
            obtain ⟨w33, hnw⟩ : ∃ X, X = (World.alloc w32 (.cells #[.slice none 0 0, .slice none 0 0] 37)) := ⟨_, rfl⟩
            have hb : Below (World.alloc w32 (.cells #[.slice none 0 0, .slice none 0 0] 37)).heap.size (World.alloc w32 (.cells #[.slice none 0 0, .slice none 0 0] 37)) w33 := by rw [hnw]; exact bself _
            have hBn := btr (bal hB9 (.cells #[.slice none 0 0, .slice none 0 0] 37)) hb
            have hsz375 := hb.size
            simp only [World.size_alloc] at hsz375
            replace bx2 : w33.cell? ⟨w.heap.size, 0, none⟩ = some (.slice a0 c.vars.length c0) := kept_cell hb (cell_al bx2 (.cells #[.slice none 0 0, .slice none 0 0] 37))
            replace bx3 : w33.cell? ⟨w.heap.size, 1, none⟩ = some (.slice a1 c.arrays.length c1) := kept_cell hb (cell_al bx3 (.cells #[.slice none 0 0, .slice none 0 0] 37))
            replace bx4 : w33.cell? ⟨w.heap.size, 2, none⟩ = some (.slice a2 c.list.length c2) := kept_cell hb (cell_al bx4 (.cells #[.slice none 0 0, .slice none 0 0] 37))
            replace bx5 : w33.cell? ⟨w.heap.size + 1, 0, none⟩ = some (.slice a3 m.vals.length c3) := kept_cell hb (cell_al bx5 (.cells #[.slice none 0 0, .slice none 0 0] 37))
            replace bx6 : w33.cell? ⟨w.heap.size + 1, 1, none⟩ = some (.slice a4 m.arrs.length c4) := kept_cell hb (cell_al bx6 (.cells #[.slice none 0 0, .slice none 0 0] 37))
            replace oc7 := (oc7.below (bal (bself _) (.cells #[.slice none 0 0, .slice none 0 0] 37))).below hb
            replace om8 := (om8.below (bal (bself _) (.cells #[.slice none 0 0, .slice none 0 0] 37))).below hb
            replace ow9 := own_below (own_below ow9 (bal (bself _) (.cells #[.slice none 0 0, .slice none 0 0] 37))) hb
            replace om369 := (om369.below (bal (bself _) (.cells #[.slice none 0 0, .slice none 0 0] 37))).below hb
            replace oe369 := own_below (own_below oe369 (bal (bself _) (.cells #[.slice none 0 0, .slice none 0 0] 37))) hb
            have bx376 : w33.cell? ⟨w32.heap.size, 0, none⟩ = some (.slice none 0 0) := kept_cell hb (cell_nw (by simp) (by rfl))
            have bf377 : w33.frozen? ⟨w32.heap.size, 0, none⟩ = false := kept_froz hb (by simp <;> omega) (froz_nw (by simp))
            have bx378 : w33.cell? ⟨w32.heap.size, 1, none⟩ = some (.slice none 0 0) := kept_cell hb (cell_nw (by simp) (by rfl))
            have bf379 : w33.frozen? ⟨w32.heap.size, 1, none⟩ = false := kept_froz hb (by simp <;> omega) (froz_nw (by simp))
            replace tot := btr (bal tot (.cells #[.slice none 0 0, .slice none 0 0] 37)) hb
            clear hb
            clear hB9
            have hB9 := hBn; clear hBn
            rw [← hnw]
            clear hnw
            clear lt373 lt374
            have lt380 := lt_of_cell bx2
            have lt381 := lt_of_cell bx5
            have lt382 := lt_of_cell bx376
            refine hK.out _ _ ⟨bx2, bx3, bx4, bx5, bx6⟩ (fun hHeld => ?_)
            clear hK K
            try simp only [Act.put, List.setIfInBounds_toArray, List.set]
            refine wpAnyH_ready (rs := [12]) (by kernel_rfl) (by simp) ?_
            refine AllReadyH.cons rfl (fun K hK => ?_) AllReadyH.nil
            go_simp
            obtain ⟨w34, hnw⟩ : ∃ X, X = (World.setCell (World.setCell w33 ⟨w32.heap.size, 0, none⟩ (.slice P369 RM.vals.length Q369)) ⟨w32.heap.size, 1, none⟩ (.slice S369 RM.arrs.length T369)) := ⟨_, rfl⟩
            have hb : Below (World.setCell (World.setCell w33 ⟨w32.heap.size, 0, none⟩ (.slice P369 RM.vals.length Q369)) ⟨w32.heap.size, 1, none⟩ (.slice S369 RM.arrs.length T369)).heap.size (World.setCell (World.setCell w33 ⟨w32.heap.size, 0, none⟩ (.slice P369 RM.vals.length Q369)) ⟨w32.heap.size, 1, none⟩ (.slice S369 RM.arrs.length T369)) w34 := by rw [hnw]; exact bself _
            have hBn := btr (bst (bst hB9 (w32.heap.size) 0 (by omega) (.slice P369 RM.vals.length Q369)) (w32.heap.size) 1 (by omega) (.slice S369 RM.arrs.length T369)) hb
            have hsz383 := hb.size
            simp only [World.size_setCell] at hsz383
            replace bf377 := kept_froz hb (lt_of_cell (cell_ne (b := (w32.heap.size)) (j := 1) (cell_at _ (w32.heap.size) 0 (.slice P369 RM.vals.length Q369) bx376) (by omega) (.slice S369 RM.arrs.length T369))) (froz_st (b := ⟨(w32.heap.size), 1, none⟩) (froz_st (b := ⟨(w32.heap.size), 0, none⟩) bf377 (.slice P369 RM.vals.length Q369)) (.slice S369 RM.arrs.length T369))
            replace bf379 := kept_froz hb (lt_of_cell (cell_at _ (w32.heap.size) 1 (.slice S369 RM.arrs.length T369) (cell_ne (b := (w32.heap.size)) (j := 0) bx378 (by omega) (.slice P369 RM.vals.length Q369)))) (froz_st (b := ⟨(w32.heap.size), 1, none⟩) (froz_st (b := ⟨(w32.heap.size), 0, none⟩) bf379 (.slice P369 RM.vals.length Q369)) (.slice S369 RM.arrs.length T369))
            replace bx2 : w34.cell? ⟨w.heap.size, 0, none⟩ = some (.slice a0 c.vars.length c0) := kept_cell hb (cell_ne (b := (w32.heap.size)) (j := 1) (cell_ne (b := (w32.heap.size)) (j := 0) bx2 (by omega) (.slice P369 RM.vals.length Q369)) (by omega) (.slice S369 RM.arrs.length T369))
            replace bx3 : w34.cell? ⟨w.heap.size, 1, none⟩ = some (.slice a1 c.arrays.length c1) := kept_cell hb (cell_ne (b := (w32.heap.size)) (j := 1) (cell_ne (b := (w32.heap.size)) (j := 0) bx3 (by omega) (.slice P369 RM.vals.length Q369)) (by omega) (.slice S369 RM.arrs.length T369))
            replace bx4 : w34.cell? ⟨w.heap.size, 2, none⟩ = some (.slice a2 c.list.length c2) := kept_cell hb (cell_ne (b := (w32.heap.size)) (j := 1) (cell_ne (b := (w32.heap.size)) (j := 0) bx4 (by omega) (.slice P369 RM.vals.length Q369)) (by omega) (.slice S369 RM.arrs.length T369))
            replace bx5 : w34.cell? ⟨w.heap.size + 1, 0, none⟩ = some (.slice a3 m.vals.length c3) := kept_cell hb (cell_ne (b := (w32.heap.size)) (j := 1) (cell_ne (b := (w32.heap.size)) (j := 0) bx5 (by omega) (.slice P369 RM.vals.length Q369)) (by omega) (.slice S369 RM.arrs.length T369))
            replace bx6 : w34.cell? ⟨w.heap.size + 1, 1, none⟩ = some (.slice a4 m.arrs.length c4) := kept_cell hb (cell_ne (b := (w32.heap.size)) (j := 1) (cell_ne (b := (w32.heap.size)) (j := 0) bx6 (by omega) (.slice P369 RM.vals.length Q369)) (by omega) (.slice S369 RM.arrs.length T369))
            replace oc7 := ((oc7.keep ((Chg.refl (fun gk => gk = (w32.heap.size)) _).setCell (w32.heap.size) 0 (.slice P369 RM.vals.length Q369) (fun _ => rfl)) (fun gq h h2 => by have := iv358 gq h; omega)).keep ((Chg.refl (fun gk => gk = (w32.heap.size)) _).setCell (w32.heap.size) 1 (.slice S369 RM.arrs.length T369) (fun _ => rfl)) (fun gq h h2 => by have := iv358 gq h; omega)).below hb
            replace om8 := ((om8.keep ((Chg.refl (fun gk => gk = (w32.heap.size)) _).setCell (w32.heap.size) 0 (.slice P369 RM.vals.length Q369) (fun _ => rfl)) (fun gq h h2 => by have := iv362 gq h; omega)).keep ((Chg.refl (fun gk => gk = (w32.heap.size)) _).setCell (w32.heap.size) 1 (.slice S369 RM.arrs.length T369) (fun _ => rfl)) (fun gq h h2 => by have := iv362 gq h; omega)).below hb
            replace ow9 := own_below (own_set (own_set ow9 (w32.heap.size) 0 (fun h => by have := iv366 _ h; omega) (.slice P369 RM.vals.length Q369)) (w32.heap.size) 1 (fun h => by have := iv366 _ h; omega) (.slice S369 RM.arrs.length T369)) hb
            replace om369 := ((om369.keep ((Chg.refl (fun gk => gk = (w32.heap.size)) _).setCell (w32.heap.size) 0 (.slice P369 RM.vals.length Q369) (fun _ => rfl)) (fun gq h h2 => by have := iv371 gq h; omega)).keep ((Chg.refl (fun gk => gk = (w32.heap.size)) _).setCell (w32.heap.size) 1 (.slice S369 RM.arrs.length T369) (fun _ => rfl)) (fun gq h h2 => by have := iv371 gq h; omega)).below hb
            replace oe369 := own_below (own_set (own_set oe369 (w32.heap.size) 0 (fun h => by have := iv372 _ h; omega) (.slice P369 RM.vals.length Q369)) (w32.heap.size) 1 (fun h => by have := iv372 _ h; omega) (.slice S369 RM.arrs.length T369)) hb
            replace bx376 : w34.cell? ⟨w32.heap.size, 0, none⟩ = some (.slice P369 RM.vals.length Q369) := kept_cell hb (cell_ne (b := (w32.heap.size)) (j := 1) (cell_at _ (w32.heap.size) 0 (.slice P369 RM.vals.length Q369) bx376) (by omega) (.slice S369 RM.arrs.length T369))
            replace bx378 : w34.cell? ⟨w32.heap.size, 1, none⟩ = some (.slice S369 RM.arrs.length T369) := kept_cell hb (cell_at _ (w32.heap.size) 1 (.slice S369 RM.arrs.length T369) (cell_ne (b := (w32.heap.size)) (j := 0) bx378 (by omega) (.slice P369 RM.vals.length Q369)))
            replace tot := btr (bst (bst tot (w32.heap.size) 0 (by omega) (.slice P369 RM.vals.length Q369)) (w32.heap.size) 1 (by omega) (.slice S369 RM.arrs.length T369)) hb
            clear hb
            clear hB9
            have hB9 := hBn; clear hBn
            rw [← hnw]
            clear hnw
            clear lt380 lt381 lt382
            have lt384 := lt_of_cell bx2
            have lt385 := lt_of_cell bx5
            have lt386 := lt_of_cell bx376
            refine hK.out _ _ ⟨bx2, bx3, bx4, bx5, bx6⟩ (fun hHeld => ?_)
            clear hK K
            try simp only [Act.put, List.setIfInBounds_toArray, List.set]
            refine take_d (i := 13) (d := 21) (v := ?_) rfl rfl (by kernel_rfl) (by kernel_rfl) (by kernel_rfl) (fun _ _ _ h => h) (Or.inl ⟨by rfl, ?_⟩) (by assumption) ?_
            rotate_left
            · intro W' hSw; (try dsimp only at hSw); obtain ⟨s0, s1, s2, s3, s4⟩ := hSw; go_simp; try with_reducible rfl
            try simp only [Act.put, List.setIfInBounds_toArray, List.set]
            refine take_d (i := 14) (d := 22) (v := ?_) rfl rfl (by kernel_rfl) (by kernel_rfl) (by kernel_rfl) (fun _ _ _ h => h) (Or.inl ⟨by rfl, ?_⟩) (by assumption) ?_
            rotate_left
            · intro W' hSw; (try dsimp only at hSw); obtain ⟨s0, s1, s2, s3, s4⟩ := hSw; go_simp; try with_reducible rfl
            try simp only [Act.put, List.setIfInBounds_toArray, List.set]
            refine wpAnyH_done (by kernel_rfl) ?_ _
            refine NoPanic.normal ?_
            clear hHeld
            go_wp2_with fail
            go_meet
            have lz387 := lt_of_cell bx376
            exact ⟨w32.heap.size, P369, S369, U369, Q369, T369, V369, gu369, rfl, rfl, rfl, by omega, bx376, bx378, om369.mono (by omega), own_mono oe369 (by omega), fun q h => by have := iv371 q h; omega, fun q h => by have := iv372 q h; omega, hB9⟩
          refine AllReadyH.cons rfl (fun K hK => ?_) AllReadyH.nil
          go_simp
          obtain ⟨w32, hnw⟩ : ∃ X, X = (World.alloc w31 (.cells #[.slice none 0 0, .slice none 0 0] 37)) := ⟨_, rfl⟩
          have hb : Below (World.alloc w31 (.cells #[.slice none 0 0, .slice none 0 0] 37)).heap.size (World.alloc w31 (.cells #[.slice none 0 0, .slice none 0 0] 37)) w32 := by rw [hnw]; exact bself _
          have hBn := btr (bal hB9 (.cells #[.slice none 0 0, .slice none 0 0] 37)) hb
          have hsz388 := hb.size
          simp only [World.size_alloc] at hsz388
          replace bx2 : w32.cell? ⟨w.heap.size, 0, none⟩ = some (.slice a0 c.vars.length c0) := kept_cell hb (cell_al bx2 (.cells #[.slice none 0 0, .slice none 0 0] 37))
          replace bx3 : w32.cell? ⟨w.heap.size, 1, none⟩ = some (.slice a1 c.arrays.length c1) := kept_cell hb (cell_al bx3 (.cells #[.slice none 0 0, .slice none 0 0] 37))
          replace bx4 : w32.cell? ⟨w.heap.size, 2, none⟩ = some (.slice a2 c.list.length c2) := kept_cell hb (cell_al bx4 (.cells #[.slice none 0 0, .slice none 0 0] 37))
          replace bx5 : w32.cell? ⟨w.heap.size + 1, 0, none⟩ = some (.slice a3 m.vals.length c3) := kept_cell hb (cell_al bx5 (.cells #[.slice none 0 0, .slice none 0 0] 37))
          replace bx6 : w32.cell? ⟨w.heap.size + 1, 1, none⟩ = some (.slice a4 m.arrs.length c4) := kept_cell hb (cell_al bx6 (.cells #[.slice none 0 0, .slice none 0 0] 37))
          replace oc7 := (oc7.below (bal (bself _) (.cells #[.slice none 0 0, .slice none 0 0] 37))).below hb
          replace om8 := (om8.below (bal (bself _) (.cells #[.slice none 0 0, .slice none 0 0] 37))).below hb
          replace ow9 := own_below (own_below ow9 (bal (bself _) (.cells #[.slice none 0 0, .slice none 0 0] 37))) hb
          have bx389 : w32.cell? ⟨w31.heap.size, 0, none⟩ = some (.slice none 0 0) := kept_cell hb (cell_nw (by simp) (by rfl))
          have bf390 : w32.frozen? ⟨w31.heap.size, 0, none⟩ = false := kept_froz hb (by simp <;> omega) (froz_nw (by simp))
          have bx391 : w32.cell? ⟨w31.heap.size, 1, none⟩ = some (.slice none 0 0) := kept_cell hb (cell_nw (by simp) (by rfl))
          have bf392 : w32.frozen? ⟨w31.heap.size, 1, none⟩ = false := kept_froz hb (by simp <;> omega) (froz_nw (by simp))
          replace tot := btr (bal tot (.cells #[.slice none 0 0, .slice none 0 0] 37)) hb
          clear hb
          clear hB9
          have hB9 := hBn; clear hBn
          rw [← hnw]
          clear hnw
          clear lt367 lt368
          have lt393 := lt_of_cell bx2
          have lt394 := lt_of_cell bx5
          have lt395 := lt_of_cell bx389
          refine hK.out _ _ ⟨bx2, bx3, bx4, bx5, bx6⟩ (fun hHeld => ?_)
          clear hK K
          try simp only [Act.put, List.setIfInBounds_toArray, List.set]
          refine wpAnyH_ready (rs := [6]) (by kernel_rfl) (by simp) ?_
          refine AllReadyH.cons rfl (fun K hK => ?_) AllReadyH.nil
          go_simp
          refine (HI.out _ _ _ _ _ _ (oc7.reads (by omega) (by omega) (by omega)) (om8.reads hm1 hm2 hm3) hm1 hm2 hm3 _ _ (reads_of_owns ow9 (by omega))).mono ?_
          rintro e w33 ⟨gx396, gy396, gu396, ge396, rfl, om396, oe396, hb⟩
          obtain ⟨P396, Q396, S396, T396, rfl, rfl⟩ := om396.shape
          obtain ⟨U396, V396, rfl⟩ := own_shape oe396
          have hBn := btr hB9 hb
          have hsz397 := hb.size
          replace bf390 := kept_froz hb (lt_of_cell bx389) bf390
          replace bf392 := kept_froz hb (lt_of_cell bx391) bf392
          replace bx2 : w33.cell? ⟨w.heap.size, 0, none⟩ = some (.slice a0 c.vars.length c0) := kept_cell hb bx2
          replace bx3 : w33.cell? ⟨w.heap.size, 1, none⟩ = some (.slice a1 c.arrays.length c1) := kept_cell hb bx3
          replace bx4 : w33.cell? ⟨w.heap.size, 2, none⟩ = some (.slice a2 c.list.length c2) := kept_cell hb bx4
          replace bx5 : w33.cell? ⟨w.heap.size + 1, 0, none⟩ = some (.slice a3 m.vals.length c3) := kept_cell hb bx5
          replace bx6 : w33.cell? ⟨w.heap.size + 1, 1, none⟩ = some (.slice a4 m.arrs.length c4) := kept_cell hb bx6
          replace oc7 := oc7.below hb
          replace om8 := om8.below hb
          replace ow9 := own_below ow9 hb
          replace bx389 : w33.cell? ⟨w31.heap.size, 0, none⟩ = some (.slice none 0 0) := kept_cell hb bx389
          replace bx391 : w33.cell? ⟨w31.heap.size, 1, none⟩ = some (.slice none 0 0) := kept_cell hb bx391
          replace tot := btr tot hb
          clear hb
          clear hB9
          have hB9 := hBn; clear hBn
          have ap396 := Lib.hid (mem_ev_apart om396 oe396)
          have iv398 := om396.lt
          have iv399 := oe396.lt
          clear lt393 lt394 lt395
          have lt400 := lt_of_cell bx2
          have lt401 := lt_of_cell bx5
          have lt402 := lt_of_cell bx389
          refine hK.out _ _ ⟨bx2, bx3, bx4, bx5, bx6⟩ (fun hHeld => ?_)
          clear hK K
          try simp only [Act.put, List.setIfInBounds_toArray, List.set]
          refine take_d (i := 7) (d := 138) (v := ?_) rfl rfl (by kernel_rfl) (by kernel_rfl) (by kernel_rfl) (fun _ _ _ h => h) (Or.inl ⟨by rfl, ?_⟩) (by assumption) ?_
          rotate_left
          · intro W' hSw; (try dsimp only at hSw); obtain ⟨s0, s1, s2, s3, s4⟩ := hSw; go_simp; try with_reducible rfl
          try simp only [Act.put, List.setIfInBounds_toArray, List.set]
          refine take_d (i := 8) (d := 146) (v := ?_) rfl rfl (by kernel_rfl) (by kernel_rfl) (by kernel_rfl) (fun _ _ _ h => h) (Or.inl ⟨by rfl, ?_⟩) (by assumption) ?_
          rotate_left
          · intro W' hSw; (try dsimp only at hSw); obtain ⟨s0, s1, s2, s3, s4⟩ := hSw; go_simp; try with_reducible rfl
          try simp only [Act.put, List.setIfInBounds_toArray, List.set]
          refine take_d (i := 9) (d := 147) (v := ?_) rfl rfl (by kernel_rfl) (by kernel_rfl) (by kernel_rfl) (fun _ _ _ h => h) (Or.inl ⟨by rfl, ?_⟩) (by assumption) ?_
          rotate_left
          · intro W' hSw; (try dsimp only at hSw); obtain ⟨s0, s1, s2, s3, s4⟩ := hSw; go_simp; try with_reducible rfl
          try simp only [Act.put, List.setIfInBounds_toArray, List.set]
          refine take_d (i := 10) (d := 148) (v := ?_) rfl rfl (by kernel_rfl) (by kernel_rfl) (by kernel_rfl) (fun _ _ _ h => h) (Or.inl ⟨by rfl, ?_⟩) (by assumption) ?_
          rotate_left
          · intro W' hSw; (try dsimp only at hSw); obtain ⟨s0, s1, s2, s3, s4⟩ := hSw; go_simp; try with_reducible rfl
          try simp only [Act.put, List.setIfInBounds_toArray, List.set]
          refine wpAnyH_ready (rs := [12]) (by kernel_rfl) (by simp) ?_
          refine AllReadyH.cons rfl (fun K hK => ?_) AllReadyH.nil
          go_simp
          obtain ⟨w34, hnw⟩ : ∃ X, X = (World.setCell (World.setCell w33 ⟨w31.heap.size, 0, none⟩ (.slice P396 RM.vals.length Q396)) ⟨w31.heap.size, 1, none⟩ (.slice S396 RM.arrs.length T396)) := ⟨_, rfl⟩
          have hb : Below (World.setCell (World.setCell w33 ⟨w31.heap.size, 0, none⟩ (.slice P396 RM.vals.length Q396)) ⟨w31.heap.size, 1, none⟩ (.slice S396 RM.arrs.length T396)).heap.size (World.setCell (World.setCell w33 ⟨w31.heap.size, 0, none⟩ (.slice P396 RM.vals.length Q396)) ⟨w31.heap.size, 1, none⟩ (.slice S396 RM.arrs.length T396)) w34 := by rw [hnw]; exact bself _
          have hBn := btr (bst (bst hB9 (w31.heap.size) 0 (by omega) (.slice P396 RM.vals.length Q396)) (w31.heap.size) 1 (by omega) (.slice S396 RM.arrs.length T396)) hb
          have hsz403 := hb.size
          simp only [World.size_setCell] at hsz403
          replace bf390 := kept_froz hb (lt_of_cell (cell_ne (b := (w31.heap.size)) (j := 1) (cell_at _ (w31.heap.size) 0 (.slice P396 RM.vals.length Q396) bx389) (by omega) (.slice S396 RM.arrs.length T396))) (froz_st (b := ⟨(w31.heap.size), 1, none⟩) (froz_st (b := ⟨(w31.heap.size), 0, none⟩) bf390 (.slice P396 RM.vals.length Q396)) (.slice S396 RM.arrs.length T396))
          replace bf392 := kept_froz hb (lt_of_cell (cell_at _ (w31.heap.size) 1 (.slice S396 RM.arrs.length T396) (cell_ne (b := (w31.heap.size)) (j := 0) bx391 (by omega) (.slice P396 RM.vals.length Q396)))) (froz_st (b := ⟨(w31.heap.size), 1, none⟩) (froz_st (b := ⟨(w31.heap.size), 0, none⟩) bf392 (.slice P396 RM.vals.length Q396)) (.slice S396 RM.arrs.length T396))
          replace bx2 : w34.cell? ⟨w.heap.size, 0, none⟩ = some (.slice a0 c.vars.length c0) := kept_cell hb (cell_ne (b := (w31.heap.size)) (j := 1) (cell_ne (b := (w31.heap.size)) (j := 0) bx2 (by omega) (.slice P396 RM.vals.length Q396)) (by omega) (.slice S396 RM.arrs.length T396))
          replace bx3 : w34.cell? ⟨w.heap.size, 1, none⟩ = some (.slice a1 c.arrays.length c1) := kept_cell hb (cell_ne (b := (w31.heap.size)) (j := 1) (cell_ne (b := (w31.heap.size)) (j := 0) bx3 (by omega) (.slice P396 RM.vals.length Q396)) (by omega) (.slice S396 RM.arrs.length T396))
          replace bx4 : w34.cell? ⟨w.heap.size, 2, none⟩ = some (.slice a2 c.list.length c2) := kept_cell hb (cell_ne (b := (w31.heap.size)) (j := 1) (cell_ne (b := (w31.heap.size)) (j := 0) bx4 (by omega) (.slice P396 RM.vals.length Q396)) (by omega) (.slice S396 RM.arrs.length T396))
          replace bx5 : w34.cell? ⟨w.heap.size + 1, 0, none⟩ = some (.slice a3 m.vals.length c3) := kept_cell hb (cell_ne (b := (w31.heap.size)) (j := 1) (cell_ne (b := (w31.heap.size)) (j := 0) bx5 (by omega) (.slice P396 RM.vals.length Q396)) (by omega) (.slice S396 RM.arrs.length T396))
          replace bx6 : w34.cell? ⟨w.heap.size + 1, 1, none⟩ = some (.slice a4 m.arrs.length c4) := kept_cell hb (cell_ne (b := (w31.heap.size)) (j := 1) (cell_ne (b := (w31.heap.size)) (j := 0) bx6 (by omega) (.slice P396 RM.vals.length Q396)) (by omega) (.slice S396 RM.arrs.length T396))
          replace oc7 := ((oc7.keep ((Chg.refl (fun gk => gk = (w31.heap.size)) _).setCell (w31.heap.size) 0 (.slice P396 RM.vals.length Q396) (fun _ => rfl)) (fun gq h h2 => by have := iv358 gq h; omega)).keep ((Chg.refl (fun gk => gk = (w31.heap.size)) _).setCell (w31.heap.size) 1 (.slice S396 RM.arrs.length T396) (fun _ => rfl)) (fun gq h h2 => by have := iv358 gq h; omega)).below hb
          replace om8 := ((om8.keep ((Chg.refl (fun gk => gk = (w31.heap.size)) _).setCell (w31.heap.size) 0 (.slice P396 RM.vals.length Q396) (fun _ => rfl)) (fun gq h h2 => by have := iv362 gq h; omega)).keep ((Chg.refl (fun gk => gk = (w31.heap.size)) _).setCell (w31.heap.size) 1 (.slice S396 RM.arrs.length T396) (fun _ => rfl)) (fun gq h h2 => by have := iv362 gq h; omega)).below hb
          replace ow9 := own_below (own_set (own_set ow9 (w31.heap.size) 0 (fun h => by have := iv366 _ h; omega) (.slice P396 RM.vals.length Q396)) (w31.heap.size) 1 (fun h => by have := iv366 _ h; omega) (.slice S396 RM.arrs.length T396)) hb
          replace bx389 : w34.cell? ⟨w31.heap.size, 0, none⟩ = some (.slice P396 RM.vals.length Q396) := kept_cell hb (cell_ne (b := (w31.heap.size)) (j := 1) (cell_at _ (w31.heap.size) 0 (.slice P396 RM.vals.length Q396) bx389) (by omega) (.slice S396 RM.arrs.length T396))
          replace bx391 : w34.cell? ⟨w31.heap.size, 1, none⟩ = some (.slice S396 RM.arrs.length T396) := kept_cell hb (cell_at _ (w31.heap.size) 1 (.slice S396 RM.arrs.length T396) (cell_ne (b := (w31.heap.size)) (j := 0) bx391 (by omega) (.slice P396 RM.vals.length Q396)))
          replace om396 := ((om396.keep ((Chg.refl (fun gk => gk = (w31.heap.size)) _).setCell (w31.heap.size) 0 (.slice P396 RM.vals.length Q396) (fun _ => rfl)) (fun gq h h2 => by have := iv398 gq h; omega)).keep ((Chg.refl (fun gk => gk = (w31.heap.size)) _).setCell (w31.heap.size) 1 (.slice S396 RM.arrs.length T396) (fun _ => rfl)) (fun gq h h2 => by have := iv398 gq h; omega)).below hb
          replace oe396 := own_below (own_set (own_set oe396 (w31.heap.size) 0 (fun h => by have := iv399 _ h; omega) (.slice P396 RM.vals.length Q396)) (w31.heap.size) 1 (fun h => by have := iv399 _ h; omega) (.slice S396 RM.arrs.length T396)) hb
          replace tot := btr (bst (bst tot (w31.heap.size) 0 (by omega) (.slice P396 RM.vals.length Q396)) (w31.heap.size) 1 (by omega) (.slice S396 RM.arrs.length T396)) hb
          clear hb
          clear hB9
          have hB9 := hBn; clear hBn
          rw [← hnw]
          clear hnw
          clear lt400 lt401 lt402
          have lt404 := lt_of_cell bx2
          have lt405 := lt_of_cell bx5
          have lt406 := lt_of_cell bx389
          refine hK.out _ _ ⟨bx2, bx3, bx4, bx5, bx6⟩ (fun hHeld => ?_)
          clear hK K
          try simp only [Act.put, List.setIfInBounds_toArray, List.set]
          refine take_d (i := 13) (d := 21) (v := ?_) rfl rfl (by kernel_rfl) (by kernel_rfl) (by kernel_rfl) (fun _ _ _ h => h) (Or.inl ⟨by rfl, ?_⟩) (by assumption) ?_
          rotate_left
          · intro W' hSw; (try dsimp only at hSw); obtain ⟨s0, s1, s2, s3, s4⟩ := hSw; go_simp; try with_reducible rfl
          try simp only [Act.put, List.setIfInBounds_toArray, List.set]
          refine take_d (i := 14) (d := 22) (v := ?_) rfl rfl (by kernel_rfl) (by kernel_rfl) (by kernel_rfl) (fun _ _ _ h => h) (Or.inl ⟨by rfl, ?_⟩) (by assumption) ?_
          rotate_left
          · intro W' hSw; (try dsimp only at hSw); obtain ⟨s0, s1, s2, s3, s4⟩ := hSw; go_simp; try with_reducible rfl
          try simp only [Act.put, List.setIfInBounds_toArray, List.set]
          refine wpAnyH_done (by kernel_rfl) ?_ _
          refine NoPanic.normal ?_
          clear hHeld
          go_wp2_with fail
          go_meet
          have lz407 := lt_of_cell bx389
          exact ⟨w31.heap.size, P396, S396, U396, Q396, T396, V396, gu396, rfl, rfl, rfl, by omega, bx389, bx391, om396.mono (by omega), own_mono oe396 (by omega), fun q h => by have := iv398 q h; omega, fun q h => by have := iv399 q h; omega, hB9⟩
        refine AllReadyH.cons rfl (fun K hK => ?_) AllReadyH.nil
        go_simp
        obtain ⟨w31, hnw⟩ : ∃ X, X = (World.alloc w30 (.cells #[.slice none 0 0, .slice none 0 0] 37)) := ⟨_, rfl⟩
        have hb : Below (World.alloc w30 (.cells #[.slice none 0 0, .slice none 0 0] 37)).heap.size (World.alloc w30 (.cells #[.slice none 0 0, .slice none 0 0] 37)) w31 := by rw [hnw]; exact bself _
        have hBn := btr (bal hB9 (.cells #[.slice none 0 0, .slice none 0 0] 37)) hb
        have hsz408 := hb.size
        simp only [World.size_alloc] at hsz408
        replace bx2 : w31.cell? ⟨w.heap.size, 0, none⟩ = some (.slice a0 c.vars.length c0) := kept_cell hb (cell_al bx2 (.cells #[.slice none 0 0, .slice none 0 0] 37))
        replace bx3 : w31.cell? ⟨w.heap.size, 1, none⟩ = some (.slice a1 c.arrays.length c1) := kept_cell hb (cell_al bx3 (.cells #[.slice none 0 0, .slice none 0 0] 37))
        replace bx4 : w31.cell? ⟨w.heap.size, 2, none⟩ = some (.slice a2 c.list.length c2) := kept_cell hb (cell_al bx4 (.cells #[.slice none 0 0, .slice none 0 0] 37))
        replace bx5 : w31.cell? ⟨w.heap.size + 1, 0, none⟩ = some (.slice a3 m.vals.length c3) := kept_cell hb (cell_al bx5 (.cells #[.slice none 0 0, .slice none 0 0] 37))
        replace bx6 : w31.cell? ⟨w.heap.size + 1, 1, none⟩ = some (.slice a4 m.arrs.length c4) := kept_cell hb (cell_al bx6 (.cells #[.slice none 0 0, .slice none 0 0] 37))
        replace oc7 := (oc7.below (bal (bself _) (.cells #[.slice none 0 0, .slice none 0 0] 37))).below hb
        replace om8 := (om8.below (bal (bself _) (.cells #[.slice none 0 0, .slice none 0 0] 37))).below hb
        have bx409 : w31.cell? ⟨w30.heap.size, 0, none⟩ = some (.slice none 0 0) := kept_cell hb (cell_nw (by simp) (by rfl))
        have bf410 : w31.frozen? ⟨w30.heap.size, 0, none⟩ = false := kept_froz hb (by simp <;> omega) (froz_nw (by simp))
        have bx411 : w31.cell? ⟨w30.heap.size, 1, none⟩ = some (.slice none 0 0) := kept_cell hb (cell_nw (by simp) (by rfl))
        have bf412 : w31.frozen? ⟨w30.heap.size, 1, none⟩ = false := kept_froz hb (by simp <;> omega) (froz_nw (by simp))
        replace tot := btr (bal tot (.cells #[.slice none 0 0, .slice none 0 0] 37)) hb
        clear hb
        clear hB9
        have hB9 := hBn; clear hBn
        rw [← hnw]
        clear hnw
        clear lt363 lt364
        have lt413 := lt_of_cell bx2
        have lt414 := lt_of_cell bx5
        have lt415 := lt_of_cell bx409
        refine hK.out _ _ ⟨bx2, bx3, bx4, bx5, bx6⟩ (fun hHeld => ?_)
        clear hK K
        try simp only [Act.put, List.setIfInBounds_toArray, List.set]
        refine wpAnyH_ready (rs := [5]) (by kernel_rfl) (by simp) ?_
        refine AllReadyH.cons rfl (fun K hK => ?_) AllReadyH.nil
        go_simp
        refine (toBoolS_any _ ws _ (HRW.out _ tot) (by omega)).mono ?_
        rintro e w32 ⟨uw, rfl, ow9, hb⟩
        obtain ⟨pw9, qw9, rfl⟩ := own_shape ow9
        have hBn := btr hB9 hb
        have hsz416 := hb.size
        replace bf410 := kept_froz hb (lt_of_cell bx409) bf410
        replace bf412 := kept_froz hb (lt_of_cell bx411) bf412
        replace bx2 : w32.cell? ⟨w.heap.size, 0, none⟩ = some (.slice a0 c.vars.length c0) := kept_cell hb bx2
        replace bx3 : w32.cell? ⟨w.heap.size, 1, none⟩ = some (.slice a1 c.arrays.length c1) := kept_cell hb bx3
        replace bx4 : w32.cell? ⟨w.heap.size, 2, none⟩ = some (.slice a2 c.list.length c2) := kept_cell hb bx4
        replace bx5 : w32.cell? ⟨w.heap.size + 1, 0, none⟩ = some (.slice a3 m.vals.length c3) := kept_cell hb bx5
        replace bx6 : w32.cell? ⟨w.heap.size + 1, 1, none⟩ = some (.slice a4 m.arrs.length c4) := kept_cell hb bx6
        replace oc7 := oc7.below hb
        replace om8 := om8.below hb
        replace bx409 : w32.cell? ⟨w30.heap.size, 0, none⟩ = some (.slice none 0 0) := kept_cell hb bx409
        replace bx411 : w32.cell? ⟨w30.heap.size, 1, none⟩ = some (.slice none 0 0) := kept_cell hb bx411
        replace tot := btr tot hb
        clear hb
        clear hB9
        have hB9 := hBn; clear hBn
        have iv417 := ow9.lt
        clear lt413 lt414 lt415
        have lt418 := lt_of_cell bx2
        have lt419 := lt_of_cell bx5
        have lt420 := lt_of_cell bx409
        refine hK.out _ _ ⟨bx2, bx3, bx4, bx5, bx6⟩ (fun hHeld => ?_)
        clear hK K
        try simp only [Act.put, List.setIfInBounds_toArray, List.set]
        refine wpAnyH_ready (rs := [6]) (by kernel_rfl) (by simp) ?_
        refine AllReadyH.cons rfl (fun K hK => ?_) AllReadyH.nil
        go_simp
        refine (HI.out _ _ _ _ _ _ (oc7.reads (by omega) (by omega) (by omega)) (om8.reads hm1 hm2 hm3) hm1 hm2 hm3 _ _ (reads_of_owns ow9 (by omega))).mono ?_
        rintro e w33 ⟨gx421, gy421, gu421, ge421, rfl, om421, oe421, hb⟩
        obtain ⟨P421, Q421, S421, T421, rfl, rfl⟩ := om421.shape
        obtain ⟨U421, V421, rfl⟩ := own_shape oe421
        have hBn := btr hB9 hb
        have hsz422 := hb.size
        replace bf410 := kept_froz hb (lt_of_cell bx409) bf410
        replace bf412 := kept_froz hb (lt_of_cell bx411) bf412
        replace bx2 : w33.cell? ⟨w.heap.size, 0, none⟩ = some (.slice a0 c.vars.length c0) := kept_cell hb bx2
        replace bx3 : w33.cell? ⟨w.heap.size, 1, none⟩ = some (.slice a1 c.arrays.length c1) := kept_cell hb bx3
        replace bx4 : w33.cell? ⟨w.heap.size, 2, none⟩ = some (.slice a2 c.list.length c2) := kept_cell hb bx4
        replace bx5 : w33.cell? ⟨w.heap.size + 1, 0, none⟩ = some (.slice a3 m.vals.length c3) := kept_cell hb bx5
        replace bx6 : w33.cell? ⟨w.heap.size + 1, 1, none⟩ = some (.slice a4 m.arrs.length c4) := kept_cell hb bx6
        replace oc7 := oc7.below hb
        replace om8 := om8.below hb
        replace bx409 : w33.cell? ⟨w30.heap.size, 0, none⟩ = some (.slice none 0 0) := kept_cell hb bx409
        replace bx411 : w33.cell? ⟨w30.heap.size, 1, none⟩ = some (.slice none 0 0) := kept_cell hb bx411
        replace ow9 := own_below ow9 hb
        replace tot := btr tot hb
        clear hb
        clear hB9
        have hB9 := hBn; clear hBn
        have ap421 := Lib.hid (mem_ev_apart om421 oe421)
        have iv423 := om421.lt
        have iv424 := oe421.lt
        clear lt418 lt419 lt420
        have lt425 := lt_of_cell bx2
        have lt426 := lt_of_cell bx5
        have lt427 := lt_of_cell bx409
        refine hK.out _ _ ⟨bx2, bx3, bx4, bx5, bx6⟩ (fun hHeld => ?_)
        clear hK K
        try simp only [Act.put, List.setIfInBounds_toArray, List.set]
        refine take_d (i := 7) (d := 138) (v := ?_) rfl rfl (by kernel_rfl) (by kernel_rfl) (by kernel_rfl) (fun _ _ _ h => h) (Or.inl ⟨by rfl, ?_⟩) (by assumption) ?_
        rotate_left
        · intro W' hSw; (try dsimp only at hSw); obtain ⟨s0, s1, s2, s3, s4⟩ := hSw; go_simp; try with_reducible rfl
        try simp only [Act.put, List.setIfInBounds_toArray, List.set]
        refine take_d (i := 8) (d := 146) (v := ?_) rfl rfl (by kernel_rfl) (by kernel_rfl) (by kernel_rfl) (fun _ _ _ h => h) (Or.inl ⟨by rfl, ?_⟩) (by assumption) ?_
        rotate_left
        · intro W' hSw; (try dsimp only at hSw); obtain ⟨s0, s1, s2, s3, s4⟩ := hSw; go_simp; try with_reducible rfl
        try simp only [Act.put, List.setIfInBounds_toArray, List.set]
        refine take_d (i := 9) (d := 147) (v := ?_) rfl rfl (by kernel_rfl) (by kernel_rfl) (by kernel_rfl) (fun _ _ _ h => h) (Or.inl ⟨by rfl, ?_⟩) (by assumption) ?_
        rotate_left
        · intro W' hSw; (try dsimp only at hSw); obtain ⟨s0, s1, s2, s3, s4⟩ := hSw; go_simp; try with_reducible rfl
        try simp only [Act.put, List.setIfInBounds_toArray, List.set]
        refine take_d (i := 10) (d := 148) (v := ?_) rfl rfl (by kernel_rfl) (by kernel_rfl) (by kernel_rfl) (fun _ _ _ h => h) (Or.inl ⟨by rfl, ?_⟩) (by assumption) ?_
        rotate_left
        · intro W' hSw; (try dsimp only at hSw); obtain ⟨s0, s1, s2, s3, s4⟩ := hSw; go_simp; try with_reducible rfl
        try simp only [Act.put, List.setIfInBounds_toArray, List.set]
        refine wpAnyH_ready (rs := [12]) (by kernel_rfl) (by simp) ?_
        refine AllReadyH.cons rfl (fun K hK => ?_) AllReadyH.nil
        go_simp
        obtain ⟨w34, hnw⟩ : ∃ X, X = (World.setCell (World.setCell w33 ⟨w30.heap.size, 0, none⟩ (.slice P421 RM.vals.length Q421)) ⟨w30.heap.size, 1, none⟩ (.slice S421 RM.arrs.length T421)) := ⟨_, rfl⟩
        have hb : Below (World.setCell (World.setCell w33 ⟨w30.heap.size, 0, none⟩ (.slice P421 RM.vals.length Q421)) ⟨w30.heap.size, 1, none⟩ (.slice S421 RM.arrs.length T421)).heap.size (World.setCell (World.setCell w33 ⟨w30.heap.size, 0, none⟩ (.slice P421 RM.vals.length Q421)) ⟨w30.heap.size, 1, none⟩ (.slice S421 RM.arrs.length T421)) w34 := by rw [hnw]; exact bself _
        have hBn := btr (bst (bst hB9 (w30.heap.size) 0 (by omega) (.slice P421 RM.vals.length Q421)) (w30.heap.size) 1 (by omega) (.slice S421 RM.arrs.length T421)) hb
        have hsz428 := hb.size
        simp only [World.size_setCell] at hsz428
        replace bf410 := kept_froz hb (lt_of_cell (cell_ne (b := (w30.heap.size)) (j := 1) (cell_at _ (w30.heap.size) 0 (.slice P421 RM.vals.length Q421) bx409) (by omega) (.slice S421 RM.arrs.length T421))) (froz_st (b := ⟨(w30.heap.size), 1, none⟩) (froz_st (b := ⟨(w30.heap.size), 0, none⟩) bf410 (.slice P421 RM.vals.length Q421)) (.slice S421 RM.arrs.length T421))
        replace bf412 := kept_froz hb (lt_of_cell (cell_at _ (w30.heap.size) 1 (.slice S421 RM.arrs.length T421) (cell_ne (b := (w30.heap.size)) (j := 0) bx411 (by omega) (.slice P421 RM.vals.length Q421)))) (froz_st (b := ⟨(w30.heap.size), 1, none⟩) (froz_st (b := ⟨(w30.heap.size), 0, none⟩) bf412 (.slice P421 RM.vals.length Q421)) (.slice S421 RM.arrs.length T421))
        replace bx2 : w34.cell? ⟨w.heap.size, 0, none⟩ = some (.slice a0 c.vars.length c0) := kept_cell hb (cell_ne (b := (w30.heap.size)) (j := 1) (cell_ne (b := (w30.heap.size)) (j := 0) bx2 (by omega) (.slice P421 RM.vals.length Q421)) (by omega) (.slice S421 RM.arrs.length T421))
        replace bx3 : w34.cell? ⟨w.heap.size, 1, none⟩ = some (.slice a1 c.arrays.length c1) := kept_cell hb (cell_ne (b := (w30.heap.size)) (j := 1) (cell_ne (b := (w30.heap.size)) (j := 0) bx3 (by omega) (.slice P421 RM.vals.length Q421)) (by omega) (.slice S421 RM.arrs.length T421))
        replace bx4 : w34.cell? ⟨w.heap.size, 2, none⟩ = some (.slice a2 c.list.length c2) := kept_cell hb (cell_ne (b := (w30.heap.size)) (j := 1) (cell_ne (b := (w30.heap.size)) (j := 0) bx4 (by omega) (.slice P421 RM.vals.length Q421)) (by omega) (.slice S421 RM.arrs.length T421))
        replace bx5 : w34.cell? ⟨w.heap.size + 1, 0, none⟩ = some (.slice a3 m.vals.length c3) := kept_cell hb (cell_ne (b := (w30.heap.size)) (j := 1) (cell_ne (b := (w30.heap.size)) (j := 0) bx5 (by omega) (.slice P421 RM.vals.length Q421)) (by omega) (.slice S421 RM.arrs.length T421))
        replace bx6 : w34.cell? ⟨w.heap.size + 1, 1, none⟩ = some (.slice a4 m.arrs.length c4) := kept_cell hb (cell_ne (b := (w30.heap.size)) (j := 1) (cell_ne (b := (w30.heap.size)) (j := 0) bx6 (by omega) (.slice P421 RM.vals.length Q421)) (by omega) (.slice S421 RM.arrs.length T421))
        replace oc7 := ((oc7.keep ((Chg.refl (fun gk => gk = (w30.heap.size)) _).setCell (w30.heap.size) 0 (.slice P421 RM.vals.length Q421) (fun _ => rfl)) (fun gq h h2 => by have := iv358 gq h; omega)).keep ((Chg.refl (fun gk => gk = (w30.heap.size)) _).setCell (w30.heap.size) 1 (.slice S421 RM.arrs.length T421) (fun _ => rfl)) (fun gq h h2 => by have := iv358 gq h; omega)).below hb
        replace om8 := ((om8.keep ((Chg.refl (fun gk => gk = (w30.heap.size)) _).setCell (w30.heap.size) 0 (.slice P421 RM.vals.length Q421) (fun _ => rfl)) (fun gq h h2 => by have := iv362 gq h; omega)).keep ((Chg.refl (fun gk => gk = (w30.heap.size)) _).setCell (w30.heap.size) 1 (.slice S421 RM.arrs.length T421) (fun _ => rfl)) (fun gq h h2 => by have := iv362 gq h; omega)).below hb
        replace bx409 : w34.cell? ⟨w30.heap.size, 0, none⟩ = some (.slice P421 RM.vals.length Q421) := kept_cell hb (cell_ne (b := (w30.heap.size)) (j := 1) (cell_at _ (w30.heap.size) 0 (.slice P421 RM.vals.length Q421) bx409) (by omega) (.slice S421 RM.arrs.length T421))
        replace bx411 : w34.cell? ⟨w30.heap.size, 1, none⟩ = some (.slice S421 RM.arrs.length T421) := kept_cell hb (cell_at _ (w30.heap.size) 1 (.slice S421 RM.arrs.length T421) (cell_ne (b := (w30.heap.size)) (j := 0) bx411 (by omega) (.slice P421 RM.vals.length Q421)))
        replace ow9 := own_below (own_set (own_set ow9 (w30.heap.size) 0 (fun h => by have := iv417 _ h; omega) (.slice P421 RM.vals.length Q421)) (w30.heap.size) 1 (fun h => by have := iv417 _ h; omega) (.slice S421 RM.arrs.length T421)) hb
        replace om421 := ((om421.keep ((Chg.refl (fun gk => gk = (w30.heap.size)) _).setCell (w30.heap.size) 0 (.slice P421 RM.vals.length Q421) (fun _ => rfl)) (fun gq h h2 => by have := iv423 gq h; omega)).keep ((Chg.refl (fun gk => gk = (w30.heap.size)) _).setCell (w30.heap.size) 1 (.slice S421 RM.arrs.length T421) (fun _ => rfl)) (fun gq h h2 => by have := iv423 gq h; omega)).below hb
        replace oe421 := own_below (own_set (own_set oe421 (w30.heap.size) 0 (fun h => by have := iv424 _ h; omega) (.slice P421 RM.vals.length Q421)) (w30.heap.size) 1 (fun h => by have := iv424 _ h; omega) (.slice S421 RM.arrs.length T421)) hb
        replace tot := btr (bst (bst tot (w30.heap.size) 0 (by omega) (.slice P421 RM.vals.length Q421)) (w30.heap.size) 1 (by omega) (.slice S421 RM.arrs.length T421)) hb
        clear hb
        clear hB9
        have hB9 := hBn; clear hBn
        rw [← hnw]
        clear hnw
        clear lt425 lt426 lt427
        have lt429 := lt_of_cell bx2
        have lt430 := lt_of_cell bx5
        have lt431 := lt_of_cell bx409
        refine hK.out _ _ ⟨bx2, bx3, bx4, bx5, bx6⟩ (fun hHeld => ?_)
        clear hK K
        try simp only [Act.put, List.setIfInBounds_toArray, List.set]
        refine take_d (i := 13) (d := 21) (v := ?_) rfl rfl (by kernel_rfl) (by kernel_rfl) (by kernel_rfl) (fun _ _ _ h => h) (Or.inl ⟨by rfl, ?_⟩) (by assumption) ?_
        rotate_left
        · intro W' hSw; (try dsimp only at hSw); obtain ⟨s0, s1, s2, s3, s4⟩ := hSw; go_simp; try with_reducible rfl
        try simp only [Act.put, List.setIfInBounds_toArray, List.set]
        refine take_d (i := 14) (d := 22) (v := ?_) rfl rfl (by kernel_rfl) (by kernel_rfl) (by kernel_rfl) (fun _ _ _ h => h) (Or.inl ⟨by rfl, ?_⟩) (by assumption) ?_
        rotate_left
        · intro W' hSw; (try dsimp only at hSw); obtain ⟨s0, s1, s2, s3, s4⟩ := hSw; go_simp; try with_reducible rfl
        try simp only [Act.put, List.setIfInBounds_toArray, List.set]
        refine wpAnyH_done (by kernel_rfl) ?_ _
        refine NoPanic.normal ?_
        clear hHeld
        go_wp2_with fail
        go_meet
        have lz432 := lt_of_cell bx409
        exact ⟨w30.heap.size, P421, S421, U421, Q421, T421, V421, gu421, rfl, rfl, rfl, by omega, bx409, bx411, om421.mono (by omega), own_mono oe421 (by omega), fun q h => by have := iv423 q h; omega, fun q h => by have := iv424 q h; omega, hB9⟩
      refine AllReadyH.cons rfl (fun K hK => ?_) AllReadyH.nil
      go_simp
      obtain ⟨w30, hnw⟩ : ∃ X, X = (World.alloc w29 (.cells #[.slice none 0 0, .slice none 0 0] 37)) := ⟨_, rfl⟩
      have hb : Below (World.alloc w29 (.cells #[.slice none 0 0, .slice none 0 0] 37)).heap.size (World.alloc w29 (.cells #[.slice none 0 0, .slice none 0 0] 37)) w30 := by rw [hnw]; exact bself _
      have hBn := btr (bal hB9 (.cells #[.slice none 0 0, .slice none 0 0] 37)) hb
      have hsz433 := hb.size
      simp only [World.size_alloc] at hsz433
      replace bx2 : w30.cell? ⟨w.heap.size, 0, none⟩ = some (.slice a0 c.vars.length c0) := kept_cell hb (cell_al bx2 (.cells #[.slice none 0 0, .slice none 0 0] 37))
      replace bx3 : w30.cell? ⟨w.heap.size, 1, none⟩ = some (.slice a1 c.arrays.length c1) := kept_cell hb (cell_al bx3 (.cells #[.slice none 0 0, .slice none 0 0] 37))
      replace bx4 : w30.cell? ⟨w.heap.size, 2, none⟩ = some (.slice a2 c.list.length c2) := kept_cell hb (cell_al bx4 (.cells #[.slice none 0 0, .slice none 0 0] 37))
      replace bx5 : w30.cell? ⟨w.heap.size + 1, 0, none⟩ = some (.slice a3 m.vals.length c3) := kept_cell hb (cell_al bx5 (.cells #[.slice none 0 0, .slice none 0 0] 37))
      replace bx6 : w30.cell? ⟨w.heap.size + 1, 1, none⟩ = some (.slice a4 m.arrs.length c4) := kept_cell hb (cell_al bx6 (.cells #[.slice none 0 0, .slice none 0 0] 37))
      replace oc7 := (oc7.below (bal (bself _) (.cells #[.slice none 0 0, .slice none 0 0] 37))).below hb
      have bx434 : w30.cell? ⟨w29.heap.size, 0, none⟩ = some (.slice none 0 0) := kept_cell hb (cell_nw (by simp) (by rfl))
      have bf435 : w30.frozen? ⟨w29.heap.size, 0, none⟩ = false := kept_froz hb (by simp <;> omega) (froz_nw (by simp))
      have bx436 : w30.cell? ⟨w29.heap.size, 1, none⟩ = some (.slice none 0 0) := kept_cell hb (cell_nw (by simp) (by rfl))
      have bf437 : w30.frozen? ⟨w29.heap.size, 1, none⟩ = false := kept_froz hb (by simp <;> omega) (froz_nw (by simp))
      replace tot := btr (bal tot (.cells #[.slice none 0 0, .slice none 0 0] 37)) hb
      clear hb
      clear hB9
      have hB9 := hBn; clear hBn
      rw [← hnw]
      clear hnw
      clear lt359 lt360
      have lt438 := lt_of_cell bx2
      have lt439 := lt_of_cell bx5
      have lt440 := lt_of_cell bx434
      refine hK.out _ _ ⟨bx2, bx3, bx4, bx5, bx6⟩ (fun hHeld => ?_)
      clear hK K
      try simp only [Act.put, List.setIfInBounds_toArray, List.set]
      refine wpAnyH_ready (rs := [3]) (by kernel_rfl) (by simp) ?_
      refine AllReadyH.cons rfl (fun K hK => ?_) AllReadyH.nil
      go_simp
      refine (toMemory_any _ _ m _ (HRM.out _ tot) (by omega) (by omega) (by omega)).mono ?_
      rintro e w31 ⟨ux, uy, us8, rfl, om8, hb⟩
      obtain ⟨px8, qx8, py8, qy8, rfl, rfl⟩ := om8.shape
      have hBn := btr hB9 hb
      have hsz441 := hb.size
      replace bf435 := kept_froz hb (lt_of_cell bx434) bf435
      replace bf437 := kept_froz hb (lt_of_cell bx436) bf437
      replace bx2 : w31.cell? ⟨w.heap.size, 0, none⟩ = some (.slice a0 c.vars.length c0) := kept_cell hb bx2
      replace bx3 : w31.cell? ⟨w.heap.size, 1, none⟩ = some (.slice a1 c.arrays.length c1) := kept_cell hb bx3
      replace bx4 : w31.cell? ⟨w.heap.size, 2, none⟩ = some (.slice a2 c.list.length c2) := kept_cell hb bx4
      replace bx5 : w31.cell? ⟨w.heap.size + 1, 0, none⟩ = some (.slice a3 m.vals.length c3) := kept_cell hb bx5
      replace bx6 : w31.cell? ⟨w.heap.size + 1, 1, none⟩ = some (.slice a4 m.arrs.length c4) := kept_cell hb bx6
      replace oc7 := oc7.below hb
      replace bx434 : w31.cell? ⟨w29.heap.size, 0, none⟩ = some (.slice none 0 0) := kept_cell hb bx434
      replace bx436 : w31.cell? ⟨w29.heap.size, 1, none⟩ = some (.slice none 0 0) := kept_cell hb bx436
      replace tot := btr tot hb
      clear hb
      clear hB9
      have hB9 := hBn; clear hBn
      have iv442 := om8.lt
      clear lt438 lt439 lt440
      have lt443 := lt_of_cell bx2
      have lt444 := lt_of_cell bx5
      have lt445 := lt_of_cell bx434
      refine hK.out _ _ ⟨bx2, bx3, bx4, bx5, bx6⟩ (fun hHeld => ?_)
      clear hK K
      try simp only [Act.put, List.setIfInBounds_toArray, List.set]
      refine wpAnyH_ready (rs := [5]) (by kernel_rfl) (by simp) ?_
      refine AllReadyH.cons rfl (fun K hK => ?_) AllReadyH.nil
      go_simp
      refine (toBoolS_any _ ws _ (HRW.out _ tot) (by omega)).mono ?_
      rintro e w32 ⟨uw, rfl, ow9, hb⟩
      obtain ⟨pw9, qw9, rfl⟩ := own_shape ow9
      have hBn := btr hB9 hb
      have hsz446 := hb.size
      replace bf435 := kept_froz hb (lt_of_cell bx434) bf435
      replace bf437 := kept_froz hb (lt_of_cell bx436) bf437
      replace bx2 : w32.cell? ⟨w.heap.size, 0, none⟩ = some (.slice a0 c.vars.length c0) := kept_cell hb bx2
      replace bx3 : w32.cell? ⟨w.heap.size, 1, none⟩ = some (.slice a1 c.arrays.length c1) := kept_cell hb bx3
      replace bx4 : w32.cell? ⟨w.heap.size, 2, none⟩ = some (.slice a2 c.list.length c2) := kept_cell hb bx4
      replace bx5 : w32.cell? ⟨w.heap.size + 1, 0, none⟩ = some (.slice a3 m.vals.length c3) := kept_cell hb bx5
      replace bx6 : w32.cell? ⟨w.heap.size + 1, 1, none⟩ = some (.slice a4 m.arrs.length c4) := kept_cell hb bx6
      replace oc7 := oc7.below hb
      replace bx434 : w32.cell? ⟨w29.heap.size, 0, none⟩ = some (.slice none 0 0) := kept_cell hb bx434
      replace bx436 : w32.cell? ⟨w29.heap.size, 1, none⟩ = some (.slice none 0 0) := kept_cell hb bx436
      replace om8 := om8.below hb
      replace tot := btr tot hb
      clear hb
      clear hB9
      have hB9 := hBn; clear hBn
      have iv447 := ow9.lt
      clear lt443 lt444 lt445
      have lt448 := lt_of_cell bx2
      have lt449 := lt_of_cell bx5
      have lt450 := lt_of_cell bx434
      refine hK.out _ _ ⟨bx2, bx3, bx4, bx5, bx6⟩ (fun hHeld => ?_)
      clear hK K
      try simp only [Act.put, List.setIfInBounds_toArray, List.set]
      refine wpAnyH_ready (rs := [6]) (by kernel_rfl) (by simp) ?_
      refine AllReadyH.cons rfl (fun K hK => ?_) AllReadyH.nil
      go_simp
      refine (HI.out _ _ _ _ _ _ (oc7.reads (by omega) (by omega) (by omega)) (om8.reads hm1 hm2 hm3) hm1 hm2 hm3 _ _ (reads_of_owns ow9 (by omega))).mono ?_
      rintro e w33 ⟨gx451, gy451, gu451, ge451, rfl, om451, oe451, hb⟩
      obtain ⟨P451, Q451, S451, T451, rfl, rfl⟩ := om451.shape
      obtain ⟨U451, V451, rfl⟩ := own_shape oe451
      have hBn := btr hB9 hb
      have hsz452 := hb.size
      replace bf435 := kept_froz hb (lt_of_cell bx434) bf435
      replace bf437 := kept_froz hb (lt_of_cell bx436) bf437
      replace bx2 : w33.cell? ⟨w.heap.size, 0, none⟩ = some (.slice a0 c.vars.length c0) := kept_cell hb bx2
      replace bx3 : w33.cell? ⟨w.heap.size, 1, none⟩ = some (.slice a1 c.arrays.length c1) := kept_cell hb bx3
      replace bx4 : w33.cell? ⟨w.heap.size, 2, none⟩ = some (.slice a2 c.list.length c2) := kept_cell hb bx4
      replace bx5 : w33.cell? ⟨w.heap.size + 1, 0, none⟩ = some (.slice a3 m.vals.length c3) := kept_cell hb bx5
      replace bx6 : w33.cell? ⟨w.heap.size + 1, 1, none⟩ = some (.slice a4 m.arrs.length c4) := kept_cell hb bx6
      replace oc7 := oc7.below hb
      replace bx434 : w33.cell? ⟨w29.heap.size, 0, none⟩ = some (.slice none 0 0) := kept_cell hb bx434
      replace bx436 : w33.cell? ⟨w29.heap.size, 1, none⟩ = some (.slice none 0 0) := kept_cell hb bx436
      replace om8 := om8.below hb
      replace ow9 := own_below ow9 hb
      replace tot := btr tot hb
      clear hb
      clear hB9
      have hB9 := hBn; clear hBn
      have ap451 := Lib.hid (mem_ev_apart om451 oe451)
      have iv453 := om451.lt
      have iv454 := oe451.lt
      clear lt448 lt449 lt450
      have lt455 := lt_of_cell bx2
      have lt456 := lt_of_cell bx5
      have lt457 := lt_of_cell bx434
      refine hK.out _ _ ⟨bx2, bx3, bx4, bx5, bx6⟩ (fun hHeld => ?_)
      clear hK K
      try simp only [Act.put, List.setIfInBounds_toArray, List.set]
      refine take_d (i := 7) (d := 138) (v := ?_) rfl rfl (by kernel_rfl) (by kernel_rfl) (by kernel_rfl) (fun _ _ _ h => h) (Or.inl ⟨by rfl, ?_⟩) (by assumption) ?_
      rotate_left
      · intro W' hSw; (try dsimp only at hSw); obtain ⟨s0, s1, s2, s3, s4⟩ := hSw; go_simp; try with_reducible rfl
      try simp only [Act.put, List.setIfInBounds_toArray, List.set]
      refine take_d (i := 8) (d := 146) (v := ?_) rfl rfl (by kernel_rfl) (by kernel_rfl) (by kernel_rfl) (fun _ _ _ h => h) (Or.inl ⟨by rfl, ?_⟩) (by assumption) ?_
      rotate_left
      · intro W' hSw; (try dsimp only at hSw); obtain ⟨s0, s1, s2, s3, s4⟩ := hSw; go_simp; try with_reducible rfl
      try simp only [Act.put, List.setIfInBounds_toArray, List.set]
      refine take_d (i := 9) (d := 147) (v := ?_) rfl rfl (by kernel_rfl) (by kernel_rfl) (by kernel_rfl) (fun _ _ _ h => h) (Or.inl ⟨by rfl, ?_⟩) (by assumption) ?_
      rotate_left
      · intro W' hSw; (try dsimp only at hSw); obtain ⟨s0, s1, s2, s3, s4⟩ := hSw; go_simp; try with_reducible rfl
      try simp only [Act.put, List.setIfInBounds_toArray, List.set]
      refine take_d (i := 10) (d := 148) (v := ?_) rfl rfl (by kernel_rfl) (by kernel_rfl) (by kernel_rfl) (fun _ _ _ h => h) (Or.inl ⟨by rfl, ?_⟩) (by assumption) ?_
      rotate_left
      · intro W' hSw; (try dsimp only at hSw); obtain ⟨s0, s1, s2, s3, s4⟩ := hSw; go_simp; try with_reducible rfl
      try simp only [Act.put, List.setIfInBounds_toArray, List.set]
      refine wpAnyH_ready (rs := [12]) (by kernel_rfl) (by simp) ?_
      refine AllReadyH.cons rfl (fun K hK => ?_) AllReadyH.nil
      go_simp
      obtain ⟨w34, hnw⟩ : ∃ X, X = (World.setCell (World.setCell w33 ⟨w29.heap.size, 0, none⟩ (.slice P451 RM.vals.length Q451)) ⟨w29.heap.size, 1, none⟩ (.slice S451 RM.arrs.length T451)) := ⟨_, rfl⟩
      have hb : Below (World.setCell (World.setCell w33 ⟨w29.heap.size, 0, none⟩ (.slice P451 RM.vals.length Q451)) ⟨w29.heap.size, 1, none⟩ (.slice S451 RM.arrs.length T451)).heap.size (World.setCell (World.setCell w33 ⟨w29.heap.size, 0, none⟩ (.slice P451 RM.vals.length Q451)) ⟨w29.heap.size, 1, none⟩ (.slice S451 RM.arrs.length T451)) w34 := by rw [hnw]; exact bself _
      have hBn := btr (bst (bst hB9 (w29.heap.size) 0 (by omega) (.slice P451 RM.vals.length Q451)) (w29.heap.size) 1 (by omega) (.slice S451 RM.arrs.length T451)) hb
      have hsz458 := hb.size
      simp only [World.size_setCell] at hsz458
      replace bf435 := kept_froz hb (lt_of_cell (cell_ne (b := (w29.heap.size)) (j := 1) (cell_at _ (w29.heap.size) 0 (.slice P451 RM.vals.length Q451) bx434) (by omega) (.slice S451 RM.arrs.length T451))) (froz_st (b := ⟨(w29.heap.size), 1, none⟩) (froz_st (b := ⟨(w29.heap.size), 0, none⟩) bf435 (.slice P451 RM.vals.length Q451)) (.slice S451 RM.arrs.length T451))
      replace bf437 := kept_froz hb (lt_of_cell (cell_at _ (w29.heap.size) 1 (.slice S451 RM.arrs.length T451) (cell_ne (b := (w29.heap.size)) (j := 0) bx436 (by omega) (.slice P451 RM.vals.length Q451)))) (froz_st (b := ⟨(w29.heap.size), 1, none⟩) (froz_st (b := ⟨(w29.heap.size), 0, none⟩) bf437 (.slice P451 RM.vals.length Q451)) (.slice S451 RM.arrs.length T451))
      replace bx2 : w34.cell? ⟨w.heap.size, 0, none⟩ = some (.slice a0 c.vars.length c0) := kept_cell hb (cell_ne (b := (w29.heap.size)) (j := 1) (cell_ne (b := (w29.heap.size)) (j := 0) bx2 (by omega) (.slice P451 RM.vals.length Q451)) (by omega) (.slice S451 RM.arrs.length T451))
      replace bx3 : w34.cell? ⟨w.heap.size, 1, none⟩ = some (.slice a1 c.arrays.length c1) := kept_cell hb (cell_ne (b := (w29.heap.size)) (j := 1) (cell_ne (b := (w29.heap.size)) (j := 0) bx3 (by omega) (.slice P451 RM.vals.length Q451)) (by omega) (.slice S451 RM.arrs.length T451))
      replace bx4 : w34.cell? ⟨w.heap.size, 2, none⟩ = some (.slice a2 c.list.length c2) := kept_cell hb (cell_ne (b := (w29.heap.size)) (j := 1) (cell_ne (b := (w29.heap.size)) (j := 0) bx4 (by omega) (.slice P451 RM.vals.length Q451)) (by omega) (.slice S451 RM.arrs.length T451))
      replace bx5 : w34.cell? ⟨w.heap.size + 1, 0, none⟩ = some (.slice a3 m.vals.length c3) := kept_cell hb (cell_ne (b := (w29.heap.size)) (j := 1) (cell_ne (b := (w29.heap.size)) (j := 0) bx5 (by omega) (.slice P451 RM.vals.length Q451)) (by omega) (.slice S451 RM.arrs.length T451))
      replace bx6 : w34.cell? ⟨w.heap.size + 1, 1, none⟩ = some (.slice a4 m.arrs.length c4) := kept_cell hb (cell_ne (b := (w29.heap.size)) (j := 1) (cell_ne (b := (w29.heap.size)) (j := 0) bx6 (by omega) (.slice P451 RM.vals.length Q451)) (by omega) (.slice S451 RM.arrs.length T451))
      replace oc7 := ((oc7.keep ((Chg.refl (fun gk => gk = (w29.heap.size)) _).setCell (w29.heap.size) 0 (.slice P451 RM.vals.length Q451) (fun _ => rfl)) (fun gq h h2 => by have := iv358 gq h; omega)).keep ((Chg.refl (fun gk => gk = (w29.heap.size)) _).setCell (w29.heap.size) 1 (.slice S451 RM.arrs.length T451) (fun _ => rfl)) (fun gq h h2 => by have := iv358 gq h; omega)).below hb
      replace bx434 : w34.cell? ⟨w29.heap.size, 0, none⟩ = some (.slice P451 RM.vals.length Q451) := kept_cell hb (cell_ne (b := (w29.heap.size)) (j := 1) (cell_at _ (w29.heap.size) 0 (.slice P451 RM.vals.length Q451) bx434) (by omega) (.slice S451 RM.arrs.length T451))
      replace bx436 : w34.cell? ⟨w29.heap.size, 1, none⟩ = some (.slice S451 RM.arrs.length T451) := kept_cell hb (cell_at _ (w29.heap.size) 1 (.slice S451 RM.arrs.length T451) (cell_ne (b := (w29.heap.size)) (j := 0) bx436 (by omega) (.slice P451 RM.vals.length Q451)))
      replace om8 := ((om8.keep ((Chg.refl (fun gk => gk = (w29.heap.size)) _).setCell (w29.heap.size) 0 (.slice P451 RM.vals.length Q451) (fun _ => rfl)) (fun gq h h2 => by have := iv442 gq h; omega)).keep ((Chg.refl (fun gk => gk = (w29.heap.size)) _).setCell (w29.heap.size) 1 (.slice S451 RM.arrs.length T451) (fun _ => rfl)) (fun gq h h2 => by have := iv442 gq h; omega)).below hb
      replace ow9 := own_below (own_set (own_set ow9 (w29.heap.size) 0 (fun h => by have := iv447 _ h; omega) (.slice P451 RM.vals.length Q451)) (w29.heap.size) 1 (fun h => by have := iv447 _ h; omega) (.slice S451 RM.arrs.length T451)) hb
      replace om451 := ((om451.keep ((Chg.refl (fun gk => gk = (w29.heap.size)) _).setCell (w29.heap.size) 0 (.slice P451 RM.vals.length Q451) (fun _ => rfl)) (fun gq h h2 => by have := iv453 gq h; omega)).keep ((Chg.refl (fun gk => gk = (w29.heap.size)) _).setCell (w29.heap.size) 1 (.slice S451 RM.arrs.length T451) (fun _ => rfl)) (fun gq h h2 => by have := iv453 gq h; omega)).below hb
      replace oe451 := own_below (own_set (own_set oe451 (w29.heap.size) 0 (fun h => by have := iv454 _ h; omega) (.slice P451 RM.vals.length Q451)) (w29.heap.size) 1 (fun h => by have := iv454 _ h; omega) (.slice S451 RM.arrs.length T451)) hb
      replace tot := btr (bst (bst tot (w29.heap.size) 0 (by omega) (.slice P451 RM.vals.length Q451)) (w29.heap.size) 1 (by omega) (.slice S451 RM.arrs.length T451)) hb
      clear hb
      clear hB9
      have hB9 := hBn; clear hBn
      rw [← hnw]
      clear hnw
      clear lt455 lt456 lt457
      have lt459 := lt_of_cell bx2
      have lt460 := lt_of_cell bx5
      have lt461 := lt_of_cell bx434
      refine hK.out _ _ ⟨bx2, bx3, bx4, bx5, bx6⟩ (fun hHeld => ?_)
      clear hK K
      try simp only [Act.put, List.setIfInBounds_toArray, List.set]
      refine take_d (i := 13) (d := 21) (v := ?_) rfl rfl (by kernel_rfl) (by kernel_rfl) (by kernel_rfl) (fun _ _ _ h => h) (Or.inl ⟨by rfl, ?_⟩) (by assumption) ?_
      rotate_left
      · intro W' hSw; (try dsimp only at hSw); obtain ⟨s0, s1, s2, s3, s4⟩ := hSw; go_simp; try with_reducible rfl
      try simp only [Act.put, List.setIfInBounds_toArray, List.set]
      refine take_d (i := 14) (d := 22) (v := ?_) rfl rfl (by kernel_rfl) (by kernel_rfl) (by kernel_rfl) (fun _ _ _ h => h) (Or.inl ⟨by rfl, ?_⟩) (by assumption) ?_
      rotate_left
      · intro W' hSw; (try dsimp only at hSw); obtain ⟨s0, s1, s2, s3, s4⟩ := hSw; go_simp; try with_reducible rfl
      try simp only [Act.put, List.setIfInBounds_toArray, List.set]
      refine wpAnyH_done (by kernel_rfl) ?_ _
      refine NoPanic.normal ?_
      clear hHeld
      go_wp2_with fail
      go_meet
      have lz462 := lt_of_cell bx434
      exact ⟨w29.heap.size, P451, S451, U451, Q451, T451, V451, gu451, rfl, rfl, rfl, by omega, bx434, bx436, om451.mono (by omega), own_mono oe451 (by omega), fun q h => by have := iv453 q h; omega, fun q h => by have := iv454 q h; omega, hB9⟩
    refine AllReadyH.cons rfl (fun K hK => ?_) AllReadyH.nil
    go_simp
    obtain ⟨w29, hnw⟩ : ∃ X, X = (World.alloc w28 (.cells #[.slice none 0 0, .slice none 0 0] 37)) := ⟨_, rfl⟩
    have hb : Below (World.alloc w28 (.cells #[.slice none 0 0, .slice none 0 0] 37)).heap.size (World.alloc w28 (.cells #[.slice none 0 0, .slice none 0 0] 37)) w29 := by rw [hnw]; exact bself _
    have hBn := btr (bal hB9 (.cells #[.slice none 0 0, .slice none 0 0] 37)) hb
    have hsz463 := hb.size
    simp only [World.size_alloc] at hsz463
    replace bx2 : w29.cell? ⟨w.heap.size, 0, none⟩ = some (.slice a0 c.vars.length c0) := kept_cell hb (cell_al bx2 (.cells #[.slice none 0 0, .slice none 0 0] 37))
    replace bx3 : w29.cell? ⟨w.heap.size, 1, none⟩ = some (.slice a1 c.arrays.length c1) := kept_cell hb (cell_al bx3 (.cells #[.slice none 0 0, .slice none 0 0] 37))
    replace bx4 : w29.cell? ⟨w.heap.size, 2, none⟩ = some (.slice a2 c.list.length c2) := kept_cell hb (cell_al bx4 (.cells #[.slice none 0 0, .slice none 0 0] 37))
    replace bx5 : w29.cell? ⟨w.heap.size + 1, 0, none⟩ = some (.slice a3 m.vals.length c3) := kept_cell hb (cell_al bx5 (.cells #[.slice none 0 0, .slice none 0 0] 37))
    replace bx6 : w29.cell? ⟨w.heap.size + 1, 1, none⟩ = some (.slice a4 m.arrs.length c4) := kept_cell hb (cell_al bx6 (.cells #[.slice none 0 0, .slice none 0 0] 37))
    have bx464 : w29.cell? ⟨w28.heap.size, 0, none⟩ = some (.slice none 0 0) := kept_cell hb (cell_nw (by simp) (by rfl))
    have bf465 : w29.frozen? ⟨w28.heap.size, 0, none⟩ = false := kept_froz hb (by simp <;> omega) (froz_nw (by simp))
    have bx466 : w29.cell? ⟨w28.heap.size, 1, none⟩ = some (.slice none 0 0) := kept_cell hb (cell_nw (by simp) (by rfl))
    have bf467 : w29.frozen? ⟨w28.heap.size, 1, none⟩ = false := kept_froz hb (by simp <;> omega) (froz_nw (by simp))
    replace tot := btr (bal tot (.cells #[.slice none 0 0, .slice none 0 0] 37)) hb
    clear hb
    clear hB9
    have hB9 := hBn; clear hBn
    rw [← hnw]
    clear hnw
    clear lt355 lt356
    have lt468 := lt_of_cell bx2
    have lt469 := lt_of_cell bx5
    have lt470 := lt_of_cell bx464
    refine hK.out _ _ ⟨bx2, bx3, bx4, bx5, bx6⟩ (fun hHeld => ?_)
    clear hK K
    try simp only [Act.put, List.setIfInBounds_toArray, List.set]
    refine wpAnyH_ready (rs := [1]) (by kernel_rfl) (by simp) ?_
    refine AllReadyH.cons rfl (fun K hK => ?_) AllReadyH.nil
    go_simp
    refine (toCode_any _ _ _ c _ (HR0.out _ tot) (by omega) (by omega) (by omega)).mono ?_
    rintro e w30 ⟨ua, ub, uc, rfl, oc7, hb⟩
    obtain ⟨pa7, qa7, pb7, qb7, pc7, qc7, rfl, rfl, rfl⟩ := oc7.shape
    have hBn := btr hB9 hb
    have hsz471 := hb.size
    replace bf465 := kept_froz hb (lt_of_cell bx464) bf465
    replace bf467 := kept_froz hb (lt_of_cell bx466) bf467
    replace bx2 : w30.cell? ⟨w.heap.size, 0, none⟩ = some (.slice a0 c.vars.length c0) := kept_cell hb bx2
    replace bx3 : w30.cell? ⟨w.heap.size, 1, none⟩ = some (.slice a1 c.arrays.length c1) := kept_cell hb bx3
    replace bx4 : w30.cell? ⟨w.heap.size, 2, none⟩ = some (.slice a2 c.list.length c2) := kept_cell hb bx4
    replace bx5 : w30.cell? ⟨w.heap.size + 1, 0, none⟩ = some (.slice a3 m.vals.length c3) := kept_cell hb bx5
    replace bx6 : w30.cell? ⟨w.heap.size + 1, 1, none⟩ = some (.slice a4 m.arrs.length c4) := kept_cell hb bx6
    replace bx464 : w30.cell? ⟨w28.heap.size, 0, none⟩ = some (.slice none 0 0) := kept_cell hb bx464
    replace bx466 : w30.cell? ⟨w28.heap.size, 1, none⟩ = some (.slice none 0 0) := kept_cell hb bx466
    replace tot := btr tot hb
    clear hb
    clear hB9
    have hB9 := hBn; clear hBn
    have iv472 := oc7.lt
    clear lt468 lt469 lt470
    have lt473 := lt_of_cell bx2
    have lt474 := lt_of_cell bx5
    have lt475 := lt_of_cell bx464
    refine hK.out _ _ ⟨bx2, bx3, bx4, bx5, bx6⟩ (fun hHeld => ?_)
    clear hK K
    try simp only [Act.put, List.setIfInBounds_toArray, List.set]
    refine wpAnyH_ready (rs := [3]) (by kernel_rfl) (by simp) ?_
    refine AllReadyH.cons rfl (fun K hK => ?_) AllReadyH.nil
    go_simp
    refine (toMemory_any _ _ m _ (HRM.out _ tot) (by omega) (by omega) (by omega)).mono ?_
    rintro e w31 ⟨ux, uy, us8, rfl, om8, hb⟩
    obtain ⟨px8, qx8, py8, qy8, rfl, rfl⟩ := om8.shape
    have hBn := btr hB9 hb
    have hsz476 := hb.size
    replace bf465 := kept_froz hb (lt_of_cell bx464) bf465
    replace bf467 := kept_froz hb (lt_of_cell bx466) bf467
    replace bx2 : w31.cell? ⟨w.heap.size, 0, none⟩ = some (.slice a0 c.vars.length c0) := kept_cell hb bx2
    replace bx3 : w31.cell? ⟨w.heap.size, 1, none⟩ = some (.slice a1 c.arrays.length c1) := kept_cell hb bx3
    replace bx4 : w31.cell? ⟨w.heap.size, 2, none⟩ = some (.slice a2 c.list.length c2) := kept_cell hb bx4
    replace bx5 : w31.cell? ⟨w.heap.size + 1, 0, none⟩ = some (.slice a3 m.vals.length c3) := kept_cell hb bx5
    replace bx6 : w31.cell? ⟨w.heap.size + 1, 1, none⟩ = some (.slice a4 m.arrs.length c4) := kept_cell hb bx6
    replace bx464 : w31.cell? ⟨w28.heap.size, 0, none⟩ = some (.slice none 0 0) := kept_cell hb bx464
    replace bx466 : w31.cell? ⟨w28.heap.size, 1, none⟩ = some (.slice none 0 0) := kept_cell hb bx466
    replace oc7 := oc7.below hb
    replace tot := btr tot hb
    clear hb
    clear hB9
    have hB9 := hBn; clear hBn
    have iv477 := om8.lt
    clear lt473 lt474 lt475
    have lt478 := lt_of_cell bx2
    have lt479 := lt_of_cell bx5
    have lt480 := lt_of_cell bx464
    refine hK.out _ _ ⟨bx2, bx3, bx4, bx5, bx6⟩ (fun hHeld => ?_)
    clear hK K
    try simp only [Act.put, List.setIfInBounds_toArray, List.set]
    refine wpAnyH_ready (rs := [5]) (by kernel_rfl) (by simp) ?_
    refine AllReadyH.cons rfl (fun K hK => ?_) AllReadyH.nil
    go_simp
    refine (toBoolS_any _ ws _ (HRW.out _ tot) (by omega)).mono ?_
    rintro e w32 ⟨uw, rfl, ow9, hb⟩
    obtain ⟨pw9, qw9, rfl⟩ := own_shape ow9
    have hBn := btr hB9 hb
    have hsz481 := hb.size
    replace bf465 := kept_froz hb (lt_of_cell bx464) bf465
    replace bf467 := kept_froz hb (lt_of_cell bx466) bf467
    replace bx2 : w32.cell? ⟨w.heap.size, 0, none⟩ = some (.slice a0 c.vars.length c0) := kept_cell hb bx2
    replace bx3 : w32.cell? ⟨w.heap.size, 1, none⟩ = some (.slice a1 c.arrays.length c1) := kept_cell hb bx3
    replace bx4 : w32.cell? ⟨w.heap.size, 2, none⟩ = some (.slice a2 c.list.length c2) := kept_cell hb bx4
    replace bx5 : w32.cell? ⟨w.heap.size + 1, 0, none⟩ = some (.slice a3 m.vals.length c3) := kept_cell hb bx5
    replace bx6 : w32.cell? ⟨w.heap.size + 1, 1, none⟩ = some (.slice a4 m.arrs.length c4) := kept_cell hb bx6
    replace bx464 : w32.cell? ⟨w28.heap.size, 0, none⟩ = some (.slice none 0 0) := kept_cell hb bx464
    replace bx466 : w32.cell? ⟨w28.heap.size, 1, none⟩ = some (.slice none 0 0) := kept_cell hb bx466
    replace oc7 := oc7.below hb
    replace om8 := om8.below hb
    replace tot := btr tot hb
    clear hb
    clear hB9
    have hB9 := hBn; clear hBn
    have iv482 := ow9.lt
    clear lt478 lt479 lt480
    have lt483 := lt_of_cell bx2
    have lt484 := lt_of_cell bx5
    have lt485 := lt_of_cell bx464
    refine hK.out _ _ ⟨bx2, bx3, bx4, bx5, bx6⟩ (fun hHeld => ?_)
    clear hK K
    try simp only [Act.put, List.setIfInBounds_toArray, List.set]
    refine wpAnyH_ready (rs := [6]) (by kernel_rfl) (by simp) ?_
    refine AllReadyH.cons rfl (fun K hK => ?_) AllReadyH.nil
    go_simp
    refine (HI.out _ _ _ _ _ _ (oc7.reads (by omega) (by omega) (by omega)) (om8.reads hm1 hm2 hm3) hm1 hm2 hm3 _ _ (reads_of_owns ow9 (by omega))).mono ?_
    rintro e w33 ⟨gx486, gy486, gu486, ge486, rfl, om486, oe486, hb⟩
    obtain ⟨P486, Q486, S486, T486, rfl, rfl⟩ := om486.shape
    obtain ⟨U486, V486, rfl⟩ := own_shape oe486
    have hBn := btr hB9 hb
    have hsz487 := hb.size
    replace bf465 := kept_froz hb (lt_of_cell bx464) bf465
    replace bf467 := kept_froz hb (lt_of_cell bx466) bf467
    replace bx2 : w33.cell? ⟨w.heap.size, 0, none⟩ = some (.slice a0 c.vars.length c0) := kept_cell hb bx2
    replace bx3 : w33.cell? ⟨w.heap.size, 1, none⟩ = some (.slice a1 c.arrays.length c1) := kept_cell hb bx3
    replace bx4 : w33.cell? ⟨w.heap.size, 2, none⟩ = some (.slice a2 c.list.length c2) := kept_cell hb bx4
    replace bx5 : w33.cell? ⟨w.heap.size + 1, 0, none⟩ = some (.slice a3 m.vals.length c3) := kept_cell hb bx5
    replace bx6 : w33.cell? ⟨w.heap.size + 1, 1, none⟩ = some (.slice a4 m.arrs.length c4) := kept_cell hb bx6
    replace bx464 : w33.cell? ⟨w28.heap.size, 0, none⟩ = some (.slice none 0 0) := kept_cell hb bx464
    replace bx466 : w33.cell? ⟨w28.heap.size, 1, none⟩ = some (.slice none 0 0) := kept_cell hb bx466
    replace oc7 := oc7.below hb
    replace om8 := om8.below hb
    replace ow9 := own_below ow9 hb
    replace tot := btr tot hb
    clear hb
    clear hB9
    have hB9 := hBn; clear hBn
    have ap486 := Lib.hid (mem_ev_apart om486 oe486)
    have iv488 := om486.lt
    have iv489 := oe486.lt
    clear lt483 lt484 lt485
    have lt490 := lt_of_cell bx2
    have lt491 := lt_of_cell bx5
    have lt492 := lt_of_cell bx464
    refine hK.out _ _ ⟨bx2, bx3, bx4, bx5, bx6⟩ (fun hHeld => ?_)
    clear hK K
    try simp only [Act.put, List.setIfInBounds_toArray, List.set]
    refine take_d (i := 7) (d := 138) (v := ?_) rfl rfl (by kernel_rfl) (by kernel_rfl) (by kernel_rfl) (fun _ _ _ h => h) (Or.inl ⟨by rfl, ?_⟩) (by assumption) ?_
    rotate_left
    · intro W' hSw; (try dsimp only at hSw); obtain ⟨s0, s1, s2, s3, s4⟩ := hSw; go_simp; try with_reducible rfl
    try simp only [Act.put, List.setIfInBounds_toArray, List.set]
    refine take_d (i := 8) (d := 146) (v := ?_) rfl rfl (by kernel_rfl) (by kernel_rfl) (by kernel_rfl) (fun _ _ _ h => h) (Or.inl ⟨by rfl, ?_⟩) (by assumption) ?_
    rotate_left
    · intro W' hSw; (try dsimp only at hSw); obtain ⟨s0, s1, s2, s3, s4⟩ := hSw; go_simp; try with_reducible rfl
    try simp only [Act.put, List.setIfInBounds_toArray, List.set]
    refine take_d (i := 9) (d := 147) (v := ?_) rfl rfl (by kernel_rfl) (by kernel_rfl) (by kernel_rfl) (fun _ _ _ h => h) (Or.inl ⟨by rfl, ?_⟩) (by assumption) ?_
    rotate_left
    · intro W' hSw; (try dsimp only at hSw); obtain ⟨s0, s1, s2, s3, s4⟩ := hSw; go_simp; try with_reducible rfl
    try simp only [Act.put, List.setIfInBounds_toArray, List.set]
    refine take_d (i := 10) (d := 148) (v := ?_) rfl rfl (by kernel_rfl) (by kernel_rfl) (by kernel_rfl) (fun _ _ _ h => h) (Or.inl ⟨by rfl, ?_⟩) (by assumption) ?_
    rotate_left
    · intro W' hSw; (try dsimp only at hSw); obtain ⟨s0, s1, s2, s3, s4⟩ := hSw; go_simp; try with_reducible rfl
    try simp only [Act.put, List.setIfInBounds_toArray, List.set]
    refine wpAnyH_ready (rs := [12]) (by kernel_rfl) (by simp) ?_
    refine AllReadyH.cons rfl (fun K hK => ?_) AllReadyH.nil
    go_simp
    obtain ⟨w34, hnw⟩ : ∃ X, X = (World.setCell (World.setCell w33 ⟨w28.heap.size, 0, none⟩ (.slice P486 RM.vals.length Q486)) ⟨w28.heap.size, 1, none⟩ (.slice S486 RM.arrs.length T486)) := ⟨_, rfl⟩
    have hb : Below (World.setCell (World.setCell w33 ⟨w28.heap.size, 0, none⟩ (.slice P486 RM.vals.length Q486)) ⟨w28.heap.size, 1, none⟩ (.slice S486 RM.arrs.length T486)).heap.size (World.setCell (World.setCell w33 ⟨w28.heap.size, 0, none⟩ (.slice P486 RM.vals.length Q486)) ⟨w28.heap.size, 1, none⟩ (.slice S486 RM.arrs.length T486)) w34 := by rw [hnw]; exact bself _
    have hBn := btr (bst (bst hB9 (w28.heap.size) 0 (by omega) (.slice P486 RM.vals.length Q486)) (w28.heap.size) 1 (by omega) (.slice S486 RM.arrs.length T486)) hb
    have hsz493 := hb.size
    simp only [World.size_setCell] at hsz493
    replace bf465 := kept_froz hb (lt_of_cell (cell_ne (b := (w28.heap.size)) (j := 1) (cell_at _ (w28.heap.size) 0 (.slice P486 RM.vals.length Q486) bx464) (by omega) (.slice S486 RM.arrs.length T486))) (froz_st (b := ⟨(w28.heap.size), 1, none⟩) (froz_st (b := ⟨(w28.heap.size), 0, none⟩) bf465 (.slice P486 RM.vals.length Q486)) (.slice S486 RM.arrs.length T486))
    replace bf467 := kept_froz hb (lt_of_cell (cell_at _ (w28.heap.size) 1 (.slice S486 RM.arrs.length T486) (cell_ne (b := (w28.heap.size)) (j := 0) bx466 (by omega) (.slice P486 RM.vals.length Q486)))) (froz_st (b := ⟨(w28.heap.size), 1, none⟩) (froz_st (b := ⟨(w28.heap.size), 0, none⟩) bf467 (.slice P486 RM.vals.length Q486)) (.slice S486 RM.arrs.length T486))
    replace bx2 : w34.cell? ⟨w.heap.size, 0, none⟩ = some (.slice a0 c.vars.length c0) := kept_cell hb (cell_ne (b := (w28.heap.size)) (j := 1) (cell_ne (b := (w28.heap.size)) (j := 0) bx2 (by omega) (.slice P486 RM.vals.length Q486)) (by omega) (.slice S486 RM.arrs.length T486))
    replace bx3 : w34.cell? ⟨w.heap.size, 1, none⟩ = some (.slice a1 c.arrays.length c1) := kept_cell hb (cell_ne (b := (w28.heap.size)) (j := 1) (cell_ne (b := (w28.heap.size)) (j := 0) bx3 (by omega) (.slice P486 RM.vals.length Q486)) (by omega) (.slice S486 RM.arrs.length T486))
    replace bx4 : w34.cell? ⟨w.heap.size, 2, none⟩ = some (.slice a2 c.list.length c2) := kept_cell hb (cell_ne (b := (w28.heap.size)) (j := 1) (cell_ne (b := (w28.heap.size)) (j := 0) bx4 (by omega) (.slice P486 RM.vals.length Q486)) (by omega) (.slice S486 RM.arrs.length T486))
    replace bx5 : w34.cell? ⟨w.heap.size + 1, 0, none⟩ = some (.slice a3 m.vals.length c3) := kept_cell hb (cell_ne (b := (w28.heap.size)) (j := 1) (cell_ne (b := (w28.heap.size)) (j := 0) bx5 (by omega) (.slice P486 RM.vals.length Q486)) (by omega) (.slice S486 RM.arrs.length T486))
    replace bx6 : w34.cell? ⟨w.heap.size + 1, 1, none⟩ = some (.slice a4 m.arrs.length c4) := kept_cell hb (cell_ne (b := (w28.heap.size)) (j := 1) (cell_ne (b := (w28.heap.size)) (j := 0) bx6 (by omega) (.slice P486 RM.vals.length Q486)) (by omega) (.slice S486 RM.arrs.length T486))
    replace bx464 : w34.cell? ⟨w28.heap.size, 0, none⟩ = some (.slice P486 RM.vals.length Q486) := kept_cell hb (cell_ne (b := (w28.heap.size)) (j := 1) (cell_at _ (w28.heap.size) 0 (.slice P486 RM.vals.length Q486) bx464) (by omega) (.slice S486 RM.arrs.length T486))
    replace bx466 : w34.cell? ⟨w28.heap.size, 1, none⟩ = some (.slice S486 RM.arrs.length T486) := kept_cell hb (cell_at _ (w28.heap.size) 1 (.slice S486 RM.arrs.length T486) (cell_ne (b := (w28.heap.size)) (j := 0) bx466 (by omega) (.slice P486 RM.vals.length Q486)))
    replace oc7 := ((oc7.keep ((Chg.refl (fun gk => gk = (w28.heap.size)) _).setCell (w28.heap.size) 0 (.slice P486 RM.vals.length Q486) (fun _ => rfl)) (fun gq h h2 => by have := iv472 gq h; omega)).keep ((Chg.refl (fun gk => gk = (w28.heap.size)) _).setCell (w28.heap.size) 1 (.slice S486 RM.arrs.length T486) (fun _ => rfl)) (fun gq h h2 => by have := iv472 gq h; omega)).below hb
    replace om8 := ((om8.keep ((Chg.refl (fun gk => gk = (w28.heap.size)) _).setCell (w28.heap.size) 0 (.slice P486 RM.vals.length Q486) (fun _ => rfl)) (fun gq h h2 => by have := iv477 gq h; omega)).keep ((Chg.refl (fun gk => gk = (w28.heap.size)) _).setCell (w28.heap.size) 1 (.slice S486 RM.arrs.length T486) (fun _ => rfl)) (fun gq h h2 => by have := iv477 gq h; omega)).below hb
    replace ow9 := own_below (own_set (own_set ow9 (w28.heap.size) 0 (fun h => by have := iv482 _ h; omega) (.slice P486 RM.vals.length Q486)) (w28.heap.size) 1 (fun h => by have := iv482 _ h; omega) (.slice S486 RM.arrs.length T486)) hb
    replace om486 := ((om486.keep ((Chg.refl (fun gk => gk = (w28.heap.size)) _).setCell (w28.heap.size) 0 (.slice P486 RM.vals.length Q486) (fun _ => rfl)) (fun gq h h2 => by have := iv488 gq h; omega)).keep ((Chg.refl (fun gk => gk = (w28.heap.size)) _).setCell (w28.heap.size) 1 (.slice S486 RM.arrs.length T486) (fun _ => rfl)) (fun gq h h2 => by have := iv488 gq h; omega)).below hb
    replace oe486 := own_below (own_set (own_set oe486 (w28.heap.size) 0 (fun h => by have := iv489 _ h; omega) (.slice P486 RM.vals.length Q486)) (w28.heap.size) 1 (fun h => by have := iv489 _ h; omega) (.slice S486 RM.arrs.length T486)) hb
    replace tot := btr (bst (bst tot (w28.heap.size) 0 (by omega) (.slice P486 RM.vals.length Q486)) (w28.heap.size) 1 (by omega) (.slice S486 RM.arrs.length T486)) hb
    clear hb
    clear hB9
    have hB9 := hBn; clear hBn
    rw [← hnw]
    clear hnw
    clear lt490 lt491 lt492
    have lt494 := lt_of_cell bx2
    have lt495 := lt_of_cell bx5
    have lt496 := lt_of_cell bx464
    refine hK.out _ _ ⟨bx2, bx3, bx4, bx5, bx6⟩ (fun hHeld => ?_)
    clear hK K
    try simp only [Act.put, List.setIfInBounds_toArray, List.set]
    refine take_d (i := 13) (d := 21) (v := ?_) rfl rfl (by kernel_rfl) (by kernel_rfl) (by kernel_rfl) (fun _ _ _ h => h) (Or.inl ⟨by rfl, ?_⟩) (by assumption) ?_
    rotate_left
    · intro W' hSw; (try dsimp only at hSw); obtain ⟨s0, s1, s2, s3, s4⟩ := hSw; go_simp; try with_reducible rfl
    try simp only [Act.put, List.setIfInBounds_toArray, List.set]
    refine take_d (i := 14) (d := 22) (v := ?_) rfl rfl (by kernel_rfl) (by kernel_rfl) (by kernel_rfl) (fun _ _ _ h => h) (Or.inl ⟨by rfl, ?_⟩) (by assumption) ?_
    rotate_left
    · intro W' hSw; (try dsimp only at hSw); obtain ⟨s0, s1, s2, s3, s4⟩ := hSw; go_simp; try with_reducible rfl
    try simp only [Act.put, List.setIfInBounds_toArray, List.set]
    refine wpAnyH_done (by kernel_rfl) ?_ _
    refine NoPanic.normal ?_
    clear hHeld
    go_wp2_with fail
    go_meet
    have lz497 := lt_of_cell bx464
    exact ⟨w28.heap.size, P486, S486, U486, Q486, T486, V486, gu486, rfl, rfl, rfl, by omega, bx464, bx466, om486.mono (by omega), own_mono oe486 (by omega), fun q h => by have := iv488 q h; omega, fun q h => by have := iv489 q h; omega, hB9⟩
  obtain ⟨w29, rfl⟩ : ∃ W, W = wc := ⟨_, rfl⟩
  obtain ⟨bbz349, Pz349, Sz349, Uz349, Qz349, Tz349, Vz349, guz349, rfl, rfl, rfl, hb0z349, e0z349, e1z349, omz349, oez349, nmz349, nez349, hb⟩ := hcut
  have apz349 := Lib.hid (mem_ev_apart omz349 oez349)
  have hsz498 := hb.size
  replace bf210 := kept_froz hb (lt_of_cell bx209) bf210
  replace bf212 := kept_froz hb (lt_of_cell bx211) bf212
  replace bx2 : w29.cell? ⟨w.heap.size, 0, none⟩ = some (.slice a0 c.vars.length c0) := kept_cell hb bx2
  replace bx3 : w29.cell? ⟨w.heap.size, 1, none⟩ = some (.slice a1 c.arrays.length c1) := kept_cell hb bx3
  replace bx4 : w29.cell? ⟨w.heap.size, 2, none⟩ = some (.slice a2 c.list.length c2) := kept_cell hb bx4
  replace bx5 : w29.cell? ⟨w.heap.size + 1, 0, none⟩ = some (.slice a3 m.vals.length c3) := kept_cell hb bx5
  replace bx6 : w29.cell? ⟨w.heap.size + 1, 1, none⟩ = some (.slice a4 m.arrs.length c4) := kept_cell hb bx6
  replace omz18 := omz18.below hb
  replace oez18 := own_below oez18 hb
  replace e0z18 : w29.cell? ⟨bbz18, 0, none⟩ = some (.slice Pz18 RM.vals.length Qz18) := kept_cell hb e0z18
  replace e1z18 : w29.cell? ⟨bbz18, 1, none⟩ = some (.slice Sz18 RM.arrs.length Tz18) := kept_cell hb e1z18
  replace bx209 : w29.cell? ⟨w8.heap.size, 0, none⟩ = some (.slice P199 RM.vals.length Q199) := kept_cell hb bx209
  replace bx211 : w29.cell? ⟨w8.heap.size, 1, none⟩ = some (.slice S199 RM.arrs.length T199) := kept_cell hb bx211
  replace mm323 := mm323.below hb
  replace mg329 := own_below mg329 hb
  replace tot := btr tot hb
  clear hb
  have ltez349 := lt_of_cell e0z349
  have imz349 : ∀ q, OwnBM (.slice Pz349 RM.vals.length Qz349) (.slice Sz349 RM.arrs.length Tz349) guz349 q → w27.heap.size ≤ q ∧ q < w29.heap.size ∧ ¬ q = bbz349 := fun q h => by have h1 := omz349.lt q h; have h2 := nmz349 q h; exact ⟨h1.1, h1.2, h2⟩
  have iez349 : ∀ q, (Value.slice Uz349 L.length Vz349).ownBlock = some q → w27.heap.size ≤ q ∧ q < w29.heap.size ∧ ¬ q = bbz349 := fun q h => by have h1 := oez349.lt q h; have h2 := nez349 q h; exact ⟨h1.1, h1.2, h2⟩
  clear nmz349 nez349
  clear lt345 lt346 lt347 lt348
  have lt499 := lt_of_cell bx2
  have lt500 := lt_of_cell bx5
  have lt501 := lt_of_cell e0z18
  have lt502 := lt_of_cell bx209
  have lt503 := lt_of_cell e0z349
  go_wp2_with fail
  refine (eqMemory_any _ _ _ _ RM _ (omz349.reads hM1 hM2 hM3) (omz18.reads hM1 hM2 hM3)).mono ?_
  rintro e w30 ⟨rfl, hb⟩
  have hsz504 := hb.size
  replace bf210 := kept_froz hb (lt_of_cell bx209) bf210
  replace bf212 := kept_froz hb (lt_of_cell bx211) bf212
  replace bx2 : w30.cell? ⟨w.heap.size, 0, none⟩ = some (.slice a0 c.vars.length c0) := kept_cell hb bx2
  replace bx3 : w30.cell? ⟨w.heap.size, 1, none⟩ = some (.slice a1 c.arrays.length c1) := kept_cell hb bx3
  replace bx4 : w30.cell? ⟨w.heap.size, 2, none⟩ = some (.slice a2 c.list.length c2) := kept_cell hb bx4
  replace bx5 : w30.cell? ⟨w.heap.size + 1, 0, none⟩ = some (.slice a3 m.vals.length c3) := kept_cell hb bx5
  replace bx6 : w30.cell? ⟨w.heap.size + 1, 1, none⟩ = some (.slice a4 m.arrs.length c4) := kept_cell hb bx6
  replace omz18 := omz18.below hb
  replace oez18 := own_below oez18 hb
  replace e0z18 : w30.cell? ⟨bbz18, 0, none⟩ = some (.slice Pz18 RM.vals.length Qz18) := kept_cell hb e0z18
  replace e1z18 : w30.cell? ⟨bbz18, 1, none⟩ = some (.slice Sz18 RM.arrs.length Tz18) := kept_cell hb e1z18
  replace bx209 : w30.cell? ⟨w8.heap.size, 0, none⟩ = some (.slice P199 RM.vals.length Q199) := kept_cell hb bx209
  replace bx211 : w30.cell? ⟨w8.heap.size, 1, none⟩ = some (.slice S199 RM.arrs.length T199) := kept_cell hb bx211
  replace mm323 := mm323.below hb
  replace mg329 := own_below mg329 hb
  replace omz349 := omz349.below hb
  replace oez349 := own_below oez349 hb
  replace e0z349 : w30.cell? ⟨bbz349, 0, none⟩ = some (.slice Pz349 RM.vals.length Qz349) := kept_cell hb e0z349
  replace e1z349 : w30.cell? ⟨bbz349, 1, none⟩ = some (.slice Sz349 RM.arrs.length Tz349) := kept_cell hb e1z349
  replace tot := btr tot hb
  clear hb
  clear bx2 bx3 bx4 bx5 bx6 e0z18 e1z18 e0z349 e1z349
  clear lt499 lt500 lt501 lt502 lt503
  have lt505 := lt_of_cell bx209
  clear omz18 omz349
  clear imz18 imz349
  go_wp2_with fail
  refine (eqEventS_any _ _ L L _ (reads_of_owns oez349 (by omega)) (reads_of_owns oez18 (by omega))).mono ?_
  rintro e w31 ⟨rfl, hb⟩
  rw [decide_eq_true (Eq.refl L)]
  have hsz506 := hb.size
  replace bf210 := kept_froz hb (lt_of_cell bx209) bf210
  replace bf212 := kept_froz hb (lt_of_cell bx211) bf212
  replace oez18 := own_below oez18 hb
  replace bx209 : w31.cell? ⟨w8.heap.size, 0, none⟩ = some (.slice P199 RM.vals.length Q199) := kept_cell hb bx209
  replace bx211 : w31.cell? ⟨w8.heap.size, 1, none⟩ = some (.slice S199 RM.arrs.length T199) := kept_cell hb bx211
  replace mm323 := mm323.below hb
  replace mg329 := own_below mg329 hb
  replace oez349 := own_below oez349 hb
  replace tot := btr tot hb
  clear hb
  clear lt505
  have lt507 := lt_of_cell bx209
  clear oez18 oez349
  clear iez18 iez349
  go_wp2_with fail
  refine (heldMemory_any _ _ RM (1) _ (mm323.reads hK1 hK2 hK3) (by omega) (by omega)).mono ?_
  rintro e w32 ⟨rfl, hb⟩
  have hsz508 := hb.size
  replace bf210 := kept_froz hb (lt_of_cell bx209) bf210
  replace bf212 := kept_froz hb (lt_of_cell bx211) bf212
  replace bx209 : w32.cell? ⟨w8.heap.size, 0, none⟩ = some (.slice P199 RM.vals.length Q199) := kept_cell hb bx209
  replace bx211 : w32.cell? ⟨w8.heap.size, 1, none⟩ = some (.slice S199 RM.arrs.length T199) := kept_cell hb bx211
  replace mm323 := mm323.below hb
  replace mg329 := own_below mg329 hb
  replace tot := btr tot hb
  clear hb
  clear bx209 bf210 bx211 bf212
  clear lt507
  clear mm323
  clear iv201
  go_wp2_with fail
  refine (heldEventS_b _ L.length (1 + (RM.vals.length : Int) + (pre2 RM.arrs RM.arrs.length : Nat)) _ (reads_of_owns mg329 (by omega)) (by omega) (by omega) (by omega)).mono ?_
  rintro e w33 ⟨rfl, hb⟩
  have hsz509 := hb.size
  replace mg329 := own_below mg329 hb
  replace tot := btr tot hb
  clear hb
  clear mg329
  clear iv202
  have tt := tot
  go_wp2
  go_ret
  exact ⟨rfl, tt⟩
end Go.Proofs.Ytbglogjamfdmpaa
