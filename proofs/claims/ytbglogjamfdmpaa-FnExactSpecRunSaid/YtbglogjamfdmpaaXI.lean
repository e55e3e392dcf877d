/-
  Parts of the proof of the law FnExactSpecRun.
-/
import Derived.Test.YtbglogjamfdmpaaRows
import Derived.Test.YtbglogjamfdmpaaXG
namespace Go.Proofs.Ytbglogjamfdmpaa
open Go.RowKit

set_option maxHeartbeats 6400000 in
set_option maxRecDepth 100000 in
theorem sSpecRun_any (va vb vc vx vy : Value) (c : Cd) (m : Mm) (w : World) (hr : ReadsC w va vb vc c) (hm : ReadsM w vx vy m) (hl : m.vals.length ≤ 1048576) (hn : m.arrs.length ≤ 1048576) (hp : pre2 m.arrs m.arrs.length ≤ 1048576) (aw : Option Addr) (cw : Nat) (ws : List Bool) (hws : Reads w 1 (.slice aw ws.length cw) ws.length (bools ws)) :
    Calls Try.prog 31 #[.agg #[va, vb, vc], .agg #[vx, vy], .slice aw ws.length cw] w fun e w' => ∃ ux uy us u, e = .returned (.tuple #[.agg #[ux, uy], u, .bool (runB c m)]) ∧ OwnM w' w.heap.size ux uy us (runM c m) ∧ w'.ownsRow w.heap.size 89 2 u (srE c m ws).length (evs (srE c m ws)) ∧ Below w.heap.size w w' := by
  obtain ⟨a0, c0, a1, c1, a2, c2, rfl, rfl, rfl⟩ := hr.shape
  obtain ⟨a3, c3, a4, c4, rfl, rfl⟩ := hm.shape
  have n0 := hr.a.2.1; have n1 := hr.b.2.1
  have HR := Lib.hid (fun W (hW : Below w.heap.size w W) => hr.below hW)
  have HM := Lib.hid (fun W (hW : Below w.heap.size w W) => hm.below hW)
  have HCV := Lib.hid (fun W (hW : Below w.heap.size w W) => sCodeValid_any _ _ _ c W (HR.out W hW))
  have HFT := Lib.hid (fun W (hW : Below w.heap.size w W) => l3Fits_any a0 a1 c.vars.length c.arrays.length c0 c1 _ _ m W (by omega) (by omega) (HM.out W hW).x (HM.out W hW).y)
  have HRU := Lib.hid (fun hg W (hW : Below w.heap.size w W) => l11Run_any _ _ _ _ _ c m W (HR.out W hW) (HM.out W hW) hl hn hp hg aw cw ws (hws.below hW))
  have HNO := Lib.hid (fun h => sr_no (ws := ws) (finN_no (c := c) (m := m) h))
  have HGO : Hid (goOk c m = (codeOk c && memOk c.vars.length c.arrays.length m)) := Lib.hid rfl
  have HYN := Lib.hid (fun (h : goOk c m = true) (h2 : runR c (ini m) = none) => sr_no (ws := ws) ((finN_yes h).trans h2))
  have HYS := Lib.hid (fun n (h : goOk c m = true) (h2 : runR c (ini m) = some n) => sr_yes (ws := ws) ((finN_yes h).trans h2))
  clear hr hm hl hn hp n0 n1 hws
  generalize srE c m ws = RE at *; generalize runM c m = RM at *; generalize runB c m = RB at *
  have hcases : codeOk c = false ∨ (codeOk c = true ∧ memOk c.vars.length c.arrays.length m = false) ∨ (codeOk c = true ∧ memOk c.vars.length c.arrays.length m = true) := by cases codeOk c <;> cases memOk c.vars.length c.arrays.length m <;> simp
  generalize goOk c m = G at *
  generalize codeOk c = CO at *
  generalize memOk c.vars.length c.arrays.length m = MO at *
  rcases hcases with rfl | ⟨rfl, rfl⟩ | ⟨rfl, rfl⟩
  · skip
    go_enter Try.func31, Try.ntmps31
    go_upto_region 1 with (fail)
    obtain ⟨w1, hnw⟩ : ∃ X, X = (World.alloc (World.alloc (World.alloc w (.cells #[.slice a0 c.vars.length c0, .slice a1 c.arrays.length c1, .slice a2 c.list.length c2] 35)) (.cells #[.slice a3 m.vals.length c3, .slice a4 m.arrs.length c4] 37)) (.cells #[.slice none 0 0, .slice none 0 0] 37)) := ⟨_, rfl⟩
    have hb : Below (World.alloc (World.alloc (World.alloc w (.cells #[.slice a0 c.vars.length c0, .slice a1 c.arrays.length c1, .slice a2 c.list.length c2] 35)) (.cells #[.slice a3 m.vals.length c3, .slice a4 m.arrs.length c4] 37)) (.cells #[.slice none 0 0, .slice none 0 0] 37)).heap.size (World.alloc (World.alloc (World.alloc w (.cells #[.slice a0 c.vars.length c0, .slice a1 c.arrays.length c1, .slice a2 c.list.length c2] 35)) (.cells #[.slice a3 m.vals.length c3, .slice a4 m.arrs.length c4] 37)) (.cells #[.slice none 0 0, .slice none 0 0] 37)) w1 := by rw [hnw]; exact bself _
    have hsz1 := hb.size
    simp only [World.size_alloc] at hsz1
    have bx2 : w1.cell? ⟨w.heap.size, 0, none⟩ = some (.slice a0 c.vars.length c0) := kept_cell hb (cell_al (cell_al (cell_nw (by simp) (by rfl)) _) _)
    have bx3 : w1.cell? ⟨w.heap.size, 1, none⟩ = some (.slice a1 c.arrays.length c1) := kept_cell hb (cell_al (cell_al (cell_nw (by simp) (by rfl)) _) _)
    have bx4 : w1.cell? ⟨w.heap.size, 2, none⟩ = some (.slice a2 c.list.length c2) := kept_cell hb (cell_al (cell_al (cell_nw (by simp) (by rfl)) _) _)
    have bx5 : w1.cell? ⟨w.heap.size + 1, 0, none⟩ = some (.slice a3 m.vals.length c3) := kept_cell hb (cell_al (cell_nw (by simp) (by rfl)) _)
    have bx6 : w1.cell? ⟨w.heap.size + 1, 1, none⟩ = some (.slice a4 m.arrs.length c4) := kept_cell hb (cell_al (cell_nw (by simp) (by rfl)) _)
    have bx7 : w1.cell? ⟨w.heap.size + 1 + 1, 0, none⟩ = some (.slice none 0 0) := kept_cell hb (cell_nw (by simp) (by rfl))
    have bf8 : w1.frozen? ⟨w.heap.size + 1 + 1, 0, none⟩ = false := kept_froz hb (by simp <;> omega) (froz_nw (by simp))
    have bx9 : w1.cell? ⟨w.heap.size + 1 + 1, 1, none⟩ = some (.slice none 0 0) := kept_cell hb (cell_nw (by simp) (by rfl))
    have bf10 : w1.frozen? ⟨w.heap.size + 1 + 1, 1, none⟩ = false := kept_froz hb (by simp <;> omega) (froz_nw (by simp))
    have tot := btr (bal (bal (bal (bself w) (.cells #[.slice a0 c.vars.length c0, .slice a1 c.arrays.length c1, .slice a2 c.list.length c2] 35)) (.cells #[.slice a3 m.vals.length c3, .slice a4 m.arrs.length c4] 37)) (.cells #[.slice none 0 0, .slice none 0 0] 37)) hb
    clear hb
    rw [← hnw]
    clear hnw
    have lt11 := lt_of_cell bx2
    have lt12 := lt_of_cell bx5
    have lt13 := lt_of_cell bx7
    refine wp_region_noPanic ?_
    refine wp_region_held_drew (S := (fun W' => W'.cell? ⟨w.heap.size, 0, none⟩ = some (.slice a0 c.vars.length c0) ∧ W'.cell? ⟨w.heap.size, 1, none⟩ = some (.slice a1 c.arrays.length c1) ∧ W'.cell? ⟨w.heap.size, 2, none⟩ = some (.slice a2 c.list.length c2) ∧ W'.cell? ⟨w.heap.size + 1, 0, none⟩ = some (.slice a3 m.vals.length c3) ∧ W'.cell? ⟨w.heap.size + 1, 1, none⟩ = some (.slice a4 m.arrs.length c4))) (by kernel_rfl) ⟨kept_cell (Below.drew (bself w1)) bx2, kept_cell (Below.drew (bself w1)) bx3, kept_cell (Below.drew (bself w1)) bx4, kept_cell (Below.drew (bself w1)) bx5, kept_cell (Below.drew (bself w1)) bx6⟩ (fun hHeld => ?_)
    obtain ⟨w2, hwd⟩ : ∃ X, X = World.drew w1 := ⟨_, rfl⟩
    rw [← hwd] at hHeld ⊢
    have hb : Below w1.heap.size w1 w2 := by rw [hwd]; exact Below.drew (bself _)
    clear hwd
    have hsz14 := hb.size
    replace bf8 := kept_froz hb (lt_of_cell bx7) bf8
    replace bf10 := kept_froz hb (lt_of_cell bx9) bf10
    replace bx2 : w2.cell? ⟨w.heap.size, 0, none⟩ = some (.slice a0 c.vars.length c0) := kept_cell hb bx2
    replace bx3 : w2.cell? ⟨w.heap.size, 1, none⟩ = some (.slice a1 c.arrays.length c1) := kept_cell hb bx3
    replace bx4 : w2.cell? ⟨w.heap.size, 2, none⟩ = some (.slice a2 c.list.length c2) := kept_cell hb bx4
    replace bx5 : w2.cell? ⟨w.heap.size + 1, 0, none⟩ = some (.slice a3 m.vals.length c3) := kept_cell hb bx5
    replace bx6 : w2.cell? ⟨w.heap.size + 1, 1, none⟩ = some (.slice a4 m.arrs.length c4) := kept_cell hb bx6
    replace bx7 : w2.cell? ⟨w.heap.size + 1 + 1, 0, none⟩ = some (.slice none 0 0) := kept_cell hb bx7
    replace bx9 : w2.cell? ⟨w.heap.size + 1 + 1, 1, none⟩ = some (.slice none 0 0) := kept_cell hb bx9
    replace tot := btr tot hb
    clear hb
    clear lt11 lt12 lt13
    have lt15 := lt_of_cell bx2
    have lt16 := lt_of_cell bx5
    have lt17 := lt_of_cell bx7
    refine take_d (i := 0) (d := 9) (v := ?_) rfl rfl (by kernel_rfl) (by kernel_rfl) (by kernel_rfl) (fun _ _ _ h => h) (Or.inl ⟨by rfl, ?_⟩) (by assumption) ?_
    rotate_left
    · intro W' hSw; (try dsimp only at hSw); obtain ⟨s0, s1, s2, s3, s4⟩ := hSw; go_simp; try with_reducible rfl
    try simp only [Act.put, List.setIfInBounds_toArray, List.set]
    refine wpAnyH_ready (rs := [1]) (by kernel_rfl) (by simp) ?_
    refine AllReadyH.cons rfl (fun K hK => ?_) AllReadyH.nil
    go_simp
    refine (HCV.out _ tot).mono ?_
    rintro e w3 ⟨rfl, hb⟩
    have hsz18 := hb.size
    replace bf8 := kept_froz hb (lt_of_cell bx7) bf8
    replace bf10 := kept_froz hb (lt_of_cell bx9) bf10
    replace bx2 : w3.cell? ⟨w.heap.size, 0, none⟩ = some (.slice a0 c.vars.length c0) := kept_cell hb bx2
    replace bx3 : w3.cell? ⟨w.heap.size, 1, none⟩ = some (.slice a1 c.arrays.length c1) := kept_cell hb bx3
    replace bx4 : w3.cell? ⟨w.heap.size, 2, none⟩ = some (.slice a2 c.list.length c2) := kept_cell hb bx4
    replace bx5 : w3.cell? ⟨w.heap.size + 1, 0, none⟩ = some (.slice a3 m.vals.length c3) := kept_cell hb bx5
    replace bx6 : w3.cell? ⟨w.heap.size + 1, 1, none⟩ = some (.slice a4 m.arrs.length c4) := kept_cell hb bx6
    replace bx7 : w3.cell? ⟨w.heap.size + 1 + 1, 0, none⟩ = some (.slice none 0 0) := kept_cell hb bx7
    replace bx9 : w3.cell? ⟨w.heap.size + 1 + 1, 1, none⟩ = some (.slice none 0 0) := kept_cell hb bx9
    replace tot := btr tot hb
    clear hb
    clear lt15 lt16 lt17
    have lt19 := lt_of_cell bx2
    have lt20 := lt_of_cell bx5
    have lt21 := lt_of_cell bx7
    refine hK.out _ _ ⟨bx2, bx3, bx4, bx5, bx6⟩ (fun hHeld => ?_)
    clear hK K
    try simp only [Act.put, List.setIfInBounds_toArray, List.set]
    refine take_d (i := 2) (d := 11) (v := ?_) rfl rfl (by kernel_rfl) (by kernel_rfl) (by kernel_rfl) (fun _ _ _ h => h) (Or.inl ⟨by rfl, ?_⟩) (by assumption) ?_
    rotate_left
    · intro W' hSw; (try dsimp only at hSw); obtain ⟨s0, s1, s2, s3, s4⟩ := hSw; go_simp; try with_reducible rfl
    try simp only [Act.put, List.setIfInBounds_toArray, List.set]
    refine take_d (i := 3) (d := 12) (v := ?_) rfl rfl (by kernel_rfl) (by kernel_rfl) (by kernel_rfl) (fun _ _ _ h => h) (Or.inl ⟨by rfl, ?_⟩) (by assumption) ?_
    rotate_left
    · intro W' hSw; (try dsimp only at hSw); obtain ⟨s0, s1, s2, s3, s4⟩ := hSw; go_simp; try with_reducible rfl
    try simp only [Act.put, List.setIfInBounds_toArray, List.set]
    refine take_d (i := 4) (d := 13) rfl rfl (by kernel_rfl) (by kernel_rfl) (by kernel_rfl) (fun _ _ _ h => h) (Or.inr ⟨by rfl, rfl⟩) (by assumption) ?_
    try simp only [Act.put, List.setIfInBounds_toArray, List.set]
    refine take_d (i := 5) (d := 14) rfl rfl (by kernel_rfl) (by kernel_rfl) (by kernel_rfl) (fun _ _ _ h => h) (Or.inr ⟨by rfl, rfl⟩) (by assumption) ?_
    try simp only [Act.put, List.setIfInBounds_toArray, List.set]
    refine take_d (i := 6) (d := 15) rfl rfl (by kernel_rfl) (by kernel_rfl) (by kernel_rfl) (fun _ _ _ h => h) (Or.inr ⟨by rfl, rfl⟩) (by assumption) ?_
    try simp only [Act.put, List.setIfInBounds_toArray, List.set]
    refine take_d (i := 7) (d := 16) rfl rfl (by kernel_rfl) (by kernel_rfl) (by kernel_rfl) (fun _ _ _ h => h) (Or.inr ⟨by rfl, rfl⟩) (by assumption) ?_
    try simp only [Act.put, List.setIfInBounds_toArray, List.set]
    refine take_d (i := 8) (d := 17) rfl rfl (by kernel_rfl) (by kernel_rfl) (by kernel_rfl) (fun _ _ _ h => h) (Or.inr ⟨by rfl, rfl⟩) (by assumption) ?_
    try simp only [Act.put, List.setIfInBounds_toArray, List.set]
    refine take_d (i := 9) (d := 18) (v := ?_) rfl rfl (by kernel_rfl) (by kernel_rfl) (by kernel_rfl) (fun _ _ _ h => h) (Or.inl ⟨by rfl, ?_⟩) (by assumption) ?_
    rotate_left
    · intro W' hSw; (try dsimp only at hSw); obtain ⟨s0, s1, s2, s3, s4⟩ := hSw; go_simp; try with_reducible rfl
    try simp only [Act.put, List.setIfInBounds_toArray, List.set]
    refine wpAnyH_done (by kernel_rfl) ?_ _
    refine NoPanic.normal ?_
    clear hHeld
    have HE := Lib.hid (HNO.out (by rw [HGO.out]; rfl))
    have ef := (World.ownsRow_lit (base := ((World.setCell (World.setCell w3 ⟨w.heap.size + 1 + 1, 0, none⟩ (.slice none 0 0)) ⟨w.heap.size + 1 + 1, 1, none⟩ (.slice none 0 0))).heap.size) (e := 89) (size := 2) ((World.setCell (World.setCell w3 ⟨w.heap.size + 1 + 1, 0, none⟩ (.slice none 0 0)) ⟨w.heap.size + 1 + 1, 1, none⟩ (.slice none 0 0))) #[] 0 (Nat.le_refl _) (by unfold maxLen; omega) (by simp))
    try simp only [World.size_alloc, World.size_setCell] at ef
    have x23 := (cell_al (cell_ne (b := (w.heap.size + 1 + 1)) (j := 1) (cell_at _ (w.heap.size + 1 + 1) 0 (.slice none 0 0) bx7) (by omega) (.slice none 0 0)) (.cells #[] 89))
    have x24 := (cell_al (cell_at _ (w.heap.size + 1 + 1) 1 (.slice none 0 0) (cell_ne (b := (w.heap.size + 1 + 1)) (j := 0) bx9 (by omega) (.slice none 0 0))) (.cells #[] 89))
    have tt := (bal (bst (bst tot (w.heap.size + 1 + 1) 0 (by omega) (.slice none 0 0)) (w.heap.size + 1 + 1) 1 (by omega) (.slice none 0 0)) (.cells #[] 89))
    go_wp2
    exact bodyPost_ret (v := .tuple #[.agg #[.slice none 0 0, .slice none 0 0], .slice (some ⟨w3.heap.size, 0, none⟩) 0 0, .bool false]) (by simp [results, Try.results31, go_sem, x23, x24]) rfl (by exact by rw [HE.out.1, HE.out.2.1, HE.out.2.2]; exact ⟨_, _, [], _, rfl, noMem_own _ _, own_mono ef (by omega), tt⟩)
  · skip
    go_enter Try.func31, Try.ntmps31
    go_upto_region 1 with (fail)
    obtain ⟨w1, hnw⟩ : ∃ X, X = (World.alloc (World.alloc (World.alloc w (.cells #[.slice a0 c.vars.length c0, .slice a1 c.arrays.length c1, .slice a2 c.list.length c2] 35)) (.cells #[.slice a3 m.vals.length c3, .slice a4 m.arrs.length c4] 37)) (.cells #[.slice none 0 0, .slice none 0 0] 37)) := ⟨_, rfl⟩
    have hb : Below (World.alloc (World.alloc (World.alloc w (.cells #[.slice a0 c.vars.length c0, .slice a1 c.arrays.length c1, .slice a2 c.list.length c2] 35)) (.cells #[.slice a3 m.vals.length c3, .slice a4 m.arrs.length c4] 37)) (.cells #[.slice none 0 0, .slice none 0 0] 37)).heap.size (World.alloc (World.alloc (World.alloc w (.cells #[.slice a0 c.vars.length c0, .slice a1 c.arrays.length c1, .slice a2 c.list.length c2] 35)) (.cells #[.slice a3 m.vals.length c3, .slice a4 m.arrs.length c4] 37)) (.cells #[.slice none 0 0, .slice none 0 0] 37)) w1 := by rw [hnw]; exact bself _
    have hsz25 := hb.size
    simp only [World.size_alloc] at hsz25
    have bx26 : w1.cell? ⟨w.heap.size, 0, none⟩ = some (.slice a0 c.vars.length c0) := kept_cell hb (cell_al (cell_al (cell_nw (by simp) (by rfl)) _) _)
    have bx27 : w1.cell? ⟨w.heap.size, 1, none⟩ = some (.slice a1 c.arrays.length c1) := kept_cell hb (cell_al (cell_al (cell_nw (by simp) (by rfl)) _) _)
    have bx28 : w1.cell? ⟨w.heap.size, 2, none⟩ = some (.slice a2 c.list.length c2) := kept_cell hb (cell_al (cell_al (cell_nw (by simp) (by rfl)) _) _)
    have bx29 : w1.cell? ⟨w.heap.size + 1, 0, none⟩ = some (.slice a3 m.vals.length c3) := kept_cell hb (cell_al (cell_nw (by simp) (by rfl)) _)
    have bx30 : w1.cell? ⟨w.heap.size + 1, 1, none⟩ = some (.slice a4 m.arrs.length c4) := kept_cell hb (cell_al (cell_nw (by simp) (by rfl)) _)
    have bx31 : w1.cell? ⟨w.heap.size + 1 + 1, 0, none⟩ = some (.slice none 0 0) := kept_cell hb (cell_nw (by simp) (by rfl))
    have bf32 : w1.frozen? ⟨w.heap.size + 1 + 1, 0, none⟩ = false := kept_froz hb (by simp <;> omega) (froz_nw (by simp))
    have bx33 : w1.cell? ⟨w.heap.size + 1 + 1, 1, none⟩ = some (.slice none 0 0) := kept_cell hb (cell_nw (by simp) (by rfl))
    have bf34 : w1.frozen? ⟨w.heap.size + 1 + 1, 1, none⟩ = false := kept_froz hb (by simp <;> omega) (froz_nw (by simp))
    have tot := btr (bal (bal (bal (bself w) (.cells #[.slice a0 c.vars.length c0, .slice a1 c.arrays.length c1, .slice a2 c.list.length c2] 35)) (.cells #[.slice a3 m.vals.length c3, .slice a4 m.arrs.length c4] 37)) (.cells #[.slice none 0 0, .slice none 0 0] 37)) hb
    clear hb
    rw [← hnw]
    clear hnw
    have lt35 := lt_of_cell bx26
    have lt36 := lt_of_cell bx29
    have lt37 := lt_of_cell bx31
    refine wp_region_noPanic ?_
    refine wp_region_held_drew (S := (fun W' => W'.cell? ⟨w.heap.size, 0, none⟩ = some (.slice a0 c.vars.length c0) ∧ W'.cell? ⟨w.heap.size, 1, none⟩ = some (.slice a1 c.arrays.length c1) ∧ W'.cell? ⟨w.heap.size, 2, none⟩ = some (.slice a2 c.list.length c2) ∧ W'.cell? ⟨w.heap.size + 1, 0, none⟩ = some (.slice a3 m.vals.length c3) ∧ W'.cell? ⟨w.heap.size + 1, 1, none⟩ = some (.slice a4 m.arrs.length c4))) (by kernel_rfl) ⟨kept_cell (Below.drew (bself w1)) bx26, kept_cell (Below.drew (bself w1)) bx27, kept_cell (Below.drew (bself w1)) bx28, kept_cell (Below.drew (bself w1)) bx29, kept_cell (Below.drew (bself w1)) bx30⟩ (fun hHeld => ?_)
    obtain ⟨w2, hwd⟩ : ∃ X, X = World.drew w1 := ⟨_, rfl⟩
    rw [← hwd] at hHeld ⊢
    have hb : Below w1.heap.size w1 w2 := by rw [hwd]; exact Below.drew (bself _)
    clear hwd
    have hsz38 := hb.size
    replace bf32 := kept_froz hb (lt_of_cell bx31) bf32
    replace bf34 := kept_froz hb (lt_of_cell bx33) bf34
    replace bx26 : w2.cell? ⟨w.heap.size, 0, none⟩ = some (.slice a0 c.vars.length c0) := kept_cell hb bx26
    replace bx27 : w2.cell? ⟨w.heap.size, 1, none⟩ = some (.slice a1 c.arrays.length c1) := kept_cell hb bx27
    replace bx28 : w2.cell? ⟨w.heap.size, 2, none⟩ = some (.slice a2 c.list.length c2) := kept_cell hb bx28
    replace bx29 : w2.cell? ⟨w.heap.size + 1, 0, none⟩ = some (.slice a3 m.vals.length c3) := kept_cell hb bx29
    replace bx30 : w2.cell? ⟨w.heap.size + 1, 1, none⟩ = some (.slice a4 m.arrs.length c4) := kept_cell hb bx30
    replace bx31 : w2.cell? ⟨w.heap.size + 1 + 1, 0, none⟩ = some (.slice none 0 0) := kept_cell hb bx31
    replace bx33 : w2.cell? ⟨w.heap.size + 1 + 1, 1, none⟩ = some (.slice none 0 0) := kept_cell hb bx33
    replace tot := btr tot hb
    clear hb
    clear lt35 lt36 lt37
    have lt39 := lt_of_cell bx26
    have lt40 := lt_of_cell bx29
    have lt41 := lt_of_cell bx31
    refine take_d (i := 0) (d := 9) (v := ?_) rfl rfl (by kernel_rfl) (by kernel_rfl) (by kernel_rfl) (fun _ _ _ h => h) (Or.inl ⟨by rfl, ?_⟩) (by assumption) ?_
    rotate_left
    · intro W' hSw; (try dsimp only at hSw); obtain ⟨s0, s1, s2, s3, s4⟩ := hSw; go_simp; try with_reducible rfl
    try simp only [Act.put, List.setIfInBounds_toArray, List.set]
    refine wpAnyH_ready (rs := [1]) (by kernel_rfl) (by simp) ?_
    refine AllReadyH.cons rfl (fun K hK => ?_) AllReadyH.nil
    go_simp
    refine (HCV.out _ tot).mono ?_
    rintro e w3 ⟨rfl, hb⟩
    have hsz42 := hb.size
    replace bf32 := kept_froz hb (lt_of_cell bx31) bf32
    replace bf34 := kept_froz hb (lt_of_cell bx33) bf34
    replace bx26 : w3.cell? ⟨w.heap.size, 0, none⟩ = some (.slice a0 c.vars.length c0) := kept_cell hb bx26
    replace bx27 : w3.cell? ⟨w.heap.size, 1, none⟩ = some (.slice a1 c.arrays.length c1) := kept_cell hb bx27
    replace bx28 : w3.cell? ⟨w.heap.size, 2, none⟩ = some (.slice a2 c.list.length c2) := kept_cell hb bx28
    replace bx29 : w3.cell? ⟨w.heap.size + 1, 0, none⟩ = some (.slice a3 m.vals.length c3) := kept_cell hb bx29
    replace bx30 : w3.cell? ⟨w.heap.size + 1, 1, none⟩ = some (.slice a4 m.arrs.length c4) := kept_cell hb bx30
    replace bx31 : w3.cell? ⟨w.heap.size + 1 + 1, 0, none⟩ = some (.slice none 0 0) := kept_cell hb bx31
    replace bx33 : w3.cell? ⟨w.heap.size + 1 + 1, 1, none⟩ = some (.slice none 0 0) := kept_cell hb bx33
    replace tot := btr tot hb
    clear hb
    clear lt39 lt40 lt41
    have lt43 := lt_of_cell bx26
    have lt44 := lt_of_cell bx29
    have lt45 := lt_of_cell bx31
    refine hK.out _ _ ⟨bx26, bx27, bx28, bx29, bx30⟩ (fun hHeld => ?_)
    clear hK K
    try simp only [Act.put, List.setIfInBounds_toArray, List.set]
    refine take_d (i := 2) (d := 11) (v := ?_) rfl rfl (by kernel_rfl) (by kernel_rfl) (by kernel_rfl) (fun _ _ _ h => h) (Or.inl ⟨by rfl, ?_⟩) (by assumption) ?_
    rotate_left
    · intro W' hSw; (try dsimp only at hSw); obtain ⟨s0, s1, s2, s3, s4⟩ := hSw; go_simp; try with_reducible rfl
    try simp only [Act.put, List.setIfInBounds_toArray, List.set]
    refine take_d (i := 3) (d := 12) (v := ?_) rfl rfl (by kernel_rfl) (by kernel_rfl) (by kernel_rfl) (fun _ _ _ h => h) (Or.inl ⟨by rfl, ?_⟩) (by assumption) ?_
    rotate_left
    · intro W' hSw; (try dsimp only at hSw); obtain ⟨s0, s1, s2, s3, s4⟩ := hSw; go_simp; try with_reducible rfl
    try simp only [Act.put, List.setIfInBounds_toArray, List.set]
    refine take_d (i := 4) (d := 13) (v := ?_) rfl rfl (by kernel_rfl) (by kernel_rfl) (by kernel_rfl) (fun _ _ _ h => h) (Or.inl ⟨by rfl, ?_⟩) (by assumption) ?_
    rotate_left
    · intro W' hSw; (try dsimp only at hSw); obtain ⟨s0, s1, s2, s3, s4⟩ := hSw; go_simp; try with_reducible rfl
    try simp only [Act.put, List.setIfInBounds_toArray, List.set]
    refine take_d (i := 6) (d := 15) (v := ?_) rfl rfl (by kernel_rfl) (by kernel_rfl) (by kernel_rfl) (fun _ _ _ h => h) (Or.inl ⟨by rfl, ?_⟩) (by assumption) ?_
    rotate_left
    · intro W' hSw; (try dsimp only at hSw); obtain ⟨s0, s1, s2, s3, s4⟩ := hSw; go_simp; try with_reducible rfl
    try simp only [Act.put, List.setIfInBounds_toArray, List.set]
    refine wpAnyH_ready (rs := [5]) (by kernel_rfl) (by simp) ?_
    refine AllReadyH.cons rfl (fun K hK => ?_) AllReadyH.nil
    go_simp
    refine (l6Heads_any a0 a1 a2 c.vars.length c.arrays.length c.list.length c0 c1 c2 _).mono ?_
    rintro e w4 ⟨rfl, hb⟩
    have hsz46 := hb.size
    replace bf32 := kept_froz hb (lt_of_cell bx31) bf32
    replace bf34 := kept_froz hb (lt_of_cell bx33) bf34
    replace bx26 : w4.cell? ⟨w.heap.size, 0, none⟩ = some (.slice a0 c.vars.length c0) := kept_cell hb bx26
    replace bx27 : w4.cell? ⟨w.heap.size, 1, none⟩ = some (.slice a1 c.arrays.length c1) := kept_cell hb bx27
    replace bx28 : w4.cell? ⟨w.heap.size, 2, none⟩ = some (.slice a2 c.list.length c2) := kept_cell hb bx28
    replace bx29 : w4.cell? ⟨w.heap.size + 1, 0, none⟩ = some (.slice a3 m.vals.length c3) := kept_cell hb bx29
    replace bx30 : w4.cell? ⟨w.heap.size + 1, 1, none⟩ = some (.slice a4 m.arrs.length c4) := kept_cell hb bx30
    replace bx31 : w4.cell? ⟨w.heap.size + 1 + 1, 0, none⟩ = some (.slice none 0 0) := kept_cell hb bx31
    replace bx33 : w4.cell? ⟨w.heap.size + 1 + 1, 1, none⟩ = some (.slice none 0 0) := kept_cell hb bx33
    replace tot := btr tot hb
    clear hb
    clear lt43 lt44 lt45
    have lt47 := lt_of_cell bx26
    have lt48 := lt_of_cell bx29
    have lt49 := lt_of_cell bx31
    refine hK.out _ _ ⟨bx26, bx27, bx28, bx29, bx30⟩ (fun hHeld => ?_)
    clear hK K
    try simp only [Act.put, List.setIfInBounds_toArray, List.set]
    refine wpAnyH_ready (rs := [7]) (by kernel_rfl) (by simp) ?_
    refine AllReadyH.cons rfl (fun K hK => ?_) AllReadyH.nil
    go_simp
    refine (HFT.out _ tot).mono ?_
    rintro e w5 ⟨rfl, hb⟩
    have hsz50 := hb.size
    replace bf32 := kept_froz hb (lt_of_cell bx31) bf32
    replace bf34 := kept_froz hb (lt_of_cell bx33) bf34
    replace bx26 : w5.cell? ⟨w.heap.size, 0, none⟩ = some (.slice a0 c.vars.length c0) := kept_cell hb bx26
    replace bx27 : w5.cell? ⟨w.heap.size, 1, none⟩ = some (.slice a1 c.arrays.length c1) := kept_cell hb bx27
    replace bx28 : w5.cell? ⟨w.heap.size, 2, none⟩ = some (.slice a2 c.list.length c2) := kept_cell hb bx28
    replace bx29 : w5.cell? ⟨w.heap.size + 1, 0, none⟩ = some (.slice a3 m.vals.length c3) := kept_cell hb bx29
    replace bx30 : w5.cell? ⟨w.heap.size + 1, 1, none⟩ = some (.slice a4 m.arrs.length c4) := kept_cell hb bx30
    replace bx31 : w5.cell? ⟨w.heap.size + 1 + 1, 0, none⟩ = some (.slice none 0 0) := kept_cell hb bx31
    replace bx33 : w5.cell? ⟨w.heap.size + 1 + 1, 1, none⟩ = some (.slice none 0 0) := kept_cell hb bx33
    replace tot := btr tot hb
    clear hb
    clear lt47 lt48 lt49
    have lt51 := lt_of_cell bx26
    have lt52 := lt_of_cell bx29
    have lt53 := lt_of_cell bx31
    refine hK.out _ _ ⟨bx26, bx27, bx28, bx29, bx30⟩ (fun hHeld => ?_)
    clear hK K
    try simp only [Act.put, List.setIfInBounds_toArray, List.set]
    refine take_d (i := 8) (d := 17) (v := ?_) rfl rfl (by kernel_rfl) (by kernel_rfl) (by kernel_rfl) (fun _ _ _ h => h) (Or.inl ⟨by rfl, ?_⟩) (by assumption) ?_
    rotate_left
    · intro W' hSw; (try dsimp only at hSw); obtain ⟨s0, s1, s2, s3, s4⟩ := hSw; go_simp; try with_reducible rfl
    try simp only [Act.put, List.setIfInBounds_toArray, List.set]
    refine take_d (i := 9) (d := 18) (v := ?_) rfl rfl (by kernel_rfl) (by kernel_rfl) (by kernel_rfl) (fun _ _ _ h => h) (Or.inl ⟨by rfl, ?_⟩) (by assumption) ?_
    rotate_left
    · intro W' hSw; (try dsimp only at hSw); obtain ⟨s0, s1, s2, s3, s4⟩ := hSw; go_simp; try with_reducible rfl
    try simp only [Act.put, List.setIfInBounds_toArray, List.set]
    refine wpAnyH_done (by kernel_rfl) ?_ _
    refine NoPanic.normal ?_
    clear hHeld
    have HE := Lib.hid (HNO.out (by rw [HGO.out]; rfl))
    have ef := (World.ownsRow_lit (base := ((World.setCell (World.setCell w5 ⟨w.heap.size + 1 + 1, 0, none⟩ (.slice none 0 0)) ⟨w.heap.size + 1 + 1, 1, none⟩ (.slice none 0 0))).heap.size) (e := 89) (size := 2) ((World.setCell (World.setCell w5 ⟨w.heap.size + 1 + 1, 0, none⟩ (.slice none 0 0)) ⟨w.heap.size + 1 + 1, 1, none⟩ (.slice none 0 0))) #[] 0 (Nat.le_refl _) (by unfold maxLen; omega) (by simp))
    try simp only [World.size_alloc, World.size_setCell] at ef
    have x55 := (cell_al (cell_ne (b := (w.heap.size + 1 + 1)) (j := 1) (cell_at _ (w.heap.size + 1 + 1) 0 (.slice none 0 0) bx31) (by omega) (.slice none 0 0)) (.cells #[] 89))
    have x56 := (cell_al (cell_at _ (w.heap.size + 1 + 1) 1 (.slice none 0 0) (cell_ne (b := (w.heap.size + 1 + 1)) (j := 0) bx33 (by omega) (.slice none 0 0))) (.cells #[] 89))
    have tt := (bal (bst (bst tot (w.heap.size + 1 + 1) 0 (by omega) (.slice none 0 0)) (w.heap.size + 1 + 1) 1 (by omega) (.slice none 0 0)) (.cells #[] 89))
    go_wp2
    exact bodyPost_ret (v := .tuple #[.agg #[.slice none 0 0, .slice none 0 0], .slice (some ⟨w5.heap.size, 0, none⟩) 0 0, .bool false]) (by simp [results, Try.results31, go_sem, x55, x56]) rfl (by exact by rw [HE.out.1, HE.out.2.1, HE.out.2.2]; exact ⟨_, _, [], _, rfl, noMem_own _ _, own_mono ef (by omega), tt⟩)
  · skip
    go_enter Try.func31, Try.ntmps31
    go_upto_region 1 with (fail)
    obtain ⟨w1, hnw⟩ : ∃ X, X = (World.alloc (World.alloc (World.alloc w (.cells #[.slice a0 c.vars.length c0, .slice a1 c.arrays.length c1, .slice a2 c.list.length c2] 35)) (.cells #[.slice a3 m.vals.length c3, .slice a4 m.arrs.length c4] 37)) (.cells #[.slice none 0 0, .slice none 0 0] 37)) := ⟨_, rfl⟩
    have hb : Below (World.alloc (World.alloc (World.alloc w (.cells #[.slice a0 c.vars.length c0, .slice a1 c.arrays.length c1, .slice a2 c.list.length c2] 35)) (.cells #[.slice a3 m.vals.length c3, .slice a4 m.arrs.length c4] 37)) (.cells #[.slice none 0 0, .slice none 0 0] 37)).heap.size (World.alloc (World.alloc (World.alloc w (.cells #[.slice a0 c.vars.length c0, .slice a1 c.arrays.length c1, .slice a2 c.list.length c2] 35)) (.cells #[.slice a3 m.vals.length c3, .slice a4 m.arrs.length c4] 37)) (.cells #[.slice none 0 0, .slice none 0 0] 37)) w1 := by rw [hnw]; exact bself _
    have hsz57 := hb.size
    simp only [World.size_alloc] at hsz57
    have bx58 : w1.cell? ⟨w.heap.size, 0, none⟩ = some (.slice a0 c.vars.length c0) := kept_cell hb (cell_al (cell_al (cell_nw (by simp) (by rfl)) _) _)
    have bx59 : w1.cell? ⟨w.heap.size, 1, none⟩ = some (.slice a1 c.arrays.length c1) := kept_cell hb (cell_al (cell_al (cell_nw (by simp) (by rfl)) _) _)
    have bx60 : w1.cell? ⟨w.heap.size, 2, none⟩ = some (.slice a2 c.list.length c2) := kept_cell hb (cell_al (cell_al (cell_nw (by simp) (by rfl)) _) _)
    have bx61 : w1.cell? ⟨w.heap.size + 1, 0, none⟩ = some (.slice a3 m.vals.length c3) := kept_cell hb (cell_al (cell_nw (by simp) (by rfl)) _)
    have bx62 : w1.cell? ⟨w.heap.size + 1, 1, none⟩ = some (.slice a4 m.arrs.length c4) := kept_cell hb (cell_al (cell_nw (by simp) (by rfl)) _)
    have bx63 : w1.cell? ⟨w.heap.size + 1 + 1, 0, none⟩ = some (.slice none 0 0) := kept_cell hb (cell_nw (by simp) (by rfl))
    have bf64 : w1.frozen? ⟨w.heap.size + 1 + 1, 0, none⟩ = false := kept_froz hb (by simp <;> omega) (froz_nw (by simp))
    have bx65 : w1.cell? ⟨w.heap.size + 1 + 1, 1, none⟩ = some (.slice none 0 0) := kept_cell hb (cell_nw (by simp) (by rfl))
    have bf66 : w1.frozen? ⟨w.heap.size + 1 + 1, 1, none⟩ = false := kept_froz hb (by simp <;> omega) (froz_nw (by simp))
    have tot := btr (bal (bal (bal (bself w) (.cells #[.slice a0 c.vars.length c0, .slice a1 c.arrays.length c1, .slice a2 c.list.length c2] 35)) (.cells #[.slice a3 m.vals.length c3, .slice a4 m.arrs.length c4] 37)) (.cells #[.slice none 0 0, .slice none 0 0] 37)) hb
    clear hb
    rw [← hnw]
    clear hnw
    have lt67 := lt_of_cell bx58
    have lt68 := lt_of_cell bx61
    have lt69 := lt_of_cell bx63
    refine wp_region_noPanic ?_
    refine wp_region_held_drew (S := (fun W' => W'.cell? ⟨w.heap.size, 0, none⟩ = some (.slice a0 c.vars.length c0) ∧ W'.cell? ⟨w.heap.size, 1, none⟩ = some (.slice a1 c.arrays.length c1) ∧ W'.cell? ⟨w.heap.size, 2, none⟩ = some (.slice a2 c.list.length c2) ∧ W'.cell? ⟨w.heap.size + 1, 0, none⟩ = some (.slice a3 m.vals.length c3) ∧ W'.cell? ⟨w.heap.size + 1, 1, none⟩ = some (.slice a4 m.arrs.length c4))) (by kernel_rfl) ⟨kept_cell (Below.drew (bself w1)) bx58, kept_cell (Below.drew (bself w1)) bx59, kept_cell (Below.drew (bself w1)) bx60, kept_cell (Below.drew (bself w1)) bx61, kept_cell (Below.drew (bself w1)) bx62⟩ (fun hHeld => ?_)
    obtain ⟨w2, hwd⟩ : ∃ X, X = World.drew w1 := ⟨_, rfl⟩
    rw [← hwd] at hHeld ⊢
    have hb : Below w1.heap.size w1 w2 := by rw [hwd]; exact Below.drew (bself _)
    clear hwd
    have hsz70 := hb.size
    replace bf64 := kept_froz hb (lt_of_cell bx63) bf64
    replace bf66 := kept_froz hb (lt_of_cell bx65) bf66
    replace bx58 : w2.cell? ⟨w.heap.size, 0, none⟩ = some (.slice a0 c.vars.length c0) := kept_cell hb bx58
    replace bx59 : w2.cell? ⟨w.heap.size, 1, none⟩ = some (.slice a1 c.arrays.length c1) := kept_cell hb bx59
    replace bx60 : w2.cell? ⟨w.heap.size, 2, none⟩ = some (.slice a2 c.list.length c2) := kept_cell hb bx60
    replace bx61 : w2.cell? ⟨w.heap.size + 1, 0, none⟩ = some (.slice a3 m.vals.length c3) := kept_cell hb bx61
    replace bx62 : w2.cell? ⟨w.heap.size + 1, 1, none⟩ = some (.slice a4 m.arrs.length c4) := kept_cell hb bx62
    replace bx63 : w2.cell? ⟨w.heap.size + 1 + 1, 0, none⟩ = some (.slice none 0 0) := kept_cell hb bx63
    replace bx65 : w2.cell? ⟨w.heap.size + 1 + 1, 1, none⟩ = some (.slice none 0 0) := kept_cell hb bx65
    replace tot := btr tot hb
    clear hb
    clear lt67 lt68 lt69
    have lt71 := lt_of_cell bx58
    have lt72 := lt_of_cell bx61
    have lt73 := lt_of_cell bx63
    refine take_d (i := 0) (d := 9) (v := ?_) rfl rfl (by kernel_rfl) (by kernel_rfl) (by kernel_rfl) (fun _ _ _ h => h) (Or.inl ⟨by rfl, ?_⟩) (by assumption) ?_
    rotate_left
    · intro W' hSw; (try dsimp only at hSw); obtain ⟨s0, s1, s2, s3, s4⟩ := hSw; go_simp; try with_reducible rfl
    try simp only [Act.put, List.setIfInBounds_toArray, List.set]
    refine wpAnyH_ready (rs := [1]) (by kernel_rfl) (by simp) ?_
    refine AllReadyH.cons rfl (fun K hK => ?_) AllReadyH.nil
    go_simp
    refine (HCV.out _ tot).mono ?_
    rintro e w3 ⟨rfl, hb⟩
    have hsz74 := hb.size
    replace bf64 := kept_froz hb (lt_of_cell bx63) bf64
    replace bf66 := kept_froz hb (lt_of_cell bx65) bf66
    replace bx58 : w3.cell? ⟨w.heap.size, 0, none⟩ = some (.slice a0 c.vars.length c0) := kept_cell hb bx58
    replace bx59 : w3.cell? ⟨w.heap.size, 1, none⟩ = some (.slice a1 c.arrays.length c1) := kept_cell hb bx59
    replace bx60 : w3.cell? ⟨w.heap.size, 2, none⟩ = some (.slice a2 c.list.length c2) := kept_cell hb bx60
    replace bx61 : w3.cell? ⟨w.heap.size + 1, 0, none⟩ = some (.slice a3 m.vals.length c3) := kept_cell hb bx61
    replace bx62 : w3.cell? ⟨w.heap.size + 1, 1, none⟩ = some (.slice a4 m.arrs.length c4) := kept_cell hb bx62
    replace bx63 : w3.cell? ⟨w.heap.size + 1 + 1, 0, none⟩ = some (.slice none 0 0) := kept_cell hb bx63
    replace bx65 : w3.cell? ⟨w.heap.size + 1 + 1, 1, none⟩ = some (.slice none 0 0) := kept_cell hb bx65
    replace tot := btr tot hb
    clear hb
    clear lt71 lt72 lt73
    have lt75 := lt_of_cell bx58
    have lt76 := lt_of_cell bx61
    have lt77 := lt_of_cell bx63
    refine hK.out _ _ ⟨bx58, bx59, bx60, bx61, bx62⟩ (fun hHeld => ?_)
    clear hK K
    try simp only [Act.put, List.setIfInBounds_toArray, List.set]
    refine take_d (i := 2) (d := 11) (v := ?_) rfl rfl (by kernel_rfl) (by kernel_rfl) (by kernel_rfl) (fun _ _ _ h => h) (Or.inl ⟨by rfl, ?_⟩) (by assumption) ?_
    rotate_left
    · intro W' hSw; (try dsimp only at hSw); obtain ⟨s0, s1, s2, s3, s4⟩ := hSw; go_simp; try with_reducible rfl
    try simp only [Act.put, List.setIfInBounds_toArray, List.set]
    refine take_d (i := 3) (d := 12) (v := ?_) rfl rfl (by kernel_rfl) (by kernel_rfl) (by kernel_rfl) (fun _ _ _ h => h) (Or.inl ⟨by rfl, ?_⟩) (by assumption) ?_
    rotate_left
    · intro W' hSw; (try dsimp only at hSw); obtain ⟨s0, s1, s2, s3, s4⟩ := hSw; go_simp; try with_reducible rfl
    try simp only [Act.put, List.setIfInBounds_toArray, List.set]
    refine take_d (i := 4) (d := 13) (v := ?_) rfl rfl (by kernel_rfl) (by kernel_rfl) (by kernel_rfl) (fun _ _ _ h => h) (Or.inl ⟨by rfl, ?_⟩) (by assumption) ?_
    rotate_left
    · intro W' hSw; (try dsimp only at hSw); obtain ⟨s0, s1, s2, s3, s4⟩ := hSw; go_simp; try with_reducible rfl
    try simp only [Act.put, List.setIfInBounds_toArray, List.set]
    refine take_d (i := 6) (d := 15) (v := ?_) rfl rfl (by kernel_rfl) (by kernel_rfl) (by kernel_rfl) (fun _ _ _ h => h) (Or.inl ⟨by rfl, ?_⟩) (by assumption) ?_
    rotate_left
    · intro W' hSw; (try dsimp only at hSw); obtain ⟨s0, s1, s2, s3, s4⟩ := hSw; go_simp; try with_reducible rfl
    try simp only [Act.put, List.setIfInBounds_toArray, List.set]
    refine wpAnyH_ready (rs := [5]) (by kernel_rfl) (by simp) ?_
    refine AllReadyH.cons rfl (fun K hK => ?_) AllReadyH.nil
    go_simp
    refine (l6Heads_any a0 a1 a2 c.vars.length c.arrays.length c.list.length c0 c1 c2 _).mono ?_
    rintro e w4 ⟨rfl, hb⟩
    have hsz78 := hb.size
    replace bf64 := kept_froz hb (lt_of_cell bx63) bf64
    replace bf66 := kept_froz hb (lt_of_cell bx65) bf66
    replace bx58 : w4.cell? ⟨w.heap.size, 0, none⟩ = some (.slice a0 c.vars.length c0) := kept_cell hb bx58
    replace bx59 : w4.cell? ⟨w.heap.size, 1, none⟩ = some (.slice a1 c.arrays.length c1) := kept_cell hb bx59
    replace bx60 : w4.cell? ⟨w.heap.size, 2, none⟩ = some (.slice a2 c.list.length c2) := kept_cell hb bx60
    replace bx61 : w4.cell? ⟨w.heap.size + 1, 0, none⟩ = some (.slice a3 m.vals.length c3) := kept_cell hb bx61
    replace bx62 : w4.cell? ⟨w.heap.size + 1, 1, none⟩ = some (.slice a4 m.arrs.length c4) := kept_cell hb bx62
    replace bx63 : w4.cell? ⟨w.heap.size + 1 + 1, 0, none⟩ = some (.slice none 0 0) := kept_cell hb bx63
    replace bx65 : w4.cell? ⟨w.heap.size + 1 + 1, 1, none⟩ = some (.slice none 0 0) := kept_cell hb bx65
    replace tot := btr tot hb
    clear hb
    clear lt75 lt76 lt77
    have lt79 := lt_of_cell bx58
    have lt80 := lt_of_cell bx61
    have lt81 := lt_of_cell bx63
    refine hK.out _ _ ⟨bx58, bx59, bx60, bx61, bx62⟩ (fun hHeld => ?_)
    clear hK K
    try simp only [Act.put, List.setIfInBounds_toArray, List.set]
    refine wpAnyH_ready (rs := [7]) (by kernel_rfl) (by simp) ?_
    refine AllReadyH.cons rfl (fun K hK => ?_) AllReadyH.nil
    go_simp
    refine (HFT.out _ tot).mono ?_
    rintro e w5 ⟨rfl, hb⟩
    have hsz82 := hb.size
    replace bf64 := kept_froz hb (lt_of_cell bx63) bf64
    replace bf66 := kept_froz hb (lt_of_cell bx65) bf66
    replace bx58 : w5.cell? ⟨w.heap.size, 0, none⟩ = some (.slice a0 c.vars.length c0) := kept_cell hb bx58
    replace bx59 : w5.cell? ⟨w.heap.size, 1, none⟩ = some (.slice a1 c.arrays.length c1) := kept_cell hb bx59
    replace bx60 : w5.cell? ⟨w.heap.size, 2, none⟩ = some (.slice a2 c.list.length c2) := kept_cell hb bx60
    replace bx61 : w5.cell? ⟨w.heap.size + 1, 0, none⟩ = some (.slice a3 m.vals.length c3) := kept_cell hb bx61
    replace bx62 : w5.cell? ⟨w.heap.size + 1, 1, none⟩ = some (.slice a4 m.arrs.length c4) := kept_cell hb bx62
    replace bx63 : w5.cell? ⟨w.heap.size + 1 + 1, 0, none⟩ = some (.slice none 0 0) := kept_cell hb bx63
    replace bx65 : w5.cell? ⟨w.heap.size + 1 + 1, 1, none⟩ = some (.slice none 0 0) := kept_cell hb bx65
    replace tot := btr tot hb
    clear hb
    clear lt79 lt80 lt81
    have lt83 := lt_of_cell bx58
    have lt84 := lt_of_cell bx61
    have lt85 := lt_of_cell bx63
    refine hK.out _ _ ⟨bx58, bx59, bx60, bx61, bx62⟩ (fun hHeld => ?_)
    clear hK K
    try simp only [Act.put, List.setIfInBounds_toArray, List.set]
    refine take_d (i := 8) (d := 17) (v := ?_) rfl rfl (by kernel_rfl) (by kernel_rfl) (by kernel_rfl) (fun _ _ _ h => h) (Or.inl ⟨by rfl, ?_⟩) (by assumption) ?_
    rotate_left
    · intro W' hSw; (try dsimp only at hSw); obtain ⟨s0, s1, s2, s3, s4⟩ := hSw; go_simp; try with_reducible rfl
    try simp only [Act.put, List.setIfInBounds_toArray, List.set]
    refine take_d (i := 9) (d := 18) (v := ?_) rfl rfl (by kernel_rfl) (by kernel_rfl) (by kernel_rfl) (fun _ _ _ h => h) (Or.inl ⟨by rfl, ?_⟩) (by assumption) ?_
    rotate_left
    · intro W' hSw; (try dsimp only at hSw); obtain ⟨s0, s1, s2, s3, s4⟩ := hSw; go_simp; try with_reducible rfl
    try simp only [Act.put, List.setIfInBounds_toArray, List.set]
    refine wpAnyH_done (by kernel_rfl) ?_ _
    refine NoPanic.normal ?_
    clear hHeld
    have HG := Lib.hid (show G = true by rw [HGO.out]; rfl)
    have HYN2 := Lib.hid (HYN.out HG.out); have HYS2 := Lib.hid (fun n => HYS.out n HG.out); have HRU2 := Lib.hid (HRU.out HG.out)
    clear HYN HYS HRU HNO HCV HFT HGO
    have hR : (runR c (ini m) = none ∧ srT c ws (ini m) = [] ∧ mrN c (ini m) = ⟨[], []⟩) ∨ ∃ n, runR c (ini m) = some n ∧ srT c ws (ini m) = spN c ws (n + 1) (ini m) ∧ mrN c (ini m) = (stN c (n + 1) (ini m)).mem := by cases h : runR c (ini m) with | none => exact Or.inl ⟨rfl, srT_none h, mrN_none h⟩ | some n => exact Or.inr ⟨n, rfl, srT_some h, mrN_some h⟩
    have HE : Hid (RE = srT c ws (ini m) ∧ RM = mrN c (ini m) ∧ RB = (runR c (ini m)).isSome) := Lib.hid (by rcases hR with ⟨h1, h2, h3⟩ | ⟨n, h1, h2, h3⟩; (obtain ⟨e1, e2, e3⟩ := HYN2.out h1; rw [e1, e2, e3, h1, h2, h3]; exact ⟨rfl, rfl, rfl⟩); (obtain ⟨e1, e2, e3⟩ := HYS2.out n h1; rw [e1, e2, e3, h1, h2, h3]; exact ⟨rfl, rfl, rfl⟩))
    clear hR HYN2 HYS2
    generalize srT c ws (ini m) = T at *; generalize mrN c (ini m) = TM at *; generalize runR c (ini m) = RR at *
    go_wp2_with fail
    refine (HRU2.out _ tot).mono ?_
    rintro e w6 ⟨ux, uy, us, u, rfl, hE, hO, hb⟩
    obtain ⟨pu, tu, rfl⟩ := own_shape hE
    obtain ⟨p1, t1, p2, t2, rfl, rfl⟩ := hO.shape
    have hsz86 := hb.size
    replace bf64 := kept_froz hb (lt_of_cell bx63) bf64
    replace bf66 := kept_froz hb (lt_of_cell bx65) bf66
    replace bx58 : w6.cell? ⟨w.heap.size, 0, none⟩ = some (.slice a0 c.vars.length c0) := kept_cell hb bx58
    replace bx59 : w6.cell? ⟨w.heap.size, 1, none⟩ = some (.slice a1 c.arrays.length c1) := kept_cell hb bx59
    replace bx60 : w6.cell? ⟨w.heap.size, 2, none⟩ = some (.slice a2 c.list.length c2) := kept_cell hb bx60
    replace bx61 : w6.cell? ⟨w.heap.size + 1, 0, none⟩ = some (.slice a3 m.vals.length c3) := kept_cell hb bx61
    replace bx62 : w6.cell? ⟨w.heap.size + 1, 1, none⟩ = some (.slice a4 m.arrs.length c4) := kept_cell hb bx62
    replace bx63 : w6.cell? ⟨w.heap.size + 1 + 1, 0, none⟩ = some (.slice none 0 0) := kept_cell hb bx63
    replace bx65 : w6.cell? ⟨w.heap.size + 1 + 1, 1, none⟩ = some (.slice none 0 0) := kept_cell hb bx65
    replace tot := btr tot hb
    clear hb
    clear bx58 bx59 bx60 bx61 bx62
    clear lt83 lt84 lt85
    have lt87 := lt_of_cell bx63
    have iv88 := hE.lt
    have iv89 := hO.lt
    have oE := Lib.hid (own_set (own_set hE (w.heap.size + 1 + 1) 0 (fun h => by have := iv88 _ h; omega) (.slice p1 TM.vals.length t1)) (w.heap.size + 1 + 1) 1 (fun h => by have := iv88 _ h; omega) (.slice p2 TM.arrs.length t2)); have oM := Lib.hid ((hO.keep ((Chg.refl (fun gk => gk = (w.heap.size + 1 + 1)) _).setCell (w.heap.size + 1 + 1) 0 (.slice p1 TM.vals.length t1) (fun _ => rfl)) (fun gq h h2 => by have := iv89 gq h; omega)).keep ((Chg.refl (fun gk => gk = (w.heap.size + 1 + 1)) _).setCell (w.heap.size + 1 + 1) 1 (.slice p2 TM.arrs.length t2) (fun _ => rfl)) (fun gq h h2 => by have := iv89 gq h; omega))
    clear hE hO
    have x90 := (cell_ne (b := (w.heap.size + 1 + 1)) (j := 1) (cell_at _ (w.heap.size + 1 + 1) 0 (.slice p1 TM.vals.length t1) bx63) (by omega) (.slice p2 TM.arrs.length t2))
    have x91 := (cell_at _ (w.heap.size + 1 + 1) 1 (.slice p2 TM.arrs.length t2) (cell_ne (b := (w.heap.size + 1 + 1)) (j := 0) bx65 (by omega) (.slice p1 TM.vals.length t1)))
    have tt := (bst (bst tot (w.heap.size + 1 + 1) 0 (by omega) (.slice p1 TM.vals.length t1)) (w.heap.size + 1 + 1) 1 (by omega) (.slice p2 TM.arrs.length t2))
    go_wp2
    exact bodyPost_ret (v := .tuple #[.agg #[.slice p1 TM.vals.length t1, .slice p2 TM.arrs.length t2], .slice pu T.length tu, .bool RR.isSome]) (by simp [results, Try.results31, go_sem, x90, x91]) rfl (by exact by rw [HE.out.1, HE.out.2.1, HE.out.2.2]; exact ⟨_, _, us, _, rfl, oM.out.mono (by omega), own_mono oE.out (by omega), tt⟩)
end Go.Proofs.Ytbglogjamfdmpaa
