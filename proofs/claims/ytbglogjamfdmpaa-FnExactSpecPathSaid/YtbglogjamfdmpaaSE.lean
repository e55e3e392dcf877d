/-
  Parts of the proof of the law FnExactSpecPath.
-/
import Derived.Test.YtbglogjamfdmpaaMV
import Derived.Test.YtbglogjamfdmpaaSA
namespace Go.Proofs.Ytbglogjamfdmpaa
open Go.RowKit

theorem OwnMv.readsS {w : World} {base : Nat} {vr vv va : Value} {us : List Value} {s : Ms} (h : OwnMv w base vr vv va us s.regs s.mem) (h0 : s.regs.length ≤ 1048576) (hl : s.mem.vals.length ≤ 1048576) (hn : s.mem.arrs.length ≤ 1048576) (hp : pre2 s.mem.arrs s.mem.arrs.length ≤ 1048576) : ReadsS w vr vv va s :=
  ⟨reads_of_owns h.r (by omega), h.toM.reads hl hn hp⟩

set_option maxHeartbeats 6400000 in
set_option maxRecDepth 100000 in
theorem szMachine_any (vr vx vy : Value) (s : Ms) (left : Int) (w : World) (hs : ReadsS w vr vx vy s) (h0 : 0 ≤ left) (h1 : left ≤ 1073741824) :
    Calls Try.prog 19 #[.agg #[.int .i64 s.pc, vr, vx, vy], .int .i64 left] w fun e w' => ∃ r : Int, e = .returned (.int .i64 r) ∧ (r = -1 ∨ (0 ≤ r ∧ r = left - s.regs.length - s.mem.vals.length - s.mem.arrs.length - pre2 s.mem.arrs s.mem.arrs.length)) ∧ Below w.heap.size w w' := by
  obtain ⟨a5, c5, rfl⟩ := reads_shape hs.r
  obtain ⟨a3, c3, a4, c4, rfl, rfl⟩ := hs.m.shape
  have HS := Lib.hid (fun W (hW : Below w.heap.size w W) => hs.below hW)
  clear hs
  go_enter Try.func19, Try.ntmps19
  go_wp2_with fail
  refine (szIntS_b _ s.regs.length _ left _ (HS.out _ (bal (bself w) (.cells #[.int .i64 s.pc, .slice a5 s.regs.length c5, .slice a3 s.mem.vals.length c3, .slice a4 s.mem.arrs.length c4] 43))).r h0 h1).mono ?_
  rintro e w1 ⟨rfl, hb⟩
  have hsz1 := hb.size
  simp only [World.size_alloc] at hsz1
  have bx2 : w1.cell? ⟨w.heap.size, 0, none⟩ = some (.int .i64 s.pc) := kept_cell hb (cell_nw (by simp) (by rfl))
  have bx3 : w1.cell? ⟨w.heap.size, 1, none⟩ = some (.slice a5 s.regs.length c5) := kept_cell hb (cell_nw (by simp) (by rfl))
  have bx4 : w1.cell? ⟨w.heap.size, 2, none⟩ = some (.slice a3 s.mem.vals.length c3) := kept_cell hb (cell_nw (by simp) (by rfl))
  have bx5 : w1.cell? ⟨w.heap.size, 3, none⟩ = some (.slice a4 s.mem.arrs.length c4) := kept_cell hb (cell_nw (by simp) (by rfl))
  have tot := btr (bal (bself w) (.cells #[.int .i64 s.pc, .slice a5 s.regs.length c5, .slice a3 s.mem.vals.length c3, .slice a4 s.mem.arrs.length c4] 43)) hb
  clear hb
  have lt6 := lt_of_cell bx2
  by_cases hl : left < s.regs.length
  · rw [if_pos hl]
    clear hl
    have tt := tot
    go_wp2
    exact bodyPost_ret (v := .int .i64 (-1)) (by simp [results, Try.results19, go_sem]) rfl (by exact ⟨_, rfl, Or.inl rfl, tt⟩)
  rw [if_neg hl]
  have hnn : ¬ left - (s.regs.length : Int) < 0 := by omega
  go_wp2_with fail
  refine (szMemory_any _ _ s.mem (left - s.regs.length) _ (HS.out _ tot).m (by omega) (by omega)).mono ?_
  rintro e w2 ⟨r, rfl, hrr, hb⟩
  have hsz7 := hb.size
  replace bx2 : w2.cell? ⟨w.heap.size, 0, none⟩ = some (.int .i64 s.pc) := kept_cell hb bx2
  replace bx3 : w2.cell? ⟨w.heap.size, 1, none⟩ = some (.slice a5 s.regs.length c5) := kept_cell hb bx3
  replace bx4 : w2.cell? ⟨w.heap.size, 2, none⟩ = some (.slice a3 s.mem.vals.length c3) := kept_cell hb bx4
  replace bx5 : w2.cell? ⟨w.heap.size, 3, none⟩ = some (.slice a4 s.mem.arrs.length c4) := kept_cell hb bx5
  replace tot := btr tot hb
  clear hb
  clear bx2 bx3 bx4 bx5
  clear lt6
  rcases hrr with rfl | ⟨h2, h3⟩
  · skip
    have tt := tot
    go_wp2
    exact bodyPost_ret (v := .int .i64 (-1)) (by simp [results, Try.results19, go_sem]) rfl (by exact ⟨_, rfl, Or.inl rfl, tt⟩)
  · have hn2 : ¬ r < 0 := by omega
    have H3 := Lib.hid h3; clear h3
    have tt := tot
    go_wp2
    exact bodyPost_ret (v := .int .i64 r) (by simp [results, Try.results19, go_sem]) rfl (by exact ⟨_, rfl, Or.inr ⟨h2, by have := H3.out; omega⟩, tt⟩)
set_option maxHeartbeats 6400000 in
set_option maxRecDepth 100000 in
theorem toMachine_any (vr vx vy : Value) (s : Ms) (w : World) (hs : ReadsS w vr vx vy s) (h0 : s.regs.length ≤ 1048576) (hl : s.mem.vals.length ≤ 1048576) (hn : s.mem.arrs.length ≤ 1048576) (hp : pre2 s.mem.arrs s.mem.arrs.length ≤ 1048576) :
    Calls Try.prog 21 #[.agg #[.int .i64 s.pc, vr, vx, vy]] w fun e w' => ∃ ur ux uy us, e = .returned (.agg #[.int .i64 s.pc, ur, ux, uy]) ∧ OwnMv w' w.heap.size ur ux uy us s.regs s.mem ∧ Below w.heap.size w w' := by
  obtain ⟨a5, c5, rfl⟩ := reads_shape hs.r
  obtain ⟨a3, c3, a4, c4, rfl, rfl⟩ := hs.m.shape
  have HS := Lib.hid (fun W (hW : Below w.heap.size w W) => hs.below hW)
  clear hs
  go_enter Try.func21, Try.ntmps21
  go_upto_region 3 with (fail)
  obtain ⟨w1, hnw⟩ : ∃ X, X = (World.alloc (World.alloc (World.alloc w (.cells #[.int .i64 s.pc, .slice a5 s.regs.length c5, .slice a3 s.mem.vals.length c3, .slice a4 s.mem.arrs.length c4] 43)) (.cells #[.int .i64 0, .slice none 0 0, .slice none 0 0, .slice none 0 0] 49)) (.cells #[.int .i64 s.pc, .slice none 0 0, .slice none 0 0, .slice none 0 0] 49)) := ⟨_, rfl⟩
  have hb : Below (World.alloc (World.alloc (World.alloc w (.cells #[.int .i64 s.pc, .slice a5 s.regs.length c5, .slice a3 s.mem.vals.length c3, .slice a4 s.mem.arrs.length c4] 43)) (.cells #[.int .i64 0, .slice none 0 0, .slice none 0 0, .slice none 0 0] 49)) (.cells #[.int .i64 s.pc, .slice none 0 0, .slice none 0 0, .slice none 0 0] 49)).heap.size (World.alloc (World.alloc (World.alloc w (.cells #[.int .i64 s.pc, .slice a5 s.regs.length c5, .slice a3 s.mem.vals.length c3, .slice a4 s.mem.arrs.length c4] 43)) (.cells #[.int .i64 0, .slice none 0 0, .slice none 0 0, .slice none 0 0] 49)) (.cells #[.int .i64 s.pc, .slice none 0 0, .slice none 0 0, .slice none 0 0] 49)) w1 := by rw [hnw]; exact bself _
  have hsz1 := hb.size
  simp only [World.size_alloc] at hsz1
  have bx2 : w1.cell? ⟨w.heap.size, 0, none⟩ = some (.int .i64 s.pc) := kept_cell hb (cell_al (cell_al (cell_nw (by simp) (by rfl)) _) _)
  have bx3 : w1.cell? ⟨w.heap.size, 1, none⟩ = some (.slice a5 s.regs.length c5) := kept_cell hb (cell_al (cell_al (cell_nw (by simp) (by rfl)) _) _)
  have bx4 : w1.cell? ⟨w.heap.size, 2, none⟩ = some (.slice a3 s.mem.vals.length c3) := kept_cell hb (cell_al (cell_al (cell_nw (by simp) (by rfl)) _) _)
  have bx5 : w1.cell? ⟨w.heap.size, 3, none⟩ = some (.slice a4 s.mem.arrs.length c4) := kept_cell hb (cell_al (cell_al (cell_nw (by simp) (by rfl)) _) _)
  have bx6 : w1.cell? ⟨w.heap.size + 1, 0, none⟩ = some (.int .i64 0) := kept_cell hb (cell_al (cell_nw (by simp) (by rfl)) _)
  have bf7 : w1.frozen? ⟨w.heap.size + 1, 0, none⟩ = false := kept_froz hb (by simp) (froz_al (by simp) (froz_nw (by simp)) _)
  have bx8 : w1.cell? ⟨w.heap.size + 1, 1, none⟩ = some (.slice none 0 0) := kept_cell hb (cell_al (cell_nw (by simp) (by rfl)) _)
  have bf9 : w1.frozen? ⟨w.heap.size + 1, 1, none⟩ = false := kept_froz hb (by simp) (froz_al (by simp) (froz_nw (by simp)) _)
  have bx10 : w1.cell? ⟨w.heap.size + 1, 2, none⟩ = some (.slice none 0 0) := kept_cell hb (cell_al (cell_nw (by simp) (by rfl)) _)
  have bf11 : w1.frozen? ⟨w.heap.size + 1, 2, none⟩ = false := kept_froz hb (by simp) (froz_al (by simp) (froz_nw (by simp)) _)
  have bx12 : w1.cell? ⟨w.heap.size + 1, 3, none⟩ = some (.slice none 0 0) := kept_cell hb (cell_al (cell_nw (by simp) (by rfl)) _)
  have bf13 : w1.frozen? ⟨w.heap.size + 1, 3, none⟩ = false := kept_froz hb (by simp) (froz_al (by simp) (froz_nw (by simp)) _)
  have bx14 : w1.cell? ⟨w.heap.size + 1 + 1, 0, none⟩ = some (.int .i64 s.pc) := kept_cell hb (cell_nw (by simp) (by rfl))
  have bf15 : w1.frozen? ⟨w.heap.size + 1 + 1, 0, none⟩ = false := kept_froz hb (by simp) (froz_nw (by simp))
  have bx16 : w1.cell? ⟨w.heap.size + 1 + 1, 1, none⟩ = some (.slice none 0 0) := kept_cell hb (cell_nw (by simp) (by rfl))
  have bf17 : w1.frozen? ⟨w.heap.size + 1 + 1, 1, none⟩ = false := kept_froz hb (by simp) (froz_nw (by simp))
  have bx18 : w1.cell? ⟨w.heap.size + 1 + 1, 2, none⟩ = some (.slice none 0 0) := kept_cell hb (cell_nw (by simp) (by rfl))
  have bf19 : w1.frozen? ⟨w.heap.size + 1 + 1, 2, none⟩ = false := kept_froz hb (by simp) (froz_nw (by simp))
  have bx20 : w1.cell? ⟨w.heap.size + 1 + 1, 3, none⟩ = some (.slice none 0 0) := kept_cell hb (cell_nw (by simp) (by rfl))
  have bf21 : w1.frozen? ⟨w.heap.size + 1 + 1, 3, none⟩ = false := kept_froz hb (by simp) (froz_nw (by simp))
  have tot := btr (bal (bal (bal (bself w) (.cells #[.int .i64 s.pc, .slice a5 s.regs.length c5, .slice a3 s.mem.vals.length c3, .slice a4 s.mem.arrs.length c4] 43)) (.cells #[.int .i64 0, .slice none 0 0, .slice none 0 0, .slice none 0 0] 49)) (.cells #[.int .i64 s.pc, .slice none 0 0, .slice none 0 0, .slice none 0 0] 49)) hb
  clear hb
  rw [← hnw]
  clear hnw
  have lt22 := lt_of_cell bx2
  have lt23 := lt_of_cell bx6
  have lt24 := lt_of_cell bx14
  go_wp2_with fail
  refine (toIntS_any _ s.regs _ (HS.out _ tot).r (by omega)).mono ?_
  rintro e w2 ⟨ur, rfl, oR, hb⟩
  obtain ⟨pr, tr, rfl⟩ := own_shape oR
  have hsz25 := hb.size
  replace bf7 := kept_froz hb (lt_of_cell bx6) bf7
  replace bf9 := kept_froz hb (lt_of_cell bx8) bf9
  replace bf11 := kept_froz hb (lt_of_cell bx10) bf11
  replace bf13 := kept_froz hb (lt_of_cell bx12) bf13
  replace bf15 := kept_froz hb (lt_of_cell bx14) bf15
  replace bf17 := kept_froz hb (lt_of_cell bx16) bf17
  replace bf19 := kept_froz hb (lt_of_cell bx18) bf19
  replace bf21 := kept_froz hb (lt_of_cell bx20) bf21
  replace bx2 : w2.cell? ⟨w.heap.size, 0, none⟩ = some (.int .i64 s.pc) := kept_cell hb bx2
  replace bx3 : w2.cell? ⟨w.heap.size, 1, none⟩ = some (.slice a5 s.regs.length c5) := kept_cell hb bx3
  replace bx4 : w2.cell? ⟨w.heap.size, 2, none⟩ = some (.slice a3 s.mem.vals.length c3) := kept_cell hb bx4
  replace bx5 : w2.cell? ⟨w.heap.size, 3, none⟩ = some (.slice a4 s.mem.arrs.length c4) := kept_cell hb bx5
  replace bx6 : w2.cell? ⟨w.heap.size + 1, 0, none⟩ = some (.int .i64 0) := kept_cell hb bx6
  replace bx8 : w2.cell? ⟨w.heap.size + 1, 1, none⟩ = some (.slice none 0 0) := kept_cell hb bx8
  replace bx10 : w2.cell? ⟨w.heap.size + 1, 2, none⟩ = some (.slice none 0 0) := kept_cell hb bx10
  replace bx12 : w2.cell? ⟨w.heap.size + 1, 3, none⟩ = some (.slice none 0 0) := kept_cell hb bx12
  replace bx14 : w2.cell? ⟨w.heap.size + 1 + 1, 0, none⟩ = some (.int .i64 s.pc) := kept_cell hb bx14
  replace bx16 : w2.cell? ⟨w.heap.size + 1 + 1, 1, none⟩ = some (.slice none 0 0) := kept_cell hb bx16
  replace bx18 : w2.cell? ⟨w.heap.size + 1 + 1, 2, none⟩ = some (.slice none 0 0) := kept_cell hb bx18
  replace bx20 : w2.cell? ⟨w.heap.size + 1 + 1, 3, none⟩ = some (.slice none 0 0) := kept_cell hb bx20
  replace tot := btr tot hb
  clear hb
  clear lt22 lt23 lt24
  have lt26 := lt_of_cell bx2
  have lt27 := lt_of_cell bx6
  have lt28 := lt_of_cell bx14
  have iv29 := oR.lt
  go_upto_region 4 with (fail)
  obtain ⟨w3, hnw⟩ : ∃ X, X = (World.setCell w2 ⟨w.heap.size + 1 + 1, 1, none⟩ (.slice pr s.regs.length tr)) := ⟨_, rfl⟩
  have hb : Below (World.setCell w2 ⟨w.heap.size + 1 + 1, 1, none⟩ (.slice pr s.regs.length tr)).heap.size (World.setCell w2 ⟨w.heap.size + 1 + 1, 1, none⟩ (.slice pr s.regs.length tr)) w3 := by rw [hnw]; exact bself _
  have hsz30 := hb.size
  simp only [World.size_setCell] at hsz30
  replace bf7 := kept_froz hb (lt_of_cell (cell_ne (b := (w.heap.size + 1 + 1)) (j := 1) bx6 (by omega) (.slice pr s.regs.length tr))) (froz_st (b := ⟨(w.heap.size + 1 + 1), 1, none⟩) bf7 (.slice pr s.regs.length tr))
  replace bf9 := kept_froz hb (lt_of_cell (cell_ne (b := (w.heap.size + 1 + 1)) (j := 1) bx8 (by omega) (.slice pr s.regs.length tr))) (froz_st (b := ⟨(w.heap.size + 1 + 1), 1, none⟩) bf9 (.slice pr s.regs.length tr))
  replace bf11 := kept_froz hb (lt_of_cell (cell_ne (b := (w.heap.size + 1 + 1)) (j := 1) bx10 (by omega) (.slice pr s.regs.length tr))) (froz_st (b := ⟨(w.heap.size + 1 + 1), 1, none⟩) bf11 (.slice pr s.regs.length tr))
  replace bf13 := kept_froz hb (lt_of_cell (cell_ne (b := (w.heap.size + 1 + 1)) (j := 1) bx12 (by omega) (.slice pr s.regs.length tr))) (froz_st (b := ⟨(w.heap.size + 1 + 1), 1, none⟩) bf13 (.slice pr s.regs.length tr))
  replace bf15 := kept_froz hb (lt_of_cell (cell_ne (b := (w.heap.size + 1 + 1)) (j := 1) bx14 (by omega) (.slice pr s.regs.length tr))) (froz_st (b := ⟨(w.heap.size + 1 + 1), 1, none⟩) bf15 (.slice pr s.regs.length tr))
  replace bf17 := kept_froz hb (lt_of_cell (cell_at _ (w.heap.size + 1 + 1) 1 (.slice pr s.regs.length tr) bx16)) (froz_st (b := ⟨(w.heap.size + 1 + 1), 1, none⟩) bf17 (.slice pr s.regs.length tr))
  replace bf19 := kept_froz hb (lt_of_cell (cell_ne (b := (w.heap.size + 1 + 1)) (j := 1) bx18 (by omega) (.slice pr s.regs.length tr))) (froz_st (b := ⟨(w.heap.size + 1 + 1), 1, none⟩) bf19 (.slice pr s.regs.length tr))
  replace bf21 := kept_froz hb (lt_of_cell (cell_ne (b := (w.heap.size + 1 + 1)) (j := 1) bx20 (by omega) (.slice pr s.regs.length tr))) (froz_st (b := ⟨(w.heap.size + 1 + 1), 1, none⟩) bf21 (.slice pr s.regs.length tr))
  replace bx2 : w3.cell? ⟨w.heap.size, 0, none⟩ = some (.int .i64 s.pc) := kept_cell hb (cell_ne (b := (w.heap.size + 1 + 1)) (j := 1) bx2 (by omega) (.slice pr s.regs.length tr))
  replace bx3 : w3.cell? ⟨w.heap.size, 1, none⟩ = some (.slice a5 s.regs.length c5) := kept_cell hb (cell_ne (b := (w.heap.size + 1 + 1)) (j := 1) bx3 (by omega) (.slice pr s.regs.length tr))
  replace bx4 : w3.cell? ⟨w.heap.size, 2, none⟩ = some (.slice a3 s.mem.vals.length c3) := kept_cell hb (cell_ne (b := (w.heap.size + 1 + 1)) (j := 1) bx4 (by omega) (.slice pr s.regs.length tr))
  replace bx5 : w3.cell? ⟨w.heap.size, 3, none⟩ = some (.slice a4 s.mem.arrs.length c4) := kept_cell hb (cell_ne (b := (w.heap.size + 1 + 1)) (j := 1) bx5 (by omega) (.slice pr s.regs.length tr))
  replace bx6 : w3.cell? ⟨w.heap.size + 1, 0, none⟩ = some (.int .i64 0) := kept_cell hb (cell_ne (b := (w.heap.size + 1 + 1)) (j := 1) bx6 (by omega) (.slice pr s.regs.length tr))
  replace bx8 : w3.cell? ⟨w.heap.size + 1, 1, none⟩ = some (.slice none 0 0) := kept_cell hb (cell_ne (b := (w.heap.size + 1 + 1)) (j := 1) bx8 (by omega) (.slice pr s.regs.length tr))
  replace bx10 : w3.cell? ⟨w.heap.size + 1, 2, none⟩ = some (.slice none 0 0) := kept_cell hb (cell_ne (b := (w.heap.size + 1 + 1)) (j := 1) bx10 (by omega) (.slice pr s.regs.length tr))
  replace bx12 : w3.cell? ⟨w.heap.size + 1, 3, none⟩ = some (.slice none 0 0) := kept_cell hb (cell_ne (b := (w.heap.size + 1 + 1)) (j := 1) bx12 (by omega) (.slice pr s.regs.length tr))
  replace bx14 : w3.cell? ⟨w.heap.size + 1 + 1, 0, none⟩ = some (.int .i64 s.pc) := kept_cell hb (cell_ne (b := (w.heap.size + 1 + 1)) (j := 1) bx14 (by omega) (.slice pr s.regs.length tr))
  replace bx16 : w3.cell? ⟨w.heap.size + 1 + 1, 1, none⟩ = some (.slice pr s.regs.length tr) := kept_cell hb (cell_at _ (w.heap.size + 1 + 1) 1 (.slice pr s.regs.length tr) bx16)
  replace bx18 : w3.cell? ⟨w.heap.size + 1 + 1, 2, none⟩ = some (.slice none 0 0) := kept_cell hb (cell_ne (b := (w.heap.size + 1 + 1)) (j := 1) bx18 (by omega) (.slice pr s.regs.length tr))
  replace bx20 : w3.cell? ⟨w.heap.size + 1 + 1, 3, none⟩ = some (.slice none 0 0) := kept_cell hb (cell_ne (b := (w.heap.size + 1 + 1)) (j := 1) bx20 (by omega) (.slice pr s.regs.length tr))
  replace oR := own_below (own_set oR (w.heap.size + 1 + 1) 1 (fun h => by have := iv29 _ h; omega) (.slice pr s.regs.length tr)) hb
  replace tot := btr (bst tot (w.heap.size + 1 + 1) 1 (by omega) (.slice pr s.regs.length tr)) hb
  clear hb
  rw [← hnw]
  clear hnw
  clear lt26 lt27 lt28
  have lt31 := lt_of_cell bx2
  have lt32 := lt_of_cell bx6
  have lt33 := lt_of_cell bx14
  go_wp2_with fail
  refine (toMemory_any _ _ s.mem _ (HS.out _ tot).m (by omega) (by omega) (by omega)).mono ?_
  rintro e w4 ⟨ux, uy, us, rfl, oM, hb⟩
  obtain ⟨px, tx, py, ty, rfl, rfl⟩ := oM.shape
  have hsz34 := hb.size
  replace bf7 := kept_froz hb (lt_of_cell bx6) bf7
  replace bf9 := kept_froz hb (lt_of_cell bx8) bf9
  replace bf11 := kept_froz hb (lt_of_cell bx10) bf11
  replace bf13 := kept_froz hb (lt_of_cell bx12) bf13
  replace bf15 := kept_froz hb (lt_of_cell bx14) bf15
  replace bf17 := kept_froz hb (lt_of_cell bx16) bf17
  replace bf19 := kept_froz hb (lt_of_cell bx18) bf19
  replace bf21 := kept_froz hb (lt_of_cell bx20) bf21
  replace bx2 : w4.cell? ⟨w.heap.size, 0, none⟩ = some (.int .i64 s.pc) := kept_cell hb bx2
  replace bx3 : w4.cell? ⟨w.heap.size, 1, none⟩ = some (.slice a5 s.regs.length c5) := kept_cell hb bx3
  replace bx4 : w4.cell? ⟨w.heap.size, 2, none⟩ = some (.slice a3 s.mem.vals.length c3) := kept_cell hb bx4
  replace bx5 : w4.cell? ⟨w.heap.size, 3, none⟩ = some (.slice a4 s.mem.arrs.length c4) := kept_cell hb bx5
  replace bx6 : w4.cell? ⟨w.heap.size + 1, 0, none⟩ = some (.int .i64 0) := kept_cell hb bx6
  replace bx8 : w4.cell? ⟨w.heap.size + 1, 1, none⟩ = some (.slice none 0 0) := kept_cell hb bx8
  replace bx10 : w4.cell? ⟨w.heap.size + 1, 2, none⟩ = some (.slice none 0 0) := kept_cell hb bx10
  replace bx12 : w4.cell? ⟨w.heap.size + 1, 3, none⟩ = some (.slice none 0 0) := kept_cell hb bx12
  replace bx14 : w4.cell? ⟨w.heap.size + 1 + 1, 0, none⟩ = some (.int .i64 s.pc) := kept_cell hb bx14
  replace bx16 : w4.cell? ⟨w.heap.size + 1 + 1, 1, none⟩ = some (.slice pr s.regs.length tr) := kept_cell hb bx16
  replace bx18 : w4.cell? ⟨w.heap.size + 1 + 1, 2, none⟩ = some (.slice none 0 0) := kept_cell hb bx18
  replace bx20 : w4.cell? ⟨w.heap.size + 1 + 1, 3, none⟩ = some (.slice none 0 0) := kept_cell hb bx20
  replace oR := own_below oR hb
  replace tot := btr tot hb
  clear hb
  clear bx2 bx3 bx4 bx5
  clear lt31 lt32 lt33
  have lt35 := lt_of_cell bx6
  have lt36 := lt_of_cell bx14
  have iv37 := oM.lt
  go_upto_region 5 with (fail)
  obtain ⟨w5, hnw⟩ : ∃ X, X = (World.setCell (World.setCell w4 ⟨w.heap.size + 1 + 1, 2, none⟩ (.slice px s.mem.vals.length tx)) ⟨w.heap.size + 1 + 1, 3, none⟩ (.slice py s.mem.arrs.length ty)) := ⟨_, rfl⟩
  have hb : Below (World.setCell (World.setCell w4 ⟨w.heap.size + 1 + 1, 2, none⟩ (.slice px s.mem.vals.length tx)) ⟨w.heap.size + 1 + 1, 3, none⟩ (.slice py s.mem.arrs.length ty)).heap.size (World.setCell (World.setCell w4 ⟨w.heap.size + 1 + 1, 2, none⟩ (.slice px s.mem.vals.length tx)) ⟨w.heap.size + 1 + 1, 3, none⟩ (.slice py s.mem.arrs.length ty)) w5 := by rw [hnw]; exact bself _
  have hsz38 := hb.size
  simp only [World.size_setCell] at hsz38
  replace bf7 := kept_froz hb (lt_of_cell (cell_ne (b := (w.heap.size + 1 + 1)) (j := 3) (cell_ne (b := (w.heap.size + 1 + 1)) (j := 2) bx6 (by omega) (.slice px s.mem.vals.length tx)) (by omega) (.slice py s.mem.arrs.length ty))) (froz_st (b := ⟨(w.heap.size + 1 + 1), 3, none⟩) (froz_st (b := ⟨(w.heap.size + 1 + 1), 2, none⟩) bf7 (.slice px s.mem.vals.length tx)) (.slice py s.mem.arrs.length ty))
  replace bf9 := kept_froz hb (lt_of_cell (cell_ne (b := (w.heap.size + 1 + 1)) (j := 3) (cell_ne (b := (w.heap.size + 1 + 1)) (j := 2) bx8 (by omega) (.slice px s.mem.vals.length tx)) (by omega) (.slice py s.mem.arrs.length ty))) (froz_st (b := ⟨(w.heap.size + 1 + 1), 3, none⟩) (froz_st (b := ⟨(w.heap.size + 1 + 1), 2, none⟩) bf9 (.slice px s.mem.vals.length tx)) (.slice py s.mem.arrs.length ty))
  replace bf11 := kept_froz hb (lt_of_cell (cell_ne (b := (w.heap.size + 1 + 1)) (j := 3) (cell_ne (b := (w.heap.size + 1 + 1)) (j := 2) bx10 (by omega) (.slice px s.mem.vals.length tx)) (by omega) (.slice py s.mem.arrs.length ty))) (froz_st (b := ⟨(w.heap.size + 1 + 1), 3, none⟩) (froz_st (b := ⟨(w.heap.size + 1 + 1), 2, none⟩) bf11 (.slice px s.mem.vals.length tx)) (.slice py s.mem.arrs.length ty))
  replace bf13 := kept_froz hb (lt_of_cell (cell_ne (b := (w.heap.size + 1 + 1)) (j := 3) (cell_ne (b := (w.heap.size + 1 + 1)) (j := 2) bx12 (by omega) (.slice px s.mem.vals.length tx)) (by omega) (.slice py s.mem.arrs.length ty))) (froz_st (b := ⟨(w.heap.size + 1 + 1), 3, none⟩) (froz_st (b := ⟨(w.heap.size + 1 + 1), 2, none⟩) bf13 (.slice px s.mem.vals.length tx)) (.slice py s.mem.arrs.length ty))
  replace bf15 := kept_froz hb (lt_of_cell (cell_ne (b := (w.heap.size + 1 + 1)) (j := 3) (cell_ne (b := (w.heap.size + 1 + 1)) (j := 2) bx14 (by omega) (.slice px s.mem.vals.length tx)) (by omega) (.slice py s.mem.arrs.length ty))) (froz_st (b := ⟨(w.heap.size + 1 + 1), 3, none⟩) (froz_st (b := ⟨(w.heap.size + 1 + 1), 2, none⟩) bf15 (.slice px s.mem.vals.length tx)) (.slice py s.mem.arrs.length ty))
  replace bf17 := kept_froz hb (lt_of_cell (cell_ne (b := (w.heap.size + 1 + 1)) (j := 3) (cell_ne (b := (w.heap.size + 1 + 1)) (j := 2) bx16 (by omega) (.slice px s.mem.vals.length tx)) (by omega) (.slice py s.mem.arrs.length ty))) (froz_st (b := ⟨(w.heap.size + 1 + 1), 3, none⟩) (froz_st (b := ⟨(w.heap.size + 1 + 1), 2, none⟩) bf17 (.slice px s.mem.vals.length tx)) (.slice py s.mem.arrs.length ty))
  replace bf19 := kept_froz hb (lt_of_cell (cell_ne (b := (w.heap.size + 1 + 1)) (j := 3) (cell_at _ (w.heap.size + 1 + 1) 2 (.slice px s.mem.vals.length tx) bx18) (by omega) (.slice py s.mem.arrs.length ty))) (froz_st (b := ⟨(w.heap.size + 1 + 1), 3, none⟩) (froz_st (b := ⟨(w.heap.size + 1 + 1), 2, none⟩) bf19 (.slice px s.mem.vals.length tx)) (.slice py s.mem.arrs.length ty))
  replace bf21 := kept_froz hb (lt_of_cell (cell_at _ (w.heap.size + 1 + 1) 3 (.slice py s.mem.arrs.length ty) (cell_ne (b := (w.heap.size + 1 + 1)) (j := 2) bx20 (by omega) (.slice px s.mem.vals.length tx)))) (froz_st (b := ⟨(w.heap.size + 1 + 1), 3, none⟩) (froz_st (b := ⟨(w.heap.size + 1 + 1), 2, none⟩) bf21 (.slice px s.mem.vals.length tx)) (.slice py s.mem.arrs.length ty))
  replace bx6 : w5.cell? ⟨w.heap.size + 1, 0, none⟩ = some (.int .i64 0) := kept_cell hb (cell_ne (b := (w.heap.size + 1 + 1)) (j := 3) (cell_ne (b := (w.heap.size + 1 + 1)) (j := 2) bx6 (by omega) (.slice px s.mem.vals.length tx)) (by omega) (.slice py s.mem.arrs.length ty))
  replace bx8 : w5.cell? ⟨w.heap.size + 1, 1, none⟩ = some (.slice none 0 0) := kept_cell hb (cell_ne (b := (w.heap.size + 1 + 1)) (j := 3) (cell_ne (b := (w.heap.size + 1 + 1)) (j := 2) bx8 (by omega) (.slice px s.mem.vals.length tx)) (by omega) (.slice py s.mem.arrs.length ty))
  replace bx10 : w5.cell? ⟨w.heap.size + 1, 2, none⟩ = some (.slice none 0 0) := kept_cell hb (cell_ne (b := (w.heap.size + 1 + 1)) (j := 3) (cell_ne (b := (w.heap.size + 1 + 1)) (j := 2) bx10 (by omega) (.slice px s.mem.vals.length tx)) (by omega) (.slice py s.mem.arrs.length ty))
  replace bx12 : w5.cell? ⟨w.heap.size + 1, 3, none⟩ = some (.slice none 0 0) := kept_cell hb (cell_ne (b := (w.heap.size + 1 + 1)) (j := 3) (cell_ne (b := (w.heap.size + 1 + 1)) (j := 2) bx12 (by omega) (.slice px s.mem.vals.length tx)) (by omega) (.slice py s.mem.arrs.length ty))
  replace bx14 : w5.cell? ⟨w.heap.size + 1 + 1, 0, none⟩ = some (.int .i64 s.pc) := kept_cell hb (cell_ne (b := (w.heap.size + 1 + 1)) (j := 3) (cell_ne (b := (w.heap.size + 1 + 1)) (j := 2) bx14 (by omega) (.slice px s.mem.vals.length tx)) (by omega) (.slice py s.mem.arrs.length ty))
  replace bx16 : w5.cell? ⟨w.heap.size + 1 + 1, 1, none⟩ = some (.slice pr s.regs.length tr) := kept_cell hb (cell_ne (b := (w.heap.size + 1 + 1)) (j := 3) (cell_ne (b := (w.heap.size + 1 + 1)) (j := 2) bx16 (by omega) (.slice px s.mem.vals.length tx)) (by omega) (.slice py s.mem.arrs.length ty))
  replace bx18 : w5.cell? ⟨w.heap.size + 1 + 1, 2, none⟩ = some (.slice px s.mem.vals.length tx) := kept_cell hb (cell_ne (b := (w.heap.size + 1 + 1)) (j := 3) (cell_at _ (w.heap.size + 1 + 1) 2 (.slice px s.mem.vals.length tx) bx18) (by omega) (.slice py s.mem.arrs.length ty))
  replace bx20 : w5.cell? ⟨w.heap.size + 1 + 1, 3, none⟩ = some (.slice py s.mem.arrs.length ty) := kept_cell hb (cell_at _ (w.heap.size + 1 + 1) 3 (.slice py s.mem.arrs.length ty) (cell_ne (b := (w.heap.size + 1 + 1)) (j := 2) bx20 (by omega) (.slice px s.mem.vals.length tx)))
  replace oR := own_below (own_set (own_set oR (w.heap.size + 1 + 1) 2 (fun h => by have := iv29 _ h; omega) (.slice px s.mem.vals.length tx)) (w.heap.size + 1 + 1) 3 (fun h => by have := iv29 _ h; omega) (.slice py s.mem.arrs.length ty)) hb
  replace oM := ((oM.keep ((Chg.refl (fun gk => gk = (w.heap.size + 1 + 1)) _).setCell (w.heap.size + 1 + 1) 2 (.slice px s.mem.vals.length tx) (fun _ => rfl)) (fun gq h h2 => by have := iv37 gq h; omega)).keep ((Chg.refl (fun gk => gk = (w.heap.size + 1 + 1)) _).setCell (w.heap.size + 1 + 1) 3 (.slice py s.mem.arrs.length ty) (fun _ => rfl)) (fun gq h h2 => by have := iv37 gq h; omega)).below hb
  replace tot := btr (bst (bst tot (w.heap.size + 1 + 1) 2 (by omega) (.slice px s.mem.vals.length tx)) (w.heap.size + 1 + 1) 3 (by omega) (.slice py s.mem.arrs.length ty)) hb
  clear hb
  rw [← hnw]
  clear hnw
  clear lt35 lt36
  have lt39 := lt_of_cell bx6
  have lt40 := lt_of_cell bx14
  have OM := Lib.hid (show OwnMv _ w.heap.size (.slice pr s.regs.length tr) (.slice px s.mem.vals.length tx) (.slice py s.mem.arrs.length ty) us s.regs s.mem from ⟨own_mono ((own_set (own_set (own_set (own_set oR (w.heap.size + 1) 0 (fun h => by have := iv29 _ h; omega) (.int .i64 s.pc)) (w.heap.size + 1) 1 (fun h => by have := iv29 _ h; omega) (.slice pr s.regs.length tr)) (w.heap.size + 1) 2 (fun h => by have := iv29 _ h; omega) (.slice px s.mem.vals.length tx)) (w.heap.size + 1) 3 (fun h => by have := iv29 _ h; omega) (.slice py s.mem.arrs.length ty))) (by omega), own_mono (((((oM.keep ((Chg.refl (fun gk => gk = (w.heap.size + 1)) _).setCell (w.heap.size + 1) 0 (.int .i64 s.pc) (fun _ => rfl)) (fun gq h h2 => by have := iv37 gq h; omega)).keep ((Chg.refl (fun gk => gk = (w.heap.size + 1)) _).setCell (w.heap.size + 1) 1 (.slice pr s.regs.length tr) (fun _ => rfl)) (fun gq h h2 => by have := iv37 gq h; omega)).keep ((Chg.refl (fun gk => gk = (w.heap.size + 1)) _).setCell (w.heap.size + 1) 2 (.slice px s.mem.vals.length tx) (fun _ => rfl)) (fun gq h h2 => by have := iv37 gq h; omega)).keep ((Chg.refl (fun gk => gk = (w.heap.size + 1)) _).setCell (w.heap.size + 1) 3 (.slice py s.mem.arrs.length ty) (fun _ => rfl)) (fun gq h h2 => by have := iv37 gq h; omega))).x (by omega), (((((oM.keep ((Chg.refl (fun gk => gk = (w.heap.size + 1)) _).setCell (w.heap.size + 1) 0 (.int .i64 s.pc) (fun _ => rfl)) (fun gq h h2 => by have := iv37 gq h; omega)).keep ((Chg.refl (fun gk => gk = (w.heap.size + 1)) _).setCell (w.heap.size + 1) 1 (.slice pr s.regs.length tr) (fun _ => rfl)) (fun gq h h2 => by have := iv37 gq h; omega)).keep ((Chg.refl (fun gk => gk = (w.heap.size + 1)) _).setCell (w.heap.size + 1) 2 (.slice px s.mem.vals.length tx) (fun _ => rfl)) (fun gq h h2 => by have := iv37 gq h; omega)).keep ((Chg.refl (fun gk => gk = (w.heap.size + 1)) _).setCell (w.heap.size + 1) 3 (.slice py s.mem.arrs.length ty) (fun _ => rfl)) (fun gq h h2 => by have := iv37 gq h; omega))).y.mono (by omega), fun q h h2 => by have := iv29 q h; have := iv37 q (Or.inl h2); omega, fun q h h2 => by have := iv29 q h; have := iv37 q (Or.inr h2); omega, oM.ap⟩)
  have x41 := (cell_ne (b := (w.heap.size + 1)) (j := 3) (cell_ne (b := (w.heap.size + 1)) (j := 2) (cell_ne (b := (w.heap.size + 1)) (j := 1) (cell_at _ (w.heap.size + 1) 0 (.int .i64 s.pc) bx6) (by omega) (.slice pr s.regs.length tr)) (by omega) (.slice px s.mem.vals.length tx)) (by omega) (.slice py s.mem.arrs.length ty))
  have x42 := (cell_ne (b := (w.heap.size + 1)) (j := 3) (cell_ne (b := (w.heap.size + 1)) (j := 2) (cell_at _ (w.heap.size + 1) 1 (.slice pr s.regs.length tr) (cell_ne (b := (w.heap.size + 1)) (j := 0) bx8 (by omega) (.int .i64 s.pc))) (by omega) (.slice px s.mem.vals.length tx)) (by omega) (.slice py s.mem.arrs.length ty))
  have x43 := (cell_ne (b := (w.heap.size + 1)) (j := 3) (cell_at _ (w.heap.size + 1) 2 (.slice px s.mem.vals.length tx) (cell_ne (b := (w.heap.size + 1)) (j := 1) (cell_ne (b := (w.heap.size + 1)) (j := 0) bx10 (by omega) (.int .i64 s.pc)) (by omega) (.slice pr s.regs.length tr))) (by omega) (.slice py s.mem.arrs.length ty))
  have x44 := (cell_at _ (w.heap.size + 1) 3 (.slice py s.mem.arrs.length ty) (cell_ne (b := (w.heap.size + 1)) (j := 2) (cell_ne (b := (w.heap.size + 1)) (j := 1) (cell_ne (b := (w.heap.size + 1)) (j := 0) bx12 (by omega) (.int .i64 s.pc)) (by omega) (.slice pr s.regs.length tr)) (by omega) (.slice px s.mem.vals.length tx)))
  have tt := (bst (bst (bst (bst tot (w.heap.size + 1) 0 (by omega) (.int .i64 s.pc)) (w.heap.size + 1) 1 (by omega) (.slice pr s.regs.length tr)) (w.heap.size + 1) 2 (by omega) (.slice px s.mem.vals.length tx)) (w.heap.size + 1) 3 (by omega) (.slice py s.mem.arrs.length ty))
  go_wp2
  exact bodyPost_ret (v := .agg #[.int .i64 s.pc, .slice pr s.regs.length tr, .slice px s.mem.vals.length tx, .slice py s.mem.arrs.length ty]) (by simp [results, Try.results21, go_sem, x41, x42, x43, x44]) rfl (by exact ⟨_, _, _, us, rfl, OM.out, tt⟩)
set_option maxHeartbeats 6400000 in
set_option maxRecDepth 100000 in
theorem eqMachine_any (vr vx vy vr2 vx2 vy2 : Value) (s : Ms) (w : World) (hs : ReadsS w vr vx vy s) (ht : ReadsS w vr2 vx2 vy2 s) :
    Calls Try.prog 24 #[.agg #[.int .i64 s.pc, vr, vx, vy], .agg #[.int .i64 s.pc, vr2, vx2, vy2]] w fun e w' => e = .returned (.bool true) ∧ Below w.heap.size w w' := by
  obtain ⟨a5, c5, rfl⟩ := reads_shape hs.r
  obtain ⟨a3, c3, a4, c4, rfl, rfl⟩ := hs.m.shape
  obtain ⟨a8, c8, rfl⟩ := reads_shape ht.r
  obtain ⟨a6, c6, a7, c7, rfl, rfl⟩ := ht.m.shape
  have HS := Lib.hid (fun W (hW : Below w.heap.size w W) => hs.below hW); have HT := Lib.hid (fun W (hW : Below w.heap.size w W) => ht.below hW)
  clear hs ht
  go_enter Try.func24, Try.ntmps24
  go_wp2_with fail
  refine (eqIntS_b _ _ s.regs s.regs _ (HS.out _ (bal (bal (bself w) (.cells #[.int .i64 s.pc, .slice a5 s.regs.length c5, .slice a3 s.mem.vals.length c3, .slice a4 s.mem.arrs.length c4] 49)) (.cells #[.int .i64 s.pc, .slice a8 s.regs.length c8, .slice a6 s.mem.vals.length c6, .slice a7 s.mem.arrs.length c7] 49))).r (HT.out _ (bal (bal (bself w) (.cells #[.int .i64 s.pc, .slice a5 s.regs.length c5, .slice a3 s.mem.vals.length c3, .slice a4 s.mem.arrs.length c4] 49)) (.cells #[.int .i64 s.pc, .slice a8 s.regs.length c8, .slice a6 s.mem.vals.length c6, .slice a7 s.mem.arrs.length c7] 49))).r).mono ?_
  rintro e w1 ⟨rfl, hb⟩
  rw [decide_eq_true (Eq.refl s.regs)]
  have hsz1 := hb.size
  simp only [World.size_alloc] at hsz1
  have bx2 : w1.cell? ⟨w.heap.size, 0, none⟩ = some (.int .i64 s.pc) := kept_cell hb (cell_al (cell_nw (by simp) (by rfl)) _)
  have bx3 : w1.cell? ⟨w.heap.size, 1, none⟩ = some (.slice a5 s.regs.length c5) := kept_cell hb (cell_al (cell_nw (by simp) (by rfl)) _)
  have bx4 : w1.cell? ⟨w.heap.size, 2, none⟩ = some (.slice a3 s.mem.vals.length c3) := kept_cell hb (cell_al (cell_nw (by simp) (by rfl)) _)
  have bx5 : w1.cell? ⟨w.heap.size, 3, none⟩ = some (.slice a4 s.mem.arrs.length c4) := kept_cell hb (cell_al (cell_nw (by simp) (by rfl)) _)
  have bx6 : w1.cell? ⟨w.heap.size + 1, 0, none⟩ = some (.int .i64 s.pc) := kept_cell hb (cell_nw (by simp) (by rfl))
  have bx7 : w1.cell? ⟨w.heap.size + 1, 1, none⟩ = some (.slice a8 s.regs.length c8) := kept_cell hb (cell_nw (by simp) (by rfl))
  have bx8 : w1.cell? ⟨w.heap.size + 1, 2, none⟩ = some (.slice a6 s.mem.vals.length c6) := kept_cell hb (cell_nw (by simp) (by rfl))
  have bx9 : w1.cell? ⟨w.heap.size + 1, 3, none⟩ = some (.slice a7 s.mem.arrs.length c7) := kept_cell hb (cell_nw (by simp) (by rfl))
  have tot := btr (bal (bal (bself w) (.cells #[.int .i64 s.pc, .slice a5 s.regs.length c5, .slice a3 s.mem.vals.length c3, .slice a4 s.mem.arrs.length c4] 49)) (.cells #[.int .i64 s.pc, .slice a8 s.regs.length c8, .slice a6 s.mem.vals.length c6, .slice a7 s.mem.arrs.length c7] 49)) hb
  clear hb
  have lt10 := lt_of_cell bx2
  have lt11 := lt_of_cell bx6
  go_wp2_with fail
  refine (eqMemory_any _ _ _ _ s.mem _ (HS.out _ tot).m (HT.out _ tot).m).mono ?_
  rintro e w2 ⟨rfl, hb⟩
  have hsz12 := hb.size
  replace bx2 : w2.cell? ⟨w.heap.size, 0, none⟩ = some (.int .i64 s.pc) := kept_cell hb bx2
  replace bx3 : w2.cell? ⟨w.heap.size, 1, none⟩ = some (.slice a5 s.regs.length c5) := kept_cell hb bx3
  replace bx4 : w2.cell? ⟨w.heap.size, 2, none⟩ = some (.slice a3 s.mem.vals.length c3) := kept_cell hb bx4
  replace bx5 : w2.cell? ⟨w.heap.size, 3, none⟩ = some (.slice a4 s.mem.arrs.length c4) := kept_cell hb bx5
  replace bx6 : w2.cell? ⟨w.heap.size + 1, 0, none⟩ = some (.int .i64 s.pc) := kept_cell hb bx6
  replace bx7 : w2.cell? ⟨w.heap.size + 1, 1, none⟩ = some (.slice a8 s.regs.length c8) := kept_cell hb bx7
  replace bx8 : w2.cell? ⟨w.heap.size + 1, 2, none⟩ = some (.slice a6 s.mem.vals.length c6) := kept_cell hb bx8
  replace bx9 : w2.cell? ⟨w.heap.size + 1, 3, none⟩ = some (.slice a7 s.mem.arrs.length c7) := kept_cell hb bx9
  replace tot := btr tot hb
  clear hb
  clear bx2 bx3 bx4 bx5 bx6 bx7 bx8 bx9
  clear lt10 lt11
  have tt := tot
  go_wp2
  exact bodyPost_ret (v := .bool true) (by simp [results, Try.results24, go_sem]) rfl (by exact ⟨rfl, tt⟩)
set_option maxHeartbeats 6400000 in
set_option maxRecDepth 100000 in
theorem markMachine_any (vr vx vy : Value) (us : List Value) (s : Ms) (k : Int) (w : World) (base : Nat) (ho : OwnMv w base vr vx vy us s.regs s.mem) (h0 : 0 ≤ k) (h1 : k + s.regs.length + s.mem.vals.length + pre2 s.mem.arrs s.mem.arrs.length ≤ 1073741824) (hr : s.regs.length ≤ 1048576) (hv : s.mem.vals.length ≤ 1048576) (ha : s.mem.arrs.length ≤ 1048576) :
    Calls Try.prog 26 #[.agg #[.int .i64 s.pc, vr, vx, vy], .int .i64 k] w fun e w' => e = .returned (.int .i64 (k + s.regs.length + s.mem.vals.length + pre2 s.mem.arrs s.mem.arrs.length)) ∧ Chg (fun q => OwnMB vr vx vy us q) w w' := by
  obtain ⟨a5, c5, rfl⟩ := own_shape ho.r
  obtain ⟨a3, c3, rfl⟩ := own_shape ho.v
  obtain ⟨a4, c4, rfl⟩ := own_shape ho.a.out
  have io := ho.lt
  have hbx := bal (bself w) (.cells #[.int .i64 s.pc, .slice a5 s.regs.length c5, .slice a3 s.mem.vals.length c3, .slice a4 s.mem.arrs.length c4] 49)
  have ho1 := ho.below hbx
  have hrv := ho.rv; have hra := ho.ra
  have HRV := Lib.hid (fun q (h : (Value.slice a5 s.regs.length c5).ownBlock = some q) (h2 : OwnBM (.slice a3 s.mem.vals.length c3) (.slice a4 s.mem.arrs.length c4) us q) => by rcases h2 with h2 | h2; exact hrv q h h2; exact hra q h h2)
  clear hrv hra
  go_enter Try.func26, Try.ntmps26
  go_wp2_with fail
  refine (markIntS_any _ s.regs k _ base ho1.r (by omega) h0 (by omega)).mono ?_
  rintro e w1 ⟨rfl, _, hC1⟩
  have hz1 := hC1.size
  simp only [World.size_alloc] at hz1
  have b0 := chg_cell hC1 (cell_nw (b := w.heap.size) (j := 2) (w := w) (cs := #[.int .i64 s.pc, .slice a5 s.regs.length c5, .slice a3 s.mem.vals.length c3, .slice a4 s.mem.arrs.length c4]) (t := 49) rfl rfl) (fun h => by have := io _ (Or.inl h); omega)
  have b1 := chg_cell hC1 (cell_nw (b := w.heap.size) (j := 3) (w := w) (cs := #[.int .i64 s.pc, .slice a5 s.regs.length c5, .slice a3 s.mem.vals.length c3, .slice a4 s.mem.arrs.length c4]) (t := 49) rfl rfl) (fun h => by have := io _ (Or.inl h); omega)
  have k0 := lt_of_cell b0
  have oM := ho1.toM.keep hC1 (fun q h h2 => HRV.out q h2 h)
  have hCC : Chg (fun q => OwnMB (.slice a5 s.regs.length c5) (.slice a3 s.mem.vals.length c3) (.slice a4 s.mem.arrs.length c4) us q) w w1 := by
    have h2 := Chg.of_below (S := fun q => OwnMB (.slice a5 s.regs.length c5) (.slice a3 s.mem.vals.length c3) (.slice a4 s.mem.arrs.length c4) us q) hbx
    exact h2.trans (hC1.mono (fun _ _ h => Or.inl h))
  clear ho ho1 hC1
  go_wp2_with fail
  refine (markMemory_any _ _ us s.mem (k + s.regs.length) _ base oM (by omega) (by omega) (by omega) (by omega)).mono ?_
  rintro e w2 ⟨rfl, hC2⟩
  have hCD := hCC.trans (hC2.mono (T := fun q => OwnMB (.slice a5 s.regs.length c5) (.slice a3 s.mem.vals.length c3) (.slice a4 s.mem.arrs.length c4) us q) (fun _ _ h => Or.inr h))
  clear oM hC2 hCC b0 b1
  go_wp2
  go_ret
  exact ⟨rfl, hCD⟩
end Go.Proofs.Ytbglogjamfdmpaa
