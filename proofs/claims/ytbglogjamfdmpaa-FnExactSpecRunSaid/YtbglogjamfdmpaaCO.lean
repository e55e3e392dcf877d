/-
  Parts of the proof of the law FnExactSpecRun.
-/
import Derived.Test.YtbglogjamfdmpaaCN
import Derived.Test.YtbglogjamfdmpaaQ
namespace Go.Proofs.Ytbglogjamfdmpaa
open Go.RowKit

theorem szCode_any (va vb vc : Value) (c : Cd) (left : Int) (w : World) (hr : ReadsC w va vb vc c) (h0 : 0 ≤ left) (h1 : left ≤ 1073741824) :
    Calls Try.prog 11 #[.agg #[va, vb, vc], .int .i64 left] w fun e w' => e = .returned (.int .i64 (if left < (c.vars.length + c.arrays.length + c.list.length : Nat) then -1 else left - (c.vars.length + c.arrays.length + c.list.length : Nat))) ∧ Below w.heap.size w w' := by
  obtain ⟨a0, c0, a1, c1, a2, c2, rfl, rfl, rfl⟩ := hr.shape
  obtain ⟨z, hz⟩ : ∃ z : Int, z = if left < (c.vars.length + c.arrays.length + c.list.length : Nat) then -1 else left - (c.vars.length + c.arrays.length + c.list.length : Nat) := ⟨_, rfl⟩
  rw [← hz]
  have HZ := Lib.hid hz; clear hz
  have ivr := hr.lt
  go_enter Try.func11, Try.ntmps11
  go_wp2_with fail
  refine (szIntS_b _ _ _ (left) _ (hr.below (bal (bself _) (.cells #[.slice a0 c.vars.length c0, .slice a1 c.arrays.length c1, .slice a2 c.list.length c2] 25))).a (by omega) (by omega)).mono ?_
  rintro e w1 ⟨rfl, hb⟩
  have hsz1 := hb.size
  simp only [World.size_alloc] at hsz1
  replace hr := (hr.below (bal (bself _) (.cells #[.slice a0 c.vars.length c0, .slice a1 c.arrays.length c1, .slice a2 c.list.length c2] 25))).below hb
  have bx2 : w1.cell? ⟨w.heap.size, 0, none⟩ = some (.slice a0 c.vars.length c0) := kept_cell hb (cell_nw (by simp) (by rfl))
  have bx3 : w1.cell? ⟨w.heap.size, 1, none⟩ = some (.slice a1 c.arrays.length c1) := kept_cell hb (cell_nw (by simp) (by rfl))
  have bx4 : w1.cell? ⟨w.heap.size, 2, none⟩ = some (.slice a2 c.list.length c2) := kept_cell hb (cell_nw (by simp) (by rfl))
  have tot := btr (bal (bself w) (.cells #[.slice a0 c.vars.length c0, .slice a1 c.arrays.length c1, .slice a2 c.list.length c2] 25)) hb
  clear hb
  by_cases hl0 : left < (c.vars.length : Int)
  · rw [if_pos hl0]
    have HL := Lib.hid hl0
    clear hl0 hr
    go_wp2
    go_ret
    exact ⟨ret_int (by have h := HL.out; rw [HZ.out, if_pos (by omega)]), tot⟩
  rw [if_neg hl0]
  have hn0 : ¬ (left - c.vars.length : Int) < 0 := by omega
  go_wp2_with fail
  refine (szIntS_b _ _ _ (left - c.vars.length) _ hr.b (by omega) (by omega)).mono ?_
  rintro e w2 ⟨rfl, hb⟩
  have hsz5 := hb.size
  replace hr := hr.below hb
  replace bx2 : w2.cell? ⟨w.heap.size, 0, none⟩ = some (.slice a0 c.vars.length c0) := kept_cell hb bx2
  replace bx3 : w2.cell? ⟨w.heap.size, 1, none⟩ = some (.slice a1 c.arrays.length c1) := kept_cell hb bx3
  replace bx4 : w2.cell? ⟨w.heap.size, 2, none⟩ = some (.slice a2 c.list.length c2) := kept_cell hb bx4
  replace tot := btr tot hb
  clear hb
  by_cases hl1 : left - c.vars.length < (c.arrays.length : Int)
  · rw [if_pos hl1]
    have HL := Lib.hid hl1
    clear hl1 hr
    go_wp2
    go_ret
    exact ⟨ret_int (by have h := HL.out; rw [HZ.out, if_pos (by omega)]), tot⟩
  rw [if_neg hl1]
  have hn1 : ¬ (left - c.vars.length - c.arrays.length : Int) < 0 := by omega
  go_wp2_with fail
  refine (szInstrS_any _ _ _ (left - c.vars.length - c.arrays.length) _ hr.l (by omega) (by omega)).mono ?_
  rintro e w3 ⟨rfl, hb⟩
  have hsz6 := hb.size
  replace hr := hr.below hb
  replace bx2 : w3.cell? ⟨w.heap.size, 0, none⟩ = some (.slice a0 c.vars.length c0) := kept_cell hb bx2
  replace bx3 : w3.cell? ⟨w.heap.size, 1, none⟩ = some (.slice a1 c.arrays.length c1) := kept_cell hb bx3
  replace bx4 : w3.cell? ⟨w.heap.size, 2, none⟩ = some (.slice a2 c.list.length c2) := kept_cell hb bx4
  replace tot := btr tot hb
  clear hb
  by_cases hl2 : left - c.vars.length - c.arrays.length < (c.list.length : Int)
  · rw [if_pos hl2]
    have HL := Lib.hid hl2
    clear hl2 hr
    go_wp2
    go_ret
    exact ⟨ret_int (by have h := HL.out; rw [HZ.out, if_pos (by omega)]), tot⟩
  rw [if_neg hl2]
  have hn2 : ¬ (left - c.vars.length - c.arrays.length - c.list.length : Int) < 0 := by omega
  have HL := Lib.hid hn2
  clear hl0 hl1 hl2 hr
  go_wp2
  go_ret
  exact ⟨ret_int (by have h := HL.out; rw [HZ.out, if_neg (by omega)]; omega), tot⟩

set_option maxHeartbeats 1600000 in
theorem toCode_any (va vb vc : Value) (c : Cd) (w : World) (hr : ReadsC w va vb vc c) (h0 : c.vars.length ≤ 1073741824) (h1 : c.arrays.length ≤ 1073741824) (h2 : c.list.length ≤ 1073741824) :
    Calls Try.prog 14 #[.agg #[va, vb, vc]] w fun e w' => ∃ ua ub uc, e = .returned (.agg #[ua, ub, uc]) ∧ OwnC w' w.heap.size ua ub uc c ∧ Below w.heap.size w w' := by
  obtain ⟨a0, c0, a1, c1, a2, c2, rfl, rfl, rfl⟩ := hr.shape
  have ivr := hr.lt
  go_enter Try.func14, Try.ntmps14
  go_wp2_with fail
  refine (toIntS_any _ c.vars _ (((hr.below (bal (bself _) (.cells #[.slice a0 c.vars.length c0, .slice a1 c.arrays.length c1, .slice a2 c.list.length c2] 25))).below (bal (bself _) (.cells #[.slice none 0 0, .slice none 0 0, .slice none 0 0] 35))).below (bal (bself _) (.cells #[.slice none 0 0, .slice none 0 0, .slice none 0 0] 35))).a (by omega)).mono ?_
  rintro e w1 ⟨u0, rfl, o0, hb⟩
  have hsz1 := hb.size
  simp only [World.size_alloc] at hsz1
  replace hr := (((hr.below (bal (bself _) (.cells #[.slice a0 c.vars.length c0, .slice a1 c.arrays.length c1, .slice a2 c.list.length c2] 25))).below (bal (bself _) (.cells #[.slice none 0 0, .slice none 0 0, .slice none 0 0] 35))).below (bal (bself _) (.cells #[.slice none 0 0, .slice none 0 0, .slice none 0 0] 35))).below hb
  have bx2 : w1.cell? ⟨w.heap.size, 0, none⟩ = some (.slice a0 c.vars.length c0) := kept_cell hb (cell_al (cell_al (cell_nw (by simp) (by rfl)) _) _)
  have bx3 : w1.cell? ⟨w.heap.size, 1, none⟩ = some (.slice a1 c.arrays.length c1) := kept_cell hb (cell_al (cell_al (cell_nw (by simp) (by rfl)) _) _)
  have bx4 : w1.cell? ⟨w.heap.size, 2, none⟩ = some (.slice a2 c.list.length c2) := kept_cell hb (cell_al (cell_al (cell_nw (by simp) (by rfl)) _) _)
  have bx5 : w1.cell? ⟨w.heap.size + 1, 0, none⟩ = some (.slice none 0 0) := kept_cell hb (cell_al (cell_nw (by simp) (by rfl)) _)
  have bf6 : w1.frozen? ⟨w.heap.size + 1, 0, none⟩ = false := kept_froz hb (by simp) (froz_al (by simp) (froz_nw (by simp)) _)
  have bx7 : w1.cell? ⟨w.heap.size + 1, 1, none⟩ = some (.slice none 0 0) := kept_cell hb (cell_al (cell_nw (by simp) (by rfl)) _)
  have bf8 : w1.frozen? ⟨w.heap.size + 1, 1, none⟩ = false := kept_froz hb (by simp) (froz_al (by simp) (froz_nw (by simp)) _)
  have bx9 : w1.cell? ⟨w.heap.size + 1, 2, none⟩ = some (.slice none 0 0) := kept_cell hb (cell_al (cell_nw (by simp) (by rfl)) _)
  have bf10 : w1.frozen? ⟨w.heap.size + 1, 2, none⟩ = false := kept_froz hb (by simp) (froz_al (by simp) (froz_nw (by simp)) _)
  have bx11 : w1.cell? ⟨w.heap.size + 1 + 1, 0, none⟩ = some (.slice none 0 0) := kept_cell hb (cell_nw (by simp) (by rfl))
  have bf12 : w1.frozen? ⟨w.heap.size + 1 + 1, 0, none⟩ = false := kept_froz hb (by simp) (froz_nw (by simp))
  have bx13 : w1.cell? ⟨w.heap.size + 1 + 1, 1, none⟩ = some (.slice none 0 0) := kept_cell hb (cell_nw (by simp) (by rfl))
  have bf14 : w1.frozen? ⟨w.heap.size + 1 + 1, 1, none⟩ = false := kept_froz hb (by simp) (froz_nw (by simp))
  have bx15 : w1.cell? ⟨w.heap.size + 1 + 1, 2, none⟩ = some (.slice none 0 0) := kept_cell hb (cell_nw (by simp) (by rfl))
  have bf16 : w1.frozen? ⟨w.heap.size + 1 + 1, 2, none⟩ = false := kept_froz hb (by simp) (froz_nw (by simp))
  have tot := btr (bal (bal (bal (bself w) (.cells #[.slice a0 c.vars.length c0, .slice a1 c.arrays.length c1, .slice a2 c.list.length c2] 25)) (.cells #[.slice none 0 0, .slice none 0 0, .slice none 0 0] 35)) (.cells #[.slice none 0 0, .slice none 0 0, .slice none 0 0] 35)) hb
  clear hb
  obtain ⟨p0, q0, rfl⟩ := own_shape o0
  have iv17 := o0.lt
  try simp only [World.size_alloc] at iv17
  go_wp2_with fail
  refine (toIntS_any _ c.arrays _ (hr.keep ((Chg.refl (fun gk => gk = (w.heap.size + 1 + 1)) _).setCell (w.heap.size + 1 + 1) 0 (.slice p0 c.vars.length q0) (fun _ => rfl)) (fun gq h h2 => by have := ivr gq h; omega)).b (by omega)).mono ?_
  rintro e w2 ⟨u1, rfl, o1, hb⟩
  have hsz18 := hb.size
  simp only [World.size_setCell] at hsz18
  replace bf6 := kept_froz hb (lt_of_cell (cell_ne (b := (w.heap.size + 1 + 1)) (j := 0) bx5 (by omega) (.slice p0 c.vars.length q0))) (froz_st (b := ⟨(w.heap.size + 1 + 1), 0, none⟩) bf6 (.slice p0 c.vars.length q0))
  replace bf8 := kept_froz hb (lt_of_cell (cell_ne (b := (w.heap.size + 1 + 1)) (j := 0) bx7 (by omega) (.slice p0 c.vars.length q0))) (froz_st (b := ⟨(w.heap.size + 1 + 1), 0, none⟩) bf8 (.slice p0 c.vars.length q0))
  replace bf10 := kept_froz hb (lt_of_cell (cell_ne (b := (w.heap.size + 1 + 1)) (j := 0) bx9 (by omega) (.slice p0 c.vars.length q0))) (froz_st (b := ⟨(w.heap.size + 1 + 1), 0, none⟩) bf10 (.slice p0 c.vars.length q0))
  replace bf12 := kept_froz hb (lt_of_cell (cell_at _ (w.heap.size + 1 + 1) 0 (.slice p0 c.vars.length q0) bx11)) (froz_st (b := ⟨(w.heap.size + 1 + 1), 0, none⟩) bf12 (.slice p0 c.vars.length q0))
  replace bf14 := kept_froz hb (lt_of_cell (cell_ne (b := (w.heap.size + 1 + 1)) (j := 0) bx13 (by omega) (.slice p0 c.vars.length q0))) (froz_st (b := ⟨(w.heap.size + 1 + 1), 0, none⟩) bf14 (.slice p0 c.vars.length q0))
  replace bf16 := kept_froz hb (lt_of_cell (cell_ne (b := (w.heap.size + 1 + 1)) (j := 0) bx15 (by omega) (.slice p0 c.vars.length q0))) (froz_st (b := ⟨(w.heap.size + 1 + 1), 0, none⟩) bf16 (.slice p0 c.vars.length q0))
  replace hr := (hr.keep ((Chg.refl (fun gk => gk = (w.heap.size + 1 + 1)) _).setCell (w.heap.size + 1 + 1) 0 (.slice p0 c.vars.length q0) (fun _ => rfl)) (fun gq h h2 => by have := ivr gq h; omega)).below hb
  replace bx2 : w2.cell? ⟨w.heap.size, 0, none⟩ = some (.slice a0 c.vars.length c0) := kept_cell hb (cell_ne (b := (w.heap.size + 1 + 1)) (j := 0) bx2 (by omega) (.slice p0 c.vars.length q0))
  replace bx3 : w2.cell? ⟨w.heap.size, 1, none⟩ = some (.slice a1 c.arrays.length c1) := kept_cell hb (cell_ne (b := (w.heap.size + 1 + 1)) (j := 0) bx3 (by omega) (.slice p0 c.vars.length q0))
  replace bx4 : w2.cell? ⟨w.heap.size, 2, none⟩ = some (.slice a2 c.list.length c2) := kept_cell hb (cell_ne (b := (w.heap.size + 1 + 1)) (j := 0) bx4 (by omega) (.slice p0 c.vars.length q0))
  replace bx5 : w2.cell? ⟨w.heap.size + 1, 0, none⟩ = some (.slice none 0 0) := kept_cell hb (cell_ne (b := (w.heap.size + 1 + 1)) (j := 0) bx5 (by omega) (.slice p0 c.vars.length q0))
  replace bx7 : w2.cell? ⟨w.heap.size + 1, 1, none⟩ = some (.slice none 0 0) := kept_cell hb (cell_ne (b := (w.heap.size + 1 + 1)) (j := 0) bx7 (by omega) (.slice p0 c.vars.length q0))
  replace bx9 : w2.cell? ⟨w.heap.size + 1, 2, none⟩ = some (.slice none 0 0) := kept_cell hb (cell_ne (b := (w.heap.size + 1 + 1)) (j := 0) bx9 (by omega) (.slice p0 c.vars.length q0))
  replace bx11 : w2.cell? ⟨w.heap.size + 1 + 1, 0, none⟩ = some (.slice p0 c.vars.length q0) := kept_cell hb (cell_at _ (w.heap.size + 1 + 1) 0 (.slice p0 c.vars.length q0) bx11)
  replace bx13 : w2.cell? ⟨w.heap.size + 1 + 1, 1, none⟩ = some (.slice none 0 0) := kept_cell hb (cell_ne (b := (w.heap.size + 1 + 1)) (j := 0) bx13 (by omega) (.slice p0 c.vars.length q0))
  replace bx15 : w2.cell? ⟨w.heap.size + 1 + 1, 2, none⟩ = some (.slice none 0 0) := kept_cell hb (cell_ne (b := (w.heap.size + 1 + 1)) (j := 0) bx15 (by omega) (.slice p0 c.vars.length q0))
  replace o0 := own_below (own_set o0 (w.heap.size + 1 + 1) 0 (fun h => by have := iv17 _ h; omega) (.slice p0 c.vars.length q0)) hb
  replace tot := btr (bst tot (w.heap.size + 1 + 1) 0 (by omega) (.slice p0 c.vars.length q0)) hb
  clear hb
  obtain ⟨p1, q1, rfl⟩ := own_shape o1
  have iv19 := o1.lt
  try simp only [World.size_setCell] at iv19
  go_wp2_with fail
  refine (toInstrS_any _ c.list _ (hr.keep ((Chg.refl (fun gk => gk = (w.heap.size + 1 + 1)) _).setCell (w.heap.size + 1 + 1) 1 (.slice p1 c.arrays.length q1) (fun _ => rfl)) (fun gq h h2 => by have := ivr gq h; omega)).l (by omega)).mono ?_
  rintro e w3 ⟨u2, rfl, o2, hb⟩
  have hsz20 := hb.size
  simp only [World.size_setCell] at hsz20
  replace bf6 := kept_froz hb (lt_of_cell (cell_ne (b := (w.heap.size + 1 + 1)) (j := 1) bx5 (by omega) (.slice p1 c.arrays.length q1))) (froz_st (b := ⟨(w.heap.size + 1 + 1), 1, none⟩) bf6 (.slice p1 c.arrays.length q1))
  replace bf8 := kept_froz hb (lt_of_cell (cell_ne (b := (w.heap.size + 1 + 1)) (j := 1) bx7 (by omega) (.slice p1 c.arrays.length q1))) (froz_st (b := ⟨(w.heap.size + 1 + 1), 1, none⟩) bf8 (.slice p1 c.arrays.length q1))
  replace bf10 := kept_froz hb (lt_of_cell (cell_ne (b := (w.heap.size + 1 + 1)) (j := 1) bx9 (by omega) (.slice p1 c.arrays.length q1))) (froz_st (b := ⟨(w.heap.size + 1 + 1), 1, none⟩) bf10 (.slice p1 c.arrays.length q1))
  replace bf12 := kept_froz hb (lt_of_cell (cell_ne (b := (w.heap.size + 1 + 1)) (j := 1) bx11 (by omega) (.slice p1 c.arrays.length q1))) (froz_st (b := ⟨(w.heap.size + 1 + 1), 1, none⟩) bf12 (.slice p1 c.arrays.length q1))
  replace bf14 := kept_froz hb (lt_of_cell (cell_at _ (w.heap.size + 1 + 1) 1 (.slice p1 c.arrays.length q1) bx13)) (froz_st (b := ⟨(w.heap.size + 1 + 1), 1, none⟩) bf14 (.slice p1 c.arrays.length q1))
  replace bf16 := kept_froz hb (lt_of_cell (cell_ne (b := (w.heap.size + 1 + 1)) (j := 1) bx15 (by omega) (.slice p1 c.arrays.length q1))) (froz_st (b := ⟨(w.heap.size + 1 + 1), 1, none⟩) bf16 (.slice p1 c.arrays.length q1))
  replace hr := (hr.keep ((Chg.refl (fun gk => gk = (w.heap.size + 1 + 1)) _).setCell (w.heap.size + 1 + 1) 1 (.slice p1 c.arrays.length q1) (fun _ => rfl)) (fun gq h h2 => by have := ivr gq h; omega)).below hb
  replace bx2 : w3.cell? ⟨w.heap.size, 0, none⟩ = some (.slice a0 c.vars.length c0) := kept_cell hb (cell_ne (b := (w.heap.size + 1 + 1)) (j := 1) bx2 (by omega) (.slice p1 c.arrays.length q1))
  replace bx3 : w3.cell? ⟨w.heap.size, 1, none⟩ = some (.slice a1 c.arrays.length c1) := kept_cell hb (cell_ne (b := (w.heap.size + 1 + 1)) (j := 1) bx3 (by omega) (.slice p1 c.arrays.length q1))
  replace bx4 : w3.cell? ⟨w.heap.size, 2, none⟩ = some (.slice a2 c.list.length c2) := kept_cell hb (cell_ne (b := (w.heap.size + 1 + 1)) (j := 1) bx4 (by omega) (.slice p1 c.arrays.length q1))
  replace bx5 : w3.cell? ⟨w.heap.size + 1, 0, none⟩ = some (.slice none 0 0) := kept_cell hb (cell_ne (b := (w.heap.size + 1 + 1)) (j := 1) bx5 (by omega) (.slice p1 c.arrays.length q1))
  replace bx7 : w3.cell? ⟨w.heap.size + 1, 1, none⟩ = some (.slice none 0 0) := kept_cell hb (cell_ne (b := (w.heap.size + 1 + 1)) (j := 1) bx7 (by omega) (.slice p1 c.arrays.length q1))
  replace bx9 : w3.cell? ⟨w.heap.size + 1, 2, none⟩ = some (.slice none 0 0) := kept_cell hb (cell_ne (b := (w.heap.size + 1 + 1)) (j := 1) bx9 (by omega) (.slice p1 c.arrays.length q1))
  replace bx11 : w3.cell? ⟨w.heap.size + 1 + 1, 0, none⟩ = some (.slice p0 c.vars.length q0) := kept_cell hb (cell_ne (b := (w.heap.size + 1 + 1)) (j := 1) bx11 (by omega) (.slice p1 c.arrays.length q1))
  replace bx13 : w3.cell? ⟨w.heap.size + 1 + 1, 1, none⟩ = some (.slice p1 c.arrays.length q1) := kept_cell hb (cell_at _ (w.heap.size + 1 + 1) 1 (.slice p1 c.arrays.length q1) bx13)
  replace bx15 : w3.cell? ⟨w.heap.size + 1 + 1, 2, none⟩ = some (.slice none 0 0) := kept_cell hb (cell_ne (b := (w.heap.size + 1 + 1)) (j := 1) bx15 (by omega) (.slice p1 c.arrays.length q1))
  replace o0 := own_below (own_set o0 (w.heap.size + 1 + 1) 1 (fun h => by have := iv17 _ h; omega) (.slice p1 c.arrays.length q1)) hb
  replace o1 := own_below (own_set o1 (w.heap.size + 1 + 1) 1 (fun h => by have := iv19 _ h; omega) (.slice p1 c.arrays.length q1)) hb
  replace tot := btr (bst tot (w.heap.size + 1 + 1) 1 (by omega) (.slice p1 c.arrays.length q1)) hb
  clear hb
  obtain ⟨p2, q2, rfl⟩ := own_shape o2
  have iv21 := o2.lt
  try simp only [World.size_setCell] at iv21
  have hab : ∀ q, (Value.slice p0 c.vars.length q0).ownBlock = some q → (Value.slice p1 c.arrays.length q1).ownBlock = some q → False := fun gq h h2 => by have := iv17 gq h; have := iv19 gq h2; omega
  have g0 := (own_set (own_set (own_set (own_set o0 (w.heap.size + 1 + 1) 2 (fun h => by have := iv17 _ h; omega) (.slice p2 c.list.length q2)) (w.heap.size + 1) 0 (fun h => by have := iv17 _ h; omega) (.slice p0 c.vars.length q0)) (w.heap.size + 1) 1 (fun h => by have := iv17 _ h; omega) (.slice p1 c.arrays.length q1)) (w.heap.size + 1) 2 (fun h => by have := iv17 _ h; omega) (.slice p2 c.list.length q2))
  have g1 := (own_set (own_set (own_set (own_set o1 (w.heap.size + 1 + 1) 2 (fun h => by have := iv19 _ h; omega) (.slice p2 c.list.length q2)) (w.heap.size + 1) 0 (fun h => by have := iv19 _ h; omega) (.slice p0 c.vars.length q0)) (w.heap.size + 1) 1 (fun h => by have := iv19 _ h; omega) (.slice p1 c.arrays.length q1)) (w.heap.size + 1) 2 (fun h => by have := iv19 _ h; omega) (.slice p2 c.list.length q2))
  have g2 := (own_set (own_set (own_set (own_set o2 (w.heap.size + 1 + 1) 2 (fun h => by have := iv21 _ h; omega) (.slice p2 c.list.length q2)) (w.heap.size + 1) 0 (fun h => by have := iv21 _ h; omega) (.slice p0 c.vars.length q0)) (w.heap.size + 1) 1 (fun h => by have := iv21 _ h; omega) (.slice p1 c.arrays.length q1)) (w.heap.size + 1) 2 (fun h => by have := iv21 _ h; omega) (.slice p2 c.list.length q2))
  have x0 := (cell_ne (b := (w.heap.size + 1)) (j := 2) (cell_ne (b := (w.heap.size + 1)) (j := 1) (cell_at _ (w.heap.size + 1) 0 (.slice p0 c.vars.length q0) (cell_ne (b := (w.heap.size + 1 + 1)) (j := 2) bx5 (by omega) (.slice p2 c.list.length q2))) (by omega) (.slice p1 c.arrays.length q1)) (by omega) (.slice p2 c.list.length q2))
  have x1 := (cell_ne (b := (w.heap.size + 1)) (j := 2) (cell_at _ (w.heap.size + 1) 1 (.slice p1 c.arrays.length q1) (cell_ne (b := (w.heap.size + 1)) (j := 0) (cell_ne (b := (w.heap.size + 1 + 1)) (j := 2) bx7 (by omega) (.slice p2 c.list.length q2)) (by omega) (.slice p0 c.vars.length q0))) (by omega) (.slice p2 c.list.length q2))
  have x2 := (cell_at _ (w.heap.size + 1) 2 (.slice p2 c.list.length q2) (cell_ne (b := (w.heap.size + 1)) (j := 1) (cell_ne (b := (w.heap.size + 1)) (j := 0) (cell_ne (b := (w.heap.size + 1 + 1)) (j := 2) bx9 (by omega) (.slice p2 c.list.length q2)) (by omega) (.slice p0 c.vars.length q0)) (by omega) (.slice p1 c.arrays.length q1)))
  have tt := (bst (bst (bst (bst tot (w.heap.size + 1 + 1) 2 (by omega) (.slice p2 c.list.length q2)) (w.heap.size + 1) 0 (by omega) (.slice p0 c.vars.length q0)) (w.heap.size + 1) 1 (by omega) (.slice p1 c.arrays.length q1)) (w.heap.size + 1) 2 (by omega) (.slice p2 c.list.length q2))
  clear hr
  go_wp2
  exact bodyPost_ret (v := .agg #[.slice p0 c.vars.length q0, .slice p1 c.arrays.length q1, .slice p2 c.list.length q2]) (by simp [results, Try.results14, go_sem, x0, x1, x2]) rfl ⟨_, _, _, rfl, ⟨own_mono g0 (by simp <;> omega), own_mono g1 (by simp <;> omega), own_mono g2 (by simp <;> omega), hab⟩, tt⟩

theorem Cd.ext' {c d : Cd} (h0 : c.vars = d.vars) (h1 : c.arrays = d.arrays) (h2 : c.list = d.list) : c = d := by
  cases c; cases d; simp_all
set_option maxHeartbeats 1600000 in
theorem eqCode_any (va vb vc ta tb tc : Value) (c d : Cd) (w : World) (hr : ReadsC w va vb vc c) (hs : ReadsC w ta tb tc d) :
    Calls Try.prog 17 #[.agg #[va, vb, vc], .agg #[ta, tb, tc]] w fun e w' => e = .returned (.bool (decide (c = d))) ∧ Below w.heap.size w w' := by
  obtain ⟨a0, c0, a1, c1, a2, c2, rfl, rfl, rfl⟩ := hr.shape
  obtain ⟨b0, d0, b1, d1, b2, d2, rfl, rfl, rfl⟩ := hs.shape
  obtain ⟨bb, hbb⟩ : ∃ b : Bool, b = decide (c = d) := ⟨_, rfl⟩
  rw [← hbb]
  have HB := Lib.hid hbb; clear hbb
  have ivr := hr.lt
  have ivs := hs.lt
  go_enter Try.func17, Try.ntmps17
  go_wp2_with fail
  refine (eqIntS_b _ _ c.vars d.vars _ ((hr.below (bal (bself _) (.cells #[.slice a0 c.vars.length c0, .slice a1 c.arrays.length c1, .slice a2 c.list.length c2] 35))).below (bal (bself _) (.cells #[.slice b0 d.vars.length d0, .slice b1 d.arrays.length d1, .slice b2 d.list.length d2] 35))).a ((hs.below (bal (bself _) (.cells #[.slice a0 c.vars.length c0, .slice a1 c.arrays.length c1, .slice a2 c.list.length c2] 35))).below (bal (bself _) (.cells #[.slice b0 d.vars.length d0, .slice b1 d.arrays.length d1, .slice b2 d.list.length d2] 35))).a).mono ?_
  rintro e w1 ⟨rfl, hb⟩
  have hsz1 := hb.size
  simp only [World.size_alloc] at hsz1
  replace hr := ((hr.below (bal (bself _) (.cells #[.slice a0 c.vars.length c0, .slice a1 c.arrays.length c1, .slice a2 c.list.length c2] 35))).below (bal (bself _) (.cells #[.slice b0 d.vars.length d0, .slice b1 d.arrays.length d1, .slice b2 d.list.length d2] 35))).below hb
  replace hs := ((hs.below (bal (bself _) (.cells #[.slice a0 c.vars.length c0, .slice a1 c.arrays.length c1, .slice a2 c.list.length c2] 35))).below (bal (bself _) (.cells #[.slice b0 d.vars.length d0, .slice b1 d.arrays.length d1, .slice b2 d.list.length d2] 35))).below hb
  have bx2 : w1.cell? ⟨w.heap.size, 0, none⟩ = some (.slice a0 c.vars.length c0) := kept_cell hb (cell_al (cell_nw (by simp) (by rfl)) _)
  have bx3 : w1.cell? ⟨w.heap.size, 1, none⟩ = some (.slice a1 c.arrays.length c1) := kept_cell hb (cell_al (cell_nw (by simp) (by rfl)) _)
  have bx4 : w1.cell? ⟨w.heap.size, 2, none⟩ = some (.slice a2 c.list.length c2) := kept_cell hb (cell_al (cell_nw (by simp) (by rfl)) _)
  have bx5 : w1.cell? ⟨w.heap.size + 1, 0, none⟩ = some (.slice b0 d.vars.length d0) := kept_cell hb (cell_nw (by simp) (by rfl))
  have bx6 : w1.cell? ⟨w.heap.size + 1, 1, none⟩ = some (.slice b1 d.arrays.length d1) := kept_cell hb (cell_nw (by simp) (by rfl))
  have bx7 : w1.cell? ⟨w.heap.size + 1, 2, none⟩ = some (.slice b2 d.list.length d2) := kept_cell hb (cell_nw (by simp) (by rfl))
  have tot := btr (bal (bal (bself w) (.cells #[.slice a0 c.vars.length c0, .slice a1 c.arrays.length c1, .slice a2 c.list.length c2] 35)) (.cells #[.slice b0 d.vars.length d0, .slice b1 d.arrays.length d1, .slice b2 d.list.length d2] 35)) hb
  clear hb
  by_cases hx0 : c.vars = d.vars
  rotate_left
  · rw [decide_eq_false hx0]
    have hf : bb = false := HB.out.trans (decide_eq_false (fun h => hx0 (by rw [h])))
    clear hr hs hx0
    go_wp2
    go_ret
    exact ⟨ret_bool hf.symm, tot⟩
  rw [decide_eq_true hx0]
  have HX0 := Lib.hid hx0; clear hx0
  go_wp2_with fail
  refine (eqIntS_b _ _ c.arrays d.arrays _ hr.b hs.b).mono ?_
  rintro e w2 ⟨rfl, hb⟩
  have hsz8 := hb.size
  replace hr := hr.below hb
  replace hs := hs.below hb
  replace bx2 : w2.cell? ⟨w.heap.size, 0, none⟩ = some (.slice a0 c.vars.length c0) := kept_cell hb bx2
  replace bx3 : w2.cell? ⟨w.heap.size, 1, none⟩ = some (.slice a1 c.arrays.length c1) := kept_cell hb bx3
  replace bx4 : w2.cell? ⟨w.heap.size, 2, none⟩ = some (.slice a2 c.list.length c2) := kept_cell hb bx4
  replace bx5 : w2.cell? ⟨w.heap.size + 1, 0, none⟩ = some (.slice b0 d.vars.length d0) := kept_cell hb bx5
  replace bx6 : w2.cell? ⟨w.heap.size + 1, 1, none⟩ = some (.slice b1 d.arrays.length d1) := kept_cell hb bx6
  replace bx7 : w2.cell? ⟨w.heap.size + 1, 2, none⟩ = some (.slice b2 d.list.length d2) := kept_cell hb bx7
  replace tot := btr tot hb
  clear hb
  by_cases hx1 : c.arrays = d.arrays
  rotate_left
  · rw [decide_eq_false hx1]
    have hf : bb = false := HB.out.trans (decide_eq_false (fun h => hx1 (by rw [h])))
    clear hr hs hx1
    go_wp2
    go_ret
    exact ⟨ret_bool hf.symm, tot⟩
  rw [decide_eq_true hx1]
  have HX1 := Lib.hid hx1; clear hx1
  go_wp2_with fail
  refine (eqInstrS_any _ _ c.list d.list _ hr.l hs.l).mono ?_
  rintro e w3 ⟨rfl, hb⟩
  have hsz9 := hb.size
  replace hr := hr.below hb
  replace hs := hs.below hb
  replace bx2 : w3.cell? ⟨w.heap.size, 0, none⟩ = some (.slice a0 c.vars.length c0) := kept_cell hb bx2
  replace bx3 : w3.cell? ⟨w.heap.size, 1, none⟩ = some (.slice a1 c.arrays.length c1) := kept_cell hb bx3
  replace bx4 : w3.cell? ⟨w.heap.size, 2, none⟩ = some (.slice a2 c.list.length c2) := kept_cell hb bx4
  replace bx5 : w3.cell? ⟨w.heap.size + 1, 0, none⟩ = some (.slice b0 d.vars.length d0) := kept_cell hb bx5
  replace bx6 : w3.cell? ⟨w.heap.size + 1, 1, none⟩ = some (.slice b1 d.arrays.length d1) := kept_cell hb bx6
  replace bx7 : w3.cell? ⟨w.heap.size + 1, 2, none⟩ = some (.slice b2 d.list.length d2) := kept_cell hb bx7
  replace tot := btr tot hb
  clear hb
  by_cases hx2 : c.list = d.list
  rotate_left
  · rw [decide_eq_false hx2]
    have hf : bb = false := HB.out.trans (decide_eq_false (fun h => hx2 (by rw [h])))
    clear hr hs hx2
    go_wp2
    go_ret
    exact ⟨ret_bool hf.symm, tot⟩
  rw [decide_eq_true hx2]
  have HX2 := Lib.hid hx2; clear hx2
  have hf : bb = true := HB.out.trans (decide_eq_true (Cd.ext' HX0.out HX1.out HX2.out))
  clear hr hs
  go_wp2
  go_ret
  exact ⟨ret_bool hf.symm, tot⟩

def markC (k : Int) (c : Cd) : Cd := ⟨marks k c.vars.length, marks (k + c.vars.length) c.arrays.length, marksInstr (k + c.vars.length + c.arrays.length) c.list.length⟩
def sizeM (c : Cd) : Int := c.vars.length + c.arrays.length + 5 * c.list.length
theorem markC_vars (k : Int) (c : Cd) : (markC k c).vars.length = c.vars.length := marks_length _ _
theorem markC_arrays (k : Int) (c : Cd) : (markC k c).arrays.length = c.arrays.length := marks_length _ _
theorem markC_list (k : Int) (c : Cd) : (markC k c).list.length = c.list.length := marksInstr_length _ _
set_option maxHeartbeats 1600000 in
theorem markCode_any (va vb vc : Value) (c : Cd) (k : Int) (w : World) (base : Nat) (ho : OwnC w base va vb vc c) (h0 : c.vars.length ≤ 1048576) (h1 : c.arrays.length ≤ 1048576) (h2 : c.list.length ≤ 1048576) (hk : 0 ≤ k) (hk' : k ≤ 1048576) :
    Calls Try.prog 25 #[.agg #[va, vb, vc], .int .i64 k] w fun e w' => e = .returned (.int .i64 (k + sizeM c)) ∧ OwnC w' base va vb vc (markC k c) ∧ Chg (fun q => OwnB va vb vc q) w w' := by
  obtain ⟨a0, c0, a1, c1, a2, c2, rfl, rfl, rfl⟩ := ho.shape
  have hab := ho.ab
  have hac := own_diff ho.a ho.l (by decide)
  have hbc := own_diff ho.b ho.l (by decide)
  obtain ⟨oa, ob, ol, _⟩ := ho
  have iv1 := oa.lt
  have iv2 := ob.lt
  have iv3 := ol.lt
  go_enter Try.func25, Try.ntmps25
  have tot := Chg.refl (fun q => OwnB (.slice a0 c.vars.length c0) (.slice a1 c.arrays.length c1) (.slice a2 c.list.length c2) q) w
  go_wp2_with fail
  refine (markIntS_any _ c.vars (k) _ _ (own_below oa (bal (bself _) (.cells #[.slice a0 c.vars.length c0, .slice a1 c.arrays.length c1, .slice a2 c.list.length c2] 35))) (by omega) (by omega) (by omega)).mono ?_
  rintro e w1 ⟨rfl, ma, hb⟩
  have tot := (tot.trans (Chg.of_below (bal (bself w) _))).trans (hb.mono (fun q _ h => Or.inl h))
  have hsz4 := hb.size
  simp only [World.size_alloc] at hsz4
  replace ob := own_keep (own_below ob (bal (bself _) (.cells #[.slice a0 c.vars.length c0, .slice a1 c.arrays.length c1, .slice a2 c.list.length c2] 35))) hb (fun gq h h2 => (fun q h h2 => hab q h2 h) gq h h2)
  replace ol := own_keep (own_below ol (bal (bself _) (.cells #[.slice a0 c.vars.length c0, .slice a1 c.arrays.length c1, .slice a2 c.list.length c2] 35))) hb (fun gq h h2 => (fun q h h2 => hac q h2 h) gq h h2)
  have bx5 : w1.cell? ⟨w.heap.size, 0, none⟩ = some (.slice a0 c.vars.length c0) := chg_cell hb (cell_nw (by simp) (by rfl)) (fun h => by have := iv1 _ h; omega)
  have bx6 : w1.cell? ⟨w.heap.size, 1, none⟩ = some (.slice a1 c.arrays.length c1) := chg_cell hb (cell_nw (by simp) (by rfl)) (fun h => by have := iv1 _ h; omega)
  have bx7 : w1.cell? ⟨w.heap.size, 2, none⟩ = some (.slice a2 c.list.length c2) := chg_cell hb (cell_nw (by simp) (by rfl)) (fun h => by have := iv1 _ h; omega)
  clear hb
  clear oa
  go_wp2_with fail
  refine (markIntS_any _ c.arrays (k + c.vars.length) _ _ ob (by omega) (by omega) (by omega)).mono ?_
  rintro e w2 ⟨rfl, mb, hb⟩
  have tot := tot.trans (hb.mono (fun q _ h => Or.inr (Or.inl h)))
  have hsz8 := hb.size
  replace ol := own_keep ol hb (fun gq h h2 => (fun q h h2 => hbc q h2 h) gq h h2)
  replace bx5 : w2.cell? ⟨w.heap.size, 0, none⟩ = some (.slice a0 c.vars.length c0) := chg_cell hb bx5 (fun h => by have := iv2 _ h; omega)
  replace bx6 : w2.cell? ⟨w.heap.size, 1, none⟩ = some (.slice a1 c.arrays.length c1) := chg_cell hb bx6 (fun h => by have := iv2 _ h; omega)
  replace bx7 : w2.cell? ⟨w.heap.size, 2, none⟩ = some (.slice a2 c.list.length c2) := chg_cell hb bx7 (fun h => by have := iv2 _ h; omega)
  replace ma := own_keep ma hb (fun gq h h2 => hab gq h h2)
  clear hb
  clear ob
  go_wp2_with fail
  refine (markInstrS_any _ c.list (k + c.vars.length + c.arrays.length) _ _ ol (by omega) (by omega) (by omega)).mono ?_
  rintro e w3 ⟨rfl, ml, hb⟩
  have tot := tot.trans (hb.mono (fun q _ h => Or.inr (Or.inr h)))
  have hsz9 := hb.size
  replace bx5 : w3.cell? ⟨w.heap.size, 0, none⟩ = some (.slice a0 c.vars.length c0) := chg_cell hb bx5 (fun h => by have := iv3 _ h; omega)
  replace bx6 : w3.cell? ⟨w.heap.size, 1, none⟩ = some (.slice a1 c.arrays.length c1) := chg_cell hb bx6 (fun h => by have := iv3 _ h; omega)
  replace bx7 : w3.cell? ⟨w.heap.size, 2, none⟩ = some (.slice a2 c.list.length c2) := chg_cell hb bx7 (fun h => by have := iv3 _ h; omega)
  replace ma := own_keep ma hb (fun gq h h2 => hac gq h h2)
  replace mb := own_keep mb hb (fun gq h h2 => hbc gq h h2)
  clear hb
  clear ol
  go_wp2
  go_ret
  refine ⟨ret_int (by unfold sizeM; omega), ⟨?_, ?_, ?_, hab⟩, tot⟩
  · rw [markC_vars]; exact ma
  · rw [markC_arrays]; exact mb
  · rw [markC_list]; exact ml

end Go.Proofs.Ytbglogjamfdmpaa
