/-
  CompactRegs of the program.
-/
import Derived.Test.YtkbbpnfhenoihaaRP
import Derived.Test.YtkbbpnfhenoihaaRU
namespace Go.Proofs.Ytkbbpnfhenoihaa
open Go.RowKit

set_option maxHeartbeats 12800000 in
set_option maxRecDepth 100000 in
theorem iCompact_any (va vb vc : Value) (c : Cd) (w : World) (hr : ReadsC w va vb vc c) :
    Calls Try.prog 43 #[.agg #[va, vb, vc]] w fun e w' => ∃ ua ub uc, e = .returned (.tuple #[.agg #[ua, ub, uc], .bool (compactR c).2]) ∧ OwnC w' w.heap.size ua ub uc (compactR c).1 ∧ Below w.heap.size w w' := by
  obtain ⟨a0, c0, a1, c1, a2, c2, rfl, rfl, rfl⟩ := hr.shape
  have hER := fun h => compactR_no (c := c) h
  have hEY := fun h => compactR_yes (c := c) h
  generalize compactR c = R at *
  have HER := Lib.hid hER
  have HEY := Lib.hid hEY
  clear hER hEY
  have ivr := hr.lt
  go_enter Try.func43, Try.ntmps43
  go_wp2_with fail
  refine (iCodeValid_any _ _ _ c _ ((hr.below (bal (bself _) (.cells #[.slice a0 c.vars.length c0, .slice a1 c.arrays.length c1, .slice a2 c.list.length c2] 50))).below (bal (bself _) (.cells #[.slice none 0 0, .slice none 0 0, .slice none 0 0] 50)))).mono ?_
  rintro e w1 ⟨rfl, hb⟩
  have hsz1 := hb.size
  simp only [World.size_alloc] at hsz1
  replace hr := ((hr.below (bal (bself _) (.cells #[.slice a0 c.vars.length c0, .slice a1 c.arrays.length c1, .slice a2 c.list.length c2] 50))).below (bal (bself _) (.cells #[.slice none 0 0, .slice none 0 0, .slice none 0 0] 50))).below hb
  have bx2 : w1.cell? ⟨w.heap.size, 0, none⟩ = some (.slice a0 c.vars.length c0) := kept_cell hb (cell_al (cell_nw (by simp) (by rfl)) _)
  have bx3 : w1.cell? ⟨w.heap.size, 1, none⟩ = some (.slice a1 c.arrays.length c1) := kept_cell hb (cell_al (cell_nw (by simp) (by rfl)) _)
  have bx4 : w1.cell? ⟨w.heap.size, 2, none⟩ = some (.slice a2 c.list.length c2) := kept_cell hb (cell_al (cell_nw (by simp) (by rfl)) _)
  have bx5 : w1.cell? ⟨w.heap.size + 1, 0, none⟩ = some (.slice none 0 0) := kept_cell hb (cell_nw (by simp) (by rfl))
  have bf6 : w1.frozen? ⟨w.heap.size + 1, 0, none⟩ = false := kept_froz hb (by simp) (froz_nw (by simp))
  have bx7 : w1.cell? ⟨w.heap.size + 1, 1, none⟩ = some (.slice none 0 0) := kept_cell hb (cell_nw (by simp) (by rfl))
  have bf8 : w1.frozen? ⟨w.heap.size + 1, 1, none⟩ = false := kept_froz hb (by simp) (froz_nw (by simp))
  have bx9 : w1.cell? ⟨w.heap.size + 1, 2, none⟩ = some (.slice none 0 0) := kept_cell hb (cell_nw (by simp) (by rfl))
  have bf10 : w1.frozen? ⟨w.heap.size + 1, 2, none⟩ = false := kept_froz hb (by simp) (froz_nw (by simp))
  have tot := btr (bal (bal (bself w) (.cells #[.slice a0 c.vars.length c0, .slice a1 c.arrays.length c1, .slice a2 c.list.length c2] 50)) (.cells #[.slice none 0 0, .slice none 0 0, .slice none 0 0] 50)) hb
  clear hb
  have lt11 := lt_of_cell bx2
  have lt12 := lt_of_cell bx3
  have lt13 := lt_of_cell bx4
  have lt14 := lt_of_cell bx5
  have lt15 := lt_of_cell bx7
  have lt16 := lt_of_cell bx9
  cases hok : codeOk c
  · have HO := Lib.hid hok; clear hok hr
    have hR := HER.out HO.out
    have HR := Lib.hid hR; clear hR
    have x0 := (cell_ne (b := (w.heap.size + 1)) (j := 2) (cell_ne (b := (w.heap.size + 1)) (j := 1) (cell_at _ (w.heap.size + 1) 0 (.slice none 0 0) bx5) (by omega) (.slice none 0 0)) (by omega) (.slice none 0 0))
    have x1 := (cell_ne (b := (w.heap.size + 1)) (j := 2) (cell_at _ (w.heap.size + 1) 1 (.slice none 0 0) (cell_ne (b := (w.heap.size + 1)) (j := 0) bx7 (by omega) (.slice none 0 0))) (by omega) (.slice none 0 0))
    have x2 := (cell_at _ (w.heap.size + 1) 2 (.slice none 0 0) (cell_ne (b := (w.heap.size + 1)) (j := 1) (cell_ne (b := (w.heap.size + 1)) (j := 0) bx9 (by omega) (.slice none 0 0)) (by omega) (.slice none 0 0)))
    have tt := (bst (bst (bst tot (w.heap.size + 1) 0 (by omega) (.slice none 0 0)) (w.heap.size + 1) 1 (by omega) (.slice none 0 0)) (w.heap.size + 1) 2 (by omega) (.slice none 0 0))
    go_wp2
    exact bodyPost_ret (v := .tuple #[.agg #[.slice none 0 0, .slice none 0 0, .slice none 0 0], .bool false]) (by simp [results, Try.results43, go_sem, x0, x1, x2]) rfl (by rw [HR.out]; exact ⟨_, _, _, rfl, noCode_own _ _, tt⟩)
  have HO := Lib.hid hok; clear hok
  have hlen := codeOk_len HO.out
  have hdl := declOk_len (codeOk_decl HO.out)
  obtain ⟨l1, l2⟩ := hlen
  obtain ⟨l3, l4⟩ := hdl
  go_wp2_with fail
  refine (numbering_any _ _ _ c _ hr HO.out).mono ?_
  rintro e w2 ⟨un, rfl, on, hb⟩
  have hsz17 := hb.size
  replace bf6 := kept_froz hb (lt_of_cell bx5) bf6
  replace bf8 := kept_froz hb (lt_of_cell bx7) bf8
  replace bf10 := kept_froz hb (lt_of_cell bx9) bf10
  replace hr := hr.below hb
  replace bx2 : w2.cell? ⟨w.heap.size, 0, none⟩ = some (.slice a0 c.vars.length c0) := kept_cell hb bx2
  replace bx3 : w2.cell? ⟨w.heap.size, 1, none⟩ = some (.slice a1 c.arrays.length c1) := kept_cell hb bx3
  replace bx4 : w2.cell? ⟨w.heap.size, 2, none⟩ = some (.slice a2 c.list.length c2) := kept_cell hb bx4
  replace bx5 : w2.cell? ⟨w.heap.size + 1, 0, none⟩ = some (.slice none 0 0) := kept_cell hb bx5
  replace bx7 : w2.cell? ⟨w.heap.size + 1, 1, none⟩ = some (.slice none 0 0) := kept_cell hb bx7
  replace bx9 : w2.cell? ⟨w.heap.size + 1, 2, none⟩ = some (.slice none 0 0) := kept_cell hb bx9
  replace tot := btr tot hb
  clear hb
  obtain ⟨pn, qn, rfl⟩ := own_shape on
  have iv18 := on.lt
  have lt19 := lt_of_cell bx2
  have lt20 := lt_of_cell bx3
  have lt21 := lt_of_cell bx4
  have lt22 := lt_of_cell bx5
  have lt23 := lt_of_cell bx7
  have lt24 := lt_of_cell bx9
  have hol := ordC_len c.list c.list.length
  rw [List.take_length] at hol
  go_wp2_with fail
  refine (regsC_any _ _ _ c (w2.heap.size) _ (ordC [] c.list) _ (hr.below (bal (bself _) (.cells #[.slice pn (ordC [] c.list).length qn] 22))) HO.out (cell_nw (by simp) rfl) (reads_of_owns (own_below on (bal (bself _) (.cells #[.slice pn (ordC [] c.list).length qn] 22))) (by omega))).mono ?_
  rintro e w3 ⟨u0, u1, u2, rfl, oc, hb⟩
  have hsz25 := hb.size
  simp only [World.size_alloc] at hsz25
  replace bf6 := kept_froz hb (lt_of_cell (cell_al bx5 (.cells #[.slice pn (ordC [] c.list).length qn] 22))) (froz_al (lt_of_cell bx5) bf6 (.cells #[.slice pn (ordC [] c.list).length qn] 22))
  replace bf8 := kept_froz hb (lt_of_cell (cell_al bx7 (.cells #[.slice pn (ordC [] c.list).length qn] 22))) (froz_al (lt_of_cell bx7) bf8 (.cells #[.slice pn (ordC [] c.list).length qn] 22))
  replace bf10 := kept_froz hb (lt_of_cell (cell_al bx9 (.cells #[.slice pn (ordC [] c.list).length qn] 22))) (froz_al (lt_of_cell bx9) bf10 (.cells #[.slice pn (ordC [] c.list).length qn] 22))
  replace hr := (hr.below (bal (bself _) (.cells #[.slice pn (ordC [] c.list).length qn] 22))).below hb
  replace bx2 : w3.cell? ⟨w.heap.size, 0, none⟩ = some (.slice a0 c.vars.length c0) := kept_cell hb (cell_al bx2 (.cells #[.slice pn (ordC [] c.list).length qn] 22))
  replace bx3 : w3.cell? ⟨w.heap.size, 1, none⟩ = some (.slice a1 c.arrays.length c1) := kept_cell hb (cell_al bx3 (.cells #[.slice pn (ordC [] c.list).length qn] 22))
  replace bx4 : w3.cell? ⟨w.heap.size, 2, none⟩ = some (.slice a2 c.list.length c2) := kept_cell hb (cell_al bx4 (.cells #[.slice pn (ordC [] c.list).length qn] 22))
  replace bx5 : w3.cell? ⟨w.heap.size + 1, 0, none⟩ = some (.slice none 0 0) := kept_cell hb (cell_al bx5 (.cells #[.slice pn (ordC [] c.list).length qn] 22))
  replace bx7 : w3.cell? ⟨w.heap.size + 1, 1, none⟩ = some (.slice none 0 0) := kept_cell hb (cell_al bx7 (.cells #[.slice pn (ordC [] c.list).length qn] 22))
  replace bx9 : w3.cell? ⟨w.heap.size + 1, 2, none⟩ = some (.slice none 0 0) := kept_cell hb (cell_al bx9 (.cells #[.slice pn (ordC [] c.list).length qn] 22))
  replace on := own_below (own_below on (bal (bself _) (.cells #[.slice pn (ordC [] c.list).length qn] 22))) hb
  have bx26 : w3.cell? ⟨w2.heap.size, 0, none⟩ = some (.slice pn (ordC [] c.list).length qn) := kept_cell hb (cell_nw (by simp) (by rfl))
  replace tot := btr (bal tot (.cells #[.slice pn (ordC [] c.list).length qn] 22)) hb
  clear hb
  obtain ⟨p0, q0, hpv⟩ := own_shape oc.a
  obtain ⟨p1, q1, hqv⟩ := own_shape oc.b
  obtain ⟨p2, q2, hgv⟩ := own_shape oc.l
  simp only [List.length_map] at hpv hqv hgv
  subst hpv hqv hgv
  have iv27 := oc.lt
  try simp only [World.size_alloc] at iv27
  clear on
  have lt28 := lt_of_cell bx2
  have lt29 := lt_of_cell bx3
  have lt30 := lt_of_cell bx4
  have lt31 := lt_of_cell bx5
  have lt32 := lt_of_cell bx7
  have lt33 := lt_of_cell bx9
  have lt34 := lt_of_cell bx26
  have x0 := (cell_ne (b := (w.heap.size + 1)) (j := 2) (cell_ne (b := (w.heap.size + 1)) (j := 1) (cell_at _ (w.heap.size + 1) 0 (.slice p0 c.vars.length q0) bx5) (by omega) (.slice p1 c.arrays.length q1)) (by omega) (.slice p2 c.list.length q2))
  have x1 := (cell_ne (b := (w.heap.size + 1)) (j := 2) (cell_at _ (w.heap.size + 1) 1 (.slice p1 c.arrays.length q1) (cell_ne (b := (w.heap.size + 1)) (j := 0) bx7 (by omega) (.slice p0 c.vars.length q0))) (by omega) (.slice p2 c.list.length q2))
  have x2 := (cell_at _ (w.heap.size + 1) 2 (.slice p2 c.list.length q2) (cell_ne (b := (w.heap.size + 1)) (j := 1) (cell_ne (b := (w.heap.size + 1)) (j := 0) bx9 (by omega) (.slice p0 c.vars.length q0)) (by omega) (.slice p1 c.arrays.length q1)))
  have tt := (bst (bst (bst tot (w.heap.size + 1) 0 (by omega) (.slice p0 c.vars.length q0)) (w.heap.size + 1) 1 (by omega) (.slice p1 c.arrays.length q1)) (w.heap.size + 1) 2 (by omega) (.slice p2 c.list.length q2))
  have oz := (((oc.keep ((Chg.refl (fun gk => gk = (w.heap.size + 1)) _).setCell (w.heap.size + 1) 0 (.slice p0 c.vars.length q0) (fun _ => rfl)) (fun gq h h2 => by have := iv27 gq h; omega)).keep ((Chg.refl (fun gk => gk = (w.heap.size + 1)) _).setCell (w.heap.size + 1) 1 (.slice p1 c.arrays.length q1) (fun _ => rfl)) (fun gq h h2 => by have := iv27 gq h; omega)).keep ((Chg.refl (fun gk => gk = (w.heap.size + 1)) _).setCell (w.heap.size + 1) 2 (.slice p2 c.list.length q2) (fun _ => rfl)) (fun gq h h2 => by have := iv27 gq h; omega))
  have hR := HEY.out HO.out
  have HR := Lib.hid hR; clear hR
  clear oc
  go_wp2
  exact bodyPost_ret (v := .tuple #[.agg #[.slice p0 c.vars.length q0, .slice p1 c.arrays.length q1, .slice p2 c.list.length q2], .bool true]) (by simp [results, Try.results43, go_sem, x0, x1, x2]) rfl (by rw [HR.out]; exact ⟨_, _, _, rfl, oz.mono (by (try simp only [World.size_alloc]); omega), tt⟩)
end Go.Proofs.Ytkbbpnfhenoihaa
