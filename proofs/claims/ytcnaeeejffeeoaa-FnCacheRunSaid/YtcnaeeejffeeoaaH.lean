import Derived.Test.YtcnaeeejffeeoaaG
namespace Go.Proofs.Ytcnaeeejffeeoaa
open Go.RowKit

theorem FnExactEmptyCache_walk (w : World) :
    Calls Try.prog 3 #[] w fun e w' => e = .returned (.bool true) ∧ Below w.heap.size w w' := by
  go_enter Try.func3, Try.ntmps3
  go_wp2_with fail
  refine (sEmpty_any _).mono ?_
  rintro e w1 ⟨v0, rfl, o0, hb⟩
  have hk1 := btr (bself w) hb
  have hsz1 := hb.size
  have tot := hk1
  clear hk1 hb
  obtain ⟨a0, c0, rfl⟩ := own_shape o0
  have iv2 := o0.lt
  go_wp2_with fail
  refine (iEmpty_any _).mono ?_
  rintro e w2 ⟨v1, rfl, o1, hb⟩
  have hk3 := btr (bal (bself w1) _) hb
  have hsz3 := hb.size
  simp only [World.size_alloc] at hsz3
  replace o0 := own_below o0 hk3
  have bx4 : w2.cell? ⟨w1.heap.size, 0, none⟩ = some (.slice a0 2 c0) := kept_cell hb (by simp [go_sem])
  replace tot := btr tot hk3
  clear hk3 hb
  obtain ⟨a1, c1, rfl⟩ := own_shape o1
  have iv5 := o1.lt
  simp only [World.size_alloc] at iv5
  have lt6 := lt_of_cell bx4
  go_wp2_with fail
  refine (eqCache_any _ _ [-1, -1] [-1, -1] _ (reads_of_owns (own_below o1 (bal (bself w2) _)) (by simp)) (reads_of_owns (own_below o0 (bal (bself w2) _)) (by simp))).mono ?_
  rintro e w3 ⟨rfl, hb⟩
  have hk7 := btr (bal (bself w2) _) hb
  have hsz7 := hb.size
  simp only [World.size_alloc] at hsz7
  replace o0 := own_below o0 hk7
  replace bx4 := kept_cell hk7 bx4
  replace o1 := own_below o1 hk7
  have bx8 : w3.cell? ⟨w2.heap.size, 0, none⟩ = some (.slice a1 2 c1) := kept_cell hb (by simp [go_sem])
  replace tot := btr tot hk7
  clear hk7 hb
  have lt9 := lt_of_cell bx4
  have lt10 := lt_of_cell bx8
  go_wp2_with fail
  refine (markCache_any _ [-1, -1] 1 _ _ o1 (by simp) (by omega) (by omega)).mono ?_
  rintro e w4 ⟨rfl, m1, hb⟩
  have hk11 := (Chg.of_below (bself w3)).trans hb
  have hsz11 := hb.size
  replace o0 := own_keep o0 hk11 (fun g h h2 => by have := iv2 g h; have := iv5 g h2; omega)
  replace bx4 := (hk11.cell 0 (lt_of_cell bx4) (fun h => by have := iv5 _ h; omega)).trans bx4
  replace bx8 := (hk11.cell 0 (lt_of_cell bx8) (fun h => by have := iv5 _ h; omega)).trans bx8
  replace tot := tot.trans (hk11.below w.heap.size (by have := tot.size; omega) (fun g hg h => by have := iv5 g h; omega))
  clear hk11 hb
  clear o1
  have lt12 := lt_of_cell bx4
  have lt13 := lt_of_cell bx8
  go_wp2_with fail
  refine (heldCache_any _ 2 1 _ (reads_of_owns m1 (by omega)) (by omega) (by omega) (by omega)).mono ?_
  rintro e w5 ⟨rfl, hb⟩
  have hk14 := btr (bself w4) hb
  have hsz14 := hb.size
  replace o0 := own_below o0 hk14
  replace bx4 := kept_cell hk14 bx4
  replace bx8 := kept_cell hk14 bx8
  replace m1 := own_below m1 hk14
  replace tot := btr tot hk14
  clear hk14 hb
  have lt15 := lt_of_cell bx4
  have lt16 := lt_of_cell bx8
  go_wp2_with fail
  refine (iEmpty_any _).mono ?_
  rintro e w6 ⟨v2, rfl, o2, hb⟩
  have hk17 := btr (bself w5) hb
  have hsz17 := hb.size
  replace o0 := own_below o0 hk17
  replace bx4 := kept_cell hk17 bx4
  replace bx8 := kept_cell hk17 bx8
  replace m1 := own_below m1 hk17
  replace tot := btr tot hk17
  clear hk17 hb
  obtain ⟨a2, c2, rfl⟩ := own_shape o2
  have iv18 := o2.lt
  have lt19 := lt_of_cell bx4
  have lt20 := lt_of_cell bx8
  go_wp2_with fail
  refine (eqCache_any _ _ [-1, -1] [-1, -1] _ (reads_of_owns (own_below o2 (bal (bself w6) _)) (by simp)) (reads_of_owns (own_below o0 (bal (bself w6) _)) (by simp))).mono ?_
  rintro e w7 ⟨rfl, hb⟩
  have hk21 := btr (bal (bself w6) _) hb
  have hsz21 := hb.size
  simp only [World.size_alloc] at hsz21
  replace o0 := own_below o0 hk21
  replace bx4 := kept_cell hk21 bx4
  replace bx8 := kept_cell hk21 bx8
  replace m1 := own_below m1 hk21
  replace o2 := own_below o2 hk21
  have bx22 : w7.cell? ⟨w6.heap.size, 0, none⟩ = some (.slice a2 2 c2) := kept_cell hb (by simp [go_sem])
  replace tot := btr tot hk21
  clear hk21 hb
  have lt23 := lt_of_cell bx4
  have lt24 := lt_of_cell bx8
  have lt25 := lt_of_cell bx22
  go_wp2_with fail
  refine (heldCache_any _ 2 1 _ (reads_of_owns m1 (by omega)) (by omega) (by omega) (by omega)).mono ?_
  rintro e w8 ⟨rfl, hb⟩
  have hk26 := btr (bself w7) hb
  have hsz26 := hb.size
  replace o0 := own_below o0 hk26
  replace bx4 := kept_cell hk26 bx4
  replace bx8 := kept_cell hk26 bx8
  replace m1 := own_below m1 hk26
  replace o2 := own_below o2 hk26
  replace bx22 := kept_cell hk26 bx22
  replace tot := btr tot hk26
  clear hk26 hb
  clear o0 m1 o2
  go_wp2
  go_ret
  exact ⟨rfl, tot⟩

theorem FnExactPrimeCache_walk (w : World) :
    Calls Try.prog 4 #[] w fun e w' => e = .returned (.bool true) ∧ Below w.heap.size w w' := by
  go_enter Try.func4, Try.ntmps4
  go_wp2_with fail
  refine (sPrime_any _).mono ?_
  rintro e w1 ⟨v0, rfl, o0, hb⟩
  have hk1 := btr (bself w) hb
  have hsz1 := hb.size
  have tot := hk1
  clear hk1 hb
  obtain ⟨a0, c0, rfl⟩ := own_shape o0
  have iv2 := o0.lt
  go_wp2_with fail
  refine (iPrime_any _).mono ?_
  rintro e w2 ⟨v1, rfl, o1, hb⟩
  have hk3 := btr (bal (bself w1) _) hb
  have hsz3 := hb.size
  simp only [World.size_alloc] at hsz3
  replace o0 := own_below o0 hk3
  have bx4 : w2.cell? ⟨w1.heap.size, 0, none⟩ = some (.slice a0 2 c0) := kept_cell hb (by simp [go_sem])
  replace tot := btr tot hk3
  clear hk3 hb
  obtain ⟨a1, c1, rfl⟩ := own_shape o1
  have iv5 := o1.lt
  simp only [World.size_alloc] at iv5
  have lt6 := lt_of_cell bx4
  go_wp2_with fail
  refine (eqCache_any _ _ [-2, -2] [-2, -2] _ (reads_of_owns (own_below o1 (bal (bself w2) _)) (by simp)) (reads_of_owns (own_below o0 (bal (bself w2) _)) (by simp))).mono ?_
  rintro e w3 ⟨rfl, hb⟩
  have hk7 := btr (bal (bself w2) _) hb
  have hsz7 := hb.size
  simp only [World.size_alloc] at hsz7
  replace o0 := own_below o0 hk7
  replace bx4 := kept_cell hk7 bx4
  replace o1 := own_below o1 hk7
  have bx8 : w3.cell? ⟨w2.heap.size, 0, none⟩ = some (.slice a1 2 c1) := kept_cell hb (by simp [go_sem])
  replace tot := btr tot hk7
  clear hk7 hb
  have lt9 := lt_of_cell bx4
  have lt10 := lt_of_cell bx8
  go_wp2_with fail
  refine (markCache_any _ [-2, -2] 1 _ _ o1 (by simp) (by omega) (by omega)).mono ?_
  rintro e w4 ⟨rfl, m1, hb⟩
  have hk11 := (Chg.of_below (bself w3)).trans hb
  have hsz11 := hb.size
  replace o0 := own_keep o0 hk11 (fun g h h2 => by have := iv2 g h; have := iv5 g h2; omega)
  replace bx4 := (hk11.cell 0 (lt_of_cell bx4) (fun h => by have := iv5 _ h; omega)).trans bx4
  replace bx8 := (hk11.cell 0 (lt_of_cell bx8) (fun h => by have := iv5 _ h; omega)).trans bx8
  replace tot := tot.trans (hk11.below w.heap.size (by have := tot.size; omega) (fun g hg h => by have := iv5 g h; omega))
  clear hk11 hb
  clear o1
  have lt12 := lt_of_cell bx4
  have lt13 := lt_of_cell bx8
  go_wp2_with fail
  refine (heldCache_any _ 2 1 _ (reads_of_owns m1 (by omega)) (by omega) (by omega) (by omega)).mono ?_
  rintro e w5 ⟨rfl, hb⟩
  have hk14 := btr (bself w4) hb
  have hsz14 := hb.size
  replace o0 := own_below o0 hk14
  replace bx4 := kept_cell hk14 bx4
  replace bx8 := kept_cell hk14 bx8
  replace m1 := own_below m1 hk14
  replace tot := btr tot hk14
  clear hk14 hb
  have lt15 := lt_of_cell bx4
  have lt16 := lt_of_cell bx8
  go_wp2_with fail
  refine (iPrime_any _).mono ?_
  rintro e w6 ⟨v2, rfl, o2, hb⟩
  have hk17 := btr (bself w5) hb
  have hsz17 := hb.size
  replace o0 := own_below o0 hk17
  replace bx4 := kept_cell hk17 bx4
  replace bx8 := kept_cell hk17 bx8
  replace m1 := own_below m1 hk17
  replace tot := btr tot hk17
  clear hk17 hb
  obtain ⟨a2, c2, rfl⟩ := own_shape o2
  have iv18 := o2.lt
  have lt19 := lt_of_cell bx4
  have lt20 := lt_of_cell bx8
  go_wp2_with fail
  refine (eqCache_any _ _ [-2, -2] [-2, -2] _ (reads_of_owns (own_below o2 (bal (bself w6) _)) (by simp)) (reads_of_owns (own_below o0 (bal (bself w6) _)) (by simp))).mono ?_
  rintro e w7 ⟨rfl, hb⟩
  have hk21 := btr (bal (bself w6) _) hb
  have hsz21 := hb.size
  simp only [World.size_alloc] at hsz21
  replace o0 := own_below o0 hk21
  replace bx4 := kept_cell hk21 bx4
  replace bx8 := kept_cell hk21 bx8
  replace m1 := own_below m1 hk21
  replace o2 := own_below o2 hk21
  have bx22 : w7.cell? ⟨w6.heap.size, 0, none⟩ = some (.slice a2 2 c2) := kept_cell hb (by simp [go_sem])
  replace tot := btr tot hk21
  clear hk21 hb
  have lt23 := lt_of_cell bx4
  have lt24 := lt_of_cell bx8
  have lt25 := lt_of_cell bx22
  go_wp2_with fail
  refine (heldCache_any _ 2 1 _ (reads_of_owns m1 (by omega)) (by omega) (by omega) (by omega)).mono ?_
  rintro e w8 ⟨rfl, hb⟩
  have hk26 := btr (bself w7) hb
  have hsz26 := hb.size
  replace o0 := own_below o0 hk26
  replace bx4 := kept_cell hk26 bx4
  replace bx8 := kept_cell hk26 bx8
  replace m1 := own_below m1 hk26
  replace o2 := own_below o2 hk26
  replace bx22 := kept_cell hk26 bx22
  replace tot := btr tot hk26
  clear hk26 hb
  clear o0 m1 o2
  go_wp2
  go_ret
  exact ⟨rfl, tot⟩

end Go.Proofs.Ytcnaeeejffeeoaa
