import Derived.Test.YtcnaeeejffeeoaaH
namespace Go.Proofs.Ytcnaeeejffeeoaa
open Go.RowKit

set_option maxHeartbeats 1000000 in
theorem FnExactCacheValid_walk (v : Value) (xs : List Int) (w : World) (r0 : Reads w 1 v xs.length (ints xs)) :
    Calls Try.prog 5 #[.agg #[v]] w fun e w' => e = .returned (.bool true) ∧ Below w.heap.size w w' := by
  have rb := r0
  obtain ⟨va, vc, rfl⟩ := reads_shape r0
  go_enter Try.func5, Try.ntmps5
  go_wp2_with fail
  refine (szCache_any _ _ _ 1048576 _ (r0.below (bal (bself w) _)) (by omega) (by omega)).mono ?_
  rintro e w1 ⟨rfl, hb⟩
  have hk1 := btr (bal (bself w) _) hb
  have hsz1 := hb.size
  simp only [World.size_alloc] at hsz1
  replace r0 := r0.below hk1
  have bx2 : w1.cell? ⟨w.heap.size, 0, none⟩ = some (.slice va xs.length vc) := kept_cell hb (by simp [go_sem])
  have tot := hk1
  clear hk1 hb
  by_cases hl : (1048576 : Int) < xs.length
  · rw [if_pos hl]
    clear hl r0
    go_wp2
    go_ret
    exact ⟨rfl, tot⟩
  rw [if_neg hl]
  have hnn : 0 ≤ (1048576 : Int) - xs.length := by omega
  have hlen : xs.length ≤ 1048576 := by omega
  clear hl
  have lt3 := lt_of_cell bx2
  go_wp2_with fail
  refine (toCache_any _ xs _ r0 (by omega)).mono ?_
  rintro e w2 ⟨v1, rfl, o1, hb⟩
  have hk4 := btr (bself w1) hb
  have hsz4 := hb.size
  replace r0 := r0.below hk4
  replace bx2 := kept_cell hk4 bx2
  replace tot := btr tot hk4
  clear hk4 hb
  obtain ⟨a1, c1, rfl⟩ := own_shape o1
  have iv5 := o1.lt
  have lt6 := lt_of_cell bx2
  go_wp2_with fail
  refine (sCacheValid_any _ xs _ (reads_of_owns o1 (by omega))).mono ?_
  rintro e w3 ⟨rfl, hb⟩
  have hk7 := btr (bself w2) hb
  have hsz7 := hb.size
  replace r0 := r0.below hk7
  replace bx2 := kept_cell hk7 bx2
  replace o1 := own_below o1 hk7
  replace tot := btr tot hk7
  clear hk7 hb
  have lt8 := lt_of_cell bx2
  go_wp2_with fail
  refine (toCache_any _ xs _ r0 (by omega)).mono ?_
  rintro e w4 ⟨v2, rfl, o2, hb⟩
  have hk9 := btr (bself w3) hb
  have hsz9 := hb.size
  replace r0 := r0.below hk9
  replace bx2 := kept_cell hk9 bx2
  replace o1 := own_below o1 hk9
  replace tot := btr tot hk9
  clear hk9 hb
  obtain ⟨a2, c2, rfl⟩ := own_shape o2
  have iv10 := o2.lt
  have lt11 := lt_of_cell bx2
  go_wp2_with fail
  refine (iCacheValid_any _ xs _ (reads_of_owns (own_below o2 (bal (bself w4) _)) (by omega))).mono ?_
  rintro e w5 ⟨rfl, hb⟩
  have hk12 := btr (bal (bself w4) _) hb
  have hsz12 := hb.size
  simp only [World.size_alloc] at hsz12
  replace r0 := r0.below hk12
  replace bx2 := kept_cell hk12 bx2
  replace o1 := own_below o1 hk12
  replace o2 := own_below o2 hk12
  have bx13 : w5.cell? ⟨w4.heap.size, 0, none⟩ = some (.slice a2 xs.length c2) := kept_cell hb (by simp [go_sem])
  replace tot := btr tot hk12
  clear hk12 hb
  have lt14 := lt_of_cell bx2
  have lt15 := lt_of_cell bx13
  go_upto_region 10 with (fail)
  go_cut [26] (fun s wx => s = .bool false ∧ Below w5.heap.size w5 wx)
  case first =>
    clear tot
    go_region_with (first | (go_at_call 24; refine (toCache_any _ xs _ (r0.below (Below.drew (bself w5))) (by omega)).mono ?_; rintro e wa ⟨ua, rfl, oa, ba⟩; obtain ⟨aa, ca, rfl⟩ := own_shape oa; have xbx13 := kept_cell (btr (Below.drew (bself w5)) ba) bx13) | (go_at_call 17; refine (eqCache_any _ _ xs xs _ (reads_of_owns (own_below o2 (btr (Below.drew (bself w5)) ba)) (by omega)) (reads_of_owns oa (by omega))).mono ?_; rintro e wb ⟨rfl, bb⟩))
    all_goals (go_wp2_with fail; go_meet; exact ⟨rfl, btr (btr (Below.drew (bself w5)) ba) bb⟩)
  obtain ⟨w6, rfl⟩ : ∃ W, W = wc := ⟨_, rfl⟩
  obtain ⟨rfl, hb⟩ := hcut
  have hk16 := btr (bself w5) hb
  have hsz16 := hb.size
  replace r0 := r0.below hk16
  replace bx2 := kept_cell hk16 bx2
  replace o1 := own_below o1 hk16
  replace o2 := own_below o2 hk16
  replace bx13 := kept_cell hk16 bx13
  replace tot := btr tot hk16
  clear hk16 hb
  go_wp2
  go_ret
  exact ⟨rfl, tot⟩
end Go.Proofs.Ytcnaeeejffeeoaa
