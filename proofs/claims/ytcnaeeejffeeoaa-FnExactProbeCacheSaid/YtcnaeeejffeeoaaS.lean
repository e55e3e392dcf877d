import Derived.Test.YtcnaeeejffeeoaaR
import Derived.Test.YtcnaeeejffeeoaaP
namespace Go.Proofs.Ytcnaeeejffeeoaa
open Go.RowKit

set_option maxHeartbeats 4000000 in
set_option maxRecDepth 100000 in
theorem FnExactProbeCache_walk (v : Value) (xs : List Int) (w : World) (r0 : Reads w 1 v xs.length (ints xs)) :
    Calls Try.prog 8 #[.agg #[v]] w fun e w' => e = .returned (.bool true) ∧ Below w.heap.size w w' := by
  have hll := probeL_len xs
  have ivr := reads_lt r0
  obtain ⟨va, vc, rfl⟩ := reads_shape r0
  go_enter Try.func8, Try.ntmps8
  go_wp2_with fail
  refine (szCache_any _ _ _ 1048576 _ (r0.below (bal (bself w) _)) (by omega) (by omega)).mono ?_
  rintro e w1 ⟨rfl, hb⟩
  have hk1 := btr (bal (bself w) _) hb
  have hsz1 := hb.size
  simp only [World.size_alloc] at hsz1
  replace r0 := r0.below hk1
  have bx2 : w1.cell? ⟨w.heap.size, 0, none⟩ = some (.slice va xs.length vc) := kept_cell hb (by simp [go_sem])
  have tot := hk1
  clear hk1 hb
  by_cases hl : (1048576 : Int) < xs.length
  · rw [if_pos hl]
    clear hl r0
    go_wp2
    go_ret
    exact ⟨rfl, tot⟩
  rw [if_neg hl]
  have hnn : 0 ≤ (1048576 : Int) - xs.length := by omega
  have hlen : xs.length ≤ 1048576 := by omega
  clear hl
  have lt3 := lt_of_cell bx2
  go_wp2_with fail
  refine (toCache_any _ xs _ r0 (by omega)).mono ?_
  rintro e w2 ⟨v1, rfl, o1, hb⟩
  have hk4 := btr (bself w1) hb
  have hsz4 := hb.size
  replace r0 := r0.below hk4
  replace bx2 := kept_cell hk4 bx2
  replace tot := btr tot hk4
  clear hk4 hb
  obtain ⟨a1, c1, rfl⟩ := own_shape o1
  have iv5 := o1.lt
  have lt6 := lt_of_cell bx2
  go_wp2_with fail
  refine (sProbe_any _ xs _ (reads_of_owns o1 (by omega))).mono ?_
  rintro e w3 ⟨v2, rfl, ow, hb⟩
  have hk7 := btr (bself w2) hb
  have hsz7 := hb.size
  replace r0 := r0.below hk7
  replace bx2 := kept_cell hk7 bx2
  replace o1 := own_below o1 hk7
  replace tot := btr tot hk7
  clear hk7 hb
  obtain ⟨a2, c2, rfl⟩ := own_shape ow
  have iv8 := ow.lt
  have lt9 := lt_of_cell bx2
  clear o1
  go_wp2_with fail
  refine (toCache_any _ xs _ r0 (by omega)).mono ?_
  rintro e w4 ⟨v3, rfl, ox, hb⟩
  have hk10 := btr (bself w3) hb
  have hsz10 := hb.size
  replace r0 := r0.below hk10
  replace bx2 := kept_cell hk10 bx2
  replace ow := own_below ow hk10
  replace tot := btr tot hk10
  clear hk10 hb
  obtain ⟨a3, c3, rfl⟩ := own_shape ox
  have iv11 := ox.lt
  have lt12 := lt_of_cell bx2
  go_wp2_with fail
  refine (iProbe_any _ xs _ (reads_of_owns (own_below ox (bal (bself w4) _)) (by omega))).mono ?_
  rintro e w5 ⟨v4, rfl, og, hb⟩
  have hk13 := btr (bal (bself w4) _) hb
  have hsz13 := hb.size
  simp only [World.size_alloc] at hsz13
  replace r0 := r0.below hk13
  replace bx2 := kept_cell hk13 bx2
  replace ow := own_below ow hk13
  replace ox := own_below ox hk13
  have bx14 : w5.cell? ⟨w4.heap.size, 0, none⟩ = some (.slice a3 xs.length c3) := kept_cell hb (by simp [go_sem])
  replace tot := btr tot hk13
  clear hk13 hb
  obtain ⟨a4, c4, rfl⟩ := own_shape og
  have iv15 := og.lt
  simp only [World.size_alloc] at iv15
  have lt16 := lt_of_cell bx2
  have lt17 := lt_of_cell bx14
  go_wp2_with fail
  refine (eqBoolS_b _ _ (probeL xs) (probeL xs) _ (reads_of_owns og (by omega)) (reads_of_owns ow (by omega))).mono ?_
  rintro e w6 ⟨rfl, hb⟩
  have hk18 := btr (bself w5) hb
  have hsz18 := hb.size
  replace r0 := r0.below hk18
  replace bx2 := kept_cell hk18 bx2
  replace ow := own_below ow hk18
  replace ox := own_below ox hk18
  replace bx14 := kept_cell hk18 bx14
  replace og := own_below og hk18
  replace tot := btr tot hk18
  clear hk18 hb
  rw [decide_eq_true (Eq.refl (probeL xs))]
  have lt19 := lt_of_cell bx2
  have lt20 := lt_of_cell bx14
  go_upto_region 10 with (fail)
  go_cut [31] (fun s wx => s = .bool false ∧ Below w6.heap.size w6 wx)
  case first =>
    clear tot
    go_region_with (first | (go_at_call 24; refine (toCache_any _ xs _ (r0.below (Below.drew (bself w6))) (by omega)).mono ?_; rintro e wa ⟨ua, rfl, oa, ba⟩; obtain ⟨aa, ca, rfl⟩ := own_shape oa; have xbx14 := kept_cell (btr (Below.drew (bself w6)) ba) bx14) | (go_at_call 17; refine (eqCache_any _ _ xs xs _ (reads_of_owns (own_below ox (btr (Below.drew (bself w6)) ba)) (by omega)) (reads_of_owns oa (by omega))).mono ?_; rintro e wb ⟨rfl, bb⟩))
    all_goals (go_wp2_with fail; go_meet; exact ⟨rfl, btr (btr (Below.drew (bself w6)) ba) bb⟩)
  obtain ⟨w7, rfl⟩ : ∃ W, W = wc := ⟨_, rfl⟩
  obtain ⟨rfl, hb⟩ := hcut
  have hk21 := btr (bself w6) hb
  have hsz21 := hb.size
  replace r0 := r0.below hk21
  replace bx2 := kept_cell hk21 bx2
  replace ow := own_below ow hk21
  replace ox := own_below ox hk21
  replace bx14 := kept_cell hk21 bx14
  replace og := own_below og hk21
  replace tot := btr tot hk21
  clear hk21 hb
  have lt22 := lt_of_cell bx2
  have lt23 := lt_of_cell bx14
  go_wp2_with fail
  refine (markCache_any _ xs 1 _ _ ox (by omega) (by omega) (by omega)).mono ?_
  rintro e w8 ⟨rfl, mx, hb⟩
  have hk24 := (Chg.of_below (bself w7)).trans hb
  have hsz24 := hb.size
  replace r0 := r0.keep hk24 (fun b _ _ h0 h h2 => by have := ivr b _ _ h0 h; have := iv11 b h2; omega)
  replace bx2 := (hk24.cell 0 (lt_of_cell bx2) (fun h => by have := iv11 _ h; omega)).trans bx2
  replace ow := own_keep ow hk24 (fun gq h h2 => by have := iv8 gq h; have := iv11 gq h2; omega)
  replace bx14 := (hk24.cell 0 (lt_of_cell bx14) (fun h => by have := iv11 _ h; omega)).trans bx14
  replace og := own_keep og hk24 (fun gq h h2 => by have := iv15 gq h; have := iv11 gq h2; omega)
  replace tot := tot.trans (hk24.below w.heap.size (by have := tot.size; omega) (fun gq hgq h => by have := iv11 gq h; omega))
  clear hk24 hb
  clear ox
  clear mx
  have hk0 : ¬ (1 + (xs.length : Int)) < 0 := by omega
  have lt25 := lt_of_cell bx2
  have lt26 := lt_of_cell bx14
  go_wp2_with fail
  refine (eqBoolS_b _ _ (probeL xs) (probeL xs) _ (reads_of_owns og (by omega)) (reads_of_owns ow (by omega))).mono ?_
  rintro e w9 ⟨rfl, hb⟩
  have hk27 := btr (bself w8) hb
  have hsz27 := hb.size
  replace r0 := r0.below hk27
  replace bx2 := kept_cell hk27 bx2
  replace ow := own_below ow hk27
  replace bx14 := kept_cell hk27 bx14
  replace og := own_below og hk27
  replace tot := btr tot hk27
  clear hk27 hb
  rw [decide_eq_true (Eq.refl (probeL xs))]
  have lt28 := lt_of_cell bx2
  have lt29 := lt_of_cell bx14
  go_wp2_with fail
  refine (markBoolS_any _ (probeL xs) 1 _ _ og (by omega) (by omega) (by omega)).mono ?_
  rintro e w10 ⟨rfl, mg, hb⟩
  have hk30 := (Chg.of_below (bself w9)).trans hb
  have hsz30 := hb.size
  replace r0 := r0.keep hk30 (fun b _ _ h0 h h2 => by have := ivr b _ _ h0 h; have := iv15 b h2; omega)
  replace bx2 := (hk30.cell 0 (lt_of_cell bx2) (fun h => by have := iv15 _ h; omega)).trans bx2
  replace ow := own_keep ow hk30 (fun gq h h2 => by have := iv8 gq h; have := iv15 gq h2; omega)
  replace bx14 := (hk30.cell 0 (lt_of_cell bx14) (fun h => by have := iv15 _ h; omega)).trans bx14
  replace tot := tot.trans (hk30.below w.heap.size (by have := tot.size; omega) (fun gq hgq h => by have := iv15 gq h; omega))
  clear hk30 hb
  clear og
  have lt31 := lt_of_cell bx2
  have lt32 := lt_of_cell bx14
  go_wp2_with fail
  refine (heldBoolS_b _ (probeL xs).length 1 _ (reads_of_owns mg (by omega)) (by omega) (by omega) (by omega)).mono ?_
  rintro e w11 ⟨rfl, hb⟩
  have hk33 := btr (bself w10) hb
  have hsz33 := hb.size
  replace r0 := r0.below hk33
  replace bx2 := kept_cell hk33 bx2
  replace ow := own_below ow hk33
  replace bx14 := kept_cell hk33 bx14
  replace mg := own_below mg hk33
  replace tot := btr tot hk33
  clear hk33 hb
  have hk1 : ¬ (1 + ((probeL xs).length : Int)) < 0 := by omega
  have lt34 := lt_of_cell bx2
  have lt35 := lt_of_cell bx14
  go_wp2_with fail
  refine (toCache_any _ xs _ r0 (by omega)).mono ?_
  rintro e w12 ⟨v5, rfl, oy, hb⟩
  have hk36 := btr (bself w11) hb
  have hsz36 := hb.size
  replace r0 := r0.below hk36
  replace bx2 := kept_cell hk36 bx2
  replace ow := own_below ow hk36
  replace bx14 := kept_cell hk36 bx14
  replace mg := own_below mg hk36
  replace tot := btr tot hk36
  clear hk36 hb
  obtain ⟨a5, c5, rfl⟩ := own_shape oy
  have iv37 := oy.lt
  have lt38 := lt_of_cell bx2
  have lt39 := lt_of_cell bx14
  go_wp2_with fail
  refine (iProbe_any _ xs _ (reads_of_owns oy (by omega))).mono ?_
  rintro e w13 ⟨v6, rfl, oh, hb⟩
  have hk40 := btr (bself w12) hb
  have hsz40 := hb.size
  replace r0 := r0.below hk40
  replace bx2 := kept_cell hk40 bx2
  replace ow := own_below ow hk40
  replace bx14 := kept_cell hk40 bx14
  replace mg := own_below mg hk40
  replace oy := own_below oy hk40
  replace tot := btr tot hk40
  clear hk40 hb
  obtain ⟨a6, c6, rfl⟩ := own_shape oh
  have iv41 := oh.lt
  have lt42 := lt_of_cell bx2
  have lt43 := lt_of_cell bx14
  go_wp2_with fail
  refine (eqBoolS_b _ _ (probeL xs) (probeL xs) _ (reads_of_owns oh (by omega)) (reads_of_owns ow (by omega))).mono ?_
  rintro e w14 ⟨rfl, hb⟩
  have hk44 := btr (bself w13) hb
  have hsz44 := hb.size
  replace r0 := r0.below hk44
  replace bx2 := kept_cell hk44 bx2
  replace ow := own_below ow hk44
  replace bx14 := kept_cell hk44 bx14
  replace mg := own_below mg hk44
  replace oy := own_below oy hk44
  replace oh := own_below oh hk44
  replace tot := btr tot hk44
  clear hk44 hb
  rw [decide_eq_true (Eq.refl (probeL xs))]
  have lt45 := lt_of_cell bx2
  have lt46 := lt_of_cell bx14
  go_wp2_with fail
  refine (heldBoolS_b _ (probeL xs).length 1 _ (reads_of_owns mg (by omega)) (by omega) (by omega) (by omega)).mono ?_
  rintro e w15 ⟨rfl, hb⟩
  have hk47 := btr (bself w14) hb
  have hsz47 := hb.size
  replace r0 := r0.below hk47
  replace bx2 := kept_cell hk47 bx2
  replace ow := own_below ow hk47
  replace bx14 := kept_cell hk47 bx14
  replace mg := own_below mg hk47
  replace oy := own_below oy hk47
  replace oh := own_below oh hk47
  replace tot := btr tot hk47
  clear hk47 hb
  clear ow mg oh oy r0
  go_wp2
  go_ret
  exact ⟨rfl, tot⟩
end Go.Proofs.Ytcnaeeejffeeoaa
