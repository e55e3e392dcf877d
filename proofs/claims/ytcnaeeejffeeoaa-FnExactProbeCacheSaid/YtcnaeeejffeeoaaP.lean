import Derived.Test.YtcnaeeejffeeoaaM
import Derived.Test.YtcnaeeejffeeoaaI
namespace Go.Proofs.Ytcnaeeejffeeoaa
open Go.RowKit

theorem accL_len (xs : List Int) (a : Int) : (accL xs a).length ≤ 2 := by
  unfold accL
  split
  · rename_i h
    unfold accOk at h
    rw [Bool.and_eq_true] at h
    simp [cacheOk_len h.1]
  · simp

set_option maxHeartbeats 4000000 in
set_option maxRecDepth 100000 in
theorem FnExactAccessCache_walk (v : Value) (xs : List Int) (a : Int) (w : World) (r0 : Reads w 1 v xs.length (ints xs)) :
    Calls Try.prog 9 #[.agg #[v], .int .i64 a] w fun e w' => e = .returned (.bool true) ∧ Below w.heap.size w w' := by
  have hll := accL_len xs a
  have ivr := reads_lt r0
  obtain ⟨va, vc, rfl⟩ := reads_shape r0
  go_enter Try.func9, Try.ntmps9
  go_wp2_with fail
  refine (szCache_any _ _ _ 1048576 _ (r0.below (bal (bself w) _)) (by omega) (by omega)).mono ?_
  rintro e w1 ⟨rfl, hb⟩
  have hk1 := btr (bal (bself w) _) hb
  have hsz1 := hb.size
  simp only [World.size_alloc] at hsz1
  replace r0 := r0.below hk1
  have bx2 : w1.cell? ⟨w.heap.size, 0, none⟩ = some (.slice va xs.length vc) := kept_cell hb (by simp [go_sem])
  have tot := hk1
  clear hk1 hb
  by_cases hl : (1048576 : Int) < xs.length
  · rw [if_pos hl]
    clear hl r0
    go_wp2
    go_ret
    exact ⟨rfl, tot⟩
  rw [if_neg hl]
  have hnn : 0 ≤ (1048576 : Int) - xs.length := by omega
  have hlen : xs.length ≤ 1048576 := by omega
  clear hl
  have lt3 := lt_of_cell bx2
  go_wp2_with fail
  refine (toCache_any _ xs _ r0 (by omega)).mono ?_
  rintro e w2 ⟨v1, rfl, o1, hb⟩
  have hk4 := btr (bself w1) hb
  have hsz4 := hb.size
  replace r0 := r0.below hk4
  replace bx2 := kept_cell hk4 bx2
  replace tot := btr tot hk4
  clear hk4 hb
  obtain ⟨a1, c1, rfl⟩ := own_shape o1
  have iv5 := o1.lt
  have lt6 := lt_of_cell bx2
  go_wp2_with fail
  refine (sAccess_any _ xs a _ (reads_of_owns o1 (by omega))).mono ?_
  rintro e w3 ⟨v2, rfl, ow, hb⟩
  have hk7 := btr (bself w2) hb
  have hsz7 := hb.size
  replace r0 := r0.below hk7
  replace bx2 := kept_cell hk7 bx2
  replace o1 := own_below o1 hk7
  replace tot := btr tot hk7
  clear hk7 hb
  obtain ⟨a2, c2, rfl⟩ := own_shape ow
  have iv8 := ow.lt
  have lt9 := lt_of_cell bx2
  clear o1
  go_wp2_with fail
  refine (toCache_any _ xs _ (r0.below (bal (bself w3) _)) (by omega)).mono ?_
  rintro e w4 ⟨v3, rfl, ox, hb⟩
  have hk10 := btr (bal (bself w3) _) hb
  have hsz10 := hb.size
  simp only [World.size_alloc] at hsz10
  replace r0 := r0.below hk10
  replace bx2 := kept_cell hk10 bx2
  replace ow := own_below ow hk10
  have bx11 : w4.cell? ⟨w3.heap.size, 0, none⟩ = some (.slice a2 (accL xs a).length c2) := kept_cell hb (by simp [go_sem])
  replace tot := btr tot hk10
  clear hk10 hb
  obtain ⟨a3, c3, rfl⟩ := own_shape ox
  have iv12 := ox.lt
  simp only [World.size_alloc] at iv12
  have lt13 := lt_of_cell bx2
  have lt14 := lt_of_cell bx11
  go_wp2_with fail
  refine (iAccess_any _ xs a _ (reads_of_owns (own_below ox (bal (bself w4) _)) (by omega))).mono ?_
  rintro e w5 ⟨v4, rfl, og, hb⟩
  have hk15 := btr (bal (bself w4) _) hb
  have hsz15 := hb.size
  simp only [World.size_alloc] at hsz15
  replace r0 := r0.below hk15
  replace bx2 := kept_cell hk15 bx2
  replace ow := own_below ow hk15
  replace bx11 := kept_cell hk15 bx11
  replace ox := own_below ox hk15
  have bx16 : w5.cell? ⟨w4.heap.size, 0, none⟩ = some (.slice a3 xs.length c3) := kept_cell hb (by simp [go_sem])
  replace tot := btr tot hk15
  clear hk15 hb
  obtain ⟨a4, c4, rfl⟩ := own_shape og
  have iv17 := og.lt
  simp only [World.size_alloc] at iv17
  have lt18 := lt_of_cell bx2
  have lt19 := lt_of_cell bx11
  have lt20 := lt_of_cell bx16
  go_wp2_with fail
  refine (eqCache_any _ _ (accL xs a) (accL xs a) _ (reads_of_owns (own_below og (bal (bself w5) _)) (by omega)) (reads_of_owns (own_below ow (bal (bself w5) _)) (by omega))).mono ?_
  rintro e w6 ⟨rfl, hb⟩
  have hk21 := btr (bal (bself w5) _) hb
  have hsz21 := hb.size
  simp only [World.size_alloc] at hsz21
  replace r0 := r0.below hk21
  replace bx2 := kept_cell hk21 bx2
  replace ow := own_below ow hk21
  replace bx11 := kept_cell hk21 bx11
  replace ox := own_below ox hk21
  replace bx16 := kept_cell hk21 bx16
  replace og := own_below og hk21
  have bx22 : w6.cell? ⟨w5.heap.size, 0, none⟩ = some (.slice a4 (accL xs a).length c4) := kept_cell hb (by simp [go_sem])
  replace tot := btr tot hk21
  clear hk21 hb
  rw [decide_eq_true (Eq.refl (accL xs a))]
  have lt23 := lt_of_cell bx2
  have lt24 := lt_of_cell bx11
  have lt25 := lt_of_cell bx16
  have lt26 := lt_of_cell bx22
  go_upto_region 10 with (fail)
  go_cut [49] (fun s wx => s = .bool false ∧ Below w6.heap.size w6 wx)
  case first =>
    clear tot
    go_region_with (first | (go_at_call 24; refine (toCache_any _ xs _ (r0.below (Below.drew (bself w6))) (by omega)).mono ?_; rintro e wa ⟨ua, rfl, oa, ba⟩; obtain ⟨aa, ca, rfl⟩ := own_shape oa; have xbx16 := kept_cell (btr (Below.drew (bself w6)) ba) bx16) | (go_at_call 17; refine (eqCache_any _ _ xs xs _ (reads_of_owns (own_below ox (btr (Below.drew (bself w6)) ba)) (by omega)) (reads_of_owns oa (by omega))).mono ?_; rintro e wb ⟨rfl, bb⟩))
    all_goals (go_wp2_with fail; go_meet; exact ⟨rfl, btr (btr (Below.drew (bself w6)) ba) bb⟩)
  obtain ⟨w7, rfl⟩ : ∃ W, W = wc := ⟨_, rfl⟩
  obtain ⟨rfl, hb⟩ := hcut
  have hk27 := btr (bself w6) hb
  have hsz27 := hb.size
  replace r0 := r0.below hk27
  replace bx2 := kept_cell hk27 bx2
  replace ow := own_below ow hk27
  replace bx11 := kept_cell hk27 bx11
  replace ox := own_below ox hk27
  replace bx16 := kept_cell hk27 bx16
  replace og := own_below og hk27
  replace bx22 := kept_cell hk27 bx22
  replace tot := btr tot hk27
  clear hk27 hb
  have lt28 := lt_of_cell bx2
  have lt29 := lt_of_cell bx11
  have lt30 := lt_of_cell bx16
  have lt31 := lt_of_cell bx22
  go_wp2_with fail
  refine (markCache_any _ xs 1 _ _ ox (by omega) (by omega) (by omega)).mono ?_
  rintro e w8 ⟨rfl, mx, hb⟩
  have hk32 := (Chg.of_below (bself w7)).trans hb
  have hsz32 := hb.size
  replace r0 := r0.keep hk32 (fun b _ _ h0 h h2 => by have := ivr b _ _ h0 h; have := iv12 b h2; omega)
  replace bx2 := (hk32.cell 0 (lt_of_cell bx2) (fun h => by have := iv12 _ h; omega)).trans bx2
  replace ow := own_keep ow hk32 (fun gq h h2 => by have := iv8 gq h; have := iv12 gq h2; omega)
  replace bx11 := (hk32.cell 0 (lt_of_cell bx11) (fun h => by have := iv12 _ h; omega)).trans bx11
  replace bx16 := (hk32.cell 0 (lt_of_cell bx16) (fun h => by have := iv12 _ h; omega)).trans bx16
  replace og := own_keep og hk32 (fun gq h h2 => by have := iv17 gq h; have := iv12 gq h2; omega)
  replace bx22 := (hk32.cell 0 (lt_of_cell bx22) (fun h => by have := iv12 _ h; omega)).trans bx22
  replace tot := tot.trans (hk32.below w.heap.size (by have := tot.size; omega) (fun gq hgq h => by have := iv12 gq h; omega))
  clear hk32 hb
  clear ox
  clear mx
  have hk0 : ¬ (1 + (xs.length : Int)) < 0 := by omega
  have lt33 := lt_of_cell bx2
  have lt34 := lt_of_cell bx11
  have lt35 := lt_of_cell bx16
  have lt36 := lt_of_cell bx22
  go_wp2_with fail
  refine (eqCache_any _ _ (accL xs a) (accL xs a) _ (reads_of_owns og (by omega)) (reads_of_owns ow (by omega))).mono ?_
  rintro e w9 ⟨rfl, hb⟩
  have hk37 := btr (bself w8) hb
  have hsz37 := hb.size
  replace r0 := r0.below hk37
  replace bx2 := kept_cell hk37 bx2
  replace ow := own_below ow hk37
  replace bx11 := kept_cell hk37 bx11
  replace bx16 := kept_cell hk37 bx16
  replace og := own_below og hk37
  replace bx22 := kept_cell hk37 bx22
  replace tot := btr tot hk37
  clear hk37 hb
  rw [decide_eq_true (Eq.refl (accL xs a))]
  have lt38 := lt_of_cell bx2
  have lt39 := lt_of_cell bx11
  have lt40 := lt_of_cell bx16
  have lt41 := lt_of_cell bx22
  go_wp2_with fail
  refine (markCache_any _ (accL xs a) 1 _ _ og (by omega) (by omega) (by omega)).mono ?_
  rintro e w10 ⟨rfl, mg, hb⟩
  have hk42 := (Chg.of_below (bself w9)).trans hb
  have hsz42 := hb.size
  replace r0 := r0.keep hk42 (fun b _ _ h0 h h2 => by have := ivr b _ _ h0 h; have := iv17 b h2; omega)
  replace bx2 := (hk42.cell 0 (lt_of_cell bx2) (fun h => by have := iv17 _ h; omega)).trans bx2
  replace ow := own_keep ow hk42 (fun gq h h2 => by have := iv8 gq h; have := iv17 gq h2; omega)
  replace bx11 := (hk42.cell 0 (lt_of_cell bx11) (fun h => by have := iv17 _ h; omega)).trans bx11
  replace bx16 := (hk42.cell 0 (lt_of_cell bx16) (fun h => by have := iv17 _ h; omega)).trans bx16
  replace bx22 := (hk42.cell 0 (lt_of_cell bx22) (fun h => by have := iv17 _ h; omega)).trans bx22
  replace tot := tot.trans (hk42.below w.heap.size (by have := tot.size; omega) (fun gq hgq h => by have := iv17 gq h; omega))
  clear hk42 hb
  clear og
  have lt43 := lt_of_cell bx2
  have lt44 := lt_of_cell bx11
  have lt45 := lt_of_cell bx16
  have lt46 := lt_of_cell bx22
  go_wp2_with fail
  refine (heldCache_any _ (accL xs a).length 1 _ (reads_of_owns mg (by omega)) (by omega) (by omega) (by omega)).mono ?_
  rintro e w11 ⟨rfl, hb⟩
  have hk47 := btr (bself w10) hb
  have hsz47 := hb.size
  replace r0 := r0.below hk47
  replace bx2 := kept_cell hk47 bx2
  replace ow := own_below ow hk47
  replace bx11 := kept_cell hk47 bx11
  replace bx16 := kept_cell hk47 bx16
  replace bx22 := kept_cell hk47 bx22
  replace mg := own_below mg hk47
  replace tot := btr tot hk47
  clear hk47 hb
  have hk1 : ¬ (1 + ((accL xs a).length : Int)) < 0 := by omega
  have lt48 := lt_of_cell bx2
  have lt49 := lt_of_cell bx11
  have lt50 := lt_of_cell bx16
  have lt51 := lt_of_cell bx22
  go_wp2_with fail
  refine (toCache_any _ xs _ r0 (by omega)).mono ?_
  rintro e w12 ⟨v5, rfl, oy, hb⟩
  have hk52 := btr (bself w11) hb
  have hsz52 := hb.size
  replace r0 := r0.below hk52
  replace bx2 := kept_cell hk52 bx2
  replace ow := own_below ow hk52
  replace bx11 := kept_cell hk52 bx11
  replace bx16 := kept_cell hk52 bx16
  replace bx22 := kept_cell hk52 bx22
  replace mg := own_below mg hk52
  replace tot := btr tot hk52
  clear hk52 hb
  obtain ⟨a5, c5, rfl⟩ := own_shape oy
  have iv53 := oy.lt
  have lt54 := lt_of_cell bx2
  have lt55 := lt_of_cell bx11
  have lt56 := lt_of_cell bx16
  have lt57 := lt_of_cell bx22
  go_wp2_with fail
  refine (iAccess_any _ xs a _ (reads_of_owns oy (by omega))).mono ?_
  rintro e w13 ⟨v6, rfl, oh, hb⟩
  have hk58 := btr (bself w12) hb
  have hsz58 := hb.size
  replace r0 := r0.below hk58
  replace bx2 := kept_cell hk58 bx2
  replace ow := own_below ow hk58
  replace bx11 := kept_cell hk58 bx11
  replace bx16 := kept_cell hk58 bx16
  replace bx22 := kept_cell hk58 bx22
  replace mg := own_below mg hk58
  replace oy := own_below oy hk58
  replace tot := btr tot hk58
  clear hk58 hb
  obtain ⟨a6, c6, rfl⟩ := own_shape oh
  have iv59 := oh.lt
  have lt60 := lt_of_cell bx2
  have lt61 := lt_of_cell bx11
  have lt62 := lt_of_cell bx16
  have lt63 := lt_of_cell bx22
  go_wp2_with fail
  refine (eqCache_any _ _ (accL xs a) (accL xs a) _ (reads_of_owns (own_below oh (bal (bself w13) _)) (by omega)) (reads_of_owns (own_below ow (bal (bself w13) _)) (by omega))).mono ?_
  rintro e w14 ⟨rfl, hb⟩
  have hk64 := btr (bal (bself w13) _) hb
  have hsz64 := hb.size
  simp only [World.size_alloc] at hsz64
  replace r0 := r0.below hk64
  replace bx2 := kept_cell hk64 bx2
  replace ow := own_below ow hk64
  replace bx11 := kept_cell hk64 bx11
  replace bx16 := kept_cell hk64 bx16
  replace bx22 := kept_cell hk64 bx22
  replace mg := own_below mg hk64
  replace oy := own_below oy hk64
  replace oh := own_below oh hk64
  have bx65 : w14.cell? ⟨w13.heap.size, 0, none⟩ = some (.slice a6 (accL xs a).length c6) := kept_cell hb (by simp [go_sem])
  replace tot := btr tot hk64
  clear hk64 hb
  rw [decide_eq_true (Eq.refl (accL xs a))]
  have lt66 := lt_of_cell bx2
  have lt67 := lt_of_cell bx11
  have lt68 := lt_of_cell bx16
  have lt69 := lt_of_cell bx22
  have lt70 := lt_of_cell bx65
  go_wp2_with fail
  refine (heldCache_any _ (accL xs a).length 1 _ (reads_of_owns mg (by omega)) (by omega) (by omega) (by omega)).mono ?_
  rintro e w15 ⟨rfl, hb⟩
  have hk71 := btr (bself w14) hb
  have hsz71 := hb.size
  replace r0 := r0.below hk71
  replace bx2 := kept_cell hk71 bx2
  replace ow := own_below ow hk71
  replace bx11 := kept_cell hk71 bx11
  replace bx16 := kept_cell hk71 bx16
  replace bx22 := kept_cell hk71 bx22
  replace mg := own_below mg hk71
  replace oy := own_below oy hk71
  replace oh := own_below oh hk71
  replace bx65 := kept_cell hk71 bx65
  replace tot := btr tot hk71
  clear hk71 hb
  clear ow mg oh oy r0
  go_wp2
  go_ret
  exact ⟨rfl, tot⟩
end Go.Proofs.Ytcnaeeejffeeoaa
