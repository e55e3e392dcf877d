import Derived.Test.YtkbbpnfhenoihaaEV
import Derived.Test.YtkbbpnfhenoihaaI
namespace Go.Proofs.Ytkbbpnfhenoihaa
open Go.RowKit

set_option maxHeartbeats 4000000 in
set_option maxRecDepth 100000 in
theorem FnExactTraceTime_walk (v tv : Value) (xs : List Int) (l : List Ev) (w : World) (r0 : Reads w 1 v xs.length (ints xs)) (r1 : Reads w 2 tv l.length (rows evc l)) :
    Calls Try.prog 3 #[.agg #[v], tv] w fun e w' => e = .returned (.bool true) ∧ Below w.heap.size w w' := by
  have ivr := reads_lt r0
  have ivs := reads_lt r1
  obtain ⟨va, vc, rfl⟩ := reads_shape r0
  obtain ⟨ta, tc, rfl⟩ := reads_shape r1
  go_enter Try.func3, Try.ntmps3
  go_wp2_with fail
  refine (szCache_any _ _ _ 1048576 _ (r0.below (bal (bself w) _)) (by omega) (by omega)).mono ?_
  rintro e w1 ⟨rfl, hb⟩
  have hk1 := btr (bal (bself w) _) hb
  have hsz1 := hb.size
  simp only [World.size_alloc] at hsz1
  replace r0 := r0.below hk1
  replace r1 := r1.below hk1
  have bx2 : w1.cell? ⟨w.heap.size, 0, none⟩ = some (.slice va xs.length vc) := kept_cell hb (by simp [go_sem])
  have tot := hk1
  clear hk1 hb
  by_cases hl : (1048576 : Int) < xs.length
  · rw [if_pos hl]
    clear hl r0 r1
    go_wp2
    go_ret
    exact ⟨rfl, tot⟩
  rw [if_neg hl]
  have hnn : ¬ (1048576 : Int) - xs.length < 0 := by omega
  have hlen : xs.length ≤ 1048576 := by omega
  clear hl
  have lt3 := lt_of_cell bx2
  go_wp2_with fail
  refine (szEventS_any _ _ _ (1048576 - xs.length) _ r1 (by omega) (by omega)).mono ?_
  rintro e w2 ⟨rfl, hb⟩
  have hk4 := btr (bself w1) hb
  have hsz4 := hb.size
  replace r0 := r0.below hk4
  replace r1 := r1.below hk4
  replace bx2 := kept_cell hk4 bx2
  replace tot := btr tot hk4
  clear hk4 hb
  by_cases hl : (1048576 : Int) - xs.length < l.length
  · rw [if_pos hl]
    clear hl r0 r1
    go_wp2
    go_ret
    exact ⟨rfl, tot⟩
  rw [if_neg hl]
  have hnm : ¬ (1048576 : Int) - xs.length - l.length < 0 := by omega
  have hlem : l.length ≤ 1048576 := by omega
  clear hl
  have lt5 := lt_of_cell bx2
  go_wp2_with fail
  refine (toCache_any _ xs _ r0 (by omega)).mono ?_
  rintro e w3 ⟨v1, rfl, o1, hb⟩
  have hk6 := btr (bself w2) hb
  have hsz6 := hb.size
  replace r0 := r0.below hk6
  replace r1 := r1.below hk6
  replace bx2 := kept_cell hk6 bx2
  replace tot := btr tot hk6
  clear hk6 hb
  obtain ⟨a1, c1, rfl⟩ := own_shape o1
  have iv7 := o1.lt
  have lt8 := lt_of_cell bx2
  go_wp2_with fail
  refine (toEventS_any _ l _ r1 (by omega)).mono ?_
  rintro e w4 ⟨v2, rfl, o2, hb⟩
  have hk9 := btr (bself w3) hb
  have hsz9 := hb.size
  replace r0 := r0.below hk9
  replace r1 := r1.below hk9
  replace bx2 := kept_cell hk9 bx2
  replace o1 := own_below o1 hk9
  replace tot := btr tot hk9
  clear hk9 hb
  obtain ⟨a2, c2, rfl⟩ := own_shape o2
  have iv10 := o2.lt
  have lt11 := lt_of_cell bx2
  go_wp2_with fail
  refine (sTraceTime_any _ _ xs l _ (reads_of_owns o1 (by omega)) (by rw [evs_rows]; exact (reads_of_owns o2 (by omega))) (by omega)).mono ?_
  rintro e w5 ⟨rfl, hb⟩
  have hk12 := btr (bself w4) hb
  have hsz12 := hb.size
  replace r0 := r0.below hk12
  replace r1 := r1.below hk12
  replace bx2 := kept_cell hk12 bx2
  replace o1 := own_below o1 hk12
  replace o2 := own_below o2 hk12
  replace tot := btr tot hk12
  clear hk12 hb
  have lt13 := lt_of_cell bx2
  clear o1
  clear o2
  go_wp2_with fail
  refine (toCache_any _ xs _ r0 (by omega)).mono ?_
  rintro e w6 ⟨v3, rfl, ox, hb⟩
  have hk14 := btr (bself w5) hb
  have hsz14 := hb.size
  replace r0 := r0.below hk14
  replace r1 := r1.below hk14
  replace bx2 := kept_cell hk14 bx2
  replace tot := btr tot hk14
  clear hk14 hb
  obtain ⟨a3, c3, rfl⟩ := own_shape ox
  have iv15 := ox.lt
  have lt16 := lt_of_cell bx2
  go_wp2_with fail
  refine (toEventS_any _ l _ (r1.below (bal (bself w6) _)) (by omega)).mono ?_
  rintro e w7 ⟨v4, rfl, oy, hb⟩
  have hk17 := btr (bal (bself w6) _) hb
  have hsz17 := hb.size
  simp only [World.size_alloc] at hsz17
  replace r0 := r0.below hk17
  replace r1 := r1.below hk17
  replace bx2 := kept_cell hk17 bx2
  replace ox := own_below ox hk17
  have bx18 : w7.cell? ⟨w6.heap.size, 0, none⟩ = some (.slice a3 xs.length c3) := kept_cell hb (by simp [go_sem])
  replace tot := btr tot hk17
  clear hk17 hb
  obtain ⟨a4, c4, rfl⟩ := own_shape oy
  have iv19 := oy.lt
  simp only [World.size_alloc] at iv19
  have lt20 := lt_of_cell bx2
  have lt21 := lt_of_cell bx18
  go_wp2_with fail
  refine (iTraceTime_any _ _ xs l _ (reads_of_owns ox (by omega)) (by rw [evs_rows]; exact (reads_of_owns oy (by omega))) (by omega)).mono ?_
  rintro e w8 ⟨rfl, hb⟩
  have hk22 := btr (bself w7) hb
  have hsz22 := hb.size
  replace r0 := r0.below hk22
  replace r1 := r1.below hk22
  replace bx2 := kept_cell hk22 bx2
  replace ox := own_below ox hk22
  replace bx18 := kept_cell hk22 bx18
  replace oy := own_below oy hk22
  replace tot := btr tot hk22
  clear hk22 hb
  have lt23 := lt_of_cell bx2
  have lt24 := lt_of_cell bx18
  have hne : (traceT xs l != traceT xs l) = false := by simp
  generalize traceT xs l = T at *
  go_upto_region 14 with (fail)
  go_cut [39] (fun s wx => s = .bool false ∧ Below w8.heap.size w8 wx)
  case first =>
    clear tot
    go_region_with (first | (go_at_call 18; refine (toCache_any _ xs _ (r0.below (Below.drew (bself w8))) (by omega)).mono ?_; rintro e wa ⟨ua, rfl, oa, ba⟩; obtain ⟨aa, ca, rfl⟩ := own_shape oa; have xbx18 := kept_cell (btr (Below.drew (bself w8)) ba) bx18) | (go_at_call 21; refine (eqCache_any _ _ xs xs _ (reads_of_owns (own_below ox (btr (Below.drew (bself w8)) ba)) (by omega)) (reads_of_owns oa (by omega))).mono ?_; rintro e wb ⟨rfl, bb⟩))
    all_goals (go_wp2_with fail; go_meet; exact ⟨rfl, btr (btr (Below.drew (bself w8)) ba) bb⟩)
  obtain ⟨w9, rfl⟩ : ∃ W, W = wc := ⟨_, rfl⟩
  obtain ⟨rfl, hb⟩ := hcut
  have hk25 := btr (bself w8) hb
  have hsz25 := hb.size
  replace r0 := r0.below hk25
  replace r1 := r1.below hk25
  replace bx2 := kept_cell hk25 bx2
  replace ox := own_below ox hk25
  replace bx18 := kept_cell hk25 bx18
  replace oy := own_below oy hk25
  replace tot := btr tot hk25
  clear hk25 hb
  have lt26 := lt_of_cell bx2
  have lt27 := lt_of_cell bx18
  clear ox
  clear r0
  go_wp2_with fail
  refine (toEventS_any _ l _ r1 (by omega)).mono ?_
  rintro e w10 ⟨v5, rfl, oz, hb⟩
  have hk28 := btr (bself w9) hb
  have hsz28 := hb.size
  replace r1 := r1.below hk28
  replace bx2 := kept_cell hk28 bx2
  replace bx18 := kept_cell hk28 bx18
  replace oy := own_below oy hk28
  replace tot := btr tot hk28
  clear hk28 hb
  obtain ⟨a5, c5, rfl⟩ := own_shape oz
  have iv29 := oz.lt
  have lt30 := lt_of_cell bx2
  have lt31 := lt_of_cell bx18
  go_wp2_with fail
  refine (eqEventS_any _ _ l l _ (reads_of_owns oy (by omega)) (reads_of_owns oz (by omega))).mono ?_
  rintro e w11 ⟨rfl, hb⟩
  have hk32 := btr (bself w10) hb
  have hsz32 := hb.size
  replace r1 := r1.below hk32
  replace bx2 := kept_cell hk32 bx2
  replace bx18 := kept_cell hk32 bx18
  replace oy := own_below oy hk32
  replace oz := own_below oz hk32
  replace tot := btr tot hk32
  clear hk32 hb
  rw [decide_eq_true (Eq.refl l)]
  clear oz
  clear oy
  clear r1
  go_wp2
  go_ret
  exact ⟨rfl, tot⟩
end Go.Proofs.Ytkbbpnfhenoihaa
