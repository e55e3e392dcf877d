import Derived.Test.YtkbbpnfhenoihaaCO
import Derived.Test.YtkbbpnfhenoihaaLG2
import Derived.Test.YtkbbpnfhenoihaaRB
namespace Go.Proofs.Ytkbbpnfhenoihaa
open Go.RowKit

set_option maxHeartbeats 8000000 in
set_option maxRecDepth 100000 in
theorem FnExactCheckLive_walk (va vb vc vl : Value) (c : Cd) (L : List (List Bool)) (w : World) (r0 : ReadsC w va vb vc c) (rl : Reads2 bools w vl L) :
    Calls Try.prog 10 #[.agg #[va, vb, vc], vl] w fun e w' => e = .returned (.bool true) ∧ Below w.heap.size w w' := by
  have ivr := r0.lt
  obtain ⟨a0, c0, a1, c1, a2, c2, rfl, rfl, rfl⟩ := r0.shape
  obtain ⟨a9, c9, rfl⟩ := rl.shape
  go_enter Try.func10, Try.ntmps10
  go_wp2_with fail
  refine (szCode_any _ _ _ c 1048576 _ (r0.below (bal (bself _) (.cells #[.slice a0 c.vars.length c0, .slice a1 c.arrays.length c1, .slice a2 c.list.length c2] 45))) (by omega) (by omega)).mono ?_
  rintro e w1 ⟨rfl, hb⟩
  have hsz1 := hb.size
  simp only [World.size_alloc] at hsz1
  replace r0 := (r0.below (bal (bself _) (.cells #[.slice a0 c.vars.length c0, .slice a1 c.arrays.length c1, .slice a2 c.list.length c2] 45))).below hb
  replace rl := (rl.below (bal (bself _) (.cells #[.slice a0 c.vars.length c0, .slice a1 c.arrays.length c1, .slice a2 c.list.length c2] 45))).below hb
  have bx2 : w1.cell? ⟨w.heap.size, 0, none⟩ = some (.slice a0 c.vars.length c0) := kept_cell hb (cell_nw (by simp) (by rfl))
  have bx3 : w1.cell? ⟨w.heap.size, 1, none⟩ = some (.slice a1 c.arrays.length c1) := kept_cell hb (cell_nw (by simp) (by rfl))
  have bx4 : w1.cell? ⟨w.heap.size, 2, none⟩ = some (.slice a2 c.list.length c2) := kept_cell hb (cell_nw (by simp) (by rfl))
  have tot := btr (bal (bself w) (.cells #[.slice a0 c.vars.length c0, .slice a1 c.arrays.length c1, .slice a2 c.list.length c2] 45)) hb
  clear hb
  by_cases hl : (1048576 : Int) < (c.vars.length + c.arrays.length + c.list.length : Nat)
  · rw [if_pos hl]
    clear hl r0 rl
    go_wp2
    go_ret
    exact ⟨rfl, tot⟩
  rw [if_neg hl]
  have hnn : ¬ (1048576 : Int) - (c.vars.length + c.arrays.length + c.list.length : Nat) < 0 := by omega
  have hv : c.vars.length ≤ 1048576 := by omega
  have ha : c.arrays.length ≤ 1048576 := by omega
  have hc : c.list.length ≤ 1048576 := by omega
  clear hl
  have lt5 := lt_of_cell bx2
  have lt6 := lt_of_cell bx3
  have lt7 := lt_of_cell bx4
  go_wp2_with fail
  refine (szBoolSS_any _ L (1048576 - (c.vars.length + c.arrays.length + c.list.length : Nat)) _ rl (by omega) (by omega)).mono ?_
  rintro e w2 ⟨rsz, rfl, hrsz, hb⟩
  have hsz8 := hb.size
  replace r0 := r0.below hb
  replace rl := rl.below hb
  replace bx2 : w2.cell? ⟨w.heap.size, 0, none⟩ = some (.slice a0 c.vars.length c0) := kept_cell hb bx2
  replace bx3 : w2.cell? ⟨w.heap.size, 1, none⟩ = some (.slice a1 c.arrays.length c1) := kept_cell hb bx3
  replace bx4 : w2.cell? ⟨w.heap.size, 2, none⟩ = some (.slice a2 c.list.length c2) := kept_cell hb bx4
  replace tot := btr tot hb
  clear hb
  rcases hrsz with rfl | ⟨hrsz0, hrsz⟩
  · clear r0 rl
    go_wp2
    go_ret
    exact ⟨rfl, tot⟩
  have hn1 : ¬ rsz < 0 := by omega
  have hL1 : L.length ≤ 1048576 := by omega
  have hL2 : pre2 L L.length ≤ 1048576 := by omega
  have HLR := Lib.hid (fun (k : Nat) (r : List Bool) (h : L[k]? = some r) => show r.length ≤ 9223372036854775807 from by obtain ⟨hk, rfl⟩ := List.getElem?_eq_some_iff.1 h; have := pre2_all L k hk L.length hk; omega)
  clear hrsz
  have lt9 := lt_of_cell bx2
  have lt10 := lt_of_cell bx3
  have lt11 := lt_of_cell bx4
  go_wp2_with fail
  refine (toCode_any _ _ _ c _ r0 (by omega) (by omega) (by omega)).mono ?_
  rintro e w3 ⟨u100, v100, x100, rfl, o1, hb⟩
  have hsz12 := hb.size
  replace r0 := r0.below hb
  replace rl := rl.below hb
  replace bx2 : w3.cell? ⟨w.heap.size, 0, none⟩ = some (.slice a0 c.vars.length c0) := kept_cell hb bx2
  replace bx3 : w3.cell? ⟨w.heap.size, 1, none⟩ = some (.slice a1 c.arrays.length c1) := kept_cell hb bx3
  replace bx4 : w3.cell? ⟨w.heap.size, 2, none⟩ = some (.slice a2 c.list.length c2) := kept_cell hb bx4
  replace tot := btr tot hb
  clear hb
  obtain ⟨p300, q300, p301, q301, p302, q302, rfl, rfl, rfl⟩ := o1.shape
  have iv13 := o1.lt
  have lt14 := lt_of_cell bx2
  have lt15 := lt_of_cell bx3
  have lt16 := lt_of_cell bx4
  go_wp2_with fail
  refine (toBoolSS_any _ L _ rl (by omega) (by omega)).mono ?_
  rintro e w4 ⟨u101, us101, rfl, l1, hb⟩
  have hsz17 := hb.size
  replace r0 := r0.below hb
  replace rl := rl.below hb
  replace bx2 : w4.cell? ⟨w.heap.size, 0, none⟩ = some (.slice a0 c.vars.length c0) := kept_cell hb bx2
  replace bx3 : w4.cell? ⟨w.heap.size, 1, none⟩ = some (.slice a1 c.arrays.length c1) := kept_cell hb bx3
  replace bx4 : w4.cell? ⟨w.heap.size, 2, none⟩ = some (.slice a2 c.list.length c2) := kept_cell hb bx4
  replace o1 := o1.below hb
  replace tot := btr tot hb
  clear hb
  obtain ⟨p101, q101, rfl⟩ := l1.shape
  have iv18 := l1.lt
  have lt19 := lt_of_cell bx2
  have lt20 := lt_of_cell bx3
  have lt21 := lt_of_cell bx4
  go_wp2_with fail
  refine (sCheckLive_any _ _ _ _ c L _ (o1.reads (by omega) (by omega) (by omega)) (l1.reads (by omega) HLR.out)).mono ?_
  rintro e w5 ⟨rfl, hb⟩
  have hsz22 := hb.size
  replace r0 := r0.below hb
  replace rl := rl.below hb
  replace bx2 : w5.cell? ⟨w.heap.size, 0, none⟩ = some (.slice a0 c.vars.length c0) := kept_cell hb bx2
  replace bx3 : w5.cell? ⟨w.heap.size, 1, none⟩ = some (.slice a1 c.arrays.length c1) := kept_cell hb bx3
  replace bx4 : w5.cell? ⟨w.heap.size, 2, none⟩ = some (.slice a2 c.list.length c2) := kept_cell hb bx4
  replace o1 := o1.below hb
  replace l1 := l1.below hb
  replace tot := btr tot hb
  clear hb
  clear o1
  clear l1
  have lt23 := lt_of_cell bx2
  have lt24 := lt_of_cell bx3
  have lt25 := lt_of_cell bx4
  go_wp2_with fail
  refine (toCode_any _ _ _ c _ r0 (by omega) (by omega) (by omega)).mono ?_
  rintro e w6 ⟨u102, v102, x102, rfl, ox, hb⟩
  have hsz26 := hb.size
  replace r0 := r0.below hb
  replace rl := rl.below hb
  replace bx2 : w6.cell? ⟨w.heap.size, 0, none⟩ = some (.slice a0 c.vars.length c0) := kept_cell hb bx2
  replace bx3 : w6.cell? ⟨w.heap.size, 1, none⟩ = some (.slice a1 c.arrays.length c1) := kept_cell hb bx3
  replace bx4 : w6.cell? ⟨w.heap.size, 2, none⟩ = some (.slice a2 c.list.length c2) := kept_cell hb bx4
  replace tot := btr tot hb
  clear hb
  obtain ⟨p306, q306, p307, q307, p308, q308, rfl, rfl, rfl⟩ := ox.shape
  have iv27 := ox.lt
  have lt28 := lt_of_cell bx2
  have lt29 := lt_of_cell bx3
  have lt30 := lt_of_cell bx4
  go_wp2_with fail
  refine (toBoolSS_any _ L _ (rl.below (bal (bself _) (.cells #[.slice p306 c.vars.length q306, .slice p307 c.arrays.length q307, .slice p308 c.list.length q308] 50))) (by omega) (by omega)).mono ?_
  rintro e w7 ⟨u103, us103, rfl, lx, hb⟩
  have hsz31 := hb.size
  simp only [World.size_alloc] at hsz31
  replace r0 := (r0.below (bal (bself _) (.cells #[.slice p306 c.vars.length q306, .slice p307 c.arrays.length q307, .slice p308 c.list.length q308] 50))).below hb
  replace rl := (rl.below (bal (bself _) (.cells #[.slice p306 c.vars.length q306, .slice p307 c.arrays.length q307, .slice p308 c.list.length q308] 50))).below hb
  replace bx2 : w7.cell? ⟨w.heap.size, 0, none⟩ = some (.slice a0 c.vars.length c0) := kept_cell hb (cell_al bx2 (.cells #[.slice p306 c.vars.length q306, .slice p307 c.arrays.length q307, .slice p308 c.list.length q308] 50))
  replace bx3 : w7.cell? ⟨w.heap.size, 1, none⟩ = some (.slice a1 c.arrays.length c1) := kept_cell hb (cell_al bx3 (.cells #[.slice p306 c.vars.length q306, .slice p307 c.arrays.length q307, .slice p308 c.list.length q308] 50))
  replace bx4 : w7.cell? ⟨w.heap.size, 2, none⟩ = some (.slice a2 c.list.length c2) := kept_cell hb (cell_al bx4 (.cells #[.slice p306 c.vars.length q306, .slice p307 c.arrays.length q307, .slice p308 c.list.length q308] 50))
  replace ox := (ox.below (bal (bself _) (.cells #[.slice p306 c.vars.length q306, .slice p307 c.arrays.length q307, .slice p308 c.list.length q308] 50))).below hb
  have bx32 : w7.cell? ⟨w6.heap.size, 0, none⟩ = some (.slice p306 c.vars.length q306) := kept_cell hb (cell_nw (by simp) (by rfl))
  have bx33 : w7.cell? ⟨w6.heap.size, 1, none⟩ = some (.slice p307 c.arrays.length q307) := kept_cell hb (cell_nw (by simp) (by rfl))
  have bx34 : w7.cell? ⟨w6.heap.size, 2, none⟩ = some (.slice p308 c.list.length q308) := kept_cell hb (cell_nw (by simp) (by rfl))
  replace tot := btr (bal tot (.cells #[.slice p306 c.vars.length q306, .slice p307 c.arrays.length q307, .slice p308 c.list.length q308] 50)) hb
  clear hb
  obtain ⟨p103, q103, rfl⟩ := lx.shape
  have iv35 := lx.lt
  try simp only [World.size_alloc] at iv35
  have lt36 := lt_of_cell bx2
  have lt37 := lt_of_cell bx3
  have lt38 := lt_of_cell bx4
  have lt39 := lt_of_cell bx32
  have lt40 := lt_of_cell bx33
  have lt41 := lt_of_cell bx34
  go_wp2_with fail
  refine (iCheckLive_any _ _ _ _ c L _ (ox.reads (by omega) (by omega) (by omega)) (lx.reads (by omega) HLR.out)).mono ?_
  rintro e w8 ⟨rfl, hb⟩
  have hsz42 := hb.size
  replace r0 := r0.below hb
  replace rl := rl.below hb
  replace bx2 : w8.cell? ⟨w.heap.size, 0, none⟩ = some (.slice a0 c.vars.length c0) := kept_cell hb bx2
  replace bx3 : w8.cell? ⟨w.heap.size, 1, none⟩ = some (.slice a1 c.arrays.length c1) := kept_cell hb bx3
  replace bx4 : w8.cell? ⟨w.heap.size, 2, none⟩ = some (.slice a2 c.list.length c2) := kept_cell hb bx4
  replace ox := ox.below hb
  replace bx32 : w8.cell? ⟨w6.heap.size, 0, none⟩ = some (.slice p306 c.vars.length q306) := kept_cell hb bx32
  replace bx33 : w8.cell? ⟨w6.heap.size, 1, none⟩ = some (.slice p307 c.arrays.length q307) := kept_cell hb bx33
  replace bx34 : w8.cell? ⟨w6.heap.size, 2, none⟩ = some (.slice p308 c.list.length q308) := kept_cell hb bx34
  replace lx := lx.below hb
  replace tot := btr tot hb
  clear hb
  have lt43 := lt_of_cell bx2
  have lt44 := lt_of_cell bx3
  have lt45 := lt_of_cell bx4
  have lt46 := lt_of_cell bx32
  have lt47 := lt_of_cell bx33
  have lt48 := lt_of_cell bx34
  have hne : (!(checkR c L == checkR c L)) = false := by simp
  go_upto_region 14 with (fail)
  go_cut [39] (fun s wx => s = .bool false ∧ Below w8.heap.size w8 wx)
  case first =>
    clear tot
    go_region_with (first | (go_at_call 33; refine (toCode_any _ _ _ c _ (r0.below (Below.drew (bself w8))) (by omega) (by omega) (by omega)).mono ?_; rintro e wa ⟨ua, ub, uc, rfl, oa, ba⟩; obtain ⟨pa, qa, pb, qb, pc, qc, rfl, rfl, rfl⟩ := oa.shape; have xbx32 := kept_cell (btr (Below.drew (bself w8)) ba) bx32; have xbx33 := kept_cell (btr (Below.drew (bself w8)) ba) bx33; have xbx34 := kept_cell (btr (Below.drew (bself w8)) ba) bx34) | (go_at_call 35; refine (eqCode_any _ _ _ _ _ _ c c _ ((ox.below (btr (Below.drew (bself w8)) ba)).reads (by omega) (by omega) (by omega)) (oa.reads (by omega) (by omega) (by omega))).mono ?_; rintro e wb ⟨rfl, bb⟩))
    all_goals (go_wp2_with fail; go_meet; exact ⟨rfl, btr (btr (Below.drew (bself w8)) ba) bb⟩)
  obtain ⟨w9, rfl⟩ : ∃ W, W = wc := ⟨_, rfl⟩
  obtain ⟨rfl, hb⟩ := hcut
  have hsz49 := hb.size
  replace r0 := r0.below hb
  replace rl := rl.below hb
  replace bx2 : w9.cell? ⟨w.heap.size, 0, none⟩ = some (.slice a0 c.vars.length c0) := kept_cell hb bx2
  replace bx3 : w9.cell? ⟨w.heap.size, 1, none⟩ = some (.slice a1 c.arrays.length c1) := kept_cell hb bx3
  replace bx4 : w9.cell? ⟨w.heap.size, 2, none⟩ = some (.slice a2 c.list.length c2) := kept_cell hb bx4
  replace ox := ox.below hb
  replace bx32 : w9.cell? ⟨w6.heap.size, 0, none⟩ = some (.slice p306 c.vars.length q306) := kept_cell hb bx32
  replace bx33 : w9.cell? ⟨w6.heap.size, 1, none⟩ = some (.slice p307 c.arrays.length q307) := kept_cell hb bx33
  replace bx34 : w9.cell? ⟨w6.heap.size, 2, none⟩ = some (.slice p308 c.list.length q308) := kept_cell hb bx34
  replace lx := lx.below hb
  replace tot := btr tot hb
  clear hb
  clear ox r0
  go_wp2_with fail
  refine (toBoolSS_any _ L _ rl (by omega) (by omega)).mono ?_
  rintro e w10 ⟨u104, us104, rfl, ly, hb⟩
  have hsz50 := hb.size
  replace rl := rl.below hb
  replace bx2 : w10.cell? ⟨w.heap.size, 0, none⟩ = some (.slice a0 c.vars.length c0) := kept_cell hb bx2
  replace bx3 : w10.cell? ⟨w.heap.size, 1, none⟩ = some (.slice a1 c.arrays.length c1) := kept_cell hb bx3
  replace bx4 : w10.cell? ⟨w.heap.size, 2, none⟩ = some (.slice a2 c.list.length c2) := kept_cell hb bx4
  replace bx32 : w10.cell? ⟨w6.heap.size, 0, none⟩ = some (.slice p306 c.vars.length q306) := kept_cell hb bx32
  replace bx33 : w10.cell? ⟨w6.heap.size, 1, none⟩ = some (.slice p307 c.arrays.length q307) := kept_cell hb bx33
  replace bx34 : w10.cell? ⟨w6.heap.size, 2, none⟩ = some (.slice p308 c.list.length q308) := kept_cell hb bx34
  replace lx := lx.below hb
  replace tot := btr tot hb
  clear hb
  obtain ⟨p104, q104, rfl⟩ := ly.shape
  have iv51 := ly.lt
  have lt52 := lt_of_cell bx2
  have lt53 := lt_of_cell bx3
  have lt54 := lt_of_cell bx4
  have lt55 := lt_of_cell bx32
  have lt56 := lt_of_cell bx33
  have lt57 := lt_of_cell bx34
  go_wp2_with fail
  refine (eqBoolSS_any _ _ L L _ (lx.reads (by omega) HLR.out) (ly.reads (by omega) HLR.out)).mono ?_
  rintro e w11 ⟨rfl, hb⟩
  have hsz58 := hb.size
  replace rl := rl.below hb
  replace bx2 : w11.cell? ⟨w.heap.size, 0, none⟩ = some (.slice a0 c.vars.length c0) := kept_cell hb bx2
  replace bx3 : w11.cell? ⟨w.heap.size, 1, none⟩ = some (.slice a1 c.arrays.length c1) := kept_cell hb bx3
  replace bx4 : w11.cell? ⟨w.heap.size, 2, none⟩ = some (.slice a2 c.list.length c2) := kept_cell hb bx4
  replace bx32 : w11.cell? ⟨w6.heap.size, 0, none⟩ = some (.slice p306 c.vars.length q306) := kept_cell hb bx32
  replace bx33 : w11.cell? ⟨w6.heap.size, 1, none⟩ = some (.slice p307 c.arrays.length q307) := kept_cell hb bx33
  replace bx34 : w11.cell? ⟨w6.heap.size, 2, none⟩ = some (.slice p308 c.list.length q308) := kept_cell hb bx34
  replace lx := lx.below hb
  replace ly := ly.below hb
  replace tot := btr tot hb
  clear hb
  rw [decide_eq_true (Eq.refl L)]
  have lt59 := lt_of_cell bx2
  have lt60 := lt_of_cell bx3
  have lt61 := lt_of_cell bx4
  have lt62 := lt_of_cell bx32
  have lt63 := lt_of_cell bx33
  have lt64 := lt_of_cell bx34
  clear lx ly rl
  go_wp2
  go_ret
  exact ⟨rfl, tot⟩
end Go.Proofs.Ytkbbpnfhenoihaa
