/-
  Parts of the proof of the law FnExactRunTime.
-/
import Derived.Test.YtbglogjamfdmpaaNK
import Derived.Test.YtbglogjamfdmpaaW
namespace Go.Proofs.Ytbglogjamfdmpaa
open Go.RowKit

def rtR (c : Cd) (m : Mm) : Int × Bool := if runB c m = true then (traceT [-1, -1] (runE c m), true) else (0, false)
theorem rt_no {c : Cd} {m : Mm} (h : runB c m = false) : rtR c m = (0, false) := by unfold rtR; rw [h]; rfl
theorem rt_yes {c : Cd} {m : Mm} (h : runB c m = true) : rtR c m = (traceT [-1, -1] (runE c m), true) := by unfold rtR; rw [h]; rfl


set_option maxHeartbeats 6400000 in
set_option maxRecDepth 100000 in
theorem iRunTime_any (va vb vc vx vy : Value) (c : Cd) (m : Mm) (w : World) (hr : ReadsC w va vb vc c) (hm : ReadsM w vx vy m) (hl : m.vals.length ≤ 1048576) (hn : m.arrs.length ≤ 1048576) (hp : pre2 m.arrs m.arrs.length ≤ 1048576) :
    Calls Try.prog 30 #[.agg #[va, vb, vc], .agg #[vx, vy]] w fun e w' => e = .returned (.tuple #[.int .i64 (rtR c m).1, .bool (rtR c m).2]) ∧ Below w.heap.size w w' := by
  obtain ⟨a0, c0, a1, c1, a2, c2, rfl, rfl, rfl⟩ := hr.shape
  obtain ⟨a3, c3, a4, c4, rfl, rfl⟩ := hm.shape
  have hlen := runE_len c m; have HY := Lib.hid (fun h => rt_yes (c := c) (m := m) h); have HN := Lib.hid (fun h => rt_no (c := c) (m := m) h)
  have HRUN := Lib.hid (iRunCode_any _ _ _ _ _ c m _ (hr.below (bal (bal (bself w) (.cells #[.slice a0 c.vars.length c0, .slice a1 c.arrays.length c1, .slice a2 c.list.length c2] 35)) (.cells #[.slice a3 m.vals.length c3, .slice a4 m.arrs.length c4] 37))) (hm.below (bal (bal (bself w) (.cells #[.slice a0 c.vars.length c0, .slice a1 c.arrays.length c1, .slice a2 c.list.length c2] 35)) (.cells #[.slice a3 m.vals.length c3, .slice a4 m.arrs.length c4] 37))) hl hn hp)
  clear hr hm hl hn hp
  generalize rtR c m = RT at *; generalize runE c m = RE at *; generalize runM c m = RM at *; generalize runB c m = RB at *
  go_enter Try.func30, Try.ntmps30
  go_wp2_with fail
  refine (HRUN.out).mono ?_
  rintro e w1 ⟨ux, uy, us, u, rfl, hOM, hE, hb⟩
  obtain ⟨p0, q0, p1, q1, rfl, rfl⟩ := hOM.shape
  obtain ⟨pu, qu, rfl⟩ := own_shape hE
  clear HRUN
  have hsz1 := hb.size
  simp only [World.size_alloc] at hsz1
  have bx2 : w1.cell? ⟨w.heap.size, 0, none⟩ = some (.slice a0 c.vars.length c0) := kept_cell hb (cell_al (cell_nw (by simp) (by rfl)) _)
  have bx3 : w1.cell? ⟨w.heap.size, 1, none⟩ = some (.slice a1 c.arrays.length c1) := kept_cell hb (cell_al (cell_nw (by simp) (by rfl)) _)
  have bx4 : w1.cell? ⟨w.heap.size, 2, none⟩ = some (.slice a2 c.list.length c2) := kept_cell hb (cell_al (cell_nw (by simp) (by rfl)) _)
  have bx5 : w1.cell? ⟨w.heap.size + 1, 0, none⟩ = some (.slice a3 m.vals.length c3) := kept_cell hb (cell_nw (by simp) (by rfl))
  have bx6 : w1.cell? ⟨w.heap.size + 1, 1, none⟩ = some (.slice a4 m.arrs.length c4) := kept_cell hb (cell_nw (by simp) (by rfl))
  have tot := btr (bal (bal (bself w) (.cells #[.slice a0 c.vars.length c0, .slice a1 c.arrays.length c1, .slice a2 c.list.length c2] 35)) (.cells #[.slice a3 m.vals.length c3, .slice a4 m.arrs.length c4] 37)) hb
  clear hb
  clear bx2 bx3 bx4 bx5 bx6
  have iv7 := hE.lt
  try simp only [World.size_alloc] at iv7
  cases RB with
  | false =>
    have HR := Lib.hid (HN.out rfl); clear HN HY
    have tt := (bal tot (.cells #[.slice p0 RM.vals.length q0, .slice p1 RM.arrs.length q1] 37))
    go_wp2
    exact bodyPost_ret (v := .tuple #[.int .i64 0, .bool false]) (by simp [results, Try.results30, go_sem]) rfl (by exact by rw [HR.out]; exact ⟨rfl, tt⟩)
  | true =>
    have HR := Lib.hid (HY.out rfl); clear HN HY
    go_wp2_with fail
    refine (iEmpty_any _).mono ?_
    rintro e w2 ⟨ve, rfl, oe, hb⟩
    obtain ⟨pe, qe, rfl⟩ := own_shape oe
    have hsz8 := hb.size
    simp only [World.size_alloc] at hsz8
    replace hE := own_below (own_below hE (bal (bself _) (.cells #[.slice p0 RM.vals.length q0, .slice p1 RM.arrs.length q1] 37))) hb
    have bx9 : w2.cell? ⟨w1.heap.size, 0, none⟩ = some (.slice p0 RM.vals.length q0) := kept_cell hb (cell_nw (by simp) (by rfl))
    have bf10 : w2.frozen? ⟨w1.heap.size, 0, none⟩ = false := kept_froz hb (by simp) (froz_nw (by simp))
    have bx11 : w2.cell? ⟨w1.heap.size, 1, none⟩ = some (.slice p1 RM.arrs.length q1) := kept_cell hb (cell_nw (by simp) (by rfl))
    have bf12 : w2.frozen? ⟨w1.heap.size, 1, none⟩ = false := kept_froz hb (by simp) (froz_nw (by simp))
    replace tot := btr (bal tot (.cells #[.slice p0 RM.vals.length q0, .slice p1 RM.arrs.length q1] 37)) hb
    clear hb
    clear bx9 bf10 bx11 bf12
    have iv13 := oe.lt
    try simp only [World.size_alloc] at iv13
    go_wp2_with fail
    refine (iTraceTime_any _ _ [-1, -1] RE _ (reads_of_owns oe (by simp)) (reads_of_owns hE (by omega)) (by omega)).mono ?_
    rintro e w3 ⟨rfl, hb⟩
    have hsz14 := hb.size
    replace hE := own_below hE hb
    replace oe := own_below oe hb
    replace tot := btr tot hb
    clear hb
    have tt := tot
    go_wp2
    exact bodyPost_ret (v := .tuple #[.int .i64 (traceT [-1, -1] RE), .bool true]) (by simp [results, Try.results30, go_sem]) rfl (by exact by rw [HR.out]; exact ⟨rfl, tt⟩)

set_option maxHeartbeats 6400000 in
set_option maxRecDepth 100000 in
theorem sRunTime_any (va vb vc vx vy : Value) (c : Cd) (m : Mm) (w : World) (hr : ReadsC w va vb vc c) (hm : ReadsM w vx vy m) (hl : m.vals.length ≤ 1048576) (hn : m.arrs.length ≤ 1048576) (hp : pre2 m.arrs m.arrs.length ≤ 1048576) :
    Calls Try.prog 29 #[.agg #[va, vb, vc], .agg #[vx, vy]] w fun e w' => e = .returned (.tuple #[.int .i64 (rtR c m).1, .bool (rtR c m).2]) ∧ Below w.heap.size w w' := by
  obtain ⟨a0, c0, a1, c1, a2, c2, rfl, rfl, rfl⟩ := hr.shape
  obtain ⟨a3, c3, a4, c4, rfl, rfl⟩ := hm.shape
  have hlen := runE_len c m; have HY := Lib.hid (fun h => rt_yes (c := c) (m := m) h); have HN := Lib.hid (fun h => rt_no (c := c) (m := m) h)
  have HRUN := Lib.hid (sRunCode_any _ _ _ _ _ c m _ (hr.below (bal (bal (bself w) (.cells #[.slice a0 c.vars.length c0, .slice a1 c.arrays.length c1, .slice a2 c.list.length c2] 35)) (.cells #[.slice a3 m.vals.length c3, .slice a4 m.arrs.length c4] 37))) (hm.below (bal (bal (bself w) (.cells #[.slice a0 c.vars.length c0, .slice a1 c.arrays.length c1, .slice a2 c.list.length c2] 35)) (.cells #[.slice a3 m.vals.length c3, .slice a4 m.arrs.length c4] 37))) hl hn hp)
  clear hr hm hl hn hp
  generalize rtR c m = RT at *; generalize runE c m = RE at *; generalize runM c m = RM at *; generalize runB c m = RB at *
  go_enter Try.func29, Try.ntmps29
  go_wp2_with fail
  refine (HRUN.out).mono ?_
  rintro e w1 ⟨ux, uy, us, u, rfl, hOM, hE, hb⟩
  obtain ⟨p0, q0, p1, q1, rfl, rfl⟩ := hOM.shape
  obtain ⟨pu, qu, rfl⟩ := own_shape hE
  clear HRUN
  have hsz1 := hb.size
  simp only [World.size_alloc] at hsz1
  have bx2 : w1.cell? ⟨w.heap.size, 0, none⟩ = some (.slice a0 c.vars.length c0) := kept_cell hb (cell_al (cell_nw (by simp) (by rfl)) _)
  have bx3 : w1.cell? ⟨w.heap.size, 1, none⟩ = some (.slice a1 c.arrays.length c1) := kept_cell hb (cell_al (cell_nw (by simp) (by rfl)) _)
  have bx4 : w1.cell? ⟨w.heap.size, 2, none⟩ = some (.slice a2 c.list.length c2) := kept_cell hb (cell_al (cell_nw (by simp) (by rfl)) _)
  have bx5 : w1.cell? ⟨w.heap.size + 1, 0, none⟩ = some (.slice a3 m.vals.length c3) := kept_cell hb (cell_nw (by simp) (by rfl))
  have bx6 : w1.cell? ⟨w.heap.size + 1, 1, none⟩ = some (.slice a4 m.arrs.length c4) := kept_cell hb (cell_nw (by simp) (by rfl))
  have tot := btr (bal (bal (bself w) (.cells #[.slice a0 c.vars.length c0, .slice a1 c.arrays.length c1, .slice a2 c.list.length c2] 35)) (.cells #[.slice a3 m.vals.length c3, .slice a4 m.arrs.length c4] 37)) hb
  clear hb
  clear bx2 bx3 bx4 bx5 bx6
  have iv7 := hE.lt
  try simp only [World.size_alloc] at iv7
  cases RB with
  | false =>
    have HR := Lib.hid (HN.out rfl); clear HN HY
    have tt := (bal tot (.cells #[.slice p0 RM.vals.length q0, .slice p1 RM.arrs.length q1] 37))
    go_wp2
    exact bodyPost_ret (v := .tuple #[.int .i64 0, .bool false]) (by simp [results, Try.results29, go_sem]) rfl (by exact by rw [HR.out]; exact ⟨rfl, tt⟩)
  | true =>
    have HR := Lib.hid (HY.out rfl); clear HN HY
    go_wp2_with fail
    refine (sEmpty_any _).mono ?_
    rintro e w2 ⟨ve, rfl, oe, hb⟩
    obtain ⟨pe, qe, rfl⟩ := own_shape oe
    have hsz8 := hb.size
    simp only [World.size_alloc] at hsz8
    replace hE := own_below (own_below hE (bal (bself _) (.cells #[.slice p0 RM.vals.length q0, .slice p1 RM.arrs.length q1] 37))) hb
    have bx9 : w2.cell? ⟨w1.heap.size, 0, none⟩ = some (.slice p0 RM.vals.length q0) := kept_cell hb (cell_nw (by simp) (by rfl))
    have bf10 : w2.frozen? ⟨w1.heap.size, 0, none⟩ = false := kept_froz hb (by simp) (froz_nw (by simp))
    have bx11 : w2.cell? ⟨w1.heap.size, 1, none⟩ = some (.slice p1 RM.arrs.length q1) := kept_cell hb (cell_nw (by simp) (by rfl))
    have bf12 : w2.frozen? ⟨w1.heap.size, 1, none⟩ = false := kept_froz hb (by simp) (froz_nw (by simp))
    replace tot := btr (bal tot (.cells #[.slice p0 RM.vals.length q0, .slice p1 RM.arrs.length q1] 37)) hb
    clear hb
    clear bx9 bf10 bx11 bf12
    have iv13 := oe.lt
    try simp only [World.size_alloc] at iv13
    go_wp2_with fail
    refine (sTraceTime_any _ _ [-1, -1] RE _ (reads_of_owns oe (by simp)) (reads_of_owns hE (by omega)) (by omega)).mono ?_
    rintro e w3 ⟨rfl, hb⟩
    have hsz14 := hb.size
    replace hE := own_below hE hb
    replace oe := own_below oe hb
    replace tot := btr tot hb
    clear hb
    have tt := tot
    go_wp2
    exact bodyPost_ret (v := .tuple #[.int .i64 (traceT [-1, -1] RE), .bool true]) (by simp [results, Try.results29, go_sem]) rfl (by exact by rw [HR.out]; exact ⟨rfl, tt⟩)
end Go.Proofs.Ytbglogjamfdmpaa
