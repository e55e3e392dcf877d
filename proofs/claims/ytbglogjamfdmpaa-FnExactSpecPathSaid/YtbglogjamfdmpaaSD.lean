/-
  Parts of the proof of the law FnExactSpecPath.
-/
import Derived.Test.YtbglogjamfdmpaaSC
namespace Go.Proofs.Ytbglogjamfdmpaa
open Go.RowKit

def spathR (c : Cd) (s : Ms) : List Ev × Bool := if mvOk c s = true then (pathE c s, true) else ([], false)
theorem spath_no {c : Cd} {s : Ms} (h : mvOk c s = false) : spathR c s = ([], false) := by unfold spathR; rw [h]; rfl
theorem spath_yes {c : Cd} {s : Ms} (h : mvOk c s = true) : spathR c s = (pathE c s, true) := by unfold spathR; rw [h]; rfl
theorem spathR_len (c : Cd) (s : Ms) : (spathR c s).1.length ≤ 8 := by
  cases h : mvOk c s with
  | false => rw [spath_no h]; simp
  | true => rw [spath_yes h]; exact pathE_len c s

set_option maxHeartbeats 6400000 in
set_option maxRecDepth 100000 in
theorem iSpecPath_any (va vb vc vr vx vy : Value) (c : Cd) (s : Ms) (w : World) (hr : ReadsC w va vb vc c) (hs : ReadsS w vr vx vy s) (h0 : s.regs.length ≤ 1048576) (hl : s.mem.vals.length ≤ 1048576) (hn : s.mem.arrs.length ≤ 1048576) (hp : pre2 s.mem.arrs s.mem.arrs.length ≤ 1048576) :
    Calls Try.prog 22 #[.agg #[va, vb, vc], .agg #[.int .i64 s.pc, vr, vx, vy]] w fun e w' => ∃ u, e = .returned (.tuple #[u, .bool (spathR c s).2]) ∧ w'.ownsRow w.heap.size 89 2 u (spathR c s).1.length (evs (spathR c s).1) ∧ Below w.heap.size w w' := by
  have ivr := hr.lt
  obtain ⟨a0, c0, a1, c1, a2, c2, rfl, rfl, rfl⟩ := hr.shape
  obtain ⟨a5, c5, rfl⟩ := reads_shape hs.r
  obtain ⟨a3, c3, a4, c4, rfl, rfl⟩ := hs.m.shape
  have HR := Lib.hid (fun W (hW : Below w.heap.size w W) => hr.below hW); have HS := Lib.hid (fun W (hW : Below w.heap.size w W) => hs.below hW)
  have HMV := Lib.hid (fun W (hW : Below w.heap.size w W) => iMValid_any _ _ _ _ _ _ c s W (HR.out W hW) (HS.out W hW))
  have HOK := Lib.hid (fun h => mvOk_ok (c := c) (s := s) h)
  have HSN := Lib.hid (fun h => spath_no (c := c) (s := s) h); have HSY := Lib.hid (fun h => spath_yes (c := c) (s := s) h)
  have HB0 := Lib.hid h0; have HBL := Lib.hid hl; have HBN := Lib.hid hn; have HBP := Lib.hid hp
  clear hr hs h0 hl hn hp
  generalize spathR c s = R at *
  cases hv : mvOk c s with
  | false =>
    have HRR := Lib.hid (HSN.out hv)
    have HMV2 := Lib.hid (fun W hW => by have h := HMV.out W hW; rw [hv] at h; exact h)
    clear HMV HOK HSN HSY hv
    go_enter Try.func22, Try.ntmps22
    go_wp2_with fail
    refine (HMV2.out _ (bal (bal (bself w) (.cells #[.slice a0 c.vars.length c0, .slice a1 c.arrays.length c1, .slice a2 c.list.length c2] 35)) (.cells #[.int .i64 s.pc, .slice a5 s.regs.length c5, .slice a3 s.mem.vals.length c3, .slice a4 s.mem.arrs.length c4] 49))).mono ?_
    rintro e w1 ⟨rfl, hb⟩
    have hsz1 := hb.size
    simp only [World.size_alloc] at hsz1
    have bx2 : w1.cell? ⟨w.heap.size, 0, none⟩ = some (.slice a0 c.vars.length c0) := kept_cell hb (cell_al (cell_nw (by simp) (by rfl)) _)
    have bx3 : w1.cell? ⟨w.heap.size, 1, none⟩ = some (.slice a1 c.arrays.length c1) := kept_cell hb (cell_al (cell_nw (by simp) (by rfl)) _)
    have bx4 : w1.cell? ⟨w.heap.size, 2, none⟩ = some (.slice a2 c.list.length c2) := kept_cell hb (cell_al (cell_nw (by simp) (by rfl)) _)
    have bx5 : w1.cell? ⟨w.heap.size + 1, 0, none⟩ = some (.int .i64 s.pc) := kept_cell hb (cell_nw (by simp) (by rfl))
    have bx6 : w1.cell? ⟨w.heap.size + 1, 1, none⟩ = some (.slice a5 s.regs.length c5) := kept_cell hb (cell_nw (by simp) (by rfl))
    have bx7 : w1.cell? ⟨w.heap.size + 1, 2, none⟩ = some (.slice a3 s.mem.vals.length c3) := kept_cell hb (cell_nw (by simp) (by rfl))
    have bx8 : w1.cell? ⟨w.heap.size + 1, 3, none⟩ = some (.slice a4 s.mem.arrs.length c4) := kept_cell hb (cell_nw (by simp) (by rfl))
    have tot := btr (bal (bal (bself w) (.cells #[.slice a0 c.vars.length c0, .slice a1 c.arrays.length c1, .slice a2 c.list.length c2] 35)) (.cells #[.int .i64 s.pc, .slice a5 s.regs.length c5, .slice a3 s.mem.vals.length c3, .slice a4 s.mem.arrs.length c4] 49)) hb
    clear hb
    have lt9 := lt_of_cell bx2
    have lt10 := lt_of_cell bx5
    have tt := tot
    go_wp2
    exact bodyPost_ret (v := .tuple #[.slice none 0 0, .bool false]) (by simp [results, Try.results22, go_sem]) rfl (by exact by rw [HRR.out]; exact ⟨_, rfl, World.ownsRow_nil _ _ _ _, tt⟩)
  | true =>
    have HRR := Lib.hid (HSY.out hv)
    have HMV2 := Lib.hid (fun W hW => by have h := HMV.out W hW; rw [hv] at h; exact h)
    have HK := Lib.hid (HOK.out hv)
    clear HMV HOK HSN HSY hv
    go_enter Try.func22, Try.ntmps22
    go_wp2_with fail
    refine (HMV2.out _ (bal (bal (bself w) (.cells #[.slice a0 c.vars.length c0, .slice a1 c.arrays.length c1, .slice a2 c.list.length c2] 35)) (.cells #[.int .i64 s.pc, .slice a5 s.regs.length c5, .slice a3 s.mem.vals.length c3, .slice a4 s.mem.arrs.length c4] 49))).mono ?_
    rintro e w1 ⟨rfl, hb⟩
    have hsz11 := hb.size
    simp only [World.size_alloc] at hsz11
    have bx12 : w1.cell? ⟨w.heap.size, 0, none⟩ = some (.slice a0 c.vars.length c0) := kept_cell hb (cell_al (cell_nw (by simp) (by rfl)) _)
    have bx13 : w1.cell? ⟨w.heap.size, 1, none⟩ = some (.slice a1 c.arrays.length c1) := kept_cell hb (cell_al (cell_nw (by simp) (by rfl)) _)
    have bx14 : w1.cell? ⟨w.heap.size, 2, none⟩ = some (.slice a2 c.list.length c2) := kept_cell hb (cell_al (cell_nw (by simp) (by rfl)) _)
    have bx15 : w1.cell? ⟨w.heap.size + 1, 0, none⟩ = some (.int .i64 s.pc) := kept_cell hb (cell_nw (by simp) (by rfl))
    have bx16 : w1.cell? ⟨w.heap.size + 1, 1, none⟩ = some (.slice a5 s.regs.length c5) := kept_cell hb (cell_nw (by simp) (by rfl))
    have bx17 : w1.cell? ⟨w.heap.size + 1, 2, none⟩ = some (.slice a3 s.mem.vals.length c3) := kept_cell hb (cell_nw (by simp) (by rfl))
    have bx18 : w1.cell? ⟨w.heap.size + 1, 3, none⟩ = some (.slice a4 s.mem.arrs.length c4) := kept_cell hb (cell_nw (by simp) (by rfl))
    have tot := btr (bal (bal (bself w) (.cells #[.slice a0 c.vars.length c0, .slice a1 c.arrays.length c1, .slice a2 c.list.length c2] 35)) (.cells #[.int .i64 s.pc, .slice a5 s.regs.length c5, .slice a3 s.mem.vals.length c3, .slice a4 s.mem.arrs.length c4] 49)) hb
    clear hb
    have lt19 := lt_of_cell bx12
    have lt20 := lt_of_cell bx15
    go_wp2_with fail
    refine (iPath_any _ _ _ _ _ _ c s _ (HR.out _ tot) (HS.out _ tot) HB0.out HBL.out HBN.out HBP.out HK.out.2 HK.out.1).mono ?_
    rintro e w2 ⟨u, rfl, oU, hb⟩
    obtain ⟨pu, tu, rfl⟩ := own_shape oU
    have hsz21 := hb.size
    replace bx12 : w2.cell? ⟨w.heap.size, 0, none⟩ = some (.slice a0 c.vars.length c0) := kept_cell hb bx12
    replace bx13 : w2.cell? ⟨w.heap.size, 1, none⟩ = some (.slice a1 c.arrays.length c1) := kept_cell hb bx13
    replace bx14 : w2.cell? ⟨w.heap.size, 2, none⟩ = some (.slice a2 c.list.length c2) := kept_cell hb bx14
    replace bx15 : w2.cell? ⟨w.heap.size + 1, 0, none⟩ = some (.int .i64 s.pc) := kept_cell hb bx15
    replace bx16 : w2.cell? ⟨w.heap.size + 1, 1, none⟩ = some (.slice a5 s.regs.length c5) := kept_cell hb bx16
    replace bx17 : w2.cell? ⟨w.heap.size + 1, 2, none⟩ = some (.slice a3 s.mem.vals.length c3) := kept_cell hb bx17
    replace bx18 : w2.cell? ⟨w.heap.size + 1, 3, none⟩ = some (.slice a4 s.mem.arrs.length c4) := kept_cell hb bx18
    replace tot := btr tot hb
    clear hb
    clear bx12 bx13 bx14 bx15 bx16 bx17 bx18
    clear lt19 lt20
    have iv22 := oU.lt
    have tt := tot
    go_wp2
    exact bodyPost_ret (v := .tuple #[.slice pu ((pathE c s).length) tu, .bool true]) (by simp [results, Try.results22, go_sem]) rfl (by exact by rw [HRR.out]; exact ⟨_, rfl, own_mono oU (by omega), tt⟩)
set_option maxHeartbeats 6400000 in
set_option maxRecDepth 100000 in
theorem sSpecPath_any (va vb vc vr vx vy : Value) (c : Cd) (s : Ms) (w : World) (hr : ReadsC w va vb vc c) (hs : ReadsS w vr vx vy s) (h0 : s.regs.length ≤ 1048576) (hl : s.mem.vals.length ≤ 1048576) (hn : s.mem.arrs.length ≤ 1048576) (hp : pre2 s.mem.arrs s.mem.arrs.length ≤ 1048576) :
    Calls Try.prog 20 #[.agg #[va, vb, vc], .agg #[.int .i64 s.pc, vr, vx, vy]] w fun e w' => ∃ u, e = .returned (.tuple #[u, .bool (spathR c s).2]) ∧ w'.ownsRow w.heap.size 89 2 u (spathR c s).1.length (evs (spathR c s).1) ∧ Below w.heap.size w w' := by
  have ivr := hr.lt
  obtain ⟨a0, c0, a1, c1, a2, c2, rfl, rfl, rfl⟩ := hr.shape
  obtain ⟨a5, c5, rfl⟩ := reads_shape hs.r
  obtain ⟨a3, c3, a4, c4, rfl, rfl⟩ := hs.m.shape
  have HR := Lib.hid (fun W (hW : Below w.heap.size w W) => hr.below hW); have HS := Lib.hid (fun W (hW : Below w.heap.size w W) => hs.below hW)
  have HMV := Lib.hid (fun W (hW : Below w.heap.size w W) => sMValid_any _ _ _ _ _ _ c s W (HR.out W hW) (HS.out W hW))
  have HOK := Lib.hid (fun h => mvOk_ok (c := c) (s := s) h)
  have HSN := Lib.hid (fun h => spath_no (c := c) (s := s) h); have HSY := Lib.hid (fun h => spath_yes (c := c) (s := s) h)
  have HB0 := Lib.hid h0; have HBL := Lib.hid hl; have HBN := Lib.hid hn; have HBP := Lib.hid hp
  clear hr hs h0 hl hn hp
  generalize spathR c s = R at *
  cases hv : mvOk c s with
  | false =>
    have HRR := Lib.hid (HSN.out hv)
    have HMV2 := Lib.hid (fun W hW => by have h := HMV.out W hW; rw [hv] at h; exact h)
    clear HMV HOK HSN HSY hv
    go_enter Try.func20, Try.ntmps20
    go_wp2_with fail
    refine (HMV2.out _ (bal (bal (bself w) (.cells #[.slice a0 c.vars.length c0, .slice a1 c.arrays.length c1, .slice a2 c.list.length c2] 35)) (.cells #[.int .i64 s.pc, .slice a5 s.regs.length c5, .slice a3 s.mem.vals.length c3, .slice a4 s.mem.arrs.length c4] 49))).mono ?_
    rintro e w1 ⟨rfl, hb⟩
    have hsz1 := hb.size
    simp only [World.size_alloc] at hsz1
    have bx2 : w1.cell? ⟨w.heap.size, 0, none⟩ = some (.slice a0 c.vars.length c0) := kept_cell hb (cell_al (cell_nw (by simp) (by rfl)) _)
    have bx3 : w1.cell? ⟨w.heap.size, 1, none⟩ = some (.slice a1 c.arrays.length c1) := kept_cell hb (cell_al (cell_nw (by simp) (by rfl)) _)
    have bx4 : w1.cell? ⟨w.heap.size, 2, none⟩ = some (.slice a2 c.list.length c2) := kept_cell hb (cell_al (cell_nw (by simp) (by rfl)) _)
    have bx5 : w1.cell? ⟨w.heap.size + 1, 0, none⟩ = some (.int .i64 s.pc) := kept_cell hb (cell_nw (by simp) (by rfl))
    have bx6 : w1.cell? ⟨w.heap.size + 1, 1, none⟩ = some (.slice a5 s.regs.length c5) := kept_cell hb (cell_nw (by simp) (by rfl))
    have bx7 : w1.cell? ⟨w.heap.size + 1, 2, none⟩ = some (.slice a3 s.mem.vals.length c3) := kept_cell hb (cell_nw (by simp) (by rfl))
    have bx8 : w1.cell? ⟨w.heap.size + 1, 3, none⟩ = some (.slice a4 s.mem.arrs.length c4) := kept_cell hb (cell_nw (by simp) (by rfl))
    have tot := btr (bal (bal (bself w) (.cells #[.slice a0 c.vars.length c0, .slice a1 c.arrays.length c1, .slice a2 c.list.length c2] 35)) (.cells #[.int .i64 s.pc, .slice a5 s.regs.length c5, .slice a3 s.mem.vals.length c3, .slice a4 s.mem.arrs.length c4] 49)) hb
    clear hb
    have lt9 := lt_of_cell bx2
    have lt10 := lt_of_cell bx5
    have ef := (World.ownsRow_lit (base := (w1).heap.size) (e := 89) (size := 2) (w1) #[] 0 (Nat.le_refl _) (by unfold maxLen; omega) (by simp))
    try simp only [World.size_alloc, World.size_setCell] at ef
    have tt := (bal tot (.cells #[] 89))
    go_wp2
    exact bodyPost_ret (v := .tuple #[.slice (some ⟨w1.heap.size, 0, none⟩) 0 0, .bool false]) (by simp [results, Try.results20, go_sem]) rfl (by exact by rw [HRR.out]; exact ⟨_, rfl, own_mono ef (by omega), tt⟩)
  | true =>
    have HRR := Lib.hid (HSY.out hv)
    have HMV2 := Lib.hid (fun W hW => by have h := HMV.out W hW; rw [hv] at h; exact h)
    have HK := Lib.hid (HOK.out hv)
    clear HMV HOK HSN HSY hv
    go_enter Try.func20, Try.ntmps20
    go_wp2_with fail
    refine (HMV2.out _ (bal (bal (bself w) (.cells #[.slice a0 c.vars.length c0, .slice a1 c.arrays.length c1, .slice a2 c.list.length c2] 35)) (.cells #[.int .i64 s.pc, .slice a5 s.regs.length c5, .slice a3 s.mem.vals.length c3, .slice a4 s.mem.arrs.length c4] 49))).mono ?_
    rintro e w1 ⟨rfl, hb⟩
    have hsz12 := hb.size
    simp only [World.size_alloc] at hsz12
    have bx13 : w1.cell? ⟨w.heap.size, 0, none⟩ = some (.slice a0 c.vars.length c0) := kept_cell hb (cell_al (cell_nw (by simp) (by rfl)) _)
    have bx14 : w1.cell? ⟨w.heap.size, 1, none⟩ = some (.slice a1 c.arrays.length c1) := kept_cell hb (cell_al (cell_nw (by simp) (by rfl)) _)
    have bx15 : w1.cell? ⟨w.heap.size, 2, none⟩ = some (.slice a2 c.list.length c2) := kept_cell hb (cell_al (cell_nw (by simp) (by rfl)) _)
    have bx16 : w1.cell? ⟨w.heap.size + 1, 0, none⟩ = some (.int .i64 s.pc) := kept_cell hb (cell_nw (by simp) (by rfl))
    have bx17 : w1.cell? ⟨w.heap.size + 1, 1, none⟩ = some (.slice a5 s.regs.length c5) := kept_cell hb (cell_nw (by simp) (by rfl))
    have bx18 : w1.cell? ⟨w.heap.size + 1, 2, none⟩ = some (.slice a3 s.mem.vals.length c3) := kept_cell hb (cell_nw (by simp) (by rfl))
    have bx19 : w1.cell? ⟨w.heap.size + 1, 3, none⟩ = some (.slice a4 s.mem.arrs.length c4) := kept_cell hb (cell_nw (by simp) (by rfl))
    have tot := btr (bal (bal (bself w) (.cells #[.slice a0 c.vars.length c0, .slice a1 c.arrays.length c1, .slice a2 c.list.length c2] 35)) (.cells #[.int .i64 s.pc, .slice a5 s.regs.length c5, .slice a3 s.mem.vals.length c3, .slice a4 s.mem.arrs.length c4] 49)) hb
    clear hb
    have lt20 := lt_of_cell bx13
    have lt21 := lt_of_cell bx16
    go_upto_region 3 with (fail)
    clear lt20 lt21
    have lt22 := lt_of_cell bx13
    have lt23 := lt_of_cell bx16
    refine wp_region_noPanic ?_
    refine wp_region_held_drew (S := (fun W' => W'.cell? ⟨w.heap.size, 0, none⟩ = some (.slice a0 c.vars.length c0) ∧ W'.cell? ⟨w.heap.size, 1, none⟩ = some (.slice a1 c.arrays.length c1) ∧ W'.cell? ⟨w.heap.size, 2, none⟩ = some (.slice a2 c.list.length c2) ∧ W'.cell? ⟨w.heap.size + 1, 0, none⟩ = some (.int .i64 s.pc) ∧ W'.cell? ⟨w.heap.size + 1, 1, none⟩ = some (.slice a5 s.regs.length c5) ∧ W'.cell? ⟨w.heap.size + 1, 2, none⟩ = some (.slice a3 s.mem.vals.length c3) ∧ W'.cell? ⟨w.heap.size + 1, 3, none⟩ = some (.slice a4 s.mem.arrs.length c4))) (by kernel_rfl) ⟨kept_cell (Below.drew (bself w1)) bx13, kept_cell (Below.drew (bself w1)) bx14, kept_cell (Below.drew (bself w1)) bx15, kept_cell (Below.drew (bself w1)) bx16, kept_cell (Below.drew (bself w1)) bx17, kept_cell (Below.drew (bself w1)) bx18, kept_cell (Below.drew (bself w1)) bx19⟩ (fun hHeld => ?_)
    obtain ⟨w2, hwd⟩ : ∃ X, X = World.drew w1 := ⟨_, rfl⟩
    rw [← hwd] at hHeld ⊢
    have hb : Below w1.heap.size w1 w2 := by rw [hwd]; exact Below.drew (bself _)
    clear hwd
    have hsz24 := hb.size
    replace bx13 : w2.cell? ⟨w.heap.size, 0, none⟩ = some (.slice a0 c.vars.length c0) := kept_cell hb bx13
    replace bx14 : w2.cell? ⟨w.heap.size, 1, none⟩ = some (.slice a1 c.arrays.length c1) := kept_cell hb bx14
    replace bx15 : w2.cell? ⟨w.heap.size, 2, none⟩ = some (.slice a2 c.list.length c2) := kept_cell hb bx15
    replace bx16 : w2.cell? ⟨w.heap.size + 1, 0, none⟩ = some (.int .i64 s.pc) := kept_cell hb bx16
    replace bx17 : w2.cell? ⟨w.heap.size + 1, 1, none⟩ = some (.slice a5 s.regs.length c5) := kept_cell hb bx17
    replace bx18 : w2.cell? ⟨w.heap.size + 1, 2, none⟩ = some (.slice a3 s.mem.vals.length c3) := kept_cell hb bx18
    replace bx19 : w2.cell? ⟨w.heap.size + 1, 3, none⟩ = some (.slice a4 s.mem.arrs.length c4) := kept_cell hb bx19
    replace tot := btr tot hb
    clear hb
    clear lt22 lt23
    have lt25 := lt_of_cell bx13
    have lt26 := lt_of_cell bx16
    refine take_d (i := 0) (d := 11) (v := ?_) rfl rfl (by kernel_rfl) (by kernel_rfl) (by kernel_rfl) (fun _ _ _ h => h) (Or.inl ⟨by rfl, ?_⟩) (by assumption) ?_
    rotate_left
    · intro W' hSw; (try dsimp only at hSw); obtain ⟨s0, s1, s2, s3, s4, s5, s6⟩ := hSw; go_simp; try with_reducible rfl
    try simp only [Act.put, List.setIfInBounds_toArray, List.set]
    refine take_d (i := 1) (d := 12) (v := ?_) rfl rfl (by kernel_rfl) (by kernel_rfl) (by kernel_rfl) (fun _ _ _ h => h) (Or.inl ⟨by rfl, ?_⟩) (by assumption) ?_
    rotate_left
    · intro W' hSw; (try dsimp only at hSw); obtain ⟨s0, s1, s2, s3, s4, s5, s6⟩ := hSw; go_simp; try with_reducible rfl
    try simp only [Act.put, List.setIfInBounds_toArray, List.set]
    refine wpAnyH_ready (rs := [2]) (by kernel_rfl) (by simp) ?_
    refine AllReadyH.cons rfl (fun K hK => ?_) AllReadyH.nil
    go_simp
    refine (sMOwn_any _ _ _ s _ (HS.out _ tot) HB0.out HBL.out HBN.out HBP.out).mono ?_
    rintro e w3 ⟨ur, ux, uy, us, rfl, OM, hb⟩
    obtain ⟨pr, tr, rfl⟩ := own_shape OM.r
    obtain ⟨px, tx, rfl⟩ := own_shape OM.v
    obtain ⟨py, ty, rfl⟩ := own_shape OM.a.out
    have hsz27 := hb.size
    replace bx13 : w3.cell? ⟨w.heap.size, 0, none⟩ = some (.slice a0 c.vars.length c0) := kept_cell hb bx13
    replace bx14 : w3.cell? ⟨w.heap.size, 1, none⟩ = some (.slice a1 c.arrays.length c1) := kept_cell hb bx14
    replace bx15 : w3.cell? ⟨w.heap.size, 2, none⟩ = some (.slice a2 c.list.length c2) := kept_cell hb bx15
    replace bx16 : w3.cell? ⟨w.heap.size + 1, 0, none⟩ = some (.int .i64 s.pc) := kept_cell hb bx16
    replace bx17 : w3.cell? ⟨w.heap.size + 1, 1, none⟩ = some (.slice a5 s.regs.length c5) := kept_cell hb bx17
    replace bx18 : w3.cell? ⟨w.heap.size + 1, 2, none⟩ = some (.slice a3 s.mem.vals.length c3) := kept_cell hb bx18
    replace bx19 : w3.cell? ⟨w.heap.size + 1, 3, none⟩ = some (.slice a4 s.mem.arrs.length c4) := kept_cell hb bx19
    replace tot := btr tot hb
    clear hb
    have iv28 := OM.lt
    clear lt25 lt26
    have lt29 := lt_of_cell bx13
    have lt30 := lt_of_cell bx16
    refine hK.out _ _ ⟨bx13, bx14, bx15, bx16, bx17, bx18, bx19⟩ (fun hHeld => ?_)
    clear hK K
    try simp only [Act.put, List.setIfInBounds_toArray, List.set]
    refine wpAnyH_ready (rs := [3]) (by kernel_rfl) (by simp) ?_
    refine AllReadyH.cons rfl (fun K hK => ?_) AllReadyH.nil
    go_simp
    have HSP := Lib.hid (sPath_any _ _ _ _ _ _ us w.heap.size c s (.slice none 0 0) w3.heap.size [] w3 (HR.out _ tot) (OM.mono (by omega)) (World.ownsRow_nil _ _ _ _) (fun q h => by simp [Value.ownBlock] at h) (Nat.le_refl _) (by simp) (fun q h => ⟨fun h2 => by have := ivr q h; have := iv28 q h2; omega, fun h2 => by simp [Value.ownBlock] at h2⟩) HK.out.2 HK.out.1)
    have iS : ∀ q, (OwnMB (.slice pr s.regs.length tr) (.slice px s.mem.vals.length tx) (.slice py s.mem.arrs.length ty) us q ∨ (Value.slice none 0 0).ownBlock = some q) → w.heap.size + 2 ≤ q ∧ q < w3.heap.size := fun q h => by rcases h with h | h; (have := iv28 q h; omega); (simp [Value.ownBlock] at h)
    refine (HSP.out).mono ?_
    rintro e w4 ⟨u, rfl, oU, hd, hC⟩
    obtain ⟨pu, tu, rfl⟩ := own_shape oU
    simp only [List.nil_append] at oU
    have hsz31 := hC.size
    replace bx13 : w4.cell? ⟨w.heap.size, 0, none⟩ = some (.slice a0 c.vars.length c0) := chg_cell hC bx13 (fun h => by have := iS _ h; omega)
    replace bx14 : w4.cell? ⟨w.heap.size, 1, none⟩ = some (.slice a1 c.arrays.length c1) := chg_cell hC bx14 (fun h => by have := iS _ h; omega)
    replace bx15 : w4.cell? ⟨w.heap.size, 2, none⟩ = some (.slice a2 c.list.length c2) := chg_cell hC bx15 (fun h => by have := iS _ h; omega)
    replace bx16 : w4.cell? ⟨w.heap.size + 1, 0, none⟩ = some (.int .i64 s.pc) := chg_cell hC bx16 (fun h => by have := iS _ h; omega)
    replace bx17 : w4.cell? ⟨w.heap.size + 1, 1, none⟩ = some (.slice a5 s.regs.length c5) := chg_cell hC bx17 (fun h => by have := iS _ h; omega)
    replace bx18 : w4.cell? ⟨w.heap.size + 1, 2, none⟩ = some (.slice a3 s.mem.vals.length c3) := chg_cell hC bx18 (fun h => by have := iS _ h; omega)
    replace bx19 : w4.cell? ⟨w.heap.size + 1, 3, none⟩ = some (.slice a4 s.mem.arrs.length c4) := chg_cell hC bx19 (fun h => by have := iS _ h; omega)
    replace tot := tot.trans (hC.below w.heap.size (by have := tot.size; omega) (fun gq hgq h => by have := iS gq h; omega))
    clear hC
    have iv32 := oU.lt
    clear lt29 lt30
    have lt33 := lt_of_cell bx13
    have lt34 := lt_of_cell bx16
    refine hK.out _ _ ⟨bx13, bx14, bx15, bx16, bx17, bx18, bx19⟩ (fun hHeld => ?_)
    clear hK K
    try simp only [Act.put, List.setIfInBounds_toArray, List.set]
    refine take_d (i := 4) (d := 4) (v := ?_) rfl rfl (by kernel_rfl) (by kernel_rfl) (by kernel_rfl) (fun _ _ _ h => h) (Or.inl ⟨by rfl, ?_⟩) (by assumption) ?_
    rotate_left
    · intro W' hSw; (try dsimp only at hSw); obtain ⟨s0, s1, s2, s3, s4, s5, s6⟩ := hSw; go_simp; try with_reducible rfl
    try simp only [Act.put, List.setIfInBounds_toArray, List.set]
    refine take_d (i := 5) (d := 5) (v := ?_) rfl rfl (by kernel_rfl) (by kernel_rfl) (by kernel_rfl) (fun _ _ _ h => h) (Or.inl ⟨by rfl, ?_⟩) (by assumption) ?_
    rotate_left
    · intro W' hSw; (try dsimp only at hSw); obtain ⟨s0, s1, s2, s3, s4, s5, s6⟩ := hSw; go_simp; try with_reducible rfl
    try simp only [Act.put, List.setIfInBounds_toArray, List.set]
    refine wpAnyH_done (by kernel_rfl) ?_ _
    refine NoPanic.normal ?_
    clear hHeld
    have tt := tot
    go_wp2
    exact bodyPost_ret (v := .tuple #[.slice pu ((pathE c s).length) tu, .bool true]) (by simp [results, Try.results20, go_sem]) rfl (by exact by rw [HRR.out]; exact ⟨_, rfl, own_mono oU (by omega), tt⟩)
end Go.Proofs.Ytbglogjamfdmpaa
