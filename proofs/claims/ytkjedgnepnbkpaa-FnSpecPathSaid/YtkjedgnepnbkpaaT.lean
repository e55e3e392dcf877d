/-
 Parts of the proofs of the laws FnCheckLive, FnCodeFenced, FnEraseCode, FnEraseSecret, FnFinalRegs, FnLiveRegister, FnLiveRegs, FnSpecPath.
-/
import Derived.Test.YtkjedgnepnbkpaaWBq1
import Derived.Test.YtkjedgnepnbkpaaTK
import Derived.Test.YtkjedgnepnbkpaaMB
set_option linter.all false
namespace Go.Proofs.Ytkjedgnepnbkpaa
open Go.RowKit
theorem evs_take (l : List Ev) (k : Nat) : (evs l).take (k * 2) = evs (l.take k) := by
 induction l generalizing k with
 | nil => simp [evs]
 | cons e l ih =>
  cases k with
  | zero => simp [evs]
  | succ k =>
   have e1 : (k + 1) * 2 = k * 2 + 1 + 1 := by omega
   rw [e1]; simp [evs, ih]
end Go.Proofs.Ytkjedgnepnbkpaa
namespace Go.Proofs.Ytkjedgnepnbkpaa
open Go.RowKit
theorem evN_one (c : Cd) (s : Ms) : evN c 1 s = stEvs (insAt c s.pc) s := by simp [evN, stN]
end Go.Proofs.Ytkjedgnepnbkpaa
namespace Go.Proofs.Ytkjedgnepnbkpaa
open Go.RowKit
set_option maxHeartbeats 6400000 in
set_option maxRecDepth 100000 in
theorem sMValid_any (va vb vc vr vx vy : Value) (c : Cd) (s : Ms) (w : World) (hr : ReadsC w va vb vc c) (hs : ReadsS w vr vx vy s) :
  Calls Try.prog 63 #[.agg #[va, vb, vc], .agg #[.int .i64 s.pc, vr, vx, vy]] w fun e w' => e = .returned (.bool (mvOk c s)) ∧ Below w.heap.size w w' := by
 obtain ⟨a0, c0, a1, c1, a2, c2, rfl, rfl, rfl⟩ := hr.shape
 obtain ⟨a5, c5, rfl⟩ := reads_shape hs.r
 obtain ⟨a3, c3, a4, c4, rfl, rfl⟩ := hs.m.shape
 have n0 := hr.a.2.1; have n1 := hr.b.2.1; have n2 := hr.l.2.1; have n5 := hs.r.2.1
 have HR := Lib.hid (fun W (hW : Below w.heap.size w W) => hr.below hW); have HS := Lib.hid (fun W (hW : Below w.heap.size w W) => hs.below hW)
 have HQ : Hid (mvOk c s = (codeOk c && (wi s.pc 0 ((c.list.length : Int) - 1) && (decide (s.regs.length = 14) && (valsOk s.regs && memOk c.vars.length c.arrays.length s.mem))))) := Lib.hid rfl
 clear hr hs
 generalize mvOk c s = G at *
 have w0 : wi s.pc 0 ((c.list.length : Int) - 1) = (decide (0 ≤ s.pc) && decide (s.pc < (c.list.length : Int))) := by unfold wi; rw [← Bool.decide_and]; exact decide_eq_decide.2 ⟨fun h => ⟨h.1, by omega⟩, fun h => ⟨h.1, by omega⟩⟩
 have p0 : Hid (G = (codeOk c && (decide (0 ≤ s.pc) && (decide (s.pc < (c.list.length : Int)) && (decide (s.regs.length = 14) && (valsOk s.regs && memOk c.vars.length c.arrays.length s.mem)))))) := Lib.hid (by rw [HQ.out, w0, Bool.and_assoc])
 clear w0 HQ
 have HQ := p0; clear p0
 have z0 := Lib.hid (fun W (hW : Below w.heap.size w W) => sCodeValid_any _ _ _ c W (HR.out W hW))
 have y0 := Lib.hid (fun W (hW : Below w.heap.size w W) => l3Values_any _ s.regs W (HS.out W hW).r)
 have b1 := Lib.hid (fun W (hW : Below w.heap.size w W) => l3Fits_any a0 a1 c.vars.length c.arrays.length c0 c1 _ _ s.mem W n0 n1 (HS.out W hW).m.x (HS.out W hW).m.y)
 go_enter Try.func63, Try.ntmps63
 go_upto_region 1 with (fail)
 obtain ⟨w1, q0, hb⟩ := nmw (World.alloc (World.alloc w (.cells #[.slice a0 c.vars.length c0, .slice a1 c.arrays.length c1, .slice a2 c.list.length c2] 26)) (.cells #[.int .i64 s.pc, .slice a5 s.regs.length c5, .slice a3 s.mem.vals.length c3, .slice a4 s.mem.arrs.length c4] 39))
 have m0 := hb.size
 simp only [Sa] at m0
 have d0 : w1.cell? ⟨w.heap.size, 0, none⟩ = some (.slice a0 c.vars.length c0) := Kc hb (Ac (Wc (by simp) (by rfl)) _)
 have f0 : w1.cell? ⟨w.heap.size, 1, none⟩ = some (.slice a1 c.arrays.length c1) := Kc hb (Ac (Wc (by simp) (by rfl)) _)
 have g0 : w1.cell? ⟨w.heap.size, 2, none⟩ = some (.slice a2 c.list.length c2) := Kc hb (Ac (Wc (by simp) (by rfl)) _)
 have e0 : w1.cell? ⟨w.heap.size + 1, 0, none⟩ = some (.int .i64 s.pc) := Kc hb (Wc (by simp) (by rfl))
 have i0 : w1.cell? ⟨w.heap.size + 1, 1, none⟩ = some (.slice a5 s.regs.length c5) := Kc hb (Wc (by simp) (by rfl))
 have j0 : w1.cell? ⟨w.heap.size + 1, 2, none⟩ = some (.slice a3 s.mem.vals.length c3) := Kc hb (Wc (by simp) (by rfl))
 have k0 : w1.cell? ⟨w.heap.size + 1, 3, none⟩ = some (.slice a4 s.mem.arrs.length c4) := Kc hb (Wc (by simp) (by rfl))
 have b0 := btr (bal (bal (Bs w) (.cells #[.slice a0 c.vars.length c0, .slice a1 c.arrays.length c1, .slice a2 c.list.length c2] 26)) (.cells #[.int .i64 s.pc, .slice a5 s.regs.length c5, .slice a3 s.mem.vals.length c3, .slice a4 s.mem.arrs.length c4] 39)) hb
 clear hb
 rw [← q0]
 clear q0
 have e1 := Lc d0
 have d1 := Lc e0
 refine wp_region_noPanic ?_
 refine wp_region_held_drew (S := (fun W' => W'.cell? ⟨w.heap.size, 0, none⟩ = some (.slice a0 c.vars.length c0) ∧ W'.cell? ⟨w.heap.size, 1, none⟩ = some (.slice a1 c.arrays.length c1) ∧ W'.cell? ⟨w.heap.size, 2, none⟩ = some (.slice a2 c.list.length c2) ∧ W'.cell? ⟨w.heap.size + 1, 0, none⟩ = some (.int .i64 s.pc) ∧ W'.cell? ⟨w.heap.size + 1, 1, none⟩ = some (.slice a5 s.regs.length c5) ∧ W'.cell? ⟨w.heap.size + 1, 2, none⟩ = some (.slice a3 s.mem.vals.length c3) ∧ W'.cell? ⟨w.heap.size + 1, 3, none⟩ = some (.slice a4 s.mem.arrs.length c4))) (by kernel_rfl) ⟨Kc (Below.drew (Bs w1)) d0, Kc (Below.drew (Bs w1)) f0, Kc (Below.drew (Bs w1)) g0, Kc (Below.drew (Bs w1)) e0, Kc (Below.drew (Bs w1)) i0, Kc (Below.drew (Bs w1)) j0, Kc (Below.drew (Bs w1)) k0⟩ (fun hHeld => ?_)
 obtain ⟨w2, o0⟩ : ∃ X, X = World.drew w1 := ⟨_, rfl⟩
 rw [← o0] at hHeld ⊢
 have hb : Below w1.heap.size w1 w2 := by rw [o0]; exact Below.drew (Bs _)
 clear o0
 have r0 := hb.size
 replace d0 := Kc hb d0
 replace f0 := Kc hb f0
 replace g0 := Kc hb g0
 replace e0 := Kc hb e0
 replace i0 := Kc hb i0
 replace j0 := Kc hb j0
 replace k0 := Kc hb k0
 replace b0 := btr b0 hb
 clear hb
 refine (tq 0 5 rfl rfl ?_ ?_ ?_)
 (rotate_left; intro W' hSw; (try dsimp only at hSw); go_simp; try with_reducible rfl)
 try simp only [Ep]
 refine Rdy 1 rfl (fun K hK => ?_)
 go_simp
 refine (z0.out _ b0).mono ?_
 rintro e w3 ⟨rfl, hb⟩
 have s0 := hb.size
 replace d0 := Kc hb d0
 replace f0 := Kc hb f0
 replace g0 := Kc hb g0
 replace e0 := Kc hb e0
 replace i0 := Kc hb i0
 replace j0 := Kc hb j0
 replace k0 := Kc hb k0
 replace b0 := btr b0 hb
 clear hb
 cases h0 : codeOk c with
 | false =>
  have HG : Hid (G = false) := Lib.hid (by rw [HQ.out, h0]; rfl)
  have Z0 := Lib.hid h0; clear h0
  refine hK.out _ _ ⟨d0, f0, g0, e0, i0, j0, k0⟩ (fun hHeld => ?_)
  clear hK K
  try simp only [Ep]
  refine (tq 2 7 rfl rfl ?_ ?_ ?_)
  (rotate_left; intro W' hSw; (try dsimp only at hSw); go_simp; try with_reducible rfl)
  try simp only [Ep]
  refine (tu 3 8 rfl rfl (tu 4 9 rfl rfl (tu 5 10 rfl rfl (tq 6 11 rfl rfl ?_ ?_ (tq 7 12 rfl rfl ?_ ?_ ?_)))))
  iterate 2 (rotate_left; intro W' hSw; (try dsimp only at hSw); go_simp; try with_reducible rfl)
  try simp only [Ep]
  refine (tu 8 13 rfl rfl (tu 9 14 rfl rfl (tu 10 15 rfl rfl (tu 11 16 rfl rfl (tu 12 17 rfl rfl (tu 13 18 rfl rfl (tq 14 19 rfl rfl ?_ ?_ (tq 15 20 rfl rfl ?_ ?_ ?_))))))))
  iterate 2 (rotate_left; intro W' hSw; (try dsimp only at hSw); go_simp; try with_reducible rfl)
  try simp only [Ep]
  refine (tu 16 21 rfl rfl (tu 17 22 rfl rfl (tu 18 23 rfl rfl (tu 19 24 rfl rfl (tq 20 25 rfl rfl ?_ ?_ (tq 21 26 rfl rfl ?_ ?_ ?_))))))
  iterate 2 (rotate_left; intro W' hSw; (try dsimp only at hSw); go_simp; try with_reducible rfl)
  try simp only [Ep]
  refine (tu 22 27 rfl rfl (tu 23 28 rfl rfl (tu 24 29 rfl rfl (tq 25 30 rfl rfl ?_ ?_ (tq 26 31 rfl rfl ?_ ?_ ?_)))))
  iterate 2 (rotate_left; intro W' hSw; (try dsimp only at hSw); go_simp; try with_reducible rfl)
  try simp only [Ep]
  refine (tu 27 32 rfl rfl (tu 28 33 rfl rfl (tu 29 34 rfl rfl (tu 30 35 rfl rfl (tu 31 36 rfl rfl (tq 32 37 rfl rfl ?_ ?_ (tq 33 4 rfl rfl ?_ ?_ ?_)))))))
  iterate 2 (rotate_left; intro W' hSw; (try dsimp only at hSw); go_simp; try with_reducible rfl)
  try simp only [Ep]
  refine wpAnyH_done (by kernel_rfl) ?_ _
  refine NoPanic.normal ?_
  clear hHeld
  have tt := b0
  go_wp2
  exact bodyPost_ret (v := .bool false) (by simp [results, Try.results63, go_sem]) rfl (by exact by rw [HG.out]; exact ⟨rfl, tt⟩)
 | true =>
  have l0 : Hid (G = (decide (0 ≤ s.pc) && (decide (s.pc < (c.list.length : Int)) && (decide (s.regs.length = 14) && (valsOk s.regs && memOk c.vars.length c.arrays.length s.mem))))) := Lib.hid (by rw [HQ.out, h0]; rfl)
  clear HQ
  have HQ := l0; clear l0
  have Z0 := Lib.hid h0; clear h0
  refine hK.out _ _ ⟨d0, f0, g0, e0, i0, j0, k0⟩ (fun hHeld => ?_)
  clear hK K
  try simp only [Ep]
  refine (tq 2 7 rfl rfl ?_ ?_ ?_)
  (rotate_left; intro W' hSw; (try dsimp only at hSw); go_simp; try with_reducible rfl)
  try simp only [Ep]
  refine (tq 3 8 rfl rfl ?_ ?_ (tq 4 9 rfl rfl ?_ ?_ ?_))
  iterate 2 (rotate_left; intro W' hSw; (try dsimp only at hSw); go_simp; try with_reducible rfl)
  try simp only [Ep]
  by_cases hs10 : 0 ≤ s.pc
  ·skip
   have l0 : Hid (G = (decide (s.pc < (c.list.length : Int)) && (decide (s.regs.length = 14) && (valsOk s.regs && memOk c.vars.length c.arrays.length s.mem)))) := Lib.hid (by rw [HQ.out, decide_eq_true hs10]; rfl)
   clear HQ
   have HQ := l0; clear l0
   refine (tq 5 10 rfl rfl ?_ ?_ (tq 6 11 rfl rfl ?_ ?_ (tq 7 12 rfl rfl ?_ ?_ ?_)))
   iterate 3 (rotate_left; intro W' hSw; (try dsimp only at hSw); go_simp; try with_reducible rfl)
   try simp only [Ep]
   refine (tq 8 13 rfl rfl ?_ ?_ (tq 9 14 rfl rfl ?_ ?_ (tq 10 15 rfl rfl ?_ ?_ (tq 11 16 rfl rfl ?_ ?_ (tq 12 17 rfl rfl ?_ ?_ ?_)))))
   iterate 5 (rotate_left; intro W' hSw; (try dsimp only at hSw); go_simp; try with_reducible rfl)
   try simp only [Ep]
   by_cases hs18 : s.pc < (c.list.length : Int)
   ·skip
    have l0 : Hid (G = (decide (s.regs.length = 14) && (valsOk s.regs && memOk c.vars.length c.arrays.length s.mem))) := Lib.hid (by rw [HQ.out, decide_eq_true hs18]; rfl)
    clear HQ
    have HQ := l0; clear l0
    refine (tq 13 18 rfl rfl ?_ ?_ (tq 14 19 rfl rfl ?_ ?_ (tq 15 20 rfl rfl ?_ ?_ ?_)))
    iterate 3 (rotate_left; intro W' hSw; (try dsimp only at hSw); go_simp; try with_reducible rfl)
    try simp only [Ep]
    refine (tq 16 21 rfl rfl ?_ ?_ (tq 17 22 rfl rfl ?_ ?_ (tq 18 23 rfl rfl ?_ ?_ ?_)))
    iterate 3 (rotate_left; intro W' hSw; (try dsimp only at hSw); go_simp; try with_reducible rfl)
    try simp only [Ep]
    by_cases hs24 : s.regs.length = 14
    ·skip
     have l0 : Hid (G = (valsOk s.regs && memOk c.vars.length c.arrays.length s.mem)) := Lib.hid (by rw [HQ.out, decide_eq_true hs24]; rfl)
     clear HQ
     have HQ := l0; clear l0
     have q3 : ((s.regs.length : Int) == 14) = true := by simp; omega
     have Z3 := Lib.hid hs24; clear hs24
     refine (tq 19 24 rfl rfl ?_ ?_ (tq 20 25 rfl rfl ?_ ?_ (tq 21 26 rfl rfl ?_ ?_ ?_)))
     iterate 3 (rotate_left; intro W' hSw; (try dsimp only at hSw); go_simp; try with_reducible rfl)
     try simp only [Ep]
     refine (tq 22 27 rfl rfl ?_ ?_ (tq 23 28 rfl rfl ?_ ?_ ?_))
     iterate 2 (rotate_left; intro W' hSw; (try dsimp only at hSw); go_simp; try with_reducible rfl)
     try simp only [Ep]
     refine Rdy 24 rfl (fun K hK => ?_)
     go_simp
     refine (y0.out _ b0).mono ?_
     rintro e w4 ⟨rfl, x0⟩
     have hb : Below w3.heap.size w3 w4 := by rw [x0]; exact Bs _
     clear x0
     have t0 := hb.size
     replace d0 := Kc hb d0
     replace f0 := Kc hb f0
     replace g0 := Kc hb g0
     replace e0 := Kc hb e0
     replace i0 := Kc hb i0
     replace j0 := Kc hb j0
     replace k0 := Kc hb k0
     replace b0 := btr b0 hb
     clear hb
     cases h4 : valsOk s.regs with
     | false =>
      have HG : Hid (G = false) := Lib.hid (by rw [HQ.out, h4]; rfl)
      have Z4 := Lib.hid h4; clear h4
      refine hK.out _ _ ⟨d0, f0, g0, e0, i0, j0, k0⟩ (fun hHeld => ?_)
      clear hK K
      try simp only [Ep]
      refine (tq 25 30 rfl rfl ?_ ?_ (tq 26 31 rfl rfl ?_ ?_ ?_))
      iterate 2 (rotate_left; intro W' hSw; (try dsimp only at hSw); go_simp; try with_reducible rfl)
      try simp only [Ep]
      refine (tu 27 32 rfl rfl (tu 28 33 rfl rfl (tu 29 34 rfl rfl (tu 30 35 rfl rfl (tu 31 36 rfl rfl (tq 32 37 rfl rfl ?_ ?_ (tq 33 4 rfl rfl ?_ ?_ ?_)))))))
      iterate 2 (rotate_left; intro W' hSw; (try dsimp only at hSw); go_simp; try with_reducible rfl)
      try simp only [Ep]
      refine wpAnyH_done (by kernel_rfl) ?_ _
      refine NoPanic.normal ?_
      clear hHeld
      have tt := b0
      go_wp2
      exact bodyPost_ret (v := .bool false) (by simp [results, Try.results63, go_sem]) rfl (by exact by rw [HG.out]; exact ⟨rfl, tt⟩)
     | true =>
      have l0 : Hid (G = memOk c.vars.length c.arrays.length s.mem) := Lib.hid (by rw [HQ.out, h4]; rfl)
      clear HQ
      have HQ := l0; clear l0
      have Z4 := Lib.hid h4; clear h4
      refine hK.out _ _ ⟨d0, f0, g0, e0, i0, j0, k0⟩ (fun hHeld => ?_)
      clear hK K
      try simp only [Ep]
      refine (tq 25 30 rfl rfl ?_ ?_ (tq 26 31 rfl rfl ?_ ?_ ?_))
      iterate 2 (rotate_left; intro W' hSw; (try dsimp only at hSw); go_simp; try with_reducible rfl)
      try simp only [Ep]
      refine (tq 27 32 rfl rfl ?_ ?_ (tq 29 34 rfl rfl ?_ ?_ (tq 30 35 rfl rfl ?_ ?_ ?_)))
      iterate 3 (rotate_left; intro W' hSw; (try dsimp only at hSw); go_simp; try with_reducible rfl)
      try simp only [Ep]
      refine Rdy 28 rfl (fun K hK => ?_)
      go_simp
      refine (l6Heads_any a0 a1 a2 c.vars.length c.arrays.length c.list.length c0 c1 c2 _).mono ?_
      rintro e w5 ⟨rfl, hb⟩
      have u0 := hb.size
      replace d0 := Kc hb d0
      replace f0 := Kc hb f0
      replace g0 := Kc hb g0
      replace e0 := Kc hb e0
      replace i0 := Kc hb i0
      replace j0 := Kc hb j0
      replace k0 := Kc hb k0
      replace b0 := btr b0 hb
      clear hb
      refine hK.out _ _ ⟨d0, f0, g0, e0, i0, j0, k0⟩ (fun hHeld => ?_)
      clear hK K
      try simp only [Ep]
      refine Rdy 31 rfl (fun K hK => ?_)
      go_simp
      refine (b1.out _ b0).mono ?_
      rintro e w6 ⟨rfl, hb⟩
      have v0 := hb.size
      replace d0 := Kc hb d0
      replace f0 := Kc hb f0
      replace g0 := Kc hb g0
      replace e0 := Kc hb e0
      replace i0 := Kc hb i0
      replace j0 := Kc hb j0
      replace k0 := Kc hb k0
      replace b0 := btr b0 hb
      clear hb
      cases h5 : memOk c.vars.length c.arrays.length s.mem with
      | false =>
       have HG : Hid (G = false) := Lib.hid (by rw [HQ.out, h5])
       have Z5 := Lib.hid h5; clear h5
       refine hK.out _ _ ⟨d0, f0, g0, e0, i0, j0, k0⟩ (fun hHeld => ?_)
       clear hK K
       try simp only [Ep]
       refine (tq 32 37 rfl rfl ?_ ?_ (tq 33 4 rfl rfl ?_ ?_ ?_))
       iterate 2 (rotate_left; intro W' hSw; (try dsimp only at hSw); go_simp; try with_reducible rfl)
       try simp only [Ep]
       refine wpAnyH_done (by kernel_rfl) ?_ _
       refine NoPanic.normal ?_
       clear hHeld
       have tt := b0
       go_wp2
       exact bodyPost_ret (v := .bool false) (by simp [results, Try.results63, go_sem]) rfl (by exact by rw [HG.out]; exact ⟨rfl, tt⟩)
      | true =>
       have HG : Hid (G = true) := Lib.hid (by rw [HQ.out, h5])
       have Z5 := Lib.hid h5; clear h5
       refine hK.out _ _ ⟨d0, f0, g0, e0, i0, j0, k0⟩ (fun hHeld => ?_)
       clear hK K
       try simp only [Ep]
       refine (tq 32 37 rfl rfl ?_ ?_ (tq 33 4 rfl rfl ?_ ?_ ?_))
       iterate 2 (rotate_left; intro W' hSw; (try dsimp only at hSw); go_simp; try with_reducible rfl)
       try simp only [Ep]
       refine wpAnyH_done (by kernel_rfl) ?_ _
       refine NoPanic.normal ?_
       clear hHeld
       have tt := b0
       go_wp2
       exact bodyPost_ret (v := .bool true) (by simp [results, Try.results63, go_sem]) rfl (by exact by rw [HG.out]; exact ⟨rfl, tt⟩)
    skip
    have HG : Hid (G = false) := Lib.hid (by rw [HQ.out, decide_eq_false hs24]; rfl)
    have q3 : ((s.regs.length : Int) == 14) = false := by simp; omega
    have Z3 := Lib.hid hs24; clear hs24
    refine (tq 19 24 rfl rfl ?_ ?_ (tq 20 25 rfl rfl ?_ ?_ (tq 21 26 rfl rfl ?_ ?_ ?_)))
    iterate 3 (rotate_left; intro W' hSw; (try dsimp only at hSw); go_simp; try with_reducible rfl)
    try simp only [Ep]
    refine (tu 22 27 rfl rfl (tu 23 28 rfl rfl (tu 24 29 rfl rfl (tq 25 30 rfl rfl ?_ ?_ (tq 26 31 rfl rfl ?_ ?_ ?_)))))
    iterate 2 (rotate_left; intro W' hSw; (try dsimp only at hSw); go_simp; try with_reducible rfl)
    try simp only [Ep]
    refine (tu 27 32 rfl rfl (tu 28 33 rfl rfl (tu 29 34 rfl rfl (tu 30 35 rfl rfl (tu 31 36 rfl rfl (tq 32 37 rfl rfl ?_ ?_ (tq 33 4 rfl rfl ?_ ?_ ?_)))))))
    iterate 2 (rotate_left; intro W' hSw; (try dsimp only at hSw); go_simp; try with_reducible rfl)
    try simp only [Ep]
    refine wpAnyH_done (by kernel_rfl) ?_ _
    refine NoPanic.normal ?_
    clear hHeld
    have tt := b0
    go_wp2
    exact bodyPost_ret (v := .bool false) (by simp [results, Try.results63, go_sem]) rfl (by exact by rw [HG.out]; exact ⟨rfl, tt⟩)
   skip
   have HG : Hid (G = false) := Lib.hid (by rw [HQ.out, decide_eq_false hs18]; rfl)
   refine (tq 13 18 rfl rfl ?_ ?_ (tq 14 19 rfl rfl ?_ ?_ (tq 15 20 rfl rfl ?_ ?_ ?_)))
   iterate 3 (rotate_left; intro W' hSw; (try dsimp only at hSw); go_simp; try with_reducible rfl)
   try simp only [Ep]
   refine (tu 16 21 rfl rfl (tu 17 22 rfl rfl (tu 18 23 rfl rfl (tu 19 24 rfl rfl (tq 20 25 rfl rfl ?_ ?_ (tq 21 26 rfl rfl ?_ ?_ ?_))))))
   iterate 2 (rotate_left; intro W' hSw; (try dsimp only at hSw); go_simp; try with_reducible rfl)
   try simp only [Ep]
   refine (tu 22 27 rfl rfl (tu 23 28 rfl rfl (tu 24 29 rfl rfl (tq 25 30 rfl rfl ?_ ?_ (tq 26 31 rfl rfl ?_ ?_ ?_)))))
   iterate 2 (rotate_left; intro W' hSw; (try dsimp only at hSw); go_simp; try with_reducible rfl)
   try simp only [Ep]
   refine (tu 27 32 rfl rfl (tu 28 33 rfl rfl (tu 29 34 rfl rfl (tu 30 35 rfl rfl (tu 31 36 rfl rfl (tq 32 37 rfl rfl ?_ ?_ (tq 33 4 rfl rfl ?_ ?_ ?_)))))))
   iterate 2 (rotate_left; intro W' hSw; (try dsimp only at hSw); go_simp; try with_reducible rfl)
   try simp only [Ep]
   refine wpAnyH_done (by kernel_rfl) ?_ _
   refine NoPanic.normal ?_
   clear hHeld
   have tt := b0
   go_wp2
   exact bodyPost_ret (v := .bool false) (by simp [results, Try.results63, go_sem]) rfl (by exact by rw [HG.out]; exact ⟨rfl, tt⟩)
  skip
  have HG : Hid (G = false) := Lib.hid (by rw [HQ.out, decide_eq_false hs10]; rfl)
  refine (tq 5 10 rfl rfl ?_ ?_ (tq 6 11 rfl rfl ?_ ?_ (tq 7 12 rfl rfl ?_ ?_ ?_)))
  iterate 3 (rotate_left; intro W' hSw; (try dsimp only at hSw); go_simp; try with_reducible rfl)
  try simp only [Ep]
  refine (tu 8 13 rfl rfl (tu 9 14 rfl rfl (tu 10 15 rfl rfl (tu 11 16 rfl rfl (tu 12 17 rfl rfl (tu 13 18 rfl rfl (tq 14 19 rfl rfl ?_ ?_ (tq 15 20 rfl rfl ?_ ?_ ?_))))))))
  iterate 2 (rotate_left; intro W' hSw; (try dsimp only at hSw); go_simp; try with_reducible rfl)
  try simp only [Ep]
  refine (tu 16 21 rfl rfl (tu 17 22 rfl rfl (tu 18 23 rfl rfl (tu 19 24 rfl rfl (tq 20 25 rfl rfl ?_ ?_ (tq 21 26 rfl rfl ?_ ?_ ?_))))))
  iterate 2 (rotate_left; intro W' hSw; (try dsimp only at hSw); go_simp; try with_reducible rfl)
  try simp only [Ep]
  refine (tu 22 27 rfl rfl (tu 23 28 rfl rfl (tu 24 29 rfl rfl (tq 25 30 rfl rfl ?_ ?_ (tq 26 31 rfl rfl ?_ ?_ ?_)))))
  iterate 2 (rotate_left; intro W' hSw; (try dsimp only at hSw); go_simp; try with_reducible rfl)
  try simp only [Ep]
  refine (tu 27 32 rfl rfl (tu 28 33 rfl rfl (tu 29 34 rfl rfl (tu 30 35 rfl rfl (tu 31 36 rfl rfl (tq 32 37 rfl rfl ?_ ?_ (tq 33 4 rfl rfl ?_ ?_ ?_)))))))
  iterate 2 (rotate_left; intro W' hSw; (try dsimp only at hSw); go_simp; try with_reducible rfl)
  try simp only [Ep]
  refine wpAnyH_done (by kernel_rfl) ?_ _
  refine NoPanic.normal ?_
  clear hHeld
  have tt := b0
  go_wp2
  exact bodyPost_ret (v := .bool false) (by simp [results, Try.results63, go_sem]) rfl (by exact by rw [HG.out]; exact ⟨rfl, tt⟩)
end Go.Proofs.Ytkjedgnepnbkpaa
