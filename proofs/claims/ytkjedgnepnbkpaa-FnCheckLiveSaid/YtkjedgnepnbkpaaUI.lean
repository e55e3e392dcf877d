/-
 Parts of the proofs of the laws FnCheckLive, FnCodeFenced, FnEraseCode, FnEraseSecret, FnFinalRegs, FnLiveRegister, FnLiveRegs, FnSpecPath.
-/
import Derived.Test.YtkjedgnepnbkpaaZEq1
import Derived.Test.YtkjedgnepnbkpaaLS
import Derived.Test.YtkjedgnepnbkpaaLXq1
set_option linter.all false
namespace Go.Proofs.Ytkjedgnepnbkpaa
open Go.RowKit
set_option maxHeartbeats 6400000 in
set_option maxRecDepth 100000 in
theorem DrawCheckLive_any (v : Value) (n : Nat) (vs : List Int) (w : World) (hr : Reads w 1 v n (vs.map (Value.int .u8))) (hv : ∀ x ∈ vs, 0 ≤ x ∧ x < 256) (hn : n ≤ 1048576) :
  Calls Try.prog 34 #[v] w fun r w' => DrawCLP w r w' := by
 go_enter Try.func34, Try.ntmps34
 go_wp2_with fail
 refine (l17Open_any v n vs _ (hr.below (bal (Bs w) (.cells #[.slice none 0 0, .slice none 0 0, .slice none 0 0] 26))) hv hn).mono ?_
 rintro e w1 ⟨g, rfl, hR, hb⟩
 try simp only [Sa] at hR
 have l1 := hb.size
 simp only [Sa] at l1
 have m0 : Bk w1 (w.heap.size) [.slice none 0 0, .slice none 0 0, .slice none 0 0] := Bk.below (Bk.nw (by simp) rfl) hb
 have p3 := btr (bal (Bs w) (.cells #[.slice none 0 0, .slice none 0 0, .slice none 0 0] 26)) hb
 clear hb
 have k1 := Bk.lz m0
 obtain ⟨B, hB⟩ : ∃ B, w.heap.size + 1 = B := ⟨_, rfl⟩; rw [hB] at hR; have q7 : w.heap.size + 1 ≤ B := (by omega); clear hB hr hv
 have hg := hR.lt
 have hC : Chg (fun k => k = g) w w1 := Chg.of_below p3
 have r0 : ∀ q, (fun k => k = g) q → q = g := fun q h => h
 clear p3
 have h7 : w.heap.size ≤ g := by omega
 go_wp2_with fail
 refine (l8Jumps_any B g (0) _ hR (by omega)).mono ?_
 rintro e w2 ⟨x7, z7, b8, h4, f4, g4, q1, rfl, w0, o7, d7, j7, q0, m7, hc⟩
 try simp only [Sa, Ss] at w0
 obtain ⟨u6, y6, v6, z6, x6, a7, rfl, rfl, rfl⟩ := w0.shape
 replace hC := (hC).trans hc
 replace hR := q0; clear q0
 have x3 := hc.size
 replace m0 := Bk.kg m0 hc
 clear hc
 have b4 := w0.lt
 replace k1 := Bk.lz m0
 go_wp2_with fail
 refine (l6Mutate_of _ _ _ h4 f4 g4 _ B g (q1) _ w0 (by omega) (by omega) (by omega) (by omega) hR (by omega)).mono ?_
 rintro e w3 ⟨y7, a8, c8, c0, a0, b0, q2, rfl, l0, p7, e7, k7, q0, t3, hc⟩
 try simp only [Sa, Ss] at l0
 obtain ⟨d0, g0, e0, j0, f0, k0, rfl, rfl, rfl⟩ := l0.shape
 replace hC := (hC).trans hc
 replace hR := q0; clear q0
 have y3 := hc.size
 replace w0 := w0.keep hc (fun gq h h2 => by have := b4 gq h; have := r0 gq h2; omega)
 replace m0 := Bk.kg m0 hc
 clear hc
 have o0 := l0.lt
 replace k1 := Bk.lz m0
 clear w0
 obtain ⟨c, u2⟩ := RdC.of l0 (by omega) (by omega) (by omega)
 go_wp2_with fail
 refine (sLiveRegs_any _ _ _ c _ (u2.r.below (bal (Bs w3) (.cells #[.slice d0 c0 g0, .slice e0 a0 j0, .slice f0 b0 k0] 26)))).mono ?_
 rintro e w4 ⟨u1, us, rfl, e3, hb⟩
 have oL := liveD e3; clear e3 u2
 try simp only [Sa, Ss] at oL
 have l7 := (liveR_len c).1
 generalize (liveR c).length = nr at *
 clear c
 obtain ⟨p9, q9, rfl⟩ := oL.shape
 replace hC := ((hC.trans (Chg.of_below (bal (Bs _) _)))).trans (Chg.of_below hb)
 replace hR := (hR.below (bal (Bs _) _)).below hb
 have m1 := hb.size
 simp only [Sa] at m1
 replace l0 := (l0.below (bal (Bs _) _)).below hb
 replace m0 := Bk.below (Bk.al m0 _) hb
 have n0 : Bk w4 (w3.heap.size) [.slice d0 c0 g0, .slice e0 a0 j0, .slice f0 b0 k0] := Bk.below (Bk.nw (by simp) rfl) hb
 clear hb
 replace k1 := Bk.lz m0
 have n1 := Bk.lz n0
 have iL := oL.lt
 try simp only [Sa, Ss] at iL
 by_cases h0 : nr < 1
 ·have s3 : decide ((0 : Int) < (nr : Int)) = false := decide_eq_false (by omega)
  have n7 : ¬ (0 : Int) < (nr : Int) := by omega
  have hx := oL.x (by omega)
  clear oL
  have tC := (((hC.setNew (w.heap.size) (0) (.slice d0 c0 g0) (Or.inr (by omega))).setNew (w.heap.size) (1) (.slice e0 a0 j0) (Or.inr (by omega))).setNew (w.heap.size) (2) (.slice f0 b0 k0) (Or.inr (by omega)))
  have tb := tC.below w.heap.size (Nat.le_refl _) (fun k hk h => by have := r0 k h; omega)
  have TB := Lib.hid tb; clear tC tb hC
  clear hR
  have u0 := Lib.hid (DrawC.mono (((l0.keep (C1 (w.heap.size) 0 (.slice d0 c0 g0)) (fun gq h h2 => by have := o0 gq h; omega)).keep (C1 (w.heap.size) 1 (.slice e0 a0 j0)) (fun gq h h2 => by have := o0 gq h; omega)).keep (C1 (w.heap.size) 2 (.slice f0 b0 k0)) (fun gq h h2 => by have := o0 gq h; omega)) (show w.heap.size ≤ _ by omega))
  obtain ⟨Lx, t0⟩ := LvX.reads (((hx.keep (C1 (w.heap.size) 0 (.slice d0 c0 g0)) (fun gq h h2 => by have := (fun q (h : w3.heap.size + 1 ≤ q) => h) gq h; omega)).keep (C1 (w.heap.size) 1 (.slice e0 a0 j0)) (fun gq h h2 => by have := (fun q (h : w3.heap.size + 1 ≤ q) => h) gq h; omega)).keep (C1 (w.heap.size) 2 (.slice f0 b0 k0)) (fun gq h h2 => by have := (fun q (h : w3.heap.size + 1 ≤ q) => h) gq h; omega)); have p0 := Lib.hid t0; clear t0
  clear l0 hx
  obtain ⟨p1, b5, r1, c5, s1, d5⟩ := Bk.f3 m0 0 1 2 rfl rfl rfl
  obtain ⟨l4, e5, m4, f5, n4, g5⟩ := Bk.f3 n0 0 1 2 rfl rfl rfl
  have g6 := (Nc (b := (w.heap.size)) (j := 2) (Nc (b := (w.heap.size)) (j := 1) (Tc _ (w.heap.size) 0 (.slice d0 c0 g0) p1) (by omega) (.slice e0 a0 j0)) (by omega) (.slice f0 b0 k0))
  have h6 := (Nc (b := (w.heap.size)) (j := 2) (Tc _ (w.heap.size) 1 (.slice e0 a0 j0) (Nc (b := (w.heap.size)) (j := 0) r1 (by omega) (.slice d0 c0 g0))) (by omega) (.slice f0 b0 k0))
  have i6 := (Tc _ (w.heap.size) 2 (.slice f0 b0 k0) (Nc (b := (w.heap.size)) (j := 1) (Nc (b := (w.heap.size)) (j := 0) s1 (by omega) (.slice d0 c0 g0)) (by omega) (.slice e0 a0 j0)))
  have tt := True.intro
  go_wp2
  exact bodyPost_ret (v := .tuple #[.agg #[.slice d0 c0 g0, .slice e0 a0 j0, .slice f0 b0 k0], .slice p9 nr q9]) (by simp [results, Try.results34, go_sem, g6, h6, i6]) rfl (by exact by unfold DrawCLP; exact ⟨_, _, _, _, _, _, _, _, rfl, u0.out, ⟨by omega, by omega, by omega⟩, ⟨p0.out.1, by have := p0.out.2.1; omega, p0.out.2.2⟩, TB.out⟩)
 have s3 : (0 : Int) < (nr : Int) := by omega
 obtain ⟨gL, cL, j1, f7, g7⟩ := oL.pos (by omega)
 obtain ⟨rfl, rfl⟩ : p9 = some ⟨gL, 0, none⟩ ∧ q9 = cL := by simp only [Value.slice.injEq] at j1; exact ⟨j1.1, j1.2.2⟩
 clear j1
 go_wp2_with fail
 refine (pick_any _ _ B g (q2) hR (by omega) (by omega) (by omega)).mono ?_
 rintro e w5 ⟨kk, s7, t7, rfl, q0, hc⟩
 replace hC := (hC).trans hc
 replace hR := q0; clear q0
 replace oL := oL.keep hc (fun gq h h2 => by have := iL gq h; have := r0 gq h2; omega)
 have v2 := hc.size
 replace l0 := l0.keep hc (fun gq h h2 => by have := o0 gq h; have := r0 gq h2; omega)
 replace m0 := Bk.kg m0 hc
 replace n0 := Bk.kg n0 hc
 clear hc
 obtain ⟨k, r3⟩ : ∃ k : Nat, kk = k := ⟨kk.toNat, by omega⟩
 subst r3
 have s2 : k < nr := by omega
 go_wp2_with fail
 refine (pick_any _ _ B g (q2 + 1) hR (by omega) (by omega) (by omega)).mono ?_
 rintro e w6 ⟨mm, u7, v7, rfl, q0, hc⟩
 replace hC := (hC).trans hc
 replace hR := q0; clear q0
 replace oL := oL.keep hc (fun gq h h2 => by have := iL gq h; have := r0 gq h2; omega)
 have x2 := hc.size
 replace l0 := l0.keep hc (fun gq h h2 => by have := o0 gq h; have := r0 gq h2; omega)
 replace m0 := Bk.kg m0 hc
 replace n0 := Bk.kg n0 hc
 clear hc
 by_cases hk0 : mm = 0
 ·have i4 : (mm == 0) = true := by simp [hk0]
  obtain ⟨gr, tr, hu, a1, e1, f1, r2, t2, s0⟩ := oL.row k s2
  clear s0
  go_upto_region 8 with (fail)
  have c4 := Lc e1
  refine wp_region_noPanic ?_
  refine wp_region_held_drew (S := (fun W' => W'.cell? ⟨gL, k, none⟩ = some (.slice (some ⟨gr, 0, none⟩) 14 tr))) (by kernel_rfl) (Kc (Below.drew (Bs w6)) e1) (fun hHeld => ?_)
  obtain ⟨w7, y0⟩ : ∃ X, X = World.drew w6 := ⟨_, rfl⟩
  rw [← y0] at hHeld ⊢
  have hb : Below w6.heap.size w6 w7 := by rw [y0]; exact Below.drew (Bs _)
  clear y0
  replace hC := (hC).trans (Chg.of_below hb)
  replace hR := hR.below hb
  replace oL := oL.below hb
  have y2 := hb.size
  replace f1 := Kf hb (Lc e1) f1
  replace l0 := l0.below hb
  replace e1 := Kc hb e1
  replace m0 := Bk.below m0 hb
  replace n0 := Bk.below n0 hb
  clear hb
  refine (tq 0 28 rfl rfl ?_ ?_ (tq 1 29 rfl rfl ?_ ?_ (tq 2 30 rfl rfl ?_ ?_ (tq 3 31 rfl rfl ?_ ?_ (tq 4 32 rfl rfl ?_ ?_ (tq 6 34 rfl rfl ?_ ?_ ?_))))))
  iterate 6 (rotate_left; intro W' hSw; (try dsimp only at hSw); go_simp; try with_reducible rfl)
  try simp only [Ep]
  refine Rdy 5 rfl (fun K hK => ?_)
  go_simp
  refine (pick_any _ _ B g (q2 + 1 + 1) hR (by omega) (by omega) (by omega)).mono ?_
  rintro e w8 ⟨dd, b7, c7, rfl, q0, hc⟩
  replace hC := (hC).trans hc
  replace hR := q0; clear q0
  replace oL := oL.keep hc (fun gq h h2 => by have := iL gq h; have := r0 gq h2; omega)
  have z2 := hc.size
  replace f1 := Gf hc (Lc e1) f1 (fun h => by have := r0 _ h; omega)
  replace l0 := l0.keep hc (fun gq h h2 => by have := o0 gq h; have := r0 gq h2; omega)
  replace e1 := Gg hc e1
  replace m0 := Bk.kg m0 hc
  replace n0 := Bk.kg n0 hc
  clear hc
  obtain ⟨j, hj⟩ : ∃ j : Nat, dd = j := ⟨dd.toNat, by omega⟩
  subst hj
  refine hK.out _ _ (e1) (fun hHeld => ?_)
  clear hK K
  try simp only [Ep]
  refine Rdy 7 rfl (fun K hK => ?_)
  go_simp
  refine (pick_any _ _ B g (q2 + 1 + 1 + 1) hR (by omega) (by omega) (by omega)).mono ?_
  rintro e w9 ⟨d2, o2, p2, rfl, q0, hc⟩
  replace hC := (hC).trans hc
  replace hR := q0; clear q0
  replace oL := oL.keep hc (fun gq h h2 => by have := iL gq h; have := r0 gq h2; omega)
  have a3 := hc.size
  replace f1 := Gf hc (Lc e1) f1 (fun h => by have := r0 _ h; omega)
  replace l0 := l0.keep hc (fun gq h h2 => by have := o0 gq h; have := r0 gq h2; omega)
  replace e1 := Gg hc e1
  replace m0 := Bk.kg m0 hc
  replace n0 := Bk.kg n0 hc
  clear hc
  obtain ⟨⟨x0, a4⟩, q3⟩ := oL.bitAt hu j (by omega)
  have u3 : (j : Int) < 14 := by omega
  refine hK.out _ _ (e1) (fun hHeld => ?_)
  clear hK K
  try simp only [Ep]
  refine (tq 8 36 rfl rfl ?_ ?_ (tq 9 37 rfl rfl ?_ ?_ ?_))
  iterate 2 (rotate_left; intro W' hSw; (try dsimp only at hSw); go_simp; try with_reducible rfl)
  try simp only [Ep]
  refine Rdy 10 rfl (fun K hK => ?_)
  go_simp
  obtain ⟨d8, v0, hb⟩ := nmw (World.setCell w9 ⟨gr, j, none⟩ (.bool (d2 == 0)))
  replace hC := ((hC.setNew _ _ _ (Or.inr (by omega)))).trans (Chg.of_below hb)
  replace hR := (hR.keep (C1 _ _ _) (by omega) (fun _ _ => by omega)).below hb
  replace oL := (LvD.bit oL hu (j) (d2 == 0)).below hb
  have b1 := hb.size
  simp only [Ss] at b1
  replace f1 := Kf hb (Lc (Nc e1 (by omega) _)) (Fs f1 _)
  replace l0 := (l0.keep (C1 _ _ _) (fun gq h h2 => by have := o0 gq h; omega)).below hb
  replace e1 := Kc hb (Nc e1 (by omega) _)
  replace m0 := Bk.below (Bk.ne m0 (by omega) _) hb
  replace n0 := Bk.below (Bk.ne n0 (by omega) _) hb
  clear hb
  rw [← v0]
  clear v0
  refine hK.out _ _ (e1) (fun hHeld => ?_)
  clear hK K
  try simp only [Ep]
  refine wpAnyH_done (by kernel_rfl) ?_ _
  refine NoPanic.normal ?_
  clear hHeld
  have hx := oL.x (by omega)
  clear oL
  clear e1
  have tC := (((hC.setNew (w.heap.size) (0) (.slice d0 c0 g0) (Or.inr (by omega))).setNew (w.heap.size) (1) (.slice e0 a0 j0) (Or.inr (by omega))).setNew (w.heap.size) (2) (.slice f0 b0 k0) (Or.inr (by omega)))
  have tb := tC.below w.heap.size (Nat.le_refl _) (fun k hk h => by have := r0 k h; omega)
  have TB := Lib.hid tb; clear tC tb hC
  clear hR
  have u0 := Lib.hid (DrawC.mono (((l0.keep (C1 (w.heap.size) 0 (.slice d0 c0 g0)) (fun gq h h2 => by have := o0 gq h; omega)).keep (C1 (w.heap.size) 1 (.slice e0 a0 j0)) (fun gq h h2 => by have := o0 gq h; omega)).keep (C1 (w.heap.size) 2 (.slice f0 b0 k0)) (fun gq h h2 => by have := o0 gq h; omega)) (show w.heap.size ≤ _ by omega))
  obtain ⟨Lx, t0⟩ := LvX.reads (((hx.keep (C1 (w.heap.size) 0 (.slice d0 c0 g0)) (fun gq h h2 => by have := (fun q (h : w3.heap.size + 1 ≤ q) => h) gq h; omega)).keep (C1 (w.heap.size) 1 (.slice e0 a0 j0)) (fun gq h h2 => by have := (fun q (h : w3.heap.size + 1 ≤ q) => h) gq h; omega)).keep (C1 (w.heap.size) 2 (.slice f0 b0 k0)) (fun gq h h2 => by have := (fun q (h : w3.heap.size + 1 ≤ q) => h) gq h; omega)); have p0 := Lib.hid t0; clear t0
  clear l0 hx
  obtain ⟨t1, h5, v1, i5, x1, j5⟩ := Bk.f3 m0 0 1 2 rfl rfl rfl
  obtain ⟨o4, k5, p4, l5, q4, m5⟩ := Bk.f3 n0 0 1 2 rfl rfl rfl
  have j6 := (Nc (b := (w.heap.size)) (j := 2) (Nc (b := (w.heap.size)) (j := 1) (Tc _ (w.heap.size) 0 (.slice d0 c0 g0) t1) (by omega) (.slice e0 a0 j0)) (by omega) (.slice f0 b0 k0))
  have k6 := (Nc (b := (w.heap.size)) (j := 2) (Tc _ (w.heap.size) 1 (.slice e0 a0 j0) (Nc (b := (w.heap.size)) (j := 0) v1 (by omega) (.slice d0 c0 g0))) (by omega) (.slice f0 b0 k0))
  have l6 := (Tc _ (w.heap.size) 2 (.slice f0 b0 k0) (Nc (b := (w.heap.size)) (j := 1) (Nc (b := (w.heap.size)) (j := 0) x1 (by omega) (.slice d0 c0 g0)) (by omega) (.slice e0 a0 j0)))
  have tt := True.intro
  go_wp2
  exact bodyPost_ret (v := .tuple #[.agg #[.slice d0 c0 g0, .slice e0 a0 j0, .slice f0 b0 k0], .slice (some ⟨gL, 0, none⟩) nr q9]) (by simp [results, Try.results34, go_sem, j6, k6, l6]) rfl (by exact by unfold DrawCLP; exact ⟨_, _, _, _, _, _, _, _, rfl, u0.out, ⟨by omega, by omega, by omega⟩, ⟨p0.out.1, by have := p0.out.2.1; omega, p0.out.2.2⟩, TB.out⟩)
 have i4 : (mm == 0) = false := by simp [hk0]
 by_cases hk1 : mm = 1
 ·have j4 : (mm == 1) = true := by simp [hk1]
  have n2 : Hid (∃ i0 : Nat, Value.int .i64 0 = .int .i64 i0 ∧ i0 ≤ nr ∧ LvD w6 (w3.heap.size + 1) (.slice (some ⟨gL, 0, none⟩) nr q9) us nr ∧ Bk w6 (w.heap.size) [.slice none 0 0, .slice none 0 0, .slice none 0 0] ∧ Bk w6 (w3.heap.size) [.slice d0 c0 g0, .slice e0 a0 j0, .slice f0 b0 k0] ∧ DrawC w6 w2.heap.size (.slice d0 c0 g0) (.slice e0 a0 j0) (.slice f0 b0 k0) c0 a0 b0 ∧ Rnd w6 B g (q2 + 1 + 1) ∧ Chg (fun q => q = g) w w6 ∧ w6.heap.size ≤ w6.heap.size) := Lib.hid ⟨0, rfl, by omega, oL, m0, n0, l0, hR, hC, Nat.le_refl _⟩
  go_wp2_with fail
  go_loopw [8] (fun i wr => ∃ i0 : Nat, i = .int .i64 i0 ∧ i0 ≤ nr ∧ LvD wr (w3.heap.size + 1) (.slice (some ⟨gL, 0, none⟩) nr q9) us nr ∧ Bk wr (w.heap.size) [.slice none 0 0, .slice none 0 0, .slice none 0 0] ∧ Bk wr (w3.heap.size) [.slice d0 c0 g0, .slice e0 a0 j0, .slice f0 b0 k0] ∧ DrawC wr w2.heap.size (.slice d0 c0 g0) (.slice e0 a0 j0) (.slice f0 b0 k0) c0 a0 b0 ∧ Rnd wr B g (q2 + 1 + 1) ∧ Chg (fun q => q = g) w wr ∧ w6.heap.size ≤ wr.heap.size) (fun i _ => nr - (intOf i).toNat)
  case atStart => exact n2.out
  case round =>
   clear n2 hR hC m0 l0 n0 oL
   obtain ⟨i0, rfl, i7, oL, m0, n0, l0, hR, hC, r7⟩ := hrel
   obtain ⟨wl, rfl⟩ : ∃ X, X = wr := ⟨_, rfl⟩
   have d4 := Bk.lz m0
   have e4 := Bk.lz n0
   by_cases hlt : i0 < nr
   ·have hq : (i0 : Int) < (nr : Int) := by omega
    obtain ⟨gr, tr, hu, a1, e1, f1, r2, t2, s0⟩ := oL.row i0 hlt
    clear s0
    obtain ⟨⟨x0, a4⟩, q3⟩ := oL.bitAt hu 13 (by omega)
    have u3 : (13 : Int) < 14 := by omega
    have z0 := Lib.hid (And.intro (LvD.bit oL hu (13) true) (And.intro (Bk.ne (b' := gr) (j' := 13) m0 (by omega) (.bool true)) (And.intro (Bk.ne (b' := gr) (j' := 13) n0 (by omega) (.bool true)) (And.intro (l0.keep (C1 (gr) 13 (.bool true)) (fun gq h h2 => by have := o0 gq h; omega)) (And.intro (hR.keep (C1 (gr) (13) (.bool true)) (by omega) (fun _ _ => by omega)) (hC.setNew (gr) (13) (.bool true) (Or.inr (by omega))))))))
    clear hR hC oL l0
    go_wp2
    go_roundw
    case rel => exact ⟨i0 + 1, by go_num, by omega, z0.out.1, z0.out.2.1, z0.out.2.2.1, z0.out.2.2.2.1, z0.out.2.2.2.2.1, z0.out.2.2.2.2.2, by (try simp only [Ss]); omega⟩
    case measure => simp [intOf]; omega
   have hq : decide ((i0 : Int) < (nr : Int)) = false := decide_eq_false (by omega)
   have t3 : ¬ (i0 : Int) < (nr : Int) := by omega
   have hx := oL.x (by omega)
   clear oL
   have tC := (((hC.setNew (w.heap.size) (0) (.slice d0 c0 g0) (Or.inr (by omega))).setNew (w.heap.size) (1) (.slice e0 a0 j0) (Or.inr (by omega))).setNew (w.heap.size) (2) (.slice f0 b0 k0) (Or.inr (by omega)))
   have tb := tC.below w.heap.size (Nat.le_refl _) (fun k hk h => by have := r0 k h; omega)
   have TB := Lib.hid tb; clear tC tb hC
   clear hR
   have u0 := Lib.hid (DrawC.mono (((l0.keep (C1 (w.heap.size) 0 (.slice d0 c0 g0)) (fun gq h h2 => by have := o0 gq h; omega)).keep (C1 (w.heap.size) 1 (.slice e0 a0 j0)) (fun gq h h2 => by have := o0 gq h; omega)).keep (C1 (w.heap.size) 2 (.slice f0 b0 k0)) (fun gq h h2 => by have := o0 gq h; omega)) (show w.heap.size ≤ _ by omega))
   obtain ⟨Lx, t0⟩ := LvX.reads (((hx.keep (C1 (w.heap.size) 0 (.slice d0 c0 g0)) (fun gq h h2 => by have := (fun q (h : w3.heap.size + 1 ≤ q) => h) gq h; omega)).keep (C1 (w.heap.size) 1 (.slice e0 a0 j0)) (fun gq h h2 => by have := (fun q (h : w3.heap.size + 1 ≤ q) => h) gq h; omega)).keep (C1 (w.heap.size) 2 (.slice f0 b0 k0)) (fun gq h h2 => by have := (fun q (h : w3.heap.size + 1 ≤ q) => h) gq h; omega)); have p0 := Lib.hid t0; clear t0
   clear l0 hx
   obtain ⟨y1, n5, z1, o5, a2, p5⟩ := Bk.f3 m0 0 1 2 rfl rfl rfl
   obtain ⟨r4, q5, s4, r5, t4, s5⟩ := Bk.f3 n0 0 1 2 rfl rfl rfl
   have m6 := (Nc (b := (w.heap.size)) (j := 2) (Nc (b := (w.heap.size)) (j := 1) (Tc _ (w.heap.size) 0 (.slice d0 c0 g0) y1) (by omega) (.slice e0 a0 j0)) (by omega) (.slice f0 b0 k0))
   have n6 := (Nc (b := (w.heap.size)) (j := 2) (Tc _ (w.heap.size) 1 (.slice e0 a0 j0) (Nc (b := (w.heap.size)) (j := 0) z1 (by omega) (.slice d0 c0 g0))) (by omega) (.slice f0 b0 k0))
   have o6 := (Tc _ (w.heap.size) 2 (.slice f0 b0 k0) (Nc (b := (w.heap.size)) (j := 1) (Nc (b := (w.heap.size)) (j := 0) a2 (by omega) (.slice d0 c0 g0)) (by omega) (.slice e0 a0 j0)))
   have tt := True.intro
   go_wp2
   exact bodyPost_ret (v := .tuple #[.agg #[.slice d0 c0 g0, .slice e0 a0 j0, .slice f0 b0 k0], .slice (some ⟨gL, 0, none⟩) nr q9]) (by simp [results, Try.results34, go_sem, m6, n6, o6]) rfl (by exact by unfold DrawCLP; exact ⟨_, _, _, _, _, _, _, _, rfl, u0.out, ⟨by omega, by omega, by omega⟩, ⟨p0.out.1, by have := p0.out.2.1; omega, p0.out.2.2⟩, TB.out⟩)
 have j4 : (mm == 1) = false := by simp [hk1]
 by_cases hk2 : mm = 2
 ·have k4 : (mm == 2) = true := by simp [hk2]
  obtain ⟨gr, tr, hu, a1, e1, f1, r2, t2, s0⟩ := oL.row k s2
  clear s0
  go_upto_region 15 with (fail)
  replace k1 := Bk.lz m0
  replace n1 := Bk.lz n0
  have o1 := Lc e1
  refine wp_region_noPanic ?_
  refine wp_region_held_drew (S := (fun W' => True)) (by kernel_rfl) trivial (fun hHeld => ?_)
  obtain ⟨w7, y0⟩ : ∃ X, X = World.drew w6 := ⟨_, rfl⟩
  rw [← y0]
  have hb : Below w6.heap.size w6 w7 := by rw [y0]; exact Below.drew (Bs _)
  clear y0
  replace hC := (hC).trans (Chg.of_below hb)
  replace hR := hR.below hb
  replace oL := oL.below hb
  have b3 := hb.size
  replace f1 := Kf hb (Lc e1) f1
  replace l0 := l0.below hb
  replace e1 := Kc hb e1
  replace m0 := Bk.below m0 hb
  replace n0 := Bk.below n0 hb
  clear hb
  refine (tq 0 53 rfl rfl ?_ ?_ (tq 1 54 rfl rfl ?_ ?_ (tq 2 55 rfl rfl ?_ ?_ (tq 3 56 rfl rfl ?_ ?_ (tq 4 57 rfl rfl ?_ ?_ (tq 6 59 rfl rfl ?_ ?_ ?_))))))
  iterate 6 (rotate_left; intro W' hSw; clear hSw; go_simp; try with_reducible rfl)
  try simp only [Ep]
  refine Rdy2 5 7 rfl rfl (fun K hK => ?_) (fun K hK => ?_)
  ·go_simp
   refine hK.out _ _ trivial (fun hHeld => ?_)
   clear hK K
   try simp only [Ep]
   refine Rdy 7 rfl (fun K hK => ?_)
   go_simp
   refine (pick_any _ _ B g (q2 + 1 + 1) hR (by omega) (by omega) (by omega)).mono ?_
   rintro e w8 ⟨d2, o2, p2, rfl, q0, hc⟩
   replace hC := (hC).trans hc
   replace hR := q0; clear q0
   replace oL := oL.keep hc (fun gq h h2 => by have := iL gq h; have := r0 gq h2; omega)
   have c3 := hc.size
   replace f1 := Gf hc (Lc e1) f1 (fun h => by have := r0 _ h; omega)
   replace l0 := l0.keep hc (fun gq h h2 => by have := o0 gq h; have := r0 gq h2; omega)
   replace e1 := Gg hc e1
   replace m0 := Bk.kg m0 hc
   replace n0 := Bk.kg n0 hc
   clear hc
   obtain ⟨e, he⟩ : ∃ e : Nat, d2 * 13 = e ∧ e ≤ 13 := ⟨(d2 * 13).toNat, by omega, by omega⟩
   have z3 : IntKind.i64.wrap (d2 * 13) = e := by rw [he.1]; exact IntWalk.i64_in _ (by omega)
   replace he := he.2
   have v3 : ∀ W, (Instr.slice 66 (.slice (some ⟨gr, 0, none⟩) 14 tr) none (some (.int .i64 e)) none).run Try.prog W = .ok (.slice (some ⟨gr, 0, none⟩) e tr) W := fun W => run_pre tBools _ 14 tr e (by omega) W
   refine hK.out _ _ trivial (fun hHeld => ?_)
   clear hK K
   try simp only [Ep]
   refine (tq 8 61 rfl rfl ?_ ?_ (tq 9 62 rfl rfl ?_ ?_ (tq 10 63 rfl rfl ?_ ?_ ?_)))
   iterate 3 (rotate_left; intro W' hSw; clear hSw; go_simp; try with_reducible rfl)
   try simp only [Ep]
   refine Rdy 11 rfl (fun K hK => ?_)
   go_simp
   obtain ⟨w9, v0, hb⟩ := nmw (World.setCell w8 ⟨gL, k, none⟩ (.slice (some ⟨gr, 0, none⟩) e tr))
   replace hC := ((hC.setNew _ _ _ (Or.inr (by omega)))).trans (Chg.of_below hb)
   replace hR := (hR.keep (C1 _ _ _) (by omega) (fun _ _ => by omega)).below hb
   replace oL := (LvD.cut oL (by omega) hu (e := e) (by omega)).below hb
   have c1 := hb.size
   simp only [Ss] at c1
   replace f1 := Kf hb (Lc (Tc _ (gL) k (.slice (some ⟨gr, 0, none⟩) e tr) e1)) (Fs f1 _)
   replace l0 := (l0.keep (C1 _ _ _) (fun gq h h2 => by have := o0 gq h; omega)).below hb
   replace e1 : w9.cell? ⟨gL, k, none⟩ = some (.slice (some ⟨gr, 0, none⟩) e tr) := Kc hb (Tc _ (gL) k (.slice (some ⟨gr, 0, none⟩) e tr) e1)
   replace m0 := Bk.below (Bk.ne m0 (by omega) _) hb
   replace n0 := Bk.below (Bk.ne n0 (by omega) _) hb
   clear hb
   rw [← v0]
   clear v0
   refine hK.out _ _ trivial (fun hHeld => ?_)
   clear hK K
   try simp only [Ep]
   refine wpAnyH_done (by kernel_rfl) ?_ _
   refine NoPanic.normal ?_
   clear hHeld
   have hx := oL; clear oL
   clear e1
   have tC := (((hC.setNew (w.heap.size) (0) (.slice d0 c0 g0) (Or.inr (by omega))).setNew (w.heap.size) (1) (.slice e0 a0 j0) (Or.inr (by omega))).setNew (w.heap.size) (2) (.slice f0 b0 k0) (Or.inr (by omega)))
   have tb := tC.below w.heap.size (Nat.le_refl _) (fun k hk h => by have := r0 k h; omega)
   have TB := Lib.hid tb; clear tC tb hC
   clear hR
   have u0 := Lib.hid (DrawC.mono (((l0.keep (C1 (w.heap.size) 0 (.slice d0 c0 g0)) (fun gq h h2 => by have := o0 gq h; omega)).keep (C1 (w.heap.size) 1 (.slice e0 a0 j0)) (fun gq h h2 => by have := o0 gq h; omega)).keep (C1 (w.heap.size) 2 (.slice f0 b0 k0)) (fun gq h h2 => by have := o0 gq h; omega)) (show w.heap.size ≤ _ by omega))
   obtain ⟨Lx, t0⟩ := LvX.reads (((hx.keep (C1 (w.heap.size) 0 (.slice d0 c0 g0)) (fun gq h h2 => by have := (fun q (h : w3.heap.size + 1 ≤ q) => h) gq h; omega)).keep (C1 (w.heap.size) 1 (.slice e0 a0 j0)) (fun gq h h2 => by have := (fun q (h : w3.heap.size + 1 ≤ q) => h) gq h; omega)).keep (C1 (w.heap.size) 2 (.slice f0 b0 k0)) (fun gq h h2 => by have := (fun q (h : w3.heap.size + 1 ≤ q) => h) gq h; omega)); have p0 := Lib.hid t0; clear t0
   clear l0 hx
   obtain ⟨b2, t5, c2, u5, e2, v5⟩ := Bk.f3 m0 0 1 2 rfl rfl rfl
   obtain ⟨u4, x5, v4, y5, x4, z5⟩ := Bk.f3 n0 0 1 2 rfl rfl rfl
   have p6 := (Nc (b := (w.heap.size)) (j := 2) (Nc (b := (w.heap.size)) (j := 1) (Tc _ (w.heap.size) 0 (.slice d0 c0 g0) b2) (by omega) (.slice e0 a0 j0)) (by omega) (.slice f0 b0 k0))
   have q6 := (Nc (b := (w.heap.size)) (j := 2) (Tc _ (w.heap.size) 1 (.slice e0 a0 j0) (Nc (b := (w.heap.size)) (j := 0) c2 (by omega) (.slice d0 c0 g0))) (by omega) (.slice f0 b0 k0))
   have r6 := (Tc _ (w.heap.size) 2 (.slice f0 b0 k0) (Nc (b := (w.heap.size)) (j := 1) (Nc (b := (w.heap.size)) (j := 0) e2 (by omega) (.slice d0 c0 g0)) (by omega) (.slice e0 a0 j0)))
   have tt := True.intro
   go_wp2
   exact bodyPost_ret (v := .tuple #[.agg #[.slice d0 c0 g0, .slice e0 a0 j0, .slice f0 b0 k0], .slice (some ⟨gL, 0, none⟩) nr q9]) (by simp [results, Try.results34, go_sem, p6, q6, r6]) rfl (by exact by unfold DrawCLP; exact ⟨_, _, _, _, _, _, _, _, rfl, u0.out, ⟨by omega, by omega, by omega⟩, ⟨p0.out.1, by have := p0.out.2.1; omega, p0.out.2.2⟩, TB.out⟩)
  go_simp
  refine (pick_any _ _ B g (q2 + 1 + 1) hR (by omega) (by omega) (by omega)).mono ?_
  rintro e w8 ⟨d2, o2, p2, rfl, q0, hc⟩
  replace hC := (hC).trans hc
  replace hR := q0; clear q0
  replace oL := oL.keep hc (fun gq h h2 => by have := iL gq h; have := r0 gq h2; omega)
  have d3 := hc.size
  replace f1 := Gf hc (Lc e1) f1 (fun h => by have := r0 _ h; omega)
  replace l0 := l0.keep hc (fun gq h h2 => by have := o0 gq h; have := r0 gq h2; omega)
  replace e1 := Gg hc e1
  replace m0 := Bk.kg m0 hc
  replace n0 := Bk.kg n0 hc
  clear hc
  obtain ⟨e, he⟩ : ∃ e : Nat, d2 * 13 = e ∧ e ≤ 13 := ⟨(d2 * 13).toNat, by omega, by omega⟩
  have z3 : IntKind.i64.wrap (d2 * 13) = e := by rw [he.1]; exact IntWalk.i64_in _ (by omega)
  replace he := he.2
  have v3 : ∀ W, (Instr.slice 66 (.slice (some ⟨gr, 0, none⟩) 14 tr) none (some (.int .i64 e)) none).run Try.prog W = .ok (.slice (some ⟨gr, 0, none⟩) e tr) W := fun W => run_pre tBools _ 14 tr e (by omega) W
  replace o1 := Lc e1
  refine hK.out _ _ trivial (fun hHeld => ?_)
  clear hK K
  try simp only [Ep]
  refine (tq 8 61 rfl rfl ?_ ?_ ?_)
  (rotate_left; intro W' hSw; clear hSw; go_simp; try with_reducible rfl)
  try simp only [Ep]
  refine Rdy 5 rfl (fun K hK => ?_)
  go_simp
  refine hK.out _ _ trivial (fun hHeld => ?_)
  clear hK K
  try simp only [Ep]
  refine (tq 9 62 rfl rfl ?_ ?_ (tq 10 63 rfl rfl ?_ ?_ ?_))
  iterate 2 (rotate_left; intro W' hSw; clear hSw; go_simp; try with_reducible rfl)
  try simp only [Ep]
  refine Rdy 11 rfl (fun K hK => ?_)
  go_simp
  obtain ⟨w9, v0, hb⟩ := nmw (World.setCell w8 ⟨gL, k, none⟩ (.slice (some ⟨gr, 0, none⟩) e tr))
  replace hC := ((hC.setNew _ _ _ (Or.inr (by omega)))).trans (Chg.of_below hb)
  replace hR := (hR.keep (C1 _ _ _) (by omega) (fun _ _ => by omega)).below hb
  replace oL := (LvD.cut oL (by omega) hu (e := e) (by omega)).below hb
  have d1 := hb.size
  simp only [Ss] at d1
  replace f1 := Kf hb (Lc (Tc _ (gL) k (.slice (some ⟨gr, 0, none⟩) e tr) e1)) (Fs f1 _)
  replace l0 := (l0.keep (C1 _ _ _) (fun gq h h2 => by have := o0 gq h; omega)).below hb
  replace e1 : w9.cell? ⟨gL, k, none⟩ = some (.slice (some ⟨gr, 0, none⟩) e tr) := Kc hb (Tc _ (gL) k (.slice (some ⟨gr, 0, none⟩) e tr) e1)
  replace m0 := Bk.below (Bk.ne m0 (by omega) _) hb
  replace n0 := Bk.below (Bk.ne n0 (by omega) _) hb
  clear hb
  rw [← v0]
  clear v0
  refine hK.out _ _ trivial (fun hHeld => ?_)
  clear hK K
  try simp only [Ep]
  refine wpAnyH_done (by kernel_rfl) ?_ _
  refine NoPanic.normal ?_
  clear hHeld
  have hx := oL; clear oL
  clear e1
  have tC := (((hC.setNew (w.heap.size) (0) (.slice d0 c0 g0) (Or.inr (by omega))).setNew (w.heap.size) (1) (.slice e0 a0 j0) (Or.inr (by omega))).setNew (w.heap.size) (2) (.slice f0 b0 k0) (Or.inr (by omega)))
  have tb := tC.below w.heap.size (Nat.le_refl _) (fun k hk h => by have := r0 k h; omega)
  have TB := Lib.hid tb; clear tC tb hC
  clear hR
  have u0 := Lib.hid (DrawC.mono (((l0.keep (C1 (w.heap.size) 0 (.slice d0 c0 g0)) (fun gq h h2 => by have := o0 gq h; omega)).keep (C1 (w.heap.size) 1 (.slice e0 a0 j0)) (fun gq h h2 => by have := o0 gq h; omega)).keep (C1 (w.heap.size) 2 (.slice f0 b0 k0)) (fun gq h h2 => by have := o0 gq h; omega)) (show w.heap.size ≤ _ by omega))
  obtain ⟨Lx, t0⟩ := LvX.reads (((hx.keep (C1 (w.heap.size) 0 (.slice d0 c0 g0)) (fun gq h h2 => by have := (fun q (h : w3.heap.size + 1 ≤ q) => h) gq h; omega)).keep (C1 (w.heap.size) 1 (.slice e0 a0 j0)) (fun gq h h2 => by have := (fun q (h : w3.heap.size + 1 ≤ q) => h) gq h; omega)).keep (C1 (w.heap.size) 2 (.slice f0 b0 k0)) (fun gq h h2 => by have := (fun q (h : w3.heap.size + 1 ≤ q) => h) gq h; omega)); have p0 := Lib.hid t0; clear t0
  clear l0 hx
  obtain ⟨f2, a6, g2, b6, i2, c6⟩ := Bk.f3 m0 0 1 2 rfl rfl rfl
  obtain ⟨y4, d6, z4, e6, a5, f6⟩ := Bk.f3 n0 0 1 2 rfl rfl rfl
  have s6 := (Nc (b := (w.heap.size)) (j := 2) (Nc (b := (w.heap.size)) (j := 1) (Tc _ (w.heap.size) 0 (.slice d0 c0 g0) f2) (by omega) (.slice e0 a0 j0)) (by omega) (.slice f0 b0 k0))
  have t6 := (Nc (b := (w.heap.size)) (j := 2) (Tc _ (w.heap.size) 1 (.slice e0 a0 j0) (Nc (b := (w.heap.size)) (j := 0) g2 (by omega) (.slice d0 c0 g0))) (by omega) (.slice f0 b0 k0))
  have j2 := (Tc _ (w.heap.size) 2 (.slice f0 b0 k0) (Nc (b := (w.heap.size)) (j := 1) (Nc (b := (w.heap.size)) (j := 0) i2 (by omega) (.slice d0 c0 g0)) (by omega) (.slice e0 a0 j0)))
  have tt := True.intro
  go_wp2
  exact bodyPost_ret (v := .tuple #[.agg #[.slice d0 c0 g0, .slice e0 a0 j0, .slice f0 b0 k0], .slice (some ⟨gL, 0, none⟩) nr q9]) (by simp [results, Try.results34, go_sem, s6, t6, j2]) rfl (by exact by unfold DrawCLP; exact ⟨_, _, _, _, _, _, _, _, rfl, u0.out, ⟨by omega, by omega, by omega⟩, ⟨p0.out.1, by have := p0.out.2.1; omega, p0.out.2.2⟩, TB.out⟩)
 have k4 : (mm == 2) = false := by simp [hk2]
 have hx := oL.x (by omega)
 clear oL
 have tC := (((hC.setNew (w.heap.size) (0) (.slice d0 c0 g0) (Or.inr (by omega))).setNew (w.heap.size) (1) (.slice e0 a0 j0) (Or.inr (by omega))).setNew (w.heap.size) (2) (.slice f0 b0 k0) (Or.inr (by omega)))
 have tb := tC.below w.heap.size (Nat.le_refl _) (fun k hk h => by have := r0 k h; omega)
 have TB := Lib.hid tb; clear tC tb hC
 clear hR
 have u0 := Lib.hid (DrawC.mono (((l0.keep (C1 (w.heap.size) 0 (.slice d0 c0 g0)) (fun gq h h2 => by have := o0 gq h; omega)).keep (C1 (w.heap.size) 1 (.slice e0 a0 j0)) (fun gq h h2 => by have := o0 gq h; omega)).keep (C1 (w.heap.size) 2 (.slice f0 b0 k0)) (fun gq h h2 => by have := o0 gq h; omega)) (show w.heap.size ≤ _ by omega))
 obtain ⟨Lx, t0⟩ := LvX.reads (((hx.keep (C1 (w.heap.size) 0 (.slice d0 c0 g0)) (fun gq h h2 => by have := (fun q (h : w3.heap.size + 1 ≤ q) => h) gq h; omega)).keep (C1 (w.heap.size) 1 (.slice e0 a0 j0)) (fun gq h h2 => by have := (fun q (h : w3.heap.size + 1 ≤ q) => h) gq h; omega)).keep (C1 (w.heap.size) 2 (.slice f0 b0 k0)) (fun gq h h2 => by have := (fun q (h : w3.heap.size + 1 ≤ q) => h) gq h; omega)); have p0 := Lib.hid t0; clear t0
 clear l0 hx
 obtain ⟨g1, j3, h1, k3, i1, l3⟩ := Bk.f3 m0 0 1 2 rfl rfl rfl
 obtain ⟨g3, m3, h3, n3, i3, o3⟩ := Bk.f3 n0 0 1 2 rfl rfl rfl
 have k2 := (Nc (b := (w.heap.size)) (j := 2) (Nc (b := (w.heap.size)) (j := 1) (Tc _ (w.heap.size) 0 (.slice d0 c0 g0) g1) (by omega) (.slice e0 a0 j0)) (by omega) (.slice f0 b0 k0))
 have l2 := (Nc (b := (w.heap.size)) (j := 2) (Tc _ (w.heap.size) 1 (.slice e0 a0 j0) (Nc (b := (w.heap.size)) (j := 0) h1 (by omega) (.slice d0 c0 g0))) (by omega) (.slice f0 b0 k0))
 have m2 := (Tc _ (w.heap.size) 2 (.slice f0 b0 k0) (Nc (b := (w.heap.size)) (j := 1) (Nc (b := (w.heap.size)) (j := 0) i1 (by omega) (.slice d0 c0 g0)) (by omega) (.slice e0 a0 j0)))
 have tt := True.intro
 go_wp2
 exact bodyPost_ret (v := .tuple #[.agg #[.slice d0 c0 g0, .slice e0 a0 j0, .slice f0 b0 k0], .slice (some ⟨gL, 0, none⟩) nr q9]) (by simp [results, Try.results34, go_sem, k2, l2, m2]) rfl (by exact by unfold DrawCLP; exact ⟨_, _, _, _, _, _, _, _, rfl, u0.out, ⟨by omega, by omega, by omega⟩, ⟨p0.out.1, by have := p0.out.2.1; omega, p0.out.2.2⟩, TB.out⟩)
end Go.Proofs.Ytkjedgnepnbkpaa
