/-
 Parts of the proofs of the laws FnCheckLive, FnCodeFenced, FnEraseCode, FnEraseSecret, FnFinalRegs, FnLiveRegister, FnLiveRegs, FnSpecPath.
-/
import Derived.Test.YtkjedgnepnbkpaaMV
import Derived.Test.YtkjedgnepnbkpaaMB
set_option linter.all false
namespace Go.Proofs.Ytkjedgnepnbkpaa
open Go.RowKit
theorem reg0_len : reg0.length = 14 := by simp [reg0]
set_option maxHeartbeats 12800000 in
set_option maxRecDepth 100000 in
theorem sStart_any (va vb vc vx vy : Value) (c : Cd) (m : Mm) (w : World) (hr : ReadsC w va vb vc c) (hx : Reads w 1 vx m.vals.length (ints m.vals)) (hy : Reads2 ints w vy m.arrs) (hl : m.vals.length ≤ 1048576) (hn : m.arrs.length ≤ 1048576) (hp : pre2 m.arrs m.arrs.length ≤ 1048576) :
  Calls Try.prog 74 #[.agg #[va, vb, vc], .agg #[vx, vy]] w fun e w' => ∃ p0 n0 t0 p1 n1 t1 p2 n2 t2, e = .returned (.tuple #[.agg #[.int .i64 0, .slice p0 n0 t0, .slice p1 n1 t1, .slice p2 n2 t2], .bool (goOk c m)]) ∧ (goOk c m = true → ∃ us, OwnMv w' w.heap.size (.slice p0 n0 t0) (.slice p1 n1 t1) (.slice p2 n2 t2) us reg0 m) ∧ Below w.heap.size w w' := by
 obtain ⟨a0, c0, a1, c1, a2, c2, rfl, rfl, rfl⟩ := hr.shape
 obtain ⟨a3, c3, rfl⟩ := reads_shape hx
 obtain ⟨a4, c4, rfl⟩ := hy.shape
 have y0 : Hid (goOk c m = (codeOk c && memOk c.vars.length c.arrays.length m)) := Lib.hid rfl
 generalize goOk c m = G at *
 have e2 := hr.a.2.1
 have f2 := hr.b.2.1
 have u1 := fun u => mk_int14 u
 obtain ⟨w1, e0⟩ : ∃ X, X = ((w.alloc (.cells #[.slice a0 c.vars.length c0, .slice a1 c.arrays.length c1, .slice a2 c.list.length c2] 26)).alloc (.cells #[.slice a3 m.vals.length c3, .slice a4 m.arrs.length c4] 37)).alloc (.cells #[.int .i64 0, .slice none 0 0, .slice none 0 0, .slice none 0 0] 39) := ⟨_, rfl⟩
 have f0 : Below w.heap.size w w1 := by rw [e0]; exact bal (bal (bal (Bs w) _) _) _
 have n0 : w1.cell? ⟨w.heap.size, 0, none⟩ = some (.slice a0 c.vars.length c0) := by rw [e0]; exact Ac (Ac (Wc rfl rfl) _) _
 have n1 : w1.cell? ⟨w.heap.size, 1, none⟩ = some (.slice a1 c.arrays.length c1) := by rw [e0]; exact Ac (Ac (Wc rfl rfl) _) _
 have n2 : w1.cell? ⟨w.heap.size, 2, none⟩ = some (.slice a2 c.list.length c2) := by rw [e0]; exact Ac (Ac (Wc rfl rfl) _) _
 have mx : w1.cell? ⟨w.heap.size + 1, 0, none⟩ = some (.slice a3 m.vals.length c3) := by rw [e0]; exact Ac (Wc (by simp) rfl) _
 have my : w1.cell? ⟨w.heap.size + 1, 1, none⟩ = some (.slice a4 m.arrs.length c4) := by rw [e0]; exact Ac (Wc (by simp) rfl) _
 have r0 : w1.cell? ⟨w.heap.size + 1 + 1, 0, none⟩ = some (.int .i64 0) := by rw [e0]; exact Wc (by simp) rfl
 have q0 : w1.frozen? ⟨w.heap.size + 1 + 1, 0, none⟩ = false := by rw [e0]; exact Fn (by simp)
 have r1 : w1.cell? ⟨w.heap.size + 1 + 1, 1, none⟩ = some (.slice none 0 0) := by rw [e0]; exact Wc (by simp) rfl
 have q1 : w1.frozen? ⟨w.heap.size + 1 + 1, 1, none⟩ = false := by rw [e0]; exact Fn (by simp)
 have r2 : w1.cell? ⟨w.heap.size + 1 + 1, 2, none⟩ = some (.slice none 0 0) := by rw [e0]; exact Wc (by simp) rfl
 have q2 : w1.frozen? ⟨w.heap.size + 1 + 1, 2, none⟩ = false := by rw [e0]; exact Fn (by simp)
 have r3 : w1.cell? ⟨w.heap.size + 1 + 1, 3, none⟩ = some (.slice none 0 0) := by rw [e0]; exact Wc (by simp) rfl
 have q3 : w1.frozen? ⟨w.heap.size + 1 + 1, 3, none⟩ = false := by rw [e0]; exact Fn (by simp)
 have HW := Lib.hid e0
 have y1 : w.heap.size + 3 ≤ w1.heap.size := by rw [e0]; simp
 have i0 := Lib.hid (fun W (hW : Below w1.heap.size w1 W) => l3Copy_any _ _ m W (hx.below (btr f0 hW)) (hy.below (btr f0 hW)) hl hn hp)
 have w0 := Lib.hid (fun W (hW : Below w1.heap.size w1 W) => l3Fits_any a0 a1 c.vars.length c.arrays.length c0 c1 _ _ m W (by omega) (by omega) (hx.below (btr f0 hW)) (hy.below (btr f0 hW)))
 have h0 := Lib.hid (fun W (hW : Below w1.heap.size w1 W) => sCodeValid_any _ _ _ c W (hr.below (btr f0 hW)))
 have km := Lc mx
 clear e0 hx hy hl hn hp hr
 go_enter Try.func74, Try.ntmps74
 go_upto_region 1 with (fail)
 rw [← HW.out]
 clear HW
 have g0 : codeOk c = false ∨ (codeOk c = true ∧ memOk c.vars.length c.arrays.length m = false) ∨ (codeOk c = true ∧ memOk c.vars.length c.arrays.length m = true) := by
  cases codeOk c <;> cases memOk c.vars.length c.arrays.length m <;> simp
 rcases g0 with hok | ⟨hok, hmo⟩ | ⟨hok, hmo⟩
 ·have HO := Lib.hid hok
  have k0 := Lib.hid (fun W (hW : Below w1.heap.size w1 W) => by have h := h0.out W hW; rw [hok] at h; exact h)
  clear hok h0
  have D := Below.drew (Bs w1)
  go_cut [15] (fun s wx => s = .bool true ∧ Below w1.heap.size w1 wx)
  case first =>
   go_region_with (go_at_call 57; refine (k0.out _ D).mono ?_; rintro e wa ⟨rfl, ba⟩)
   all_goals (go_wp2_with fail; go_meet; exact ⟨rfl, btr D ba⟩)
  obtain ⟨w2, rfl⟩ : ∃ W, W = wc := ⟨_, rfl⟩
  obtain ⟨rfl, b0⟩ := hcut
  have s0 := Kc b0 r0; have m0 := Kf b0 (Lc r0) q0
  have s1 := Kc b0 r1; have o0 := Kf b0 (Lc r1) q1
  have s2 := Kc b0 r2; have u0 := Kf b0 (Lc r2) q2
  have s3 := Kc b0 r3; have v0 := Kf b0 (Lc r3) q3
  have ks := Lc s0; have i1 := (b0).size
  have x0 := (Nc (b := (w.heap.size + 1 + 1)) (j := 3) (Nc (b := (w.heap.size + 1 + 1)) (j := 2) (Nc (b := (w.heap.size + 1 + 1)) (j := 1) (Tc _ (w.heap.size + 1 + 1) 0 (.int .i64 0) s0) (by omega) (.slice none 0 0)) (by omega) (.slice none 0 0)) (by omega) (.slice none 0 0))
  have x1 := (Nc (b := (w.heap.size + 1 + 1)) (j := 3) (Nc (b := (w.heap.size + 1 + 1)) (j := 2) (Tc _ (w.heap.size + 1 + 1) 1 (.slice none 0 0) (Nc (b := (w.heap.size + 1 + 1)) (j := 0) s1 (by omega) (.int .i64 0))) (by omega) (.slice none 0 0)) (by omega) (.slice none 0 0))
  have x2 := (Nc (b := (w.heap.size + 1 + 1)) (j := 3) (Tc _ (w.heap.size + 1 + 1) 2 (.slice none 0 0) (Nc (b := (w.heap.size + 1 + 1)) (j := 1) (Nc (b := (w.heap.size + 1 + 1)) (j := 0) s2 (by omega) (.int .i64 0)) (by omega) (.slice none 0 0))) (by omega) (.slice none 0 0))
  have x3 := (Tc _ (w.heap.size + 1 + 1) 3 (.slice none 0 0) (Nc (b := (w.heap.size + 1 + 1)) (j := 2) (Nc (b := (w.heap.size + 1 + 1)) (j := 1) (Nc (b := (w.heap.size + 1 + 1)) (j := 0) s3 (by omega) (.int .i64 0)) (by omega) (.slice none 0 0)) (by omega) (.slice none 0 0)))
  have zB := (bst (bst (bst (bst (btr f0 b0) (w.heap.size + 1 + 1) 0 (by omega) (.int .i64 0)) (w.heap.size + 1 + 1) 1 (by omega) (.slice none 0 0)) (w.heap.size + 1 + 1) 2 (by omega) (.slice none 0 0)) (w.heap.size + 1 + 1) 3 (by omega) (.slice none 0 0))
  have HF : Hid (G = false) := Lib.hid (by rw [y0.out, HO.out]; rfl)
  go_wp2
  exact bodyPost_ret (v := .tuple #[.agg #[.int .i64 0, .slice none 0 0, .slice none 0 0, .slice none 0 0], .bool false]) (by simp [results, Try.results74, go_sem, x0, x1, x2, x3]) rfl (by rw [HF.out]; exact ⟨_, _, _, _, _, _, _, _, _, rfl, fun h => (by cases h), zB⟩)
 ·have HO := Lib.hid hok; have HM := Lib.hid hmo
  have k0 := Lib.hid (fun W (hW : Below w1.heap.size w1 W) => by have h := h0.out W hW; rw [hok] at h; exact h)
  have z0 := Lib.hid (fun W (hW : Below w1.heap.size w1 W) => by have h := w0.out W hW; rw [hmo] at h; exact h)
  clear hok hmo h0 w0
  have D := Below.drew (Bs w1)
  go_cut [15] (fun s wx => s = .bool true ∧ Below w1.heap.size w1 wx)
  case first =>
   go_region_with (first | (go_at_call 57; refine (k0.out _ D).mono ?_; rintro e wa ⟨rfl, ba⟩; have n0a := Kc (btr D ba) n0; have n1a := Kc (btr D ba) n1; have n2a := Kc (btr D ba) n2; have d1 := Kc (btr D ba) mx; have m1 := Kc (btr D ba) my; have l1 := Lc n0a; have j1 := Lc d1) | (go_at_call 88; refine (l6Heads_any a0 a1 a2 c.vars.length c.arrays.length c.list.length c0 c1 c2 _).mono ?_; rintro e wb ⟨rfl, bb⟩; have f1 := Kc (btr (btr D ba) bb) mx; have o1 := Kc (btr (btr D ba) bb) my; have k1 := Lc f1) | (go_at_call 115; refine (z0.out _ (btr (btr D ba) bb)).mono ?_; rintro e wf ⟨rfl, bf⟩))
   all_goals (go_wp2_with fail; go_meet; exact ⟨rfl, btr (btr (btr D ba) bb) bf⟩)
  obtain ⟨w2, rfl⟩ : ∃ W, W = wc := ⟨_, rfl⟩
  obtain ⟨rfl, b0⟩ := hcut
  have s0 := Kc b0 r0; have m0 := Kf b0 (Lc r0) q0
  have s1 := Kc b0 r1; have o0 := Kf b0 (Lc r1) q1
  have s2 := Kc b0 r2; have u0 := Kf b0 (Lc r2) q2
  have s3 := Kc b0 r3; have v0 := Kf b0 (Lc r3) q3
  have ks := Lc s0; have i1 := (b0).size
  have x0 := (Nc (b := (w.heap.size + 1 + 1)) (j := 3) (Nc (b := (w.heap.size + 1 + 1)) (j := 2) (Nc (b := (w.heap.size + 1 + 1)) (j := 1) (Tc _ (w.heap.size + 1 + 1) 0 (.int .i64 0) s0) (by omega) (.slice none 0 0)) (by omega) (.slice none 0 0)) (by omega) (.slice none 0 0))
  have x1 := (Nc (b := (w.heap.size + 1 + 1)) (j := 3) (Nc (b := (w.heap.size + 1 + 1)) (j := 2) (Tc _ (w.heap.size + 1 + 1) 1 (.slice none 0 0) (Nc (b := (w.heap.size + 1 + 1)) (j := 0) s1 (by omega) (.int .i64 0))) (by omega) (.slice none 0 0)) (by omega) (.slice none 0 0))
  have x2 := (Nc (b := (w.heap.size + 1 + 1)) (j := 3) (Tc _ (w.heap.size + 1 + 1) 2 (.slice none 0 0) (Nc (b := (w.heap.size + 1 + 1)) (j := 1) (Nc (b := (w.heap.size + 1 + 1)) (j := 0) s2 (by omega) (.int .i64 0)) (by omega) (.slice none 0 0))) (by omega) (.slice none 0 0))
  have x3 := (Tc _ (w.heap.size + 1 + 1) 3 (.slice none 0 0) (Nc (b := (w.heap.size + 1 + 1)) (j := 2) (Nc (b := (w.heap.size + 1 + 1)) (j := 1) (Nc (b := (w.heap.size + 1 + 1)) (j := 0) s3 (by omega) (.int .i64 0)) (by omega) (.slice none 0 0)) (by omega) (.slice none 0 0)))
  have zB := (bst (bst (bst (bst (btr f0 b0) (w.heap.size + 1 + 1) 0 (by omega) (.int .i64 0)) (w.heap.size + 1 + 1) 1 (by omega) (.slice none 0 0)) (w.heap.size + 1 + 1) 2 (by omega) (.slice none 0 0)) (w.heap.size + 1 + 1) 3 (by omega) (.slice none 0 0))
  have HF : Hid (G = false) := Lib.hid (by rw [y0.out, HO.out, HM.out]; rfl)
  go_wp2
  exact bodyPost_ret (v := .tuple #[.agg #[.int .i64 0, .slice none 0 0, .slice none 0 0, .slice none 0 0], .bool false]) (by simp [results, Try.results74, go_sem, x0, x1, x2, x3]) rfl (by rw [HF.out]; exact ⟨_, _, _, _, _, _, _, _, _, rfl, fun h => (by cases h), zB⟩)
 have HG : Hid (G = true) := Lib.hid (by rw [y0.out, hok, hmo]; rfl)
 have k0 := Lib.hid (fun W (hW : Below w1.heap.size w1 W) => by have h := h0.out W hW; rw [hok] at h; exact h)
 have z0 := Lib.hid (fun W (hW : Below w1.heap.size w1 W) => by have h := w0.out W hW; rw [hmo] at h; exact h)
 clear hok hmo h0 w0
 have D := Below.drew (Bs w1)
 go_cut [15] (fun s wx => s = .bool false ∧ Below w1.heap.size w1 wx)
 case first =>
  go_region_with (first | (go_at_call 57; refine (k0.out _ D).mono ?_; rintro e wa ⟨rfl, ba⟩; have n0a := Kc (btr D ba) n0; have n1a := Kc (btr D ba) n1; have n2a := Kc (btr D ba) n2; have d1 := Kc (btr D ba) mx; have m1 := Kc (btr D ba) my; have l1 := Lc n0a; have j1 := Lc d1) | (go_at_call 88; refine (l6Heads_any a0 a1 a2 c.vars.length c.arrays.length c.list.length c0 c1 c2 _).mono ?_; rintro e wb ⟨rfl, bb⟩; have f1 := Kc (btr (btr D ba) bb) mx; have o1 := Kc (btr (btr D ba) bb) my; have k1 := Lc f1) | (go_at_call 115; refine (z0.out _ (btr (btr D ba) bb)).mono ?_; rintro e wf ⟨rfl, bf⟩))
  all_goals (go_wp2_with fail; go_meet; exact ⟨rfl, btr (btr (btr D ba) bb) bf⟩)
 obtain ⟨w2, rfl⟩ : ∃ W, W = wc := ⟨_, rfl⟩
 obtain ⟨rfl, b0⟩ := hcut
 have z1 := b0.size
 replace mx := Kc b0 mx; replace my := Kc b0 my
 have j0 := Lib.hid (fun W (hW : Below w2.heap.size w2 W) => i0.out W (btr b0 hW))
 clear i0 n0 n1 n2 km
 have i0 := j0
 clear j0
 go_upto_region 3 with (fail)
 refine wp_region_noPanic ?_
 refine wp_region_held_drew (S := (fun W' => W'.cell? ⟨(w.heap.size + 1), 0, none⟩ = some (.slice a3 m.vals.length c3) ∧ W'.cell? ⟨(w.heap.size + 1), 1, none⟩ = some (.slice a4 m.arrs.length c4))) (by kernel_rfl) ⟨Kc (Below.drew (Bs w2)) mx, Kc (Below.drew (Bs w2)) my⟩ (fun hHeld => ?_)
 obtain ⟨wd, b1⟩ : ∃ X, X = World.drew w2 := ⟨_, rfl⟩
 rw [← b1] at hHeld ⊢
 have D : Below w2.heap.size w2 wd := by rw [b1]; exact Below.drew (Bs _)
 clear b1
 have b2 := D.size
 replace mx := Kc D mx; replace my := Kc D my; have d2 := Lc mx
 refine tq 1 18 rfl rfl ?_ ?_ ?_
 rotate_left
 ·intro W' hSw; (try dsimp only at hSw); obtain ⟨s0, s1⟩ := hSw; go_simp; try with_reducible rfl
 try simp only [Ep]
 refine Rdy2 0 2 rfl rfl (fun K hK => ?_) (fun K hK => ?_)
 ·go_simp
  obtain ⟨v1, hv⟩ : ∃ X, X = World.alloc wd (.cells (madeCells #[.int .i64 0] 14) 3) := ⟨_, rfl⟩
  try rw [← hv]
  have oR := own_made wd (.int .i64 0) 14 3 (by unfold maxLen; omega)
  rw [← ints_replicate, ← hv] at oR
  have BM : Below wd.heap.size wd v1 := by rw [hv]; exact bal (Bs _) _
  have h1 : wd.heap.size + 1 ≤ v1.heap.size := by rw [hv]; simp
  clear hv
  replace mx := Kc BM mx; replace my := Kc BM my
  refine hK.out _ _ ⟨mx, my⟩ (fun hHeld => ?_)
  clear hK K
  try simp only [Ep]
  refine Rdy 2 rfl (fun K hK => ?_)
  go_simp
  refine (i0.out _ (btr D BM)).mono ?_
  rintro e v2 ⟨ux, uy, us, rfl, ox, oy, l0, BC⟩
  obtain ⟨px, tx, rfl⟩ := Oh ox
  obtain ⟨py, ty, rfl⟩ := Oh oy.out
  have g1 := BC.size; have ix := ox.lt; have iy := oy.lt
  replace mx := Kc BC mx; replace my := Kc BC my
  replace oR := Ob oR BC
  have OM : OwnMv v2 w2.heap.size (.slice (some ⟨wd.heap.size, 0, none⟩) 14 14) (.slice px m.vals.length tx) (.slice py m.arrs.length ty) us reg0 m := ⟨Om oR (by omega), Om ox (by omega), oy.mono (by omega), fun q h h2 => by have e1 : wd.heap.size = q := Option.some.inj h; have := ix q h2; omega, fun q h h2 => by have e1 : wd.heap.size = q := Option.some.inj h; have := iy q h2; omega, l0⟩
  have BB := btr D (btr BM BC)
  clear oR ox oy l0 ix iy BM BC D
  refine hK.out _ _ ⟨mx, my⟩ (fun hHeld => ?_)
  clear hK K
  try simp only [Ep]
  refine tq 3 20 rfl rfl ?_ ?_ ?_
  rotate_left
  ·intro W' hSw; (try dsimp only at hSw); obtain ⟨s0, s1⟩ := hSw; go_simp; try with_reducible rfl
  try simp only [Ep]
  have d0 := btr b0 BB
  have s0 := Kc d0 r0; have m0 := Kf d0 (Lc r0) q0
  have s1 := Kc d0 r1; have o0 := Kf d0 (Lc r1) q1
  have s2 := Kc d0 r2; have u0 := Kf d0 (Lc r2) q2
  have s3 := Kc d0 r3; have v0 := Kf d0 (Lc r3) q3
  have iM := OM.lt; have ks := Lc s0
  have x0 := (Nc (b := (w.heap.size + 1 + 1)) (j := 3) (Nc (b := (w.heap.size + 1 + 1)) (j := 2) (Nc (b := (w.heap.size + 1 + 1)) (j := 1) (Tc _ (w.heap.size + 1 + 1) 0 (.int .i64 0) s0) (by omega) (.slice (some ⟨wd.heap.size, 0, none⟩) 14 14)) (by omega) (.slice px m.vals.length tx)) (by omega) (.slice py m.arrs.length ty))
  have x1 := (Nc (b := (w.heap.size + 1 + 1)) (j := 3) (Nc (b := (w.heap.size + 1 + 1)) (j := 2) (Tc _ (w.heap.size + 1 + 1) 1 (.slice (some ⟨wd.heap.size, 0, none⟩) 14 14) (Nc (b := (w.heap.size + 1 + 1)) (j := 0) s1 (by omega) (.int .i64 0))) (by omega) (.slice px m.vals.length tx)) (by omega) (.slice py m.arrs.length ty))
  have x2 := (Nc (b := (w.heap.size + 1 + 1)) (j := 3) (Tc _ (w.heap.size + 1 + 1) 2 (.slice px m.vals.length tx) (Nc (b := (w.heap.size + 1 + 1)) (j := 1) (Nc (b := (w.heap.size + 1 + 1)) (j := 0) s2 (by omega) (.int .i64 0)) (by omega) (.slice (some ⟨wd.heap.size, 0, none⟩) 14 14))) (by omega) (.slice py m.arrs.length ty))
  have x3 := (Tc _ (w.heap.size + 1 + 1) 3 (.slice py m.arrs.length ty) (Nc (b := (w.heap.size + 1 + 1)) (j := 2) (Nc (b := (w.heap.size + 1 + 1)) (j := 1) (Nc (b := (w.heap.size + 1 + 1)) (j := 0) s3 (by omega) (.int .i64 0)) (by omega) (.slice (some ⟨wd.heap.size, 0, none⟩) 14 14)) (by omega) (.slice px m.vals.length tx)))
  have yM := ((((OM.far (w.heap.size + 1 + 1) 0 (.int .i64 0) (fun h => by have := iM _ h; omega)).far (w.heap.size + 1 + 1) 1 (.slice (some ⟨wd.heap.size, 0, none⟩) 14 14) (fun h => by have := iM _ h; omega)).far (w.heap.size + 1 + 1) 2 (.slice px m.vals.length tx) (fun h => by have := iM _ h; omega)).far (w.heap.size + 1 + 1) 3 (.slice py m.arrs.length ty) (fun h => by have := iM _ h; omega))
  have zB := (bst (bst (bst (bst (btr f0 d0) (w.heap.size + 1 + 1) 0 (by omega) (.int .i64 0)) (w.heap.size + 1 + 1) 1 (by omega) (.slice (some ⟨wd.heap.size, 0, none⟩) 14 14)) (w.heap.size + 1 + 1) 2 (by omega) (.slice px m.vals.length tx)) (w.heap.size + 1 + 1) 3 (by omega) (.slice py m.arrs.length ty))
  refine Rdy 4 rfl (fun K hK => ?_)
  go_simp
  refine hK.out _ _ ⟨(Nc (b := (w.heap.size + 1 + 1)) (j := 3) (Nc (b := (w.heap.size + 1 + 1)) (j := 2) (Nc (b := (w.heap.size + 1 + 1)) (j := 1) (Nc (b := (w.heap.size + 1 + 1)) (j := 0) mx (by omega) (.int .i64 0)) (by omega) (.slice (some ⟨wd.heap.size, 0, none⟩) 14 14)) (by omega) (.slice px m.vals.length tx)) (by omega) (.slice py m.arrs.length ty)), (Nc (b := (w.heap.size + 1 + 1)) (j := 3) (Nc (b := (w.heap.size + 1 + 1)) (j := 2) (Nc (b := (w.heap.size + 1 + 1)) (j := 1) (Nc (b := (w.heap.size + 1 + 1)) (j := 0) my (by omega) (.int .i64 0)) (by omega) (.slice (some ⟨wd.heap.size, 0, none⟩) 14 14)) (by omega) (.slice px m.vals.length tx)) (by omega) (.slice py m.arrs.length ty))⟩ (fun hHeld => ?_)
  clear hK K
  try simp only [Ep]
  refine Rdy 5 rfl (fun K hK => ?_)
  go_simp
  refine hK.out _ _ hHeld (fun hHeld => ?_)
  clear hK K
  try simp only [Ep]
  refine wpAnyH_done (by kernel_rfl) ?_ _
  refine NoPanic.normal ?_
  clear hHeld s0 s1 s2 s3 m0 o0 u0 v0 mx my OM BB d0
  go_wp2
  exact bodyPost_ret (v := .tuple #[.agg #[.int .i64 0, .slice (some ⟨wd.heap.size, 0, none⟩) 14 14, .slice px m.vals.length tx, .slice py m.arrs.length ty], .bool true]) (by simp [results, Try.results74, go_sem, x0, x1, x2, x3]) rfl (by rw [HG.out]; exact ⟨_, _, _, _, _, _, _, _, _, rfl, fun _ => ⟨us, yM.mono (by omega)⟩, zB⟩)
 go_simp
 refine (i0.out _ D).mono ?_
 rintro e v1 ⟨ux, uy, us, rfl, ox, oy, l0, BC⟩
 obtain ⟨px, tx, rfl⟩ := Oh ox
 obtain ⟨py, ty, rfl⟩ := Oh oy.out
 have g1 := BC.size; have ix := ox.lt; have iy := oy.lt
 replace mx := Kc BC mx; replace my := Kc BC my
 refine hK.out _ _ ⟨mx, my⟩ (fun hHeld => ?_)
 clear hK K
 try simp only [Ep]
 refine Rdy 0 rfl (fun K hK => ?_)
 go_simp
 obtain ⟨v2, hv⟩ : ∃ X, X = World.alloc v1 (.cells (madeCells #[.int .i64 0] 14) 3) := ⟨_, rfl⟩
 try rw [← hv]
 have oR := own_made v1 (.int .i64 0) 14 3 (by unfold maxLen; omega)
 rw [← ints_replicate, ← hv] at oR
 have BM : Below v1.heap.size v1 v2 := by rw [hv]; exact bal (Bs _) _
 have h1 : v1.heap.size + 1 ≤ v2.heap.size := by rw [hv]; simp
 clear hv
 replace mx := Kc BM mx; replace my := Kc BM my
 replace ox := Ob ox BM; replace oy := oy.below BM
 have OM : OwnMv v2 w2.heap.size (.slice (some ⟨v1.heap.size, 0, none⟩) 14 14) (.slice px m.vals.length tx) (.slice py m.arrs.length ty) us reg0 m := ⟨Om oR (by omega), Om ox (by omega), oy.mono (by omega), fun q h h2 => by have e1 : v1.heap.size = q := Option.some.inj h; have := ix q h2; omega, fun q h h2 => by have e1 : v1.heap.size = q := Option.some.inj h; have := iy q h2; omega, l0⟩
 have BB := btr D (btr BC BM)
 clear oR ox oy l0 ix iy BM BC D
 refine hK.out _ _ ⟨mx, my⟩ (fun hHeld => ?_)
 clear hK K
 try simp only [Ep]
 refine tq 3 20 rfl rfl ?_ ?_ ?_
 rotate_left
 ·intro W' hSw; (try dsimp only at hSw); obtain ⟨s0, s1⟩ := hSw; go_simp; try with_reducible rfl
 try simp only [Ep]
 have d0 := btr b0 BB
 have s0 := Kc d0 r0; have m0 := Kf d0 (Lc r0) q0
 have s1 := Kc d0 r1; have o0 := Kf d0 (Lc r1) q1
 have s2 := Kc d0 r2; have u0 := Kf d0 (Lc r2) q2
 have s3 := Kc d0 r3; have v0 := Kf d0 (Lc r3) q3
 have iM := OM.lt; have ks := Lc s0
 have x0 := (Nc (b := (w.heap.size + 1 + 1)) (j := 3) (Nc (b := (w.heap.size + 1 + 1)) (j := 2) (Nc (b := (w.heap.size + 1 + 1)) (j := 1) (Tc _ (w.heap.size + 1 + 1) 0 (.int .i64 0) s0) (by omega) (.slice (some ⟨v1.heap.size, 0, none⟩) 14 14)) (by omega) (.slice px m.vals.length tx)) (by omega) (.slice py m.arrs.length ty))
 have x1 := (Nc (b := (w.heap.size + 1 + 1)) (j := 3) (Nc (b := (w.heap.size + 1 + 1)) (j := 2) (Tc _ (w.heap.size + 1 + 1) 1 (.slice (some ⟨v1.heap.size, 0, none⟩) 14 14) (Nc (b := (w.heap.size + 1 + 1)) (j := 0) s1 (by omega) (.int .i64 0))) (by omega) (.slice px m.vals.length tx)) (by omega) (.slice py m.arrs.length ty))
 have x2 := (Nc (b := (w.heap.size + 1 + 1)) (j := 3) (Tc _ (w.heap.size + 1 + 1) 2 (.slice px m.vals.length tx) (Nc (b := (w.heap.size + 1 + 1)) (j := 1) (Nc (b := (w.heap.size + 1 + 1)) (j := 0) s2 (by omega) (.int .i64 0)) (by omega) (.slice (some ⟨v1.heap.size, 0, none⟩) 14 14))) (by omega) (.slice py m.arrs.length ty))
 have x3 := (Tc _ (w.heap.size + 1 + 1) 3 (.slice py m.arrs.length ty) (Nc (b := (w.heap.size + 1 + 1)) (j := 2) (Nc (b := (w.heap.size + 1 + 1)) (j := 1) (Nc (b := (w.heap.size + 1 + 1)) (j := 0) s3 (by omega) (.int .i64 0)) (by omega) (.slice (some ⟨v1.heap.size, 0, none⟩) 14 14)) (by omega) (.slice px m.vals.length tx)))
 have yM := ((((OM.far (w.heap.size + 1 + 1) 0 (.int .i64 0) (fun h => by have := iM _ h; omega)).far (w.heap.size + 1 + 1) 1 (.slice (some ⟨v1.heap.size, 0, none⟩) 14 14) (fun h => by have := iM _ h; omega)).far (w.heap.size + 1 + 1) 2 (.slice px m.vals.length tx) (fun h => by have := iM _ h; omega)).far (w.heap.size + 1 + 1) 3 (.slice py m.arrs.length ty) (fun h => by have := iM _ h; omega))
 have zB := (bst (bst (bst (bst (btr f0 d0) (w.heap.size + 1 + 1) 0 (by omega) (.int .i64 0)) (w.heap.size + 1 + 1) 1 (by omega) (.slice (some ⟨v1.heap.size, 0, none⟩) 14 14)) (w.heap.size + 1 + 1) 2 (by omega) (.slice px m.vals.length tx)) (w.heap.size + 1 + 1) 3 (by omega) (.slice py m.arrs.length ty))
 refine Rdy 4 rfl (fun K hK => ?_)
 go_simp
 refine hK.out _ _ ⟨(Nc (b := (w.heap.size + 1 + 1)) (j := 3) (Nc (b := (w.heap.size + 1 + 1)) (j := 2) (Nc (b := (w.heap.size + 1 + 1)) (j := 1) (Nc (b := (w.heap.size + 1 + 1)) (j := 0) mx (by omega) (.int .i64 0)) (by omega) (.slice (some ⟨v1.heap.size, 0, none⟩) 14 14)) (by omega) (.slice px m.vals.length tx)) (by omega) (.slice py m.arrs.length ty)), (Nc (b := (w.heap.size + 1 + 1)) (j := 3) (Nc (b := (w.heap.size + 1 + 1)) (j := 2) (Nc (b := (w.heap.size + 1 + 1)) (j := 1) (Nc (b := (w.heap.size + 1 + 1)) (j := 0) my (by omega) (.int .i64 0)) (by omega) (.slice (some ⟨v1.heap.size, 0, none⟩) 14 14)) (by omega) (.slice px m.vals.length tx)) (by omega) (.slice py m.arrs.length ty))⟩ (fun hHeld => ?_)
 clear hK K
 try simp only [Ep]
 refine Rdy 5 rfl (fun K hK => ?_)
 go_simp
 refine hK.out _ _ hHeld (fun hHeld => ?_)
 clear hK K
 try simp only [Ep]
 refine wpAnyH_done (by kernel_rfl) ?_ _
 refine NoPanic.normal ?_
 clear hHeld s0 s1 s2 s3 m0 o0 u0 v0 mx my OM BB d0
 go_wp2
 exact bodyPost_ret (v := .tuple #[.agg #[.int .i64 0, .slice (some ⟨v1.heap.size, 0, none⟩) 14 14, .slice px m.vals.length tx, .slice py m.arrs.length ty], .bool true]) (by simp [results, Try.results74, go_sem, x0, x1, x2, x3]) rfl (by rw [HG.out]; exact ⟨_, _, _, _, _, _, _, _, _, rfl, fun _ => ⟨us, yM.mono (by omega)⟩, zB⟩)
end Go.Proofs.Ytkjedgnepnbkpaa
