/-
 Parts of the proofs of the laws FnCheckLive, FnCodeFenced, FnEraseCode, FnEraseSecret, FnFinalRegs, FnLiveRegister, FnLiveRegs, FnSpecPath.
-/
import Derived.Test.YtkjedgnepnbkpaaSC
set_option maxHeartbeats 12800000
set_option maxRecDepth 100000
set_option linter.all false
namespace Go.Proofs.Ytkjedgnepnbkpaa
open Go.RowKit
def spathR (c : Cd) (s : Ms) : List Ev × Bool := if mvOk c s = true then (pathE c s, true) else ([], false)
theorem spath_no {c : Cd} {s : Ms} (h : mvOk c s = false) : spathR c s = ([], false) := by unfold spathR; rw [h]; rfl
theorem spath_yes {c : Cd} {s : Ms} (h : mvOk c s = true) : spathR c s = (pathE c s, true) := by unfold spathR; rw [h]; rfl
theorem spathR_len (c : Cd) (s : Ms) : (spathR c s).1.length ≤ 8 := by
 cases h : mvOk c s with
 | false => rw [spath_no h]; simp
 | true => rw [spath_yes h]; exact pathE_len c s
theorem iSpecPath_any (va vb vc vr vx vy : Value) (c : Cd) (s : Ms) (w : World) (hr : ReadsC w va vb vc c) (hs : ReadsS w vr vx vy s) (h0 : s.regs.length ≤ 1048576) (hl : s.mem.vals.length ≤ 1048576) (hn : s.mem.arrs.length ≤ 1048576) (hp : pre2 s.mem.arrs s.mem.arrs.length ≤ 1048576) :
  Calls Try.prog 18 #[.agg #[va, vb, vc], .agg #[.int .i64 s.pc, vr, vx, vy]] w fun e w' => ∃ u, e = .returned (.tuple #[u, .bool (spathR c s).2]) ∧ w'.ownsRow w.heap.size 47 2 u (spathR c s).1.length (evs (spathR c s).1) ∧ Below w.heap.size w w' := by
 have n1 := hr.lt
 obtain ⟨a0, c0, a1, c1, a2, c2, rfl, rfl, rfl⟩ := hr.shape
 obtain ⟨a5, c5, rfl⟩ := reads_shape hs.r
 obtain ⟨a3, c3, a4, c4, rfl, rfl⟩ := hs.m.shape
 have HR := Lib.hid (fun W (hW : Below w.heap.size w W) => hr.below hW); have HS := Lib.hid (fun W (hW : Below w.heap.size w W) => hs.below hW)
 have g0 := Lib.hid (fun W (hW : Below w.heap.size w W) => iMValid_any _ _ _ _ _ _ c s W (HR.out W hW) (HS.out W hW))
 have i0 := Lib.hid (fun h => mvOk_ok (c := c) (s := s) h)
 have k0 := Lib.hid (fun h => spath_no (c := c) (s := s) h); have l0 := Lib.hid (fun h => spath_yes (c := c) (s := s) h)
 have f1 := Lib.hid h0; have g1 := Lib.hid hl; have h1 := Lib.hid hn; have i1 := Lib.hid hp
 clear hr hs h0 hl hn hp
 generalize spathR c s = R at *
 cases hv : mvOk c s with
 | false =>
  have j0 := Lib.hid (k0.out hv)
  have b0 := Lib.hid (fun W hW => by have h := g0.out W hW; rw [hv] at h; exact h)
  clear g0 i0 k0 l0 hv
  go_enter Try.func18, Try.ntmps18
  go_wp2_with fail
  refine (b0.out _ (bal (bal (Bs w) (.cells #[.slice a0 c.vars.length c0, .slice a1 c.arrays.length c1, .slice a2 c.list.length c2] 26)) (.cells #[.int .i64 s.pc, .slice a5 s.regs.length c5, .slice a3 s.mem.vals.length c3, .slice a4 s.mem.arrs.length c4] 39))).mono ?_
  rintro e w1 ⟨rfl, hb⟩
  have m0 := hb.size
  simp only [Sa] at m0
  have j1 : Bk w1 (w.heap.size) [.slice a0 c.vars.length c0, .slice a1 c.arrays.length c1, .slice a2 c.list.length c2] := Bk.below (Bk.al (Bk.nw (by simp) rfl) (.cells #[.int .i64 s.pc, .slice a5 s.regs.length c5, .slice a3 s.mem.vals.length c3, .slice a4 s.mem.arrs.length c4] 39)) hb
  have k1 : Bk w1 (w.heap.size + 1) [.int .i64 s.pc, .slice a5 s.regs.length c5, .slice a3 s.mem.vals.length c3, .slice a4 s.mem.arrs.length c4] := Bk.below (Bk.nw (by simp) rfl) hb
  have d0 := btr (bal (bal (Bs w) (.cells #[.slice a0 c.vars.length c0, .slice a1 c.arrays.length c1, .slice a2 c.list.length c2] 26)) (.cells #[.int .i64 s.pc, .slice a5 s.regs.length c5, .slice a3 s.mem.vals.length c3, .slice a4 s.mem.arrs.length c4] 39)) hb
  clear hb
  have o1 := Bk.lz j1
  have p1 := Bk.lz k1
  have tt := d0
  go_wp2
  exact bodyPost_ret (v := .tuple #[.slice none 0 0, .bool false]) (by simp [results, Try.results18, go_sem]) rfl (by exact by rw [j0.out]; exact ⟨_, rfl, World.ownsRow_nil _ _ _ _, tt⟩)
 | true =>
  have j0 := Lib.hid (l0.out hv)
  have b0 := Lib.hid (fun W hW => by have h := g0.out W hW; rw [hv] at h; exact h)
  have HK := Lib.hid (i0.out hv)
  clear g0 i0 k0 l0 hv
  go_enter Try.func18, Try.ntmps18
  go_wp2_with fail
  refine (b0.out _ (bal (bal (Bs w) (.cells #[.slice a0 c.vars.length c0, .slice a1 c.arrays.length c1, .slice a2 c.list.length c2] 26)) (.cells #[.int .i64 s.pc, .slice a5 s.regs.length c5, .slice a3 s.mem.vals.length c3, .slice a4 s.mem.arrs.length c4] 39))).mono ?_
  rintro e w1 ⟨rfl, hb⟩
  have n0 := hb.size
  simp only [Sa] at n0
  have e0 : Bk w1 (w.heap.size) [.slice a0 c.vars.length c0, .slice a1 c.arrays.length c1, .slice a2 c.list.length c2] := Bk.below (Bk.al (Bk.nw (by simp) rfl) (.cells #[.int .i64 s.pc, .slice a5 s.regs.length c5, .slice a3 s.mem.vals.length c3, .slice a4 s.mem.arrs.length c4] 39)) hb
  have f0 : Bk w1 (w.heap.size + 1) [.int .i64 s.pc, .slice a5 s.regs.length c5, .slice a3 s.mem.vals.length c3, .slice a4 s.mem.arrs.length c4] := Bk.below (Bk.nw (by simp) rfl) hb
  have d0 := btr (bal (bal (Bs w) (.cells #[.slice a0 c.vars.length c0, .slice a1 c.arrays.length c1, .slice a2 c.list.length c2] 26)) (.cells #[.int .i64 s.pc, .slice a5 s.regs.length c5, .slice a3 s.mem.vals.length c3, .slice a4 s.mem.arrs.length c4] 39)) hb
  clear hb
  have q1 := Bk.lz e0
  have m1 := Bk.lz f0
  obtain ⟨o0, v0, p0, w0, q0, x0⟩ := Bk.f3 e0 0 1 2 rfl rfl rfl
  obtain ⟨r0, y0, s0, z0, t0, b1, u0, d1⟩ := Bk.f4 f0 0 1 2 3 rfl rfl rfl rfl
  go_wp2_with fail
  refine (iPath_any _ _ _ _ _ _ c s _ (HR.out _ d0) (HS.out _ d0) f1.out g1.out h1.out i1.out HK.out.2 HK.out.1).mono ?_
  rintro e w2 ⟨u, rfl, oU, hb⟩
  obtain ⟨pu, tu, rfl⟩ := Oh oU
  have e1 := hb.size
  clear v0 o0 w0 p0 x0 q0 y0 r0 z0 s0 b1 t0 d1 u0
  replace e0 := Bk.below e0 hb
  replace f0 := Bk.below f0 hb
  replace d0 := btr d0 hb
  clear hb
  clear e0 f0
  have l1 := oU.lt
  have tt := d0
  go_wp2
  exact bodyPost_ret (v := .tuple #[.slice pu ((pathE c s).length) tu, .bool true]) (by simp [results, Try.results18, go_sem]) rfl (by exact by rw [j0.out]; exact ⟨_, rfl, Om oU (by omega), tt⟩)
theorem sSpecPath_any (va vb vc vr vx vy : Value) (c : Cd) (s : Ms) (w : World) (hr : ReadsC w va vb vc c) (hs : ReadsS w vr vx vy s) (h0 : s.regs.length ≤ 1048576) (hl : s.mem.vals.length ≤ 1048576) (hn : s.mem.arrs.length ≤ 1048576) (hp : pre2 s.mem.arrs s.mem.arrs.length ≤ 1048576) :
  Calls Try.prog 19 #[.agg #[va, vb, vc], .agg #[.int .i64 s.pc, vr, vx, vy]] w fun e w' => ∃ u, e = .returned (.tuple #[u, .bool (spathR c s).2]) ∧ w'.ownsRow w.heap.size 47 2 u (spathR c s).1.length (evs (spathR c s).1) ∧ Below w.heap.size w w' := by
 have r1 := hr.lt
 obtain ⟨a0, c0, a1, c1, a2, c2, rfl, rfl, rfl⟩ := hr.shape
 obtain ⟨a5, c5, rfl⟩ := reads_shape hs.r
 obtain ⟨a3, c3, a4, c4, rfl, rfl⟩ := hs.m.shape
 have HR := Lib.hid (fun W (hW : Below w.heap.size w W) => hr.below hW); have HS := Lib.hid (fun W (hW : Below w.heap.size w W) => hs.below hW)
 have w0 := Lib.hid (fun W (hW : Below w.heap.size w W) => sMValid_any _ _ _ _ _ _ c s W (HR.out W hW) (HS.out W hW))
 have x0 := Lib.hid (fun h => mvOk_ok (c := c) (s := s) h)
 have z0 := Lib.hid (fun h => spath_no (c := c) (s := s) h); have b1 := Lib.hid (fun h => spath_yes (c := c) (s := s) h)
 have j1 := Lib.hid h0; have k1 := Lib.hid hl; have l1 := Lib.hid hn; have m1 := Lib.hid hp
 clear hr hs h0 hl hn hp
 generalize spathR c s = R at *
 cases hv : mvOk c s with
 | false =>
  have y0 := Lib.hid (z0.out hv)
  have u0 := Lib.hid (fun W hW => by have h := w0.out W hW; rw [hv] at h; exact h)
  clear w0 x0 z0 b1 hv
  go_enter Try.func19, Try.ntmps19
  go_wp2_with fail
  refine (u0.out _ (bal (bal (Bs w) (.cells #[.slice a0 c.vars.length c0, .slice a1 c.arrays.length c1, .slice a2 c.list.length c2] 26)) (.cells #[.int .i64 s.pc, .slice a5 s.regs.length c5, .slice a3 s.mem.vals.length c3, .slice a4 s.mem.arrs.length c4] 39))).mono ?_
  rintro e w1 ⟨rfl, hb⟩
  have d1 := hb.size
  simp only [Sa] at d1
  have o1 : Bk w1 (w.heap.size) [.slice a0 c.vars.length c0, .slice a1 c.arrays.length c1, .slice a2 c.list.length c2] := Bk.below (Bk.al (Bk.nw (by simp) rfl) (.cells #[.int .i64 s.pc, .slice a5 s.regs.length c5, .slice a3 s.mem.vals.length c3, .slice a4 s.mem.arrs.length c4] 39)) hb
  have p1 : Bk w1 (w.heap.size + 1) [.int .i64 s.pc, .slice a5 s.regs.length c5, .slice a3 s.mem.vals.length c3, .slice a4 s.mem.arrs.length c4] := Bk.below (Bk.nw (by simp) rfl) hb
  have r0 := btr (bal (bal (Bs w) (.cells #[.slice a0 c.vars.length c0, .slice a1 c.arrays.length c1, .slice a2 c.list.length c2] 26)) (.cells #[.int .i64 s.pc, .slice a5 s.regs.length c5, .slice a3 s.mem.vals.length c3, .slice a4 s.mem.arrs.length c4] 39)) hb
  clear hb
  have u1 := Bk.lz o1
  have v1 := Bk.lz p1
  have ef := (World.ownsRow_lit (base := (w1).heap.size) (e := 47) (size := 2) (w1) #[] 0 (Nat.le_refl _) (by unfold maxLen; omega) (by simp))
  try simp only [Sa, Ss] at ef
  have tt := (bal r0 (.cells #[] 47))
  go_wp2
  exact bodyPost_ret (v := .tuple #[.slice (some ⟨w1.heap.size, 0, none⟩) 0 0, .bool false]) (by simp [results, Try.results19, go_sem]) rfl (by exact by rw [y0.out]; exact ⟨_, rfl, Om ef (by omega), tt⟩)
 | true =>
  have y0 := Lib.hid (b1.out hv)
  have u0 := Lib.hid (fun W hW => by have h := w0.out W hW; rw [hv] at h; exact h)
  have HK := Lib.hid (x0.out hv)
  clear w0 x0 z0 b1 hv
  go_enter Try.func19, Try.ntmps19
  go_wp2_with fail
  refine (u0.out _ (bal (bal (Bs w) (.cells #[.slice a0 c.vars.length c0, .slice a1 c.arrays.length c1, .slice a2 c.list.length c2] 26)) (.cells #[.int .i64 s.pc, .slice a5 s.regs.length c5, .slice a3 s.mem.vals.length c3, .slice a4 s.mem.arrs.length c4] 39))).mono ?_
  rintro e w1 ⟨rfl, hb⟩
  have e1 := hb.size
  simp only [Sa] at e1
  have s0 : Bk w1 (w.heap.size) [.slice a0 c.vars.length c0, .slice a1 c.arrays.length c1, .slice a2 c.list.length c2] := Bk.below (Bk.al (Bk.nw (by simp) rfl) (.cells #[.int .i64 s.pc, .slice a5 s.regs.length c5, .slice a3 s.mem.vals.length c3, .slice a4 s.mem.arrs.length c4] 39)) hb
  have t0 : Bk w1 (w.heap.size + 1) [.int .i64 s.pc, .slice a5 s.regs.length c5, .slice a3 s.mem.vals.length c3, .slice a4 s.mem.arrs.length c4] := Bk.below (Bk.nw (by simp) rfl) hb
  have r0 := btr (bal (bal (Bs w) (.cells #[.slice a0 c.vars.length c0, .slice a1 c.arrays.length c1, .slice a2 c.list.length c2] 26)) (.cells #[.int .i64 s.pc, .slice a5 s.regs.length c5, .slice a3 s.mem.vals.length c3, .slice a4 s.mem.arrs.length c4] 39)) hb
  clear hb
  have s1 := Bk.lz s0
  have t1 := Bk.lz t0
  go_upto_region 3 with (fail)
  obtain ⟨b0, k0, d0, l0, e0, m0⟩ := Bk.f3 s0 0 1 2 rfl rfl rfl
  obtain ⟨f0, n0, g0, o0, i0, p0, j0, q0⟩ := Bk.f4 t0 0 1 2 3 rfl rfl rfl rfl
  refine wp_region_noPanic ?_
  refine wp_region_held_drew (S := (fun W' => W'.cell? ⟨w.heap.size, 0, none⟩ = some (.slice a0 c.vars.length c0) ∧ W'.cell? ⟨w.heap.size, 1, none⟩ = some (.slice a1 c.arrays.length c1) ∧ W'.cell? ⟨w.heap.size, 2, none⟩ = some (.slice a2 c.list.length c2) ∧ W'.cell? ⟨w.heap.size + 1, 0, none⟩ = some (.int .i64 s.pc) ∧ W'.cell? ⟨w.heap.size + 1, 1, none⟩ = some (.slice a5 s.regs.length c5) ∧ W'.cell? ⟨w.heap.size + 1, 2, none⟩ = some (.slice a3 s.mem.vals.length c3) ∧ W'.cell? ⟨w.heap.size + 1, 3, none⟩ = some (.slice a4 s.mem.arrs.length c4))) (by kernel_rfl) ⟨Kc (Below.drew (Bs w1)) b0, Kc (Below.drew (Bs w1)) d0, Kc (Below.drew (Bs w1)) e0, Kc (Below.drew (Bs w1)) f0, Kc (Below.drew (Bs w1)) g0, Kc (Below.drew (Bs w1)) i0, Kc (Below.drew (Bs w1)) j0⟩ (fun hHeld => ?_)
  obtain ⟨w2, f1⟩ : ∃ X, X = World.drew w1 := ⟨_, rfl⟩
  rw [← f1] at hHeld ⊢
  have hb : Below w1.heap.size w1 w2 := by rw [f1]; exact Below.drew (Bs _)
  clear f1
  have g1 := hb.size
  replace k0 := Kf hb (Lc b0) k0
  replace l0 := Kf hb (Lc d0) l0
  replace m0 := Kf hb (Lc e0) m0
  replace n0 := Kf hb (Lc f0) n0
  replace o0 := Kf hb (Lc g0) o0
  replace p0 := Kf hb (Lc i0) p0
  replace q0 := Kf hb (Lc j0) q0
  replace b0 := Kc hb b0
  replace d0 := Kc hb d0
  replace e0 := Kc hb e0
  replace f0 := Kc hb f0
  replace g0 := Kc hb g0
  replace i0 := Kc hb i0
  replace j0 := Kc hb j0
  replace s0 := Bk.below s0 hb
  replace t0 := Bk.below t0 hb
  replace r0 := btr r0 hb
  clear hb
  refine (tq 0 11 rfl rfl ?_ ?_ (tq 1 12 rfl rfl ?_ ?_ ?_))
  iterate 2 (rotate_left; intro W' hSw; (try dsimp only at hSw); go_simp; try with_reducible rfl)
  try simp only [Ep]
  refine Rdy 2 rfl (fun K hK => ?_)
  go_simp
  refine (sMOwn_any _ _ _ s _ (HS.out _ r0) j1.out k1.out l1.out m1.out).mono ?_
  rintro e w3 ⟨ur, ux, uy, us, rfl, OM, hb⟩
  obtain ⟨pr, tr, rfl⟩ := Oh OM.r
  obtain ⟨px, tx, rfl⟩ := Oh OM.v
  obtain ⟨py, ty, rfl⟩ := Oh OM.a.out
  have h1 := hb.size
  replace k0 := Kf hb (Lc b0) k0
  replace l0 := Kf hb (Lc d0) l0
  replace m0 := Kf hb (Lc e0) m0
  replace n0 := Kf hb (Lc f0) n0
  replace o0 := Kf hb (Lc g0) o0
  replace p0 := Kf hb (Lc i0) p0
  replace q0 := Kf hb (Lc j0) q0
  replace b0 := Kc hb b0
  replace d0 := Kc hb d0
  replace e0 := Kc hb e0
  replace f0 := Kc hb f0
  replace g0 := Kc hb g0
  replace i0 := Kc hb i0
  replace j0 := Kc hb j0
  replace s0 := Bk.below s0 hb
  replace t0 := Bk.below t0 hb
  replace r0 := btr r0 hb
  clear hb
  have v0 := OM.lt
  refine hK.out _ _ ⟨b0, d0, e0, f0, g0, i0, j0⟩ (fun hHeld => ?_)
  clear hK K
  try simp only [Ep]
  refine Rdy 3 rfl (fun K hK => ?_)
  go_simp
  have n1 := Lib.hid (sPath_any _ _ _ _ _ _ us w.heap.size c s (.slice none 0 0) w3.heap.size [] w3 (HR.out _ r0) (OM.mono (by omega)) (World.ownsRow_nil _ _ _ _) (fun q h => by simp [Value.ownBlock] at h) (Nat.le_refl _) (by simp) (fun q h => ⟨fun h2 => by have := r1 q h; have := v0 q h2; omega, fun h2 => by simp [Value.ownBlock] at h2⟩) HK.out.2 HK.out.1)
  have iS : ∀ q, (OwnMB (.slice pr s.regs.length tr) (.slice px s.mem.vals.length tx) (.slice py s.mem.arrs.length ty) us q ∨ (Value.slice none 0 0).ownBlock = some q) → w.heap.size + 2 ≤ q ∧ q < w3.heap.size := fun q h => by rcases h with h | h; (have := v0 q h; omega); (simp [Value.ownBlock] at h)
  refine (n1.out).mono ?_
  rintro e w4 ⟨u, rfl, oU, hd, hC⟩
  obtain ⟨pu, tu, rfl⟩ := Oh oU
  simp only [List.nil_append] at oU
  have i1 := hC.size
  replace k0 := Gf hC (Lc b0) k0 (fun h => by have := iS _ h; omega)
  replace l0 := Gf hC (Lc d0) l0 (fun h => by have := iS _ h; omega)
  replace m0 := Gf hC (Lc e0) m0 (fun h => by have := iS _ h; omega)
  replace n0 := Gf hC (Lc f0) n0 (fun h => by have := iS _ h; omega)
  replace o0 := Gf hC (Lc g0) o0 (fun h => by have := iS _ h; omega)
  replace p0 := Gf hC (Lc i0) p0 (fun h => by have := iS _ h; omega)
  replace q0 := Gf hC (Lc j0) q0 (fun h => by have := iS _ h; omega)
  replace b0 := Gc hC b0 (fun h => by have := iS _ h; omega)
  replace d0 := Gc hC d0 (fun h => by have := iS _ h; omega)
  replace e0 := Gc hC e0 (fun h => by have := iS _ h; omega)
  replace f0 := Gc hC f0 (fun h => by have := iS _ h; omega)
  replace g0 := Gc hC g0 (fun h => by have := iS _ h; omega)
  replace i0 := Gc hC i0 (fun h => by have := iS _ h; omega)
  replace j0 := Gc hC j0 (fun h => by have := iS _ h; omega)
  replace s0 := Bk.keep s0 hC (fun h => by have := iS _ h; omega)
  replace t0 := Bk.keep t0 hC (fun h => by have := iS _ h; omega)
  replace r0 := r0.trans (hC.below w.heap.size (by have := r0.size; omega) (fun gq hgq h => by have := iS gq h; omega))
  clear hC
  have q1 := oU.lt
  refine hK.out _ _ ⟨b0, d0, e0, f0, g0, i0, j0⟩ (fun hHeld => ?_)
  clear hK K
  try simp only [Ep]
  refine (tq 4 4 rfl rfl ?_ ?_ (tq 5 5 rfl rfl ?_ ?_ ?_))
  iterate 2 (rotate_left; intro W' hSw; (try dsimp only at hSw); go_simp; try with_reducible rfl)
  try simp only [Ep]
  refine wpAnyH_done (by kernel_rfl) ?_ _
  refine NoPanic.normal ?_
  clear hHeld
  have tt := r0
  go_wp2
  exact bodyPost_ret (v := .tuple #[.slice pu ((pathE c s).length) tu, .bool true]) (by simp [results, Try.results19, go_sem]) rfl (by exact by rw [y0.out]; exact ⟨_, rfl, Om oU (by omega), tt⟩)
end Go.Proofs.Ytkjedgnepnbkpaa
