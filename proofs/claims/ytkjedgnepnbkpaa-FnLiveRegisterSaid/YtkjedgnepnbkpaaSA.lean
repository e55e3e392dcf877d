/-
 Parts of the proofs of the laws FnCheckLive, FnCodeFenced, FnEraseCode, FnEraseSecret, FnFinalRegs, FnLiveRegister, FnLiveRegs, FnSpecPath.
-/
import Derived.Test.YtkjedgnepnbkpaaZE
import Derived.Test.YtkjedgnepnbkpaaKq2
import Derived.Test.YtkjedgnepnbkpaaRW
set_option maxHeartbeats 12800000
set_option maxRecDepth 100000
set_option linter.all false
namespace Go.Proofs.Ytkjedgnepnbkpaa
open Go.RowKit
def mvOk (c : Cd) (s : Ms) : Bool := codeOk c && (wi s.pc 0 ((c.list.length : Int) - 1) && (decide (s.regs.length = 14) && (valsOk s.regs && memOk c.vars.length c.arrays.length s.mem)))
theorem valsOk_range {xs : List Int} (h : valsOk xs = true) : ∀ n ∈ xs, 0 ≤ n ∧ n < 256 := fun n hn => by
 have h1 := List.all_eq_true.1 h n hn
 have h2 : 0 ≤ n ∧ n ≤ 255 := of_decide_eq_true h1
 omega
theorem mvOk_ok {c : Cd} {s : Ms} (h : mvOk c s = true) : codeOk c = true ∧ MsOk c s := by
 unfold mvOk at h
 simp only [Bool.and_eq_true] at h
 obtain ⟨h1, h2, h3, h4, h5⟩ := h
 have h2' : 0 ≤ s.pc ∧ s.pc ≤ (c.list.length : Int) - 1 := of_decide_eq_true h2
 exact ⟨h1, h2'.1, by omega, of_decide_eq_true h3, valsOk_range h4, h5⟩
theorem iMValid_any (va vb vc vr vx vy : Value) (c : Cd) (s : Ms) (w : World) (hr : ReadsC w va vb vc c) (hs : ReadsS w vr vx vy s) :
  Calls Try.prog 22 #[.agg #[va, vb, vc], .agg #[.int .i64 s.pc, vr, vx, vy]] w fun e w' => e = .returned (.bool (mvOk c s)) ∧ Below w.heap.size w w' := by
 obtain ⟨a0, c0, a1, c1, a2, c2, rfl, rfl, rfl⟩ := hr.shape
 obtain ⟨a5, c5, rfl⟩ := reads_shape hs.r
 obtain ⟨a3, c3, a4, c4, rfl, rfl⟩ := hs.m.shape
 have n0 := hr.a.2.1; have n1 := hr.b.2.1; have n2 := hr.l.2.1; have n5 := hs.r.2.1
 have HR := Lib.hid (fun W (hW : Below w.heap.size w W) => hr.below hW); have HS := Lib.hid (fun W (hW : Below w.heap.size w W) => hs.below hW)
 have HQ : Hid (mvOk c s = (codeOk c && (wi s.pc 0 ((c.list.length : Int) - 1) && (decide (s.regs.length = 14) && (valsOk s.regs && memOk c.vars.length c.arrays.length s.mem))))) := Lib.hid rfl
 clear hr hs
 generalize mvOk c s = G at *
 have r0 := Lib.hid (fun W (hW : Below w.heap.size w W) => iCodeValid_any _ _ _ c W (HR.out W hW))
 have t0 := Lib.hid (fun W => within_any s.pc 0 ((c.list.length : Int) - 1) W)
 have q0 := Lib.hid (fun W (hW : Below w.heap.size w W) => areValues_any _ s.regs W (HS.out W hW).r)
 have s0 := Lib.hid (fun W (hW : Below w.heap.size w W) => isMemory_any _ _ _ _ c.vars c.arrays s.mem W (HR.out W hW).a (HR.out W hW).b (HS.out W hW).m.x (HS.out W hW).m.y)
 go_enter Try.func22, Try.ntmps22
 go_wp2_with fail
 refine (r0.out _ (bal (bal (Bs w) (.cells #[.slice a0 c.vars.length c0, .slice a1 c.arrays.length c1, .slice a2 c.list.length c2] 26)) (.cells #[.int .i64 s.pc, .slice a5 s.regs.length c5, .slice a3 s.mem.vals.length c3, .slice a4 s.mem.arrs.length c4] 39))).mono ?_
 rintro e w1 ⟨rfl, hb⟩
 have l0 := hb.size
 simp only [Sa] at l0
 have d0 : w1.cell? ⟨w.heap.size, 0, none⟩ = some (.slice a0 c.vars.length c0) := Kc hb (Ac (Wc (by simp) (by rfl)) _)
 have f0 : w1.cell? ⟨w.heap.size, 1, none⟩ = some (.slice a1 c.arrays.length c1) := Kc hb (Ac (Wc (by simp) (by rfl)) _)
 have g0 : w1.cell? ⟨w.heap.size, 2, none⟩ = some (.slice a2 c.list.length c2) := Kc hb (Ac (Wc (by simp) (by rfl)) _)
 have e0 : w1.cell? ⟨w.heap.size + 1, 0, none⟩ = some (.int .i64 s.pc) := Kc hb (Wc (by simp) (by rfl))
 have i0 : w1.cell? ⟨w.heap.size + 1, 1, none⟩ = some (.slice a5 s.regs.length c5) := Kc hb (Wc (by simp) (by rfl))
 have j0 : w1.cell? ⟨w.heap.size + 1, 2, none⟩ = some (.slice a3 s.mem.vals.length c3) := Kc hb (Wc (by simp) (by rfl))
 have k0 : w1.cell? ⟨w.heap.size + 1, 3, none⟩ = some (.slice a4 s.mem.arrs.length c4) := Kc hb (Wc (by simp) (by rfl))
 have b0 := btr (bal (bal (Bs w) (.cells #[.slice a0 c.vars.length c0, .slice a1 c.arrays.length c1, .slice a2 c.list.length c2] 26)) (.cells #[.int .i64 s.pc, .slice a5 s.regs.length c5, .slice a3 s.mem.vals.length c3, .slice a4 s.mem.arrs.length c4] 39)) hb
 clear hb
 have v0 := Lc d0
 have u0 := Lc e0
 cases h0 : codeOk c with
 | false =>
  have H0 := Lib.hid h0; clear h0
  have HG : Hid (G = false) := Lib.hid (by rw [HQ.out, H0.out]; rfl)
  have tt := b0
  go_wp2
  exact bodyPost_ret (v := .bool false) (by simp [results, Try.results22, go_sem]) rfl (by exact by rw [HG.out]; exact ⟨rfl, tt⟩)
 | true =>
  have H0 := Lib.hid h0; clear h0
  go_wp2_with fail
  refine (t0.out _).mono ?_
  rintro e w2 ⟨rfl, hb⟩
  have m0 := hb.size
  replace d0 := Kc hb d0
  replace f0 := Kc hb f0
  replace g0 := Kc hb g0
  replace e0 := Kc hb e0
  replace i0 := Kc hb i0
  replace j0 := Kc hb j0
  replace k0 := Kc hb k0
  replace b0 := btr b0 hb
  clear hb
  cases h1 : wi s.pc 0 ((c.list.length : Int) - 1) with
  | false =>
   have H1 := Lib.hid h1; clear h1
   have HG : Hid (G = false) := Lib.hid (by rw [HQ.out, H0.out, H1.out]; rfl)
   have tt := b0
   go_wp2
   exact bodyPost_ret (v := .bool false) (by simp [results, Try.results22, go_sem]) rfl (by exact by rw [HG.out]; exact ⟨rfl, tt⟩)
  | true =>
   have H1 := Lib.hid h1; clear h1
   cases h2 : decide (s.regs.length = 14) with
   | false =>
    have g2 : ¬ (s.regs.length = 14) := of_decide_eq_false h2
    have q2 : ((s.regs.length : Int) == 14) = false := by simp; omega
    clear g2
    have H2 := Lib.hid h2; clear h2
    have HG : Hid (G = false) := Lib.hid (by rw [HQ.out, H0.out, H1.out, H2.out]; rfl)
    have tt := b0
    go_wp2
    exact bodyPost_ret (v := .bool false) (by simp [results, Try.results22, go_sem]) rfl (by exact by rw [HG.out]; exact ⟨rfl, tt⟩)
   | true =>
    have g2 : s.regs.length = 14 := of_decide_eq_true h2
    have q2 : ((s.regs.length : Int) == 14) = true := by simp; omega
    clear g2
    have H2 := Lib.hid h2; clear h2
    go_wp2_with fail
    refine (q0.out _ b0).mono ?_
    rintro e w3 ⟨rfl, hb⟩
    have o0 := hb.size
    replace d0 := Kc hb d0
    replace f0 := Kc hb f0
    replace g0 := Kc hb g0
    replace e0 := Kc hb e0
    replace i0 := Kc hb i0
    replace j0 := Kc hb j0
    replace k0 := Kc hb k0
    replace b0 := btr b0 hb
    clear hb
    cases h3 : valsOk s.regs with
    | false =>
     have H3 := Lib.hid h3; clear h3
     have HG : Hid (G = false) := Lib.hid (by rw [HQ.out, H0.out, H1.out, H2.out, H3.out]; rfl)
     have tt := b0
     go_wp2
     exact bodyPost_ret (v := .bool false) (by simp [results, Try.results22, go_sem]) rfl (by exact by rw [HG.out]; exact ⟨rfl, tt⟩)
    | true =>
     have H3 := Lib.hid h3; clear h3
     go_wp2_with fail
     refine (s0.out _ b0).mono ?_
     rintro e w4 ⟨rfl, hb⟩
     have p0 := hb.size
     replace d0 := Kc hb d0
     replace f0 := Kc hb f0
     replace g0 := Kc hb g0
     replace e0 := Kc hb e0
     replace i0 := Kc hb i0
     replace j0 := Kc hb j0
     replace k0 := Kc hb k0
     replace b0 := btr b0 hb
     clear hb
     cases h4 : memOk c.vars.length c.arrays.length s.mem with
     | false =>
      have H4 := Lib.hid h4; clear h4
      have HG : Hid (G = false) := Lib.hid (by rw [HQ.out, H0.out, H1.out, H2.out, H3.out, H4.out]; rfl)
      have tt := b0
      go_wp2
      exact bodyPost_ret (v := .bool false) (by simp [results, Try.results22, go_sem]) rfl (by exact by rw [HG.out]; exact ⟨rfl, tt⟩)
     | true =>
      have H4 := Lib.hid h4; clear h4
      have HG : Hid (G = true) := Lib.hid (by rw [HQ.out, H0.out, H1.out, H2.out, H3.out, H4.out]; rfl)
      have tt := b0
      go_wp2
      exact bodyPost_ret (v := .bool true) (by simp [results, Try.results22, go_sem]) rfl (by exact by rw [HG.out]; exact ⟨rfl, tt⟩)
end Go.Proofs.Ytkjedgnepnbkpaa
namespace Go.Proofs.Ytkjedgnepnbkpaa
open Go.RowKit
theorem iMOwn_any (vr vx vy : Value) (s : Ms) (w : World) (hs : ReadsS w vr vx vy s) (h0 : s.regs.length ≤ 1048576) (hl : s.mem.vals.length ≤ 1048576) (hn : s.mem.arrs.length ≤ 1048576) (hp : pre2 s.mem.arrs s.mem.arrs.length ≤ 1048576) :
  Calls Try.prog 67 #[.agg #[.int .i64 s.pc, vr, vx, vy]] w fun e w' => ∃ ur ux uy us, e = .returned (.agg #[.int .i64 s.pc, ur, ux, uy]) ∧ OwnMv w' w.heap.size ur ux uy us s.regs s.mem ∧ Below w.heap.size w w' := by
 obtain ⟨a5, c5, rfl⟩ := reads_shape hs.r
 obtain ⟨a3, c3, a4, c4, rfl, rfl⟩ := hs.m.shape
 have HS := Lib.hid (fun W (hW : Below w.heap.size w W) => hs.below hW)
 have i1 := Lib.hid (fun W (hW : Below w.heap.size w W) => memOwn_any _ _ s.mem W (HS.out W hW).m.x (HS.out W hW).m.y hl hn hp)
 clear hs
 go_enter Try.func67, Try.ntmps67
 go_upto_region 1 with (fail)
 obtain ⟨w1, o0, hb⟩ := nmw (World.alloc (World.alloc w (.cells #[.int .i64 s.pc, .slice a5 s.regs.length c5, .slice a3 s.mem.vals.length c3, .slice a4 s.mem.arrs.length c4] 39)) (.cells #[.int .i64 0, .slice none 0 0, .slice none 0 0, .slice none 0 0] 39))
 have q0 := hb.size
 simp only [Sa] at q0
 have l0 : Bk w1 (w.heap.size) [.int .i64 s.pc, .slice a5 s.regs.length c5, .slice a3 s.mem.vals.length c3, .slice a4 s.mem.arrs.length c4] := Bk.below (Bk.al (Bk.nw (by simp) rfl) (.cells #[.int .i64 0, .slice none 0 0, .slice none 0 0, .slice none 0 0] 39)) hb
 have j0 : Bk w1 (w.heap.size + 1) [.int .i64 0, .slice none 0 0, .slice none 0 0, .slice none 0 0] := Bk.below (Bk.nw (by simp) rfl) hb
 have k0 := btr (bal (bal (Bs w) (.cells #[.int .i64 s.pc, .slice a5 s.regs.length c5, .slice a3 s.mem.vals.length c3, .slice a4 s.mem.arrs.length c4] 39)) (.cells #[.int .i64 0, .slice none 0 0, .slice none 0 0, .slice none 0 0] 39)) hb
 clear hb
 rw [← o0]
 clear o0
 have r1 := Bk.lz l0
 have s1 := Bk.lz j0
 obtain ⟨e0, m0, f0, n0, a0, c0, b0, d0⟩ := Bk.f4 l0 0 1 2 3 rfl rfl rfl rfl
 refine wp_region_noPanic ?_
 refine wp_region_held_drew (S := (fun W' => W'.cell? ⟨w.heap.size, 0, none⟩ = some (.int .i64 s.pc) ∧ W'.cell? ⟨w.heap.size, 1, none⟩ = some (.slice a5 s.regs.length c5) ∧ W'.cell? ⟨w.heap.size, 2, none⟩ = some (.slice a3 s.mem.vals.length c3) ∧ W'.cell? ⟨w.heap.size, 3, none⟩ = some (.slice a4 s.mem.arrs.length c4))) (by kernel_rfl) ⟨Kc (Below.drew (Bs w1)) e0, Kc (Below.drew (Bs w1)) f0, Kc (Below.drew (Bs w1)) a0, Kc (Below.drew (Bs w1)) b0⟩ (fun hHeld => ?_)
 obtain ⟨w2, r0⟩ : ∃ X, X = World.drew w1 := ⟨_, rfl⟩
 rw [← r0] at hHeld ⊢
 have hb : Below w1.heap.size w1 w2 := by rw [r0]; exact Below.drew (Bs _)
 clear r0
 have f1 := hb.size
 replace m0 := Kf hb (Lc e0) m0
 replace n0 := Kf hb (Lc f0) n0
 replace c0 := Kf hb (Lc a0) c0
 replace d0 := Kf hb (Lc b0) d0
 replace e0 := Kc hb e0
 replace f0 := Kc hb f0
 replace a0 := Kc hb a0
 replace b0 := Kc hb b0
 replace l0 := Bk.below l0 hb
 replace j0 := Bk.below j0 hb
 replace k0 := btr k0 hb
 clear hb
 refine (tq 0 3 rfl rfl ?_ ?_ (tq 1 4 rfl rfl ?_ ?_ (tq 2 5 rfl rfl ?_ ?_ (tq 3 6 rfl rfl ?_ ?_ (tq 5 8 rfl rfl ?_ ?_ (tq 6 9 rfl rfl ?_ ?_ ?_))))))
 iterate 6 (rotate_left; intro W' hSw; (try dsimp only at hSw); go_simp; try with_reducible rfl)
 try simp only [Ep]
 refine Rdy 4 rfl (fun K hK => ?_)
 go_simp
 refine (clone_any _ s.regs _ (HS.out _ k0).r (by omega)).mono ?_
 rintro e w3 ⟨ur, rfl, oR, hb⟩
 obtain ⟨pr, tr, rfl⟩ := Oh oR
 have g1 := hb.size
 replace m0 := Kf hb (Lc e0) m0
 replace n0 := Kf hb (Lc f0) n0
 replace c0 := Kf hb (Lc a0) c0
 replace d0 := Kf hb (Lc b0) d0
 replace e0 := Kc hb e0
 replace f0 := Kc hb f0
 replace a0 := Kc hb a0
 replace b0 := Kc hb b0
 replace l0 := Bk.below l0 hb
 replace j0 := Bk.below j0 hb
 replace k0 := btr k0 hb
 clear hb
 have g0 := oR.lt
 refine hK.out _ _ ⟨e0, f0, a0, b0⟩ (fun hHeld => ?_)
 clear hK K
 try simp only [Ep]
 refine Rdy 7 rfl (fun K hK => ?_)
 go_simp
 refine (i1.out _ k0).mono ?_
 rintro e w4 ⟨ux, uy, us, rfl, ox, oy, e1, hb⟩
 obtain ⟨px, tx, rfl⟩ := Oh ox
 obtain ⟨py, ty, rfl⟩ := Oh oy.out
 have oM : OwnM w4 _ _ _ _ s.mem := ⟨ox, oy, e1⟩
 clear ox oy e1
 have h1 := hb.size
 replace m0 := Kf hb (Lc e0) m0
 replace n0 := Kf hb (Lc f0) n0
 replace c0 := Kf hb (Lc a0) c0
 replace d0 := Kf hb (Lc b0) d0
 replace e0 := Kc hb e0
 replace f0 := Kc hb f0
 replace a0 := Kc hb a0
 replace b0 := Kc hb b0
 replace oR := Ob oR hb
 replace l0 := Bk.below l0 hb
 replace j0 := Bk.below j0 hb
 replace k0 := btr k0 hb
 clear hb
 have i0 := oM.lt
 refine hK.out _ _ ⟨e0, f0, a0, b0⟩ (fun hHeld => ?_)
 clear hK K
 try simp only [Ep]
 refine (tq 8 11 rfl rfl (.agg #[.int .i64 s.pc, .slice pr s.regs.length tr, .slice px s.mem.vals.length tx, .slice py s.mem.arrs.length ty]) (fun W' _ => by kernel_rfl) ?_)
 try simp only [Ep]
 refine Rdy 9 rfl (fun K hK => ?_)
 obtain ⟨s0, a1, t0, b1, u0, c1, v0, d1⟩ := Bk.f4 j0 0 1 2 3 rfl rfl rfl rfl
 go_simp
 obtain ⟨w5, o0, hb⟩ := nmw (World.setCell (World.setCell (World.setCell (World.setCell w4 ⟨w.heap.size + 1, 0, none⟩ (.int .i64 s.pc)) ⟨w.heap.size + 1, 1, none⟩ (.slice pr s.regs.length tr)) ⟨w.heap.size + 1, 2, none⟩ (.slice px s.mem.vals.length tx)) ⟨w.heap.size + 1, 3, none⟩ (.slice py s.mem.arrs.length ty))
 have p0 := hb.size
 simp only [Ss] at p0
 clear a1 s0 b1 t0 c1 u0 d1 v0
 replace m0 := Kf hb (Lc (Nc (Nc (Nc (Nc e0 (by omega) _) (by omega) _) (by omega) _) (by omega) _)) (Fs (Fs (Fs (Fs m0 _) _) _) _)
 replace n0 := Kf hb (Lc (Nc (Nc (Nc (Nc f0 (by omega) _) (by omega) _) (by omega) _) (by omega) _)) (Fs (Fs (Fs (Fs n0 _) _) _) _)
 replace c0 := Kf hb (Lc (Nc (Nc (Nc (Nc a0 (by omega) _) (by omega) _) (by omega) _) (by omega) _)) (Fs (Fs (Fs (Fs c0 _) _) _) _)
 replace d0 := Kf hb (Lc (Nc (Nc (Nc (Nc b0 (by omega) _) (by omega) _) (by omega) _) (by omega) _)) (Fs (Fs (Fs (Fs d0 _) _) _) _)
 replace e0 := Kc hb (Nc (Nc (Nc (Nc e0 (by omega) _) (by omega) _) (by omega) _) (by omega) _)
 replace f0 := Kc hb (Nc (Nc (Nc (Nc f0 (by omega) _) (by omega) _) (by omega) _) (by omega) _)
 replace a0 := Kc hb (Nc (Nc (Nc (Nc a0 (by omega) _) (by omega) _) (by omega) _) (by omega) _)
 replace b0 := Kc hb (Nc (Nc (Nc (Nc b0 (by omega) _) (by omega) _) (by omega) _) (by omega) _)
 replace oR := Ob (Oe (Oe (Oe (Oe oR _ _ (fun h => by have := g0 _ h; omega) _) _ _ (fun h => by have := g0 _ h; omega) _) _ _ (fun h => by have := g0 _ h; omega) _) _ _ (fun h => by have := g0 _ h; omega) _) hb
 replace oM := ((((oM.keep (C1 _ _ _) (fun gq h h2 => by have := i0 gq h; omega)).keep (C1 _ _ _) (fun gq h h2 => by have := i0 gq h; omega)).keep (C1 _ _ _) (fun gq h h2 => by have := i0 gq h; omega)).keep (C1 _ _ _) (fun gq h h2 => by have := i0 gq h; omega)).below hb
 replace l0 := Bk.below (Bk.ne (Bk.ne (Bk.ne (Bk.ne l0 (by omega) _) (by omega) _) (by omega) _) (by omega) _) hb
 replace j0 : Bk w5 (w.heap.size + 1) [.int .i64 s.pc, .slice pr s.regs.length tr, .slice px s.mem.vals.length tx, .slice py s.mem.arrs.length ty] := Bk.below (Bk.at (Bk.at (Bk.at (Bk.at j0 0 (.int .i64 s.pc)) 1 (.slice pr s.regs.length tr)) 2 (.slice px s.mem.vals.length tx)) 3 (.slice py s.mem.arrs.length ty)) hb
 replace k0 := btr (bst (bst (bst (bst k0 (w.heap.size + 1) 0 (by omega) (.int .i64 s.pc)) (w.heap.size + 1) 1 (by omega) (.slice pr s.regs.length tr)) (w.heap.size + 1) 2 (by omega) (.slice px s.mem.vals.length tx)) (w.heap.size + 1) 3 (by omega) (.slice py s.mem.arrs.length ty)) hb
 clear hb
 rw [← o0]
 clear o0
 refine hK.out _ _ ⟨e0, f0, a0, b0⟩ (fun hHeld => ?_)
 clear hK K
 try simp only [Ep]
 refine wpAnyH_done (by kernel_rfl) ?_ _
 refine NoPanic.normal ?_
 clear hHeld
 have OM : OwnMv w5 w.heap.size (.slice pr s.regs.length tr) (.slice px s.mem.vals.length tx) (.slice py s.mem.arrs.length ty) us s.regs s.mem := ⟨Om oR (by omega), Om oM.x (by omega), oM.y.mono (by omega), fun q h h2 => by have := g0 q h; have := i0 q (Or.inl h2); omega, fun q h h2 => by have := g0 q h; have := i0 q (Or.inr h2); omega, oM.ap⟩
 obtain ⟨w0, j1, x0, k1, y0, l1, z0, m1⟩ := Bk.f4 j0 0 1 2 3 rfl rfl rfl rfl
 have n1 := w0
 have o1 := x0
 have p1 := y0
 have q1 := z0
 have tt := k0
 go_wp2
 exact bodyPost_ret (v := .agg #[.int .i64 s.pc, .slice pr s.regs.length tr, .slice px s.mem.vals.length tx, .slice py s.mem.arrs.length ty]) (by simp [results, Try.results67, go_sem, n1, o1, p1, q1]) rfl (by exact ⟨_, _, _, us, rfl, OM, tt⟩)
end Go.Proofs.Ytkjedgnepnbkpaa
namespace Go.Proofs.Ytkjedgnepnbkpaa
open Go.RowKit
theorem mvOk_of {c : Cd} {s : Ms} (hok : codeOk c = true) (h : MsOk c s) : mvOk c s = true := by
 have hv : ∀ xs : List Int, (∀ n ∈ xs, 0 ≤ n ∧ n < 256) → valsOk xs = true := fun xs hx => List.all_eq_true.2 (fun n hn => by
  have := hx n hn
  exact decide_eq_true (p := 0 ≤ n ∧ n ≤ 255) (by omega))
 have h0 := h.pc0
 have h1 := h.pc1
 unfold mvOk
 rw [hok, decide_eq_true h.regs, hv _ h.rv, h.mem, show wi s.pc 0 ((c.list.length : Int) - 1) = true from decide_eq_true (by omega)]
 rfl
theorem mvOk_step {c : Cd} {s : Ms} (h : mvOk c s = true) : mvOk c (stp (insAt c s.pc) s) = true := by
 obtain ⟨h1, h2⟩ := mvOk_ok h
 exact mvOk_of h1 (stp_ok h1 h2)
end Go.Proofs.Ytkjedgnepnbkpaa
