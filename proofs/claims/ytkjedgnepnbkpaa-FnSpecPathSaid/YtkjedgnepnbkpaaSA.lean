/-
 Parts of the proof of the law FnSpecPath.
-/
import Derived.Test.YtkjedgnepnbkpaaMC
import Derived.Test.YtkjedgnepnbkpaaVV
set_option maxHeartbeats 12800000
set_option maxRecDepth 100000
set_option linter.all false
namespace Go.Proofs.Ytkjedgnepnbkpaa
open Go.RowKit

def mvOk (c : Cd) (s : Ms) : Bool := codeOk c && (wi s.pc 0 ((c.list.length : Int) - 1) && (decide (s.regs.length = 14) && (valsOk s.regs && memOk c.vars.length c.arrays.length s.mem)))
theorem valsOk_range {xs : List Int} (h : valsOk xs = true) : ∀ n ∈ xs, 0 ≤ n ∧ n < 256 := fun n hn => by
 have h1 := List.all_eq_true.1 h n hn
 have h2 : 0 ≤ n ∧ n ≤ 255 := of_decide_eq_true h1
 omega
theorem mvOk_ok {c : Cd} {s : Ms} (h : mvOk c s = true) : codeOk c = true ∧ MsOk c s := by
 unfold mvOk at h
 simp only [Bool.and_eq_true] at h
 obtain ⟨h1, h2, h3, h4, h5⟩ := h
 have h2' : 0 ≤ s.pc ∧ s.pc ≤ (c.list.length : Int) - 1 := of_decide_eq_true h2
 exact ⟨h1, h2'.1, by omega, of_decide_eq_true h3, valsOk_range h4, h5⟩
/-- a state's value reads as it -/
structure ReadsS (w : World) (vr vx vy : Value) (s : Ms) : Prop where
 r : Reads w 1 vr s.regs.length (ints s.regs)
 m : ReadsM w vx vy s.mem
theorem ReadsS.below {w w' : World} {vr vx vy : Value} {s : Ms} (h : ReadsS w vr vx vy s) (hb : Below w.heap.size w w') : ReadsS w' vr vx vy s := ⟨h.r.below hb, h.m.below hb⟩

theorem iMValid_any (va vb vc vr vx vy : Value) (c : Cd) (s : Ms) (w : World) (hr : ReadsC w va vb vc c) (hs : ReadsS w vr vx vy s) :
  Calls Try.prog 22 #[.agg #[va, vb, vc], .agg #[.int .i64 s.pc, vr, vx, vy]] w fun e w' => e = .returned (.bool (mvOk c s)) ∧ Below w.heap.size w w' := by
 obtain ⟨a0, c0, a1, c1, a2, c2, rfl, rfl, rfl⟩ := hr.shape
 obtain ⟨a5, c5, rfl⟩ := reads_shape hs.r
 obtain ⟨a3, c3, a4, c4, rfl, rfl⟩ := hs.m.shape
 have n0 := hr.a.2.1; have n1 := hr.b.2.1; have n2 := hr.l.2.1; have n5 := hs.r.2.1
 have HR := Lib.hid (fun W (hW : Below w.heap.size w W) => hr.below hW); have HS := Lib.hid (fun W (hW : Below w.heap.size w W) => hs.below hW)
 have HQ : Hid (mvOk c s = (codeOk c && (wi s.pc 0 ((c.list.length : Int) - 1) && (decide (s.regs.length = 14) && (valsOk s.regs && memOk c.vars.length c.arrays.length s.mem))))) := Lib.hid rfl
 clear hr hs
 generalize mvOk c s = G at *
 have HCV := Lib.hid (fun W (hW : Below w.heap.size w W) => iCodeValid_any _ _ _ c W (HR.out W hW))
 have HWI := Lib.hid (fun W => within_any s.pc 0 ((c.list.length : Int) - 1) W)
 have HAV := Lib.hid (fun W (hW : Below w.heap.size w W) => areValues_any _ s.regs W (HS.out W hW).r)
 have HMM := Lib.hid (fun W (hW : Below w.heap.size w W) => isMemory_any _ _ _ _ c.vars c.arrays s.mem W (HR.out W hW).a (HR.out W hW).b (HS.out W hW).m.x (HS.out W hW).m.y)
 go_enter Try.func22, Try.ntmps22
 go_wp2_with fail
 refine (HCV.out _ (bal (bal (Bs w) (.cells #[.slice a0 c.vars.length c0, .slice a1 c.arrays.length c1, .slice a2 c.list.length c2] 26)) (.cells #[.int .i64 s.pc, .slice a5 s.regs.length c5, .slice a3 s.mem.vals.length c3, .slice a4 s.mem.arrs.length c4] 39))).mono ?_
 rintro e w1 ⟨rfl, hb⟩
 have hsz1 := hb.size
 simp only [Sa] at hsz1
 have bx2 : w1.cell? ⟨w.heap.size, 0, none⟩ = some (.slice a0 c.vars.length c0) := Kc hb (Ac (Wc (by simp) (by rfl)) _)
 have bx3 : w1.cell? ⟨w.heap.size, 1, none⟩ = some (.slice a1 c.arrays.length c1) := Kc hb (Ac (Wc (by simp) (by rfl)) _)
 have bx4 : w1.cell? ⟨w.heap.size, 2, none⟩ = some (.slice a2 c.list.length c2) := Kc hb (Ac (Wc (by simp) (by rfl)) _)
 have bx5 : w1.cell? ⟨w.heap.size + 1, 0, none⟩ = some (.int .i64 s.pc) := Kc hb (Wc (by simp) (by rfl))
 have bx6 : w1.cell? ⟨w.heap.size + 1, 1, none⟩ = some (.slice a5 s.regs.length c5) := Kc hb (Wc (by simp) (by rfl))
 have bx7 : w1.cell? ⟨w.heap.size + 1, 2, none⟩ = some (.slice a3 s.mem.vals.length c3) := Kc hb (Wc (by simp) (by rfl))
 have bx8 : w1.cell? ⟨w.heap.size + 1, 3, none⟩ = some (.slice a4 s.mem.arrs.length c4) := Kc hb (Wc (by simp) (by rfl))
 have tot := btr (bal (bal (Bs w) (.cells #[.slice a0 c.vars.length c0, .slice a1 c.arrays.length c1, .slice a2 c.list.length c2] 26)) (.cells #[.int .i64 s.pc, .slice a5 s.regs.length c5, .slice a3 s.mem.vals.length c3, .slice a4 s.mem.arrs.length c4] 39)) hb
 clear hb
 have lt9 := Lc bx2
 have lt10 := Lc bx5
 cases h0 : codeOk c with
 | false =>
  have H0 := Lib.hid h0; clear h0
  have HG : Hid (G = false) := Lib.hid (by rw [HQ.out, H0.out]; rfl)
  have tt := tot
  go_wp2
  exact bodyPost_ret (v := .bool false) (by simp [results, Try.results22, go_sem]) rfl (by exact by rw [HG.out]; exact ⟨rfl, tt⟩)
 | true =>
  have H0 := Lib.hid h0; clear h0
  go_wp2_with fail
  refine (HWI.out _).mono ?_
  rintro e w2 ⟨rfl, hb⟩
  have hsz11 := hb.size
  replace bx2 := Kc hb bx2
  replace bx3 := Kc hb bx3
  replace bx4 := Kc hb bx4
  replace bx5 := Kc hb bx5
  replace bx6 := Kc hb bx6
  replace bx7 := Kc hb bx7
  replace bx8 := Kc hb bx8
  replace tot := btr tot hb
  clear hb
  replace lt9 := Lc bx2
  replace lt10 := Lc bx5
  cases h1 : wi s.pc 0 ((c.list.length : Int) - 1) with
  | false =>
   have H1 := Lib.hid h1; clear h1
   have HG : Hid (G = false) := Lib.hid (by rw [HQ.out, H0.out, H1.out]; rfl)
   have tt := tot
   go_wp2
   exact bodyPost_ret (v := .bool false) (by simp [results, Try.results22, go_sem]) rfl (by exact by rw [HG.out]; exact ⟨rfl, tt⟩)
  | true =>
   have H1 := Lib.hid h1; clear h1
   cases h2 : decide (s.regs.length = 14) with
   | false =>
    have g2 : ¬ (s.regs.length = 14) := of_decide_eq_false h2
    have q2 : ((s.regs.length : Int) == 14) = false := by simp; omega
    clear g2
    have H2 := Lib.hid h2; clear h2
    have HG : Hid (G = false) := Lib.hid (by rw [HQ.out, H0.out, H1.out, H2.out]; rfl)
    have tt := tot
    go_wp2
    exact bodyPost_ret (v := .bool false) (by simp [results, Try.results22, go_sem]) rfl (by exact by rw [HG.out]; exact ⟨rfl, tt⟩)
   | true =>
    have g2 : s.regs.length = 14 := of_decide_eq_true h2
    have q2 : ((s.regs.length : Int) == 14) = true := by simp; omega
    clear g2
    have H2 := Lib.hid h2; clear h2
    go_wp2_with fail
    refine (HAV.out _ tot).mono ?_
    rintro e w3 ⟨rfl, hb⟩
    have hsz12 := hb.size
    replace bx2 := Kc hb bx2
    replace bx3 := Kc hb bx3
    replace bx4 := Kc hb bx4
    replace bx5 := Kc hb bx5
    replace bx6 := Kc hb bx6
    replace bx7 := Kc hb bx7
    replace bx8 := Kc hb bx8
    replace tot := btr tot hb
    clear hb
    replace lt9 := Lc bx2
    replace lt10 := Lc bx5
    cases h3 : valsOk s.regs with
    | false =>
     have H3 := Lib.hid h3; clear h3
     have HG : Hid (G = false) := Lib.hid (by rw [HQ.out, H0.out, H1.out, H2.out, H3.out]; rfl)
     have tt := tot
     go_wp2
     exact bodyPost_ret (v := .bool false) (by simp [results, Try.results22, go_sem]) rfl (by exact by rw [HG.out]; exact ⟨rfl, tt⟩)
    | true =>
     have H3 := Lib.hid h3; clear h3
     go_wp2_with fail
     refine (HMM.out _ tot).mono ?_
     rintro e w4 ⟨rfl, hb⟩
     have hsz13 := hb.size
     replace bx2 := Kc hb bx2
     replace bx3 := Kc hb bx3
     replace bx4 := Kc hb bx4
     replace bx5 := Kc hb bx5
     replace bx6 := Kc hb bx6
     replace bx7 := Kc hb bx7
     replace bx8 := Kc hb bx8
     replace tot := btr tot hb
     clear hb
     replace lt9 := Lc bx2
     replace lt10 := Lc bx5
     cases h4 : memOk c.vars.length c.arrays.length s.mem with
     | false =>
      have H4 := Lib.hid h4; clear h4
      have HG : Hid (G = false) := Lib.hid (by rw [HQ.out, H0.out, H1.out, H2.out, H3.out, H4.out]; rfl)
      have tt := tot
      go_wp2
      exact bodyPost_ret (v := .bool false) (by simp [results, Try.results22, go_sem]) rfl (by exact by rw [HG.out]; exact ⟨rfl, tt⟩)
     | true =>
      have H4 := Lib.hid h4; clear h4
      have HG : Hid (G = true) := Lib.hid (by rw [HQ.out, H0.out, H1.out, H2.out, H3.out, H4.out]; rfl)
      have tt := tot
      go_wp2
      exact bodyPost_ret (v := .bool true) (by simp [results, Try.results22, go_sem]) rfl (by exact by rw [HG.out]; exact ⟨rfl, tt⟩)
theorem sMValid_any (va vb vc vr vx vy : Value) (c : Cd) (s : Ms) (w : World) (hr : ReadsC w va vb vc c) (hs : ReadsS w vr vx vy s) :
  Calls Try.prog 63 #[.agg #[va, vb, vc], .agg #[.int .i64 s.pc, vr, vx, vy]] w fun e w' => e = .returned (.bool (mvOk c s)) ∧ Below w.heap.size w w' := by
 obtain ⟨a0, c0, a1, c1, a2, c2, rfl, rfl, rfl⟩ := hr.shape
 obtain ⟨a5, c5, rfl⟩ := reads_shape hs.r
 obtain ⟨a3, c3, a4, c4, rfl, rfl⟩ := hs.m.shape
 have n0 := hr.a.2.1; have n1 := hr.b.2.1; have n2 := hr.l.2.1; have n5 := hs.r.2.1
 have HR := Lib.hid (fun W (hW : Below w.heap.size w W) => hr.below hW); have HS := Lib.hid (fun W (hW : Below w.heap.size w W) => hs.below hW)
 have HQ : Hid (mvOk c s = (codeOk c && (wi s.pc 0 ((c.list.length : Int) - 1) && (decide (s.regs.length = 14) && (valsOk s.regs && memOk c.vars.length c.arrays.length s.mem))))) := Lib.hid rfl
 clear hr hs
 generalize mvOk c s = G at *
 have hwi : wi s.pc 0 ((c.list.length : Int) - 1) = (decide (0 ≤ s.pc) && decide (s.pc < (c.list.length : Int))) := by unfold wi; rw [← Bool.decide_and]; exact decide_eq_decide.2 ⟨fun h => ⟨h.1, by omega⟩, fun h => ⟨h.1, by omega⟩⟩
 have HQ2 : Hid (G = (codeOk c && (decide (0 ≤ s.pc) && (decide (s.pc < (c.list.length : Int)) && (decide (s.regs.length = 14) && (valsOk s.regs && memOk c.vars.length c.arrays.length s.mem)))))) := Lib.hid (by rw [HQ.out, hwi, Bool.and_assoc])
 clear hwi HQ
 have HQ := HQ2; clear HQ2
 have HCV := Lib.hid (fun W (hW : Below w.heap.size w W) => sCodeValid_any _ _ _ c W (HR.out W hW))
 have HAV := Lib.hid (fun W (hW : Below w.heap.size w W) => l3Values_any _ s.regs W (HS.out W hW).r)
 have HMM := Lib.hid (fun W (hW : Below w.heap.size w W) => l3Fits_any a0 a1 c.vars.length c.arrays.length c0 c1 _ _ s.mem W n0 n1 (HS.out W hW).m.x (HS.out W hW).m.y)
 go_enter Try.func63, Try.ntmps63
 go_upto_region 1 with (fail)
 obtain ⟨w1, hnw, hb⟩ := nmw (World.alloc (World.alloc w (.cells #[.slice a0 c.vars.length c0, .slice a1 c.arrays.length c1, .slice a2 c.list.length c2] 26)) (.cells #[.int .i64 s.pc, .slice a5 s.regs.length c5, .slice a3 s.mem.vals.length c3, .slice a4 s.mem.arrs.length c4] 39))
 have hsz1 := hb.size
 simp only [Sa] at hsz1
 have bx2 : w1.cell? ⟨w.heap.size, 0, none⟩ = some (.slice a0 c.vars.length c0) := Kc hb (Ac (Wc (by simp) (by rfl)) _)
 have bx3 : w1.cell? ⟨w.heap.size, 1, none⟩ = some (.slice a1 c.arrays.length c1) := Kc hb (Ac (Wc (by simp) (by rfl)) _)
 have bx4 : w1.cell? ⟨w.heap.size, 2, none⟩ = some (.slice a2 c.list.length c2) := Kc hb (Ac (Wc (by simp) (by rfl)) _)
 have bx5 : w1.cell? ⟨w.heap.size + 1, 0, none⟩ = some (.int .i64 s.pc) := Kc hb (Wc (by simp) (by rfl))
 have bx6 : w1.cell? ⟨w.heap.size + 1, 1, none⟩ = some (.slice a5 s.regs.length c5) := Kc hb (Wc (by simp) (by rfl))
 have bx7 : w1.cell? ⟨w.heap.size + 1, 2, none⟩ = some (.slice a3 s.mem.vals.length c3) := Kc hb (Wc (by simp) (by rfl))
 have bx8 : w1.cell? ⟨w.heap.size + 1, 3, none⟩ = some (.slice a4 s.mem.arrs.length c4) := Kc hb (Wc (by simp) (by rfl))
 have tot := btr (bal (bal (Bs w) (.cells #[.slice a0 c.vars.length c0, .slice a1 c.arrays.length c1, .slice a2 c.list.length c2] 26)) (.cells #[.int .i64 s.pc, .slice a5 s.regs.length c5, .slice a3 s.mem.vals.length c3, .slice a4 s.mem.arrs.length c4] 39)) hb
 clear hb
 rw [← hnw]
 clear hnw
 have lt9 := Lc bx2
 have lt10 := Lc bx5
 refine wp_region_noPanic ?_
 refine wp_region_held_drew (S := (fun W' => W'.cell? ⟨w.heap.size, 0, none⟩ = some (.slice a0 c.vars.length c0) ∧ W'.cell? ⟨w.heap.size, 1, none⟩ = some (.slice a1 c.arrays.length c1) ∧ W'.cell? ⟨w.heap.size, 2, none⟩ = some (.slice a2 c.list.length c2) ∧ W'.cell? ⟨w.heap.size + 1, 0, none⟩ = some (.int .i64 s.pc) ∧ W'.cell? ⟨w.heap.size + 1, 1, none⟩ = some (.slice a5 s.regs.length c5) ∧ W'.cell? ⟨w.heap.size + 1, 2, none⟩ = some (.slice a3 s.mem.vals.length c3) ∧ W'.cell? ⟨w.heap.size + 1, 3, none⟩ = some (.slice a4 s.mem.arrs.length c4))) (by kernel_rfl) ⟨Kc (Below.drew (Bs w1)) bx2, Kc (Below.drew (Bs w1)) bx3, Kc (Below.drew (Bs w1)) bx4, Kc (Below.drew (Bs w1)) bx5, Kc (Below.drew (Bs w1)) bx6, Kc (Below.drew (Bs w1)) bx7, Kc (Below.drew (Bs w1)) bx8⟩ (fun hHeld => ?_)
 obtain ⟨w2, hwd⟩ : ∃ X, X = World.drew w1 := ⟨_, rfl⟩
 rw [← hwd] at hHeld ⊢
 have hb : Below w1.heap.size w1 w2 := by rw [hwd]; exact Below.drew (Bs _)
 clear hwd
 have hsz11 := hb.size
 replace bx2 := Kc hb bx2
 replace bx3 := Kc hb bx3
 replace bx4 := Kc hb bx4
 replace bx5 := Kc hb bx5
 replace bx6 := Kc hb bx6
 replace bx7 := Kc hb bx7
 replace bx8 := Kc hb bx8
 replace tot := btr tot hb
 clear hb
 replace lt9 := Lc bx2
 replace lt10 := Lc bx5
 refine (tq 0 5 rfl rfl ?_ ?_ ?_)
 (rotate_left; intro W' hSw; (try dsimp only at hSw); go_simp; try with_reducible rfl)
 try simp only [Act.put, sb, List.set]
 refine Rdy 1 rfl (fun K hK => ?_)
 go_simp
 refine (HCV.out _ tot).mono ?_
 rintro e w3 ⟨rfl, hb⟩
 have hsz12 := hb.size
 replace bx2 := Kc hb bx2
 replace bx3 := Kc hb bx3
 replace bx4 := Kc hb bx4
 replace bx5 := Kc hb bx5
 replace bx6 := Kc hb bx6
 replace bx7 := Kc hb bx7
 replace bx8 := Kc hb bx8
 replace tot := btr tot hb
 clear hb
 cases h0 : codeOk c with
 | false =>
  have HG : Hid (G = false) := Lib.hid (by rw [HQ.out, h0]; rfl)
  have Z0 := Lib.hid h0; clear h0
  replace lt9 := Lc bx2
  replace lt10 := Lc bx5
  refine hK.out _ _ ⟨bx2, bx3, bx4, bx5, bx6, bx7, bx8⟩ (fun hHeld => ?_)
  clear hK K
  try simp only [Act.put, sb, List.set]
  refine (tq 2 7 rfl rfl ?_ ?_ ?_)
  (rotate_left; intro W' hSw; (try dsimp only at hSw); go_simp; try with_reducible rfl)
  try simp only [Act.put, sb, List.set]
  refine (tu 3 8 rfl rfl (tu 4 9 rfl rfl (tu 5 10 rfl rfl (tq 6 11 rfl rfl ?_ ?_ (tq 7 12 rfl rfl ?_ ?_ ?_)))))
  iterate 2 (rotate_left; intro W' hSw; (try dsimp only at hSw); go_simp; try with_reducible rfl)
  try simp only [Act.put, sb, List.set]
  refine (tu 8 13 rfl rfl (tu 9 14 rfl rfl (tu 10 15 rfl rfl (tu 11 16 rfl rfl (tu 12 17 rfl rfl (tu 13 18 rfl rfl (tq 14 19 rfl rfl ?_ ?_ (tq 15 20 rfl rfl ?_ ?_ ?_))))))))
  iterate 2 (rotate_left; intro W' hSw; (try dsimp only at hSw); go_simp; try with_reducible rfl)
  try simp only [Act.put, sb, List.set]
  refine (tu 16 21 rfl rfl (tu 17 22 rfl rfl (tu 18 23 rfl rfl (tu 19 24 rfl rfl (tq 20 25 rfl rfl ?_ ?_ (tq 21 26 rfl rfl ?_ ?_ ?_))))))
  iterate 2 (rotate_left; intro W' hSw; (try dsimp only at hSw); go_simp; try with_reducible rfl)
  try simp only [Act.put, sb, List.set]
  refine (tu 22 27 rfl rfl (tu 23 28 rfl rfl (tu 24 29 rfl rfl (tq 25 30 rfl rfl ?_ ?_ (tq 26 31 rfl rfl ?_ ?_ ?_)))))
  iterate 2 (rotate_left; intro W' hSw; (try dsimp only at hSw); go_simp; try with_reducible rfl)
  try simp only [Act.put, sb, List.set]
  refine (tu 27 32 rfl rfl (tu 28 33 rfl rfl (tu 29 34 rfl rfl (tu 30 35 rfl rfl (tu 31 36 rfl rfl (tq 32 37 rfl rfl ?_ ?_ (tq 33 4 rfl rfl ?_ ?_ ?_)))))))
  iterate 2 (rotate_left; intro W' hSw; (try dsimp only at hSw); go_simp; try with_reducible rfl)
  try simp only [Act.put, sb, List.set]
  refine wpAnyH_done (by kernel_rfl) ?_ _
  refine NoPanic.normal ?_
  clear hHeld
  have tt := tot
  go_wp2
  exact bodyPost_ret (v := .bool false) (by simp [results, Try.results63, go_sem]) rfl (by exact by rw [HG.out]; exact ⟨rfl, tt⟩)
 | true =>
  have HQ9 : Hid (G = (decide (0 ≤ s.pc) && (decide (s.pc < (c.list.length : Int)) && (decide (s.regs.length = 14) && (valsOk s.regs && memOk c.vars.length c.arrays.length s.mem))))) := Lib.hid (by rw [HQ.out, h0]; rfl)
  clear HQ
  have HQ := HQ9; clear HQ9
  have Z0 := Lib.hid h0; clear h0
  replace lt9 := Lc bx2
  replace lt10 := Lc bx5
  refine hK.out _ _ ⟨bx2, bx3, bx4, bx5, bx6, bx7, bx8⟩ (fun hHeld => ?_)
  clear hK K
  try simp only [Act.put, sb, List.set]
  refine (tq 2 7 rfl rfl ?_ ?_ ?_)
  (rotate_left; intro W' hSw; (try dsimp only at hSw); go_simp; try with_reducible rfl)
  try simp only [Act.put, sb, List.set]
  refine (tq 3 8 rfl rfl ?_ ?_ (tq 4 9 rfl rfl ?_ ?_ ?_))
  iterate 2 (rotate_left; intro W' hSw; (try dsimp only at hSw); go_simp; try with_reducible rfl)
  try simp only [Act.put, sb, List.set]
  by_cases hs10 : 0 ≤ s.pc
  ·skip
   have HQ9 : Hid (G = (decide (s.pc < (c.list.length : Int)) && (decide (s.regs.length = 14) && (valsOk s.regs && memOk c.vars.length c.arrays.length s.mem)))) := Lib.hid (by rw [HQ.out, decide_eq_true hs10]; rfl)
   clear HQ
   have HQ := HQ9; clear HQ9
   refine (tq 5 10 rfl rfl ?_ ?_ (tq 6 11 rfl rfl ?_ ?_ (tq 7 12 rfl rfl ?_ ?_ ?_)))
   iterate 3 (rotate_left; intro W' hSw; (try dsimp only at hSw); go_simp; try with_reducible rfl)
   try simp only [Act.put, sb, List.set]
   refine (tq 8 13 rfl rfl ?_ ?_ (tq 9 14 rfl rfl ?_ ?_ (tq 10 15 rfl rfl ?_ ?_ (tq 11 16 rfl rfl ?_ ?_ (tq 12 17 rfl rfl ?_ ?_ ?_)))))
   iterate 5 (rotate_left; intro W' hSw; (try dsimp only at hSw); go_simp; try with_reducible rfl)
   try simp only [Act.put, sb, List.set]
   by_cases hs18 : s.pc < (c.list.length : Int)
   ·skip
    have HQ9 : Hid (G = (decide (s.regs.length = 14) && (valsOk s.regs && memOk c.vars.length c.arrays.length s.mem))) := Lib.hid (by rw [HQ.out, decide_eq_true hs18]; rfl)
    clear HQ
    have HQ := HQ9; clear HQ9
    refine (tq 13 18 rfl rfl ?_ ?_ (tq 14 19 rfl rfl ?_ ?_ (tq 15 20 rfl rfl ?_ ?_ ?_)))
    iterate 3 (rotate_left; intro W' hSw; (try dsimp only at hSw); go_simp; try with_reducible rfl)
    try simp only [Act.put, sb, List.set]
    refine (tq 16 21 rfl rfl ?_ ?_ (tq 17 22 rfl rfl ?_ ?_ (tq 18 23 rfl rfl ?_ ?_ ?_)))
    iterate 3 (rotate_left; intro W' hSw; (try dsimp only at hSw); go_simp; try with_reducible rfl)
    try simp only [Act.put, sb, List.set]
    by_cases hs24 : s.regs.length = 14
    ·skip
     have HQ9 : Hid (G = (valsOk s.regs && memOk c.vars.length c.arrays.length s.mem)) := Lib.hid (by rw [HQ.out, decide_eq_true hs24]; rfl)
     clear HQ
     have HQ := HQ9; clear HQ9
     have q3 : ((s.regs.length : Int) == 14) = true := by simp; omega
     have Z3 := Lib.hid hs24; clear hs24
     refine (tq 19 24 rfl rfl ?_ ?_ (tq 20 25 rfl rfl ?_ ?_ (tq 21 26 rfl rfl ?_ ?_ ?_)))
     iterate 3 (rotate_left; intro W' hSw; (try dsimp only at hSw); go_simp; try with_reducible rfl)
     try simp only [Act.put, sb, List.set]
     refine (tq 22 27 rfl rfl ?_ ?_ (tq 23 28 rfl rfl ?_ ?_ ?_))
     iterate 2 (rotate_left; intro W' hSw; (try dsimp only at hSw); go_simp; try with_reducible rfl)
     try simp only [Act.put, sb, List.set]
     refine Rdy 24 rfl (fun K hK => ?_)
     go_simp
     refine (HAV.out _ tot).mono ?_
     rintro e w4 ⟨rfl, hww⟩
     have hb : Below w3.heap.size w3 w4 := by rw [hww]; exact Bs _
     clear hww
     have hsz13 := hb.size
     replace bx2 := Kc hb bx2
     replace bx3 := Kc hb bx3
     replace bx4 := Kc hb bx4
     replace bx5 := Kc hb bx5
     replace bx6 := Kc hb bx6
     replace bx7 := Kc hb bx7
     replace bx8 := Kc hb bx8
     replace tot := btr tot hb
     clear hb
     cases h4 : valsOk s.regs with
     | false =>
      have HG : Hid (G = false) := Lib.hid (by rw [HQ.out, h4]; rfl)
      have Z4 := Lib.hid h4; clear h4
      replace lt9 := Lc bx2
      replace lt10 := Lc bx5
      refine hK.out _ _ ⟨bx2, bx3, bx4, bx5, bx6, bx7, bx8⟩ (fun hHeld => ?_)
      clear hK K
      try simp only [Act.put, sb, List.set]
      refine (tq 25 30 rfl rfl ?_ ?_ (tq 26 31 rfl rfl ?_ ?_ ?_))
      iterate 2 (rotate_left; intro W' hSw; (try dsimp only at hSw); go_simp; try with_reducible rfl)
      try simp only [Act.put, sb, List.set]
      refine (tu 27 32 rfl rfl (tu 28 33 rfl rfl (tu 29 34 rfl rfl (tu 30 35 rfl rfl (tu 31 36 rfl rfl (tq 32 37 rfl rfl ?_ ?_ (tq 33 4 rfl rfl ?_ ?_ ?_)))))))
      iterate 2 (rotate_left; intro W' hSw; (try dsimp only at hSw); go_simp; try with_reducible rfl)
      try simp only [Act.put, sb, List.set]
      refine wpAnyH_done (by kernel_rfl) ?_ _
      refine NoPanic.normal ?_
      clear hHeld
      have tt := tot
      go_wp2
      exact bodyPost_ret (v := .bool false) (by simp [results, Try.results63, go_sem]) rfl (by exact by rw [HG.out]; exact ⟨rfl, tt⟩)
     | true =>
      have HQ9 : Hid (G = memOk c.vars.length c.arrays.length s.mem) := Lib.hid (by rw [HQ.out, h4]; rfl)
      clear HQ
      have HQ := HQ9; clear HQ9
      have Z4 := Lib.hid h4; clear h4
      replace lt9 := Lc bx2
      replace lt10 := Lc bx5
      refine hK.out _ _ ⟨bx2, bx3, bx4, bx5, bx6, bx7, bx8⟩ (fun hHeld => ?_)
      clear hK K
      try simp only [Act.put, sb, List.set]
      refine (tq 25 30 rfl rfl ?_ ?_ (tq 26 31 rfl rfl ?_ ?_ ?_))
      iterate 2 (rotate_left; intro W' hSw; (try dsimp only at hSw); go_simp; try with_reducible rfl)
      try simp only [Act.put, sb, List.set]
      refine (tq 27 32 rfl rfl ?_ ?_ (tq 29 34 rfl rfl ?_ ?_ (tq 30 35 rfl rfl ?_ ?_ ?_)))
      iterate 3 (rotate_left; intro W' hSw; (try dsimp only at hSw); go_simp; try with_reducible rfl)
      try simp only [Act.put, sb, List.set]
      refine Rdy 28 rfl (fun K hK => ?_)
      go_simp
      refine (l6Heads_any a0 a1 a2 c.vars.length c.arrays.length c.list.length c0 c1 c2 _).mono ?_
      rintro e w5 ⟨rfl, hb⟩
      have hsz14 := hb.size
      replace bx2 := Kc hb bx2
      replace bx3 := Kc hb bx3
      replace bx4 := Kc hb bx4
      replace bx5 := Kc hb bx5
      replace bx6 := Kc hb bx6
      replace bx7 := Kc hb bx7
      replace bx8 := Kc hb bx8
      replace tot := btr tot hb
      clear hb
      replace lt9 := Lc bx2
      replace lt10 := Lc bx5
      refine hK.out _ _ ⟨bx2, bx3, bx4, bx5, bx6, bx7, bx8⟩ (fun hHeld => ?_)
      clear hK K
      try simp only [Act.put, sb, List.set]
      refine Rdy 31 rfl (fun K hK => ?_)
      go_simp
      refine (HMM.out _ tot).mono ?_
      rintro e w6 ⟨rfl, hb⟩
      have hsz15 := hb.size
      replace bx2 := Kc hb bx2
      replace bx3 := Kc hb bx3
      replace bx4 := Kc hb bx4
      replace bx5 := Kc hb bx5
      replace bx6 := Kc hb bx6
      replace bx7 := Kc hb bx7
      replace bx8 := Kc hb bx8
      replace tot := btr tot hb
      clear hb
      cases h5 : memOk c.vars.length c.arrays.length s.mem with
      | false =>
       have HG : Hid (G = false) := Lib.hid (by rw [HQ.out, h5])
       have Z5 := Lib.hid h5; clear h5
       replace lt9 := Lc bx2
       replace lt10 := Lc bx5
       refine hK.out _ _ ⟨bx2, bx3, bx4, bx5, bx6, bx7, bx8⟩ (fun hHeld => ?_)
       clear hK K
       try simp only [Act.put, sb, List.set]
       refine (tq 32 37 rfl rfl ?_ ?_ (tq 33 4 rfl rfl ?_ ?_ ?_))
       iterate 2 (rotate_left; intro W' hSw; (try dsimp only at hSw); go_simp; try with_reducible rfl)
       try simp only [Act.put, sb, List.set]
       refine wpAnyH_done (by kernel_rfl) ?_ _
       refine NoPanic.normal ?_
       clear hHeld
       have tt := tot
       go_wp2
       exact bodyPost_ret (v := .bool false) (by simp [results, Try.results63, go_sem]) rfl (by exact by rw [HG.out]; exact ⟨rfl, tt⟩)
      | true =>
       have HG : Hid (G = true) := Lib.hid (by rw [HQ.out, h5])
       have Z5 := Lib.hid h5; clear h5
       replace lt9 := Lc bx2
       replace lt10 := Lc bx5
       refine hK.out _ _ ⟨bx2, bx3, bx4, bx5, bx6, bx7, bx8⟩ (fun hHeld => ?_)
       clear hK K
       try simp only [Act.put, sb, List.set]
       refine (tq 32 37 rfl rfl ?_ ?_ (tq 33 4 rfl rfl ?_ ?_ ?_))
       iterate 2 (rotate_left; intro W' hSw; (try dsimp only at hSw); go_simp; try with_reducible rfl)
       try simp only [Act.put, sb, List.set]
       refine wpAnyH_done (by kernel_rfl) ?_ _
       refine NoPanic.normal ?_
       clear hHeld
       have tt := tot
       go_wp2
       exact bodyPost_ret (v := .bool true) (by simp [results, Try.results63, go_sem]) rfl (by exact by rw [HG.out]; exact ⟨rfl, tt⟩)
    ·skip
     have HG : Hid (G = false) := Lib.hid (by rw [HQ.out, decide_eq_false hs24]; rfl)
     have q3 : ((s.regs.length : Int) == 14) = false := by simp; omega
     have Z3 := Lib.hid hs24; clear hs24
     refine (tq 19 24 rfl rfl ?_ ?_ (tq 20 25 rfl rfl ?_ ?_ (tq 21 26 rfl rfl ?_ ?_ ?_)))
     iterate 3 (rotate_left; intro W' hSw; (try dsimp only at hSw); go_simp; try with_reducible rfl)
     try simp only [Act.put, sb, List.set]
     refine (tu 22 27 rfl rfl (tu 23 28 rfl rfl (tu 24 29 rfl rfl (tq 25 30 rfl rfl ?_ ?_ (tq 26 31 rfl rfl ?_ ?_ ?_)))))
     iterate 2 (rotate_left; intro W' hSw; (try dsimp only at hSw); go_simp; try with_reducible rfl)
     try simp only [Act.put, sb, List.set]
     refine (tu 27 32 rfl rfl (tu 28 33 rfl rfl (tu 29 34 rfl rfl (tu 30 35 rfl rfl (tu 31 36 rfl rfl (tq 32 37 rfl rfl ?_ ?_ (tq 33 4 rfl rfl ?_ ?_ ?_)))))))
     iterate 2 (rotate_left; intro W' hSw; (try dsimp only at hSw); go_simp; try with_reducible rfl)
     try simp only [Act.put, sb, List.set]
     refine wpAnyH_done (by kernel_rfl) ?_ _
     refine NoPanic.normal ?_
     clear hHeld
     have tt := tot
     go_wp2
     exact bodyPost_ret (v := .bool false) (by simp [results, Try.results63, go_sem]) rfl (by exact by rw [HG.out]; exact ⟨rfl, tt⟩)
   ·skip
    have HG : Hid (G = false) := Lib.hid (by rw [HQ.out, decide_eq_false hs18]; rfl)
    refine (tq 13 18 rfl rfl ?_ ?_ (tq 14 19 rfl rfl ?_ ?_ (tq 15 20 rfl rfl ?_ ?_ ?_)))
    iterate 3 (rotate_left; intro W' hSw; (try dsimp only at hSw); go_simp; try with_reducible rfl)
    try simp only [Act.put, sb, List.set]
    refine (tu 16 21 rfl rfl (tu 17 22 rfl rfl (tu 18 23 rfl rfl (tu 19 24 rfl rfl (tq 20 25 rfl rfl ?_ ?_ (tq 21 26 rfl rfl ?_ ?_ ?_))))))
    iterate 2 (rotate_left; intro W' hSw; (try dsimp only at hSw); go_simp; try with_reducible rfl)
    try simp only [Act.put, sb, List.set]
    refine (tu 22 27 rfl rfl (tu 23 28 rfl rfl (tu 24 29 rfl rfl (tq 25 30 rfl rfl ?_ ?_ (tq 26 31 rfl rfl ?_ ?_ ?_)))))
    iterate 2 (rotate_left; intro W' hSw; (try dsimp only at hSw); go_simp; try with_reducible rfl)
    try simp only [Act.put, sb, List.set]
    refine (tu 27 32 rfl rfl (tu 28 33 rfl rfl (tu 29 34 rfl rfl (tu 30 35 rfl rfl (tu 31 36 rfl rfl (tq 32 37 rfl rfl ?_ ?_ (tq 33 4 rfl rfl ?_ ?_ ?_)))))))
    iterate 2 (rotate_left; intro W' hSw; (try dsimp only at hSw); go_simp; try with_reducible rfl)
    try simp only [Act.put, sb, List.set]
    refine wpAnyH_done (by kernel_rfl) ?_ _
    refine NoPanic.normal ?_
    clear hHeld
    have tt := tot
    go_wp2
    exact bodyPost_ret (v := .bool false) (by simp [results, Try.results63, go_sem]) rfl (by exact by rw [HG.out]; exact ⟨rfl, tt⟩)
  ·skip
   have HG : Hid (G = false) := Lib.hid (by rw [HQ.out, decide_eq_false hs10]; rfl)
   refine (tq 5 10 rfl rfl ?_ ?_ (tq 6 11 rfl rfl ?_ ?_ (tq 7 12 rfl rfl ?_ ?_ ?_)))
   iterate 3 (rotate_left; intro W' hSw; (try dsimp only at hSw); go_simp; try with_reducible rfl)
   try simp only [Act.put, sb, List.set]
   refine (tu 8 13 rfl rfl (tu 9 14 rfl rfl (tu 10 15 rfl rfl (tu 11 16 rfl rfl (tu 12 17 rfl rfl (tu 13 18 rfl rfl (tq 14 19 rfl rfl ?_ ?_ (tq 15 20 rfl rfl ?_ ?_ ?_))))))))
   iterate 2 (rotate_left; intro W' hSw; (try dsimp only at hSw); go_simp; try with_reducible rfl)
   try simp only [Act.put, sb, List.set]
   refine (tu 16 21 rfl rfl (tu 17 22 rfl rfl (tu 18 23 rfl rfl (tu 19 24 rfl rfl (tq 20 25 rfl rfl ?_ ?_ (tq 21 26 rfl rfl ?_ ?_ ?_))))))
   iterate 2 (rotate_left; intro W' hSw; (try dsimp only at hSw); go_simp; try with_reducible rfl)
   try simp only [Act.put, sb, List.set]
   refine (tu 22 27 rfl rfl (tu 23 28 rfl rfl (tu 24 29 rfl rfl (tq 25 30 rfl rfl ?_ ?_ (tq 26 31 rfl rfl ?_ ?_ ?_)))))
   iterate 2 (rotate_left; intro W' hSw; (try dsimp only at hSw); go_simp; try with_reducible rfl)
   try simp only [Act.put, sb, List.set]
   refine (tu 27 32 rfl rfl (tu 28 33 rfl rfl (tu 29 34 rfl rfl (tu 30 35 rfl rfl (tu 31 36 rfl rfl (tq 32 37 rfl rfl ?_ ?_ (tq 33 4 rfl rfl ?_ ?_ ?_)))))))
   iterate 2 (rotate_left; intro W' hSw; (try dsimp only at hSw); go_simp; try with_reducible rfl)
   try simp only [Act.put, sb, List.set]
   refine wpAnyH_done (by kernel_rfl) ?_ _
   refine NoPanic.normal ?_
   clear hHeld
   have tt := tot
   go_wp2
   exact bodyPost_ret (v := .bool false) (by simp [results, Try.results63, go_sem]) rfl (by exact by rw [HG.out]; exact ⟨rfl, tt⟩)
end Go.Proofs.Ytkjedgnepnbkpaa
