/-
  Parts of the proof of the law FnExactCountBranches.
-/
import Derived.Test.YtbglogjamfdmpaaNB
import Derived.Test.YtbglogjamfdmpaaNF
namespace Go.Proofs.Ytbglogjamfdmpaa
open Go.RowKit

/-- the count that the closure keeps, and the code that it reads -/
structure CI (W : World) (Bc X : Nat) (va vb vc : Value) (c : Cd) (s : Ms) (n : Nat) : Prop where
  c0 : W.cell? ⟨Bc, 0, none⟩ = some (.int .i64 (brN c n s))
  f0 : W.frozen? ⟨Bc, 0, none⟩ = false
  x2 : W.cell? ⟨X, 2, none⟩ = some vc
  rd : ReadsC W va vb vc c
theorem CI.keep {W W' : World} {Bc X : Nat} {va vb vc : Value} {c : Cd} {s : Ms} {n : Nat} (h : CI W Bc X va vb vc c s n) {S : Nat → Prop} (hC : Chg S W W') (h1 : ¬ S Bc) (h2 : ¬ S X) (h3 : ∀ q, ReadB va vb vc c q → ¬ S q) : CI W' Bc X va vb vc c s n :=
  ⟨chg_cell hC h.c0 h1, chg_froz hC (lt_of_cell h.c0) h.f0 h1, chg_cell hC h.x2 h2, h.rd.keep hC h3⟩
theorem cnt_step (Bc X : Nat) (va vb vc u : Value) (c : Cd) (s : Ms) (n : Nat) (W : World) (hI : CI W Bc X va vb vc c s n) (hM : MsOk c (stN c n s)) (hn : n < 20000) (hXB : ¬ X = Bc) (hRB : ∀ q, ReadB va vb vc c q → ¬ q = Bc) :
    Calls Try.prog 61 #[.int .i64 (stN c n s).pc, u, .pointer (some ⟨Bc, 0, none⟩), .pointer (some ⟨X, 0, none⟩)] W fun e W' => e = .returned (.tuple #[]) ∧ CI W' Bc X va vb vc c s (n + 1) ∧ Chg (fun q => q = Bc) W W' := by
  obtain ⟨k, hk⟩ : ∃ k : Nat, (stN c n s).pc = k := ⟨(stN c n s).pc.toNat, by have := hM.pc0; omega⟩
  have hkl : k < c.list.length := by have := hM.pc1; omega
  have hop : opAt c s n = c.list[k].op := by
    unfold opAt insAt
    rw [hk, Int.toNat_natCast, List.getElem?_eq_getElem hkl]; rfl
  have hrl := hI.rd.l
  have hx := hI.x2
  obtain ⟨_, hnl, aa, cap, b', off, hv, hcap, ha, hca⟩ := hrl
  obtain ⟨rfl, hbs⟩ := ha (by omega)
  subst hv
  have hbB := hRB b' (Or.inr (Or.inr ⟨off, cap, by omega, rfl⟩))
  rw [hk]
  refine (cnt1_any Bc X b' off k cap (brN c n s) u c W hI.c0 hI.f0 hx hkl (reads_Instr hca k hkl) (by have := brN_le c s n; omega) hbB).mono ?_
  rintro e W' ⟨he, h0, h1, hC⟩
  refine ⟨he, ⟨?_, h1, chg_cell hC hx hXB, hI.rd.keep hC (fun q hq h => hRB q hq h)⟩, hC⟩
  rw [brN_succ, hop]; exact h0

set_option maxHeartbeats 12800000 in
set_option maxRecDepth 100000 in
theorem iCount_any (va vb vc vx vy : Value) (c : Cd) (m : Mm) (w : World) (hr : ReadsC w va vb vc c) (hm : ReadsM w vx vy m) (hl : m.vals.length ≤ 1048576) (hn : m.arrs.length ≤ 1048576) (hp : pre2 m.arrs m.arrs.length ≤ 1048576) :
    Calls Try.prog 16 #[.agg #[va, vb, vc], .agg #[vx, vy]] w fun e w' => e = .returned (.tuple #[.int .i64 (cntR c m).1, .bool (cntR c m).2]) ∧ Below w.heap.size w w' := by
  obtain ⟨a0, c0, a1, c1, a2, c2, rfl, rfl, rfl⟩ := hr.shape
  obtain ⟨a3, c3, a4, c4, rfl, rfl⟩ := hm.shape
  have ivr := hr.lt
  obtain ⟨w1, hw1⟩ : ∃ X, X = ((w.alloc (.cells #[.slice a0 c.vars.length c0, .slice a1 c.arrays.length c1, .slice a2 c.list.length c2] 35)).alloc (.cells #[.slice a3 m.vals.length c3, .slice a4 m.arrs.length c4] 37)) := ⟨_, rfl⟩
  have hb1 : Below w.heap.size w w1 := by rw [hw1]; exact bal (bal (bself w) _) _
  have hz1 : w.heap.size + 2 ≤ w1.heap.size := by rw [hw1]; simp
  have n0 : w1.cell? ⟨w.heap.size, 0, none⟩ = some (.slice a0 c.vars.length c0) := by rw [hw1]; exact cell_al (cell_nw rfl rfl) _
  have n1 : w1.cell? ⟨w.heap.size, 1, none⟩ = some (.slice a1 c.arrays.length c1) := by rw [hw1]; exact cell_al (cell_nw rfl rfl) _
  have n2 : w1.cell? ⟨w.heap.size, 2, none⟩ = some (.slice a2 c.list.length c2) := by rw [hw1]; exact cell_al (cell_nw rfl rfl) _
  have mx : w1.cell? ⟨w.heap.size + 1, 0, none⟩ = some (.slice a3 m.vals.length c3) := by rw [hw1]; exact cell_nw (by simp) rfl
  have my : w1.cell? ⟨w.heap.size + 1, 1, none⟩ = some (.slice a4 m.arrs.length c4) := by rw [hw1]; exact cell_nw (by simp) rfl
  have HW := Lib.hid hw1
  have kn := lt_of_cell n0; have km := lt_of_cell mx
  have HST := iStart_any _ _ _ _ _ c m w1 (hr.below hb1) (hm.below hb1).x (hm.below hb1).y hl hn hp
  have HR1 := Lib.hid (fun W (hW : Below w1.heap.size w1 W) => hr.below (btr hb1 hW))
  clear hw1 hm hl hn hp hr
  cases hg : goOk c m with
  | false =>
    rw [hg] at HST
    have HF := Lib.hid (cntR_no (finN_no hg))
    have HSS := Lib.hid HST
    clear hg HST ivr HR1
    generalize cntR c m = R at *
    go_enter Try.func16, Try.ntmps16
    go_upto_region 1 with (fail)
    rw [← HW.out]
    clear HW
    go_wp2_with fail
    refine HSS.out.mono ?_
    rintro e w2 ⟨p0, n0', t0, p1, n1', t1, p2, n2', t2, rfl, _, hb2⟩
    have hB := bal (btr hb1 hb2) (.cells #[.int .i64 0, .slice p0 n0' t0, .slice p1 n1' t1, .slice p2 n2' t2] 49)
    clear HSS n0 n1 n2 mx my
    go_wp2
    exact bodyPost_ret (v := .tuple #[.int .i64 0, .bool false]) (by simp [results, Try.results16, go_sem]) rfl (by rw [HF.out]; exact ⟨rfl, hB⟩)
  | true =>
    rw [hg] at HST
    have HY := Lib.hid (fun n (h : runR c (ini m) = some n) => cntR_yes ((finN_yes hg).trans h))
    have HN := Lib.hid (fun (h : runR c (ini m) = none) => cntR_no ((finN_yes hg).trans h))
    have HMS := Lib.hid (ini_ok hg); have HOK := Lib.hid (goOk_code hg)
    have HSS := Lib.hid HST
    clear hg HST
    generalize cntR c m = R at *
    have HIR : Hid ((ini m).regs = reg0 ∧ (ini m).mem = m ∧ (ini m).pc = 0) := Lib.hid ⟨rfl, rfl, rfl⟩
    generalize ini m = s at *
    go_enter Try.func16, Try.ntmps16
    go_upto_region 1 with (fail)
    rw [← HW.out]
    clear HW
    go_wp2_with fail
    refine HSS.out.mono ?_
    rintro e w2 ⟨p0, n0', t0, p1, n1', t1, p2, n2', t2, rfl, hO, hb2⟩
    obtain ⟨us, OM⟩ := hO (by trivial)
    have iM := OM.lt
    have hz2 := hb2.size
    obtain ⟨w4, hw4⟩ : ∃ X, X = ((w2.alloc (.cells #[.int .i64 0, .slice p0 n0' t0, .slice p1 n1' t1, .slice p2 n2' t2] 49)).alloc (.cells #[.int .i64 0] 3)) := ⟨_, rfl⟩
    have hb4 : Below w2.heap.size w2 w4 := by rw [hw4]; exact bal (bal (bself w2) _) _
    have hz4 : w4.heap.size = w2.heap.size + 1 + 1 := by rw [hw4]; simp
    have hz4l : w2.heap.size + 2 ≤ w4.heap.size := by omega
    have hz4r : w4.heap.size ≤ w2.heap.size + 2 := by omega
    have d0 : w4.cell? ⟨w2.heap.size, 0, none⟩ = some (.int .i64 0) := by rw [hw4]; exact cell_al (cell_nw rfl rfl) _
    have d1 : w4.cell? ⟨w2.heap.size, 1, none⟩ = some (.slice p0 n0' t0) := by rw [hw4]; exact cell_al (cell_nw rfl rfl) _
    have d2 : w4.cell? ⟨w2.heap.size, 2, none⟩ = some (.slice p1 n1' t1) := by rw [hw4]; exact cell_al (cell_nw rfl rfl) _
    have d3 : w4.cell? ⟨w2.heap.size, 3, none⟩ = some (.slice p2 n2' t2) := by rw [hw4]; exact cell_al (cell_nw rfl rfl) _
    have df : w4.frozen? ⟨w2.heap.size, 0, none⟩ = false := by rw [hw4]; exact froz_al (by simp) (froz_nw rfl) _
    have g0 : w4.cell? ⟨w2.heap.size + 1, 0, none⟩ = some (.int .i64 0) := by rw [hw4]; exact cell_nw (by simp) rfl
    have gf : w4.frozen? ⟨w2.heap.size + 1, 0, none⟩ = false := by rw [hw4]; exact froz_nw (by simp)
    have HW4 := Lib.hid hw4
    have hS : OwnS w4 w1.heap.size w2.heap.size (.slice p0 n0' t0) (.slice p1 n1' t1) (.slice p2 n2' t2) us s := by
      refine ⟨?_, d1, d2, d3, df, ?_, fun h => by have := iM _ h; omega⟩
      · rw [HIR.out.2.2]; exact d0
      · rw [HIR.out.1, HIR.out.2.1]; exact OM.below hb4
    have hb24 := btr hb2 hb4
    have rc := HR1.out w4 hb24
    have hXM : ¬ (w.heap.size = w2.heap.size ∨ OwnMB (.slice p0 n0' t0) (.slice p1 n1' t1) (.slice p2 n2' t2) us w.heap.size) := by
      rintro (h | h)
      · omega
      · have := iM _ h; omega
    have hBS : ¬ (w2.heap.size + 1 = w2.heap.size ∨ OwnMB (.slice p0 n0' t0) (.slice p1 n1' t1) (.slice p2 n2' t2) us (w2.heap.size + 1)) := by
      rintro (h | h)
      · omega
      · have := iM _ h; omega
    have hRM : ∀ q, ReadB (.slice a0 c.vars.length c0) (.slice a1 c.arrays.length c1) (.slice a2 c.list.length c2) c q → ¬ (q = w2.heap.size ∨ OwnMB (.slice p0 n0' t0) (.slice p1 n1' t1) (.slice p2 n2' t2) us q) := fun q hq h => by
      have h1 := ivr q hq
      rcases h with h | h
      · omega
      · have := iM _ h; omega
    have hRB : ∀ q, ReadB (.slice a0 c.vars.length c0) (.slice a1 c.arrays.length c1) (.slice a2 c.list.length c2) c q → ¬ q = w2.heap.size + 1 := fun q hq h => by
      have h1 := ivr q hq; omega
    have hMN := fun n => stN_ok HOK.out HMS.out n
    have hEX := execute_any 61 #[.pointer (some ⟨w2.heap.size + 1, 0, none⟩), .pointer (some ⟨w.heap.size, 0, none⟩)]
      (fun n W => CI W (w2.heap.size + 1) w.heap.size (.slice a0 c.vars.length c0) (.slice a1 c.arrays.length c1) (.slice a2 c.list.length c2) c s n)
      (w2.heap.size + 1) w2.heap.size w1.heap.size _ _ _ _ _ _ us c s w4 cnt1_call rc hS HMS.out HOK.out (by omega) (fun h => by have := iM _ h; omega) (by omega)
      (fun q hq => by have := ivr q hq; exact ⟨by omega, fun h => by have := iM q h; omega, by omega⟩)
      ⟨g0, gf, kept_cell hb24 n2, rc⟩
      (fun n W W' hI hC => hI.keep hC hBS hXM hRM)
      (fun n W u hn hI hN hE => (cnt_step (w2.heap.size + 1) w.heap.size _ _ _ u c s n W hI (hMN n) hn (by omega) hRB).mono (fun e W' h => ⟨h.1, h.2.1, h.2.2.mono (fun q _ h => Or.inl h)⟩))
    have HEX := Lib.hid hEX
    clear hEX hw4 hz4 HSS hS rc OM hXM hBS hRM hRB hMN
    replace n0 := kept_cell hb24 n0; replace n1 := kept_cell hb24 n1; replace n2 := kept_cell hb24 n2
    have kn4 := lt_of_cell n0; have kg := lt_of_cell g0
    have tot4 := btr hb1 hb24
    go_upto_region 5 with (fail)
    rw [← HW4.out]
    clear HW4 mx my d0 d1 d2 d3 df hb4 hb2
    go_wp2_with fail
    refine HEX.out.mono ?_
    rintro e w5 ⟨rfl, hNN, hC⟩
    have hz5 := hC.size
    have tot5 := tot4.trans (hC.below w.heap.size tot4.size (fun q hq h => by
      rcases h with h | h | h
      · omega
      · have := iM _ h; omega
      · omega))
    clear HEX hC g0 gf n0 n1 n2
    cases hR : runR c s with
    | none =>
      have HRR := Lib.hid (HN.out hR)
      clear hNN hR
      go_wp2
      exact bodyPost_ret (v := .tuple #[.int .i64 0, .bool false]) (by simp [results, Try.results16, go_sem]) rfl (by rw [HRR.out]; exact ⟨rfl, tot5⟩)
    | some n =>
      have HRR := Lib.hid (HY.out n hR)
      obtain ⟨_, _, hI⟩ := hNN n hR
      have h1 := hI.c0
      have kh := lt_of_cell h1
      clear hR hNN hI
      go_wp2
      exact bodyPost_ret (v := .tuple #[.int .i64 (brN c (n + 1) s), .bool true]) (by simp [results, Try.results16, go_sem]) rfl (by rw [HRR.out]; exact ⟨rfl, tot5⟩)
end Go.Proofs.Ytbglogjamfdmpaa
