/-
  FinalRegs of the program and of the reference.
-/
import Derived.Test.YtkbbpnfhenoihaaMX
import Derived.Test.YtkbbpnfhenoihaaNA
import Derived.Test.YtkbbpnfhenoihaaNB
namespace Go.Proofs.Ytkbbpnfhenoihaa
open Go.RowKit

def finR (c : Cd) (m : Mm) : List Int × Bool := match finN c m with | some n => ((stN c (n + 1) (ini m)).regs, true) | none => ([], false)
theorem finR_no {c : Cd} {m : Mm} (h : finN c m = none) : finR c m = ([], false) := by unfold finR; rw [h]
theorem finR_yes {c : Cd} {m : Mm} {n : Nat} (h : finN c m = some n) : finR c m = ((stN c (n + 1) (ini m)).regs, true) := by unfold finR; rw [h]
theorem finR_len (c : Cd) (m : Mm) : (finR c m).1.length ≤ 14 := by
  unfold finR
  cases h : finN c m with
  | none => simp
  | some n =>
    unfold finN at h
    by_cases hg : goOk c m = true
    · have := (stN_ok (goOk_code hg) (ini_ok hg) (n + 1)).regs
      simp only; omega
    · rw [if_neg hg] at h; cases h

set_option maxHeartbeats 6400000 in
set_option maxRecDepth 100000 in
theorem iFinal_any (va vb vc vx vy : Value) (c : Cd) (m : Mm) (w : World) (hr : ReadsC w va vb vc c) (hm : ReadsM w vx vy m) (hl : m.vals.length ≤ 1048576) (hn : m.arrs.length ≤ 1048576) (hp : pre2 m.arrs m.arrs.length ≤ 1048576) :
    Calls Try.prog 63 #[.agg #[va, vb, vc], .agg #[vx, vy]] w fun e w' => ∃ u, e = .returned (.tuple #[u, .bool (finR c m).2]) ∧ w'.ownsRow w.heap.size 3 1 u (finR c m).1.length (ints (finR c m).1) ∧ Below w.heap.size w w' := by
  obtain ⟨a0, c0, a1, c1, a2, c2, rfl, rfl, rfl⟩ := hr.shape
  obtain ⟨a3, c3, a4, c4, rfl, rfl⟩ := hm.shape
  have hbx := bal (bal (bself w) (.cells #[.slice a0 c.vars.length c0, .slice a1 c.arrays.length c1, .slice a2 c.list.length c2] 50)) (.cells #[.slice a3 m.vals.length c3, .slice a4 m.arrs.length c4] 71)
  have hm1 := hm.below hbx
  have hRAN := Lib.hid (ran_any _ _ _ _ _ c m _ (hr.below hbx) hm1.x hm1.y hl hn hp)
  clear hr hm hm1
  cases hf : finN c m with
  | none =>
    have HR := Lib.hid (finR_no hf)
    have hRAN2 := Lib.hid (by have h := hRAN.out; rw [hf] at h; exact h)
    clear hRAN hf
    generalize finR c m = R at *
    go_enter Try.func63, Try.ntmps63
    go_wp2_with fail
    refine hRAN2.out.mono ?_
    rintro e w1 ⟨h1, _, hb⟩
    obtain rfl := h1 (by trivial)
    have hB := btr hbx hb
    clear hb h1
    go_wp2
    exact bodyPost_ret (v := .tuple #[.slice none 0 0, .bool false]) (by simp [results, Try.results63, go_sem]) rfl (by rw [HR.out]; exact ⟨_, rfl, World.ownsRow_nil _ _ _ _, hB⟩)
  | some n =>
    have HR := Lib.hid (finR_yes hf)
    have hRAN2 := Lib.hid (by have h := hRAN.out; rw [hf] at h; exact h)
    clear hRAN hf
    generalize finR c m = R at *
    go_enter Try.func63, Try.ntmps63
    go_wp2_with fail
    refine hRAN2.out.mono ?_
    rintro e w1 ⟨_, h2, hb⟩
    obtain ⟨b, vr, vv, vA, us, pu, tu, rfl, _, hS, hbl, _⟩ := h2 n rfl
    have hB := btr hbx hb
    have d1 := hS.c1
    have kd := lt_of_cell d1
    obtain ⟨pr, tr, rfl⟩ := own_shape hS.own.r
    have HO := Lib.hid hS.own.r
    clear hb h2 hS
    go_wp2
    exact bodyPost_ret (v := .tuple #[.slice pr (stN c (n + 1) (ini m)).regs.length tr, .bool true]) (by simp [results, Try.results63, go_sem]) rfl (by rw [HR.out]; exact ⟨_, rfl, own_mono HO.out hbx.size, hB⟩)

set_option maxHeartbeats 12800000 in
set_option maxRecDepth 100000 in
theorem sFinal_any (va vb vc vx vy : Value) (c : Cd) (m : Mm) (w : World) (hr : ReadsC w va vb vc c) (hm : ReadsM w vx vy m) (hl : m.vals.length ≤ 1048576) (hn : m.arrs.length ≤ 1048576) (hp : pre2 m.arrs m.arrs.length ≤ 1048576) :
    Calls Try.prog 62 #[.agg #[va, vb, vc], .agg #[vx, vy]] w fun e w' => ∃ u, e = .returned (.tuple #[u, .bool (finR c m).2]) ∧ w'.ownsRow w.heap.size 3 1 u (finR c m).1.length (ints (finR c m).1) ∧ Below w.heap.size w w' := by
  obtain ⟨a0, c0, a1, c1, a2, c2, rfl, rfl, rfl⟩ := hr.shape
  obtain ⟨a3, c3, a4, c4, rfl, rfl⟩ := hm.shape
  have ivr := hr.lt
  obtain ⟨w1, hw1⟩ : ∃ X, X = ((w.alloc (.cells #[.slice a0 c.vars.length c0, .slice a1 c.arrays.length c1, .slice a2 c.list.length c2] 50)).alloc (.cells #[.slice a3 m.vals.length c3, .slice a4 m.arrs.length c4] 71)) := ⟨_, rfl⟩
  have hb1 : Below w.heap.size w w1 := by rw [hw1]; exact bal (bal (bself w) _) _
  have hz1 : w.heap.size + 2 ≤ w1.heap.size := by rw [hw1]; simp
  have n0 : w1.cell? ⟨w.heap.size, 0, none⟩ = some (.slice a0 c.vars.length c0) := by rw [hw1]; exact cell_al (cell_nw rfl rfl) _
  have n1 : w1.cell? ⟨w.heap.size, 1, none⟩ = some (.slice a1 c.arrays.length c1) := by rw [hw1]; exact cell_al (cell_nw rfl rfl) _
  have n2 : w1.cell? ⟨w.heap.size, 2, none⟩ = some (.slice a2 c.list.length c2) := by rw [hw1]; exact cell_al (cell_nw rfl rfl) _
  have mx : w1.cell? ⟨w.heap.size + 1, 0, none⟩ = some (.slice a3 m.vals.length c3) := by rw [hw1]; exact cell_nw (by simp) rfl
  have my : w1.cell? ⟨w.heap.size + 1, 1, none⟩ = some (.slice a4 m.arrs.length c4) := by rw [hw1]; exact cell_nw (by simp) rfl
  have HW := Lib.hid hw1
  have kn := lt_of_cell n0; have km := lt_of_cell mx
  have HST := sStart_any _ _ _ _ _ c m w1 (hr.below hb1) (hm.below hb1).x (hm.below hb1).y hl hn hp
  have HR1 := Lib.hid (fun W (hW : Below w1.heap.size w1 W) => hr.below (btr hb1 hW))
  clear hw1 hm hl hn hp hr
  cases hg : goOk c m with
  | false =>
    rw [hg] at HST
    have HF := Lib.hid (finR_no (finN_no hg))
    have HSS := Lib.hid HST
    clear hg HST ivr HR1
    generalize finR c m = R at *
    go_enter Try.func62, Try.ntmps62
    go_upto_region 1 with (fail)
    rw [← HW.out]
    clear HW
    go_wp2_with fail
    refine HSS.out.mono ?_
    rintro e w2 ⟨p0, n0', t0, p1, n1', t1, p2, n2', t2, rfl, _, hb2⟩
    have hB := bal (bal (btr hb1 hb2) (.cells #[.int .i64 0, .slice p0 n0' t0, .slice p1 n1' t1, .slice p2 n2' t2] 133)) (.cells #[] 3)
    have ho := own_nil_rows (World.alloc w2 (.cells #[.int .i64 0, .slice p0 n0' t0, .slice p1 n1' t1, .slice p2 n2' t2] 133)) 3 1
    simp only [World.size_alloc] at ho
    have hz2 := hb2.size
    clear HSS n0 n1 n2 mx my hb2
    go_wp2
    exact bodyPost_ret (v := .tuple #[.slice (some ⟨w2.heap.size + 1, 0, none⟩) 0 0, .bool false]) (by simp [results, Try.results62, go_sem]) rfl (by rw [HF.out]; exact ⟨_, rfl, own_mono ho (by omega), hB⟩)
  | true =>
    rw [hg] at HST
    have HFN := Lib.hid (finN_yes hg)
    have HRS := Lib.hid (fun n (h1 : n < 20000) (h2 : ∀ j, j < n → ¬ opAt c (ini m) j = 13) (h3 : opAt c (ini m) n = 13) => finR_yes (HFN.out.trans (runR_some h1 h2 h3)))
    have HRN := Lib.hid (fun h => finR_no (HFN.out.trans (runR_none (c := c) (s := ini m) h)))
    have HMS := ini_ok hg
    have hok := goOk_code hg
    obtain ⟨l1, l2⟩ := codeOk_len hok
    have HSN := Lib.hid (fun n => stN_ok hok HMS n)
    have HOC := Lib.hid hok
    have HHR := Lib.hid (fun n (h : opAt c (ini m) n = 13) => show (stN c (n + 1) (ini m)).regs = (stN c n (ini m)).regs from halt_regs h)
    have HSS := Lib.hid HST
    clear hg HST HMS hok HFN
    generalize finR c m = R at *
    have HIR : Hid ((ini m).regs = reg0 ∧ (ini m).mem = m ∧ (ini m).pc = 0) := Lib.hid ⟨rfl, rfl, rfl⟩
    generalize ini m = s at *
    go_enter Try.func62, Try.ntmps62
    go_upto_region 1 with (fail)
    rw [← HW.out]
    clear HW
    go_wp2_with fail
    refine HSS.out.mono ?_
    rintro e w2 ⟨p0, n0', t0, p1, n1', t1, p2, n2', t2, rfl, hO, hb2⟩
    obtain ⟨us, OM⟩ := hO (by trivial)
    obtain ⟨gr', cr', hgr⟩ := own_pos OM.r (by rw [reg0_len]; omega)
    simp only [Value.slice.injEq] at hgr
    obtain ⟨rfl, rfl, rfl⟩ := hgr
    have iM := OM.lt
    have hz2 := hb2.size
    obtain ⟨w4, hw4⟩ : ∃ X, X = (w2.alloc (.cells #[.int .i64 0, .slice (some ⟨gr', 0, none⟩) reg0.length t0, .slice p1 n1' t1, .slice p2 n2' t2] 133)) := ⟨_, rfl⟩
    have hb4 : Below w2.heap.size w2 w4 := by rw [hw4]; exact bal (bself w2) _
    have hz4 : w2.heap.size + 1 ≤ w4.heap.size := by rw [hw4]; simp
    have d0 : w4.cell? ⟨w2.heap.size, 0, none⟩ = some (.int .i64 s.pc) := by rw [hw4, HIR.out.2.2]; exact cell_nw rfl rfl
    have d1 : w4.cell? ⟨w2.heap.size, 1, none⟩ = some (.slice (some ⟨gr', 0, none⟩) reg0.length t0) := by rw [hw4]; exact cell_nw rfl rfl
    have d2 : w4.cell? ⟨w2.heap.size, 2, none⟩ = some (.slice p1 n1' t1) := by rw [hw4]; exact cell_nw rfl rfl
    have d3 : w4.cell? ⟨w2.heap.size, 3, none⟩ = some (.slice p2 n2' t2) := by rw [hw4]; exact cell_nw rfl rfl
    have f0 : w4.frozen? ⟨w2.heap.size, 0, none⟩ = false := by rw [hw4]; exact froz_nw rfl
    have f1 : w4.frozen? ⟨w2.heap.size, 1, none⟩ = false := by rw [hw4]; exact froz_nw rfl
    have f2 : w4.frozen? ⟨w2.heap.size, 2, none⟩ = false := by rw [hw4]; exact froz_nw rfl
    have f3 : w4.frozen? ⟨w2.heap.size, 3, none⟩ = false := by rw [hw4]; exact froz_nw rfl
    have OM4 : OwnMv w4 w1.heap.size (.slice (some ⟨gr', 0, none⟩) reg0.length t0) (.slice p1 n1' t1) (.slice p2 n2' t2) us s.regs s.mem := by rw [HIR.out.1, HIR.out.2.1]; exact OM.below hb4
    have HW4 := Lib.hid hw4
    have hb24 := btr hb2 hb4
    replace n0 := kept_cell hb24 n0; replace n1 := kept_cell hb24 n1; replace n2 := kept_cell hb24 n2
    have tot4 := btr hb1 hb24
    have HRC := Lib.hid (HR1.out w4 hb24)
    have kn4 := lt_of_cell n0; have kd4 := lt_of_cell d0
    clear HSS OM mx my km hb2 hw4
    have hnb : ¬ OwnMB (.slice (some ⟨gr', 0, none⟩) reg0.length t0) (.slice p1 n1' t1) (.slice p2 n2' t2) us w2.heap.size := fun h => by have := iM _ h; omega
    have hRS : ∀ q, ReadB (.slice a0 c.vars.length c0) (.slice a1 c.arrays.length c1) (.slice a2 c.list.length c2) c q → ¬ (q = w2.heap.size ∨ OwnMB (.slice (some ⟨gr', 0, none⟩) reg0.length t0) (.slice p1 n1' t1) (.slice p2 n2' t2) us q) := fun q hq h => by
      have h1 := ivr q hq
      rcases h with h | h
      · omega
      · have := iM _ h; omega
    have hrl := HRC.out.l
    obtain ⟨_, hn, aa, cap, b', off, hv, hcap, ha, hca⟩ := hrl
    simp only [Value.slice.injEq, true_and] at hv
    obtain ⟨rfl, rfl⟩ := hv
    obtain ⟨rfl, hbs⟩ := ha (by omega)
    have HC := Lib.hid (reads_Instr hca)
    have hb'n := hRS b' (Or.inr (Or.inr ⟨off, c2, by omega, rfl⟩))
    have HRSS := Lib.hid hRS; have HIM := Lib.hid iM; have HNB := Lib.hid hnb
    have hbn : ¬ (w.heap.size = w2.heap.size ∨ OwnMB (.slice (some ⟨gr', 0, none⟩) reg0.length t0) (.slice p1 n1' t1) (.slice p2 n2' t2) us w.heap.size) := by
      rintro (h | h)
      · omega
      · have := iM _ h; omega
    clear hca ha hRS HR1 ivr
    go_upto_region 2 with (fail)
    rw [← HW4.out]
    clear HW4
    go_wp2_with fail
    go_loopw [8] (fun t wr => ∃ n : Nat, n ≤ 20000 ∧ t = .int .i64 n ∧ wr.cell? ⟨w2.heap.size, 0, none⟩ = some (.int .i64 (stN c n s).pc) ∧ wr.cell? ⟨w2.heap.size, 1, none⟩ = some (.slice (some ⟨gr', 0, none⟩) reg0.length t0) ∧ wr.cell? ⟨w2.heap.size, 2, none⟩ = some (.slice p1 n1' t1) ∧ wr.cell? ⟨w2.heap.size, 3, none⟩ = some (.slice p2 n2' t2) ∧ wr.frozen? ⟨w2.heap.size, 0, none⟩ = false ∧ wr.frozen? ⟨w2.heap.size, 1, none⟩ = false ∧ wr.frozen? ⟨w2.heap.size, 2, none⟩ = false ∧ wr.frozen? ⟨w2.heap.size, 3, none⟩ = false ∧ OwnMv wr w1.heap.size (.slice (some ⟨gr', 0, none⟩) reg0.length t0) (.slice p1 n1' t1) (.slice p2 n2' t2) us (stN c n s).regs (stN c n s).mem ∧ Hid (∀ j, j < n → ¬ opAt c s j = 13) ∧ Chg (fun q => q = w2.heap.size ∨ OwnMB (.slice (some ⟨gr', 0, none⟩) reg0.length t0) (.slice p1 n1' t1) (.slice p2 n2' t2) us q) w4 wr) (fun t _ => 20000 - (intOf t).toNat)
    case atStart => exact ⟨0, by omega, rfl, d0, d1, d2, d3, f0, f1, f2, f3, OM4, Lib.hid (fun j h => by omega), Chg.refl _ _⟩
    case round =>
      obtain ⟨n, hn2, rfl, d0, d1, d2, d3, f0, f1, f2, f3, OM, HNO, hC⟩ := hrel
      clear OM4
      have hzr := hC.size
      have totr := tot4.trans (hC.below w.heap.size tot4.size (fun q hq h => by
        rcases h with h | h
        · omega
        · have := HIM.out _ h; omega))
      by_cases hlt : n < 20000
      · have hMn := HSN.out n
        obtain ⟨k, hk⟩ : ∃ k : Nat, (stN c n s).pc = k := ⟨(stN c n s).pc.toNat, by have := hMn.pc0; omega⟩
        have hkl : k < c.list.length := by have := hMn.pc1; omega
        have hop1 : opAt c s n = c.list[k].op := by unfold opAt insAt; rw [hk, Int.toNat_natCast, List.getElem?_eq_getElem hkl]; rfl
        have m0 := chg_cell hC n0 hbn
        have m1 := chg_cell hC n1 hbn
        have m2 := chg_cell hC n2 hbn
        have km := lt_of_cell m0
        obtain ⟨e0, _⟩ := HC.out k hkl
        replace e0 := chg_cell hC e0 hb'n
        have ke := lt_of_cell e0
        have hqk : (k : Int) < (c.list.length : Int) := by omega
        have HXE := Lib.hid (exec_any wr.heap.size w1.heap.size _ _ _ _ _ _ (.slice none 0 0) us c (stN c n s) [] wr (HRC.out.keep hC HRSS.out) OM (World.ownsRow_nil _ _ _ _) (fun q h => by simp [Value.ownBlock] at h) (Nat.le_refl _) (by simp) hMn HOC.out)
        have HOP := Lib.hid hop1
        have HD0 := Lib.hid d0
        have HKK := Lib.hid hk
        have kd := lt_of_cell d0
        rw [hk] at d0
        generalize c.list[k] = x at *
        clear hMn hop1
        by_cases h13 : x.op = 13
        · have HRR : Hid (R = ((stN c (n + 1) s).regs, true)) := Lib.hid (HRS.out n hlt HNO.out (by rw [HOP.out]; exact h13))
          have HHH := Lib.hid (HHR.out n (by rw [HOP.out]; exact h13))
          rw [h13] at e0
          have HO := Lib.hid OM.r
          have hrl2 := OM.r
          obtain ⟨a9, c9, hs9⟩ := own_shape hrl2
          simp only [Value.slice.injEq] at hs9
          have HS9 := Lib.hid hs9.2.1
          clear h13 OM HXE hk hrl2 hs9
          go_wp2
          exact bodyPost_ret (v := .tuple #[.slice (some ⟨gr', 0, none⟩) reg0.length t0, .bool true]) (by simp [results, Try.results62, go_sem]) rfl (by rw [HRR.out]; exact ⟨_, rfl, by rw [HHH.out]; exact own_mono HO.out (by omega), totr⟩)
        · have HNO2 : Hid (∀ j, j < n + 1 → ¬ opAt c s j = 13) := Lib.hid (fun j hj => by
            by_cases e : j = n
            · subst e; rw [HOP.out]; exact h13
            · exact HNO.out j (by omega))
          have hx : (x.op == 13) = false := by simp [h13]
          have hvp : (Value.int .i64 (stN c n s).pc) = .int .i64 (k : Int) := by rw [hk]
          have HXE2 := Lib.hid (by have h := HXE.out; rw [hvp] at h; exact h)
          have hpc : stPc (insAt c (stN c n s).pc) (stN c n s) = (stN c (n + 1) s).pc := rfl
          have hst : stRegs (insAt c (stN c n s).pc) (stN c n s) = (stN c (n + 1) s).regs := rfl
          have hme : stMem (insAt c (stN c n s).pc) (stN c n s) = (stN c (n + 1) s).mem := rfl
          have HXE3 := Lib.hid (by have h := HXE2.out; rw [hpc, hst, hme] at h; exact h)
          clear h13 OM HXE HXE2 hpc hst hme hvp hk
          go_wp2_with fail
          refine HXE3.out.mono ?_
          rintro e w5 ⟨u', rfl, O5, _, _, hC5⟩
          have hz5 := hC5.size
          have hnS : ¬ (OwnMB (.slice (some ⟨gr', 0, none⟩) reg0.length t0) (.slice p1 n1' t1) (.slice p2 n2' t2) us w2.heap.size ∨ (Value.slice none 0 0).ownBlock = some w2.heap.size) := by
            rintro (h | h)
            · exact HNB.out h
            · simp [Value.ownBlock] at h
          have HD := HD0.out
          replace f0 := chg_froz hC5 (lt_of_cell HD) f0 hnS; replace f1 := chg_froz hC5 (lt_of_cell d1) f1 hnS; replace f2 := chg_froz hC5 (lt_of_cell d2) f2 hnS; replace f3 := chg_froz hC5 (lt_of_cell d3) f3 hnS
          have g0 := chg_cell hC5 HD hnS; replace d1 := chg_cell hC5 d1 hnS; replace d2 := chg_cell hC5 d2 hnS; replace d3 := chg_cell hC5 d3 hnS
          have hCa := hC.trans (hC5.mono (T := fun q => q = w2.heap.size ∨ OwnMB (.slice (some ⟨gr', 0, none⟩) reg0.length t0) (.slice p1 n1' t1) (.slice p2 n2' t2) us q) (fun q _ h => by
            rcases h with h | h
            · exact Or.inr h
            · simp [Value.ownBlock] at h))
          have x0 := (cell_ne (b := w2.heap.size) (j := 3) (cell_ne (b := w2.heap.size) (j := 2) (cell_ne (b := w2.heap.size) (j := 1) (cell_at _ w2.heap.size 0 (.int .i64 (stN c (n + 1) s).pc) g0) (by omega) (.slice (some ⟨gr', 0, none⟩) reg0.length t0)) (by omega) (.slice p1 n1' t1)) (by omega) (.slice p2 n2' t2))
          have x1 := (cell_ne (b := w2.heap.size) (j := 3) (cell_ne (b := w2.heap.size) (j := 2) (cell_at _ w2.heap.size 1 (.slice (some ⟨gr', 0, none⟩) reg0.length t0) (cell_ne (b := w2.heap.size) (j := 0) d1 (by omega) (.int .i64 (stN c (n + 1) s).pc))) (by omega) (.slice p1 n1' t1)) (by omega) (.slice p2 n2' t2))
          have x2 := (cell_ne (b := w2.heap.size) (j := 3) (cell_at _ w2.heap.size 2 (.slice p1 n1' t1) (cell_ne (b := w2.heap.size) (j := 1) (cell_ne (b := w2.heap.size) (j := 0) d2 (by omega) (.int .i64 (stN c (n + 1) s).pc)) (by omega) (.slice (some ⟨gr', 0, none⟩) reg0.length t0))) (by omega) (.slice p2 n2' t2))
          have x3 := (cell_at _ w2.heap.size 3 (.slice p2 n2' t2) (cell_ne (b := w2.heap.size) (j := 2) (cell_ne (b := w2.heap.size) (j := 1) (cell_ne (b := w2.heap.size) (j := 0) d3 (by omega) (.int .i64 (stN c (n + 1) s).pc)) (by omega) (.slice (some ⟨gr', 0, none⟩) reg0.length t0)) (by omega) (.slice p1 n1' t1)))
          have y0 := (froz_st (b := ⟨w2.heap.size, 3, none⟩) (froz_st (b := ⟨w2.heap.size, 2, none⟩) (froz_st (b := ⟨w2.heap.size, 1, none⟩) (froz_st (b := ⟨w2.heap.size, 0, none⟩) f0 (.int .i64 (stN c (n + 1) s).pc)) (.slice (some ⟨gr', 0, none⟩) reg0.length t0)) (.slice p1 n1' t1)) (.slice p2 n2' t2))
          have y1 := (froz_st (b := ⟨w2.heap.size, 3, none⟩) (froz_st (b := ⟨w2.heap.size, 2, none⟩) (froz_st (b := ⟨w2.heap.size, 1, none⟩) (froz_st (b := ⟨w2.heap.size, 0, none⟩) f1 (.int .i64 (stN c (n + 1) s).pc)) (.slice (some ⟨gr', 0, none⟩) reg0.length t0)) (.slice p1 n1' t1)) (.slice p2 n2' t2))
          have y2 := (froz_st (b := ⟨w2.heap.size, 3, none⟩) (froz_st (b := ⟨w2.heap.size, 2, none⟩) (froz_st (b := ⟨w2.heap.size, 1, none⟩) (froz_st (b := ⟨w2.heap.size, 0, none⟩) f2 (.int .i64 (stN c (n + 1) s).pc)) (.slice (some ⟨gr', 0, none⟩) reg0.length t0)) (.slice p1 n1' t1)) (.slice p2 n2' t2))
          have y3 := (froz_st (b := ⟨w2.heap.size, 3, none⟩) (froz_st (b := ⟨w2.heap.size, 2, none⟩) (froz_st (b := ⟨w2.heap.size, 1, none⟩) (froz_st (b := ⟨w2.heap.size, 0, none⟩) f3 (.int .i64 (stN c (n + 1) s).pc)) (.slice (some ⟨gr', 0, none⟩) reg0.length t0)) (.slice p1 n1' t1)) (.slice p2 n2' t2))
          have OM6 := ((((O5.far w2.heap.size 0 (.int .i64 (stN c (n + 1) s).pc) HNB.out).far w2.heap.size 1 (.slice (some ⟨gr', 0, none⟩) reg0.length t0) HNB.out).far w2.heap.size 2 (.slice p1 n1' t1) HNB.out).far w2.heap.size 3 (.slice p2 n2' t2) HNB.out)
          have hCb := ((((hCa.setCell w2.heap.size 0 (.int .i64 (stN c (n + 1) s).pc) (fun _ => Or.inl rfl)).setCell w2.heap.size 1 (.slice (some ⟨gr', 0, none⟩) reg0.length t0) (fun _ => Or.inl rfl)).setCell w2.heap.size 2 (.slice p1 n1' t1) (fun _ => Or.inl rfl)).setCell w2.heap.size 3 (.slice p2 n2' t2) (fun _ => Or.inl rfl))
          have kg := lt_of_cell g0
          have HH := Lib.hid (And.intro x0 (And.intro x1 (And.intro x2 (And.intro x3 (And.intro y0 (And.intro y1 (And.intro y2 (And.intro y3 (And.intro OM6 hCb)))))))))
          clear x0 x1 x2 x3 y0 y1 y2 y3 OM6 hCb O5 hCa hC5 HXE3 d0 m0 m1 m2
          go_wp2
          go_roundw
          case rel => exact ⟨n + 1, by omega, by go_num, HH.out.1, HH.out.2.1, HH.out.2.2.1, HH.out.2.2.2.1, HH.out.2.2.2.2.1, HH.out.2.2.2.2.2.1, HH.out.2.2.2.2.2.2.1, HH.out.2.2.2.2.2.2.2.1, HH.out.2.2.2.2.2.2.2.2.1, HNO2, HH.out.2.2.2.2.2.2.2.2.2⟩
          case measure => simp [intOf]; omega
      · have en : n = 20000 := by omega
        subst en
        have HRR : Hid (R = ([], false)) := Lib.hid (HRN.out HNO.out)
        have ho := own_nil_rows wr 3 1
        have hB := bal totr (.cells #[] 3)
        clear OM d0 d1 d2 d3 f0 f1 f2 f3 hC
        go_wp2
        exact bodyPost_ret (v := .tuple #[.slice (some ⟨wr.heap.size, 0, none⟩) 0 0, .bool false]) (by simp [results, Try.results62, go_sem]) rfl (by rw [HRR.out]; exact ⟨_, rfl, own_mono ho (by omega), hB⟩)
end Go.Proofs.Ytkbbpnfhenoihaa
