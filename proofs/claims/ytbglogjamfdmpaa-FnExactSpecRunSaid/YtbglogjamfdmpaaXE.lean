/-
  Parts of the proof of the law FnExactSpecRun.
-/
import Derived.Test.YtbglogjamfdmpaaMZ
import Derived.Test.YtbglogjamfdmpaaRows
namespace Go.Proofs.Ytbglogjamfdmpaa
open Go.RowKit

set_option maxHeartbeats 6400000 in
set_option maxRecDepth 100000 in
theorem execute2_any (F : FuncId) (caps : Array Value) (I : Nat → World → Prop) (B : Nat → Prop) (b base : Nat) (va vb vc vr vv vA : Value) (us : List Value) (c : Cd) (s : Ms) (w : World)
    (hF : ∀ (args : Array Value) (W : World), (callFunc F args).run Try.prog W = .ok (.enter F args) W) (hr : ReadsC w va vb vc c) (hS : OwnS w base b vr vv vA us s) (hM : MsOk c s) (hok : codeOk c = true) (hBb : ¬ B b) (hBM : ∀ q, OwnMB vr vv vA us q → ¬ B q) (hBl : ∀ q, B q → q < w.heap.size)
    (hsep : ∀ q, ReadB va vb vc c q → ¬ q = b ∧ ¬ OwnMB vr vv vA us q ∧ ¬ B q) (h0 : I 0 w)
    (hkeep : ∀ (n : Nat) (W W' : World), I n W → Chg (fun q => q = b ∨ OwnMB vr vv vA us q) W W' → I n W')
    (hcall : ∀ (n : Nat) (W : World) (u : Value), n < 20000 → I n W → w.heap.size + 1 ≤ W.heap.size → W.ownsRow (w.heap.size + 1) 89 2 u (stEvs (insAt c (stN c n s).pc) (stN c n s)).length (evs (stEvs (insAt c (stN c n s).pc) (stN c n s))) → OwnS W base b vr vv vA us (stN c (n + 1) s) → ReadsC W va vb vc c → (∀ q, u.ownBlock = some q → ¬ OwnMB vr vv vA us q ∧ ¬ q = b) →
      Calls Try.prog F (#[.int .i64 (stN c n s).pc, u] ++ caps) W fun e W' => e = .returned (.tuple #[]) ∧ I (n + 1) W' ∧ Chg (fun q => B q ∨ w.heap.size + 1 ≤ q) W W') :
    Calls Try.prog 60 #[.agg #[va, vb, vc], .pointer (some ⟨b, 0, none⟩), .func (.func F) #[] caps] w fun e w' => e = .returned (.bool (runR c s).isSome) ∧ (∀ n, runR c s = some n → n < 20000 ∧ OwnS w' base b vr vv vA us (stN c (n + 1) s) ∧ I (n + 1) w') ∧ Chg (fun q => q = b ∨ OwnMB vr vv vA us q ∨ B q) w w' := by
  obtain ⟨a0, c0, a1, c1, a2, c2, rfl, rfl, rfl⟩ := hr.shape
  have HRS := Lib.hid (fun n h1 h2 h3 => runR_some (c := c) (s := s) (n := n) h1 h2 h3)
  have HRN := Lib.hid (fun h => runR_none (c := c) (s := s) h)
  generalize runR c s = R at *
  obtain ⟨l1, l2⟩ := codeOk_len hok
  have hrl := hr.l
  obtain ⟨_, hn, aa, cap, b', off, hv, hcap, ha, hca⟩ := hrl
  simp only [Value.slice.injEq, true_and] at hv
  obtain ⟨rfl, rfl⟩ := hv
  obtain ⟨rfl, hbs⟩ := ha (by omega)
  have HC := Lib.hid (reads_Instr hca)
  have HSEP := Lib.hid hsep
  have hb'n := hsep b' (Or.inr (Or.inr ⟨off, c2, by omega, rfl⟩))
  obtain ⟨w1, hw1⟩ : ∃ X, X = w.alloc (.cells #[.slice a0 c.vars.length c0, .slice a1 c.arrays.length c1, .slice (some ⟨b', off, none⟩) c.list.length c2] 35) := ⟨_, rfl⟩
  have hb1 : Below w.heap.size w w1 := by rw [hw1]; exact bal (bself w) _
  have hz1 : w1.heap.size = w.heap.size + 1 := by rw [hw1]; simp
  have n0 : w1.cell? ⟨w.heap.size, 0, none⟩ = some (.slice a0 c.vars.length c0) := by rw [hw1]; exact cell_nw rfl rfl
  have n1 : w1.cell? ⟨w.heap.size, 1, none⟩ = some (.slice a1 c.arrays.length c1) := by rw [hw1]; exact cell_nw rfl rfl
  have n2 : w1.cell? ⟨w.heap.size, 2, none⟩ = some (.slice (some ⟨b', off, none⟩) c.list.length c2) := by rw [hw1]; exact cell_nw rfl rfl
  have hz1l : w.heap.size + 1 ≤ w1.heap.size := by omega
  have hz1r : w1.heap.size ≤ w.heap.size + 1 := by omega
  have HW := Lib.hid hw1
  have lS := hS.lt
  have ivr := hr.lt
  have iS := hS.own.lt
  have hbx : ¬ (w.heap.size = b ∨ OwnMB vr vv vA us w.heap.size ∨ B w.heap.size ∨ w1.heap.size ≤ w.heap.size) := by
    rintro (h | h | h | h)
    · omega
    · have := iS _ h; omega
    · have := hBl _ h; omega
    · omega
  have hcd : ∀ q, ReadB (.slice a0 c.vars.length c0) (.slice a1 c.arrays.length c1) (.slice (some ⟨b', off, none⟩) c.list.length c2) c q → ¬ (q = b ∨ OwnMB vr vv vA us q ∨ B q ∨ w1.heap.size ≤ q) := by
    intro q hq
    obtain ⟨h1, h2, h3⟩ := hsep q hq
    have h4 := ivr q hq
    rintro (h | h | h | h)
    · exact h1 h
    · exact h2 h
    · exact h3 h
    · omega
  have HCD := Lib.hid hcd
  have hb'c := hcd b' (Or.inr (Or.inr ⟨off, c2, by omega, rfl⟩))
  have HBM := Lib.hid hBM
  have HIS := Lib.hid iS
  have S1 := hS.below hb1
  have I1 := hkeep 0 w w1 h0 (Chg.of_below hb1)
  have r1 := hr.below hb1
  have HK := Lib.hid hkeep; have HCL := Lib.hid hcall
  have HOK := Lib.hid (fun n => stN_ok hok hM n)
  have HOC := Lib.hid hok
  clear hw1 hz1 hca ha hr hS h0 hkeep hcall hM hsep
  go_enter Try.func60, Try.ntmps60
  go_upto_region 1 with (fail)
  rw [← HW.out]
  clear HW
  go_wp2_with fail
  go_loopw [8] (fun t wr => ∃ n : Nat, n ≤ 20000 ∧ t = .int .i64 n ∧ OwnS wr base b vr vv vA us (stN c n s) ∧ I n wr ∧ Hid (∀ j, j < n → ¬ opAt c s j = 13) ∧ Chg (fun q => q = b ∨ OwnMB vr vv vA us q ∨ B q ∨ w1.heap.size ≤ q) w1 wr) (fun t _ => 20000 - (intOf t).toNat)
  case atStart => exact ⟨0, by omega, rfl, S1, I1, Lib.hid (fun j h => by omega), Chg.refl _ _⟩
  case round =>
    obtain ⟨n, hn2, rfl, hS, hI, HNO, hC⟩ := hrel
    clear S1 I1
    have hzr := hC.size
    have hCw : Chg (fun q => q = b ∨ OwnMB vr vv vA us q ∨ B q) w wr := ⟨hC.os.trans hb1.os, hC.tape.trans hb1.tape, hC.output.trans hb1.output, by omega, fun q hq hn => (hC.block q (by omega) (fun h => by
      rcases h with h | h | h | h
      · exact hn (Or.inl h)
      · exact hn (Or.inr (Or.inl h))
      · exact hn (Or.inr (Or.inr h))
      · omega)).trans (hb1.block q hq)⟩
    by_cases hlt : n < 20000
    · have hMn := HOK.out n
      obtain ⟨k, hk⟩ : ∃ k : Nat, (stN c n s).pc = k := ⟨(stN c n s).pc.toNat, by have := hMn.pc0; omega⟩
      have hkl : k < c.list.length := by have := hMn.pc1; omega
      have c0' := hS.c0
      rw [hk] at c0'
      have kb := lt_of_cell c0'
      have m0 := chg_cell hC n0 hbx
      have m1 := chg_cell hC n1 hbx
      have m2 := chg_cell hC n2 hbx
      have km := lt_of_cell m0
      have rc := r1.keep hC HCD.out
      have HST := Lib.hid (step_any b base _ _ _ vr vv vA us c (stN c n s) wr rc hS hMn HOC.out)
      clear hMn rc
      go_wp2_with fail
      refine HST.out.mono ?_
      rintro e w4 ⟨u, rfl, oE, hS4, hC4⟩
      have I4 := HK.out n wr w4 hI hC4
      have hz4 := hC4.size
      have oE2 := own_mono oE (base' := w.heap.size + 1) (by omega)
      have hCm0 := hC.trans (hC4.mono (T := fun q => q = b ∨ OwnMB vr vv vA us q ∨ B q ∨ w1.heap.size ≤ q) (fun q _ h => by rcases h with h | h; exact Or.inl h; exact Or.inr (Or.inl h)))
      have oEr := oE.lt
      have lSr := hS.lt; have iSr := hS.own.lt
      have HCA := Lib.hid (HCL.out n w4 u hlt I4 (by omega) oE2 hS4 (r1.keep hCm0 HCD.out) (fun q hq => ⟨fun h => by have := oEr q hq; have := iSr q h; omega, fun h => by have := oEr q hq; omega⟩))
      clear hCm0 oEr lSr iSr
      rw [hk] at HCA
      have hop1 : opAt c s n = c.list[k].op := by unfold opAt insAt; rw [hk, Int.toNat_natCast, List.getElem?_eq_getElem hkl]; rfl
      have hst1 : stp (insAt c (stN c n s).pc) (stN c n s) = stN c (n + 1) s := rfl
      rw [hst1] at hS4
      have HOP := Lib.hid hop1
      have HKK := Lib.hid hk
      have hCm := hC.trans (hC4.mono (T := fun q => q = b ∨ OwnMB vr vv vA us q ∨ B q ∨ w1.heap.size ≤ q) (fun q _ h => by rcases h with h | h; exact Or.inl h; exact Or.inr (Or.inl h)))
      clear hop1 hst1 oE oE2 I4 HST hS hI hC hC4 c0' hk
      go_wp2_with fail
      refine HCA.out.mono ?_
      rintro e w5 ⟨rfl, I5, hC5⟩
      have hz5 := hC5.size
      have hS5 := hS4.keep hC5 (fun h => by rcases h with h | h; exact hBb h; omega) (fun q hq h => by rcases h with h | h; exact HBM.out q hq h; have := HIS.out q hq; omega)
      have hCt := hCm.trans (hC5.mono (T := fun q => q = b ∨ OwnMB vr vv vA us q ∨ B q ∨ w1.heap.size ≤ q) (fun q _ h => by rcases h with h | h; exact Or.inr (Or.inr (Or.inl h)); exact Or.inr (Or.inr (Or.inr (by omega)))))
      have p2 := chg_cell hCt n2 hbx
      have kp := lt_of_cell p2
      obtain ⟨e0, _⟩ := HC.out k hkl
      replace e0 := chg_cell hCt (kept_cell hb1 e0) hb'c
      have ke := lt_of_cell e0
      have hqk : (k : Int) < (c.list.length : Int) := by omega
      generalize c.list[k] = x at *
      have HCF : Hid (Chg (fun q => q = b ∨ OwnMB vr vv vA us q ∨ B q) w w5) := Lib.hid ⟨hCt.os.trans hb1.os, hCt.tape.trans hb1.tape, hCt.output.trans hb1.output, by have := hCt.size; omega, fun q hq hn => (hCt.block q (by omega) (fun h => by
        rcases h with h | h | h | h
        · exact hn (Or.inl h)
        · exact hn (Or.inr (Or.inl h))
        · exact hn (Or.inr (Or.inr h))
        · omega)).trans (hb1.block q hq)⟩
      clear hS4 hCm hC5 HCA m0 m1 m2 hCw
      by_cases h13 : x.op = 13
      · have HR : Hid (R = some n) := Lib.hid (HRS.out n hlt HNO.out (by rw [HOP.out]; exact h13))
        rw [h13] at e0
        have HH := Lib.hid (And.intro hS5 I5)
        clear h13 hS5 I5 hCt
        go_wp2
        go_ret
        exact ⟨ret_bool (by rw [HR.out]; rfl), fun n' hn' => by rw [HR.out] at hn'; obtain rfl := Option.some.inj hn'; exact ⟨hlt, HH.out.1, HH.out.2⟩, HCF.out⟩
      · have HNO2 : Hid (∀ j, j < n + 1 → ¬ opAt c s j = 13) := Lib.hid (fun j hj => by
          by_cases e : j = n
          · subst e; rw [HOP.out]; exact h13
          · exact HNO.out j (by omega))
        have hx : (x.op == 13) = false := by simp [h13]
        have HH := Lib.hid (And.intro hS5 I5)
        clear h13 hS5 I5
        go_wp2
        go_roundw
        case rel => exact ⟨n + 1, by omega, by go_num, HH.out.1, HH.out.2, HNO2, hCt⟩
        case measure => simp [intOf]; omega
    · have en : n = 20000 := by omega
      subst en
      have HR : Hid (R = none) := Lib.hid (HRN.out HNO.out)
      clear hS hI HNO
      go_wp2
      go_ret
      exact ⟨ret_bool (by rw [HR.out]; rfl), (fun n' hn' => (by rw [HR.out] at hn'; cases hn')), hCw⟩
end Go.Proofs.Ytbglogjamfdmpaa
