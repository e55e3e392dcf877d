/-
 Parts of the proofs of the laws FnCheckLive, FnCodeFenced, FnEraseCode, FnEraseSecret, FnFinalRegs, FnLiveRegister, FnLiveRegs, FnSpecPath.
-/
import Derived.Test.YtkjedgnepnbkpaaMWq1
import Derived.Test.YtkjedgnepnbkpaaMX
import Derived.Test.YtkjedgnepnbkpaaMVq1
set_option linter.all false
namespace Go.Proofs.Ytkjedgnepnbkpaa
open Go.RowKit
theorem halt_regs {x : Ins} {s : Ms} (h : x.op = 13) : (stp x s).regs = s.regs := by
 simp [stp, stRegs, h]
end Go.Proofs.Ytkjedgnepnbkpaa
namespace Go.Proofs.Ytkjedgnepnbkpaa
open Go.RowKit
def DrawCMP (w : World) (r : Ending) (w' : World) : Prop := ∃ (va vb vc vx vy : Value) (nv na nl : Nat) (m : Mm), r = .returned (.tuple #[.agg #[va, vb, vc], .agg #[vx, vy]]) ∧ DrawC w' w.heap.size va vb vc nv na nl ∧ (nv ≤ 1000 ∧ na ≤ 1000 ∧ nl ≤ 1000) ∧ DrM w' w.heap.size vx vy m ∧ Below w.heap.size w w'
end Go.Proofs.Ytkjedgnepnbkpaa
namespace Go.Proofs.Ytkjedgnepnbkpaa
open Go.RowKit
set_option maxHeartbeats 12800000 in
set_option maxRecDepth 100000 in
theorem sFinal_any (va vb vc vx vy : Value) (c : Cd) (m : Mm) (w : World) (hr : ReadsC w va vb vc c) (hm : ReadsM w vx vy m) (hl : m.vals.length ≤ 1048576) (hn : m.arrs.length ≤ 1048576) (hp : pre2 m.arrs m.arrs.length ≤ 1048576) :
  Calls Try.prog 25 #[.agg #[va, vb, vc], .agg #[vx, vy]] w fun e w' => ∃ u, e = .returned (.tuple #[u, .bool (finR c m).2]) ∧ w'.ownsRow w.heap.size 3 1 u (finR c m).1.length (ints (finR c m).1) ∧ Below w.heap.size w w' := by
 obtain ⟨a0, c0, a1, c1, a2, c2, rfl, rfl, rfl⟩ := hr.shape
 obtain ⟨a3, c3, a4, c4, rfl, rfl⟩ := hm.shape
 have i2 := hr.lt
 obtain ⟨w1, j0⟩ : ∃ X, X = ((w.alloc (.cells #[.slice a0 c.vars.length c0, .slice a1 c.arrays.length c1, .slice a2 c.list.length c2] 26)).alloc (.cells #[.slice a3 m.vals.length c3, .slice a4 m.arrs.length c4] 37)) := ⟨_, rfl⟩
 have q0 : Below w.heap.size w w1 := by rw [j0]; exact bal (bal (Bs w) _) _
 have i4 : w.heap.size + 2 ≤ w1.heap.size := by rw [j0]; simp
 have n0 : w1.cell? ⟨w.heap.size, 0, none⟩ = some (.slice a0 c.vars.length c0) := by rw [j0]; exact Ac (Wc rfl rfl) _
 have n1 : w1.cell? ⟨w.heap.size, 1, none⟩ = some (.slice a1 c.arrays.length c1) := by rw [j0]; exact Ac (Wc rfl rfl) _
 have n2 : w1.cell? ⟨w.heap.size, 2, none⟩ = some (.slice a2 c.list.length c2) := by rw [j0]; exact Ac (Wc rfl rfl) _
 have mx : w1.cell? ⟨w.heap.size + 1, 0, none⟩ = some (.slice a3 m.vals.length c3) := by rw [j0]; exact Wc (by simp) rfl
 have my : w1.cell? ⟨w.heap.size + 1, 1, none⟩ = some (.slice a4 m.arrs.length c4) := by rw [j0]; exact Wc (by simp) rfl
 have HW := Lib.hid j0
 have kn := Lc n0; have km := Lc mx
 have o0 := sStart_any _ _ _ _ _ c m w1 (hr.below q0) (hm.below q0).x (hm.below q0).y hl hn hp
 have s1 := Lib.hid (fun W (hW : Below w1.heap.size w1 W) => hr.below (btr q0 hW))
 clear j0 hm hl hn hp hr
 cases hg : goOk c m with
 | false =>
  rw [hg] at o0
  have HF := Lib.hid (finR_no (finN_no hg))
  have s0 := Lib.hid o0
  clear hg o0 i2 s1
  generalize finR c m = R at *
  go_enter Try.func25, Try.ntmps25
  go_upto_region 1 with (fail)
  rw [← HW.out]
  clear HW
  go_wp2_with fail
  refine s0.out.mono ?_
  rintro e w2 ⟨p0, n0', t0, p1, n1', t1, p2, n2', t2, rfl, _, l0⟩
  have hB := bal (bal (btr q0 l0) (.cells #[.int .i64 0, .slice p0 n0' t0, .slice p1 n1' t1, .slice p2 n2' t2] 39)) (.cells #[] 3)
  have ho := own_nil_rows (World.alloc w2 (.cells #[.int .i64 0, .slice p0 n0' t0, .slice p1 n1' t1, .slice p2 n2' t2] 39)) 3 1
  simp only [Sa] at ho
  have w3 := l0.size
  clear s0 n0 n1 n2 mx my l0
  go_wp2
  exact bodyPost_ret (v := .tuple #[.slice (some ⟨w2.heap.size + 1, 0, none⟩) 0 0, .bool false]) (by simp [results, Try.results25, go_sem]) rfl (by rw [HF.out]; exact ⟨_, rfl, Om ho (by omega), hB⟩)
 | true =>
  rw [hg] at o0
  have j1 := Lib.hid (finN_yes hg)
  have r3 := Lib.hid (fun n (h1 : n < 20000) (h2 : ∀ j, j < n → ¬ opAt c (ini m) j = 13) (h3 : opAt c (ini m) n = 13) => finR_yes (j1.out.trans (runR_some h1 h2 h3)))
  have q3 := Lib.hid (fun h => finR_no (j1.out.trans (runR_none (c := c) (s := ini m) h)))
  have j2 := ini_ok hg
  have i1 := goOk_code hg
  obtain ⟨l1, l2⟩ := codeOk_len i1
  have s3 := Lib.hid (fun n => stN_ok i1 j2 n)
  have p3 := Lib.hid i1
  have n3 := Lib.hid (fun n (h : opAt c (ini m) n = 13) => show (stN c (n + 1) (ini m)).regs = (stN c n (ini m)).regs from halt_regs h)
  have s0 := Lib.hid o0
  clear hg o0 j2 i1 j1
  generalize finR c m = R at *
  have k1 : Hid ((ini m).regs = reg0 ∧ (ini m).mem = m ∧ (ini m).pc = 0) := Lib.hid ⟨rfl, rfl, rfl⟩
  generalize ini m = s at *
  go_enter Try.func25, Try.ntmps25
  go_upto_region 1 with (fail)
  rw [← HW.out]
  clear HW
  go_wp2_with fail
  refine s0.out.mono ?_
  rintro e w2 ⟨p0, n0', t0, p1, n1', t1, p2, n2', t2, rfl, hO, l0⟩
  obtain ⟨us, OM⟩ := hO (by trivial)
  obtain ⟨gr', cr', b3⟩ := own_pos OM.r (by rw [reg0_len]; omega)
  simp only [Value.slice.injEq] at b3
  obtain ⟨rfl, rfl, rfl⟩ := b3
  have iM := OM.lt
  have w3 := l0.size
  obtain ⟨w4, b0⟩ : ∃ X, X = (w2.alloc (.cells #[.int .i64 0, .slice (some ⟨gr', 0, none⟩) reg0.length t0, .slice p1 n1' t1, .slice p2 n2' t2] 39)) := ⟨_, rfl⟩
  have v2 : Below w2.heap.size w2 w4 := by rw [b0]; exact bal (Bs w2) _
  have j4 : w2.heap.size + 1 ≤ w4.heap.size := by rw [b0]; simp
  have d0 : w4.cell? ⟨w2.heap.size, 0, none⟩ = some (.int .i64 s.pc) := by rw [b0, k1.out.2.2]; exact Wc rfl rfl
  have d1 : w4.cell? ⟨w2.heap.size, 1, none⟩ = some (.slice (some ⟨gr', 0, none⟩) reg0.length t0) := by rw [b0]; exact Wc rfl rfl
  have d2 : w4.cell? ⟨w2.heap.size, 2, none⟩ = some (.slice p1 n1' t1) := by rw [b0]; exact Wc rfl rfl
  have d3 : w4.cell? ⟨w2.heap.size, 3, none⟩ = some (.slice p2 n2' t2) := by rw [b0]; exact Wc rfl rfl
  have f0 : w4.frozen? ⟨w2.heap.size, 0, none⟩ = false := by rw [b0]; exact Fn rfl
  have f1 : w4.frozen? ⟨w2.heap.size, 1, none⟩ = false := by rw [b0]; exact Fn rfl
  have f2 : w4.frozen? ⟨w2.heap.size, 2, none⟩ = false := by rw [b0]; exact Fn rfl
  have f3 : w4.frozen? ⟨w2.heap.size, 3, none⟩ = false := by rw [b0]; exact Fn rfl
  have q2 : OwnMv w4 w1.heap.size (.slice (some ⟨gr', 0, none⟩) reg0.length t0) (.slice p1 n1' t1) (.slice p2 n2' t2) us s.regs s.mem := by rw [k1.out.1, k1.out.2.1]; exact OM.below v2
  have o2 := Lib.hid b0
  have i0 := btr l0 v2
  replace n0 := Kc i0 n0; replace n1 := Kc i0 n1; replace n2 := Kc i0 n2
  have b1 := btr q0 i0
  have k2 := Lib.hid (s1.out w4 i0)
  have n4 := Lc n0; have m4 := Lc d0
  clear s0 OM mx my km l0 b0
  have u3 : ¬ OwnMB (.slice (some ⟨gr', 0, none⟩) reg0.length t0) (.slice p1 n1' t1) (.slice p2 n2' t2) us w2.heap.size := fun h => by have := iM _ h; omega
  have b2 : ∀ q, ReadB (.slice a0 c.vars.length c0) (.slice a1 c.arrays.length c1) (.slice a2 c.list.length c2) c q → ¬ (q = w2.heap.size ∨ OwnMB (.slice (some ⟨gr', 0, none⟩) reg0.length t0) (.slice p1 n1' t1) (.slice p2 n2' t2) us q) := fun q hq h => by
   have h1 := i2 q hq
   rcases h with h | h
   ·omega
   have := iM _ h; omega
  have v3 := k2.out.l
  obtain ⟨_, hn, aa, e4, b', z3, hv, t3, ha, z2⟩ := v3
  simp only [Value.slice.injEq, true_and] at hv
  obtain ⟨rfl, rfl⟩ := hv
  obtain ⟨rfl, f4⟩ := ha (by omega)
  have HC := Lib.hid (reads_Instr z2)
  have hb'n := b2 b' (Or.inr (Or.inr ⟨z3, c2, by omega, rfl⟩))
  have v1 := Lib.hid b2; have o3 := Lib.hid iM; have r0 := Lib.hid u3
  have e2 : ¬ (w.heap.size = w2.heap.size ∨ OwnMB (.slice (some ⟨gr', 0, none⟩) reg0.length t0) (.slice p1 n1' t1) (.slice p2 n2' t2) us w.heap.size) := by
   rintro (h | h)
   ·omega
   have := iM _ h; omega
  clear z2 ha b2 s1 i2
  go_upto_region 2 with (fail)
  rw [← o2.out]
  clear o2
  go_wp2_with fail
  go_loopw [8] (fun t wr => ∃ n : Nat, n ≤ 20000 ∧ t = .int .i64 n ∧ wr.cell? ⟨w2.heap.size, 0, none⟩ = some (.int .i64 (stN c n s).pc) ∧ wr.cell? ⟨w2.heap.size, 1, none⟩ = some (.slice (some ⟨gr', 0, none⟩) reg0.length t0) ∧ wr.cell? ⟨w2.heap.size, 2, none⟩ = some (.slice p1 n1' t1) ∧ wr.cell? ⟨w2.heap.size, 3, none⟩ = some (.slice p2 n2' t2) ∧ wr.frozen? ⟨w2.heap.size, 0, none⟩ = false ∧ wr.frozen? ⟨w2.heap.size, 1, none⟩ = false ∧ wr.frozen? ⟨w2.heap.size, 2, none⟩ = false ∧ wr.frozen? ⟨w2.heap.size, 3, none⟩ = false ∧ OwnMv wr w1.heap.size (.slice (some ⟨gr', 0, none⟩) reg0.length t0) (.slice p1 n1' t1) (.slice p2 n2' t2) us (stN c n s).regs (stN c n s).mem ∧ Hid (∀ j, j < n → ¬ opAt c s j = 13) ∧ Chg (fun q => q = w2.heap.size ∨ OwnMB (.slice (some ⟨gr', 0, none⟩) reg0.length t0) (.slice p1 n1' t1) (.slice p2 n2' t2) us q) w4 wr) (fun t _ => 20000 - (intOf t).toNat)
  case atStart => exact ⟨0, by omega, rfl, d0, d1, d2, d3, f0, f1, f2, f3, q2, Lib.hid (fun j h => by omega), Chg.refl _ _⟩
  case round =>
   obtain ⟨n, g4, rfl, d0, d1, d2, d3, f0, f1, f2, f3, OM, o1, hC⟩ := hrel
   clear q2
   have l4 := hC.size
   have e1 := b1.trans (hC.below w.heap.size b1.size (fun q hq h => by
    rcases h with h | h
    ·omega
    have := o3.out _ h; omega))
   by_cases hlt : n < 20000
   ·have g1 := s3.out n
    obtain ⟨k, hk⟩ : ∃ k : Nat, (stN c n s).pc = k := ⟨(stN c n s).pc.toNat, by have := g1.pc0; omega⟩
    have e3 : k < c.list.length := by have := g1.pc1; omega
    have w0 : opAt c s n = c.list[k].op := by unfold opAt insAt; rw [hk, Int.toNat_natCast, List.getElem?_eq_getElem e3]; rfl
    have m0 := Gc hC n0 e2
    have m1 := Gc hC n1 e2
    have m2 := Gc hC n2 e2
    have km := Lc m0
    obtain ⟨e0, _⟩ := HC.out k e3
    replace e0 := Gc hC e0 hb'n
    have ke := Lc e0
    have h4 : (k : Int) < (c.list.length : Int) := by omega
    have z1 := Lib.hid (exec_any wr.heap.size w1.heap.size _ _ _ _ _ _ (.slice none 0 0) us c (stN c n s) [] wr (k2.out.keep hC v1.out) OM (World.ownsRow_nil _ _ _ _) (fun q h => by simp [Value.ownBlock] at h) (Nat.le_refl _) (by simp) g1 p3.out)
    have r1 := Lib.hid w0
    have l3 := Lib.hid d0
    have b4 := Lib.hid hk
    have kd := Lc d0
    rw [hk] at d0
    generalize c.list[k] = x at *
    clear g1 w0
    by_cases h13 : x.op = 13
    ·have u1 : Hid (R = ((stN c (n + 1) s).regs, true)) := Lib.hid (r3.out n hlt o1.out (by rw [r1.out]; exact h13))
     have m3 := Lib.hid (n3.out n (by rw [r1.out]; exact h13))
     rw [h13] at e0
     have HO := Lib.hid OM.r
     have z0 := OM.r
     obtain ⟨a9, c9, g2⟩ := Oh z0
     simp only [Value.slice.injEq] at g2
     have d4 := Lib.hid g2.2.1
     clear h13 OM z1 hk z0 g2
     go_wp2
     exact bodyPost_ret (v := .tuple #[.slice (some ⟨gr', 0, none⟩) reg0.length t0, .bool true]) (by simp [results, Try.results25, go_sem]) rfl (by rw [u1.out]; exact ⟨_, rfl, by rw [m3.out]; exact Om HO.out (by omega), e1⟩)
    have q1 : Hid (∀ j, j < n + 1 → ¬ opAt c s j = 13) := Lib.hid (fun j hj => by
     by_cases e : j = n
     ·subst e; rw [r1.out]; exact h13
     exact o1.out j (by omega))
    have hx : (x.op == 13) = false := by simp [h13]
    have k3 : (Value.int .i64 (stN c n s).pc) = .int .i64 (k : Int) := by rw [hk]
    have u0 := Lib.hid (by have h := z1.out; rw [k3] at h; exact h)
    have i3 : stPc (insAt c (stN c n s).pc) (stN c n s) = (stN c (n + 1) s).pc := rfl
    have j3 : stRegs (insAt c (stN c n s).pc) (stN c n s) = (stN c (n + 1) s).regs := rfl
    have g3 : stMem (insAt c (stN c n s).pc) (stN c n s) = (stN c (n + 1) s).mem := rfl
    have v0 := Lib.hid (by have h := u0.out; rw [i3, j3, g3] at h; exact h)
    clear h13 OM z1 u0 i3 j3 g3 k3 hk
    go_wp2_with fail
    refine v0.out.mono ?_
    rintro e w5 ⟨u', rfl, O5, _, _, h0⟩
    have k4 := h0.size
    have k0 : ¬ (OwnMB (.slice (some ⟨gr', 0, none⟩) reg0.length t0) (.slice p1 n1' t1) (.slice p2 n2' t2) us w2.heap.size ∨ (Value.slice none 0 0).ownBlock = some w2.heap.size) := by
     rintro (h | h)
     ·exact r0.out h
     simp [Value.ownBlock] at h
    have HD := l3.out
    replace f0 := Gf h0 (Lc HD) f0 k0; replace f1 := Gf h0 (Lc d1) f1 k0; replace f2 := Gf h0 (Lc d2) f2 k0; replace f3 := Gf h0 (Lc d3) f3 k0
    have g0 := Gc h0 HD k0; replace d1 := Gc h0 d1 k0; replace d2 := Gc h0 d2 k0; replace d3 := Gc h0 d3 k0
    have s2 := hC.trans (h0.mono (T := fun q => q = w2.heap.size ∨ OwnMB (.slice (some ⟨gr', 0, none⟩) reg0.length t0) (.slice p1 n1' t1) (.slice p2 n2' t2) us q) (fun q _ h => by
     rcases h with h | h
     ·exact Or.inr h
     simp [Value.ownBlock] at h))
    have x0 := (Nc (b := w2.heap.size) (j := 3) (Nc (b := w2.heap.size) (j := 2) (Nc (b := w2.heap.size) (j := 1) (Tc _ w2.heap.size 0 (.int .i64 (stN c (n + 1) s).pc) g0) (by omega) (.slice (some ⟨gr', 0, none⟩) reg0.length t0)) (by omega) (.slice p1 n1' t1)) (by omega) (.slice p2 n2' t2))
    have x1 := (Nc (b := w2.heap.size) (j := 3) (Nc (b := w2.heap.size) (j := 2) (Tc _ w2.heap.size 1 (.slice (some ⟨gr', 0, none⟩) reg0.length t0) (Nc (b := w2.heap.size) (j := 0) d1 (by omega) (.int .i64 (stN c (n + 1) s).pc))) (by omega) (.slice p1 n1' t1)) (by omega) (.slice p2 n2' t2))
    have x2 := (Nc (b := w2.heap.size) (j := 3) (Tc _ w2.heap.size 2 (.slice p1 n1' t1) (Nc (b := w2.heap.size) (j := 1) (Nc (b := w2.heap.size) (j := 0) d2 (by omega) (.int .i64 (stN c (n + 1) s).pc)) (by omega) (.slice (some ⟨gr', 0, none⟩) reg0.length t0))) (by omega) (.slice p2 n2' t2))
    have x3 := (Tc _ w2.heap.size 3 (.slice p2 n2' t2) (Nc (b := w2.heap.size) (j := 2) (Nc (b := w2.heap.size) (j := 1) (Nc (b := w2.heap.size) (j := 0) d3 (by omega) (.int .i64 (stN c (n + 1) s).pc)) (by omega) (.slice (some ⟨gr', 0, none⟩) reg0.length t0)) (by omega) (.slice p1 n1' t1)))
    have y0 := (Fs (b := ⟨w2.heap.size, 3, none⟩) (Fs (b := ⟨w2.heap.size, 2, none⟩) (Fs (b := ⟨w2.heap.size, 1, none⟩) (Fs (b := ⟨w2.heap.size, 0, none⟩) f0 (.int .i64 (stN c (n + 1) s).pc)) (.slice (some ⟨gr', 0, none⟩) reg0.length t0)) (.slice p1 n1' t1)) (.slice p2 n2' t2))
    have y1 := (Fs (b := ⟨w2.heap.size, 3, none⟩) (Fs (b := ⟨w2.heap.size, 2, none⟩) (Fs (b := ⟨w2.heap.size, 1, none⟩) (Fs (b := ⟨w2.heap.size, 0, none⟩) f1 (.int .i64 (stN c (n + 1) s).pc)) (.slice (some ⟨gr', 0, none⟩) reg0.length t0)) (.slice p1 n1' t1)) (.slice p2 n2' t2))
    have y2 := (Fs (b := ⟨w2.heap.size, 3, none⟩) (Fs (b := ⟨w2.heap.size, 2, none⟩) (Fs (b := ⟨w2.heap.size, 1, none⟩) (Fs (b := ⟨w2.heap.size, 0, none⟩) f2 (.int .i64 (stN c (n + 1) s).pc)) (.slice (some ⟨gr', 0, none⟩) reg0.length t0)) (.slice p1 n1' t1)) (.slice p2 n2' t2))
    have y3 := (Fs (b := ⟨w2.heap.size, 3, none⟩) (Fs (b := ⟨w2.heap.size, 2, none⟩) (Fs (b := ⟨w2.heap.size, 1, none⟩) (Fs (b := ⟨w2.heap.size, 0, none⟩) f3 (.int .i64 (stN c (n + 1) s).pc)) (.slice (some ⟨gr', 0, none⟩) reg0.length t0)) (.slice p1 n1' t1)) (.slice p2 n2' t2))
    have r2 := ((((O5.far w2.heap.size 0 (.int .i64 (stN c (n + 1) s).pc) r0.out).far w2.heap.size 1 (.slice (some ⟨gr', 0, none⟩) reg0.length t0) r0.out).far w2.heap.size 2 (.slice p1 n1' t1) r0.out).far w2.heap.size 3 (.slice p2 n2' t2) r0.out)
    have u2 := ((((s2.setCell w2.heap.size 0 (.int .i64 (stN c (n + 1) s).pc) (fun _ => Or.inl rfl)).setCell w2.heap.size 1 (.slice (some ⟨gr', 0, none⟩) reg0.length t0) (fun _ => Or.inl rfl)).setCell w2.heap.size 2 (.slice p1 n1' t1) (fun _ => Or.inl rfl)).setCell w2.heap.size 3 (.slice p2 n2' t2) (fun _ => Or.inl rfl))
    have kg := Lc g0
    have HH := Lib.hid (And.intro x0 (And.intro x1 (And.intro x2 (And.intro x3 (And.intro y0 (And.intro y1 (And.intro y2 (And.intro y3 (And.intro r2 u2)))))))))
    clear x0 x1 x2 x3 y0 y1 y2 y3 r2 u2 O5 s2 h0 v0 d0 m0 m1 m2
    go_wp2
    go_roundw
    case rel => exact ⟨n + 1, by omega, by go_num, HH.out.1, HH.out.2.1, HH.out.2.2.1, HH.out.2.2.2.1, HH.out.2.2.2.2.1, HH.out.2.2.2.2.2.1, HH.out.2.2.2.2.2.2.1, HH.out.2.2.2.2.2.2.2.1, HH.out.2.2.2.2.2.2.2.2.1, q1, HH.out.2.2.2.2.2.2.2.2.2⟩
    case measure => simp [intOf]; omega
   have en : n = 20000 := by omega
   subst en
   have u1 : Hid (R = ([], false)) := Lib.hid (q3.out o1.out)
   have ho := own_nil_rows wr 3 1
   have hB := bal e1 (.cells #[] 3)
   clear OM d0 d1 d2 d3 f0 f1 f2 f3 hC
   go_wp2
   exact bodyPost_ret (v := .tuple #[.slice (some ⟨wr.heap.size, 0, none⟩) 0 0, .bool false]) (by simp [results, Try.results25, go_sem]) rfl (by rw [u1.out]; exact ⟨_, rfl, Om ho (by omega), hB⟩)
end Go.Proofs.Ytkjedgnepnbkpaa
