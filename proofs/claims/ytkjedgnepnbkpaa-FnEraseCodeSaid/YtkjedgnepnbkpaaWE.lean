/-
 Parts of the proofs of the laws FnCheckLive, FnCodeFenced, FnEraseCode, FnEraseSecret, FnFinalRegs, FnLiveRegister, FnLiveRegs, FnSpecPath.
-/
import Derived.Test.YtkjedgnepnbkpaaRows
import Derived.Test.YtkjedgnepnbkpaaZPq1
import Derived.Test.YtkjedgnepnbkpaaZS
import Derived.Test.YtkjedgnepnbkpaaNI
set_option maxHeartbeats 12800000
set_option maxRecDepth 100000
set_option linter.all false
namespace Go.Proofs.Ytkjedgnepnbkpaa
open Go.RowKit
theorem law_erase {c : Cd} (h : codeOk c = true ∧ c.list.length ≤ 385) (m : Mm) :
  codeOk (eraseC c) = true ∧ (runB c m = true → runB (eraseC c) m = true → runM c m = runM (eraseC c) m ∧ prj (runE c m) = prj (runE (eraseC c) m) ∧ (runE (eraseC c) m).length = (runE c m).length + 15) ∧ (∀ x ∈ (finR (eraseC c) m).1, x = 0) ∧ runB (eraseC c) m = (finR (eraseC c) m).2 := by
 have a0 := erase_ok h
 refine ⟨a0, fun hp hq => ?_, fun x hx => ?_, ?_⟩
 ·cases hn2 : finN (eraseC c) m with
  | none => rw [(run_no hn2).2.2] at hq; cases hq
  | some n2 =>
   obtain ⟨k, rfl, hk⟩ := erase_fin h.1 a0 hn2
   obtain ⟨hg, _, k3, k2⟩ := finN_iff.1 hk
   obtain ⟨_, _, _, e4, e5, e6⟩ := erase_halt h.1 (ini m) (ini_ok hg) k3 k2
   rw [(run_yes hk).1, (run_yes hk).2.1, (run_yes hn2).1, (run_yes hn2).2.1]
   exact ⟨e4.symm, e5.symm, e6⟩
 ·rcases erase_regs h.1 a0 (m := m) with e | e
  ·rw [e] at hx; exact (List.mem_replicate.1 hx).2
  rw [e] at hx; cases hx
 unfold runB finR
 cases finN (eraseC c) m <;> rfl
end Go.Proofs.Ytkjedgnepnbkpaa
namespace Go.Proofs.Ytkjedgnepnbkpaa
open Go.RowKit
theorem mem_small {c : Cd} {s : Ms} (hok : codeOk c = true) (h : MsOk c s) : s.regs.length ≤ 1048576 ∧ s.mem.vals.length ≤ 1048576 ∧ s.mem.arrs.length ≤ 1048576 ∧ pre2 s.mem.arrs s.mem.arrs.length ≤ 1048576 := by
 obtain ⟨m1, m2, _, m4⟩ := memOk_parts h.mem
 obtain ⟨d1, d2⟩ := declOk_len (codeOk_decl hok)
 refine ⟨by rw [h.regs]; omega, by omega, by omega, ?_⟩
 have hp : ∀ (rs : List (List Int)), (∀ a ∈ rs, a.length = 4) → ∀ k, k ≤ rs.length → pre2 rs k ≤ 4 * k := by
  intro rs hr k
  induction k with
  | zero => intro _; simp [pre2]
  | succ k ih =>
   intro hk
   rw [pre2_succ rs k (by omega)]
   have h1 := ih (by omega)
   have h2 := hr (rs[k]'(by omega)) (List.getElem_mem _)
   omega
 have := hp s.mem.arrs (fun a ha => (m4 a ha).1) s.mem.arrs.length (Nat.le_refl _)
 omega
end Go.Proofs.Ytkjedgnepnbkpaa
namespace Go.Proofs.Ytkjedgnepnbkpaa
open Go.RowKit
theorem prj_take (L : List Ev) (k : Nat) (h : k < L.length) : prj (L.take (k + 1)) = prj (L.take k) ++ (if wi L[k].1 2 4 = true then [L[k]] else []) := by
 rw [List.take_succ_eq_append_getElem h, prj_app]
 congr 1
 unfold prj
 simp only [List.filter_cons, List.filter_nil]
theorem prj_len (L : List Ev) : (prj L).length ≤ L.length := List.length_filter_le _ _
theorem Project_any (v : Value) (L : List Ev) (w : World) (hr : Reads w 2 v L.length (evs L)) (hL : L.length ≤ 1000000000) :
  Calls Try.prog 41 #[v] w fun e w' => ∃ a c, e = .returned (.slice a (prj L).length c) ∧ w'.ownsRow w.heap.size 47 2 (.slice a (prj L).length c) (prj L).length (evs (prj L)) ∧ Below w.heap.size w w' := by
 obtain ⟨a0, c0, rfl⟩ := reads_shape hr
 have HR := Lib.hid (fun W (hW : Below w.heap.size w W) => hr.below hW)
 have HT := Lib.hid (prj_take L); have u0 := Lib.hid (fun k => Nat.le_trans (prj_len (L.take k)) (List.length_take_le k L))
 have t0 := Lib.hid (show L.take L.length = L from List.take_length)
 clear hr
 go_enter Try.func41, Try.ntmps41
 go_wp2_with fail
 go_loopw [3, 8] (fun u i wr => ∃ (k : Nat) (M : List Ev) (a : Option Addr) (c : Nat), u = .slice a M.length c ∧ i = .int .i64 k ∧ k ≤ L.length ∧ Hid (M = prj (L.take k)) ∧ wr.ownsRow w.heap.size 47 2 (.slice a M.length c) M.length (evs M) ∧ Below w.heap.size w wr) (fun _ i _ => L.length - (intOf i).toNat)
 case atStart => exact ⟨0, [], none, 0, rfl, rfl, Nat.zero_le _, Lib.hid rfl, World.ownsRow_nil _ _ _ _, Bs w⟩
 case round =>
  obtain ⟨k, M, a, c, rfl, rfl, hk, HM, oM, d0⟩ := hrel
  obtain ⟨wl, rfl⟩ : ∃ X, X = wr := ⟨_, rfl⟩
  have iM := oM.lt; have i1 := d0.size
  have d1 : M.length ≤ k := by have := u0.out k; rw [← HM.out] at this; exact this
  by_cases hlt : k < L.length
  ·have hq : (k : Int) < (L.length : Int) := by omega
   obtain ⟨_, hn, aa, c1, b0, l1, hv, w0, ha, l0⟩ := HR.out _ d0
   simp only [Value.slice.injEq, true_and] at hv
   obtain ⟨rfl, rfl⟩ := hv
   obtain ⟨rfl, g1⟩ := ha (by omega)
   rw [evs_rows] at l0
   obtain ⟨e0, e1⟩ := reads_Event l0 k hlt
   have r0 := Lib.hid (HT.out k hlt)
   clear l0 ha
   generalize L[k] = x at *
   obtain ⟨x0, x1⟩ := x
   simp only at e0 e1
   have f1 : b0 < wl.heap.size := Lc e0
   go_wp2_with fail
   refine (within_any x0 2 4 _).mono ?_
   rintro e w1 ⟨rfl, hb⟩
   have m0 := hb.size
   simp only [Sa] at m0
   replace oM := Ob (Ob oM (bal (Bs _) _)) hb
   replace e0 := Kc hb (Ac e0 _)
   replace e1 := Kc hb (Ac e1 _)
   have g0 : Bk w1 (wl.heap.size) [.int .i64 x0, .int .i64 x1] := Bk.below (Bk.nw (by simp) rfl) hb
   replace d0 := btr (bal d0 _) hb
   clear hb
   have j1 := Lc e0
   have k1 := Bk.lz g0
   clear e0 e1
   cases hw : wi x0 2 4 with
   | false =>
    have i0 : Hid (M = prj (L.take (k + 1))) := Lib.hid (by rw [r0.out, ← HM.out]; simp only [hw]; simp)
    clear hw
    have HO := Lib.hid oM; have j0 := Lib.hid d0; clear oM d0
    go_wp2
    go_roundw
    case rel => exact ⟨k + 1, M, _, _, rfl, by go_num, by omega, i0, HO.out, j0.out⟩
    case measure => simp [intOf]; omega
   | true =>
    have i0 : Hid (M ++ [(x0, x1)] = prj (L.take (k + 1))) := Lib.hid (by rw [r0.out, ← HM.out]; simp only [hw]; simp)
    clear hw
    obtain ⟨z0, b1, a1, q0⟩ := Bk.f2 g0 0 1 rfl rfl
    go_wp2_with (at_builtin; refine wpList_aps tEvs rfl _ _ rfl (w.heap.size) _ M.length (evs M) rfl (Ob oM (bal (Bs _) (.cells #[.int .i64 x0, .int .i64 x1] 47))) _ 1 (evs [(x0, x1)]) rfl ((Ro (World.ownsRow_lit (base := (w1).heap.size) (e := 47) (size := 2) (w1) #[.int .i64 x0, .int .i64 x1] 1 (Nat.le_refl _) (by unfold maxLen; omega) (by simp)) (by simp))) (one_evs [(x0, x1)]) (by omega) (by first | omega | (simp only [Sa, Ss]; omega)) ?_)
    intro vA w2 h0 hc v0 _
    obtain ⟨o0, p0, rfl⟩ := Oh h0
    have f0 := hc.size
    simp only [Sa] at f0
    clear b1 z0 q0 a1
    replace g0 := Bk.keep (Bk.al g0 _) hc (fun h => by have := iM _ h; omega)
    have k0 : Bk w2 (w1.heap.size) [.int .i64 x0, .int .i64 x1] := Bk.keep (Bk.nw (by simp) rfl) hc (fun h => by have := iM _ h; omega)
    replace d0 := (bal d0 _).trans (hc.below w.heap.size (by have := (bal d0 (.cells #[.int .i64 x0, .int .i64 x1] 47)).size; omega) (fun gq hgq h => by have := iM gq h; omega))
    clear hc
    have n0 := h0.lt
    try simp only [Sa] at n0
    clear v0 oM
    have y0 := Bk.lz k0
    have HO : Hid (∃ a c, Value.slice o0 (M.length + 1) p0 = .slice a (M ++ [(x0, x1)]).length c ∧ World.ownsRow w2 w.heap.size 47 2 (.slice a (M ++ [(x0, x1)]).length c) (M ++ [(x0, x1)]).length (evs (M ++ [(x0, x1)]))) := Lib.hid ⟨_, _, by rw [List.length_append]; rfl, by rw [List.length_append, evs_append]; exact h0⟩; have j0 := Lib.hid d0; clear h0 d0
    go_wp2
    go_roundw
    case rel => obtain ⟨a9, c9, e9, o9⟩ := HO.out; exact ⟨k + 1, M ++ [(x0, x1)], a9, c9, e9, by go_num, by omega, i0, o9, j0.out⟩
    case measure => simp [intOf]; omega
  have hq : decide ((k : Int) < (L.length : Int)) = false := decide_eq_false (by omega)
  have h1 : ¬ (k : Int) < (L.length : Int) := by omega
  have s0 : Hid (M = prj L) := Lib.hid (by rw [HM.out, show k = L.length by omega, t0.out])
  have HO := Lib.hid oM; clear oM
  have tt := d0
  go_wp2
  exact bodyPost_ret (v := .slice a M.length c) (by simp [results, Try.results41, go_sem]) rfl (by exact (by rw [← s0.out]; exact ⟨_, _, rfl, HO.out, tt⟩))
end Go.Proofs.Ytkjedgnepnbkpaa
namespace Go.Proofs.Ytkjedgnepnbkpaa
open Go.RowKit
theorem runM_sm (c : Cd) (m : Mm) : (runM c m).vals.length ≤ 1048576 ∧ (runM c m).arrs.length ≤ 1048576 ∧ pre2 (runM c m).arrs (runM c m).arrs.length ≤ 1048576 := by
 cases h : finN c m with
 | none => rw [(run_no h).2.1]; simp [pre2]
 | some n =>
  rw [(run_yes h).2.1]
  have hg := (finN_iff.1 h).1
  exact (mem_small (goOk_code hg) (stN_ok (goOk_code hg) (ini_ok hg) (n + 1))).2
theorem FnEraseCode_walk (v : Value) (n : Nat) (vs : List Int) (w : World) (r0 : Reads w 1 v n (vs.map (Value.int .u8))) (hv : ∀ x ∈ vs, 0 ≤ x ∧ x < 256) :
  Calls Try.prog 9 #[v] w fun e w' => e = .returned (.bool true) ∧ Below w.heap.size w w' := by
 obtain ⟨va, vc, rfl⟩ := reads_shape r0
 by_cases hn : n ≤ 1048576
 case neg =>
  have k8 : (1048576 : Int) < (n : Int) := by omega
  clear r0
  go_enter Try.func9, Try.ntmps9
  go_wp2
  go_ret
  exact ⟨rfl, Below.refl _ _⟩
 have k8 : ¬ (1048576 : Int) < (n : Int) := by omega
 go_enter Try.func9, Try.ntmps9
 go_wp2_with fail
 refine (DrawCodeRuns_any _ n vs _ (r0.below (Bs w)) hv hn).mono ?_
 rintro e w1 ⟨hA, iA, jA, fA, gA, s9, t9, e9, c9, d9, m, m2, rfl, i7, z2, hm, n1, hb⟩
 clear r0 hv
 obtain ⟨c, p1⟩ := RdC.of i7 z2.1 z2.2.1 z2.2.2
 clear i7 z2
 obtain ⟨a0, c0, a1, c1, a2, c2, rfl, rfl, rfl⟩ := p1.r.shape
 obtain ⟨a3, c3, a4, c4, rfl, rfl⟩ := hm.reads.shape
 obtain ⟨a5, c5, a6, c6, rfl, rfl⟩ := n1.reads.shape
 have y8 : c.vars.length ≤ 1000 ∧ c.arrays.length ≤ 1000 ∧ c.list.length ≤ 1000 := ⟨p1.l0, p1.l1, p1.l2⟩
 have j1 : m.vals.length ≤ 1048576 ∧ m.arrs.length ≤ 1048576 ∧ pre2 m.arrs m.arrs.length ≤ 1048576 := by have h2 := hm.l0; have h3 := hm.l1; have h4 := hm.pre; omega
 have z8 : m2.vals.length ≤ 1048576 ∧ m2.arrs.length ≤ 1048576 ∧ pre2 m2.arrs m2.arrs.length ≤ 1048576 := by have h2 := n1.l0; have h3 := n1.l1; have h4 := n1.pre; omega
 have o8 := hb.size
 have s0 := btr (Bs w) hb
 clear hb
 have n0 := Bs w1
 have HC := Lib.hid (fun W (hW : Below w1.heap.size w1 W) => p1.r.below hW)
 have HM := Lib.hid (fun W (hW : Below w1.heap.size w1 W) => hm.reads.below hW)
 have HN := Lib.hid (fun W (hW : Below w1.heap.size w1 W) => n1.reads.below hW)
 clear p1 hm n1
 obtain ⟨D, ok, i3⟩ : ∃ D ok, eraseR c = (D, ok) := ⟨_, _, rfl⟩
 have a9 : D.vars.length ≤ 1048576 ∧ D.arrays.length ≤ 1048576 ∧ D.list.length ≤ 1048576 := by have := eraseR_lens c; rw [i3] at this; exact this
 have e3 := Lib.hid i3; clear i3
 go_wp2_with fail
 have j0 := iErase_any _ _ _ c _ (HC.out _ (bal (bal (bal n0 (.cells #[.slice a0 c.vars.length c0, .slice a1 c.arrays.length c1, .slice a2 c.list.length c2] 26)) (.cells #[.slice a3 m.vals.length c3, .slice a4 m.arrs.length c4] 37)) (.cells #[.slice a5 m2.vals.length c5, .slice a6 m2.arrs.length c6] 37)))
 rw [e3.out] at j0; dsimp only at j0
 refine (j0).mono ?_
 rintro e w2 ⟨u9, x9, z9, rfl, o1, hb⟩
 obtain ⟨d0, g0, d1, g1, d2, g2, rfl, rfl, rfl⟩ := o1.shape
 clear j0
 replace n0 := btr (bal (bal (bal n0 _) _) _) hb
 have o3 := hb.size
 simp only [Sa] at o3
 have t0 : Bk w2 (w1.heap.size) [.slice a0 c.vars.length c0, .slice a1 c.arrays.length c1, .slice a2 c.list.length c2] := Bk.below (Bk.al (Bk.al (Bk.nw (by simp) rfl) (.cells #[.slice a3 m.vals.length c3, .slice a4 m.arrs.length c4] 37)) (.cells #[.slice a5 m2.vals.length c5, .slice a6 m2.arrs.length c6] 37)) hb
 have o0 : Bk w2 (w1.heap.size + 1) [.slice a3 m.vals.length c3, .slice a4 m.arrs.length c4] := Bk.below (Bk.al (Bk.nw (by simp) rfl) (.cells #[.slice a5 m2.vals.length c5, .slice a6 m2.arrs.length c6] 37)) hb
 have v0 : Bk w2 (w1.heap.size + 1 + 1) [.slice a5 m2.vals.length c5, .slice a6 m2.arrs.length c6] := Bk.below (Bk.nw (by simp) rfl) hb
 replace s0 := btr (bal (bal (bal s0 _) _) _) hb
 clear hb
 have u0 := Bs w2
 have m1 := Lib.hid (fun W (hW : Below w2.heap.size w2 W) => (o1.reads (by omega) (by omega) (by omega)).below hW)
 have p3 := Bk.lz t0
 have q3 := Bk.lz o0
 have k1 := Bk.lz v0
 clear o1
 obtain ⟨v3, j5, x3, k5, y3, l5⟩ := Bk.f3 t0 0 1 2 rfl rfl rfl
 go_wp2_with fail
 have j0 := sErase_any _ _ _ c _ (HC.out _ (bal n0 (.cells #[.slice d0 D.vars.length g0, .slice d1 D.arrays.length g1, .slice d2 D.list.length g2] 26)))
 rw [e3.out] at j0; dsimp only at j0
 refine (j0).mono ?_
 rintro e w3 ⟨v9, y9, aA, rfl, o2, hb⟩
 obtain ⟨e0, f0, e1, f1, e2, f2, rfl, rfl, rfl⟩ := o2.shape
 clear j0
 replace n0 := btr (bal n0 _) hb
 replace u0 := btr (bal u0 _) hb
 have s1 := hb.size
 simp only [Sa] at s1
 clear j5 v3 k5 x3 l5 y3
 replace t0 := Bk.below (Bk.al t0 _) hb
 replace o0 := Bk.below (Bk.al o0 _) hb
 replace v0 := Bk.below (Bk.al v0 _) hb
 have h0 : Bk w3 (w2.heap.size) [.slice d0 D.vars.length g0, .slice d1 D.arrays.length g1, .slice d2 D.list.length g2] := Bk.below (Bk.nw (by simp) rfl) hb
 replace s0 := btr (bal s0 _) hb
 clear hb
 have i0 := Bs w3
 have d3 := Lib.hid (fun W (hW : Below w3.heap.size w3 W) => (o2.reads (by omega) (by omega) (by omega)).below hW)
 replace p3 := Bk.lz t0
 replace q3 := Bk.lz o0
 replace k1 := Bk.lz v0
 have y1 := Bk.lz h0
 clear o2
 cases ok with
 | false =>
  obtain ⟨z3, m5, b4, n5, d4, r5⟩ := Bk.f3 h0 0 1 2 rfl rfl rfl
  go_wp2_with fail
  have j0 := CodeSame_any _ _ _ _ _ _ D D _ (m1.out _ (bal u0 (.cells #[.slice e0 D.vars.length f0, .slice e1 D.arrays.length f1, .slice e2 D.list.length f2] 26))) (d3.out _ (bal i0 (.cells #[.slice e0 D.vars.length f0, .slice e1 D.arrays.length f1, .slice e2 D.list.length f2] 26)))
  rw [decide_eq_true (Eq.refl D)] at j0
  refine (j0).mono ?_
  rintro e w4 ⟨rfl, hb⟩
  clear j0
  replace n0 := btr (bal n0 _) hb
  replace u0 := btr (bal u0 _) hb
  replace i0 := btr (bal i0 _) hb
  have t1 := hb.size
  simp only [Sa] at t1
  clear m5 z3 n5 b4 r5 d4
  replace t0 := Bk.below (Bk.al t0 _) hb
  replace o0 := Bk.below (Bk.al o0 _) hb
  replace v0 := Bk.below (Bk.al v0 _) hb
  replace h0 := Bk.below (Bk.al h0 _) hb
  have i1 : Bk w4 (w3.heap.size) [.slice e0 D.vars.length f0, .slice e1 D.arrays.length f1, .slice e2 D.list.length f2] := Bk.below (Bk.nw (by simp) rfl) hb
  replace s0 := btr (bal s0 _) hb
  clear hb
  have p8 := Bk.lz i1
  obtain ⟨e4, s5, f4, t5, g4, v5⟩ := Bk.f3 h0 0 1 2 rfl rfl rfl
  obtain ⟨i4, x5, j4, y5, k4, z5⟩ := Bk.f3 i1 0 1 2 rfl rfl rfl
  go_wp2_with fail
  have j0 := CodeSame_any _ _ _ _ _ _ D D _ (m1.out _ u0) (d3.out _ i0)
  rw [decide_eq_true (Eq.refl D)] at j0
  refine (j0).mono ?_
  rintro e w5 ⟨rfl, hb⟩
  clear j0
  replace n0 := btr n0 hb
  replace u0 := btr u0 hb
  replace i0 := btr i0 hb
  have m7 := hb.size
  clear s5 e4 t5 f4 v5 g4 x5 i4 y5 j4 z5 k4
  replace t0 := Bk.below t0 hb
  replace o0 := Bk.below o0 hb
  replace v0 := Bk.below v0 hb
  replace h0 := Bk.below h0 hb
  replace i1 := Bk.below i1 hb
  replace s0 := btr s0 hb
  clear hb
  have tt := s0
  go_wp2
  go_ret
  exact ⟨rfl, tt⟩
 | true =>
  obtain ⟨l4, b6, m4, d6, n4, e6⟩ := Bk.f3 h0 0 1 2 rfl rfl rfl
  go_wp2_with fail
  have j0 := CodeSame_any _ _ _ _ _ _ D D _ (m1.out _ (bal u0 (.cells #[.slice e0 D.vars.length f0, .slice e1 D.arrays.length f1, .slice e2 D.list.length f2] 26))) (d3.out _ (bal i0 (.cells #[.slice e0 D.vars.length f0, .slice e1 D.arrays.length f1, .slice e2 D.list.length f2] 26)))
  rw [decide_eq_true (Eq.refl D)] at j0
  refine (j0).mono ?_
  rintro e w4 ⟨rfl, hb⟩
  clear j0
  replace n0 := btr (bal n0 _) hb
  replace u0 := btr (bal u0 _) hb
  replace i0 := btr (bal i0 _) hb
  have u1 := hb.size
  simp only [Sa] at u1
  clear b6 l4 d6 m4 e6 n4
  replace t0 := Bk.below (Bk.al t0 _) hb
  replace o0 := Bk.below (Bk.al o0 _) hb
  replace v0 := Bk.below (Bk.al v0 _) hb
  replace h0 := Bk.below (Bk.al h0 _) hb
  have k0 : Bk w4 (w3.heap.size) [.slice e0 D.vars.length f0, .slice e1 D.arrays.length f1, .slice e2 D.list.length f2] := Bk.below (Bk.nw (by simp) rfl) hb
  replace s0 := btr (bal s0 _) hb
  clear hb
  have z1 := Bk.lz k0
  obtain ⟨h7, e7⟩ := erase_of e3.out
  have f7 := law_erase h7 m
  rw [← e7] at f7
  obtain ⟨hV, j3, hz, b3⟩ := f7
  obtain ⟨E1, u2⟩ : ∃ E, runE c m = E := ⟨_, rfl⟩
  obtain ⟨E2, v2⟩ : ∃ E, runE D m = E := ⟨_, rfl⟩
  obtain ⟨N1, x2⟩ : ∃ N, runM c m = N := ⟨_, rfl⟩
  obtain ⟨N2, y2⟩ : ∃ N, runM D m = N := ⟨_, rfl⟩
  obtain ⟨b1, g3⟩ : ∃ b, runB c m = b := ⟨_, rfl⟩
  obtain ⟨b2, t2⟩ : ∃ b, runB D m = b := ⟨_, rfl⟩
  obtain ⟨X, pb, hX⟩ : ∃ X pb, finR D m = (X, pb) := ⟨_, _, rfl⟩
  have t8 : E1.length ≤ 40002 := by rw [← u2]; have := runE_len c m; omega
  have v8 : E2.length ≤ 40002 := by rw [← v2]; have := runE_len D m; omega
  have m8 := runM_sm c m
  rw [x2] at m8
  have n8 := runM_sm D m
  rw [y2] at n8
  have x8 : X.length ≤ 14 := by have := finR_len D m; rw [hX] at this; exact this
  rw [hX] at hz b3; dsimp only at hz b3; rw [t2] at b3; subst b3
  rw [g3, t2, u2, v2, x2, y2] at j3
  have HV := Lib.hid hV; have f8 := Lib.hid j3; have HZ := Lib.hid hz; have t7 := Lib.hid u2; have u7 := Lib.hid v2; have z7 := Lib.hid x2; have a8 := Lib.hid y2; have r7 := Lib.hid g3; have s7 := Lib.hid t2; have HX := Lib.hid hX
  clear hV j3 hz u2 v2 x2 y2 g3 t2 hX h7 e7
  obtain ⟨o4, f6, p4, g6, q4, h6⟩ := Bk.f3 t0 0 1 2 rfl rfl rfl
  obtain ⟨r4, i6, s4, j6⟩ := Bk.f2 o0 0 1 rfl rfl
  go_wp2_with fail
  have j0 := iRunCode_any _ _ _ _ _ c m _ (HC.out _ n0) (HM.out _ n0) j1.1 j1.2.1 j1.2.2
  rw [r7.out, t7.out, z7.out] at j0
  refine (j0).mono ?_
  rintro e w5 ⟨o9, q9, dA, bA, rfl, oM, oE, hb⟩
  obtain ⟨r3, y6, t3, a7, rfl, rfl⟩ := oM.shape
  obtain ⟨g9, k9, rfl⟩ := Oh oE
  clear j0
  replace n0 := btr n0 hb
  replace u0 := btr u0 hb
  replace i0 := btr i0 hb
  have n7 := hb.size
  clear f6 o4 g6 p4 h6 q4 i6 r4 j6 s4
  replace t0 := Bk.below t0 hb
  replace o0 := Bk.below o0 hb
  replace v0 := Bk.below v0 hb
  replace h0 := Bk.below h0 hb
  replace k0 := Bk.below k0 hb
  replace s0 := btr s0 hb
  clear hb
  have m0 := Bs w5
  have d8 := Lib.hid (fun W (hW : Below w5.heap.size w5 W) => (oM.reads (by omega) (by omega) (by omega)).below hW)
  have x7 := Lib.hid (fun W (hW : Below w5.heap.size w5 W) => (Ro oE (by omega)).below hW)
  replace p3 := Bk.lz t0
  replace q3 := Bk.lz o0
  replace k1 := Bk.lz v0
  replace y1 := Bk.lz h0
  replace z1 := Bk.lz k0
  clear oM oE
  obtain ⟨t4, k6, u4, l6⟩ := Bk.f2 o0 0 1 rfl rfl
  obtain ⟨v4, m6, x4, n6, y4, o6⟩ := Bk.f3 h0 0 1 2 rfl rfl rfl
  go_wp2_with fail
  have j0 := iRunCode_any _ _ _ _ _ D m _ (m1.out _ (bal u0 (.cells #[.slice r3 N1.vals.length y6, .slice t3 N1.arrs.length a7] 37))) (HM.out _ (bal n0 (.cells #[.slice r3 N1.vals.length y6, .slice t3 N1.arrs.length a7] 37))) j1.1 j1.2.1 j1.2.2
  rw [s7.out, u7.out, a8.out] at j0
  refine (j0).mono ?_
  rintro e w6 ⟨p9, r9, eA, cA, rfl, oM, oE, hb⟩
  obtain ⟨s3, z6, u3, b7, rfl, rfl⟩ := oM.shape
  obtain ⟨h9, l9, rfl⟩ := Oh oE
  clear j0
  replace n0 := btr (bal n0 _) hb
  replace u0 := btr (bal u0 _) hb
  replace i0 := btr (bal i0 _) hb
  replace m0 := btr (bal m0 _) hb
  have v1 := hb.size
  simp only [Sa] at v1
  clear k6 t4 l6 u4 m6 v4 n6 x4 o6 y4
  replace t0 := Bk.below (Bk.al t0 _) hb
  replace o0 := Bk.below (Bk.al o0 _) hb
  replace v0 := Bk.below (Bk.al v0 _) hb
  replace h0 := Bk.below (Bk.al h0 _) hb
  replace k0 := Bk.below (Bk.al k0 _) hb
  have p0 : Bk w6 (w5.heap.size) [.slice r3 N1.vals.length y6, .slice t3 N1.arrs.length a7] := Bk.below (Bk.nw (by simp) rfl) hb
  replace s0 := btr (bal s0 _) hb
  clear hb
  have q0 := Bs w6
  have e8 := Lib.hid (fun W (hW : Below w6.heap.size w6 W) => (oM.reads (by omega) (by omega) (by omega)).below hW)
  have y7 := Lib.hid (fun W (hW : Below w6.heap.size w6 W) => (Ro oE (by omega)).below hW)
  replace p3 := Bk.lz t0
  replace q3 := Bk.lz o0
  replace k1 := Bk.lz v0
  replace y1 := Bk.lz h0
  replace z1 := Bk.lz k0
  have q8 := Bk.lz p0
  clear oM oE
  obtain ⟨z4, p6, b5, q6⟩ := Bk.f2 o0 0 1 rfl rfl
  obtain ⟨d5, r6, e5, s6, f5, t6⟩ := Bk.f3 h0 0 1 2 rfl rfl rfl
  go_wp2_with fail
  have j0 := iFinal_any _ _ _ _ _ D m _ (m1.out _ (bal u0 (.cells #[.slice s3 N2.vals.length z6, .slice u3 N2.arrs.length b7] 37))) (HM.out _ (bal n0 (.cells #[.slice s3 N2.vals.length z6, .slice u3 N2.arrs.length b7] 37))) j1.1 j1.2.1 j1.2.2
  rw [HX.out] at j0; dsimp only at j0
  refine (j0).mono ?_
  rintro e w7 ⟨u5, rfl, o5, hb⟩
  obtain ⟨p5, q5, rfl⟩ := Oh o5
  clear j0
  replace n0 := btr (bal n0 _) hb
  replace u0 := btr (bal u0 _) hb
  replace i0 := btr (bal i0 _) hb
  replace m0 := btr (bal m0 _) hb
  replace q0 := btr (bal q0 _) hb
  have x1 := hb.size
  simp only [Sa] at x1
  clear p6 z4 q6 b5 r6 d5 s6 e5 t6 f5
  replace t0 := Bk.below (Bk.al t0 _) hb
  replace o0 := Bk.below (Bk.al o0 _) hb
  replace v0 := Bk.below (Bk.al v0 _) hb
  replace h0 := Bk.below (Bk.al h0 _) hb
  replace k0 := Bk.below (Bk.al k0 _) hb
  replace p0 := Bk.below (Bk.al p0 _) hb
  have w0 : Bk w7 (w6.heap.size) [.slice s3 N2.vals.length z6, .slice u3 N2.arrs.length b7] := Bk.below (Bk.nw (by simp) rfl) hb
  replace s0 := btr (bal s0 _) hb
  clear hb
  have x0 := Bs w7
  have v7 := Lib.hid (fun W (hW : Below w7.heap.size w7 W) => (Ro o5 (by omega)).below hW)
  have r8 := Bk.lz w0
  clear o5
  go_wp2_with fail
  go_loopw [18] (fun i wr => ∃ k : Nat, i = .int .i64 k ∧ k ≤ X.length ∧ Below w7.heap.size w7 wr) (fun i _ => X.length - (intOf i).toNat)
  case atStart => exact ⟨0, rfl, Nat.zero_le _, Bs _⟩
  case round =>
   obtain ⟨k, rfl, hk, z0⟩ := hrel
   obtain ⟨wl, rfl⟩ : ∃ X, X = wr := ⟨_, rfl⟩
   replace n0 := btr n0 z0
   replace u0 := btr u0 z0
   replace i0 := btr i0 z0
   replace m0 := btr m0 z0
   replace q0 := btr q0 z0
   replace x0 := btr x0 z0
   have o7 := z0.size
   replace t0 := Bk.below t0 z0
   replace o0 := Bk.below o0 z0
   replace v0 := Bk.below v0 z0
   replace h0 := Bk.below h0 z0
   replace k0 := Bk.below k0 z0
   replace p0 := Bk.below p0 z0
   replace w0 := Bk.below w0 z0
   replace s0 := btr s0 z0
   clear z0
   by_cases hlt : k < X.length
   ·have hq : (k : Int) < (X.length : Int) := by omega
    obtain ⟨j8, l8, aa, s8, b0, f9, q7, r1, g7, q1⟩ := (v7.out _ x0)
    simp only [Value.slice.injEq, true_and] at q7
    obtain ⟨rfl, rfl⟩ := q7
    obtain ⟨rfl, h8⟩ := g7 (by omega)
    have e0 := q1 k (by simp only [ints, List.length_map]; omega)
    have ez : (ints X)[k]'(by simp only [ints, List.length_map]; omega) = .int .i64 0 := by simp only [ints, List.getElem_map]; rw [HZ.out _ (List.getElem_mem hlt)]
    rw [ez] at e0
    clear q1 g7 l8 r1 j8 ez
    have g8 := Lib.hid x0
    go_wp2
    go_roundw
    case rel => exact ⟨k + 1, by go_num, by omega, g8.out⟩
    case measure => simp [intOf]; omega
   have hq : decide ((k : Int) < (X.length : Int)) = false := decide_eq_false (by omega)
   have b9 : ¬ (k : Int) < (X.length : Int) := by omega
   obtain ⟨g5, u6, h5, v6, i5, x6⟩ := Bk.f3 h0 0 1 2 rfl rfl rfl
   go_wp2_with fail
   have j0 := iCodeValid_any _ _ _ D _ (m1.out _ u0)
   rw [HV.out] at j0
   refine (j0).mono ?_
   rintro e w8 ⟨rfl, hb⟩
   clear j0
   replace n0 := btr n0 hb
   replace u0 := btr u0 hb
   replace i0 := btr i0 hb
   replace m0 := btr m0 hb
   replace q0 := btr q0 hb
   replace x0 := btr x0 hb
   have p7 := hb.size
   clear u6 g5 v6 h5 x6 i5
   replace t0 := Bk.below t0 hb
   replace o0 := Bk.below o0 hb
   replace v0 := Bk.below v0 hb
   replace h0 := Bk.below h0 hb
   replace k0 := Bk.below k0 hb
   replace p0 := Bk.below p0 hb
   replace w0 := Bk.below w0 hb
   replace s0 := btr s0 hb
   clear hb
   cases b1 with
   | false =>
    cases b2 with
    | false =>
     have tt := s0
     go_wp2
     go_ret
     exact ⟨rfl, tt⟩
    | true =>
     have tt := s0
     go_wp2
     go_ret
     exact ⟨rfl, tt⟩
   | true =>
    cases b2 with
    | false =>
     have tt := s0
     go_wp2
     go_ret
     exact ⟨rfl, tt⟩
    | true =>
     obtain ⟨j7, k7, i8⟩ := f8.out rfl rfl
     have HN := Lib.hid j7; have HP := Lib.hid k7; have l7 : ((E2.length : Int) == (E1.length : Int) + 14 + 1) = true := by rw [beq_iff_eq]; omega
     clear j7 k7 i8
     obtain ⟨i2, p2, j2, q2⟩ := Bk.f2 p0 0 1 rfl rfl
     obtain ⟨k2, r2, n2, s2⟩ := Bk.f2 w0 0 1 rfl rfl
     go_wp2_with fail
     have j0 := MemorySame_any _ _ _ _ N1 N2 _ (d8.out _ m0) (e8.out _ q0)
     rw [decide_eq_true HN.out] at j0
     refine (j0).mono ?_
     rintro e w9 ⟨rfl, hb⟩
     clear j0
     replace n0 := btr n0 hb
     replace u0 := btr u0 hb
     replace i0 := btr i0 hb
     replace m0 := btr m0 hb
     replace q0 := btr q0 hb
     replace x0 := btr x0 hb
     have k3 := hb.size
     clear p2 i2 q2 j2 r2 k2 s2 n2
     replace t0 := Bk.below t0 hb
     replace o0 := Bk.below o0 hb
     replace v0 := Bk.below v0 hb
     replace h0 := Bk.below h0 hb
     replace k0 := Bk.below k0 hb
     replace p0 := Bk.below p0 hb
     replace w0 := Bk.below w0 hb
     replace s0 := btr s0 hb
     clear hb
     go_wp2_with fail
     have j0 := Project_any _ E1 _ (x7.out _ m0) (by omega)
     refine (j0).mono ?_
     rintro e c7 ⟨i9, m9, rfl, oP, hb⟩
     clear j0
     replace n0 := btr n0 hb
     replace u0 := btr u0 hb
     replace i0 := btr i0 hb
     replace m0 := btr m0 hb
     replace q0 := btr q0 hb
     replace x0 := btr x0 hb
     have l3 := hb.size
     replace t0 := Bk.below t0 hb
     replace o0 := Bk.below o0 hb
     replace v0 := Bk.below v0 hb
     replace h0 := Bk.below h0 hb
     replace k0 := Bk.below k0 hb
     replace p0 := Bk.below p0 hb
     replace w0 := Bk.below w0 hb
     replace s0 := btr s0 hb
     clear hb
     have y0 := Bs c7
     have b8 := Lib.hid (fun W (hW : Below c7.heap.size c7 W) => (Ro oP (by have := prj_len E1; omega)).below hW)
     clear oP
     go_wp2_with fail
     have j0 := Project_any _ E2 _ (y7.out _ q0) (by omega)
     refine (j0).mono ?_
     rintro e d7 ⟨j9, n9, rfl, oP, hb⟩
     clear j0
     replace n0 := btr n0 hb
     replace u0 := btr u0 hb
     replace i0 := btr i0 hb
     replace m0 := btr m0 hb
     replace q0 := btr q0 hb
     replace x0 := btr x0 hb
     replace y0 := btr y0 hb
     have m3 := hb.size
     replace t0 := Bk.below t0 hb
     replace o0 := Bk.below o0 hb
     replace v0 := Bk.below v0 hb
     replace h0 := Bk.below h0 hb
     replace k0 := Bk.below k0 hb
     replace p0 := Bk.below p0 hb
     replace w0 := Bk.below w0 hb
     replace s0 := btr s0 hb
     clear hb
     have h1 := Bs d7
     have c8 := Lib.hid (fun W (hW : Below d7.heap.size d7 W) => (Ro oP (by have := prj_len E2; omega)).below hW)
     clear oP
     go_wp2_with fail
     have j0 := TraceSame_any _ _ (prj E1) (prj E2) _ (b8.out _ y0) (c8.out _ h1)
     rw [decide_eq_true HP.out] at j0
     refine (j0).mono ?_
     rintro e kA ⟨rfl, hb⟩
     clear j0
     replace n0 := btr n0 hb
     replace u0 := btr u0 hb
     replace i0 := btr i0 hb
     replace m0 := btr m0 hb
     replace q0 := btr q0 hb
     replace x0 := btr x0 hb
     replace y0 := btr y0 hb
     replace h1 := btr h1 hb
     have n3 := hb.size
     replace t0 := Bk.below t0 hb
     replace o0 := Bk.below o0 hb
     replace v0 := Bk.below v0 hb
     replace h0 := Bk.below h0 hb
     replace k0 := Bk.below k0 hb
     replace p0 := Bk.below p0 hb
     replace w0 := Bk.below w0 hb
     replace s0 := btr s0 hb
     clear hb
     have tt := s0
     go_wp2
     go_ret
     exact ⟨rfl, tt⟩
end Go.Proofs.Ytkjedgnepnbkpaa
