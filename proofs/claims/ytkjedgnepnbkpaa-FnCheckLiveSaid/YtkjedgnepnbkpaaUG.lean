/-
 Parts of the proofs of the laws FnCheckLive, FnCodeFenced, FnEraseCode, FnEraseSecret, FnFinalRegs, FnLiveRegister, FnLiveRegs, FnSpecPath.
-/
import Derived.Test.YtkjedgnepnbkpaaUI
set_option linter.all false
namespace Go.Proofs.Ytkjedgnepnbkpaa
open Go.RowKit
theorem leq_bit {A M : List Bool} (h : leq A M) {r : Nat} (hr : r < 14) (h1 : r < A.length) (h2 : r < M.length) (ha : A[r] = true) : M[r] = true := by
 have := h r hr
 rw [List.getD_eq_getElem?_getD, List.getD_eq_getElem?_getD, List.getElem?_eq_getElem h1, List.getElem?_eq_getElem h2] at this
 exact this ha
set_option maxHeartbeats 12800000 in
set_option maxRecDepth 100000 in
theorem FnCheckLive_walk (v : Value) (n : Nat) (vs : List Int) (w : World) (r0 : Reads w 1 v n (vs.map (Value.int .u8))) (hv : ∀ x ∈ vs, 0 ≤ x ∧ x < 256) :
  Calls Try.prog 7 #[v] w fun e w' => e = .returned (.bool true) ∧ Below w.heap.size w w' := by
 obtain ⟨va, vc, rfl⟩ := reads_shape r0
 by_cases hn : n ≤ 1048576
 case neg =>
  have j1 : (1048576 : Int) < (n : Int) := by omega
  clear r0
  go_enter Try.func7, Try.ntmps7
  go_wp2
  go_ret
  exact ⟨rfl, Below.refl _ _⟩
 have j1 : ¬ (1048576 : Int) < (n : Int) := by omega
 go_enter Try.func7, Try.ntmps7
 go_wp2_with fail
 refine (DrawCheckLive_any _ n vs _ (r0.below (Bs w)) hv hn).mono ?_
 rintro e w1 ⟨n4, o4, p4, u9, l4, j4, k4, L, rfl, t2, w0, v0, hb⟩
 clear r0 hv
 obtain ⟨c, j0⟩ := RdC.of t2 w0.1 w0.2.1 w0.2.2
 clear t2 w0
 obtain ⟨a0, c0, a1, c1, a2, c2, rfl, rfl, rfl⟩ := j0.r.shape
 obtain ⟨p9, q9, rfl⟩ := v0.1.shape
 have e4 : c.vars.length ≤ 1000 ∧ c.arrays.length ≤ 1000 ∧ c.list.length ≤ 1000 := ⟨j0.l0, j0.l1, j0.l2⟩
 have d4 := v0.2.1
 have u3 := hb.size
 have e0 := btr (Bs w) hb
 clear hb
 have b0 := Bs w1
 have HC := Lib.hid (fun W (hW : Below w1.heap.size w1 W) => j0.r.below hW)
 have HL := Lib.hid (fun W (hW : Below w1.heap.size w1 W) => v0.1.below hW)
 clear j0 v0
 obtain ⟨ck, p2⟩ : ∃ b, checkR c L = b := ⟨_, rfl⟩
 have q0 := Lib.hid p2; clear p2
 go_wp2_with fail
 have f0 := iCheckLive_any _ _ _ _ c L _ (HC.out _ (bal b0 (.cells #[.slice a0 c.vars.length c0, .slice a1 c.arrays.length c1, .slice a2 c.list.length c2] 26))) (HL.out _ (bal b0 (.cells #[.slice a0 c.vars.length c0, .slice a1 c.arrays.length c1, .slice a2 c.list.length c2] 26)))
 rw [q0.out] at f0
 refine (f0).mono ?_
 rintro e w2 ⟨rfl, hb⟩
 clear f0
 replace b0 := btr (bal b0 _) hb
 have k1 := hb.size
 simp only [Sa] at k1
 have g0 : Bk w2 (w1.heap.size) [.slice a0 c.vars.length c0, .slice a1 c.arrays.length c1, .slice a2 c.list.length c2] := Bk.below (Bk.nw (by simp) rfl) hb
 replace e0 := btr (bal e0 _) hb
 clear hb
 have i4 := Bk.lz g0
 obtain ⟨v3, y3, x3, z3, m1, z1⟩ := Bk.f3 g0 0 1 2 rfl rfl rfl
 go_wp2_with fail
 have f0 := sCheckLive_any _ _ _ _ c L _ (HC.out _ b0) (HL.out _ b0)
 rw [q0.out] at f0
 refine (f0).mono ?_
 rintro e w3 ⟨rfl, hb⟩
 clear f0
 replace b0 := btr b0 hb
 have a3 := hb.size
 clear y3 v3 z3 x3 z1 m1
 replace g0 := Bk.below g0 hb
 replace e0 := btr e0 hb
 clear hb
 cases ck with
 | false =>
  obtain ⟨n1, d2, s1, g2, t1, i2⟩ := Bk.f3 g0 0 1 2 rfl rfl rfl
  go_wp2_with fail
  have f0 := sCheckLive_any _ _ _ _ c L _ (HC.out _ b0) (HL.out _ b0)
  rw [q0.out] at f0
  refine (f0).mono ?_
  rintro e w4 ⟨rfl, hb⟩
  clear f0
  replace b0 := btr b0 hb
  have c3 := hb.size
  clear d2 n1 g2 s1 i2 t1
  replace g0 := Bk.below g0 hb
  replace e0 := btr e0 hb
  clear hb
  have tt := e0
  go_wp2
  go_ret
  exact ⟨rfl, tt⟩
 | true =>
  obtain ⟨G, hG⟩ : ∃ G, liveR c = G := ⟨_, rfl⟩
  obtain ⟨_, v2, o3, x2, g1, i1⟩ := law_check q0.out
  rw [hG] at v2 g1 i1
  have HG := Lib.hid hG; have t0 := Lib.hid x2; have k0 := Lib.hid g1; have s0 := Lib.hid i1; have g4 : L.length ≤ G.length ∧ G.length ≤ L.length := by omega
  clear hG v2 o3 x2 g1 i1
  obtain ⟨v1, j2, x1, k2, y1, m2⟩ := Bk.f3 g0 0 1 2 rfl rfl rfl
  go_wp2_with fail
  have f0 := iLiveRegs_any _ _ _ c _ (HC.out _ b0)
  rw [HG.out] at f0
  refine (f0).mono ?_
  rintro e w4 ⟨u1, m4, rfl, o1, hb⟩
  obtain ⟨p1, q1, rfl⟩ := o1.shape
  clear f0
  replace b0 := btr b0 hb
  have d3 := hb.size
  clear j2 v1 k2 x1 m2 y1
  replace g0 := Bk.below g0 hb
  replace e0 := btr e0 hb
  clear hb
  have d0 := Bs w4
  have e3 := Lib.hid (fun W (hW : Below w4.heap.size w4 W) => (o1.reads (by omega) (fun k r hr => by obtain ⟨hk, rfl⟩ := List.getElem?_eq_some_iff.1 hr; have := k0.out k hk; omega)).below hW)
  clear o1
  have n2 : Hid (∃ k : Nat, Value.int .i64 0 = .int .i64 k ∧ k ≤ G.length ∧ Below w1.heap.size w1 w4 ∧ Below w4.heap.size w4 w4 ∧ Below w.heap.size w w4) := Lib.hid ⟨0, rfl, by omega, b0, d0, e0⟩
  go_wp2_with fail
  go_loopw [7] (fun i wr => ∃ k : Nat, i = .int .i64 k ∧ k ≤ G.length ∧ Below w1.heap.size w1 wr ∧ Below w4.heap.size w4 wr ∧ Below w.heap.size w wr) (fun i _ => G.length - (intOf i).toNat)
  case atStart => exact n2.out
  case round =>
   clear n2 e0 b0 g0 d0
   obtain ⟨k, rfl, hk, b0, d0, e0⟩ := hrel
   obtain ⟨wl, rfl⟩ : ∃ X, X = wr := ⟨_, rfl⟩
   by_cases hlt : k < G.length
   ·have hq : (k : Int) < (G.length : Int) := by omega
    have s3 : (k : Int) < (L.length : Int) := by omega
    have d1 : k < L.length := by omega
    have i3 : 14 ≤ G[k].length ∧ G[k].length ≤ 14 := by have := k0.out k hlt; omega
    have j3 : 14 ≤ L[k].length ∧ L[k].length ≤ 14 := by have := t0.out k d1; omega
    have y2 : leq G[k] L[k] := by have := s0.out k; rw [List.getElem?_eq_getElem hlt, List.getElem?_eq_getElem d1] at this; exact this
    have i0 := Lib.hid y2; clear y2
    obtain ⟨b1, f1, u1, rfl, k3, e1, r1⟩ := ((e3.out _ d0)).at k hlt
    obtain ⟨b2, f2, u2, rfl, l3, e2, r2⟩ := ((HL.out _ b0)).at k d1
    obtain ⟨p3, r3, a4, g3, b3, f3, rfl, o0, q2, m0⟩ := r1
    obtain ⟨rfl, m3⟩ := q2 (by omega)
    obtain ⟨q3, j1, c4, h3, b4, f4, rfl, p0, s2, n0⟩ := r2
    obtain ⟨rfl, n3⟩ := s2 (by omega)
    have x0 : Hid (∀ r (h : r < G[k].length), wl.cell? ⟨b3, f3 + r, none⟩ = some (.bool G[k][r])) := Lib.hid (fun r h => by have := m0 r (by rw [bools_length]; exact h); rw [bools_get] at this; exact this)
    have y0 : Hid (∀ r (h : r < L[k].length), wl.cell? ⟨b4, f4 + r, none⟩ = some (.bool L[k][r])) := Lib.hid (fun r h => by have := n0 r (by rw [bools_length]; exact h); rw [bools_get] at this; exact this)
    clear q2 m0 s2 n0 o0 p0 r3 j1 p3 q3
    have h0 := Bs wl
    have o2 : Hid (∃ r : Nat, Value.int .i64 0 = .int .i64 r ∧ r ≤ 14 ∧ Below w1.heap.size w1 wl ∧ Below w4.heap.size w4 wl ∧ Below w.heap.size w wl ∧ Below wl.heap.size wl wl) := Lib.hid ⟨0, rfl, by omega, b0, d0, e0, h0⟩
    go_wp2_with fail
    go_loopw [8] (fun i wr => ∃ r : Nat, i = .int .i64 r ∧ r ≤ 14 ∧ Below w1.heap.size w1 wr ∧ Below w4.heap.size w4 wr ∧ Below w.heap.size w wr ∧ Below wl.heap.size wl wr) (fun i _ => 14 - (intOf i).toNat)
    case atStart => exact o2.out
    case round =>
     clear o2 b0 d0 e0 h0
     obtain ⟨r, rfl, hr, b0, d0, e0, h0⟩ := hrel
     obtain ⟨wm, rfl⟩ : ∃ X, X = wr := ⟨_, rfl⟩
     by_cases hrt : r < 14
     ·have z2 : (r : Int) < 14 := by omega
      replace e1 := Kc h0 e1; replace e2 := Kc h0 e2
      have c1 := Kc h0 (x0.out r (by omega)); have c2 := Kc h0 (y0.out r (by omega))
      have t3 : (r : Int) < (G[k].length : Int) := by omega
      have h4 : (r : Int) < (L[k].length : Int) := by omega
      have z0 : Hid ((G[k][r]'(by omega)) = true → (L[k][r]'(by omega)) = true) := Lib.hid (fun h => leq_bit i0.out hrt (by omega) (by omega) h)
      have u0 := Lib.hid (And.intro b0 (And.intro d0 (And.intro e0 h0)))
      clear x0 y0 i0 s0 t0 k0
      cases hx : G[k][r] with
      | false =>
       rw [hx] at c1
       clear z0 hx
       go_wp2
       go_roundw
       case rel => exact ⟨r + 1, by go_num, by omega, u0.out⟩
       case measure => simp [intOf]; omega
      | true =>
       rw [hx] at c1
       rw [z0.out hx] at c2
       clear z0 hx
       go_wp2
       go_roundw
       case rel => exact ⟨r + 1, by go_num, by omega, u0.out⟩
       case measure => simp [intOf]; omega
     have z2 : decide ((r : Int) < 14) = false := decide_eq_false (by omega)
     have t3 : ¬ (r : Int) < 14 := by omega
     have u0 := Lib.hid (And.intro b0 (And.intro d0 e0))
     clear x0 y0 i0 s0 t0 k0 e1 e2
     go_wp2
     go_roundw
     case rel => exact ⟨k + 1, by go_num, by omega, u0.out⟩
     case measure => simp [intOf]; omega
   have hq : decide ((k : Int) < (G.length : Int)) = false := decide_eq_false (by omega)
   have s3 : ¬ (k : Int) < (G.length : Int) := by omega
   have z2 : ((G.length : Int) == (L.length : Int)) = true := by rw [beq_iff_eq]; omega
   have tt := e0
   clear s0 t0 k0
   go_wp2
   go_ret
   exact ⟨rfl, tt⟩
end Go.Proofs.Ytkjedgnepnbkpaa
