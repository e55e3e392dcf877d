/-
 Parts of the proofs of the laws FnCheckLive, FnCodeFenced, FnEraseCode, FnEraseSecret, FnFinalRegs, FnLiveRegister, FnLiveRegs, FnSpecPath.
-/
import Derived.Test.YtkjedgnepnbkpaaLB
import Derived.Test.YtkjedgnepnbkpaaLC
set_option linter.all false
namespace Go.Proofs.Ytkjedgnepnbkpaa
open Go.RowKit
set_option maxHeartbeats 12800000 in
set_option maxRecDepth 100000 in
theorem l12Live_any (va vb vc : Value) (c : Cd) (w : World) (hr : ReadsC w va vb vc c) (hok : codeOk c = true) :
  Calls Try.prog 80 #[.agg #[va, vb, vc]] w fun e w' => ∃ u us, e = .returned u ∧ Own2B w' w.heap.size u us (liveOf c) ∧ Below w.heap.size w w' := by
 obtain ⟨a0, c0, a1, c1, a2, c2, rfl, rfl, rfl⟩ := hr.shape
 obtain ⟨f4, g4⟩ := codeOk_len hok
 have k3 := codeOk_all hok
 have x2 := fun u => mk_bool14 u
 obtain ⟨w1, q0⟩ : ∃ X, X = w.alloc (.cells #[.slice a0 c.vars.length c0, .slice a1 c.arrays.length c1, .slice a2 c.list.length c2] 26) := ⟨_, rfl⟩
 have b0 : w1.cell? ⟨w.heap.size, 0, none⟩ = some (.slice a0 c.vars.length c0) := by rw [q0]; exact Wc rfl rfl
 have b1 : w1.cell? ⟨w.heap.size, 1, none⟩ = some (.slice a1 c.arrays.length c1) := by rw [q0]; exact Wc rfl rfl
 have b2 : w1.cell? ⟨w.heap.size, 2, none⟩ = some (.slice a2 c.list.length c2) := by rw [q0]; exact Wc rfl rfl
 have l1 : Below w.heap.size w w1 := by rw [q0]; exact bal (Bs w) _
 have f3 : w1.heap.size = w.heap.size + 1 := by rw [q0]; simp
 have k2 := Lc b2
 have HW := Lib.hid q0
 have HZ := Lib.hid f3
 clear q0 f3
 have z3 := Lib.hid (fun W (hW : Below w1.heap.size w1 W) => hr.below (btr l1 hW))
 have p3 := hr.l
 obtain ⟨_, hn', aa, cap', b', h0, d3, n3, ha, q2⟩ := p3
 simp only [Value.slice.injEq, true_and] at d3
 obtain ⟨rfl, rfl⟩ := d3
 obtain ⟨rfl, a4⟩ := ha (by omega)
 have n2 := Lib.hid (reads_Instr q2)
 have i2 := Lib.hid (fun (v : Value) (L : List (List Bool)) (i : Nat) (hi : i < c.list.length) W (hW : Below w1.heap.size w1 W) (hv : Reads2 bools W v L) (hL : L.length = c.list.length) (hrow : ∀ k (h : k < L.length), L[k].length = 14) => l12After_any _ _ _ v c L i W (hr.below (btr l1 hW)) hv hL hrow hok hi)
 have l2 := Lib.hid (fun (v : Value) (A : Nat → Bool) (i : Nat) (hi : i < c.list.length) W (hv : Reads W 1 v 14 (bools (tab A))) => l12Before_any c.list[i] v A W (by have h := insOk_op (codeOk_all hok i hi); omega) (fun p hp => knl_in (codeOk_all hok i hi) p hp) hv)
 have i1 := own_lit w1 #[] 0 66 rfl (by omega)
 have m0 : Own2B (w1.alloc (.cells #[] 66)) w1.heap.size (.slice (some ⟨w1.heap.size, 0, none⟩) 0 0) [] (List.replicate 0 (tab (fun _ => false))) := ⟨rfl, i1, fun k u r h => by simp at h, fun j k u u' h => by simp at h⟩
 clear hr q2 ha i1
 go_enter Try.func80, Try.ntmps80
 go_upto_region 1 with (fail)
 rw [← HW.out]
 clear HW
 go_wp2_with fail
 go_loopw [3, 4] (fun lv t wr => ∃ k : Nat, k ≤ c.list.length ∧ t = .int .i64 k ∧ (∃ us g cp, lv = .slice (some ⟨g, 0, none⟩) k cp ∧ Own2B wr w1.heap.size (.slice (some ⟨g, 0, none⟩) k cp) us (List.replicate k (tab (fun _ => false)))) ∧ Below w1.heap.size w1 wr) (fun _ t _ => c.list.length - (intOf t).toNat)
 case atStart => exact ⟨0, Nat.zero_le _, rfl, ⟨_, _, _, rfl, m0⟩, bal (Bs w1) _⟩
 case round =>
  obtain ⟨k, hk, rfl, ⟨us, g, cp, rfl, ho⟩, f0⟩ := hrel
  clear m0
  have c2' := Kc f0 b2
  have x3 := Lc c2'
  have b4 := f0.size
  by_cases q1 : k < c.list.length
  ·have o1 := own_made wr (.bool false) 14 4 (by unfold maxLen; omega)
   rw [← bools_replicate, tab_false] at o1
   have y2 := ho.below (bal (Bs wr) (.cells (madeCells #[.bool false] 14) 4))
   have z0 := ho.lt
   have p0 := reads_new (wr.alloc (.cells (madeCells #[.bool false] 14) 4)) [.slice (some ⟨wr.heap.size, 0, none⟩) 14 14] 66 1 rfl
   simp only [Sa] at p0
   have x1 := y2.below (bal (Bs _) (.cells #[.slice (some ⟨wr.heap.size, 0, none⟩) 14 14] 66))
   have o3 := Ob o1 (bal (Bs _) (.cells #[.slice (some ⟨wr.heap.size, 0, none⟩) 14 14] 66))
   have f1 := x1.outAt
   go_wp2_with (at_builtin; refine wpList_aps tBoolSS rfl _ _ rfl w1.heap.size _ k _ rfl f1 _ 1 [.slice (some ⟨wr.heap.size, 0, none⟩) 14 14] rfl p0 (by intro u hu; simp at hu; subst hu; rfl) (by omega) (by simp; omega) ?_)
   intro v' wx ho' hc' hg' _
   obtain ⟨g', cp', rfl⟩ := own_pos ho' (by omega)
   have hp := x1.push (u := .slice (some ⟨wr.heap.size, 0, none⟩) 14 14) (r := tab (fun _ => false)) (by rw [List.length_replicate]; exact ho') hc' (by rw [tab_len]; exact Om o3 (by omega)) (fun q h h2 => by have e : wr.heap.size = q := Option.some.inj h; have := z0 q h2; omega) (by decide)
   rw [← List.replicate_succ'] at hp
   have l3 := (bal (bal f0 (.cells (madeCells #[.bool false] 14) 4)) (.cells #[.slice (some ⟨wr.heap.size, 0, none⟩) 14 14] 66)).trans (hc'.below w1.heap.size (by simp; omega) (fun q hq h => by have := z0 q (Or.inl h); omega))
   clear ho o1 o3 y2 x1 p0 f0 f1 ho' hc' hg'
   go_wp2
   go_roundw
   case rel => exact ⟨k + 1, by omega, by go_num, ⟨_, _, _, rfl, hp⟩, l3⟩
   case measure => simp [intOf]; omega
  have e : k = c.list.length := by omega
  subst e
  obtain ⟨w2, rfl⟩ : ∃ X, X = wr := ⟨_, rfl⟩
  rw [show List.replicate c.list.length (tab (fun _ => false)) = zeroL c from rfl] at ho
  have r2 := ho.lt g (Or.inl rfl)
  have q3 := r2.1
  clear q1 hk r2
  go_wp2_with fail
  go_loopg [5] (28 * c.list.length + 1) (fun gk ch wr => ∃ us L, Own2B wr w1.heap.size (.slice (some ⟨g, 0, none⟩) c.list.length cp) us L ∧ Hid (InvL c L) ∧ ∃ (cb : Bool) (m : Nat), ch = .bool cb ∧ Hid (L = swps c m ∧ (cb = true → m + offs L ≤ 14 * c.list.length) ∧ (cb = false → swp c L = L ∧ m ≤ 14 * c.list.length) ∧ gk = 2 * offs L + (if cb then 1 else 0)) ∧ Below w1.heap.size w1 wr)
  case atStart => exact ⟨_, _, ho, Lib.hid (zero_inv c), true, 0, rfl, Lib.hid ⟨rfl, fun _ => by rw [zero_offs]; omega, fun h => (by cases h), by rw [zero_offs]; simp; omega⟩, f0⟩
  case round =>
   obtain ⟨us, L, y1, HI, cb, m, rfl, HM, r1⟩ := hrel
   clear ho f0
   cases cb with
   | false =>
    obtain ⟨v1, _, u2, _⟩ := HM.out
    obtain ⟨v2, u3⟩ := u2 (by trivial)
    have x0 : L = liveOf c := by rw [v1]; exact liveOf_of (by rw [← v1]; exact v2) u3
    have HF := Lib.hid x0
    clear HM v1 u2 v2 x0
    go_wp2_with fail
    go_ret
    exact ⟨_, _, rfl, by rw [← HF.out]; exact y1.mono (by omega), btr l1 r1⟩
   | true =>
    have c2o := Kc r1 b2
    have kc2o := Lc c2o
    go_wp2_with fail
    clear c2o kc2o
    go_loopw [5, 6] (fun ch it wx => ∃ k : Nat, k ≤ c.list.length ∧ it = .int .i64 ((k : Int) - 1) ∧ ∃ us' M, Own2B wx w1.heap.size (.slice (some ⟨g, 0, none⟩) c.list.length cp) us' M ∧ Hid (InvL c M) ∧ ∃ cb : Bool, ch = .bool cb ∧ Hid (swpTo c k M = swp c L ∧ (cb = false → M = L) ∧ (cb = true → offs M < offs L)) ∧ Below w1.heap.size w1 wx) (fun _ it _ => (intOf it + 1).toNat)
    case atStart => exact ⟨c.list.length, Nat.le_refl _, rfl, _, _, y1, HI, false, rfl, Lib.hid ⟨rfl, fun _ => rfl, fun h => by cases h⟩, r1⟩
    case round =>
     obtain ⟨k, hk, p1, us', M, t0, HJ, cb, rfl, HS, l0⟩ := hrel
     clear y1
     rcases Nat.eq_zero_or_pos k with rfl | hpos
     ·rw [show ((0 : Nat) : Int) - 1 = -1 from rfl] at p1
      subst p1
      obtain ⟨s1, s2, s3⟩ := HS.out
      obtain ⟨m1, m2, _, m4⟩ := HM.out
      have m5 := m2 (by trivial)
      have k0 : M = swp c L := s1
      clear s1 HS HM
      cases cb with
      | false =>
       have e := s2 (by trivial)
       subst e
       have HK := Lib.hid (And.intro m1 (And.intro m5 (And.intro k0 m4)))
       clear s2 s3 k0 m1 m2 m4 m5
       go_wp2_with fail
       go_roundg (2 * offs M)
       case measure => have := HK.out.2.2.2; simp at this; omega
       case rel => exact ⟨_, _, t0, HJ, false, m, rfl, Lib.hid ⟨HK.out.1, fun h => (by cases h), fun _ => ⟨HK.out.2.2.1.symm, by have := HK.out.2.1; omega⟩, by simp⟩, l0⟩
      | true =>
       have q1 := s3 (by trivial)
       have HK := Lib.hid (And.intro m1 (And.intro m5 (And.intro k0 (And.intro m4 q1))))
       clear s2 s3 k0 m1 m2 m4 m5 q1
       go_wp2_with fail
       go_roundg (2 * offs M + 1)
       case measure => have h1 := HK.out.2.2.2.1; have h2 := HK.out.2.2.2.2; simp at h1; omega
       case rel => exact ⟨_, _, t0, HJ, true, m + 1, rfl, Lib.hid ⟨by rw [swps, ← HK.out.1]; exact HK.out.2.2.1, fun _ => by have h1 := HK.out.2.1; have h2 := HK.out.2.2.2.2; omega, fun h => (by cases h), by simp⟩, l0⟩
     obtain ⟨j, rfl⟩ : ∃ j, k = j + 1 := ⟨k - 1, by omega⟩
     rw [show ((j + 1 : Nat) : Int) - 1 = (j : Int) from by omega] at p1
     subst p1
     have hj : j < c.list.length := by omega
     have t2 := HJ.out.len
     have s0 : j < M.length := by omega
     have d0 := HJ.out.rows
     have a3 := t0.reads (by omega) (fun k r hkr => by obtain ⟨h1, rfl⟩ := List.getElem?_eq_some_iff.1 hkr; rw [d0 k h1]; omega)
     have t3 : M[j].length ≤ 14 := by rw [d0 j s0]; omega
     have e0 := n2.out j hj
     have g2 := Lib.hid (fun v => i2.out v M j hj)
     have j2 := Lib.hid (fun (v : Value) (W : World) (hv : Reads W 1 v 14 (bools (tab (aftF M (flw c.list[j] j))))) => l2.out v (aftF M (flw c.list[j] j)) j hj W hv)
     have w0 : Hid (befAt c M j = tab (befF c.list[j] (aftF M (flw c.list[j] j)))) := Lib.hid (befAt_at c M j hj)
     have p2 : Hid (aft M (nxt c.list[j] j) = tab (aftF M (flw c.list[j] j))) := Lib.hid (by rw [← aft_same]; rfl)
     have i3 := Lib.hid t2
     have j3 := Lib.hid d0
     obtain ⟨e0, e1, e2, e3, e4⟩ := e0
     have g0 := btr l1 l0
     replace e0 := Kc g0 e0; replace e1 := Kc g0 e1; replace e2 := Kc g0 e2; replace e3 := Kc g0 e3; replace e4 := Kc g0 e4
     have c0' := Kc l0 b0
     have c1' := Kc l0 b1
     have c2' := Kc l0 b2
     have x3 := Lc c2'
     have y3 := Lc e0
     have hq : (j : Int) < (c.list.length : Int) := by omega
     have f2 := Lib.hid (fun W (hW : Below wr.heap.size wr W) => by
      have h := g2.out _ W (btr l0 hW) (a3.below hW) i3.out j3.out
      rw [p2.out] at h; exact h)
     clear hpos a3 t2 d0 i2 l2 g2 n2 g0
     generalize c.list[j] = x at *
     have k1 := Lib.hid (show ∀ W', Below wr.heap.size wr W' → (fun W' => W'.cell? ⟨b', h0 + j * 5, none⟩ = some (.int .i64 x.op) ∧ W'.cell? ⟨b', h0 + j * 5 + 1, none⟩ = some (.int .i64 x.a) ∧ W'.cell? ⟨b', h0 + j * 5 + 2, none⟩ = some (.int .i64 x.b) ∧ W'.cell? ⟨b', h0 + j * 5 + 3, none⟩ = some (.int .i64 x.c) ∧ W'.cell? ⟨b', h0 + j * 5 + 4, none⟩ = some (.int .i64 x.d) ∧ W'.cell? ⟨w.heap.size, 0, none⟩ = some (.slice a0 c.vars.length c0) ∧ W'.cell? ⟨w.heap.size, 1, none⟩ = some (.slice a1 c.arrays.length c1) ∧ W'.cell? ⟨w.heap.size, 2, none⟩ = some (.slice (some ⟨b', h0, none⟩) c.list.length c2)) W' from fun W' h => ⟨Kc h e0, Kc h e1, Kc h e2, Kc h e3, Kc h e4, Kc h c0', Kc h c1', Kc h c2'⟩)
     go_upto_region 12 with (fail)
     have D := Below.drew (Bs wr)
     go_cut [7] (fun s wx => ∃ g3 c3, s = .slice (some ⟨g3, 0, none⟩) 14 c3 ∧ wx.ownsRow wr.heap.size 4 1 (.slice (some ⟨g3, 0, none⟩) 14 c3) 14 (bools (befAt c M j)) ∧ Below wr.heap.size wr wx)
     case first =>
      go_region_held3 (fun W' => W'.cell? ⟨b', h0 + j * 5, none⟩ = some (.int .i64 x.op) ∧ W'.cell? ⟨b', h0 + j * 5 + 1, none⟩ = some (.int .i64 x.a) ∧ W'.cell? ⟨b', h0 + j * 5 + 2, none⟩ = some (.int .i64 x.b) ∧ W'.cell? ⟨b', h0 + j * 5 + 3, none⟩ = some (.int .i64 x.c) ∧ W'.cell? ⟨b', h0 + j * 5 + 4, none⟩ = some (.int .i64 x.d) ∧ W'.cell? ⟨w.heap.size, 0, none⟩ = some (.slice a0 c.vars.length c0) ∧ W'.cell? ⟨w.heap.size, 1, none⟩ = some (.slice a1 c.arrays.length c1) ∧ W'.cell? ⟨w.heap.size, 2, none⟩ = some (.slice (some ⟨b', h0, none⟩) c.list.length c2)) (first | exact k1.out _ (btr (btr D ba) bb) | exact k1.out _ (btr D ba) | exact k1.out _ D) (first | (go_at_call 87; refine (f2.out _ D).mono ?_; rintro e wa ⟨ga, rfl, oa, ba⟩) | (go_at_call 86; refine (j2.out _ _ (Ro oa (by omega))).mono ?_; rintro e wb ⟨gb, cb', rfl, ob, bb⟩))
      all_goals (go_wp2_with fail; go_meet; exact ⟨_, _, rfl, by rw [w0.out]; exact Om ob (by have := D.size; have := ba.size; omega), btr (btr D ba) bb⟩)
     obtain ⟨w3, rfl⟩ : ∃ W, W = wc := ⟨_, rfl⟩
     obtain ⟨g3, c3, rfl, o3, n1⟩ := hcut
     clear e0 e1 e2 e3 e4 y3 D f2 p2 w0 k1
     have h4 := n1.size
     have j4 := l0.size
     have d4 := o3.lt g3 rfl
     have j0 := t0.below n1
     have r3 := t0.lt
     have t1 := btr l0 n1
     obtain ⟨u, hu, z1⟩ := j0.rowAt j s0
     have i0 : w3.cell? ⟨g, j, none⟩ = some u := by rw [j0.outAt.cellAt j (by omega)]; exact hu
     have hf := j0.outAt.frozenAt j
     have b3 := Ro z1 (by omega)
     have z2 := Ro o3 (by omega)
     have u0 : Hid ((befAt c M j).length = 14) := Lib.hid (befAt_len hj)
     obtain ⟨pa, pc, rfl⟩ := Oh z1
     have kc := Lc i0
     have k4 := Lc (Kc n1 c2')
     have o2 := Lib.hid (fun h => l12Same_any (.slice (some ⟨g3, 0, none⟩) 14 c3) (.slice pa M[j].length pc) (befAt c M j) M[j] w3 h b3)
     have v0 := Lib.hid (o2.out (by rw [u0.out]; exact z2))
     clear j2 b3 z2 z1 o2
     go_wp2_with fail
     refine v0.out.mono ?_
     rintro e w4 ⟨rfl, r0⟩
     have i4 := r0.size
     have n0 := btr t1 r0
     have o0 := j0.below r0
     have u1 := Kc r0 i0
     have c4 := Kf r0 kc hf
     have o4 := Ob o3 r0
     clear v0 t0 j0 i0 hf
     by_cases heq : befAt c M j = M[j]
     ·rw [decide_eq_true heq]
      have g1 := set_self s0 heq
      have k0 := swpTo_step c j M
      rw [g1] at k0
      have j1 := Lib.hid (And.intro (k0.symm.trans HS.out.1) HS.out.2)
      clear heq g1 k0 HS o3 o4
      go_wp2
      go_roundw
      case rel => exact ⟨j, by omega, by go_num, _, _, o0, HJ, cb, rfl, Lib.hid j1.out, n0⟩
      case measure => simp [intOf]
     rw [decide_eq_false heq]
     have d2 := (up_offs HJ.out j s0).2 heq
     have y0 := up_inv HJ.out j s0
     have k0 := swpTo_step c j M
     have d1 : offs (M.set j (befAt c M j)) < offs L := by
      cases cb with
      | false => rw [← HS.out.2.1 (by trivial)]; exact d2
      | true => exact Nat.lt_trans d2 (HS.out.2.2 (by trivial))
     have j1 := Lib.hid (And.intro (k0.symm.trans HS.out.1) d1)
     have h3 := Lib.hid y0
     have v3 := o0.put (r := befAt c M j) (u := .slice (some ⟨g3, 0, none⟩) 14 c3) rfl s0 (by rw [u0.out]; exact Om o4 (by omega)) (fun q h h2 => by have e : g3 = q := Option.some.inj h; have := r3 q h2; omega) (by decide)
     have m3 := bst n0 (g) j (by omega) (.slice (some ⟨g3, 0, none⟩) 14 c3)
     clear heq d2 y0 k0 d1 HS o3 o4 o0 HJ n0
     go_wp2
     go_roundw
     case rel => exact ⟨j, by omega, by go_num, _, _, v3, h3, true, rfl, Lib.hid ⟨j1.out.1, fun h => (by cases h), fun _ => j1.out.2⟩, m3⟩
     case measure => simp [intOf]
end Go.Proofs.Ytkjedgnepnbkpaa
namespace Go.Proofs.Ytkjedgnepnbkpaa
open Go.RowKit
theorem iLiveRegs_any (va vb vc : Value) (c : Cd) (w : World) (hr : ReadsC w va vb vc c) :
  Calls Try.prog 30 #[.agg #[va, vb, vc]] w fun e w' => ∃ u us, e = .returned u ∧ Own2B w' w.heap.size u us (liveR c) ∧ Below w.heap.size w w' := by
 obtain ⟨a0, c0, a1, c1, a2, c2, rfl, rfl, rfl⟩ := hr.shape
 have d0 := bal (Bs w) (.cells #[.slice a0 c.vars.length c0, .slice a1 c.arrays.length c1, .slice a2 c.list.length c2] 26)
 have HV := Lib.hid (fun h => liveR_no (c := c) h)
 have HY := Lib.hid (fun h => liveR_yes (c := c) h)
 have HL := Lib.hid (fun (W : World) (hW : Below w.heap.size w W) h => live_any _ _ _ c W (hr.below hW) h)
 go_enter Try.func30, Try.ntmps30
 go_wp2_with fail
 refine (iCodeValid_any _ _ _ c _ (hr.below d0)).mono ?_
 rintro e w1 ⟨rfl, hb⟩
 have b0 : w1.cell? ⟨w.heap.size, 0, none⟩ = some (.slice a0 c.vars.length c0) := Kc hb (Wc (by simp) (by rfl))
 have b1 : w1.cell? ⟨w.heap.size, 1, none⟩ = some (.slice a1 c.arrays.length c1) := Kc hb (Wc (by simp) (by rfl))
 have b2 : w1.cell? ⟨w.heap.size, 2, none⟩ = some (.slice a2 c.list.length c2) := Kc hb (Wc (by simp) (by rfl))
 have k2 := Lc b2
 replace d0 := btr d0 hb
 clear hb hr
 cases hok : codeOk c with
 | false =>
  have HO := Lib.hid hok; clear hok
  go_wp2
  go_ret
  exact ⟨_, _, rfl, by rw [HV.out HO.out]; exact (⟨rfl, World.ownsRow_nil _ _ _ _, fun k u r h => by simp at h, fun j k u u' h => by simp at h⟩ : Own2B _ _ _ [] []), d0⟩
 | true =>
  have HO := Lib.hid hok; clear hok
  go_wp2_with fail
  refine (HL.out _ d0 HO.out).mono ?_
  rintro e w2 ⟨u, us, rfl, ho, hb⟩
  have hz := d0.size
  obtain ⟨ua, uc, rfl⟩ := ho.shape
  go_wp2
  go_ret
  exact ⟨_, _, rfl, by rw [HY.out HO.out]; exact ho.mono hz, btr d0 hb⟩
theorem sLiveRegs_any (va vb vc : Value) (c : Cd) (w : World) (hr : ReadsC w va vb vc c) :
  Calls Try.prog 32 #[.agg #[va, vb, vc]] w fun e w' => ∃ u us, e = .returned u ∧ Own2B w' w.heap.size u us (liveR c) ∧ Below w.heap.size w w' := by
 obtain ⟨a0, c0, a1, c1, a2, c2, rfl, rfl, rfl⟩ := hr.shape
 have d0 := bal (Bs w) (.cells #[.slice a0 c.vars.length c0, .slice a1 c.arrays.length c1, .slice a2 c.list.length c2] 26)
 have HV := Lib.hid (fun h => liveR_no (c := c) h)
 have HY := Lib.hid (fun h => liveR_yes (c := c) h)
 have HL := Lib.hid (fun (W : World) (hW : Below w.heap.size w W) h => l12Live_any _ _ _ c W (hr.below hW) h)
 go_enter Try.func32, Try.ntmps32
 go_wp2_with fail
 refine (sCodeValid_any _ _ _ c _ (hr.below d0)).mono ?_
 rintro e w1 ⟨rfl, hb⟩
 have b0 : w1.cell? ⟨w.heap.size, 0, none⟩ = some (.slice a0 c.vars.length c0) := Kc hb (Wc (by simp) (by rfl))
 have b1 : w1.cell? ⟨w.heap.size, 1, none⟩ = some (.slice a1 c.arrays.length c1) := Kc hb (Wc (by simp) (by rfl))
 have b2 : w1.cell? ⟨w.heap.size, 2, none⟩ = some (.slice a2 c.list.length c2) := Kc hb (Wc (by simp) (by rfl))
 have k2 := Lc b2
 replace d0 := btr d0 hb
 clear hb hr
 cases hok : codeOk c with
 | false =>
  have HO := Lib.hid hok; clear hok
  have hz := d0.size
  have ho := own_lit w1 #[] 0 66 rfl (by omega)
  go_wp2
  go_ret
  exact ⟨_, _, rfl, by rw [HV.out HO.out]; exact (⟨rfl, Om ho hz, fun k u r h => by simp at h, fun j k u u' h => by simp at h⟩ : Own2B _ _ _ [] []), bal d0 _⟩
 | true =>
  have HO := Lib.hid hok; clear hok
  go_wp2_with fail
  refine (HL.out _ d0 HO.out).mono ?_
  rintro e w2 ⟨u, us, rfl, ho, hb⟩
  have hz := d0.size
  obtain ⟨ua, uc, rfl⟩ := ho.shape
  go_wp2
  go_ret
  exact ⟨_, _, rfl, by rw [HY.out HO.out]; exact ho.mono hz, btr d0 hb⟩
end Go.Proofs.Ytkjedgnepnbkpaa
namespace Go.Proofs.Ytkjedgnepnbkpaa
open Go.RowKit
theorem live_inv (c : Cd) : InvL c (liveOf c) := swps_inv c _
end Go.Proofs.Ytkjedgnepnbkpaa
