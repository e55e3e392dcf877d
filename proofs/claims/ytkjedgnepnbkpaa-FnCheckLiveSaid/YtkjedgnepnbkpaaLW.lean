/-
 Parts of the proofs of the laws FnCheckLive, FnFinalRegs, FnLiveRegister, FnLiveRegs.
-/
import Derived.Test.YtkjedgnepnbkpaaKq1
set_option linter.all false
namespace Go.Proofs.Ytkjedgnepnbkpaa
open Go.RowKit

def nxt (x : Ins) (i : Nat) : List Int := if x.op = 8 then [x.a] else if x.op = 9 ∨ x.op = 10 then [(i : Int) + 1, x.b] else if x.op = 13 then [] else [(i : Int) + 1]
theorem op_kinds (op : Int) : op = 13 ∨ op = 8 ∨ op = 9 ∨ op = 10 ∨ (¬ op = 13 ∧ ¬ op = 8 ∧ ¬ op = 9 ∧ ¬ op = 10) := by omega

set_option maxHeartbeats 6400000 in
theorem l8Next_any (va vb vc : Value) (c : Cd) (i : Nat) (w : World) (hr : ReadsC w va vb vc c) (hi : i < c.list.length) (hn : c.list.length ≤ 1048576) :
  Calls Try.prog 136 #[.agg #[va, vb, vc], .int .i64 i] w fun e w' => ∃ u, e = .returned u ∧ w'.ownsRow w.heap.size 3 1 u (nxt c.list[i] i).length (ints (nxt c.list[i] i)) ∧ Below w.heap.size w w' := by
 obtain ⟨a0, c0, a1, c1, a2, c2, rfl, rfl, rfl⟩ := hr.shape
 have hrl := hr.l
 clear hr
 obtain ⟨_, hn', aa, cap, b', off, hv, hcap, ha, hca⟩ := hrl
 simp only [Value.slice.injEq, true_and] at hv
 obtain ⟨rfl, rfl⟩ := hv
 obtain ⟨rfl, hbs⟩ := ha (by omega)
 obtain ⟨e0, e1, e2, e3, e4⟩ := reads_Instr hca i hi
 clear hca ha
 obtain ⟨w1, hw1⟩ : ∃ X, X = w.alloc (.cells #[.slice a0 c.vars.length c0, .slice a1 c.arrays.length c1, .slice (some ⟨b', off, none⟩) c.list.length c2] 26) := ⟨_, rfl⟩
 have hb1 : Below w.heap.size w w1 := by rw [hw1]; exact bal (Bs w) _
 have hz1 : w.heap.size + 1 ≤ w1.heap.size := by rw [hw1]; simp
 have b2 : w1.cell? ⟨w.heap.size, 2, none⟩ = some (.slice (some ⟨b', off, none⟩) c.list.length c2) := by rw [hw1]; exact Wc rfl rfl
 have k2 := Lc b2
 replace e0 := Kc hb1 e0; replace e1 := Kc hb1 e1; replace e2 := Kc hb1 e2; replace e3 := Kc hb1 e3; replace e4 := Kc hb1 e4
 have HW := Lib.hid hw1; clear hw1
 generalize c.list[i] = x at *
 obtain ⟨op, a, b, cc, d⟩ := x
 simp only at e0 e1 e2 e3 e4
 have hq : (i : Int) < (c.list.length : Int) := by omega
 rcases op_kinds op with rfl | rfl | rfl | rfl | ⟨q1, q2, q3, q4⟩
 ·have ho := own_lit (w1.alloc (.cells #[.int .i64 13, .int .i64 a, .int .i64 b, .int .i64 cc, .int .i64 d] 32)) #[] 0 3 rfl (by omega)
  simp only [Sa] at ho
  go_enter Try.func136, Try.ntmps136
  go_upto_region 1 with (fail)
  rw [← HW.out]
  clear HW
  go_wp2
  go_ret
  exact ⟨_, rfl, Om ho (by omega), btr hb1 (bal (bal (Bs w1) _) _)⟩
 ·have ho := own_lit (w1.alloc (.cells #[.int .i64 8, .int .i64 a, .int .i64 b, .int .i64 cc, .int .i64 d] 32)) #[.int .i64 (a)] 1 3 rfl (by omega)
  simp only [Sa] at ho
  go_enter Try.func136, Try.ntmps136
  go_upto_region 1 with (fail)
  rw [← HW.out]
  clear HW
  go_wp2
  go_ret
  exact ⟨_, rfl, Om ho (by omega), btr hb1 (bal (bal (Bs w1) _) _)⟩
 ·have ho := own_lit (w1.alloc (.cells #[.int .i64 9, .int .i64 a, .int .i64 b, .int .i64 cc, .int .i64 d] 32)) #[.int .i64 ((i : Int) + 1), .int .i64 (b)] 2 3 rfl (by omega)
  simp only [Sa] at ho
  go_enter Try.func136, Try.ntmps136
  go_upto_region 1 with (fail)
  rw [← HW.out]
  clear HW
  go_wp2
  go_ret
  exact ⟨_, rfl, Om ho (by omega), btr hb1 (bal (bal (Bs w1) _) _)⟩
 ·have ho := own_lit (w1.alloc (.cells #[.int .i64 10, .int .i64 a, .int .i64 b, .int .i64 cc, .int .i64 d] 32)) #[.int .i64 ((i : Int) + 1), .int .i64 (b)] 2 3 rfl (by omega)
  simp only [Sa] at ho
  go_enter Try.func136, Try.ntmps136
  go_upto_region 1 with (fail)
  rw [← HW.out]
  clear HW
  go_wp2
  go_ret
  exact ⟨_, rfl, Om ho (by omega), btr hb1 (bal (bal (Bs w1) _) _)⟩
 ·have f1 : (op == 13) = false := by simp [q1]
  have f2 : (op == 8) = false := by simp [q2]
  have f3 : (op == 9) = false := by simp [q3]
  have f4 : (op == 10) = false := by simp [q4]
  have HF : Hid (nxt ⟨op, a, b, cc, d⟩ i = [(i : Int) + 1]) := Lib.hid (by unfold nxt; simp [q1, q2, q3, q4])
  rw [HF.out]
  clear q1 q2 q3 q4
  have ho := own_lit (w1.alloc (.cells #[.int .i64 op, .int .i64 a, .int .i64 b, .int .i64 cc, .int .i64 d] 32)) #[.int .i64 ((i : Int) + 1)] 1 3 rfl (by omega)
  simp only [Sa] at ho
  go_enter Try.func136, Try.ntmps136
  go_upto_region 1 with (fail)
  rw [← HW.out]
  clear HW
  go_wp2
  go_ret
  exact ⟨_, rfl, Om ho (by omega), btr hb1 (bal (bal (Bs w1) _) _)⟩

theorem tgt_in0 {nv na nl : Nat} {x : Ins} (h : insOk nv na nl x = true) (hop : x.op = 8 ∨ x.op = 9 ∨ x.op = 10) : 0 ≤ tgt x := by
 rcases tgt_cases x with ⟨h8, ht, _⟩ | ⟨h9, ht, _⟩ | ⟨h9, ht, _⟩ | ⟨⟨h1, h2, h3⟩, _, _⟩
 ·rw [ht]
  obtain ⟨op, a, b, c, d⟩ := x
  simp only at h8
  subst h8
  unfold insOk at h
  simp [shp, flds, fOk] at h
  have := of_decide_eq_true h.2.1
  simp only
  omega
 ·rw [ht]; exact (br_in h (by unfold isBr; rw [h9]; rfl)).1
 ·rw [ht]; exact (br_in h (by unfold isBr; rw [h9]; rfl)).1
 ·omega

set_option maxHeartbeats 6400000 in
theorem follow_any (va vb vc : Value) (c : Cd) (i : Nat) (w : World) (hr : ReadsC w va vb vc c) (hi : i < c.list.length) (hn : c.list.length ≤ 1048576) (hok : insOk c.vars.length c.arrays.length c.list.length c.list[i] = true) :
  Calls Try.prog 158 #[.agg #[va, vb, vc], .int .i64 i] w fun e w' => ∃ u, e = .returned u ∧ w'.ownsRow w.heap.size 3 1 u (flw c.list[i] i).length (ints (flw c.list[i] i)) ∧ Below w.heap.size w w' := by
 obtain ⟨a0, c0, a1, c1, a2, c2, rfl, rfl, rfl⟩ := hr.shape
 have hrl := hr.l
 clear hr
 obtain ⟨_, hn', aa, cap, b', off, hv, hcap, ha, hca⟩ := hrl
 simp only [Value.slice.injEq, true_and] at hv
 obtain ⟨rfl, rfl⟩ := hv
 obtain ⟨rfl, hbs⟩ := ha (by omega)
 obtain ⟨e0, e1, e2, e3, e4⟩ := reads_Instr hca i hi
 clear hca ha
 obtain ⟨w1, hw1⟩ : ∃ X, X = w.alloc (.cells #[.slice a0 c.vars.length c0, .slice a1 c.arrays.length c1, .slice (some ⟨b', off, none⟩) c.list.length c2] 26) := ⟨_, rfl⟩
 have hb1 : Below w.heap.size w w1 := by rw [hw1]; exact bal (Bs w) _
 have hz1 : w.heap.size + 1 ≤ w1.heap.size := by rw [hw1]; simp
 have b2 : w1.cell? ⟨w.heap.size, 2, none⟩ = some (.slice (some ⟨b', off, none⟩) c.list.length c2) := by rw [hw1]; exact Wc rfl rfl
 have k2 := Lc b2
 replace e0 := Kc hb1 e0; replace e1 := Kc hb1 e1; replace e2 := Kc hb1 e2; replace e3 := Kc hb1 e3; replace e4 := Kc hb1 e4
 have HW := Lib.hid hw1; clear hw1
 have HTA := Lib.hid (fun W => target_any c.list[i] W)
 have hb8 := fun h => br_in hok h
 have ht8 := fun h => tgt_in0 hok h
 generalize c.list[i] = x at *
 obtain ⟨op, a, b, cc, d⟩ := x
 simp only at e0 e1 e2 e3 e4 hb8 ht8
 clear hok
 have hq : (i : Int) < (c.list.length : Int) := by omega
 rcases op_kinds op with rfl | rfl | rfl | rfl | ⟨q1, q2, q3, q4⟩
 ·clear hb8 ht8
  have HT : Hid (tgt ⟨13, a, b, cc, d⟩ = -1) := Lib.hid (by rfl)
  go_enter Try.func158, Try.ntmps158
  go_upto_region 1 with (fail)
  rw [← HW.out]
  clear HW
  go_upto_region 3 with (fail)
  obtain ⟨w2, hw2⟩ : ∃ X, X = World.alloc w1 (.cells #[.int .i64 13, .int .i64 a, .int .i64 b, .int .i64 cc, .int .i64 d] 32) := ⟨_, rfl⟩
  rw [← hw2]
  have hb2 : Below w1.heap.size w1 w2 := by rw [hw2]; exact bal (Bs w1) _
  have hz2 : w1.heap.size + 1 ≤ w2.heap.size := by rw [hw2]; simp
  have d0 : w2.cell? ⟨w1.heap.size, 0, none⟩ = some (.int .i64 13) := by rw [hw2]; exact Wc rfl rfl
  have d1 : w2.cell? ⟨w1.heap.size, 1, none⟩ = some (.int .i64 a) := by rw [hw2]; exact Wc rfl rfl
  have d2 : w2.cell? ⟨w1.heap.size, 2, none⟩ = some (.int .i64 b) := by rw [hw2]; exact Wc rfl rfl
  have d3 : w2.cell? ⟨w1.heap.size, 3, none⟩ = some (.int .i64 cc) := by rw [hw2]; exact Wc rfl rfl
  have d4 : w2.cell? ⟨w1.heap.size, 4, none⟩ = some (.int .i64 d) := by rw [hw2]; exact Wc rfl rfl
  clear hw2 e0 e1 e2 e3 e4 b2 k2
  have kd := Lc d0
  go_wp2_with fail
  refine (HTA.out _).mono ?_
  rw [HT.out]
  rintro e w3 ⟨rfl, hb3⟩
  have f0 := Kc hb3 d0; have kf := Lc f0; have hB := btr (btr hb1 hb2) hb3; have hz3 := hb3.size
  have on := World.ownsRow_nil w3 w3.heap.size 3 1
  clear d0 d1 d2 d3 d4 hb3 hb2 HTA
  go_wp2
  go_ret
  exact ⟨_, rfl, Om on (by omega), hB⟩
 ·have h0 : 0 ≤ a := ht8 (Or.inl rfl)
  clear hb8 ht8
  have HT : Hid (tgt ⟨8, a, b, cc, d⟩ = a) := Lib.hid (by rfl)
  go_enter Try.func158, Try.ntmps158
  go_upto_region 1 with (fail)
  rw [← HW.out]
  clear HW
  go_upto_region 3 with (fail)
  obtain ⟨w2, hw2⟩ : ∃ X, X = World.alloc w1 (.cells #[.int .i64 8, .int .i64 a, .int .i64 b, .int .i64 cc, .int .i64 d] 32) := ⟨_, rfl⟩
  rw [← hw2]
  have hb2 : Below w1.heap.size w1 w2 := by rw [hw2]; exact bal (Bs w1) _
  have hz2 : w1.heap.size + 1 ≤ w2.heap.size := by rw [hw2]; simp
  have d0 : w2.cell? ⟨w1.heap.size, 0, none⟩ = some (.int .i64 8) := by rw [hw2]; exact Wc rfl rfl
  have d1 : w2.cell? ⟨w1.heap.size, 1, none⟩ = some (.int .i64 a) := by rw [hw2]; exact Wc rfl rfl
  have d2 : w2.cell? ⟨w1.heap.size, 2, none⟩ = some (.int .i64 b) := by rw [hw2]; exact Wc rfl rfl
  have d3 : w2.cell? ⟨w1.heap.size, 3, none⟩ = some (.int .i64 cc) := by rw [hw2]; exact Wc rfl rfl
  have d4 : w2.cell? ⟨w1.heap.size, 4, none⟩ = some (.int .i64 d) := by rw [hw2]; exact Wc rfl rfl
  clear hw2 e0 e1 e2 e3 e4 b2 k2
  have kd := Lc d0
  go_wp2_with fail
  refine (HTA.out _).mono ?_
  rw [HT.out]
  rintro e w3 ⟨rfl, hb3⟩
  have f0 := Kc hb3 d0; have kf := Lc f0; have hB := btr (btr hb1 hb2) hb3; have hz3 := hb3.size
  have on := World.ownsRow_nil w3 w3.heap.size 3 1
  clear d0 d1 d2 d3 d4 hb3 hb2 HTA
  go_wp2_with (at_builtin; refine wpList_ap tInts rfl _ _ rfl w3.heap.size _ 0 _ rfl on [.int .i64 (a)] rfl rfl (one_ints [a]) (by omega) (by omega) ?_)
  intro g0 c0 x0 o0 hc0 hg0
  have i0 := on.lt
  replace f0 := Gc hc0 f0 (fun h => by have := i0 _ h; omega); replace kf := Lc f0
  replace hB := hB.trans (hc0.below w.heap.size hB.size (fun q hq h => by have := i0 q h; omega))
  have zz0 := hc0.size
  clear hc0 hg0 on
  go_wp2
  go_ret
  exact ⟨_, rfl, Om o0 (by omega), hB⟩
 ·have h0 : 0 ≤ b := ht8 (Or.inr (Or.inl rfl))
  clear hb8 ht8
  have HT : Hid (tgt ⟨9, a, b, cc, d⟩ = b) := Lib.hid (by rfl)
  go_enter Try.func158, Try.ntmps158
  go_upto_region 1 with (fail)
  rw [← HW.out]
  clear HW
  go_upto_region 3 with (fail)
  obtain ⟨w2, hw2⟩ : ∃ X, X = World.alloc w1 (.cells #[.int .i64 9, .int .i64 a, .int .i64 b, .int .i64 cc, .int .i64 d] 32) := ⟨_, rfl⟩
  rw [← hw2]
  have hb2 : Below w1.heap.size w1 w2 := by rw [hw2]; exact bal (Bs w1) _
  have hz2 : w1.heap.size + 1 ≤ w2.heap.size := by rw [hw2]; simp
  have d0 : w2.cell? ⟨w1.heap.size, 0, none⟩ = some (.int .i64 9) := by rw [hw2]; exact Wc rfl rfl
  have d1 : w2.cell? ⟨w1.heap.size, 1, none⟩ = some (.int .i64 a) := by rw [hw2]; exact Wc rfl rfl
  have d2 : w2.cell? ⟨w1.heap.size, 2, none⟩ = some (.int .i64 b) := by rw [hw2]; exact Wc rfl rfl
  have d3 : w2.cell? ⟨w1.heap.size, 3, none⟩ = some (.int .i64 cc) := by rw [hw2]; exact Wc rfl rfl
  have d4 : w2.cell? ⟨w1.heap.size, 4, none⟩ = some (.int .i64 d) := by rw [hw2]; exact Wc rfl rfl
  clear hw2 e0 e1 e2 e3 e4 b2 k2
  have kd := Lc d0
  go_wp2_with fail
  refine (HTA.out _).mono ?_
  rw [HT.out]
  rintro e w3 ⟨rfl, hb3⟩
  have f0 := Kc hb3 d0; have kf := Lc f0; have hB := btr (btr hb1 hb2) hb3; have hz3 := hb3.size
  have on := World.ownsRow_nil w3 w3.heap.size 3 1
  clear d0 d1 d2 d3 d4 hb3 hb2 HTA
  go_wp2_with (at_builtin; refine wpList_ap tInts rfl _ _ rfl w3.heap.size _ 0 _ rfl on [.int .i64 (b)] rfl rfl (one_ints [b]) (by omega) (by omega) ?_)
  intro g0 c0 x0 o0 hc0 hg0
  have i0 := on.lt
  replace f0 := Gc hc0 f0 (fun h => by have := i0 _ h; omega); replace kf := Lc f0
  replace hB := hB.trans (hc0.below w.heap.size hB.size (fun q hq h => by have := i0 q h; omega))
  have zz0 := hc0.size
  clear hc0 hg0 on
  go_wp2_with (at_builtin; refine wpList_ap tInts rfl _ _ rfl w3.heap.size _ 1 _ rfl o0 [.int .i64 ((i : Int) + 1)] rfl rfl (one_ints [(i : Int) + 1]) (by omega) (by omega) ?_)
  intro g1 c1 x1 o1 hc1 hg1
  have i1 := o0.lt
  replace f0 := Gc hc1 f0 (fun h => by have := i1 _ h; omega); replace kf := Lc f0
  replace hB := hB.trans (hc1.below w.heap.size hB.size (fun q hq h => by have := i1 q h; omega))
  have zz1 := hc1.size
  clear hc1 hg1 o0
  go_wp2
  go_ret
  exact ⟨_, rfl, Om o1 (by omega), hB⟩
 ·have h0 : 0 ≤ b := ht8 (Or.inr (Or.inr rfl))
  clear hb8 ht8
  have HT : Hid (tgt ⟨10, a, b, cc, d⟩ = b) := Lib.hid (by rfl)
  go_enter Try.func158, Try.ntmps158
  go_upto_region 1 with (fail)
  rw [← HW.out]
  clear HW
  go_upto_region 3 with (fail)
  obtain ⟨w2, hw2⟩ : ∃ X, X = World.alloc w1 (.cells #[.int .i64 10, .int .i64 a, .int .i64 b, .int .i64 cc, .int .i64 d] 32) := ⟨_, rfl⟩
  rw [← hw2]
  have hb2 : Below w1.heap.size w1 w2 := by rw [hw2]; exact bal (Bs w1) _
  have hz2 : w1.heap.size + 1 ≤ w2.heap.size := by rw [hw2]; simp
  have d0 : w2.cell? ⟨w1.heap.size, 0, none⟩ = some (.int .i64 10) := by rw [hw2]; exact Wc rfl rfl
  have d1 : w2.cell? ⟨w1.heap.size, 1, none⟩ = some (.int .i64 a) := by rw [hw2]; exact Wc rfl rfl
  have d2 : w2.cell? ⟨w1.heap.size, 2, none⟩ = some (.int .i64 b) := by rw [hw2]; exact Wc rfl rfl
  have d3 : w2.cell? ⟨w1.heap.size, 3, none⟩ = some (.int .i64 cc) := by rw [hw2]; exact Wc rfl rfl
  have d4 : w2.cell? ⟨w1.heap.size, 4, none⟩ = some (.int .i64 d) := by rw [hw2]; exact Wc rfl rfl
  clear hw2 e0 e1 e2 e3 e4 b2 k2
  have kd := Lc d0
  go_wp2_with fail
  refine (HTA.out _).mono ?_
  rw [HT.out]
  rintro e w3 ⟨rfl, hb3⟩
  have f0 := Kc hb3 d0; have kf := Lc f0; have hB := btr (btr hb1 hb2) hb3; have hz3 := hb3.size
  have on := World.ownsRow_nil w3 w3.heap.size 3 1
  clear d0 d1 d2 d3 d4 hb3 hb2 HTA
  go_wp2_with (at_builtin; refine wpList_ap tInts rfl _ _ rfl w3.heap.size _ 0 _ rfl on [.int .i64 (b)] rfl rfl (one_ints [b]) (by omega) (by omega) ?_)
  intro g0 c0 x0 o0 hc0 hg0
  have i0 := on.lt
  replace f0 := Gc hc0 f0 (fun h => by have := i0 _ h; omega); replace kf := Lc f0
  replace hB := hB.trans (hc0.below w.heap.size hB.size (fun q hq h => by have := i0 q h; omega))
  have zz0 := hc0.size
  clear hc0 hg0 on
  go_wp2_with (at_builtin; refine wpList_ap tInts rfl _ _ rfl w3.heap.size _ 1 _ rfl o0 [.int .i64 ((i : Int) + 1)] rfl rfl (one_ints [(i : Int) + 1]) (by omega) (by omega) ?_)
  intro g1 c1 x1 o1 hc1 hg1
  have i1 := o0.lt
  replace f0 := Gc hc1 f0 (fun h => by have := i1 _ h; omega); replace kf := Lc f0
  replace hB := hB.trans (hc1.below w.heap.size hB.size (fun q hq h => by have := i1 q h; omega))
  have zz1 := hc1.size
  clear hc1 hg1 o0
  go_wp2
  go_ret
  exact ⟨_, rfl, Om o1 (by omega), hB⟩
 ·have HQ := Lib.hid (And.intro q2 (And.intro q3 q4))
  have f1 : (op != 13) = true := by simp [q1]
  have f2 : (op != 8) = true := by simp [q2]
  have HF : Hid (flw ⟨op, a, b, cc, d⟩ i = [(i : Int) + 1]) := Lib.hid (by unfold flw; simp [q1, q2, q3, q4])
  rw [HF.out]
  clear q1 q2 q3 q4 hb8 ht8
  have HT : Hid (tgt ⟨op, a, b, cc, d⟩ = -1) := Lib.hid (by unfold tgt; simp [HQ.out.1, HQ.out.2.1, HQ.out.2.2])
  go_enter Try.func158, Try.ntmps158
  go_upto_region 1 with (fail)
  rw [← HW.out]
  clear HW
  go_upto_region 3 with (fail)
  obtain ⟨w2, hw2⟩ : ∃ X, X = World.alloc w1 (.cells #[.int .i64 op, .int .i64 a, .int .i64 b, .int .i64 cc, .int .i64 d] 32) := ⟨_, rfl⟩
  rw [← hw2]
  have hb2 : Below w1.heap.size w1 w2 := by rw [hw2]; exact bal (Bs w1) _
  have hz2 : w1.heap.size + 1 ≤ w2.heap.size := by rw [hw2]; simp
  have d0 : w2.cell? ⟨w1.heap.size, 0, none⟩ = some (.int .i64 op) := by rw [hw2]; exact Wc rfl rfl
  have d1 : w2.cell? ⟨w1.heap.size, 1, none⟩ = some (.int .i64 a) := by rw [hw2]; exact Wc rfl rfl
  have d2 : w2.cell? ⟨w1.heap.size, 2, none⟩ = some (.int .i64 b) := by rw [hw2]; exact Wc rfl rfl
  have d3 : w2.cell? ⟨w1.heap.size, 3, none⟩ = some (.int .i64 cc) := by rw [hw2]; exact Wc rfl rfl
  have d4 : w2.cell? ⟨w1.heap.size, 4, none⟩ = some (.int .i64 d) := by rw [hw2]; exact Wc rfl rfl
  clear hw2 e0 e1 e2 e3 e4 b2 k2
  have kd := Lc d0
  go_wp2_with fail
  refine (HTA.out _).mono ?_
  rw [HT.out]
  rintro e w3 ⟨rfl, hb3⟩
  have f0 := Kc hb3 d0; have kf := Lc f0; have hB := btr (btr hb1 hb2) hb3; have hz3 := hb3.size
  have on := World.ownsRow_nil w3 w3.heap.size 3 1
  clear d0 d1 d2 d3 d4 hb3 hb2 HTA
  go_wp2_with (at_builtin; refine wpList_ap tInts rfl _ _ rfl w3.heap.size _ 0 _ rfl on [.int .i64 ((i : Int) + 1)] rfl rfl (one_ints [(i : Int) + 1]) (by omega) (by omega) ?_)
  intro g0 c0 x0 o0 hc0 hg0
  have i0 := on.lt
  replace f0 := Gc hc0 f0 (fun h => by have := i0 _ h; omega); replace kf := Lc f0
  replace hB := hB.trans (hc0.below w.heap.size hB.size (fun q hq h => by have := i0 q h; omega))
  have zz0 := hc0.size
  clear hc0 hg0 on
  go_wp2
  go_ret
  exact ⟨_, rfl, Om o0 (by omega), hB⟩

end Go.Proofs.Ytkjedgnepnbkpaa
