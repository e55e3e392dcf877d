/-
  Targets of jumps, and code with another list.
-/
import Derived.Test.YtkbbpnfhenoihaaOW
import Derived.Test.YtkbbpnfhenoihaaTA
namespace Go.Proofs.Ytkbbpnfhenoihaa
open Go.RowKit

set_option maxHeartbeats 1600000 in
theorem l8Target_any (x : Ins) (w : World) :
    Calls Try.prog 100 #[.agg #[.int .i64 x.op, .int .i64 x.a, .int .i64 x.b, .int .i64 x.c, .int .i64 x.d]] w fun e w' => e = .returned (.int .i64 (tgt x)) ∧ Below w.heap.size w w' := by
  have hbx := bal (bself w) (.cells #[.int .i64 x.op, .int .i64 x.a, .int .i64 x.b, .int .i64 x.c, .int .i64 x.d] 98)
  obtain ⟨op, a, b, c, d⟩ := x
  rcases tgt_cases ⟨op, a, b, c, d⟩ with ⟨h, ht, _⟩ | ⟨h, ht, _⟩ | ⟨h, ht, _⟩ | ⟨⟨h1, h2, h3⟩, ht, _⟩
  · rw [ht]
    simp only at h ⊢ hbx
    subst h
    clear ht
    go_enter Try.func100, Try.ntmps100
    go_wp2
    go_ret
    exact ⟨rfl, hbx⟩
  · rw [ht]
    simp only at h ⊢ hbx
    subst h
    clear ht
    go_enter Try.func100, Try.ntmps100
    go_wp2
    go_ret
    exact ⟨rfl, hbx⟩
  · rw [ht]
    simp only at h ⊢ hbx
    subst h
    clear ht
    go_enter Try.func100, Try.ntmps100
    go_wp2
    go_ret
    exact ⟨rfl, hbx⟩
  · rw [ht]
    simp only at h1 h2 h3 ⊢ hbx
    have e1 : (op == 8) = false := by simp [h1]
    have e2 : (op == 9) = false := by simp [h2]
    have e3 : (op == 10) = false := by simp [h3]
    clear ht h1 h2 h3
    go_enter Try.func100, Try.ntmps100
    go_wp2
    go_ret
    exact ⟨rfl, hbx⟩

set_option maxHeartbeats 1600000 in
theorem to_any (x : Ins) (t : Int) (w : World) (hop : x.op = 8 ∨ x.op = 9 ∨ x.op = 10) :
    Calls Try.prog 103 #[.agg #[.int .i64 x.op, .int .i64 x.a, .int .i64 x.b, .int .i64 x.c, .int .i64 x.d], .int .i64 t] w fun e w' => e = .returned (.agg #[.int .i64 (aim x t).op, .int .i64 (aim x t).a, .int .i64 (aim x t).b, .int .i64 (aim x t).c, .int .i64 (aim x t).d]) ∧ Below w.heap.size w w' := by
  obtain ⟨op, a, b, c, d⟩ := x
  rcases tgt_cases ⟨op, a, b, c, d⟩ with ⟨h, _, ht⟩ | ⟨h, _, ht⟩ | ⟨h, _, ht⟩ | ⟨⟨h1, h2, h3⟩, _, _⟩
  · rw [ht]
    simp only at h ⊢
    subst h
    clear ht hop
    go_enter Try.func103, Try.ntmps103
    go_wp2
    exact bodyPost_ret (v := .agg #[.int .i64 8, .int .i64 t, .int .i64 b, .int .i64 c, .int .i64 d]) (by simp [results, Try.results103, go_sem]) rfl ⟨rfl, by repeat (first | exact Below.refl _ _ | refine Below.alloc ?_ (by simp; try omega) _ | refine Below.setCell ?_ (by simp; try omega) _)⟩
  · rw [ht]
    simp only at h ⊢
    subst h
    clear ht hop
    go_enter Try.func103, Try.ntmps103
    go_wp2
    exact bodyPost_ret (v := .agg #[.int .i64 9, .int .i64 a, .int .i64 t, .int .i64 c, .int .i64 d]) (by simp [results, Try.results103, go_sem]) rfl ⟨rfl, by repeat (first | exact Below.refl _ _ | refine Below.alloc ?_ (by simp; try omega) _ | refine Below.setCell ?_ (by simp; try omega) _)⟩
  · rw [ht]
    simp only at h ⊢
    subst h
    clear ht hop
    go_enter Try.func103, Try.ntmps103
    go_wp2
    exact bodyPost_ret (v := .agg #[.int .i64 10, .int .i64 a, .int .i64 t, .int .i64 c, .int .i64 d]) (by simp [results, Try.results103, go_sem]) rfl ⟨rfl, by repeat (first | exact Below.refl _ _ | refine Below.alloc ?_ (by simp; try omega) _ | refine Below.setCell ?_ (by simp; try omega) _)⟩
  · simp only at h1 h2 h3 hop
    omega

set_option maxHeartbeats 1600000 in
theorem l8Aim_any (x : Ins) (t : Int) (w : World) (hop : x.op = 8 ∨ x.op = 9 ∨ x.op = 10) :
    Calls Try.prog 101 #[.agg #[.int .i64 x.op, .int .i64 x.a, .int .i64 x.b, .int .i64 x.c, .int .i64 x.d], .int .i64 t] w fun e w' => e = .returned (.agg #[.int .i64 (aim x t).op, .int .i64 (aim x t).a, .int .i64 (aim x t).b, .int .i64 (aim x t).c, .int .i64 (aim x t).d]) ∧ Below w.heap.size w w' := by
  obtain ⟨op, a, b, c, d⟩ := x
  rcases tgt_cases ⟨op, a, b, c, d⟩ with ⟨h, _, ht⟩ | ⟨h, _, ht⟩ | ⟨h, _, ht⟩ | ⟨⟨h1, h2, h3⟩, _, _⟩
  · rw [ht]
    simp only at h ⊢
    subst h
    clear ht hop
    go_enter Try.func101, Try.ntmps101
    go_wp2
    exact bodyPost_ret (v := .agg #[.int .i64 8, .int .i64 t, .int .i64 b, .int .i64 c, .int .i64 d]) (by simp [results, Try.results101, go_sem]) rfl ⟨rfl, by repeat (first | exact Below.refl _ _ | refine Below.alloc ?_ (by simp; try omega) _ | refine Below.setCell ?_ (by simp; try omega) _)⟩
  · rw [ht]
    simp only at h ⊢
    subst h
    clear ht hop
    go_enter Try.func101, Try.ntmps101
    go_wp2
    exact bodyPost_ret (v := .agg #[.int .i64 9, .int .i64 a, .int .i64 t, .int .i64 c, .int .i64 d]) (by simp [results, Try.results101, go_sem]) rfl ⟨rfl, by repeat (first | exact Below.refl _ _ | refine Below.alloc ?_ (by simp; try omega) _ | refine Below.setCell ?_ (by simp; try omega) _)⟩
  · rw [ht]
    simp only at h ⊢
    subst h
    clear ht hop
    go_enter Try.func101, Try.ntmps101
    go_wp2
    exact bodyPost_ret (v := .agg #[.int .i64 10, .int .i64 a, .int .i64 t, .int .i64 c, .int .i64 d]) (by simp [results, Try.results101, go_sem]) rfl ⟨rfl, by repeat (first | exact Below.refl _ _ | refine Below.alloc ?_ (by simp; try omega) _ | refine Below.setCell ?_ (by simp; try omega) _)⟩
  · simp only at h1 h2 h3 hop
    omega


set_option maxHeartbeats 6400000 in
theorem with_any (va vb vc : Value) (c : Cd) (av : Option Addr) (nv cv : Nat) (w : World) (hr : ReadsC w va vb vc c) (h0 : c.vars.length ≤ 1073741824) (h1 : c.arrays.length ≤ 1073741824) :
    Calls Try.prog 104 #[.agg #[va, vb, vc], .slice av nv cv] w fun e w' => ∃ ua ub, e = .returned (.agg #[ua, ub, .slice av nv cv]) ∧ w'.ownsRow w.heap.size 3 1 ua c.vars.length (ints c.vars) ∧ w'.ownsRow w.heap.size 3 1 ub c.arrays.length (ints c.arrays) ∧ (∀ q, ua.ownBlock = some q → ub.ownBlock = some q → False) ∧ Below w.heap.size w w' := by
  obtain ⟨a0, c0, a1, c1, a2, c2, rfl, rfl, rfl⟩ := hr.shape
  obtain ⟨w2, hw2⟩ : ∃ w2, w2 = (w.alloc (.cells #[.slice a0 c.vars.length c0, .slice a1 c.arrays.length c1, .slice a2 c.list.length c2] 50)).alloc (.cells #[.slice none 0 0, .slice none 0 0, .slice none 0 0] 50) := ⟨_, rfl⟩
  have hb2 : Below w.heap.size w w2 := by rw [hw2]; exact bal (bal (bself w) _) _
  have hz2 : w.heap.size + 2 ≤ w2.heap.size := by rw [hw2]; simp
  have b0 : w2.cell? ⟨w.heap.size, 0, none⟩ = some (.slice a0 c.vars.length c0) := by rw [hw2]; exact cell_al (cell_nw rfl rfl) _
  have b1 : w2.cell? ⟨w.heap.size, 1, none⟩ = some (.slice a1 c.arrays.length c1) := by rw [hw2]; exact cell_al (cell_nw rfl rfl) _
  have b2 : w2.cell? ⟨w.heap.size, 2, none⟩ = some (.slice a2 c.list.length c2) := by rw [hw2]; exact cell_al (cell_nw rfl rfl) _
  have q0 : w2.cell? ⟨w.heap.size + 1, 0, none⟩ = some (.slice none 0 0) := by rw [hw2]; exact cell_nw (by simp) rfl
  have q1 : w2.cell? ⟨w.heap.size + 1, 1, none⟩ = some (.slice none 0 0) := by rw [hw2]; exact cell_nw (by simp) rfl
  have q2 : w2.cell? ⟨w.heap.size + 1, 2, none⟩ = some (.slice none 0 0) := by rw [hw2]; exact cell_nw (by simp) rfl
  have g0 : w2.frozen? ⟨w.heap.size + 1, 0, none⟩ = false := by rw [hw2]; exact froz_nw (by simp)
  have g1 : w2.frozen? ⟨w.heap.size + 1, 1, none⟩ = false := by rw [hw2]; exact froz_nw (by simp)
  have g2 : w2.frozen? ⟨w.heap.size + 1, 2, none⟩ = false := by rw [hw2]; exact froz_nw (by simp)
  have r := hr.below hb2
  have D := Below.drew (bself w2)
  have HB0 := Lib.hid b0
  have HB1 := Lib.hid b1
  have HB2 := Lib.hid b2
  clear hr
  go_enter Try.func104, Try.ntmps104
  go_wp2_with fail
  rw [← hw2]
  clear hw2 b0 b1 b2
  refine wp_region_held_drew (S := fun W' => W'.cell? ⟨w.heap.size, 0, none⟩ = some (.slice a0 c.vars.length c0) ∧ W'.cell? ⟨w.heap.size, 1, none⟩ = some (.slice a1 c.arrays.length c1) ∧ W'.cell? ⟨w.heap.size, 2, none⟩ = some (.slice a2 c.list.length c2)) (by kernel_rfl) ⟨kept_cell D HB0.out, kept_cell D HB1.out, kept_cell D HB2.out⟩ (fun hHeld => ?_)
  refine take_d (i := 0) (d := 5) (v := ?_) rfl rfl (by kernel_rfl) (by kernel_rfl) (by kernel_rfl) (fun _ _ _ h => h) (Or.inl ⟨by rfl, ?_⟩) (by assumption) ?_
  rotate_left
  · intro W' hSw; (try dsimp only at hSw); obtain ⟨s0, s1, s2⟩ := hSw; go_simp; try with_reducible rfl
  simp only [Act.put, List.setIfInBounds_toArray, List.set]
  refine take_d (i := 1) (d := 6) (v := ?_) rfl rfl (by kernel_rfl) (by kernel_rfl) (by kernel_rfl) (fun _ _ _ h => h) (Or.inl ⟨by rfl, ?_⟩) (by assumption) ?_
  rotate_left
  · intro W' hSw; (try dsimp only at hSw); obtain ⟨s0, s1, s2⟩ := hSw; go_simp; try with_reducible rfl
  simp only [Act.put, List.setIfInBounds_toArray, List.set]
  refine take_d (i := 3) (d := 8) (v := ?_) rfl rfl (by kernel_rfl) (by kernel_rfl) (by kernel_rfl) (fun _ _ _ h => h) (Or.inl ⟨by rfl, ?_⟩) (by assumption) ?_
  rotate_left
  · intro W' hSw; (try dsimp only at hSw); obtain ⟨s0, s1, s2⟩ := hSw; go_simp; try with_reducible rfl
  simp only [Act.put, List.setIfInBounds_toArray, List.set]
  refine take_d (i := 4) (d := 9) (v := ?_) rfl rfl (by kernel_rfl) (by kernel_rfl) (by kernel_rfl) (fun _ _ _ h => h) (Or.inl ⟨by rfl, ?_⟩) (by assumption) ?_
  rotate_left
  · intro W' hSw; (try dsimp only at hSw); obtain ⟨s0, s1, s2⟩ := hSw; go_simp; try with_reducible rfl
  simp only [Act.put, List.setIfInBounds_toArray, List.set]
  refine take_d (i := 6) (d := 11) (v := ?_) rfl rfl (by kernel_rfl) (by kernel_rfl) (by kernel_rfl) (fun _ _ _ h => h) (Or.inl ⟨by rfl, ?_⟩) (by assumption) ?_
  rotate_left
  · intro W' hSw; (try dsimp only at hSw); obtain ⟨s0, s1, s2⟩ := hSw; go_simp; try with_reducible rfl
  simp only [Act.put, List.setIfInBounds_toArray, List.set]
  refine wpAnyH_ready (rs := [2]) (by kernel_rfl) (by simp) ?_
  refine AllReadyH.cons rfl (fun K hK => ?_) AllReadyH.nil
  go_simp
  go_at_call 79
  refine (clone_any _ c.vars _ (r.below D).a (by omega)).mono ?_
  rintro e w3 ⟨u0, rfl, o0, hb⟩
  obtain ⟨p0, t0, rfl⟩ := own_shape o0
  have iv0 := o0.lt
  replace o0 := own_mono o0 D.size
  have D0 := btr D hb
  have s0 := hb.size
  clear hb
  go_wp2_with fail
  refine hK.out _ _ ⟨kept_cell D0 HB0.out, kept_cell D0 HB1.out, kept_cell D0 HB2.out⟩ (fun hHeld => ?_)
  clear hK K
  refine wpAnyH_ready (rs := [5]) (by kernel_rfl) (by simp) ?_
  refine AllReadyH.cons rfl (fun K hK => ?_) AllReadyH.nil
  go_simp
  go_at_call 79
  refine (clone_any _ c.arrays _ (r.below D0).b (by omega)).mono ?_
  rintro e w4 ⟨u1, rfl, o1, hb⟩
  obtain ⟨p1, t1, rfl⟩ := own_shape o1
  have iv1 := o1.lt
  replace o1 := own_mono o1 D0.size
  replace o0 := own_below o0 hb
  have D1 := btr D0 hb
  have s1 := hb.size
  clear hb
  go_wp2_with fail
  refine hK.out _ _ ⟨kept_cell D1 HB0.out, kept_cell D1 HB1.out, kept_cell D1 HB2.out⟩ (fun hHeld => ?_)
  clear hK K
  refine take_d (i := 7) (d := 12) (v := ?_) rfl rfl (by kernel_rfl) (by kernel_rfl) (by kernel_rfl) (fun _ _ _ h => h) (Or.inl ⟨by rfl, ?_⟩) (by assumption) ?_
  rotate_left
  · intro W' hSw; (try dsimp only at hSw); obtain ⟨s0, s1, s2⟩ := hSw; go_simp; try with_reducible rfl
  simp only [Act.put, List.setIfInBounds_toArray, List.set]
  have x0 := kept_cell D1 q0
  have y0 := kept_froz D1 (lt_of_cell q0) g0
  have x1 := kept_cell D1 q1
  have y1 := kept_froz D1 (lt_of_cell q1) g1
  have x2 := kept_cell D1 q2
  have y2 := kept_froz D1 (lt_of_cell q2) g2
  have i0 := o0.lt
  have i1 := o1.lt
  have k1 := lt_of_cell x0
  have m0 := (own_set (own_set (own_set o0 (w.heap.size + 1) 0 (fun h => by have := i0 _ h; omega) (.slice p0 c.vars.length t0)) (w.heap.size + 1) 1 (fun h => by have := i0 _ h; omega) (.slice p1 c.arrays.length t1)) (w.heap.size + 1) 2 (fun h => by have := i0 _ h; omega) (.slice av nv cv))
  have m1 := (own_set (own_set (own_set o1 (w.heap.size + 1) 0 (fun h => by have := i1 _ h; omega) (.slice p0 c.vars.length t0)) (w.heap.size + 1) 1 (fun h => by have := i1 _ h; omega) (.slice p1 c.arrays.length t1)) (w.heap.size + 1) 2 (fun h => by have := i1 _ h; omega) (.slice av nv cv))
  have n0 := (cell_ne (b := (w.heap.size + 1)) (j := 2) (cell_ne (b := (w.heap.size + 1)) (j := 1) (cell_at _ (w.heap.size + 1) 0 (.slice p0 c.vars.length t0) x0) (by omega) (.slice p1 c.arrays.length t1)) (by omega) (.slice av nv cv))
  have n1 := (cell_ne (b := (w.heap.size + 1)) (j := 2) (cell_at _ (w.heap.size + 1) 1 (.slice p1 c.arrays.length t1) (cell_ne (b := (w.heap.size + 1)) (j := 0) x1 (by omega) (.slice p0 c.vars.length t0))) (by omega) (.slice av nv cv))
  have n2 := (cell_at _ (w.heap.size + 1) 2 (.slice av nv cv) (cell_ne (b := (w.heap.size + 1)) (j := 1) (cell_ne (b := (w.heap.size + 1)) (j := 0) x2 (by omega) (.slice p0 c.vars.length t0)) (by omega) (.slice p1 c.arrays.length t1)))
  have tt := (bst (bst (bst (btr hb2 D1) (w.heap.size + 1) 0 (by omega) (.slice p0 c.vars.length t0)) (w.heap.size + 1) 1 (by omega) (.slice p1 c.arrays.length t1)) (w.heap.size + 1) 2 (by omega) (.slice av nv cv))
  have Z := And.intro (cell_ne (b := (w.heap.size + 1)) (j := 2) (cell_ne (b := (w.heap.size + 1)) (j := 1) (cell_ne (b := (w.heap.size + 1)) (j := 0) (kept_cell D1 HB0.out) (by omega) (.slice p0 c.vars.length t0)) (by omega) (.slice p1 c.arrays.length t1)) (by omega) (.slice av nv cv)) (And.intro (cell_ne (b := (w.heap.size + 1)) (j := 2) (cell_ne (b := (w.heap.size + 1)) (j := 1) (cell_ne (b := (w.heap.size + 1)) (j := 0) (kept_cell D1 HB1.out) (by omega) (.slice p0 c.vars.length t0)) (by omega) (.slice p1 c.arrays.length t1)) (by omega) (.slice av nv cv)) (cell_ne (b := (w.heap.size + 1)) (j := 2) (cell_ne (b := (w.heap.size + 1)) (j := 1) (cell_ne (b := (w.heap.size + 1)) (j := 0) (kept_cell D1 HB2.out) (by omega) (.slice p0 c.vars.length t0)) (by omega) (.slice p1 c.arrays.length t1)) (by omega) (.slice av nv cv)))
  refine wpAnyH_ready (rs := [8]) (by kernel_rfl) (by simp) ?_
  refine AllReadyH.cons rfl (fun K hK => ?_) AllReadyH.nil
  go_simp
  refine hK.out _ _ Z (fun hHeld => ?_)
  clear hK K
  refine wpAnyH_done (by kernel_rfl) ?_ _
  clear x0 x1 x2 y0 y1 y2 q0 q1 q2 g0 g1 g2 Z hHeld
  go_wp2
  exact bodyPost_ret (v := .agg #[.slice p0 c.vars.length t0, .slice p1 c.arrays.length t1, .slice av nv cv]) (by simp [results, Try.results104, go_sem, n0, n1, n2]) rfl ⟨_, _, rfl, own_mono m0 (by omega), own_mono m1 (by omega), (fun q h h' => by have := iv0 q h; have := iv1 q h'; omega), tt⟩
end Go.Proofs.Ytkbbpnfhenoihaa
