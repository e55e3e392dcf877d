/-
  Copies of a code.
-/
import Derived.Test.YtkbbpnfhenoihaaCN
namespace Go.Proofs.Ytkbbpnfhenoihaa
open Go.RowKit

theorem tInstrs : SliceT Try.prog 48 98 (.agg #[.int .i64 0, .int .i64 0, .int .i64 0, .int .i64 0, .int .i64 0]) 5 40 := ⟨Try.underlying48, info_Instr, rfl, by omega, by omega⟩
theorem own_nil_rows (w : World) (e : TypeId) (sz : Nat) : (w.alloc (.cells #[] e)).ownsRow w.heap.size e sz (.slice (some ⟨w.heap.size, 0, none⟩) 0 0) 0 [] :=
  World.ownsRow_lit (base := w.heap.size) (e := e) (size := sz) w #[] 0 (Nat.le_refl _) (by unfold maxLen; omega) (by simp)
theorem take_d {P : Program} {ops : Array Oper} {Q : Exit → Act → World → Prop} {md : Region.Mode} {S : World → Prop} {i : Nat} {oi : Oper} {d : Nat} {v : Value} {fuel : Nat} {listed : Array Bool} {a : Act} {w : World} (hi : ops[i]? = some oi) (hd : oi.dst = some d)
    (hs : Region.noSelect ops = true) (hf : Region.free md ops listed i = true) (hr : (Region.ready md ops listed).contains i = true)
    (hQ : ∀ c a w, Q (.panic c) (a.put oi.dst v) w → Q (.panic c) a w) (hy : YieldsIf P ops S oi v a) (hS : S w)
    (h : wpAnyH P md ops Q S fuel (listed.setIfInBounds i true) (a.put (some d) v) w) : wpAnyH P md ops Q S (fuel + 1) listed a w :=
  wpAnyH_take hi hs hf hr hQ hy hS (by rw [hd]; exact h)

theorem cloneInstr_any (v : Value) (l : List Ins) (w : World) (hr : Reads w 5 v l.length (inss l)) (hsz : l.length ≤ 1073741824) :
    Calls Try.prog 146 #[v] w fun e w' => ∃ u, e = .returned u ∧ w'.ownsRow w.heap.size 98 5 u l.length (inss l) ∧ Below w.heap.size w w' := by
  have hr0 := hr
  have heq := fun w a n c => Lib.run_eql_slice_nil (P := Try.prog) w 48 98 a n c 0 0 Try.underlying48
  obtain ⟨_, hn, a, cap, b, off, rfl, ⟨hcap, hnil⟩, ha, hca⟩ := hr
  cases a with
  | none =>
    have h0 := hnil rfl
    have h1 : l = [] := List.eq_nil_of_length_eq_zero (by omega)
    subst h1 h0
    go_enter Try.func146, Try.ntmps146
    go_wp2
    go_ret
    exact ⟨_, rfl, World.ownsRow_nil _ _ _ _, Below.refl _ _⟩
  | some a =>
    have hown := own_nil_rows w 98 5
    have hr1 := hr0.below ((Below.refl w.heap.size w).alloc (Nat.le_refl _) (.cells #[] 98))
    clear hr0 ha hca hnil
    go_enter Try.func146, Try.ntmps146
    go_wp2_with (at_builtin; refine wpList_aps tInstrs rfl _ _ rfl w.heap.size _ 0 [] rfl hown _ _ _ rfl hr1 (one_rows one_insc l) (by omega) ?c1 ?_)
    case c1 => simp
    · intro v' w' ho' hc' hn' _
      have hb := ((Below.refl w.heap.size w).alloc (Nat.le_refl _) (.cells #[] 98)).trans (hc'.below w.heap.size (by simp) (fun k hk => not_own hown hk))
      clear hc' hn' heq hown
      go_wp2
      go_ret
      exact ⟨_, rfl, by simpa using ho', hb⟩


set_option maxHeartbeats 6400000 in
theorem own_any (va vb vc : Value) (c : Cd) (w : World) (hr : ReadsC w va vb vc c) (h0 : c.vars.length ≤ 1073741824) (h1 : c.arrays.length ≤ 1073741824) (h2 : c.list.length ≤ 1073741824) :
    Calls Try.prog 92 #[.agg #[va, vb, vc]] w fun e w' => ∃ ua ub uc, e = .returned (.agg #[ua, ub, uc]) ∧ OwnC w' w.heap.size ua ub uc c ∧ Below w.heap.size w w' := by
  obtain ⟨a0, c0, a1, c1, a2, c2, rfl, rfl, rfl⟩ := hr.shape
  obtain ⟨w2, hw2⟩ : ∃ w2, w2 = (w.alloc (.cells #[.slice a0 c.vars.length c0, .slice a1 c.arrays.length c1, .slice a2 c.list.length c2] 50)).alloc (.cells #[.slice none 0 0, .slice none 0 0, .slice none 0 0] 50) := ⟨_, rfl⟩
  have hb2 : Below w.heap.size w w2 := by rw [hw2]; exact bal (bal (bself w) _) _
  have hz2 : w.heap.size + 2 ≤ w2.heap.size := by rw [hw2]; simp
  have b0 : w2.cell? ⟨w.heap.size, 0, none⟩ = some (.slice a0 c.vars.length c0) := by rw [hw2]; exact cell_al (cell_nw rfl rfl) _
  have b1 : w2.cell? ⟨w.heap.size, 1, none⟩ = some (.slice a1 c.arrays.length c1) := by rw [hw2]; exact cell_al (cell_nw rfl rfl) _
  have b2 : w2.cell? ⟨w.heap.size, 2, none⟩ = some (.slice a2 c.list.length c2) := by rw [hw2]; exact cell_al (cell_nw rfl rfl) _
  have q0 : w2.cell? ⟨w.heap.size + 1, 0, none⟩ = some (.slice none 0 0) := by rw [hw2]; exact cell_nw (by simp) rfl
  have q1 : w2.cell? ⟨w.heap.size + 1, 1, none⟩ = some (.slice none 0 0) := by rw [hw2]; exact cell_nw (by simp) rfl
  have q2 : w2.cell? ⟨w.heap.size + 1, 2, none⟩ = some (.slice none 0 0) := by rw [hw2]; exact cell_nw (by simp) rfl
  have g0 : w2.frozen? ⟨w.heap.size + 1, 0, none⟩ = false := by rw [hw2]; exact froz_nw (by simp)
  have g1 : w2.frozen? ⟨w.heap.size + 1, 1, none⟩ = false := by rw [hw2]; exact froz_nw (by simp)
  have g2 : w2.frozen? ⟨w.heap.size + 1, 2, none⟩ = false := by rw [hw2]; exact froz_nw (by simp)
  have r := hr.below hb2
  have D := Below.drew (bself w2)
  have HB0 := Lib.hid b0
  have HB1 := Lib.hid b1
  have HB2 := Lib.hid b2
  clear hr
  go_enter Try.func92, Try.ntmps92
  go_wp2_with fail
  rw [← hw2]
  clear hw2 b0 b1 b2
  refine wp_region_held_drew (S := fun W' => W'.cell? ⟨w.heap.size, 0, none⟩ = some (.slice a0 c.vars.length c0) ∧ W'.cell? ⟨w.heap.size, 1, none⟩ = some (.slice a1 c.arrays.length c1) ∧ W'.cell? ⟨w.heap.size, 2, none⟩ = some (.slice a2 c.list.length c2)) (by kernel_rfl) ⟨kept_cell D HB0.out, kept_cell D HB1.out, kept_cell D HB2.out⟩ (fun hHeld => ?_)
  refine take_d (i := 0) (d := 3) (v := ?_) rfl rfl (by kernel_rfl) (by kernel_rfl) (by kernel_rfl) (fun _ _ _ h => h) (Or.inl ⟨by rfl, ?_⟩) (by assumption) ?_
  rotate_left
  · intro W' hSw; (try dsimp only at hSw); obtain ⟨s0, s1, s2⟩ := hSw; go_simp; try with_reducible rfl
  simp only [Act.put, List.setIfInBounds_toArray, List.set]
  refine take_d (i := 1) (d := 4) (v := ?_) rfl rfl (by kernel_rfl) (by kernel_rfl) (by kernel_rfl) (fun _ _ _ h => h) (Or.inl ⟨by rfl, ?_⟩) (by assumption) ?_
  rotate_left
  · intro W' hSw; (try dsimp only at hSw); obtain ⟨s0, s1, s2⟩ := hSw; go_simp; try with_reducible rfl
  simp only [Act.put, List.setIfInBounds_toArray, List.set]
  refine take_d (i := 3) (d := 6) (v := ?_) rfl rfl (by kernel_rfl) (by kernel_rfl) (by kernel_rfl) (fun _ _ _ h => h) (Or.inl ⟨by rfl, ?_⟩) (by assumption) ?_
  rotate_left
  · intro W' hSw; (try dsimp only at hSw); obtain ⟨s0, s1, s2⟩ := hSw; go_simp; try with_reducible rfl
  simp only [Act.put, List.setIfInBounds_toArray, List.set]
  refine take_d (i := 4) (d := 7) (v := ?_) rfl rfl (by kernel_rfl) (by kernel_rfl) (by kernel_rfl) (fun _ _ _ h => h) (Or.inl ⟨by rfl, ?_⟩) (by assumption) ?_
  rotate_left
  · intro W' hSw; (try dsimp only at hSw); obtain ⟨s0, s1, s2⟩ := hSw; go_simp; try with_reducible rfl
  simp only [Act.put, List.setIfInBounds_toArray, List.set]
  refine take_d (i := 6) (d := 9) (v := ?_) rfl rfl (by kernel_rfl) (by kernel_rfl) (by kernel_rfl) (fun _ _ _ h => h) (Or.inl ⟨by rfl, ?_⟩) (by assumption) ?_
  rotate_left
  · intro W' hSw; (try dsimp only at hSw); obtain ⟨s0, s1, s2⟩ := hSw; go_simp; try with_reducible rfl
  simp only [Act.put, List.setIfInBounds_toArray, List.set]
  refine take_d (i := 7) (d := 10) (v := ?_) rfl rfl (by kernel_rfl) (by kernel_rfl) (by kernel_rfl) (fun _ _ _ h => h) (Or.inl ⟨by rfl, ?_⟩) (by assumption) ?_
  rotate_left
  · intro W' hSw; (try dsimp only at hSw); obtain ⟨s0, s1, s2⟩ := hSw; go_simp; try with_reducible rfl
  simp only [Act.put, List.setIfInBounds_toArray, List.set]
  refine wpAnyH_ready (rs := [2]) (by kernel_rfl) (by simp) ?_
  refine AllReadyH.cons rfl (fun K hK => ?_) AllReadyH.nil
  go_simp
  go_at_call 79
  refine (clone_any _ c.vars _ (r.below D).a (by omega)).mono ?_
  rintro e w3 ⟨u0, rfl, o0, hb⟩
  obtain ⟨p0, t0, rfl⟩ := own_shape o0
  have iv0 := o0.lt
  replace o0 := own_mono o0 D.size
  have D0 := btr D hb
  have s0 := hb.size
  clear hb
  go_wp2_with fail
  refine hK.out _ _ ⟨kept_cell D0 HB0.out, kept_cell D0 HB1.out, kept_cell D0 HB2.out⟩ (fun hHeld => ?_)
  clear hK K
  refine wpAnyH_ready (rs := [5]) (by kernel_rfl) (by simp) ?_
  refine AllReadyH.cons rfl (fun K hK => ?_) AllReadyH.nil
  go_simp
  go_at_call 79
  refine (clone_any _ c.arrays _ (r.below D0).b (by omega)).mono ?_
  rintro e w4 ⟨u1, rfl, o1, hb⟩
  obtain ⟨p1, t1, rfl⟩ := own_shape o1
  have iv1 := o1.lt
  replace o1 := own_mono o1 D0.size
  replace o0 := own_below o0 hb
  have D1 := btr D0 hb
  have s1 := hb.size
  clear hb
  go_wp2_with fail
  refine hK.out _ _ ⟨kept_cell D1 HB0.out, kept_cell D1 HB1.out, kept_cell D1 HB2.out⟩ (fun hHeld => ?_)
  clear hK K
  refine wpAnyH_ready (rs := [8]) (by kernel_rfl) (by simp) ?_
  refine AllReadyH.cons rfl (fun K hK => ?_) AllReadyH.nil
  go_simp
  go_at_call 146
  refine (cloneInstr_any _ c.list _ (r.below D1).l (by omega)).mono ?_
  rintro e w5 ⟨u2, rfl, o2, hb⟩
  obtain ⟨p2, t2, rfl⟩ := own_shape o2
  have iv2 := o2.lt
  replace o2 := own_mono o2 D1.size
  replace o0 := own_below o0 hb
  replace o1 := own_below o1 hb
  have D2 := btr D1 hb
  have s2 := hb.size
  clear hb
  go_wp2_with fail
  refine hK.out _ _ ⟨kept_cell D2 HB0.out, kept_cell D2 HB1.out, kept_cell D2 HB2.out⟩ (fun hHeld => ?_)
  clear hK K
  refine take_d (i := 9) (d := 12) (v := ?_) rfl rfl (by kernel_rfl) (by kernel_rfl) (by kernel_rfl) (fun _ _ _ h => h) (Or.inl ⟨by rfl, ?_⟩) (by assumption) ?_
  rotate_left
  · intro W' hSw; (try dsimp only at hSw); obtain ⟨s0, s1, s2⟩ := hSw; go_simp; try with_reducible rfl
  simp only [Act.put, List.setIfInBounds_toArray, List.set]
  have x0 := kept_cell D2 q0
  have y0 := kept_froz D2 (lt_of_cell q0) g0
  have i0 := o0.lt
  have x1 := kept_cell D2 q1
  have y1 := kept_froz D2 (lt_of_cell q1) g1
  have i1 := o1.lt
  have x2 := kept_cell D2 q2
  have y2 := kept_froz D2 (lt_of_cell q2) g2
  have i2 := o2.lt
  have k1 := lt_of_cell x0
  have m0 := (own_set (own_set (own_set o0 (w.heap.size + 1) 0 (fun h => by have := i0 _ h; omega) (.slice p0 c.vars.length t0)) (w.heap.size + 1) 1 (fun h => by have := i0 _ h; omega) (.slice p1 c.arrays.length t1)) (w.heap.size + 1) 2 (fun h => by have := i0 _ h; omega) (.slice p2 c.list.length t2))
  have n0 := (cell_ne (b := (w.heap.size + 1)) (j := 2) (cell_ne (b := (w.heap.size + 1)) (j := 1) (cell_at _ (w.heap.size + 1) 0 (.slice p0 c.vars.length t0) x0) (by omega) (.slice p1 c.arrays.length t1)) (by omega) (.slice p2 c.list.length t2))
  have m1 := (own_set (own_set (own_set o1 (w.heap.size + 1) 0 (fun h => by have := i1 _ h; omega) (.slice p0 c.vars.length t0)) (w.heap.size + 1) 1 (fun h => by have := i1 _ h; omega) (.slice p1 c.arrays.length t1)) (w.heap.size + 1) 2 (fun h => by have := i1 _ h; omega) (.slice p2 c.list.length t2))
  have n1 := (cell_ne (b := (w.heap.size + 1)) (j := 2) (cell_at _ (w.heap.size + 1) 1 (.slice p1 c.arrays.length t1) (cell_ne (b := (w.heap.size + 1)) (j := 0) x1 (by omega) (.slice p0 c.vars.length t0))) (by omega) (.slice p2 c.list.length t2))
  have m2 := (own_set (own_set (own_set o2 (w.heap.size + 1) 0 (fun h => by have := i2 _ h; omega) (.slice p0 c.vars.length t0)) (w.heap.size + 1) 1 (fun h => by have := i2 _ h; omega) (.slice p1 c.arrays.length t1)) (w.heap.size + 1) 2 (fun h => by have := i2 _ h; omega) (.slice p2 c.list.length t2))
  have n2 := (cell_at _ (w.heap.size + 1) 2 (.slice p2 c.list.length t2) (cell_ne (b := (w.heap.size + 1)) (j := 1) (cell_ne (b := (w.heap.size + 1)) (j := 0) x2 (by omega) (.slice p0 c.vars.length t0)) (by omega) (.slice p1 c.arrays.length t1)))
  have tt := (bst (bst (bst (btr hb2 D2) (w.heap.size + 1) 0 (by omega) (.slice p0 c.vars.length t0)) (w.heap.size + 1) 1 (by omega) (.slice p1 c.arrays.length t1)) (w.heap.size + 1) 2 (by omega) (.slice p2 c.list.length t2))
  have Z := And.intro (cell_ne (b := (w.heap.size + 1)) (j := 2) (cell_ne (b := (w.heap.size + 1)) (j := 1) (cell_ne (b := (w.heap.size + 1)) (j := 0) (kept_cell D2 HB0.out) (by omega) (.slice p0 c.vars.length t0)) (by omega) (.slice p1 c.arrays.length t1)) (by omega) (.slice p2 c.list.length t2)) (And.intro (cell_ne (b := (w.heap.size + 1)) (j := 2) (cell_ne (b := (w.heap.size + 1)) (j := 1) (cell_ne (b := (w.heap.size + 1)) (j := 0) (kept_cell D2 HB1.out) (by omega) (.slice p0 c.vars.length t0)) (by omega) (.slice p1 c.arrays.length t1)) (by omega) (.slice p2 c.list.length t2)) (cell_ne (b := (w.heap.size + 1)) (j := 2) (cell_ne (b := (w.heap.size + 1)) (j := 1) (cell_ne (b := (w.heap.size + 1)) (j := 0) (kept_cell D2 HB2.out) (by omega) (.slice p0 c.vars.length t0)) (by omega) (.slice p1 c.arrays.length t1)) (by omega) (.slice p2 c.list.length t2)))
  refine wpAnyH_ready (rs := [10]) (by kernel_rfl) (by simp) ?_
  refine AllReadyH.cons rfl (fun K hK => ?_) AllReadyH.nil
  go_simp
  refine hK.out _ _ Z (fun hHeld => ?_)
  clear hK K
  refine wpAnyH_done (by kernel_rfl) ?_ _
  clear x0 x1 x2 y0 y1 y2 q0 q1 q2 g0 g1 g2 Z hHeld
  go_wp2
  exact bodyPost_ret (v := .agg #[.slice p0 c.vars.length t0, .slice p1 c.arrays.length t1, .slice p2 c.list.length t2]) (by simp [results, Try.results92, go_sem, n0, n1, n2]) rfl ⟨_, _, _, rfl, ⟨own_mono m0 (by omega), own_mono m1 (by omega), own_mono m2 (by omega), (fun q h h' => by have := iv0 q h; have := iv1 q h'; omega)⟩, tt⟩

theorem newor_cases {w : World} {v v' : Value} {b : Nat} (h : NewOr w v v') (hv : v.ownBlock = some b) : ∀ q, v'.ownBlock = some q → q = b ∨ w.heap.size ≤ q := by
  intro q hq
  rcases h with h | ⟨g, h, h'⟩
  · rw [h, hv] at hq; exact Or.inl (Option.some.inj hq).symm
  · rw [h] at hq
    have e : g = q := Option.some.inj hq
    subst e
    exact Or.inr h'

set_option maxHeartbeats 40000000 in
theorem l8Copy_any (va vb vc : Value) (c : Cd) (w : World) (hr : ReadsC w va vb vc c) (h0 : c.vars.length ≤ 1073741824) (h1 : c.arrays.length ≤ 1073741824) (h2 : c.list.length ≤ 1073741824) :
    Calls Try.prog 91 #[.agg #[va, vb, vc]] w fun e w' => ∃ ua ub uc, e = .returned (.agg #[ua, ub, uc]) ∧ OwnC w' w.heap.size ua ub uc c ∧ Below w.heap.size w w' := by
  obtain ⟨a0, c0, a1, c1, a2, c2, rfl, rfl, rfl⟩ := hr.shape
  obtain ⟨w2, hw2⟩ : ∃ w2, w2 = (w.alloc (.cells #[.slice a0 c.vars.length c0, .slice a1 c.arrays.length c1, .slice a2 c.list.length c2] 50)).alloc (.cells #[.slice none 0 0, .slice none 0 0, .slice none 0 0] 50) := ⟨_, rfl⟩
  have hb2 : Below w.heap.size w w2 := by rw [hw2]; exact bal (bal (bself w) _) _
  have hz2 : w.heap.size + 2 ≤ w2.heap.size := by rw [hw2]; simp
  have b0 : w2.cell? ⟨w.heap.size, 0, none⟩ = some (.slice a0 c.vars.length c0) := by rw [hw2]; exact cell_al (cell_nw rfl rfl) _
  have b1 : w2.cell? ⟨w.heap.size, 1, none⟩ = some (.slice a1 c.arrays.length c1) := by rw [hw2]; exact cell_al (cell_nw rfl rfl) _
  have b2 : w2.cell? ⟨w.heap.size, 2, none⟩ = some (.slice a2 c.list.length c2) := by rw [hw2]; exact cell_al (cell_nw rfl rfl) _
  have q0 : w2.cell? ⟨w.heap.size + 1, 0, none⟩ = some (.slice none 0 0) := by rw [hw2]; exact cell_nw (by simp) rfl
  have q1 : w2.cell? ⟨w.heap.size + 1, 1, none⟩ = some (.slice none 0 0) := by rw [hw2]; exact cell_nw (by simp) rfl
  have q2 : w2.cell? ⟨w.heap.size + 1, 2, none⟩ = some (.slice none 0 0) := by rw [hw2]; exact cell_nw (by simp) rfl
  have g0 : w2.frozen? ⟨w.heap.size + 1, 0, none⟩ = false := by rw [hw2]; exact froz_nw (by simp)
  have g1 : w2.frozen? ⟨w.heap.size + 1, 1, none⟩ = false := by rw [hw2]; exact froz_nw (by simp)
  have g2 : w2.frozen? ⟨w.heap.size + 1, 2, none⟩ = false := by rw [hw2]; exact froz_nw (by simp)
  have r := hr.below hb2
  have D := Below.drew (bself w2)
  have HB0 := Lib.hid b0
  have HB1 := Lib.hid b1
  have HB2 := Lib.hid b2
  clear hr
  go_enter Try.func91, Try.ntmps91
  go_wp2_with fail
  rw [← hw2]
  clear hw2 b0 b1 b2
  refine wp_region_held_drew (S := fun W' => W'.cell? ⟨w.heap.size, 0, none⟩ = some (.slice a0 c.vars.length c0) ∧ W'.cell? ⟨w.heap.size, 1, none⟩ = some (.slice a1 c.arrays.length c1) ∧ W'.cell? ⟨w.heap.size, 2, none⟩ = some (.slice a2 c.list.length c2)) (by kernel_rfl) ⟨kept_cell D HB0.out, kept_cell D HB1.out, kept_cell D HB2.out⟩ (fun hHeld => ?_)
  obtain ⟨wd, hwd⟩ : ∃ X, X = World.drew w2 := ⟨_, rfl⟩
  rw [← hwd] at D hHeld ⊢
  have sd := D.size
  clear hwd
  refine take_d (i := 1) (d := 4) (v := ?_) rfl rfl (by kernel_rfl) (by kernel_rfl) (by kernel_rfl) (fun _ _ _ h => h) (Or.inl ⟨by rfl, ?_⟩) (by assumption) ?_
  rotate_left
  · intro W' hSw; (try dsimp only at hSw); obtain ⟨s0, s1, s2⟩ := hSw; go_simp; try with_reducible rfl
  simp only [Act.put, List.setIfInBounds_toArray, List.set]
  refine take_d (i := 2) (d := 5) (v := ?_) rfl rfl (by kernel_rfl) (by kernel_rfl) (by kernel_rfl) (fun _ _ _ h => h) (Or.inl ⟨by rfl, ?_⟩) (by assumption) ?_
  rotate_left
  · intro W' hSw; (try dsimp only at hSw); obtain ⟨s0, s1, s2⟩ := hSw; go_simp; try with_reducible rfl
  simp only [Act.put, List.setIfInBounds_toArray, List.set]
  refine take_d (i := 5) (d := 8) (v := ?_) rfl rfl (by kernel_rfl) (by kernel_rfl) (by kernel_rfl) (fun _ _ _ h => h) (Or.inl ⟨by rfl, ?_⟩) (by assumption) ?_
  rotate_left
  · intro W' hSw; (try dsimp only at hSw); obtain ⟨s0, s1, s2⟩ := hSw; go_simp; try with_reducible rfl
  simp only [Act.put, List.setIfInBounds_toArray, List.set]
  refine take_d (i := 6) (d := 9) (v := ?_) rfl rfl (by kernel_rfl) (by kernel_rfl) (by kernel_rfl) (fun _ _ _ h => h) (Or.inl ⟨by rfl, ?_⟩) (by assumption) ?_
  rotate_left
  · intro W' hSw; (try dsimp only at hSw); obtain ⟨s0, s1, s2⟩ := hSw; go_simp; try with_reducible rfl
  simp only [Act.put, List.setIfInBounds_toArray, List.set]
  refine take_d (i := 9) (d := 12) (v := ?_) rfl rfl (by kernel_rfl) (by kernel_rfl) (by kernel_rfl) (fun _ _ _ h => h) (Or.inl ⟨by rfl, ?_⟩) (by assumption) ?_
  rotate_left
  · intro W' hSw; (try dsimp only at hSw); obtain ⟨s0, s1, s2⟩ := hSw; go_simp; try with_reducible rfl
  simp only [Act.put, List.setIfInBounds_toArray, List.set]
  refine take_d (i := 10) (d := 13) (v := ?_) rfl rfl (by kernel_rfl) (by kernel_rfl) (by kernel_rfl) (fun _ _ _ h => h) (Or.inl ⟨by rfl, ?_⟩) (by assumption) ?_
  rotate_left
  · intro W' hSw; (try dsimp only at hSw); obtain ⟨s0, s1, s2⟩ := hSw; go_simp; try with_reducible rfl
  simp only [Act.put, List.setIfInBounds_toArray, List.set]
  refine wpAnyH_ready (rs := [0, 4, 8]) (by kernel_rfl) (by simp) ?_
  refine AllReadyH.cons rfl (fun K hK => ?_) ?_
  · -- 0
    go_simp
    obtain ⟨v1, hv⟩ : ∃ X, X = World.alloc wd (.cells #[] 3) := ⟨_, rfl⟩
    rw [← hv]
    have o1 : v1.ownsRow wd.heap.size 3 1 (.slice (some ⟨wd.heap.size, 0, none⟩) 0 0) 0 [] := by rw [hv]; exact own_nil_rows _ _ _
    have hb : Below wd.heap.size wd v1 := by rw [hv]; exact bal (bself _) _
    have D1 := btr D hb
    have s1 : wd.heap.size + 1 ≤ v1.heap.size := by rw [hv]; simp
    clear hv
    clear hb
    refine hK.out _ _ ⟨kept_cell D1 HB0.out, kept_cell D1 HB1.out, kept_cell D1 HB2.out⟩ (fun hHeld => ?_)
    clear hK K
    refine wpAnyH_ready (rs := [3, 4, 8]) (by kernel_rfl) (by simp) ?_
    refine AllReadyH.cons rfl (fun K hK => ?_) ?_
    · -- 3
      refine step_aps tInts rfl _ _ rfl wd.heap.size _ 0 [] rfl o1 _ _ _ rfl (r.below D1).a (one_ints c.vars) (by omega) (by omega) ?_
      intro v' v2 ho hc hn _
      simp only [Nat.zero_add, List.nil_append] at ho
      obtain ⟨p2, t2, rfl⟩ := own_shape ho
      have iv2 : ∀ q, (Value.slice p2 c.vars.length t2).ownBlock = some q → q = wd.heap.size ∨ v1.heap.size ≤ q := newor_cases hn rfl
      have iu2 := ho.lt
      have D2 := D1.trans (hc.below w2.heap.size D1.size (fun q hq h => by have e : wd.heap.size = q := Option.some.inj h; have := D1.size; omega))
      have s2 := hc.size
      have ho2 := ho; clear ho hc hn
      refine hK.out _ _ ⟨kept_cell D2 HB0.out, kept_cell D2 HB1.out, kept_cell D2 HB2.out⟩ (fun hHeld => ?_)
      clear hK K
      try simp only [Act.put, List.setIfInBounds_toArray]
      refine wpAnyH_ready (rs := [4, 8]) (by kernel_rfl) (by simp) ?_
      refine AllReadyH.cons rfl (fun K hK => ?_) ?_
      · -- 4
        go_simp
        obtain ⟨v3, hv⟩ : ∃ X, X = World.alloc v2 (.cells #[] 3) := ⟨_, rfl⟩
        rw [← hv]
        have o3 : v3.ownsRow v2.heap.size 3 1 (.slice (some ⟨v2.heap.size, 0, none⟩) 0 0) 0 [] := by rw [hv]; exact own_nil_rows _ _ _
        have hb : Below v2.heap.size v2 v3 := by rw [hv]; exact bal (bself _) _
        have D3 := btr D2 hb
        have s3 : v2.heap.size + 1 ≤ v3.heap.size := by rw [hv]; simp
        clear hv
        have oo0_3 := own_below ho2 hb
        clear hb
        refine hK.out _ _ ⟨kept_cell D3 HB0.out, kept_cell D3 HB1.out, kept_cell D3 HB2.out⟩ (fun hHeld => ?_)
        clear hK K
        refine wpAnyH_ready (rs := [7, 8]) (by kernel_rfl) (by simp) ?_
        refine AllReadyH.cons rfl (fun K hK => ?_) ?_
        · -- 7
          refine step_aps tInts rfl _ _ rfl v2.heap.size _ 0 [] rfl o3 _ _ _ rfl (r.below D3).b (one_ints c.arrays) (by omega) (by omega) ?_
          intro v' v4 ho hc hn _
          simp only [Nat.zero_add, List.nil_append] at ho
          obtain ⟨p4, t4, rfl⟩ := own_shape ho
          have iv4 : ∀ q, (Value.slice p4 c.arrays.length t4).ownBlock = some q → q = v2.heap.size ∨ v3.heap.size ≤ q := newor_cases hn rfl
          have iu4 := ho.lt
          have D4 := D3.trans (hc.below w2.heap.size D3.size (fun q hq h => by have e : v2.heap.size = q := Option.some.inj h; have := D3.size; omega))
          have s4 := hc.size
          have oo0_4 := own_keep oo0_3 hc (fun q h h2 => by have e2 : v2.heap.size = q := Option.some.inj h2; have := iv2 q h; have := iu2 q h; omega)
          have ho4 := ho; clear ho hc hn
          refine hK.out _ _ ⟨kept_cell D4 HB0.out, kept_cell D4 HB1.out, kept_cell D4 HB2.out⟩ (fun hHeld => ?_)
          clear hK K
          try simp only [Act.put, List.setIfInBounds_toArray]
          refine wpAnyH_ready (rs := [8]) (by kernel_rfl) (by simp) ?_
          refine AllReadyH.cons rfl (fun K hK => ?_) ?_
          · -- 8
            go_simp
            obtain ⟨v5, hv⟩ : ∃ X, X = World.alloc v4 (.cells #[] 98) := ⟨_, rfl⟩
            rw [← hv]
            have o5 : v5.ownsRow v4.heap.size 98 5 (.slice (some ⟨v4.heap.size, 0, none⟩) 0 0) 0 [] := by rw [hv]; exact own_nil_rows _ _ _
            have hb : Below v4.heap.size v4 v5 := by rw [hv]; exact bal (bself _) _
            have D5 := btr D4 hb
            have s5 : v4.heap.size + 1 ≤ v5.heap.size := by rw [hv]; simp
            clear hv
            have oo0_5 := own_below oo0_4 hb
            have oo1_5 := own_below ho4 hb
            clear hb
            refine hK.out _ _ ⟨kept_cell D5 HB0.out, kept_cell D5 HB1.out, kept_cell D5 HB2.out⟩ (fun hHeld => ?_)
            clear hK K
            refine wpAnyH_ready (rs := [11]) (by kernel_rfl) (by simp) ?_
            refine AllReadyH.cons rfl (fun K hK => ?_) ?_
            · -- 11
              refine step_aps tInstrs rfl _ _ rfl v4.heap.size _ 0 [] rfl o5 _ _ _ rfl (r.below D5).l (one_rows one_insc c.list) (by omega) (by omega) ?_
              intro v' v6 ho hc hn _
              simp only [Nat.zero_add, List.nil_append] at ho
              obtain ⟨p6, t6, rfl⟩ := own_shape ho
              have iv6 : ∀ q, (Value.slice p6 c.list.length t6).ownBlock = some q → q = v4.heap.size ∨ v5.heap.size ≤ q := newor_cases hn rfl
              have iu6 := ho.lt
              have D6 := D5.trans (hc.below w2.heap.size D5.size (fun q hq h => by have e : v4.heap.size = q := Option.some.inj h; have := D5.size; omega))
              have s6 := hc.size
              have oo0_6 := own_keep oo0_5 hc (fun q h h2 => by have e2 : v4.heap.size = q := Option.some.inj h2; have := iv2 q h; have := iu2 q h; omega)
              have oo1_6 := own_keep oo1_5 hc (fun q h h2 => by have e2 : v4.heap.size = q := Option.some.inj h2; have := iv4 q h; have := iu4 q h; omega)
              have ho6 := ho; clear ho hc hn
              refine hK.out _ _ ⟨kept_cell D6 HB0.out, kept_cell D6 HB1.out, kept_cell D6 HB2.out⟩ (fun hHeld => ?_)
              clear hK K
              try simp only [Act.put, List.setIfInBounds_toArray]
              refine take_d (i := 12) (d := 15) (v := ?_) rfl rfl (by kernel_rfl) (by kernel_rfl) (by kernel_rfl) (fun _ _ _ h => h) (Or.inl ⟨by rfl, ?_⟩) (by assumption) ?_
              rotate_left
              · intro W' hSw; (try dsimp only at hSw); obtain ⟨s0, s1, s2⟩ := hSw; go_simp; try with_reducible rfl
              simp only [Act.put]
              have x0 := kept_cell D6 q0
              have y0 := kept_froz D6 (lt_of_cell q0) g0
              have i0 := oo0_6.lt
              have x1 := kept_cell D6 q1
              have y1 := kept_froz D6 (lt_of_cell q1) g1
              have i1 := oo1_6.lt
              have x2 := kept_cell D6 q2
              have y2 := kept_froz D6 (lt_of_cell q2) g2
              have i2 := ho6.lt
              have k1 := lt_of_cell x0
              have m0 := (own_set (own_set (own_set oo0_6 (w.heap.size + 1) 0 (fun h => by have := i0 _ h; omega) (.slice p2 c.vars.length t2)) (w.heap.size + 1) 1 (fun h => by have := i0 _ h; omega) (.slice p4 c.arrays.length t4)) (w.heap.size + 1) 2 (fun h => by have := i0 _ h; omega) (.slice p6 c.list.length t6))
              have n0 := (cell_ne (b := (w.heap.size + 1)) (j := 2) (cell_ne (b := (w.heap.size + 1)) (j := 1) (cell_at _ (w.heap.size + 1) 0 (.slice p2 c.vars.length t2) x0) (by omega) (.slice p4 c.arrays.length t4)) (by omega) (.slice p6 c.list.length t6))
              have m1 := (own_set (own_set (own_set oo1_6 (w.heap.size + 1) 0 (fun h => by have := i1 _ h; omega) (.slice p2 c.vars.length t2)) (w.heap.size + 1) 1 (fun h => by have := i1 _ h; omega) (.slice p4 c.arrays.length t4)) (w.heap.size + 1) 2 (fun h => by have := i1 _ h; omega) (.slice p6 c.list.length t6))
              have n1 := (cell_ne (b := (w.heap.size + 1)) (j := 2) (cell_at _ (w.heap.size + 1) 1 (.slice p4 c.arrays.length t4) (cell_ne (b := (w.heap.size + 1)) (j := 0) x1 (by omega) (.slice p2 c.vars.length t2))) (by omega) (.slice p6 c.list.length t6))
              have m2 := (own_set (own_set (own_set ho6 (w.heap.size + 1) 0 (fun h => by have := i2 _ h; omega) (.slice p2 c.vars.length t2)) (w.heap.size + 1) 1 (fun h => by have := i2 _ h; omega) (.slice p4 c.arrays.length t4)) (w.heap.size + 1) 2 (fun h => by have := i2 _ h; omega) (.slice p6 c.list.length t6))
              have n2 := (cell_at _ (w.heap.size + 1) 2 (.slice p6 c.list.length t6) (cell_ne (b := (w.heap.size + 1)) (j := 1) (cell_ne (b := (w.heap.size + 1)) (j := 0) x2 (by omega) (.slice p2 c.vars.length t2)) (by omega) (.slice p4 c.arrays.length t4)))
              have tt := (bst (bst (bst (btr hb2 D6) (w.heap.size + 1) 0 (by omega) (.slice p2 c.vars.length t2)) (w.heap.size + 1) 1 (by omega) (.slice p4 c.arrays.length t4)) (w.heap.size + 1) 2 (by omega) (.slice p6 c.list.length t6))
              have Z := And.intro (cell_ne (b := (w.heap.size + 1)) (j := 2) (cell_ne (b := (w.heap.size + 1)) (j := 1) (cell_ne (b := (w.heap.size + 1)) (j := 0) (kept_cell D6 HB0.out) (by omega) (.slice p2 c.vars.length t2)) (by omega) (.slice p4 c.arrays.length t4)) (by omega) (.slice p6 c.list.length t6)) (And.intro (cell_ne (b := (w.heap.size + 1)) (j := 2) (cell_ne (b := (w.heap.size + 1)) (j := 1) (cell_ne (b := (w.heap.size + 1)) (j := 0) (kept_cell D6 HB1.out) (by omega) (.slice p2 c.vars.length t2)) (by omega) (.slice p4 c.arrays.length t4)) (by omega) (.slice p6 c.list.length t6)) (cell_ne (b := (w.heap.size + 1)) (j := 2) (cell_ne (b := (w.heap.size + 1)) (j := 1) (cell_ne (b := (w.heap.size + 1)) (j := 0) (kept_cell D6 HB2.out) (by omega) (.slice p2 c.vars.length t2)) (by omega) (.slice p4 c.arrays.length t4)) (by omega) (.slice p6 c.list.length t6)))
              refine wpAnyH_ready (rs := [13]) (by kernel_rfl) (by simp) ?_
              refine AllReadyH.cons rfl (fun K hK => ?_) AllReadyH.nil
              go_simp
              refine hK.out _ _ Z (fun hHeld => ?_)
              clear hK K
              refine wpAnyH_done (by kernel_rfl) ?_ _
              clear x0 x1 x2 y0 y1 y2 q0 q1 q2 g0 g1 g2 Z hHeld
              go_wp2
              exact bodyPost_ret (v := .agg #[.slice p2 c.vars.length t2, .slice p4 c.arrays.length t4, .slice p6 c.list.length t6]) (by simp [results, Try.results91, go_sem, n0, n1, n2]) rfl ⟨_, _, _, rfl, ⟨own_mono m0 (by omega), own_mono m1 (by omega), own_mono m2 (by omega), (fun q h h' => by have := iv2 q h; have := iv4 q h'; have := iu2 q h; have := iu4 q h'; omega)⟩, tt⟩
            exact AllReadyH.nil
          exact AllReadyH.nil
        refine AllReadyH.cons rfl (fun K hK => ?_) ?_
        · -- 8
          go_simp
          obtain ⟨v7, hv⟩ : ∃ X, X = World.alloc v3 (.cells #[] 98) := ⟨_, rfl⟩
          rw [← hv]
          have o7 : v7.ownsRow v3.heap.size 98 5 (.slice (some ⟨v3.heap.size, 0, none⟩) 0 0) 0 [] := by rw [hv]; exact own_nil_rows _ _ _
          have hb : Below v3.heap.size v3 v7 := by rw [hv]; exact bal (bself _) _
          have D7 := btr D3 hb
          have s7 : v3.heap.size + 1 ≤ v7.heap.size := by rw [hv]; simp
          clear hv
          have oo0_7 := own_below oo0_3 hb
          have oo1_7 := own_below o3 hb
          clear hb
          refine hK.out _ _ ⟨kept_cell D7 HB0.out, kept_cell D7 HB1.out, kept_cell D7 HB2.out⟩ (fun hHeld => ?_)
          clear hK K
          refine wpAnyH_ready (rs := [7]) (by kernel_rfl) (by simp) ?_
          refine AllReadyH.cons rfl (fun K hK => ?_) ?_
          · -- 7
            refine step_aps tInts rfl _ _ rfl v2.heap.size _ 0 [] rfl oo1_7 _ _ _ rfl (r.below D7).b (one_ints c.arrays) (by omega) (by omega) ?_
            intro v' v8 ho hc hn _
            simp only [Nat.zero_add, List.nil_append] at ho
            obtain ⟨p8, t8, rfl⟩ := own_shape ho
            have iv8 : ∀ q, (Value.slice p8 c.arrays.length t8).ownBlock = some q → q = v2.heap.size ∨ v7.heap.size ≤ q := newor_cases hn rfl
            have iu8 := ho.lt
            have D8 := D7.trans (hc.below w2.heap.size D7.size (fun q hq h => by have e : v2.heap.size = q := Option.some.inj h; have := D7.size; omega))
            have s8 := hc.size
            have oo0_8 := own_keep oo0_7 hc (fun q h h2 => by have e2 : v2.heap.size = q := Option.some.inj h2; have := iv2 q h; have := iu2 q h; omega)
            have oo2_8 := own_keep o7 hc (fun q h h2 => by have e1 : v3.heap.size = q := Option.some.inj h; have e2 : v2.heap.size = q := Option.some.inj h2; omega)
            have ho8 := ho; clear ho hc hn
            refine hK.out _ _ ⟨kept_cell D8 HB0.out, kept_cell D8 HB1.out, kept_cell D8 HB2.out⟩ (fun hHeld => ?_)
            clear hK K
            try simp only [Act.put, List.setIfInBounds_toArray]
            refine wpAnyH_ready (rs := [11]) (by kernel_rfl) (by simp) ?_
            refine AllReadyH.cons rfl (fun K hK => ?_) ?_
            · -- 11
              refine step_aps tInstrs rfl _ _ rfl v3.heap.size _ 0 [] rfl oo2_8 _ _ _ rfl (r.below D8).l (one_rows one_insc c.list) (by omega) (by omega) ?_
              intro v' v9 ho hc hn _
              simp only [Nat.zero_add, List.nil_append] at ho
              obtain ⟨p9, t9, rfl⟩ := own_shape ho
              have iv9 : ∀ q, (Value.slice p9 c.list.length t9).ownBlock = some q → q = v3.heap.size ∨ v8.heap.size ≤ q := newor_cases hn rfl
              have iu9 := ho.lt
              have D9 := D8.trans (hc.below w2.heap.size D8.size (fun q hq h => by have e : v3.heap.size = q := Option.some.inj h; have := D8.size; omega))
              have s9 := hc.size
              have oo0_9 := own_keep oo0_8 hc (fun q h h2 => by have e2 : v3.heap.size = q := Option.some.inj h2; have := iv2 q h; have := iu2 q h; omega)
              have oo1_9 := own_keep ho8 hc (fun q h h2 => by have e2 : v3.heap.size = q := Option.some.inj h2; have := iv8 q h; have := iu8 q h; omega)
              have ho9 := ho; clear ho hc hn
              refine hK.out _ _ ⟨kept_cell D9 HB0.out, kept_cell D9 HB1.out, kept_cell D9 HB2.out⟩ (fun hHeld => ?_)
              clear hK K
              try simp only [Act.put]
              refine take_d (i := 12) (d := 15) (v := ?_) rfl rfl (by kernel_rfl) (by kernel_rfl) (by kernel_rfl) (fun _ _ _ h => h) (Or.inl ⟨by rfl, ?_⟩) (by assumption) ?_
              rotate_left
              · intro W' hSw; (try dsimp only at hSw); obtain ⟨s0, s1, s2⟩ := hSw; go_simp; try with_reducible rfl
              simp only [Act.put]
              have x0 := kept_cell D9 q0
              have y0 := kept_froz D9 (lt_of_cell q0) g0
              have i0 := oo0_9.lt
              have x1 := kept_cell D9 q1
              have y1 := kept_froz D9 (lt_of_cell q1) g1
              have i1 := oo1_9.lt
              have x2 := kept_cell D9 q2
              have y2 := kept_froz D9 (lt_of_cell q2) g2
              have i2 := ho9.lt
              have k1 := lt_of_cell x0
              have m0 := (own_set (own_set (own_set oo0_9 (w.heap.size + 1) 0 (fun h => by have := i0 _ h; omega) (.slice p2 c.vars.length t2)) (w.heap.size + 1) 1 (fun h => by have := i0 _ h; omega) (.slice p8 c.arrays.length t8)) (w.heap.size + 1) 2 (fun h => by have := i0 _ h; omega) (.slice p9 c.list.length t9))
              have n0 := (cell_ne (b := (w.heap.size + 1)) (j := 2) (cell_ne (b := (w.heap.size + 1)) (j := 1) (cell_at _ (w.heap.size + 1) 0 (.slice p2 c.vars.length t2) x0) (by omega) (.slice p8 c.arrays.length t8)) (by omega) (.slice p9 c.list.length t9))
              have m1 := (own_set (own_set (own_set oo1_9 (w.heap.size + 1) 0 (fun h => by have := i1 _ h; omega) (.slice p2 c.vars.length t2)) (w.heap.size + 1) 1 (fun h => by have := i1 _ h; omega) (.slice p8 c.arrays.length t8)) (w.heap.size + 1) 2 (fun h => by have := i1 _ h; omega) (.slice p9 c.list.length t9))
              have n1 := (cell_ne (b := (w.heap.size + 1)) (j := 2) (cell_at _ (w.heap.size + 1) 1 (.slice p8 c.arrays.length t8) (cell_ne (b := (w.heap.size + 1)) (j := 0) x1 (by omega) (.slice p2 c.vars.length t2))) (by omega) (.slice p9 c.list.length t9))
              have m2 := (own_set (own_set (own_set ho9 (w.heap.size + 1) 0 (fun h => by have := i2 _ h; omega) (.slice p2 c.vars.length t2)) (w.heap.size + 1) 1 (fun h => by have := i2 _ h; omega) (.slice p8 c.arrays.length t8)) (w.heap.size + 1) 2 (fun h => by have := i2 _ h; omega) (.slice p9 c.list.length t9))
              have n2 := (cell_at _ (w.heap.size + 1) 2 (.slice p9 c.list.length t9) (cell_ne (b := (w.heap.size + 1)) (j := 1) (cell_ne (b := (w.heap.size + 1)) (j := 0) x2 (by omega) (.slice p2 c.vars.length t2)) (by omega) (.slice p8 c.arrays.length t8)))
              have tt := (bst (bst (bst (btr hb2 D9) (w.heap.size + 1) 0 (by omega) (.slice p2 c.vars.length t2)) (w.heap.size + 1) 1 (by omega) (.slice p8 c.arrays.length t8)) (w.heap.size + 1) 2 (by omega) (.slice p9 c.list.length t9))
              have Z := And.intro (cell_ne (b := (w.heap.size + 1)) (j := 2) (cell_ne (b := (w.heap.size + 1)) (j := 1) (cell_ne (b := (w.heap.size + 1)) (j := 0) (kept_cell D9 HB0.out) (by omega) (.slice p2 c.vars.length t2)) (by omega) (.slice p8 c.arrays.length t8)) (by omega) (.slice p9 c.list.length t9)) (And.intro (cell_ne (b := (w.heap.size + 1)) (j := 2) (cell_ne (b := (w.heap.size + 1)) (j := 1) (cell_ne (b := (w.heap.size + 1)) (j := 0) (kept_cell D9 HB1.out) (by omega) (.slice p2 c.vars.length t2)) (by omega) (.slice p8 c.arrays.length t8)) (by omega) (.slice p9 c.list.length t9)) (cell_ne (b := (w.heap.size + 1)) (j := 2) (cell_ne (b := (w.heap.size + 1)) (j := 1) (cell_ne (b := (w.heap.size + 1)) (j := 0) (kept_cell D9 HB2.out) (by omega) (.slice p2 c.vars.length t2)) (by omega) (.slice p8 c.arrays.length t8)) (by omega) (.slice p9 c.list.length t9)))
              refine wpAnyH_ready (rs := [13]) (by kernel_rfl) (by simp) ?_
              refine AllReadyH.cons rfl (fun K hK => ?_) AllReadyH.nil
              go_simp
              refine hK.out _ _ Z (fun hHeld => ?_)
              clear hK K
              refine wpAnyH_done (by kernel_rfl) ?_ _
              clear x0 x1 x2 y0 y1 y2 q0 q1 q2 g0 g1 g2 Z hHeld
              go_wp2
              exact bodyPost_ret (v := .agg #[.slice p2 c.vars.length t2, .slice p8 c.arrays.length t8, .slice p9 c.list.length t9]) (by simp [results, Try.results91, go_sem, n0, n1, n2]) rfl ⟨_, _, _, rfl, ⟨own_mono m0 (by omega), own_mono m1 (by omega), own_mono m2 (by omega), (fun q h h' => by have := iv2 q h; have := iv8 q h'; have := iu2 q h; have := iu8 q h'; omega)⟩, tt⟩
            exact AllReadyH.nil
          exact AllReadyH.nil
        exact AllReadyH.nil
      refine AllReadyH.cons rfl (fun K hK => ?_) ?_
      · -- 8
        go_simp
        obtain ⟨v10, hv⟩ : ∃ X, X = World.alloc v2 (.cells #[] 98) := ⟨_, rfl⟩
        rw [← hv]
        have o10 : v10.ownsRow v2.heap.size 98 5 (.slice (some ⟨v2.heap.size, 0, none⟩) 0 0) 0 [] := by rw [hv]; exact own_nil_rows _ _ _
        have hb : Below v2.heap.size v2 v10 := by rw [hv]; exact bal (bself _) _
        have D10 := btr D2 hb
        have s10 : v2.heap.size + 1 ≤ v10.heap.size := by rw [hv]; simp
        clear hv
        have oo0_10 := own_below ho2 hb
        clear hb
        refine hK.out _ _ ⟨kept_cell D10 HB0.out, kept_cell D10 HB1.out, kept_cell D10 HB2.out⟩ (fun hHeld => ?_)
        clear hK K
        refine wpAnyH_ready (rs := [4]) (by kernel_rfl) (by simp) ?_
        refine AllReadyH.cons rfl (fun K hK => ?_) ?_
        · -- 4
          go_simp
          obtain ⟨v11, hv⟩ : ∃ X, X = World.alloc v10 (.cells #[] 3) := ⟨_, rfl⟩
          rw [← hv]
          have o11 : v11.ownsRow v10.heap.size 3 1 (.slice (some ⟨v10.heap.size, 0, none⟩) 0 0) 0 [] := by rw [hv]; exact own_nil_rows _ _ _
          have hb : Below v10.heap.size v10 v11 := by rw [hv]; exact bal (bself _) _
          have D11 := btr D10 hb
          have s11 : v10.heap.size + 1 ≤ v11.heap.size := by rw [hv]; simp
          clear hv
          have oo0_11 := own_below oo0_10 hb
          have oo2_11 := own_below o10 hb
          clear hb
          refine hK.out _ _ ⟨kept_cell D11 HB0.out, kept_cell D11 HB1.out, kept_cell D11 HB2.out⟩ (fun hHeld => ?_)
          clear hK K
          refine wpAnyH_ready (rs := [7]) (by kernel_rfl) (by simp) ?_
          refine AllReadyH.cons rfl (fun K hK => ?_) ?_
          · -- 7
            refine step_aps tInts rfl _ _ rfl v10.heap.size _ 0 [] rfl o11 _ _ _ rfl (r.below D11).b (one_ints c.arrays) (by omega) (by omega) ?_
            intro v' v12 ho hc hn _
            simp only [Nat.zero_add, List.nil_append] at ho
            obtain ⟨p12, t12, rfl⟩ := own_shape ho
            have iv12 : ∀ q, (Value.slice p12 c.arrays.length t12).ownBlock = some q → q = v10.heap.size ∨ v11.heap.size ≤ q := newor_cases hn rfl
            have iu12 := ho.lt
            have D12 := D11.trans (hc.below w2.heap.size D11.size (fun q hq h => by have e : v10.heap.size = q := Option.some.inj h; have := D11.size; omega))
            have s12 := hc.size
            have oo0_12 := own_keep oo0_11 hc (fun q h h2 => by have e2 : v10.heap.size = q := Option.some.inj h2; have := iv2 q h; have := iu2 q h; omega)
            have oo2_12 := own_keep oo2_11 hc (fun q h h2 => by have e1 : v2.heap.size = q := Option.some.inj h; have e2 : v10.heap.size = q := Option.some.inj h2; omega)
            have ho12 := ho; clear ho hc hn
            refine hK.out _ _ ⟨kept_cell D12 HB0.out, kept_cell D12 HB1.out, kept_cell D12 HB2.out⟩ (fun hHeld => ?_)
            clear hK K
            try simp only [Act.put, List.setIfInBounds_toArray]
            refine wpAnyH_ready (rs := [11]) (by kernel_rfl) (by simp) ?_
            refine AllReadyH.cons rfl (fun K hK => ?_) ?_
            · -- 11
              refine step_aps tInstrs rfl _ _ rfl v2.heap.size _ 0 [] rfl oo2_12 _ _ _ rfl (r.below D12).l (one_rows one_insc c.list) (by omega) (by omega) ?_
              intro v' v13 ho hc hn _
              simp only [Nat.zero_add, List.nil_append] at ho
              obtain ⟨p13, t13, rfl⟩ := own_shape ho
              have iv13 : ∀ q, (Value.slice p13 c.list.length t13).ownBlock = some q → q = v2.heap.size ∨ v12.heap.size ≤ q := newor_cases hn rfl
              have iu13 := ho.lt
              have D13 := D12.trans (hc.below w2.heap.size D12.size (fun q hq h => by have e : v2.heap.size = q := Option.some.inj h; have := D12.size; omega))
              have s13 := hc.size
              have oo0_13 := own_keep oo0_12 hc (fun q h h2 => by have e2 : v2.heap.size = q := Option.some.inj h2; have := iv2 q h; have := iu2 q h; omega)
              have oo1_13 := own_keep ho12 hc (fun q h h2 => by have e2 : v2.heap.size = q := Option.some.inj h2; have := iv12 q h; have := iu12 q h; omega)
              have ho13 := ho; clear ho hc hn
              refine hK.out _ _ ⟨kept_cell D13 HB0.out, kept_cell D13 HB1.out, kept_cell D13 HB2.out⟩ (fun hHeld => ?_)
              clear hK K
              try simp only [Act.put]
              refine take_d (i := 12) (d := 15) (v := ?_) rfl rfl (by kernel_rfl) (by kernel_rfl) (by kernel_rfl) (fun _ _ _ h => h) (Or.inl ⟨by rfl, ?_⟩) (by assumption) ?_
              rotate_left
              · intro W' hSw; (try dsimp only at hSw); obtain ⟨s0, s1, s2⟩ := hSw; go_simp; try with_reducible rfl
              simp only [Act.put]
              have x0 := kept_cell D13 q0
              have y0 := kept_froz D13 (lt_of_cell q0) g0
              have i0 := oo0_13.lt
              have x1 := kept_cell D13 q1
              have y1 := kept_froz D13 (lt_of_cell q1) g1
              have i1 := oo1_13.lt
              have x2 := kept_cell D13 q2
              have y2 := kept_froz D13 (lt_of_cell q2) g2
              have i2 := ho13.lt
              have k1 := lt_of_cell x0
              have m0 := (own_set (own_set (own_set oo0_13 (w.heap.size + 1) 0 (fun h => by have := i0 _ h; omega) (.slice p2 c.vars.length t2)) (w.heap.size + 1) 1 (fun h => by have := i0 _ h; omega) (.slice p12 c.arrays.length t12)) (w.heap.size + 1) 2 (fun h => by have := i0 _ h; omega) (.slice p13 c.list.length t13))
              have n0 := (cell_ne (b := (w.heap.size + 1)) (j := 2) (cell_ne (b := (w.heap.size + 1)) (j := 1) (cell_at _ (w.heap.size + 1) 0 (.slice p2 c.vars.length t2) x0) (by omega) (.slice p12 c.arrays.length t12)) (by omega) (.slice p13 c.list.length t13))
              have m1 := (own_set (own_set (own_set oo1_13 (w.heap.size + 1) 0 (fun h => by have := i1 _ h; omega) (.slice p2 c.vars.length t2)) (w.heap.size + 1) 1 (fun h => by have := i1 _ h; omega) (.slice p12 c.arrays.length t12)) (w.heap.size + 1) 2 (fun h => by have := i1 _ h; omega) (.slice p13 c.list.length t13))
              have n1 := (cell_ne (b := (w.heap.size + 1)) (j := 2) (cell_at _ (w.heap.size + 1) 1 (.slice p12 c.arrays.length t12) (cell_ne (b := (w.heap.size + 1)) (j := 0) x1 (by omega) (.slice p2 c.vars.length t2))) (by omega) (.slice p13 c.list.length t13))
              have m2 := (own_set (own_set (own_set ho13 (w.heap.size + 1) 0 (fun h => by have := i2 _ h; omega) (.slice p2 c.vars.length t2)) (w.heap.size + 1) 1 (fun h => by have := i2 _ h; omega) (.slice p12 c.arrays.length t12)) (w.heap.size + 1) 2 (fun h => by have := i2 _ h; omega) (.slice p13 c.list.length t13))
              have n2 := (cell_at _ (w.heap.size + 1) 2 (.slice p13 c.list.length t13) (cell_ne (b := (w.heap.size + 1)) (j := 1) (cell_ne (b := (w.heap.size + 1)) (j := 0) x2 (by omega) (.slice p2 c.vars.length t2)) (by omega) (.slice p12 c.arrays.length t12)))
              have tt := (bst (bst (bst (btr hb2 D13) (w.heap.size + 1) 0 (by omega) (.slice p2 c.vars.length t2)) (w.heap.size + 1) 1 (by omega) (.slice p12 c.arrays.length t12)) (w.heap.size + 1) 2 (by omega) (.slice p13 c.list.length t13))
              have Z := And.intro (cell_ne (b := (w.heap.size + 1)) (j := 2) (cell_ne (b := (w.heap.size + 1)) (j := 1) (cell_ne (b := (w.heap.size + 1)) (j := 0) (kept_cell D13 HB0.out) (by omega) (.slice p2 c.vars.length t2)) (by omega) (.slice p12 c.arrays.length t12)) (by omega) (.slice p13 c.list.length t13)) (And.intro (cell_ne (b := (w.heap.size + 1)) (j := 2) (cell_ne (b := (w.heap.size + 1)) (j := 1) (cell_ne (b := (w.heap.size + 1)) (j := 0) (kept_cell D13 HB1.out) (by omega) (.slice p2 c.vars.length t2)) (by omega) (.slice p12 c.arrays.length t12)) (by omega) (.slice p13 c.list.length t13)) (cell_ne (b := (w.heap.size + 1)) (j := 2) (cell_ne (b := (w.heap.size + 1)) (j := 1) (cell_ne (b := (w.heap.size + 1)) (j := 0) (kept_cell D13 HB2.out) (by omega) (.slice p2 c.vars.length t2)) (by omega) (.slice p12 c.arrays.length t12)) (by omega) (.slice p13 c.list.length t13)))
              refine wpAnyH_ready (rs := [13]) (by kernel_rfl) (by simp) ?_
              refine AllReadyH.cons rfl (fun K hK => ?_) AllReadyH.nil
              go_simp
              refine hK.out _ _ Z (fun hHeld => ?_)
              clear hK K
              refine wpAnyH_done (by kernel_rfl) ?_ _
              clear x0 x1 x2 y0 y1 y2 q0 q1 q2 g0 g1 g2 Z hHeld
              go_wp2
              exact bodyPost_ret (v := .agg #[.slice p2 c.vars.length t2, .slice p12 c.arrays.length t12, .slice p13 c.list.length t13]) (by simp [results, Try.results91, go_sem, n0, n1, n2]) rfl ⟨_, _, _, rfl, ⟨own_mono m0 (by omega), own_mono m1 (by omega), own_mono m2 (by omega), (fun q h h' => by have := iv2 q h; have := iv12 q h'; have := iu2 q h; have := iu12 q h'; omega)⟩, tt⟩
            exact AllReadyH.nil
          exact AllReadyH.nil
        exact AllReadyH.nil
      exact AllReadyH.nil
    refine AllReadyH.cons rfl (fun K hK => ?_) ?_
    · -- 4
      go_simp
      obtain ⟨v14, hv⟩ : ∃ X, X = World.alloc v1 (.cells #[] 3) := ⟨_, rfl⟩
      rw [← hv]
      have o14 : v14.ownsRow v1.heap.size 3 1 (.slice (some ⟨v1.heap.size, 0, none⟩) 0 0) 0 [] := by rw [hv]; exact own_nil_rows _ _ _
      have hb : Below v1.heap.size v1 v14 := by rw [hv]; exact bal (bself _) _
      have D14 := btr D1 hb
      have s14 : v1.heap.size + 1 ≤ v14.heap.size := by rw [hv]; simp
      clear hv
      have oo0_14 := own_below o1 hb
      clear hb
      refine hK.out _ _ ⟨kept_cell D14 HB0.out, kept_cell D14 HB1.out, kept_cell D14 HB2.out⟩ (fun hHeld => ?_)
      clear hK K
      refine wpAnyH_ready (rs := [3, 8]) (by kernel_rfl) (by simp) ?_
      refine AllReadyH.cons rfl (fun K hK => ?_) ?_
      · -- 3
        refine step_aps tInts rfl _ _ rfl wd.heap.size _ 0 [] rfl oo0_14 _ _ _ rfl (r.below D14).a (one_ints c.vars) (by omega) (by omega) ?_
        intro v' v15 ho hc hn _
        simp only [Nat.zero_add, List.nil_append] at ho
        obtain ⟨p15, t15, rfl⟩ := own_shape ho
        have iv15 : ∀ q, (Value.slice p15 c.vars.length t15).ownBlock = some q → q = wd.heap.size ∨ v14.heap.size ≤ q := newor_cases hn rfl
        have iu15 := ho.lt
        have D15 := D14.trans (hc.below w2.heap.size D14.size (fun q hq h => by have e : wd.heap.size = q := Option.some.inj h; have := D14.size; omega))
        have s15 := hc.size
        have oo1_15 := own_keep o14 hc (fun q h h2 => by have e1 : v1.heap.size = q := Option.some.inj h; have e2 : wd.heap.size = q := Option.some.inj h2; omega)
        have ho15 := ho; clear ho hc hn
        refine hK.out _ _ ⟨kept_cell D15 HB0.out, kept_cell D15 HB1.out, kept_cell D15 HB2.out⟩ (fun hHeld => ?_)
        clear hK K
        try simp only [Act.put, List.setIfInBounds_toArray]
        refine wpAnyH_ready (rs := [7, 8]) (by kernel_rfl) (by simp) ?_
        refine AllReadyH.cons rfl (fun K hK => ?_) ?_
        · -- 7
          refine step_aps tInts rfl _ _ rfl v1.heap.size _ 0 [] rfl oo1_15 _ _ _ rfl (r.below D15).b (one_ints c.arrays) (by omega) (by omega) ?_
          intro v' v16 ho hc hn _
          simp only [Nat.zero_add, List.nil_append] at ho
          obtain ⟨p16, t16, rfl⟩ := own_shape ho
          have iv16 : ∀ q, (Value.slice p16 c.arrays.length t16).ownBlock = some q → q = v1.heap.size ∨ v15.heap.size ≤ q := newor_cases hn rfl
          have iu16 := ho.lt
          have D16 := D15.trans (hc.below w2.heap.size D15.size (fun q hq h => by have e : v1.heap.size = q := Option.some.inj h; have := D15.size; omega))
          have s16 := hc.size
          have oo0_16 := own_keep ho15 hc (fun q h h2 => by have e2 : v1.heap.size = q := Option.some.inj h2; have := iv15 q h; have := iu15 q h; omega)
          have ho16 := ho; clear ho hc hn
          refine hK.out _ _ ⟨kept_cell D16 HB0.out, kept_cell D16 HB1.out, kept_cell D16 HB2.out⟩ (fun hHeld => ?_)
          clear hK K
          try simp only [Act.put]
          refine wpAnyH_ready (rs := [8]) (by kernel_rfl) (by simp) ?_
          refine AllReadyH.cons rfl (fun K hK => ?_) ?_
          · -- 8
            go_simp
            obtain ⟨v17, hv⟩ : ∃ X, X = World.alloc v16 (.cells #[] 98) := ⟨_, rfl⟩
            rw [← hv]
            have o17 : v17.ownsRow v16.heap.size 98 5 (.slice (some ⟨v16.heap.size, 0, none⟩) 0 0) 0 [] := by rw [hv]; exact own_nil_rows _ _ _
            have hb : Below v16.heap.size v16 v17 := by rw [hv]; exact bal (bself _) _
            have D17 := btr D16 hb
            have s17 : v16.heap.size + 1 ≤ v17.heap.size := by rw [hv]; simp
            clear hv
            have oo0_17 := own_below oo0_16 hb
            have oo1_17 := own_below ho16 hb
            clear hb
            refine hK.out _ _ ⟨kept_cell D17 HB0.out, kept_cell D17 HB1.out, kept_cell D17 HB2.out⟩ (fun hHeld => ?_)
            clear hK K
            refine wpAnyH_ready (rs := [11]) (by kernel_rfl) (by simp) ?_
            refine AllReadyH.cons rfl (fun K hK => ?_) ?_
            · -- 11
              refine step_aps tInstrs rfl _ _ rfl v16.heap.size _ 0 [] rfl o17 _ _ _ rfl (r.below D17).l (one_rows one_insc c.list) (by omega) (by omega) ?_
              intro v' v18 ho hc hn _
              simp only [Nat.zero_add, List.nil_append] at ho
              obtain ⟨p18, t18, rfl⟩ := own_shape ho
              have iv18 : ∀ q, (Value.slice p18 c.list.length t18).ownBlock = some q → q = v16.heap.size ∨ v17.heap.size ≤ q := newor_cases hn rfl
              have iu18 := ho.lt
              have D18 := D17.trans (hc.below w2.heap.size D17.size (fun q hq h => by have e : v16.heap.size = q := Option.some.inj h; have := D17.size; omega))
              have s18 := hc.size
              have oo0_18 := own_keep oo0_17 hc (fun q h h2 => by have e2 : v16.heap.size = q := Option.some.inj h2; have := iv15 q h; have := iu15 q h; omega)
              have oo1_18 := own_keep oo1_17 hc (fun q h h2 => by have e2 : v16.heap.size = q := Option.some.inj h2; have := iv16 q h; have := iu16 q h; omega)
              have ho18 := ho; clear ho hc hn
              refine hK.out _ _ ⟨kept_cell D18 HB0.out, kept_cell D18 HB1.out, kept_cell D18 HB2.out⟩ (fun hHeld => ?_)
              clear hK K
              try simp only [Act.put, List.setIfInBounds_toArray]
              refine take_d (i := 12) (d := 15) (v := ?_) rfl rfl (by kernel_rfl) (by kernel_rfl) (by kernel_rfl) (fun _ _ _ h => h) (Or.inl ⟨by rfl, ?_⟩) (by assumption) ?_
              rotate_left
              · intro W' hSw; (try dsimp only at hSw); obtain ⟨s0, s1, s2⟩ := hSw; go_simp; try with_reducible rfl
              simp only [Act.put]
              have x0 := kept_cell D18 q0
              have y0 := kept_froz D18 (lt_of_cell q0) g0
              have i0 := oo0_18.lt
              have x1 := kept_cell D18 q1
              have y1 := kept_froz D18 (lt_of_cell q1) g1
              have i1 := oo1_18.lt
              have x2 := kept_cell D18 q2
              have y2 := kept_froz D18 (lt_of_cell q2) g2
              have i2 := ho18.lt
              have k1 := lt_of_cell x0
              have m0 := (own_set (own_set (own_set oo0_18 (w.heap.size + 1) 0 (fun h => by have := i0 _ h; omega) (.slice p15 c.vars.length t15)) (w.heap.size + 1) 1 (fun h => by have := i0 _ h; omega) (.slice p16 c.arrays.length t16)) (w.heap.size + 1) 2 (fun h => by have := i0 _ h; omega) (.slice p18 c.list.length t18))
              have n0 := (cell_ne (b := (w.heap.size + 1)) (j := 2) (cell_ne (b := (w.heap.size + 1)) (j := 1) (cell_at _ (w.heap.size + 1) 0 (.slice p15 c.vars.length t15) x0) (by omega) (.slice p16 c.arrays.length t16)) (by omega) (.slice p18 c.list.length t18))
              have m1 := (own_set (own_set (own_set oo1_18 (w.heap.size + 1) 0 (fun h => by have := i1 _ h; omega) (.slice p15 c.vars.length t15)) (w.heap.size + 1) 1 (fun h => by have := i1 _ h; omega) (.slice p16 c.arrays.length t16)) (w.heap.size + 1) 2 (fun h => by have := i1 _ h; omega) (.slice p18 c.list.length t18))
              have n1 := (cell_ne (b := (w.heap.size + 1)) (j := 2) (cell_at _ (w.heap.size + 1) 1 (.slice p16 c.arrays.length t16) (cell_ne (b := (w.heap.size + 1)) (j := 0) x1 (by omega) (.slice p15 c.vars.length t15))) (by omega) (.slice p18 c.list.length t18))
              have m2 := (own_set (own_set (own_set ho18 (w.heap.size + 1) 0 (fun h => by have := i2 _ h; omega) (.slice p15 c.vars.length t15)) (w.heap.size + 1) 1 (fun h => by have := i2 _ h; omega) (.slice p16 c.arrays.length t16)) (w.heap.size + 1) 2 (fun h => by have := i2 _ h; omega) (.slice p18 c.list.length t18))
              have n2 := (cell_at _ (w.heap.size + 1) 2 (.slice p18 c.list.length t18) (cell_ne (b := (w.heap.size + 1)) (j := 1) (cell_ne (b := (w.heap.size + 1)) (j := 0) x2 (by omega) (.slice p15 c.vars.length t15)) (by omega) (.slice p16 c.arrays.length t16)))
              have tt := (bst (bst (bst (btr hb2 D18) (w.heap.size + 1) 0 (by omega) (.slice p15 c.vars.length t15)) (w.heap.size + 1) 1 (by omega) (.slice p16 c.arrays.length t16)) (w.heap.size + 1) 2 (by omega) (.slice p18 c.list.length t18))
              have Z := And.intro (cell_ne (b := (w.heap.size + 1)) (j := 2) (cell_ne (b := (w.heap.size + 1)) (j := 1) (cell_ne (b := (w.heap.size + 1)) (j := 0) (kept_cell D18 HB0.out) (by omega) (.slice p15 c.vars.length t15)) (by omega) (.slice p16 c.arrays.length t16)) (by omega) (.slice p18 c.list.length t18)) (And.intro (cell_ne (b := (w.heap.size + 1)) (j := 2) (cell_ne (b := (w.heap.size + 1)) (j := 1) (cell_ne (b := (w.heap.size + 1)) (j := 0) (kept_cell D18 HB1.out) (by omega) (.slice p15 c.vars.length t15)) (by omega) (.slice p16 c.arrays.length t16)) (by omega) (.slice p18 c.list.length t18)) (cell_ne (b := (w.heap.size + 1)) (j := 2) (cell_ne (b := (w.heap.size + 1)) (j := 1) (cell_ne (b := (w.heap.size + 1)) (j := 0) (kept_cell D18 HB2.out) (by omega) (.slice p15 c.vars.length t15)) (by omega) (.slice p16 c.arrays.length t16)) (by omega) (.slice p18 c.list.length t18)))
              refine wpAnyH_ready (rs := [13]) (by kernel_rfl) (by simp) ?_
              refine AllReadyH.cons rfl (fun K hK => ?_) AllReadyH.nil
              go_simp
              refine hK.out _ _ Z (fun hHeld => ?_)
              clear hK K
              refine wpAnyH_done (by kernel_rfl) ?_ _
              clear x0 x1 x2 y0 y1 y2 q0 q1 q2 g0 g1 g2 Z hHeld
              go_wp2
              exact bodyPost_ret (v := .agg #[.slice p15 c.vars.length t15, .slice p16 c.arrays.length t16, .slice p18 c.list.length t18]) (by simp [results, Try.results91, go_sem, n0, n1, n2]) rfl ⟨_, _, _, rfl, ⟨own_mono m0 (by omega), own_mono m1 (by omega), own_mono m2 (by omega), (fun q h h' => by have := iv15 q h; have := iv16 q h'; have := iu15 q h; have := iu16 q h'; omega)⟩, tt⟩
            exact AllReadyH.nil
          exact AllReadyH.nil
        refine AllReadyH.cons rfl (fun K hK => ?_) ?_
        · -- 8
          go_simp
          obtain ⟨v19, hv⟩ : ∃ X, X = World.alloc v15 (.cells #[] 98) := ⟨_, rfl⟩
          rw [← hv]
          have o19 : v19.ownsRow v15.heap.size 98 5 (.slice (some ⟨v15.heap.size, 0, none⟩) 0 0) 0 [] := by rw [hv]; exact own_nil_rows _ _ _
          have hb : Below v15.heap.size v15 v19 := by rw [hv]; exact bal (bself _) _
          have D19 := btr D15 hb
          have s19 : v15.heap.size + 1 ≤ v19.heap.size := by rw [hv]; simp
          clear hv
          have oo0_19 := own_below ho15 hb
          have oo1_19 := own_below oo1_15 hb
          clear hb
          refine hK.out _ _ ⟨kept_cell D19 HB0.out, kept_cell D19 HB1.out, kept_cell D19 HB2.out⟩ (fun hHeld => ?_)
          clear hK K
          refine wpAnyH_ready (rs := [7]) (by kernel_rfl) (by simp) ?_
          refine AllReadyH.cons rfl (fun K hK => ?_) ?_
          · -- 7
            refine step_aps tInts rfl _ _ rfl v1.heap.size _ 0 [] rfl oo1_19 _ _ _ rfl (r.below D19).b (one_ints c.arrays) (by omega) (by omega) ?_
            intro v' v20 ho hc hn _
            simp only [Nat.zero_add, List.nil_append] at ho
            obtain ⟨p20, t20, rfl⟩ := own_shape ho
            have iv20 : ∀ q, (Value.slice p20 c.arrays.length t20).ownBlock = some q → q = v1.heap.size ∨ v19.heap.size ≤ q := newor_cases hn rfl
            have iu20 := ho.lt
            have D20 := D19.trans (hc.below w2.heap.size D19.size (fun q hq h => by have e : v1.heap.size = q := Option.some.inj h; have := D19.size; omega))
            have s20 := hc.size
            have oo0_20 := own_keep oo0_19 hc (fun q h h2 => by have e2 : v1.heap.size = q := Option.some.inj h2; have := iv15 q h; have := iu15 q h; omega)
            have oo2_20 := own_keep o19 hc (fun q h h2 => by have e1 : v15.heap.size = q := Option.some.inj h; have e2 : v1.heap.size = q := Option.some.inj h2; omega)
            have ho20 := ho; clear ho hc hn
            refine hK.out _ _ ⟨kept_cell D20 HB0.out, kept_cell D20 HB1.out, kept_cell D20 HB2.out⟩ (fun hHeld => ?_)
            clear hK K
            try simp only [Act.put, List.setIfInBounds_toArray]
            refine wpAnyH_ready (rs := [11]) (by kernel_rfl) (by simp) ?_
            refine AllReadyH.cons rfl (fun K hK => ?_) ?_
            · -- 11
              refine step_aps tInstrs rfl _ _ rfl v15.heap.size _ 0 [] rfl oo2_20 _ _ _ rfl (r.below D20).l (one_rows one_insc c.list) (by omega) (by omega) ?_
              intro v' v21 ho hc hn _
              simp only [Nat.zero_add, List.nil_append] at ho
              obtain ⟨p21, t21, rfl⟩ := own_shape ho
              have iv21 : ∀ q, (Value.slice p21 c.list.length t21).ownBlock = some q → q = v15.heap.size ∨ v20.heap.size ≤ q := newor_cases hn rfl
              have iu21 := ho.lt
              have D21 := D20.trans (hc.below w2.heap.size D20.size (fun q hq h => by have e : v15.heap.size = q := Option.some.inj h; have := D20.size; omega))
              have s21 := hc.size
              have oo0_21 := own_keep oo0_20 hc (fun q h h2 => by have e2 : v15.heap.size = q := Option.some.inj h2; have := iv15 q h; have := iu15 q h; omega)
              have oo1_21 := own_keep ho20 hc (fun q h h2 => by have e2 : v15.heap.size = q := Option.some.inj h2; have := iv20 q h; have := iu20 q h; omega)
              have ho21 := ho; clear ho hc hn
              refine hK.out _ _ ⟨kept_cell D21 HB0.out, kept_cell D21 HB1.out, kept_cell D21 HB2.out⟩ (fun hHeld => ?_)
              clear hK K
              try simp only [Act.put]
              refine take_d (i := 12) (d := 15) (v := ?_) rfl rfl (by kernel_rfl) (by kernel_rfl) (by kernel_rfl) (fun _ _ _ h => h) (Or.inl ⟨by rfl, ?_⟩) (by assumption) ?_
              rotate_left
              · intro W' hSw; (try dsimp only at hSw); obtain ⟨s0, s1, s2⟩ := hSw; go_simp; try with_reducible rfl
              simp only [Act.put]
              have x0 := kept_cell D21 q0
              have y0 := kept_froz D21 (lt_of_cell q0) g0
              have i0 := oo0_21.lt
              have x1 := kept_cell D21 q1
              have y1 := kept_froz D21 (lt_of_cell q1) g1
              have i1 := oo1_21.lt
              have x2 := kept_cell D21 q2
              have y2 := kept_froz D21 (lt_of_cell q2) g2
              have i2 := ho21.lt
              have k1 := lt_of_cell x0
              have m0 := (own_set (own_set (own_set oo0_21 (w.heap.size + 1) 0 (fun h => by have := i0 _ h; omega) (.slice p15 c.vars.length t15)) (w.heap.size + 1) 1 (fun h => by have := i0 _ h; omega) (.slice p20 c.arrays.length t20)) (w.heap.size + 1) 2 (fun h => by have := i0 _ h; omega) (.slice p21 c.list.length t21))
              have n0 := (cell_ne (b := (w.heap.size + 1)) (j := 2) (cell_ne (b := (w.heap.size + 1)) (j := 1) (cell_at _ (w.heap.size + 1) 0 (.slice p15 c.vars.length t15) x0) (by omega) (.slice p20 c.arrays.length t20)) (by omega) (.slice p21 c.list.length t21))
              have m1 := (own_set (own_set (own_set oo1_21 (w.heap.size + 1) 0 (fun h => by have := i1 _ h; omega) (.slice p15 c.vars.length t15)) (w.heap.size + 1) 1 (fun h => by have := i1 _ h; omega) (.slice p20 c.arrays.length t20)) (w.heap.size + 1) 2 (fun h => by have := i1 _ h; omega) (.slice p21 c.list.length t21))
              have n1 := (cell_ne (b := (w.heap.size + 1)) (j := 2) (cell_at _ (w.heap.size + 1) 1 (.slice p20 c.arrays.length t20) (cell_ne (b := (w.heap.size + 1)) (j := 0) x1 (by omega) (.slice p15 c.vars.length t15))) (by omega) (.slice p21 c.list.length t21))
              have m2 := (own_set (own_set (own_set ho21 (w.heap.size + 1) 0 (fun h => by have := i2 _ h; omega) (.slice p15 c.vars.length t15)) (w.heap.size + 1) 1 (fun h => by have := i2 _ h; omega) (.slice p20 c.arrays.length t20)) (w.heap.size + 1) 2 (fun h => by have := i2 _ h; omega) (.slice p21 c.list.length t21))
              have n2 := (cell_at _ (w.heap.size + 1) 2 (.slice p21 c.list.length t21) (cell_ne (b := (w.heap.size + 1)) (j := 1) (cell_ne (b := (w.heap.size + 1)) (j := 0) x2 (by omega) (.slice p15 c.vars.length t15)) (by omega) (.slice p20 c.arrays.length t20)))
              have tt := (bst (bst (bst (btr hb2 D21) (w.heap.size + 1) 0 (by omega) (.slice p15 c.vars.length t15)) (w.heap.size + 1) 1 (by omega) (.slice p20 c.arrays.length t20)) (w.heap.size + 1) 2 (by omega) (.slice p21 c.list.length t21))
              have Z := And.intro (cell_ne (b := (w.heap.size + 1)) (j := 2) (cell_ne (b := (w.heap.size + 1)) (j := 1) (cell_ne (b := (w.heap.size + 1)) (j := 0) (kept_cell D21 HB0.out) (by omega) (.slice p15 c.vars.length t15)) (by omega) (.slice p20 c.arrays.length t20)) (by omega) (.slice p21 c.list.length t21)) (And.intro (cell_ne (b := (w.heap.size + 1)) (j := 2) (cell_ne (b := (w.heap.size + 1)) (j := 1) (cell_ne (b := (w.heap.size + 1)) (j := 0) (kept_cell D21 HB1.out) (by omega) (.slice p15 c.vars.length t15)) (by omega) (.slice p20 c.arrays.length t20)) (by omega) (.slice p21 c.list.length t21)) (cell_ne (b := (w.heap.size + 1)) (j := 2) (cell_ne (b := (w.heap.size + 1)) (j := 1) (cell_ne (b := (w.heap.size + 1)) (j := 0) (kept_cell D21 HB2.out) (by omega) (.slice p15 c.vars.length t15)) (by omega) (.slice p20 c.arrays.length t20)) (by omega) (.slice p21 c.list.length t21)))
              refine wpAnyH_ready (rs := [13]) (by kernel_rfl) (by simp) ?_
              refine AllReadyH.cons rfl (fun K hK => ?_) AllReadyH.nil
              go_simp
              refine hK.out _ _ Z (fun hHeld => ?_)
              clear hK K
              refine wpAnyH_done (by kernel_rfl) ?_ _
              clear x0 x1 x2 y0 y1 y2 q0 q1 q2 g0 g1 g2 Z hHeld
              go_wp2
              exact bodyPost_ret (v := .agg #[.slice p15 c.vars.length t15, .slice p20 c.arrays.length t20, .slice p21 c.list.length t21]) (by simp [results, Try.results91, go_sem, n0, n1, n2]) rfl ⟨_, _, _, rfl, ⟨own_mono m0 (by omega), own_mono m1 (by omega), own_mono m2 (by omega), (fun q h h' => by have := iv15 q h; have := iv20 q h'; have := iu15 q h; have := iu20 q h'; omega)⟩, tt⟩
            exact AllReadyH.nil
          exact AllReadyH.nil
        exact AllReadyH.nil
      refine AllReadyH.cons rfl (fun K hK => ?_) ?_
      · -- 8
        go_simp
        obtain ⟨v22, hv⟩ : ∃ X, X = World.alloc v14 (.cells #[] 98) := ⟨_, rfl⟩
        rw [← hv]
        have o22 : v22.ownsRow v14.heap.size 98 5 (.slice (some ⟨v14.heap.size, 0, none⟩) 0 0) 0 [] := by rw [hv]; exact own_nil_rows _ _ _
        have hb : Below v14.heap.size v14 v22 := by rw [hv]; exact bal (bself _) _
        have D22 := btr D14 hb
        have s22 : v14.heap.size + 1 ≤ v22.heap.size := by rw [hv]; simp
        clear hv
        have oo0_22 := own_below oo0_14 hb
        have oo1_22 := own_below o14 hb
        clear hb
        refine hK.out _ _ ⟨kept_cell D22 HB0.out, kept_cell D22 HB1.out, kept_cell D22 HB2.out⟩ (fun hHeld => ?_)
        clear hK K
        refine wpAnyH_ready (rs := [3]) (by kernel_rfl) (by simp) ?_
        refine AllReadyH.cons rfl (fun K hK => ?_) ?_
        · -- 3
          refine step_aps tInts rfl _ _ rfl wd.heap.size _ 0 [] rfl oo0_22 _ _ _ rfl (r.below D22).a (one_ints c.vars) (by omega) (by omega) ?_
          intro v' v23 ho hc hn _
          simp only [Nat.zero_add, List.nil_append] at ho
          obtain ⟨p23, t23, rfl⟩ := own_shape ho
          have iv23 : ∀ q, (Value.slice p23 c.vars.length t23).ownBlock = some q → q = wd.heap.size ∨ v22.heap.size ≤ q := newor_cases hn rfl
          have iu23 := ho.lt
          have D23 := D22.trans (hc.below w2.heap.size D22.size (fun q hq h => by have e : wd.heap.size = q := Option.some.inj h; have := D22.size; omega))
          have s23 := hc.size
          have oo1_23 := own_keep oo1_22 hc (fun q h h2 => by have e1 : v1.heap.size = q := Option.some.inj h; have e2 : wd.heap.size = q := Option.some.inj h2; omega)
          have oo2_23 := own_keep o22 hc (fun q h h2 => by have e1 : v14.heap.size = q := Option.some.inj h; have e2 : wd.heap.size = q := Option.some.inj h2; omega)
          have ho23 := ho; clear ho hc hn
          refine hK.out _ _ ⟨kept_cell D23 HB0.out, kept_cell D23 HB1.out, kept_cell D23 HB2.out⟩ (fun hHeld => ?_)
          clear hK K
          try simp only [Act.put, List.setIfInBounds_toArray]
          refine wpAnyH_ready (rs := [7]) (by kernel_rfl) (by simp) ?_
          refine AllReadyH.cons rfl (fun K hK => ?_) ?_
          · -- 7
            refine step_aps tInts rfl _ _ rfl v1.heap.size _ 0 [] rfl oo1_23 _ _ _ rfl (r.below D23).b (one_ints c.arrays) (by omega) (by omega) ?_
            intro v' v24 ho hc hn _
            simp only [Nat.zero_add, List.nil_append] at ho
            obtain ⟨p24, t24, rfl⟩ := own_shape ho
            have iv24 : ∀ q, (Value.slice p24 c.arrays.length t24).ownBlock = some q → q = v1.heap.size ∨ v23.heap.size ≤ q := newor_cases hn rfl
            have iu24 := ho.lt
            have D24 := D23.trans (hc.below w2.heap.size D23.size (fun q hq h => by have e : v1.heap.size = q := Option.some.inj h; have := D23.size; omega))
            have s24 := hc.size
            have oo0_24 := own_keep ho23 hc (fun q h h2 => by have e2 : v1.heap.size = q := Option.some.inj h2; have := iv23 q h; have := iu23 q h; omega)
            have oo2_24 := own_keep oo2_23 hc (fun q h h2 => by have e1 : v14.heap.size = q := Option.some.inj h; have e2 : v1.heap.size = q := Option.some.inj h2; omega)
            have ho24 := ho; clear ho hc hn
            refine hK.out _ _ ⟨kept_cell D24 HB0.out, kept_cell D24 HB1.out, kept_cell D24 HB2.out⟩ (fun hHeld => ?_)
            clear hK K
            try simp only [Act.put]
            refine wpAnyH_ready (rs := [11]) (by kernel_rfl) (by simp) ?_
            refine AllReadyH.cons rfl (fun K hK => ?_) ?_
            · -- 11
              refine step_aps tInstrs rfl _ _ rfl v14.heap.size _ 0 [] rfl oo2_24 _ _ _ rfl (r.below D24).l (one_rows one_insc c.list) (by omega) (by omega) ?_
              intro v' v25 ho hc hn _
              simp only [Nat.zero_add, List.nil_append] at ho
              obtain ⟨p25, t25, rfl⟩ := own_shape ho
              have iv25 : ∀ q, (Value.slice p25 c.list.length t25).ownBlock = some q → q = v14.heap.size ∨ v24.heap.size ≤ q := newor_cases hn rfl
              have iu25 := ho.lt
              have D25 := D24.trans (hc.below w2.heap.size D24.size (fun q hq h => by have e : v14.heap.size = q := Option.some.inj h; have := D24.size; omega))
              have s25 := hc.size
              have oo0_25 := own_keep oo0_24 hc (fun q h h2 => by have e2 : v14.heap.size = q := Option.some.inj h2; have := iv23 q h; have := iu23 q h; omega)
              have oo1_25 := own_keep ho24 hc (fun q h h2 => by have e2 : v14.heap.size = q := Option.some.inj h2; have := iv24 q h; have := iu24 q h; omega)
              have ho25 := ho; clear ho hc hn
              refine hK.out _ _ ⟨kept_cell D25 HB0.out, kept_cell D25 HB1.out, kept_cell D25 HB2.out⟩ (fun hHeld => ?_)
              clear hK K
              try simp only [Act.put]
              refine take_d (i := 12) (d := 15) (v := ?_) rfl rfl (by kernel_rfl) (by kernel_rfl) (by kernel_rfl) (fun _ _ _ h => h) (Or.inl ⟨by rfl, ?_⟩) (by assumption) ?_
              rotate_left
              · intro W' hSw; (try dsimp only at hSw); obtain ⟨s0, s1, s2⟩ := hSw; go_simp; try with_reducible rfl
              simp only [Act.put]
              have x0 := kept_cell D25 q0
              have y0 := kept_froz D25 (lt_of_cell q0) g0
              have i0 := oo0_25.lt
              have x1 := kept_cell D25 q1
              have y1 := kept_froz D25 (lt_of_cell q1) g1
              have i1 := oo1_25.lt
              have x2 := kept_cell D25 q2
              have y2 := kept_froz D25 (lt_of_cell q2) g2
              have i2 := ho25.lt
              have k1 := lt_of_cell x0
              have m0 := (own_set (own_set (own_set oo0_25 (w.heap.size + 1) 0 (fun h => by have := i0 _ h; omega) (.slice p23 c.vars.length t23)) (w.heap.size + 1) 1 (fun h => by have := i0 _ h; omega) (.slice p24 c.arrays.length t24)) (w.heap.size + 1) 2 (fun h => by have := i0 _ h; omega) (.slice p25 c.list.length t25))
              have n0 := (cell_ne (b := (w.heap.size + 1)) (j := 2) (cell_ne (b := (w.heap.size + 1)) (j := 1) (cell_at _ (w.heap.size + 1) 0 (.slice p23 c.vars.length t23) x0) (by omega) (.slice p24 c.arrays.length t24)) (by omega) (.slice p25 c.list.length t25))
              have m1 := (own_set (own_set (own_set oo1_25 (w.heap.size + 1) 0 (fun h => by have := i1 _ h; omega) (.slice p23 c.vars.length t23)) (w.heap.size + 1) 1 (fun h => by have := i1 _ h; omega) (.slice p24 c.arrays.length t24)) (w.heap.size + 1) 2 (fun h => by have := i1 _ h; omega) (.slice p25 c.list.length t25))
              have n1 := (cell_ne (b := (w.heap.size + 1)) (j := 2) (cell_at _ (w.heap.size + 1) 1 (.slice p24 c.arrays.length t24) (cell_ne (b := (w.heap.size + 1)) (j := 0) x1 (by omega) (.slice p23 c.vars.length t23))) (by omega) (.slice p25 c.list.length t25))
              have m2 := (own_set (own_set (own_set ho25 (w.heap.size + 1) 0 (fun h => by have := i2 _ h; omega) (.slice p23 c.vars.length t23)) (w.heap.size + 1) 1 (fun h => by have := i2 _ h; omega) (.slice p24 c.arrays.length t24)) (w.heap.size + 1) 2 (fun h => by have := i2 _ h; omega) (.slice p25 c.list.length t25))
              have n2 := (cell_at _ (w.heap.size + 1) 2 (.slice p25 c.list.length t25) (cell_ne (b := (w.heap.size + 1)) (j := 1) (cell_ne (b := (w.heap.size + 1)) (j := 0) x2 (by omega) (.slice p23 c.vars.length t23)) (by omega) (.slice p24 c.arrays.length t24)))
              have tt := (bst (bst (bst (btr hb2 D25) (w.heap.size + 1) 0 (by omega) (.slice p23 c.vars.length t23)) (w.heap.size + 1) 1 (by omega) (.slice p24 c.arrays.length t24)) (w.heap.size + 1) 2 (by omega) (.slice p25 c.list.length t25))
              have Z := And.intro (cell_ne (b := (w.heap.size + 1)) (j := 2) (cell_ne (b := (w.heap.size + 1)) (j := 1) (cell_ne (b := (w.heap.size + 1)) (j := 0) (kept_cell D25 HB0.out) (by omega) (.slice p23 c.vars.length t23)) (by omega) (.slice p24 c.arrays.length t24)) (by omega) (.slice p25 c.list.length t25)) (And.intro (cell_ne (b := (w.heap.size + 1)) (j := 2) (cell_ne (b := (w.heap.size + 1)) (j := 1) (cell_ne (b := (w.heap.size + 1)) (j := 0) (kept_cell D25 HB1.out) (by omega) (.slice p23 c.vars.length t23)) (by omega) (.slice p24 c.arrays.length t24)) (by omega) (.slice p25 c.list.length t25)) (cell_ne (b := (w.heap.size + 1)) (j := 2) (cell_ne (b := (w.heap.size + 1)) (j := 1) (cell_ne (b := (w.heap.size + 1)) (j := 0) (kept_cell D25 HB2.out) (by omega) (.slice p23 c.vars.length t23)) (by omega) (.slice p24 c.arrays.length t24)) (by omega) (.slice p25 c.list.length t25)))
              refine wpAnyH_ready (rs := [13]) (by kernel_rfl) (by simp) ?_
              refine AllReadyH.cons rfl (fun K hK => ?_) AllReadyH.nil
              go_simp
              refine hK.out _ _ Z (fun hHeld => ?_)
              clear hK K
              refine wpAnyH_done (by kernel_rfl) ?_ _
              clear x0 x1 x2 y0 y1 y2 q0 q1 q2 g0 g1 g2 Z hHeld
              go_wp2
              exact bodyPost_ret (v := .agg #[.slice p23 c.vars.length t23, .slice p24 c.arrays.length t24, .slice p25 c.list.length t25]) (by simp [results, Try.results91, go_sem, n0, n1, n2]) rfl ⟨_, _, _, rfl, ⟨own_mono m0 (by omega), own_mono m1 (by omega), own_mono m2 (by omega), (fun q h h' => by have := iv23 q h; have := iv24 q h'; have := iu23 q h; have := iu24 q h'; omega)⟩, tt⟩
            exact AllReadyH.nil
          exact AllReadyH.nil
        exact AllReadyH.nil
      exact AllReadyH.nil
    refine AllReadyH.cons rfl (fun K hK => ?_) ?_
    · -- 8
      go_simp
      obtain ⟨v26, hv⟩ : ∃ X, X = World.alloc v1 (.cells #[] 98) := ⟨_, rfl⟩
      rw [← hv]
      have o26 : v26.ownsRow v1.heap.size 98 5 (.slice (some ⟨v1.heap.size, 0, none⟩) 0 0) 0 [] := by rw [hv]; exact own_nil_rows _ _ _
      have hb : Below v1.heap.size v1 v26 := by rw [hv]; exact bal (bself _) _
      have D26 := btr D1 hb
      have s26 : v1.heap.size + 1 ≤ v26.heap.size := by rw [hv]; simp
      clear hv
      have oo0_26 := own_below o1 hb
      clear hb
      refine hK.out _ _ ⟨kept_cell D26 HB0.out, kept_cell D26 HB1.out, kept_cell D26 HB2.out⟩ (fun hHeld => ?_)
      clear hK K
      refine wpAnyH_ready (rs := [3, 4]) (by kernel_rfl) (by simp) ?_
      refine AllReadyH.cons rfl (fun K hK => ?_) ?_
      · -- 3
        refine step_aps tInts rfl _ _ rfl wd.heap.size _ 0 [] rfl oo0_26 _ _ _ rfl (r.below D26).a (one_ints c.vars) (by omega) (by omega) ?_
        intro v' v27 ho hc hn _
        simp only [Nat.zero_add, List.nil_append] at ho
        obtain ⟨p27, t27, rfl⟩ := own_shape ho
        have iv27 : ∀ q, (Value.slice p27 c.vars.length t27).ownBlock = some q → q = wd.heap.size ∨ v26.heap.size ≤ q := newor_cases hn rfl
        have iu27 := ho.lt
        have D27 := D26.trans (hc.below w2.heap.size D26.size (fun q hq h => by have e : wd.heap.size = q := Option.some.inj h; have := D26.size; omega))
        have s27 := hc.size
        have oo2_27 := own_keep o26 hc (fun q h h2 => by have e1 : v1.heap.size = q := Option.some.inj h; have e2 : wd.heap.size = q := Option.some.inj h2; omega)
        have ho27 := ho; clear ho hc hn
        refine hK.out _ _ ⟨kept_cell D27 HB0.out, kept_cell D27 HB1.out, kept_cell D27 HB2.out⟩ (fun hHeld => ?_)
        clear hK K
        try simp only [Act.put, List.setIfInBounds_toArray]
        refine wpAnyH_ready (rs := [4]) (by kernel_rfl) (by simp) ?_
        refine AllReadyH.cons rfl (fun K hK => ?_) ?_
        · -- 4
          go_simp
          obtain ⟨v28, hv⟩ : ∃ X, X = World.alloc v27 (.cells #[] 3) := ⟨_, rfl⟩
          rw [← hv]
          have o28 : v28.ownsRow v27.heap.size 3 1 (.slice (some ⟨v27.heap.size, 0, none⟩) 0 0) 0 [] := by rw [hv]; exact own_nil_rows _ _ _
          have hb : Below v27.heap.size v27 v28 := by rw [hv]; exact bal (bself _) _
          have D28 := btr D27 hb
          have s28 : v27.heap.size + 1 ≤ v28.heap.size := by rw [hv]; simp
          clear hv
          have oo0_28 := own_below ho27 hb
          have oo2_28 := own_below oo2_27 hb
          clear hb
          refine hK.out _ _ ⟨kept_cell D28 HB0.out, kept_cell D28 HB1.out, kept_cell D28 HB2.out⟩ (fun hHeld => ?_)
          clear hK K
          refine wpAnyH_ready (rs := [7]) (by kernel_rfl) (by simp) ?_
          refine AllReadyH.cons rfl (fun K hK => ?_) ?_
          · -- 7
            refine step_aps tInts rfl _ _ rfl v27.heap.size _ 0 [] rfl o28 _ _ _ rfl (r.below D28).b (one_ints c.arrays) (by omega) (by omega) ?_
            intro v' v29 ho hc hn _
            simp only [Nat.zero_add, List.nil_append] at ho
            obtain ⟨p29, t29, rfl⟩ := own_shape ho
            have iv29 : ∀ q, (Value.slice p29 c.arrays.length t29).ownBlock = some q → q = v27.heap.size ∨ v28.heap.size ≤ q := newor_cases hn rfl
            have iu29 := ho.lt
            have D29 := D28.trans (hc.below w2.heap.size D28.size (fun q hq h => by have e : v27.heap.size = q := Option.some.inj h; have := D28.size; omega))
            have s29 := hc.size
            have oo0_29 := own_keep oo0_28 hc (fun q h h2 => by have e2 : v27.heap.size = q := Option.some.inj h2; have := iv27 q h; have := iu27 q h; omega)
            have oo2_29 := own_keep oo2_28 hc (fun q h h2 => by have e1 : v1.heap.size = q := Option.some.inj h; have e2 : v27.heap.size = q := Option.some.inj h2; omega)
            have ho29 := ho; clear ho hc hn
            refine hK.out _ _ ⟨kept_cell D29 HB0.out, kept_cell D29 HB1.out, kept_cell D29 HB2.out⟩ (fun hHeld => ?_)
            clear hK K
            try simp only [Act.put, List.setIfInBounds_toArray]
            refine wpAnyH_ready (rs := [11]) (by kernel_rfl) (by simp) ?_
            refine AllReadyH.cons rfl (fun K hK => ?_) ?_
            · -- 11
              refine step_aps tInstrs rfl _ _ rfl v1.heap.size _ 0 [] rfl oo2_29 _ _ _ rfl (r.below D29).l (one_rows one_insc c.list) (by omega) (by omega) ?_
              intro v' v30 ho hc hn _
              simp only [Nat.zero_add, List.nil_append] at ho
              obtain ⟨p30, t30, rfl⟩ := own_shape ho
              have iv30 : ∀ q, (Value.slice p30 c.list.length t30).ownBlock = some q → q = v1.heap.size ∨ v29.heap.size ≤ q := newor_cases hn rfl
              have iu30 := ho.lt
              have D30 := D29.trans (hc.below w2.heap.size D29.size (fun q hq h => by have e : v1.heap.size = q := Option.some.inj h; have := D29.size; omega))
              have s30 := hc.size
              have oo0_30 := own_keep oo0_29 hc (fun q h h2 => by have e2 : v1.heap.size = q := Option.some.inj h2; have := iv27 q h; have := iu27 q h; omega)
              have oo1_30 := own_keep ho29 hc (fun q h h2 => by have e2 : v1.heap.size = q := Option.some.inj h2; have := iv29 q h; have := iu29 q h; omega)
              have ho30 := ho; clear ho hc hn
              refine hK.out _ _ ⟨kept_cell D30 HB0.out, kept_cell D30 HB1.out, kept_cell D30 HB2.out⟩ (fun hHeld => ?_)
              clear hK K
              try simp only [Act.put]
              refine take_d (i := 12) (d := 15) (v := ?_) rfl rfl (by kernel_rfl) (by kernel_rfl) (by kernel_rfl) (fun _ _ _ h => h) (Or.inl ⟨by rfl, ?_⟩) (by assumption) ?_
              rotate_left
              · intro W' hSw; (try dsimp only at hSw); obtain ⟨s0, s1, s2⟩ := hSw; go_simp; try with_reducible rfl
              simp only [Act.put]
              have x0 := kept_cell D30 q0
              have y0 := kept_froz D30 (lt_of_cell q0) g0
              have i0 := oo0_30.lt
              have x1 := kept_cell D30 q1
              have y1 := kept_froz D30 (lt_of_cell q1) g1
              have i1 := oo1_30.lt
              have x2 := kept_cell D30 q2
              have y2 := kept_froz D30 (lt_of_cell q2) g2
              have i2 := ho30.lt
              have k1 := lt_of_cell x0
              have m0 := (own_set (own_set (own_set oo0_30 (w.heap.size + 1) 0 (fun h => by have := i0 _ h; omega) (.slice p27 c.vars.length t27)) (w.heap.size + 1) 1 (fun h => by have := i0 _ h; omega) (.slice p29 c.arrays.length t29)) (w.heap.size + 1) 2 (fun h => by have := i0 _ h; omega) (.slice p30 c.list.length t30))
              have n0 := (cell_ne (b := (w.heap.size + 1)) (j := 2) (cell_ne (b := (w.heap.size + 1)) (j := 1) (cell_at _ (w.heap.size + 1) 0 (.slice p27 c.vars.length t27) x0) (by omega) (.slice p29 c.arrays.length t29)) (by omega) (.slice p30 c.list.length t30))
              have m1 := (own_set (own_set (own_set oo1_30 (w.heap.size + 1) 0 (fun h => by have := i1 _ h; omega) (.slice p27 c.vars.length t27)) (w.heap.size + 1) 1 (fun h => by have := i1 _ h; omega) (.slice p29 c.arrays.length t29)) (w.heap.size + 1) 2 (fun h => by have := i1 _ h; omega) (.slice p30 c.list.length t30))
              have n1 := (cell_ne (b := (w.heap.size + 1)) (j := 2) (cell_at _ (w.heap.size + 1) 1 (.slice p29 c.arrays.length t29) (cell_ne (b := (w.heap.size + 1)) (j := 0) x1 (by omega) (.slice p27 c.vars.length t27))) (by omega) (.slice p30 c.list.length t30))
              have m2 := (own_set (own_set (own_set ho30 (w.heap.size + 1) 0 (fun h => by have := i2 _ h; omega) (.slice p27 c.vars.length t27)) (w.heap.size + 1) 1 (fun h => by have := i2 _ h; omega) (.slice p29 c.arrays.length t29)) (w.heap.size + 1) 2 (fun h => by have := i2 _ h; omega) (.slice p30 c.list.length t30))
              have n2 := (cell_at _ (w.heap.size + 1) 2 (.slice p30 c.list.length t30) (cell_ne (b := (w.heap.size + 1)) (j := 1) (cell_ne (b := (w.heap.size + 1)) (j := 0) x2 (by omega) (.slice p27 c.vars.length t27)) (by omega) (.slice p29 c.arrays.length t29)))
              have tt := (bst (bst (bst (btr hb2 D30) (w.heap.size + 1) 0 (by omega) (.slice p27 c.vars.length t27)) (w.heap.size + 1) 1 (by omega) (.slice p29 c.arrays.length t29)) (w.heap.size + 1) 2 (by omega) (.slice p30 c.list.length t30))
              have Z := And.intro (cell_ne (b := (w.heap.size + 1)) (j := 2) (cell_ne (b := (w.heap.size + 1)) (j := 1) (cell_ne (b := (w.heap.size + 1)) (j := 0) (kept_cell D30 HB0.out) (by omega) (.slice p27 c.vars.length t27)) (by omega) (.slice p29 c.arrays.length t29)) (by omega) (.slice p30 c.list.length t30)) (And.intro (cell_ne (b := (w.heap.size + 1)) (j := 2) (cell_ne (b := (w.heap.size + 1)) (j := 1) (cell_ne (b := (w.heap.size + 1)) (j := 0) (kept_cell D30 HB1.out) (by omega) (.slice p27 c.vars.length t27)) (by omega) (.slice p29 c.arrays.length t29)) (by omega) (.slice p30 c.list.length t30)) (cell_ne (b := (w.heap.size + 1)) (j := 2) (cell_ne (b := (w.heap.size + 1)) (j := 1) (cell_ne (b := (w.heap.size + 1)) (j := 0) (kept_cell D30 HB2.out) (by omega) (.slice p27 c.vars.length t27)) (by omega) (.slice p29 c.arrays.length t29)) (by omega) (.slice p30 c.list.length t30)))
              refine wpAnyH_ready (rs := [13]) (by kernel_rfl) (by simp) ?_
              refine AllReadyH.cons rfl (fun K hK => ?_) AllReadyH.nil
              go_simp
              refine hK.out _ _ Z (fun hHeld => ?_)
              clear hK K
              refine wpAnyH_done (by kernel_rfl) ?_ _
              clear x0 x1 x2 y0 y1 y2 q0 q1 q2 g0 g1 g2 Z hHeld
              go_wp2
              exact bodyPost_ret (v := .agg #[.slice p27 c.vars.length t27, .slice p29 c.arrays.length t29, .slice p30 c.list.length t30]) (by simp [results, Try.results91, go_sem, n0, n1, n2]) rfl ⟨_, _, _, rfl, ⟨own_mono m0 (by omega), own_mono m1 (by omega), own_mono m2 (by omega), (fun q h h' => by have := iv27 q h; have := iv29 q h'; have := iu27 q h; have := iu29 q h'; omega)⟩, tt⟩
            exact AllReadyH.nil
          exact AllReadyH.nil
        exact AllReadyH.nil
      refine AllReadyH.cons rfl (fun K hK => ?_) ?_
      · -- 4
        go_simp
        obtain ⟨v31, hv⟩ : ∃ X, X = World.alloc v26 (.cells #[] 3) := ⟨_, rfl⟩
        rw [← hv]
        have o31 : v31.ownsRow v26.heap.size 3 1 (.slice (some ⟨v26.heap.size, 0, none⟩) 0 0) 0 [] := by rw [hv]; exact own_nil_rows _ _ _
        have hb : Below v26.heap.size v26 v31 := by rw [hv]; exact bal (bself _) _
        have D31 := btr D26 hb
        have s31 : v26.heap.size + 1 ≤ v31.heap.size := by rw [hv]; simp
        clear hv
        have oo0_31 := own_below oo0_26 hb
        have oo2_31 := own_below o26 hb
        clear hb
        refine hK.out _ _ ⟨kept_cell D31 HB0.out, kept_cell D31 HB1.out, kept_cell D31 HB2.out⟩ (fun hHeld => ?_)
        clear hK K
        refine wpAnyH_ready (rs := [3]) (by kernel_rfl) (by simp) ?_
        refine AllReadyH.cons rfl (fun K hK => ?_) ?_
        · -- 3
          refine step_aps tInts rfl _ _ rfl wd.heap.size _ 0 [] rfl oo0_31 _ _ _ rfl (r.below D31).a (one_ints c.vars) (by omega) (by omega) ?_
          intro v' v32 ho hc hn _
          simp only [Nat.zero_add, List.nil_append] at ho
          obtain ⟨p32, t32, rfl⟩ := own_shape ho
          have iv32 : ∀ q, (Value.slice p32 c.vars.length t32).ownBlock = some q → q = wd.heap.size ∨ v31.heap.size ≤ q := newor_cases hn rfl
          have iu32 := ho.lt
          have D32 := D31.trans (hc.below w2.heap.size D31.size (fun q hq h => by have e : wd.heap.size = q := Option.some.inj h; have := D31.size; omega))
          have s32 := hc.size
          have oo1_32 := own_keep o31 hc (fun q h h2 => by have e1 : v26.heap.size = q := Option.some.inj h; have e2 : wd.heap.size = q := Option.some.inj h2; omega)
          have oo2_32 := own_keep oo2_31 hc (fun q h h2 => by have e1 : v1.heap.size = q := Option.some.inj h; have e2 : wd.heap.size = q := Option.some.inj h2; omega)
          have ho32 := ho; clear ho hc hn
          refine hK.out _ _ ⟨kept_cell D32 HB0.out, kept_cell D32 HB1.out, kept_cell D32 HB2.out⟩ (fun hHeld => ?_)
          clear hK K
          try simp only [Act.put, List.setIfInBounds_toArray]
          refine wpAnyH_ready (rs := [7]) (by kernel_rfl) (by simp) ?_
          refine AllReadyH.cons rfl (fun K hK => ?_) ?_
          · -- 7
            refine step_aps tInts rfl _ _ rfl v26.heap.size _ 0 [] rfl oo1_32 _ _ _ rfl (r.below D32).b (one_ints c.arrays) (by omega) (by omega) ?_
            intro v' v33 ho hc hn _
            simp only [Nat.zero_add, List.nil_append] at ho
            obtain ⟨p33, t33, rfl⟩ := own_shape ho
            have iv33 : ∀ q, (Value.slice p33 c.arrays.length t33).ownBlock = some q → q = v26.heap.size ∨ v32.heap.size ≤ q := newor_cases hn rfl
            have iu33 := ho.lt
            have D33 := D32.trans (hc.below w2.heap.size D32.size (fun q hq h => by have e : v26.heap.size = q := Option.some.inj h; have := D32.size; omega))
            have s33 := hc.size
            have oo0_33 := own_keep ho32 hc (fun q h h2 => by have e2 : v26.heap.size = q := Option.some.inj h2; have := iv32 q h; have := iu32 q h; omega)
            have oo2_33 := own_keep oo2_32 hc (fun q h h2 => by have e1 : v1.heap.size = q := Option.some.inj h; have e2 : v26.heap.size = q := Option.some.inj h2; omega)
            have ho33 := ho; clear ho hc hn
            refine hK.out _ _ ⟨kept_cell D33 HB0.out, kept_cell D33 HB1.out, kept_cell D33 HB2.out⟩ (fun hHeld => ?_)
            clear hK K
            try simp only [Act.put]
            refine wpAnyH_ready (rs := [11]) (by kernel_rfl) (by simp) ?_
            refine AllReadyH.cons rfl (fun K hK => ?_) ?_
            · -- 11
              refine step_aps tInstrs rfl _ _ rfl v1.heap.size _ 0 [] rfl oo2_33 _ _ _ rfl (r.below D33).l (one_rows one_insc c.list) (by omega) (by omega) ?_
              intro v' v34 ho hc hn _
              simp only [Nat.zero_add, List.nil_append] at ho
              obtain ⟨p34, t34, rfl⟩ := own_shape ho
              have iv34 : ∀ q, (Value.slice p34 c.list.length t34).ownBlock = some q → q = v1.heap.size ∨ v33.heap.size ≤ q := newor_cases hn rfl
              have iu34 := ho.lt
              have D34 := D33.trans (hc.below w2.heap.size D33.size (fun q hq h => by have e : v1.heap.size = q := Option.some.inj h; have := D33.size; omega))
              have s34 := hc.size
              have oo0_34 := own_keep oo0_33 hc (fun q h h2 => by have e2 : v1.heap.size = q := Option.some.inj h2; have := iv32 q h; have := iu32 q h; omega)
              have oo1_34 := own_keep ho33 hc (fun q h h2 => by have e2 : v1.heap.size = q := Option.some.inj h2; have := iv33 q h; have := iu33 q h; omega)
              have ho34 := ho; clear ho hc hn
              refine hK.out _ _ ⟨kept_cell D34 HB0.out, kept_cell D34 HB1.out, kept_cell D34 HB2.out⟩ (fun hHeld => ?_)
              clear hK K
              try simp only [Act.put]
              refine take_d (i := 12) (d := 15) (v := ?_) rfl rfl (by kernel_rfl) (by kernel_rfl) (by kernel_rfl) (fun _ _ _ h => h) (Or.inl ⟨by rfl, ?_⟩) (by assumption) ?_
              rotate_left
              · intro W' hSw; (try dsimp only at hSw); obtain ⟨s0, s1, s2⟩ := hSw; go_simp; try with_reducible rfl
              simp only [Act.put]
              have x0 := kept_cell D34 q0
              have y0 := kept_froz D34 (lt_of_cell q0) g0
              have i0 := oo0_34.lt
              have x1 := kept_cell D34 q1
              have y1 := kept_froz D34 (lt_of_cell q1) g1
              have i1 := oo1_34.lt
              have x2 := kept_cell D34 q2
              have y2 := kept_froz D34 (lt_of_cell q2) g2
              have i2 := ho34.lt
              have k1 := lt_of_cell x0
              have m0 := (own_set (own_set (own_set oo0_34 (w.heap.size + 1) 0 (fun h => by have := i0 _ h; omega) (.slice p32 c.vars.length t32)) (w.heap.size + 1) 1 (fun h => by have := i0 _ h; omega) (.slice p33 c.arrays.length t33)) (w.heap.size + 1) 2 (fun h => by have := i0 _ h; omega) (.slice p34 c.list.length t34))
              have n0 := (cell_ne (b := (w.heap.size + 1)) (j := 2) (cell_ne (b := (w.heap.size + 1)) (j := 1) (cell_at _ (w.heap.size + 1) 0 (.slice p32 c.vars.length t32) x0) (by omega) (.slice p33 c.arrays.length t33)) (by omega) (.slice p34 c.list.length t34))
              have m1 := (own_set (own_set (own_set oo1_34 (w.heap.size + 1) 0 (fun h => by have := i1 _ h; omega) (.slice p32 c.vars.length t32)) (w.heap.size + 1) 1 (fun h => by have := i1 _ h; omega) (.slice p33 c.arrays.length t33)) (w.heap.size + 1) 2 (fun h => by have := i1 _ h; omega) (.slice p34 c.list.length t34))
              have n1 := (cell_ne (b := (w.heap.size + 1)) (j := 2) (cell_at _ (w.heap.size + 1) 1 (.slice p33 c.arrays.length t33) (cell_ne (b := (w.heap.size + 1)) (j := 0) x1 (by omega) (.slice p32 c.vars.length t32))) (by omega) (.slice p34 c.list.length t34))
              have m2 := (own_set (own_set (own_set ho34 (w.heap.size + 1) 0 (fun h => by have := i2 _ h; omega) (.slice p32 c.vars.length t32)) (w.heap.size + 1) 1 (fun h => by have := i2 _ h; omega) (.slice p33 c.arrays.length t33)) (w.heap.size + 1) 2 (fun h => by have := i2 _ h; omega) (.slice p34 c.list.length t34))
              have n2 := (cell_at _ (w.heap.size + 1) 2 (.slice p34 c.list.length t34) (cell_ne (b := (w.heap.size + 1)) (j := 1) (cell_ne (b := (w.heap.size + 1)) (j := 0) x2 (by omega) (.slice p32 c.vars.length t32)) (by omega) (.slice p33 c.arrays.length t33)))
              have tt := (bst (bst (bst (btr hb2 D34) (w.heap.size + 1) 0 (by omega) (.slice p32 c.vars.length t32)) (w.heap.size + 1) 1 (by omega) (.slice p33 c.arrays.length t33)) (w.heap.size + 1) 2 (by omega) (.slice p34 c.list.length t34))
              have Z := And.intro (cell_ne (b := (w.heap.size + 1)) (j := 2) (cell_ne (b := (w.heap.size + 1)) (j := 1) (cell_ne (b := (w.heap.size + 1)) (j := 0) (kept_cell D34 HB0.out) (by omega) (.slice p32 c.vars.length t32)) (by omega) (.slice p33 c.arrays.length t33)) (by omega) (.slice p34 c.list.length t34)) (And.intro (cell_ne (b := (w.heap.size + 1)) (j := 2) (cell_ne (b := (w.heap.size + 1)) (j := 1) (cell_ne (b := (w.heap.size + 1)) (j := 0) (kept_cell D34 HB1.out) (by omega) (.slice p32 c.vars.length t32)) (by omega) (.slice p33 c.arrays.length t33)) (by omega) (.slice p34 c.list.length t34)) (cell_ne (b := (w.heap.size + 1)) (j := 2) (cell_ne (b := (w.heap.size + 1)) (j := 1) (cell_ne (b := (w.heap.size + 1)) (j := 0) (kept_cell D34 HB2.out) (by omega) (.slice p32 c.vars.length t32)) (by omega) (.slice p33 c.arrays.length t33)) (by omega) (.slice p34 c.list.length t34)))
              refine wpAnyH_ready (rs := [13]) (by kernel_rfl) (by simp) ?_
              refine AllReadyH.cons rfl (fun K hK => ?_) AllReadyH.nil
              go_simp
              refine hK.out _ _ Z (fun hHeld => ?_)
              clear hK K
              refine wpAnyH_done (by kernel_rfl) ?_ _
              clear x0 x1 x2 y0 y1 y2 q0 q1 q2 g0 g1 g2 Z hHeld
              go_wp2
              exact bodyPost_ret (v := .agg #[.slice p32 c.vars.length t32, .slice p33 c.arrays.length t33, .slice p34 c.list.length t34]) (by simp [results, Try.results91, go_sem, n0, n1, n2]) rfl ⟨_, _, _, rfl, ⟨own_mono m0 (by omega), own_mono m1 (by omega), own_mono m2 (by omega), (fun q h h' => by have := iv32 q h; have := iv33 q h'; have := iu32 q h; have := iu33 q h'; omega)⟩, tt⟩
            exact AllReadyH.nil
          exact AllReadyH.nil
        exact AllReadyH.nil
      exact AllReadyH.nil
    exact AllReadyH.nil
  refine AllReadyH.cons rfl (fun K hK => ?_) ?_
  · -- 4
    go_simp
    obtain ⟨v35, hv⟩ : ∃ X, X = World.alloc wd (.cells #[] 3) := ⟨_, rfl⟩
    rw [← hv]
    have o35 : v35.ownsRow wd.heap.size 3 1 (.slice (some ⟨wd.heap.size, 0, none⟩) 0 0) 0 [] := by rw [hv]; exact own_nil_rows _ _ _
    have hb : Below wd.heap.size wd v35 := by rw [hv]; exact bal (bself _) _
    have D35 := btr D hb
    have s35 : wd.heap.size + 1 ≤ v35.heap.size := by rw [hv]; simp
    clear hv
    clear hb
    refine hK.out _ _ ⟨kept_cell D35 HB0.out, kept_cell D35 HB1.out, kept_cell D35 HB2.out⟩ (fun hHeld => ?_)
    clear hK K
    refine wpAnyH_ready (rs := [0, 8]) (by kernel_rfl) (by simp) ?_
    refine AllReadyH.cons rfl (fun K hK => ?_) ?_
    · -- 0
      go_simp
      obtain ⟨v36, hv⟩ : ∃ X, X = World.alloc v35 (.cells #[] 3) := ⟨_, rfl⟩
      rw [← hv]
      have o36 : v36.ownsRow v35.heap.size 3 1 (.slice (some ⟨v35.heap.size, 0, none⟩) 0 0) 0 [] := by rw [hv]; exact own_nil_rows _ _ _
      have hb : Below v35.heap.size v35 v36 := by rw [hv]; exact bal (bself _) _
      have D36 := btr D35 hb
      have s36 : v35.heap.size + 1 ≤ v36.heap.size := by rw [hv]; simp
      clear hv
      have oo1_36 := own_below o35 hb
      clear hb
      refine hK.out _ _ ⟨kept_cell D36 HB0.out, kept_cell D36 HB1.out, kept_cell D36 HB2.out⟩ (fun hHeld => ?_)
      clear hK K
      refine wpAnyH_ready (rs := [3, 8]) (by kernel_rfl) (by simp) ?_
      refine AllReadyH.cons rfl (fun K hK => ?_) ?_
      · -- 3
        refine step_aps tInts rfl _ _ rfl v35.heap.size _ 0 [] rfl o36 _ _ _ rfl (r.below D36).a (one_ints c.vars) (by omega) (by omega) ?_
        intro v' v37 ho hc hn _
        simp only [Nat.zero_add, List.nil_append] at ho
        obtain ⟨p37, t37, rfl⟩ := own_shape ho
        have iv37 : ∀ q, (Value.slice p37 c.vars.length t37).ownBlock = some q → q = v35.heap.size ∨ v36.heap.size ≤ q := newor_cases hn rfl
        have iu37 := ho.lt
        have D37 := D36.trans (hc.below w2.heap.size D36.size (fun q hq h => by have e : v35.heap.size = q := Option.some.inj h; have := D36.size; omega))
        have s37 := hc.size
        have oo1_37 := own_keep oo1_36 hc (fun q h h2 => by have e1 : wd.heap.size = q := Option.some.inj h; have e2 : v35.heap.size = q := Option.some.inj h2; omega)
        have ho37 := ho; clear ho hc hn
        refine hK.out _ _ ⟨kept_cell D37 HB0.out, kept_cell D37 HB1.out, kept_cell D37 HB2.out⟩ (fun hHeld => ?_)
        clear hK K
        try simp only [Act.put, List.setIfInBounds_toArray]
        refine wpAnyH_ready (rs := [7, 8]) (by kernel_rfl) (by simp) ?_
        refine AllReadyH.cons rfl (fun K hK => ?_) ?_
        · -- 7
          refine step_aps tInts rfl _ _ rfl wd.heap.size _ 0 [] rfl oo1_37 _ _ _ rfl (r.below D37).b (one_ints c.arrays) (by omega) (by omega) ?_
          intro v' v38 ho hc hn _
          simp only [Nat.zero_add, List.nil_append] at ho
          obtain ⟨p38, t38, rfl⟩ := own_shape ho
          have iv38 : ∀ q, (Value.slice p38 c.arrays.length t38).ownBlock = some q → q = wd.heap.size ∨ v37.heap.size ≤ q := newor_cases hn rfl
          have iu38 := ho.lt
          have D38 := D37.trans (hc.below w2.heap.size D37.size (fun q hq h => by have e : wd.heap.size = q := Option.some.inj h; have := D37.size; omega))
          have s38 := hc.size
          have oo0_38 := own_keep ho37 hc (fun q h h2 => by have e2 : wd.heap.size = q := Option.some.inj h2; have := iv37 q h; have := iu37 q h; omega)
          have ho38 := ho; clear ho hc hn
          refine hK.out _ _ ⟨kept_cell D38 HB0.out, kept_cell D38 HB1.out, kept_cell D38 HB2.out⟩ (fun hHeld => ?_)
          clear hK K
          try simp only [Act.put]
          refine wpAnyH_ready (rs := [8]) (by kernel_rfl) (by simp) ?_
          refine AllReadyH.cons rfl (fun K hK => ?_) ?_
          · -- 8
            go_simp
            obtain ⟨v39, hv⟩ : ∃ X, X = World.alloc v38 (.cells #[] 98) := ⟨_, rfl⟩
            rw [← hv]
            have o39 : v39.ownsRow v38.heap.size 98 5 (.slice (some ⟨v38.heap.size, 0, none⟩) 0 0) 0 [] := by rw [hv]; exact own_nil_rows _ _ _
            have hb : Below v38.heap.size v38 v39 := by rw [hv]; exact bal (bself _) _
            have D39 := btr D38 hb
            have s39 : v38.heap.size + 1 ≤ v39.heap.size := by rw [hv]; simp
            clear hv
            have oo0_39 := own_below oo0_38 hb
            have oo1_39 := own_below ho38 hb
            clear hb
            refine hK.out _ _ ⟨kept_cell D39 HB0.out, kept_cell D39 HB1.out, kept_cell D39 HB2.out⟩ (fun hHeld => ?_)
            clear hK K
            refine wpAnyH_ready (rs := [11]) (by kernel_rfl) (by simp) ?_
            refine AllReadyH.cons rfl (fun K hK => ?_) ?_
            · -- 11
              refine step_aps tInstrs rfl _ _ rfl v38.heap.size _ 0 [] rfl o39 _ _ _ rfl (r.below D39).l (one_rows one_insc c.list) (by omega) (by omega) ?_
              intro v' v40 ho hc hn _
              simp only [Nat.zero_add, List.nil_append] at ho
              obtain ⟨p40, t40, rfl⟩ := own_shape ho
              have iv40 : ∀ q, (Value.slice p40 c.list.length t40).ownBlock = some q → q = v38.heap.size ∨ v39.heap.size ≤ q := newor_cases hn rfl
              have iu40 := ho.lt
              have D40 := D39.trans (hc.below w2.heap.size D39.size (fun q hq h => by have e : v38.heap.size = q := Option.some.inj h; have := D39.size; omega))
              have s40 := hc.size
              have oo0_40 := own_keep oo0_39 hc (fun q h h2 => by have e2 : v38.heap.size = q := Option.some.inj h2; have := iv37 q h; have := iu37 q h; omega)
              have oo1_40 := own_keep oo1_39 hc (fun q h h2 => by have e2 : v38.heap.size = q := Option.some.inj h2; have := iv38 q h; have := iu38 q h; omega)
              have ho40 := ho; clear ho hc hn
              refine hK.out _ _ ⟨kept_cell D40 HB0.out, kept_cell D40 HB1.out, kept_cell D40 HB2.out⟩ (fun hHeld => ?_)
              clear hK K
              try simp only [Act.put, List.setIfInBounds_toArray]
              refine take_d (i := 12) (d := 15) (v := ?_) rfl rfl (by kernel_rfl) (by kernel_rfl) (by kernel_rfl) (fun _ _ _ h => h) (Or.inl ⟨by rfl, ?_⟩) (by assumption) ?_
              rotate_left
              · intro W' hSw; (try dsimp only at hSw); obtain ⟨s0, s1, s2⟩ := hSw; go_simp; try with_reducible rfl
              simp only [Act.put]
              have x0 := kept_cell D40 q0
              have y0 := kept_froz D40 (lt_of_cell q0) g0
              have i0 := oo0_40.lt
              have x1 := kept_cell D40 q1
              have y1 := kept_froz D40 (lt_of_cell q1) g1
              have i1 := oo1_40.lt
              have x2 := kept_cell D40 q2
              have y2 := kept_froz D40 (lt_of_cell q2) g2
              have i2 := ho40.lt
              have k1 := lt_of_cell x0
              have m0 := (own_set (own_set (own_set oo0_40 (w.heap.size + 1) 0 (fun h => by have := i0 _ h; omega) (.slice p37 c.vars.length t37)) (w.heap.size + 1) 1 (fun h => by have := i0 _ h; omega) (.slice p38 c.arrays.length t38)) (w.heap.size + 1) 2 (fun h => by have := i0 _ h; omega) (.slice p40 c.list.length t40))
              have n0 := (cell_ne (b := (w.heap.size + 1)) (j := 2) (cell_ne (b := (w.heap.size + 1)) (j := 1) (cell_at _ (w.heap.size + 1) 0 (.slice p37 c.vars.length t37) x0) (by omega) (.slice p38 c.arrays.length t38)) (by omega) (.slice p40 c.list.length t40))
              have m1 := (own_set (own_set (own_set oo1_40 (w.heap.size + 1) 0 (fun h => by have := i1 _ h; omega) (.slice p37 c.vars.length t37)) (w.heap.size + 1) 1 (fun h => by have := i1 _ h; omega) (.slice p38 c.arrays.length t38)) (w.heap.size + 1) 2 (fun h => by have := i1 _ h; omega) (.slice p40 c.list.length t40))
              have n1 := (cell_ne (b := (w.heap.size + 1)) (j := 2) (cell_at _ (w.heap.size + 1) 1 (.slice p38 c.arrays.length t38) (cell_ne (b := (w.heap.size + 1)) (j := 0) x1 (by omega) (.slice p37 c.vars.length t37))) (by omega) (.slice p40 c.list.length t40))
              have m2 := (own_set (own_set (own_set ho40 (w.heap.size + 1) 0 (fun h => by have := i2 _ h; omega) (.slice p37 c.vars.length t37)) (w.heap.size + 1) 1 (fun h => by have := i2 _ h; omega) (.slice p38 c.arrays.length t38)) (w.heap.size + 1) 2 (fun h => by have := i2 _ h; omega) (.slice p40 c.list.length t40))
              have n2 := (cell_at _ (w.heap.size + 1) 2 (.slice p40 c.list.length t40) (cell_ne (b := (w.heap.size + 1)) (j := 1) (cell_ne (b := (w.heap.size + 1)) (j := 0) x2 (by omega) (.slice p37 c.vars.length t37)) (by omega) (.slice p38 c.arrays.length t38)))
              have tt := (bst (bst (bst (btr hb2 D40) (w.heap.size + 1) 0 (by omega) (.slice p37 c.vars.length t37)) (w.heap.size + 1) 1 (by omega) (.slice p38 c.arrays.length t38)) (w.heap.size + 1) 2 (by omega) (.slice p40 c.list.length t40))
              have Z := And.intro (cell_ne (b := (w.heap.size + 1)) (j := 2) (cell_ne (b := (w.heap.size + 1)) (j := 1) (cell_ne (b := (w.heap.size + 1)) (j := 0) (kept_cell D40 HB0.out) (by omega) (.slice p37 c.vars.length t37)) (by omega) (.slice p38 c.arrays.length t38)) (by omega) (.slice p40 c.list.length t40)) (And.intro (cell_ne (b := (w.heap.size + 1)) (j := 2) (cell_ne (b := (w.heap.size + 1)) (j := 1) (cell_ne (b := (w.heap.size + 1)) (j := 0) (kept_cell D40 HB1.out) (by omega) (.slice p37 c.vars.length t37)) (by omega) (.slice p38 c.arrays.length t38)) (by omega) (.slice p40 c.list.length t40)) (cell_ne (b := (w.heap.size + 1)) (j := 2) (cell_ne (b := (w.heap.size + 1)) (j := 1) (cell_ne (b := (w.heap.size + 1)) (j := 0) (kept_cell D40 HB2.out) (by omega) (.slice p37 c.vars.length t37)) (by omega) (.slice p38 c.arrays.length t38)) (by omega) (.slice p40 c.list.length t40)))
              refine wpAnyH_ready (rs := [13]) (by kernel_rfl) (by simp) ?_
              refine AllReadyH.cons rfl (fun K hK => ?_) AllReadyH.nil
              go_simp
              refine hK.out _ _ Z (fun hHeld => ?_)
              clear hK K
              refine wpAnyH_done (by kernel_rfl) ?_ _
              clear x0 x1 x2 y0 y1 y2 q0 q1 q2 g0 g1 g2 Z hHeld
              go_wp2
              exact bodyPost_ret (v := .agg #[.slice p37 c.vars.length t37, .slice p38 c.arrays.length t38, .slice p40 c.list.length t40]) (by simp [results, Try.results91, go_sem, n0, n1, n2]) rfl ⟨_, _, _, rfl, ⟨own_mono m0 (by omega), own_mono m1 (by omega), own_mono m2 (by omega), (fun q h h' => by have := iv37 q h; have := iv38 q h'; have := iu37 q h; have := iu38 q h'; omega)⟩, tt⟩
            exact AllReadyH.nil
          exact AllReadyH.nil
        refine AllReadyH.cons rfl (fun K hK => ?_) ?_
        · -- 8
          go_simp
          obtain ⟨v41, hv⟩ : ∃ X, X = World.alloc v37 (.cells #[] 98) := ⟨_, rfl⟩
          rw [← hv]
          have o41 : v41.ownsRow v37.heap.size 98 5 (.slice (some ⟨v37.heap.size, 0, none⟩) 0 0) 0 [] := by rw [hv]; exact own_nil_rows _ _ _
          have hb : Below v37.heap.size v37 v41 := by rw [hv]; exact bal (bself _) _
          have D41 := btr D37 hb
          have s41 : v37.heap.size + 1 ≤ v41.heap.size := by rw [hv]; simp
          clear hv
          have oo0_41 := own_below ho37 hb
          have oo1_41 := own_below oo1_37 hb
          clear hb
          refine hK.out _ _ ⟨kept_cell D41 HB0.out, kept_cell D41 HB1.out, kept_cell D41 HB2.out⟩ (fun hHeld => ?_)
          clear hK K
          refine wpAnyH_ready (rs := [7]) (by kernel_rfl) (by simp) ?_
          refine AllReadyH.cons rfl (fun K hK => ?_) ?_
          · -- 7
            refine step_aps tInts rfl _ _ rfl wd.heap.size _ 0 [] rfl oo1_41 _ _ _ rfl (r.below D41).b (one_ints c.arrays) (by omega) (by omega) ?_
            intro v' v42 ho hc hn _
            simp only [Nat.zero_add, List.nil_append] at ho
            obtain ⟨p42, t42, rfl⟩ := own_shape ho
            have iv42 : ∀ q, (Value.slice p42 c.arrays.length t42).ownBlock = some q → q = wd.heap.size ∨ v41.heap.size ≤ q := newor_cases hn rfl
            have iu42 := ho.lt
            have D42 := D41.trans (hc.below w2.heap.size D41.size (fun q hq h => by have e : wd.heap.size = q := Option.some.inj h; have := D41.size; omega))
            have s42 := hc.size
            have oo0_42 := own_keep oo0_41 hc (fun q h h2 => by have e2 : wd.heap.size = q := Option.some.inj h2; have := iv37 q h; have := iu37 q h; omega)
            have oo2_42 := own_keep o41 hc (fun q h h2 => by have e1 : v37.heap.size = q := Option.some.inj h; have e2 : wd.heap.size = q := Option.some.inj h2; omega)
            have ho42 := ho; clear ho hc hn
            refine hK.out _ _ ⟨kept_cell D42 HB0.out, kept_cell D42 HB1.out, kept_cell D42 HB2.out⟩ (fun hHeld => ?_)
            clear hK K
            try simp only [Act.put, List.setIfInBounds_toArray]
            refine wpAnyH_ready (rs := [11]) (by kernel_rfl) (by simp) ?_
            refine AllReadyH.cons rfl (fun K hK => ?_) ?_
            · -- 11
              refine step_aps tInstrs rfl _ _ rfl v37.heap.size _ 0 [] rfl oo2_42 _ _ _ rfl (r.below D42).l (one_rows one_insc c.list) (by omega) (by omega) ?_
              intro v' v43 ho hc hn _
              simp only [Nat.zero_add, List.nil_append] at ho
              obtain ⟨p43, t43, rfl⟩ := own_shape ho
              have iv43 : ∀ q, (Value.slice p43 c.list.length t43).ownBlock = some q → q = v37.heap.size ∨ v42.heap.size ≤ q := newor_cases hn rfl
              have iu43 := ho.lt
              have D43 := D42.trans (hc.below w2.heap.size D42.size (fun q hq h => by have e : v37.heap.size = q := Option.some.inj h; have := D42.size; omega))
              have s43 := hc.size
              have oo0_43 := own_keep oo0_42 hc (fun q h h2 => by have e2 : v37.heap.size = q := Option.some.inj h2; have := iv37 q h; have := iu37 q h; omega)
              have oo1_43 := own_keep ho42 hc (fun q h h2 => by have e2 : v37.heap.size = q := Option.some.inj h2; have := iv42 q h; have := iu42 q h; omega)
              have ho43 := ho; clear ho hc hn
              refine hK.out _ _ ⟨kept_cell D43 HB0.out, kept_cell D43 HB1.out, kept_cell D43 HB2.out⟩ (fun hHeld => ?_)
              clear hK K
              try simp only [Act.put]
              refine take_d (i := 12) (d := 15) (v := ?_) rfl rfl (by kernel_rfl) (by kernel_rfl) (by kernel_rfl) (fun _ _ _ h => h) (Or.inl ⟨by rfl, ?_⟩) (by assumption) ?_
              rotate_left
              · intro W' hSw; (try dsimp only at hSw); obtain ⟨s0, s1, s2⟩ := hSw; go_simp; try with_reducible rfl
              simp only [Act.put]
              have x0 := kept_cell D43 q0
              have y0 := kept_froz D43 (lt_of_cell q0) g0
              have i0 := oo0_43.lt
              have x1 := kept_cell D43 q1
              have y1 := kept_froz D43 (lt_of_cell q1) g1
              have i1 := oo1_43.lt
              have x2 := kept_cell D43 q2
              have y2 := kept_froz D43 (lt_of_cell q2) g2
              have i2 := ho43.lt
              have k1 := lt_of_cell x0
              have m0 := (own_set (own_set (own_set oo0_43 (w.heap.size + 1) 0 (fun h => by have := i0 _ h; omega) (.slice p37 c.vars.length t37)) (w.heap.size + 1) 1 (fun h => by have := i0 _ h; omega) (.slice p42 c.arrays.length t42)) (w.heap.size + 1) 2 (fun h => by have := i0 _ h; omega) (.slice p43 c.list.length t43))
              have n0 := (cell_ne (b := (w.heap.size + 1)) (j := 2) (cell_ne (b := (w.heap.size + 1)) (j := 1) (cell_at _ (w.heap.size + 1) 0 (.slice p37 c.vars.length t37) x0) (by omega) (.slice p42 c.arrays.length t42)) (by omega) (.slice p43 c.list.length t43))
              have m1 := (own_set (own_set (own_set oo1_43 (w.heap.size + 1) 0 (fun h => by have := i1 _ h; omega) (.slice p37 c.vars.length t37)) (w.heap.size + 1) 1 (fun h => by have := i1 _ h; omega) (.slice p42 c.arrays.length t42)) (w.heap.size + 1) 2 (fun h => by have := i1 _ h; omega) (.slice p43 c.list.length t43))
              have n1 := (cell_ne (b := (w.heap.size + 1)) (j := 2) (cell_at _ (w.heap.size + 1) 1 (.slice p42 c.arrays.length t42) (cell_ne (b := (w.heap.size + 1)) (j := 0) x1 (by omega) (.slice p37 c.vars.length t37))) (by omega) (.slice p43 c.list.length t43))
              have m2 := (own_set (own_set (own_set ho43 (w.heap.size + 1) 0 (fun h => by have := i2 _ h; omega) (.slice p37 c.vars.length t37)) (w.heap.size + 1) 1 (fun h => by have := i2 _ h; omega) (.slice p42 c.arrays.length t42)) (w.heap.size + 1) 2 (fun h => by have := i2 _ h; omega) (.slice p43 c.list.length t43))
              have n2 := (cell_at _ (w.heap.size + 1) 2 (.slice p43 c.list.length t43) (cell_ne (b := (w.heap.size + 1)) (j := 1) (cell_ne (b := (w.heap.size + 1)) (j := 0) x2 (by omega) (.slice p37 c.vars.length t37)) (by omega) (.slice p42 c.arrays.length t42)))
              have tt := (bst (bst (bst (btr hb2 D43) (w.heap.size + 1) 0 (by omega) (.slice p37 c.vars.length t37)) (w.heap.size + 1) 1 (by omega) (.slice p42 c.arrays.length t42)) (w.heap.size + 1) 2 (by omega) (.slice p43 c.list.length t43))
              have Z := And.intro (cell_ne (b := (w.heap.size + 1)) (j := 2) (cell_ne (b := (w.heap.size + 1)) (j := 1) (cell_ne (b := (w.heap.size + 1)) (j := 0) (kept_cell D43 HB0.out) (by omega) (.slice p37 c.vars.length t37)) (by omega) (.slice p42 c.arrays.length t42)) (by omega) (.slice p43 c.list.length t43)) (And.intro (cell_ne (b := (w.heap.size + 1)) (j := 2) (cell_ne (b := (w.heap.size + 1)) (j := 1) (cell_ne (b := (w.heap.size + 1)) (j := 0) (kept_cell D43 HB1.out) (by omega) (.slice p37 c.vars.length t37)) (by omega) (.slice p42 c.arrays.length t42)) (by omega) (.slice p43 c.list.length t43)) (cell_ne (b := (w.heap.size + 1)) (j := 2) (cell_ne (b := (w.heap.size + 1)) (j := 1) (cell_ne (b := (w.heap.size + 1)) (j := 0) (kept_cell D43 HB2.out) (by omega) (.slice p37 c.vars.length t37)) (by omega) (.slice p42 c.arrays.length t42)) (by omega) (.slice p43 c.list.length t43)))
              refine wpAnyH_ready (rs := [13]) (by kernel_rfl) (by simp) ?_
              refine AllReadyH.cons rfl (fun K hK => ?_) AllReadyH.nil
              go_simp
              refine hK.out _ _ Z (fun hHeld => ?_)
              clear hK K
              refine wpAnyH_done (by kernel_rfl) ?_ _
              clear x0 x1 x2 y0 y1 y2 q0 q1 q2 g0 g1 g2 Z hHeld
              go_wp2
              exact bodyPost_ret (v := .agg #[.slice p37 c.vars.length t37, .slice p42 c.arrays.length t42, .slice p43 c.list.length t43]) (by simp [results, Try.results91, go_sem, n0, n1, n2]) rfl ⟨_, _, _, rfl, ⟨own_mono m0 (by omega), own_mono m1 (by omega), own_mono m2 (by omega), (fun q h h' => by have := iv37 q h; have := iv42 q h'; have := iu37 q h; have := iu42 q h'; omega)⟩, tt⟩
            exact AllReadyH.nil
          exact AllReadyH.nil
        exact AllReadyH.nil
      refine AllReadyH.cons rfl (fun K hK => ?_) ?_
      · -- 8
        go_simp
        obtain ⟨v44, hv⟩ : ∃ X, X = World.alloc v36 (.cells #[] 98) := ⟨_, rfl⟩
        rw [← hv]
        have o44 : v44.ownsRow v36.heap.size 98 5 (.slice (some ⟨v36.heap.size, 0, none⟩) 0 0) 0 [] := by rw [hv]; exact own_nil_rows _ _ _
        have hb : Below v36.heap.size v36 v44 := by rw [hv]; exact bal (bself _) _
        have D44 := btr D36 hb
        have s44 : v36.heap.size + 1 ≤ v44.heap.size := by rw [hv]; simp
        clear hv
        have oo0_44 := own_below o36 hb
        have oo1_44 := own_below oo1_36 hb
        clear hb
        refine hK.out _ _ ⟨kept_cell D44 HB0.out, kept_cell D44 HB1.out, kept_cell D44 HB2.out⟩ (fun hHeld => ?_)
        clear hK K
        refine wpAnyH_ready (rs := [3]) (by kernel_rfl) (by simp) ?_
        refine AllReadyH.cons rfl (fun K hK => ?_) ?_
        · -- 3
          refine step_aps tInts rfl _ _ rfl v35.heap.size _ 0 [] rfl oo0_44 _ _ _ rfl (r.below D44).a (one_ints c.vars) (by omega) (by omega) ?_
          intro v' v45 ho hc hn _
          simp only [Nat.zero_add, List.nil_append] at ho
          obtain ⟨p45, t45, rfl⟩ := own_shape ho
          have iv45 : ∀ q, (Value.slice p45 c.vars.length t45).ownBlock = some q → q = v35.heap.size ∨ v44.heap.size ≤ q := newor_cases hn rfl
          have iu45 := ho.lt
          have D45 := D44.trans (hc.below w2.heap.size D44.size (fun q hq h => by have e : v35.heap.size = q := Option.some.inj h; have := D44.size; omega))
          have s45 := hc.size
          have oo1_45 := own_keep oo1_44 hc (fun q h h2 => by have e1 : wd.heap.size = q := Option.some.inj h; have e2 : v35.heap.size = q := Option.some.inj h2; omega)
          have oo2_45 := own_keep o44 hc (fun q h h2 => by have e1 : v36.heap.size = q := Option.some.inj h; have e2 : v35.heap.size = q := Option.some.inj h2; omega)
          have ho45 := ho; clear ho hc hn
          refine hK.out _ _ ⟨kept_cell D45 HB0.out, kept_cell D45 HB1.out, kept_cell D45 HB2.out⟩ (fun hHeld => ?_)
          clear hK K
          try simp only [Act.put, List.setIfInBounds_toArray]
          refine wpAnyH_ready (rs := [7]) (by kernel_rfl) (by simp) ?_
          refine AllReadyH.cons rfl (fun K hK => ?_) ?_
          · -- 7
            refine step_aps tInts rfl _ _ rfl wd.heap.size _ 0 [] rfl oo1_45 _ _ _ rfl (r.below D45).b (one_ints c.arrays) (by omega) (by omega) ?_
            intro v' v46 ho hc hn _
            simp only [Nat.zero_add, List.nil_append] at ho
            obtain ⟨p46, t46, rfl⟩ := own_shape ho
            have iv46 : ∀ q, (Value.slice p46 c.arrays.length t46).ownBlock = some q → q = wd.heap.size ∨ v45.heap.size ≤ q := newor_cases hn rfl
            have iu46 := ho.lt
            have D46 := D45.trans (hc.below w2.heap.size D45.size (fun q hq h => by have e : wd.heap.size = q := Option.some.inj h; have := D45.size; omega))
            have s46 := hc.size
            have oo0_46 := own_keep ho45 hc (fun q h h2 => by have e2 : wd.heap.size = q := Option.some.inj h2; have := iv45 q h; have := iu45 q h; omega)
            have oo2_46 := own_keep oo2_45 hc (fun q h h2 => by have e1 : v36.heap.size = q := Option.some.inj h; have e2 : wd.heap.size = q := Option.some.inj h2; omega)
            have ho46 := ho; clear ho hc hn
            refine hK.out _ _ ⟨kept_cell D46 HB0.out, kept_cell D46 HB1.out, kept_cell D46 HB2.out⟩ (fun hHeld => ?_)
            clear hK K
            try simp only [Act.put]
            refine wpAnyH_ready (rs := [11]) (by kernel_rfl) (by simp) ?_
            refine AllReadyH.cons rfl (fun K hK => ?_) ?_
            · -- 11
              refine step_aps tInstrs rfl _ _ rfl v36.heap.size _ 0 [] rfl oo2_46 _ _ _ rfl (r.below D46).l (one_rows one_insc c.list) (by omega) (by omega) ?_
              intro v' v47 ho hc hn _
              simp only [Nat.zero_add, List.nil_append] at ho
              obtain ⟨p47, t47, rfl⟩ := own_shape ho
              have iv47 : ∀ q, (Value.slice p47 c.list.length t47).ownBlock = some q → q = v36.heap.size ∨ v46.heap.size ≤ q := newor_cases hn rfl
              have iu47 := ho.lt
              have D47 := D46.trans (hc.below w2.heap.size D46.size (fun q hq h => by have e : v36.heap.size = q := Option.some.inj h; have := D46.size; omega))
              have s47 := hc.size
              have oo0_47 := own_keep oo0_46 hc (fun q h h2 => by have e2 : v36.heap.size = q := Option.some.inj h2; have := iv45 q h; have := iu45 q h; omega)
              have oo1_47 := own_keep ho46 hc (fun q h h2 => by have e2 : v36.heap.size = q := Option.some.inj h2; have := iv46 q h; have := iu46 q h; omega)
              have ho47 := ho; clear ho hc hn
              refine hK.out _ _ ⟨kept_cell D47 HB0.out, kept_cell D47 HB1.out, kept_cell D47 HB2.out⟩ (fun hHeld => ?_)
              clear hK K
              try simp only [Act.put]
              refine take_d (i := 12) (d := 15) (v := ?_) rfl rfl (by kernel_rfl) (by kernel_rfl) (by kernel_rfl) (fun _ _ _ h => h) (Or.inl ⟨by rfl, ?_⟩) (by assumption) ?_
              rotate_left
              · intro W' hSw; (try dsimp only at hSw); obtain ⟨s0, s1, s2⟩ := hSw; go_simp; try with_reducible rfl
              simp only [Act.put]
              have x0 := kept_cell D47 q0
              have y0 := kept_froz D47 (lt_of_cell q0) g0
              have i0 := oo0_47.lt
              have x1 := kept_cell D47 q1
              have y1 := kept_froz D47 (lt_of_cell q1) g1
              have i1 := oo1_47.lt
              have x2 := kept_cell D47 q2
              have y2 := kept_froz D47 (lt_of_cell q2) g2
              have i2 := ho47.lt
              have k1 := lt_of_cell x0
              have m0 := (own_set (own_set (own_set oo0_47 (w.heap.size + 1) 0 (fun h => by have := i0 _ h; omega) (.slice p45 c.vars.length t45)) (w.heap.size + 1) 1 (fun h => by have := i0 _ h; omega) (.slice p46 c.arrays.length t46)) (w.heap.size + 1) 2 (fun h => by have := i0 _ h; omega) (.slice p47 c.list.length t47))
              have n0 := (cell_ne (b := (w.heap.size + 1)) (j := 2) (cell_ne (b := (w.heap.size + 1)) (j := 1) (cell_at _ (w.heap.size + 1) 0 (.slice p45 c.vars.length t45) x0) (by omega) (.slice p46 c.arrays.length t46)) (by omega) (.slice p47 c.list.length t47))
              have m1 := (own_set (own_set (own_set oo1_47 (w.heap.size + 1) 0 (fun h => by have := i1 _ h; omega) (.slice p45 c.vars.length t45)) (w.heap.size + 1) 1 (fun h => by have := i1 _ h; omega) (.slice p46 c.arrays.length t46)) (w.heap.size + 1) 2 (fun h => by have := i1 _ h; omega) (.slice p47 c.list.length t47))
              have n1 := (cell_ne (b := (w.heap.size + 1)) (j := 2) (cell_at _ (w.heap.size + 1) 1 (.slice p46 c.arrays.length t46) (cell_ne (b := (w.heap.size + 1)) (j := 0) x1 (by omega) (.slice p45 c.vars.length t45))) (by omega) (.slice p47 c.list.length t47))
              have m2 := (own_set (own_set (own_set ho47 (w.heap.size + 1) 0 (fun h => by have := i2 _ h; omega) (.slice p45 c.vars.length t45)) (w.heap.size + 1) 1 (fun h => by have := i2 _ h; omega) (.slice p46 c.arrays.length t46)) (w.heap.size + 1) 2 (fun h => by have := i2 _ h; omega) (.slice p47 c.list.length t47))
              have n2 := (cell_at _ (w.heap.size + 1) 2 (.slice p47 c.list.length t47) (cell_ne (b := (w.heap.size + 1)) (j := 1) (cell_ne (b := (w.heap.size + 1)) (j := 0) x2 (by omega) (.slice p45 c.vars.length t45)) (by omega) (.slice p46 c.arrays.length t46)))
              have tt := (bst (bst (bst (btr hb2 D47) (w.heap.size + 1) 0 (by omega) (.slice p45 c.vars.length t45)) (w.heap.size + 1) 1 (by omega) (.slice p46 c.arrays.length t46)) (w.heap.size + 1) 2 (by omega) (.slice p47 c.list.length t47))
              have Z := And.intro (cell_ne (b := (w.heap.size + 1)) (j := 2) (cell_ne (b := (w.heap.size + 1)) (j := 1) (cell_ne (b := (w.heap.size + 1)) (j := 0) (kept_cell D47 HB0.out) (by omega) (.slice p45 c.vars.length t45)) (by omega) (.slice p46 c.arrays.length t46)) (by omega) (.slice p47 c.list.length t47)) (And.intro (cell_ne (b := (w.heap.size + 1)) (j := 2) (cell_ne (b := (w.heap.size + 1)) (j := 1) (cell_ne (b := (w.heap.size + 1)) (j := 0) (kept_cell D47 HB1.out) (by omega) (.slice p45 c.vars.length t45)) (by omega) (.slice p46 c.arrays.length t46)) (by omega) (.slice p47 c.list.length t47)) (cell_ne (b := (w.heap.size + 1)) (j := 2) (cell_ne (b := (w.heap.size + 1)) (j := 1) (cell_ne (b := (w.heap.size + 1)) (j := 0) (kept_cell D47 HB2.out) (by omega) (.slice p45 c.vars.length t45)) (by omega) (.slice p46 c.arrays.length t46)) (by omega) (.slice p47 c.list.length t47)))
              refine wpAnyH_ready (rs := [13]) (by kernel_rfl) (by simp) ?_
              refine AllReadyH.cons rfl (fun K hK => ?_) AllReadyH.nil
              go_simp
              refine hK.out _ _ Z (fun hHeld => ?_)
              clear hK K
              refine wpAnyH_done (by kernel_rfl) ?_ _
              clear x0 x1 x2 y0 y1 y2 q0 q1 q2 g0 g1 g2 Z hHeld
              go_wp2
              exact bodyPost_ret (v := .agg #[.slice p45 c.vars.length t45, .slice p46 c.arrays.length t46, .slice p47 c.list.length t47]) (by simp [results, Try.results91, go_sem, n0, n1, n2]) rfl ⟨_, _, _, rfl, ⟨own_mono m0 (by omega), own_mono m1 (by omega), own_mono m2 (by omega), (fun q h h' => by have := iv45 q h; have := iv46 q h'; have := iu45 q h; have := iu46 q h'; omega)⟩, tt⟩
            exact AllReadyH.nil
          exact AllReadyH.nil
        exact AllReadyH.nil
      exact AllReadyH.nil
    refine AllReadyH.cons rfl (fun K hK => ?_) ?_
    · -- 8
      go_simp
      obtain ⟨v48, hv⟩ : ∃ X, X = World.alloc v35 (.cells #[] 98) := ⟨_, rfl⟩
      rw [← hv]
      have o48 : v48.ownsRow v35.heap.size 98 5 (.slice (some ⟨v35.heap.size, 0, none⟩) 0 0) 0 [] := by rw [hv]; exact own_nil_rows _ _ _
      have hb : Below v35.heap.size v35 v48 := by rw [hv]; exact bal (bself _) _
      have D48 := btr D35 hb
      have s48 : v35.heap.size + 1 ≤ v48.heap.size := by rw [hv]; simp
      clear hv
      have oo1_48 := own_below o35 hb
      clear hb
      refine hK.out _ _ ⟨kept_cell D48 HB0.out, kept_cell D48 HB1.out, kept_cell D48 HB2.out⟩ (fun hHeld => ?_)
      clear hK K
      refine wpAnyH_ready (rs := [0]) (by kernel_rfl) (by simp) ?_
      refine AllReadyH.cons rfl (fun K hK => ?_) ?_
      · -- 0
        go_simp
        obtain ⟨v49, hv⟩ : ∃ X, X = World.alloc v48 (.cells #[] 3) := ⟨_, rfl⟩
        rw [← hv]
        have o49 : v49.ownsRow v48.heap.size 3 1 (.slice (some ⟨v48.heap.size, 0, none⟩) 0 0) 0 [] := by rw [hv]; exact own_nil_rows _ _ _
        have hb : Below v48.heap.size v48 v49 := by rw [hv]; exact bal (bself _) _
        have D49 := btr D48 hb
        have s49 : v48.heap.size + 1 ≤ v49.heap.size := by rw [hv]; simp
        clear hv
        have oo1_49 := own_below oo1_48 hb
        have oo2_49 := own_below o48 hb
        clear hb
        refine hK.out _ _ ⟨kept_cell D49 HB0.out, kept_cell D49 HB1.out, kept_cell D49 HB2.out⟩ (fun hHeld => ?_)
        clear hK K
        refine wpAnyH_ready (rs := [3]) (by kernel_rfl) (by simp) ?_
        refine AllReadyH.cons rfl (fun K hK => ?_) ?_
        · -- 3
          refine step_aps tInts rfl _ _ rfl v48.heap.size _ 0 [] rfl o49 _ _ _ rfl (r.below D49).a (one_ints c.vars) (by omega) (by omega) ?_
          intro v' v50 ho hc hn _
          simp only [Nat.zero_add, List.nil_append] at ho
          obtain ⟨p50, t50, rfl⟩ := own_shape ho
          have iv50 : ∀ q, (Value.slice p50 c.vars.length t50).ownBlock = some q → q = v48.heap.size ∨ v49.heap.size ≤ q := newor_cases hn rfl
          have iu50 := ho.lt
          have D50 := D49.trans (hc.below w2.heap.size D49.size (fun q hq h => by have e : v48.heap.size = q := Option.some.inj h; have := D49.size; omega))
          have s50 := hc.size
          have oo1_50 := own_keep oo1_49 hc (fun q h h2 => by have e1 : wd.heap.size = q := Option.some.inj h; have e2 : v48.heap.size = q := Option.some.inj h2; omega)
          have oo2_50 := own_keep oo2_49 hc (fun q h h2 => by have e1 : v35.heap.size = q := Option.some.inj h; have e2 : v48.heap.size = q := Option.some.inj h2; omega)
          have ho50 := ho; clear ho hc hn
          refine hK.out _ _ ⟨kept_cell D50 HB0.out, kept_cell D50 HB1.out, kept_cell D50 HB2.out⟩ (fun hHeld => ?_)
          clear hK K
          try simp only [Act.put, List.setIfInBounds_toArray]
          refine wpAnyH_ready (rs := [7]) (by kernel_rfl) (by simp) ?_
          refine AllReadyH.cons rfl (fun K hK => ?_) ?_
          · -- 7
            refine step_aps tInts rfl _ _ rfl wd.heap.size _ 0 [] rfl oo1_50 _ _ _ rfl (r.below D50).b (one_ints c.arrays) (by omega) (by omega) ?_
            intro v' v51 ho hc hn _
            simp only [Nat.zero_add, List.nil_append] at ho
            obtain ⟨p51, t51, rfl⟩ := own_shape ho
            have iv51 : ∀ q, (Value.slice p51 c.arrays.length t51).ownBlock = some q → q = wd.heap.size ∨ v50.heap.size ≤ q := newor_cases hn rfl
            have iu51 := ho.lt
            have D51 := D50.trans (hc.below w2.heap.size D50.size (fun q hq h => by have e : wd.heap.size = q := Option.some.inj h; have := D50.size; omega))
            have s51 := hc.size
            have oo0_51 := own_keep ho50 hc (fun q h h2 => by have e2 : wd.heap.size = q := Option.some.inj h2; have := iv50 q h; have := iu50 q h; omega)
            have oo2_51 := own_keep oo2_50 hc (fun q h h2 => by have e1 : v35.heap.size = q := Option.some.inj h; have e2 : wd.heap.size = q := Option.some.inj h2; omega)
            have ho51 := ho; clear ho hc hn
            refine hK.out _ _ ⟨kept_cell D51 HB0.out, kept_cell D51 HB1.out, kept_cell D51 HB2.out⟩ (fun hHeld => ?_)
            clear hK K
            try simp only [Act.put]
            refine wpAnyH_ready (rs := [11]) (by kernel_rfl) (by simp) ?_
            refine AllReadyH.cons rfl (fun K hK => ?_) ?_
            · -- 11
              refine step_aps tInstrs rfl _ _ rfl v35.heap.size _ 0 [] rfl oo2_51 _ _ _ rfl (r.below D51).l (one_rows one_insc c.list) (by omega) (by omega) ?_
              intro v' v52 ho hc hn _
              simp only [Nat.zero_add, List.nil_append] at ho
              obtain ⟨p52, t52, rfl⟩ := own_shape ho
              have iv52 : ∀ q, (Value.slice p52 c.list.length t52).ownBlock = some q → q = v35.heap.size ∨ v51.heap.size ≤ q := newor_cases hn rfl
              have iu52 := ho.lt
              have D52 := D51.trans (hc.below w2.heap.size D51.size (fun q hq h => by have e : v35.heap.size = q := Option.some.inj h; have := D51.size; omega))
              have s52 := hc.size
              have oo0_52 := own_keep oo0_51 hc (fun q h h2 => by have e2 : v35.heap.size = q := Option.some.inj h2; have := iv50 q h; have := iu50 q h; omega)
              have oo1_52 := own_keep ho51 hc (fun q h h2 => by have e2 : v35.heap.size = q := Option.some.inj h2; have := iv51 q h; have := iu51 q h; omega)
              have ho52 := ho; clear ho hc hn
              refine hK.out _ _ ⟨kept_cell D52 HB0.out, kept_cell D52 HB1.out, kept_cell D52 HB2.out⟩ (fun hHeld => ?_)
              clear hK K
              try simp only [Act.put]
              refine take_d (i := 12) (d := 15) (v := ?_) rfl rfl (by kernel_rfl) (by kernel_rfl) (by kernel_rfl) (fun _ _ _ h => h) (Or.inl ⟨by rfl, ?_⟩) (by assumption) ?_
              rotate_left
              · intro W' hSw; (try dsimp only at hSw); obtain ⟨s0, s1, s2⟩ := hSw; go_simp; try with_reducible rfl
              simp only [Act.put]
              have x0 := kept_cell D52 q0
              have y0 := kept_froz D52 (lt_of_cell q0) g0
              have i0 := oo0_52.lt
              have x1 := kept_cell D52 q1
              have y1 := kept_froz D52 (lt_of_cell q1) g1
              have i1 := oo1_52.lt
              have x2 := kept_cell D52 q2
              have y2 := kept_froz D52 (lt_of_cell q2) g2
              have i2 := ho52.lt
              have k1 := lt_of_cell x0
              have m0 := (own_set (own_set (own_set oo0_52 (w.heap.size + 1) 0 (fun h => by have := i0 _ h; omega) (.slice p50 c.vars.length t50)) (w.heap.size + 1) 1 (fun h => by have := i0 _ h; omega) (.slice p51 c.arrays.length t51)) (w.heap.size + 1) 2 (fun h => by have := i0 _ h; omega) (.slice p52 c.list.length t52))
              have n0 := (cell_ne (b := (w.heap.size + 1)) (j := 2) (cell_ne (b := (w.heap.size + 1)) (j := 1) (cell_at _ (w.heap.size + 1) 0 (.slice p50 c.vars.length t50) x0) (by omega) (.slice p51 c.arrays.length t51)) (by omega) (.slice p52 c.list.length t52))
              have m1 := (own_set (own_set (own_set oo1_52 (w.heap.size + 1) 0 (fun h => by have := i1 _ h; omega) (.slice p50 c.vars.length t50)) (w.heap.size + 1) 1 (fun h => by have := i1 _ h; omega) (.slice p51 c.arrays.length t51)) (w.heap.size + 1) 2 (fun h => by have := i1 _ h; omega) (.slice p52 c.list.length t52))
              have n1 := (cell_ne (b := (w.heap.size + 1)) (j := 2) (cell_at _ (w.heap.size + 1) 1 (.slice p51 c.arrays.length t51) (cell_ne (b := (w.heap.size + 1)) (j := 0) x1 (by omega) (.slice p50 c.vars.length t50))) (by omega) (.slice p52 c.list.length t52))
              have m2 := (own_set (own_set (own_set ho52 (w.heap.size + 1) 0 (fun h => by have := i2 _ h; omega) (.slice p50 c.vars.length t50)) (w.heap.size + 1) 1 (fun h => by have := i2 _ h; omega) (.slice p51 c.arrays.length t51)) (w.heap.size + 1) 2 (fun h => by have := i2 _ h; omega) (.slice p52 c.list.length t52))
              have n2 := (cell_at _ (w.heap.size + 1) 2 (.slice p52 c.list.length t52) (cell_ne (b := (w.heap.size + 1)) (j := 1) (cell_ne (b := (w.heap.size + 1)) (j := 0) x2 (by omega) (.slice p50 c.vars.length t50)) (by omega) (.slice p51 c.arrays.length t51)))
              have tt := (bst (bst (bst (btr hb2 D52) (w.heap.size + 1) 0 (by omega) (.slice p50 c.vars.length t50)) (w.heap.size + 1) 1 (by omega) (.slice p51 c.arrays.length t51)) (w.heap.size + 1) 2 (by omega) (.slice p52 c.list.length t52))
              have Z := And.intro (cell_ne (b := (w.heap.size + 1)) (j := 2) (cell_ne (b := (w.heap.size + 1)) (j := 1) (cell_ne (b := (w.heap.size + 1)) (j := 0) (kept_cell D52 HB0.out) (by omega) (.slice p50 c.vars.length t50)) (by omega) (.slice p51 c.arrays.length t51)) (by omega) (.slice p52 c.list.length t52)) (And.intro (cell_ne (b := (w.heap.size + 1)) (j := 2) (cell_ne (b := (w.heap.size + 1)) (j := 1) (cell_ne (b := (w.heap.size + 1)) (j := 0) (kept_cell D52 HB1.out) (by omega) (.slice p50 c.vars.length t50)) (by omega) (.slice p51 c.arrays.length t51)) (by omega) (.slice p52 c.list.length t52)) (cell_ne (b := (w.heap.size + 1)) (j := 2) (cell_ne (b := (w.heap.size + 1)) (j := 1) (cell_ne (b := (w.heap.size + 1)) (j := 0) (kept_cell D52 HB2.out) (by omega) (.slice p50 c.vars.length t50)) (by omega) (.slice p51 c.arrays.length t51)) (by omega) (.slice p52 c.list.length t52)))
              refine wpAnyH_ready (rs := [13]) (by kernel_rfl) (by simp) ?_
              refine AllReadyH.cons rfl (fun K hK => ?_) AllReadyH.nil
              go_simp
              refine hK.out _ _ Z (fun hHeld => ?_)
              clear hK K
              refine wpAnyH_done (by kernel_rfl) ?_ _
              clear x0 x1 x2 y0 y1 y2 q0 q1 q2 g0 g1 g2 Z hHeld
              go_wp2
              exact bodyPost_ret (v := .agg #[.slice p50 c.vars.length t50, .slice p51 c.arrays.length t51, .slice p52 c.list.length t52]) (by simp [results, Try.results91, go_sem, n0, n1, n2]) rfl ⟨_, _, _, rfl, ⟨own_mono m0 (by omega), own_mono m1 (by omega), own_mono m2 (by omega), (fun q h h' => by have := iv50 q h; have := iv51 q h'; have := iu50 q h; have := iu51 q h'; omega)⟩, tt⟩
            exact AllReadyH.nil
          exact AllReadyH.nil
        exact AllReadyH.nil
      exact AllReadyH.nil
    exact AllReadyH.nil
  refine AllReadyH.cons rfl (fun K hK => ?_) ?_
  · -- 8
    go_simp
    obtain ⟨v53, hv⟩ : ∃ X, X = World.alloc wd (.cells #[] 98) := ⟨_, rfl⟩
    rw [← hv]
    have o53 : v53.ownsRow wd.heap.size 98 5 (.slice (some ⟨wd.heap.size, 0, none⟩) 0 0) 0 [] := by rw [hv]; exact own_nil_rows _ _ _
    have hb : Below wd.heap.size wd v53 := by rw [hv]; exact bal (bself _) _
    have D53 := btr D hb
    have s53 : wd.heap.size + 1 ≤ v53.heap.size := by rw [hv]; simp
    clear hv
    clear hb
    refine hK.out _ _ ⟨kept_cell D53 HB0.out, kept_cell D53 HB1.out, kept_cell D53 HB2.out⟩ (fun hHeld => ?_)
    clear hK K
    refine wpAnyH_ready (rs := [0, 4]) (by kernel_rfl) (by simp) ?_
    refine AllReadyH.cons rfl (fun K hK => ?_) ?_
    · -- 0
      go_simp
      obtain ⟨v54, hv⟩ : ∃ X, X = World.alloc v53 (.cells #[] 3) := ⟨_, rfl⟩
      rw [← hv]
      have o54 : v54.ownsRow v53.heap.size 3 1 (.slice (some ⟨v53.heap.size, 0, none⟩) 0 0) 0 [] := by rw [hv]; exact own_nil_rows _ _ _
      have hb : Below v53.heap.size v53 v54 := by rw [hv]; exact bal (bself _) _
      have D54 := btr D53 hb
      have s54 : v53.heap.size + 1 ≤ v54.heap.size := by rw [hv]; simp
      clear hv
      have oo2_54 := own_below o53 hb
      clear hb
      refine hK.out _ _ ⟨kept_cell D54 HB0.out, kept_cell D54 HB1.out, kept_cell D54 HB2.out⟩ (fun hHeld => ?_)
      clear hK K
      refine wpAnyH_ready (rs := [3, 4]) (by kernel_rfl) (by simp) ?_
      refine AllReadyH.cons rfl (fun K hK => ?_) ?_
      · -- 3
        refine step_aps tInts rfl _ _ rfl v53.heap.size _ 0 [] rfl o54 _ _ _ rfl (r.below D54).a (one_ints c.vars) (by omega) (by omega) ?_
        intro v' v55 ho hc hn _
        simp only [Nat.zero_add, List.nil_append] at ho
        obtain ⟨p55, t55, rfl⟩ := own_shape ho
        have iv55 : ∀ q, (Value.slice p55 c.vars.length t55).ownBlock = some q → q = v53.heap.size ∨ v54.heap.size ≤ q := newor_cases hn rfl
        have iu55 := ho.lt
        have D55 := D54.trans (hc.below w2.heap.size D54.size (fun q hq h => by have e : v53.heap.size = q := Option.some.inj h; have := D54.size; omega))
        have s55 := hc.size
        have oo2_55 := own_keep oo2_54 hc (fun q h h2 => by have e1 : wd.heap.size = q := Option.some.inj h; have e2 : v53.heap.size = q := Option.some.inj h2; omega)
        have ho55 := ho; clear ho hc hn
        refine hK.out _ _ ⟨kept_cell D55 HB0.out, kept_cell D55 HB1.out, kept_cell D55 HB2.out⟩ (fun hHeld => ?_)
        clear hK K
        try simp only [Act.put, List.setIfInBounds_toArray]
        refine wpAnyH_ready (rs := [4]) (by kernel_rfl) (by simp) ?_
        refine AllReadyH.cons rfl (fun K hK => ?_) ?_
        · -- 4
          go_simp
          obtain ⟨v56, hv⟩ : ∃ X, X = World.alloc v55 (.cells #[] 3) := ⟨_, rfl⟩
          rw [← hv]
          have o56 : v56.ownsRow v55.heap.size 3 1 (.slice (some ⟨v55.heap.size, 0, none⟩) 0 0) 0 [] := by rw [hv]; exact own_nil_rows _ _ _
          have hb : Below v55.heap.size v55 v56 := by rw [hv]; exact bal (bself _) _
          have D56 := btr D55 hb
          have s56 : v55.heap.size + 1 ≤ v56.heap.size := by rw [hv]; simp
          clear hv
          have oo0_56 := own_below ho55 hb
          have oo2_56 := own_below oo2_55 hb
          clear hb
          refine hK.out _ _ ⟨kept_cell D56 HB0.out, kept_cell D56 HB1.out, kept_cell D56 HB2.out⟩ (fun hHeld => ?_)
          clear hK K
          refine wpAnyH_ready (rs := [7]) (by kernel_rfl) (by simp) ?_
          refine AllReadyH.cons rfl (fun K hK => ?_) ?_
          · -- 7
            refine step_aps tInts rfl _ _ rfl v55.heap.size _ 0 [] rfl o56 _ _ _ rfl (r.below D56).b (one_ints c.arrays) (by omega) (by omega) ?_
            intro v' v57 ho hc hn _
            simp only [Nat.zero_add, List.nil_append] at ho
            obtain ⟨p57, t57, rfl⟩ := own_shape ho
            have iv57 : ∀ q, (Value.slice p57 c.arrays.length t57).ownBlock = some q → q = v55.heap.size ∨ v56.heap.size ≤ q := newor_cases hn rfl
            have iu57 := ho.lt
            have D57 := D56.trans (hc.below w2.heap.size D56.size (fun q hq h => by have e : v55.heap.size = q := Option.some.inj h; have := D56.size; omega))
            have s57 := hc.size
            have oo0_57 := own_keep oo0_56 hc (fun q h h2 => by have e2 : v55.heap.size = q := Option.some.inj h2; have := iv55 q h; have := iu55 q h; omega)
            have oo2_57 := own_keep oo2_56 hc (fun q h h2 => by have e1 : wd.heap.size = q := Option.some.inj h; have e2 : v55.heap.size = q := Option.some.inj h2; omega)
            have ho57 := ho; clear ho hc hn
            refine hK.out _ _ ⟨kept_cell D57 HB0.out, kept_cell D57 HB1.out, kept_cell D57 HB2.out⟩ (fun hHeld => ?_)
            clear hK K
            try simp only [Act.put, List.setIfInBounds_toArray]
            refine wpAnyH_ready (rs := [11]) (by kernel_rfl) (by simp) ?_
            refine AllReadyH.cons rfl (fun K hK => ?_) ?_
            · -- 11
              refine step_aps tInstrs rfl _ _ rfl wd.heap.size _ 0 [] rfl oo2_57 _ _ _ rfl (r.below D57).l (one_rows one_insc c.list) (by omega) (by omega) ?_
              intro v' v58 ho hc hn _
              simp only [Nat.zero_add, List.nil_append] at ho
              obtain ⟨p58, t58, rfl⟩ := own_shape ho
              have iv58 : ∀ q, (Value.slice p58 c.list.length t58).ownBlock = some q → q = wd.heap.size ∨ v57.heap.size ≤ q := newor_cases hn rfl
              have iu58 := ho.lt
              have D58 := D57.trans (hc.below w2.heap.size D57.size (fun q hq h => by have e : wd.heap.size = q := Option.some.inj h; have := D57.size; omega))
              have s58 := hc.size
              have oo0_58 := own_keep oo0_57 hc (fun q h h2 => by have e2 : wd.heap.size = q := Option.some.inj h2; have := iv55 q h; have := iu55 q h; omega)
              have oo1_58 := own_keep ho57 hc (fun q h h2 => by have e2 : wd.heap.size = q := Option.some.inj h2; have := iv57 q h; have := iu57 q h; omega)
              have ho58 := ho; clear ho hc hn
              refine hK.out _ _ ⟨kept_cell D58 HB0.out, kept_cell D58 HB1.out, kept_cell D58 HB2.out⟩ (fun hHeld => ?_)
              clear hK K
              try simp only [Act.put]
              refine take_d (i := 12) (d := 15) (v := ?_) rfl rfl (by kernel_rfl) (by kernel_rfl) (by kernel_rfl) (fun _ _ _ h => h) (Or.inl ⟨by rfl, ?_⟩) (by assumption) ?_
              rotate_left
              · intro W' hSw; (try dsimp only at hSw); obtain ⟨s0, s1, s2⟩ := hSw; go_simp; try with_reducible rfl
              simp only [Act.put]
              have x0 := kept_cell D58 q0
              have y0 := kept_froz D58 (lt_of_cell q0) g0
              have i0 := oo0_58.lt
              have x1 := kept_cell D58 q1
              have y1 := kept_froz D58 (lt_of_cell q1) g1
              have i1 := oo1_58.lt
              have x2 := kept_cell D58 q2
              have y2 := kept_froz D58 (lt_of_cell q2) g2
              have i2 := ho58.lt
              have k1 := lt_of_cell x0
              have m0 := (own_set (own_set (own_set oo0_58 (w.heap.size + 1) 0 (fun h => by have := i0 _ h; omega) (.slice p55 c.vars.length t55)) (w.heap.size + 1) 1 (fun h => by have := i0 _ h; omega) (.slice p57 c.arrays.length t57)) (w.heap.size + 1) 2 (fun h => by have := i0 _ h; omega) (.slice p58 c.list.length t58))
              have n0 := (cell_ne (b := (w.heap.size + 1)) (j := 2) (cell_ne (b := (w.heap.size + 1)) (j := 1) (cell_at _ (w.heap.size + 1) 0 (.slice p55 c.vars.length t55) x0) (by omega) (.slice p57 c.arrays.length t57)) (by omega) (.slice p58 c.list.length t58))
              have m1 := (own_set (own_set (own_set oo1_58 (w.heap.size + 1) 0 (fun h => by have := i1 _ h; omega) (.slice p55 c.vars.length t55)) (w.heap.size + 1) 1 (fun h => by have := i1 _ h; omega) (.slice p57 c.arrays.length t57)) (w.heap.size + 1) 2 (fun h => by have := i1 _ h; omega) (.slice p58 c.list.length t58))
              have n1 := (cell_ne (b := (w.heap.size + 1)) (j := 2) (cell_at _ (w.heap.size + 1) 1 (.slice p57 c.arrays.length t57) (cell_ne (b := (w.heap.size + 1)) (j := 0) x1 (by omega) (.slice p55 c.vars.length t55))) (by omega) (.slice p58 c.list.length t58))
              have m2 := (own_set (own_set (own_set ho58 (w.heap.size + 1) 0 (fun h => by have := i2 _ h; omega) (.slice p55 c.vars.length t55)) (w.heap.size + 1) 1 (fun h => by have := i2 _ h; omega) (.slice p57 c.arrays.length t57)) (w.heap.size + 1) 2 (fun h => by have := i2 _ h; omega) (.slice p58 c.list.length t58))
              have n2 := (cell_at _ (w.heap.size + 1) 2 (.slice p58 c.list.length t58) (cell_ne (b := (w.heap.size + 1)) (j := 1) (cell_ne (b := (w.heap.size + 1)) (j := 0) x2 (by omega) (.slice p55 c.vars.length t55)) (by omega) (.slice p57 c.arrays.length t57)))
              have tt := (bst (bst (bst (btr hb2 D58) (w.heap.size + 1) 0 (by omega) (.slice p55 c.vars.length t55)) (w.heap.size + 1) 1 (by omega) (.slice p57 c.arrays.length t57)) (w.heap.size + 1) 2 (by omega) (.slice p58 c.list.length t58))
              have Z := And.intro (cell_ne (b := (w.heap.size + 1)) (j := 2) (cell_ne (b := (w.heap.size + 1)) (j := 1) (cell_ne (b := (w.heap.size + 1)) (j := 0) (kept_cell D58 HB0.out) (by omega) (.slice p55 c.vars.length t55)) (by omega) (.slice p57 c.arrays.length t57)) (by omega) (.slice p58 c.list.length t58)) (And.intro (cell_ne (b := (w.heap.size + 1)) (j := 2) (cell_ne (b := (w.heap.size + 1)) (j := 1) (cell_ne (b := (w.heap.size + 1)) (j := 0) (kept_cell D58 HB1.out) (by omega) (.slice p55 c.vars.length t55)) (by omega) (.slice p57 c.arrays.length t57)) (by omega) (.slice p58 c.list.length t58)) (cell_ne (b := (w.heap.size + 1)) (j := 2) (cell_ne (b := (w.heap.size + 1)) (j := 1) (cell_ne (b := (w.heap.size + 1)) (j := 0) (kept_cell D58 HB2.out) (by omega) (.slice p55 c.vars.length t55)) (by omega) (.slice p57 c.arrays.length t57)) (by omega) (.slice p58 c.list.length t58)))
              refine wpAnyH_ready (rs := [13]) (by kernel_rfl) (by simp) ?_
              refine AllReadyH.cons rfl (fun K hK => ?_) AllReadyH.nil
              go_simp
              refine hK.out _ _ Z (fun hHeld => ?_)
              clear hK K
              refine wpAnyH_done (by kernel_rfl) ?_ _
              clear x0 x1 x2 y0 y1 y2 q0 q1 q2 g0 g1 g2 Z hHeld
              go_wp2
              exact bodyPost_ret (v := .agg #[.slice p55 c.vars.length t55, .slice p57 c.arrays.length t57, .slice p58 c.list.length t58]) (by simp [results, Try.results91, go_sem, n0, n1, n2]) rfl ⟨_, _, _, rfl, ⟨own_mono m0 (by omega), own_mono m1 (by omega), own_mono m2 (by omega), (fun q h h' => by have := iv55 q h; have := iv57 q h'; have := iu55 q h; have := iu57 q h'; omega)⟩, tt⟩
            exact AllReadyH.nil
          exact AllReadyH.nil
        exact AllReadyH.nil
      refine AllReadyH.cons rfl (fun K hK => ?_) ?_
      · -- 4
        go_simp
        obtain ⟨v59, hv⟩ : ∃ X, X = World.alloc v54 (.cells #[] 3) := ⟨_, rfl⟩
        rw [← hv]
        have o59 : v59.ownsRow v54.heap.size 3 1 (.slice (some ⟨v54.heap.size, 0, none⟩) 0 0) 0 [] := by rw [hv]; exact own_nil_rows _ _ _
        have hb : Below v54.heap.size v54 v59 := by rw [hv]; exact bal (bself _) _
        have D59 := btr D54 hb
        have s59 : v54.heap.size + 1 ≤ v59.heap.size := by rw [hv]; simp
        clear hv
        have oo0_59 := own_below o54 hb
        have oo2_59 := own_below oo2_54 hb
        clear hb
        refine hK.out _ _ ⟨kept_cell D59 HB0.out, kept_cell D59 HB1.out, kept_cell D59 HB2.out⟩ (fun hHeld => ?_)
        clear hK K
        refine wpAnyH_ready (rs := [3]) (by kernel_rfl) (by simp) ?_
        refine AllReadyH.cons rfl (fun K hK => ?_) ?_
        · -- 3
          refine step_aps tInts rfl _ _ rfl v53.heap.size _ 0 [] rfl oo0_59 _ _ _ rfl (r.below D59).a (one_ints c.vars) (by omega) (by omega) ?_
          intro v' v60 ho hc hn _
          simp only [Nat.zero_add, List.nil_append] at ho
          obtain ⟨p60, t60, rfl⟩ := own_shape ho
          have iv60 : ∀ q, (Value.slice p60 c.vars.length t60).ownBlock = some q → q = v53.heap.size ∨ v59.heap.size ≤ q := newor_cases hn rfl
          have iu60 := ho.lt
          have D60 := D59.trans (hc.below w2.heap.size D59.size (fun q hq h => by have e : v53.heap.size = q := Option.some.inj h; have := D59.size; omega))
          have s60 := hc.size
          have oo1_60 := own_keep o59 hc (fun q h h2 => by have e1 : v54.heap.size = q := Option.some.inj h; have e2 : v53.heap.size = q := Option.some.inj h2; omega)
          have oo2_60 := own_keep oo2_59 hc (fun q h h2 => by have e1 : wd.heap.size = q := Option.some.inj h; have e2 : v53.heap.size = q := Option.some.inj h2; omega)
          have ho60 := ho; clear ho hc hn
          refine hK.out _ _ ⟨kept_cell D60 HB0.out, kept_cell D60 HB1.out, kept_cell D60 HB2.out⟩ (fun hHeld => ?_)
          clear hK K
          try simp only [Act.put, List.setIfInBounds_toArray]
          refine wpAnyH_ready (rs := [7]) (by kernel_rfl) (by simp) ?_
          refine AllReadyH.cons rfl (fun K hK => ?_) ?_
          · -- 7
            refine step_aps tInts rfl _ _ rfl v54.heap.size _ 0 [] rfl oo1_60 _ _ _ rfl (r.below D60).b (one_ints c.arrays) (by omega) (by omega) ?_
            intro v' v61 ho hc hn _
            simp only [Nat.zero_add, List.nil_append] at ho
            obtain ⟨p61, t61, rfl⟩ := own_shape ho
            have iv61 : ∀ q, (Value.slice p61 c.arrays.length t61).ownBlock = some q → q = v54.heap.size ∨ v60.heap.size ≤ q := newor_cases hn rfl
            have iu61 := ho.lt
            have D61 := D60.trans (hc.below w2.heap.size D60.size (fun q hq h => by have e : v54.heap.size = q := Option.some.inj h; have := D60.size; omega))
            have s61 := hc.size
            have oo0_61 := own_keep ho60 hc (fun q h h2 => by have e2 : v54.heap.size = q := Option.some.inj h2; have := iv60 q h; have := iu60 q h; omega)
            have oo2_61 := own_keep oo2_60 hc (fun q h h2 => by have e1 : wd.heap.size = q := Option.some.inj h; have e2 : v54.heap.size = q := Option.some.inj h2; omega)
            have ho61 := ho; clear ho hc hn
            refine hK.out _ _ ⟨kept_cell D61 HB0.out, kept_cell D61 HB1.out, kept_cell D61 HB2.out⟩ (fun hHeld => ?_)
            clear hK K
            try simp only [Act.put]
            refine wpAnyH_ready (rs := [11]) (by kernel_rfl) (by simp) ?_
            refine AllReadyH.cons rfl (fun K hK => ?_) ?_
            · -- 11
              refine step_aps tInstrs rfl _ _ rfl wd.heap.size _ 0 [] rfl oo2_61 _ _ _ rfl (r.below D61).l (one_rows one_insc c.list) (by omega) (by omega) ?_
              intro v' v62 ho hc hn _
              simp only [Nat.zero_add, List.nil_append] at ho
              obtain ⟨p62, t62, rfl⟩ := own_shape ho
              have iv62 : ∀ q, (Value.slice p62 c.list.length t62).ownBlock = some q → q = wd.heap.size ∨ v61.heap.size ≤ q := newor_cases hn rfl
              have iu62 := ho.lt
              have D62 := D61.trans (hc.below w2.heap.size D61.size (fun q hq h => by have e : wd.heap.size = q := Option.some.inj h; have := D61.size; omega))
              have s62 := hc.size
              have oo0_62 := own_keep oo0_61 hc (fun q h h2 => by have e2 : wd.heap.size = q := Option.some.inj h2; have := iv60 q h; have := iu60 q h; omega)
              have oo1_62 := own_keep ho61 hc (fun q h h2 => by have e2 : wd.heap.size = q := Option.some.inj h2; have := iv61 q h; have := iu61 q h; omega)
              have ho62 := ho; clear ho hc hn
              refine hK.out _ _ ⟨kept_cell D62 HB0.out, kept_cell D62 HB1.out, kept_cell D62 HB2.out⟩ (fun hHeld => ?_)
              clear hK K
              try simp only [Act.put]
              refine take_d (i := 12) (d := 15) (v := ?_) rfl rfl (by kernel_rfl) (by kernel_rfl) (by kernel_rfl) (fun _ _ _ h => h) (Or.inl ⟨by rfl, ?_⟩) (by assumption) ?_
              rotate_left
              · intro W' hSw; (try dsimp only at hSw); obtain ⟨s0, s1, s2⟩ := hSw; go_simp; try with_reducible rfl
              simp only [Act.put]
              have x0 := kept_cell D62 q0
              have y0 := kept_froz D62 (lt_of_cell q0) g0
              have i0 := oo0_62.lt
              have x1 := kept_cell D62 q1
              have y1 := kept_froz D62 (lt_of_cell q1) g1
              have i1 := oo1_62.lt
              have x2 := kept_cell D62 q2
              have y2 := kept_froz D62 (lt_of_cell q2) g2
              have i2 := ho62.lt
              have k1 := lt_of_cell x0
              have m0 := (own_set (own_set (own_set oo0_62 (w.heap.size + 1) 0 (fun h => by have := i0 _ h; omega) (.slice p60 c.vars.length t60)) (w.heap.size + 1) 1 (fun h => by have := i0 _ h; omega) (.slice p61 c.arrays.length t61)) (w.heap.size + 1) 2 (fun h => by have := i0 _ h; omega) (.slice p62 c.list.length t62))
              have n0 := (cell_ne (b := (w.heap.size + 1)) (j := 2) (cell_ne (b := (w.heap.size + 1)) (j := 1) (cell_at _ (w.heap.size + 1) 0 (.slice p60 c.vars.length t60) x0) (by omega) (.slice p61 c.arrays.length t61)) (by omega) (.slice p62 c.list.length t62))
              have m1 := (own_set (own_set (own_set oo1_62 (w.heap.size + 1) 0 (fun h => by have := i1 _ h; omega) (.slice p60 c.vars.length t60)) (w.heap.size + 1) 1 (fun h => by have := i1 _ h; omega) (.slice p61 c.arrays.length t61)) (w.heap.size + 1) 2 (fun h => by have := i1 _ h; omega) (.slice p62 c.list.length t62))
              have n1 := (cell_ne (b := (w.heap.size + 1)) (j := 2) (cell_at _ (w.heap.size + 1) 1 (.slice p61 c.arrays.length t61) (cell_ne (b := (w.heap.size + 1)) (j := 0) x1 (by omega) (.slice p60 c.vars.length t60))) (by omega) (.slice p62 c.list.length t62))
              have m2 := (own_set (own_set (own_set ho62 (w.heap.size + 1) 0 (fun h => by have := i2 _ h; omega) (.slice p60 c.vars.length t60)) (w.heap.size + 1) 1 (fun h => by have := i2 _ h; omega) (.slice p61 c.arrays.length t61)) (w.heap.size + 1) 2 (fun h => by have := i2 _ h; omega) (.slice p62 c.list.length t62))
              have n2 := (cell_at _ (w.heap.size + 1) 2 (.slice p62 c.list.length t62) (cell_ne (b := (w.heap.size + 1)) (j := 1) (cell_ne (b := (w.heap.size + 1)) (j := 0) x2 (by omega) (.slice p60 c.vars.length t60)) (by omega) (.slice p61 c.arrays.length t61)))
              have tt := (bst (bst (bst (btr hb2 D62) (w.heap.size + 1) 0 (by omega) (.slice p60 c.vars.length t60)) (w.heap.size + 1) 1 (by omega) (.slice p61 c.arrays.length t61)) (w.heap.size + 1) 2 (by omega) (.slice p62 c.list.length t62))
              have Z := And.intro (cell_ne (b := (w.heap.size + 1)) (j := 2) (cell_ne (b := (w.heap.size + 1)) (j := 1) (cell_ne (b := (w.heap.size + 1)) (j := 0) (kept_cell D62 HB0.out) (by omega) (.slice p60 c.vars.length t60)) (by omega) (.slice p61 c.arrays.length t61)) (by omega) (.slice p62 c.list.length t62)) (And.intro (cell_ne (b := (w.heap.size + 1)) (j := 2) (cell_ne (b := (w.heap.size + 1)) (j := 1) (cell_ne (b := (w.heap.size + 1)) (j := 0) (kept_cell D62 HB1.out) (by omega) (.slice p60 c.vars.length t60)) (by omega) (.slice p61 c.arrays.length t61)) (by omega) (.slice p62 c.list.length t62)) (cell_ne (b := (w.heap.size + 1)) (j := 2) (cell_ne (b := (w.heap.size + 1)) (j := 1) (cell_ne (b := (w.heap.size + 1)) (j := 0) (kept_cell D62 HB2.out) (by omega) (.slice p60 c.vars.length t60)) (by omega) (.slice p61 c.arrays.length t61)) (by omega) (.slice p62 c.list.length t62)))
              refine wpAnyH_ready (rs := [13]) (by kernel_rfl) (by simp) ?_
              refine AllReadyH.cons rfl (fun K hK => ?_) AllReadyH.nil
              go_simp
              refine hK.out _ _ Z (fun hHeld => ?_)
              clear hK K
              refine wpAnyH_done (by kernel_rfl) ?_ _
              clear x0 x1 x2 y0 y1 y2 q0 q1 q2 g0 g1 g2 Z hHeld
              go_wp2
              exact bodyPost_ret (v := .agg #[.slice p60 c.vars.length t60, .slice p61 c.arrays.length t61, .slice p62 c.list.length t62]) (by simp [results, Try.results91, go_sem, n0, n1, n2]) rfl ⟨_, _, _, rfl, ⟨own_mono m0 (by omega), own_mono m1 (by omega), own_mono m2 (by omega), (fun q h h' => by have := iv60 q h; have := iv61 q h'; have := iu60 q h; have := iu61 q h'; omega)⟩, tt⟩
            exact AllReadyH.nil
          exact AllReadyH.nil
        exact AllReadyH.nil
      exact AllReadyH.nil
    refine AllReadyH.cons rfl (fun K hK => ?_) ?_
    · -- 4
      go_simp
      obtain ⟨v63, hv⟩ : ∃ X, X = World.alloc v53 (.cells #[] 3) := ⟨_, rfl⟩
      rw [← hv]
      have o63 : v63.ownsRow v53.heap.size 3 1 (.slice (some ⟨v53.heap.size, 0, none⟩) 0 0) 0 [] := by rw [hv]; exact own_nil_rows _ _ _
      have hb : Below v53.heap.size v53 v63 := by rw [hv]; exact bal (bself _) _
      have D63 := btr D53 hb
      have s63 : v53.heap.size + 1 ≤ v63.heap.size := by rw [hv]; simp
      clear hv
      have oo2_63 := own_below o53 hb
      clear hb
      refine hK.out _ _ ⟨kept_cell D63 HB0.out, kept_cell D63 HB1.out, kept_cell D63 HB2.out⟩ (fun hHeld => ?_)
      clear hK K
      refine wpAnyH_ready (rs := [0]) (by kernel_rfl) (by simp) ?_
      refine AllReadyH.cons rfl (fun K hK => ?_) ?_
      · -- 0
        go_simp
        obtain ⟨v64, hv⟩ : ∃ X, X = World.alloc v63 (.cells #[] 3) := ⟨_, rfl⟩
        rw [← hv]
        have o64 : v64.ownsRow v63.heap.size 3 1 (.slice (some ⟨v63.heap.size, 0, none⟩) 0 0) 0 [] := by rw [hv]; exact own_nil_rows _ _ _
        have hb : Below v63.heap.size v63 v64 := by rw [hv]; exact bal (bself _) _
        have D64 := btr D63 hb
        have s64 : v63.heap.size + 1 ≤ v64.heap.size := by rw [hv]; simp
        clear hv
        have oo1_64 := own_below o63 hb
        have oo2_64 := own_below oo2_63 hb
        clear hb
        refine hK.out _ _ ⟨kept_cell D64 HB0.out, kept_cell D64 HB1.out, kept_cell D64 HB2.out⟩ (fun hHeld => ?_)
        clear hK K
        refine wpAnyH_ready (rs := [3]) (by kernel_rfl) (by simp) ?_
        refine AllReadyH.cons rfl (fun K hK => ?_) ?_
        · -- 3
          refine step_aps tInts rfl _ _ rfl v63.heap.size _ 0 [] rfl o64 _ _ _ rfl (r.below D64).a (one_ints c.vars) (by omega) (by omega) ?_
          intro v' v65 ho hc hn _
          simp only [Nat.zero_add, List.nil_append] at ho
          obtain ⟨p65, t65, rfl⟩ := own_shape ho
          have iv65 : ∀ q, (Value.slice p65 c.vars.length t65).ownBlock = some q → q = v63.heap.size ∨ v64.heap.size ≤ q := newor_cases hn rfl
          have iu65 := ho.lt
          have D65 := D64.trans (hc.below w2.heap.size D64.size (fun q hq h => by have e : v63.heap.size = q := Option.some.inj h; have := D64.size; omega))
          have s65 := hc.size
          have oo1_65 := own_keep oo1_64 hc (fun q h h2 => by have e1 : v53.heap.size = q := Option.some.inj h; have e2 : v63.heap.size = q := Option.some.inj h2; omega)
          have oo2_65 := own_keep oo2_64 hc (fun q h h2 => by have e1 : wd.heap.size = q := Option.some.inj h; have e2 : v63.heap.size = q := Option.some.inj h2; omega)
          have ho65 := ho; clear ho hc hn
          refine hK.out _ _ ⟨kept_cell D65 HB0.out, kept_cell D65 HB1.out, kept_cell D65 HB2.out⟩ (fun hHeld => ?_)
          clear hK K
          try simp only [Act.put, List.setIfInBounds_toArray]
          refine wpAnyH_ready (rs := [7]) (by kernel_rfl) (by simp) ?_
          refine AllReadyH.cons rfl (fun K hK => ?_) ?_
          · -- 7
            refine step_aps tInts rfl _ _ rfl v53.heap.size _ 0 [] rfl oo1_65 _ _ _ rfl (r.below D65).b (one_ints c.arrays) (by omega) (by omega) ?_
            intro v' v66 ho hc hn _
            simp only [Nat.zero_add, List.nil_append] at ho
            obtain ⟨p66, t66, rfl⟩ := own_shape ho
            have iv66 : ∀ q, (Value.slice p66 c.arrays.length t66).ownBlock = some q → q = v53.heap.size ∨ v65.heap.size ≤ q := newor_cases hn rfl
            have iu66 := ho.lt
            have D66 := D65.trans (hc.below w2.heap.size D65.size (fun q hq h => by have e : v53.heap.size = q := Option.some.inj h; have := D65.size; omega))
            have s66 := hc.size
            have oo0_66 := own_keep ho65 hc (fun q h h2 => by have e2 : v53.heap.size = q := Option.some.inj h2; have := iv65 q h; have := iu65 q h; omega)
            have oo2_66 := own_keep oo2_65 hc (fun q h h2 => by have e1 : wd.heap.size = q := Option.some.inj h; have e2 : v53.heap.size = q := Option.some.inj h2; omega)
            have ho66 := ho; clear ho hc hn
            refine hK.out _ _ ⟨kept_cell D66 HB0.out, kept_cell D66 HB1.out, kept_cell D66 HB2.out⟩ (fun hHeld => ?_)
            clear hK K
            try simp only [Act.put]
            refine wpAnyH_ready (rs := [11]) (by kernel_rfl) (by simp) ?_
            refine AllReadyH.cons rfl (fun K hK => ?_) ?_
            · -- 11
              refine step_aps tInstrs rfl _ _ rfl wd.heap.size _ 0 [] rfl oo2_66 _ _ _ rfl (r.below D66).l (one_rows one_insc c.list) (by omega) (by omega) ?_
              intro v' v67 ho hc hn _
              simp only [Nat.zero_add, List.nil_append] at ho
              obtain ⟨p67, t67, rfl⟩ := own_shape ho
              have iv67 : ∀ q, (Value.slice p67 c.list.length t67).ownBlock = some q → q = wd.heap.size ∨ v66.heap.size ≤ q := newor_cases hn rfl
              have iu67 := ho.lt
              have D67 := D66.trans (hc.below w2.heap.size D66.size (fun q hq h => by have e : wd.heap.size = q := Option.some.inj h; have := D66.size; omega))
              have s67 := hc.size
              have oo0_67 := own_keep oo0_66 hc (fun q h h2 => by have e2 : wd.heap.size = q := Option.some.inj h2; have := iv65 q h; have := iu65 q h; omega)
              have oo1_67 := own_keep ho66 hc (fun q h h2 => by have e2 : wd.heap.size = q := Option.some.inj h2; have := iv66 q h; have := iu66 q h; omega)
              have ho67 := ho; clear ho hc hn
              refine hK.out _ _ ⟨kept_cell D67 HB0.out, kept_cell D67 HB1.out, kept_cell D67 HB2.out⟩ (fun hHeld => ?_)
              clear hK K
              try simp only [Act.put]
              refine take_d (i := 12) (d := 15) (v := ?_) rfl rfl (by kernel_rfl) (by kernel_rfl) (by kernel_rfl) (fun _ _ _ h => h) (Or.inl ⟨by rfl, ?_⟩) (by assumption) ?_
              rotate_left
              · intro W' hSw; (try dsimp only at hSw); obtain ⟨s0, s1, s2⟩ := hSw; go_simp; try with_reducible rfl
              simp only [Act.put]
              have x0 := kept_cell D67 q0
              have y0 := kept_froz D67 (lt_of_cell q0) g0
              have i0 := oo0_67.lt
              have x1 := kept_cell D67 q1
              have y1 := kept_froz D67 (lt_of_cell q1) g1
              have i1 := oo1_67.lt
              have x2 := kept_cell D67 q2
              have y2 := kept_froz D67 (lt_of_cell q2) g2
              have i2 := ho67.lt
              have k1 := lt_of_cell x0
              have m0 := (own_set (own_set (own_set oo0_67 (w.heap.size + 1) 0 (fun h => by have := i0 _ h; omega) (.slice p65 c.vars.length t65)) (w.heap.size + 1) 1 (fun h => by have := i0 _ h; omega) (.slice p66 c.arrays.length t66)) (w.heap.size + 1) 2 (fun h => by have := i0 _ h; omega) (.slice p67 c.list.length t67))
              have n0 := (cell_ne (b := (w.heap.size + 1)) (j := 2) (cell_ne (b := (w.heap.size + 1)) (j := 1) (cell_at _ (w.heap.size + 1) 0 (.slice p65 c.vars.length t65) x0) (by omega) (.slice p66 c.arrays.length t66)) (by omega) (.slice p67 c.list.length t67))
              have m1 := (own_set (own_set (own_set oo1_67 (w.heap.size + 1) 0 (fun h => by have := i1 _ h; omega) (.slice p65 c.vars.length t65)) (w.heap.size + 1) 1 (fun h => by have := i1 _ h; omega) (.slice p66 c.arrays.length t66)) (w.heap.size + 1) 2 (fun h => by have := i1 _ h; omega) (.slice p67 c.list.length t67))
              have n1 := (cell_ne (b := (w.heap.size + 1)) (j := 2) (cell_at _ (w.heap.size + 1) 1 (.slice p66 c.arrays.length t66) (cell_ne (b := (w.heap.size + 1)) (j := 0) x1 (by omega) (.slice p65 c.vars.length t65))) (by omega) (.slice p67 c.list.length t67))
              have m2 := (own_set (own_set (own_set ho67 (w.heap.size + 1) 0 (fun h => by have := i2 _ h; omega) (.slice p65 c.vars.length t65)) (w.heap.size + 1) 1 (fun h => by have := i2 _ h; omega) (.slice p66 c.arrays.length t66)) (w.heap.size + 1) 2 (fun h => by have := i2 _ h; omega) (.slice p67 c.list.length t67))
              have n2 := (cell_at _ (w.heap.size + 1) 2 (.slice p67 c.list.length t67) (cell_ne (b := (w.heap.size + 1)) (j := 1) (cell_ne (b := (w.heap.size + 1)) (j := 0) x2 (by omega) (.slice p65 c.vars.length t65)) (by omega) (.slice p66 c.arrays.length t66)))
              have tt := (bst (bst (bst (btr hb2 D67) (w.heap.size + 1) 0 (by omega) (.slice p65 c.vars.length t65)) (w.heap.size + 1) 1 (by omega) (.slice p66 c.arrays.length t66)) (w.heap.size + 1) 2 (by omega) (.slice p67 c.list.length t67))
              have Z := And.intro (cell_ne (b := (w.heap.size + 1)) (j := 2) (cell_ne (b := (w.heap.size + 1)) (j := 1) (cell_ne (b := (w.heap.size + 1)) (j := 0) (kept_cell D67 HB0.out) (by omega) (.slice p65 c.vars.length t65)) (by omega) (.slice p66 c.arrays.length t66)) (by omega) (.slice p67 c.list.length t67)) (And.intro (cell_ne (b := (w.heap.size + 1)) (j := 2) (cell_ne (b := (w.heap.size + 1)) (j := 1) (cell_ne (b := (w.heap.size + 1)) (j := 0) (kept_cell D67 HB1.out) (by omega) (.slice p65 c.vars.length t65)) (by omega) (.slice p66 c.arrays.length t66)) (by omega) (.slice p67 c.list.length t67)) (cell_ne (b := (w.heap.size + 1)) (j := 2) (cell_ne (b := (w.heap.size + 1)) (j := 1) (cell_ne (b := (w.heap.size + 1)) (j := 0) (kept_cell D67 HB2.out) (by omega) (.slice p65 c.vars.length t65)) (by omega) (.slice p66 c.arrays.length t66)) (by omega) (.slice p67 c.list.length t67)))
              refine wpAnyH_ready (rs := [13]) (by kernel_rfl) (by simp) ?_
              refine AllReadyH.cons rfl (fun K hK => ?_) AllReadyH.nil
              go_simp
              refine hK.out _ _ Z (fun hHeld => ?_)
              clear hK K
              refine wpAnyH_done (by kernel_rfl) ?_ _
              clear x0 x1 x2 y0 y1 y2 q0 q1 q2 g0 g1 g2 Z hHeld
              go_wp2
              exact bodyPost_ret (v := .agg #[.slice p65 c.vars.length t65, .slice p66 c.arrays.length t66, .slice p67 c.list.length t67]) (by simp [results, Try.results91, go_sem, n0, n1, n2]) rfl ⟨_, _, _, rfl, ⟨own_mono m0 (by omega), own_mono m1 (by omega), own_mono m2 (by omega), (fun q h h' => by have := iv65 q h; have := iv66 q h'; have := iu65 q h; have := iu66 q h'; omega)⟩, tt⟩
            exact AllReadyH.nil
          exact AllReadyH.nil
        exact AllReadyH.nil
      exact AllReadyH.nil
    exact AllReadyH.nil
  exact AllReadyH.nil
end Go.Proofs.Ytkbbpnfhenoihaa
