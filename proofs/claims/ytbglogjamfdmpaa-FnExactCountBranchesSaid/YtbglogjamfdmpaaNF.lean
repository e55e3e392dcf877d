/-
  Parts of the proof of the law FnExactCountBranches.
-/
import Derived.Test.YtbglogjamfdmpaaNA
namespace Go.Proofs.Ytbglogjamfdmpaa
open Go.RowKit

def brI (b : Bool) : Int := if b = true then 1 else 0
theorem brN_succ (c : Cd) (n : Nat) (s : Ms) : (brN c (n + 1) s : Int) = (brN c n s : Int) + brI (isBr (opAt c s n)) := by
  simp only [brN, brI]; split <;> simp

set_option maxHeartbeats 6400000 in
set_option maxRecDepth 100000 in
theorem cnt1_any (Bc X b off k c2 : Nat) (n : Nat) (u : Value) (c : Cd) (w : World) (hc : w.cell? ⟨Bc, 0, none⟩ = some (.int .i64 n)) (hf : w.frozen? ⟨Bc, 0, none⟩ = false) (hX : w.cell? ⟨X, 2, none⟩ = some (.slice (some ⟨b, off, none⟩) c.list.length c2)) (hk : k < c.list.length)
    (hl : w.cell? ⟨b, off + k * 5, none⟩ = some (.int .i64 c.list[k].op) ∧ w.cell? ⟨b, off + k * 5 + 1, none⟩ = some (.int .i64 c.list[k].a) ∧ w.cell? ⟨b, off + k * 5 + 2, none⟩ = some (.int .i64 c.list[k].b) ∧ w.cell? ⟨b, off + k * 5 + 3, none⟩ = some (.int .i64 c.list[k].c) ∧ w.cell? ⟨b, off + k * 5 + 4, none⟩ = some (.int .i64 c.list[k].d)) (hn : n ≤ 1048576) (hbB : ¬ b = Bc) :
    Calls Try.prog 61 #[.int .i64 (k : Int), u, .pointer (some ⟨Bc, 0, none⟩), .pointer (some ⟨X, 0, none⟩)] w fun e w' => e = .returned (.tuple #[]) ∧ w'.cell? ⟨Bc, 0, none⟩ = some (.int .i64 ((n : Int) + brI (isBr c.list[k].op))) ∧ w'.frozen? ⟨Bc, 0, none⟩ = false ∧ Chg (fun q => q = Bc) w w' := by
  obtain ⟨e0, e1, e2, e3, e4⟩ := hl
  have hq : (k : Int) < (c.list.length : Int) := by omega
  generalize c.list[k] = x at *
  have hwr : IntKind.i64.wrap ((n : Int) + brI (isBr x.op)) = (n : Int) + brI (isBr x.op) := by
    have h0 : 0 ≤ brI (isBr x.op) ∧ brI (isBr x.op) ≤ 1 := by unfold brI; split <;> omega
    rw [IntKind.wrap_i64]; omega
  have kB := lt_of_cell hc; have kX := lt_of_cell hX; have ke := lt_of_cell e0
  go_enter Try.func61, Try.ntmps61
  go_upto_region 0 with (fail)
  refine wp_region_noPanic ?_
  refine wp_region_held_drew (S := (fun W' => W'.cell? ⟨X, 2, none⟩ = some (.slice (some ⟨b, off, none⟩) c.list.length c2) ∧ W'.cell? ⟨b, off + k * 5, none⟩ = some (.int .i64 x.op) ∧ W'.cell? ⟨b, off + k * 5 + 1, none⟩ = some (.int .i64 x.a) ∧ W'.cell? ⟨b, off + k * 5 + 2, none⟩ = some (.int .i64 x.b) ∧ W'.cell? ⟨b, off + k * 5 + 3, none⟩ = some (.int .i64 x.c) ∧ W'.cell? ⟨b, off + k * 5 + 4, none⟩ = some (.int .i64 x.d))) (by kernel_rfl) ⟨kept_cell (Below.drew (bself w)) hX, kept_cell (Below.drew (bself w)) e0, kept_cell (Below.drew (bself w)) e1, kept_cell (Below.drew (bself w)) e2, kept_cell (Below.drew (bself w)) e3, kept_cell (Below.drew (bself w)) e4⟩ (fun hHeld => ?_)
  obtain ⟨wd, hwd⟩ : ∃ W, W = World.drew w := ⟨_, rfl⟩
  rw [← hwd] at hHeld ⊢
  have D : Below w.heap.size w wd := by rw [hwd]; exact Below.drew (bself _)
  clear hwd
  have hf2 := kept_froz D kB hf
  replace hX := kept_cell D hX
  replace e0 := kept_cell D e0
  replace e1 := kept_cell D e1
  replace e2 := kept_cell D e2
  replace e3 := kept_cell D e3
  replace e4 := kept_cell D e4
  replace hc := kept_cell D hc
  have hzd := D.size
  refine take_d (i := 1) (d := 7) (v := ?_) rfl rfl (by kernel_rfl) (by kernel_rfl) (by kernel_rfl) (fun _ _ _ h => h) (Or.inl ⟨by rfl, ?_⟩) (by assumption) ?_
  rotate_left
  · intro W' hSw; (try dsimp only at hSw); obtain ⟨s0, s1, s2, s3, s4, s5⟩ := hSw; go_simp; try with_reducible rfl
  try simp only [Act.put, List.setIfInBounds_toArray, List.set]
  refine take_d (i := 2) (d := 8) (v := ?_) rfl rfl (by kernel_rfl) (by kernel_rfl) (by kernel_rfl) (fun _ _ _ h => h) (Or.inl ⟨by rfl, ?_⟩) (by assumption) ?_
  rotate_left
  · intro W' hSw; (try dsimp only at hSw); obtain ⟨s0, s1, s2, s3, s4, s5⟩ := hSw; go_simp; try with_reducible rfl
  try simp only [Act.put, List.setIfInBounds_toArray, List.set]
  refine take_d (i := 3) (d := 9) (v := ?_) rfl rfl (by kernel_rfl) (by kernel_rfl) (by kernel_rfl) (fun _ _ _ h => h) (Or.inl ⟨by rfl, ?_⟩) (by assumption) ?_
  rotate_left
  · intro W' hSw; (try dsimp only at hSw); obtain ⟨s0, s1, s2, s3, s4, s5⟩ := hSw; go_simp; try with_reducible rfl
  try simp only [Act.put, List.setIfInBounds_toArray, List.set]
  refine wpAnyH_ready (rs := [0, 4]) (by kernel_rfl) (by simp) ?_
  refine AllReadyH.cons rfl (fun K hK => ?_) ?_
  · -- 0
    go_simp
    refine hK.out _ _ hHeld (fun hHeld => ?_)
    clear hK K
    try simp only [Act.put, List.setIfInBounds_toArray, List.set]
    refine wpAnyH_ready (rs := [4]) (by kernel_rfl) (by simp) ?_
    refine AllReadyH.cons rfl (fun K hK => ?_) AllReadyH.nil
    go_simp
    refine hK.out _ _ hHeld (fun hHeld => ?_)
    clear hK K
    try simp only [Act.put, List.setIfInBounds_toArray, List.set]
    refine take_d (i := 5) (d := 11) (v := ?_) rfl rfl (by kernel_rfl) (by kernel_rfl) (by kernel_rfl) (fun _ _ _ h => h) (Or.inl ⟨by rfl, ?_⟩) (by assumption) ?_
    rotate_left
    · intro W' hSw; (try dsimp only at hSw); obtain ⟨s0, s1, s2, s3, s4, s5⟩ := hSw; go_simp; try with_reducible rfl
    try simp only [Act.put, List.setIfInBounds_toArray, List.set]
    refine wpAnyH_ready (rs := [6]) (by kernel_rfl) (by simp) ?_
    refine AllReadyH.cons rfl (fun K hK => ?_) AllReadyH.nil
    go_simp
    refine (isBranch_any x.op x.a x.b x.c x.d _).mono ?_
    rintro e W9 ⟨rfl, bi⟩
    replace hf2 := kept_froz bi (lt_of_cell hc) hf2
    replace hX := kept_cell bi hX
    replace e0 := kept_cell bi e0
    replace e1 := kept_cell bi e1
    replace e2 := kept_cell bi e2
    replace e3 := kept_cell bi e3
    replace e4 := kept_cell bi e4
    replace hc := kept_cell bi hc
    have BB := btr D bi; have hz9 := bi.size; clear bi
    refine hK.out _ _ ⟨hX, e0, e1, e2, e3, e4⟩ (fun hHeld => ?_)
    clear hK K
    try simp only [Act.put, List.setIfInBounds_toArray, List.set]
    refine wpAnyH_ready (rs := [7]) (by kernel_rfl) (by simp) ?_
    refine AllReadyH.cons rfl (fun K hK => ?_) AllReadyH.nil
    go_simp
    refine (truthS_any (isBr x.op) _).mono ?_
    rintro e w10 ⟨rfl, h10⟩
    have hh := h10.symm; subst hh; clear h10
    rw [show tru (isBr x.op) = brI (isBr x.op) from rfl]
    refine hK.out _ _ hHeld (fun hHeld => ?_)
    clear hK K
    try simp only [Act.put, List.setIfInBounds_toArray, List.set]
    refine wpAnyH_ready (rs := [8]) (by kernel_rfl) (by simp) ?_
    refine AllReadyH.cons rfl (fun K hK => ?_) AllReadyH.nil
    go_simp
    refine hK.out _ _ hHeld (fun hHeld => ?_)
    clear hK K
    try simp only [Act.put, List.setIfInBounds_toArray, List.set]
    have ks := lt_of_cell hc
    have x0 := cell_at W9 Bc 0 (.int .i64 ((n : Int) + brI (isBr x.op))) hc
    have xf := froz_st (b := ⟨Bc, 0, none⟩) hf2 (.int .i64 ((n : Int) + brI (isBr x.op)))
    have xC := (Chg.of_below (S := fun q => q = Bc) BB).setCell Bc 0 (.int .i64 ((n : Int) + brI (isBr x.op))) (fun _ => rfl)
    refine wpAnyH_ready (rs := [9]) (by kernel_rfl) (by simp) ?_
    refine AllReadyH.cons rfl (fun K hK => ?_) AllReadyH.nil
    go_simp
    try rw [hwr]
    refine hK.out _ _ ⟨cell_ne (b := Bc) (j := 0) hX (by omega) _, cell_ne (b := Bc) (j := 0) e0 (by omega) _, cell_ne (b := Bc) (j := 0) e1 (by omega) _, cell_ne (b := Bc) (j := 0) e2 (by omega) _, cell_ne (b := Bc) (j := 0) e3 (by omega) _, cell_ne (b := Bc) (j := 0) e4 (by omega) _⟩ (fun hHeld => ?_)
    clear hK K
    try simp only [Act.put, List.setIfInBounds_toArray, List.set]
    refine wpAnyH_done (by kernel_rfl) ?_ _
    refine NoPanic.normal ?_
    clear hHeld
    go_wp2
    go_end0
    exact ⟨rfl, x0, xf, xC⟩
  refine AllReadyH.cons rfl (fun K hK => ?_) AllReadyH.nil
  go_simp
  refine hK.out _ _ hHeld (fun hHeld => ?_)
  clear hK K
  try simp only [Act.put, List.setIfInBounds_toArray, List.set]
  refine take_d (i := 5) (d := 11) (v := ?_) rfl rfl (by kernel_rfl) (by kernel_rfl) (by kernel_rfl) (fun _ _ _ h => h) (Or.inl ⟨by rfl, ?_⟩) (by assumption) ?_
  rotate_left
  · intro W' hSw; (try dsimp only at hSw); obtain ⟨s0, s1, s2, s3, s4, s5⟩ := hSw; go_simp; try with_reducible rfl
  try simp only [Act.put, List.setIfInBounds_toArray, List.set]
  refine wpAnyH_ready (rs := [0, 6]) (by kernel_rfl) (by simp) ?_
  refine AllReadyH.cons rfl (fun K hK => ?_) ?_
  · -- 0
    go_simp
    refine hK.out _ _ hHeld (fun hHeld => ?_)
    clear hK K
    try simp only [Act.put, List.setIfInBounds_toArray, List.set]
    refine wpAnyH_ready (rs := [6]) (by kernel_rfl) (by simp) ?_
    refine AllReadyH.cons rfl (fun K hK => ?_) AllReadyH.nil
    go_simp
    refine (isBranch_any x.op x.a x.b x.c x.d _).mono ?_
    rintro e W9 ⟨rfl, bi⟩
    replace hf2 := kept_froz bi (lt_of_cell hc) hf2
    replace hX := kept_cell bi hX
    replace e0 := kept_cell bi e0
    replace e1 := kept_cell bi e1
    replace e2 := kept_cell bi e2
    replace e3 := kept_cell bi e3
    replace e4 := kept_cell bi e4
    replace hc := kept_cell bi hc
    have BB := btr D bi; have hz9 := bi.size; clear bi
    refine hK.out _ _ ⟨hX, e0, e1, e2, e3, e4⟩ (fun hHeld => ?_)
    clear hK K
    try simp only [Act.put, List.setIfInBounds_toArray, List.set]
    refine wpAnyH_ready (rs := [7]) (by kernel_rfl) (by simp) ?_
    refine AllReadyH.cons rfl (fun K hK => ?_) AllReadyH.nil
    go_simp
    refine (truthS_any (isBr x.op) _).mono ?_
    rintro e w10 ⟨rfl, h10⟩
    have hh := h10.symm; subst hh; clear h10
    rw [show tru (isBr x.op) = brI (isBr x.op) from rfl]
    refine hK.out _ _ hHeld (fun hHeld => ?_)
    clear hK K
    try simp only [Act.put, List.setIfInBounds_toArray, List.set]
    refine wpAnyH_ready (rs := [8]) (by kernel_rfl) (by simp) ?_
    refine AllReadyH.cons rfl (fun K hK => ?_) AllReadyH.nil
    go_simp
    refine hK.out _ _ hHeld (fun hHeld => ?_)
    clear hK K
    try simp only [Act.put, List.setIfInBounds_toArray, List.set]
    have ks := lt_of_cell hc
    have x0 := cell_at W9 Bc 0 (.int .i64 ((n : Int) + brI (isBr x.op))) hc
    have xf := froz_st (b := ⟨Bc, 0, none⟩) hf2 (.int .i64 ((n : Int) + brI (isBr x.op)))
    have xC := (Chg.of_below (S := fun q => q = Bc) BB).setCell Bc 0 (.int .i64 ((n : Int) + brI (isBr x.op))) (fun _ => rfl)
    refine wpAnyH_ready (rs := [9]) (by kernel_rfl) (by simp) ?_
    refine AllReadyH.cons rfl (fun K hK => ?_) AllReadyH.nil
    go_simp
    try rw [hwr]
    refine hK.out _ _ ⟨cell_ne (b := Bc) (j := 0) hX (by omega) _, cell_ne (b := Bc) (j := 0) e0 (by omega) _, cell_ne (b := Bc) (j := 0) e1 (by omega) _, cell_ne (b := Bc) (j := 0) e2 (by omega) _, cell_ne (b := Bc) (j := 0) e3 (by omega) _, cell_ne (b := Bc) (j := 0) e4 (by omega) _⟩ (fun hHeld => ?_)
    clear hK K
    try simp only [Act.put, List.setIfInBounds_toArray, List.set]
    refine wpAnyH_done (by kernel_rfl) ?_ _
    refine NoPanic.normal ?_
    clear hHeld
    go_wp2
    go_end0
    exact ⟨rfl, x0, xf, xC⟩
  refine AllReadyH.cons rfl (fun K hK => ?_) AllReadyH.nil
  go_simp
  refine (isBranch_any x.op x.a x.b x.c x.d _).mono ?_
  rintro e W9 ⟨rfl, bi⟩
  replace hf2 := kept_froz bi (lt_of_cell hc) hf2
  replace hX := kept_cell bi hX
  replace e0 := kept_cell bi e0
  replace e1 := kept_cell bi e1
  replace e2 := kept_cell bi e2
  replace e3 := kept_cell bi e3
  replace e4 := kept_cell bi e4
  replace hc := kept_cell bi hc
  have BB := btr D bi; have hz9 := bi.size; clear bi
  refine hK.out _ _ ⟨hX, e0, e1, e2, e3, e4⟩ (fun hHeld => ?_)
  clear hK K
  try simp only [Act.put, List.setIfInBounds_toArray, List.set]
  refine wpAnyH_ready (rs := [0, 7]) (by kernel_rfl) (by simp) ?_
  refine AllReadyH.cons rfl (fun K hK => ?_) ?_
  · -- 0
    go_simp
    refine hK.out _ _ hHeld (fun hHeld => ?_)
    clear hK K
    try simp only [Act.put, List.setIfInBounds_toArray, List.set]
    refine wpAnyH_ready (rs := [7]) (by kernel_rfl) (by simp) ?_
    refine AllReadyH.cons rfl (fun K hK => ?_) AllReadyH.nil
    go_simp
    refine (truthS_any (isBr x.op) _).mono ?_
    rintro e w10 ⟨rfl, h10⟩
    have hh := h10.symm; subst hh; clear h10
    rw [show tru (isBr x.op) = brI (isBr x.op) from rfl]
    refine hK.out _ _ hHeld (fun hHeld => ?_)
    clear hK K
    try simp only [Act.put, List.setIfInBounds_toArray, List.set]
    refine wpAnyH_ready (rs := [8]) (by kernel_rfl) (by simp) ?_
    refine AllReadyH.cons rfl (fun K hK => ?_) AllReadyH.nil
    go_simp
    refine hK.out _ _ hHeld (fun hHeld => ?_)
    clear hK K
    try simp only [Act.put, List.setIfInBounds_toArray, List.set]
    have ks := lt_of_cell hc
    have x0 := cell_at W9 Bc 0 (.int .i64 ((n : Int) + brI (isBr x.op))) hc
    have xf := froz_st (b := ⟨Bc, 0, none⟩) hf2 (.int .i64 ((n : Int) + brI (isBr x.op)))
    have xC := (Chg.of_below (S := fun q => q = Bc) BB).setCell Bc 0 (.int .i64 ((n : Int) + brI (isBr x.op))) (fun _ => rfl)
    refine wpAnyH_ready (rs := [9]) (by kernel_rfl) (by simp) ?_
    refine AllReadyH.cons rfl (fun K hK => ?_) AllReadyH.nil
    go_simp
    try rw [hwr]
    refine hK.out _ _ ⟨cell_ne (b := Bc) (j := 0) hX (by omega) _, cell_ne (b := Bc) (j := 0) e0 (by omega) _, cell_ne (b := Bc) (j := 0) e1 (by omega) _, cell_ne (b := Bc) (j := 0) e2 (by omega) _, cell_ne (b := Bc) (j := 0) e3 (by omega) _, cell_ne (b := Bc) (j := 0) e4 (by omega) _⟩ (fun hHeld => ?_)
    clear hK K
    try simp only [Act.put, List.setIfInBounds_toArray, List.set]
    refine wpAnyH_done (by kernel_rfl) ?_ _
    refine NoPanic.normal ?_
    clear hHeld
    go_wp2
    go_end0
    exact ⟨rfl, x0, xf, xC⟩
  refine AllReadyH.cons rfl (fun K hK => ?_) AllReadyH.nil
  go_simp
  refine (truthS_any (isBr x.op) _).mono ?_
  rintro e w10 ⟨rfl, h10⟩
  have hh := h10.symm; subst hh; clear h10
  rw [show tru (isBr x.op) = brI (isBr x.op) from rfl]
  refine hK.out _ _ hHeld (fun hHeld => ?_)
  clear hK K
  try simp only [Act.put, List.setIfInBounds_toArray, List.set]
  refine wpAnyH_ready (rs := [0]) (by kernel_rfl) (by simp) ?_
  refine AllReadyH.cons rfl (fun K hK => ?_) AllReadyH.nil
  go_simp
  refine hK.out _ _ hHeld (fun hHeld => ?_)
  clear hK K
  try simp only [Act.put, List.setIfInBounds_toArray, List.set]
  refine wpAnyH_ready (rs := [8]) (by kernel_rfl) (by simp) ?_
  refine AllReadyH.cons rfl (fun K hK => ?_) AllReadyH.nil
  go_simp
  refine hK.out _ _ hHeld (fun hHeld => ?_)
  clear hK K
  try simp only [Act.put, List.setIfInBounds_toArray, List.set]
  have ks := lt_of_cell hc
  have x0 := cell_at W9 Bc 0 (.int .i64 ((n : Int) + brI (isBr x.op))) hc
  have xf := froz_st (b := ⟨Bc, 0, none⟩) hf2 (.int .i64 ((n : Int) + brI (isBr x.op)))
  have xC := (Chg.of_below (S := fun q => q = Bc) BB).setCell Bc 0 (.int .i64 ((n : Int) + brI (isBr x.op))) (fun _ => rfl)
  refine wpAnyH_ready (rs := [9]) (by kernel_rfl) (by simp) ?_
  refine AllReadyH.cons rfl (fun K hK => ?_) AllReadyH.nil
  go_simp
  try rw [hwr]
  refine hK.out _ _ ⟨cell_ne (b := Bc) (j := 0) hX (by omega) _, cell_ne (b := Bc) (j := 0) e0 (by omega) _, cell_ne (b := Bc) (j := 0) e1 (by omega) _, cell_ne (b := Bc) (j := 0) e2 (by omega) _, cell_ne (b := Bc) (j := 0) e3 (by omega) _, cell_ne (b := Bc) (j := 0) e4 (by omega) _⟩ (fun hHeld => ?_)
  clear hK K
  try simp only [Act.put, List.setIfInBounds_toArray, List.set]
  refine wpAnyH_done (by kernel_rfl) ?_ _
  refine NoPanic.normal ?_
  clear hHeld
  go_wp2
  go_end0
  exact ⟨rfl, x0, xf, xC⟩

theorem cnt1_call (args : Array Value) (W : World) : (callFunc 61 args).run Try.prog W = .ok (.enter 61 args) W := by kernel_rfl
def cntR (c : Cd) (m : Mm) : Int × Bool := match finN c m with | some n => ((brN c (n + 1) (ini m) : Int), true) | none => (0, false)
theorem cntR_no {c : Cd} {m : Mm} (h : finN c m = none) : cntR c m = (0, false) := by unfold cntR; rw [h]
theorem cntR_yes {c : Cd} {m : Mm} {n : Nat} (h : finN c m = some n) : cntR c m = ((brN c (n + 1) (ini m) : Int), true) := by unfold cntR; rw [h]
end Go.Proofs.Ytbglogjamfdmpaa
