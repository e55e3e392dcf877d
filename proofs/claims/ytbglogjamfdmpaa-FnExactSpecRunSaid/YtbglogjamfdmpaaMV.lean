/-
  Parts of the proof of the law FnExactSpecRun.
-/
import Derived.Test.YtbglogjamfdmpaaFE
import Derived.Test.YtbglogjamfdmpaaMC
import Derived.Test.YtbglogjamfdmpaaME
import Derived.Test.YtbglogjamfdmpaaML
import Derived.Test.YtbglogjamfdmpaaMR
import Derived.Test.YtbglogjamfdmpaaVV
namespace Go.Proofs.Ytbglogjamfdmpaa
open Go.RowKit

def reg0 : List Int := List.replicate 14 0
def ini (m : Mm) : Ms := ⟨0, reg0, m⟩
def goOk (c : Cd) (m : Mm) : Bool := codeOk c && memOk c.vars.length c.arrays.length m
theorem goOk_code {c : Cd} {m : Mm} (h : goOk c m = true) : codeOk c = true := by unfold goOk at h; simp only [Bool.and_eq_true] at h; exact h.1
theorem goOk_mem {c : Cd} {m : Mm} (h : goOk c m = true) : memOk c.vars.length c.arrays.length m = true := by unfold goOk at h; simp only [Bool.and_eq_true] at h; exact h.2
theorem ini_ok {c : Cd} {m : Mm} (h : goOk c m = true) : MsOk c (ini m) := by
  have h1 := codeOk_len (goOk_code h)
  refine ⟨by simp [ini], by simp only [ini]; omega, by simp [ini, reg0], fun n hn => ?_, goOk_mem h⟩
  simp only [ini, reg0] at hn
  have := List.eq_of_mem_replicate hn
  omega
theorem mk_int14 (u : World) : (Instr.makeSlice 22 (.int .i64 14) (.int .i64 14)).run Try.prog u = .ok (.slice (some ⟨u.heap.size, 0, none⟩) 14 14) (u.alloc (.cells (madeCells #[.int .i64 0] 14) 3)) := mk_int 14 (by omega) u

set_option maxHeartbeats 6400000 in
set_option maxRecDepth 100000 in
theorem started_any (vx vy : Value) (m : Mm) (w : World) (hx : Reads w 1 vx m.vals.length (ints m.vals)) (hy : Reads2 ints w vy m.arrs) (hl : m.vals.length ≤ 1048576) (hn : m.arrs.length ≤ 1048576) (hp : pre2 m.arrs m.arrs.length ≤ 1048576) :
    Calls Try.prog 108 #[.agg #[vx, vy]] w fun e w' => ∃ vr vv va us, e = .returned (.agg #[.int .i64 0, vr, vv, va]) ∧ OwnMv w' w.heap.size vr vv va us reg0 m ∧ Below w.heap.size w w' := by
  obtain ⟨a3, c3, rfl⟩ := reads_shape hx
  obtain ⟨a4, c4, rfl⟩ := hy.shape
  have hmk := fun u => mk_int14 u
  obtain ⟨w1, hw1⟩ : ∃ X, X = (w.alloc (.cells #[.slice a3 m.vals.length c3, .slice a4 m.arrs.length c4] 37)).alloc (.cells #[.int .i64 0, .slice none 0 0, .slice none 0 0, .slice none 0 0] 49) := ⟨_, rfl⟩
  have hb1 : Below w.heap.size w w1 := by rw [hw1]; exact bal (bal (bself w) _) _
  have mx : w1.cell? ⟨w.heap.size, 0, none⟩ = some (.slice a3 m.vals.length c3) := by rw [hw1]; exact cell_al (cell_nw rfl rfl) _
  have my : w1.cell? ⟨w.heap.size, 1, none⟩ = some (.slice a4 m.arrs.length c4) := by rw [hw1]; exact cell_al (cell_nw rfl rfl) _
  have r0 : w1.cell? ⟨w.heap.size + 1, 0, none⟩ = some (.int .i64 0) := by rw [hw1]; exact cell_nw (by simp) rfl
  have q0 : w1.frozen? ⟨w.heap.size + 1, 0, none⟩ = false := by rw [hw1]; exact froz_nw (by simp)
  have r1 : w1.cell? ⟨w.heap.size + 1, 1, none⟩ = some (.slice none 0 0) := by rw [hw1]; exact cell_nw (by simp) rfl
  have q1 : w1.frozen? ⟨w.heap.size + 1, 1, none⟩ = false := by rw [hw1]; exact froz_nw (by simp)
  have r2 : w1.cell? ⟨w.heap.size + 1, 2, none⟩ = some (.slice none 0 0) := by rw [hw1]; exact cell_nw (by simp) rfl
  have q2 : w1.frozen? ⟨w.heap.size + 1, 2, none⟩ = false := by rw [hw1]; exact froz_nw (by simp)
  have r3 : w1.cell? ⟨w.heap.size + 1, 3, none⟩ = some (.slice none 0 0) := by rw [hw1]; exact cell_nw (by simp) rfl
  have q3 : w1.frozen? ⟨w.heap.size + 1, 3, none⟩ = false := by rw [hw1]; exact froz_nw (by simp)
  have HW := Lib.hid hw1
  have hz1 : w.heap.size + 2 ≤ w1.heap.size := by rw [hw1]; simp
  have HCP := Lib.hid (fun W (hW : Below w1.heap.size w1 W) => memOwn_any _ _ m W (hx.below (btr hb1 hW)) (hy.below (btr hb1 hW)) hl hn hp)
  clear hw1 hx hy hl hn hp
  go_enter Try.func108, Try.ntmps108
  go_upto_region 1 with (fail)
  rw [← HW.out]
  clear HW
  refine wp_region_noPanic ?_
  refine wp_region_held_drew (S := (fun W' => W'.cell? ⟨w.heap.size, 0, none⟩ = some (.slice a3 m.vals.length c3) ∧ W'.cell? ⟨w.heap.size, 1, none⟩ = some (.slice a4 m.arrs.length c4))) (by kernel_rfl) ⟨kept_cell (Below.drew (bself w1)) mx, kept_cell (Below.drew (bself w1)) my⟩ (fun hHeld => ?_)
  obtain ⟨wd, hwd⟩ : ∃ X, X = World.drew w1 := ⟨_, rfl⟩
  rw [← hwd] at hHeld ⊢
  have D : Below w1.heap.size w1 wd := by rw [hwd]; exact Below.drew (bself _)
  clear hwd
  have hzd := D.size
  replace mx := kept_cell D mx; replace my := kept_cell D my; have kmx := lt_of_cell mx
  refine take_d (i := 1) (d := 4) (v := ?_) rfl rfl (by kernel_rfl) (by kernel_rfl) (by kernel_rfl) (fun _ _ _ h => h) (Or.inl ⟨by rfl, ?_⟩) (by assumption) ?_
  rotate_left
  · intro W' hSw; (try dsimp only at hSw); obtain ⟨s0, s1⟩ := hSw; go_simp; try with_reducible rfl
  try simp only [Act.put, List.setIfInBounds_toArray, List.set]
  refine wpAnyH_ready (rs := [0, 2]) (by kernel_rfl) (by simp) ?_
  refine AllReadyH.cons rfl (fun K hK => ?_) ?_
  · -- 0
    go_simp
    obtain ⟨v1, hv⟩ : ∃ X, X = World.alloc wd (.cells (madeCells #[.int .i64 0] 14) 3) := ⟨_, rfl⟩
    try rw [← hv]
    have oR := own_made wd (.int .i64 0) 14 3 (by unfold maxLen; omega)
    rw [← ints_replicate, ← hv] at oR
    have BM : Below wd.heap.size wd v1 := by rw [hv]; exact bal (bself _) _
    have hzm : wd.heap.size + 1 ≤ v1.heap.size := by rw [hv]; simp
    clear hv
    replace mx := kept_cell BM mx; replace my := kept_cell BM my
    refine hK.out _ _ ⟨mx, my⟩ (fun hHeld => ?_)
    clear hK K
    try simp only [Act.put, List.setIfInBounds_toArray, List.set]
    refine wpAnyH_ready (rs := [2]) (by kernel_rfl) (by simp) ?_
    refine AllReadyH.cons rfl (fun K hK => ?_) AllReadyH.nil
    go_simp
    refine (HCP.out _ (btr D BM)).mono ?_
    rintro e v2 ⟨ux, uy, us, rfl, ox, oy, hap, BC⟩
    obtain ⟨px, tx, rfl⟩ := own_shape ox
    obtain ⟨py, ty, rfl⟩ := own_shape oy.out
    have hzc := BC.size; have ix := ox.lt; have iy := oy.lt
    replace mx := kept_cell BC mx; replace my := kept_cell BC my
    replace oR := own_below oR BC
    have OM : OwnMv v2 w1.heap.size (.slice (some ⟨wd.heap.size, 0, none⟩) 14 14) (.slice px m.vals.length tx) (.slice py m.arrs.length ty) us reg0 m := ⟨own_mono oR (by omega), own_mono ox (by omega), oy.mono (by omega), fun q h h2 => by have e1 : wd.heap.size = q := Option.some.inj h; have := ix q h2; omega, fun q h h2 => by have e1 : wd.heap.size = q := Option.some.inj h; have := iy q h2; omega, hap⟩
    have BB := btr D (btr BM BC)
    clear oR ox oy hap ix iy BM BC D
    refine hK.out _ _ ⟨mx, my⟩ (fun hHeld => ?_)
    clear hK K
    try simp only [Act.put, List.setIfInBounds_toArray, List.set]
    refine take_d (i := 3) (d := 6) (v := ?_) rfl rfl (by kernel_rfl) (by kernel_rfl) (by kernel_rfl) (fun _ _ _ h => h) (Or.inl ⟨by rfl, ?_⟩) (by assumption) ?_
    rotate_left
    · intro W' hSw; (try dsimp only at hSw); obtain ⟨s0, s1⟩ := hSw; go_simp; try with_reducible rfl
    try simp only [Act.put, List.setIfInBounds_toArray, List.set]
    have s0 := kept_cell BB r0; have sf0 := kept_froz BB (lt_of_cell r0) q0
    have s1 := kept_cell BB r1; have sf1 := kept_froz BB (lt_of_cell r1) q1
    have s2 := kept_cell BB r2; have sf2 := kept_froz BB (lt_of_cell r2) q2
    have s3 := kept_cell BB r3; have sf3 := kept_froz BB (lt_of_cell r3) q3
    have iM := OM.lt; have ks := lt_of_cell s0
    have x0 := (cell_ne (b := (w.heap.size + 1)) (j := 3) (cell_ne (b := (w.heap.size + 1)) (j := 2) (cell_ne (b := (w.heap.size + 1)) (j := 1) (cell_at _ (w.heap.size + 1) 0 (.int .i64 0) s0) (by omega) (.slice (some ⟨wd.heap.size, 0, none⟩) 14 14)) (by omega) (.slice px m.vals.length tx)) (by omega) (.slice py m.arrs.length ty))
    have x1 := (cell_ne (b := (w.heap.size + 1)) (j := 3) (cell_ne (b := (w.heap.size + 1)) (j := 2) (cell_at _ (w.heap.size + 1) 1 (.slice (some ⟨wd.heap.size, 0, none⟩) 14 14) (cell_ne (b := (w.heap.size + 1)) (j := 0) s1 (by omega) (.int .i64 0))) (by omega) (.slice px m.vals.length tx)) (by omega) (.slice py m.arrs.length ty))
    have x2 := (cell_ne (b := (w.heap.size + 1)) (j := 3) (cell_at _ (w.heap.size + 1) 2 (.slice px m.vals.length tx) (cell_ne (b := (w.heap.size + 1)) (j := 1) (cell_ne (b := (w.heap.size + 1)) (j := 0) s2 (by omega) (.int .i64 0)) (by omega) (.slice (some ⟨wd.heap.size, 0, none⟩) 14 14))) (by omega) (.slice py m.arrs.length ty))
    have x3 := (cell_at _ (w.heap.size + 1) 3 (.slice py m.arrs.length ty) (cell_ne (b := (w.heap.size + 1)) (j := 2) (cell_ne (b := (w.heap.size + 1)) (j := 1) (cell_ne (b := (w.heap.size + 1)) (j := 0) s3 (by omega) (.int .i64 0)) (by omega) (.slice (some ⟨wd.heap.size, 0, none⟩) 14 14)) (by omega) (.slice px m.vals.length tx)))
    have yM := ((((OM.far (w.heap.size + 1) 0 (.int .i64 0) (fun h => by have := iM _ h; omega)).far (w.heap.size + 1) 1 (.slice (some ⟨wd.heap.size, 0, none⟩) 14 14) (fun h => by have := iM _ h; omega)).far (w.heap.size + 1) 2 (.slice px m.vals.length tx) (fun h => by have := iM _ h; omega)).far (w.heap.size + 1) 3 (.slice py m.arrs.length ty) (fun h => by have := iM _ h; omega))
    have zB := (bst (bst (bst (bst (btr hb1 BB) (w.heap.size + 1) 0 (by omega) (.int .i64 0)) (w.heap.size + 1) 1 (by omega) (.slice (some ⟨wd.heap.size, 0, none⟩) 14 14)) (w.heap.size + 1) 2 (by omega) (.slice px m.vals.length tx)) (w.heap.size + 1) 3 (by omega) (.slice py m.arrs.length ty))
    refine wpAnyH_ready (rs := [4]) (by kernel_rfl) (by simp) ?_
    refine AllReadyH.cons rfl (fun K hK => ?_) AllReadyH.nil
    go_simp
    refine hK.out _ _ ⟨(cell_ne (b := (w.heap.size + 1)) (j := 3) (cell_ne (b := (w.heap.size + 1)) (j := 2) (cell_ne (b := (w.heap.size + 1)) (j := 1) (cell_ne (b := (w.heap.size + 1)) (j := 0) mx (by omega) (.int .i64 0)) (by omega) (.slice (some ⟨wd.heap.size, 0, none⟩) 14 14)) (by omega) (.slice px m.vals.length tx)) (by omega) (.slice py m.arrs.length ty)), (cell_ne (b := (w.heap.size + 1)) (j := 3) (cell_ne (b := (w.heap.size + 1)) (j := 2) (cell_ne (b := (w.heap.size + 1)) (j := 1) (cell_ne (b := (w.heap.size + 1)) (j := 0) my (by omega) (.int .i64 0)) (by omega) (.slice (some ⟨wd.heap.size, 0, none⟩) 14 14)) (by omega) (.slice px m.vals.length tx)) (by omega) (.slice py m.arrs.length ty))⟩ (fun hHeld => ?_)
    clear hK K
    try simp only [Act.put, List.setIfInBounds_toArray, List.set]
    refine wpAnyH_done (by kernel_rfl) ?_ _
    refine NoPanic.normal ?_
    clear hHeld s0 s1 s2 s3 sf0 sf1 sf2 sf3 mx my OM BB
    go_wp2
    exact bodyPost_ret (v := .agg #[.int .i64 0, .slice (some ⟨wd.heap.size, 0, none⟩) 14 14, .slice px m.vals.length tx, .slice py m.arrs.length ty]) (by simp [results, Try.results108, go_sem, x0, x1, x2, x3]) rfl (by exact ⟨_, _, _, _, rfl, yM.mono (by omega), zB⟩)
  refine AllReadyH.cons rfl (fun K hK => ?_) AllReadyH.nil
  go_simp
  refine (HCP.out _ D).mono ?_
  rintro e v1 ⟨ux, uy, us, rfl, ox, oy, hap, BC⟩
  obtain ⟨px, tx, rfl⟩ := own_shape ox
  obtain ⟨py, ty, rfl⟩ := own_shape oy.out
  have hzc := BC.size; have ix := ox.lt; have iy := oy.lt
  replace mx := kept_cell BC mx; replace my := kept_cell BC my
  refine hK.out _ _ ⟨mx, my⟩ (fun hHeld => ?_)
  clear hK K
  try simp only [Act.put, List.setIfInBounds_toArray, List.set]
  refine wpAnyH_ready (rs := [0]) (by kernel_rfl) (by simp) ?_
  refine AllReadyH.cons rfl (fun K hK => ?_) AllReadyH.nil
  go_simp
  obtain ⟨v2, hv⟩ : ∃ X, X = World.alloc v1 (.cells (madeCells #[.int .i64 0] 14) 3) := ⟨_, rfl⟩
  try rw [← hv]
  have oR := own_made v1 (.int .i64 0) 14 3 (by unfold maxLen; omega)
  rw [← ints_replicate, ← hv] at oR
  have BM : Below v1.heap.size v1 v2 := by rw [hv]; exact bal (bself _) _
  have hzm : v1.heap.size + 1 ≤ v2.heap.size := by rw [hv]; simp
  clear hv
  replace mx := kept_cell BM mx; replace my := kept_cell BM my
  replace ox := own_below ox BM; replace oy := oy.below BM
  have OM : OwnMv v2 w1.heap.size (.slice (some ⟨v1.heap.size, 0, none⟩) 14 14) (.slice px m.vals.length tx) (.slice py m.arrs.length ty) us reg0 m := ⟨own_mono oR (by omega), own_mono ox (by omega), oy.mono (by omega), fun q h h2 => by have e1 : v1.heap.size = q := Option.some.inj h; have := ix q h2; omega, fun q h h2 => by have e1 : v1.heap.size = q := Option.some.inj h; have := iy q h2; omega, hap⟩
  have BB := btr D (btr BC BM)
  clear oR ox oy hap ix iy BM BC D
  refine hK.out _ _ ⟨mx, my⟩ (fun hHeld => ?_)
  clear hK K
  try simp only [Act.put, List.setIfInBounds_toArray, List.set]
  refine take_d (i := 3) (d := 6) (v := ?_) rfl rfl (by kernel_rfl) (by kernel_rfl) (by kernel_rfl) (fun _ _ _ h => h) (Or.inl ⟨by rfl, ?_⟩) (by assumption) ?_
  rotate_left
  · intro W' hSw; (try dsimp only at hSw); obtain ⟨s0, s1⟩ := hSw; go_simp; try with_reducible rfl
  try simp only [Act.put, List.setIfInBounds_toArray, List.set]
  have s0 := kept_cell BB r0; have sf0 := kept_froz BB (lt_of_cell r0) q0
  have s1 := kept_cell BB r1; have sf1 := kept_froz BB (lt_of_cell r1) q1
  have s2 := kept_cell BB r2; have sf2 := kept_froz BB (lt_of_cell r2) q2
  have s3 := kept_cell BB r3; have sf3 := kept_froz BB (lt_of_cell r3) q3
  have iM := OM.lt; have ks := lt_of_cell s0
  have x0 := (cell_ne (b := (w.heap.size + 1)) (j := 3) (cell_ne (b := (w.heap.size + 1)) (j := 2) (cell_ne (b := (w.heap.size + 1)) (j := 1) (cell_at _ (w.heap.size + 1) 0 (.int .i64 0) s0) (by omega) (.slice (some ⟨v1.heap.size, 0, none⟩) 14 14)) (by omega) (.slice px m.vals.length tx)) (by omega) (.slice py m.arrs.length ty))
  have x1 := (cell_ne (b := (w.heap.size + 1)) (j := 3) (cell_ne (b := (w.heap.size + 1)) (j := 2) (cell_at _ (w.heap.size + 1) 1 (.slice (some ⟨v1.heap.size, 0, none⟩) 14 14) (cell_ne (b := (w.heap.size + 1)) (j := 0) s1 (by omega) (.int .i64 0))) (by omega) (.slice px m.vals.length tx)) (by omega) (.slice py m.arrs.length ty))
  have x2 := (cell_ne (b := (w.heap.size + 1)) (j := 3) (cell_at _ (w.heap.size + 1) 2 (.slice px m.vals.length tx) (cell_ne (b := (w.heap.size + 1)) (j := 1) (cell_ne (b := (w.heap.size + 1)) (j := 0) s2 (by omega) (.int .i64 0)) (by omega) (.slice (some ⟨v1.heap.size, 0, none⟩) 14 14))) (by omega) (.slice py m.arrs.length ty))
  have x3 := (cell_at _ (w.heap.size + 1) 3 (.slice py m.arrs.length ty) (cell_ne (b := (w.heap.size + 1)) (j := 2) (cell_ne (b := (w.heap.size + 1)) (j := 1) (cell_ne (b := (w.heap.size + 1)) (j := 0) s3 (by omega) (.int .i64 0)) (by omega) (.slice (some ⟨v1.heap.size, 0, none⟩) 14 14)) (by omega) (.slice px m.vals.length tx)))
  have yM := ((((OM.far (w.heap.size + 1) 0 (.int .i64 0) (fun h => by have := iM _ h; omega)).far (w.heap.size + 1) 1 (.slice (some ⟨v1.heap.size, 0, none⟩) 14 14) (fun h => by have := iM _ h; omega)).far (w.heap.size + 1) 2 (.slice px m.vals.length tx) (fun h => by have := iM _ h; omega)).far (w.heap.size + 1) 3 (.slice py m.arrs.length ty) (fun h => by have := iM _ h; omega))
  have zB := (bst (bst (bst (bst (btr hb1 BB) (w.heap.size + 1) 0 (by omega) (.int .i64 0)) (w.heap.size + 1) 1 (by omega) (.slice (some ⟨v1.heap.size, 0, none⟩) 14 14)) (w.heap.size + 1) 2 (by omega) (.slice px m.vals.length tx)) (w.heap.size + 1) 3 (by omega) (.slice py m.arrs.length ty))
  refine wpAnyH_ready (rs := [4]) (by kernel_rfl) (by simp) ?_
  refine AllReadyH.cons rfl (fun K hK => ?_) AllReadyH.nil
  go_simp
  refine hK.out _ _ ⟨(cell_ne (b := (w.heap.size + 1)) (j := 3) (cell_ne (b := (w.heap.size + 1)) (j := 2) (cell_ne (b := (w.heap.size + 1)) (j := 1) (cell_ne (b := (w.heap.size + 1)) (j := 0) mx (by omega) (.int .i64 0)) (by omega) (.slice (some ⟨v1.heap.size, 0, none⟩) 14 14)) (by omega) (.slice px m.vals.length tx)) (by omega) (.slice py m.arrs.length ty)), (cell_ne (b := (w.heap.size + 1)) (j := 3) (cell_ne (b := (w.heap.size + 1)) (j := 2) (cell_ne (b := (w.heap.size + 1)) (j := 1) (cell_ne (b := (w.heap.size + 1)) (j := 0) my (by omega) (.int .i64 0)) (by omega) (.slice (some ⟨v1.heap.size, 0, none⟩) 14 14)) (by omega) (.slice px m.vals.length tx)) (by omega) (.slice py m.arrs.length ty))⟩ (fun hHeld => ?_)
  clear hK K
  try simp only [Act.put, List.setIfInBounds_toArray, List.set]
  refine wpAnyH_done (by kernel_rfl) ?_ _
  refine NoPanic.normal ?_
  clear hHeld s0 s1 s2 s3 sf0 sf1 sf2 sf3 mx my OM BB
  go_wp2
  exact bodyPost_ret (v := .agg #[.int .i64 0, .slice (some ⟨v1.heap.size, 0, none⟩) 14 14, .slice px m.vals.length tx, .slice py m.arrs.length ty]) (by simp [results, Try.results108, go_sem, x0, x1, x2, x3]) rfl (by exact ⟨_, _, _, _, rfl, yM.mono (by omega), zB⟩)

set_option maxHeartbeats 12800000 in
set_option maxRecDepth 100000 in
theorem iStart_any (va vb vc vx vy : Value) (c : Cd) (m : Mm) (w : World) (hr : ReadsC w va vb vc c) (hx : Reads w 1 vx m.vals.length (ints m.vals)) (hy : Reads2 ints w vy m.arrs) (hl : m.vals.length ≤ 1048576) (hn : m.arrs.length ≤ 1048576) (hp : pre2 m.arrs m.arrs.length ≤ 1048576) :
    Calls Try.prog 59 #[.agg #[va, vb, vc], .agg #[vx, vy]] w fun e w' => ∃ p0 n0 t0 p1 n1 t1 p2 n2 t2, e = .returned (.tuple #[.agg #[.int .i64 0, .slice p0 n0 t0, .slice p1 n1 t1, .slice p2 n2 t2], .bool (goOk c m)]) ∧ (goOk c m = true → ∃ us, OwnMv w' w.heap.size (.slice p0 n0 t0) (.slice p1 n1 t1) (.slice p2 n2 t2) us reg0 m) ∧ Below w.heap.size w w' := by
  obtain ⟨a0, c0, a1, c1, a2, c2, rfl, rfl, rfl⟩ := hr.shape
  obtain ⟨a3, c3, rfl⟩ := reads_shape hx
  obtain ⟨a4, c4, rfl⟩ := hy.shape
  have HGO : Hid (goOk c m = (codeOk c && memOk c.vars.length c.arrays.length m)) := Lib.hid rfl
  generalize goOk c m = G at *
  have ln0 := hr.a.2.1
  have ln1 := hr.b.2.1
  have hmk := fun u => mk_int14 u
  obtain ⟨w1, hw1⟩ : ∃ X, X = ((w.alloc (.cells #[.slice a0 c.vars.length c0, .slice a1 c.arrays.length c1, .slice a2 c.list.length c2] 35)).alloc (.cells #[.slice a3 m.vals.length c3, .slice a4 m.arrs.length c4] 37)).alloc (.cells #[.int .i64 0, .slice none 0 0, .slice none 0 0, .slice none 0 0] 49) := ⟨_, rfl⟩
  have hb1 : Below w.heap.size w w1 := by rw [hw1]; exact bal (bal (bal (bself w) _) _) _
  have n0 : w1.cell? ⟨w.heap.size, 0, none⟩ = some (.slice a0 c.vars.length c0) := by rw [hw1]; exact cell_al (cell_al (cell_nw rfl rfl) _) _
  have n1 : w1.cell? ⟨w.heap.size, 1, none⟩ = some (.slice a1 c.arrays.length c1) := by rw [hw1]; exact cell_al (cell_al (cell_nw rfl rfl) _) _
  have n2 : w1.cell? ⟨w.heap.size, 2, none⟩ = some (.slice a2 c.list.length c2) := by rw [hw1]; exact cell_al (cell_al (cell_nw rfl rfl) _) _
  have mx : w1.cell? ⟨w.heap.size + 1, 0, none⟩ = some (.slice a3 m.vals.length c3) := by rw [hw1]; exact cell_al (cell_nw (by simp) rfl) _
  have my : w1.cell? ⟨w.heap.size + 1, 1, none⟩ = some (.slice a4 m.arrs.length c4) := by rw [hw1]; exact cell_al (cell_nw (by simp) rfl) _
  have r0 : w1.cell? ⟨w.heap.size + 1 + 1, 0, none⟩ = some (.int .i64 0) := by rw [hw1]; exact cell_nw (by simp) rfl
  have q0 : w1.frozen? ⟨w.heap.size + 1 + 1, 0, none⟩ = false := by rw [hw1]; exact froz_nw (by simp)
  have r1 : w1.cell? ⟨w.heap.size + 1 + 1, 1, none⟩ = some (.slice none 0 0) := by rw [hw1]; exact cell_nw (by simp) rfl
  have q1 : w1.frozen? ⟨w.heap.size + 1 + 1, 1, none⟩ = false := by rw [hw1]; exact froz_nw (by simp)
  have r2 : w1.cell? ⟨w.heap.size + 1 + 1, 2, none⟩ = some (.slice none 0 0) := by rw [hw1]; exact cell_nw (by simp) rfl
  have q2 : w1.frozen? ⟨w.heap.size + 1 + 1, 2, none⟩ = false := by rw [hw1]; exact froz_nw (by simp)
  have r3 : w1.cell? ⟨w.heap.size + 1 + 1, 3, none⟩ = some (.slice none 0 0) := by rw [hw1]; exact cell_nw (by simp) rfl
  have q3 : w1.frozen? ⟨w.heap.size + 1 + 1, 3, none⟩ = false := by rw [hw1]; exact froz_nw (by simp)
  have HW := Lib.hid hw1
  have hz1 : w.heap.size + 3 ≤ w1.heap.size := by rw [hw1]; simp
  have HCP := Lib.hid (fun W (hW : Below w1.heap.size w1 W) => started_any _ _ m W (hx.below (btr hb1 hW)) (hy.below (btr hb1 hW)) hl hn hp)
  have HIM := Lib.hid (fun W (hW : Below w1.heap.size w1 W) => isMemory_any _ _ _ _ c.vars c.arrays m W (hr.a.below (btr hb1 hW)) (hr.b.below (btr hb1 hW)) (hx.below (btr hb1 hW)) (hy.below (btr hb1 hW)))
  have HCV := Lib.hid (fun W (hW : Below w1.heap.size w1 W) => iCodeValid_any _ _ _ c W (hr.below (btr hb1 hW)))
  have km := lt_of_cell mx
  clear hw1 hx hy hl hn hp hr
  go_enter Try.func59, Try.ntmps59
  go_upto_region 1 with (fail)
  rw [← HW.out]
  clear HW
  go_wp2_with fail
  refine (HCV.out _ (bself w1)).mono ?_
  rintro e w2 ⟨rfl, hb2⟩
  replace n0 := kept_cell hb2 n0; replace n1 := kept_cell hb2 n1; replace n2 := kept_cell hb2 n2; replace mx := kept_cell hb2 mx; replace my := kept_cell hb2 my
  have km2 := lt_of_cell mx; have hz2 := hb2.size
  cases hok : codeOk c with
  | false =>
    have HO := Lib.hid hok; clear hok
    have s0 := kept_cell hb2 r0; have sf0 := kept_froz hb2 (lt_of_cell r0) q0
    have s1 := kept_cell hb2 r1; have sf1 := kept_froz hb2 (lt_of_cell r1) q1
    have s2 := kept_cell hb2 r2; have sf2 := kept_froz hb2 (lt_of_cell r2) q2
    have s3 := kept_cell hb2 r3; have sf3 := kept_froz hb2 (lt_of_cell r3) q3
    have ks := lt_of_cell s0; have hzz := (hb2).size
    have x0 := (cell_ne (b := (w.heap.size + 1 + 1)) (j := 3) (cell_ne (b := (w.heap.size + 1 + 1)) (j := 2) (cell_ne (b := (w.heap.size + 1 + 1)) (j := 1) (cell_at _ (w.heap.size + 1 + 1) 0 (.int .i64 0) s0) (by omega) (.slice none 0 0)) (by omega) (.slice none 0 0)) (by omega) (.slice none 0 0))
    have x1 := (cell_ne (b := (w.heap.size + 1 + 1)) (j := 3) (cell_ne (b := (w.heap.size + 1 + 1)) (j := 2) (cell_at _ (w.heap.size + 1 + 1) 1 (.slice none 0 0) (cell_ne (b := (w.heap.size + 1 + 1)) (j := 0) s1 (by omega) (.int .i64 0))) (by omega) (.slice none 0 0)) (by omega) (.slice none 0 0))
    have x2 := (cell_ne (b := (w.heap.size + 1 + 1)) (j := 3) (cell_at _ (w.heap.size + 1 + 1) 2 (.slice none 0 0) (cell_ne (b := (w.heap.size + 1 + 1)) (j := 1) (cell_ne (b := (w.heap.size + 1 + 1)) (j := 0) s2 (by omega) (.int .i64 0)) (by omega) (.slice none 0 0))) (by omega) (.slice none 0 0))
    have x3 := (cell_at _ (w.heap.size + 1 + 1) 3 (.slice none 0 0) (cell_ne (b := (w.heap.size + 1 + 1)) (j := 2) (cell_ne (b := (w.heap.size + 1 + 1)) (j := 1) (cell_ne (b := (w.heap.size + 1 + 1)) (j := 0) s3 (by omega) (.int .i64 0)) (by omega) (.slice none 0 0)) (by omega) (.slice none 0 0)))
    have zB := (bst (bst (bst (bst (btr hb1 hb2) (w.heap.size + 1 + 1) 0 (by omega) (.int .i64 0)) (w.heap.size + 1 + 1) 1 (by omega) (.slice none 0 0)) (w.heap.size + 1 + 1) 2 (by omega) (.slice none 0 0)) (w.heap.size + 1 + 1) 3 (by omega) (.slice none 0 0))
    have HF : Hid (G = false) := Lib.hid (by rw [HGO.out, HO.out]; rfl)
    go_wp2
    exact bodyPost_ret (v := .tuple #[.agg #[.int .i64 0, .slice none 0 0, .slice none 0 0, .slice none 0 0], .bool false]) (by simp [results, Try.results59, go_sem, x0, x1, x2, x3]) rfl (by rw [HF.out]; exact ⟨_, _, _, _, _, _, _, _, _, rfl, fun h => (by cases h), zB⟩)
  | true =>
    have HO := Lib.hid hok; clear hok
    go_wp2_with fail
    refine (HIM.out _ hb2).mono ?_
    rintro e w3 ⟨rfl, hb3⟩
    have hb13 := btr hb2 hb3
    replace mx := kept_cell hb3 mx; replace my := kept_cell hb3 my
    have km3 := lt_of_cell mx; have hz3 := hb3.size
    cases hmo : memOk c.vars.length c.arrays.length m with
    | false =>
      have HM := Lib.hid hmo; clear hmo
      have s0 := kept_cell hb13 r0; have sf0 := kept_froz hb13 (lt_of_cell r0) q0
      have s1 := kept_cell hb13 r1; have sf1 := kept_froz hb13 (lt_of_cell r1) q1
      have s2 := kept_cell hb13 r2; have sf2 := kept_froz hb13 (lt_of_cell r2) q2
      have s3 := kept_cell hb13 r3; have sf3 := kept_froz hb13 (lt_of_cell r3) q3
      have ks := lt_of_cell s0; have hzz := (hb13).size
      have x0 := (cell_ne (b := (w.heap.size + 1 + 1)) (j := 3) (cell_ne (b := (w.heap.size + 1 + 1)) (j := 2) (cell_ne (b := (w.heap.size + 1 + 1)) (j := 1) (cell_at _ (w.heap.size + 1 + 1) 0 (.int .i64 0) s0) (by omega) (.slice none 0 0)) (by omega) (.slice none 0 0)) (by omega) (.slice none 0 0))
      have x1 := (cell_ne (b := (w.heap.size + 1 + 1)) (j := 3) (cell_ne (b := (w.heap.size + 1 + 1)) (j := 2) (cell_at _ (w.heap.size + 1 + 1) 1 (.slice none 0 0) (cell_ne (b := (w.heap.size + 1 + 1)) (j := 0) s1 (by omega) (.int .i64 0))) (by omega) (.slice none 0 0)) (by omega) (.slice none 0 0))
      have x2 := (cell_ne (b := (w.heap.size + 1 + 1)) (j := 3) (cell_at _ (w.heap.size + 1 + 1) 2 (.slice none 0 0) (cell_ne (b := (w.heap.size + 1 + 1)) (j := 1) (cell_ne (b := (w.heap.size + 1 + 1)) (j := 0) s2 (by omega) (.int .i64 0)) (by omega) (.slice none 0 0))) (by omega) (.slice none 0 0))
      have x3 := (cell_at _ (w.heap.size + 1 + 1) 3 (.slice none 0 0) (cell_ne (b := (w.heap.size + 1 + 1)) (j := 2) (cell_ne (b := (w.heap.size + 1 + 1)) (j := 1) (cell_ne (b := (w.heap.size + 1 + 1)) (j := 0) s3 (by omega) (.int .i64 0)) (by omega) (.slice none 0 0)) (by omega) (.slice none 0 0)))
      have zB := (bst (bst (bst (bst (btr hb1 hb13) (w.heap.size + 1 + 1) 0 (by omega) (.int .i64 0)) (w.heap.size + 1 + 1) 1 (by omega) (.slice none 0 0)) (w.heap.size + 1 + 1) 2 (by omega) (.slice none 0 0)) (w.heap.size + 1 + 1) 3 (by omega) (.slice none 0 0))
      have HF : Hid (G = false) := Lib.hid (by rw [HGO.out, HO.out, HM.out]; rfl)
      go_wp2
      exact bodyPost_ret (v := .tuple #[.agg #[.int .i64 0, .slice none 0 0, .slice none 0 0, .slice none 0 0], .bool false]) (by simp [results, Try.results59, go_sem, x0, x1, x2, x3]) rfl (by rw [HF.out]; exact ⟨_, _, _, _, _, _, _, _, _, rfl, fun h => (by cases h), zB⟩)
    | true =>
      have HM := Lib.hid hmo; clear hmo
      have HG : Hid (G = true) := Lib.hid (by rw [HGO.out, HO.out, HM.out]; rfl)
      go_wp2_with fail
      refine (HCP.out _ hb13).mono ?_
      rintro e w4 ⟨vr, vv, vA, us, rfl, OM, hb4⟩
      obtain ⟨pr, tr, rfl⟩ := own_shape OM.r
      obtain ⟨px, tx, rfl⟩ := own_shape OM.v
      obtain ⟨py, ty, rfl⟩ := own_shape OM.a.out
      have BB := btr hb13 hb4
      have iM := OM.lt; have hz4 := hb4.size
      have s0 := kept_cell BB r0; have sf0 := kept_froz BB (lt_of_cell r0) q0
      have s1 := kept_cell BB r1; have sf1 := kept_froz BB (lt_of_cell r1) q1
      have s2 := kept_cell BB r2; have sf2 := kept_froz BB (lt_of_cell r2) q2
      have s3 := kept_cell BB r3; have sf3 := kept_froz BB (lt_of_cell r3) q3
      have ks := lt_of_cell s0
      have x0 := (cell_ne (b := (w.heap.size + 1 + 1)) (j := 3) (cell_ne (b := (w.heap.size + 1 + 1)) (j := 2) (cell_ne (b := (w.heap.size + 1 + 1)) (j := 1) (cell_at _ (w.heap.size + 1 + 1) 0 (.int .i64 0) s0) (by omega) (.slice pr reg0.length tr)) (by omega) (.slice px m.vals.length tx)) (by omega) (.slice py m.arrs.length ty))
      have x1 := (cell_ne (b := (w.heap.size + 1 + 1)) (j := 3) (cell_ne (b := (w.heap.size + 1 + 1)) (j := 2) (cell_at _ (w.heap.size + 1 + 1) 1 (.slice pr reg0.length tr) (cell_ne (b := (w.heap.size + 1 + 1)) (j := 0) s1 (by omega) (.int .i64 0))) (by omega) (.slice px m.vals.length tx)) (by omega) (.slice py m.arrs.length ty))
      have x2 := (cell_ne (b := (w.heap.size + 1 + 1)) (j := 3) (cell_at _ (w.heap.size + 1 + 1) 2 (.slice px m.vals.length tx) (cell_ne (b := (w.heap.size + 1 + 1)) (j := 1) (cell_ne (b := (w.heap.size + 1 + 1)) (j := 0) s2 (by omega) (.int .i64 0)) (by omega) (.slice pr reg0.length tr))) (by omega) (.slice py m.arrs.length ty))
      have x3 := (cell_at _ (w.heap.size + 1 + 1) 3 (.slice py m.arrs.length ty) (cell_ne (b := (w.heap.size + 1 + 1)) (j := 2) (cell_ne (b := (w.heap.size + 1 + 1)) (j := 1) (cell_ne (b := (w.heap.size + 1 + 1)) (j := 0) s3 (by omega) (.int .i64 0)) (by omega) (.slice pr reg0.length tr)) (by omega) (.slice px m.vals.length tx)))
      have yM := ((((OM.far (w.heap.size + 1 + 1) 0 (.int .i64 0) (fun h => by have := iM _ h; omega)).far (w.heap.size + 1 + 1) 1 (.slice pr reg0.length tr) (fun h => by have := iM _ h; omega)).far (w.heap.size + 1 + 1) 2 (.slice px m.vals.length tx) (fun h => by have := iM _ h; omega)).far (w.heap.size + 1 + 1) 3 (.slice py m.arrs.length ty) (fun h => by have := iM _ h; omega))
      have zB := (bst (bst (bst (bst (btr hb1 BB) (w.heap.size + 1 + 1) 0 (by omega) (.int .i64 0)) (w.heap.size + 1 + 1) 1 (by omega) (.slice pr reg0.length tr)) (w.heap.size + 1 + 1) 2 (by omega) (.slice px m.vals.length tx)) (w.heap.size + 1 + 1) 3 (by omega) (.slice py m.arrs.length ty))
      clear OM
      go_wp2
      exact bodyPost_ret (v := .tuple #[.agg #[.int .i64 0, .slice pr reg0.length tr, .slice px m.vals.length tx, .slice py m.arrs.length ty], .bool true]) (by simp [results, Try.results59, go_sem, x0, x1, x2, x3]) rfl (by rw [HG.out]; exact ⟨_, _, _, _, _, _, _, _, _, rfl, fun _ => ⟨us, yM.mono (by omega)⟩, zB⟩)

end Go.Proofs.Ytbglogjamfdmpaa
