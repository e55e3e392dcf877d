/-
  Parts of the proof of the law FnExactSpecRun.
-/
import Derived.Test.YtbglogjamfdmpaaFE
import Derived.Test.YtbglogjamfdmpaaRI
namespace Go.Proofs.Ytbglogjamfdmpaa
open Go.RowKit

/-- a memory's value reads as it -/
structure ReadsM (w : World) (vx vy : Value) (m : Mm) : Prop where
  x : Reads w 1 vx m.vals.length (ints m.vals)
  y : Reads2 ints w vy m.arrs
theorem ReadsM.below {w w' : World} {vx vy : Value} {m : Mm} (h : ReadsM w vx vy m) (hb : Below w.heap.size w w') : ReadsM w' vx vy m := ⟨h.x.below hb, h.y.below hb⟩
theorem ReadsM.shape {w : World} {vx vy : Value} {m : Mm} (h : ReadsM w vx vy m) : ∃ a0 c0 a1 c1, vx = .slice a0 m.vals.length c0 ∧ vy = .slice a1 m.arrs.length c1 := by
  obtain ⟨a0, c0, h0⟩ := reads_shape h.x
  obtain ⟨a1, c1, h1⟩ := h.y.shape
  exact ⟨a0, c0, a1, c1, h0, h1⟩
/-- the call owns a memory's value -/
structure OwnM (w : World) (base : Nat) (vx vy : Value) (us : List Value) (m : Mm) : Prop where
  x : w.ownsRow base 3 1 vx m.vals.length (ints m.vals)
  y : Own2I w base vy us m.arrs
  ap : ∀ q, vx.ownBlock = some q → ¬ OwnB2 vy us q
def OwnBM (vx vy : Value) (us : List Value) (q : Nat) : Prop := vx.ownBlock = some q ∨ OwnB2 vy us q
section
variable {w w' : World} {base base' : Nat} {vx vy : Value} {us : List Value} {m : Mm}
theorem OwnM.lt (h : OwnM w base vx vy us m) : ∀ q, OwnBM vx vy us q → base ≤ q ∧ q < w.heap.size := by
  rintro q (hq | hq)
  · exact h.x.lt q hq
  · exact h.y.lt q hq
theorem OwnM.keep (h : OwnM w base vx vy us m) {S : Nat → Prop} (hc : Chg S w w') (hs : ∀ q, OwnBM vx vy us q → ¬ S q) : OwnM w' base vx vy us m :=
  ⟨own_keep h.x hc (fun q hq => hs q (Or.inl hq)), h.y.keep hc (fun q hq => hs q (Or.inr hq)), h.ap⟩
theorem OwnM.below (h : OwnM w base vx vy us m) (hb : Below w.heap.size w w') : OwnM w' base vx vy us m := h.keep (S := fun _ => False) (Chg.of_below hb) (fun _ _ => id)
theorem OwnM.mono (h : OwnM w base vx vy us m) (hb : base' ≤ base) : OwnM w base' vx vy us m := ⟨own_mono h.x hb, h.y.mono hb, h.ap⟩
theorem OwnM.reads (h : OwnM w base vx vy us m) (h0 : m.vals.length ≤ 1048576) (h1 : m.arrs.length ≤ 1048576) (h2 : pre2 m.arrs m.arrs.length ≤ 1048576) : ReadsM w vx vy m :=
  ⟨reads_of_owns h.x (by omega), h.y.reads (by omega) (fun k r hr => by
    obtain ⟨hk, rfl⟩ := List.getElem?_eq_some_iff.1 hr
    have := pre2_all m.arrs k hk m.arrs.length hk
    omega)⟩
theorem OwnM.shape (h : OwnM w base vx vy us m) : ∃ a0 c0 a1 c1, vx = .slice a0 m.vals.length c0 ∧ vy = .slice a1 m.arrs.length c1 := by
  obtain ⟨a0, c0, h0⟩ := own_shape h.x
  obtain ⟨a1, c1, h1⟩ := h.y.shape
  exact ⟨a0, c0, a1, c1, h0, h1⟩
end
theorem szMemory_any (vx vy : Value) (m : Mm) (left : Int) (w : World) (hr : ReadsM w vx vy m) (h0 : 0 ≤ left) (h1 : left ≤ 1073741824) :
    Calls Try.prog 12 #[.agg #[vx, vy], .int .i64 left] w fun e w' => ∃ r : Int, e = .returned (.int .i64 r) ∧ (r = -1 ∨ (0 ≤ r ∧ r = left - m.vals.length - m.arrs.length - pre2 m.arrs m.arrs.length)) ∧ Below w.heap.size w w' := by
  obtain ⟨a0, c0, a1, c1, rfl, rfl⟩ := hr.shape
  have hbx := bal (bself w) (.cells #[.slice a0 m.vals.length c0, .slice a1 m.arrs.length c1] 28)
  have HR := Lib.hid (fun W (hW : Below w.heap.size w W) => hr.below hW)
  clear hr
  go_enter Try.func12, Try.ntmps12
  go_wp2_with fail
  refine (szIntS_b _ m.vals.length _ left _ (HR.out _ hbx).x h0 h1).mono ?_
  rintro e w1 ⟨rfl, hb1⟩
  have b0 : w1.cell? ⟨w.heap.size, 1, none⟩ = some (.slice a1 m.arrs.length c1) := kept_cell hb1 (cell_nw rfl rfl)
  have k0 := lt_of_cell b0
  have hB := btr hbx hb1
  clear hb1
  by_cases hl : left < m.vals.length
  · rw [if_pos hl]
    clear hl b0
    go_wp2
    go_ret
    exact ⟨_, rfl, Or.inl rfl, hB⟩
  · rw [if_neg hl]
    have hnn : ¬ left - (m.vals.length : Int) < 0 := by omega
    go_wp2_with fail
    refine (szIntSS_any _ m.arrs (left - m.vals.length) _ (HR.out _ hB).y (by omega) (by omega)).mono ?_
    rintro e w2 ⟨r, rfl, hrr, hb2⟩
    have hB2 := btr hB hb2
    clear hb2 b0
    rcases hrr with rfl | ⟨h2, h3⟩
    · go_wp2
      go_ret
      exact ⟨_, rfl, Or.inl rfl, hB2⟩
    · have hn2 : ¬ r < 0 := by omega
      have H3 := Lib.hid h3
      clear h3
      go_wp2
      go_ret
      exact ⟨_, rfl, Or.inr ⟨h2, by have := H3.out; omega⟩, hB2⟩

set_option maxHeartbeats 3200000 in
theorem toMemory_any (vx vy : Value) (m : Mm) (w : World) (hr : ReadsM w vx vy m) (h0 : m.vals.length ≤ 1048576) (h1 : m.arrs.length ≤ 1048576) (h2 : pre2 m.arrs m.arrs.length ≤ 1048576) :
    Calls Try.prog 15 #[.agg #[vx, vy]] w fun e w' => ∃ ux uy us, e = .returned (.agg #[ux, uy]) ∧ OwnM w' w.heap.size ux uy us m ∧ Below w.heap.size w w' := by
  obtain ⟨a0, c0, a1, c1, rfl, rfl⟩ := hr.shape
  obtain ⟨w1, hw1⟩ : ∃ X, X = ((w.alloc (.cells #[.slice a0 m.vals.length c0, .slice a1 m.arrs.length c1] 28)).alloc (.cells #[.slice none 0 0, .slice none 0 0] 37)).alloc (.cells #[.slice none 0 0, .slice none 0 0] 37) := ⟨_, rfl⟩
  have hb1 : Below w.heap.size w w1 := by rw [hw1]; exact bal (bal (bal (bself w) _) _) _
  have hz1 : w.heap.size + 3 ≤ w1.heap.size := by rw [hw1]; simp
  have b0 : w1.cell? ⟨w.heap.size, 0, none⟩ = some (.slice a0 m.vals.length c0) := by rw [hw1]; exact cell_al (cell_al (cell_nw rfl rfl) _) _
  have b1 : w1.cell? ⟨w.heap.size, 1, none⟩ = some (.slice a1 m.arrs.length c1) := by rw [hw1]; exact cell_al (cell_al (cell_nw rfl rfl) _) _
  have r0 : w1.cell? ⟨w.heap.size + 1, 0, none⟩ = some (.slice none 0 0) := by rw [hw1]; exact cell_al (cell_nw (by simp) rfl) _
  have r1 : w1.cell? ⟨w.heap.size + 1, 1, none⟩ = some (.slice none 0 0) := by rw [hw1]; exact cell_al (cell_nw (by simp) rfl) _
  have q0 : w1.frozen? ⟨w.heap.size + 1, 0, none⟩ = false := by rw [hw1]; exact froz_al (by simp) (froz_nw (by simp)) _
  have q1 : w1.frozen? ⟨w.heap.size + 1, 1, none⟩ = false := by rw [hw1]; exact froz_al (by simp) (froz_nw (by simp)) _
  have d0 : w1.cell? ⟨w.heap.size + 1 + 1, 0, none⟩ = some (.slice none 0 0) := by rw [hw1]; exact cell_nw (by simp) rfl
  have d1 : w1.cell? ⟨w.heap.size + 1 + 1, 1, none⟩ = some (.slice none 0 0) := by rw [hw1]; exact cell_nw (by simp) rfl
  have f0 : w1.frozen? ⟨w.heap.size + 1 + 1, 0, none⟩ = false := by rw [hw1]; exact froz_nw (by simp)
  have f1 : w1.frozen? ⟨w.heap.size + 1 + 1, 1, none⟩ = false := by rw [hw1]; exact froz_nw (by simp)
  have HW := Lib.hid hw1
  have HR := Lib.hid (fun W (hW : Below w.heap.size w W) => hr.below hW)
  have k0 := lt_of_cell b0
  clear hw1 hr
  go_enter Try.func15, Try.ntmps15
  go_upto_region 2 with (fail)
  rw [← HW.out]
  clear HW
  go_wp2_with fail
  refine (toIntS_any _ m.vals _ (HR.out _ hb1).x (by omega)).mono ?_
  rintro e w2 ⟨ux, rfl, ox, hb2⟩
  obtain ⟨px, tx, rfl⟩ := own_shape ox
  have hz2 := hb2.size
  have ix := ox.lt
  replace b1 := kept_cell hb2 b1
  replace q0 := kept_froz hb2 (lt_of_cell r0) q0; replace r0 := kept_cell hb2 r0
  replace q1 := kept_froz hb2 (lt_of_cell r1) q1; replace r1 := kept_cell hb2 r1
  replace f0 := kept_froz hb2 (lt_of_cell d0) f0; replace d0 := kept_cell hb2 d0
  replace f1 := kept_froz hb2 (lt_of_cell d1) f1; replace d1 := kept_cell hb2 d1
  have kd := lt_of_cell d0
  have hB := bst (btr hb1 hb2) (w.heap.size + 1 + 1) 0 (by omega) (.slice px m.vals.length tx)
  have ox2 := own_set ox (w.heap.size + 1 + 1) 0 (fun h => by have := ix _ h; omega) (.slice px m.vals.length tx)
  have e0 := cell_at w2 (w.heap.size + 1 + 1) 0 (.slice px m.vals.length tx) d0
  have e1 := cell_ne (b := w.heap.size + 1 + 1) (j := 0) d1 (by omega) (.slice px m.vals.length tx)
  have ef1 := froz_st (b := ⟨w.heap.size + 1 + 1, 0, none⟩) f1 (.slice px m.vals.length tx)
  have b12 := cell_ne (b := w.heap.size + 1 + 1) (j := 0) b1 (by omega) (.slice px m.vals.length tx)
  have r02 := cell_ne (b := w.heap.size + 1 + 1) (j := 0) r0 (by omega) (.slice px m.vals.length tx)
  have r12 := cell_ne (b := w.heap.size + 1 + 1) (j := 0) r1 (by omega) (.slice px m.vals.length tx)
  have q02 := froz_st (b := ⟨w.heap.size + 1 + 1, 0, none⟩) q0 (.slice px m.vals.length tx)
  have q12 := froz_st (b := ⟨w.heap.size + 1 + 1, 0, none⟩) q1 (.slice px m.vals.length tx)
  obtain ⟨w3, hw3⟩ : ∃ X, X = World.setCell w2 ⟨w.heap.size + 1 + 1, 0, none⟩ (.slice px m.vals.length tx) := ⟨_, rfl⟩
  go_upto_region 3 with (fail)
  rw [← hw3] at hB ox2 e0 e1 ef1 b12 r02 r12 q02 q12 ⊢
  have hz3 : w2.heap.size ≤ w3.heap.size := by rw [hw3]; simp
  clear hw3 ox b1 r0 r1 q0 q1 d0 d1 f0 f1 kd b0
  have kd := lt_of_cell e0
  go_wp2_with fail
  refine (toIntSS_any _ m.arrs _ (HR.out _ hB).y (by omega) (by omega)).mono ?_
  rintro e w4 ⟨uy, us, rfl, oy, hb4⟩
  obtain ⟨py, ty, rfl⟩ := oy.shape
  have hz4 := hb4.size
  have iy := oy.lt
  have ix2 := ox2.lt
  have g0 := kept_cell hb4 e0; have g1 := kept_cell hb4 e1; have gf := kept_froz hb4 (lt_of_cell e1) ef1
  have s0 := kept_cell hb4 r02; have s1 := kept_cell hb4 r12; have sf0 := kept_froz hb4 (lt_of_cell r02) q02; have sf1 := kept_froz hb4 (lt_of_cell r12) q12
  have OM : OwnM w4 w.heap.size (.slice px m.vals.length tx) (.slice py m.arrs.length ty) us m := ⟨own_mono (own_below ox2 hb4) (by omega), oy.mono (by have := hB.size; omega), fun q h h2 => by have := ix q h; have := iy q h2; omega⟩
  have iM := OM.lt
  have hB4 := btr hB hb4
  have hnM : ∀ q, OwnBM (.slice px m.vals.length tx) (.slice py m.arrs.length ty) us q → ¬ q = w.heap.size + 1 + 1 ∧ ¬ q = w.heap.size + 1 := by
    rintro q (h | h)
    · have := ix q h; omega
    · have := iy q h; omega
  have hC := ((Chg.refl (fun q => q = w.heap.size + 1 + 1 ∨ q = w.heap.size + 1) w4).setCell (w.heap.size + 1 + 1) 1 (.slice py m.arrs.length ty) (fun _ => Or.inl rfl))
  have hC2 := (hC.setCell (w.heap.size + 1) 0 (.slice px m.vals.length tx) (fun _ => Or.inr rfl)).setCell (w.heap.size + 1) 1 (.slice py m.arrs.length ty) (fun _ => Or.inr rfl)
  have OM2 := OM.keep hC2 (fun q hq h => by have := hnM q hq; rcases h with h | h; exact this.1 h; exact this.2 h)
  have zB := bst (bst (bst hB4 (w.heap.size + 1 + 1) 1 (by omega) (.slice py m.arrs.length ty)) (w.heap.size + 1) 0 (by omega) (.slice px m.vals.length tx)) (w.heap.size + 1) 1 (by omega) (.slice py m.arrs.length ty)
  have h0' := cell_ne (b := w.heap.size + 1 + 1) (j := 1) g0 (by omega) (.slice py m.arrs.length ty)
  have h1' := cell_at w4 (w.heap.size + 1 + 1) 1 (.slice py m.arrs.length ty) g1
  have t0 := cell_ne (b := w.heap.size + 1 + 1) (j := 1) s0 (by omega) (.slice py m.arrs.length ty)
  have t1 := cell_ne (b := w.heap.size + 1 + 1) (j := 1) s1 (by omega) (.slice py m.arrs.length ty)
  have tf0 := froz_st (b := ⟨w.heap.size + 1 + 1, 1, none⟩) sf0 (.slice py m.arrs.length ty)
  have tf1 := froz_st (b := ⟨w.heap.size + 1 + 1, 1, none⟩) sf1 (.slice py m.arrs.length ty)
  have x0 := cell_ne (b := w.heap.size + 1) (j := 1) (cell_at _ (w.heap.size + 1) 0 (.slice px m.vals.length tx) t0) (by omega) (.slice py m.arrs.length ty)
  have x1 := cell_at _ (w.heap.size + 1) 1 (.slice py m.arrs.length ty) (cell_ne (b := w.heap.size + 1) (j := 0) t1 (by omega) (.slice px m.vals.length tx))
  have ks := lt_of_cell s0; have kg := lt_of_cell g0
  clear OM oy ox2 hC hC2 hB hB4 e0 e1 ef1 b12 r02 r12 q02 q12 hb4
  go_wp2
  exact bodyPost_ret (v := .agg #[.slice px m.vals.length tx, .slice py m.arrs.length ty]) (by simp [results, Try.results15, go_sem, x0, x1]) rfl (by exact ⟨_, _, us, rfl, OM2, zB⟩)

theorem eqMemory_any (vx vy wx wy : Value) (m : Mm) (w : World) (h1 : ReadsM w vx vy m) (h2 : ReadsM w wx wy m) :
    Calls Try.prog 18 #[.agg #[vx, vy], .agg #[wx, wy]] w fun e w' => e = .returned (.bool true) ∧ Below w.heap.size w w' := by
  obtain ⟨a0, c0, a1, c1, rfl, rfl⟩ := h1.shape
  obtain ⟨a2, c2, a3, c3, rfl, rfl⟩ := h2.shape
  have hbx := bal (bal (bself w) (.cells #[.slice a0 m.vals.length c0, .slice a1 m.arrs.length c1] 37)) (.cells #[.slice a2 m.vals.length c2, .slice a3 m.arrs.length c3] 37)
  have H1 := Lib.hid (fun W (hW : Below w.heap.size w W) => h1.below hW)
  have H2 := Lib.hid (fun W (hW : Below w.heap.size w W) => h2.below hW)
  clear h1 h2
  go_enter Try.func18, Try.ntmps18
  go_wp2_with fail
  refine (eqIntS_any _ _ m.vals m.vals _ (H1.out _ hbx).x (H2.out _ hbx).x).mono ?_
  rintro e w1 ⟨rfl, k, rfl⟩
  rw [decide_eq_true rfl]
  obtain ⟨w1, hw1⟩ : ∃ X, X = World.drewN ((w.alloc (.cells #[.slice a0 m.vals.length c0, .slice a1 m.arrs.length c1] 37)).alloc (.cells #[.slice a2 m.vals.length c2, .slice a3 m.arrs.length c3] 37)) k := ⟨_, rfl⟩
  have hB : Below w.heap.size w w1 := by rw [hw1]; exact btr hbx (below_drewN' _ _)
  have b0 : w1.cell? ⟨w.heap.size, 1, none⟩ = some (.slice a1 m.arrs.length c1) := by rw [hw1]; exact kept_cell (below_drewN' _ _) (cell_al (cell_nw rfl rfl) _)
  have b1 : w1.cell? ⟨w.heap.size + 1, 1, none⟩ = some (.slice a3 m.arrs.length c3) := by rw [hw1]; exact kept_cell (below_drewN' _ _) (cell_nw (by simp) rfl)
  have k0 := lt_of_cell b0; have k1 := lt_of_cell b1
  rw [← hw1]
  clear hw1
  go_wp2_with fail
  refine (eqIntSS_any _ _ m.arrs m.arrs _ (H1.out _ hB).y (H2.out _ hB).y).mono ?_
  rintro e w2 ⟨rfl, hb2⟩
  rw [decide_eq_true rfl]
  have hB2 := btr hB hb2
  clear hb2 b0 b1
  go_wp2
  go_ret
  exact ⟨rfl, hB2⟩

theorem markMemory_any (vx vy : Value) (us : List Value) (m : Mm) (k : Int) (w : World) (base : Nat) (ho : OwnM w base vx vy us m) (h0 : 0 ≤ k) (h1 : k + m.vals.length + pre2 m.arrs m.arrs.length ≤ 1073741824) (hv : m.vals.length ≤ 1048576) (ha : m.arrs.length ≤ 1048576) :
    Calls Try.prog 35 #[.agg #[vx, vy], .int .i64 k] w fun e w' => e = .returned (.int .i64 (k + m.vals.length + pre2 m.arrs m.arrs.length)) ∧ Chg (fun q => OwnBM vx vy us q) w w' := by
  obtain ⟨a0, c0, a1, c1, rfl, rfl⟩ := ho.shape
  have io := ho.lt
  have hbx := bal (bself w) (.cells #[.slice a0 m.vals.length c0, .slice a1 m.arrs.length c1] 37)
  have ho1 := ho.below hbx
  have hap := ho.ap
  go_enter Try.func35, Try.ntmps35
  go_wp2_with fail
  refine (markIntS_any _ m.vals k _ base ho1.x (by omega) h0 (by omega)).mono ?_
  rintro e w1 ⟨rfl, _, hC1⟩
  have hz1 := hC1.size
  simp only [World.size_alloc] at hz1
  have b0 := chg_cell hC1 (cell_nw (b := w.heap.size) (j := 1) (w := w) (cs := #[.slice a0 m.vals.length c0, .slice a1 m.arrs.length c1]) (t := 37) rfl rfl) (fun h => by have := io _ (Or.inl h); omega)
  have k0 := lt_of_cell b0
  have oy := ho1.y.keep hC1 (fun q h h2 => hap q h2 h)
  have hCC : Chg (fun q => OwnBM (.slice a0 m.vals.length c0) (.slice a1 m.arrs.length c1) us q) w w1 := by
    have h2 := Chg.of_below (S := fun q => OwnBM (.slice a0 m.vals.length c0) (.slice a1 m.arrs.length c1) us q) hbx
    exact h2.trans (hC1.mono (fun _ _ h => Or.inl h))
  clear ho ho1 hC1 hap
  go_wp2_with fail
  refine (markIntSS_any _ us m.arrs (k + m.vals.length) _ base oy (by omega) (by omega) (by omega)).mono ?_
  rintro e w2 ⟨rfl, _, hC2⟩
  have hCD := hCC.trans (hC2.mono (T := fun q => OwnBM (.slice a0 m.vals.length c0) (.slice a1 m.arrs.length c1) us q) (fun _ _ h => Or.inr h))
  clear oy hC2 hCC b0
  go_wp2
  go_ret
  exact ⟨rfl, hCD⟩
end Go.Proofs.Ytbglogjamfdmpaa
