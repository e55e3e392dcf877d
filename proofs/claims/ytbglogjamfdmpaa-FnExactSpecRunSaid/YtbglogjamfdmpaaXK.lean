/-
  Parts of the proof of the law FnExactSpecRun.
-/
import Derived.Test.YtbglogjamfdmpaaNB
import Derived.Test.YtbglogjamfdmpaaRows
namespace Go.Proofs.Ytbglogjamfdmpaa
open Go.RowKit

def mkM (k : Int) (m : Mm) : Mm := ⟨marks k m.vals.length, mk2I (k + m.vals.length) m.arrs⟩
theorem markMemory_x (vx vy : Value) (us : List Value) (m : Mm) (k : Int) (w : World) (base : Nat) (ho : OwnM w base vx vy us m) (h0 : 0 ≤ k) (h1 : k + m.vals.length + pre2 m.arrs m.arrs.length ≤ 1073741824) (hv : m.vals.length ≤ 1048576) (ha : m.arrs.length ≤ 1048576) :
    Calls Try.prog 35 #[.agg #[vx, vy], .int .i64 k] w fun e w' => e = .returned (.int .i64 (k + m.vals.length + pre2 m.arrs m.arrs.length)) ∧ OwnM w' base vx vy us (mkM k m) ∧ Chg (fun q => OwnBM vx vy us q) w w' := by
  obtain ⟨a0, c0, a1, c1, rfl, rfl⟩ := ho.shape
  have io := ho.lt
  have hbx := bal (bself w) (.cells #[.slice a0 m.vals.length c0, .slice a1 m.arrs.length c1] 37)
  have ho1 := ho.below hbx
  have hap := ho.ap
  go_enter Try.func35, Try.ntmps35
  go_wp2_with fail
  refine (markIntS_any _ m.vals k _ base ho1.x (by omega) h0 (by omega)).mono ?_
  rintro e w1 ⟨rfl, ox, hC1⟩
  have hz1 := hC1.size
  simp only [World.size_alloc] at hz1
  have b0 := chg_cell hC1 (cell_nw (b := w.heap.size) (j := 1) (w := w) (cs := #[.slice a0 m.vals.length c0, .slice a1 m.arrs.length c1]) (t := 37) rfl rfl) (fun h => by have := io _ (Or.inl h); omega)
  have k0 := lt_of_cell b0
  have oy := ho1.y.keep hC1 (fun q h h2 => hap q h2 h)
  have hCC : Chg (fun q => OwnBM (.slice a0 m.vals.length c0) (.slice a1 m.arrs.length c1) us q) w w1 := by
    have h2 := Chg.of_below (S := fun q => OwnBM (.slice a0 m.vals.length c0) (.slice a1 m.arrs.length c1) us q) hbx
    exact h2.trans (hC1.mono (fun _ _ h => Or.inl h))
  have HAP := Lib.hid hap
  clear ho ho1 hC1 hap
  go_wp2_with fail
  refine (markIntSS_any _ us m.arrs (k + m.vals.length) _ base oy (by omega) (by omega) (by omega)).mono ?_
  rintro e w2 ⟨rfl, oy2, hC2⟩
  have ox2 := own_keep ox hC2 (fun q h h2 => HAP.out q h h2)
  have HO : Hid (OwnM w2 base (.slice a0 m.vals.length c0) (.slice a1 m.arrs.length c1) us (mkM k m)) := Lib.hid ⟨by show World.ownsRow _ _ _ _ _ (marks k m.vals.length).length _; rw [marks_length]; exact ox2, oy2, HAP.out⟩
  have hCD := hCC.trans (hC2.mono (T := fun q => OwnBM (.slice a0 m.vals.length c0) (.slice a1 m.arrs.length c1) us q) (fun _ _ h => Or.inr h))
  clear oy hC2 hCC b0 ox ox2 oy2
  go_wp2
  go_ret
  exact ⟨rfl, HO.out, hCD⟩

set_option maxHeartbeats 3200000 in
theorem heldMemory_any (vx vy : Value) (m : Mm) (k : Int) (w : World) (hr : ReadsM w vx vy (mkM k m)) (h0 : 0 ≤ k) (h1 : k + m.vals.length + pre2 m.arrs m.arrs.length ≤ 1073741824) :
    Calls Try.prog 37 #[.agg #[vx, vy], .int .i64 k] w fun e w' => e = .returned (.int .i64 (k + m.vals.length + pre2 m.arrs m.arrs.length)) ∧ Below w.heap.size w w' := by
  have hx : Reads w 1 vx m.vals.length (ints (marks k m.vals.length)) := by have h := hr.x; rw [show (mkM k m).vals = marks k m.vals.length from rfl, marks_length] at h; exact h
  have hy : Reads2 ints w vy (mk2I (k + m.vals.length) m.arrs) := hr.y
  obtain ⟨a0, c0, rfl⟩ := reads_shape hx
  obtain ⟨a1, c1, hv⟩ := hy.shape
  rw [mk2I_len] at hv
  subst hv
  have HX := Lib.hid (fun W (hW : Below w.heap.size w W) => heldIntS_b _ m.vals.length k W (hx.below hW) (by omega) h0 (by omega))
  have HY := Lib.hid (fun W (hW : Below w.heap.size w W) => heldIntSS_any _ m.arrs (k + m.vals.length) W (hy.below hW) (by omega) (by omega))
  have hp1 : ¬ k + (m.vals.length : Int) < 0 := by omega
  have hp2 : ¬ k + (m.vals.length : Int) + (pre2 m.arrs m.arrs.length : Nat) < 0 := by omega
  clear hr hx hy h0 h1
  go_enter Try.func37, Try.ntmps37
  go_wp2_with fail
  refine (HX.out _ (bal (bself w) (.cells #[.slice a0 m.vals.length c0, .slice a1 m.arrs.length c1] 37))).mono ?_
  rintro e w1 ⟨rfl, hb⟩
  have hsz1 := hb.size
  simp only [World.size_alloc] at hsz1
  have bx2 : w1.cell? ⟨w.heap.size, 0, none⟩ = some (.slice a0 m.vals.length c0) := kept_cell hb (cell_nw (by simp) (by rfl))
  have bx3 : w1.cell? ⟨w.heap.size, 1, none⟩ = some (.slice a1 m.arrs.length c1) := kept_cell hb (cell_nw (by simp) (by rfl))
  have tot := btr (bal (bself w) (.cells #[.slice a0 m.vals.length c0, .slice a1 m.arrs.length c1] 37)) hb
  clear hb
  have lt4 := lt_of_cell bx2
  go_wp2_with fail
  refine (HY.out _ tot).mono ?_
  rintro e w2 ⟨rfl, hb⟩
  have hsz5 := hb.size
  replace bx2 : w2.cell? ⟨w.heap.size, 0, none⟩ = some (.slice a0 m.vals.length c0) := kept_cell hb bx2
  replace bx3 : w2.cell? ⟨w.heap.size, 1, none⟩ = some (.slice a1 m.arrs.length c1) := kept_cell hb bx3
  replace tot := btr tot hb
  clear hb
  clear bx2 bx3
  clear lt4
  have tt := tot
  go_wp2
  exact bodyPost_ret (v := .int .i64 (k + m.vals.length + pre2 m.arrs m.arrs.length)) (by simp [results, Try.results37, go_sem]) rfl (by exact ⟨rfl, tt⟩)
end Go.Proofs.Ytbglogjamfdmpaa
