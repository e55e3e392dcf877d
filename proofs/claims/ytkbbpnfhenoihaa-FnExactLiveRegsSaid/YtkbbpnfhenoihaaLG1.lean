/-
  LiveRegs of the program and of the reference.
-/
import Derived.Test.YtkbbpnfhenoihaaLE1
import Derived.Test.YtkbbpnfhenoihaaLE2
namespace Go.Proofs.Ytkbbpnfhenoihaa
open Go.RowKit

theorem iLiveRegs_any (va vb vc : Value) (c : Cd) (w : World) (hr : ReadsC w va vb vc c) :
    Calls Try.prog 52 #[.agg #[va, vb, vc]] w fun e w' => ∃ u us, e = .returned u ∧ Own2B w' w.heap.size u us (liveR c) ∧ Below w.heap.size w w' := by
  obtain ⟨a0, c0, a1, c1, a2, c2, rfl, rfl, rfl⟩ := hr.shape
  have hbx := bal (bself w) (.cells #[.slice a0 c.vars.length c0, .slice a1 c.arrays.length c1, .slice a2 c.list.length c2] 50)
  have HV := Lib.hid (fun h => liveR_no (c := c) h)
  have HY := Lib.hid (fun h => liveR_yes (c := c) h)
  have HL := Lib.hid (fun (W : World) (hW : Below w.heap.size w W) h => live_any _ _ _ c W (hr.below hW) h)
  go_enter Try.func52, Try.ntmps52
  go_wp2_with fail
  refine (iCodeValid_any _ _ _ c _ (hr.below hbx)).mono ?_
  rintro e w1 ⟨rfl, hb⟩
  have b0 : w1.cell? ⟨w.heap.size, 0, none⟩ = some (.slice a0 c.vars.length c0) := kept_cell hb (cell_nw (by simp) (by rfl))
  have b1 : w1.cell? ⟨w.heap.size, 1, none⟩ = some (.slice a1 c.arrays.length c1) := kept_cell hb (cell_nw (by simp) (by rfl))
  have b2 : w1.cell? ⟨w.heap.size, 2, none⟩ = some (.slice a2 c.list.length c2) := kept_cell hb (cell_nw (by simp) (by rfl))
  have k2 := lt_of_cell b2
  replace hbx := btr hbx hb
  clear hb hr
  cases hok : codeOk c with
  | false =>
    have HO := Lib.hid hok; clear hok
    go_wp2
    go_ret
    exact ⟨_, _, rfl, by rw [HV.out HO.out]; exact (⟨rfl, World.ownsRow_nil _ _ _ _, fun k u r h => by simp at h, fun j k u u' h => by simp at h⟩ : Own2B _ _ _ [] []), hbx⟩
  | true =>
    have HO := Lib.hid hok; clear hok
    go_wp2_with fail
    refine (HL.out _ hbx HO.out).mono ?_
    rintro e w2 ⟨u, us, rfl, ho, hb⟩
    have hz := hbx.size
    obtain ⟨ua, uc, rfl⟩ := ho.shape
    go_wp2
    go_ret
    exact ⟨_, _, rfl, by rw [HY.out HO.out]; exact ho.mono hz, btr hbx hb⟩

theorem sLiveRegs_any (va vb vc : Value) (c : Cd) (w : World) (hr : ReadsC w va vb vc c) :
    Calls Try.prog 51 #[.agg #[va, vb, vc]] w fun e w' => ∃ u us, e = .returned u ∧ Own2B w' w.heap.size u us (liveR c) ∧ Below w.heap.size w w' := by
  obtain ⟨a0, c0, a1, c1, a2, c2, rfl, rfl, rfl⟩ := hr.shape
  have hbx := bal (bself w) (.cells #[.slice a0 c.vars.length c0, .slice a1 c.arrays.length c1, .slice a2 c.list.length c2] 50)
  have HV := Lib.hid (fun h => liveR_no (c := c) h)
  have HY := Lib.hid (fun h => liveR_yes (c := c) h)
  have HL := Lib.hid (fun (W : World) (hW : Below w.heap.size w W) h => l12Live_any _ _ _ c W (hr.below hW) h)
  go_enter Try.func51, Try.ntmps51
  go_wp2_with fail
  refine (sCodeValid_any _ _ _ c _ (hr.below hbx)).mono ?_
  rintro e w1 ⟨rfl, hb⟩
  have b0 : w1.cell? ⟨w.heap.size, 0, none⟩ = some (.slice a0 c.vars.length c0) := kept_cell hb (cell_nw (by simp) (by rfl))
  have b1 : w1.cell? ⟨w.heap.size, 1, none⟩ = some (.slice a1 c.arrays.length c1) := kept_cell hb (cell_nw (by simp) (by rfl))
  have b2 : w1.cell? ⟨w.heap.size, 2, none⟩ = some (.slice a2 c.list.length c2) := kept_cell hb (cell_nw (by simp) (by rfl))
  have k2 := lt_of_cell b2
  replace hbx := btr hbx hb
  clear hb hr
  cases hok : codeOk c with
  | false =>
    have HO := Lib.hid hok; clear hok
    have hz := hbx.size
    have ho := own_lit w1 #[] 0 36 rfl (by omega)
    go_wp2
    go_ret
    exact ⟨_, _, rfl, by rw [HV.out HO.out]; exact (⟨rfl, own_mono ho hz, fun k u r h => by simp at h, fun j k u u' h => by simp at h⟩ : Own2B _ _ _ [] []), bal hbx _⟩
  | true =>
    have HO := Lib.hid hok; clear hok
    go_wp2_with fail
    refine (HL.out _ hbx HO.out).mono ?_
    rintro e w2 ⟨u, us, rfl, ho, hb⟩
    have hz := hbx.size
    obtain ⟨ua, uc, rfl⟩ := ho.shape
    go_wp2
    go_ret
    exact ⟨_, _, rfl, by rw [HY.out HO.out]; exact ho.mono hz, btr hbx hb⟩
end Go.Proofs.Ytkbbpnfhenoihaa
