/-
  What has to be live before an instruction.
-/
import Derived.Test.YtkbbpnfhenoihaaLA
namespace Go.Proofs.Ytkbbpnfhenoihaa
open Go.RowKit

def usesF (us : List Int) (F : Nat → Bool) (q : Nat) : Bool := us.any (fun u => u == (q : Int)) || F q
theorem usesF_succ (us : List Int) (F : Nat → Bool) (k : Nat) (h : k < us.length) (nu : Nat) (hn : us[k] = (nu : Int)) (q : Nat) : (if q = nu then true else usesF (us.take k) F q) = usesF (us.take (k + 1)) F q := by
  unfold usesF
  rw [List.take_succ_eq_append_getElem h, List.any_append, hn]
  simp only [List.any_cons, List.any_nil, Bool.or_false]
  by_cases e : q = nu
  · subst e; simp
  · rw [if_neg e, show ((nu : Int) == (q : Int)) = false from by simp; omega, Bool.or_false]
theorem use_len (x : Ins) : (use x).length ≤ 3 := by unfold use; repeat (first | split | simp)

set_option maxHeartbeats 6400000 in
set_option maxRecDepth 100000 in
theorem liveBefore_any (va vb vc v : Value) (c : Cd) (L : List (List Bool)) (i : Nat) (w : World) (hr : ReadsC w va vb vc c) (hv : Reads2 bools w v L) (hL : L.length = c.list.length) (hrow : ∀ k (h : k < L.length), L[k].length = 14) (hok : codeOk c = true) (hi : i < c.list.length) :
    Calls Try.prog 113 #[.agg #[va, vb, vc], .int .i64 i, v] w fun e w' => ∃ g, e = .returned (.slice (some ⟨g, 0, none⟩) 14 14) ∧ w'.ownsRow w.heap.size 4 1 (.slice (some ⟨g, 0, none⟩) 14 14) 14 (bools (befAt c L i)) ∧ Below w.heap.size w w' := by
  rw [befAt_at c L i hi]
  obtain ⟨a0, c0, a1, c1, a2, c2, rfl, rfl, rfl⟩ := hr.shape
  obtain ⟨a3, c3, rfl⟩ := hv.shape
  obtain ⟨hl1, hl2⟩ := codeOk_len hok
  have hbx := bal (bself w) (.cells #[.slice a0 c.vars.length c0, .slice a1 c.arrays.length c1, .slice a2 c.list.length c2] 50)
  have HA := Lib.hid (fun W (hW : Below w.heap.size w W) => liveAfter_any _ _ _ _ c L i W (hr.below hW) (hv.below hW) hL hrow hok hi)
  have hin := codeOk_all hok i hi
  have hop := insOk_op hin
  have hwr := wrt_in hin
  have hus := use_in hin
  have hul := use_len c.list[i]
  obtain ⟨_, hn', aa, cap, b', off, hvv, hcap, ha, hca⟩ := hr.l
  simp only [Value.slice.injEq, true_and] at hvv
  obtain ⟨rfl, rfl⟩ := hvv
  obtain ⟨rfl, hbs⟩ := ha (by omega)
  obtain ⟨e0, e1, e2, e3, e4⟩ := reads_Instr hca i hi
  clear hca ha hr hv hL hrow hok hin
  unfold aft at HA
  generalize aftF L (flw c.list[i] i) = A at *
  generalize c.list[i] = x at *
  have hq : (i : Int) < (c.list.length : Int) := by omega
  have HU := Lib.hid hus
  clear hus
  go_enter Try.func113, Try.ntmps113
  go_wp2_with fail
  refine (HA.out _ hbx).mono ?_
  rintro e w1 ⟨g, rfl, ho, hb⟩
  have hz := hb.size
  simp only [World.size_alloc] at hz
  have b2 : w1.cell? ⟨w.heap.size, 2, none⟩ = some (.slice (some ⟨b', off, none⟩) c.list.length c2) := kept_cell hb (cell_nw rfl rfl)
  have hB := btr hbx hb
  replace e0 := kept_cell hB e0; replace e1 := kept_cell hB e1; replace e2 := kept_cell hB e2; replace e3 := kept_cell hB e3; replace e4 := kept_cell hB e4
  have hgi := ho.lt g rfl
  simp only [World.size_alloc] at hgi
  replace ho := own_mono ho (base' := w.heap.size + 1) (by simp)
  have k2 := lt_of_cell b2
  have k3 := lt_of_cell e0
  clear hb hbx HA
  go_wp2_with fail
  refine (writes_any x _ (by omega)).mono ?_
  rintro e w2 ⟨rfl, hb⟩
  have hz2 := hb.size
  replace ho := own_below ho hb
  replace b2 := kept_cell hb b2; replace e0 := kept_cell hb e0; replace e1 := kept_cell hb e1; replace e2 := kept_cell hb e2; replace e3 := kept_cell hb e3; replace e4 := kept_cell hb e4
  replace hB := btr hB hb
  clear hb
  rcases hwr with hwr | ⟨hw0, hw1⟩
  · rw [hwr]
    obtain ⟨F0, hF0⟩ : ∃ F0 : Nat → Bool, ∀ q, q < 14 → (A q && !(wrt x == (q : Int))) = F0 q := ⟨A, fun q _ => by rw [hwr, show ((-1 : Int) == (q : Int)) = false from by simp]; simp⟩
    replace ho : w2.ownsRow (w.heap.size + 1) 4 1 (.slice (some ⟨g, 0, none⟩) 14 14) 14 (bools (tab F0)) := by rw [tab_congr (f := F0) (g := A) (fun q hq => by rw [← hF0 q hq, hwr, show ((-1 : Int) == (q : Int)) = false from by simp]; simp)]; exact ho
    clear hwr
    have HT : Hid (tab (befF x A) = tab (usesF (use x) F0)) := Lib.hid (tab_congr (fun q hq => by unfold befF usesF; rw [hF0 q hq]))
    have k2 := lt_of_cell b2
    have k3 := lt_of_cell e0
    go_wp2_with fail
    refine (uses_any x _ (by omega)).mono ?_
    rintro e w4 ⟨u, rfl, hu, hb⟩
    have hz4 := hb.size
    (try simp only [World.size_setCell] at hz4)
    replace ho := own_below ho hb
    replace hB := btr hB hb
    have hui := hu.lt
    (try simp only [World.size_setCell] at hui)
    clear hb b2 e0 e1 e2 e3 e4 k2 k3 hF0
    obtain ⟨ua, uc, rfl⟩ := own_shape hu
    generalize use x = us at *
    go_wp2_with fail
    go_loopw [33] (fun t wr => ∃ k : Nat, k ≤ us.length ∧ t = .int .i64 k ∧ wr.ownsRow (w.heap.size + 1) 4 1 (.slice (some ⟨g, 0, none⟩) 14 14) 14 (bools (tab (usesF (us.take k) F0))) ∧ Chg (fun q => q = g) w4 wr) (fun t _ => us.length - (intOf t).toNat)
    case atStart => exact ⟨0, Nat.zero_le _, rfl, by rw [tab_congr (g := F0) (fun q _ => by simp [usesF])]; exact ho, Chg.refl _ _⟩
    case round =>
      obtain ⟨k, hk, rfl, hor, hC⟩ := hrel
      have hzr := hC.size
      by_cases hlt : k < us.length
      · have hu2 := own_keep hu hC (fun q hq h => by have := hui q hq; omega)
        obtain ⟨g', c', hgv⟩ := own_pos hu2 (by omega)
        simp only [Value.slice.injEq, true_and] at hgv
        obtain ⟨rfl, rfl⟩ := hgv
        have hcell := hu2.cellAt k (by omega)
        rw [List.getElem?_eq_getElem (by rw [ints_length]; exact hlt), ints_get] at hcell
        obtain ⟨hr0, hr1⟩ := HU.out _ (List.getElem_mem hlt)
        obtain ⟨nu, hnu⟩ : ∃ nu : Nat, us[k] = (nu : Int) := ⟨us[k].toNat, by omega⟩
        rw [hnu] at hcell
        have hn14 : nu < 14 := by omega
        have hout := own_tab_at hor nu hn14
        have hf := hor.frozenAt nu
        have hst := own_tab_set hor nu true (G := usesF (us.take (k + 1)) F0) (fun q hq => usesF_succ us F0 k hlt nu hnu q)
        have hC2 := hC.setCell g nu (.bool true) (fun _ => rfl)
        generalize usesF (us.take k) F0 nu = y at *
        clear hor hC hnu hr0 hr1 ho hu hu2
        go_wp2
        go_roundw
        case rel => exact ⟨k + 1, by omega, by go_num, hst, hC2⟩
        case measure => simp [intOf]; omega
      · have e : k = us.length := by omega
        subst e
        rw [List.take_length] at hor
        go_wp2
        go_ret
        exact ⟨_, rfl, by rw [HT.out]; exact own_mono hor (by omega), hB.trans (hC.below w.heap.size hB.size (fun q hq h => by omega))⟩
  · obtain ⟨nr, hnr⟩ : ∃ nr : Nat, wrt x = (nr : Int) := ⟨(wrt x).toNat, by omega⟩
    have hn14 : nr < 14 := by omega
    rw [hnr]
    obtain ⟨F0, hF0⟩ : ∃ F0 : Nat → Bool, ∀ q, q < 14 → (A q && !(wrt x == (q : Int))) = F0 q := ⟨_, fun q _ => rfl⟩
    have hout := own_tab_at ho nr hn14
    have hf := ho.frozenAt nr
    replace ho := own_tab_set ho nr false (G := F0) (fun q hq => by
      rw [← hF0 q hq, hnr]
      by_cases e : q = nr
      · subst e; simp
      · rw [if_neg e, show ((nr : Int) == (q : Int)) = false from by simp; omega]; simp)
    replace hB := bst hB g nr (by omega) (.bool false)
    replace b2 := cell_ne (b := g) (j := nr) b2 (by omega) (.bool false)
    replace e0 := cell_ne (b := g) (j := nr) e0 (by omega) (.bool false)
    replace e1 := cell_ne (b := g) (j := nr) e1 (by omega) (.bool false)
    replace e2 := cell_ne (b := g) (j := nr) e2 (by omega) (.bool false)
    replace e3 := cell_ne (b := g) (j := nr) e3 (by omega) (.bool false)
    replace e4 := cell_ne (b := g) (j := nr) e4 (by omega) (.bool false)
    generalize A nr = y at hout
    clear hw0 hw1 hnr
    have HT : Hid (tab (befF x A) = tab (usesF (use x) F0)) := Lib.hid (tab_congr (fun q hq => by unfold befF usesF; rw [hF0 q hq]))
    have k2 := lt_of_cell b2
    have k3 := lt_of_cell e0
    go_wp2_with fail
    refine (uses_any x _ (by omega)).mono ?_
    rintro e w4 ⟨u, rfl, hu, hb⟩
    have hz4 := hb.size
    (try simp only [World.size_setCell] at hz4)
    replace ho := own_below ho hb
    replace hB := btr hB hb
    have hui := hu.lt
    (try simp only [World.size_setCell] at hui)
    clear hb b2 e0 e1 e2 e3 e4 k2 k3 hF0
    obtain ⟨ua, uc, rfl⟩ := own_shape hu
    generalize use x = us at *
    go_wp2_with fail
    go_loopw [33] (fun t wr => ∃ k : Nat, k ≤ us.length ∧ t = .int .i64 k ∧ wr.ownsRow (w.heap.size + 1) 4 1 (.slice (some ⟨g, 0, none⟩) 14 14) 14 (bools (tab (usesF (us.take k) F0))) ∧ Chg (fun q => q = g) w4 wr) (fun t _ => us.length - (intOf t).toNat)
    case atStart => exact ⟨0, Nat.zero_le _, rfl, by rw [tab_congr (g := F0) (fun q _ => by simp [usesF])]; exact ho, Chg.refl _ _⟩
    case round =>
      obtain ⟨k, hk, rfl, hor, hC⟩ := hrel
      have hzr := hC.size
      by_cases hlt : k < us.length
      · have hu2 := own_keep hu hC (fun q hq h => by have := hui q hq; omega)
        obtain ⟨g', c', hgv⟩ := own_pos hu2 (by omega)
        simp only [Value.slice.injEq, true_and] at hgv
        obtain ⟨rfl, rfl⟩ := hgv
        have hcell := hu2.cellAt k (by omega)
        rw [List.getElem?_eq_getElem (by rw [ints_length]; exact hlt), ints_get] at hcell
        obtain ⟨hr0, hr1⟩ := HU.out _ (List.getElem_mem hlt)
        obtain ⟨nu, hnu⟩ : ∃ nu : Nat, us[k] = (nu : Int) := ⟨us[k].toNat, by omega⟩
        rw [hnu] at hcell
        have hn14 : nu < 14 := by omega
        have hout := own_tab_at hor nu hn14
        have hf := hor.frozenAt nu
        have hst := own_tab_set hor nu true (G := usesF (us.take (k + 1)) F0) (fun q hq => usesF_succ us F0 k hlt nu hnu q)
        have hC2 := hC.setCell g nu (.bool true) (fun _ => rfl)
        generalize usesF (us.take k) F0 nu = y at *
        clear hor hC hnu hr0 hr1 ho hu hu2
        go_wp2
        go_roundw
        case rel => exact ⟨k + 1, by omega, by go_num, hst, hC2⟩
        case measure => simp [intOf]; omega
      · have e : k = us.length := by omega
        subst e
        rw [List.take_length] at hor
        go_wp2
        go_ret
        exact ⟨_, rfl, by rw [HT.out]; exact own_mono hor (by omega), hB.trans (hC.below w.heap.size hB.size (fun q hq h => by omega))⟩
end Go.Proofs.Ytkbbpnfhenoihaa
