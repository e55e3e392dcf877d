/-
  Parts of the proof of the law FnExactRunTime.
-/
import Derived.Test.YtbglogjamfdmpaaA
namespace Go.Proofs.Ytbglogjamfdmpaa
open Go.RowKit

theorem tInts : SliceT Try.prog 22 3 (.int .i64 0) 1 8 := ⟨Try.underlying22, info_int, rfl, by omega, by omega⟩

theorem filled_any (n : Int) (w : World) :
    Calls Try.prog 120 #[.int .i64 n] w fun e w' => ∃ v, e = .returned (.agg #[v]) ∧ w'.ownsRow w.heap.size 3 1 v 2 [.int .i64 n, .int .i64 n] ∧ Below w.heap.size w w' := by
  go_enter Try.func120, Try.ntmps120
  go_wp2
  go_loopw [4] (fun i wr => ∃ k : Nat, k ≤ 2 ∧ i = .int .i64 k ∧ ∃ v, wr.cell? ⟨w.heap.size + 1, 0, none⟩ = some v ∧ v.oneCell' = true ∧ wr.frozen? ⟨w.heap.size + 1, 0, none⟩ = false ∧ wr.cell? ⟨w.heap.size, 0, none⟩ = some (.slice none 0 0) ∧ wr.frozen? ⟨w.heap.size, 0, none⟩ = false ∧ wr.ownsRow (w.heap.size + 2) 3 1 v k (List.replicate k (.int .i64 n)) ∧ Below w.heap.size w wr) (fun i _ => 2 - (intOf i).toNat)
  case atStart => exact ⟨0, by omega, rfl, .slice none 0 0, by simp [go_sem], rfl, by simp [go_sem], by simp [go_sem], by simp [go_sem], World.ownsRow_nil _ _ _ _, ((Below.refl _ _).alloc (Nat.le_refl _) _).alloc (by simp) _⟩
  case round =>
    obtain ⟨k, hk, rfl, v, hc, hv1, hf, hrc, hrf, ho, hb⟩ := hrel
    by_cases hlt : k < 2
    · go_wp2_with (at_builtin; refine wpList_ap tInts rfl _ _ rfl (w.heap.size + 2) v k _ rfl ho [.int .i64 n] rfl rfl (one_ints [n]) (by omega) ?c1 ?_)
      case c1 => have := lt_of_cell hc; omega
      · intro g cap w' ho' hc' hg'
        have hlt1 := lt_of_cell hc
        have hno := not_own ho (k := w.heap.size + 1) (by omega)
        have hc1 := (hc'.cell 0 hlt1 hno).trans hc
        have hf1 := (hc'.frozen 0 hlt1 hno).trans hf
        have hrc1 := (hc'.cell 0 (by omega) (not_own ho (by omega))).trans hrc
        have hrf1 := (hc'.frozen 0 (by omega) (not_own ho (by omega))).trans hrf
        have hb1 := hb.trans (hc'.below w.heap.size (by omega) (fun k hk => not_own ho (by omega)))
        have ho2 := ownsRow_setCell_below ho' (a := ⟨w.heap.size + 1, 0, none⟩) (by simp) (.slice (some ⟨g, 0, none⟩) (k + 1) cap)
        have hb2 := hb1.setCell (p := ⟨w.heap.size + 1, 0, none⟩) (by simp) (.slice (some ⟨g, 0, none⟩) (k + 1) cap)
        clear ho ho' hb hb1 hc' hg' hno hc hf hlt1 hrc hrf
        go_wp2
        go_roundw
        case rel => exact ⟨k + 1, by omega, by go_num, _, World.cell?_setCell_same _ _ _ hc1, rfl, (World.frozen?_setCell ..).trans hf1, (World.cell?_setCell_other _ _ _ _ (by simp)).trans hrc1, (World.frozen?_setCell ..).trans hrf1, by rw [List.replicate_succ']; exact ho2, hb2⟩
        case measure => simp [intOf]; omega
    · have hs := st_var (P := Try.prog) hv1
      have e : k = 2 := by omega
      subst e
      go_wp2
      have hres := World.cell?_setCell_same wr ⟨w.heap.size, 0, none⟩ v hrc
      refine bodyPost_ret (v := .agg #[v]) (by simp [results, Try.results120, go_sem, hres]) rfl ⟨v, rfl, ?_, ?_⟩
      · exact own_mono (ownsRow_setCell_below ho (a := ⟨w.heap.size, 0, none⟩) (by simp) v) (by omega)
      · exact hb.setCell (p := ⟨w.heap.size, 0, none⟩) (Nat.le_refl _) v
theorem l10Fill_any (n : Int) (w : World) :
    Calls Try.prog 117 #[.int .i64 n] w fun e w' => ∃ v, e = .returned (.agg #[v]) ∧ w'.ownsRow w.heap.size 3 1 v 2 [.int .i64 n, .int .i64 n] ∧ Below w.heap.size w w' := by
  go_enter Try.func117, Try.ntmps117
  go_wp2
  go_loopw [4] (fun i wr => ∃ k : Nat, k ≤ 2 ∧ i = .int .i64 k ∧ ∃ v, wr.cell? ⟨w.heap.size + 1, 0, none⟩ = some v ∧ v.oneCell' = true ∧ wr.frozen? ⟨w.heap.size + 1, 0, none⟩ = false ∧ wr.cell? ⟨w.heap.size, 0, none⟩ = some (.slice none 0 0) ∧ wr.frozen? ⟨w.heap.size, 0, none⟩ = false ∧ wr.ownsRow (w.heap.size + 2) 3 1 v k (List.replicate k (.int .i64 n)) ∧ Below w.heap.size w wr) (fun i _ => 2 - (intOf i).toNat)
  case atStart => exact ⟨0, by omega, rfl, .slice none 0 0, by simp [go_sem], rfl, by simp [go_sem], by simp [go_sem], by simp [go_sem], World.ownsRow_nil _ _ _ _, ((Below.refl _ _).alloc (Nat.le_refl _) _).alloc (by simp) _⟩
  case round =>
    obtain ⟨k, hk, rfl, v, hc, hv1, hf, hrc, hrf, ho, hb⟩ := hrel
    by_cases hlt : k < 2
    · go_wp2_with (at_builtin; refine wpList_ap tInts rfl _ _ rfl (w.heap.size + 2) v k _ rfl ho [.int .i64 n] rfl rfl (one_ints [n]) (by omega) ?c1 ?_)
      case c1 => have := lt_of_cell hc; omega
      · intro g cap w' ho' hc' hg'
        have hlt1 := lt_of_cell hc
        have hno := not_own ho (k := w.heap.size + 1) (by omega)
        have hc1 := (hc'.cell 0 hlt1 hno).trans hc
        have hf1 := (hc'.frozen 0 hlt1 hno).trans hf
        have hrc1 := (hc'.cell 0 (by omega) (not_own ho (by omega))).trans hrc
        have hrf1 := (hc'.frozen 0 (by omega) (not_own ho (by omega))).trans hrf
        have hb1 := hb.trans (hc'.below w.heap.size (by omega) (fun k hk => not_own ho (by omega)))
        have ho2 := ownsRow_setCell_below ho' (a := ⟨w.heap.size + 1, 0, none⟩) (by simp) (.slice (some ⟨g, 0, none⟩) (k + 1) cap)
        have hb2 := hb1.setCell (p := ⟨w.heap.size + 1, 0, none⟩) (by simp) (.slice (some ⟨g, 0, none⟩) (k + 1) cap)
        clear ho ho' hb hb1 hc' hg' hno hc hf hlt1 hrc hrf
        go_wp2
        go_roundw
        case rel => exact ⟨k + 1, by omega, by go_num, _, World.cell?_setCell_same _ _ _ hc1, rfl, (World.frozen?_setCell ..).trans hf1, (World.cell?_setCell_other _ _ _ _ (by simp)).trans hrc1, (World.frozen?_setCell ..).trans hrf1, by rw [List.replicate_succ']; exact ho2, hb2⟩
        case measure => simp [intOf]; omega
    · have hs := st_var (P := Try.prog) hv1
      have e : k = 2 := by omega
      subst e
      go_wp2
      have hres := World.cell?_setCell_same wr ⟨w.heap.size, 0, none⟩ v hrc
      refine bodyPost_ret (v := .agg #[v]) (by simp [results, Try.results117, go_sem, hres]) rfl ⟨v, rfl, ?_, ?_⟩
      · exact own_mono (ownsRow_setCell_below ho (a := ⟨w.heap.size, 0, none⟩) (by simp) v) (by omega)
      · exact hb.setCell (p := ⟨w.heap.size, 0, none⟩) (Nat.le_refl _) v

theorem iEmpty_any (w : World) :
    Calls Try.prog 79 #[] w fun e w' => ∃ v, e = .returned (.agg #[v]) ∧ w'.ownsRow w.heap.size 3 1 v 2 (ints [-1, -1]) ∧ Below w.heap.size w w' := by
  go_enter Try.func79, Try.ntmps79
  go_wp2_with fail
  refine (filled_any _ _).mono ?_
  rintro e w1 ⟨v, rfl, ho, hb⟩
  have hv := own_one ho
  have hs := st_var (P := Try.prog) hv
  have hc : w1.cell? ⟨w.heap.size, 0, none⟩ = some (.slice none 0 0) := by rw [hb.cell (p := ⟨w.heap.size, 0, none⟩) (by simp)]; simp [go_sem]
  have hf : w1.frozen? ⟨w.heap.size, 0, none⟩ = false := by rw [hb.frozen (p := ⟨w.heap.size, 0, none⟩) (by simp)]; simp [go_sem]
  have hb2 := (((Below.refl w.heap.size w).alloc (Nat.le_refl _) (.cells #[.slice none 0 0] 114)).trans (hb.mono (by simp))).setCell (p := ⟨w.heap.size, 0, none⟩) (Nat.le_refl _) v
  have ho2 := own_mono (ownsRow_setCell_below ho (a := ⟨w.heap.size, 0, none⟩) (by simp) v) (base' := w.heap.size) (by simp)
  clear ho hb
  go_wp2
  have hres := World.cell?_setCell_same w1 ⟨w.heap.size, 0, none⟩ v hc
  exact bodyPost_ret (v := .agg #[v]) (by simp [results, Try.results79, go_sem, hres]) rfl ⟨v, rfl, ho2, hb2⟩
theorem sEmpty_any (w : World) :
    Calls Try.prog 76 #[] w fun e w' => ∃ v, e = .returned (.agg #[v]) ∧ w'.ownsRow w.heap.size 3 1 v 2 (ints [-1, -1]) ∧ Below w.heap.size w w' := by
  go_enter Try.func76, Try.ntmps76
  go_wp2_with fail
  refine (l10Fill_any _ _).mono ?_
  rintro e w1 ⟨v, rfl, ho, hb⟩
  have hv := own_one ho
  have hs := st_var (P := Try.prog) hv
  have hc : w1.cell? ⟨w.heap.size, 0, none⟩ = some (.slice none 0 0) := by rw [hb.cell (p := ⟨w.heap.size, 0, none⟩) (by simp)]; simp [go_sem]
  have hf : w1.frozen? ⟨w.heap.size, 0, none⟩ = false := by rw [hb.frozen (p := ⟨w.heap.size, 0, none⟩) (by simp)]; simp [go_sem]
  have hb2 := (((Below.refl w.heap.size w).alloc (Nat.le_refl _) (.cells #[.slice none 0 0] 114)).trans (hb.mono (by simp))).setCell (p := ⟨w.heap.size, 0, none⟩) (Nat.le_refl _) v
  have ho2 := own_mono (ownsRow_setCell_below ho (a := ⟨w.heap.size, 0, none⟩) (by simp) v) (base' := w.heap.size) (by simp)
  clear ho hb
  go_wp2
  have hres := World.cell?_setCell_same w1 ⟨w.heap.size, 0, none⟩ v hc
  exact bodyPost_ret (v := .agg #[v]) (by simp [results, Try.results76, go_sem, hres]) rfl ⟨v, rfl, ho2, hb2⟩

end Go.Proofs.Ytbglogjamfdmpaa
