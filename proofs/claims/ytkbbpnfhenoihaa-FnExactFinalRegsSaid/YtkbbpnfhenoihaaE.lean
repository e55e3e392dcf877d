import Derived.Test.YtkbbpnfhenoihaaA
import Derived.Test.YtkbbpnfhenoihaaD
namespace Go.Proofs.Ytkbbpnfhenoihaa
open Go.RowKit

theorem clone_any (v : Value) (xs : List Int) (w : World) (hr : Reads w 1 v xs.length (ints xs)) (hsz : xs.length ≤ 1073741824) :
    Calls Try.prog 79 #[v] w fun e w' => ∃ u, e = .returned u ∧ w'.ownsRow w.heap.size 3 1 u xs.length (ints xs) ∧ Below w.heap.size w w' := by
  have hr0 := hr
  have heq := fun w a n c => Lib.run_eql_slice_nil (P := Try.prog) w 22 3 a n c 0 0 Try.underlying22
  obtain ⟨_, hn, a, cap, b, off, rfl, ⟨hcap, hnil⟩, ha, hca⟩ := hr
  cases a with
  | none =>
    have h0 := hnil rfl
    have h1 : xs = [] := List.eq_nil_of_length_eq_zero (by omega)
    subst h1 h0
    go_enter Try.func79, Try.ntmps79
    go_wp2
    go_ret
    exact ⟨_, rfl, World.ownsRow_nil _ _ _ _, Below.refl _ _⟩
  | some a =>
    have hown := own_nil_made w 3
    have hr1 := hr0.below ((Below.refl w.heap.size w).alloc (Nat.le_refl _) (.cells #[] 3))
    clear hr0 ha hca hnil
    go_enter Try.func79, Try.ntmps79
    go_wp2_with (at_builtin; refine wpList_aps tInts rfl _ _ rfl w.heap.size _ 0 [] rfl hown _ _ _ rfl hr1 (one_ints xs) (by omega) ?c1 ?_)
    case c1 => simp
    · intro v' w' ho' hc' hn' _
      have hb := ((Below.refl w.heap.size w).alloc (Nat.le_refl _) (.cells #[] 3)).trans (hc'.below w.heap.size (by simp) (fun k hk => not_own hown hk))
      clear hc' hn' heq hown
      go_wp2
      go_ret
      exact ⟨_, rfl, ho', hb⟩

theorem toCache_any (v : Value) (xs : List Int) (w : World) (hr : Reads w 1 v xs.length (ints xs)) (hsz : xs.length ≤ 1073741824) :
    Calls Try.prog 18 #[.agg #[v]] w fun e w' => ∃ u, e = .returned (.agg #[u]) ∧ w'.ownsRow w.heap.size 3 1 u xs.length (ints xs) ∧ Below w.heap.size w w' := by
  obtain ⟨va, vc, rfl⟩ := reads_shape hr
  go_enter Try.func18, Try.ntmps18
  go_wp2_with fail
  have hb0 := bal (bal (bal (bself w) (.cells #[.slice va xs.length vc] 24)) (.cells #[.slice none 0 0] 29)) (.cells #[.slice none 0 0] 29)
  refine (toIntS_any _ xs _ (hr.below hb0) hsz).mono ?_
  rintro e w1 ⟨u, rfl, ho, hb⟩
  obtain ⟨ua, uc, rfl⟩ := own_shape ho
  have hc1 : w1.cell? ⟨w.heap.size + 1, 0, none⟩ = some (.slice none 0 0) := by rw [hb.cell (p := ⟨w.heap.size + 1, 0, none⟩) (by simp)]; simp [go_sem]
  have hf1 : w1.frozen? ⟨w.heap.size + 1, 0, none⟩ = false := by rw [hb.frozen (p := ⟨w.heap.size + 1, 0, none⟩) (by simp)]; simp [go_sem]
  have hc2 : w1.cell? ⟨w.heap.size + 1 + 1, 0, none⟩ = some (.slice none 0 0) := by rw [hb.cell (p := ⟨w.heap.size + 1 + 1, 0, none⟩) (by simp)]; simp [go_sem]
  have hf2 : w1.frozen? ⟨w.heap.size + 1 + 1, 0, none⟩ = false := by rw [hb.frozen (p := ⟨w.heap.size + 1 + 1, 0, none⟩) (by simp)]; simp [go_sem]
  have ho2 := own_mono (ownsRow_setCell_below ho (a := ⟨w.heap.size + 1 + 1, 0, none⟩) (by simp) (.slice ua xs.length uc)) (Nat.le_refl _)
  have ho3 := own_mono (ownsRow_setCell_below ho2 (a := ⟨w.heap.size + 1, 0, none⟩) (by simp) (.slice ua xs.length uc)) (base' := w.heap.size) (by simp; omega)
  have hb2 := bst (bst (btr hb0 hb) (w.heap.size + 1 + 1) 0 (by omega) (.slice ua xs.length uc)) (w.heap.size + 1) 0 (by omega) (.slice ua xs.length uc)
  have hres := cell_at (w1.setCell ⟨w.heap.size + 1 + 1, 0, none⟩ (.slice ua xs.length uc)) (w.heap.size + 1) 0 (.slice ua xs.length uc) ((cell_far _ _ _ _ _ _ (by omega)).trans hc1)
  clear ho ho2 hb hb0 hr
  go_wp2
  exact bodyPost_ret (v := .agg #[.slice ua xs.length uc]) (by simp [results, Try.results18, go_sem, hres]) rfl ⟨_, rfl, ho3, hb2⟩

theorem eqCache_any (va vb : Value) (xs ys : List Int) (w : World) (ha : Reads w 1 va xs.length (ints xs)) (hb : Reads w 1 vb ys.length (ints ys)) :
    Calls Try.prog 21 #[.agg #[va], .agg #[vb]] w fun e w' => e = .returned (.bool (decide (xs = ys))) ∧ Below w.heap.size w w' := by
  have hs1 := st_var (P := Try.prog) (reads_one ha)
  have hs2 := st_var (P := Try.prog) (reads_one hb)
  have hb0 := bal (bal (bself w) (.cells #[va] 29)) (.cells #[vb] 29)
  have hx : ∃ b : Bool, b = decide (xs = ys) := ⟨_, rfl⟩
  obtain ⟨bb, hbb⟩ := hx
  rw [← hbb]
  have HB := Lib.hid hbb; clear hbb
  go_enter Try.func21, Try.ntmps21
  go_wp2_with fail
  refine (eqIntS_any va vb xs ys _ (ha.below hb0) (hb.below hb0)).mono ?_
  rw [← HB.out]
  rintro e w1 ⟨rfl, k, rfl⟩
  have hb1 := below_drewN hb0 k
  clear hb0 ha hb
  cases bb
  all_goals
    go_wp2
    go_ret
    exact ⟨rfl, hb1⟩
end Go.Proofs.Ytkbbpnfhenoihaa
