import Derived.Test.YtcnaeeejffeeoaaL
namespace Go.Proofs.Ytcnaeeejffeeoaa
open Go.RowKit

theorem sAccess_yes (v : Value) (x y : Int) (a : Int) (w : World) (r0 : Reads w 1 v [x, y].length (ints [x, y])) (hok : cacheOk [x, y] = true) (h0 : 0 ≤ a) (h7 : a ≤ 7) :
    Calls Try.prog 28 #[.agg #[v], .int .i64 a] w fun e w' => ∃ u, e = .returned (.tuple #[.agg #[u], .bool (accH [x, y] a)]) ∧ w'.ownsRow w.heap.size 3 1 u 2 (ints (accL [x, y] a)) ∧ Below w.heap.size w w' := by
  have hA := accOk_of hok h0 h7
  have hv := sCacheValid_any v [x, y]
  rw [hok] at hv
  have HV := Lib.hid hv; clear hv
  have HL : Hid (accL [x, y] a = [x, y].set ((a / 2) % 2).toNat (a / 2)) := Lib.hid (by unfold accL; rw [if_pos hA])
  have HH : Hid (accH [x, y] a = ([x, y].getD ((a / 2) % 2).toNat 0 == a / 2)) := Lib.hid (by unfold accH; rw [hA, Bool.true_and])
  clear hA hok
  have h8 : ¬ 8 ≤ a := by omega
  obtain ⟨va, vc, rfl⟩ := reads_shape r0
  go_enter Try.func28, Try.ntmps28
  go_wp2_with fail
  refine (HV.out _ (r0.below (bal (bal (bself w) _) _))).mono ?_
  rintro e w1 ⟨rfl, hb⟩
  have hk1 := btr (bal (bal (bself w) _) _) hb
  have hsz1 := hb.size
  simp only [World.size_alloc] at hsz1
  replace r0 := r0.below hk1
  have bx2 : w1.cell? ⟨w.heap.size, 0, none⟩ = some (.slice va 2 vc) := kept_cell hb (by simp [go_sem])
  have bx3 : w1.cell? ⟨w.heap.size + 1, 0, none⟩ = some (.slice none 0 0) := kept_cell hb (by simp [go_sem])
  have bf4 : w1.frozen? ⟨w.heap.size + 1, 0, none⟩ = false := kept_froz hb (by simp) (by simp [go_sem])
  have tot := hk1
  clear hk1 hb
  have lt5 := lt_of_cell bx2
  have lt6 := lt_of_cell bx3
  go_wp2_with (go_at_call 56; refine (l10Limit_any _).mono ?_; rintro e wl ⟨rfl, rfl⟩)
  refine (l10Copy_any _ [x, y] _ r0 (by simp)).mono ?_
  rintro e w2 ⟨u, rfl, o1, hb⟩
  have hk7 := btr (bself w1) hb
  have hsz7 := hb.size
  replace bf4 := kept_froz hk7 (lt_of_cell bx3) bf4
  replace r0 := r0.below hk7
  replace bx2 := kept_cell hk7 bx2
  replace bx3 := kept_cell hk7 bx3
  replace tot := btr tot hk7
  clear hk7 hb
  clear r0
  obtain ⟨g, c, rfl⟩ := own_pos o1 (by simp)
  have iv8 := o1.lt
  have lt9 := lt_of_cell bx2
  have lt10 := lt_of_cell bx3
  go_wp2_with fail
  refine (l10Access_any g c x y a _ _ (own_below o1 (bal (bself w2) _)) h0 h7).mono ?_
  rintro e w3 ⟨rfl, o2, hb⟩
  have hk11 := (Chg.of_below (bal (bself w2) _)).trans hb
  have hsz11 := hb.size
  simp only [World.size_alloc] at hsz11
  replace bf4 := (hk11.frozen 0 (lt_of_cell bx3) (fun h => by have := (fun k (hk : k = g) => iv8 k (by rw [hk]; rfl)) _ h; omega)).trans bf4
  replace bx2 := (hk11.cell 0 (lt_of_cell bx2) (fun h => by have := (fun k (hk : k = g) => iv8 k (by rw [hk]; rfl)) _ h; omega)).trans bx2
  replace bx3 := (hk11.cell 0 (lt_of_cell bx3) (fun h => by have := (fun k (hk : k = g) => iv8 k (by rw [hk]; rfl)) _ h; omega)).trans bx3
  have bx12 : w3.cell? ⟨w2.heap.size, 0, none⟩ = some (.slice (some ⟨g, 0, none⟩) 2 c) := (hb.cell 0 (by simp) (fun h => by have := (fun k (hk : k = g) => iv8 k (by rw [hk]; rfl)) _ h; omega)).trans (by simp [go_sem])
  replace tot := tot.trans (hk11.below w.heap.size (by have := tot.size; omega) (fun gq hgq h => by have := (fun k (hk : k = g) => iv8 k (by rw [hk]; rfl)) gq h; omega))
  clear hk11 hb
  have lt13 := lt_of_cell bx2
  have lt14 := lt_of_cell bx3
  have lt15 := lt_of_cell bx12
  have hres := cell_at w3 (w.heap.size + 1) 0 (.slice (some ⟨g, 0, none⟩) 2 c) bx3
  have o3 := own_mono (own_set o2 (w.heap.size + 1) 0 (fun h => by have := iv8 _ h; omega) (.slice (some ⟨g, 0, none⟩) 2 c)) (base' := w.heap.size) (by omega)
  have tot2 := bst tot (w.heap.size + 1) 0 (by omega) (.slice (some ⟨g, 0, none⟩) 2 c)
  clear o2 tot
  go_wp2
  exact bodyPost_ret (v := .tuple #[.agg #[.slice (some ⟨g, 0, none⟩) 2 c], .bool _]) (by simp [results, Try.results28, go_sem, hres]; rfl) rfl ⟨_, by rw [HH.out]; rfl, by rw [HL.out]; exact o3, tot2⟩

theorem sAccess_no (v : Value) (xs : List Int) (a : Int) (w : World) (hr : Reads w 1 v xs.length (ints xs)) (hno : ¬ (cacheOk xs = true ∧ 0 ≤ a ∧ a ≤ 7)) :
    Calls Try.prog 28 #[.agg #[v], .int .i64 a] w fun e w' => e = .returned (.tuple #[.agg #[.slice none 0 0], .bool false]) ∧ Below w.heap.size w w' := by
  have hv := sCacheValid_any v xs
  obtain ⟨va, vc, rfl⟩ := reads_shape hr
  have hb0 := bal (bal (bself w) (.cells #[.slice va xs.length vc] 24)) (.cells #[.slice none 0 0] 24)
  by_cases hok : cacheOk xs = true
  · rw [hok] at hv
    have HV := Lib.hid hv; clear hv
    have ha2 : (a < 0) ∨ (0 ≤ a ∧ 8 ≤ a) := by
      by_cases h : a < 0
      · exact Or.inl h
      · refine Or.inr ⟨by omega, ?_⟩
        by_cases h7 : 8 ≤ a
        · exact h7
        · exact absurd ⟨hok, by omega, by omega⟩ hno
    clear hno hok
    rcases ha2 with ha | ⟨ha, ha'⟩
    all_goals
      go_enter Try.func28, Try.ntmps28
      go_wp2_with fail
      refine (HV.out _ (hr.below hb0)).mono ?_
      rintro e w1 ⟨rfl, hb1⟩
      have hk1 := btr hb0 hb1
      have bx2 : w1.cell? ⟨w.heap.size + 1, 0, none⟩ = some (.slice none 0 0) := kept_cell hb1 (by simp [go_sem])
      have bf2 : w1.frozen? ⟨w.heap.size + 1, 0, none⟩ = false := kept_froz hb1 (by simp) (by simp [go_sem])
      clear hb0 hb1 hr
      go_wp2
      exact bodyPost_ret (v := .tuple #[.agg #[.slice none 0 0], .bool false]) (by simp [results, Try.results28, go_sem, bx2]) rfl ⟨rfl, bst hk1 _ _ (by omega) _⟩
  · have hf : cacheOk xs = false := by simpa using hok
    rw [hf] at hv
    have HV := Lib.hid hv; clear hv hno hok hf
    go_enter Try.func28, Try.ntmps28
    go_wp2_with fail
    refine (HV.out _ (hr.below hb0)).mono ?_
    rintro e w1 ⟨rfl, hb1⟩
    have hk1 := btr hb0 hb1
    have bx2 : w1.cell? ⟨w.heap.size + 1, 0, none⟩ = some (.slice none 0 0) := kept_cell hb1 (by simp [go_sem])
    have bf2 : w1.frozen? ⟨w.heap.size + 1, 0, none⟩ = false := kept_froz hb1 (by simp) (by simp [go_sem])
    clear hb0 hb1 hr
    go_wp2
    exact bodyPost_ret (v := .tuple #[.agg #[.slice none 0 0], .bool false]) (by simp [results, Try.results28, go_sem, bx2]) rfl ⟨rfl, bst hk1 _ _ (by omega) _⟩

theorem sAccess_any (v : Value) (xs : List Int) (a : Int) (w : World) (hr : Reads w 1 v xs.length (ints xs)) :
    Calls Try.prog 28 #[.agg #[v], .int .i64 a] w fun e w' => ∃ u, e = .returned (.tuple #[.agg #[u], .bool (accH xs a)]) ∧ w'.ownsRow w.heap.size 3 1 u (accL xs a).length (ints (accL xs a)) ∧ Below w.heap.size w w' := by
  by_cases h : cacheOk xs = true ∧ 0 ≤ a ∧ a ≤ 7
  · obtain ⟨h1, h2, h3⟩ := h
    obtain ⟨x, y, rfl⟩ := cacheOk_two h1
    refine (sAccess_yes v x y a w hr h1 h2 h3).mono ?_
    rintro e w' ⟨u, rfl, ho, hb⟩
    exact ⟨u, rfl, by have : (accL [x, y] a).length = 2 := by unfold accL; rw [if_pos (accOk_of h1 h2 h3)]; simp
                      rw [this]; exact ho, hb⟩
  · refine (sAccess_no v xs a w hr h).mono ?_
    rintro e w' ⟨rfl, hb⟩
    have e1 : accL xs a = [] := by unfold accL; rw [if_neg (by rw [accOk_not h]; simp)]
    have e2 : accH xs a = false := by unfold accH; rw [accOk_not h]; rfl
    exact ⟨_, by rw [e2], by rw [e1]; exact World.ownsRow_nil _ _ _ _, hb⟩

end Go.Proofs.Ytcnaeeejffeeoaa
