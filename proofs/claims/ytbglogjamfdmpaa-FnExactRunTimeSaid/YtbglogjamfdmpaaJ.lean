/-
  Parts of the proof of the law FnExactRunTime.
-/
import Derived.Test.YtbglogjamfdmpaaC
import Derived.Test.YtbglogjamfdmpaaE
namespace Go.Proofs.Ytbglogjamfdmpaa
open Go.RowKit

def accOk (xs : List Int) (a : Int) : Bool := cacheOk xs && decide (0 ≤ a ∧ a ≤ 7)
def accL (xs : List Int) (a : Int) : List Int := if accOk xs a = true then xs.set ((a / 2) % 2).toNat (a / 2) else []
def accH (xs : List Int) (a : Int) : Bool := accOk xs a && (xs.getD ((a / 2) % 2).toNat 0 == a / 2)

theorem cacheOk_two {xs : List Int} (h : cacheOk xs = true) : ∃ x y, xs = [x, y] := by
  unfold cacheOk at h
  have h := (of_decide_eq_true h).1
  match xs, h with
  | [x, y], _ => exact ⟨x, y, rfl⟩
theorem cacheOk_len {xs : List Int} (h : cacheOk xs = true) : xs.length = 2 := by
  unfold cacheOk at h
  exact (of_decide_eq_true h).1
theorem accOk_of {xs : List Int} {a : Int} (h : cacheOk xs = true) (h0 : 0 ≤ a) (h7 : a ≤ 7) : accOk xs a = true := by
  unfold accOk; rw [h, decide_eq_true ⟨h0, h7⟩]; rfl
theorem accOk_not {xs : List Int} {a : Int} (h : ¬ (cacheOk xs = true ∧ 0 ≤ a ∧ a ≤ 7)) : accOk xs a = false := by
  unfold accOk
  rw [Bool.eq_false_iff]
  intro hh
  rw [Bool.and_eq_true] at hh
  exact h ⟨hh.1, of_decide_eq_true hh.2⟩

set_option maxHeartbeats 1600000 in
theorem iAccess_yes (v : Value) (x y : Int) (a : Int) (w : World) (hr : Reads w 1 v 2 (ints [x, y])) (hok : cacheOk [x, y] = true) (h0 : 0 ≤ a) (h7 : a ≤ 7) :
    Calls Try.prog 164 #[.agg #[v], .int .i64 a] w fun e w' => ∃ u, e = .returned (.tuple #[.agg #[u], .bool (accH [x, y] a)]) ∧ w'.ownsRow w.heap.size 3 1 u 2 (ints (accL [x, y] a)) ∧ Below w.heap.size w w' := by
  have hA := accOk_of hok h0 h7
  have hv := iCacheValid_any v [x, y] 
  rw [hok] at hv
  have HV := Lib.hid hv; clear hv
  have HL : Hid (accL [x, y] a = [x, y].set ((a / 2) % 2).toNat (a / 2)) := Lib.hid (by unfold accL; rw [if_pos hA])
  have HH : Hid (accH [x, y] a = ([x, y].getD ((a / 2) % 2).toNat 0 == a / 2)) := Lib.hid (by unfold accH; rw [hA, Bool.true_and])
  clear hA hok
  obtain ⟨va, vc, rfl⟩ := reads_shape hr
  have hcases : a = 0 ∨ a = 1 ∨ a = 2 ∨ a = 3 ∨ a = 4 ∨ a = 5 ∨ a = 6 ∨ a = 7 := by omega
  rcases hcases with rfl | rfl | rfl | rfl | rfl | rfl | rfl | rfl
  all_goals
    clear h0 h7
    have hb0 := bal (bal (bself w) (.cells #[.slice va 2 vc] 114)) (.cells #[.slice none 0 0] 114)
    go_enter Try.func164, Try.ntmps164
    go_wp2_with fail
    refine (HV.out _ (hr.below hb0)).mono ?_
    rintro e w1 ⟨rfl, hb1⟩
    have hk1 := btr hb0 hb1
    have bx1 : w1.cell? ⟨w.heap.size, 0, none⟩ = some (.slice va 2 vc) := kept_cell hb1 (by simp [go_sem])
    have bx2 : w1.cell? ⟨w.heap.size + 1, 0, none⟩ = some (.slice none 0 0) := kept_cell hb1 (by simp [go_sem])
    have bf2 : w1.frozen? ⟨w.heap.size + 1, 0, none⟩ = false := kept_froz hb1 (by simp) (by simp [go_sem])
    have hr1 := hr.below hk1
    clear hb0 hb1
    go_wp2_with (first | (go_at_call 136; refine (clone_any _ [x, y] _ hr1 (by simp)).mono ?_; rintro e w2 ⟨u, rfl, ho, hb2⟩; obtain ⟨g, uc, rfl⟩ := own_pos ho (by simp); have hg := ho.lt g rfl; have hl1 := lt_of_cell bx2; have hne : ¬ (w.heap.size + 1 = g) := (by omega); have hl2 : w.heap.size + 1 < w2.heap.size := (by omega); have bx3 := kept_cell hb2 bx2; have bf3 := kept_froz hb2 (lt_of_cell bx2) bf2; have hc0 := ho.cellAt 0 (by simp); have hc1 := ho.cellAt 1 (by simp); have hf := ho.frozenAt; simp only [ints, List.map_cons, List.map_nil, List.getElem?_cons_zero, List.getElem?_cons_succ] at hc0 hc1) | go_in)
    refine bodyPost_ret (v := .tuple #[.agg #[.slice (some ⟨g, 0, none⟩) 2 uc], .bool _]) (by simp [results, Try.results164, go_sem, bx3, hl2]; rfl) rfl ⟨_, by rw [HH.out]; rfl, ?_, ?_⟩
    · rw [HL.out]
      exact own_mono ((own_set (ho.stored _ _).1 (w.heap.size + 1) 0 (fun h => hne (by simpa [Value.ownBlock] using h.symm)) _).alloc _) (by omega)
    · exact bal (bst (bst (btr hk1 hb2) _ _ (by omega) _) _ _ (by omega) _) _

theorem iAccess_no (v : Value) (xs : List Int) (a : Int) (w : World) (hr : Reads w 1 v xs.length (ints xs)) (hno : ¬ (cacheOk xs = true ∧ 0 ≤ a ∧ a ≤ 7)) :
    Calls Try.prog 164 #[.agg #[v], .int .i64 a] w fun e w' => e = .returned (.tuple #[.agg #[.slice none 0 0], .bool false]) ∧ Below w.heap.size w w' := by
  have hv := iCacheValid_any v xs
  obtain ⟨va, vc, rfl⟩ := reads_shape hr
  have hb0 := bal (bal (bself w) (.cells #[.slice va xs.length vc] 114)) (.cells #[.slice none 0 0] 114)
  by_cases hok : cacheOk xs = true
  · rw [hok] at hv
    have HV := Lib.hid hv; clear hv
    have ha : a < 0 ∨ (0 ≤ a ∧ 7 < a) := by
      by_cases h : a < 0
      · exact Or.inl h
      · refine Or.inr ⟨by omega, ?_⟩
        by_cases h7 : 7 < a
        · exact h7
        · exact absurd ⟨hok, by omega, by omega⟩ hno
    clear hno hok
    have ha2 : (a < 0) ∨ (0 ≤ a ∧ decide (a ≤ 7) = false) := by
      rcases ha with h | h
      · exact Or.inl h
      · exact Or.inr ⟨h.1, by simpa using h.2⟩
    clear ha
    rcases ha2 with ha | ⟨ha, ha'⟩
    all_goals
      go_enter Try.func164, Try.ntmps164
      go_wp2_with fail
      refine (HV.out _ (hr.below hb0)).mono ?_
      rintro e w1 ⟨rfl, hb1⟩
      have hk1 := btr hb0 hb1
      have bx2 : w1.cell? ⟨w.heap.size + 1, 0, none⟩ = some (.slice none 0 0) := kept_cell hb1 (by simp [go_sem])
      have bf2 : w1.frozen? ⟨w.heap.size + 1, 0, none⟩ = false := kept_froz hb1 (by simp) (by simp [go_sem])
      clear hb0 hb1 hr
      go_wp2
      exact bodyPost_ret (v := .tuple #[.agg #[.slice none 0 0], .bool false]) (by simp [results, Try.results164, go_sem, bx2]) rfl ⟨rfl, bst hk1 _ _ (by omega) _⟩
  · have hf : cacheOk xs = false := by simpa using hok
    rw [hf] at hv
    have HV := Lib.hid hv; clear hv hno hok hf
    go_enter Try.func164, Try.ntmps164
    go_wp2_with fail
    refine (HV.out _ (hr.below hb0)).mono ?_
    rintro e w1 ⟨rfl, hb1⟩
    have hk1 := btr hb0 hb1
    have bx2 : w1.cell? ⟨w.heap.size + 1, 0, none⟩ = some (.slice none 0 0) := kept_cell hb1 (by simp [go_sem])
    have bf2 : w1.frozen? ⟨w.heap.size + 1, 0, none⟩ = false := kept_froz hb1 (by simp) (by simp [go_sem])
    clear hb0 hb1 hr
    go_wp2
    exact bodyPost_ret (v := .tuple #[.agg #[.slice none 0 0], .bool false]) (by simp [results, Try.results164, go_sem, bx2]) rfl ⟨rfl, bst hk1 _ _ (by omega) _⟩

/-- AccessCache, all arguments -/
theorem iAccess_any (v : Value) (xs : List Int) (a : Int) (w : World) (hr : Reads w 1 v xs.length (ints xs)) :
    Calls Try.prog 164 #[.agg #[v], .int .i64 a] w fun e w' => ∃ u, e = .returned (.tuple #[.agg #[u], .bool (accH xs a)]) ∧ w'.ownsRow w.heap.size 3 1 u (accL xs a).length (ints (accL xs a)) ∧ Below w.heap.size w w' := by
  by_cases h : cacheOk xs = true ∧ 0 ≤ a ∧ a ≤ 7
  · obtain ⟨h1, h2, h3⟩ := h
    obtain ⟨x, y, rfl⟩ := cacheOk_two h1
    refine (iAccess_yes v x y a w hr h1 h2 h3).mono ?_
    rintro e w' ⟨u, rfl, ho, hb⟩
    exact ⟨u, rfl, by have : (accL [x, y] a).length = 2 := by unfold accL; rw [if_pos (accOk_of h1 h2 h3)]; simp
                      rw [this]; exact ho, hb⟩
  · refine (iAccess_no v xs a w hr h).mono ?_
    rintro e w' ⟨rfl, hb⟩
    have e1 : accL xs a = [] := by unfold accL; rw [if_neg (by rw [accOk_not h]; simp)]
    have e2 : accH xs a = false := by unfold accH; rw [accOk_not h]; rfl
    exact ⟨_, by rw [e2], by rw [e1]; exact World.ownsRow_nil _ _ _ _, hb⟩

theorem l10Copy_any (v : Value) (xs : List Int) (w : World) (hr : Reads w 1 v xs.length (ints xs)) (hsz : xs.length ≤ 1073741824) :
    Calls Try.prog 157 #[.agg #[v]] w fun e w' => ∃ u, e = .returned (.agg #[u]) ∧ w'.ownsRow w.heap.size 3 1 u xs.length (ints xs) ∧ Below w.heap.size w w' := by
  obtain ⟨va, vc, rfl⟩ := reads_shape hr
  have hb0 := bal (bal (bself w) (.cells #[.slice va xs.length vc] 114)) (.cells #[.slice none 0 0] 114)
  have hown := own_nil_made ((w.alloc (.cells #[.slice va xs.length vc] 114)).alloc (.cells #[.slice none 0 0] 114)) 3
  simp only [World.size_alloc] at hown
  have hr1 := hr.below (bal hb0 (.cells #[] 3))
  clear hr
  go_enter Try.func157, Try.ntmps157
  go_wp2_with (at_builtin; refine wpList_aps tInts rfl _ _ rfl _ _ 0 [] rfl hown _ _ _ rfl hr1 (one_ints xs) (by omega) ?c1 ?_)
  case c1 => simp
  · intro v' w' ho' hc' hn' _
    have hc2 := hc'.below (w.heap.size + 1 + 1) (by simp) (fun k hk h => by simp [Value.ownBlock] at h; omega)
    have bx2 : w'.cell? ⟨w.heap.size + 1, 0, none⟩ = some (.slice none 0 0) := by rw [hc2.cell (p := ⟨w.heap.size + 1, 0, none⟩) (by simp)]; simp [go_sem]
    have bf2 : w'.frozen? ⟨w.heap.size + 1, 0, none⟩ = false := by rw [hc2.frozen (p := ⟨w.heap.size + 1, 0, none⟩) (by simp)]; simp [go_sem]
    have hbt := (bal hb0 (.cells #[] 3)).trans (hc2.mono (B' := w.heap.size) (by omega))
    obtain ⟨ua, uc, rfl⟩ := own_shape ho'
    have hres := cell_at w' (w.heap.size + 1) 0 (.slice ua xs.length uc) bx2
    have ho2 := own_mono (own_set ho' (w.heap.size + 1) 0 (fun h => by have := ho'.lt _ h; omega) (.slice ua xs.length uc)) (base' := w.heap.size) (by omega)
    clear hc2 hc' hn' hown ho' hb0 hr1
    go_wp2
    exact bodyPost_ret (v := .agg #[.slice ua xs.length uc]) (by simp [results, Try.results157, go_sem, hres]) rfl ⟨_, rfl, ho2, bst hbt _ _ (by omega) _⟩
end Go.Proofs.Ytbglogjamfdmpaa
