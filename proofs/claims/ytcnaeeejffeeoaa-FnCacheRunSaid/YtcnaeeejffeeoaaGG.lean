import Derived.Test.YtcnaeeejffeeoaaFF
namespace Go.Proofs.Ytcnaeeejffeeoaa
open Go.RowKit

set_option maxHeartbeats 1600000 in
theorem DrawCacheRun_any (v : Value) (n : Nat) (vs : List Int) (w : World) (hr : Reads w 1 v n (vs.map (Value.int .u8))) (hv : ∀ x ∈ vs, 0 ≤ x ∧ x < 256) (hn : n ≤ 1048576) :
    Calls Try.prog 37 #[v] w fun e w' => ∃ (u tv : Value) (ys : List Int) (l : List Ev), e = .returned (.tuple #[.agg #[u], tv]) ∧ w'.ownsRow w.heap.size 3 1 u ys.length (ints ys) ∧ ys.length ≤ 3 ∧ w'.ownsRow w.heap.size 53 2 tv l.length (evs l) ∧ l.length ≤ 8 ∧ Below w.heap.size w w' := by
  have hb0 := bal (bself w) (.cells #[.slice none 0 0] 24)
  go_enter Try.func37, Try.ntmps37
  go_wp2_with fail
  refine (l17Open_any v n vs _ (hr.below hb0) hv hn).mono ?_
  rintro e w1 ⟨g, rfl, hr1, hb1⟩
  have hR1 : w1.cell? ⟨w.heap.size, 0, none⟩ = some (.slice none 0 0) := kept_cell hb1 (by simp [go_sem])
  have hF1 : w1.frozen? ⟨w.heap.size, 0, none⟩ = false := kept_froz hb1 (by simp) (by simp [go_sem])
  have hk1 := btr hb0 hb1
  have hg := hr1.lt
  simp only [World.size_alloc] at hr1 hg
  have hlR := lt_of_cell hR1
  clear hb0 hb1 hr
  go_wp2_with fail
  refine (l10Cache_any w1 _ g 0 hr1 (by omega)).mono ?_
  rintro e w2 ⟨u, ys, p', rfl, ho, hl, hr2, hp', hc⟩
  have hR2 := (hc.cell 0 hlR (by omega)).trans hR1
  have hF2 := (hc.frozen 0 hlR (by omega)).trans hF1
  have hs2 := hc.size
  have hk2 := hk1.trans (hc.below w.heap.size hk1.size (fun k hk h => by omega))
  obtain ⟨ua, uc, rfl⟩ := own_shape ho
  have hiv := ho.lt
  clear hc hR1 hF1 hr1 hk1
  go_wp2_with fail
  have hX := bal (bself w2) (.cells #[.slice ua ys.length uc] 24)
  have bX := cell_new1 w2 (.slice ua ys.length uc) 24
  have hlX : w2.heap.size < (w2.alloc (.cells #[.slice ua ys.length uc] 24)).heap.size := by simp
  have hY := Below.drew (bself (w2.alloc (.cells #[.slice ua ys.length uc] 24)))
  have hnum := l10Trace_any _ _ g p' ((hr2.below hX).below hY) (by omega)
  have HN := Lib.hid hnum
  have hlR2 := lt_of_cell hR2
  have hXY := btr hX hY
  have b2 := kept_cell hY bX
  have R2 := kept_cell hXY hR2
  have F2 := kept_froz hXY hlR2 hF2
  have o2 := own_below ho hXY
  have hk3 := btr hk2 hXY
  have n1 : ¬ w2.heap.size = g := by omega
  have n2 : ¬ w.heap.size = g := by omega
  have nB : ∀ k, k < w.heap.size → ¬ k = g := fun k hk h => by omega
  have nO : ∀ q, Value.ownBlock (.slice ua ys.length uc) = some q → ¬ q = g := fun q h1 h2 => by have := hiv q h1; omega
  have nR : ∀ q, Value.ownBlock (.slice ua ys.length uc) = some q → ¬ q = w.heap.size := fun q h1 h2 => by have := hiv q h1; omega
  have hlb2 := lt_of_cell b2
  have hlr2 := lt_of_cell R2
  have hYs := hY.size
  clear hnum hX hY hXY
  go_region_with (go_at_call 59; refine HN.out.mono ?_; rintro e w3 ⟨tv, l, p2, rfl, ot, hl8, _, _, hc3⟩; obtain ⟨ta, tc, rfl⟩ := own_shape ot; have b3 := (hc3.cell 0 hlb2 n1).trans b2; have R3 := (hc3.cell 0 hlr2 n2).trans R2; have F3 := (hc3.frozen 0 hlr2 n2).trans F2; have o3 := own_keep o2 hc3 nO; have k3 := hk3.trans (hc3.below w.heap.size hk3.size nB))
  all_goals
    have hres := cell_at w3 w.heap.size 0 (.slice ua ys.length uc) R3
    go_wp2_with fail
    exact bodyPost_ret (v := .tuple #[.agg #[.slice ua ys.length uc], .slice ta l.length tc]) (by simp [results, Try.results37, go_sem, hres]) rfl ⟨_, _, ys, l, rfl, own_mono (own_set o3 _ _ (fun h => nR _ h rfl) _) (by omega), hl, own_mono (own_set ot _ _ (fun h => by have := ot.lt _ h; have := hYs; simp only [World.size_alloc] at this; omega) _) (by omega), hl8, bst k3 _ _ (Nat.le_refl _) _⟩
end Go.Proofs.Ytcnaeeejffeeoaa
