import Derived.Test.YtcnaeeejffeeoaaZ
import Derived.Test.YtcnaeeejffeeoaaW
namespace Go.Proofs.Ytcnaeeejffeeoaa
open Go.RowKit

set_option maxHeartbeats 1600000 in
theorem l10Cache_any (w : World) (B g p : Nat) (hr : Rnd w B g p) (hp : p ≤ 1000000000) :
    Calls Try.prog 52 #[.pointer (some ⟨g, 0, none⟩)] w fun e w' => ∃ (v : Value) (ys : List Int) (p' : Nat), e = .returned (.agg #[v]) ∧ w'.ownsRow w.heap.size 3 1 v ys.length (ints ys) ∧ ys.length ≤ 3 ∧ Rnd w' B g p' ∧ p' ≤ p + 4 ∧ Chg (fun k => k = g) w w' := by
  have hg := hr.lt
  obtain ⟨hgB, hgl⟩ := hg
  have hb0 := bal (bself w) (.cells #[.slice none 0 0] 24)
  go_enter Try.func52, Try.ntmps52
  go_wp2_with fail
  have h1 := num_lit [0, 2, -1, -2] (w.alloc (.cells #[.slice none 0 0] 24)) B g p 3 (hr.below hb0) (by simp) (by simp) (by omega)
  simp only [World.size_alloc] at h1
  refine h1.mono ?_
  rintro e w1 ⟨r1, _, rfl, hr1, hc1⟩
  have hR1 := (hc1.cell 0 (b := w.heap.size) (by simp) (by omega)).trans (cell_new1 w (.slice none 0 0) 24)
  have hF1 := (hc1.frozen 0 (b := w.heap.size) (by simp) (by omega)).trans (froz_new w #[.slice none 0 0] 24 0)
  have hk1 := (Chg.of_below (S := fun k => k = g) hb0).trans hc1
  have hs1 := hc1.size
  simp only [World.size_alloc] at hs1
  clear hb0 h1 hc1 hr
  go_wp2_with fail
  refine (num_lit [1, 3, -1, -2] w1 B g (p + 1) 3 hr1 (by simp) (by simp) (by omega)).mono ?_
  rintro e w2 ⟨r2, _, rfl, hr2, hc2⟩
  have hR2 := (hc2.cell 0 (b := w.heap.size) (by omega) (by omega)).trans hR1
  have hF2 := (hc2.frozen 0 (b := w.heap.size) (by omega) (by omega)).trans hF1
  have hk2 := hk1.trans hc2
  have hs2 := hc2.size
  clear hR1 hF1 hk1 hc2 hr1
  go_wp2_with fail
  have hX1 := bal (bself w2) (.cells #[.int .i64 r1, .int .i64 r2] 3)
  have hX2 := bal (bself (w2.alloc (.cells #[.int .i64 r1, .int .i64 r2] 3))) (.cells #[.slice (some ⟨w2.heap.size, 0, none⟩) 2 2] 24)
  have hX := btr hX1 hX2
  have oX := own_below (World.ownsRow_lit (base := w2.heap.size) (e := 3) (size := 1) w2 #[.int .i64 r1, .int .i64 r2] 2 (Nat.le_refl _) (by unfold maxLen; omega) (by simp)) hX2
  have bX := cell_new1 (w2.alloc (.cells #[.int .i64 r1, .int .i64 r2] 3)) (.slice (some ⟨w2.heap.size, 0, none⟩) 2 2) 24
  have fX := froz_new (w2.alloc (.cells #[.int .i64 r1, .int .i64 r2] 3)) #[.slice (some ⟨w2.heap.size, 0, none⟩) 2 2] 24 0
  simp only [World.size_alloc] at bX fX
  have hRX := kept_cell hX hR2
  have hFX := kept_froz hX (lt_of_cell hR2) hF2
  have hkX := hk2.trans (Chg.of_below hX)
  refine (pick_any 20 _ B g (p + 2) (hr2.below hX) (by omega) (by omega) (by omega)).mono ?_
  rintro e w3 ⟨r, hr0, hr20, rfl, hr3, hc3⟩
  have hlX := hX.size
  have b3 := (hc3.cell 0 (b := w2.heap.size + 1) (by simp) (by omega)).trans bX
  have f3 := (hc3.frozen 0 (b := w2.heap.size + 1) (by simp) (by omega)).trans fX
  have hR3 := (hc3.cell 0 (b := w.heap.size) (by omega) (by omega)).trans hRX
  have hF3 := (hc3.frozen 0 (b := w.heap.size) (by omega) (by omega)).trans hFX
  have o3 := own_keep oX hc3 (fun q h1 h2 => by simp [Value.ownBlock] at h1; omega)
  have hk3 := hkX.trans hc3
  have hs3 := hc3.size
  simp only [World.size_alloc] at hs3
  clear hX1 hX2 hX oX bX fX hRX hFX hkX hc3 hR2 hF2 hk2 hr2 hlX
  have hrc : (r == 0) = true ∨ ((r == 0) = false ∧ (r == 1) = true) ∨ ((r == 0) = false ∧ (r == 1) = false) := by
    by_cases h : r = 0
    · left; simp [h]
    · by_cases h' : r = 1
      · right; left; subst h'; exact ⟨rfl, rfl⟩
      · right; right; exact ⟨by simpa using h, by simpa using h'⟩
  have hlR := lt_of_cell hR3
  have hl3 := lt_of_cell b3
  rcases hrc with hrc | ⟨hrc, hrc1⟩ | ⟨hrc, hrc1⟩
  · go_wp2_with fail
    have hnum := num_any (.slice (some ⟨w3.heap.size, 0, none⟩) 4 4) [1, -3, 4, 9223372036854775807] _ B g (p + 2 + 1) (hr3.below (Below.drew (bal (bself w3) (.cells (ints [1, -3, 4, 9223372036854775807]).toArray 3)))) ((reads_lit w3 [1, -3, 4, 9223372036854775807] 3 (by simp)).below (Below.drew (bself _))) (fun b o c hb => by simp at hb; omega) (by simp) (by simp) (by omega)
    have HN := Lib.hid hnum
    clear hnum
    have hbd := Below.drew (bal (bself w3) (.cells (ints [1, -3, 4, 9223372036854775807]).toArray 3))
    have hne2 : ¬ w2.heap.size = g := by omega
    have hne3 : ¬ w2.heap.size + 1 = g := by omega
    have c3 : w3.cell? ⟨w2.heap.size, 0, none⟩ = some (.int .i64 r1) := by rw [o3.cellAt 0 (by omega)]; rfl
    have cf3 := o3.frozenAt 0
    have hl2 := lt_of_cell c3
    have hneR : ¬ w.heap.size = g := by omega
    have ho3 : ∀ q, Value.ownBlock (.slice (some ⟨w2.heap.size, 0, none⟩) 2 2) = some q → ¬ q = g := fun q h1 h2 => by simp [Value.ownBlock] at h1; omega
    go_region_with (go_at_call 53; refine HN.out.mono ?_; rintro e w4 ⟨r4, _, rfl, hr4, hc4⟩; have b4 := ((hc4.cell 0 (Nat.lt_of_lt_of_le hl3 hbd.size) hne3).trans (kept_cell hbd b3)); have c4 := ((hc4.cell 0 (Nat.lt_of_lt_of_le hl2 hbd.size) hne2).trans (kept_cell hbd c3)); have cf4 := ((hc4.frozen 0 (Nat.lt_of_lt_of_le hl2 hbd.size) hne2).trans (kept_froz hbd hl2 cf3)); have R4 := ((hc4.cell 0 (Nat.lt_of_lt_of_le hlR hbd.size) hneR).trans (kept_cell hbd hR3)); have F4 := ((hc4.frozen 0 (Nat.lt_of_lt_of_le hlR hbd.size) hneR).trans (kept_froz hbd hlR hF3)); have o4 := own_keep (own_below o3 hbd) hc4 ho3; have k4 := (hk3.trans (Chg.of_below hbd)).trans hc4)
    all_goals
      have hl4 := lt_of_cell c4
      have hlR4 := lt_of_cell R4
      clear o3 hk3 hbd
      go_wp2_with fail
      have hres := cell_at (w4.setCell ⟨w2.heap.size, 0, none⟩ (.int .i64 r4)) w.heap.size 0 (.slice (some ⟨w2.heap.size, 0, none⟩) 2 2) ((cell_far _ _ _ _ _ _ (by omega)).trans R4)
      refine bodyPost_ret (v := .agg #[.slice (some ⟨w2.heap.size, 0, none⟩) 2 2]) (by simp [results, Try.results52, go_sem, hres]) rfl ⟨_, [r4, r2], p + 2 + 1 + 1, rfl, own_mono (own_set (o4.stored 0 (.int .i64 r4)).1 _ _ (fun h => by simp [Value.ownBlock] at h; omega) _) (by omega), by simp, ?_, by omega, (k4.setCell _ 0 _ (fun h => by omega)).setCell _ 0 _ (fun h => by omega)⟩
      exact hr4.keep (((Chg.refl (fun k => k = w.heap.size ∨ k = w2.heap.size) w4).setCell _ 0 _ (fun _ => Or.inr rfl)).setCell _ 0 _ (fun _ => Or.inl rfl)) (by omega) (fun k hk h => by omega)
  · go_wp2_with (at_builtin; refine wpList_ap tInts rfl _ _ rfl w2.heap.size _ 2 _ rfl o3 [.int .i64 (-1)] rfl rfl (one_ints [-1]) (by omega) ?c1 ?_)
    case c1 => omega
    · intro gg c w' ho' hc' hg'
      have hnb : ∀ k, Value.ownBlock (.slice (some ⟨w2.heap.size, 0, none⟩) 2 2) = some k → k = w2.heap.size := fun k h => by simpa [Value.ownBlock] using h.symm
      have R4 := (hc'.cell 0 hlR (fun h => by have := hnb _ h; omega)).trans hR3
      have F4 := (hc'.frozen 0 hlR (fun h => by have := hnb _ h; omega)).trans hF3
      have b4 := (hc'.cell 0 hl3 (fun h => by have := hnb _ h; omega)).trans b3
      have f4 := (hc'.frozen 0 hl3 (fun h => by have := hnb _ h; omega)).trans f3
      have hr4 := hr3.keep hc' (fun h => by have := hnb _ h; omega) (fun k hk h => by have := hnb _ h; omega)
      have k4 : Chg (fun k => k = g) w w' := ⟨hc'.os.trans hk3.os, hc'.tape.trans hk3.tape, hc'.output.trans hk3.output, Nat.le_trans hk3.size hc'.size, fun k hk hn => (hc'.block k (Nat.lt_of_lt_of_le hk hk3.size) (fun h => by have := hnb _ h; omega)).trans (hk3.block k hk hn)⟩
      have hgl' := ho'.lt gg rfl
      have hgn : gg = w2.heap.size ∨ w3.heap.size ≤ gg := by
        rcases hg' with h | h
        · exact Or.inl (hnb _ h)
        · exact Or.inr h
      have hlb4 := lt_of_cell b4
      have hlR4 := lt_of_cell R4
      clear hc' o3 hR3 hF3 b3 f3 hr3 hk3 hg'
      go_wp2_with fail
      have hres := cell_at (w'.setCell ⟨w2.heap.size + 1, 0, none⟩ (.slice (some ⟨gg, 0, none⟩) 3 c)) w.heap.size 0 (.slice (some ⟨gg, 0, none⟩) 3 c) ((cell_far _ _ _ _ _ _ (by omega)).trans R4)
      refine bodyPost_ret (v := .agg #[.slice (some ⟨gg, 0, none⟩) 3 c]) (by simp [results, Try.results52, go_sem, hres]) rfl ⟨_, [r1, r2, -1], p + 2 + 1, rfl, own_mono (own_set (own_set ho' _ _ (fun h => by simp [Value.ownBlock] at h; omega) _) _ _ (fun h => by simp [Value.ownBlock] at h; omega) _) (by omega), by simp, ?_, by omega, (k4.setCell _ 0 _ (fun h => by omega)).setCell _ 0 _ (fun h => by omega)⟩
      exact hr4.keep (((Chg.refl (fun k => k = w.heap.size ∨ k = w2.heap.size + 1) w').setCell _ 0 _ (fun _ => Or.inr rfl)).setCell _ 0 _ (fun _ => Or.inl rfl)) (by omega) (fun k hk h => by omega)
  · go_wp2_with fail
    have hres := cell_at w3 w.heap.size 0 (.slice (some ⟨w2.heap.size, 0, none⟩) 2 2) hR3
    refine bodyPost_ret (v := .agg #[.slice (some ⟨w2.heap.size, 0, none⟩) 2 2]) (by simp [results, Try.results52, go_sem, hres]) rfl ⟨_, [r1, r2], _, rfl, own_mono (own_set o3 _ _ (fun h => by simp [Value.ownBlock] at h; omega) _) (by omega), by simp, hr3.keep ((Chg.refl (fun k => k = w.heap.size) w3).setCell _ 0 _ (fun _ => rfl)) (by omega) (fun k hk h => by omega), by omega, hk3.setCell _ 0 _ (fun h => by omega)⟩
end Go.Proofs.Ytcnaeeejffeeoaa
