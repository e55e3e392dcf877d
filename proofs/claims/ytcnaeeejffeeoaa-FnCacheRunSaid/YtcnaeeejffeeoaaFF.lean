import Derived.Test.YtcnaeeejffeeoaaBB
namespace Go.Proofs.Ytcnaeeejffeeoaa
open Go.RowKit

theorem info_ev : (Try.prog.info? 53).map (fun i => (i.zero, i.size, i.bytes)) = some (some (.agg #[.int .i64 0, .int .i64 0]), 2, 16) := by kernel_rfl
theorem tEvs : SliceT Try.prog 47 53 (.agg #[.int .i64 0, .int .i64 0]) 2 16 := ⟨Try.underlying47, info_ev, rfl, by omega, by omega⟩

theorem own_nil_made2 (w : World) (e : TypeId) : (w.alloc (.cells #[] e)).ownsRow w.heap.size e 2 (.slice (some ⟨w.heap.size, 0, none⟩) 0 0) 0 [] := by
  have h := World.ownsRow_lit (base := w.heap.size) (e := e) (size := 2) w #[] 0 (Nat.le_refl _) (by unfold maxLen; omega) (by simp)
  exact h
theorem one_ev (a b : Int) : ∀ u ∈ [Value.int .i64 a, Value.int .i64 b], u.oneCell' = true := one_evs [(a, b)]

set_option maxHeartbeats 1600000 in
theorem l10Trace_any (w : World) (B g p : Nat) (hr : Rnd w B g p) (hp : p ≤ 1000000000) :
    Calls Try.prog 59 #[.pointer (some ⟨g, 0, none⟩)] w fun e w' => ∃ (v : Value) (l : List Ev) (p' : Nat), e = .returned v ∧ w'.ownsRow w.heap.size 53 2 v l.length (evs l) ∧ l.length ≤ 8 ∧ Rnd w' B g p' ∧ p' ≤ p + 20 ∧ Chg (fun k => k = g) w w' := by
  have hg := hr.lt
  obtain ⟨hgB, hgl⟩ := hg
  have hb0 := bal (bself w) (.cells #[] 53)
  have ho0 := own_nil_made2 w 53
  go_enter Try.func59, Try.ntmps59
  go_wp2_with fail
  have h1 := num_lit [4, 6, 3, 8, 0, 1] (w.alloc (.cells #[] 53)) B g p 3 (hr.below hb0) (by simp) (by simp) (by omega)
  simp only [World.size_alloc] at h1
  refine h1.mono ?_
  rintro e w1 ⟨r1, hm, rfl, hr1, hc1⟩
  have hrb : 0 ≤ r1 ∧ r1 ≤ 8 := by simp at hm; omega
  obtain ⟨hr10, hr18⟩ := hrb
  obtain ⟨j0, rfl⟩ := Int.eq_ofNat_of_zero_le hr10
  have o1 := own_keep ho0 hc1 (fun q h1 h2 => by simp [Value.ownBlock] at h1; omega)
  have k1 := (Chg.of_below (S := fun k => k = g) hb0).trans hc1
  clear hb0 ho0 h1 hc1 hr hm
  go_wp2_with fail
  go_loopw [3, 4] (fun v i wr => ∃ (j : Nat) (l : List Ev) (p' : Nat), i = .int .i64 j ∧ l.length + j ≤ 8 ∧ wr.ownsRow w.heap.size 53 2 v l.length (evs l) ∧ Rnd wr B g p' ∧ p' ≤ p + 1 + 2 * l.length ∧ Chg (fun k => k = g) w wr) (fun _ i _ => (intOf i).toNat)
  case atStart => exact ⟨j0, [], _, rfl, by simp; omega, o1, hr1, by simp, k1⟩
  case round =>
    obtain ⟨j, l, p', rfl, hlj, oh, hrr, hpp, hk⟩ := hrel
    clear o1 k1 hr1
    have hksz := hk.size
    by_cases hj : 0 < j
    · have hj2 : (0 : Int) < (j : Int) := by omega
      go_wp2_with fail
      refine (num_lit [5, 2, 3, 2, 4] wr B g p' 3 hrr (by simp) (by simp) (by omega)).mono ?_
      rintro e w2 ⟨r2, _, rfl, hr2, hc2⟩
      have o2 := own_keep oh hc2 (fun q h1 h2 => by have := oh.lt q h1; omega)
      have k2 := hk.trans hc2
      clear oh hk hc2 hrr
      go_wp2_with fail
      refine (pick_any 8 w2 B g (p' + 1) hr2 (by omega) (by omega) (by omega)).mono ?_
      rintro e w3 ⟨r3, _, _, rfl, hr3, hc3⟩
      have o3 := own_keep o2 hc3 (fun q h1 h2 => by have := o2.lt q h1; omega)
      have k3 := k2.trans hc3
      have hs3 := k3.size
      clear o2 k2 hc3 hr2
      go_wp2_with (at_builtin; refine wpList_ap tEvs rfl _ _ rfl w.heap.size _ l.length _ rfl o3 [.int .i64 r2, .int .i64 r3] rfl rfl (one_ev r2 r3) (by omega) ?c1 ?_)
      case c1 => omega
      · intro gg c w' ho' hc' hg'
        have hiv := o3.lt
        have hr4 := hr3.keep hc' (fun h => by have := hiv _ h; omega) (fun k hk h => by have := hiv _ h; omega)
        have k4 : Chg (fun k => k = g) w w' := ⟨hc'.os.trans k3.os, hc'.tape.trans k3.tape, hc'.output.trans k3.output, Nat.le_trans k3.size hc'.size, fun k hk hn => (hc'.block k (Nat.lt_of_lt_of_le hk k3.size) (fun h => by have := hiv _ h; omega)).trans (k3.block k hk hn)⟩
        have ho2 : w'.ownsRow w.heap.size 53 2 (.slice (some ⟨gg, 0, none⟩) (l.length + 1) c) (l.length + 1) (evs (l ++ [(r2, r3)])) := by rw [evs_append]; exact ho'
        clear o3 k3 hr3 hc' ho' hg' hiv
        go_wp2_with fail
        go_roundw
        case rel => exact ⟨j - 1, l ++ [(r2, r3)], _, by simp; omega, by simp; omega, by simpa using ho2, hr4, by simp; omega, k4⟩
        case measure => simp [intOf]; omega
    · have e : j = 0 := by omega
      subst e
      obtain ⟨va, vc, rfl⟩ := own_shape oh
      by_cases hl0 : 0 < l.length
      · have hl1 : (0 : Int) < (l.length : Int) := by omega
        go_wp2_with fail
        refine (pick_any 20 wr B g p' hrr (by omega) (by omega) (by omega)).mono ?_
        rintro e w2 ⟨r2, hr20, hr21, rfl, hr2, hc2⟩
        have o2 := own_keep oh hc2 (fun q h1 h2 => by have := oh.lt q h1; omega)
        have k2 := hk.trans hc2
        have hs2 := k2.size
        clear oh hk hc2 hrr
        by_cases hz : (r2 == 0) = true
        · obtain ⟨gg, c, hgg⟩ := own_pos o2 hl0
          simp only [Value.slice.injEq, true_and] at hgg
          obtain ⟨rfl, rfl⟩ := hgg
          have hgl2 := o2.lt gg rfl
          obtain ⟨hgg1, hgg2⟩ := hgl2
          go_wp2_with fail
          refine (num_lit [8, -1, 9223372036854775807] w2 B g (p' + 1) 3 hr2 (by simp) (by simp) (by omega)).mono ?_
          rintro e w3 ⟨r3, _, rfl, hr3, hc3⟩
          have o3 := own_keep o2 hc3 (fun q h1 h2 => by have := o2.lt q h1; omega)
          have k3 := k2.trans hc3
          clear o2 k2 hc3 hr2
          cases l with
          | nil => simp at hl0
          | cons ev l =>
            have hc0 := o3.cellAt 0 (by simp)
            have hc1 := o3.cellAt 1 (by simp; omega)
            have hf0 := o3.frozenAt 0
            have hf1 := o3.frozenAt 1
            simp only [evs, List.getElem?_cons_zero, List.getElem?_cons_succ] at hc0 hc1
            have o4 := ((o3.stored 0 (.int .i64 2)).1.stored 1 (.int .i64 r3)).1
            go_wp2_with fail
            go_ret
            refine ⟨_, (2, r3) :: l, p' + 1 + 1, rfl, o4, by simp at hlj ⊢; omega, ?_, by simp at hpp hlj; omega, (k3.setCell gg 0 _ (fun h => by omega)).setCell gg 1 _ (fun h => by omega)⟩
            exact hr3.keep (((Chg.refl (fun k => k = gg) w3).setCell gg 0 _ (fun _ => rfl)).setCell gg 1 _ (fun _ => rfl)) (by omega) (fun k hk h => by omega)
        · have hz2 : (r2 == 0) = false := by simpa using hz
          go_wp2_with fail
          go_ret
          exact ⟨_, l, p' + 1, rfl, o2, by omega, hr2, by omega, k2⟩
      · have hl1 : l = [] := List.eq_nil_of_length_eq_zero (by omega)
        subst hl1
        go_wp2_with fail
        go_ret
        exact ⟨_, [], p', rfl, oh, by simp, hrr, by simp at hpp; omega, hk⟩
end Go.Proofs.Ytcnaeeejffeeoaa
