import Derived.Test.YtcnaeeejffeeoaaQ
import Derived.Test.YtcnaeeejffeeoaaM
namespace Go.Proofs.Ytcnaeeejffeeoaa
open Go.RowKit

def probeL (xs : List Int) : List Bool := if cacheOk xs = true then xs.map (fun n => n != -2) else []
theorem probeL_len (xs : List Int) : (probeL xs).length ≤ 2 := by
  unfold probeL; split
  · rename_i h; simp [cacheOk_len h]
  · simp
theorem one_bool1 (b : Bool) : ∀ u ∈ [Value.bool b], u.oneCell' = true := by intro u hu; simp at hu; subst hu; rfl
theorem one_int1 (b : Int) : ∀ u ∈ [Value.int .i64 b], u.oneCell' = true := by intro u hu; simp at hu; subst hu; rfl

theorem bools_snoc (xs : List Int) (f : Int → Bool) (k : Nat) (h : k < xs.length) : bools ((xs.map f).take k) ++ [.bool (f xs[k])] = bools ((xs.map f).take (k + 1)) := by
  rw [List.take_succ_eq_append_getElem (by simpa using h), bools_append]; simp [bools]

theorem iProbe_any (v : Value) (xs : List Int) (w : World) (hr : Reads w 1 v xs.length (ints xs)) :
    Calls Try.prog 31 #[.agg #[v]] w fun e w' => ∃ u, e = .returned u ∧ w'.ownsRow w.heap.size 4 1 u (probeL xs).length (bools (probeL xs)) ∧ Below w.heap.size w w' := by
  have hv := iCacheValid_any v xs
  have hr0 := hr
  obtain ⟨_, hn, a, cap, b, off, rfl, hcap, ha, hca⟩ := hr
  have hb0 := bal (bself w) (.cells #[.slice a xs.length cap] 24)
  by_cases hok : cacheOk xs = true
  · have hL : probeL xs = xs.map (fun n => n != -2) := by unfold probeL; rw [if_pos hok]
    have hlen := cacheOk_len hok
    rw [hok] at hv
    have HV := Lib.hid hv; clear hv
    have HL := Lib.hid hL; clear hL hok
    obtain ⟨rfl, hbs⟩ := ha (by omega)
    have hlen2 : xs.length ≤ 2 := by omega
    clear hlen ha
    go_enter Try.func31, Try.ntmps31
    go_wp2_with fail
    refine (HV.out _ (hr0.below hb0)).mono ?_
    rintro e w1 ⟨rfl, hb1⟩
    have hk1 := btr hb0 hb1
    have bx1 : w1.cell? ⟨w.heap.size, 0, none⟩ = some (.slice (some ⟨b, off, none⟩) xs.length cap) := kept_cell hb1 (by simp [go_sem])
    clear hb0 hb1 hr0
    go_wp2
    clear bx1
    go_loopw [3, 12] (fun u i wr => ∃ k : Nat, k ≤ xs.length ∧ i = .int .i64 k ∧ wr.ownsRow w.heap.size 4 1 u k (bools ((xs.map (fun n => n != -2)).take k)) ∧ Below w.heap.size w wr) (fun _ i _ => xs.length - (intOf i).toNat)
    case atStart => exact ⟨0, Nat.zero_le _, rfl, World.ownsRow_nil _ _ _ _, hk1⟩
    case round =>
      obtain ⟨k, hk, rfl, ho, hb⟩ := hrel
      clear hk1
      by_cases hlt : k < xs.length
      · have hc1 := (hb.cell (p := ⟨b, off + k, none⟩) hbs).trans (hca k (by simpa [ints] using hlt))
        rw [ints_get] at hc1
        have hsn := bools_snoc xs (fun n => n != -2) k hlt
        have HX := Lib.hid hsn
        clear hsn hca hbs
        generalize xs[k] = x at hc1 HX
        go_wp2_with (at_builtin; refine wpList_ap tBools rfl _ _ rfl w.heap.size _ k _ rfl ho [.bool (x != -2)] rfl rfl (one_bool1 _) (by omega) ?c1 ?_)
        case c1 => exact hb.size
        · intro g c w' ho' hc' hg'
          have hb2 := hb.trans (hc'.below w.heap.size hb.size (fun k hk => not_own ho hk))
          rw [HX.out] at ho'
          clear ho hb hc' hg'
          go_wp2
          go_roundw
          case rel => exact ⟨k + 1, by omega, by go_num, ho', hb2⟩
          case measure => simp [intOf]; omega
      · have e : k = xs.length := by omega
        subst e
        go_wp2
        go_ret
        exact ⟨_, rfl, by rw [HL.out]; rw [List.take_of_length_le (by simp)] at ho; simpa using ho, hb⟩
  · have hf : cacheOk xs = false := by simpa using hok
    have HL : Hid (probeL xs = []) := Lib.hid (by unfold probeL; rw [if_neg hok])
    rw [hf] at hv
    have HV := Lib.hid hv; clear hv hok hf ha hca
    go_enter Try.func31, Try.ntmps31
    go_wp2_with fail
    refine (HV.out _ (hr0.below hb0)).mono ?_
    rintro e w1 ⟨rfl, hb1⟩
    have hk1 := btr hb0 hb1
    clear hb0 hb1 hr0
    go_wp2
    go_ret
    exact ⟨_, rfl, by rw [HL.out]; exact World.ownsRow_nil _ _ _ _, hk1⟩

theorem sProbe_any (v : Value) (xs : List Int) (w : World) (hr : Reads w 1 v xs.length (ints xs)) :
    Calls Try.prog 33 #[.agg #[v]] w fun e w' => ∃ u, e = .returned u ∧ w'.ownsRow w.heap.size 4 1 u (probeL xs).length (bools (probeL xs)) ∧ Below w.heap.size w w' := by
  have hv := sCacheValid_any v xs
  have hr0 := hr
  obtain ⟨_, hn, a, cap, b, off, rfl, hcap, ha, hca⟩ := hr
  have hb0 := bal (bself w) (.cells #[.slice a xs.length cap] 24)
  have hown := own_nil_made (w.alloc (.cells #[.slice a xs.length cap] 24)) 4
  simp only [World.size_alloc] at hown
  by_cases hok : cacheOk xs = true
  · have hL : probeL xs = xs.map (fun n => n != -2) := by unfold probeL; rw [if_pos hok]
    have hlen := cacheOk_len hok
    rw [hok] at hv
    have HV := Lib.hid hv; clear hv
    have HL := Lib.hid hL; clear hL hok
    obtain ⟨rfl, hbs⟩ := ha (by omega)
    have hlen2 : xs.length ≤ 2 := by omega
    clear hlen ha
    go_enter Try.func33, Try.ntmps33
    go_wp2
    go_loopw [3, 4] (fun u i wr => ∃ k : Nat, k ≤ xs.length ∧ i = .int .i64 k ∧ wr.ownsRow (w.heap.size + 1) 4 1 u k (bools ((xs.map (fun n => n != -2)).take k)) ∧ wr.cell? ⟨w.heap.size, 0, none⟩ = some (.slice (some ⟨b, off, none⟩) xs.length cap) ∧ Below w.heap.size w wr) (fun _ i _ => xs.length - (intOf i).toNat)
    case atStart => exact ⟨0, Nat.zero_le _, rfl, hown, by simp [go_sem], bal hb0 _⟩
    case round =>
      obtain ⟨k, hk, rfl, ho, hbx, hb⟩ := hrel
      clear hb0 hown
      by_cases hlt : k < xs.length
      · have hlb := lt_of_cell hbx
        go_wp2_with fail
        refine (HV.out _ (hr0.below hb)).mono ?_
        rintro e w1 ⟨rfl, hb1⟩
        have hk1 := btr hb hb1
        have hbx1 := kept_cell hb1 hbx
        have ho1 := own_below ho hb1
        have hlb1 := lt_of_cell hbx1
        have hc1 := (hk1.cell (p := ⟨b, off + k, none⟩) hbs).trans (hca k (by simpa [ints] using hlt))
        rw [ints_get] at hc1
        have hsn := bools_snoc xs (fun n => n != -2) k hlt
        have HX := Lib.hid hsn
        clear hsn hca hbs hb hb1 hbx ho hlb
        generalize xs[k] = x at hc1 HX
        go_wp2_with (at_builtin; refine wpList_ap tBools rfl _ _ rfl (w.heap.size + 1) _ k _ rfl ho1 [.bool (x != -2)] rfl rfl (one_bool1 _) (by omega) ?c1 ?_)
        case c1 => omega
        · intro g c w' ho' hc' hg'
          have hb2 := hk1.trans (hc'.below w.heap.size hk1.size (fun k hk => not_own ho1 (by omega)))
          have hbx2 := (hc'.cell 0 hlb1 (not_own ho1 (by omega))).trans hbx1
          rw [HX.out] at ho'
          clear ho1 hk1 hc' hg' hbx1
          go_wp2
          go_roundw
          case rel => exact ⟨k + 1, by omega, by go_num, ho', hbx2, hb2⟩
          case measure => simp [intOf]; omega
      · have e : k = xs.length := by omega
        subst e
        go_wp2
        go_ret
        exact ⟨_, rfl, by rw [HL.out]; rw [List.take_of_length_le (by simp)] at ho; exact own_mono (by simpa using ho) (by omega), hb⟩
  · have hf : cacheOk xs = false := by simpa using hok
    have HL : Hid (probeL xs = []) := Lib.hid (by unfold probeL; rw [if_neg hok])
    rw [hf] at hv
    have HV := Lib.hid hv; clear hv hok hf
    by_cases h0 : 0 < xs.length
    · obtain ⟨rfl, hbs⟩ := ha h0
      clear ha hca
      go_enter Try.func33, Try.ntmps33
      go_wp2
      refine wp_loop_rounds 1 ?_
      rw [rounds_succ]
      go_wp2_with fail
      refine (HV.out _ (hr0.below (bal hb0 _))).mono ?_
      rintro e w1 ⟨rfl, hb1⟩
      have hk1 := btr (bal hb0 (.cells #[] 4)) hb1
      have ho1 := own_below hown hb1
      clear hb0 hb1 hr0 hown
      go_wp2
      go_ret
      exact ⟨_, rfl, by rw [HL.out]; exact own_mono ho1 (by omega), hk1⟩
    · have h1 : xs = [] := List.eq_nil_of_length_eq_zero (by omega)
      subst h1
      clear ha hca hr0
      have hk1 := bal hb0 (.cells #[] 4)
      clear hb0
      go_enter Try.func33, Try.ntmps33
      go_wp2
      refine wp_loop_rounds 1 ?_
      rw [rounds_succ]
      go_wp2
      go_ret
      exact ⟨_, rfl, by rw [HL.out]; exact own_mono hown (by omega), hk1⟩
end Go.Proofs.Ytcnaeeejffeeoaa
