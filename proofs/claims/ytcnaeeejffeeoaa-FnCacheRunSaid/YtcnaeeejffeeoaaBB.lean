import Derived.Test.YtcnaeeejffeeoaaAA
namespace Go.Proofs.Ytcnaeeejffeeoaa
open Go.RowKit

theorem ctInts_any (va vb : Value) (xs ys : List Int) (w : World) (ha : Reads w 1 va xs.length (ints xs)) (hb : Reads w 1 vb ys.length (ints ys)) :
    Calls Try.prog 29 #[va, vb] w fun e w' => e = .returned (.bool (decide (xs = ys))) ∧ ∃ k, w' = w.drewN k := by
  obtain ⟨_, hn, a, cap, b, off, rfl, hcap, ha, hca⟩ := ha
  obtain ⟨_, hn', a', cap', b', off', rfl, hcap', ha', hcb⟩ := hb
  by_cases hl : xs.length = ys.length
  · have e0 : ((xs.length : Int) != (ys.length : Int)) = false := by simp [hl]
    have HL := Lib.hid hl; clear hl
    go_enter Try.func29, Try.ntmps29
    go_wp2
    go_loopw [5] (fun i wr => ∃ k : Nat, k ≤ xs.length ∧ i = .int .i64 k ∧ xs.take k = ys.take k ∧ ∃ d, wr = w.drewN d) (fun i _ => xs.length - (intOf i).toNat)
    case atStart => exact ⟨0, Nat.zero_le _, rfl, rfl, 0, rfl⟩
    case round =>
      obtain ⟨k, hk, rfl, he, d, rfl⟩ := hrel
      have HE := Lib.hid he; clear he
      by_cases hlt : k < xs.length
      · obtain ⟨rfl, hbs⟩ := ha (by omega)
        obtain ⟨rfl, hbs'⟩ := ha' (by have := HL.out; omega)
        have hlt' : k < ys.length := by have := HL.out; omega
        have hc1 := hca k (by simpa [ints] using hlt)
        have hc2 := hcb k (by simpa [ints] using hlt')
        rw [ints_get] at hc1 hc2
        clear hca hcb ha ha'
        by_cases hxy : xs[k] = ys[k]
        · have e1 : (xs[k] != ys[k]) = false := by simp [hxy]
          clear hxy
          go_wp2
          go_quiet (fail)
          go_wp2
          go_roundw
          case rel => exact ⟨k + 1, by omega, by go_num, take_succ_eq hlt hlt' HE.out (by simpa using e1), _, rfl⟩
          case measure => simp [intOf]; omega
        · have e1 : (xs[k] != ys[k]) = true := by simp [hxy]
          have HX := Lib.hid hxy; clear hxy
          go_wp2
          go_quiet (fail)
          go_wp2
          go_ret
          exact ⟨ret_bool (decide_eq_false (fun h => HX.out (by subst h; rfl))).symm, _, World.drewN_drewN ..⟩
      · go_wp2
        go_ret
        exact ⟨ret_bool (decide_eq_true (by have h := HE.out; rwa [List.take_of_length_le (by omega), List.take_of_length_le (by have := HL.out; omega)] at h)).symm, _, rfl⟩
  · have e0 : ((xs.length : Int) != (ys.length : Int)) = true := by simp; omega
    have HL := Lib.hid hl; clear hl
    go_enter Try.func29, Try.ntmps29
    go_wp2
    go_ret
    exact ⟨ret_bool (decide_eq_false (fun h => HL.out (by rw [h]))).symm, 0, rfl⟩

theorem ctBools_any (va vb : Value) (xs ys : List Bool) (w : World) (ha : Reads w 1 va xs.length (bools xs)) (hb : Reads w 1 vb ys.length (bools ys)) :
    Calls Try.prog 32 #[va, vb] w fun e w' => e = .returned (.bool (decide (xs = ys))) ∧ ∃ k, w' = w.drewN k := by
  obtain ⟨_, hn, a, cap, b, off, rfl, hcap, ha, hca⟩ := ha
  obtain ⟨_, hn', a', cap', b', off', rfl, hcap', ha', hcb⟩ := hb
  by_cases hl : xs.length = ys.length
  · have e0 : ((xs.length : Int) != (ys.length : Int)) = false := by simp [hl]
    have HL := Lib.hid hl; clear hl
    go_enter Try.func32, Try.ntmps32
    go_wp2
    go_loopw [5] (fun i wr => ∃ k : Nat, k ≤ xs.length ∧ i = .int .i64 k ∧ xs.take k = ys.take k ∧ ∃ d, wr = w.drewN d) (fun i _ => xs.length - (intOf i).toNat)
    case atStart => exact ⟨0, Nat.zero_le _, rfl, rfl, 0, rfl⟩
    case round =>
      obtain ⟨k, hk, rfl, he, d, rfl⟩ := hrel
      have HE := Lib.hid he; clear he
      by_cases hlt : k < xs.length
      · obtain ⟨rfl, hbs⟩ := ha (by omega)
        obtain ⟨rfl, hbs'⟩ := ha' (by have := HL.out; omega)
        have hlt' : k < ys.length := by have := HL.out; omega
        have hc1 := hca k (by simpa [bools] using hlt)
        have hc2 := hcb k (by simpa [bools] using hlt')
        rw [bools_get] at hc1 hc2
        clear hca hcb ha ha'
        by_cases hxy : xs[k] = ys[k]
        · have e1 : (!(xs[k] == ys[k])) = false := by simp [hxy]
          clear hxy
          go_wp2
          go_quiet (fail)
          go_wp2
          go_roundw
          case rel => exact ⟨k + 1, by omega, by go_num, take_succ_eq hlt hlt' HE.out (by simpa using e1), _, rfl⟩
          case measure => simp [intOf]; omega
        · have e1 : (!(xs[k] == ys[k])) = true := by simp [hxy]
          have HX := Lib.hid hxy; clear hxy
          go_wp2
          go_quiet (fail)
          go_wp2
          go_ret
          exact ⟨ret_bool (decide_eq_false (fun h => HX.out (by subst h; rfl))).symm, _, World.drewN_drewN ..⟩
      · go_wp2
        go_ret
        exact ⟨ret_bool (decide_eq_true (by have h := HE.out; rwa [List.take_of_length_le (by omega), List.take_of_length_le (by have := HL.out; omega)] at h)).symm, _, rfl⟩
  · have e0 : ((xs.length : Int) != (ys.length : Int)) = true := by simp; omega
    have HL := Lib.hid hl; clear hl
    go_enter Try.func32, Try.ntmps32
    go_wp2
    go_ret
    exact ⟨ret_bool (decide_eq_false (fun h => HL.out (by rw [h]))).symm, 0, rfl⟩

theorem DrawProbeCache_any (v : Value) (n : Nat) (vs : List Int) (w : World) (hr : Reads w 1 v n (vs.map (Value.int .u8))) (hv : ∀ x ∈ vs, 0 ≤ x ∧ x < 256) (hn : n ≤ 1048576) :
    Calls Try.prog 30 #[v] w fun e w' => ∃ (u : Value) (ys : List Int), e = .returned (.agg #[u]) ∧ w'.ownsRow w.heap.size 3 1 u ys.length (ints ys) ∧ ys.length ≤ 3 ∧ Below w.heap.size w w' := by
  have hb0 := bal (bself w) (.cells #[.slice none 0 0] 24)
  go_enter Try.func30, Try.ntmps30
  go_wp2_with fail
  refine (l17Open_any v n vs _ (hr.below hb0) hv hn).mono ?_
  rintro e w1 ⟨g, rfl, hr1, hb1⟩
  have hR1 : w1.cell? ⟨w.heap.size, 0, none⟩ = some (.slice none 0 0) := kept_cell hb1 (by simp [go_sem])
  have hF1 : w1.frozen? ⟨w.heap.size, 0, none⟩ = false := kept_froz hb1 (by simp) (by simp [go_sem])
  have hk1 := btr hb0 hb1
  have hg := hr1.lt
  simp only [World.size_alloc] at hr1 hg
  have hlR := lt_of_cell hR1
  clear hb0 hb1 hr
  go_wp2_with fail
  refine (l10Cache_any w1 _ g 0 hr1 (by omega)).mono ?_
  rintro e w2 ⟨u, ys, p', rfl, ho, hl, _, _, hc⟩
  have hR2 := (hc.cell 0 hlR (by omega)).trans hR1
  have hF2 := (hc.frozen 0 hlR (by omega)).trans hF1
  have hk2 := hk1.trans (hc.below w.heap.size hk1.size (fun k hk h => by omega))
  obtain ⟨ua, uc, rfl⟩ := own_shape ho
  have ho2 := own_mono (own_set ho w.heap.size 0 (fun h => by have := ho.lt _ h; omega) (.slice ua ys.length uc)) (base' := w.heap.size) hk1.size
  have hres := cell_at w2 w.heap.size 0 (.slice ua ys.length uc) hR2
  clear ho hc hk1 hR1 hF1 hr1
  go_wp2
  exact bodyPost_ret (v := .agg #[.slice ua ys.length uc]) (by simp [results, Try.results30, go_sem, hres]) rfl ⟨_, ys, rfl, ho2, hl, bst hk2 _ _ (Nat.le_refl _) _⟩
end Go.Proofs.Ytcnaeeejffeeoaa
