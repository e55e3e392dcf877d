/-
  Parts of the proof of the law FnExactSpecRun.
-/
import Derived.Test.YtbglogjamfdmpaaRW
namespace Go.Proofs.Ytbglogjamfdmpaa
open Go.RowKit

theorem eqEvent_any (x y : Ev) (w : World) :
    Calls Try.prog 72 #[.agg #[.int .i64 x.1, .int .i64 x.2], .agg #[.int .i64 y.1, .int .i64 y.2]] w fun r w' => r = .returned (.bool (decide (x = y))) ∧ Below w.heap.size w w' := by
  by_cases h0 : x.1 = y.1
  · by_cases h1 : x.2 = y.2
    · have n0 : (x.1 != y.1) = false := by simp [h0]
      have n1 : (x.2 != y.2) = false := by simp [h1]
      have HE : Hid (decide (x = y) = true) := Lib.hid (decide_eq_true (by cases x; cases y; simp_all))
      clear h0 h1
      go_enter Try.func72, Try.ntmps72
      go_wp2
      go_ret
      exact ⟨ret_bool HE.out.symm, bal (bal (bself w) _) _⟩
    · have n0 : (x.1 != y.1) = false := by simp [h0]
      have n1 : (x.2 != y.2) = true := by simp [h1]
      have HE : Hid (decide (x = y) = false) := Lib.hid (decide_eq_false (fun h => h1 (by rw [h])))
      clear h0 h1
      go_enter Try.func72, Try.ntmps72
      go_wp2
      go_ret
      exact ⟨ret_bool HE.out.symm, bal (bal (bself w) _) _⟩
  · have n0 : (x.1 != y.1) = true := by simp [h0]
    have HE : Hid (decide (x = y) = false) := Lib.hid (decide_eq_false (fun h => h0 (by rw [h])))
    clear h0
    go_enter Try.func72, Try.ntmps72
    go_wp2
    go_ret
    exact ⟨ret_bool HE.out.symm, bal (bal (bself w) _) _⟩

set_option maxHeartbeats 1600000 in
theorem eqEventS_any (va vb : Value) (xs ys : List Ev) (w : World) (ha : Reads w 2 va xs.length (rows evc xs)) (hb : Reads w 2 vb ys.length (rows evc ys)) :
    Calls Try.prog 23 #[va, vb] w fun e w' => e = .returned (.bool (decide (xs = ys))) ∧ Below w.heap.size w w' := by
  obtain ⟨_, hn, a, cap, b, off, rfl, hcap, ha, hca⟩ := ha
  obtain ⟨_, hn', a', cap', b', off', rfl, hcap', ha', hcb⟩ := hb
  have HC := Lib.hid (reads_Event hca)
  have HD := Lib.hid (reads_Event hcb)
  clear hca hcb
  by_cases hl : xs.length = ys.length
  · have e0 : ((xs.length : Int) != (ys.length : Int)) = false := by simp [hl]
    have HL := Lib.hid hl; clear hl
    go_enter Try.func23, Try.ntmps23
    go_wp2
    go_loopw [5] (fun i wr => ∃ k : Nat, k ≤ xs.length ∧ i = .int .i64 k ∧ xs.take k = ys.take k ∧ Below w.heap.size w wr) (fun i _ => xs.length - (intOf i).toNat)
    case atStart => exact ⟨0, Nat.zero_le _, rfl, rfl, Below.refl _ _⟩
    case round =>
      obtain ⟨k, hk, rfl, he, hbel⟩ := hrel
      have HE := Lib.hid he; clear he
      by_cases hlt : k < xs.length
      · obtain ⟨rfl, hbs⟩ := ha (by omega)
        obtain ⟨rfl, hbs'⟩ := ha' (by have := HL.out; omega)
        have hlt' : k < ys.length := by have := HL.out; omega
        obtain ⟨c0, c1⟩ := HC.out k hlt
        obtain ⟨d0, d1⟩ := HD.out k hlt'
        have c0 := (hbel.cell (p := ⟨b, off + k * 2, none⟩) hbs).trans c0
        have c1 := (hbel.cell (p := ⟨b, off + k * 2 + 1, none⟩) hbs).trans c1
        have d0 := (hbel.cell (p := ⟨b', off' + k * 2, none⟩) hbs').trans d0
        have d1 := (hbel.cell (p := ⟨b', off' + k * 2 + 1, none⟩) hbs').trans d1
        have HTY := Lib.hid (fun h => take_succ_eq hlt hlt' HE.out h)
        have HTN := Lib.hid (fun (h : xs = ys) => show xs[k] = ys[k] by subst h; rfl)
        generalize xs[k] = x at *
        generalize ys[k] = y at *
        clear HC HD ha ha'
        go_upto_region 6 with (fail)
        have D := Below.drew (bself wr)
        go_cut [26] (fun s wx => s = .bool (!decide (x = y)) ∧ Below wr.heap.size wr wx)
        case first =>
          go_region_with (go_at_call 72; refine (eqEvent_any x y _).mono ?_; rintro e wb ⟨rfl, bb⟩)
          all_goals (go_wp2_with fail; go_meet; exact ⟨rfl, btr D bb⟩)
        obtain ⟨W5, rfl⟩ : ∃ W, W = wc := ⟨_, rfl⟩
        obtain ⟨rfl, hbc⟩ := hcut
        have hb2 := btr hbel hbc
        clear D hbc hbel
        by_cases hxy : x = y
        · rw [decide_eq_true hxy]
          have HX := Lib.hid hxy; clear hxy
          go_wp2
          go_roundw
          case rel => exact ⟨k + 1, by omega, by go_num, HTY.out HX.out, hb2⟩
          case measure => simp [intOf]; omega
        · rw [decide_eq_false hxy]
          have HX := Lib.hid hxy; clear hxy
          go_wp2
          go_ret
          exact ⟨ret_bool (decide_eq_false (fun h => HX.out (HTN.out h))).symm, hb2⟩
      · go_wp2
        go_ret
        exact ⟨ret_bool (decide_eq_true (by have h := HE.out; rwa [List.take_of_length_le (by omega), List.take_of_length_le (by have := HL.out; omega)] at h)).symm, hbel⟩
  · have e0 : ((xs.length : Int) != (ys.length : Int)) = true := by simp; omega
    have HL := Lib.hid hl; clear hl
    go_enter Try.func23, Try.ntmps23
    go_wp2
    go_ret
    exact ⟨ret_bool (decide_eq_false (fun h => HL.out (by rw [h]))).symm, Below.refl _ _⟩

def marksEvent (k : Int) (n : Nat) : List Ev := (List.range n).map (fun j : Nat => (k + (2 * (j : Int)), k + (2 * (j : Int) + 1)))
theorem marksEvent_length (k : Int) (n : Nat) : (marksEvent k n).length = n := by simp [marksEvent]
theorem marksEvent_succ (k : Int) (n : Nat) : marksEvent k (n + 1) = marksEvent k n ++ [(k + (2 * (n : Int)), k + (2 * (n : Int) + 1))] := by simp [marksEvent, List.range_succ]
theorem marksEvent_get (k : Int) (n j : Nat) (h : j < (marksEvent k n).length) : (marksEvent k n)[j] = (k + (2 * (j : Int)), k + (2 * (j : Int) + 1)) := by simp [marksEvent]

set_option maxHeartbeats 1600000 in
theorem markEventS_any (v : Value) (l : List Ev) (k : Int) (w : World) (base : Nat) (ho : w.ownsRow base 89 2 v l.length (rows evc l)) (hn : l.length ≤ 1073741824) (h0 : 0 ≤ k) (h1 : k ≤ 1073741824) :
    Calls Try.prog 27 #[v, .int .i64 k] w fun e w' => e = .returned (.int .i64 (k + 2 * (l.length : Int))) ∧ w'.ownsRow base 89 2 v l.length (rows evc (marksEvent k l.length)) ∧ Chg (fun g => v.ownBlock = some g) w w' := by
  have hsl : (v = .slice none 0 0 ∧ l = []) ∨ ∃ g cap, v = .slice (some ⟨g, 0, none⟩) l.length cap := by
    rcases ho.2 with ⟨h, h'⟩ | ⟨g, cap, _, h, _⟩
    · exact Or.inl ⟨h, List.eq_nil_of_length_eq_zero h'⟩
    · exact Or.inr ⟨g, cap, h⟩
  rcases hsl with ⟨rfl, rfl⟩ | ⟨g, cap, rfl⟩
  · go_enter Try.func27, Try.ntmps27
    go_wp2
    refine wp_loop_rounds 1 ?_
    rw [rounds_succ]
    go_wp2
    go_ret
    exact ⟨ret_int (by simp), by simpa [marksEvent] using ho, Chg.refl _ _⟩
  · go_enter Try.func27, Try.ntmps27
    go_wp2
    go_loopw [1, 5] (fun kk i wr => ∃ j : Nat, j ≤ l.length ∧ i = .int .i64 j ∧ kk = .int .i64 (k + 2 * (j : Int)) ∧ wr.ownsRow base 89 2 (.slice (some ⟨g, 0, none⟩) l.length cap) l.length (rows evc (marksEvent k j ++ l.drop j)) ∧ Chg (fun k => g = k) w wr) (fun _ i _ => l.length - (intOf i).toNat)
    case atStart => exact ⟨0, Nat.zero_le _, rfl, by simp, by simpa [marksEvent] using ho, Chg.refl _ _⟩
    case round =>
      obtain ⟨j, hj, rfl, rfl, hoj, hc⟩ := hrel
      by_cases hlt : j < l.length
      · have hl2 : j < (marksEvent k j ++ l.drop j).length := by simp [marksEvent_length]; omega
        obtain ⟨x0, d0, d1⟩ : ∃ x0 : Ev, wr.cell? ⟨g, j * 2, none⟩ = some (.int .i64 x0.1) ∧ wr.cell? ⟨g, j * 2 + 1, none⟩ = some (.int .i64 x0.2) := ⟨_, own_row evc_len hoj j hl2 0 (by omega), own_row evc_len hoj j hl2 1 (by omega)⟩
        have f0 : wr.frozen? ⟨g, j * 2, none⟩ = false := hoj.frozenAt _
        have f1 : wr.frozen? ⟨g, j * 2 + 1, none⟩ = false := hoj.frozenAt _
        have hst := own_set2 hoj j hl2 (k + 2 * (j : Int), k + 2 * (j : Int) + 1)
        rw [set_dropped _ l _ j (marksEvent_length _ _) hlt] at hst
        have hm : marksEvent k j ++ [(k + 2 * (j : Int), k + 2 * (j : Int) + 1)] = marksEvent k (j + 1) := by
          rw [marksEvent_succ]; simp only [Int.add_assoc, Int.reduceAdd]
        rw [hm] at hst
        have hc2 := ((hc.setCell g (j * 2) (.int .i64 (k + 2 * (j : Int))) (fun _ => rfl)).setCell g (j * 2 + 1) (.int .i64 (k + 2 * (j : Int) + 1)) (fun _ => rfl))
        clear hoj hc ho hm
        go_wp2
        go_roundw
        case rel => exact ⟨j + 1, by omega, by go_num, by simp; omega, hst, hc2⟩
        case measure => simp [intOf]; omega
      · have e : j = l.length := by omega
        subst e
        go_wp2
        go_ret
        exact ⟨rfl, by simpa using hoj, hc.mono (fun _ _ h => by simp [Value.ownBlock, h])⟩

set_option maxHeartbeats 1600000 in
theorem heldEventS_any (v : Value) (n : Nat) (k : Int) (w : World) (hr : Reads w 2 v n (rows evc (marksEvent k n))) (hn : n ≤ 1073741824) (h0 : 0 ≤ k) (h1 : k ≤ 1073741824) :
    Calls Try.prog 28 #[v, .int .i64 k] w fun e w' => e = .returned (.int .i64 (k + 2 * (n : Int))) ∧ ∃ d, w' = w.drewN d := by
  obtain ⟨_, _, a, cap, b, off, rfl, ⟨hcap, _⟩, ha, hca⟩ := hr
  have HC := Lib.hid (reads_Event hca)
  clear hca
  go_enter Try.func28, Try.ntmps28
  go_wp2
  go_loopw [1, 5] (fun kk i wr => ∃ j : Nat, j ≤ n ∧ i = .int .i64 j ∧ kk = .int .i64 (k + 2 * (j : Int)) ∧ ∃ d, wr = w.drewN d) (fun _ i _ => n - (intOf i).toNat)
  case atStart => exact ⟨0, Nat.zero_le _, rfl, by simp, 0, rfl⟩
  case round =>
    obtain ⟨j, hj, rfl, rfl, d, rfl⟩ := hrel
    by_cases hlt : j < n
    · obtain ⟨rfl, hbs⟩ := ha (by omega)
      obtain ⟨c0, c1⟩ := HC.out j (by simpa [marksEvent] using hlt)
      rw [marksEvent_get] at c0 c1
      clear HC ha
      simp only at c0 c1
      have e0 : ((k + (2 * (j : Int))) != (k + 2 * (j : Int))) = false := by simp; try omega
      have e1 : ((k + (2 * (j : Int) + 1)) != (k + 2 * (j : Int) + 1)) = false := by simp; try omega
      go_wp2
      go_roundw
      case rel => exact ⟨j + 1, by omega, by go_num, by simp; omega, d, rfl⟩
      case measure => simp [intOf]; omega
    · have e : j = n := by omega
      subst e
      go_wp2
      go_ret
      exact ⟨rfl, _, rfl⟩

end Go.Proofs.Ytbglogjamfdmpaa
