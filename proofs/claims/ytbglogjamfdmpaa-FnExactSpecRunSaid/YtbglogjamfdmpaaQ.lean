/-
  Parts of the proof of the law FnExactSpecRun.
-/
import Derived.Test.YtbglogjamfdmpaaC
namespace Go.Proofs.Ytbglogjamfdmpaa
open Go.RowKit

def marksB (k : Int) (n : Nat) : List Bool := (List.range n).map (fun i : Nat => ((k + (i : Int)) % 3 == 0))
theorem marksB_length (k : Int) (n : Nat) : (marksB k n).length = n := by simp [marksB]
theorem marksB_succ (k : Int) (n : Nat) : marksB k (n + 1) = marksB k n ++ [(k + n) % 3 == 0] := by simp [marksB, List.range_succ]
theorem eqBoolS_any (va vb : Value) (xs ys : List Bool) (w : World) (ha : Reads w 1 va xs.length (bools xs)) (hb : Reads w 1 vb ys.length (bools ys)) :
    Calls Try.prog 34 #[va, vb] w fun e w' => e = .returned (.bool (decide (xs = ys))) ∧ ∃ k, w' = w.drewN k := by
  obtain ⟨_, hn, a, cap, b, off, rfl, hcap, ha, hca⟩ := ha
  obtain ⟨_, hn', a', cap', b', off', rfl, hcap', ha', hcb⟩ := hb
  by_cases hl : xs.length = ys.length
  · have e0 : ((xs.length : Int) != (ys.length : Int)) = false := by simp [hl]
    have HL := Lib.hid hl; clear hl
    go_enter Try.func34, Try.ntmps34
    go_wp2
    go_loopw [5] (fun i wr => ∃ k : Nat, k ≤ xs.length ∧ i = .int .i64 k ∧ xs.take k = ys.take k ∧ ∃ d, wr = w.drewN d) (fun i _ => xs.length - (intOf i).toNat)
    case atStart => exact ⟨0, Nat.zero_le _, rfl, rfl, 0, rfl⟩
    case round =>
      obtain ⟨k, hk, rfl, he, d, rfl⟩ := hrel
      have HE := Lib.hid he; clear he
      by_cases hlt : k < xs.length
      · obtain ⟨rfl, hbs⟩ := ha (by omega)
        obtain ⟨rfl, hbs'⟩ := ha' (by have := HL.out; omega)
        have hlt' : k < ys.length := by have := HL.out; omega
        have hc1 := hca k (by simpa [bools] using hlt)
        have hc2 := hcb k (by simpa [bools] using hlt')
        rw [bools_get] at hc1 hc2
        clear hca hcb ha ha'
        by_cases hxy : xs[k] = ys[k]
        · have e1 : (!(xs[k] == ys[k])) = false := by simp [hxy]
          clear hxy
          go_wp2
          go_quiet (fail)
          go_wp2
          go_roundw
          case rel => exact ⟨k + 1, by omega, by go_num, take_succ_eq hlt hlt' HE.out (by simpa using e1), _, rfl⟩
          case measure => simp [intOf]; omega
        · have e1 : (!(xs[k] == ys[k])) = true := by simp [hxy]
          have HX := Lib.hid hxy; clear hxy
          go_wp2
          go_quiet (fail)
          go_wp2
          go_ret
          exact ⟨ret_bool (decide_eq_false (fun h => HX.out (by subst h; rfl))).symm, _, World.drewN_drewN ..⟩
      · go_wp2
        go_ret
        exact ⟨ret_bool (decide_eq_true (by have h := HE.out; rwa [List.take_of_length_le (by omega), List.take_of_length_le (by have := HL.out; omega)] at h)).symm, _, rfl⟩
  · have e0 : ((xs.length : Int) != (ys.length : Int)) = true := by simp; omega
    have HL := Lib.hid hl; clear hl
    go_enter Try.func34, Try.ntmps34
    go_wp2
    go_ret
    exact ⟨ret_bool (decide_eq_false (fun h => HL.out (by rw [h]))).symm, 0, rfl⟩
theorem set_marksB (xs : List Bool) (k : Int) (j : Nat) (h : j < xs.length) : (bools (marksB k j ++ xs.drop j)).set j (.bool ((k + j) % 3 == 0)) = bools (marksB k (j + 1) ++ xs.drop (j + 1)) := by
  have e : xs.drop j = xs[j] :: xs.drop (j + 1) := by rw [List.drop_eq_getElem_cons h]
  have hl : (bools (marksB k j)).length = j := by simp [bools, marksB]
  rw [marksB_succ, e, bools_append, bools_append, bools_append, List.set_append_right _ _ (by omega), hl, Nat.sub_self]
  simp only [bools, List.map_cons, List.set_cons_zero, List.map_nil, List.append_assoc, List.cons_append, List.nil_append]

theorem markBoolS_any (v : Value) (xs : List Bool) (k : Int) (w : World) (base : Nat) (ho : w.ownsRow base 4 1 v xs.length (bools xs)) (hn : xs.length ≤ 1073741824) (h0 : 0 ≤ k) (h1 : k ≤ 1073741824) :
    Calls Try.prog 36 #[v, .int .i64 k] w fun e w' => e = .returned (.int .i64 (k + xs.length)) ∧ w'.ownsRow base 4 1 v xs.length (bools (marksB k xs.length)) ∧ Chg (fun g => v.ownBlock = some g) w w' := by
  have hsl : (v = .slice none 0 0 ∧ xs = []) ∨ ∃ g cap, v = .slice (some ⟨g, 0, none⟩) xs.length cap := by
    rcases ho.2 with ⟨h, h'⟩ | ⟨g, cap, _, h, _⟩
    · exact Or.inl ⟨h, List.eq_nil_of_length_eq_zero h'⟩
    · exact Or.inr ⟨g, cap, h⟩
  rcases hsl with ⟨rfl, rfl⟩ | ⟨g, cap, rfl⟩
  · go_enter Try.func36, Try.ntmps36
    go_wp2
    refine wp_loop_rounds 1 ?_
    rw [rounds_succ]
    go_wp2
    go_ret
    exact ⟨ret_int (by simp), by simpa [marksB] using ho, Chg.refl _ _⟩
  · go_enter Try.func36, Try.ntmps36
    go_wp2
    go_loopw [1, 5] (fun kk i wr => ∃ j : Nat, j ≤ xs.length ∧ i = .int .i64 j ∧ kk = .int .i64 (k + j) ∧ wr.ownsRow base 4 1 (.slice (some ⟨g, 0, none⟩) xs.length cap) xs.length (bools (marksB k j ++ xs.drop j)) ∧ Chg (fun k => g = k) w wr) (fun _ i _ => xs.length - (intOf i).toNat)
    case atStart => exact ⟨0, Nat.zero_le _, rfl, by simp, by simpa [marksB] using ho, Chg.refl _ _⟩
    case round =>
      obtain ⟨j, hj, rfl, rfl, hoj, hc⟩ := hrel
      by_cases hlt : j < xs.length
      · have hcell : wr.cell? ⟨g, j, none⟩ = some (.bool xs[j]) := by
          rw [hoj.cellAt j (by omega)]
          simp [bools, List.getElem?_append, marksB_length, hlt]
        have hf := hoj.frozenAt j
        have hst := (hoj.stored j (.bool ((k + j) % 3 == 0))).1
        rw [set_marksB xs k j hlt] at hst
        have hc2 := hc.setCell g j (.bool ((k + j) % 3 == 0)) (fun _ => rfl)
        clear hoj hc ho
        go_wp2
        go_roundw
        case rel => exact ⟨j + 1, by omega, by go_num, by simp; omega, hst, hc2⟩
        case measure => simp [intOf]; omega
      · have e : j = xs.length := by omega
        subst e
        go_wp2
        go_ret
        exact ⟨rfl, by simpa using hoj, hc.mono (fun _ _ h => by simp [Value.ownBlock, h])⟩

theorem info_bool : (Try.prog.info? 4).map (fun i => (i.zero, i.size, i.bytes)) = some (some (.bool false), 1, 1) := by kernel_rfl
theorem mk_boolF (n : Nat) (h : n ≤ 1073741824) (u : World) : (Instr.makeSlice 57 (.int .i64 n) (.int .i64 n)).run Try.prog u =
    .ok (.slice (some ⟨u.heap.size, 0, none⟩) n n) (u.alloc (.cells (madeCells #[.bool false] n) 4)) := by
  obtain ⟨i0, hi, hz0, hz1, hz2⟩ := info_parts info_bool
  have h := run_make (P := Try.prog) u 57 4 i0 (.bool false) Try.underlying57 hi hz0 .i64 .i64 n n (by omega) (Int.le_refl _) (by rw [hz2]; omega) (by omega)
  rw [Int.toNat_natCast, hz1, Nat.mul_one] at h
  exact h

theorem eqBoolS_b (va vb : Value) (xs ys : List Bool) (w : World) (ha : Reads w 1 va xs.length (bools xs)) (hb : Reads w 1 vb ys.length (bools ys)) :
    Calls Try.prog 34 #[va, vb] w fun e w' => e = .returned (.bool (decide (xs = ys))) ∧ Below w.heap.size w w' :=
  (eqBoolS_any va vb xs ys w ha hb).mono fun _ _ ⟨h, k, hk⟩ => ⟨h, hk ▸ below_drewN' w k⟩
theorem eqIntS_b (va vb : Value) (xs ys : List Int) (w : World) (ha : Reads w 1 va xs.length (ints xs)) (hb : Reads w 1 vb ys.length (ints ys)) :
    Calls Try.prog 64 #[va, vb] w fun e w' => e = .returned (.bool (decide (xs = ys))) ∧ Below w.heap.size w w' :=
  (eqIntS_any va vb xs ys w ha hb).mono fun _ _ ⟨h, k, hk⟩ => ⟨h, hk ▸ below_drewN' w k⟩
end Go.Proofs.Ytbglogjamfdmpaa
