/-
  Parts of the proof of the law FnExactSpecRun.
-/
import Derived.Test.YtbglogjamfdmpaaRW
namespace Go.Proofs.Ytbglogjamfdmpaa
open Go.RowKit

theorem toInstr_any (e : Ins) (w : World) :
    Calls Try.prog 106 #[.agg #[.int .i64 e.op, .int .i64 e.a, .int .i64 e.b, .int .i64 e.c, .int .i64 e.d]] w fun r w' => r = .returned (.agg #[.int .i64 e.op, .int .i64 e.a, .int .i64 e.b, .int .i64 e.c, .int .i64 e.d]) ∧ Below w.heap.size w w' := by
  go_enter Try.func106, Try.ntmps106
  go_wp2
  exact bodyPost_ret (v := .agg #[.int .i64 e.op, .int .i64 e.a, .int .i64 e.b, .int .i64 e.c, .int .i64 e.d]) (by simp [results, Try.results106, go_sem]) rfl ⟨rfl, by repeat (first | exact Below.refl _ _ | refine Below.alloc ?_ (by simp; try omega) _ | refine Below.setCell ?_ (by simp; try omega) _)⟩

theorem info_Instr : (Try.prog.info? 92).map (fun i => (i.zero, i.size, i.bytes)) = some (some (.agg #[.int .i64 0, .int .i64 0, .int .i64 0, .int .i64 0, .int .i64 0]), 5, 40) := by kernel_rfl
theorem mk_Instr (n : Nat) (h : n ≤ 1073741824) (u : World) : (Instr.makeSlice 33 (.int .i64 n) (.int .i64 n)).run Try.prog u =
    .ok (.slice (some ⟨u.heap.size, 0, none⟩) n n) (u.alloc (.cells (madeCells (List.replicate 5 (.int .i64 0)).toArray (n * 5)) 92)) := by
  obtain ⟨i0, hi, hz0, hz1, hz2⟩ := info_parts info_Instr
  have h := run_make (P := Try.prog) u 33 92 i0 (.agg #[.int .i64 0, .int .i64 0, .int .i64 0, .int .i64 0, .int .i64 0]) Try.underlying33 hi hz0 .i64 .i64 n n (by omega) (Int.le_refl _) (by rw [hz2]; omega) (by omega)
  rw [Int.toNat_natCast, hz1] at h
  exact h

set_option maxHeartbeats 800000 in
theorem toInstrS_any (v : Value) (l : List Ins) (w : World) (hr : Reads w 5 v l.length (rows insc l)) (hsz : l.length ≤ 1073741824) :
    Calls Try.prog 57 #[v] w fun e w' => ∃ u, e = .returned u ∧ w'.ownsRow w.heap.size 92 5 u l.length (rows insc l) ∧ Below w.heap.size w w' := by
  obtain ⟨_, hn, a, cap, b, off, rfl, hcap, ha, hca⟩ := hr
  have HC := Lib.hid (reads_Instr hca)
  have hmk := mk_Instr l.length hsz
  have hown := own_made_rows (f := insc) (sz := 5) (z := (⟨0, 0, 0, 0, 0⟩ : Ins)) (x := .int .i64 0) rfl (by omega) w l.length 92 (by unfold maxLen; omega)
  clear hca
  go_enter Try.func57, Try.ntmps57
  go_wp2
  go_loopw [4] (fun i wr => ∃ k : Nat, k ≤ l.length ∧ i = .int .i64 k ∧ wr.ownsRow w.heap.size 92 5 (.slice (some ⟨w.heap.size, 0, none⟩) l.length l.length) l.length (rows insc (l.take k ++ List.replicate (l.length - k) (⟨0, 0, 0, 0, 0⟩ : Ins))) ∧ Below w.heap.size w wr) (fun i _ => l.length - (intOf i).toNat)
  case atStart => exact ⟨0, Nat.zero_le _, rfl, by simpa using hown, (Below.refl _ _).alloc (Nat.le_refl _) _⟩
  case round =>
    obtain ⟨k, hk, rfl, ho, hbel⟩ := hrel
    clear hown
    by_cases hlt : k < l.length
    · obtain ⟨rfl, hbs⟩ := ha (by omega)
      obtain ⟨c0, c1, c2, c3, c4⟩ := HC.out k hlt
      have c0 := (hbel.cell (p := ⟨b, off + k * 5, none⟩) hbs).trans c0
      have c1 := (hbel.cell (p := ⟨b, off + k * 5 + 1, none⟩) hbs).trans c1
      have c2 := (hbel.cell (p := ⟨b, off + k * 5 + 2, none⟩) hbs).trans c2
      have c3 := (hbel.cell (p := ⟨b, off + k * 5 + 3, none⟩) hbs).trans c3
      have c4 := (hbel.cell (p := ⟨b, off + k * 5 + 4, none⟩) hbs).trans c4
      have hlt2 : k < (l.take k ++ List.replicate (l.length - k) (⟨0, 0, 0, 0, 0⟩ : Ins)).length := by simp; omega
      clear ha HC
      go_wp2_with fail
      refine (toInstr_any l[k] _).mono ?_
      rintro e w1 ⟨rfl, hb⟩
      have o1 := own_below ho hb
      have hb1 := btr hbel hb
      clear ho hbel hb
      obtain ⟨x0, d0, d1, d2, d3, d4⟩ : ∃ x0 : Ins, w1.cell? ⟨w.heap.size, k * 5, none⟩ = some (.int .i64 x0.op) ∧ w1.cell? ⟨w.heap.size, k * 5 + 1, none⟩ = some (.int .i64 x0.a) ∧ w1.cell? ⟨w.heap.size, k * 5 + 2, none⟩ = some (.int .i64 x0.b) ∧ w1.cell? ⟨w.heap.size, k * 5 + 3, none⟩ = some (.int .i64 x0.c) ∧ w1.cell? ⟨w.heap.size, k * 5 + 4, none⟩ = some (.int .i64 x0.d) := ⟨_, own_row insc_len o1 k hlt2 0 (by omega), own_row insc_len o1 k hlt2 1 (by omega), own_row insc_len o1 k hlt2 2 (by omega), own_row insc_len o1 k hlt2 3 (by omega), own_row insc_len o1 k hlt2 4 (by omega)⟩
      have f0 : w1.frozen? ⟨w.heap.size, k * 5, none⟩ = false := o1.frozenAt _
      have f1 : w1.frozen? ⟨w.heap.size, k * 5 + 1, none⟩ = false := o1.frozenAt _
      have f2 : w1.frozen? ⟨w.heap.size, k * 5 + 2, none⟩ = false := o1.frozenAt _
      have f3 : w1.frozen? ⟨w.heap.size, k * 5 + 3, none⟩ = false := o1.frozenAt _
      have f4 : w1.frozen? ⟨w.heap.size, k * 5 + 4, none⟩ = false := o1.frozenAt _
      have hst := own_set5 o1 k hlt2 l[k]
      rw [set_next l (⟨0, 0, 0, 0, 0⟩ : Ins) k hlt] at hst
      have hb2 := (((((hb1.setCell (p := ⟨w.heap.size, k * 5, none⟩) (Nat.le_refl _) (.int .i64 l[k].op)).setCell (p := ⟨w.heap.size, k * 5 + 1, none⟩) (Nat.le_refl _) (.int .i64 l[k].a)).setCell (p := ⟨w.heap.size, k * 5 + 2, none⟩) (Nat.le_refl _) (.int .i64 l[k].b)).setCell (p := ⟨w.heap.size, k * 5 + 3, none⟩) (Nat.le_refl _) (.int .i64 l[k].c)).setCell (p := ⟨w.heap.size, k * 5 + 4, none⟩) (Nat.le_refl _) (.int .i64 l[k].d))
      clear o1 hb1
      go_wp2
      go_roundw
      case rel => exact ⟨k + 1, by omega, by go_num, hst, hb2⟩
      case measure => simp [intOf]; omega
    · go_wp2
      go_ret
      have e : k = l.length := by omega
      subst e
      exact ⟨_, rfl, by simpa using ho, hbel⟩

theorem eqInstr_any (x y : Ins) (w : World) :
    Calls Try.prog 110 #[.agg #[.int .i64 x.op, .int .i64 x.a, .int .i64 x.b, .int .i64 x.c, .int .i64 x.d], .agg #[.int .i64 y.op, .int .i64 y.a, .int .i64 y.b, .int .i64 y.c, .int .i64 y.d]] w fun r w' => r = .returned (.bool (decide (x = y))) ∧ Below w.heap.size w w' := by
  by_cases h0 : x.op = y.op
  · by_cases h1 : x.a = y.a
    · by_cases h2 : x.b = y.b
      · by_cases h3 : x.c = y.c
        · by_cases h4 : x.d = y.d
          · have n0 : (x.op != y.op) = false := by simp [h0]
            have n1 : (x.a != y.a) = false := by simp [h1]
            have n2 : (x.b != y.b) = false := by simp [h2]
            have n3 : (x.c != y.c) = false := by simp [h3]
            have n4 : (x.d != y.d) = false := by simp [h4]
            have HE : Hid (decide (x = y) = true) := Lib.hid (decide_eq_true (by cases x; cases y; simp_all))
            clear h0 h1 h2 h3 h4
            go_enter Try.func110, Try.ntmps110
            go_wp2
            go_ret
            exact ⟨ret_bool HE.out.symm, bal (bal (bself w) _) _⟩
          · have n0 : (x.op != y.op) = false := by simp [h0]
            have n1 : (x.a != y.a) = false := by simp [h1]
            have n2 : (x.b != y.b) = false := by simp [h2]
            have n3 : (x.c != y.c) = false := by simp [h3]
            have n4 : (x.d != y.d) = true := by simp [h4]
            have HE : Hid (decide (x = y) = false) := Lib.hid (decide_eq_false (fun h => h4 (by rw [h])))
            clear h0 h1 h2 h3 h4
            go_enter Try.func110, Try.ntmps110
            go_wp2
            go_ret
            exact ⟨ret_bool HE.out.symm, bal (bal (bself w) _) _⟩
        · have n0 : (x.op != y.op) = false := by simp [h0]
          have n1 : (x.a != y.a) = false := by simp [h1]
          have n2 : (x.b != y.b) = false := by simp [h2]
          have n3 : (x.c != y.c) = true := by simp [h3]
          have HE : Hid (decide (x = y) = false) := Lib.hid (decide_eq_false (fun h => h3 (by rw [h])))
          clear h0 h1 h2 h3
          go_enter Try.func110, Try.ntmps110
          go_wp2
          go_ret
          exact ⟨ret_bool HE.out.symm, bal (bal (bself w) _) _⟩
      · have n0 : (x.op != y.op) = false := by simp [h0]
        have n1 : (x.a != y.a) = false := by simp [h1]
        have n2 : (x.b != y.b) = true := by simp [h2]
        have HE : Hid (decide (x = y) = false) := Lib.hid (decide_eq_false (fun h => h2 (by rw [h])))
        clear h0 h1 h2
        go_enter Try.func110, Try.ntmps110
        go_wp2
        go_ret
        exact ⟨ret_bool HE.out.symm, bal (bal (bself w) _) _⟩
    · have n0 : (x.op != y.op) = false := by simp [h0]
      have n1 : (x.a != y.a) = true := by simp [h1]
      have HE : Hid (decide (x = y) = false) := Lib.hid (decide_eq_false (fun h => h1 (by rw [h])))
      clear h0 h1
      go_enter Try.func110, Try.ntmps110
      go_wp2
      go_ret
      exact ⟨ret_bool HE.out.symm, bal (bal (bself w) _) _⟩
  · have n0 : (x.op != y.op) = true := by simp [h0]
    have HE : Hid (decide (x = y) = false) := Lib.hid (decide_eq_false (fun h => h0 (by rw [h])))
    clear h0
    go_enter Try.func110, Try.ntmps110
    go_wp2
    go_ret
    exact ⟨ret_bool HE.out.symm, bal (bal (bself w) _) _⟩

set_option maxHeartbeats 1600000 in
theorem eqInstrS_any (va vb : Value) (xs ys : List Ins) (w : World) (ha : Reads w 5 va xs.length (rows insc xs)) (hb : Reads w 5 vb ys.length (rows insc ys)) :
    Calls Try.prog 65 #[va, vb] w fun e w' => e = .returned (.bool (decide (xs = ys))) ∧ Below w.heap.size w w' := by
  obtain ⟨_, hn, a, cap, b, off, rfl, hcap, ha, hca⟩ := ha
  obtain ⟨_, hn', a', cap', b', off', rfl, hcap', ha', hcb⟩ := hb
  have HC := Lib.hid (reads_Instr hca)
  have HD := Lib.hid (reads_Instr hcb)
  clear hca hcb
  by_cases hl : xs.length = ys.length
  · have e0 : ((xs.length : Int) != (ys.length : Int)) = false := by simp [hl]
    have HL := Lib.hid hl; clear hl
    go_enter Try.func65, Try.ntmps65
    go_wp2
    go_loopw [5] (fun i wr => ∃ k : Nat, k ≤ xs.length ∧ i = .int .i64 k ∧ xs.take k = ys.take k ∧ Below w.heap.size w wr) (fun i _ => xs.length - (intOf i).toNat)
    case atStart => exact ⟨0, Nat.zero_le _, rfl, rfl, Below.refl _ _⟩
    case round =>
      obtain ⟨k, hk, rfl, he, hbel⟩ := hrel
      have HE := Lib.hid he; clear he
      by_cases hlt : k < xs.length
      · obtain ⟨rfl, hbs⟩ := ha (by omega)
        obtain ⟨rfl, hbs'⟩ := ha' (by have := HL.out; omega)
        have hlt' : k < ys.length := by have := HL.out; omega
        obtain ⟨c0, c1, c2, c3, c4⟩ := HC.out k hlt
        obtain ⟨d0, d1, d2, d3, d4⟩ := HD.out k hlt'
        have c0 := (hbel.cell (p := ⟨b, off + k * 5, none⟩) hbs).trans c0
        have c1 := (hbel.cell (p := ⟨b, off + k * 5 + 1, none⟩) hbs).trans c1
        have c2 := (hbel.cell (p := ⟨b, off + k * 5 + 2, none⟩) hbs).trans c2
        have c3 := (hbel.cell (p := ⟨b, off + k * 5 + 3, none⟩) hbs).trans c3
        have c4 := (hbel.cell (p := ⟨b, off + k * 5 + 4, none⟩) hbs).trans c4
        have d0 := (hbel.cell (p := ⟨b', off' + k * 5, none⟩) hbs').trans d0
        have d1 := (hbel.cell (p := ⟨b', off' + k * 5 + 1, none⟩) hbs').trans d1
        have d2 := (hbel.cell (p := ⟨b', off' + k * 5 + 2, none⟩) hbs').trans d2
        have d3 := (hbel.cell (p := ⟨b', off' + k * 5 + 3, none⟩) hbs').trans d3
        have d4 := (hbel.cell (p := ⟨b', off' + k * 5 + 4, none⟩) hbs').trans d4
        have HTY := Lib.hid (fun h => take_succ_eq hlt hlt' HE.out h)
        have HTN := Lib.hid (fun (h : xs = ys) => show xs[k] = ys[k] by subst h; rfl)
        generalize xs[k] = x at *
        generalize ys[k] = y at *
        clear HC HD ha ha'
        go_upto_region 6 with (fail)
        have D := Below.drew (bself wr)
        go_cut [26] (fun s wx => s = .bool (!decide (x = y)) ∧ Below wr.heap.size wr wx)
        case first =>
          go_region_with (go_at_call 110; refine (eqInstr_any x y _).mono ?_; rintro e wb ⟨rfl, bb⟩)
          all_goals (go_wp2_with fail; go_meet; exact ⟨rfl, btr D bb⟩)
        obtain ⟨W5, rfl⟩ : ∃ W, W = wc := ⟨_, rfl⟩
        obtain ⟨rfl, hbc⟩ := hcut
        have hb2 := btr hbel hbc
        clear D hbc hbel
        by_cases hxy : x = y
        · rw [decide_eq_true hxy]
          have HX := Lib.hid hxy; clear hxy
          go_wp2
          go_roundw
          case rel => exact ⟨k + 1, by omega, by go_num, HTY.out HX.out, hb2⟩
          case measure => simp [intOf]; omega
        · rw [decide_eq_false hxy]
          have HX := Lib.hid hxy; clear hxy
          go_wp2
          go_ret
          exact ⟨ret_bool (decide_eq_false (fun h => HX.out (HTN.out h))).symm, hb2⟩
      · go_wp2
        go_ret
        exact ⟨ret_bool (decide_eq_true (by have h := HE.out; rwa [List.take_of_length_le (by omega), List.take_of_length_le (by have := HL.out; omega)] at h)).symm, hbel⟩
  · have e0 : ((xs.length : Int) != (ys.length : Int)) = true := by simp; omega
    have HL := Lib.hid hl; clear hl
    go_enter Try.func65, Try.ntmps65
    go_wp2
    go_ret
    exact ⟨ret_bool (decide_eq_false (fun h => HL.out (by rw [h]))).symm, Below.refl _ _⟩

theorem szInstrS_any (v : Value) (n : Nat) (vs : List Value) (left : Int) (w : World) (hr : Reads w 5 v n vs) (h0 : 0 ≤ left) (h1 : left ≤ 1073741824) :
    Calls Try.prog 52 #[v, .int .i64 left] w fun e w' => e = .returned (.int .i64 (if left < n then -1 else left - n)) ∧ Below w.heap.size w w' := by
  obtain ⟨_, hn, a, cap, b, off, rfl, _⟩ := hr
  by_cases h : left < n
  · have h2 : left - (n : Int) < 0 := by omega
    rw [if_pos h]
    clear h
    go_enter Try.func52, Try.ntmps52
    go_wp2
    go_ret
    exact ⟨rfl, Below.refl _ _⟩
  · have h2 : ¬ left - (n : Int) < 0 := by omega
    rw [if_neg h]
    clear h
    go_enter Try.func52, Try.ntmps52
    go_wp2
    go_ret
    exact ⟨rfl, Below.refl _ _⟩

def marksInstr (k : Int) (n : Nat) : List Ins := (List.range n).map (fun j : Nat => ⟨k + (5 * (j : Int)), k + (5 * (j : Int) + 1), k + (5 * (j : Int) + 2), k + (5 * (j : Int) + 3), k + (5 * (j : Int) + 4)⟩)
theorem marksInstr_length (k : Int) (n : Nat) : (marksInstr k n).length = n := by simp [marksInstr]
theorem marksInstr_succ (k : Int) (n : Nat) : marksInstr k (n + 1) = marksInstr k n ++ [⟨k + (5 * (n : Int)), k + (5 * (n : Int) + 1), k + (5 * (n : Int) + 2), k + (5 * (n : Int) + 3), k + (5 * (n : Int) + 4)⟩] := by simp [marksInstr, List.range_succ]
set_option maxHeartbeats 1600000 in
theorem markInstrS_any (v : Value) (l : List Ins) (k : Int) (w : World) (base : Nat) (ho : w.ownsRow base 92 5 v l.length (rows insc l)) (hn : l.length ≤ 1073741824) (h0 : 0 ≤ k) (h1 : k ≤ 1073741824) :
    Calls Try.prog 74 #[v, .int .i64 k] w fun e w' => e = .returned (.int .i64 (k + 5 * (l.length : Int))) ∧ w'.ownsRow base 92 5 v l.length (rows insc (marksInstr k l.length)) ∧ Chg (fun g => v.ownBlock = some g) w w' := by
  have hsl : (v = .slice none 0 0 ∧ l = []) ∨ ∃ g cap, v = .slice (some ⟨g, 0, none⟩) l.length cap := by
    rcases ho.2 with ⟨h, h'⟩ | ⟨g, cap, _, h, _⟩
    · exact Or.inl ⟨h, List.eq_nil_of_length_eq_zero h'⟩
    · exact Or.inr ⟨g, cap, h⟩
  rcases hsl with ⟨rfl, rfl⟩ | ⟨g, cap, rfl⟩
  · go_enter Try.func74, Try.ntmps74
    go_wp2
    refine wp_loop_rounds 1 ?_
    rw [rounds_succ]
    go_wp2
    go_ret
    exact ⟨ret_int (by simp), by simpa [marksInstr] using ho, Chg.refl _ _⟩
  · go_enter Try.func74, Try.ntmps74
    go_wp2
    go_loopw [1, 5] (fun kk i wr => ∃ j : Nat, j ≤ l.length ∧ i = .int .i64 j ∧ kk = .int .i64 (k + 5 * (j : Int)) ∧ wr.ownsRow base 92 5 (.slice (some ⟨g, 0, none⟩) l.length cap) l.length (rows insc (marksInstr k j ++ l.drop j)) ∧ Chg (fun k => g = k) w wr) (fun _ i _ => l.length - (intOf i).toNat)
    case atStart => exact ⟨0, Nat.zero_le _, rfl, by simp, by simpa [marksInstr] using ho, Chg.refl _ _⟩
    case round =>
      obtain ⟨j, hj, rfl, rfl, hoj, hc⟩ := hrel
      by_cases hlt : j < l.length
      · have hl2 : j < (marksInstr k j ++ l.drop j).length := by simp [marksInstr_length]; omega
        obtain ⟨x0, d0, d1, d2, d3, d4⟩ : ∃ x0 : Ins, wr.cell? ⟨g, j * 5, none⟩ = some (.int .i64 x0.op) ∧ wr.cell? ⟨g, j * 5 + 1, none⟩ = some (.int .i64 x0.a) ∧ wr.cell? ⟨g, j * 5 + 2, none⟩ = some (.int .i64 x0.b) ∧ wr.cell? ⟨g, j * 5 + 3, none⟩ = some (.int .i64 x0.c) ∧ wr.cell? ⟨g, j * 5 + 4, none⟩ = some (.int .i64 x0.d) := ⟨_, own_row insc_len hoj j hl2 0 (by omega), own_row insc_len hoj j hl2 1 (by omega), own_row insc_len hoj j hl2 2 (by omega), own_row insc_len hoj j hl2 3 (by omega), own_row insc_len hoj j hl2 4 (by omega)⟩
        have f0 : wr.frozen? ⟨g, j * 5, none⟩ = false := hoj.frozenAt _
        have f1 : wr.frozen? ⟨g, j * 5 + 1, none⟩ = false := hoj.frozenAt _
        have f2 : wr.frozen? ⟨g, j * 5 + 2, none⟩ = false := hoj.frozenAt _
        have f3 : wr.frozen? ⟨g, j * 5 + 3, none⟩ = false := hoj.frozenAt _
        have f4 : wr.frozen? ⟨g, j * 5 + 4, none⟩ = false := hoj.frozenAt _
        have hst := own_set5 hoj j hl2 ⟨k + 5 * (j : Int), k + 5 * (j : Int) + 1, k + 5 * (j : Int) + 1 + 1, k + 5 * (j : Int) + 1 + 1 + 1, k + 5 * (j : Int) + 1 + 1 + 1 + 1⟩
        rw [set_dropped _ l _ j (marksInstr_length _ _) hlt] at hst
        have hm : marksInstr k j ++ [⟨k + 5 * (j : Int), k + 5 * (j : Int) + 1, k + 5 * (j : Int) + 1 + 1, k + 5 * (j : Int) + 1 + 1 + 1, k + 5 * (j : Int) + 1 + 1 + 1 + 1⟩] = marksInstr k (j + 1) := by
          rw [marksInstr_succ]; simp only [Int.add_assoc, Int.reduceAdd]
        rw [hm] at hst
        have hc2 := (((((hc.setCell g (j * 5) (.int .i64 (k + 5 * (j : Int))) (fun _ => rfl)).setCell g (j * 5 + 1) (.int .i64 (k + 5 * (j : Int) + 1)) (fun _ => rfl)).setCell g (j * 5 + 2) (.int .i64 (k + 5 * (j : Int) + 1 + 1)) (fun _ => rfl)).setCell g (j * 5 + 3) (.int .i64 (k + 5 * (j : Int) + 1 + 1 + 1)) (fun _ => rfl)).setCell g (j * 5 + 4) (.int .i64 (k + 5 * (j : Int) + 1 + 1 + 1 + 1)) (fun _ => rfl))
        clear hoj hc ho hm
        go_wp2
        go_roundw
        case rel => exact ⟨j + 1, by omega, by go_num, by simp; omega, hst, hc2⟩
        case measure => simp [intOf]; omega
      · have e : j = l.length := by omega
        subst e
        go_wp2
        go_ret
        exact ⟨rfl, by simpa using hoj, hc.mono (fun _ _ h => by simp [Value.ownBlock, h])⟩

end Go.Proofs.Ytbglogjamfdmpaa
