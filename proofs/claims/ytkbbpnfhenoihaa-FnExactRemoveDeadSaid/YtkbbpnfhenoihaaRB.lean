/-
  Rows of rows of Booleans: copies, equality, marks.
-/
import Derived.Test.YtkbbpnfhenoihaaQ
import Derived.Test.YtkbbpnfhenoihaaRS
namespace Go.Proofs.Ytkbbpnfhenoihaa
open Go.RowKit

theorem toBoolS_any (v : Value) (xs : List Bool) (w : World) (hr : Reads w 1 v xs.length (bools xs)) (hsz : xs.length ≤ 1073741824) :
    Calls Try.prog 109 #[v] w fun e w' => ∃ u, e = .returned u ∧ w'.ownsRow w.heap.size 4 1 u xs.length (bools xs) ∧ Below w.heap.size w w' := by
  obtain ⟨_, hn, a, cap, b, off, rfl, hcap, ha, hca⟩ := hr
  have hmk := mk_boolF xs.length hsz
  have hown := own_made w (.bool false) xs.length 4 (by unfold maxLen; omega)
  go_enter Try.func109, Try.ntmps109
  go_wp2
  go_loopw [4] (fun i wr => ∃ k : Nat, k ≤ xs.length ∧ i = .int .i64 k ∧ wr.ownsRow w.heap.size 4 1 (.slice (some ⟨w.heap.size, 0, none⟩) xs.length xs.length) xs.length ((bools xs).take k ++ List.replicate ((bools xs).length - k) (.bool false)) ∧ Below w.heap.size w wr) (fun i _ => xs.length - (intOf i).toNat)
  case atStart => exact ⟨0, Nat.zero_le _, rfl, by rw [bools_length]; exact hown, (Below.refl _ _).alloc (Nat.le_refl _) _⟩
  case round =>
    obtain ⟨k, hk, rfl, ho, hbel⟩ := hrel
    clear hown
    by_cases hlt : k < xs.length
    · obtain ⟨rfl, hbs⟩ := ha (by omega)
      have hc1 := hca k (by simpa [bools] using hlt)
      rw [bools_get] at hc1
      have hc1' := (hbel.cell (p := ⟨b, off + k, none⟩) hbs).trans hc1
      have hc2 : wr.cell? ⟨w.heap.size, k, none⟩ = some (.bool false) := by rw [ho.cellAt k (by omega)]; exact fill_at _ _ _ (by simpa [bools] using hlt)
      have hf := ho.frozenAt k
      have hst := (ho.stored k (.bool xs[k])).1
      have hsf := set_fill (bools xs) (.bool false) k (by simpa [bools] using hlt)
      rw [bools_get] at hsf
      rw [hsf] at hst
      have hb2 := hbel.setCell (p := ⟨w.heap.size, k, none⟩) (Nat.le_refl _) (.bool xs[k])
      clear hca ha hc1 hsf
      go_wp2
      go_roundw
      case rel => exact ⟨k + 1, by omega, by go_num, hst, hb2⟩
      case measure => simp [intOf]; omega
    · go_wp2
      go_ret
      have e : k = xs.length := by omega
      subst e
      exact ⟨_, rfl, by rw [fill_full _ _ _ (by simp [bools])] at ho; exact ho, hbel⟩
theorem szBoolS_b (v : Value) (n : Nat) (vs : List Value) (left : Int) (w : World) (hr : Reads w 1 v n vs) (h0 : 0 ≤ left) (h1 : left ≤ 1073741824) :
    Calls Try.prog 105 #[v, .int .i64 left] w fun e w' => e = .returned (.int .i64 (if left < n then -1 else left - n)) ∧ Below w.heap.size w w' := by
  obtain ⟨_, hn, a, cap, b, off, rfl, _⟩ := hr
  by_cases h : left < n
  · have h2 : left - (n : Int) < 0 := by omega
    rw [if_pos h]
    clear h
    go_enter Try.func105, Try.ntmps105
    go_wp2
    go_ret
    exact ⟨rfl, bself w⟩
  · have h2 : ¬ left - (n : Int) < 0 := by omega
    rw [if_neg h]
    clear h
    go_enter Try.func105, Try.ntmps105
    go_wp2
    go_ret
    exact ⟨rfl, bself w⟩

theorem info_bools : (Try.prog.info? 36).map (fun i => (i.zero, i.size, i.bytes)) = some (some (.slice none 0 0), 1, 24) := by kernel_rfl
theorem tBoolSS : SliceT Try.prog 58 36 (.slice none 0 0) 1 24 := ⟨Try.underlying58, info_bools, rfl, by omega, by omega⟩
theorem mk_boolS (n : Nat) (h : n ≤ 1073741824) (u : World) : (Instr.makeSlice 58 (.int .i64 n) (.int .i64 n)).run Try.prog u =
    .ok (.slice (some ⟨u.heap.size, 0, none⟩) n n) (u.alloc (.cells (madeCells #[.slice none 0 0] n) 36)) := by
  obtain ⟨i0, hi, hz0, hz1, hz2⟩ := info_parts info_bools
  have h := run_make (P := Try.prog) u 58 36 i0 (.slice none 0 0) Try.underlying58 hi hz0 .i64 .i64 n n (by omega) (Int.le_refl _) (by rw [hz2]; omega) (by omega)
  rw [Int.toNat_natCast, hz1, Nat.mul_one] at h
  exact h
abbrev Own2B := Own2 bools 4 36

set_option maxHeartbeats 1600000 in
theorem toBoolSS_any (v : Value) (rs : List (List Bool)) (w : World) (hr : Reads2 bools w v rs) (hn : rs.length ≤ 1073741824) (hn2 : pre2 rs rs.length ≤ 1073741824) :
    Calls Try.prog 48 #[v] w fun e w' => ∃ u us, e = .returned u ∧ Own2B w' w.heap.size u us rs ∧ Below w.heap.size w w' := by
  obtain ⟨a, c, rfl⟩ := hr.shape
  have hmk := mk_boolS rs.length hn
  have hown := own_made w (.slice none 0 0) rs.length 36 (by unfold maxLen; omega)
  have hown2 : Own2B (w.alloc (.cells (madeCells #[.slice none 0 0] rs.length) 36)) w.heap.size (.slice (some ⟨w.heap.size, 0, none⟩) rs.length rs.length) (List.replicate rs.length (.slice none 0 0)) (rs.take 0 ++ List.replicate (rs.length - 0) []) := by
    have h := own2_nils (f := bools) (tr := 4) (rs := rs.take 0 ++ List.replicate (rs.length - 0) []) (by simp [bools]) (by simpa using hown) (fun k r hr => by simp [List.getElem?_replicate] at hr; exact hr.2.symm ▸ rfl)
    simpa using h
  have HR := Lib.hid hr
  clear hr hown
  go_enter Try.func48, Try.ntmps48
  go_wp2
  go_loopw [4] (fun i wr => ∃ k : Nat, k ≤ rs.length ∧ i = .int .i64 k ∧ (∃ us, Own2B wr w.heap.size (.slice (some ⟨w.heap.size, 0, none⟩) rs.length rs.length) us (rs.take k ++ List.replicate (rs.length - k) [])) ∧ Below w.heap.size w wr) (fun i _ => rs.length - (intOf i).toNat)
  case atStart => exact ⟨0, Nat.zero_le _, rfl, ⟨_, hown2⟩, bal (bself w) _⟩
  case round =>
    obtain ⟨k, hk, rfl, ⟨us, ho⟩, hbel⟩ := hrel
    clear hown2
    by_cases hlt : k < rs.length
    · obtain ⟨b, off, u, rfl, hb, hc, hu⟩ := HR.out.at k hlt
      have hc := kept_cell hbel hc
      have hu := hu.below hbel
      have hl2 : k < (rs.take k ++ List.replicate (rs.length - k) ([] : List Bool)).length := by simp; omega
      have hst := set_next rs [] k hlt
      have hrl : rs[k].length ≤ 1073741824 := by have := pre2_all rs k hlt rs.length hlt; omega
      have HST := Lib.hid hst
      have hbz := hbel.size
      have kc := lt_of_cell hc
      clear hst HR
      go_wp2_with fail
      refine (toBoolS_any u rs[k] _ hu hrl).mono ?_
      rintro e w1 ⟨u1, rfl, ho1, hb1⟩
      have ho2 := ho.below hb1
      have hlt2 := ho.lt
      have i1 := ho1.lt
      obtain ⟨x, hx, _⟩ := ho2.rowAt k hl2
      have hcell : w1.cell? ⟨w.heap.size, k, none⟩ = some x := by rw [ho2.outAt.cellAt k (by omega)]; exact hx
      have hf := ho2.outAt.frozenAt k
      have ho3 := ho2.put rfl hl2 (own_mono ho1 (by omega)) (fun q h h2 => by have := i1 q h; have := hlt2 q h2; omega) (by decide)
      rw [HST.out] at ho3
      have hb3 := bst (btr hbel hb1) w.heap.size k (by omega) u1
      have hone := own_one ho1
      obtain ⟨pa, pc, rfl⟩ := own_shape ho1
      clear ho ho1 ho2 hb1 hbel hu hc
      go_wp2
      go_roundw
      case rel => exact ⟨k + 1, by omega, by go_num, ⟨_, ho3⟩, hb3⟩
      case measure => simp [intOf]; omega
    · have e : k = rs.length := by omega
      subst e
      rw [List.take_length, Nat.sub_self, List.replicate_zero, List.append_nil] at ho
      go_wp2
      go_ret
      exact ⟨_, _, rfl, ho, hbel⟩

set_option maxHeartbeats 1600000 in
theorem eqBoolSS_any (va vb : Value) (xs ys : List (List Bool)) (w : World) (ha : Reads2 bools w va xs) (hb : Reads2 bools w vb ys) :
    Calls Try.prog 50 #[va, vb] w fun e w' => e = .returned (.bool (decide (xs = ys))) ∧ Below w.heap.size w w' := by
  obtain ⟨a1, c1, rfl⟩ := ha.shape
  obtain ⟨a2, c2, rfl⟩ := hb.shape
  have hn := ha.lenle
  have hn2 := hb.lenle
  have HA := Lib.hid ha
  have HB := Lib.hid hb
  clear ha hb
  by_cases hl : xs.length = ys.length
  · have e0 : ((xs.length : Int) != (ys.length : Int)) = false := by simp [hl]
    have HL := Lib.hid hl; clear hl
    go_enter Try.func50, Try.ntmps50
    go_wp2
    go_loopw [5] (fun i wr => ∃ k : Nat, k ≤ xs.length ∧ i = .int .i64 k ∧ xs.take k = ys.take k ∧ Below w.heap.size w wr) (fun i _ => xs.length - (intOf i).toNat)
    case atStart => exact ⟨0, Nat.zero_le _, rfl, rfl, bself w⟩
    case round =>
      obtain ⟨k, hk, rfl, he, hbel⟩ := hrel
      have HE := Lib.hid he; clear he
      by_cases hlt : k < xs.length
      · have hlt' : k < ys.length := by have := HL.out; omega
        obtain ⟨b, off, u, rfl, hb, hc, hu⟩ := HA.out.at k hlt
        obtain ⟨b', off', u', rfl, hb', hc', hu'⟩ := HB.out.at k hlt'
        replace hc := kept_cell hbel hc
        replace hc' := kept_cell hbel hc'
        replace hu := hu.below hbel
        replace hu' := hu'.below hbel
        have kc := lt_of_cell hc
        have kc' := lt_of_cell hc'
        have hq : (k : Int) < (ys.length : Int) := by omega
        obtain ⟨p1, p2, rfl⟩ := reads_shape hu
        obtain ⟨p3, p4, rfl⟩ := reads_shape hu'
        have HX := Lib.hid (fun h => take_succ_eq (k := k) hlt hlt' HE.out h)
        have HN : Hid (¬ xs[k] = ys[k] → ¬ xs = ys) := Lib.hid (fun h e => h (by subst e; rfl))
        have HQ := Lib.hid (fun W (hW : Below wr.heap.size wr W) => eqBoolS_b _ _ xs[k] ys[k] W (hu.below hW) (hu'.below hW))
        generalize xs[k] = r1 at *
        generalize ys[k] = r2 at *
        clear HA HB HE hu hu' hb hb'
        go_upto_region 6 with (fail)
        have D := Below.drew (bself wr)
        go_cut [26] (fun s wx => s = .bool (!decide (r1 = r2)) ∧ Below wr.heap.size wr wx)
        case first =>
          go_region_with (go_at_call 25; refine (HQ.out _ (by assumption)).mono ?_; rintro e wb ⟨rfl, bb⟩)
          all_goals (go_wp2_with fail; go_meet; exact ⟨rfl, btr D bb⟩)
        obtain ⟨W5, rfl⟩ : ∃ W, W = wc := ⟨_, rfl⟩
        obtain ⟨rfl, hbc⟩ := hcut
        have hbe := btr hbel hbc
        by_cases hxy : r1 = r2
        · have HXY := Lib.hid hxy
          rw [decide_eq_true hxy]
          clear hxy D hbc hbel
          go_wp2
          go_roundw
          case rel => exact ⟨k + 1, by omega, by go_num, HX.out HXY.out, hbe⟩
          case measure => simp [intOf]; omega
        · have HXY := Lib.hid hxy
          rw [decide_eq_false hxy]
          clear hxy D hbc hbel
          go_wp2
          go_ret
          exact ⟨ret_bool (decide_eq_false (HN.out HXY.out)).symm, hbe⟩
      · go_wp2
        go_ret
        exact ⟨ret_bool (decide_eq_true (by have h := HE.out; rwa [List.take_of_length_le (by omega), List.take_of_length_le (by have := HL.out; omega)] at h)).symm, hbel⟩
  · have e0 : ((xs.length : Int) != (ys.length : Int)) = true := by simp; omega
    have HL := Lib.hid hl; clear hl
    go_enter Try.func50, Try.ntmps50
    go_wp2
    go_ret
    exact ⟨ret_bool (decide_eq_false (fun h => HL.out (by rw [h]))).symm, bself w⟩

theorem szBoolSS_any (v : Value) (rs : List (List Bool)) (left : Int) (w : World) (hr : Reads2 bools w v rs) (h0 : 0 ≤ left) (h1 : left ≤ 1073741824) :
    Calls Try.prog 46 #[v, .int .i64 left] w fun e w' => ∃ r : Int, e = .returned (.int .i64 r) ∧ (r = -1 ∨ (0 ≤ r ∧ r = left - rs.length - pre2 rs rs.length)) ∧ Below w.heap.size w w' := by
  obtain ⟨a, c, rfl⟩ := hr.shape
  have hn := hr.lenle
  by_cases h : left < (rs.length : Int)
  · have h2 : left - (rs.length : Int) < 0 := by omega
    clear h
    go_enter Try.func46, Try.ntmps46
    go_wp2
    go_ret
    exact ⟨-1, rfl, Or.inl rfl, bself w⟩
  · have h2 : ¬ left - (rs.length : Int) < 0 := by omega
    have HR := Lib.hid hr
    clear hr
    go_enter Try.func46, Try.ntmps46
    go_wp2
    go_loopw [1, 5] (fun lv i wr => ∃ k : Nat, k ≤ rs.length ∧ i = .int .i64 k ∧ ∃ r : Int, lv = .int .i64 r ∧ 0 ≤ r ∧ Hid (r = left - rs.length - pre2 rs k) ∧ Below w.heap.size w wr) (fun _ i _ => rs.length - (intOf i).toNat)
    case atStart => exact ⟨0, Nat.zero_le _, rfl, _, rfl, by omega, Lib.hid (by simp [pre2]), bself w⟩
    case round =>
      obtain ⟨k, hk, rfl, r, rfl, hr0, HE, hbel⟩ := hrel
      have hr1 : r ≤ 1073741824 := by have := HE.out; omega
      by_cases hlt : k < rs.length
      · obtain ⟨b, off, u, rfl, hb, hc, hu⟩ := HR.out.at k hlt
        have HP := Lib.hid (pre2_succ rs k hlt)
        replace hc := kept_cell hbel hc
        replace hu := hu.below hbel
        have kc := lt_of_cell hc
        generalize rs[k] = row at *
        go_wp2_with fail
        refine (szBoolS_b u row.length _ r _ hu hr0 hr1).mono ?_
        rintro e w1 ⟨rfl, hb1⟩
        have hbe := btr hbel hb1
        clear hbel hb1 hc hu kc hb
        by_cases hq : r < (row.length : Int)
        · rw [if_pos hq]
          clear hq
          go_wp2
          go_ret
          exact ⟨-1, rfl, Or.inl rfl, hbe⟩
        · rw [if_neg hq]
          have hq2 : ¬ r - (row.length : Int) < 0 := by omega
          clear hq
          go_wp2
          go_roundw
          case rel => exact ⟨k + 1, by omega, by go_num, _, rfl, by omega, Lib.hid (by have e1 := HE.out; have e2 := HP.out; omega), hbe⟩
          case measure => simp [intOf]; omega
      · have e : k = rs.length := by omega
        subst e
        go_wp2
        go_ret
        exact ⟨r, rfl, Or.inr ⟨hr0, HE.out⟩, hbel⟩

/-- marked rows -/
def mk2B (k : Int) (rs : List (List Bool)) : List (List Bool) := (List.range rs.length).map (fun j => marksB (k + pre2 rs j) ((rs[j]?).getD []).length)
theorem mk2B_len (k : Int) (rs : List (List Bool)) : (mk2B k rs).length = rs.length := by simp [mk2B]
theorem mk2B_get (k : Int) (rs : List (List Bool)) (j : Nat) (h : j < rs.length) (h2 : j < (mk2B k rs).length) : (mk2B k rs)[j] = marksB (k + pre2 rs j) rs[j].length := by
  simp [mk2B, h]
theorem mk2B_row (k : Int) (rs : List (List Bool)) (j : Nat) (h : j < rs.length) : (rs[j]).length = ((mk2B k rs)[j]'(by rw [mk2B_len]; exact h)).length := by
  rw [mk2B_get k rs j h, marksB_length]
theorem mk2B_pre (k : Int) (rs : List (List Bool)) (j : Nat) : pre2 (mk2B k rs) j = pre2 rs j := by
  induction j with
  | zero => simp [pre2]
  | succ j ih =>
    by_cases h : j < rs.length
    · rw [pre2_succ _ j (by rw [mk2B_len]; exact h), pre2_succ _ j h, ih, ← mk2B_row k rs j h]
    · have h1 : pre2 (mk2B k rs) (j + 1) = pre2 (mk2B k rs) j := by unfold pre2; rw [List.take_of_length_le (by rw [mk2B_len]; omega), List.take_of_length_le (by rw [mk2B_len]; omega)]
      have h2 : pre2 rs (j + 1) = pre2 rs j := by unfold pre2; rw [List.take_of_length_le (by omega), List.take_of_length_le (by omega)]
      rw [h1, h2, ih]

theorem mk2B_rows (k : Int) (rs : List (List Bool)) (B : Nat) (h : ∀ (j : Nat) (r : List Bool), rs[j]? = some r → r.length ≤ B) : ∀ (j : Nat) (r : List Bool), (mk2B k rs)[j]? = some r → r.length ≤ B := by
  intro j r hr
  obtain ⟨hj, rfl⟩ := List.getElem?_eq_some_iff.1 hr
  have hj2 : j < rs.length := by rw [mk2B_len] at hj; exact hj
  rw [← mk2B_row k rs j hj2]
  exact h j _ (List.getElem?_eq_getElem hj2)

set_option maxHeartbeats 1600000 in
theorem markBoolSS_any (v : Value) (vs : List Value) (rs : List (List Bool)) (k : Int) (w : World) (base : Nat) (ho : Own2B w base v vs rs) (hn : rs.length ≤ 1073741824) (h0 : 0 ≤ k) (h1 : k + pre2 rs rs.length ≤ 1073741824) :
    Calls Try.prog 53 #[v, .int .i64 k] w fun e w' => e = .returned (.int .i64 (k + pre2 rs rs.length)) ∧ Own2B w' base v vs (mk2B k rs) ∧ Chg (fun q => OwnB2 v vs q) w w' := by
  obtain ⟨a, c, rfl⟩ := ho.shape
  go_enter Try.func53, Try.ntmps53
  go_wp2
  go_loopw [1, 5] (fun kk i wr => ∃ j : Nat, j ≤ rs.length ∧ i = .int .i64 j ∧ kk = .int .i64 (k + pre2 rs j) ∧ Own2B wr base (.slice a rs.length c) vs ((mk2B k rs).take j ++ rs.drop j) ∧ Chg (fun q => OwnB2 (.slice a rs.length c) vs q) w wr) (fun _ i _ => rs.length - (intOf i).toNat)
  case atStart => exact ⟨0, Nat.zero_le _, rfl, by simp [pre2], by simpa using ho, Chg.refl _ _⟩
  case round =>
    obtain ⟨j, hj, rfl, rfl, hoj, hc⟩ := hrel
    clear ho
    by_cases hlt : j < rs.length
    · have hl2 : j < ((mk2B k rs).take j ++ rs.drop j).length := by simp [mk2B_len]; omega
      have hg : ((mk2B k rs).take j ++ rs.drop j)[j]'hl2 = rs[j] := by
        rw [List.getElem_append_right (by simp [mk2B_len]; omega)]
        simp [mk2B_len, Nat.min_eq_left (Nat.le_of_lt hlt)]
      obtain ⟨u, hu, hou⟩ := hoj.rowAt j hl2
      rw [hg] at hou
      obtain ⟨g, c', hv⟩ := own_pos hoj.outAt (by omega)
      simp only [Value.slice.injEq] at hv
      obtain ⟨rfl, _, rfl⟩ := hv
      have hcell : wr.cell? ⟨g, j, none⟩ = some u := by rw [hoj.outAt.cellAt j (by omega)]; exact hu
      have kc := lt_of_cell hcell
      have hp := pre2_all rs j hlt rs.length hlt
      have hps := pre2_succ rs j hlt
      have hpm := pre2_mono rs (k := j + 1) (m := rs.length) (by omega)
      have hst : ((mk2B k rs).take j ++ rs.drop j).set j (marksB (k + pre2 rs j) rs[j].length) = (mk2B k rs).take (j + 1) ++ rs.drop (j + 1) := by
        rw [set_dropped _ rs _ j (by simp [mk2B_len]; omega) hlt, List.take_succ_eq_append_getElem (by rw [mk2B_len]; exact hlt), mk2B_get k rs j hlt]
      have HS := Lib.hid hst
      have HPS := Lib.hid hps
      have hk0 : 0 ≤ k + (pre2 rs j : Int) := by omega
      have hk1 : k + (pre2 rs j : Int) ≤ 1073741824 := by omega
      have hk2 : rs[j].length ≤ 1073741824 := by omega
      have hlr : ((mk2B k rs).take j ++ rs.drop j).length = rs.length := by simp [mk2B_len]; omega
      have HLR := Lib.hid hlr
      clear hst hp hpm hg hps hlr
      go_wp2_with fail
      refine (markBoolS_any u rs[j] (k + pre2 rs j) _ base hou hk2 hk0 hk1).mono ?_
      rintro e w1 ⟨rfl, ho1, hc1⟩
      have ho2 := hoj.turn hu (r := marksB (k + pre2 rs j) rs[j].length) (by rw [marksB_length]; exact ho1) hc1 (by decide)
      rw [HS.out] at ho2
      have hc2 := hc.trans ⟨hc1.os, hc1.tape, hc1.output, hc1.size, fun q hq hn => hc1.block q hq (fun h => hn (Or.inr ⟨j, u, hu, h⟩))⟩
      have HPE : Hid (k + (pre2 rs j : Int) + (rs[j].length : Int) = k + (pre2 rs (j + 1) : Nat)) := Lib.hid (by have := HPS.out; omega)
      clear hoj hou ho1 hc1 hc
      rw [HPE.out]
      go_wp2
      go_roundw
      case rel => exact ⟨j + 1, by omega, by go_num, rfl, ho2, hc2⟩
      case measure => simp [intOf]; omega
    · have e : j = rs.length := by omega
      subst e
      rw [List.take_of_length_le (by rw [mk2B_len]; omega), List.drop_length, List.append_nil] at hoj
      go_wp2
      go_ret
      exact ⟨rfl, hoj, hc⟩

set_option maxHeartbeats 1600000 in
theorem heldBoolSS_any (v : Value) (rs : List (List Bool)) (k : Int) (w : World) (hr : Reads2 bools w v (mk2B k rs)) (h0 : 0 ≤ k) (h1 : k + pre2 rs rs.length ≤ 1073741824) :
    Calls Try.prog 54 #[v, .int .i64 k] w fun e w' => e = .returned (.int .i64 (k + pre2 rs rs.length)) ∧ Below w.heap.size w w' := by
  obtain ⟨a, c, rfl⟩ := hr.shape
  have hn := hr.lenle
  rw [mk2B_len] at hn
  rw [mk2B_len]
  have HR := Lib.hid hr
  clear hr
  go_enter Try.func54, Try.ntmps54
  go_wp2
  go_loopw [1, 5] (fun kk i wr => ∃ j : Nat, j ≤ rs.length ∧ i = .int .i64 j ∧ kk = .int .i64 (k + pre2 rs j) ∧ Below w.heap.size w wr) (fun _ i _ => rs.length - (intOf i).toNat)
  case atStart => exact ⟨0, Nat.zero_le _, rfl, by simp [pre2], bself w⟩
  case round =>
    obtain ⟨j, hj, rfl, rfl, hbel⟩ := hrel
    by_cases hlt : j < rs.length
    · obtain ⟨b, off, u, rfl, hb, hc, hu⟩ := HR.out.at j (by rw [mk2B_len]; exact hlt)
      rw [← mk2B_row k rs j hlt, mk2B_get k rs j hlt] at hu
      replace hc := kept_cell hbel hc
      replace hu := hu.below hbel
      have kc := lt_of_cell hc
      have hp := pre2_all rs j hlt rs.length hlt
      have hps := pre2_succ rs j hlt
      have hpm := pre2_mono rs (k := j + 1) (m := rs.length) (by omega)
      have hk0 : 0 ≤ k + (pre2 rs j : Int) := by omega
      have hk1 : k + (pre2 rs j : Int) ≤ 1073741824 := by omega
      have hk2 : rs[j].length ≤ 1073741824 := by omega
      have HPE : Hid (k + (pre2 rs j : Int) + (rs[j].length : Int) = k + (pre2 rs (j + 1) : Nat)) := Lib.hid (by omega)
      have hk3 : ¬ k + (pre2 rs (j + 1) : Nat) < 0 := by omega
      clear hp hps hpm
      go_wp2_with fail
      refine (heldBoolS_b u rs[j].length (k + pre2 rs j) _ hu hk2 hk0 hk1).mono ?_
      rintro e w1 ⟨rfl, hb1⟩
      have hbe := btr hbel hb1
      clear hbel hb1 hc hu kc hb
      rw [HPE.out]
      go_wp2
      go_roundw
      case rel => exact ⟨j + 1, by omega, by go_num, rfl, hbe⟩
      case measure => simp [intOf]; omega
    · have e : j = rs.length := by omega
      subst e
      go_wp2
      go_ret
      exact ⟨rfl, hbel⟩
end Go.Proofs.Ytkbbpnfhenoihaa
