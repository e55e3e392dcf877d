/-
  Parts of the proof of the law FnExactSpecRun.
-/
import Derived.Test.YtbglogjamfdmpaaQ
import Derived.Test.YtbglogjamfdmpaaRS
namespace Go.Proofs.Ytbglogjamfdmpaa
open Go.RowKit

theorem info_ints : (Try.prog.info? 22).map (fun i => (i.zero, i.size, i.bytes)) = some (some (.slice none 0 0), 1, 24) := by kernel_rfl
theorem tIntSS : SliceT Try.prog 26 22 (.slice none 0 0) 1 24 := ⟨Try.underlying26, info_ints, rfl, by omega, by omega⟩
theorem mk_intS (n : Nat) (h : n ≤ 1073741824) (u : World) : (Instr.makeSlice 26 (.int .i64 n) (.int .i64 n)).run Try.prog u =
    .ok (.slice (some ⟨u.heap.size, 0, none⟩) n n) (u.alloc (.cells (madeCells #[.slice none 0 0] n) 22)) := by
  obtain ⟨i0, hi, hz0, hz1, hz2⟩ := info_parts info_ints
  have h := run_make (P := Try.prog) u 26 22 i0 (.slice none 0 0) Try.underlying26 hi hz0 .i64 .i64 n n (by omega) (Int.le_refl _) (by rw [hz2]; omega) (by omega)
  rw [Int.toNat_natCast, hz1, Nat.mul_one] at h
  exact h
abbrev Own2I := Own2 ints 3 22

set_option maxHeartbeats 1600000 in
theorem toIntSS_any (v : Value) (rs : List (List Int)) (w : World) (hr : Reads2 ints w v rs) (hn : rs.length ≤ 1073741824) (hn2 : pre2 rs rs.length ≤ 1073741824) :
    Calls Try.prog 58 #[v] w fun e w' => ∃ u us, e = .returned u ∧ Own2I w' w.heap.size u us rs ∧ Below w.heap.size w w' := by
  obtain ⟨a, c, rfl⟩ := hr.shape
  have hmk := mk_intS rs.length hn
  have hown := own_made w (.slice none 0 0) rs.length 22 (by unfold maxLen; omega)
  have hown2 : Own2I (w.alloc (.cells (madeCells #[.slice none 0 0] rs.length) 22)) w.heap.size (.slice (some ⟨w.heap.size, 0, none⟩) rs.length rs.length) (List.replicate rs.length (.slice none 0 0)) (rs.take 0 ++ List.replicate (rs.length - 0) []) := by
    have h := own2_nils (f := ints) (tr := 3) (rs := rs.take 0 ++ List.replicate (rs.length - 0) []) (by simp [ints]) (by simpa using hown) (fun k r hr => by simp [List.getElem?_replicate] at hr; exact hr.2.symm ▸ rfl)
    simpa using h
  have HR := Lib.hid hr
  clear hr hown
  go_enter Try.func58, Try.ntmps58
  go_wp2
  go_loopw [4] (fun i wr => ∃ k : Nat, k ≤ rs.length ∧ i = .int .i64 k ∧ (∃ us, Own2I wr w.heap.size (.slice (some ⟨w.heap.size, 0, none⟩) rs.length rs.length) us (rs.take k ++ List.replicate (rs.length - k) [])) ∧ Below w.heap.size w wr) (fun i _ => rs.length - (intOf i).toNat)
  case atStart => exact ⟨0, Nat.zero_le _, rfl, ⟨_, hown2⟩, bal (bself w) _⟩
  case round =>
    obtain ⟨k, hk, rfl, ⟨us, ho⟩, hbel⟩ := hrel
    clear hown2
    by_cases hlt : k < rs.length
    · obtain ⟨b, off, u, rfl, hb, hc, hu⟩ := HR.out.at k hlt
      have hc := kept_cell hbel hc
      have hu := hu.below hbel
      have hl2 : k < (rs.take k ++ List.replicate (rs.length - k) ([] : List Int)).length := by simp; omega
      have hst := set_next rs [] k hlt
      have hrl : rs[k].length ≤ 1073741824 := by have := pre2_all rs k hlt rs.length hlt; omega
      have HST := Lib.hid hst
      have hbz := hbel.size
      have kc := lt_of_cell hc
      clear hst HR
      go_wp2_with fail
      refine (toIntS_any u rs[k] _ hu hrl).mono ?_
      rintro e w1 ⟨u1, rfl, ho1, hb1⟩
      have ho2 := ho.below hb1
      have hlt2 := ho.lt
      have i1 := ho1.lt
      obtain ⟨x, hx, _⟩ := ho2.rowAt k hl2
      have hcell : w1.cell? ⟨w.heap.size, k, none⟩ = some x := by rw [ho2.outAt.cellAt k (by omega)]; exact hx
      have hf := ho2.outAt.frozenAt k
      have ho3 := ho2.put rfl hl2 (own_mono ho1 (by omega)) (fun q h h2 => by have := i1 q h; have := hlt2 q h2; omega) (by decide)
      rw [HST.out] at ho3
      have hb3 := bst (btr hbel hb1) w.heap.size k (by omega) u1
      have hone := own_one ho1
      obtain ⟨pa, pc, rfl⟩ := own_shape ho1
      clear ho ho1 ho2 hb1 hbel hu hc
      go_wp2
      go_roundw
      case rel => exact ⟨k + 1, by omega, by go_num, ⟨_, ho3⟩, hb3⟩
      case measure => simp [intOf]; omega
    · have e : k = rs.length := by omega
      subst e
      rw [List.take_length, Nat.sub_self, List.replicate_zero, List.append_nil] at ho
      go_wp2
      go_ret
      exact ⟨_, _, rfl, ho, hbel⟩

set_option maxHeartbeats 1600000 in
theorem eqIntSS_any (va vb : Value) (xs ys : List (List Int)) (w : World) (ha : Reads2 ints w va xs) (hb : Reads2 ints w vb ys) :
    Calls Try.prog 66 #[va, vb] w fun e w' => e = .returned (.bool (decide (xs = ys))) ∧ Below w.heap.size w w' := by
  obtain ⟨a1, c1, rfl⟩ := ha.shape
  obtain ⟨a2, c2, rfl⟩ := hb.shape
  have hn := ha.lenle
  have hn2 := hb.lenle
  have HA := Lib.hid ha
  have HB := Lib.hid hb
  clear ha hb
  by_cases hl : xs.length = ys.length
  · have e0 : ((xs.length : Int) != (ys.length : Int)) = false := by simp [hl]
    have HL := Lib.hid hl; clear hl
    go_enter Try.func66, Try.ntmps66
    go_wp2
    go_loopw [5] (fun i wr => ∃ k : Nat, k ≤ xs.length ∧ i = .int .i64 k ∧ xs.take k = ys.take k ∧ Below w.heap.size w wr) (fun i _ => xs.length - (intOf i).toNat)
    case atStart => exact ⟨0, Nat.zero_le _, rfl, rfl, bself w⟩
    case round =>
      obtain ⟨k, hk, rfl, he, hbel⟩ := hrel
      have HE := Lib.hid he; clear he
      by_cases hlt : k < xs.length
      · have hlt' : k < ys.length := by have := HL.out; omega
        obtain ⟨b, off, u, rfl, hb, hc, hu⟩ := HA.out.at k hlt
        obtain ⟨b', off', u', rfl, hb', hc', hu'⟩ := HB.out.at k hlt'
        replace hc := kept_cell hbel hc
        replace hc' := kept_cell hbel hc'
        replace hu := hu.below hbel
        replace hu' := hu'.below hbel
        have kc := lt_of_cell hc
        have kc' := lt_of_cell hc'
        have hq : (k : Int) < (ys.length : Int) := by omega
        obtain ⟨p1, p2, rfl⟩ := reads_shape hu
        obtain ⟨p3, p4, rfl⟩ := reads_shape hu'
        have HX := Lib.hid (fun h => take_succ_eq (k := k) hlt hlt' HE.out h)
        have HN : Hid (¬ xs[k] = ys[k] → ¬ xs = ys) := Lib.hid (fun h e => h (by subst e; rfl))
        have HQ := Lib.hid (fun W (hW : Below wr.heap.size wr W) => eqIntS_b _ _ xs[k] ys[k] W (hu.below hW) (hu'.below hW))
        generalize xs[k] = r1 at *
        generalize ys[k] = r2 at *
        clear HA HB HE hu hu' hb hb'
        go_upto_region 6 with (fail)
        have D := Below.drew (bself wr)
        go_cut [26] (fun s wx => s = .bool (!decide (r1 = r2)) ∧ Below wr.heap.size wr wx)
        case first =>
          go_region_with (go_at_call 64; refine (HQ.out _ (by assumption)).mono ?_; rintro e wb ⟨rfl, bb⟩)
          all_goals (go_wp2_with fail; go_meet; exact ⟨rfl, btr D bb⟩)
        obtain ⟨W5, rfl⟩ : ∃ W, W = wc := ⟨_, rfl⟩
        obtain ⟨rfl, hbc⟩ := hcut
        have hbe := btr hbel hbc
        by_cases hxy : r1 = r2
        · have HXY := Lib.hid hxy
          rw [decide_eq_true hxy]
          clear hxy D hbc hbel
          go_wp2
          go_roundw
          case rel => exact ⟨k + 1, by omega, by go_num, HX.out HXY.out, hbe⟩
          case measure => simp [intOf]; omega
        · have HXY := Lib.hid hxy
          rw [decide_eq_false hxy]
          clear hxy D hbc hbel
          go_wp2
          go_ret
          exact ⟨ret_bool (decide_eq_false (HN.out HXY.out)).symm, hbe⟩
      · go_wp2
        go_ret
        exact ⟨ret_bool (decide_eq_true (by have h := HE.out; rwa [List.take_of_length_le (by omega), List.take_of_length_le (by have := HL.out; omega)] at h)).symm, hbel⟩
  · have e0 : ((xs.length : Int) != (ys.length : Int)) = true := by simp; omega
    have HL := Lib.hid hl; clear hl
    go_enter Try.func66, Try.ntmps66
    go_wp2
    go_ret
    exact ⟨ret_bool (decide_eq_false (fun h => HL.out (by rw [h]))).symm, bself w⟩

theorem szIntSS_any (v : Value) (rs : List (List Int)) (left : Int) (w : World) (hr : Reads2 ints w v rs) (h0 : 0 ≤ left) (h1 : left ≤ 1073741824) :
    Calls Try.prog 53 #[v, .int .i64 left] w fun e w' => ∃ r : Int, e = .returned (.int .i64 r) ∧ (r = -1 ∨ (0 ≤ r ∧ r = left - rs.length - pre2 rs rs.length)) ∧ Below w.heap.size w w' := by
  obtain ⟨a, c, rfl⟩ := hr.shape
  have hn := hr.lenle
  by_cases h : left < (rs.length : Int)
  · have h2 : left - (rs.length : Int) < 0 := by omega
    clear h
    go_enter Try.func53, Try.ntmps53
    go_wp2
    go_ret
    exact ⟨-1, rfl, Or.inl rfl, bself w⟩
  · have h2 : ¬ left - (rs.length : Int) < 0 := by omega
    have HR := Lib.hid hr
    clear hr
    go_enter Try.func53, Try.ntmps53
    go_wp2
    go_loopw [1, 5] (fun lv i wr => ∃ k : Nat, k ≤ rs.length ∧ i = .int .i64 k ∧ ∃ r : Int, lv = .int .i64 r ∧ 0 ≤ r ∧ Hid (r = left - rs.length - pre2 rs k) ∧ Below w.heap.size w wr) (fun _ i _ => rs.length - (intOf i).toNat)
    case atStart => exact ⟨0, Nat.zero_le _, rfl, _, rfl, by omega, Lib.hid (by simp [pre2]), bself w⟩
    case round =>
      obtain ⟨k, hk, rfl, r, rfl, hr0, HE, hbel⟩ := hrel
      have hr1 : r ≤ 1073741824 := by have := HE.out; omega
      by_cases hlt : k < rs.length
      · obtain ⟨b, off, u, rfl, hb, hc, hu⟩ := HR.out.at k hlt
        have HP := Lib.hid (pre2_succ rs k hlt)
        replace hc := kept_cell hbel hc
        replace hu := hu.below hbel
        have kc := lt_of_cell hc
        generalize rs[k] = row at *
        go_wp2_with fail
        refine (szIntS_b u row.length _ r _ hu hr0 hr1).mono ?_
        rintro e w1 ⟨rfl, hb1⟩
        have hbe := btr hbel hb1
        clear hbel hb1 hc hu kc hb
        by_cases hq : r < (row.length : Int)
        · rw [if_pos hq]
          clear hq
          go_wp2
          go_ret
          exact ⟨-1, rfl, Or.inl rfl, hbe⟩
        · rw [if_neg hq]
          have hq2 : ¬ r - (row.length : Int) < 0 := by omega
          clear hq
          go_wp2
          go_roundw
          case rel => exact ⟨k + 1, by omega, by go_num, _, rfl, by omega, Lib.hid (by have e1 := HE.out; have e2 := HP.out; omega), hbe⟩
          case measure => simp [intOf]; omega
      · have e : k = rs.length := by omega
        subst e
        go_wp2
        go_ret
        exact ⟨r, rfl, Or.inr ⟨hr0, HE.out⟩, hbel⟩

/-- marked rows -/
def mk2I (k : Int) (rs : List (List Int)) : List (List Int) := (List.range rs.length).map (fun j => marks (k + pre2 rs j) ((rs[j]?).getD []).length)
theorem mk2I_len (k : Int) (rs : List (List Int)) : (mk2I k rs).length = rs.length := by simp [mk2I]
theorem mk2I_get (k : Int) (rs : List (List Int)) (j : Nat) (h : j < rs.length) (h2 : j < (mk2I k rs).length) : (mk2I k rs)[j] = marks (k + pre2 rs j) rs[j].length := by
  simp [mk2I, h]
theorem mk2I_row (k : Int) (rs : List (List Int)) (j : Nat) (h : j < rs.length) : (rs[j]).length = ((mk2I k rs)[j]'(by rw [mk2I_len]; exact h)).length := by
  rw [mk2I_get k rs j h, marks_length]
theorem mk2I_pre (k : Int) (rs : List (List Int)) (j : Nat) : pre2 (mk2I k rs) j = pre2 rs j := by
  induction j with
  | zero => simp [pre2]
  | succ j ih =>
    by_cases h : j < rs.length
    · rw [pre2_succ _ j (by rw [mk2I_len]; exact h), pre2_succ _ j h, ih, ← mk2I_row k rs j h]
    · have h1 : pre2 (mk2I k rs) (j + 1) = pre2 (mk2I k rs) j := by unfold pre2; rw [List.take_of_length_le (by rw [mk2I_len]; omega), List.take_of_length_le (by rw [mk2I_len]; omega)]
      have h2 : pre2 rs (j + 1) = pre2 rs j := by unfold pre2; rw [List.take_of_length_le (by omega), List.take_of_length_le (by omega)]
      rw [h1, h2, ih]

set_option maxHeartbeats 1600000 in
theorem markIntSS_any (v : Value) (vs : List Value) (rs : List (List Int)) (k : Int) (w : World) (base : Nat) (ho : Own2I w base v vs rs) (hn : rs.length ≤ 1073741824) (h0 : 0 ≤ k) (h1 : k + pre2 rs rs.length ≤ 1073741824) :
    Calls Try.prog 86 #[v, .int .i64 k] w fun e w' => e = .returned (.int .i64 (k + pre2 rs rs.length)) ∧ Own2I w' base v vs (mk2I k rs) ∧ Chg (fun q => OwnB2 v vs q) w w' := by
  obtain ⟨a, c, rfl⟩ := ho.shape
  go_enter Try.func86, Try.ntmps86
  go_wp2
  go_loopw [1, 5] (fun kk i wr => ∃ j : Nat, j ≤ rs.length ∧ i = .int .i64 j ∧ kk = .int .i64 (k + pre2 rs j) ∧ Own2I wr base (.slice a rs.length c) vs ((mk2I k rs).take j ++ rs.drop j) ∧ Chg (fun q => OwnB2 (.slice a rs.length c) vs q) w wr) (fun _ i _ => rs.length - (intOf i).toNat)
  case atStart => exact ⟨0, Nat.zero_le _, rfl, by simp [pre2], by simpa using ho, Chg.refl _ _⟩
  case round =>
    obtain ⟨j, hj, rfl, rfl, hoj, hc⟩ := hrel
    clear ho
    by_cases hlt : j < rs.length
    · have hl2 : j < ((mk2I k rs).take j ++ rs.drop j).length := by simp [mk2I_len]; omega
      have hg : ((mk2I k rs).take j ++ rs.drop j)[j]'hl2 = rs[j] := by
        rw [List.getElem_append_right (by simp [mk2I_len]; omega)]
        simp [mk2I_len, Nat.min_eq_left (Nat.le_of_lt hlt)]
      obtain ⟨u, hu, hou⟩ := hoj.rowAt j hl2
      rw [hg] at hou
      obtain ⟨g, c', hv⟩ := own_pos hoj.outAt (by omega)
      simp only [Value.slice.injEq] at hv
      obtain ⟨rfl, _, rfl⟩ := hv
      have hcell : wr.cell? ⟨g, j, none⟩ = some u := by rw [hoj.outAt.cellAt j (by omega)]; exact hu
      have kc := lt_of_cell hcell
      have hp := pre2_all rs j hlt rs.length hlt
      have hps := pre2_succ rs j hlt
      have hpm := pre2_mono rs (k := j + 1) (m := rs.length) (by omega)
      have hst : ((mk2I k rs).take j ++ rs.drop j).set j (marks (k + pre2 rs j) rs[j].length) = (mk2I k rs).take (j + 1) ++ rs.drop (j + 1) := by
        rw [set_dropped _ rs _ j (by simp [mk2I_len]; omega) hlt, List.take_succ_eq_append_getElem (by rw [mk2I_len]; exact hlt), mk2I_get k rs j hlt]
      have HS := Lib.hid hst
      have HPS := Lib.hid hps
      have hk0 : 0 ≤ k + (pre2 rs j : Int) := by omega
      have hk1 : k + (pre2 rs j : Int) ≤ 1073741824 := by omega
      have hk2 : rs[j].length ≤ 1073741824 := by omega
      have hlr : ((mk2I k rs).take j ++ rs.drop j).length = rs.length := by simp [mk2I_len]; omega
      have HLR := Lib.hid hlr
      clear hst hp hpm hg hps hlr
      go_wp2_with fail
      refine (markIntS_any u rs[j] (k + pre2 rs j) _ base hou hk2 hk0 hk1).mono ?_
      rintro e w1 ⟨rfl, ho1, hc1⟩
      have ho2 := hoj.turn hu (r := marks (k + pre2 rs j) rs[j].length) (by rw [marks_length]; exact ho1) hc1 (by decide)
      rw [HS.out] at ho2
      have hc2 := hc.trans ⟨hc1.os, hc1.tape, hc1.output, hc1.size, fun q hq hn => hc1.block q hq (fun h => hn (Or.inr ⟨j, u, hu, h⟩))⟩
      have HPE : Hid (k + (pre2 rs j : Int) + (rs[j].length : Int) = k + (pre2 rs (j + 1) : Nat)) := Lib.hid (by have := HPS.out; omega)
      clear hoj hou ho1 hc1 hc
      rw [HPE.out]
      go_wp2
      go_roundw
      case rel => exact ⟨j + 1, by omega, by go_num, rfl, ho2, hc2⟩
      case measure => simp [intOf]; omega
    · have e : j = rs.length := by omega
      subst e
      rw [List.take_of_length_le (by rw [mk2I_len]; omega), List.drop_length, List.append_nil] at hoj
      go_wp2
      go_ret
      exact ⟨rfl, hoj, hc⟩

set_option maxHeartbeats 1600000 in
theorem heldIntSS_any (v : Value) (rs : List (List Int)) (k : Int) (w : World) (hr : Reads2 ints w v (mk2I k rs)) (h0 : 0 ≤ k) (h1 : k + pre2 rs rs.length ≤ 1073741824) :
    Calls Try.prog 88 #[v, .int .i64 k] w fun e w' => e = .returned (.int .i64 (k + pre2 rs rs.length)) ∧ Below w.heap.size w w' := by
  obtain ⟨a, c, rfl⟩ := hr.shape
  have hn := hr.lenle
  rw [mk2I_len] at hn
  rw [mk2I_len]
  have HR := Lib.hid hr
  clear hr
  go_enter Try.func88, Try.ntmps88
  go_wp2
  go_loopw [1, 5] (fun kk i wr => ∃ j : Nat, j ≤ rs.length ∧ i = .int .i64 j ∧ kk = .int .i64 (k + pre2 rs j) ∧ Below w.heap.size w wr) (fun _ i _ => rs.length - (intOf i).toNat)
  case atStart => exact ⟨0, Nat.zero_le _, rfl, by simp [pre2], bself w⟩
  case round =>
    obtain ⟨j, hj, rfl, rfl, hbel⟩ := hrel
    by_cases hlt : j < rs.length
    · obtain ⟨b, off, u, rfl, hb, hc, hu⟩ := HR.out.at j (by rw [mk2I_len]; exact hlt)
      rw [← mk2I_row k rs j hlt, mk2I_get k rs j hlt] at hu
      replace hc := kept_cell hbel hc
      replace hu := hu.below hbel
      have kc := lt_of_cell hc
      have hp := pre2_all rs j hlt rs.length hlt
      have hps := pre2_succ rs j hlt
      have hpm := pre2_mono rs (k := j + 1) (m := rs.length) (by omega)
      have hk0 : 0 ≤ k + (pre2 rs j : Int) := by omega
      have hk1 : k + (pre2 rs j : Int) ≤ 1073741824 := by omega
      have hk2 : rs[j].length ≤ 1073741824 := by omega
      have HPE : Hid (k + (pre2 rs j : Int) + (rs[j].length : Int) = k + (pre2 rs (j + 1) : Nat)) := Lib.hid (by omega)
      have hk3 : ¬ k + (pre2 rs (j + 1) : Nat) < 0 := by omega
      clear hp hps hpm
      go_wp2_with fail
      refine (heldIntS_b u rs[j].length (k + pre2 rs j) _ hu hk2 hk0 hk1).mono ?_
      rintro e w1 ⟨rfl, hb1⟩
      have hbe := btr hbel hb1
      clear hbel hb1 hc hu kc hb
      rw [HPE.out]
      go_wp2
      go_roundw
      case rel => exact ⟨j + 1, by omega, by go_num, rfl, hbe⟩
      case measure => simp [intOf]; omega
    · have e : j = rs.length := by omega
      subst e
      go_wp2
      go_ret
      exact ⟨rfl, hbel⟩
end Go.Proofs.Ytbglogjamfdmpaa
