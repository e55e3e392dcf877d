/-
  FenceCode of the program.
-/
import Derived.Test.YtkbbpnfhenoihaaFP
namespace Go.Proofs.Ytkbbpnfhenoihaa
open Go.RowKit

theorem drop_cons {α : Type} (l : List α) (k : Nat) (h : k < l.length) (a : List α) (ha : a.length = k) (y : α) : (a ++ l.drop k).set k y = (a ++ [y]) ++ l.drop (k + 1) := set_dropped a l y k ha h
theorem get_dropped {α : Type} (l : List α) (k : Nat) (h : k < l.length) (a : List α) (ha : a.length = k) (h2 : k < (a ++ l.drop k).length) : (a ++ l.drop k)[k]'h2 = l[k] := by
  rw [List.getElem_append_right (by omega)]
  simp [ha]
theorem ints_set (l : List Int) (k : Nat) (b : Int) : (ints l).set k (.int .i64 b) = ints (l.set k b) := by simp [ints, List.map_set]
theorem ints_at (l : List Int) (k : Nat) (h : k < l.length) : (ints l)[k]? = some (.int .i64 l[k]) := by simp [ints, h]
theorem ints_replicate (n : Nat) (b : Int) : ints (List.replicate n b) = List.replicate n (.int .i64 b) := by simp [ints]

set_option maxHeartbeats 6400000 in
set_option maxRecDepth 100000 in
theorem iFence_any (va vb vc : Value) (c : Cd) (w : World) (hr : ReadsC w va vb vc c) :
    Calls Try.prog 45 #[.agg #[va, vb, vc]] w fun e w' => ∃ ua ub uc, e = .returned (.tuple #[.agg #[ua, ub, uc], .bool (fenceR c).2]) ∧ OwnC w' w.heap.size ua ub uc (fenceR c).1 ∧ Below w.heap.size w w' := by
  obtain ⟨a0, c0, a1, c1, a2, c2, rfl, rfl, rfl⟩ := hr.shape
  have hER := fun h => fenceR_no (c := c) h
  have hEY := fun h => fenceR_yes (c := c) h
  generalize fenceR c = R at *
  have HER := Lib.hid hER
  have HEY := Lib.hid hEY
  clear hER hEY
  have ivr := hr.lt
  go_enter Try.func45, Try.ntmps45
  go_wp2_with fail
  refine (iCodeValid_any _ _ _ c _ ((hr.below (bal (bself _) (.cells #[.slice a0 c.vars.length c0, .slice a1 c.arrays.length c1, .slice a2 c.list.length c2] 50))).below (bal (bself _) (.cells #[.slice none 0 0, .slice none 0 0, .slice none 0 0] 50)))).mono ?_
  rintro e w1 ⟨rfl, hb⟩
  have hsz1 := hb.size
  simp only [World.size_alloc] at hsz1
  replace hr := ((hr.below (bal (bself _) (.cells #[.slice a0 c.vars.length c0, .slice a1 c.arrays.length c1, .slice a2 c.list.length c2] 50))).below (bal (bself _) (.cells #[.slice none 0 0, .slice none 0 0, .slice none 0 0] 50))).below hb
  have bx2 : w1.cell? ⟨w.heap.size, 0, none⟩ = some (.slice a0 c.vars.length c0) := kept_cell hb (cell_al (cell_nw (by simp) (by rfl)) _)
  have bx3 : w1.cell? ⟨w.heap.size, 1, none⟩ = some (.slice a1 c.arrays.length c1) := kept_cell hb (cell_al (cell_nw (by simp) (by rfl)) _)
  have bx4 : w1.cell? ⟨w.heap.size, 2, none⟩ = some (.slice a2 c.list.length c2) := kept_cell hb (cell_al (cell_nw (by simp) (by rfl)) _)
  have bx5 : w1.cell? ⟨w.heap.size + 1, 0, none⟩ = some (.slice none 0 0) := kept_cell hb (cell_nw (by simp) (by rfl))
  have bf6 : w1.frozen? ⟨w.heap.size + 1, 0, none⟩ = false := kept_froz hb (by simp) (froz_nw (by simp))
  have bx7 : w1.cell? ⟨w.heap.size + 1, 1, none⟩ = some (.slice none 0 0) := kept_cell hb (cell_nw (by simp) (by rfl))
  have bf8 : w1.frozen? ⟨w.heap.size + 1, 1, none⟩ = false := kept_froz hb (by simp) (froz_nw (by simp))
  have bx9 : w1.cell? ⟨w.heap.size + 1, 2, none⟩ = some (.slice none 0 0) := kept_cell hb (cell_nw (by simp) (by rfl))
  have bf10 : w1.frozen? ⟨w.heap.size + 1, 2, none⟩ = false := kept_froz hb (by simp) (froz_nw (by simp))
  have tot := btr (bal (bal (bself w) (.cells #[.slice a0 c.vars.length c0, .slice a1 c.arrays.length c1, .slice a2 c.list.length c2] 50)) (.cells #[.slice none 0 0, .slice none 0 0, .slice none 0 0] 50)) hb
  clear hb
  have lt11 := lt_of_cell bx2
  have lt12 := lt_of_cell bx3
  have lt13 := lt_of_cell bx4
  have lt14 := lt_of_cell bx5
  have lt15 := lt_of_cell bx7
  have lt16 := lt_of_cell bx9
  cases hok : codeOk c
  · have HO := Lib.hid hok; clear hok hr
    have hR := HER.out (fun h => by have h2 := HO.out; rw [h.1] at h2; cases h2)
    have HR := Lib.hid hR; clear hR
    have x0 := (cell_ne (b := (w.heap.size + 1)) (j := 2) (cell_ne (b := (w.heap.size + 1)) (j := 1) (cell_at _ (w.heap.size + 1) 0 (.slice none 0 0) bx5) (by omega) (.slice none 0 0)) (by omega) (.slice none 0 0))
    have x1 := (cell_ne (b := (w.heap.size + 1)) (j := 2) (cell_at _ (w.heap.size + 1) 1 (.slice none 0 0) (cell_ne (b := (w.heap.size + 1)) (j := 0) bx7 (by omega) (.slice none 0 0))) (by omega) (.slice none 0 0))
    have x2 := (cell_at _ (w.heap.size + 1) 2 (.slice none 0 0) (cell_ne (b := (w.heap.size + 1)) (j := 1) (cell_ne (b := (w.heap.size + 1)) (j := 0) bx9 (by omega) (.slice none 0 0)) (by omega) (.slice none 0 0)))
    have tt := (bst (bst (bst tot (w.heap.size + 1) 0 (by omega) (.slice none 0 0)) (w.heap.size + 1) 1 (by omega) (.slice none 0 0)) (w.heap.size + 1) 2 (by omega) (.slice none 0 0))
    go_wp2
    exact bodyPost_ret (v := .tuple #[.agg #[.slice none 0 0, .slice none 0 0, .slice none 0 0], .bool false]) (by simp [results, Try.results45, go_sem, x0, x1, x2]) rfl (by rw [HR.out]; exact ⟨_, _, _, rfl, noCode_own _ _, tt⟩)
  have HO := Lib.hid hok; clear hok
  have hlen := codeOk_len HO.out
  have hdl := declOk_len (codeOk_decl HO.out)
  obtain ⟨l1, l2⟩ := hlen
  obtain ⟨l3, l4⟩ := hdl
  go_wp2_with fail
  refine (fenced_any _ _ _ c _ hr HO.out).mono ?_
  rintro e w2 ⟨g1, rfl, oN, hb⟩
  have hsz17 := hb.size
  replace bf6 := kept_froz hb (lt_of_cell bx5) bf6
  replace bf8 := kept_froz hb (lt_of_cell bx7) bf8
  replace bf10 := kept_froz hb (lt_of_cell bx9) bf10
  replace hr := hr.below hb
  replace bx2 : w2.cell? ⟨w.heap.size, 0, none⟩ = some (.slice a0 c.vars.length c0) := kept_cell hb bx2
  replace bx3 : w2.cell? ⟨w.heap.size, 1, none⟩ = some (.slice a1 c.arrays.length c1) := kept_cell hb bx3
  replace bx4 : w2.cell? ⟨w.heap.size, 2, none⟩ = some (.slice a2 c.list.length c2) := kept_cell hb bx4
  replace bx5 : w2.cell? ⟨w.heap.size + 1, 0, none⟩ = some (.slice none 0 0) := kept_cell hb bx5
  replace bx7 : w2.cell? ⟨w.heap.size + 1, 1, none⟩ = some (.slice none 0 0) := kept_cell hb bx7
  replace bx9 : w2.cell? ⟨w.heap.size + 1, 2, none⟩ = some (.slice none 0 0) := kept_cell hb bx9
  replace tot := btr tot hb
  clear hb
  have iv18 := oN.lt
  have lt19 := lt_of_cell bx2
  have lt20 := lt_of_cell bx3
  have lt21 := lt_of_cell bx4
  have lt22 := lt_of_cell bx5
  have lt23 := lt_of_cell bx7
  have lt24 := lt_of_cell bx9
  have hmk := mk_int c.list.length (by omega)
  have hg1 := oN.lt _ rfl
  simp only at hg1
  have oP := own_made w2 (.int .i64 0) c.list.length 3 (by unfold maxLen; omega)
  rw [← ints_replicate] at oP
  obtain ⟨w3, hnw⟩ : ∃ X, X = World.alloc w2 (.cells (madeCells #[.int .i64 0] c.list.length) 3) := ⟨_, rfl⟩
  rw [← hnw] at oP
  have hb : Below w2.heap.size w2 w3 := by rw [hnw]; exact bal (bself _) _
  have hz3 : w2.heap.size + 1 ≤ w3.heap.size := by rw [hnw]; simp
  go_wp2
  rw [← hnw]
  clear hnw
  have hsz25 := hb.size
  replace bf6 := kept_froz hb (lt_of_cell bx5) bf6
  replace bf8 := kept_froz hb (lt_of_cell bx7) bf8
  replace bf10 := kept_froz hb (lt_of_cell bx9) bf10
  replace hr := hr.below hb
  replace bx2 : w3.cell? ⟨w.heap.size, 0, none⟩ = some (.slice a0 c.vars.length c0) := kept_cell hb bx2
  replace bx3 : w3.cell? ⟨w.heap.size, 1, none⟩ = some (.slice a1 c.arrays.length c1) := kept_cell hb bx3
  replace bx4 : w3.cell? ⟨w.heap.size, 2, none⟩ = some (.slice a2 c.list.length c2) := kept_cell hb bx4
  replace bx5 : w3.cell? ⟨w.heap.size + 1, 0, none⟩ = some (.slice none 0 0) := kept_cell hb bx5
  replace bx7 : w3.cell? ⟨w.heap.size + 1, 1, none⟩ = some (.slice none 0 0) := kept_cell hb bx7
  replace bx9 : w3.cell? ⟨w.heap.size + 1, 2, none⟩ = some (.slice none 0 0) := kept_cell hb bx9
  replace oN := own_below oN hb
  replace tot := btr tot hb
  clear hb
  have hrl := hr.l
  obtain ⟨_, hn, aa, cap, b, off, hv, hcap, ha, hca⟩ := hrl
  simp only [Value.slice.injEq, true_and] at hv
  obtain ⟨rfl, rfl⟩ := hv
  obtain ⟨rfl, hbs⟩ := ha (by omega)
  have HC := Lib.hid (reads_Instr hca)
  have hbw := ivr b (Or.inr (Or.inr ⟨off, c2, by omega, rfl⟩))
  have hmo : (marksOf c.list).length = c.list.length := marksUpto_len _ _
  have HMO := Lib.hid hmo
  clear hca ha hmo
  go_loopw [6, 26] (fun cn i wr => ∃ k : Nat, k ≤ c.list.length ∧ cn = .int .i64 (cnt c.list k : Nat) ∧ i = .int .i64 k ∧ wr.ownsRow w1.heap.size 4 1 (.slice (some ⟨g1, 0, none⟩) c.list.length c.list.length) c.list.length (bools (needs c.list k ++ (marksOf c.list).drop k)) ∧
      wr.ownsRow w2.heap.size 3 1 (.slice (some ⟨w2.heap.size, 0, none⟩) c.list.length c.list.length) c.list.length (ints (places c.list k ++ (List.replicate c.list.length (0 : Int)).drop k)) ∧ Chg (fun q => q = g1 ∨ q = w2.heap.size) w3 wr) (fun _ i _ => c.list.length - (intOf i).toNat)
  case atStart => exact ⟨0, Nat.zero_le _, rfl, rfl, by simpa [needs] using oN, by simpa [places] using oP, Chg.refl _ _⟩
  case round =>
    obtain ⟨k, hk, rfl, rfl, oN2, oP2, hC⟩ := hrel
    have hzC := hC.size
    have hcb := cnt_le c.list k
    have n0 := chg_cell hC bx4 (by omega)
    have k0 := lt_of_cell n0
    by_cases hlt : k < c.list.length
    · obtain ⟨e0, e1, e2, e3, e4⟩ := HC.out k hlt
      have e0 := chg_cell hC e0 (by omega)
      have e1 := chg_cell hC e1 (by omega)
      have e2 := chg_cell hC e2 (by omega)
      have e3 := chg_cell hC e3 (by omega)
      have e4 := chg_cell hC e4 (by omega)
      have y0 := oN2.cellAt k (by omega)
      rw [bools_at _ _ (by rw [List.length_append, needs_len, List.length_drop, HMO.out]; omega), get_dropped _ k (by rw [HMO.out]; exact hlt) _ (needs_len _ _)] at y0
      have y1 := oP2.cellAt k (by omega)
      rw [ints_at _ _ (by rw [List.length_append, places_len, List.length_drop, List.length_replicate]; omega)] at y1
      have f0 := oN2.frozenAt k
      have f1 := oP2.frozenAt k
      have hna := needAt_eq (l := c.list) (k := k) (by rw [HMO.out]; exact hlt) hlt
      have hcs : cnt c.list (k + 1) = cnt c.list k + (if needAt c.list k = true then 2 else 1) := rfl
      generalize ((marksOf c.list)[k]'(by rw [HMO.out]; exact hlt)) = m at *
      generalize ((places c.list k ++ (List.replicate c.list.length (0 : Int)).drop k)[k]'(by rw [List.length_append, places_len, List.length_drop, List.length_replicate]; omega)) = z1 at *
      generalize c.list[k] = x at *
      have HNA := Lib.hid hna
      have HCS := Lib.hid hcs
      clear hna hcs
      clear HC
      go_upto_region 9 with (fail)
      obtain ⟨w5, hw5⟩ : ∃ X, X = World.alloc wr (.cells #[.int .i64 x.op, .int .i64 x.a, .int .i64 x.b, .int .i64 x.c, .int .i64 x.d] 98) := ⟨_, rfl⟩
      rw [← hw5]
      have hb5 : Below wr.heap.size wr w5 := by rw [hw5]; exact bal (bself wr) _
      have hz5 : wr.heap.size + 1 ≤ w5.heap.size := by rw [hw5]; simp
      have d0 : w5.cell? ⟨wr.heap.size, 0, none⟩ = some (.int .i64 x.op) := by rw [hw5]; exact cell_nw rfl rfl
      clear hw5 e0 e1 e2 e3 e4
      have kg := lt_of_cell y0
      have kp := lt_of_cell y1
      replace y0 := kept_cell hb5 y0
      replace y1 := kept_cell hb5 y1
      replace f0 := kept_froz hb5 kg f0
      replace f1 := kept_froz hb5 kp f1
      replace n0 := kept_cell hb5 n0
      replace k0 := lt_of_cell n0
      have kd := lt_of_cell d0
      have oN3 := own_below oN2 hb5
      have oP3 := own_below oP2 hb5
      have hC5 := hC.trans (Chg.of_below (S := fun q => q = g1 ∨ q = w2.heap.size) hb5)
      clear oN2 oP2 hC hb5
      cases m with
      | false =>
        have HN : Hid (needAt c.list k = false) := Lib.hid (by rw [HNA.out]; rfl)
        have sN := (oN3.stored k (.bool false)).1
        rw [bools_set, drop_cons _ k (by rw [HMO.out]; exact hlt) _ (needs_len _ _), show needs c.list k ++ [false] = needs c.list (k + 1) from by rw [needs_succ, HN.out]] at sN
        have sP := (oP3.stored k (.int .i64 (cnt c.list k : Nat))).1
        rw [ints_set, drop_cons _ k (by simpa using hlt) _ (places_len _ _), ← places_succ] at sP
        have tN := own_set sN (w2.heap.size) k (fun h => by have e : g1 = w2.heap.size := Option.some.inj h; omega) (.int .i64 (cnt c.list k : Nat))
        have tP0 := own_set oP3 g1 k (fun h => by have e : w2.heap.size = g1 := Option.some.inj h; omega) (.bool false)
        have tP := (tP0.stored k (.int .i64 (cnt c.list k : Nat))).1
        rw [ints_set, drop_cons _ k (by simpa using hlt) _ (places_len _ _), ← places_succ] at tP
        have y2 := cell_ne (b := g1) (j := k) y1 (by omega) (.bool false)
        have y3 := cell_ne (b := w2.heap.size) (j := k) (cell_at w5 g1 k (.bool false) y0) (by omega) (.int .i64 (cnt c.list k : Nat))
        have hC6 := (hC5.setCell g1 k (.bool false) (fun _ => Or.inl rfl)).setCell (w2.heap.size) k (.int .i64 (cnt c.list k : Nat)) (fun _ => Or.inr rfl)
        clear oN3 oP3 sN sP tP0 hC5
        go_wp2_with fail
        refine (truth_any false _).mono ?_
        rintro e w6 ⟨rfl, hb6⟩
        have oN4 := own_below tN hb6
        have oP4 := own_below tP hb6
        have hC7 := hC6.trans (Chg.of_below (S := fun q => q = g1 ∨ q = w2.heap.size) hb6)
        clear tN tP hC6 hb6 y0 y1 y2 y3 f0 f1 d0 n0
        go_wp2
        go_roundw
        case rel => exact ⟨k + 1, by omega, by rw [HCS.out, HN.out]; simp; try omega, by go_num, oN4, oP4, hC7⟩
        case measure => simp [intOf]; omega
      | true =>
        by_cases h12 : (x.op == 12) = true
        · have h1 : (x.op != 12) = false := by unfold bne; rw [h12]; rfl
          have H12 := Lib.hid h12; clear h12
          have HN : Hid (needAt c.list k = false) := Lib.hid (by rw [HNA.out, H12.out]; rfl)
          have sN := (oN3.stored k (.bool false)).1
          rw [bools_set, drop_cons _ k (by rw [HMO.out]; exact hlt) _ (needs_len _ _), show needs c.list k ++ [false] = needs c.list (k + 1) from by rw [needs_succ, HN.out]] at sN
          have sP := (oP3.stored k (.int .i64 (cnt c.list k : Nat))).1
          rw [ints_set, drop_cons _ k (by simpa using hlt) _ (places_len _ _), ← places_succ] at sP
          have tN := own_set sN (w2.heap.size) k (fun h => by have e : g1 = w2.heap.size := Option.some.inj h; omega) (.int .i64 (cnt c.list k : Nat))
          have tP0 := own_set oP3 g1 k (fun h => by have e : w2.heap.size = g1 := Option.some.inj h; omega) (.bool false)
          have tP := (tP0.stored k (.int .i64 (cnt c.list k : Nat))).1
          rw [ints_set, drop_cons _ k (by simpa using hlt) _ (places_len _ _), ← places_succ] at tP
          have y2 := cell_ne (b := g1) (j := k) y1 (by omega) (.bool false)
          have y3 := cell_ne (b := w2.heap.size) (j := k) (cell_at w5 g1 k (.bool false) y0) (by omega) (.int .i64 (cnt c.list k : Nat))
          have hC6 := (hC5.setCell g1 k (.bool false) (fun _ => Or.inl rfl)).setCell (w2.heap.size) k (.int .i64 (cnt c.list k : Nat)) (fun _ => Or.inr rfl)
          clear oN3 oP3 sN sP tP0 hC5
          go_wp2_with fail
          refine (truth_any false _).mono ?_
          rintro e w6 ⟨rfl, hb6⟩
          have oN4 := own_below tN hb6
          have oP4 := own_below tP hb6
          have hC7 := hC6.trans (Chg.of_below (S := fun q => q = g1 ∨ q = w2.heap.size) hb6)
          clear tN tP hC6 hb6 y0 y1 y2 y3 f0 f1 d0 n0
          go_wp2
          go_roundw
          case rel => exact ⟨k + 1, by omega, by rw [HCS.out, HN.out]; simp; try omega, by go_num, oN4, oP4, hC7⟩
          case measure => simp [intOf]; omega
        · have h12f : (x.op == 12) = false := by simpa using h12
          have h1 : (x.op != 12) = true := by unfold bne; rw [h12f]; rfl
          have H12 := Lib.hid h12f; clear h12 h12f
          have HN : Hid (needAt c.list k = true) := Lib.hid (by rw [HNA.out, H12.out]; rfl)
          have sN := (oN3.stored k (.bool true)).1
          rw [bools_set, drop_cons _ k (by rw [HMO.out]; exact hlt) _ (needs_len _ _), show needs c.list k ++ [true] = needs c.list (k + 1) from by rw [needs_succ, HN.out]] at sN
          have sP := (oP3.stored k (.int .i64 (cnt c.list k : Nat))).1
          rw [ints_set, drop_cons _ k (by simpa using hlt) _ (places_len _ _), ← places_succ] at sP
          have tN := own_set sN (w2.heap.size) k (fun h => by have e : g1 = w2.heap.size := Option.some.inj h; omega) (.int .i64 (cnt c.list k : Nat))
          have tP0 := own_set oP3 g1 k (fun h => by have e : w2.heap.size = g1 := Option.some.inj h; omega) (.bool true)
          have tP := (tP0.stored k (.int .i64 (cnt c.list k : Nat))).1
          rw [ints_set, drop_cons _ k (by simpa using hlt) _ (places_len _ _), ← places_succ] at tP
          have y2 := cell_ne (b := g1) (j := k) y1 (by omega) (.bool true)
          have y3 := cell_ne (b := w2.heap.size) (j := k) (cell_at w5 g1 k (.bool true) y0) (by omega) (.int .i64 (cnt c.list k : Nat))
          have hC6 := (hC5.setCell g1 k (.bool true) (fun _ => Or.inl rfl)).setCell (w2.heap.size) k (.int .i64 (cnt c.list k : Nat)) (fun _ => Or.inr rfl)
          clear oN3 oP3 sN sP tP0 hC5
          go_wp2_with fail
          refine (truth_any true _).mono ?_
          rintro e w6 ⟨rfl, hb6⟩
          have oN4 := own_below tN hb6
          have oP4 := own_below tP hb6
          have hC7 := hC6.trans (Chg.of_below (S := fun q => q = g1 ∨ q = w2.heap.size) hb6)
          clear tN tP hC6 hb6 y0 y1 y2 y3 f0 f1 d0 n0
          go_wp2
          go_roundw
          case rel => exact ⟨k + 1, by omega, by rw [HCS.out, HN.out]; simp; try omega, by go_num, oN4, oP4, hC7⟩
          case measure => simp [intOf]; omega
    · have e : k = c.list.length := by omega
      subst e
      rw [List.drop_eq_nil_of_le (by rw [HMO.out]; exact Nat.le_refl _), List.append_nil] at oN2
      rw [List.drop_eq_nil_of_le (by simp), List.append_nil] at oP2
      have tot4 := tot.trans (hC.below w.heap.size tot.size (fun q hq h => by omega))
      replace bx2 := chg_cell hC bx2 (by omega)
      replace bx5 := chg_cell hC bx5 (by omega)
      replace bf6 := chg_froz hC (by omega) bf6 (by omega)
      replace bx3 := chg_cell hC bx3 (by omega)
      replace bx7 := chg_cell hC bx7 (by omega)
      replace bf8 := chg_froz hC (by omega) bf8 (by omega)
      replace bx4 := chg_cell hC bx4 (by omega)
      replace bx9 := chg_cell hC bx9 (by omega)
      replace bf10 := chg_froz hC (by omega) bf10 (by omega)
      have HC4 : Hid (∀ k (h : k < c.list.length), wr.cell? ⟨b, off + k * 5, none⟩ = some (.int .i64 c.list[k].op) ∧ wr.cell? ⟨b, off + k * 5 + 1, none⟩ = some (.int .i64 c.list[k].a) ∧ wr.cell? ⟨b, off + k * 5 + 2, none⟩ = some (.int .i64 c.list[k].b) ∧ wr.cell? ⟨b, off + k * 5 + 3, none⟩ = some (.int .i64 c.list[k].c) ∧ wr.cell? ⟨b, off + k * 5 + 4, none⟩ = some (.int .i64 c.list[k].d)) := Lib.hid (fun k h => by obtain ⟨e0, e1, e2, e3, e4⟩ := HC.out k h; exact ⟨chg_cell hC e0 (by omega), chg_cell hC e1 (by omega), chg_cell hC e2 (by omega), chg_cell hC e3 (by omega), chg_cell hC e4 (by omega)⟩)
      have hr4 := hr.keep hC (fun q hq h => by have := ivr q hq; omega)
      clear HC hr hC oN oP tot n0 k0 hmk
      obtain ⟨w4, rfl⟩ : ∃ X, X = wr := ⟨_, rfl⟩
      by_cases h400 : (400 : Int) < (cnt c.list c.list.length : Nat)
      · have hR := HER.out (fun h => by have := h.2; omega)
        have HR := Lib.hid hR; clear hR hr4 oN2 oP2
        have x0 := (cell_ne (b := (w.heap.size + 1)) (j := 2) (cell_ne (b := (w.heap.size + 1)) (j := 1) (cell_at _ (w.heap.size + 1) 0 (.slice none 0 0) bx5) (by omega) (.slice none 0 0)) (by omega) (.slice none 0 0))
        have x1 := (cell_ne (b := (w.heap.size + 1)) (j := 2) (cell_at _ (w.heap.size + 1) 1 (.slice none 0 0) (cell_ne (b := (w.heap.size + 1)) (j := 0) bx7 (by omega) (.slice none 0 0))) (by omega) (.slice none 0 0))
        have x2 := (cell_at _ (w.heap.size + 1) 2 (.slice none 0 0) (cell_ne (b := (w.heap.size + 1)) (j := 1) (cell_ne (b := (w.heap.size + 1)) (j := 0) bx9 (by omega) (.slice none 0 0)) (by omega) (.slice none 0 0)))
        have tt := (bst (bst (bst tot4 (w.heap.size + 1) 0 (by omega) (.slice none 0 0)) (w.heap.size + 1) 1 (by omega) (.slice none 0 0)) (w.heap.size + 1) 2 (by omega) (.slice none 0 0))
        go_wp2
        exact bodyPost_ret (v := .tuple #[.agg #[.slice none 0 0, .slice none 0 0, .slice none 0 0], .bool false]) (by simp [results, Try.results45, go_sem, x0, x1, x2]) rfl (by rw [HR.out]; exact ⟨_, _, _, rfl, noCode_own _ _, tt⟩)
      have h401 : ¬ (400 : Int) < (cnt c.list c.list.length : Nat) := h400
      have hR := HEY.out ⟨HO.out, by omega⟩
      have HR := Lib.hid hR; clear hR h400
      have HTI := Lib.hid (fun k hk h0 => tgt_in (codeOk_all HO.out k hk) h0)
      have lt26 := lt_of_cell bx2
      have lt27 := lt_of_cell bx3
      have lt28 := lt_of_cell bx4
      have lt29 := lt_of_cell bx5
      have lt30 := lt_of_cell bx7
      have lt31 := lt_of_cell bx9
      go_wp2
      go_loopw [9, 62] (fun lv i wr => ∃ k : Nat, k ≤ c.list.length ∧ i = .int .i64 k ∧ wr.ownsRow w4.heap.size 98 5 lv (cnt c.list k) (inss (fenceTo c.list k)) ∧ Below w4.heap.size w4 wr) (fun _ i _ => c.list.length - (intOf i).toNat)
      case atStart => exact ⟨0, Nat.zero_le _, rfl, World.ownsRow_nil _ _ _ _, bself _⟩
      case round =>
        obtain ⟨k, hk, rfl, ho, hbel⟩ := hrel
        have hzb := hbel.size
        have iv := ho.lt
        have hcb := cnt_le c.list k
        by_cases hlt : k < c.list.length
        · obtain ⟨e0, e1, e2, e3, e4⟩ := HC4.out k hlt
          replace e0 := kept_cell hbel e0
          replace e1 := kept_cell hbel e1
          replace e2 := kept_cell hbel e2
          replace e3 := kept_cell hbel e3
          replace e4 := kept_cell hbel e4
          have yN := (own_below oN2 hbel).cellAt k (by omega)
          rw [bools_at _ _ (by rw [needs_len]; exact hlt), needs_get] at yN
          have hms := fenceTo_succ c.list k hlt
          have hcs : cnt c.list (k + 1) = cnt c.list k + (if needAt c.list k = true then 2 else 1) := rfl
          have hti := HTI.out k hlt
          generalize c.list[k] = x at *
          have HMS := Lib.hid hms
          have HCS := Lib.hid hcs
          have HT := Lib.hid hti
          clear hms hcs hti
          go_upto_region 19 with (fail)
          obtain ⟨w5, hw5⟩ : ∃ X, X = World.alloc wr (.cells #[.int .i64 x.op, .int .i64 x.a, .int .i64 x.b, .int .i64 x.c, .int .i64 x.d] 98) := ⟨_, rfl⟩
          rw [← hw5]
          have hb5 : Below wr.heap.size wr w5 := by rw [hw5]; exact bal (bself wr) _
          have hz5 : wr.heap.size + 1 ≤ w5.heap.size := by rw [hw5]; simp
          have d0 : w5.cell? ⟨wr.heap.size, 0, none⟩ = some (.int .i64 x.op) := by rw [hw5]; exact cell_nw rfl rfl
          have z0 : w5.frozen? ⟨wr.heap.size, 0, none⟩ = false := by rw [hw5]; exact froz_nw rfl
          have d1 : w5.cell? ⟨wr.heap.size, 1, none⟩ = some (.int .i64 x.a) := by rw [hw5]; exact cell_nw rfl rfl
          have z1 : w5.frozen? ⟨wr.heap.size, 1, none⟩ = false := by rw [hw5]; exact froz_nw rfl
          have d2 : w5.cell? ⟨wr.heap.size, 2, none⟩ = some (.int .i64 x.b) := by rw [hw5]; exact cell_nw rfl rfl
          have z2 : w5.frozen? ⟨wr.heap.size, 2, none⟩ = false := by rw [hw5]; exact froz_nw rfl
          have d3 : w5.cell? ⟨wr.heap.size, 3, none⟩ = some (.int .i64 x.c) := by rw [hw5]; exact cell_nw rfl rfl
          have z3 : w5.frozen? ⟨wr.heap.size, 3, none⟩ = false := by rw [hw5]; exact froz_nw rfl
          have d4 : w5.cell? ⟨wr.heap.size, 4, none⟩ = some (.int .i64 x.d) := by rw [hw5]; exact cell_nw rfl rfl
          have z4 : w5.frozen? ⟨wr.heap.size, 4, none⟩ = false := by rw [hw5]; exact froz_nw rfl
          clear hw5 e0 e1 e2 e3 e4
          have ky := lt_of_cell yN
          have yN5 := kept_cell hb5 yN
          have ky5 := lt_of_cell yN5
          have kd := lt_of_cell d0
          have hB := btr hbel hb5
          have o5 := own_below ho hb5
          clear yN hb5 ho
          cases hnb : needAt c.list k with
          | false =>
            have HNB := Lib.hid hnb; rw [hnb] at yN5; clear hnb
            have B5 := hB; clear hB
            go_wp2_with fail
            refine (target_any x _).mono ?_
            rintro e w6 ⟨rfl, hb6⟩
            replace d0 := kept_cell hb6 d0; replace z0 := kept_froz hb6 (by omega) z0
            replace d1 := kept_cell hb6 d1; replace z1 := kept_froz hb6 (by omega) z1
            replace d2 := kept_cell hb6 d2; replace z2 := kept_froz hb6 (by omega) z2
            replace d3 := kept_cell hb6 d3; replace z3 := kept_froz hb6 (by omega) z3
            replace d4 := kept_cell hb6 d4; replace z4 := kept_froz hb6 (by omega) z4
            have B6 := btr B5 hb6
            have o6 := own_below o5 hb6
            have hz6 := hb6.size
            have i6 := o6.lt
            have k6 := lt_of_cell d0
            clear hb6 B5 o5
            by_cases ht : 0 ≤ tgt x
            · obtain ⟨t1, t2⟩ := HT.out ht
              obtain ⟨nt, hnt⟩ : ∃ nt : Nat, tgt x = nt := ⟨(tgt x).toNat, by omega⟩
              have HFX : Hid (fx c.list x = aim x (cnt c.list nt : Nat)) := Lib.hid (by unfold fx; rw [if_pos ht, hnt, Int.toNat_natCast])
              rw [hnt] at t1 ⊢
              have hnt2 : nt < c.list.length := by omega
              have hq : (nt : Int) < (c.list.length : Int) := by omega
              have hq0 : (0 : Int) ≤ (nt : Int) := by omega
              have yP := (own_below oP2 B6).cellAt nt (by omega)
              rw [ints_at _ _ (by rw [places_len]; exact hnt2), places_get] at yP
              have kP := lt_of_cell yP
              have HT2 := Lib.hid t2
              clear t1 t2 ht hnt
              go_upto_region 23 with (fail)
              have D := Below.drew (bself w6)
              go_cut [84] (fun _ wx => wx.cell? ⟨wr.heap.size, 0, none⟩ = some (.int .i64 (aim x (cnt c.list nt : Nat)).op) ∧ wx.cell? ⟨wr.heap.size, 1, none⟩ = some (.int .i64 (aim x (cnt c.list nt : Nat)).a) ∧ wx.cell? ⟨wr.heap.size, 2, none⟩ = some (.int .i64 (aim x (cnt c.list nt : Nat)).b) ∧ wx.cell? ⟨wr.heap.size, 3, none⟩ = some (.int .i64 (aim x (cnt c.list nt : Nat)).c) ∧ wx.cell? ⟨wr.heap.size, 4, none⟩ = some (.int .i64 (aim x (cnt c.list nt : Nat)).d) ∧ Chg (fun q => q = wr.heap.size) w6 wx)
              case first =>
                go_region_with (go_at_call 103; refine (to_any x _ _ HT2.out).mono ?_; rintro e w7 ⟨rfl, b7⟩; have v7 := btr D b7; have u0 := kept_cell v7 d0; have u1 := kept_cell v7 d1; have u2 := kept_cell v7 d2; have u3 := kept_cell v7 d3; have u4 := kept_cell v7 d4; have r0 := kept_froz v7 k6 z0; have r1 := kept_froz v7 k6 z1; have r2 := kept_froz v7 k6 z2; have r3 := kept_froz v7 k6 z3; have r4 := kept_froz v7 k6 z4; have k7 := lt_of_cell u0)
                all_goals (go_wp2_with fail; go_meet; exact ⟨(cell_ne (b := wr.heap.size) (j := 4) (cell_ne (b := wr.heap.size) (j := 3) (cell_ne (b := wr.heap.size) (j := 2) (cell_ne (b := wr.heap.size) (j := 1) (cell_at _ wr.heap.size 0 (.int .i64 (aim x (cnt c.list nt : Nat)).op) u0) (by omega) (.int .i64 (aim x (cnt c.list nt : Nat)).a)) (by omega) (.int .i64 (aim x (cnt c.list nt : Nat)).b)) (by omega) (.int .i64 (aim x (cnt c.list nt : Nat)).c)) (by omega) (.int .i64 (aim x (cnt c.list nt : Nat)).d)), (cell_ne (b := wr.heap.size) (j := 4) (cell_ne (b := wr.heap.size) (j := 3) (cell_ne (b := wr.heap.size) (j := 2) (cell_at _ wr.heap.size 1 (.int .i64 (aim x (cnt c.list nt : Nat)).a) (cell_ne (b := wr.heap.size) (j := 0) u1 (by omega) (.int .i64 (aim x (cnt c.list nt : Nat)).op))) (by omega) (.int .i64 (aim x (cnt c.list nt : Nat)).b)) (by omega) (.int .i64 (aim x (cnt c.list nt : Nat)).c)) (by omega) (.int .i64 (aim x (cnt c.list nt : Nat)).d)), (cell_ne (b := wr.heap.size) (j := 4) (cell_ne (b := wr.heap.size) (j := 3) (cell_at _ wr.heap.size 2 (.int .i64 (aim x (cnt c.list nt : Nat)).b) (cell_ne (b := wr.heap.size) (j := 1) (cell_ne (b := wr.heap.size) (j := 0) u2 (by omega) (.int .i64 (aim x (cnt c.list nt : Nat)).op)) (by omega) (.int .i64 (aim x (cnt c.list nt : Nat)).a))) (by omega) (.int .i64 (aim x (cnt c.list nt : Nat)).c)) (by omega) (.int .i64 (aim x (cnt c.list nt : Nat)).d)), (cell_ne (b := wr.heap.size) (j := 4) (cell_at _ wr.heap.size 3 (.int .i64 (aim x (cnt c.list nt : Nat)).c) (cell_ne (b := wr.heap.size) (j := 2) (cell_ne (b := wr.heap.size) (j := 1) (cell_ne (b := wr.heap.size) (j := 0) u3 (by omega) (.int .i64 (aim x (cnt c.list nt : Nat)).op)) (by omega) (.int .i64 (aim x (cnt c.list nt : Nat)).a)) (by omega) (.int .i64 (aim x (cnt c.list nt : Nat)).b))) (by omega) (.int .i64 (aim x (cnt c.list nt : Nat)).d)), (cell_at _ wr.heap.size 4 (.int .i64 (aim x (cnt c.list nt : Nat)).d) (cell_ne (b := wr.heap.size) (j := 3) (cell_ne (b := wr.heap.size) (j := 2) (cell_ne (b := wr.heap.size) (j := 1) (cell_ne (b := wr.heap.size) (j := 0) u4 (by omega) (.int .i64 (aim x (cnt c.list nt : Nat)).op)) (by omega) (.int .i64 (aim x (cnt c.list nt : Nat)).a)) (by omega) (.int .i64 (aim x (cnt c.list nt : Nat)).b)) (by omega) (.int .i64 (aim x (cnt c.list nt : Nat)).c))), ((((((Chg.of_below (S := fun q => q = wr.heap.size) v7).setCell wr.heap.size 0 (.int .i64 (aim x (cnt c.list nt : Nat)).op) (fun _ => rfl)).setCell wr.heap.size 1 (.int .i64 (aim x (cnt c.list nt : Nat)).a) (fun _ => rfl)).setCell wr.heap.size 2 (.int .i64 (aim x (cnt c.list nt : Nat)).b) (fun _ => rfl)).setCell wr.heap.size 3 (.int .i64 (aim x (cnt c.list nt : Nat)).c) (fun _ => rfl)).setCell wr.heap.size 4 (.int .i64 (aim x (cnt c.list nt : Nat)).d) (fun _ => rfl))⟩)
              obtain ⟨w8, rfl⟩ : ∃ W, W = wc := ⟨_, rfl⟩
              obtain ⟨d0, d1, d2, d3, d4, hc8⟩ := hcut
              have B8 := B6.trans (hc8.below w4.heap.size B6.size (fun q hq h => by omega))
              have o8 := own_keep o6 hc8 (fun q h h2 => by have := iv q h; omega)
              have hz8 := hc8.size
              have k8 := lt_of_cell d0
              clear hc8 B6 o6 D
              go_wp2_with (at_builtin; refine wpList_ap tInstrs rfl _ _ rfl w4.heap.size _ (cnt c.list k) _ rfl o8 [.int .i64 (aim x (cnt c.list nt : Nat)).op, .int .i64 (aim x (cnt c.list nt : Nat)).a, .int .i64 (aim x (cnt c.list nt : Nat)).b, .int .i64 (aim x (cnt c.list nt : Nat)).c, .int .i64 (aim x (cnt c.list nt : Nat)).d] rfl rfl (one_insc (aim x (cnt c.list nt : Nat))) (by omega) (by omega) ?_)
              intro g9 c9 wz o9 hc9 hg9
              have i9 := o8.lt
              have B9 := B8.trans (hc9.below w4.heap.size B8.size (fun q hq h => by have := i9 q h; omega))
              rw [show inss (fenceTo c.list k) ++ [Value.int .i64 (aim x (cnt c.list nt : Nat)).op, Value.int .i64 (aim x (cnt c.list nt : Nat)).a, Value.int .i64 (aim x (cnt c.list nt : Nat)).b, Value.int .i64 (aim x (cnt c.list nt : Nat)).c, Value.int .i64 (aim x (cnt c.list nt : Nat)).d] = inss (fenceTo c.list (k + 1)) from by rw [HMS.out, HFX.out, HNB.out]; simp [rows_append, rows]; rfl] at o9
              have hcn : cnt c.list k + 1 = cnt c.list (k + 1) := by rw [HCS.out, HNB.out]; simp
              have HCN := Lib.hid hcn; clear hcn
              clear hc9 hg9 o8 B8
              go_wp2
              go_roundw
              case rel => exact ⟨k + 1, by omega, by go_num, by rw [← HCN.out]; exact o9, B9⟩
              case measure => simp [intOf]; omega
            · have HFX : Hid (fx c.list x = x) := Lib.hid (by unfold fx; rw [if_neg ht])
              have ht2 : ¬ 0 ≤ tgt x := ht
              go_wp2_with (at_builtin; refine wpList_ap tInstrs rfl _ _ rfl w4.heap.size _ (cnt c.list k) _ rfl o6 [.int .i64 (x).op, .int .i64 (x).a, .int .i64 (x).b, .int .i64 (x).c, .int .i64 (x).d] rfl rfl (one_insc (x)) (by omega) (by omega) ?_)
              intro g9 c9 wz o9 hc9 hg9
              have i9 := o6.lt
              have B9 := B6.trans (hc9.below w4.heap.size B6.size (fun q hq h => by have := i9 q h; omega))
              rw [show inss (fenceTo c.list k) ++ [Value.int .i64 (x).op, Value.int .i64 (x).a, Value.int .i64 (x).b, Value.int .i64 (x).c, Value.int .i64 (x).d] = inss (fenceTo c.list (k + 1)) from by rw [HMS.out, HFX.out, HNB.out]; simp [rows_append, rows]; rfl] at o9
              have hcn : cnt c.list k + 1 = cnt c.list (k + 1) := by rw [HCS.out, HNB.out]; simp
              have HCN := Lib.hid hcn; clear hcn
              clear hc9 hg9 o6 B6
              go_wp2
              go_roundw
              case rel => exact ⟨k + 1, by omega, by go_num, by rw [← HCN.out]; exact o9, B9⟩
              case measure => simp [intOf]; omega
          | true =>
            have HNB := Lib.hid hnb; rw [hnb] at yN5; clear hnb
            go_wp2_with (at_builtin; refine wpList_ap tInstrs rfl _ _ rfl w4.heap.size _ (cnt c.list k) _ rfl o5 [.int .i64 12, .int .i64 0, .int .i64 0, .int .i64 0, .int .i64 0] rfl rfl (one_insc fence) (by omega) (by omega) ?_)
            intro g7 c7 wy o7 hc7 hg7
            replace d0 := chg_cell hc7 d0 (fun h => by have := iv _ h; omega); replace z0 := chg_froz hc7 (by omega) z0 (fun h => by have := iv _ h; omega)
            replace d1 := chg_cell hc7 d1 (fun h => by have := iv _ h; omega); replace z1 := chg_froz hc7 (by omega) z1 (fun h => by have := iv _ h; omega)
            replace d2 := chg_cell hc7 d2 (fun h => by have := iv _ h; omega); replace z2 := chg_froz hc7 (by omega) z2 (fun h => by have := iv _ h; omega)
            replace d3 := chg_cell hc7 d3 (fun h => by have := iv _ h; omega); replace z3 := chg_froz hc7 (by omega) z3 (fun h => by have := iv _ h; omega)
            replace d4 := chg_cell hc7 d4 (fun h => by have := iv _ h; omega); replace z4 := chg_froz hc7 (by omega) z4 (fun h => by have := iv _ h; omega)
            have B5 := hB.trans (hc7.below w4.heap.size hB.size (fun q hq h => by have := iv q h; omega))
            have hz7 := hc7.size
            rw [show inss (fenceTo c.list k) ++ [Value.int .i64 12, Value.int .i64 0, Value.int .i64 0, Value.int .i64 0, Value.int .i64 0] = inss (fenceTo c.list k ++ [fence]) from by rw [inss, inss, rows_append]; rfl] at o7
            have hg7n : ¬ g7 = wr.heap.size := fun e => by rcases hg7 with h | h; exact absurd (iv _ h).2 (by omega); omega
            have kd7 := lt_of_cell d0
            clear hc7 hB o5 hg7 yN5
            go_wp2_with fail
            refine (target_any x _).mono ?_
            rintro e w6 ⟨rfl, hb6⟩
            replace d0 := kept_cell hb6 d0; replace z0 := kept_froz hb6 (by omega) z0
            replace d1 := kept_cell hb6 d1; replace z1 := kept_froz hb6 (by omega) z1
            replace d2 := kept_cell hb6 d2; replace z2 := kept_froz hb6 (by omega) z2
            replace d3 := kept_cell hb6 d3; replace z3 := kept_froz hb6 (by omega) z3
            replace d4 := kept_cell hb6 d4; replace z4 := kept_froz hb6 (by omega) z4
            have B6 := btr B5 hb6
            have o6 := own_below o7 hb6
            have hz6 := hb6.size
            have i6 := o6.lt
            have k6 := lt_of_cell d0
            clear hb6 B5 o7
            by_cases ht : 0 ≤ tgt x
            · obtain ⟨t1, t2⟩ := HT.out ht
              obtain ⟨nt, hnt⟩ : ∃ nt : Nat, tgt x = nt := ⟨(tgt x).toNat, by omega⟩
              have HFX : Hid (fx c.list x = aim x (cnt c.list nt : Nat)) := Lib.hid (by unfold fx; rw [if_pos ht, hnt, Int.toNat_natCast])
              rw [hnt] at t1 ⊢
              have hnt2 : nt < c.list.length := by omega
              have hq : (nt : Int) < (c.list.length : Int) := by omega
              have hq0 : (0 : Int) ≤ (nt : Int) := by omega
              have yP := (own_below oP2 B6).cellAt nt (by omega)
              rw [ints_at _ _ (by rw [places_len]; exact hnt2), places_get] at yP
              have kP := lt_of_cell yP
              have HT2 := Lib.hid t2
              clear t1 t2 ht hnt
              go_upto_region 23 with (fail)
              have D := Below.drew (bself w6)
              go_cut [84] (fun _ wx => wx.cell? ⟨wr.heap.size, 0, none⟩ = some (.int .i64 (aim x (cnt c.list nt : Nat)).op) ∧ wx.cell? ⟨wr.heap.size, 1, none⟩ = some (.int .i64 (aim x (cnt c.list nt : Nat)).a) ∧ wx.cell? ⟨wr.heap.size, 2, none⟩ = some (.int .i64 (aim x (cnt c.list nt : Nat)).b) ∧ wx.cell? ⟨wr.heap.size, 3, none⟩ = some (.int .i64 (aim x (cnt c.list nt : Nat)).c) ∧ wx.cell? ⟨wr.heap.size, 4, none⟩ = some (.int .i64 (aim x (cnt c.list nt : Nat)).d) ∧ Chg (fun q => q = wr.heap.size) w6 wx)
              case first =>
                go_region_with (go_at_call 103; refine (to_any x _ _ HT2.out).mono ?_; rintro e w7 ⟨rfl, b7⟩; have v7 := btr D b7; have u0 := kept_cell v7 d0; have u1 := kept_cell v7 d1; have u2 := kept_cell v7 d2; have u3 := kept_cell v7 d3; have u4 := kept_cell v7 d4; have r0 := kept_froz v7 k6 z0; have r1 := kept_froz v7 k6 z1; have r2 := kept_froz v7 k6 z2; have r3 := kept_froz v7 k6 z3; have r4 := kept_froz v7 k6 z4; have k7 := lt_of_cell u0)
                all_goals (go_wp2_with fail; go_meet; exact ⟨(cell_ne (b := wr.heap.size) (j := 4) (cell_ne (b := wr.heap.size) (j := 3) (cell_ne (b := wr.heap.size) (j := 2) (cell_ne (b := wr.heap.size) (j := 1) (cell_at _ wr.heap.size 0 (.int .i64 (aim x (cnt c.list nt : Nat)).op) u0) (by omega) (.int .i64 (aim x (cnt c.list nt : Nat)).a)) (by omega) (.int .i64 (aim x (cnt c.list nt : Nat)).b)) (by omega) (.int .i64 (aim x (cnt c.list nt : Nat)).c)) (by omega) (.int .i64 (aim x (cnt c.list nt : Nat)).d)), (cell_ne (b := wr.heap.size) (j := 4) (cell_ne (b := wr.heap.size) (j := 3) (cell_ne (b := wr.heap.size) (j := 2) (cell_at _ wr.heap.size 1 (.int .i64 (aim x (cnt c.list nt : Nat)).a) (cell_ne (b := wr.heap.size) (j := 0) u1 (by omega) (.int .i64 (aim x (cnt c.list nt : Nat)).op))) (by omega) (.int .i64 (aim x (cnt c.list nt : Nat)).b)) (by omega) (.int .i64 (aim x (cnt c.list nt : Nat)).c)) (by omega) (.int .i64 (aim x (cnt c.list nt : Nat)).d)), (cell_ne (b := wr.heap.size) (j := 4) (cell_ne (b := wr.heap.size) (j := 3) (cell_at _ wr.heap.size 2 (.int .i64 (aim x (cnt c.list nt : Nat)).b) (cell_ne (b := wr.heap.size) (j := 1) (cell_ne (b := wr.heap.size) (j := 0) u2 (by omega) (.int .i64 (aim x (cnt c.list nt : Nat)).op)) (by omega) (.int .i64 (aim x (cnt c.list nt : Nat)).a))) (by omega) (.int .i64 (aim x (cnt c.list nt : Nat)).c)) (by omega) (.int .i64 (aim x (cnt c.list nt : Nat)).d)), (cell_ne (b := wr.heap.size) (j := 4) (cell_at _ wr.heap.size 3 (.int .i64 (aim x (cnt c.list nt : Nat)).c) (cell_ne (b := wr.heap.size) (j := 2) (cell_ne (b := wr.heap.size) (j := 1) (cell_ne (b := wr.heap.size) (j := 0) u3 (by omega) (.int .i64 (aim x (cnt c.list nt : Nat)).op)) (by omega) (.int .i64 (aim x (cnt c.list nt : Nat)).a)) (by omega) (.int .i64 (aim x (cnt c.list nt : Nat)).b))) (by omega) (.int .i64 (aim x (cnt c.list nt : Nat)).d)), (cell_at _ wr.heap.size 4 (.int .i64 (aim x (cnt c.list nt : Nat)).d) (cell_ne (b := wr.heap.size) (j := 3) (cell_ne (b := wr.heap.size) (j := 2) (cell_ne (b := wr.heap.size) (j := 1) (cell_ne (b := wr.heap.size) (j := 0) u4 (by omega) (.int .i64 (aim x (cnt c.list nt : Nat)).op)) (by omega) (.int .i64 (aim x (cnt c.list nt : Nat)).a)) (by omega) (.int .i64 (aim x (cnt c.list nt : Nat)).b)) (by omega) (.int .i64 (aim x (cnt c.list nt : Nat)).c))), ((((((Chg.of_below (S := fun q => q = wr.heap.size) v7).setCell wr.heap.size 0 (.int .i64 (aim x (cnt c.list nt : Nat)).op) (fun _ => rfl)).setCell wr.heap.size 1 (.int .i64 (aim x (cnt c.list nt : Nat)).a) (fun _ => rfl)).setCell wr.heap.size 2 (.int .i64 (aim x (cnt c.list nt : Nat)).b) (fun _ => rfl)).setCell wr.heap.size 3 (.int .i64 (aim x (cnt c.list nt : Nat)).c) (fun _ => rfl)).setCell wr.heap.size 4 (.int .i64 (aim x (cnt c.list nt : Nat)).d) (fun _ => rfl))⟩)
              obtain ⟨w8, rfl⟩ : ∃ W, W = wc := ⟨_, rfl⟩
              obtain ⟨d0, d1, d2, d3, d4, hc8⟩ := hcut
              have B8 := B6.trans (hc8.below w4.heap.size B6.size (fun q hq h => by omega))
              have o8 := own_keep o6 hc8 (fun q h h2 => by have e : g7 = q := Option.some.inj h; omega)
              have hz8 := hc8.size
              have k8 := lt_of_cell d0
              clear hc8 B6 o6 D
              go_wp2_with (at_builtin; refine wpList_ap tInstrs rfl _ _ rfl w4.heap.size _ (cnt c.list k + 1) _ rfl o8 [.int .i64 (aim x (cnt c.list nt : Nat)).op, .int .i64 (aim x (cnt c.list nt : Nat)).a, .int .i64 (aim x (cnt c.list nt : Nat)).b, .int .i64 (aim x (cnt c.list nt : Nat)).c, .int .i64 (aim x (cnt c.list nt : Nat)).d] rfl rfl (one_insc (aim x (cnt c.list nt : Nat))) (by omega) (by omega) ?_)
              intro g9 c9 wz o9 hc9 hg9
              have i9 := o8.lt
              have B9 := B8.trans (hc9.below w4.heap.size B8.size (fun q hq h => by have := i9 q h; omega))
              rw [show inss (fenceTo c.list k ++ [fence]) ++ [Value.int .i64 (aim x (cnt c.list nt : Nat)).op, Value.int .i64 (aim x (cnt c.list nt : Nat)).a, Value.int .i64 (aim x (cnt c.list nt : Nat)).b, Value.int .i64 (aim x (cnt c.list nt : Nat)).c, Value.int .i64 (aim x (cnt c.list nt : Nat)).d] = inss (fenceTo c.list (k + 1)) from by rw [HMS.out, HFX.out, HNB.out]; simp [rows_append, rows]; rfl] at o9
              have hcn : cnt c.list k + 1 + 1 = cnt c.list (k + 1) := by rw [HCS.out, HNB.out]; simp
              have HCN := Lib.hid hcn; clear hcn
              clear hc9 hg9 o8 B8
              go_wp2
              go_roundw
              case rel => exact ⟨k + 1, by omega, by go_num, by rw [← HCN.out]; exact o9, B9⟩
              case measure => simp [intOf]; omega
            · have HFX : Hid (fx c.list x = x) := Lib.hid (by unfold fx; rw [if_neg ht])
              have ht2 : ¬ 0 ≤ tgt x := ht
              go_wp2_with (at_builtin; refine wpList_ap tInstrs rfl _ _ rfl w4.heap.size _ (cnt c.list k + 1) _ rfl o6 [.int .i64 (x).op, .int .i64 (x).a, .int .i64 (x).b, .int .i64 (x).c, .int .i64 (x).d] rfl rfl (one_insc (x)) (by omega) (by omega) ?_)
              intro g9 c9 wz o9 hc9 hg9
              have i9 := o6.lt
              have B9 := B6.trans (hc9.below w4.heap.size B6.size (fun q hq h => by have := i9 q h; omega))
              rw [show inss (fenceTo c.list k ++ [fence]) ++ [Value.int .i64 (x).op, Value.int .i64 (x).a, Value.int .i64 (x).b, Value.int .i64 (x).c, Value.int .i64 (x).d] = inss (fenceTo c.list (k + 1)) from by rw [HMS.out, HFX.out, HNB.out]; simp [rows_append, rows]; rfl] at o9
              have hcn : cnt c.list k + 1 + 1 = cnt c.list (k + 1) := by rw [HCS.out, HNB.out]; simp
              have HCN := Lib.hid hcn; clear hcn
              clear hc9 hg9 o6 B6
              go_wp2
              go_roundw
              case rel => exact ⟨k + 1, by omega, by go_num, by rw [← HCN.out]; exact o9, B9⟩
              case measure => simp [intOf]; omega
        · have e : k = c.list.length := by omega
          subst e
          obtain ⟨la, lc, rfl⟩ := own_shape ho
          have m0 := kept_cell hbel bx2
          have r0 := kept_cell hbel bx5
          have q0 := kept_froz hbel (lt_of_cell bx5) bf6
          have m1 := kept_cell hbel bx3
          have r1 := kept_cell hbel bx7
          have q1 := kept_froz hbel (lt_of_cell bx7) bf8
          have m2 := kept_cell hbel bx4
          have r2 := kept_cell hbel bx9
          have q2 := kept_froz hbel (lt_of_cell bx9) bf10
          have km := lt_of_cell m0
          go_wp2_with fail
          refine (with_any _ _ _ c _ _ _ _ (hr4.below hbel) (by omega) (by omega)).mono ?_
          rintro e w9 ⟨u0, u1, rfl, oa, ob, hab, hb9⟩
          obtain ⟨p0, t0, rfl⟩ := own_shape oa
          obtain ⟨p1, t1, rfl⟩ := own_shape ob
          have ol := own_below ho hb9
          have ia := oa.lt
          have ib := ob.lt
          have il := ho.lt
          have tt := btr (tot4.trans (hbel.mono tot4.size)) hb9
          replace r0 := kept_cell hb9 r0; replace q0 := kept_froz hb9 (by omega) q0
          replace r1 := kept_cell hb9 r1; replace q1 := kept_froz hb9 (by omega) q1
          replace r2 := kept_cell hb9 r2; replace q2 := kept_froz hb9 (by omega) q2
          have hz9 := hb9.size
          have k9 := lt_of_cell r0
          clear hb9 ho hbel oN2 oP2 hr4 HC4
          have x0 := (cell_ne (b := (w.heap.size + 1)) (j := 2) (cell_ne (b := (w.heap.size + 1)) (j := 1) (cell_at _ (w.heap.size + 1) 0 (.slice p0 c.vars.length t0) r0) (by omega) (.slice p1 c.arrays.length t1)) (by omega) (.slice la (cnt c.list c.list.length) lc))
          have x1 := (cell_ne (b := (w.heap.size + 1)) (j := 2) (cell_at _ (w.heap.size + 1) 1 (.slice p1 c.arrays.length t1) (cell_ne (b := (w.heap.size + 1)) (j := 0) r1 (by omega) (.slice p0 c.vars.length t0))) (by omega) (.slice la (cnt c.list c.list.length) lc))
          have x2 := (cell_at _ (w.heap.size + 1) 2 (.slice la (cnt c.list c.list.length) lc) (cell_ne (b := (w.heap.size + 1)) (j := 1) (cell_ne (b := (w.heap.size + 1)) (j := 0) r2 (by omega) (.slice p0 c.vars.length t0)) (by omega) (.slice p1 c.arrays.length t1)))
          have y0 := (own_set (own_set (own_set oa (w.heap.size + 1) 0 (fun h => by have := ia _ h; omega) (.slice p0 c.vars.length t0)) (w.heap.size + 1) 1 (fun h => by have := ia _ h; omega) (.slice p1 c.arrays.length t1)) (w.heap.size + 1) 2 (fun h => by have := ia _ h; omega) (.slice la (cnt c.list c.list.length) lc))
          have y1 := (own_set (own_set (own_set ob (w.heap.size + 1) 0 (fun h => by have := ib _ h; omega) (.slice p0 c.vars.length t0)) (w.heap.size + 1) 1 (fun h => by have := ib _ h; omega) (.slice p1 c.arrays.length t1)) (w.heap.size + 1) 2 (fun h => by have := ib _ h; omega) (.slice la (cnt c.list c.list.length) lc))
          have y2 := (own_set (own_set (own_set ol (w.heap.size + 1) 0 (fun h => by have := il _ h; omega) (.slice p0 c.vars.length t0)) (w.heap.size + 1) 1 (fun h => by have := il _ h; omega) (.slice p1 c.arrays.length t1)) (w.heap.size + 1) 2 (fun h => by have := il _ h; omega) (.slice la (cnt c.list c.list.length) lc))
          have tz := (bst (bst (bst tt (w.heap.size + 1) 0 (by omega) (.slice p0 c.vars.length t0)) (w.heap.size + 1) 1 (by omega) (.slice p1 c.arrays.length t1)) (w.heap.size + 1) 2 (by omega) (.slice la (cnt c.list c.list.length) lc))
          have hel := fenceTo_len c.list c.list.length (Nat.le_refl _)
          have HEL := Lib.hid hel; clear hel oa ob ol tt
          go_wp2
          exact bodyPost_ret (v := .tuple #[.agg #[.slice p0 c.vars.length t0, .slice p1 c.arrays.length t1, .slice la (cnt c.list c.list.length) lc], .bool true]) (by simp [results, Try.results45, go_sem, x0, x1, x2]) rfl (by rw [HR.out]; exact ⟨_, _, _, rfl, ⟨own_mono y0 (by omega), own_mono y1 (by omega), by show World.ownsRow _ _ _ _ _ (fenceTo c.list c.list.length).length (inss (fenceTo c.list c.list.length)); rw [HEL.out]; exact own_mono y2 (by omega), hab⟩, tz⟩)
end Go.Proofs.Ytkbbpnfhenoihaa
