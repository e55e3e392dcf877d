/-
  Parts of the proof of the law FnExactSpecRun.
-/
import Derived.Test.YtbglogjamfdmpaaVA
namespace Go.Proofs.Ytbglogjamfdmpaa
open Go.RowKit

theorem own_lit (w : World) (cs : Array Value) (n : Nat) (e : TypeId) (h : cs.size = n) (hn : n ≤ 65536) : (w.alloc (.cells cs e)).ownsRow w.heap.size e 1 (.slice (some ⟨w.heap.size, 0, none⟩) n n) n cs.toList :=
  World.ownsRow_lit (base := w.heap.size) (e := e) (size := 1) w cs n (Nat.le_refl _) (by unfold maxLen; omega) (by rw [h, Nat.mul_one])

theorem fields_any (x : Ins) (w : World) :
    Calls Try.prog 185 #[.agg #[.int .i64 x.op, .int .i64 x.a, .int .i64 x.b, .int .i64 x.c, .int .i64 x.d]] w fun e w' => ∃ g, e = .returned (.slice (some ⟨g, 0, none⟩) 4 4) ∧ w'.ownsRow w.heap.size 3 1 (.slice (some ⟨g, 0, none⟩) 4 4) 4 (ints (flds x)) ∧ Below w.heap.size w w' := by
  have ho := own_lit (w.alloc (.cells #[.int .i64 x.op, .int .i64 x.a, .int .i64 x.b, .int .i64 x.c, .int .i64 x.d] 92)) #[.int .i64 x.a, .int .i64 x.b, .int .i64 x.c, .int .i64 x.d] 4 3 rfl (by omega)
  simp only [World.size_alloc] at ho
  go_enter Try.func185, Try.ntmps185
  go_wp2
  go_ret
  exact ⟨_, rfl, own_mono ho (by omega), bal (bal (bself w) _) _⟩

theorem insOk_yes {nv na nl : Nat} {x : Ins} (hop : ¬ (x.op < 1 ∨ 13 < x.op)) (h : ∀ j (h1 : j < (shp x.op).length) (h2 : j < (flds x).length), fOk nv na nl (shp x.op)[j].toNat (flds x)[j] = true) : insOk nv na nl x = true := by
  unfold insOk
  rw [show wi x.op 1 13 = true from decide_eq_true (by omega), Bool.true_and, List.all_eq_true]
  intro p hp
  obtain ⟨j, hj, rfl⟩ := List.getElem_of_mem hp
  rw [List.length_zip] at hj
  rw [List.getElem_zip]
  exact h j (by omega) (by omega)
theorem insOk_no {nv na nl : Nat} {x : Ins} {j : Nat} (h1 : j < (shp x.op).length) (h2 : j < (flds x).length) (h : fOk nv na nl (shp x.op)[j].toNat (flds x)[j] = false) : insOk nv na nl x = false := by
  unfold insOk
  rw [Bool.and_eq_false_iff]
  refine Or.inr ?_
  rw [List.all_eq_false]
  refine ⟨((shp x.op).zip (flds x))[j]'(by rw [List.length_zip]; omega), List.getElem_mem _, ?_⟩
  rw [List.getElem_zip, h]
  simp
theorem str_get (L : List UInt8) (k : Nat) (_h : k < L.length) (h' : k < (ByteArray.mk L.toArray).size) : (ByteArray.mk L.toArray)[k]'h' = L[k] := by
  simp [ByteArray.getElem_eq_getElem_data]

set_option maxHeartbeats 1600000 in
theorem instrOk_any (a0 a1 a2 : Option Addr) (nv na nl c0 c1 c2 : Nat) (x : Ins) (w : World) (h0 : nv ≤ 9223372036854775807) (h1 : na ≤ 9223372036854775807) (h2 : nl ≤ 9223372036854775807) :
    Calls Try.prog 148 #[.agg #[.slice a0 nv c0, .slice a1 na c1, .slice a2 nl c2], .agg #[.int .i64 x.op, .int .i64 x.a, .int .i64 x.b, .int .i64 x.c, .int .i64 x.d]] w fun e w' => e = .returned (.bool (insOk nv na nl x)) ∧ Below w.heap.size w w' := by
  go_enter Try.func148, Try.ntmps148
  have hbx := bal (bal (bself w) (.cells #[.slice a0 nv c0, .slice a1 na c1, .slice a2 nl c2] 35)) (.cells #[.int .i64 x.op, .int .i64 x.a, .int .i64 x.b, .int .i64 x.c, .int .i64 x.d] 92)
  go_wp2_with fail
  refine (shape_any _ _).mono ?_
  rintro e w1 ⟨rfl, hb⟩
  have hz1 := hb.size
  simp only [World.size_alloc] at hz1
  have b0 : w1.cell? ⟨w.heap.size, 0, none⟩ = some (.slice a0 nv c0) := kept_cell hb (cell_al (cell_nw (by simp) (by rfl)) _)
  have b1 : w1.cell? ⟨w.heap.size, 1, none⟩ = some (.slice a1 na c1) := kept_cell hb (cell_al (cell_nw (by simp) (by rfl)) _)
  have b2 : w1.cell? ⟨w.heap.size, 2, none⟩ = some (.slice a2 nl c2) := kept_cell hb (cell_al (cell_nw (by simp) (by rfl)) _)
  have d0 : w1.cell? ⟨w.heap.size + 1, 0, none⟩ = some (.int .i64 x.op) := kept_cell hb (cell_nw (by simp) (by rfl))
  have d1 : w1.cell? ⟨w.heap.size + 1, 1, none⟩ = some (.int .i64 x.a) := kept_cell hb (cell_nw (by simp) (by rfl))
  have d2 : w1.cell? ⟨w.heap.size + 1, 2, none⟩ = some (.int .i64 x.b) := kept_cell hb (cell_nw (by simp) (by rfl))
  have d3 : w1.cell? ⟨w.heap.size + 1, 3, none⟩ = some (.int .i64 x.c) := kept_cell hb (cell_nw (by simp) (by rfl))
  have d4 : w1.cell? ⟨w.heap.size + 1, 4, none⟩ = some (.int .i64 x.d) := kept_cell hb (cell_nw (by simp) (by rfl))
  replace hbx := btr hbx hb
  clear hb
  go_wp2_with fail
  refine (fields_any x _).mono ?_
  rintro e w2 ⟨g, rfl, ho, hb⟩
  replace b0 := kept_cell hb b0
  replace b1 := kept_cell hb b1
  replace b2 := kept_cell hb b2
  replace hbx := btr hbx hb
  clear hb d0 d1 d2 d3 d4
  go_wp2_with fail
  by_cases hop : x.op < 1 ∨ 13 < x.op
  · rw [shp_none hop]
    have HF : Hid (insOk nv na nl x = false) := Lib.hid (by unfold insOk; rw [show wi x.op 1 13 = false from decide_eq_false (by omega)]; rfl)
    have hc := ho.cellAt 0 (by omega)
    simp [ints, flds] at hc
    clear hop ho
    refine wp_loop_rounds 1 ?_
    rw [rounds_succ]
    go_wp2_with fail
    go_quiet (fail)
    go_wp2
    go_ret
    exact ⟨ret_bool HF.out.symm, below_drewN hbx _⟩
  · have hl := shp_len hop
    obtain ⟨S, hS⟩ : ∃ S : ByteArray, S = ⟨(shp x.op).toArray⟩ := ⟨_, rfl⟩
    rw [← hS]
    have hne : (S.toList == []) = false := by
      rw [hS, ByteArray.toList_mk]
      cases h : shp x.op with
      | nil => rw [h] at hl; simp at hl
      | cons a l => rfl
    have hs4 : (4 : Int) ≤ S.size := by rw [hS]; simp [ByteArray.size, hl]
    have HG : Hid (∀ (k : Nat) (h : k < (shp x.op).length) (h' : k < S.size), S[k]'h' = (shp x.op)[k]) := Lib.hid (by subst hS; exact str_get _)
    have HP := Lib.hid hop
    have HL := Lib.hid hl
    clear hop hl hS
    go_loopw [14] (fun i wr => ∃ k : Nat, k ≤ 4 ∧ i = .int .i64 k ∧ (∀ j (h1 : j < (shp x.op).length) (h2 : j < (flds x).length), j < k → fOk nv na nl (shp x.op)[j].toNat (flds x)[j] = true) ∧ Below w2.heap.size w2 wr) (fun i _ => 4 - (intOf i).toNat)
    case atStart => exact ⟨0, by omega, rfl, fun j _ _ h => absurd h (by omega), bself w2⟩
    case round =>
      obtain ⟨k, hk, rfl, hall, hbel⟩ := hrel
      have HA := Lib.hid hall; clear hall
      have hb0 := kept_cell hbel b0
      have hb1 := kept_cell hbel b1
      have hb2 := kept_cell hbel b2
      have hbw := btr hbx hbel
      by_cases hlt : k < 4
      · have hc := (own_below ho hbel).cellAt k (by omega)
        rw [List.getElem?_eq_getElem (by simpa [ints, flds] using hlt), ints_get] at hc
        have hk2 : (k : Int) < S.size := by omega
        generalize hfx : (flds x)[k]'(by simpa [flds] using hlt) = f at hc
        have HX := Lib.hid hfx; clear hfx
        have hbx' := hbx
        clear b0 b1 b2 ho hbx
        go_upto_region 5 with (fail)
        have D := Below.drew (bself wr)
        go_cut [29] (fun s wx => s = .bool (!(fOk nv na nl ((shp x.op)[k]'(by rw [HL.out]; exact hlt)).toNat f)) ∧ Below wr.heap.size wr wx)
        case first =>
          go_region_with (go_at_call 186; refine (fieldOk_any a0 a1 a2 nv na nl c0 c1 c2 _ f _ h0 h1 h2).mono ?_; rintro e wb ⟨rfl, bb⟩)
          all_goals (go_wp2_with fail; go_meet; exact ⟨by rw [HG.out k (by rw [HL.out]; exact hlt) _], btr D bb⟩)
        obtain ⟨W5, rfl⟩ : ∃ W, W = wc := ⟨_, rfl⟩
        obtain ⟨rfl, hbc⟩ := hcut
        have hbe := btr hbel hbc
        have hbf := btr hbx' hbe
        cases hok : fOk nv na nl ((shp x.op)[k]'(by rw [HL.out]; exact hlt)).toNat f with
        | true =>
          have HO := Lib.hid hok; clear hok D hbc hbel hbw
          go_wp2
          go_roundw
          case rel =>
            refine ⟨k + 1, by omega, by go_num, ?_, hbe⟩
            intro j h1 h2 hj
            by_cases e : j = k
            · subst e; rw [HX.out]; exact HO.out
            · exact HA.out j h1 h2 (by omega)
          case measure => simp [intOf]; omega
        | false =>
          have HO := Lib.hid hok; clear hok D hbc hbel hbw
          go_wp2
          go_ret
          exact ⟨ret_bool (insOk_no (by rw [HL.out]; exact hlt) (by simpa [flds] using hlt) (by rw [HX.out]; exact HO.out)).symm, hbf⟩
      · go_wp2
        go_ret
        exact ⟨ret_bool (insOk_yes HP.out (fun j h1 h2 => HA.out j h1 h2 (by have := HL.out; omega))).symm, hbw⟩
end Go.Proofs.Ytbglogjamfdmpaa
