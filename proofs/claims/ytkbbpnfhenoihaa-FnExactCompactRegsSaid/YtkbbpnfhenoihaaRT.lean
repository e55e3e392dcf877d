/-
  The registers of code put in the places of their numbers: the program's walk.
-/
import Derived.Test.YtkbbpnfhenoihaaER
import Derived.Test.YtkbbpnfhenoihaaRG
import Derived.Test.YtkbbpnfhenoihaaRN
namespace Go.Proofs.Ytkbbpnfhenoihaa
open Go.RowKit

theorem intsP_set (xs : List Int) (k : Nat) (v : Int) : (ints xs).set k (.int .i64 v) = ints (xs.set k v) := by simp [ints, List.map_set]
/-- a field, renumbered if it is a register -/
def fldC (O : List Int) (p : UInt8 × Int) : Int := if p.1 = 114 then idxI O p.2 else p.2
def cmpF (O : List Int) (x : Ins) : List Int := ((shp x.op).zip (flds x)).map (fldC O)
def cmpI (O : List Int) (x : Ins) : Ins := ⟨x.op, (cmpF O x).getD 0 0, (cmpF O x).getD 1 0, (cmpF O x).getD 2 0, (cmpF O x).getD 3 0⟩
theorem cmpF_len {x : Ins} (O : List Int) (h : (shp x.op).length = 4) : (cmpF O x).length = 4 := by unfold cmpF; rw [List.length_map, List.length_zip, h]; rfl
theorem cmpF_get {x : Ins} (O : List Int) (k : Nat) (h1 : k < (shp x.op).length) (h2 : k < (flds x).length) (h3 : k < (cmpF O x).length) : (cmpF O x)[k] = if (shp x.op)[k] = 114 then idxI O (flds x)[k] else (flds x)[k] := by
  simp [cmpF, fldC]
theorem cmpI_flds {x : Ins} (O : List Int) (h : (shp x.op).length = 4) : flds (cmpI O x) = cmpF O x := by
  have hl := cmpF_len O h
  match hq : cmpF O x, hl with
  | [a, b, c, d], _ => simp [flds, cmpI, hq]
/-- the first k fields renumbered -/
def mixF (O : List Int) (x : Ins) (k : Nat) : List Int := (cmpF O x).take k ++ (flds x).drop k
theorem mixF_set {x : Ins} (O : List Int) (h : (shp x.op).length = 4) (k : Nat) (hk : k < 4) (v : Int) (hv : v = (cmpF O x)[k]'(by rw [cmpF_len O h]; exact hk)) : (mixF O x k).set k v = mixF O x (k + 1) := by
  have hl := cmpF_len O h
  subst hv
  unfold mixF
  rw [set_dropped _ (flds x) _ k (by rw [List.length_take, hl]; omega) (by simpa [flds] using hk), List.take_succ_eq_append_getElem (by rw [hl]; exact hk)]
theorem mixF_at {x : Ins} (O : List Int) (h : (shp x.op).length = 4) (k : Nat) (hk : k < 4) : (mixF O x k)[k]? = some ((flds x)[k]'(by simpa [flds] using hk)) := by
  have hl := cmpF_len O h
  unfold mixF
  rw [List.getElem?_append_right (by rw [List.length_take, hl]; omega), List.length_take, hl, Nat.min_eq_left (by omega), Nat.sub_self, List.getElem?_drop, Nat.add_zero, List.getElem?_eq_getElem (by simpa [flds] using hk)]
theorem mixF_same {x : Ins} (O : List Int) (h : (shp x.op).length = 4) (k : Nat) (hk : k < 4) (hv : (flds x)[k]'(by simpa [flds] using hk) = (cmpF O x)[k]'(by rw [cmpF_len O h]; exact hk)) : mixF O x k = mixF O x (k + 1) := by
  rw [← mixF_set O h k hk _ hv]
  have hl := cmpF_len O h
  have hlen : k < (mixF O x k).length := by unfold mixF; simp [hl, flds]; omega
  have h2 := mixF_at O h k hk
  rw [List.getElem?_eq_getElem hlen] at h2
  have h3 := Option.some.inj h2
  rw [← h3, List.set_getElem_self]
theorem mixF_len {x : Ins} (O : List Int) (h : (shp x.op).length = 4) (k : Nat) (hk : k ≤ 4) : (mixF O x k).length = 4 := by
  have hl := cmpF_len O h
  unfold mixF; simp [hl, flds]; omega
theorem mixF_4 {x : Ins} (O : List Int) (h : (shp x.op).length = 4) : mixF O x 4 = flds (cmpI O x) := by
  rw [cmpI_flds O h]
  unfold mixF
  rw [List.take_of_length_le (by rw [cmpF_len O h]; exact Nat.le_refl _), List.drop_of_length_le (by simp [flds]), List.append_nil]

theorem idxS_any (r : Int) (B : Nat) (v : Value) (O : List Int) (w : World) (hc : w.cell? ⟨B, 0, none⟩ = some v) (ho : Reads w 1 v O.length (ints O)) :
    Calls Try.prog 98 #[.int .i64 r, .pointer (some ⟨B, 0, none⟩)] w fun e w' => e = .returned (.int .i64 (idxI O r)) ∧ w' = w := by
  obtain ⟨a, c, rfl⟩ := reads_shape ho
  have kB := lt_of_cell hc
  go_enter Try.func98, Try.ntmps98
  go_wp2_with fail
  refine (indexI_any _ O r _ ho).mono ?_
  rintro e w1 ⟨rfl, rfl⟩
  clear ho
  go_wp2
  go_ret
  exact ⟨rfl, rfl⟩

set_option maxHeartbeats 12800000 in
set_option maxRecDepth 100000 in
theorem regsC_any (va vb vc : Value) (c : Cd) (B : Nat) (vo : Value) (O : List Int) (w : World) (hr : ReadsC w va vb vc c) (hok : codeOk c = true) (hB : w.cell? ⟨B, 0, none⟩ = some vo) (hO : Reads w 1 vo O.length (ints O)) :
    Calls Try.prog 97 #[.agg #[va, vb, vc], .func (.func 98) #[] #[.pointer (some ⟨B, 0, none⟩)]] w fun e w' => ∃ ua ub uc, e = .returned (.agg #[ua, ub, uc]) ∧ OwnC w' w.heap.size ua ub uc ⟨c.vars, c.arrays, c.list.map (cmpI O)⟩ ∧ Below w.heap.size w w' := by
  obtain ⟨a0, c0, a1, c1, a2, c2, rfl, rfl, rfl⟩ := hr.shape
  have kB := lt_of_cell hB
  obtain ⟨hl1, hl2⟩ := codeOk_len hok
  obtain ⟨hd1, hd2⟩ := declOk_len (codeOk_decl hok)
  have hall := codeOk_all hok
  have HALL := Lib.hid hall
  clear hall
  obtain ⟨w1, hw1⟩ : ∃ X, X = (w.alloc (.cells #[.slice a0 c.vars.length c0, .slice a1 c.arrays.length c1, .slice a2 c.list.length c2] 50)).alloc (.cells #[.slice none 0 0, .slice none 0 0, .slice none 0 0] 50) := ⟨_, rfl⟩
  have hb1 : Below w.heap.size w w1 := by rw [hw1]; exact bal (bal (bself w) _) _
  have hz1 : w1.heap.size = w.heap.size + 1 + 1 := by rw [hw1]; simp
  have b0 : w1.cell? ⟨w.heap.size, 0, none⟩ = some (.slice a0 c.vars.length c0) := by rw [hw1]; exact cell_al (cell_nw rfl rfl) _
  have b1 : w1.cell? ⟨w.heap.size, 1, none⟩ = some (.slice a1 c.arrays.length c1) := by rw [hw1]; exact cell_al (cell_nw rfl rfl) _
  have b2 : w1.cell? ⟨w.heap.size, 2, none⟩ = some (.slice a2 c.list.length c2) := by rw [hw1]; exact cell_al (cell_nw rfl rfl) _
  have r0 : w1.cell? ⟨w.heap.size + 1, 0, none⟩ = some (.slice none 0 0) := by rw [hw1]; exact cell_nw (by simp) rfl
  have r1 : w1.cell? ⟨w.heap.size + 1, 1, none⟩ = some (.slice none 0 0) := by rw [hw1]; exact cell_nw (by simp) rfl
  have r2 : w1.cell? ⟨w.heap.size + 1, 2, none⟩ = some (.slice none 0 0) := by rw [hw1]; exact cell_nw (by simp) rfl
  have rf : ∀ j, w1.frozen? ⟨w.heap.size + 1, j, none⟩ = false := fun j => by rw [hw1]; exact froz_nw (by simp)
  have k2 := lt_of_cell b2
  have HW := Lib.hid hw1
  have HZ := Lib.hid hz1
  have hz1' : w.heap.size + 2 ≤ w1.heap.size := by omega
  have HRF := Lib.hid rf
  clear hw1 hz1 rf
  have HO := Lib.hid (own_any _ _ _ c w1 (hr.below hb1) (by omega) (by omega) (by omega))
  clear hr
  go_enter Try.func97, Try.ntmps97
  go_upto_region 1 with (fail)
  rw [← HW.out]
  clear HW
  go_wp2_with fail
  refine HO.out.mono ?_
  rintro e w2 ⟨u0, u1, u2, rfl, oc, hb⟩
  have hz2 := hb.size
  obtain ⟨gL, cL, hgv⟩ := own_pos oc.l (by omega)
  obtain ⟨p0, q0, hpv⟩ := own_shape oc.a
  obtain ⟨p1, q1, hqv⟩ := own_shape oc.b
  subst hgv hpv hqv
  have hgL := oc.l.lt gL rfl
  have oca := oc.a
  have ocb := oc.b
  have ocab := oc.ab
  have hal := own_diff oc.a oc.l (by decide)
  have hbl := own_diff oc.b oc.l (by decide)
  obtain ⟨w3, hw3⟩ : ∃ X, X = w2.alloc (.cells #[.slice p0 c.vars.length q0, .slice p1 c.arrays.length q1, .slice (some ⟨gL, 0, none⟩) c.list.length cL] 50) := ⟨_, rfl⟩
  have hb3 : Below w1.heap.size w1 w3 := by rw [hw3]; exact bal hb _
  have hz3 : w3.heap.size = w2.heap.size + 1 := by rw [hw3]; simp
  have oL : w3.ownsRow w1.heap.size 98 5 (.slice (some ⟨gL, 0, none⟩) c.list.length cL) c.list.length (inss c.list) := by rw [hw3]; exact own_below oc.l (bal (bself w2) _)
  have oA : w3.ownsRow w1.heap.size 3 1 (.slice p0 c.vars.length q0) c.vars.length (ints c.vars) := by rw [hw3]; exact own_below oca (bal (bself w2) _)
  have oB : w3.ownsRow w1.heap.size 3 1 (.slice p1 c.arrays.length q1) c.arrays.length (ints c.arrays) := by rw [hw3]; exact own_below ocb (bal (bself w2) _)
  clear oca ocb
  have m0 : w3.cell? ⟨w2.heap.size, 0, none⟩ = some (.slice p0 c.vars.length q0) := by rw [hw3]; exact cell_nw rfl rfl
  have m1 : w3.cell? ⟨w2.heap.size, 1, none⟩ = some (.slice p1 c.arrays.length q1) := by rw [hw3]; exact cell_nw rfl rfl
  have m2 : w3.cell? ⟨w2.heap.size, 2, none⟩ = some (.slice (some ⟨gL, 0, none⟩) c.list.length cL) := by rw [hw3]; exact cell_nw rfl rfl
  have HW3 := Lib.hid hw3
  have hz3' : w2.heap.size < w3.heap.size := by omega
  clear hw3 hz3 hb
  replace r0 := kept_cell hb3 r0; replace r1 := kept_cell hb3 r1; replace r2 := kept_cell hb3 r2
  have HRF3 := Lib.hid (fun j => kept_froz hb3 (by omega) (HRF.out j))
  have bB := kept_cell (btr hb1 hb3) hB
  have hOr := hO.below (btr hb1 hb3)
  have tot := btr hb1 hb3
  clear b0 b1 b2 k2 HO HRF hB oc hb3 hb1
  go_upto_region 2 with (fail)
  rw [← HW3.out]
  clear HW3
  have k2 := lt_of_cell m2
  go_wp2_with fail
  go_loopw [15] (fun t wr => ∃ i : Nat, i ≤ c.list.length ∧ t = .int .i64 i ∧ wr.ownsRow w1.heap.size 98 5 (.slice (some ⟨gL, 0, none⟩) c.list.length cL) c.list.length (inss ((c.list.take i).map (cmpI O) ++ c.list.drop i)) ∧ Chg (fun q => q = gL) w3 wr) (fun t _ => c.list.length - (intOf t).toNat)
  case atStart => exact ⟨0, Nat.zero_le _, rfl, by simpa using oL, Chg.refl _ _⟩
  case round =>
    obtain ⟨i, hi, rfl, hro, hC⟩ := hrel
    obtain ⟨wO, rfl⟩ : ∃ X, X = wr := ⟨_, rfl⟩
    have hzr := hC.size
    clear oL
    have n2 := chg_cell hC m2 (by omega)
    have kn := lt_of_cell n2
    by_cases hlt : i < c.list.length
    · have hl2' : i < ((c.list.take i).map (cmpI O) ++ c.list.drop i).length := by simp; omega
      obtain ⟨x, HX, d0, d1, d2, d3, d4⟩ : ∃ x : Ins, Hid (x = c.list[i]) ∧ wO.cell? ⟨gL, i * 5, none⟩ = some (.int .i64 x.op) ∧ wO.cell? ⟨gL, i * 5 + 1, none⟩ = some (.int .i64 x.a) ∧ wO.cell? ⟨gL, i * 5 + 2, none⟩ = some (.int .i64 x.b) ∧ wO.cell? ⟨gL, i * 5 + 3, none⟩ = some (.int .i64 x.c) ∧ wO.cell? ⟨gL, i * 5 + 4, none⟩ = some (.int .i64 x.d) := ⟨c.list[i], Lib.hid rfl, by rw [← map_get (f := cmpI O) c.list i hlt hl2']; exact own_row insc_len hro i hl2' 0 (by omega), by rw [← map_get (f := cmpI O) c.list i hlt hl2']; exact own_row insc_len hro i hl2' 1 (by omega), by rw [← map_get (f := cmpI O) c.list i hlt hl2']; exact own_row insc_len hro i hl2' 2 (by omega), by rw [← map_get (f := cmpI O) c.list i hlt hl2']; exact own_row insc_len hro i hl2' 3 (by omega), by rw [← map_get (f := cmpI O) c.list i hlt hl2']; exact own_row insc_len hro i hl2' 4 (by omega)⟩
      have hop := insOk_op (HALL.out i hlt)
      rw [← HX.out] at hop
      have hsl : (shp x.op).length = 4 := shp_len (by omega)
      have HSL := Lib.hid hsl
      clear hsl
      have kg := lt_of_cell d0
      obtain ⟨wx, hwx⟩ : ∃ X, X = wO.alloc (.cells #[.int .i64 x.op, .int .i64 x.a, .int .i64 x.b, .int .i64 x.c, .int .i64 x.d] 98) := ⟨_, rfl⟩
      have hbx : Below wO.heap.size wO wx := by rw [hwx]; exact bal (bself wO) _
      have hzx : wO.heap.size < wx.heap.size := by rw [hwx]; simp
      have x0 : wx.cell? ⟨wO.heap.size, 0, none⟩ = some (.int .i64 x.op) := by rw [hwx]; exact cell_nw rfl rfl
      have x1 : wx.cell? ⟨wO.heap.size, 1, none⟩ = some (.int .i64 x.a) := by rw [hwx]; exact cell_nw rfl rfl
      have x2 : wx.cell? ⟨wO.heap.size, 2, none⟩ = some (.int .i64 x.b) := by rw [hwx]; exact cell_nw rfl rfl
      have x3 : wx.cell? ⟨wO.heap.size, 3, none⟩ = some (.int .i64 x.c) := by rw [hwx]; exact cell_nw rfl rfl
      have x4 : wx.cell? ⟨wO.heap.size, 4, none⟩ = some (.int .i64 x.d) := by rw [hwx]; exact cell_nw rfl rfl
      have HWX := Lib.hid hwx
      clear hwx
      go_upto_region 5 with (fail)
      rw [← HWX.out]
      clear HWX
      go_wp2_with fail
      refine (fields_any x _).mono ?_
      rintro e w5 ⟨gF, rfl, oF, hb5⟩
      have hz5 := hb5.size
      have hgF := oF.lt gF rfl
      replace x0 := kept_cell hb5 x0; replace x1 := kept_cell hb5 x1; replace x2 := kept_cell hb5 x2; replace x3 := kept_cell hb5 x3; replace x4 := kept_cell hb5 x4
      have hb6 := btr hbx hb5
      have hO5 := (hOr.keep hC (fun b o cap h0 h e => by have h1 := reads_lt hO b o cap h0 h; omega)).below hb6
      have bB5 := kept_cell hb6 (chg_cell hC bB (by omega))
      replace hro := own_below hro hb6
      replace n2 := kept_cell hb6 n2
      have hC6 := hC.trans (Chg.of_below (S := fun q => q = gL) hb6)
      have oF0 : w5.ownsRow wx.heap.size 3 1 (.slice (some ⟨gF, 0, none⟩) 4 4) 4 (ints (mixF O x 0)) := by simpa [mixF] using oF
      clear d0 d1 d2 d3 d4 hb5 hbx hC oF
      go_wp2_with fail
      go_loopw [24] (fun t wy => ∃ k : Nat, k ≤ 4 ∧ t = .int .i64 k ∧ wy.ownsRow wx.heap.size 3 1 (.slice (some ⟨gF, 0, none⟩) 4 4) 4 (ints (mixF O x k)) ∧ Chg (fun q => q = gF) w5 wy) (fun t _ => 4 - (intOf t).toNat)
      case atStart => exact ⟨0, by omega, rfl, oF0, Chg.refl _ _⟩
      case round =>
        obtain ⟨k, hk, rfl, gF4, gC⟩ := hrel
        have hzy := gC.size
        clear oF0
        have y0 := chg_cell gC x0 (by omega)
        have ky := lt_of_cell y0
        by_cases hlk : k < 4
        · have hcl := gF4.cellAt k (by omega)
          have hff : k < (flds x).length := by simpa [flds] using hlk
          have hm := mixF_at O HSL.out k hlk
          have hml := mixF_len O HSL.out k hk
          obtain ⟨hmk, hme⟩ := List.getElem?_eq_some_iff.1 hm
          rw [List.getElem?_eq_getElem (by rw [ints_length]; exact hmk), ints_get, hme] at hcl
          have hks : k < (shp x.op).length := by rw [HSL.out]; exact hlk
          have hget := cmpF_get O k hks hff (by rw [cmpF_len O HSL.out]; exact hlk)
          have hset := fun v hv => mixF_set O HSL.out k hlk v hv
          have hsame := fun hv => mixF_same O HSL.out k hlk hv
          clear hm hme hmk hml
          rw [hget] at hset hsame
          clear hget
          go_wp2_with fail
          refine (shape_any x.op _).mono ?_
          rintro e w7 ⟨rfl, hb7⟩
          have hz7 := hb7.size
          obtain ⟨S, hS⟩ : ∃ S : ByteArray, S = ⟨(shp x.op).toArray⟩ := ⟨_, rfl⟩
          rw [← hS]
          have hZ : S.size = (shp x.op).length := by rw [hS]; simp [ByteArray.size]
          have hsz1 : k < S.size := by omega
          have hsz2 : (k : Int) < (S.size : Int) := by omega
          have hSk : ∀ h', S[k]'h' = (shp x.op)[k] := fun h' => by subst hS; exact str_get _ k hks h'
          clear hS hZ
          generalize (shp x.op)[k] = kd at *
          generalize (flds x)[k] = fd at *
          have HSU := Lib.hid hset
          have HSA := Lib.hid hsame
          clear hset hsame
          replace gF4 := own_below gF4 hb7
          replace hcl := kept_cell hb7 hcl
          have gC7 := gC.trans (Chg.of_below (S := fun q => q = gF) hb7)
          have bB7 := chg_cell gC7 bB5 (by omega)
          have hO7 := hO5.keep gC7 (fun b o cap h0 h e => by have h1 := reads_lt hO b o cap h0 h; omega)
          have kcl := lt_of_cell hcl
          have kgv := lt_of_cell bB7
          clear hb7 gC y0
          by_cases hkd : kd = 114
          · subst hkd
            go_wp2_with fail
            refine (idxS_any fd B vo O _ bB7 hO7).mono ?_
            rintro e w8 ⟨rfl, rfl⟩
            have hf8 := gF4.frozenAt k
            have gF9 := (gF4.stored k (.int .i64 (idxI O fd))).1
            rw [intsP_set, HSU.out _ (by simp)] at gF9
            have gC9 := gC7.setCell gF k (.int .i64 (idxI O fd)) (fun _ => rfl)
            clear gF4 gC7 HSU HSA
            go_wp2
            go_roundw
            case rel => exact ⟨k + 1, by omega, by go_num, gF9, gC9⟩
            case measure => simp [intOf]; omega
          · have hk1 : ((kd.toNat : Int) == 114) = false := by
              simp only [beq_eq_false_iff_ne, ne_eq]
              intro h
              exact hkd (UInt8.toNat_inj.1 (by simp; omega))
            rw [HSA.out (by simp [hkd])] at gF4
            clear hkd HSU HSA
            go_wp2
            go_roundw
            case rel => exact ⟨k + 1, by omega, by go_num, gF4, gC7⟩
            case measure => simp [intOf]; omega
        · have e : k = 4 := by omega
          subst e
          obtain ⟨wI, rfl⟩ : ∃ X, X = wr := ⟨_, rfl⟩
          rw [mixF_4 O HSL.out] at gF4
          have y1 := chg_cell gC x1 (by omega)
          have y2 := chg_cell gC x2 (by omega)
          have y3 := chg_cell gC x3 (by omega)
          have y4 := chg_cell gC x4 (by omega)
          have o2 := chg_cell gC n2 (by omega)
          have gro := own_keep hro gC (fun q hq h => by have e : gL = q := Option.some.inj hq; omega)
          have hopx : (cmpI O x).op = x.op := rfl
          have HOPX := Lib.hid hopx
          clear hopx
          have d0 : wI.cell? ⟨gL, i * 5, none⟩ = some (.int .i64 x.op) := by rw [HX.out, ← map_get (f := cmpI O) c.list i hlt hl2']; exact own_row insc_len gro i hl2' 0 (by omega)
          have d1 : wI.cell? ⟨gL, i * 5 + 1, none⟩ = some (.int .i64 x.a) := by rw [HX.out, ← map_get (f := cmpI O) c.list i hlt hl2']; exact own_row insc_len gro i hl2' 1 (by omega)
          have d2 : wI.cell? ⟨gL, i * 5 + 2, none⟩ = some (.int .i64 x.b) := by rw [HX.out, ← map_get (f := cmpI O) c.list i hlt hl2']; exact own_row insc_len gro i hl2' 2 (by omega)
          have d3 : wI.cell? ⟨gL, i * 5 + 3, none⟩ = some (.int .i64 x.c) := by rw [HX.out, ← map_get (f := cmpI O) c.list i hlt hl2']; exact own_row insc_len gro i hl2' 3 (by omega)
          have d4 : wI.cell? ⟨gL, i * 5 + 4, none⟩ = some (.int .i64 x.d) := by rw [HX.out, ← map_get (f := cmpI O) c.list i hlt hl2']; exact own_row insc_len gro i hl2' 4 (by omega)
          have l0 : wI.cell? ⟨gF, 0, none⟩ = some (.int .i64 (cmpI O x).a) := by
            have h := gF4.cellAt 0 (by omega)
            simpa [ints, flds] using h
          have l1 : wI.cell? ⟨gF, 1, none⟩ = some (.int .i64 (cmpI O x).b) := by
            have h := gF4.cellAt 1 (by omega)
            simpa [ints, flds] using h
          have l2 : wI.cell? ⟨gF, 2, none⟩ = some (.int .i64 (cmpI O x).c) := by
            have h := gF4.cellAt 2 (by omega)
            simpa [ints, flds] using h
          have l3 : wI.cell? ⟨gF, 3, none⟩ = some (.int .i64 (cmpI O x).d) := by
            have h := gF4.cellAt 3 (by omega)
            simpa [ints, flds] using h
          have f0 := gro.frozenAt (i * 5)
          have f1 := gro.frozenAt (i * 5 + 1)
          have f2 := gro.frozenAt (i * 5 + 2)
          have f3 := gro.frozenAt (i * 5 + 3)
          have f4 := gro.frozenAt (i * 5 + 4)
          have kd := lt_of_cell d0
          have HST : Hid (∀ W, Below wI.heap.size wI W → (((((W.setCell ⟨gL, i * 5, none⟩ (.int .i64 x.op)).setCell ⟨gL, i * 5 + 1, none⟩ (.int .i64 (cmpI O x).a)).setCell ⟨gL, i * 5 + 2, none⟩ (.int .i64 (cmpI O x).b)).setCell ⟨gL, i * 5 + 3, none⟩ (.int .i64 (cmpI O x).c)).setCell ⟨gL, i * 5 + 4, none⟩ (.int .i64 (cmpI O x).d)).ownsRow w1.heap.size 98 5 (.slice (some ⟨gL, 0, none⟩) c.list.length cL) c.list.length (inss ((c.list.take (i + 1)).map (cmpI O) ++ c.list.drop (i + 1)))) := Lib.hid (fun W h => by
            have h2 := own_set5 (own_below gro h) i hl2' (cmpI O x)
            rw [map_next (f := cmpI O) c.list i hlt (cmpI O x) (by rw [HX.out])] at h2
            exact h2)
          have gCt : Chg (fun q => q = gL) w3 wI := ⟨gC.os.trans hC6.os, gC.tape.trans hC6.tape, gC.output.trans hC6.output, by omega, fun q hq hn => (gC.block q (by omega) (fun h => by omega)).trans (hC6.block q hq hn)⟩
          clear gC hC6 gF4 x0 x1 x2 x3 x4 n2 hro hO5 bB5
          generalize (cmpI O x).a = fa at *
          generalize (cmpI O x).b = fb at *
          generalize (cmpI O x).c = fc at *
          generalize (cmpI O x).d = fd at *
          go_upto_region 12 with (fail)
          have D := Below.drew (bself wI)
          go_region_with (go_at_call 149; refine (withFields_any x.op x.a x.b x.c x.d fa fb fc fd gF 4 _ (kept_cell D l0) (kept_cell D l1) (kept_cell D l2) (kept_cell D l3)).mono ?_; rintro e wb ⟨rfl, bb⟩; have z0 := kept_cell (btr D bb) d0; have z1 := kept_cell (btr D bb) d1; have z2 := kept_cell (btr D bb) d2; have z3 := kept_cell (btr D bb) d3; have z4 := kept_cell (btr D bb) d4; have zf0 := kept_froz (btr D bb) kd f0; have zf1 := kept_froz (btr D bb) kd f1; have zf2 := kept_froz (btr D bb) kd f2; have zf3 := kept_froz (btr D bb) kd f3; have zf4 := kept_froz (btr D bb) kd f4; have zo := kept_cell (btr D bb) o2; have zs := bb.size)
          all_goals
            have E := btr D bb
            have s1 := HST.out _ E
            have s5 := ((((((gCt.trans (Chg.of_below (S := fun q => q = gL) E)).setCell gL (i * 5) (.int .i64 x.op) (fun _ => rfl)).setCell gL (i * 5 + 1) (.int .i64 fa) (fun _ => rfl)).setCell gL (i * 5 + 2) (.int .i64 fb) (fun _ => rfl)).setCell gL (i * 5 + 3) (.int .i64 fc) (fun _ => rfl)).setCell gL (i * 5 + 4) (.int .i64 fd) (fun _ => rfl))
            clear D bb E d0 d1 d2 d3 d4 l0 l1 l2 l3 o2 y0 y1 y2 y3 y4 f0 f1 f2 f3 f4 HST gro gCt
            go_wp2
            go_roundw
            case rel => exact ⟨i + 1, by omega, by go_num, s1, s5⟩
            case measure => simp [intOf]; omega
    · have e : i = c.list.length := by omega
      subst e
      rw [List.take_length, List.drop_length, List.append_nil] at hro
      have n1 := chg_cell hC m1 (by omega)
      have n0 := chg_cell hC m0 (by omega)
      have s0 := chg_cell hC r0 (by omega)
      have s1 := chg_cell hC r1 (by omega)
      have s2 := chg_cell hC r2 (by omega)
      have g0 := chg_froz hC (by omega) (HRF3.out 0) (by omega)
      have g1 := chg_froz hC (by omega) (HRF3.out 1) (by omega)
      have g2 := chg_froz hC (by omega) (HRF3.out 2) (by omega)
      have ra := own_keep oA hC (fun q hq h => hal q hq (by rw [h]; rfl))
      have rb := own_keep oB hC (fun q hq h => hbl q hq (by rw [h]; rfl))
      have la := ra.lt
      have lb := rb.lt
      have ll := hro.lt gL rfl
      have z0 := (cell_ne (b := w.heap.size + 1) (j := 2) (cell_ne (b := w.heap.size + 1) (j := 1) (cell_at _ (w.heap.size + 1) 0 (.slice p0 c.vars.length q0) s0) (by omega) (.slice p1 c.arrays.length q1)) (by omega) (.slice (some ⟨gL, 0, none⟩) c.list.length cL))
      have z1 := (cell_ne (b := w.heap.size + 1) (j := 2) (cell_at _ (w.heap.size + 1) 1 (.slice p1 c.arrays.length q1) (cell_ne (b := w.heap.size + 1) (j := 0) s1 (by omega) (.slice p0 c.vars.length q0))) (by omega) (.slice (some ⟨gL, 0, none⟩) c.list.length cL))
      have z2 := (cell_at _ (w.heap.size + 1) 2 (.slice (some ⟨gL, 0, none⟩) c.list.length cL) (cell_ne (b := w.heap.size + 1) (j := 1) (cell_ne (b := w.heap.size + 1) (j := 0) s2 (by omega) (.slice p0 c.vars.length q0)) (by omega) (.slice p1 c.arrays.length q1)))
      have za := (own_set (own_set (own_set ra (w.heap.size + 1) 0 (fun h => by have := la _ h; omega) (.slice p0 c.vars.length q0)) (w.heap.size + 1) 1 (fun h => by have := la _ h; omega) (.slice p1 c.arrays.length q1)) (w.heap.size + 1) 2 (fun h => by have := la _ h; omega) (.slice (some ⟨gL, 0, none⟩) c.list.length cL))
      have zb := (own_set (own_set (own_set rb (w.heap.size + 1) 0 (fun h => by have := lb _ h; omega) (.slice p0 c.vars.length q0)) (w.heap.size + 1) 1 (fun h => by have := lb _ h; omega) (.slice p1 c.arrays.length q1)) (w.heap.size + 1) 2 (fun h => by have := lb _ h; omega) (.slice (some ⟨gL, 0, none⟩) c.list.length cL))
      have hlo := hro.lt
      have zl := (own_set (own_set (own_set hro (w.heap.size + 1) 0 (fun h => by have := hlo _ h; omega) (.slice p0 c.vars.length q0)) (w.heap.size + 1) 1 (fun h => by have := hlo _ h; omega) (.slice p1 c.arrays.length q1)) (w.heap.size + 1) 2 (fun h => by have := hlo _ h; omega) (.slice (some ⟨gL, 0, none⟩) c.list.length cL))
      have hBt := tot.trans (hC.below w.heap.size tot.size (fun q hq h => by omega))
      have zB := (bst (bst (bst hBt (w.heap.size + 1) 0 (by omega) (.slice p0 c.vars.length q0)) (w.heap.size + 1) 1 (by omega) (.slice p1 c.arrays.length q1)) (w.heap.size + 1) 2 (by omega) (.slice (some ⟨gL, 0, none⟩) c.list.length cL))
      clear ra rb hro hC hBt oA oB
      go_wp2
      exact bodyPost_ret (v := .agg #[.slice p0 c.vars.length q0, .slice p1 c.arrays.length q1, .slice (some ⟨gL, 0, none⟩) c.list.length cL]) (by simp [results, Try.results97, go_sem, z0, z1, z2]) rfl (by exact ⟨_, _, _, rfl, ⟨own_mono za (by omega), own_mono zb (by omega), by rw [List.length_map]; exact own_mono zl (by omega), ocab⟩, zB⟩)
end Go.Proofs.Ytkbbpnfhenoihaa
