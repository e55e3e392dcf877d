/-
  Code without some instructions: the program's walk.
-/
import Derived.Test.YtkbbpnfhenoihaaDP
import Derived.Test.YtkbbpnfhenoihaaID
import Derived.Test.YtkbbpnfhenoihaaTB
namespace Go.Proofs.Ytkbbpnfhenoihaa
open Go.RowKit

def dOf (D : List Bool) (k : Nat) : Bool := D.getD k false
theorem dOf_at (D : List Bool) (k : Nat) (h : k < D.length) : dOf D k = D[k] := by unfold dOf; rw [List.getD_eq_getElem?_getD, List.getElem?_eq_getElem h]; rfl

set_option maxHeartbeats 12800000 in
set_option maxRecDepth 100000 in
theorem without_any (va vb vc v : Value) (c : Cd) (D : List Bool) (w : World) (hr : ReadsC w va vb vc c) (hD : Reads w 1 v D.length (bools D)) (hDl : D.length = c.list.length) (hok : codeOk c = true) :
    Calls Try.prog 120 #[.agg #[va, vb, vc], v] w fun e w' => ∃ ua ub uc, e = .returned (.agg #[ua, ub, uc]) ∧ OwnC w' w.heap.size ua ub uc (wout c (dOf D)) ∧ Below w.heap.size w w' := by
  obtain ⟨a0, c0, a1, c1, a2, c2, rfl, rfl, rfl⟩ := hr.shape
  obtain ⟨l1, l2⟩ := codeOk_len hok
  obtain ⟨l3, l4⟩ := declOk_len (codeOk_decl hok)
  have HTI := Lib.hid (fun k hk h0 => tgt_in (codeOk_all hok k hk) h0)
  have HDN := Lib.hid (fun k hk => dOf_at D k hk)
  have HEL := Lib.hid (outTo_len c.list (dOf D) c.list.length (Nat.le_refl _))
  have HWO : Hid (wout c (dOf D) = ⟨c.vars, c.arrays, outTo c.list (dOf D) c.list.length⟩) := Lib.hid rfl
  generalize wout c (dOf D) = R at *
  generalize dOf D = d at *
  have HZB := Lib.hid hr.lt
  have hrl := hr.l
  obtain ⟨_, hn, aa, cap, b, off, hv, hcap, ha, hca⟩ := hrl
  simp only [Value.slice.injEq, true_and] at hv
  obtain ⟨rfl, rfl⟩ := hv
  obtain ⟨rfl, hbs⟩ := ha (by omega)
  obtain ⟨_, hnD, ad, capd, bd, offd, rfl, hcapd, had, hcad⟩ := hD
  obtain ⟨rfl, hbd⟩ := had (by omega)
  have HDc := Lib.hid (fun k (h : k < c.list.length) => show w.cell? ⟨bd, offd + k, none⟩ = some (.bool (d k)) from by have h2 := hcad k (by rw [bools_length]; omega); rw [bools_get] at h2; rw [HDN.out k (by omega)]; exact h2)
  have hslD : Value.slice (some ⟨bd, offd, none⟩) D.length capd = Value.slice (some ⟨bd, offd, none⟩) c.list.length capd := by rw [hDl]
  rw [hslD]
  clear hcad had hnD hcapd hslD HDN ha
  clear hDl
  have HC := Lib.hid (reads_Instr hca)
  clear hca
  have hmk := mk_int c.list.length (by omega)
  obtain ⟨w2, hw2⟩ : ∃ X, X = (w.alloc (.cells #[.slice a0 c.vars.length c0, .slice a1 c.arrays.length c1, .slice (some ⟨b, off, none⟩) c.list.length c2] 50)).alloc (.cells #[.slice none 0 0, .slice none 0 0, .slice none 0 0] 50) := ⟨_, rfl⟩
  have hb2 : Below w.heap.size w w2 := by rw [hw2]; exact bal (bal (bself w) _) _
  have hz2 : w2.heap.size = w.heap.size + 1 + 1 := by rw [hw2]; simp
  have m0 : w2.cell? ⟨w.heap.size, 0, none⟩ = some (.slice a0 c.vars.length c0) := by rw [hw2]; exact cell_al (cell_nw rfl rfl) _
  have r0 : w2.cell? ⟨w.heap.size + 1, 0, none⟩ = some (.slice none 0 0) := by rw [hw2]; exact cell_nw (by simp) rfl
  have q0 : w2.frozen? ⟨w.heap.size + 1, 0, none⟩ = false := by rw [hw2]; exact froz_nw (by simp)
  have m1 : w2.cell? ⟨w.heap.size, 1, none⟩ = some (.slice a1 c.arrays.length c1) := by rw [hw2]; exact cell_al (cell_nw rfl rfl) _
  have r1 : w2.cell? ⟨w.heap.size + 1, 1, none⟩ = some (.slice none 0 0) := by rw [hw2]; exact cell_nw (by simp) rfl
  have q1 : w2.frozen? ⟨w.heap.size + 1, 1, none⟩ = false := by rw [hw2]; exact froz_nw (by simp)
  have m2 : w2.cell? ⟨w.heap.size, 2, none⟩ = some (.slice (some ⟨b, off, none⟩) c.list.length c2) := by rw [hw2]; exact cell_al (cell_nw rfl rfl) _
  have r2 : w2.cell? ⟨w.heap.size + 1, 2, none⟩ = some (.slice none 0 0) := by rw [hw2]; exact cell_nw (by simp) rfl
  have q2 : w2.frozen? ⟨w.heap.size + 1, 2, none⟩ = false := by rw [hw2]; exact froz_nw (by simp)
  have HW := Lib.hid hw2
  have HZ := Lib.hid hz2
  have oP := own_made w2 (.int .i64 0) c.list.length 3 (by unfold maxLen; omega)
  rw [← ints_replicate] at oP
  obtain ⟨w3, hw3⟩ : ∃ X, X = World.alloc w2 (.cells (madeCells #[.int .i64 0] c.list.length) 3) := ⟨_, rfl⟩
  rw [← hw3] at oP
  have hb3 : Below w2.heap.size w2 w3 := by rw [hw3]; exact bal (bself _) _
  have hz3 : w3.heap.size = w2.heap.size + 1 := by rw [hw3]; simp
  have HW3 := Lib.hid hw3
  have hz22 : w.heap.size + 2 ≤ w2.heap.size := by omega
  have hz33 : w2.heap.size + 1 ≤ w3.heap.size := by omega
  clear hw2 hw3 hz2 hz3
  have tot := btr hb2 hb3
  have q0 := kept_froz hb3 (lt_of_cell r0) q0; have r0 := kept_cell hb3 r0; have m0 := kept_cell hb3 m0
  have q1 := kept_froz hb3 (lt_of_cell r1) q1; have r1 := kept_cell hb3 r1; have m1 := kept_cell hb3 m1
  have q2 := kept_froz hb3 (lt_of_cell r2) q2; have r2 := kept_cell hb3 r2; have m2 := kept_cell hb3 m2
  have HCC := Lib.hid (fun W (hW : Below w3.heap.size w3 W) k (h : k < c.list.length) => by
    obtain ⟨e0, e1, e2, e3, e4⟩ := HC.out k h
    have hT := btr tot hW
    exact (⟨kept_cell hT e0, kept_cell hT e1, kept_cell hT e2, kept_cell hT e3, kept_cell hT e4⟩ : W.cell? ⟨b, off + k * 5, none⟩ = some (.int .i64 c.list[k].op) ∧ W.cell? ⟨b, off + k * 5 + 1, none⟩ = some (.int .i64 c.list[k].a) ∧ W.cell? ⟨b, off + k * 5 + 2, none⟩ = some (.int .i64 c.list[k].b) ∧ W.cell? ⟨b, off + k * 5 + 3, none⟩ = some (.int .i64 c.list[k].c) ∧ W.cell? ⟨b, off + k * 5 + 4, none⟩ = some (.int .i64 c.list[k].d)))
  have HD3 := Lib.hid (fun k (h : k < c.list.length) => kept_cell tot (HDc.out k h))
  have hr3 := hr.below tot
  have k3 := lt_of_cell m2
  clear HC HDc hr
  go_enter Try.func120, Try.ntmps120
  go_upto_region 1 with (fail)
  rw [← HW.out]
  clear HW
  have m2b : w2.cell? ⟨w.heap.size, 2, none⟩ = some (.slice (some ⟨b, off, none⟩) c.list.length c2) := by
    rw [← m2]; exact (World.cell?_of_block (w := w2) (hb3.block w.heap.size (by omega))).symm
  go_upto_region 2 with (fail)
  rw [← HW3.out]
  clear HW3 m2b
  go_wp2_with fail
  go_loopw [6, 19] (fun cn i wr => ∃ k : Nat, k ≤ c.list.length ∧ cn = .int .i64 (stay d k : Nat) ∧ i = .int .i64 k ∧
      wr.ownsRow w2.heap.size 3 1 (.slice (some ⟨w2.heap.size, 0, none⟩) c.list.length c.list.length) c.list.length (ints (stays d k ++ (List.replicate c.list.length (0 : Int)).drop k)) ∧ Chg (fun q => q = w2.heap.size) w3 wr) (fun _ i _ => c.list.length - (intOf i).toNat)
  case atStart => exact ⟨0, Nat.zero_le _, rfl, rfl, by simpa [stays] using oP, Chg.refl _ _⟩
  case round =>
    obtain ⟨k, hk, rfl, rfl, oP2, hC⟩ := hrel
    have hzC := hC.size
    have hcb := stay_le d k
    clear oP
    by_cases hlt : k < c.list.length
    · have yD := chg_cell hC (HD3.out k hlt) (by omega)
      have y1 := oP2.cellAt k (by omega)
      rw [ints_at _ _ (by rw [List.length_append, stays_len, List.length_drop, List.length_replicate]; omega)] at y1
      have f1 := oP2.frozenAt k
      have hcs : stay d (k + 1) = stay d k + (if d k = true then 0 else 1) := rfl
      obtain ⟨q, hdv⟩ : ∃ q, d k = q := ⟨_, rfl⟩
      rw [hdv] at yD
      generalize ((stays d k ++ (List.replicate c.list.length (0 : Int)).drop k)[k]'(by rw [List.length_append, stays_len, List.length_drop, List.length_replicate]; omega)) = z1 at *
      have tP := (oP2.stored k (.int .i64 (stay d k : Nat))).1
      rw [ints_set, drop_cons _ k (by simpa using hlt) _ (stays_len _ _), ← stays_succ] at tP
      have y2 := cell_ne (b := w2.heap.size) (j := k) yD (by omega) (.int .i64 (stay d k : Nat))
      have hC6 := hC.setCell (w2.heap.size) k (.int .i64 (stay d k : Nat)) (fun _ => rfl)
      have HCS := Lib.hid hcs
      have HDV2 := Lib.hid hdv
      have kd := lt_of_cell yD
      have kp := lt_of_cell y1
      clear hcs hdv oP2 hC
      cases q with
      | true =>
        go_wp2
        go_roundw
        case rel => exact ⟨k + 1, by omega, by rw [HCS.out, HDV2.out]; rfl, by go_num, tP, hC6⟩
        case measure => simp [intOf]; omega
      | false =>
        go_wp2
        go_roundw
        case rel => exact ⟨k + 1, by omega, by rw [HCS.out, HDV2.out]; rfl, by go_num, tP, hC6⟩
        case measure => simp [intOf]; omega
    · have e : k = c.list.length := by omega
      subst e
      rw [List.drop_eq_nil_of_le (by simp), List.append_nil] at oP2
      obtain ⟨w4, rfl⟩ : ∃ X, X = wr := ⟨_, rfl⟩
      have tot4 := tot.trans (hC.below w.heap.size tot.size (fun q hq h => by omega))
      replace q0 := chg_froz hC (lt_of_cell r0) q0 (by omega); replace r0 := chg_cell hC r0 (by omega); replace m0 := chg_cell hC m0 (by omega)
      replace q1 := chg_froz hC (lt_of_cell r1) q1 (by omega); replace r1 := chg_cell hC r1 (by omega); replace m1 := chg_cell hC m1 (by omega)
      replace q2 := chg_froz hC (lt_of_cell r2) q2 (by omega); replace r2 := chg_cell hC r2 (by omega); replace m2 := chg_cell hC m2 (by omega)
      have HC4 := Lib.hid (fun k (h : k < c.list.length) => by
        obtain ⟨e0, e1, e2, e3, e4⟩ := HCC.out w3 (bself w3) k h
        exact (⟨chg_cell hC e0 (by omega), chg_cell hC e1 (by omega), chg_cell hC e2 (by omega), chg_cell hC e3 (by omega), chg_cell hC e4 (by omega)⟩ : w4.cell? ⟨b, off + k * 5, none⟩ = some (.int .i64 c.list[k].op) ∧ w4.cell? ⟨b, off + k * 5 + 1, none⟩ = some (.int .i64 c.list[k].a) ∧ w4.cell? ⟨b, off + k * 5 + 2, none⟩ = some (.int .i64 c.list[k].b) ∧ w4.cell? ⟨b, off + k * 5 + 3, none⟩ = some (.int .i64 c.list[k].c) ∧ w4.cell? ⟨b, off + k * 5 + 4, none⟩ = some (.int .i64 c.list[k].d)))
      have HD4 := Lib.hid (fun k (h : k < c.list.length) => chg_cell hC (HD3.out k h) (by omega))
      have ivr := hr3.lt
      have hr4 := hr3.keep hC (fun q hq h => by
        have h1 := hr3.lt q hq
        have h2 := HZB.out q hq
        omega)
      have k4 := lt_of_cell m2
      clear HCC HD3 hr3 hC tot
      go_wp2
      go_loopw [8, 37] (fun lv i wr => ∃ k : Nat, k ≤ c.list.length ∧ i = .int .i64 k ∧ wr.ownsRow w4.heap.size 98 5 lv (stay d k) (inss (outTo c.list d k)) ∧ Below w4.heap.size w4 wr) (fun _ i _ => c.list.length - (intOf i).toNat)
      case atStart => exact ⟨0, Nat.zero_le _, rfl, World.ownsRow_nil _ _ _ _, bself _⟩
      case round =>
        obtain ⟨k, hk, rfl, ho, hbel⟩ := hrel
        have hzb := hbel.size
        have iv := ho.lt
        have hcb := stay_le d k
        by_cases hlt : k < c.list.length
        · obtain ⟨e0, e1, e2, e3, e4⟩ := HC4.out k hlt
          replace e0 := kept_cell hbel e0
          replace e1 := kept_cell hbel e1
          replace e2 := kept_cell hbel e2
          replace e3 := kept_cell hbel e3
          replace e4 := kept_cell hbel e4
          have yD := kept_cell hbel (HD4.out k hlt)
          have hms := outTo_succ c.list d k hlt
          have hcs : stay d (k + 1) = stay d k + (if d k = true then 0 else 1) := rfl
          have hti := HTI.out k hlt
          obtain ⟨q, hdv⟩ : ∃ q, d k = q := ⟨_, rfl⟩
          rw [hdv] at yD
          generalize c.list[k] = x at *
          have HMS := Lib.hid hms
          have HCS := Lib.hid hcs
          have HT := Lib.hid hti
          have HV := Lib.hid hdv
          clear hms hcs hti hdv
          go_upto_region 14 with (fail)
          obtain ⟨w5, hw5⟩ : ∃ X, X = World.alloc wr (.cells #[.int .i64 x.op, .int .i64 x.a, .int .i64 x.b, .int .i64 x.c, .int .i64 x.d] 98) := ⟨_, rfl⟩
          rw [← hw5]
          have hb5 : Below wr.heap.size wr w5 := by rw [hw5]; exact bal (bself wr) _
          have hz5 : wr.heap.size + 1 ≤ w5.heap.size := by rw [hw5]; simp
          have d0 : w5.cell? ⟨wr.heap.size, 0, none⟩ = some (.int .i64 x.op) := by rw [hw5]; exact cell_nw rfl rfl
          have z0 : w5.frozen? ⟨wr.heap.size, 0, none⟩ = false := by rw [hw5]; exact froz_nw rfl
          have d1 : w5.cell? ⟨wr.heap.size, 1, none⟩ = some (.int .i64 x.a) := by rw [hw5]; exact cell_nw rfl rfl
          have z1 : w5.frozen? ⟨wr.heap.size, 1, none⟩ = false := by rw [hw5]; exact froz_nw rfl
          have d2 : w5.cell? ⟨wr.heap.size, 2, none⟩ = some (.int .i64 x.b) := by rw [hw5]; exact cell_nw rfl rfl
          have z2 : w5.frozen? ⟨wr.heap.size, 2, none⟩ = false := by rw [hw5]; exact froz_nw rfl
          have d3 : w5.cell? ⟨wr.heap.size, 3, none⟩ = some (.int .i64 x.c) := by rw [hw5]; exact cell_nw rfl rfl
          have z3 : w5.frozen? ⟨wr.heap.size, 3, none⟩ = false := by rw [hw5]; exact froz_nw rfl
          have d4 : w5.cell? ⟨wr.heap.size, 4, none⟩ = some (.int .i64 x.d) := by rw [hw5]; exact cell_nw rfl rfl
          have z4 : w5.frozen? ⟨wr.heap.size, 4, none⟩ = false := by rw [hw5]; exact froz_nw rfl
          clear hw5 e0 e1 e2 e3 e4
          have kd := lt_of_cell d0
          have ky := lt_of_cell yD
          have yD5 := kept_cell hb5 yD
          have ky5 := lt_of_cell yD5
          have hB := btr hbel hb5
          have o5 := own_below ho hb5
          clear yD hb5 ho
          cases q with
          | true =>
            have hcn : stay d k = stay d (k + 1) := by rw [HCS.out, HV.out]; rfl
            have hln : outTo c.list d k = outTo c.list d (k + 1) := by rw [HMS.out, HV.out]; simp
            have HCN := Lib.hid hcn; have HLN := Lib.hid hln; clear hcn hln
            go_wp2
            go_roundw
            case rel => exact ⟨k + 1, by omega, by go_num, by rw [← HCN.out, ← HLN.out]; exact o5, hB⟩
            case measure => simp [intOf]; omega
          | false =>
            go_wp2_with fail
            refine (target_any x _).mono ?_
            rintro e w6 ⟨rfl, hb6⟩
            replace d0 := kept_cell hb6 d0; replace z0 := kept_froz hb6 (by omega) z0
            replace d1 := kept_cell hb6 d1; replace z1 := kept_froz hb6 (by omega) z1
            replace d2 := kept_cell hb6 d2; replace z2 := kept_froz hb6 (by omega) z2
            replace d3 := kept_cell hb6 d3; replace z3 := kept_froz hb6 (by omega) z3
            replace d4 := kept_cell hb6 d4; replace z4 := kept_froz hb6 (by omega) z4
            have B6 := btr hB hb6
            have o6 := own_below o5 hb6
            have hz6 := hb6.size
            have i6 := o6.lt
            have k6 := lt_of_cell d0
            clear hb6 hB o5
            by_cases ht : 0 ≤ tgt x
            · obtain ⟨t1, t2⟩ := HT.out ht
              obtain ⟨nt, hnt⟩ : ∃ nt : Nat, tgt x = nt := ⟨(tgt x).toNat, by omega⟩
              have HFX : Hid (dx d x = aim x (stay d nt : Nat)) := Lib.hid (by unfold dx; rw [if_pos ht, hnt, Int.toNat_natCast])
              rw [hnt] at t1 ⊢
              have hnt2 : nt < c.list.length := by omega
              have hq : (nt : Int) < (c.list.length : Int) := by omega
              have hq0 : (0 : Int) ≤ (nt : Int) := by omega
              have yP := (own_below oP2 B6).cellAt nt (by omega)
              rw [ints_at _ _ (by rw [stays_len]; exact hnt2), stays_get] at yP
              have kP := lt_of_cell yP
              have HT2 := Lib.hid t2
              clear t1 t2 ht hnt
              go_upto_region 17 with (fail)
              have D := Below.drew (bself w6)
              go_cut [55] (fun _ wx => wx.cell? ⟨wr.heap.size, 0, none⟩ = some (.int .i64 (aim x (stay d nt : Nat)).op) ∧ wx.cell? ⟨wr.heap.size, 1, none⟩ = some (.int .i64 (aim x (stay d nt : Nat)).a) ∧ wx.cell? ⟨wr.heap.size, 2, none⟩ = some (.int .i64 (aim x (stay d nt : Nat)).b) ∧ wx.cell? ⟨wr.heap.size, 3, none⟩ = some (.int .i64 (aim x (stay d nt : Nat)).c) ∧ wx.cell? ⟨wr.heap.size, 4, none⟩ = some (.int .i64 (aim x (stay d nt : Nat)).d) ∧ Chg (fun q => q = wr.heap.size) w6 wx)
              case first =>
                go_region_with (go_at_call 103; refine (to_any x _ _ HT2.out).mono ?_; rintro e w7 ⟨rfl, b7⟩; have v7 := btr D b7; have u0 := kept_cell v7 d0; have u1 := kept_cell v7 d1; have u2 := kept_cell v7 d2; have u3 := kept_cell v7 d3; have u4 := kept_cell v7 d4; have r0 := kept_froz v7 k6 z0; have r1 := kept_froz v7 k6 z1; have r2 := kept_froz v7 k6 z2; have r3 := kept_froz v7 k6 z3; have r4 := kept_froz v7 k6 z4; have k7 := lt_of_cell u0)
                all_goals (go_wp2_with fail; go_meet; exact ⟨(cell_ne (b := wr.heap.size) (j := 4) (cell_ne (b := wr.heap.size) (j := 3) (cell_ne (b := wr.heap.size) (j := 2) (cell_ne (b := wr.heap.size) (j := 1) (cell_at _ wr.heap.size 0 (.int .i64 (aim x (stay d nt : Nat)).op) u0) (by omega) (.int .i64 (aim x (stay d nt : Nat)).a)) (by omega) (.int .i64 (aim x (stay d nt : Nat)).b)) (by omega) (.int .i64 (aim x (stay d nt : Nat)).c)) (by omega) (.int .i64 (aim x (stay d nt : Nat)).d)), (cell_ne (b := wr.heap.size) (j := 4) (cell_ne (b := wr.heap.size) (j := 3) (cell_ne (b := wr.heap.size) (j := 2) (cell_at _ wr.heap.size 1 (.int .i64 (aim x (stay d nt : Nat)).a) (cell_ne (b := wr.heap.size) (j := 0) u1 (by omega) (.int .i64 (aim x (stay d nt : Nat)).op))) (by omega) (.int .i64 (aim x (stay d nt : Nat)).b)) (by omega) (.int .i64 (aim x (stay d nt : Nat)).c)) (by omega) (.int .i64 (aim x (stay d nt : Nat)).d)), (cell_ne (b := wr.heap.size) (j := 4) (cell_ne (b := wr.heap.size) (j := 3) (cell_at _ wr.heap.size 2 (.int .i64 (aim x (stay d nt : Nat)).b) (cell_ne (b := wr.heap.size) (j := 1) (cell_ne (b := wr.heap.size) (j := 0) u2 (by omega) (.int .i64 (aim x (stay d nt : Nat)).op)) (by omega) (.int .i64 (aim x (stay d nt : Nat)).a))) (by omega) (.int .i64 (aim x (stay d nt : Nat)).c)) (by omega) (.int .i64 (aim x (stay d nt : Nat)).d)), (cell_ne (b := wr.heap.size) (j := 4) (cell_at _ wr.heap.size 3 (.int .i64 (aim x (stay d nt : Nat)).c) (cell_ne (b := wr.heap.size) (j := 2) (cell_ne (b := wr.heap.size) (j := 1) (cell_ne (b := wr.heap.size) (j := 0) u3 (by omega) (.int .i64 (aim x (stay d nt : Nat)).op)) (by omega) (.int .i64 (aim x (stay d nt : Nat)).a)) (by omega) (.int .i64 (aim x (stay d nt : Nat)).b))) (by omega) (.int .i64 (aim x (stay d nt : Nat)).d)), (cell_at _ wr.heap.size 4 (.int .i64 (aim x (stay d nt : Nat)).d) (cell_ne (b := wr.heap.size) (j := 3) (cell_ne (b := wr.heap.size) (j := 2) (cell_ne (b := wr.heap.size) (j := 1) (cell_ne (b := wr.heap.size) (j := 0) u4 (by omega) (.int .i64 (aim x (stay d nt : Nat)).op)) (by omega) (.int .i64 (aim x (stay d nt : Nat)).a)) (by omega) (.int .i64 (aim x (stay d nt : Nat)).b)) (by omega) (.int .i64 (aim x (stay d nt : Nat)).c))), ((((((Chg.of_below (S := fun q => q = wr.heap.size) v7).setCell wr.heap.size 0 (.int .i64 (aim x (stay d nt : Nat)).op) (fun _ => rfl)).setCell wr.heap.size 1 (.int .i64 (aim x (stay d nt : Nat)).a) (fun _ => rfl)).setCell wr.heap.size 2 (.int .i64 (aim x (stay d nt : Nat)).b) (fun _ => rfl)).setCell wr.heap.size 3 (.int .i64 (aim x (stay d nt : Nat)).c) (fun _ => rfl)).setCell wr.heap.size 4 (.int .i64 (aim x (stay d nt : Nat)).d) (fun _ => rfl))⟩)
              obtain ⟨w8, rfl⟩ : ∃ W, W = wc := ⟨_, rfl⟩
              obtain ⟨d0, d1, d2, d3, d4, hc8⟩ := hcut
              have B8 := B6.trans (hc8.below w4.heap.size B6.size (fun q hq h => by omega))
              have o8 := own_keep o6 hc8 (fun q h h2 => by have := iv q h; omega)
              have hz8 := hc8.size
              have k8 := lt_of_cell d0
              clear hc8 B6 o6 D
              go_wp2_with (at_builtin; refine wpList_ap tInstrs rfl _ _ rfl w4.heap.size _ (stay d k) _ rfl o8 [.int .i64 (aim x (stay d nt : Nat)).op, .int .i64 (aim x (stay d nt : Nat)).a, .int .i64 (aim x (stay d nt : Nat)).b, .int .i64 (aim x (stay d nt : Nat)).c, .int .i64 (aim x (stay d nt : Nat)).d] rfl rfl (one_insc (aim x (stay d nt : Nat))) (by omega) (by omega) ?_)
              intro g9 c9 wz o9 hc9 hg9
              have i9 := o8.lt
              have B9 := B8.trans (hc9.below w4.heap.size B8.size (fun q hq h => by have := i9 q h; omega))
              rw [show inss (outTo c.list d k) ++ [Value.int .i64 (aim x (stay d nt : Nat)).op, Value.int .i64 (aim x (stay d nt : Nat)).a, Value.int .i64 (aim x (stay d nt : Nat)).b, Value.int .i64 (aim x (stay d nt : Nat)).c, Value.int .i64 (aim x (stay d nt : Nat)).d] = inss (outTo c.list d (k + 1)) from by rw [HMS.out, HFX.out, HV.out]; simp [rows_append, rows]; rfl] at o9
              have hcn : stay d k + 1 = stay d (k + 1) := by rw [HCS.out, HV.out]; rfl
              have HCN := Lib.hid hcn; clear hcn
              clear hc9 hg9 o8 B8
              go_wp2
              go_roundw
              case rel => exact ⟨k + 1, by omega, by go_num, by rw [← HCN.out]; exact o9, B9⟩
              case measure => simp [intOf]; omega
            · have HFX : Hid (dx d x = x) := Lib.hid (by unfold dx; rw [if_neg ht])
              have ht2 : ¬ 0 ≤ tgt x := ht
              go_wp2_with (at_builtin; refine wpList_ap tInstrs rfl _ _ rfl w4.heap.size _ (stay d k) _ rfl o6 [.int .i64 (x).op, .int .i64 (x).a, .int .i64 (x).b, .int .i64 (x).c, .int .i64 (x).d] rfl rfl (one_insc (x)) (by omega) (by omega) ?_)
              intro g9 c9 wz o9 hc9 hg9
              have i9 := o6.lt
              have B9 := B6.trans (hc9.below w4.heap.size B6.size (fun q hq h => by have := i9 q h; omega))
              rw [show inss (outTo c.list d k) ++ [Value.int .i64 (x).op, Value.int .i64 (x).a, Value.int .i64 (x).b, Value.int .i64 (x).c, Value.int .i64 (x).d] = inss (outTo c.list d (k + 1)) from by rw [HMS.out, HFX.out, HV.out]; simp [rows_append, rows]; rfl] at o9
              have hcn : stay d k + 1 = stay d (k + 1) := by rw [HCS.out, HV.out]; rfl
              have HCN := Lib.hid hcn; clear hcn
              clear hc9 hg9 o6 B6
              go_wp2
              go_roundw
              case rel => exact ⟨k + 1, by omega, by go_num, by rw [← HCN.out]; exact o9, B9⟩
              case measure => simp [intOf]; omega
        · have e : k = c.list.length := by omega
          subst e
          obtain ⟨la, lc, rfl⟩ := own_shape ho
          replace q0 := kept_froz hbel (lt_of_cell r0) q0; replace r0 := kept_cell hbel r0; replace m0 := kept_cell hbel m0
          replace q1 := kept_froz hbel (lt_of_cell r1) q1; replace r1 := kept_cell hbel r1; replace m1 := kept_cell hbel m1
          replace q2 := kept_froz hbel (lt_of_cell r2) q2; replace r2 := kept_cell hbel r2; replace m2 := kept_cell hbel m2
          have km := lt_of_cell m0
          go_wp2_with fail
          refine (with_any _ _ _ c _ _ _ _ (hr4.below hbel) (by omega) (by omega)).mono ?_
          rintro e w9 ⟨u0, u1, rfl, oa, ob, hab, hb9⟩
          obtain ⟨p0, t0, rfl⟩ := own_shape oa
          obtain ⟨p1, t1, rfl⟩ := own_shape ob
          have ol := own_below ho hb9
          have ia := oa.lt
          have ib := ob.lt
          have il := ho.lt
          have tt := btr (tot4.trans (hbel.mono tot4.size)) hb9
          replace q0 := kept_froz hb9 (lt_of_cell r0) q0; replace r0 := kept_cell hb9 r0
          replace q1 := kept_froz hb9 (lt_of_cell r1) q1; replace r1 := kept_cell hb9 r1
          replace q2 := kept_froz hb9 (lt_of_cell r2) q2; replace r2 := kept_cell hb9 r2
          have hz9 := hb9.size
          have k9 := lt_of_cell r0
          clear hb9 ho hbel oP2 hr4 HC4
          have x0 := (cell_ne (b := (w.heap.size + 1)) (j := 2) (cell_ne (b := (w.heap.size + 1)) (j := 1) (cell_at _ (w.heap.size + 1) 0 (.slice p0 c.vars.length t0) r0) (by omega) (.slice p1 c.arrays.length t1)) (by omega) (.slice la (stay d c.list.length) lc))
          have x1 := (cell_ne (b := (w.heap.size + 1)) (j := 2) (cell_at _ (w.heap.size + 1) 1 (.slice p1 c.arrays.length t1) (cell_ne (b := (w.heap.size + 1)) (j := 0) r1 (by omega) (.slice p0 c.vars.length t0))) (by omega) (.slice la (stay d c.list.length) lc))
          have x2 := (cell_at _ (w.heap.size + 1) 2 (.slice la (stay d c.list.length) lc) (cell_ne (b := (w.heap.size + 1)) (j := 1) (cell_ne (b := (w.heap.size + 1)) (j := 0) r2 (by omega) (.slice p0 c.vars.length t0)) (by omega) (.slice p1 c.arrays.length t1)))
          have y0 := (own_set (own_set (own_set oa (w.heap.size + 1) 0 (fun h => by have := ia _ h; omega) (.slice p0 c.vars.length t0)) (w.heap.size + 1) 1 (fun h => by have := ia _ h; omega) (.slice p1 c.arrays.length t1)) (w.heap.size + 1) 2 (fun h => by have := ia _ h; omega) (.slice la (stay d c.list.length) lc))
          have y1 := (own_set (own_set (own_set ob (w.heap.size + 1) 0 (fun h => by have := ib _ h; omega) (.slice p0 c.vars.length t0)) (w.heap.size + 1) 1 (fun h => by have := ib _ h; omega) (.slice p1 c.arrays.length t1)) (w.heap.size + 1) 2 (fun h => by have := ib _ h; omega) (.slice la (stay d c.list.length) lc))
          have y2 := (own_set (own_set (own_set ol (w.heap.size + 1) 0 (fun h => by have := il _ h; omega) (.slice p0 c.vars.length t0)) (w.heap.size + 1) 1 (fun h => by have := il _ h; omega) (.slice p1 c.arrays.length t1)) (w.heap.size + 1) 2 (fun h => by have := il _ h; omega) (.slice la (stay d c.list.length) lc))
          have tz := (bst (bst (bst tt (w.heap.size + 1) 0 (by omega) (.slice p0 c.vars.length t0)) (w.heap.size + 1) 1 (by omega) (.slice p1 c.arrays.length t1)) (w.heap.size + 1) 2 (by omega) (.slice la (stay d c.list.length) lc))
          clear oa ob ol tt
          go_wp2
          exact bodyPost_ret (v := .agg #[.slice p0 c.vars.length t0, .slice p1 c.arrays.length t1, .slice la (stay d c.list.length) lc]) (by simp [results, Try.results120, go_sem, x0, x1, x2]) rfl (by rw [HWO.out]; exact ⟨_, _, _, rfl, ⟨own_mono y0 (by omega), own_mono y1 (by omega), by show World.ownsRow _ _ _ _ _ (outTo c.list d c.list.length).length (inss (outTo c.list d c.list.length)); rw [HEL.out]; exact own_mono y2 (by omega), hab⟩, tz⟩)
end Go.Proofs.Ytkbbpnfhenoihaa
