/-
  RemoveDead: the reference's walk.
-/
import Derived.Test.YtkbbpnfhenoihaaDS
import Derived.Test.YtkbbpnfhenoihaaDT
import Derived.Test.YtkbbpnfhenoihaaLE2
namespace Go.Proofs.Ytkbbpnfhenoihaa
open Go.RowKit

set_option maxHeartbeats 25600000 in
set_option maxRecDepth 100000 in
theorem sRemove_any (va vb vc : Value) (c : Cd) (w : World) (hr : ReadsC w va vb vc c) :
    Calls Try.prog 55 #[.agg #[va, vb, vc]] w fun e w' => ∃ ua ub uc, e = .returned (.tuple #[.agg #[ua, ub, uc], .bool (remR c).2]) ∧ OwnC w' w.heap.size ua ub uc (remR c).1 ∧ Below w.heap.size w w' := by
  obtain ⟨a0, c0, a1, c1, a2, c2, rfl, rfl, rfl⟩ := hr.shape
  have HER := Lib.hid (fun h => remR_no (c := c) h)
  have HEY := Lib.hid (fun h => remR_yes (c := c) h)
  generalize remR c = R at *
  have ivr := hr.lt
  go_enter Try.func55, Try.ntmps55
  go_wp2_with fail
  refine (sCodeValid_any _ _ _ c _ ((hr.below (bal (bself _) (.cells #[.slice a0 c.vars.length c0, .slice a1 c.arrays.length c1, .slice a2 c.list.length c2] 50))).below (bal (bself _) (.cells #[.slice none 0 0, .slice none 0 0, .slice none 0 0] 50)))).mono ?_
  rintro e w1 ⟨rfl, hb⟩
  have hsz1 := hb.size
  simp only [World.size_alloc] at hsz1
  replace hr := ((hr.below (bal (bself _) (.cells #[.slice a0 c.vars.length c0, .slice a1 c.arrays.length c1, .slice a2 c.list.length c2] 50))).below (bal (bself _) (.cells #[.slice none 0 0, .slice none 0 0, .slice none 0 0] 50))).below hb
  have m0 : w1.cell? ⟨w.heap.size, 0, none⟩ = some (.slice a0 c.vars.length c0) := kept_cell hb (cell_al (cell_nw (by simp) (by rfl)) _)
  have mf0 : w1.frozen? ⟨w.heap.size, 0, none⟩ = false := kept_froz hb (by simp; omega) (froz_al (by simp) (froz_nw (by simp)) _)
  have r0 : w1.cell? ⟨w.heap.size + 1, 0, none⟩ = some (.slice none 0 0) := kept_cell hb (cell_nw (by simp) (by rfl))
  have q0 : w1.frozen? ⟨w.heap.size + 1, 0, none⟩ = false := kept_froz hb (by simp) (froz_nw (by simp))
  have m1 : w1.cell? ⟨w.heap.size, 1, none⟩ = some (.slice a1 c.arrays.length c1) := kept_cell hb (cell_al (cell_nw (by simp) (by rfl)) _)
  have mf1 : w1.frozen? ⟨w.heap.size, 1, none⟩ = false := kept_froz hb (by simp; omega) (froz_al (by simp) (froz_nw (by simp)) _)
  have r1 : w1.cell? ⟨w.heap.size + 1, 1, none⟩ = some (.slice none 0 0) := kept_cell hb (cell_nw (by simp) (by rfl))
  have q1 : w1.frozen? ⟨w.heap.size + 1, 1, none⟩ = false := kept_froz hb (by simp) (froz_nw (by simp))
  have m2 : w1.cell? ⟨w.heap.size, 2, none⟩ = some (.slice a2 c.list.length c2) := kept_cell hb (cell_al (cell_nw (by simp) (by rfl)) _)
  have mf2 : w1.frozen? ⟨w.heap.size, 2, none⟩ = false := kept_froz hb (by simp; omega) (froz_al (by simp) (froz_nw (by simp)) _)
  have r2 : w1.cell? ⟨w.heap.size + 1, 2, none⟩ = some (.slice none 0 0) := kept_cell hb (cell_nw (by simp) (by rfl))
  have q2 : w1.frozen? ⟨w.heap.size + 1, 2, none⟩ = false := kept_froz hb (by simp) (froz_nw (by simp))
  have tot := btr (bal (bal (bself w) (.cells #[.slice a0 c.vars.length c0, .slice a1 c.arrays.length c1, .slice a2 c.list.length c2] 50)) (.cells #[.slice none 0 0, .slice none 0 0, .slice none 0 0] 50)) hb
  clear hb
  have lm := lt_of_cell m0; have lr := lt_of_cell r0
  cases hok : codeOk c with
  | false =>
    have HO := Lib.hid hok; clear hok hr
    have x0 := (cell_ne (b := (w.heap.size + 1)) (j := 2) (cell_ne (b := (w.heap.size + 1)) (j := 1) (cell_at _ (w.heap.size + 1) 0 (.slice none 0 0) r0) (by omega) (.slice none 0 0)) (by omega) (.slice none 0 0))
    have x1 := (cell_ne (b := (w.heap.size + 1)) (j := 2) (cell_at _ (w.heap.size + 1) 1 (.slice none 0 0) (cell_ne (b := (w.heap.size + 1)) (j := 0) r1 (by omega) (.slice none 0 0))) (by omega) (.slice none 0 0))
    have x2 := (cell_at _ (w.heap.size + 1) 2 (.slice none 0 0) (cell_ne (b := (w.heap.size + 1)) (j := 1) (cell_ne (b := (w.heap.size + 1)) (j := 0) r2 (by omega) (.slice none 0 0)) (by omega) (.slice none 0 0)))
    have tt := (bst (bst (bst tot (w.heap.size + 1) 0 (by omega) (.slice none 0 0)) (w.heap.size + 1) 1 (by omega) (.slice none 0 0)) (w.heap.size + 1) 2 (by omega) (.slice none 0 0))
    have HR := Lib.hid (HER.out HO.out)
    go_wp2
    exact bodyPost_ret (v := .tuple #[.agg #[.slice none 0 0, .slice none 0 0, .slice none 0 0], .bool false]) (by simp [results, Try.results55, go_sem, x0, x1, x2]) rfl (by rw [HR.out]; exact ⟨_, _, _, rfl, noCode_own _ _, tt⟩)
  | true =>
    have HO := Lib.hid hok; clear hok
    have HR := Lib.hid (HEY.out HO.out)
    clear HER HEY
    obtain ⟨l1, l2⟩ := codeOk_len HO.out
    obtain ⟨l3, l4⟩ := declOk_len (codeOk_decl HO.out)
    clear l1 l2 l3 l4
    have hnb : ∀ q, ReadB (.slice a0 c.vars.length c0) (.slice a1 c.arrays.length c1) (.slice a2 c.list.length c2) c q → ¬ q = w.heap.size := fun q h e => by have := ivr q h; omega
    have HTOT := Lib.hid tot
    clear ivr tot
    go_wp2_with fail
    go_loopg [4] c.list.length (fun gk lv wr => ∃ (cc : Cd) (p0 : Option Addr) (t0 : Nat) (p1 : Option Addr) (t1 : Nat) (p2 : Option Addr) (t2 : Nat), Hid (codeOk cc = true) ∧ Hid (remOf cc = remOf c) ∧ cc.list.length ≤ gk ∧ wr.cell? ⟨w.heap.size, 0, none⟩ = some (.slice p0 cc.vars.length t0) ∧ wr.cell? ⟨w.heap.size, 1, none⟩ = some (.slice p1 cc.arrays.length t1) ∧ wr.cell? ⟨w.heap.size, 2, none⟩ = some (.slice p2 cc.list.length t2) ∧ wr.frozen? ⟨w.heap.size, 0, none⟩ = false ∧ wr.frozen? ⟨w.heap.size, 1, none⟩ = false ∧ wr.frozen? ⟨w.heap.size, 2, none⟩ = false ∧ ReadsC wr (.slice p0 cc.vars.length t0) (.slice p1 cc.arrays.length t1) (.slice p2 cc.list.length t2) cc ∧ (∀ q, ReadB (.slice p0 cc.vars.length t0) (.slice p1 cc.arrays.length t1) (.slice p2 cc.list.length t2) cc q → ¬ q = w.heap.size) ∧ Chg (fun q => q = w.heap.size) w1 wr)
    case atStart => exact ⟨c, a0, c0, a1, c1, a2, c2, HO, Lib.hid rfl, Nat.le_refl _, m0, m1, m2, mf0, mf1, mf2, hr, hnb, Chg.refl _ _⟩
    case round =>
      obtain ⟨cc, p0, t0, p1, t1, p2, t2, HOK, HRM, hgk, m0, m1, m2, mf0, mf1, mf2, rc, hnb, hC⟩ := hrel
      obtain ⟨wO, rfl⟩ : ∃ X, X = wr := ⟨_, rfl⟩
      have hzO := hC.size
      obtain ⟨l1, l2⟩ := codeOk_len HOK.out
      obtain ⟨l3, l4⟩ := declOk_len (codeOk_decl HOK.out)
      have iR := rc.lt
      have km := lt_of_cell m0
      have rr0 := chg_cell hC r0 (by omega); have qq0 := chg_froz hC (by omega) q0 (by omega)
      have rr1 := chg_cell hC r1 (by omega); have qq1 := chg_froz hC (by omega) q1 (by omega)
      have rr2 := chg_cell hC r2 (by omega); have qq2 := chg_froz hC (by omega) q2 (by omega)
      have HT2 := Lib.hid (HTOT.out.trans (hC.below w.heap.size HTOT.out.size (fun q hq h => by omega)))
      go_wp2_with fail
      refine (l12Live_any _ _ _ cc _ rc HOK.out).mono ?_
      rintro e w4 ⟨u, us, rfl, oL, hb4⟩
      have hz4 := hb4.size
      obtain ⟨pL, tL, rfl⟩ := oL.shape
      have hI : InvL cc (liveOf cc) := swps_inv cc _
      have hll := hI.len
      have hlr := hI.rows
      have HLL := Lib.hid hll; have HLR := Lib.hid hlr
      clear hll hlr hI
      have n0 := kept_cell hb4 m0
      have n1 := kept_cell hb4 m1
      have n2 := kept_cell hb4 m2
      have kn := lt_of_cell n0
      have r4 := rc.below hb4
      have rL := oL.reads (by have := HLL.out; omega) (fun k r h => by obtain ⟨h1, rfl⟩ := List.getElem?_eq_some_iff.1 h; have := HLR.out k h1; omega)
      have hrl := r4.l
      obtain ⟨_, hn, aa, cap, b, off, hv, hcap, ha, hca⟩ := hrl
      simp only [Value.slice.injEq, true_and] at hv
      obtain ⟨rfl, rfl⟩ := hv
      obtain ⟨rfl, hbs⟩ := ha (by omega)
      have HC := Lib.hid (reads_Instr hca)
      have HIN := Lib.hid (fun k hk => codeOk_all HOK.out k hk)
      have HAF := Lib.hid (fun (i : Nat) (hi : i < cc.list.length) W (hW : Below w4.heap.size w4 W) => by
        have h := l12After_any _ _ _ _ cc (liveOf cc) i W (r4.below hW) (rL.below hW) HLL.out HLR.out HOK.out hi
        rw [show aft (liveOf cc) (nxt cc.list[i] i) = tab (aftF (liveOf cc) (flw cc.list[i] i)) from by rw [← aft_same]; rfl] at h
        exact h)
      have oD := own_nil_rows w4 4 1
      have hD0 := bal (bself w4) (.cells #[] 4)
      clear hca ha rL oL
      go_wp2_with fail
      go_loopw [5, 6, 7] (fun dv sv iv wr => ∃ k : Nat, k ≤ cc.list.length ∧ (∃ pd td, dv = .slice pd k td) ∧ sv = .bool ((deds cc k).any id) ∧ iv = .int .i64 k ∧ wr.ownsRow w4.heap.size 4 1 dv k (bools (deds cc k)) ∧ Below w4.heap.size w4 wr) (fun _ _ iv _ => cc.list.length - (intOf iv).toNat)
      case atStart => exact ⟨0, Nat.zero_le _, ⟨_, _, rfl⟩, rfl, rfl, oD, hD0⟩
      case round =>
        obtain ⟨k, hk, ⟨pd, td, rfl⟩, rfl, rfl, o2, hB⟩ := hrel
        have hz6 := hB.size
        clear oD hD0
        have nn0 := kept_cell hB n0
        have nn1 := kept_cell hB n1
        have nn2 := kept_cell hB n2
        have kn0 := lt_of_cell nn0
        by_cases hlt : k < cc.list.length
        · obtain ⟨e0, e1, e2, e3, e4⟩ := HC.out k hlt
          replace e0 := kept_cell hB e0
          replace e1 := kept_cell hB e1
          replace e2 := kept_cell hB e2
          replace e3 := kept_cell hB e3
          replace e4 := kept_cell hB e4
          have hda := dedAt_at cc k hlt
          have hin := HIN.out k hlt
          have hsu := any_succ cc k
          have HA1 := HAF.out k hlt
          have HA2 := Lib.hid (fun W (hW : Below wr.heap.size wr W) => HA1 W (btr hB hW))
          clear HA1
          generalize hxx : cc.list[k] = x at *
          obtain ⟨A, hA⟩ : ∃ A, aftF (liveOf cc) (flw x k) = A := ⟨_, rfl⟩
          rw [hA] at hda
          have HA3 := Lib.hid (fun W (hW : Below wr.heap.size wr W) => by have h := HA2.out W hW; rw [hA] at h; exact h)
          have HDA := Lib.hid hda
          have HDE := Lib.hid (fun (v : Value) (W : World) (hv : Reads W 1 v 14 (bools (tab A))) => l12Dead_any x.op x.a x.b x.c x.d v A W hv (fun h => ded_in hin h))
          have HSU := Lib.hid hsu
          clear hda hin hxx hA HA2 hsu
          have ke := lt_of_cell e0
          have hqk : (k : Int) < (cc.list.length : Int) := by omega
          have HSS := Lib.hid (show ∀ W', Below wr.heap.size wr W' → (fun W' => W'.cell? ⟨b, off + k * 5, none⟩ = some (.int .i64 x.op) ∧ W'.cell? ⟨b, off + k * 5 + 1, none⟩ = some (.int .i64 x.a) ∧ W'.cell? ⟨b, off + k * 5 + 2, none⟩ = some (.int .i64 x.b) ∧ W'.cell? ⟨b, off + k * 5 + 3, none⟩ = some (.int .i64 x.c) ∧ W'.cell? ⟨b, off + k * 5 + 4, none⟩ = some (.int .i64 x.d) ∧ W'.cell? ⟨w.heap.size, 0, none⟩ = some (.slice p0 cc.vars.length t0) ∧ W'.cell? ⟨w.heap.size, 1, none⟩ = some (.slice p1 cc.arrays.length t1) ∧ W'.cell? ⟨w.heap.size, 2, none⟩ = some (.slice (some ⟨b, off, none⟩) cc.list.length t2)) W' from fun W' h => ⟨kept_cell h e0, kept_cell h e1, kept_cell h e2, kept_cell h e3, kept_cell h e4, kept_cell h nn0, kept_cell h nn1, kept_cell h nn2⟩)
          go_upto_region 9 with (fail)
          have D := Below.drew (bself wr)
          go_cut [8] (fun s wx => s = .bool (dedAt cc k) ∧ Below wr.heap.size wr wx)
          case first =>
            go_region_held3 (fun W' => W'.cell? ⟨b, off + k * 5, none⟩ = some (.int .i64 x.op) ∧ W'.cell? ⟨b, off + k * 5 + 1, none⟩ = some (.int .i64 x.a) ∧ W'.cell? ⟨b, off + k * 5 + 2, none⟩ = some (.int .i64 x.b) ∧ W'.cell? ⟨b, off + k * 5 + 3, none⟩ = some (.int .i64 x.c) ∧ W'.cell? ⟨b, off + k * 5 + 4, none⟩ = some (.int .i64 x.d) ∧ W'.cell? ⟨w.heap.size, 0, none⟩ = some (.slice p0 cc.vars.length t0) ∧ W'.cell? ⟨w.heap.size, 1, none⟩ = some (.slice p1 cc.arrays.length t1) ∧ W'.cell? ⟨w.heap.size, 2, none⟩ = some (.slice (some ⟨b, off, none⟩) cc.list.length t2)) (first | exact HSS.out _ (btr (btr D ba) bb) | exact HSS.out _ (btr D ba) | exact HSS.out _ D) (first | (go_at_call 108; refine (HA3.out _ D).mono ?_; rintro e wa ⟨ga, rfl, oa, ba⟩) | (go_at_call 116; refine (HDE.out _ _ (reads_of_owns oa (by omega))).mono ?_; rintro e wb ⟨rfl, bb⟩))
            all_goals (go_wp2_with fail; go_meet; exact ⟨by rw [HDA.out], btr (btr D ba) bb⟩)
          obtain ⟨w7, rfl⟩ : ∃ W, W = wc := ⟨_, rfl⟩
          obtain ⟨rfl, hb7⟩ := hcut
          have hz7 := hb7.size
          have o3 := own_below o2 hb7
          have hB7 := btr hB hb7
          have i3 := o3.lt
          clear e0 e1 e2 e3 e4 D HA3 HDE HSS HDA o2 hb7 nn0 nn1 nn2 kn0 ke HC HIN HAF hB
          obtain ⟨z, hz⟩ : ∃ z, dedAt cc k = z := ⟨_, rfl⟩
          obtain ⟨sb, hsb⟩ : ∃ sb, (deds cc k).any id = sb := ⟨_, rfl⟩
          have HSU2 : Hid ((deds cc (k + 1)).any id = (sb || z)) := Lib.hid (by rw [HSU.out, hz, hsb])
          have HDS : Hid (deds cc (k + 1) = deds cc k ++ [z]) := Lib.hid (by rw [deds_succ, hz])
          rw [hz, hsb]
          clear hz hsb HSU
          go_wp2_with (at_builtin; refine wpList_ap tBools rfl _ _ rfl w4.heap.size _ k _ rfl o3 [.bool z] rfl rfl (one_bools [z]) (by omega) (by omega) ?_)
          intro g9 c9 wz o9 hc9 hg9
          have hB9 := hB7.trans (hc9.below w4.heap.size hB7.size (fun q hq h => by have := i3 q h; omega))
          rw [show bools (deds cc k) ++ [Value.bool z] = bools (deds cc (k + 1)) from by rw [HDS.out, bools_append]; rfl] at o9
          clear o3 hB7 i3 hc9 hg9 HDS
          cases sb with
          | true =>
            go_wp2
            go_roundw
            case rel => exact ⟨k + 1, by omega, ⟨_, _, rfl⟩, by rw [HSU2.out]; rfl, by go_num, o9, hB9⟩
            case measure => simp [intOf]; omega
          | false =>
            go_wp2
            go_roundw
            case rel => exact ⟨k + 1, by omega, ⟨_, _, rfl⟩, by rw [HSU2.out]; rfl, by go_num, o9, hB9⟩
            case measure => simp [intOf]; omega
        · have ek : k = cc.list.length := by omega
          subst ek
          obtain ⟨w6, rfl⟩ : ∃ X, X = wr := ⟨_, rfl⟩
          have hBO := btr hb4 hB
          have nf0 := kept_froz hB (lt_of_cell n0) (kept_froz hb4 (lt_of_cell m0) mf0)
          have qx0 := kept_froz hBO (lt_of_cell rr0) qq0; have rx0 := kept_cell hBO rr0
          have nf1 := kept_froz hB (lt_of_cell n1) (kept_froz hb4 (lt_of_cell m1) mf1)
          have qx1 := kept_froz hBO (lt_of_cell rr1) qq1; have rx1 := kept_cell hBO rr1
          have nf2 := kept_froz hB (lt_of_cell n2) (kept_froz hb4 (lt_of_cell m2) mf2)
          have qx2 := kept_froz hBO (lt_of_cell rr2) qq2; have rx2 := kept_cell hBO rr2
          have r6 := r4.below hB
          have T6 := btr HT2.out hBO
          have rD := reads_of_owns o2 (by omega)
          have HDL : Hid ((deds cc cc.list.length).length = cc.list.length) := Lib.hid (deds_len _ _)
          have rD2 : Reads w6 1 (.slice pd cc.list.length td) (deds cc cc.list.length).length (bools (deds cc cc.list.length)) := by rw [HDL.out]; exact rD
          have hCP := hC.trans (Chg.of_below (S := fun q => q = w.heap.size) hBO)
          have hz66 := hBO.size
          rw [← anyDed_eq cc]
          clear rD HC HIN HAF hC hB hb4 hBO n0 n1 n2 o2 r4 rc
          cases had : anyDed cc with
          | false =>
            have HF : Hid (R = (cc, true)) := Lib.hid (by rw [HR.out, ← HRM.out, remOf_no had])
            clear had rD2 hCP
            go_wp2_with fail
            refine (l8Copy_any _ _ _ cc _ r6 (by omega) (by omega) (by omega)).mono ?_
            rintro e w8 ⟨v0, v1, v2, rfl, o8, hb8⟩
            obtain ⟨b0, s0, b1, s1, b2, s2, rfl, rfl, rfl⟩ := o8.shape
            have i8 := o8.lt
            have hz8 := hb8.size
            replace T6 := btr T6 hb8
            replace qx0 := kept_froz hb8 (lt_of_cell rx0) qx0; replace rx0 := kept_cell hb8 rx0
            replace qx1 := kept_froz hb8 (lt_of_cell rx1) qx1; replace rx1 := kept_cell hb8 rx1
            replace qx2 := kept_froz hb8 (lt_of_cell rx2) qx2; replace rx2 := kept_cell hb8 rx2
            have x0 := (cell_ne (b := (w.heap.size + 1)) (j := 2) (cell_ne (b := (w.heap.size + 1)) (j := 1) (cell_at _ (w.heap.size + 1) 0 (.slice b0 cc.vars.length s0) rx0) (by omega) (.slice b1 cc.arrays.length s1)) (by omega) (.slice b2 cc.list.length s2))
            have x1 := (cell_ne (b := (w.heap.size + 1)) (j := 2) (cell_at _ (w.heap.size + 1) 1 (.slice b1 cc.arrays.length s1) (cell_ne (b := (w.heap.size + 1)) (j := 0) rx1 (by omega) (.slice b0 cc.vars.length s0))) (by omega) (.slice b2 cc.list.length s2))
            have x2 := (cell_at _ (w.heap.size + 1) 2 (.slice b2 cc.list.length s2) (cell_ne (b := (w.heap.size + 1)) (j := 1) (cell_ne (b := (w.heap.size + 1)) (j := 0) rx2 (by omega) (.slice b0 cc.vars.length s0)) (by omega) (.slice b1 cc.arrays.length s1)))
            have kr8 := lt_of_cell rx0
            have tz := (bst (bst (bst T6 (w.heap.size + 1) 0 (by omega) (.slice b0 cc.vars.length s0)) (w.heap.size + 1) 1 (by omega) (.slice b1 cc.arrays.length s1)) (w.heap.size + 1) 2 (by omega) (.slice b2 cc.list.length s2))
            have yo := o8.keep ((((Chg.refl (fun q => q = (w.heap.size + 1)) w8).setCell (w.heap.size + 1) 0 (.slice b0 cc.vars.length s0) (fun _ => rfl)).setCell (w.heap.size + 1) 1 (.slice b1 cc.arrays.length s1) (fun _ => rfl)).setCell (w.heap.size + 1) 2 (.slice b2 cc.list.length s2) (fun _ => rfl)) (fun q h e => by have := i8 q h; omega)
            clear o8 T6 hb8 r6
            go_wp2
            exact bodyPost_ret (v := .tuple #[.agg #[.slice b0 cc.vars.length s0, .slice b1 cc.arrays.length s1, .slice b2 cc.list.length s2], .bool true]) (by simp [results, Try.results55, go_sem, x0, x1, x2]) rfl (by rw [HF.out]; exact ⟨_, _, _, rfl, yo.mono (by omega), tz⟩)
          | true =>
            have HG1 : Hid (remOf (rem1 cc) = remOf c) := Lib.hid (by rw [← remOf_yes had]; exact HRM.out)
            have hlen := rem1_len had
            have HOK2 := Lib.hid (rem1_ok HOK.out)
            have HLE := Lib.hid hlen
            have HL2 := Lib.hid (codeOk_len (rem1_ok HOK.out)); have HL3 := Lib.hid (declOk_len (codeOk_decl (rem1_ok HOK.out)))
            clear had hlen
            go_wp2_with fail
            refine (l12Drop_any _ _ _ _ cc _ _ r6 rD2 HDL.out HOK.out).mono ?_
            rintro e w8 ⟨v0, v1, v2, rfl, o8, hb8⟩
            rw [dOf_deds cc] at o8
            obtain ⟨b0, s0, b1, s1, b2, s2, rfl, rfl, rfl⟩ := o8.shape
            have i8 := o8.lt
            have hz8 := hb8.size
            have rB := readB_own o8
            replace nf0 := kept_froz hb8 (by omega) nf0; replace nn0 := kept_cell hb8 nn0
            replace nf1 := kept_froz hb8 (by omega) nf1; replace nn1 := kept_cell hb8 nn1
            replace nf2 := kept_froz hb8 (by omega) nf2; replace nn2 := kept_cell hb8 nn2
            have x0 := (cell_ne (b := w.heap.size) (j := 2) (cell_ne (b := w.heap.size) (j := 1) (cell_at _ w.heap.size 0 (.slice b0 (rem1 cc).vars.length s0) nn0) (by omega) (.slice b1 (rem1 cc).arrays.length s1)) (by omega) (.slice b2 (rem1 cc).list.length s2))
            have x1 := (cell_ne (b := w.heap.size) (j := 2) (cell_at _ w.heap.size 1 (.slice b1 (rem1 cc).arrays.length s1) (cell_ne (b := w.heap.size) (j := 0) nn1 (by omega) (.slice b0 (rem1 cc).vars.length s0))) (by omega) (.slice b2 (rem1 cc).list.length s2))
            have x2 := (cell_at _ w.heap.size 2 (.slice b2 (rem1 cc).list.length s2) (cell_ne (b := w.heap.size) (j := 1) (cell_ne (b := w.heap.size) (j := 0) nn2 (by omega) (.slice b0 (rem1 cc).vars.length s0)) (by omega) (.slice b1 (rem1 cc).arrays.length s1)))
            have xf0 := (froz_st (b := ⟨w.heap.size, 2, none⟩) (froz_st (b := ⟨w.heap.size, 1, none⟩) (froz_st (b := ⟨w.heap.size, 0, none⟩) nf0 (.slice b0 (rem1 cc).vars.length s0)) (.slice b1 (rem1 cc).arrays.length s1)) (.slice b2 (rem1 cc).list.length s2))
            have xf1 := (froz_st (b := ⟨w.heap.size, 2, none⟩) (froz_st (b := ⟨w.heap.size, 1, none⟩) (froz_st (b := ⟨w.heap.size, 0, none⟩) nf1 (.slice b0 (rem1 cc).vars.length s0)) (.slice b1 (rem1 cc).arrays.length s1)) (.slice b2 (rem1 cc).list.length s2))
            have xf2 := (froz_st (b := ⟨w.heap.size, 2, none⟩) (froz_st (b := ⟨w.heap.size, 1, none⟩) (froz_st (b := ⟨w.heap.size, 0, none⟩) nf2 (.slice b0 (rem1 cc).vars.length s0)) (.slice b1 (rem1 cc).arrays.length s1)) (.slice b2 (rem1 cc).list.length s2))
            have yo := o8.keep ((((Chg.refl (fun q => q = w.heap.size) w8).setCell w.heap.size 0 (.slice b0 (rem1 cc).vars.length s0) (fun _ => rfl)).setCell w.heap.size 1 (.slice b1 (rem1 cc).arrays.length s1) (fun _ => rfl)).setCell w.heap.size 2 (.slice b2 (rem1 cc).list.length s2) (fun _ => rfl)) (fun q h e => by have := i8 q h; omega)
            have yr := yo.reads (by have := HL3.out; omega) (by have := HL3.out; omega) (by have := HL2.out; omega)
            have yc := (((hCP.trans (Chg.of_below (S := fun q => q = w.heap.size) hb8)).setCell w.heap.size 0 (.slice b0 (rem1 cc).vars.length s0) (fun _ => rfl)).setCell w.heap.size 1 (.slice b1 (rem1 cc).arrays.length s1) (fun _ => rfl)).setCell w.heap.size 2 (.slice b2 (rem1 cc).list.length s2) (fun _ => rfl)
            have hnb8 : ∀ q, ReadB (.slice b0 (rem1 cc).vars.length s0) (.slice b1 (rem1 cc).arrays.length s1) (.slice b2 (rem1 cc).list.length s2) (rem1 cc) q → ¬ q = w.heap.size := fun q h e => by have := rB q h; omega
            have kk := lt_of_cell nn0
            clear o8 hCP T6 hb8 r6 rD2 yo i8
            go_wp2
            go_roundg (gk - 1)
            case measure => have := HLE.out; omega
            case rel => exact ⟨rem1 cc, b0, s0, b1, s1, b2, s2, HOK2, HG1, by have := HLE.out; omega, x0, x1, x2, xf0, xf1, xf2, yr, hnb8, yc⟩
end Go.Proofs.Ytkbbpnfhenoihaa
