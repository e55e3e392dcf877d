/-
  CompactRegs of the reference.
-/
import Derived.Test.YtkbbpnfhenoihaaRP
import Derived.Test.YtkbbpnfhenoihaaRU
namespace Go.Proofs.Ytkbbpnfhenoihaa
open Go.RowKit

set_option maxHeartbeats 12800000 in
set_option maxRecDepth 100000 in
theorem sCompact_any (va vb vc : Value) (c : Cd) (w : World) (hr : ReadsC w va vb vc c) :
    Calls Try.prog 42 #[.agg #[va, vb, vc]] w fun e w' => ∃ ua ub uc, e = .returned (.tuple #[.agg #[ua, ub, uc], .bool (compactR c).2]) ∧ OwnC w' w.heap.size ua ub uc (compactR c).1 ∧ Below w.heap.size w w' := by
  obtain ⟨a0, c0, a1, c1, a2, c2, rfl, rfl, rfl⟩ := hr.shape
  have hER := fun h => compactR_no (c := c) h
  have hEY := fun h => compactR_yes (c := c) h
  generalize compactR c = R at *
  have HER := Lib.hid hER
  have HEY := Lib.hid hEY
  clear hER hEY
  have ivr := hr.lt
  go_enter Try.func42, Try.ntmps42
  go_wp2_with fail
  refine (sCodeValid_any _ _ _ c _ ((hr.below (bal (bself _) (.cells #[.slice a0 c.vars.length c0, .slice a1 c.arrays.length c1, .slice a2 c.list.length c2] 50))).below (bal (bself _) (.cells #[.slice none 0 0, .slice none 0 0, .slice none 0 0] 50)))).mono ?_
  rintro e w1 ⟨rfl, hb⟩
  have hsz1 := hb.size
  simp only [World.size_alloc] at hsz1
  replace hr := ((hr.below (bal (bself _) (.cells #[.slice a0 c.vars.length c0, .slice a1 c.arrays.length c1, .slice a2 c.list.length c2] 50))).below (bal (bself _) (.cells #[.slice none 0 0, .slice none 0 0, .slice none 0 0] 50))).below hb
  have bx2 : w1.cell? ⟨w.heap.size, 0, none⟩ = some (.slice a0 c.vars.length c0) := kept_cell hb (cell_al (cell_nw (by simp) (by rfl)) _)
  have bx3 : w1.cell? ⟨w.heap.size, 1, none⟩ = some (.slice a1 c.arrays.length c1) := kept_cell hb (cell_al (cell_nw (by simp) (by rfl)) _)
  have bx4 : w1.cell? ⟨w.heap.size, 2, none⟩ = some (.slice a2 c.list.length c2) := kept_cell hb (cell_al (cell_nw (by simp) (by rfl)) _)
  have bx5 : w1.cell? ⟨w.heap.size + 1, 0, none⟩ = some (.slice none 0 0) := kept_cell hb (cell_nw (by simp) (by rfl))
  have bf6 : w1.frozen? ⟨w.heap.size + 1, 0, none⟩ = false := kept_froz hb (by simp) (froz_nw (by simp))
  have bx7 : w1.cell? ⟨w.heap.size + 1, 1, none⟩ = some (.slice none 0 0) := kept_cell hb (cell_nw (by simp) (by rfl))
  have bf8 : w1.frozen? ⟨w.heap.size + 1, 1, none⟩ = false := kept_froz hb (by simp) (froz_nw (by simp))
  have bx9 : w1.cell? ⟨w.heap.size + 1, 2, none⟩ = some (.slice none 0 0) := kept_cell hb (cell_nw (by simp) (by rfl))
  have bf10 : w1.frozen? ⟨w.heap.size + 1, 2, none⟩ = false := kept_froz hb (by simp) (froz_nw (by simp))
  have tot := btr (bal (bal (bself w) (.cells #[.slice a0 c.vars.length c0, .slice a1 c.arrays.length c1, .slice a2 c.list.length c2] 50)) (.cells #[.slice none 0 0, .slice none 0 0, .slice none 0 0] 50)) hb
  clear hb
  have lt11 := lt_of_cell bx2
  have lt12 := lt_of_cell bx3
  have lt13 := lt_of_cell bx4
  have lt14 := lt_of_cell bx5
  have lt15 := lt_of_cell bx7
  have lt16 := lt_of_cell bx9
  cases hok : codeOk c
  · have HO := Lib.hid hok; clear hok hr
    have hR := HER.out HO.out
    have HR := Lib.hid hR; clear hR
    have x0 := (cell_ne (b := (w.heap.size + 1)) (j := 2) (cell_ne (b := (w.heap.size + 1)) (j := 1) (cell_at _ (w.heap.size + 1) 0 (.slice none 0 0) bx5) (by omega) (.slice none 0 0)) (by omega) (.slice none 0 0))
    have x1 := (cell_ne (b := (w.heap.size + 1)) (j := 2) (cell_at _ (w.heap.size + 1) 1 (.slice none 0 0) (cell_ne (b := (w.heap.size + 1)) (j := 0) bx7 (by omega) (.slice none 0 0))) (by omega) (.slice none 0 0))
    have x2 := (cell_at _ (w.heap.size + 1) 2 (.slice none 0 0) (cell_ne (b := (w.heap.size + 1)) (j := 1) (cell_ne (b := (w.heap.size + 1)) (j := 0) bx9 (by omega) (.slice none 0 0)) (by omega) (.slice none 0 0)))
    have tt := (bst (bst (bst tot (w.heap.size + 1) 0 (by omega) (.slice none 0 0)) (w.heap.size + 1) 1 (by omega) (.slice none 0 0)) (w.heap.size + 1) 2 (by omega) (.slice none 0 0))
    go_wp2
    exact bodyPost_ret (v := .tuple #[.agg #[.slice none 0 0, .slice none 0 0, .slice none 0 0], .bool false]) (by simp [results, Try.results42, go_sem, x0, x1, x2]) rfl (by rw [HR.out]; exact ⟨_, _, _, rfl, noCode_own _ _, tt⟩)
  have HO := Lib.hid hok; clear hok
  have hlen := codeOk_len HO.out
  have hdl := declOk_len (codeOk_decl HO.out)
  obtain ⟨l1, l2⟩ := hlen
  obtain ⟨l3, l4⟩ := hdl
  have onil := own_lit w1 #[] 0 3 rfl (by omega)
  go_wp2_with fail
  go_loopw [4, 5] (fun o t wr => ∃ r : Nat, r ≤ 14 ∧ t = .int .i64 r ∧ ∃ g cp, o = .slice (some ⟨g, 0, none⟩) r cp ∧ wr.ownsRow w1.heap.size 3 1 (.slice (some ⟨g, 0, none⟩) r cp) r (ints (List.replicate r (-1))) ∧ Below w1.heap.size w1 wr) (fun _ t _ => 14 - (intOf t).toNat)
  case atStart => exact ⟨0, Nat.zero_le _, rfl, _, _, rfl, onil, bal (bself w1) _⟩
  case round =>
    obtain ⟨r, hrl, rfl, gN, cN, rfl, nm, hb⟩ := hrel
    clear onil
    by_cases hlr : r < 14
    · have hzr := hb.size
      have hgi := nm.lt gN rfl
      go_wp2_with (at_builtin; refine wpList_ap tInts rfl _ _ rfl w1.heap.size _ r _ rfl nm [.int .i64 (-1)] rfl rfl (one_ints [-1]) (by omega) (by omega) ?_)
      intro g' c' wx ho' hc' hg'
      have hb2 := hb.trans (hc'.below w1.heap.size hzr (fun q hq h => by have e : gN = q := Option.some.inj h; omega))
      rw [show ints (List.replicate r (-1)) ++ [Value.int .i64 (-1)] = ints (List.replicate (r + 1) (-1)) from by rw [List.replicate_succ', ints_append]; rfl] at ho'
      clear nm hc' hg' hb
      go_wp2
      go_roundw
      case rel => exact ⟨r + 1, by omega, by go_num, _, _, rfl, ho', hb2⟩
      case measure => simp [intOf]; omega
    have e14 : r = 14 := by omega
    subst e14
    obtain ⟨w4, rfl⟩ : ∃ X, X = wr := ⟨_, rfl⟩
    rw [← nmT_nil] at nm
    clear hlr hrl
    have hsz17 := hb.size
    replace bf6 := kept_froz hb (lt_of_cell bx5) bf6
    replace bf8 := kept_froz hb (lt_of_cell bx7) bf8
    replace bf10 := kept_froz hb (lt_of_cell bx9) bf10
    replace hr := hr.below hb
    replace bx2 : w4.cell? ⟨w.heap.size, 0, none⟩ = some (.slice a0 c.vars.length c0) := kept_cell hb bx2
    replace bx3 : w4.cell? ⟨w.heap.size, 1, none⟩ = some (.slice a1 c.arrays.length c1) := kept_cell hb bx3
    replace bx4 : w4.cell? ⟨w.heap.size, 2, none⟩ = some (.slice a2 c.list.length c2) := kept_cell hb bx4
    replace bx5 : w4.cell? ⟨w.heap.size + 1, 0, none⟩ = some (.slice none 0 0) := kept_cell hb bx5
    replace bx7 : w4.cell? ⟨w.heap.size + 1, 1, none⟩ = some (.slice none 0 0) := kept_cell hb bx7
    replace bx9 : w4.cell? ⟨w.heap.size + 1, 2, none⟩ = some (.slice none 0 0) := kept_cell hb bx9
    replace tot := btr tot hb
    clear hb
    have iv18 := nm.lt
    have lt19 := lt_of_cell bx2
    have lt20 := lt_of_cell bx3
    have lt21 := lt_of_cell bx4
    have lt22 := lt_of_cell bx5
    have lt23 := lt_of_cell bx7
    have lt24 := lt_of_cell bx9
    go_wp2_with fail
    refine (l8Copy_any _ _ _ c _ hr (by omega) (by omega) (by omega)).mono ?_
    rintro e w5 ⟨u0, u1, u2, rfl, oc, hb⟩
    have hsz25 := hb.size
    replace bf6 := kept_froz hb (lt_of_cell bx5) bf6
    replace bf8 := kept_froz hb (lt_of_cell bx7) bf8
    replace bf10 := kept_froz hb (lt_of_cell bx9) bf10
    replace hr := hr.below hb
    replace bx2 : w5.cell? ⟨w.heap.size, 0, none⟩ = some (.slice a0 c.vars.length c0) := kept_cell hb bx2
    replace bx3 : w5.cell? ⟨w.heap.size, 1, none⟩ = some (.slice a1 c.arrays.length c1) := kept_cell hb bx3
    replace bx4 : w5.cell? ⟨w.heap.size, 2, none⟩ = some (.slice a2 c.list.length c2) := kept_cell hb bx4
    replace bx5 : w5.cell? ⟨w.heap.size + 1, 0, none⟩ = some (.slice none 0 0) := kept_cell hb bx5
    replace bx7 : w5.cell? ⟨w.heap.size + 1, 1, none⟩ = some (.slice none 0 0) := kept_cell hb bx7
    replace bx9 : w5.cell? ⟨w.heap.size + 1, 2, none⟩ = some (.slice none 0 0) := kept_cell hb bx9
    replace nm := own_below nm hb
    replace tot := btr tot hb
    clear hb
    have hbas := oc.lt
    obtain ⟨g2, t2, hgv⟩ := own_pos oc.l (by omega)
    obtain ⟨p0, t0, hpv⟩ := own_shape oc.a
    obtain ⟨p1, t1, hqv⟩ := own_shape oc.b
    subst hgv hpv hqv
    have iv26 := oc.lt
    go_wp2
    obtain ⟨w6, hnw⟩ : ∃ X, X = (World.alloc w5 (.cells #[.slice p0 c.vars.length t0, .slice p1 c.arrays.length t1, .slice (some ⟨g2, 0, none⟩) c.list.length t2] 50)) := ⟨_, rfl⟩
    have hb : Below (World.alloc w5 (.cells #[.slice p0 c.vars.length t0, .slice p1 c.arrays.length t1, .slice (some ⟨g2, 0, none⟩) c.list.length t2] 50)).heap.size (World.alloc w5 (.cells #[.slice p0 c.vars.length t0, .slice p1 c.arrays.length t1, .slice (some ⟨g2, 0, none⟩) c.list.length t2] 50)) w6 := by rw [hnw]; exact bself _
    have hsz27 := hb.size
    simp only [World.size_alloc] at hsz27
    replace bf6 := kept_froz hb (lt_of_cell (cell_al bx5 (.cells #[.slice p0 c.vars.length t0, .slice p1 c.arrays.length t1, .slice (some ⟨g2, 0, none⟩) c.list.length t2] 50))) (froz_al (lt_of_cell bx5) bf6 (.cells #[.slice p0 c.vars.length t0, .slice p1 c.arrays.length t1, .slice (some ⟨g2, 0, none⟩) c.list.length t2] 50))
    replace bf8 := kept_froz hb (lt_of_cell (cell_al bx7 (.cells #[.slice p0 c.vars.length t0, .slice p1 c.arrays.length t1, .slice (some ⟨g2, 0, none⟩) c.list.length t2] 50))) (froz_al (lt_of_cell bx7) bf8 (.cells #[.slice p0 c.vars.length t0, .slice p1 c.arrays.length t1, .slice (some ⟨g2, 0, none⟩) c.list.length t2] 50))
    replace bf10 := kept_froz hb (lt_of_cell (cell_al bx9 (.cells #[.slice p0 c.vars.length t0, .slice p1 c.arrays.length t1, .slice (some ⟨g2, 0, none⟩) c.list.length t2] 50))) (froz_al (lt_of_cell bx9) bf10 (.cells #[.slice p0 c.vars.length t0, .slice p1 c.arrays.length t1, .slice (some ⟨g2, 0, none⟩) c.list.length t2] 50))
    replace hr := (hr.below (bal (bself _) (.cells #[.slice p0 c.vars.length t0, .slice p1 c.arrays.length t1, .slice (some ⟨g2, 0, none⟩) c.list.length t2] 50))).below hb
    replace bx2 : w6.cell? ⟨w.heap.size, 0, none⟩ = some (.slice a0 c.vars.length c0) := kept_cell hb (cell_al bx2 (.cells #[.slice p0 c.vars.length t0, .slice p1 c.arrays.length t1, .slice (some ⟨g2, 0, none⟩) c.list.length t2] 50))
    replace bx3 : w6.cell? ⟨w.heap.size, 1, none⟩ = some (.slice a1 c.arrays.length c1) := kept_cell hb (cell_al bx3 (.cells #[.slice p0 c.vars.length t0, .slice p1 c.arrays.length t1, .slice (some ⟨g2, 0, none⟩) c.list.length t2] 50))
    replace bx4 : w6.cell? ⟨w.heap.size, 2, none⟩ = some (.slice a2 c.list.length c2) := kept_cell hb (cell_al bx4 (.cells #[.slice p0 c.vars.length t0, .slice p1 c.arrays.length t1, .slice (some ⟨g2, 0, none⟩) c.list.length t2] 50))
    replace bx5 : w6.cell? ⟨w.heap.size + 1, 0, none⟩ = some (.slice none 0 0) := kept_cell hb (cell_al bx5 (.cells #[.slice p0 c.vars.length t0, .slice p1 c.arrays.length t1, .slice (some ⟨g2, 0, none⟩) c.list.length t2] 50))
    replace bx7 : w6.cell? ⟨w.heap.size + 1, 1, none⟩ = some (.slice none 0 0) := kept_cell hb (cell_al bx7 (.cells #[.slice p0 c.vars.length t0, .slice p1 c.arrays.length t1, .slice (some ⟨g2, 0, none⟩) c.list.length t2] 50))
    replace bx9 : w6.cell? ⟨w.heap.size + 1, 2, none⟩ = some (.slice none 0 0) := kept_cell hb (cell_al bx9 (.cells #[.slice p0 c.vars.length t0, .slice p1 c.arrays.length t1, .slice (some ⟨g2, 0, none⟩) c.list.length t2] 50))
    replace nm := own_below (own_below nm (bal (bself _) (.cells #[.slice p0 c.vars.length t0, .slice p1 c.arrays.length t1, .slice (some ⟨g2, 0, none⟩) c.list.length t2] 50))) hb
    replace oc := (oc.below (bal (bself _) (.cells #[.slice p0 c.vars.length t0, .slice p1 c.arrays.length t1, .slice (some ⟨g2, 0, none⟩) c.list.length t2] 50))).below hb
    have bx28 : w6.cell? ⟨w5.heap.size, 0, none⟩ = some (.slice p0 c.vars.length t0) := kept_cell hb (cell_nw (by simp) (by rfl))
    have bx29 : w6.cell? ⟨w5.heap.size, 1, none⟩ = some (.slice p1 c.arrays.length t1) := kept_cell hb (cell_nw (by simp) (by rfl))
    have bx30 : w6.cell? ⟨w5.heap.size, 2, none⟩ = some (.slice (some ⟨g2, 0, none⟩) c.list.length t2) := kept_cell hb (cell_nw (by simp) (by rfl))
    replace tot := btr (bal tot (.cells #[.slice p0 c.vars.length t0, .slice p1 c.arrays.length t1, .slice (some ⟨g2, 0, none⟩) c.list.length t2] 50)) hb
    clear hb
    rw [← hnw]
    clear hnw
    have hlo := iv26 g2 (Or.inr (Or.inr rfl))
    have hln := iv18 gN rfl
    have hac := own_diff oc.a oc.l (by decide)
    have hbc := own_diff oc.b oc.l (by decide)
    have lt31 := lt_of_cell bx2
    have lt32 := lt_of_cell bx3
    have lt33 := lt_of_cell bx4
    have lt34 := lt_of_cell bx5
    have lt35 := lt_of_cell bx7
    have lt36 := lt_of_cell bx9
    have lt37 := lt_of_cell bx28
    have lt38 := lt_of_cell bx29
    have lt39 := lt_of_cell bx30
    obtain ⟨b9, off9, hb9a, hb9, HCC⟩ : ∃ b' off, a2 = some ⟨b', off, none⟩ ∧ b' < w.heap.size ∧ Hid (∀ k (h : k < c.list.length), w6.cell? ⟨b', off + k * 5, none⟩ = some (.int .i64 c.list[k].op) ∧ w6.cell? ⟨b', off + k * 5 + 1, none⟩ = some (.int .i64 c.list[k].a) ∧ w6.cell? ⟨b', off + k * 5 + 2, none⟩ = some (.int .i64 c.list[k].b) ∧ w6.cell? ⟨b', off + k * 5 + 3, none⟩ = some (.int .i64 c.list[k].c) ∧ w6.cell? ⟨b', off + k * 5 + 4, none⟩ = some (.int .i64 c.list[k].d)) := by
      obtain ⟨_, hn', aa, cap', b', off, hvv, hcap, ha, hca⟩ := hr.l
      simp only [Value.slice.injEq, true_and] at hvv
      obtain ⟨rfl, rfl⟩ := hvv
      obtain ⟨rfl, hbs⟩ := ha (by omega)
      exact ⟨b', off, rfl, ivr b' (Or.inr (Or.inr ⟨off, _, by omega, rfl⟩)), Lib.hid (reads_Instr hca)⟩
    subst hb9a

    have oL := oc.l
    have hw6 := tot.size
    go_loopw [6, 8] (fun nx t wr => ∃ i : Nat, i ≤ c.list.length ∧ t = .int .i64 i ∧ nx = .int .i64 ((ordC [] (c.list.take i)).length : Nat) ∧ wr.ownsRow w1.heap.size 3 1 (.slice (some ⟨gN, 0, none⟩) 14 cN) 14 (ints (nmT (ordC [] (c.list.take i)))) ∧ wr.ownsRow w4.heap.size 98 5 (.slice (some ⟨g2, 0, none⟩) c.list.length t2) c.list.length (inss ((c.list.take i).map (cmpI (ordC [] c.list)) ++ c.list.drop i)) ∧ Chg (fun q => q = gN ∨ q = g2) w6 wr) (fun _ t _ => c.list.length - (intOf t).toNat)
    case atStart => exact ⟨0, Nat.zero_le _, rfl, rfl, nm, by simpa using oL, Chg.refl _ _⟩
    case round =>
      obtain ⟨i, hi, rfl, rfl, hnm, hro, hC⟩ := hrel
      obtain ⟨wO, rfl⟩ : ∃ X, X = wr := ⟨_, rfl⟩
      have hzr := hC.size
      clear nm oL
      have n2 := chg_cell hC bx4 (by omega)
      have o2 := chg_cell hC bx30 (by omega)
      have kn := lt_of_cell n2
      by_cases hlt : i < c.list.length
      · have hl2' : i < ((c.list.take i).map (cmpI (ordC [] c.list)) ++ c.list.drop i).length := by simp; omega
        obtain ⟨e0, e1, e2, e3, e4⟩ := HCC.out i hlt
        replace e0 := chg_cell hC e0 (by omega); replace e1 := chg_cell hC e1 (by omega); replace e2 := chg_cell hC e2 (by omega); replace e3 := chg_cell hC e3 (by omega); replace e4 := chg_cell hC e4 (by omega)
        have ke := lt_of_cell e0
        have hin := codeOk_all HO.out i hlt
        have hop := insOk_op hin
        have hkn := fun p hp => knl_in hin p hp
        have hOl := ordC_len c.list i
        have hsl : (shp c.list[i].op).length = 4 := shp_len (by omega)
        have HSL := Lib.hid hsl
        have HKN := Lib.hid hkn
        have hkl := knl_len c.list[i].op
        have HFI := Lib.hid (fun (k : Nat) (r : Int) h => idx_final (l := c.list) (i := i) hlt (k := k) (r := r) h)
        have HOC : Hid (ordC [] (c.list.take (i + 1)) = ordL (ordC [] (c.list.take i)) (rgsK c.list[i] 4)) := Lib.hid (ordC_succ [] c.list i hlt)
        have HMG := Lib.hid (fun j (hj : j < 5) => (own_row insc_len hro i hl2' j hj).trans (by rw [map_get (f := cmpI (ordC [] c.list)) c.list i hlt hl2']))
        have HMN := Lib.hid (fun y hy => map_next (f := cmpI (ordC [] c.list)) c.list i hlt y hy)
        obtain ⟨x, hx⟩ : ∃ x : Ins, x = c.list[i] := ⟨_, rfl⟩
        rw [← hx] at e0 e1 e2 e3 e4 hop hkl HSL HKN HFI HOC HMG HMN
        have HX := Lib.hid hx
        clear hin hkn hsl hx
        generalize ordC [] (c.list.take i) = Oi at *
        generalize hOF : ordC [] c.list = OF at *
        have HOF := Lib.hid hOF
        clear hOF
        have hq : (i : Int) < (c.list.length : Int) := by omega
        go_wp2_with fail
        refine (l6Parts_any x _).mono ?_
        rintro e w7 ⟨gP, rfl, hP, hb7⟩
        have hz7 := hb7.size
        have hgP := hP.lt gP rfl
        replace n2 := kept_cell hb7 n2
        replace o2 := kept_cell hb7 o2
        replace e0 := kept_cell hb7 e0
        replace hnm := own_below hnm hb7
        replace hro := own_below hro hb7
        have hC7 := hC.trans (Chg.of_below (S := fun q => q = gN ∨ q = g2) hb7)
        have kn7 := lt_of_cell n2
        have ke7 := lt_of_cell e0
        clear e1 e2 e3 e4 hb7 hC
        go_wp2_with fail
        refine (l12Kind_any x.op _ (by omega)).mono ?_
        rintro e w8 ⟨rfl, hb8⟩
        have hz8 := hb8.size
        replace n2 := kept_cell hb8 n2
        replace o2 := kept_cell hb8 o2
        replace e0 := kept_cell hb8 e0
        replace hnm := own_below hnm hb8
        replace hro := own_below hro hb8
        replace hP := own_below hP hb8
        have hC8 := hC7.trans (Chg.of_below (S := fun q => q = gN ∨ q = g2) hb8)
        clear hb8 hC7
        obtain ⟨S, hS⟩ : ∃ S : ByteArray, S = ⟨(knl x.op).toArray⟩ := ⟨_, rfl⟩
        rw [← hS]
        have HZ : Hid (S.size = (knl x.op).length) := Lib.hid (by rw [hS]; simp [ByteArray.size])
        have HG : Hid (∀ (k : Nat) (h : k < (knl x.op).length) (h' : k < S.size), S[k]'h' = (knl x.op)[k]) := Lib.hid (by subst hS; exact str_get _)
        clear hS
        have hP0 : w8.ownsRow wO.heap.size 3 1 (.slice (some ⟨gP, 0, none⟩) 4 4) 4 (ints (mixF OF x 0)) := by simpa [mixF] using hP
        have hnm0 : w8.ownsRow w1.heap.size 3 1 (.slice (some ⟨gN, 0, none⟩) 14 cN) 14 (ints (nmT (ordL Oi (rgsK x 0)))) := by simpa [rgsK, ordL] using hnm
        clear hP hnm
        go_wp2_with fail
        go_loopw [6, 11] (fun nx t wy => ∃ k : Nat, k ≤ (knl x.op).length ∧ t = .int .i64 k ∧ nx = .int .i64 ((ordL Oi (rgsK x k)).length : Nat) ∧ wy.ownsRow w1.heap.size 3 1 (.slice (some ⟨gN, 0, none⟩) 14 cN) 14 (ints (nmT (ordL Oi (rgsK x k)))) ∧ wy.ownsRow wO.heap.size 3 1 (.slice (some ⟨gP, 0, none⟩) 4 4) 4 (ints (mixF OF x k)) ∧ Chg (fun q => q = gN ∨ q = gP) w8 wy) (fun _ t _ => (knl x.op).length - (intOf t).toNat)
        case atStart => exact ⟨0, Nat.zero_le _, rfl, by simp [rgsK, ordL], hnm0, hP0, Chg.refl _ _⟩
        case round =>
          obtain ⟨k, hk, rfl, rfl, gnm, gP4, gC⟩ := hrel
          have hzy := gC.size
          clear hnm0 hP0
          by_cases hlk : k < (knl x.op).length
          · have hk4 : k < 4 := by omega
            have hff : k < (flds x).length := by simpa [flds] using hk4
            have hks : k < (shp x.op).length := by rw [HSL.out]; exact hk4
            have hm := mixF_at OF HSL.out k hk4
            obtain ⟨hmk, hme⟩ := List.getElem?_eq_some_iff.1 hm
            have hcl := gP4.cellAt k (by omega)
            rw [List.getElem?_eq_getElem (by rw [ints_length]; exact hmk), ints_get, hme] at hcl
            have hget := cmpF_get OF k hks hff (by rw [cmpF_len OF HSL.out]; exact hk4)
            have hset := fun v hv => mixF_set OF HSL.out k hk4 v hv
            have hsame := fun hv => mixF_same OF HSL.out k hk4 hv
            rw [hget] at hset hsame
            have hiff := knl_shp (op := x.op) (by omega) k hlk hks
            have hsu := rgsK_succ x k hks hff
            have hzk : k < (zk x).length := by rw [zk_len]; exact hlk
            have hreg := HKN.out _ (List.getElem_mem hzk)
            rw [zk_get x k hzk hlk hff] at hreg
            simp only at hreg
            have hSk : ∀ h', S[k]'h' = (knl x.op)[k] := HG.out k hlk
            have hsz1 : k < S.size := by rw [HZ.out]; exact hlk
            have hsz2 : (k : Int) < (S.size : Int) := by omega
            have hOl2 := ordL_len Oi (rgsK x k)
            have hrl2 := rgsK_len x k
            have hfin := HFI.out (k + 1)
            clear hm hmk hme hget
            generalize (knl x.op)[k] = kd at *
            generalize (shp x.op)[k] = sd at *
            generalize (flds x)[k] = fd at *
            by_cases hkd : kd = 48
            · have hsd : ¬ sd = 114 := fun h => (hiff.2 h) hkd
              have hk1 : ((kd.toNat : Int) != 48) = false := by subst hkd; rfl
              have HS2 : Hid (rgsK x (k + 1) = rgsK x k) := Lib.hid (by rw [hsu, if_neg hsd, List.append_nil])
              have hms := hsame (by rw [if_neg hsd])
              rw [hms] at gP4
              clear hkd hsd hiff hsu hset hsame hreg hms hfin
              go_wp2
              go_roundw
              case rel => exact ⟨k + 1, by omega, by go_num, by rw [HS2.out], by rw [HS2.out]; exact gnm, gP4, gC⟩
              case measure => simp [intOf]; omega
            · have hsd : sd = 114 := hiff.1 hkd
              have hk1 : ((kd.toNat : Int) != 48) = true := by
                simp only [bne_iff_ne, ne_eq]
                intro h
                exact hkd (UInt8.toNat_inj.1 (by simp; omega))
              obtain ⟨hr0, hr1⟩ := hreg hkd
              obtain ⟨nf, rfl⟩ : ∃ nf : Nat, fd = (nf : Int) := ⟨fd.toNat, by omega⟩
              have hn14 : nf < 14 := by omega
              rw [if_pos hsd] at hset hsu
              rw [hsu, ordL_snoc] at hfin
              have HS2 : Hid (ordL Oi (rgsK x (k + 1)) = ordS (ordL Oi (rgsK x k)) (nf : Int)) := Lib.hid (by rw [hsu, ordL_snoc])
              have hfin2 := hfin nf (by rw [ordS_mem]; simp)
              have hcn := gnm.cellAt nf (by omega)
              rw [List.getElem?_eq_getElem (by rw [ints_length, nmT_len]; exact hn14), ints_get, nmT_get] at hcn
              have hfn := gnm.frozenAt nf
              have hfp := gP4.frozenAt k
              clear hkd hsd hiff hsu hsame hreg hfin hr0 hr1
              generalize ordL Oi (rgsK x k) = Ok at *
              cases hct : Ok.contains (nf : Int) with
              | true =>
                have hz := idxI_has Ok (nf : Int)
                rw [hct] at hz
                have hz0 : ¬ idxI Ok (nf : Int) < 0 := by have := of_decide_eq_true hz; omega
                have HIN := Lib.hid (ordS_in hct)
                rw [ordS_in hct] at hfin2
                have hst := (gP4.stored k (.int .i64 (idxI Ok (nf : Int)))).1
                rw [intsP_set, hset _ hfin2.symm] at hst
                have hnm2 := own_set gnm gP k (fun h => by have e : gN = gP := Option.some.inj h; omega) (.int .i64 (idxI Ok (nf : Int)))
                have gC2 := gC.setCell gP k (.int .i64 (idxI Ok (nf : Int))) (fun _ => Or.inr rfl)
                generalize idxI Ok (nf : Int) = z at *
                clear hct hz hfin2 hset gnm gP4 gC
                go_wp2
                go_roundw
                case rel => exact ⟨k + 1, by omega, by go_num, by rw [HS2.out, HIN.out], by rw [HS2.out, HIN.out]; exact hnm2, hst, gC2⟩
                case measure => simp [intOf]; omega
              | false =>
                rw [idxI_none hct] at hcn
                have HNW := Lib.hid (ordS_new hct)
                rw [ordS_new hct, idxI_last hct] at hfin2
                have hnm1 := (gnm.stored nf (.int .i64 (Ok.length : Nat))).1
                rw [intsP_set, nmT_set hct] at hnm1
                have hcn1 := hnm1.cellAt nf (by omega)
                rw [List.getElem?_eq_getElem (by rw [ints_length, nmT_len]; exact hn14), ints_get, nmT_get, idxI_last hct] at hcn1
                have gP41 := own_set gP4 gN nf (fun h => by have e : gP = gN := Option.some.inj h; omega) (.int .i64 (Ok.length : Nat))
                have hcl1 := cell_ne (b := gN) (j := nf) hcl (by omega) (.int .i64 (Ok.length : Nat))
                have hfp1 := froz_st (b := ⟨gN, nf, none⟩) hfp (.int .i64 (Ok.length : Nat))
                have hst := (gP41.stored k (.int .i64 (Ok.length : Nat))).1
                rw [intsP_set, hset _ hfin2.symm] at hst
                have hnm2 := own_set hnm1 gP k (fun h => by have e : gN = gP := Option.some.inj h; omega) (.int .i64 (Ok.length : Nat))
                have gC2 := (gC.setCell gN nf (.int .i64 (Ok.length : Nat)) (fun _ => Or.inl rfl)).setCell gP k (.int .i64 (Ok.length : Nat)) (fun _ => Or.inr rfl)
                clear hct hfin2 hset gnm gP4 gC hnm1 gP41
                go_wp2
                go_roundw
                case rel => exact ⟨k + 1, by omega, by go_num, by rw [HS2.out, HNW.out, List.length_append]; go_num, by rw [HS2.out, HNW.out]; exact hnm2, hst, gC2⟩
                case measure => simp [intOf]; omega
          · have e : k = (knl x.op).length := by omega
            subst e
            have hrest := rest_all (x := x) (by omega) OF _ (Nat.le_refl _) hkl
            rw [hrest.1] at gnm
            rw [hrest.2, mixF_4 OF HSL.out] at gP4
            rw [hrest.1]
            clear hrest hlk
            have hks3 : ¬ (((knl x.op).length : Int) < (S.size : Int)) := by rw [HZ.out]; omega
            obtain ⟨wI, rfl⟩ : ∃ X, X = wr := ⟨_, rfl⟩
            have m2 := chg_cell gC n2 (by omega)
            have q2 := chg_cell gC o2 (by omega)
            have v0 := chg_cell gC e0 (by omega)
            have km2 := lt_of_cell m2
            have kq2 := lt_of_cell q2
            have kv0 := lt_of_cell v0
            have gro := own_keep hro gC (fun q hq h => by have e : g2 = q := Option.some.inj hq; omega)
            have d0 : wI.cell? ⟨g2, i * 5, none⟩ = some (.int .i64 x.op) := by rw [HX.out, ← map_get (f := cmpI OF) c.list i hlt hl2']; exact own_row insc_len gro i hl2' 0 (by omega)
            have d1 : wI.cell? ⟨g2, i * 5 + 1, none⟩ = some (.int .i64 x.a) := by rw [HX.out, ← map_get (f := cmpI OF) c.list i hlt hl2']; exact own_row insc_len gro i hl2' 1 (by omega)
            have d2 : wI.cell? ⟨g2, i * 5 + 2, none⟩ = some (.int .i64 x.b) := by rw [HX.out, ← map_get (f := cmpI OF) c.list i hlt hl2']; exact own_row insc_len gro i hl2' 2 (by omega)
            have d3 : wI.cell? ⟨g2, i * 5 + 3, none⟩ = some (.int .i64 x.c) := by rw [HX.out, ← map_get (f := cmpI OF) c.list i hlt hl2']; exact own_row insc_len gro i hl2' 3 (by omega)
            have d4 : wI.cell? ⟨g2, i * 5 + 4, none⟩ = some (.int .i64 x.d) := by rw [HX.out, ← map_get (f := cmpI OF) c.list i hlt hl2']; exact own_row insc_len gro i hl2' 4 (by omega)
            have l0 : wI.cell? ⟨gP, 0, none⟩ = some (.int .i64 (cmpI OF x).a) := by
              have h := gP4.cellAt 0 (by omega)
              simpa [ints, flds] using h
            have l1 : wI.cell? ⟨gP, 1, none⟩ = some (.int .i64 (cmpI OF x).b) := by
              have h := gP4.cellAt 1 (by omega)
              simpa [ints, flds] using h
            have l2 : wI.cell? ⟨gP, 2, none⟩ = some (.int .i64 (cmpI OF x).c) := by
              have h := gP4.cellAt 2 (by omega)
              simpa [ints, flds] using h
            have l3 : wI.cell? ⟨gP, 3, none⟩ = some (.int .i64 (cmpI OF x).d) := by
              have h := gP4.cellAt 3 (by omega)
              simpa [ints, flds] using h
            have f0 := gro.frozenAt (i * 5)
            have f1 := gro.frozenAt (i * 5 + 1)
            have f2 := gro.frozenAt (i * 5 + 2)
            have f3 := gro.frozenAt (i * 5 + 3)
            have f4 := gro.frozenAt (i * 5 + 4)
            have kl0 := lt_of_cell l0
            have kd0 := lt_of_cell d0
            have D := Below.drew (bself wI)
            have HST := own_set5 gro i hl2' (cmpI OF x)
            rw [HMN.out _ (by rw [HX.out])] at HST
            have gCt : Chg (fun q => q = gN ∨ q = g2) w6 wI := ⟨gC.os.trans hC8.os, gC.tape.trans hC8.tape, gC.output.trans hC8.output, by omega, fun q hq hn => (gC.block q (by omega) (fun h => by
              rcases h with h | h
              · exact hn (Or.inl h)
              · omega)).trans (hC8.block q hq hn)⟩
            have hopx : (cmpI OF x).op = x.op := rfl
            rw [hopx] at HST
            clear hopx gC hC8 gP4 n2 o2 e0 hro gro
            generalize (cmpI OF x).a = fa at *
            generalize (cmpI OF x).b = fb at *
            generalize (cmpI OF x).c = fc at *
            generalize (cmpI OF x).d = fd at *
            have s1 := own_below HST (Below.drew (bself _))
            have s2 := own_below (own_set (own_set (own_set (own_set (own_set gnm g2 (i * 5) (fun h => by have e : gN = g2 := Option.some.inj h; omega) (.int .i64 x.op)) g2 (i * 5 + 1) (fun h => by have e : gN = g2 := Option.some.inj h; omega) (.int .i64 fa)) g2 (i * 5 + 2) (fun h => by have e : gN = g2 := Option.some.inj h; omega) (.int .i64 fb)) g2 (i * 5 + 3) (fun h => by have e : gN = g2 := Option.some.inj h; omega) (.int .i64 fc)) g2 (i * 5 + 4) (fun h => by have e : gN = g2 := Option.some.inj h; omega) (.int .i64 fd)) (Below.drew (bself _))
            have s5 := Chg.trans (((((gCt.setCell g2 (i * 5) (.int .i64 x.op) (fun _ => Or.inr rfl)).setCell g2 (i * 5 + 1) (.int .i64 fa) (fun _ => Or.inr rfl)).setCell g2 (i * 5 + 2) (.int .i64 fb) (fun _ => Or.inr rfl)).setCell g2 (i * 5 + 3) (.int .i64 fc) (fun _ => Or.inr rfl)).setCell g2 (i * 5 + 4) (.int .i64 fd) (fun _ => Or.inr rfl)) (Chg.of_below (Below.drew (bself _)))
            have H1 := Lib.hid s1
            have H2 := Lib.hid s2
            have H5 := Lib.hid s5
            have HSS := Lib.hid (show ∀ W', Below wI.heap.size wI W' → (fun W' => W'.cell? ⟨w.heap.size, 2, none⟩ = some (.slice (some ⟨b9, off9, none⟩) c.list.length c2) ∧ W'.cell? ⟨w5.heap.size, 2, none⟩ = some (.slice (some ⟨g2, 0, none⟩) c.list.length t2) ∧ W'.cell? ⟨b9, off9 + i * 5, none⟩ = some (.int .i64 x.op) ∧ W'.cell? ⟨gP, 0, none⟩ = some (.int .i64 fa) ∧ W'.cell? ⟨gP, 1, none⟩ = some (.int .i64 fb) ∧ W'.cell? ⟨gP, 2, none⟩ = some (.int .i64 fc) ∧ W'.cell? ⟨gP, 3, none⟩ = some (.int .i64 fd)) W' from fun W' h => ⟨kept_cell h m2, kept_cell h q2, kept_cell h v0, kept_cell h l0, kept_cell h l1, kept_cell h l2, kept_cell h l3⟩)
            have HKP := And.intro (kept_cell (Below.drew (bself _)) (cell_ne (b := g2) (j := i * 5 + 4) (cell_ne (b := g2) (j := i * 5 + 3) (cell_ne (b := g2) (j := i * 5 + 2) (cell_ne (b := g2) (j := i * 5 + 1) (cell_ne (b := g2) (j := i * 5) m2 (by omega) (.int .i64 x.op)) (by omega) (.int .i64 fa)) (by omega) (.int .i64 fb)) (by omega) (.int .i64 fc)) (by omega) (.int .i64 fd))) (And.intro (kept_cell (Below.drew (bself _)) (cell_ne (b := g2) (j := i * 5 + 4) (cell_ne (b := g2) (j := i * 5 + 3) (cell_ne (b := g2) (j := i * 5 + 2) (cell_ne (b := g2) (j := i * 5 + 1) (cell_ne (b := g2) (j := i * 5) q2 (by omega) (.int .i64 x.op)) (by omega) (.int .i64 fa)) (by omega) (.int .i64 fb)) (by omega) (.int .i64 fc)) (by omega) (.int .i64 fd))) (And.intro (kept_cell (Below.drew (bself _)) (cell_ne (b := g2) (j := i * 5 + 4) (cell_ne (b := g2) (j := i * 5 + 3) (cell_ne (b := g2) (j := i * 5 + 2) (cell_ne (b := g2) (j := i * 5 + 1) (cell_ne (b := g2) (j := i * 5) v0 (by omega) (.int .i64 x.op)) (by omega) (.int .i64 fa)) (by omega) (.int .i64 fb)) (by omega) (.int .i64 fc)) (by omega) (.int .i64 fd))) (And.intro (kept_cell (Below.drew (bself _)) (cell_ne (b := g2) (j := i * 5 + 4) (cell_ne (b := g2) (j := i * 5 + 3) (cell_ne (b := g2) (j := i * 5 + 2) (cell_ne (b := g2) (j := i * 5 + 1) (cell_ne (b := g2) (j := i * 5) l0 (by omega) (.int .i64 x.op)) (by omega) (.int .i64 fa)) (by omega) (.int .i64 fb)) (by omega) (.int .i64 fc)) (by omega) (.int .i64 fd))) (And.intro (kept_cell (Below.drew (bself _)) (cell_ne (b := g2) (j := i * 5 + 4) (cell_ne (b := g2) (j := i * 5 + 3) (cell_ne (b := g2) (j := i * 5 + 2) (cell_ne (b := g2) (j := i * 5 + 1) (cell_ne (b := g2) (j := i * 5) l1 (by omega) (.int .i64 x.op)) (by omega) (.int .i64 fa)) (by omega) (.int .i64 fb)) (by omega) (.int .i64 fc)) (by omega) (.int .i64 fd))) (And.intro (kept_cell (Below.drew (bself _)) (cell_ne (b := g2) (j := i * 5 + 4) (cell_ne (b := g2) (j := i * 5 + 3) (cell_ne (b := g2) (j := i * 5 + 2) (cell_ne (b := g2) (j := i * 5 + 1) (cell_ne (b := g2) (j := i * 5) l2 (by omega) (.int .i64 x.op)) (by omega) (.int .i64 fa)) (by omega) (.int .i64 fb)) (by omega) (.int .i64 fc)) (by omega) (.int .i64 fd))) (kept_cell (Below.drew (bself _)) (cell_ne (b := g2) (j := i * 5 + 4) (cell_ne (b := g2) (j := i * 5 + 3) (cell_ne (b := g2) (j := i * 5 + 2) (cell_ne (b := g2) (j := i * 5 + 1) (cell_ne (b := g2) (j := i * 5) l3 (by omega) (.int .i64 x.op)) (by omega) (.int .i64 fa)) (by omega) (.int .i64 fb)) (by omega) (.int .i64 fc)) (by omega) (.int .i64 fd))))))))
            have HKQ := Lib.hid HKP
            clear HKP
            clear HST gnm gCt s1 s2 s5 m2 q2 v0 l0 l1 l2 l3 km2 kq2 kv0 kl0 HMG HKN HFI HG
            go_upto_region 23 with (fail)
            go_region_held3 (fun W' => W'.cell? ⟨w.heap.size, 2, none⟩ = some (.slice (some ⟨b9, off9, none⟩) c.list.length c2) ∧ W'.cell? ⟨w5.heap.size, 2, none⟩ = some (.slice (some ⟨g2, 0, none⟩) c.list.length t2) ∧ W'.cell? ⟨b9, off9 + i * 5, none⟩ = some (.int .i64 x.op) ∧ W'.cell? ⟨gP, 0, none⟩ = some (.int .i64 fa) ∧ W'.cell? ⟨gP, 1, none⟩ = some (.int .i64 fb) ∧ W'.cell? ⟨gP, 2, none⟩ = some (.int .i64 fc) ∧ W'.cell? ⟨gP, 3, none⟩ = some (.int .i64 fd)) (first | exact HSS.out _ D | exact HKQ.out) (fail)
            all_goals
              go_wp2
              go_roundw
              case rel => exact ⟨i + 1, by omega, by go_num, by rw [HOC.out], by rw [HOC.out]; exact H2.out, H1.out, H5.out⟩
              case measure => simp [intOf]; omega
      · have e : i = c.list.length := by omega
        subst e
        rw [List.take_length, List.drop_length, List.append_nil] at hro
        have n1 := chg_cell hC bx29 (by omega)
        have n0 := chg_cell hC bx28 (by omega)
        have s0 := chg_cell hC bx5 (by omega)
        have s1 := chg_cell hC bx7 (by omega)
        have s2 := chg_cell hC bx9 (by omega)
        have z0 := chg_froz hC (by omega) bf6 (by omega)
        have z1 := chg_froz hC (by omega) bf8 (by omega)
        have z2 := chg_froz hC (by omega) bf10 (by omega)
        have ra := own_keep oc.a hC (fun q hq h => by
          rcases h with h | h
          · have := hbas q (Or.inl hq); omega
          · exact hac q hq (by rw [h]; rfl))
        have rb := own_keep oc.b hC (fun q hq h => by
          rcases h with h | h
          · have := hbas q (Or.inr (Or.inl hq)); omega
          · exact hbc q hq (by rw [h]; rfl))
        have ocab := oc.ab
        have la := ra.lt
        have lb := rb.lt
        have hlo2 := hro.lt
        have y0 := (cell_ne (b := w.heap.size + 1) (j := 2) (cell_ne (b := w.heap.size + 1) (j := 1) (cell_at _ (w.heap.size + 1) 0 (.slice p0 c.vars.length t0) s0) (by omega) (.slice p1 c.arrays.length t1)) (by omega) (.slice (some ⟨g2, 0, none⟩) c.list.length t2))
        have y1 := (cell_ne (b := w.heap.size + 1) (j := 2) (cell_at _ (w.heap.size + 1) 1 (.slice p1 c.arrays.length t1) (cell_ne (b := w.heap.size + 1) (j := 0) s1 (by omega) (.slice p0 c.vars.length t0))) (by omega) (.slice (some ⟨g2, 0, none⟩) c.list.length t2))
        have y2 := (cell_at _ (w.heap.size + 1) 2 (.slice (some ⟨g2, 0, none⟩) c.list.length t2) (cell_ne (b := w.heap.size + 1) (j := 1) (cell_ne (b := w.heap.size + 1) (j := 0) s2 (by omega) (.slice p0 c.vars.length t0)) (by omega) (.slice p1 c.arrays.length t1)))
        have za := (own_set (own_set (own_set ra (w.heap.size + 1) 0 (fun h => by have := la _ h; omega) (.slice p0 c.vars.length t0)) (w.heap.size + 1) 1 (fun h => by have := la _ h; omega) (.slice p1 c.arrays.length t1)) (w.heap.size + 1) 2 (fun h => by have := la _ h; omega) (.slice (some ⟨g2, 0, none⟩) c.list.length t2))
        have zb := (own_set (own_set (own_set rb (w.heap.size + 1) 0 (fun h => by have := lb _ h; omega) (.slice p0 c.vars.length t0)) (w.heap.size + 1) 1 (fun h => by have := lb _ h; omega) (.slice p1 c.arrays.length t1)) (w.heap.size + 1) 2 (fun h => by have := lb _ h; omega) (.slice (some ⟨g2, 0, none⟩) c.list.length t2))
        have zl := (own_set (own_set (own_set hro (w.heap.size + 1) 0 (fun h => by have := hlo2 _ h; omega) (.slice p0 c.vars.length t0)) (w.heap.size + 1) 1 (fun h => by have := hlo2 _ h; omega) (.slice p1 c.arrays.length t1)) (w.heap.size + 1) 2 (fun h => by have := hlo2 _ h; omega) (.slice (some ⟨g2, 0, none⟩) c.list.length t2))
        have hBt := tot.trans (hC.below w.heap.size tot.size (fun q hq h => by omega))
        have zB := (bst (bst (bst hBt (w.heap.size + 1) 0 (by omega) (.slice p0 c.vars.length t0)) (w.heap.size + 1) 1 (by omega) (.slice p1 c.arrays.length t1)) (w.heap.size + 1) 2 (by omega) (.slice (some ⟨g2, 0, none⟩) c.list.length t2))
        have hR := HEY.out HO.out
        have HR := Lib.hid hR
        clear hR ra rb hro hC hBt oc hnm
        go_wp2
        exact bodyPost_ret (v := .tuple #[.agg #[.slice p0 c.vars.length t0, .slice p1 c.arrays.length t1, .slice (some ⟨g2, 0, none⟩) c.list.length t2], .bool true]) (by simp [results, Try.results42, go_sem, y0, y1, y2]) rfl (by rw [HR.out]; exact ⟨_, _, _, rfl, ⟨own_mono za (by omega), own_mono zb (by omega), by rw [List.length_map]; exact own_mono zl (by omega), ocab⟩, zB⟩)
end Go.Proofs.Ytkbbpnfhenoihaa
