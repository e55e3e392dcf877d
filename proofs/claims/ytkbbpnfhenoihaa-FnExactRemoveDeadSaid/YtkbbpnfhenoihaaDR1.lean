/-
  RemoveDead: the program's walk.
-/
import Derived.Test.YtkbbpnfhenoihaaDT
import Derived.Test.YtkbbpnfhenoihaaLE1
namespace Go.Proofs.Ytkbbpnfhenoihaa
open Go.RowKit

set_option maxHeartbeats 25600000 in
set_option maxRecDepth 100000 in
theorem iRemove_any (va vb vc : Value) (c : Cd) (w : World) (hr : ReadsC w va vb vc c) :
    Calls Try.prog 56 #[.agg #[va, vb, vc]] w fun e w' => ∃ ua ub uc, e = .returned (.tuple #[.agg #[ua, ub, uc], .bool (remR c).2]) ∧ OwnC w' w.heap.size ua ub uc (remR c).1 ∧ Below w.heap.size w w' := by
  obtain ⟨a0, c0, a1, c1, a2, c2, rfl, rfl, rfl⟩ := hr.shape
  have HER := Lib.hid (fun h => remR_no (c := c) h)
  have HEY := Lib.hid (fun h => remR_yes (c := c) h)
  generalize remR c = R at *
  have ivr := hr.lt
  go_enter Try.func56, Try.ntmps56
  go_wp2_with fail
  refine (iCodeValid_any _ _ _ c _ ((hr.below (bal (bself _) (.cells #[.slice a0 c.vars.length c0, .slice a1 c.arrays.length c1, .slice a2 c.list.length c2] 50))).below (bal (bself _) (.cells #[.slice none 0 0, .slice none 0 0, .slice none 0 0] 50)))).mono ?_
  rintro e w1 ⟨rfl, hb⟩
  have hsz1 := hb.size
  simp only [World.size_alloc] at hsz1
  replace hr := ((hr.below (bal (bself _) (.cells #[.slice a0 c.vars.length c0, .slice a1 c.arrays.length c1, .slice a2 c.list.length c2] 50))).below (bal (bself _) (.cells #[.slice none 0 0, .slice none 0 0, .slice none 0 0] 50))).below hb
  have m0 : w1.cell? ⟨w.heap.size, 0, none⟩ = some (.slice a0 c.vars.length c0) := kept_cell hb (cell_al (cell_nw (by simp) (by rfl)) _)
  have mf0 : w1.frozen? ⟨w.heap.size, 0, none⟩ = false := kept_froz hb (by simp; omega) (froz_al (by simp) (froz_nw (by simp)) _)
  have r0 : w1.cell? ⟨w.heap.size + 1, 0, none⟩ = some (.slice none 0 0) := kept_cell hb (cell_nw (by simp) (by rfl))
  have q0 : w1.frozen? ⟨w.heap.size + 1, 0, none⟩ = false := kept_froz hb (by simp) (froz_nw (by simp))
  have m1 : w1.cell? ⟨w.heap.size, 1, none⟩ = some (.slice a1 c.arrays.length c1) := kept_cell hb (cell_al (cell_nw (by simp) (by rfl)) _)
  have mf1 : w1.frozen? ⟨w.heap.size, 1, none⟩ = false := kept_froz hb (by simp; omega) (froz_al (by simp) (froz_nw (by simp)) _)
  have r1 : w1.cell? ⟨w.heap.size + 1, 1, none⟩ = some (.slice none 0 0) := kept_cell hb (cell_nw (by simp) (by rfl))
  have q1 : w1.frozen? ⟨w.heap.size + 1, 1, none⟩ = false := kept_froz hb (by simp) (froz_nw (by simp))
  have m2 : w1.cell? ⟨w.heap.size, 2, none⟩ = some (.slice a2 c.list.length c2) := kept_cell hb (cell_al (cell_nw (by simp) (by rfl)) _)
  have mf2 : w1.frozen? ⟨w.heap.size, 2, none⟩ = false := kept_froz hb (by simp; omega) (froz_al (by simp) (froz_nw (by simp)) _)
  have r2 : w1.cell? ⟨w.heap.size + 1, 2, none⟩ = some (.slice none 0 0) := kept_cell hb (cell_nw (by simp) (by rfl))
  have q2 : w1.frozen? ⟨w.heap.size + 1, 2, none⟩ = false := kept_froz hb (by simp) (froz_nw (by simp))
  have tot := btr (bal (bal (bself w) (.cells #[.slice a0 c.vars.length c0, .slice a1 c.arrays.length c1, .slice a2 c.list.length c2] 50)) (.cells #[.slice none 0 0, .slice none 0 0, .slice none 0 0] 50)) hb
  clear hb
  have lm := lt_of_cell m0; have lr := lt_of_cell r0
  cases hok : codeOk c with
  | false =>
    have HO := Lib.hid hok; clear hok hr
    have x0 := (cell_ne (b := (w.heap.size + 1)) (j := 2) (cell_ne (b := (w.heap.size + 1)) (j := 1) (cell_at _ (w.heap.size + 1) 0 (.slice none 0 0) r0) (by omega) (.slice none 0 0)) (by omega) (.slice none 0 0))
    have x1 := (cell_ne (b := (w.heap.size + 1)) (j := 2) (cell_at _ (w.heap.size + 1) 1 (.slice none 0 0) (cell_ne (b := (w.heap.size + 1)) (j := 0) r1 (by omega) (.slice none 0 0))) (by omega) (.slice none 0 0))
    have x2 := (cell_at _ (w.heap.size + 1) 2 (.slice none 0 0) (cell_ne (b := (w.heap.size + 1)) (j := 1) (cell_ne (b := (w.heap.size + 1)) (j := 0) r2 (by omega) (.slice none 0 0)) (by omega) (.slice none 0 0)))
    have tt := (bst (bst (bst tot (w.heap.size + 1) 0 (by omega) (.slice none 0 0)) (w.heap.size + 1) 1 (by omega) (.slice none 0 0)) (w.heap.size + 1) 2 (by omega) (.slice none 0 0))
    have HR := Lib.hid (HER.out HO.out)
    go_wp2
    exact bodyPost_ret (v := .tuple #[.agg #[.slice none 0 0, .slice none 0 0, .slice none 0 0], .bool false]) (by simp [results, Try.results56, go_sem, x0, x1, x2]) rfl (by rw [HR.out]; exact ⟨_, _, _, rfl, noCode_own _ _, tt⟩)
  | true =>
    have HO := Lib.hid hok; clear hok
    have HR := Lib.hid (HEY.out HO.out)
    clear HER HEY
    obtain ⟨l1, l2⟩ := codeOk_len HO.out
    obtain ⟨l3, l4⟩ := declOk_len (codeOk_decl HO.out)
    go_wp2_with fail
    refine (own_any _ _ _ c _ hr (by omega) (by omega) (by omega)).mono ?_
    rintro e w2 ⟨u0, u1, u2, rfl, oc, hb⟩
    obtain ⟨p0, t0, p1, t1, p2, t2, rfl, rfl, rfl⟩ := oc.shape
    have io := oc.lt
    replace q0 := kept_froz hb (by omega) q0; replace r0 := kept_cell hb r0
    replace q1 := kept_froz hb (by omega) q1; replace r1 := kept_cell hb r1
    replace q2 := kept_froz hb (by omega) q2; replace r2 := kept_cell hb r2
    have hz2 := hb.size
    replace tot := btr tot hb
    clear hb m0 m1 m2 mf0 mf1 mf2
    obtain ⟨w3, hw3⟩ : ∃ X, X = World.alloc w2 (.cells #[.slice p0 c.vars.length t0, .slice p1 c.arrays.length t1, .slice p2 c.list.length t2] 50) := ⟨_, rfl⟩
    have hb3 : Below w2.heap.size w2 w3 := by rw [hw3]; exact bal (bself _) _
    have hz3 : w2.heap.size + 1 ≤ w3.heap.size := by rw [hw3]; simp
    have m0 : w3.cell? ⟨w2.heap.size, 0, none⟩ = some (.slice p0 c.vars.length t0) := by rw [hw3]; exact cell_nw rfl rfl
    have mf0 : w3.frozen? ⟨w2.heap.size, 0, none⟩ = false := by rw [hw3]; exact froz_nw rfl
    replace q0 := kept_froz hb3 (by omega) q0; replace r0 := kept_cell hb3 r0
    have m1 : w3.cell? ⟨w2.heap.size, 1, none⟩ = some (.slice p1 c.arrays.length t1) := by rw [hw3]; exact cell_nw rfl rfl
    have mf1 : w3.frozen? ⟨w2.heap.size, 1, none⟩ = false := by rw [hw3]; exact froz_nw rfl
    replace q1 := kept_froz hb3 (by omega) q1; replace r1 := kept_cell hb3 r1
    have m2 : w3.cell? ⟨w2.heap.size, 2, none⟩ = some (.slice p2 c.list.length t2) := by rw [hw3]; exact cell_nw rfl rfl
    have mf2 : w3.frozen? ⟨w2.heap.size, 2, none⟩ = false := by rw [hw3]; exact froz_nw rfl
    replace q2 := kept_froz hb3 (by omega) q2; replace r2 := kept_cell hb3 r2
    replace oc := oc.below hb3
    replace tot := btr tot hb3
    have HTOT := Lib.hid tot
    have hnb : ∀ q, OwnB (.slice p0 c.vars.length t0) (.slice p1 c.arrays.length t1) (.slice p2 c.list.length t2) q → ¬ q = w2.heap.size := fun q h e => by have := io q h; omega
    go_upto_region 4 with (fail)
    rw [← hw3]
    clear hw3 hb3 hr ivr tot
    have hz1 : w1.heap.size ≤ w2.heap.size := by omega
    go_loopg [5] c.list.length (fun gk lv wr => ∃ (cc : Cd) (p0 : Option Addr) (t0 : Nat) (p1 : Option Addr) (t1 : Nat) (p2 : Option Addr) (t2 : Nat), Hid (codeOk cc = true) ∧ Hid (remOf cc = remOf c) ∧ cc.list.length ≤ gk ∧ wr.cell? ⟨w2.heap.size, 0, none⟩ = some (.slice p0 cc.vars.length t0) ∧ wr.cell? ⟨w2.heap.size, 1, none⟩ = some (.slice p1 cc.arrays.length t1) ∧ wr.cell? ⟨w2.heap.size, 2, none⟩ = some (.slice p2 cc.list.length t2) ∧ wr.frozen? ⟨w2.heap.size, 0, none⟩ = false ∧ wr.frozen? ⟨w2.heap.size, 1, none⟩ = false ∧ wr.frozen? ⟨w2.heap.size, 2, none⟩ = false ∧ OwnC wr w1.heap.size (.slice p0 cc.vars.length t0) (.slice p1 cc.arrays.length t1) (.slice p2 cc.list.length t2) cc ∧ (∀ q, OwnB (.slice p0 cc.vars.length t0) (.slice p1 cc.arrays.length t1) (.slice p2 cc.list.length t2) q → ¬ q = w2.heap.size) ∧ Chg (fun q => q = w2.heap.size) w3 wr)
    case atStart => exact ⟨c, p0, t0, p1, t1, p2, t2, HO, Lib.hid rfl, Nat.le_refl _, m0, m1, m2, mf0, mf1, mf2, oc.mono (by omega), hnb, Chg.refl _ _⟩
    case round =>
      obtain ⟨cc, p0, t0, p1, t1, p2, t2, HOK, HRM, hgk, m0, m1, m2, mf0, mf1, mf2, oc, hnb, hC⟩ := hrel
      obtain ⟨wO, rfl⟩ : ∃ X, X = wr := ⟨_, rfl⟩
      have hzO := hC.size
      obtain ⟨l1, l2⟩ := codeOk_len HOK.out
      obtain ⟨l3, l4⟩ := declOk_len (codeOk_decl HOK.out)
      have rc := oc.reads (by omega) (by omega) (by omega)
      have io := oc.lt
      have km := lt_of_cell m0
      have rr0 := chg_cell hC r0 (by omega); have qq0 := chg_froz hC (by omega) q0 (by omega)
      have rr1 := chg_cell hC r1 (by omega); have qq1 := chg_froz hC (by omega) q1 (by omega)
      have rr2 := chg_cell hC r2 (by omega); have qq2 := chg_froz hC (by omega) q2 (by omega)
      have HT2 := Lib.hid (HTOT.out.trans (hC.below w.heap.size HTOT.out.size (fun q hq h => by omega)))
      go_wp2_with fail
      refine (live_any _ _ _ cc _ rc HOK.out).mono ?_
      rintro e w4 ⟨u, us, rfl, oL, hb4⟩
      have hz4 := hb4.size
      obtain ⟨pL, tL, rfl⟩ := oL.shape
      have hI : InvL cc (liveOf cc) := swps_inv cc _
      have hll := hI.len
      have hlr := hI.rows
      have iL := oL.lt
      have iR := rc.lt
      have HLL := Lib.hid hll; have HLR := Lib.hid hlr
      clear hll hlr hI
      have n0 := kept_cell hb4 m0
      have n1 := kept_cell hb4 m1
      have n2 := kept_cell hb4 m2
      have kn := lt_of_cell n0
      have hmk := mk_boolF cc.list.length (by omega)
      have oD := own_made w4 (.bool false) cc.list.length 4 (by unfold maxLen; omega)
      rw [← bools_replicate] at oD
      obtain ⟨w5, hw5⟩ : ∃ X, X = World.alloc w4 (.cells (madeCells #[.bool false] cc.list.length) 4) := ⟨_, rfl⟩
      rw [← hw5] at oD
      have hb5 : Below w4.heap.size w4 w5 := by rw [hw5]; exact bal (bself _) _
      have hz5 : w4.heap.size + 1 ≤ w5.heap.size := by rw [hw5]; simp
      go_upto_region 6 with (fail)
      rw [← hw5]
      clear hw5 hmk
      replace oL := oL.below hb5
      have hb45 := btr hb4 hb5
      replace n0 := kept_cell hb5 n0
      replace n1 := kept_cell hb5 n1
      replace n2 := kept_cell hb5 n2
      have r5 := rc.below hb45
      have hrl := r5.l
      obtain ⟨_, hn, aa, cap, b, off, hv, hcap, ha, hca⟩ := hrl
      simp only [Value.slice.injEq, true_and] at hv
      obtain ⟨rfl, rfl⟩ := hv
      obtain ⟨rfl, hbs⟩ := ha (by omega)
      have hbo := io b (Or.inr (Or.inr rfl))
      have HC := Lib.hid (reads_Instr hca)
      have HIN := Lib.hid (fun k hk => codeOk_all HOK.out k hk)
      have HLA3 := Lib.hid (fun (i : Nat) (hi : i < cc.list.length) W V (hV : Chg (fun q => q = w4.heap.size) w5 V) (hW : Below V.heap.size V W) => liveAfter_any _ _ _ _ cc (liveOf cc) i W ((r5.keep hV (fun q h e => by have := iR q h; omega)).below hW) (((oL.keep hV (fun q h e => by have := iL q h; omega)).below hW).reads (by have := HLL.out; omega) (fun k r h => by obtain ⟨h1, rfl⟩ := List.getElem?_eq_some_iff.1 h; have := HLR.out k h1; omega)) HLL.out HLR.out HOK.out hi)
      have kn5 := lt_of_cell n0
      clear hca ha rc r5 oL iL iR
      go_wp2_with fail
      go_loopw [24] (fun t wr => ∃ k : Nat, k ≤ cc.list.length ∧ t = .int .i64 k ∧ wr.ownsRow w4.heap.size 4 1 (.slice (some ⟨w4.heap.size, 0, none⟩) cc.list.length cc.list.length) cc.list.length (bools (deds cc k ++ (List.replicate cc.list.length false).drop k)) ∧ Chg (fun q => q = w4.heap.size) w5 wr) (fun t _ => cc.list.length - (intOf t).toNat)
      case atStart => exact ⟨0, Nat.zero_le _, rfl, by simpa [deds] using oD, Chg.refl _ _⟩
      case round =>
        obtain ⟨k, hk, rfl, o2, hC2⟩ := hrel
        have hz6 := hC2.size
        clear oD
        by_cases hlt : k < cc.list.length
        · obtain ⟨e0, e1, e2, e3, e4⟩ := HC.out k hlt
          replace e0 := chg_cell hC2 e0 (by omega)
          replace e1 := chg_cell hC2 e1 (by omega)
          replace e2 := chg_cell hC2 e2 (by omega)
          replace e3 := chg_cell hC2 e3 (by omega)
          replace e4 := chg_cell hC2 e4 (by omega)
          have nn0 := chg_cell hC2 n0 (by omega)
          have nn1 := chg_cell hC2 n1 (by omega)
          have nn2 := chg_cell hC2 n2 (by omega)
          have y1 := o2.cellAt k (by omega)
          rw [bools_at _ _ (by rw [List.length_append, deds_len, List.length_drop, List.length_replicate]; omega)] at y1
          have f1 := o2.frozenAt k
          have hda := dedAt_at cc k hlt
          have hin := HIN.out k hlt
          have HLA2 := Lib.hid (fun W (hW : Below wr.heap.size wr W) => HLA3.out k hlt W wr hC2 hW)
          generalize ((deds cc k ++ (List.replicate cc.list.length false).drop k)[k]'(by rw [List.length_append, deds_len, List.length_drop, List.length_replicate]; omega)) = z1 at *
          have hst := fun z (hz : z = dedAt cc k) => set_ded cc k hlt z hz
          generalize hxx : cc.list[k] = x at *
          have HDA := Lib.hid hda
          have HI2 := Lib.hid hin
          have HST := Lib.hid hst
          clear hda hin hst hxx
          have ke := lt_of_cell e0
          have ky := lt_of_cell y1
          have knn := lt_of_cell nn0
          go_upto_region 9 with (fail)
          obtain ⟨w7, hw7⟩ : ∃ X, X = World.alloc wr (.cells #[.int .i64 x.op, .int .i64 x.a, .int .i64 x.b, .int .i64 x.c, .int .i64 x.d] 98) := ⟨_, rfl⟩
          rw [← hw7]
          have hb7 : Below wr.heap.size wr w7 := by rw [hw7]; exact bal (bself wr) _
          have hz7 : wr.heap.size + 1 ≤ w7.heap.size := by rw [hw7]; simp
          have d0 : w7.cell? ⟨wr.heap.size, 0, none⟩ = some (.int .i64 x.op) := by rw [hw7]; exact cell_nw rfl rfl
          have d1 : w7.cell? ⟨wr.heap.size, 1, none⟩ = some (.int .i64 x.a) := by rw [hw7]; exact cell_nw rfl rfl
          clear hw7 e0 e1 e2 e3 e4
          replace y1 := kept_cell hb7 y1
          replace f1 := kept_froz hb7 ky f1
          replace nn0 := kept_cell hb7 nn0
          replace nn1 := kept_cell hb7 nn1
          replace nn2 := kept_cell hb7 nn2
          have kd := lt_of_cell d0
          have kn7 := lt_of_cell nn0
          have o3 := own_below o2 hb7
          have hC3 := hC2.trans (Chg.of_below (S := fun q => q = w4.heap.size) hb7)
          replace HLA2 := Lib.hid (fun W (hW : Below w7.heap.size w7 W) => HLA2.out W (btr hb7 hW))
          clear o2 hC2 hb7
          by_cases hop : x.op = 1 ∨ x.op = 2 ∨ x.op = 6 ∨ x.op = 7
          · obtain ⟨p1', p2'⟩ := ded_in HI2.out hop
            obtain ⟨na, hna⟩ : ∃ n : Nat, x.a = n := ⟨x.a.toNat, by omega⟩
            have HDD : Hid (dedAt cc k = !(aftF (liveOf cc) (flw x k) na)) := Lib.hid (by
              rw [HDA.out]; unfold ded; rw [hna, Int.toNat_natCast]
              rcases hop with h | h | h | h <;> rw [h] <;> simp)
            rw [hna] at d1
            have hn14 : na < 14 := by omega
            have hq14 : (na : Int) < (14 : Int) := by omega
            have hqk : (k : Int) < (cc.list.length : Int) := by omega
            have HST2 := Lib.hid (fun z (hz : z = dedAt cc k) => HST.out z hz)
            have HLN := Lib.hid p1'
            clear HDA HST p1' p2' hna HI2 HLN
            obtain ⟨A, hA⟩ : ∃ A, aftF (liveOf cc) (flw x k) = A := ⟨_, rfl⟩
            have HAF : Hid (aft (liveOf cc) (flw x k) = tab A) := Lib.hid (by rw [← hA]; rfl)
            rw [hA] at HDD
            clear hA
            have key : ∀ (HKK : True), True := fun _ => trivial
            clear key
            have hopb : ((x.op == 1) = true) ∨ ((x.op == 1) = false ∧ (x.op == 2) = true) ∨ ((x.op == 1) = false ∧ (x.op == 2) = false ∧ (x.op == 6) = true) ∨ ((x.op == 1) = false ∧ (x.op == 2) = false ∧ (x.op == 6) = false ∧ (x.op == 7) = true) := by
              rcases hop with h | h | h | h <;> rw [h] <;> simp
            clear hop
            rcases hopb with g1 | ⟨g1, g2⟩ | ⟨g1, g2, g3⟩ | ⟨g1, g2, g3, g4⟩
            all_goals
              go_upto_region 14 with (fail)
              refine wp_region_noPanic ?_
              refine wp_region_held_drew (S := (fun W' => W'.cell? ⟨w2.heap.size, 0, none⟩ = some (.slice p0 cc.vars.length t0) ∧ W'.cell? ⟨w2.heap.size, 1, none⟩ = some (.slice p1 cc.arrays.length t1) ∧ W'.cell? ⟨w2.heap.size, 2, none⟩ = some (.slice (some ⟨b, off, none⟩) cc.list.length t2) ∧ W'.cell? ⟨wr.heap.size, 1, none⟩ = some (.int .i64 (na : Int)))) (by kernel_rfl) ⟨kept_cell (Below.drew (bself w7)) nn0, kept_cell (Below.drew (bself w7)) nn1, kept_cell (Below.drew (bself w7)) nn2, kept_cell (Below.drew (bself w7)) d1⟩ (fun hHeld => ?_)
              obtain ⟨wd, hwd⟩ : ∃ X, X = World.drew w7 := ⟨_, rfl⟩
              rw [← hwd] at hHeld ⊢
              have HB : Below w7.heap.size w7 wd := by rw [hwd]; exact Below.drew (bself _)
              clear hwd
              refine take_d (i := 0) (d := 36) (v := ?_) rfl rfl (by kernel_rfl) (by kernel_rfl) (by kernel_rfl) (fun _ _ _ h => h) (Or.inl ⟨by rfl, ?_⟩) (by assumption) ?_
              rotate_left
              · intro W' hSw; (try dsimp only at hSw); obtain ⟨s0, s1, s2, s3⟩ := hSw; go_simp; try with_reducible rfl
              simp only [Act.put, List.setIfInBounds_toArray, List.set]
              refine take_d (i := 1) (d := 37) (v := ?_) rfl rfl (by kernel_rfl) (by kernel_rfl) (by kernel_rfl) (fun _ _ _ h => h) (Or.inl ⟨by rfl, ?_⟩) (by assumption) ?_
              rotate_left
              · intro W' hSw; (try dsimp only at hSw); obtain ⟨s0, s1, s2, s3⟩ := hSw; go_simp; try with_reducible rfl
              simp only [Act.put, List.setIfInBounds_toArray, List.set]
              refine take_d (i := 2) (d := 38) (v := ?_) rfl rfl (by kernel_rfl) (by kernel_rfl) (by kernel_rfl) (fun _ _ _ h => h) (Or.inl ⟨by rfl, ?_⟩) (by assumption) ?_
              rotate_left
              · intro W' hSw; (try dsimp only at hSw); obtain ⟨s0, s1, s2, s3⟩ := hSw; go_simp; try with_reducible rfl
              simp only [Act.put, List.setIfInBounds_toArray, List.set]
              refine take_d (i := 3) (d := 39) (v := ?_) rfl rfl (by kernel_rfl) (by kernel_rfl) (by kernel_rfl) (fun _ _ _ h => h) (Or.inl ⟨by rfl, ?_⟩) (by assumption) ?_
              rotate_left
              · intro W' hSw; (try dsimp only at hSw); obtain ⟨s0, s1, s2, s3⟩ := hSw; go_simp; try with_reducible rfl
              simp only [Act.put, List.setIfInBounds_toArray, List.set]
              refine take_d (i := 4) (d := 40) (v := ?_) rfl rfl (by kernel_rfl) (by kernel_rfl) (by kernel_rfl) (fun _ _ _ h => h) (Or.inl ⟨by rfl, ?_⟩) (by assumption) ?_
              rotate_left
              · intro W' hSw; (try dsimp only at hSw); obtain ⟨s0, s1, s2, s3⟩ := hSw; go_simp; try with_reducible rfl
              simp only [Act.put, List.setIfInBounds_toArray, List.set]
              refine take_d (i := 6) (d := 42) (v := ?_) rfl rfl (by kernel_rfl) (by kernel_rfl) (by kernel_rfl) (fun _ _ _ h => h) (Or.inl ⟨by rfl, ?_⟩) (by assumption) ?_
              rotate_left
              · intro W' hSw; (try dsimp only at hSw); obtain ⟨s0, s1, s2, s3⟩ := hSw; go_simp; try with_reducible rfl
              simp only [Act.put, List.setIfInBounds_toArray, List.set]
              refine take_d (i := 7) (d := 43) (v := ?_) rfl rfl (by kernel_rfl) (by kernel_rfl) (by kernel_rfl) (fun _ _ _ h => h) (Or.inl ⟨by rfl, ?_⟩) (by assumption) ?_
              rotate_left
              · intro W' hSw; (try dsimp only at hSw); obtain ⟨s0, s1, s2, s3⟩ := hSw; go_simp; try with_reducible rfl
              simp only [Act.put, List.setIfInBounds_toArray, List.set]
              refine wpAnyH_ready (rs := [5]) (by kernel_rfl) (by simp) ?_
              refine AllReadyH.cons rfl (fun K hK => ?_) AllReadyH.nil
              go_simp
              refine (HLA2.out _ HB).mono ?_
              rintro e w8 ⟨ga, rfl, oa, ba⟩
              rw [HAF.out] at oa
              have HB8 := btr HB ba
              replace nn0 := kept_cell HB8 nn0; replace nn1 := kept_cell HB8 nn1; replace nn2 := kept_cell HB8 nn2; replace d1 := kept_cell HB8 d1
              have ca := own_tab_at oa na hn14
              have y8 := kept_cell HB8 y1; have f8 := kept_froz HB8 (by have := lt_of_cell y1; omega) f1
              have ka := lt_of_cell ca; have ky8 := lt_of_cell y8
              have o8 := own_below o3 HB8
              have hC8 := hC3.trans (Chg.of_below (S := fun q => q = w4.heap.size) HB8)
              clear oa ba o3 hC3 y1 f1
              refine hK.out _ _ ⟨nn0, nn1, nn2, d1⟩ (fun hHeld => ?_)
              clear hK K
              try simp only [Act.put, List.setIfInBounds_toArray, List.set]
              refine wpAnyH_ready (rs := [8]) (by kernel_rfl) (by simp) ?_
              refine AllReadyH.cons rfl (fun K hK => ?_) AllReadyH.nil
              go_simp
              refine hK.out _ _ hHeld (fun hHeld => ?_)
              clear hK K
              try simp only [Act.put, List.setIfInBounds_toArray, List.set]
              refine wpAnyH_ready (rs := [9]) (by kernel_rfl) (by simp) ?_
              refine AllReadyH.cons rfl (fun K hK => ?_) AllReadyH.nil
              go_simp
              refine hK.out _ _ hHeld (fun hHeld => ?_)
              clear hK K
              try simp only [Act.put, List.setIfInBounds_toArray, List.set]
              refine wpAnyH_ready (rs := [10]) (by kernel_rfl) (by simp) ?_
              refine AllReadyH.cons rfl (fun K hK => ?_) AllReadyH.nil
              go_simp
              refine hK.out _ _ hHeld (fun hHeld => ?_)
              clear hK K
              try simp only [Act.put, List.setIfInBounds_toArray, List.set]
              refine wpAnyH_ready (rs := [11]) (by kernel_rfl) (by simp) ?_
              refine AllReadyH.cons rfl (fun K hK => ?_) AllReadyH.nil
              go_simp
              refine hK.out _ _ hHeld (fun hHeld => ?_)
              clear hK K
              try simp only [Act.put, List.setIfInBounds_toArray, List.set]
              have hs := HST2.out (!(A na)) HDD.out.symm
              have sN := (o8.stored k (.bool (!(A na)))).1
              rw [bools_set, hs] at sN
              have hC9 := hC8.setCell w4.heap.size k (.bool (!(A na))) (fun _ => rfl)
              clear hs o8 hC8
              refine wpAnyH_ready (rs := [12]) (by kernel_rfl) (by simp) ?_
              refine AllReadyH.cons rfl (fun K hK => ?_) AllReadyH.nil
              go_simp
              refine hK.out _ _ ⟨cell_ne (b := w4.heap.size) (j := k) nn0 (by omega) _, cell_ne (b := w4.heap.size) (j := k) nn1 (by omega) _, cell_ne (b := w4.heap.size) (j := k) nn2 (by omega) _, cell_ne (b := w4.heap.size) (j := k) d1 (by omega) _⟩ (fun hHeld => ?_)
              clear hK K
              try simp only [Act.put, List.setIfInBounds_toArray, List.set]
              refine wpAnyH_done (by kernel_rfl) ?_ _
              refine NoPanic.normal ?_
              clear hHeld nn0 nn1 nn2 d1 y8 f8 ca
              go_wp2
              go_roundw
              case rel => exact ⟨k + 1, by omega, by go_num, sN, hC9⟩
              case measure => simp [intOf]; omega
          · have HDD : Hid (dedAt cc k = false) := Lib.hid (by
              rw [HDA.out]; unfold ded
              have e1 : (x.op == 1) = false := by simp; omega
              have e2 : (x.op == 2) = false := by simp; omega
              have e6 : (x.op == 6) = false := by simp; omega
              have e7 : (x.op == 7) = false := by simp; omega
              simp only [e1, e2, e6, e7]; rfl)
            have e1 : (x.op == 1) = false := by simp; omega
            have e2 : (x.op == 2) = false := by simp; omega
            have e6 : (x.op == 6) = false := by simp; omega
            have e7 : (x.op == 7) = false := by simp; omega
            have hs := skip_ded cc k hlt HDD.out
            have sN := o3
            rw [hs] at sN
            clear hs o3 hop HST HDA HI2 y1 f1
            go_wp2
            go_roundw
            case rel => exact ⟨k + 1, by omega, by go_num, sN, hC3⟩
            case measure => simp [intOf]; omega
        · have ek : k = cc.list.length := by omega
          subst ek
          rw [List.drop_eq_nil_of_le (by simp), List.append_nil] at o2
          obtain ⟨w6, rfl⟩ : ∃ X, X = wr := ⟨_, rfl⟩
          have nn0 := chg_cell hC2 n0 (by omega)
          have nf0 := chg_froz hC2 (by omega) (kept_froz hb45 (by omega) mf0) (by omega)
          have rx0 := chg_cell hC2 (kept_cell hb45 rr0) (by omega)
          have qx0 := chg_froz hC2 (by have := lt_of_cell (kept_cell hb45 rr0); omega) (kept_froz hb45 (lt_of_cell rr0) qq0) (by omega)
          have nn1 := chg_cell hC2 n1 (by omega)
          have nf1 := chg_froz hC2 (by omega) (kept_froz hb45 (by omega) mf1) (by omega)
          have rx1 := chg_cell hC2 (kept_cell hb45 rr1) (by omega)
          have qx1 := chg_froz hC2 (by have := lt_of_cell (kept_cell hb45 rr1); omega) (kept_froz hb45 (lt_of_cell rr1) qq1) (by omega)
          have nn2 := chg_cell hC2 n2 (by omega)
          have nf2 := chg_froz hC2 (by omega) (kept_froz hb45 (by omega) mf2) (by omega)
          have rx2 := chg_cell hC2 (kept_cell hb45 rr2) (by omega)
          have qx2 := chg_froz hC2 (by have := lt_of_cell (kept_cell hb45 rr2); omega) (kept_froz hb45 (lt_of_cell rr2) qq2) (by omega)
          have oc6 := (oc.below hb45).keep hC2 (fun q h e => by have := io q h; omega)
          have T6 := (btr HT2.out hb45).trans (hC2.below w.heap.size (by have := HT2.out.size; omega) (fun q hq h => by have := HT2.out.size; omega))
          have hA := hC.trans (Chg.of_below (S := fun q => q = w2.heap.size) hb45)
          have hCO : Chg (fun q => q = w2.heap.size) w3 w6 := ⟨hC2.os.trans hA.os, hC2.tape.trans hA.tape, hC2.output.trans hA.output, by omega, fun q hq hn => (hC2.block q (by omega) (by omega)).trans (hA.block q hq hn)⟩
          clear hA
          have kn6 := lt_of_cell nn0
          have rD := reads_of_owns o2 (by omega)
          have HDL : Hid ((deds cc cc.list.length).length = cc.list.length) := Lib.hid (deds_len _ _)
          have rD2 : Reads w6 1 (.slice (some ⟨w4.heap.size, 0, none⟩) cc.list.length cc.list.length) (deds cc cc.list.length).length (bools (deds cc cc.list.length)) := by rw [HDL.out]; exact rD
          clear rD HC HIN HLA3 hC hC2 n0 n1 n2 o2
          go_wp2_with fail
          refine (containsB_any _ _ _ rD2).mono ?_
          rintro e w7 ⟨rfl, hb7⟩
          have hz7 := hb7.size
          rw [← anyDed_eq cc]
          replace nf0 := kept_froz hb7 (by omega) nf0; replace nn0 := kept_cell hb7 nn0
          replace qx0 := kept_froz hb7 (lt_of_cell rx0) qx0; replace rx0 := kept_cell hb7 rx0
          replace nf1 := kept_froz hb7 (by omega) nf1; replace nn1 := kept_cell hb7 nn1
          replace qx1 := kept_froz hb7 (lt_of_cell rx1) qx1; replace rx1 := kept_cell hb7 rx1
          replace nf2 := kept_froz hb7 (by omega) nf2; replace nn2 := kept_cell hb7 nn2
          replace qx2 := kept_froz hb7 (lt_of_cell rx2) qx2; replace rx2 := kept_cell hb7 rx2
          replace oc6 := oc6.below hb7
          replace T6 := btr T6 hb7
          replace rD2 := rD2.below hb7
          have hCP := hCO.trans (Chg.of_below (S := fun q => q = w2.heap.size) hb7)
          have kn7 := lt_of_cell nn0; have kr7 := lt_of_cell rx0
          clear hb7 hCO
          cases had : anyDed cc with
          | false =>
            have HF : Hid (R = (cc, true)) := Lib.hid (by rw [HR.out, ← HRM.out, remOf_no had])
            clear had rD2 hCP
            have x0 := (cell_ne (b := (w.heap.size + 1)) (j := 2) (cell_ne (b := (w.heap.size + 1)) (j := 1) (cell_at _ (w.heap.size + 1) 0 (.slice p0 cc.vars.length t0) rx0) (by omega) (.slice p1 cc.arrays.length t1)) (by omega) (.slice (some ⟨b, off, none⟩) cc.list.length t2))
            have x1 := (cell_ne (b := (w.heap.size + 1)) (j := 2) (cell_at _ (w.heap.size + 1) 1 (.slice p1 cc.arrays.length t1) (cell_ne (b := (w.heap.size + 1)) (j := 0) rx1 (by omega) (.slice p0 cc.vars.length t0))) (by omega) (.slice (some ⟨b, off, none⟩) cc.list.length t2))
            have x2 := (cell_at _ (w.heap.size + 1) 2 (.slice (some ⟨b, off, none⟩) cc.list.length t2) (cell_ne (b := (w.heap.size + 1)) (j := 1) (cell_ne (b := (w.heap.size + 1)) (j := 0) rx2 (by omega) (.slice p0 cc.vars.length t0)) (by omega) (.slice p1 cc.arrays.length t1)))
            have i6 := oc6.lt
            have tz := (bst (bst (bst T6 (w.heap.size + 1) 0 (by omega) (.slice p0 cc.vars.length t0)) (w.heap.size + 1) 1 (by omega) (.slice p1 cc.arrays.length t1)) (w.heap.size + 1) 2 (by omega) (.slice (some ⟨b, off, none⟩) cc.list.length t2))
            have yo := oc6.keep ((((Chg.refl (fun q => q = (w.heap.size + 1)) w7).setCell (w.heap.size + 1) 0 (.slice p0 cc.vars.length t0) (fun _ => rfl)).setCell (w.heap.size + 1) 1 (.slice p1 cc.arrays.length t1) (fun _ => rfl)).setCell (w.heap.size + 1) 2 (.slice (some ⟨b, off, none⟩) cc.list.length t2) (fun _ => rfl)) (fun q h e => by have := i6 q h; omega)
            clear oc6 T6
            go_wp2
            exact bodyPost_ret (v := .tuple #[.agg #[.slice p0 cc.vars.length t0, .slice p1 cc.arrays.length t1, .slice (some ⟨b, off, none⟩) cc.list.length t2], .bool true]) (by simp [results, Try.results56, go_sem, x0, x1, x2]) rfl (by rw [HF.out]; exact ⟨_, _, _, rfl, yo.mono (by omega), tz⟩)
          | true =>
            have HG1 : Hid (remOf (rem1 cc) = remOf c) := Lib.hid (by rw [← remOf_yes had]; exact HRM.out)
            have hlen := rem1_len had
            have HOK2 := Lib.hid (rem1_ok HOK.out)
            have HLE := Lib.hid hlen
            clear had
            have rc7 := oc6.reads (by omega) (by omega) (by omega)
            go_wp2_with fail
            refine (without_any _ _ _ _ cc _ _ rc7 rD2 HDL.out HOK.out).mono ?_
            rintro e w8 ⟨v0, v1, v2, rfl, o8, hb8⟩
            rw [dOf_deds cc] at o8
            obtain ⟨b0, s0, b1, s1, b2, s2, rfl, rfl, rfl⟩ := o8.shape
            have i8 := o8.lt
            have hz8 := hb8.size
            replace nf0 := kept_froz hb8 (by omega) nf0; replace nn0 := kept_cell hb8 nn0
            replace nf1 := kept_froz hb8 (by omega) nf1; replace nn1 := kept_cell hb8 nn1
            replace nf2 := kept_froz hb8 (by omega) nf2; replace nn2 := kept_cell hb8 nn2
            have x0 := (cell_ne (b := w2.heap.size) (j := 2) (cell_ne (b := w2.heap.size) (j := 1) (cell_at _ w2.heap.size 0 (.slice b0 (rem1 cc).vars.length s0) nn0) (by omega) (.slice b1 (rem1 cc).arrays.length s1)) (by omega) (.slice b2 (rem1 cc).list.length s2))
            have x1 := (cell_ne (b := w2.heap.size) (j := 2) (cell_at _ w2.heap.size 1 (.slice b1 (rem1 cc).arrays.length s1) (cell_ne (b := w2.heap.size) (j := 0) nn1 (by omega) (.slice b0 (rem1 cc).vars.length s0))) (by omega) (.slice b2 (rem1 cc).list.length s2))
            have x2 := (cell_at _ w2.heap.size 2 (.slice b2 (rem1 cc).list.length s2) (cell_ne (b := w2.heap.size) (j := 1) (cell_ne (b := w2.heap.size) (j := 0) nn2 (by omega) (.slice b0 (rem1 cc).vars.length s0)) (by omega) (.slice b1 (rem1 cc).arrays.length s1)))
            have xf0 := (froz_st (b := ⟨w2.heap.size, 2, none⟩) (froz_st (b := ⟨w2.heap.size, 1, none⟩) (froz_st (b := ⟨w2.heap.size, 0, none⟩) nf0 (.slice b0 (rem1 cc).vars.length s0)) (.slice b1 (rem1 cc).arrays.length s1)) (.slice b2 (rem1 cc).list.length s2))
            have xf1 := (froz_st (b := ⟨w2.heap.size, 2, none⟩) (froz_st (b := ⟨w2.heap.size, 1, none⟩) (froz_st (b := ⟨w2.heap.size, 0, none⟩) nf1 (.slice b0 (rem1 cc).vars.length s0)) (.slice b1 (rem1 cc).arrays.length s1)) (.slice b2 (rem1 cc).list.length s2))
            have xf2 := (froz_st (b := ⟨w2.heap.size, 2, none⟩) (froz_st (b := ⟨w2.heap.size, 1, none⟩) (froz_st (b := ⟨w2.heap.size, 0, none⟩) nf2 (.slice b0 (rem1 cc).vars.length s0)) (.slice b1 (rem1 cc).arrays.length s1)) (.slice b2 (rem1 cc).list.length s2))
            have hnb8 : ∀ q, OwnB (.slice b0 (rem1 cc).vars.length s0) (.slice b1 (rem1 cc).arrays.length s1) (.slice b2 (rem1 cc).list.length s2) q → ¬ q = w2.heap.size := fun q h e => by have := i8 q h; omega
            have yo := o8.keep ((((Chg.refl (fun q => q = w2.heap.size) w8).setCell w2.heap.size 0 (.slice b0 (rem1 cc).vars.length s0) (fun _ => rfl)).setCell w2.heap.size 1 (.slice b1 (rem1 cc).arrays.length s1) (fun _ => rfl)).setCell w2.heap.size 2 (.slice b2 (rem1 cc).list.length s2) (fun _ => rfl)) (fun q h e => hnb8 q h e)
            have yc := (((hCP.trans (Chg.of_below (S := fun q => q = w2.heap.size) hb8)).setCell w2.heap.size 0 (.slice b0 (rem1 cc).vars.length s0) (fun _ => rfl)).setCell w2.heap.size 1 (.slice b1 (rem1 cc).arrays.length s1) (fun _ => rfl)).setCell w2.heap.size 2 (.slice b2 (rem1 cc).list.length s2) (fun _ => rfl)
            have kk := lt_of_cell nn0
            clear o8 oc6 hCP T6 hb8 rc7 rD2
            go_wp2
            go_roundg (gk - 1)
            case measure => have := HLE.out; omega
            case rel => exact ⟨rem1 cc, b0, s0, b1, s1, b2, s2, HOK2, HG1, by have := HLE.out; omega, x0, x1, x2, xf0, xf1, xf2, yo.mono (by omega), hnb8, yc⟩
end Go.Proofs.Ytkbbpnfhenoihaa
