import Derived.Test.YtcnaeeejffeeoaaHH
import Derived.Test.YtcnaeeejffeeoaaGG
import Derived.Test.YtcnaeeejffeeoaaCC
namespace Go.Proofs.Ytcnaeeejffeeoaa
open Go.RowKit

set_option maxHeartbeats 4000000 in
set_option maxRecDepth 100000 in
theorem FnProbeCache_walk (v : Value) (n : Nat) (vs : List Int) (w : World) (r0 : Reads w 1 v n (vs.map (Value.int .u8))) (hv : ∀ x ∈ vs, 0 ≤ x ∧ x < 256) :
    Calls Try.prog 12 #[v] w fun e w' => e = .returned (.bool true) ∧ Below w.heap.size w w' := by
  by_cases hn : n ≤ 1048576
  · obtain ⟨va, vc, rfl⟩ := reads_shape r0
    have hn2 : ¬ (1048576 : Int) < (n : Int) := by omega
    go_enter Try.func12, Try.ntmps12
    go_wp2_with fail
    refine (DrawCacheRun_any _ n vs _ r0 hv hn).mono ?_
    rintro e w1 ⟨u, tv, xs, l, rfl, oc, hxl, ot, hl8, hb⟩
    have hk1 := btr (bself w) hb
    have hsz1 := hb.size
    have tot := hk1
    clear hk1 hb
    clear r0 hv
    obtain ⟨a1, c1, rfl⟩ := own_shape oc
    clear oc
    obtain ⟨ta, tc, rfl⟩ := own_shape ot
    have iv2 := ot.lt
    have hcr := crunR_hits [-2, -2] l
    obtain ⟨hcr1, hcr2⟩ := hcr
    go_wp2_with fail
    refine (iPrime_any _).mono ?_
    rintro e w2 ⟨p2, rfl, op2, hb⟩
    have hk3 := btr (bal (bself w1) _) hb
    have hsz3 := hb.size
    simp only [World.size_alloc] at hsz3
    replace ot := own_below ot hk3
    have bx4 : w2.cell? ⟨w1.heap.size, 0, none⟩ = some (.slice a1 xs.length c1) := kept_cell hb (by simp [go_sem])
    replace tot := btr tot hk3
    clear hk3 hb
    obtain ⟨pa2, pc2, rfl⟩ := own_shape op2
    have iv5 := op2.lt
    simp only [World.size_alloc] at iv5
    go_wp2_with fail
    refine (iCacheRun_any _ _ [-2, -2] l _ (reads_of_owns op2 (by simp)) (reads_of_owns ot (by omega)) (by omega)).mono ?_
    rintro e w3 ⟨u2, b2, rfl, oy2, oh2, hb⟩
    have hk6 := btr (bself w2) hb
    have hsz6 := hb.size
    replace ot := own_below ot hk6
    replace bx4 := kept_cell hk6 bx4
    replace op2 := own_below op2 hk6
    replace tot := btr tot hk6
    clear hk6 hb
    obtain ⟨ya2, yc2, rfl⟩ := own_shape oy2
    have iv7 := oy2.lt
    obtain ⟨ha2, hc2, rfl⟩ := own_shape oh2
    clear oh2
    clear op2
    have lt8 := lt_of_cell bx4
    go_wp2_with fail
    refine (sPrime_any _).mono ?_
    rintro e w4 ⟨p3, rfl, op3, hb⟩
    have hk9 := btr (bal (bself w3) _) hb
    have hsz9 := hb.size
    simp only [World.size_alloc] at hsz9
    replace ot := own_below ot hk9
    replace bx4 := kept_cell hk9 bx4
    replace oy2 := own_below oy2 hk9
    have bx10 : w4.cell? ⟨w3.heap.size, 0, none⟩ = some (.slice ya2 (crunR [-2, -2] l).1.length yc2) := kept_cell hb (by simp [go_sem])
    replace tot := btr tot hk9
    clear hk9 hb
    obtain ⟨pa3, pc3, rfl⟩ := own_shape op3
    have iv11 := op3.lt
    simp only [World.size_alloc] at iv11
    go_wp2_with fail
    refine (sCacheRun_any _ _ [-2, -2] l _ (reads_of_owns op3 (by simp)) (reads_of_owns ot (by omega)) (by omega)).mono ?_
    rintro e w5 ⟨u3, b3, rfl, oy3, oh3, hb⟩
    have hk12 := btr (bself w4) hb
    have hsz12 := hb.size
    replace ot := own_below ot hk12
    replace bx4 := kept_cell hk12 bx4
    replace oy2 := own_below oy2 hk12
    replace bx10 := kept_cell hk12 bx10
    replace op3 := own_below op3 hk12
    replace tot := btr tot hk12
    clear hk12 hb
    obtain ⟨ya3, yc3, rfl⟩ := own_shape oy3
    have iv13 := oy3.lt
    obtain ⟨ha3, hc3, rfl⟩ := own_shape oh3
    clear oh3
    clear op3
    have lt14 := lt_of_cell bx4
    have lt15 := lt_of_cell bx10
    go_wp2_with fail
    refine (ctInts_b _ _ (crunR [-2, -2] l).1 (crunR [-2, -2] l).1 _ (reads_of_owns (own_below oy2 (bal (bself w5) _)) (by omega)) (reads_of_owns (own_below oy3 (bal (bself w5) _)) (by omega))).mono ?_
    rintro e w6 ⟨rfl, hb⟩
    have hk16 := btr (bal (bself w5) _) hb
    have hsz16 := hb.size
    simp only [World.size_alloc] at hsz16
    replace ot := own_below ot hk16
    replace bx4 := kept_cell hk16 bx4
    replace oy2 := own_below oy2 hk16
    replace bx10 := kept_cell hk16 bx10
    replace oy3 := own_below oy3 hk16
    have bx17 : w6.cell? ⟨w5.heap.size, 0, none⟩ = some (.slice ya3 (crunR [-2, -2] l).1.length yc3) := kept_cell hb (by simp [go_sem])
    replace tot := btr tot hk16
    clear hk16 hb
    rw [decide_eq_true (Eq.refl (crunR [-2, -2] l).1)]
    have lt18 := lt_of_cell bx4
    have lt19 := lt_of_cell bx10
    have lt20 := lt_of_cell bx17
    cases hok : (crunR [-2, -2] l).2.2
    · go_wp2_with fail
      refine (ctInts_b _ _ (crunR [-2, -2] l).1 (crunR [-2, -2] l).1 _ (reads_of_owns oy2 (by omega)) (reads_of_owns oy3 (by omega))).mono ?_
      rintro e w7 ⟨rfl, hb⟩
      have hk21 := btr (bself w6) hb
      have hsz21 := hb.size
      replace ot := own_below ot hk21
      replace bx4 := kept_cell hk21 bx4
      replace oy2 := own_below oy2 hk21
      replace bx10 := kept_cell hk21 bx10
      replace oy3 := own_below oy3 hk21
      replace bx17 := kept_cell hk21 bx17
      replace tot := btr tot hk21
      clear hk21 hb
      rw [decide_eq_true (Eq.refl (crunR [-2, -2] l).1)]
      clear oy2 oy3 ot
      go_wp2
      go_ret
      exact ⟨rfl, tot⟩
    · obtain ⟨hxo, hcs⟩ := crunR_true hok
      have hinv := crun_inv [-2, -2] hxo l _ _ hcs
      have hy2 := cacheOk_len hinv.1
      have HR := Lib.hid (crun_range [-2, -2] l _ hcs)
      have hpr : ∀ k : Nat, k < 2 → ((crunR [-2, -2] l).1.getD k 0 != -2) = anyT k l := fun k hk => by
        rw [crun_last [-2, -2] hxo k hk l _ _ hcs]
        match k, hk with
        | 0, _ => exact prime_any _ l HR.out
        | 1, _ => exact prime_any _ l HR.out
      have hpl : probeL (crunR [-2, -2] l).1 = (crunR [-2, -2] l).1.map (fun n => n != -2) := by unfold probeL; rw [if_pos hinv.1]
      generalize (crunR [-2, -2] l).1 = ys at *
      have hY1 : 2 ≤ ys.length := by omega
      have hY2 : ys.length ≤ 2 := by omega
      have hpn : (probeL ys).length = 2 := by rw [hpl, List.length_map, hy2]
      have hpr2 : ∀ k : Nat, k < 2 → (probeL ys).getD k false = anyT k l := fun k hk => by
        rw [← hpr k hk, hpl]
        have : k < ys.length := by omega
        simp [this]
      have HP := Lib.hid hpr2
      have HN := Lib.hid hpn
      have hp1 : 2 ≤ (probeL ys).length := by omega
      have hp2 : (((probeL ys).length : Int) == 2) = true := by rw [hpn]; rfl
      clear hok hxo hcs hinv hy2 hcr1 hcr2 hpr hpl hpn hpr2
      clear oy3
      go_wp2_with fail
      refine (iProbe_any _ ys _ (reads_of_owns oy2 (by omega))).mono ?_
      rintro e w7 ⟨pv, rfl, oq, hb⟩
      have hk21 := btr (bself w6) hb
      have hsz21 := hb.size
      replace ot := own_below ot hk21
      replace bx4 := kept_cell hk21 bx4
      replace oy2 := own_below oy2 hk21
      replace bx10 := kept_cell hk21 bx10
      replace bx17 := kept_cell hk21 bx17
      replace tot := btr tot hk21
      clear hk21 hb
      obtain ⟨gq, cq, rfl⟩ := own_pos oq (by omega)
      have iv22 := oq.lt
      have lt23 := lt_of_cell bx4
      have lt24 := lt_of_cell bx10
      have lt25 := lt_of_cell bx17
      clear oy2 HN
      go_wp2_with fail
      go_loop [12] (fun ln => ∃ k : Nat, k ≤ 2 ∧ ln = .int .i64 k) (fun ln => 2 - (intOf ln).toNat)
      case atStart => exact ⟨0, by omega, rfl⟩
      case round =>
        obtain ⟨k, hk, rfl⟩ := hrel
        by_cases hlt : k < 2
        · have hcq : w7.cell? ⟨gq, k, none⟩ = some (.bool ((probeL ys).getD k false)) := by
            rw [oq.cellAt k (by omega)]
            have : k < (probeL ys).length := by omega
            simp [bools, this]
          rw [HP.out k hlt] at hcq
          have hk2 : (k : Int) < ((probeL ys).length : Int) := by omega
          clear oq HP
          go_wp2_with fail
          go_loop [13, 14] (fun b i => ∃ j : Nat, j ≤ l.length ∧ i = .int .i64 j ∧ b = .bool (anyT k (l.take j))) (fun _ i => l.length - (intOf i).toNat)
          case atStart => exact ⟨0, Nat.zero_le _, rfl, rfl⟩
          case round =>
            obtain ⟨j, hj, rfl, rfl⟩ := hrel
            by_cases hlj : j < l.length
            · obtain ⟨tg, tc', htg⟩ := own_pos ot (by omega)
              simp only [Value.slice.injEq, true_and] at htg
              obtain ⟨rfl, rfl⟩ := htg
              obtain ⟨e1, e2⟩ := own_ev ot j hlj
              have htk := anyT_take k l j hlj
              have hrg : touches l[j] = true → isAddr l[j].2 = true := HR.out l[j] (List.getElem_mem hlj)
              generalize l[j] = ev at e1 e2 htk hrg
              obtain ⟨kd, v0⟩ := ev
              simp only at e1 e2 htk
              have HT := Lib.hid htk
              have HG := Lib.hid hrg
              have hji : (j : Int) < (l.length : Int) := by omega
              clear htk hrg ot
              generalize anyT k (l.take j) = b0 at *
              by_cases ht : touches (kd, v0) = true
              · have hr := of_decide_eq_true (HG.out ht)
                simp only at hr
                obtain ⟨hv0, hv7⟩ := hr
                have hk23 : (kd == 2) = true ∨ ((kd == 2) = false ∧ (kd == 3) = true) := by
                  have h := of_decide_eq_true ht
                  simp only at h
                  rcases h with rfl | rfl
                  · exact Or.inl rfl
                  · exact Or.inr ⟨rfl, rfl⟩
                have HTT := Lib.hid ht
                clear ht
                cases b0
                all_goals
                  rcases hk23 with h2 | ⟨h2, h3⟩
                  all_goals
                    go_wp2_with fail
                    go_round
                    case rel => exact ⟨j + 1, by omega, by go_num, by rw [HT.out, HTT.out]; simp⟩
                    case measure => simp [intOf]; omega
              · have h2 : (kd == 2) = false := by unfold touches at ht; simp at ht ⊢; exact ht.1
                have h3 : (kd == 3) = false := by unfold touches at ht; simp at ht ⊢; exact ht.2
                have HTT : Hid (touches (kd, v0) = false) := Lib.hid (by simpa using ht)
                clear ht
                cases b0
                all_goals
                  go_wp2_with fail
                  go_round
                  case rel => exact ⟨j + 1, by omega, by go_num, by rw [HT.out, HTT.out]; simp⟩
                  case measure => simp [intOf]; omega
            · have e : j = l.length := by omega
              subst e
              rw [List.take_length]
              generalize anyT k l = b0 at *
              clear ot
              cases b0
              all_goals
                go_wp2_with fail
                go_round
                case rel => exact ⟨k + 1, by omega, by go_num⟩
                case measure => simp [intOf]; omega
        · clear oq ot HP HR
          go_wp2_with fail
          go_ret
          exact ⟨rfl, tot⟩
  · have hn2 : (1048576 : Int) < (n : Int) := by omega
    obtain ⟨va, vc, rfl⟩ := reads_shape r0
    clear r0
    go_enter Try.func12, Try.ntmps12
    go_wp2
    go_ret
    exact ⟨rfl, Below.refl _ _⟩
end Go.Proofs.Ytcnaeeejffeeoaa
