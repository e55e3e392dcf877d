import Derived.Test.YtcnaeeejffeeoaaHH
import Derived.Test.YtcnaeeejffeeoaaGG
import Derived.Test.YtcnaeeejffeeoaaCC
namespace Go.Proofs.Ytcnaeeejffeeoaa
open Go.RowKit

set_option maxHeartbeats 4000000 in
set_option maxRecDepth 100000 in
theorem FnCacheState_walk (v : Value) (n : Nat) (vs : List Int) (w : World) (r0 : Reads w 1 v n (vs.map (Value.int .u8))) (hv : ∀ x ∈ vs, 0 ≤ x ∧ x < 256) :
    Calls Try.prog 10 #[v] w fun e w' => e = .returned (.bool true) ∧ Below w.heap.size w w' := by
  by_cases hn : n ≤ 1048576
  · obtain ⟨va, vc, rfl⟩ := reads_shape r0
    have hn2 : ¬ (1048576 : Int) < (n : Int) := by omega
    go_enter Try.func10, Try.ntmps10
    go_wp2_with fail
    refine (DrawCacheRun_any _ n vs _ r0 hv hn).mono ?_
    rintro e w1 ⟨u, tv, xs, l, rfl, oc, hxl, ot, hl8, hb⟩
    have hk1 := btr (bself w) hb
    have hsz1 := hb.size
    have tot := hk1
    clear hk1 hb
    clear r0 hv
    obtain ⟨a1, c1, rfl⟩ := own_shape oc
    have iv2 := oc.lt
    obtain ⟨ta, tc, rfl⟩ := own_shape ot
    have iv3 := ot.lt
    have hcr := crunR_hits xs l
    obtain ⟨hcr1, hcr2⟩ := hcr
    go_wp2_with fail
    refine (iCacheRun_any _ _ xs l _ (reads_of_owns (own_below oc (bal (bself w1) _)) (by omega)) (reads_of_owns (own_below ot (bal (bself w1) _)) (by omega)) (by omega)).mono ?_
    rintro e w2 ⟨u2, b2, rfl, oy, oh, hb⟩
    have hk4 := btr (bal (bself w1) _) hb
    have hsz4 := hb.size
    simp only [World.size_alloc] at hsz4
    replace oc := own_below oc hk4
    replace ot := own_below ot hk4
    have bx5 : w2.cell? ⟨w1.heap.size, 0, none⟩ = some (.slice a1 xs.length c1) := kept_cell hb (by simp [go_sem])
    replace tot := btr tot hk4
    clear hk4 hb
    obtain ⟨a2, c2, rfl⟩ := own_shape oy
    have iv6 := oy.lt
    simp only [World.size_alloc] at iv6
    obtain ⟨a3, c3, rfl⟩ := own_shape oh
    clear oh
    have lt7 := lt_of_cell bx5
    go_wp2_with fail
    refine (sCacheRun_any _ _ xs l _ (reads_of_owns (own_below oc (bal (bself w2) _)) (by omega)) (reads_of_owns (own_below ot (bal (bself w2) _)) (by omega)) (by omega)).mono ?_
    rintro e w3 ⟨u3, b3, rfl, oz, oh2, hb⟩
    have hk8 := btr (bal (bself w2) _) hb
    have hsz8 := hb.size
    simp only [World.size_alloc] at hsz8
    replace oc := own_below oc hk8
    replace ot := own_below ot hk8
    replace bx5 := kept_cell hk8 bx5
    replace oy := own_below oy hk8
    have bx9 : w3.cell? ⟨w2.heap.size, 0, none⟩ = some (.slice a2 (crunR xs l).1.length c2) := kept_cell hb (by simp [go_sem])
    replace tot := btr tot hk8
    clear hk8 hb
    obtain ⟨a4, c4, rfl⟩ := own_shape oz
    have iv10 := oz.lt
    simp only [World.size_alloc] at iv10
    obtain ⟨a5, c5, rfl⟩ := own_shape oh2
    clear oh2
    have lt11 := lt_of_cell bx5
    have lt12 := lt_of_cell bx9
    go_wp2_with fail
    refine (ctInts_b _ _ (crunR xs l).1 (crunR xs l).1 _ (reads_of_owns (own_below oy (bal (bself w3) _)) (by omega)) (reads_of_owns (own_below oz (bal (bself w3) _)) (by omega))).mono ?_
    rintro e w4 ⟨rfl, hb⟩
    have hk13 := btr (bal (bself w3) _) hb
    have hsz13 := hb.size
    simp only [World.size_alloc] at hsz13
    replace oc := own_below oc hk13
    replace ot := own_below ot hk13
    replace bx5 := kept_cell hk13 bx5
    replace oy := own_below oy hk13
    replace bx9 := kept_cell hk13 bx9
    replace oz := own_below oz hk13
    have bx14 : w4.cell? ⟨w3.heap.size, 0, none⟩ = some (.slice a4 (crunR xs l).1.length c4) := kept_cell hb (by simp [go_sem])
    replace tot := btr tot hk13
    clear hk13 hb
    rw [decide_eq_true (Eq.refl (crunR xs l).1)]
    have lt15 := lt_of_cell bx5
    have lt16 := lt_of_cell bx9
    have lt17 := lt_of_cell bx14
    cases hok : (crunR xs l).2.2
    · go_wp2_with fail
      refine (ctInts_b _ _ (crunR xs l).1 (crunR xs l).1 _ (reads_of_owns oy (by omega)) (reads_of_owns oz (by omega))).mono ?_
      rintro e w5 ⟨rfl, hb⟩
      have hk18 := btr (bself w4) hb
      have hsz18 := hb.size
      replace oc := own_below oc hk18
      replace ot := own_below ot hk18
      replace bx5 := kept_cell hk18 bx5
      replace oy := own_below oy hk18
      replace bx9 := kept_cell hk18 bx9
      replace oz := own_below oz hk18
      replace bx14 := kept_cell hk18 bx14
      replace tot := btr tot hk18
      clear hk18 hb
      rw [decide_eq_true (Eq.refl (crunR xs l).1)]
      clear oy oz oc ot
      go_wp2
      go_ret
      exact ⟨rfl, tot⟩
    · obtain ⟨hxo, hcs⟩ := crunR_true hok
      have hinv := crun_inv xs hxo l _ _ hcs
      have hx2 := cacheOk_len hxo
      have hy2 := cacheOk_len hinv.1
      have HL := Lib.hid (fun k hk => crun_last xs hxo k hk l _ _ hcs)
      have HR := Lib.hid (crun_range xs l _ hcs)
      obtain ⟨g1, c1', hg1⟩ := own_pos oc (by omega)
      simp only [Value.slice.injEq, true_and] at hg1
      obtain ⟨rfl, rfl⟩ := hg1
      obtain ⟨g2, c2', hg2⟩ := own_pos oy (by omega)
      simp only [Value.slice.injEq, true_and] at hg2
      obtain ⟨rfl, rfl⟩ := hg2
      generalize (crunR xs l).1 = ys at *
      have hX1 : 2 ≤ xs.length := by omega
      have hY1 : 2 ≤ ys.length := by omega
      clear hok hxo hcs hinv hx2 hy2 oz hcr1 hcr2
      go_wp2_with fail
      go_loop [11] (fun ln => ∃ k : Nat, k ≤ 2 ∧ ln = .int .i64 k) (fun ln => 2 - (intOf ln).toNat)
      case atStart => exact ⟨0, by omega, rfl⟩
      case round =>
        obtain ⟨k, hk, rfl⟩ := hrel
        by_cases hlt : k < 2
        · have hcx : w4.cell? ⟨g1, k, none⟩ = some (.int .i64 (xs.getD k 0)) := by
            rw [oc.cellAt k (by omega)]
            have : k < xs.length := by omega
            simp [ints, this]
          have hcy : w4.cell? ⟨g2, k, none⟩ = some (.int .i64 (ys.getD k 0)) := by
            rw [oy.cellAt k (by omega)]
            have : k < ys.length := by omega
            simp [ints, this]
          have HLK := Lib.hid (HL.out k hlt)
          generalize hx : xs.getD k 0 = x at *
          generalize hy : ys.getD k 0 = y at *
          have hk1 : (k : Int) < (xs.length : Int) := by omega
          have hk2 : (k : Int) < (ys.length : Int) := by omega
          clear hx hy oc oy HL
          go_wp2_with fail
          go_loop [12, 13] (fun b i => ∃ j : Nat, j ≤ l.length ∧ i = .int .i64 j ∧ b = .int .i64 (lastB k x (l.take j))) (fun _ i => l.length - (intOf i).toNat)
          case atStart => exact ⟨0, Nat.zero_le _, rfl, rfl⟩
          case round =>
            obtain ⟨j, hj, rfl, rfl⟩ := hrel
            by_cases hlj : j < l.length
            · obtain ⟨tg, tc', htg⟩ := own_pos ot (by omega)
              simp only [Value.slice.injEq, true_and] at htg
              obtain ⟨rfl, rfl⟩ := htg
              obtain ⟨e1, e2⟩ := own_ev ot j hlj
              have htk := lastB_take k x l j hlj
              have hrg : touches l[j] = true → isAddr l[j].2 = true := HR.out l[j] (List.getElem_mem hlj)
              generalize l[j] = ev at e1 e2 htk hrg
              obtain ⟨kd, v0⟩ := ev
              simp only at e1 e2
              have HT := Lib.hid htk
              have HG := Lib.hid hrg
              have hji : (j : Int) < (l.length : Int) := by omega
              clear htk hrg ot
              generalize lastB k x (l.take j) = b0 at *
              by_cases ht : touches (kd, v0) = true
              · have hr := of_decide_eq_true (HG.out ht)
                simp only at hr
                obtain ⟨hv0, hv7⟩ := hr
                have hk23 : (kd == 2) = true ∨ ((kd == 2) = false ∧ (kd == 3) = true) := by
                  have h := of_decide_eq_true ht
                  simp only at h
                  rcases h with rfl | rfl
                  · exact Or.inl rfl
                  · exact Or.inr ⟨rfl, rfl⟩
                have HTT := Lib.hid ht
                clear ht
                by_cases hm : (v0 / 2 % 2 == (k : Int)) = true
                · have HM : Hid (v0 / 2 % 2 = (k : Int)) := Lib.hid (by simpa using hm)
                  rcases hk23 with h2 | ⟨h2, h3⟩
                  all_goals
                    go_wp2_with fail
                    go_round
                    case rel => exact ⟨j + 1, by omega, by go_num, by rw [HT.out]; unfold stepB; rw [if_pos ⟨HTT.out, HM.out⟩]⟩
                    case measure => simp [intOf]; omega
                · have HM : Hid (¬ v0 / 2 % 2 = (k : Int)) := Lib.hid (by simpa using hm)
                  have hm2 : (v0 / 2 % 2 == (k : Int)) = false := by simpa using hm
                  clear hm
                  rcases hk23 with h2 | ⟨h2, h3⟩
                  all_goals
                    go_wp2_with fail
                    go_round
                    case rel => exact ⟨j + 1, by omega, by go_num, by rw [HT.out]; unfold stepB; rw [if_neg (fun h => HM.out h.2)]⟩
                    case measure => simp [intOf]; omega
              · have h2 : (kd == 2) = false := by unfold touches at ht; simp at ht ⊢; exact ht.1
                have h3 : (kd == 3) = false := by unfold touches at ht; simp at ht ⊢; exact ht.2
                have HTT := Lib.hid ht
                clear ht
                go_wp2_with fail
                go_round
                case rel => exact ⟨j + 1, by omega, by go_num, by rw [HT.out]; unfold stepB; rw [if_neg (fun h => HTT.out h.1)]⟩
                case measure => simp [intOf]; omega
            · have e : j = l.length := by omega
              subst e
              rw [List.take_length]
              have hyl : (y != lastB k x l) = false := by rw [← HLK.out]; simp
              generalize lastB k x l = b0 at *
              clear ot
              go_wp2_with fail
              go_round
              case rel => exact ⟨k + 1, by omega, by go_num⟩
              case measure => simp [intOf]; omega
        · clear oc oy ot HL HR
          go_wp2_with fail
          go_ret
          exact ⟨rfl, tot⟩
  · have hn2 : (1048576 : Int) < (n : Int) := by omega
    obtain ⟨va, vc, rfl⟩ := reads_shape r0
    clear r0
    go_enter Try.func10, Try.ntmps10
    go_wp2
    go_ret
    exact ⟨rfl, Below.refl _ _⟩
end Go.Proofs.Ytcnaeeejffeeoaa
