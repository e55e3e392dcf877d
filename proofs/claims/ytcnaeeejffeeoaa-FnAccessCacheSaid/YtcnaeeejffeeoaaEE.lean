import Derived.Test.YtcnaeeejffeeoaaDD
import Derived.Test.YtcnaeeejffeeoaaCC
namespace Go.Proofs.Ytcnaeeejffeeoaa
open Go.RowKit

theorem accL_le2 (xs : List Int) (a : Int) : (accL xs a).length ≤ 2 := by
  unfold accL
  split
  · rename_i h
    unfold accOk at h
    rw [Bool.and_eq_true] at h
    simp [cacheOk_len h.1]
  · simp
/-- in how many of the first k places two rows part -/
def cdiff (ys xs : List Int) : Nat → Int
  | 0 => 0
  | k + 1 => cdiff ys xs k + if (ys.getD k 0 != xs.getD k 0) = true then 1 else 0
theorem cdiff_le (ys xs : List Int) (k : Nat) : 0 ≤ cdiff ys xs k ∧ cdiff ys xs k ≤ k := by
  induction k with
  | zero => simp [cdiff]
  | succ k ih => simp only [cdiff]; split <;> omega
theorem acc_again {xs : List Int} {a : Int} (h : accOk xs a = true) : accH (accL xs a) a = true := by
  have hh := h
  unfold accOk at hh
  rw [Bool.and_eq_true] at hh
  have ha := of_decide_eq_true hh.2
  obtain ⟨x, y, rfl⟩ := cacheOk_two hh.1
  have h2 := accOk_of (accL_ok h) ha.1 ha.2
  unfold accH; rw [h2]
  unfold accL; rw [if_pos h]
  have hm : a / 2 % 2 = 0 ∨ a / 2 % 2 = 1 := by omega
  rcases hm with hm | hm
  · have e : (a / 2 % 2).toNat = 0 := by omega
    simp [e]
  · have e : (a / 2 % 2).toNat = 1 := by omega
    simp [e]
theorem acc_diff {xs : List Int} {a : Int} (h : accOk xs a = true) : accH xs a = (cdiff (accL xs a) xs 2 == 0) := by
  have hh := h
  unfold accOk at hh
  rw [Bool.and_eq_true] at hh
  obtain ⟨x, y, rfl⟩ := cacheOk_two hh.1
  unfold accH; rw [h]
  unfold accL; rw [if_pos h]
  have hm : a / 2 % 2 = 0 ∨ a / 2 % 2 = 1 := by omega
  rcases hm with hm | hm
  · have e : (a / 2 % 2).toNat = 0 := by omega
    by_cases hx : x = a / 2
    · simp [e, cdiff, hx]
    · have : ¬ a / 2 = x := fun h => hx h.symm
      simp [e, cdiff, hx, this]
  · have e : (a / 2 % 2).toNat = 1 := by omega
    by_cases hx : y = a / 2
    · simp [e, cdiff, hx]
    · have : ¬ a / 2 = y := fun h => hx h.symm
      simp [e, cdiff, hx, this]

set_option maxHeartbeats 4000000 in
set_option maxRecDepth 100000 in
theorem FnAccessCache_walk (v : Value) (n : Nat) (vs : List Int) (w : World) (r0 : Reads w 1 v n (vs.map (Value.int .u8))) (hv : ∀ x ∈ vs, 0 ≤ x ∧ x < 256) :
    Calls Try.prog 6 #[v] w fun e w' => e = .returned (.bool true) ∧ Below w.heap.size w w' := by
  by_cases hn : n ≤ 1048576
  · obtain ⟨va, vc, rfl⟩ := reads_shape r0
    have hn2 : ¬ (1048576 : Int) < (n : Int) := by omega
    go_enter Try.func6, Try.ntmps6
    go_wp2_with fail
    refine (DrawAccessCache_any _ n vs _ r0 hv hn).mono ?_
    rintro e w1 ⟨u, xs, a, rfl, oc, hxl, hb⟩
    have hk1 := btr (bself w) hb
    have hsz1 := hb.size
    have tot := hk1
    clear hk1 hb
    clear r0 hv
    obtain ⟨a1, c1, rfl⟩ := own_shape oc
    have iv2 := oc.lt
    have hll := accL_le2 xs a
    go_wp2_with fail
    refine (iAccess_any _ xs a _ (reads_of_owns (own_below oc (bal (bself w1) _)) (by omega))).mono ?_
    rintro e w2 ⟨v2, rfl, op, hb⟩
    have hk3 := btr (bal (bself w1) _) hb
    have hsz3 := hb.size
    simp only [World.size_alloc] at hsz3
    replace oc := own_below oc hk3
    have bx4 : w2.cell? ⟨w1.heap.size, 0, none⟩ = some (.slice a1 xs.length c1) := kept_cell hb (by simp [go_sem])
    replace tot := btr tot hk3
    clear hk3 hb
    obtain ⟨a2, c2, rfl⟩ := own_shape op
    have iv5 := op.lt
    simp only [World.size_alloc] at iv5
    have lt6 := lt_of_cell bx4
    go_wp2_with fail
    refine (sAccess_any _ xs a _ (reads_of_owns (own_below oc (bal (bself w2) _)) (by omega))).mono ?_
    rintro e w3 ⟨v3, rfl, oq, hb⟩
    have hk7 := btr (bal (bself w2) _) hb
    have hsz7 := hb.size
    simp only [World.size_alloc] at hsz7
    replace oc := own_below oc hk7
    replace bx4 := kept_cell hk7 bx4
    replace op := own_below op hk7
    have bx8 : w3.cell? ⟨w2.heap.size, 0, none⟩ = some (.slice a2 (accL xs a).length c2) := kept_cell hb (by simp [go_sem])
    replace tot := btr tot hk7
    clear hk7 hb
    obtain ⟨a3, c3, rfl⟩ := own_shape oq
    have iv9 := oq.lt
    simp only [World.size_alloc] at iv9
    have lt10 := lt_of_cell bx4
    have lt11 := lt_of_cell bx8
    go_wp2_with fail
    refine (ctInts_b _ _ (accL xs a) (accL xs a) _ (reads_of_owns (own_below op (bal (bself w3) _)) (by omega)) (reads_of_owns (own_below oq (bal (bself w3) _)) (by omega))).mono ?_
    rintro e w4 ⟨rfl, hb⟩
    have hk12 := btr (bal (bself w3) _) hb
    have hsz12 := hb.size
    simp only [World.size_alloc] at hsz12
    replace oc := own_below oc hk12
    replace bx4 := kept_cell hk12 bx4
    replace op := own_below op hk12
    replace bx8 := kept_cell hk12 bx8
    replace oq := own_below oq hk12
    have bx13 : w4.cell? ⟨w3.heap.size, 0, none⟩ = some (.slice a3 (accL xs a).length c3) := kept_cell hb (by simp [go_sem])
    replace tot := btr tot hk12
    clear hk12 hb
    rw [decide_eq_true (Eq.refl (accL xs a))]
    have lt14 := lt_of_cell bx4
    have lt15 := lt_of_cell bx8
    have lt16 := lt_of_cell bx13
    go_wp2_with fail
    refine (iCacheValid_any _ (accL xs a) _ (reads_of_owns op (by omega))).mono ?_
    rintro e w5 ⟨rfl, hb⟩
    have hk17 := btr (bself w4) hb
    have hsz17 := hb.size
    replace oc := own_below oc hk17
    replace bx4 := kept_cell hk17 bx4
    replace op := own_below op hk17
    replace bx8 := kept_cell hk17 bx8
    replace oq := own_below oq hk17
    replace bx13 := kept_cell hk17 bx13
    replace tot := btr tot hk17
    clear hk17 hb
    have lt18 := lt_of_cell bx4
    have lt19 := lt_of_cell bx8
    have lt20 := lt_of_cell bx13
    by_cases hok : accOk xs a = true
    · -- the address is one, the cache is valid
      rw [accL_ok hok]
      have HAG := Lib.hid (acc_again hok)
      have HDF := Lib.hid (acc_diff hok)
      have hx2 : xs.length = 2 := by unfold accOk at hok; rw [Bool.and_eq_true] at hok; exact cacheOk_len hok.1
      have hy2 := cacheOk_len (accL_ok hok)
      have HX2 := Lib.hid hx2
      have HY2 := Lib.hid hy2
      obtain ⟨g1, c1', hg1⟩ := own_pos oc (by omega)
      simp only [Value.slice.injEq, true_and] at hg1
      obtain ⟨rfl, rfl⟩ := hg1
      obtain ⟨g2, c2', hg2⟩ := own_pos op (by omega)
      simp only [Value.slice.injEq, true_and] at hg2
      obtain ⟨rfl, rfl⟩ := hg2
      clear hok hx2 hy2
      clear oq
      go_wp2_with fail
      refine (iAccess_any _ (accL xs a) a _ (reads_of_owns op (by omega))).mono ?_
      rintro e w6 ⟨v4, rfl, oy, hb⟩
      have hk21 := btr (bself w5) hb
      have hsz21 := hb.size
      replace oc := own_below oc hk21
      replace bx4 := kept_cell hk21 bx4
      replace op := own_below op hk21
      replace bx8 := kept_cell hk21 bx8
      replace bx13 := kept_cell hk21 bx13
      replace tot := btr tot hk21
      clear hk21 hb
      rw [HAG.out]
      obtain ⟨a4, c4, rfl⟩ := own_shape oy
      have iv22 := oy.lt
      have lt23 := lt_of_cell bx4
      have lt24 := lt_of_cell bx8
      have lt25 := lt_of_cell bx13
      go_wp2_with fail
      have hz := bal (bself w6) (.cells #[.slice a4 (accL (accL xs a) a).length c4] 24)
      go_loopw [11, 12] (fun t i wr => ∃ k : Nat, k ≤ (accL xs a).length ∧ i = .int .i64 k ∧ t = .int .i64 (cdiff (accL xs a) xs k) ∧ Below w6.heap.size w6 wr) (fun _ i _ => (accL xs a).length - (intOf i).toNat)
      case atStart => exact ⟨0, Nat.zero_le _, rfl, rfl, hz⟩
      case round =>
        obtain ⟨k, hk, rfl, rfl, hbr⟩ := hrel
        have b1 := kept_cell hbr bx4
        have b2 := kept_cell hbr bx8
        have l1 := lt_of_cell b1
        have l2 := lt_of_cell b2
        have opr := own_below op hbr
        have ocr := own_below oc hbr
        have hcd := cdiff_le (accL xs a) xs k
        obtain ⟨hcd0, hcd1⟩ := hcd
        by_cases hlt : k < (accL xs a).length
        · have hkx : k < xs.length := by rw [HX2.out, ← HY2.out]; exact hlt
          have hcp : wr.cell? ⟨g2, k, none⟩ = some (.int .i64 ((accL xs a).getD k 0)) := by rw [opr.cellAt k (by omega)]; simp [ints, hlt]
          have hcx : wr.cell? ⟨g1, k, none⟩ = some (.int .i64 (xs.getD k 0)) := by rw [ocr.cellAt k (by omega)]; simp [ints, hkx]
          have hcs : cdiff (accL xs a) xs (k + 1) = cdiff (accL xs a) xs k + if ((accL xs a).getD k 0 != xs.getD k 0) = true then 1 else 0 := rfl
          have hki : (k : Int) < (xs.length : Int) := by omega
          generalize (accL xs a).getD k 0 = x at hcp hcs
          generalize xs.getD k 0 = y at hcx hcs
          have HCS := Lib.hid hcs
          clear opr ocr op oc tot hcs oy hz
          generalize cdiff (accL xs a) xs k = D at *
          by_cases hxy : (x != y) = true
          · have H := Lib.hid hxy
            go_wp2_with fail
            go_quiet (fail)
            go_wp2_with fail
            go_roundw
            case rel => exact ⟨k + 1, by omega, by go_num, by rw [HCS.out, if_pos H.out], below_drewN hbr _⟩
            case measure => simp [intOf]; omega
          · have H := Lib.hid hxy
            have hxy2 : (x != y) = false := by simpa using hxy
            clear hxy
            go_wp2_with fail
            go_quiet (fail)
            go_wp2_with fail
            go_roundw
            case rel => exact ⟨k + 1, by omega, by go_num, by rw [HCS.out, if_neg H.out]; simp, below_drewN hbr _⟩
            case measure => simp [intOf]; omega
        · have tot2 := btr tot hbr
          have e : k = 2 := by have := HY2.out; omega
          subst e
          have HDF2 := Lib.hid HDF.out.symm
          generalize cdiff (accL xs a) xs 2 = D at *
          clear op oc opr ocr hbr tot hz oy
          go_wp2_with fail
          go_ret
          exact ⟨ret_bool (by rw [HDF2.out]; simp), tot2⟩
    · -- otherwise
      have hok2 : accOk xs a = false := by simpa using hok
      have eL : accL xs a = [] := by unfold accL; rw [if_neg hok]
      have eH : accH xs a = false := by unfold accH; rw [hok2]; rfl
      have eV : cacheOk (accL xs a) = false := by rw [eL]; rfl
      rw [eV]
      have hRC : ∀ W', Below w5.heap.size w5 W' → Reads W' 1 (.slice a1 xs.length c1) xs.length (ints xs) := fun W' h => reads_of_owns (own_below oc h) (by omega)
      have hRP : ∀ W', Below w5.heap.size w5 W' → Reads W' 1 (.slice a2 (accL xs a).length c2) (accL xs a).length (ints (accL xs a)) := fun W' h => reads_of_owns (own_below op h) (by omega)
      have hRQ : ∀ W', Below w5.heap.size w5 W' → Reads W' 1 (.slice a3 (accL xs a).length c3) (accL xs a).length (ints (accL xs a)) := fun W' h => reads_of_owns (own_below oq h) (by omega)
      have hSS : ∀ W', Below w5.heap.size w5 W' → W'.cell? ⟨w1.heap.size, 0, none⟩ = some (.slice a1 xs.length c1) ∧ W'.cell? ⟨w2.heap.size, 0, none⟩ = some (.slice a2 (accL xs a).length c2) ∧ W'.cell? ⟨w3.heap.size, 0, none⟩ = some (.slice a3 (accL xs a).length c3) := fun W' h => ⟨kept_cell h bx4, kept_cell h bx8, kept_cell h bx13⟩
      have HRC := Lib.hid hRC
      have HRP := Lib.hid hRP
      have HRQ := Lib.hid hRQ
      have HSS := Lib.hid hSS
      have c0 := Below.drew (bself w5)
      clear hok hok2 eL eH eV hRC hRP hRQ hSS oc op oq
      go_wp2_with fail
      go_region_held3 (fun W' => W'.cell? ⟨w1.heap.size, 0, none⟩ = some (.slice a1 xs.length c1) ∧ W'.cell? ⟨w2.heap.size, 0, none⟩ = some (.slice a2 (accL xs a).length c2) ∧ W'.cell? ⟨w3.heap.size, 0, none⟩ = some (.slice a3 (accL xs a).length c3)) (first | exact HSS.out _ (btr (btr (btr c0 hA) hI) hS) | exact HSS.out _ (btr (btr (btr c0 hA) hS) hI) | exact HSS.out _ (btr (btr c0 hA) hI) | exact HSS.out _ (btr (btr c0 hA) hS) | exact HSS.out _ (btr c0 hA) | exact HSS.out _ c0) (first | (go_at_call 29; refine (ctInts_b _ _ (accL xs a) (accL xs a) _ (HRP.out _ c0) (HRQ.out _ c0)).mono ?_; rw [decide_eq_true (Eq.refl (accL xs a))]; rintro e wA ⟨rfl, hA⟩) | (go_at_call 25; refine (iCacheValid_any _ xs _ (HRC.out _ ?_)).mono ?_; (first | exact btr (btr c0 hA) hS | exact btr c0 hA); rintro e wI ⟨rfl, hI⟩) | (go_at_call 23; refine (sCacheValid_any _ xs _ (HRC.out _ ?_)).mono ?_; (first | exact btr (btr c0 hA) hI | exact btr c0 hA); rintro e wS ⟨rfl, hS⟩))
      all_goals
        go_wp2_with fail
        go_ret
        first | exact ⟨rfl, btr tot (btr (btr (btr c0 hA) hI) hS)⟩ | exact ⟨rfl, btr tot (btr (btr (btr c0 hA) hS) hI)⟩
  · have hn2 : (1048576 : Int) < (n : Int) := by omega
    obtain ⟨va, vc, rfl⟩ := reads_shape r0
    clear r0
    go_enter Try.func6, Try.ntmps6
    go_wp2
    go_ret
    exact ⟨rfl, Below.refl _ _⟩
end Go.Proofs.Ytcnaeeejffeeoaa
