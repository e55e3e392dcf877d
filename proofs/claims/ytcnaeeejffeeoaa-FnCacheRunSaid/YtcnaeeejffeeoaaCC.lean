import Derived.Test.YtcnaeeejffeeoaaBB
namespace Go.Proofs.Ytcnaeeejffeeoaa
open Go.RowKit

theorem ctInts_b (va vb : Value) (xs ys : List Int) (w : World) (ha : Reads w 1 va xs.length (ints xs)) (hb : Reads w 1 vb ys.length (ints ys)) :
    Calls Try.prog 29 #[va, vb] w fun e w' => e = .returned (.bool (decide (xs = ys))) ∧ Below w.heap.size w w' :=
  (ctInts_any va vb xs ys w ha hb).mono fun _ _ ⟨h, k, hk⟩ => ⟨h, hk ▸ below_drewN' w k⟩
theorem ctBools_b (va vb : Value) (xs ys : List Bool) (w : World) (ha : Reads w 1 va xs.length (bools xs)) (hb : Reads w 1 vb ys.length (bools ys)) :
    Calls Try.prog 32 #[va, vb] w fun e w' => e = .returned (.bool (decide (xs = ys))) ∧ Below w.heap.size w w' :=
  (ctBools_any va vb xs ys w ha hb).mono fun _ _ ⟨h, k, hk⟩ => ⟨h, hk ▸ below_drewN' w k⟩

theorem prime_cell {w : World} {base g c k : Nat} (ho : w.ownsRow base 3 1 (.slice (some ⟨g, 0, none⟩) 2 c) 2 (ints [-2, -2])) (hk : (k : Int) < 2) : w.cell? ⟨g, k, none⟩ = some (.int .i64 (-2)) := by
  have hk' : k < 2 := by omega
  rw [ho.cellAt k (by omega)]
  match k, hk' with
  | 0, _ => rfl
  | 1, _ => rfl

set_option maxHeartbeats 4000000 in
set_option maxRecDepth 100000 in
theorem FnProbeEmpty_walk (v : Value) (n : Nat) (vs : List Int) (w : World) (r0 : Reads w 1 v n (vs.map (Value.int .u8))) (hv : ∀ x ∈ vs, 0 ≤ x ∧ x < 256) :
    Calls Try.prog 7 #[v] w fun e w' => e = .returned (.bool true) ∧ Below w.heap.size w w' := by
  by_cases hn : n ≤ 1048576
  · obtain ⟨va, vc, rfl⟩ := reads_shape r0
    have hn2 : ¬ (1048576 : Int) < (n : Int) := by omega
    go_enter Try.func7, Try.ntmps7
    go_wp2_with fail
    refine (DrawProbeCache_any _ n vs _ r0 hv hn).mono ?_
    rintro e w1 ⟨u, xs, rfl, oc, hxl, hb⟩
    have hk1 := btr (bself w) hb
    have hsz1 := hb.size
    have tot := hk1
    clear hk1 hb
    clear r0 hv
    obtain ⟨a1, c1, rfl⟩ := own_shape oc
    have iv2 := oc.lt
    have hll := probeL_len xs
    go_wp2_with fail
    refine (iProbe_any _ xs _ (reads_of_owns (own_below oc (bal (bself w1) _)) (by omega))).mono ?_
    rintro e w2 ⟨v2, rfl, op, hb⟩
    have hk3 := btr (bal (bself w1) _) hb
    have hsz3 := hb.size
    simp only [World.size_alloc] at hsz3
    replace oc := own_below oc hk3
    have bx4 : w2.cell? ⟨w1.heap.size, 0, none⟩ = some (.slice a1 xs.length c1) := kept_cell hb (by simp [go_sem])
    replace tot := btr tot hk3
    clear hk3 hb
    obtain ⟨a2, c2, rfl⟩ := own_shape op
    have iv5 := op.lt
    simp only [World.size_alloc] at iv5
    have lt6 := lt_of_cell bx4
    go_wp2_with fail
    refine (sProbe_any _ xs _ (reads_of_owns oc (by omega))).mono ?_
    rintro e w3 ⟨v3, rfl, oq, hb⟩
    have hk7 := btr (bself w2) hb
    have hsz7 := hb.size
    replace oc := own_below oc hk7
    replace bx4 := kept_cell hk7 bx4
    replace op := own_below op hk7
    replace tot := btr tot hk7
    clear hk7 hb
    obtain ⟨a3, c3, rfl⟩ := own_shape oq
    have iv8 := oq.lt
    have lt9 := lt_of_cell bx4
    go_wp2_with fail
    refine (ctBools_b _ _ (probeL xs) (probeL xs) _ (reads_of_owns op (by omega)) (reads_of_owns oq (by omega))).mono ?_
    rintro e w4 ⟨rfl, hb⟩
    have hk10 := btr (bself w3) hb
    have hsz10 := hb.size
    replace oc := own_below oc hk10
    replace bx4 := kept_cell hk10 bx4
    replace op := own_below op hk10
    replace oq := own_below oq hk10
    replace tot := btr tot hk10
    clear hk10 hb
    rw [decide_eq_true (Eq.refl (probeL xs))]
    clear oq
    have lt11 := lt_of_cell bx4
    go_wp2_with fail
    refine (iCacheValid_any _ xs _ (reads_of_owns oc (by omega))).mono ?_
    rintro e w5 ⟨rfl, hb⟩
    have hk12 := btr (bself w4) hb
    have hsz12 := hb.size
    replace oc := own_below oc hk12
    replace bx4 := kept_cell hk12 bx4
    replace op := own_below op hk12
    replace tot := btr tot hk12
    clear hk12 hb
    have lt13 := lt_of_cell bx4
    by_cases hok : cacheOk xs = true
    · rw [hok]
      have hlen := cacheOk_len hok
      have hpl : probeL xs = xs.map (fun n => n != -2) := by unfold probeL; rw [if_pos hok]
      have hpn : (probeL xs).length = xs.length := by rw [hpl]; simp
      have HP := Lib.hid hpl
      have HN := Lib.hid hpn
      have HLEN := Lib.hid hlen
      have hx2 : xs.length ≤ 2 := by omega
      obtain ⟨g1, c1', hg1⟩ := own_pos oc (by omega)
      simp only [Value.slice.injEq, true_and] at hg1
      obtain ⟨rfl, rfl⟩ := hg1
      obtain ⟨g2, c2', hg2⟩ := own_pos op (by omega)
      simp only [Value.slice.injEq, true_and] at hg2
      obtain ⟨rfl, rfl⟩ := hg2
      clear hok hpl hpn hlen
      go_wp2_with fail
      have hfield : ∀ (W : World) (a : Option Addr) (m c : Nat), (Instr.field 24 (.agg #[.slice a m c]) 0).run Try.prog W = .ok (.slice a m c) W := fun _ _ _ _ => by kernel_rfl
      go_loopw [5] (fun i wr => ∃ k : Nat, k ≤ (probeL xs).length ∧ i = .int .i64 k ∧ Below w5.heap.size w5 wr) (fun i _ => (probeL xs).length - (intOf i).toNat)
      case atStart => exact ⟨0, Nat.zero_le _, rfl, Below.refl _ _⟩
      case round =>
        obtain ⟨k, hk, rfl, hbr⟩ := hrel
        have bxr := kept_cell hbr bx4
        have opr := own_below op hbr
        have ocr := own_below oc hbr
        by_cases hlt : k < (probeL xs).length
        · have hk2 : k < xs.length := by rw [← HN.out]; exact hlt
          have hcp : wr.cell? ⟨g2, k, none⟩ = some (.bool (probeL xs)[k]) := by rw [opr.cellAt k (by omega)]; simp [bools, hlt]
          have hcx : wr.cell? ⟨g1, k, none⟩ = some (.int .i64 xs[k]) := by rw [ocr.cellAt k (by omega)]; simp [ints, hk2]
          have hpk : (probeL xs)[k] = (xs[k] != -2) := by simp [HP.out]
          rw [hpk] at hcp
          clear hpk
          generalize xs[k] = x at hcp hcx
          have hS : ∀ W', Below wr.heap.size wr W' → W'.cell? ⟨w1.heap.size, 0, none⟩ = some (.slice (some ⟨g1, 0, none⟩) xs.length c1) ∧ W'.cell? ⟨g2, k, none⟩ = some (.bool (x != -2)) ∧ W'.cell? ⟨g1, k, none⟩ = some (.int .i64 x) := fun W' h => ⟨kept_cell h bxr, kept_cell h hcp, kept_cell h hcx⟩
          have HS := Lib.hid hS
          clear hS
          have hki : (k : Int) < (xs.length : Int) := by omega
          have hki2 : (k : Int) < ((probeL xs).length : Int) := by omega
          have hki3 : (k : Int) < 2 := by omega
          clear opr ocr op oc tot
          go_wp2_with fail
          go_region_with (go_at_call 21; refine (iPrime_any _).mono ?_; rintro e wc ⟨v9, rfl, o9, hbc⟩; obtain ⟨g9, c9, rfl⟩ := own_pos o9 (by omega); have hc9 := prime_cell o9 hki3; obtain ⟨k1, k2, k3⟩ := HS.out _ (btr (Below.drew (bself _)) hbc))
          all_goals
            have hbw := btr hbr (btr (Below.drew (bself wr)) hbc)
            clear HS hcp hcx hbc o9 hc9 bxr k1 k2 k3
            go_wp2_with fail
            go_roundw
            case rel => exact ⟨k + 1, by omega, by go_num, hbw⟩
            case measure => simp [intOf]; omega
        · have tot2 := btr tot hbr
          clear op oc opr ocr bxr hbr tot
          go_wp2_with fail
          refine (iEmpty_any _).mono ?_
          rintro e w101 ⟨v20, rfl, p20, hb⟩
          have hk101 := btr (bself wr) hb
          have hsz101 := hb.size
          replace tot2 := btr tot2 hk101
          clear hk101 hb
          obtain ⟨a20, c20, rfl⟩ := own_shape p20
          have iv102 := p20.lt
          go_wp2_with fail
          refine (sEmpty_any _).mono ?_
          rintro e w102 ⟨v21, rfl, p21, hb⟩
          have hk103 := btr (bself w101) hb
          have hsz103 := hb.size
          replace p20 := own_below p20 hk103
          replace tot2 := btr tot2 hk103
          clear hk103 hb
          obtain ⟨a21, c21, rfl⟩ := own_shape p21
          have iv104 := p21.lt
          go_wp2_with fail
          refine (ctInts_b _ _ [-1, -1] [-1, -1] _ (reads_of_owns p20 (by simp)) (reads_of_owns p21 (by simp))).mono ?_
          rintro e w103 ⟨rfl, hb⟩
          have hk105 := btr (bself w102) hb
          have hsz105 := hb.size
          replace p20 := own_below p20 hk105
          replace p21 := own_below p21 hk105
          replace tot2 := btr tot2 hk105
          clear hk105 hb
          rw [decide_eq_true (Eq.refl ([-1, -1] : List Int))]
          clear p20
          clear p21
          go_wp2_with fail
          refine (iPrime_any _).mono ?_
          rintro e w104 ⟨v30, rfl, p30, hb⟩
          have hk106 := btr (bself w103) hb
          have hsz106 := hb.size
          replace tot2 := btr tot2 hk106
          clear hk106 hb
          obtain ⟨a30, c30, rfl⟩ := own_shape p30
          have iv107 := p30.lt
          go_wp2_with fail
          refine (sPrime_any _).mono ?_
          rintro e w105 ⟨v31, rfl, p31, hb⟩
          have hk108 := btr (bself w104) hb
          have hsz108 := hb.size
          replace p30 := own_below p30 hk108
          replace tot2 := btr tot2 hk108
          clear hk108 hb
          obtain ⟨a31, c31, rfl⟩ := own_shape p31
          have iv109 := p31.lt
          go_wp2_with fail
          refine (ctInts_b _ _ [-2, -2] [-2, -2] _ (reads_of_owns p30 (by simp)) (reads_of_owns p31 (by simp))).mono ?_
          rintro e w106 ⟨rfl, hb⟩
          have hk110 := btr (bself w105) hb
          have hsz110 := hb.size
          replace p30 := own_below p30 hk110
          replace p31 := own_below p31 hk110
          replace tot2 := btr tot2 hk110
          clear hk110 hb
          rw [decide_eq_true (Eq.refl ([-2, -2] : List Int))]
          clear p30
          clear p31
          go_wp2
          go_ret
          exact ⟨rfl, tot2⟩
    · have hf : cacheOk xs = false := by simpa using hok
      rw [hf]
      clear hok hf
      go_wp2_with fail
      refine (sProbe_any _ xs _ (reads_of_owns oc (by omega))).mono ?_
      rintro e w6 ⟨v9, rfl, oq, hb⟩
      have hk14 := btr (bself w5) hb
      have hsz14 := hb.size
      replace oc := own_below oc hk14
      replace bx4 := kept_cell hk14 bx4
      replace op := own_below op hk14
      replace tot := btr tot hk14
      clear hk14 hb
      obtain ⟨a9, c9, rfl⟩ := own_shape oq
      have iv15 := oq.lt
      have lt16 := lt_of_cell bx4
      go_wp2_with fail
      refine (ctBools_b _ _ (probeL xs) (probeL xs) _ (reads_of_owns op (by omega)) (reads_of_owns oq (by omega))).mono ?_
      rintro e w7 ⟨rfl, hb⟩
      have hk17 := btr (bself w6) hb
      have hsz17 := hb.size
      replace oc := own_below oc hk17
      replace bx4 := kept_cell hk17 bx4
      replace op := own_below op hk17
      replace oq := own_below oq hk17
      replace tot := btr tot hk17
      clear hk17 hb
      rw [decide_eq_true (Eq.refl (probeL xs))]
      clear op oq oc
      go_wp2
      go_ret
      exact ⟨rfl, tot⟩
  · have hn2 : (1048576 : Int) < (n : Int) := by omega
    obtain ⟨va, vc, rfl⟩ := reads_shape r0
    clear r0
    go_enter Try.func7, Try.ntmps7
    go_wp2
    go_ret
    exact ⟨rfl, Below.refl _ _⟩
end Go.Proofs.Ytcnaeeejffeeoaa
