/-
  CheckLive of the program and of the reference.
-/
import Derived.Test.YtkbbpnfhenoihaaLB
import Derived.Test.YtkbbpnfhenoihaaLC
import Derived.Test.YtkbbpnfhenoihaaLX
namespace Go.Proofs.Ytkbbpnfhenoihaa
open Go.RowKit

def all14 (L : List (List Bool)) : Bool := L.all (fun r => decide (r.length = 14))
def covAt (c : Cd) (L : List (List Bool)) (k : Nat) : Bool := cov ((L[k]?).getD []) (befAt c L k)
def covAll (c : Cd) (L : List (List Bool)) : Bool := (List.range c.list.length).all (covAt c L)
def checkR (c : Cd) (L : List (List Bool)) : Bool := codeOk c && (decide (L.length = c.list.length) && (all14 L && covAll c L))
theorem all14_no {L : List (List Bool)} {k : Nat} (h : k < L.length) (h2 : ¬ L[k].length = 14) : all14 L = false := by
  unfold all14; rw [List.all_eq_false]
  exact ⟨_, List.getElem_mem h, by simpa using h2⟩
theorem all14_yes {L : List (List Bool)} (h : ∀ k (hk : k < L.length), L[k].length = 14) : all14 L = true := by
  unfold all14; rw [List.all_eq_true]
  intro r hr
  obtain ⟨k, hk, rfl⟩ := List.getElem_of_mem hr
  simpa using h k hk
theorem all14_at {L : List (List Bool)} (h : all14 L = true) : ∀ k (hk : k < L.length), L[k].length = 14 := by
  intro k hk
  unfold all14 at h
  simpa using List.all_eq_true.1 h _ (List.getElem_mem hk)
theorem covAll_no {c : Cd} {L : List (List Bool)} {k : Nat} (h : k < c.list.length) (h2 : covAt c L k = false) : covAll c L = false := by
  unfold covAll; rw [List.all_eq_false]
  exact ⟨k, List.mem_range.2 h, by simp [h2]⟩
theorem covAll_yes {c : Cd} {L : List (List Bool)} (h : ∀ k, k < c.list.length → covAt c L k = true) : covAll c L = true := by
  unfold covAll; rw [List.all_eq_true]
  intro k hk
  exact h k (List.mem_range.1 hk)
theorem covAt_at (c : Cd) (L : List (List Bool)) (k : Nat) (h : k < L.length) : covAt c L k = cov L[k] (befAt c L k) := by unfold covAt; rw [List.getElem?_eq_getElem h]; rfl

theorem not14_any (u : Value) (n : Nat) (vs : List Value) (w : World) (hu : Reads w 1 u n vs) :
    Calls Try.prog 111 #[u] w fun e w' => e = .returned (.bool (!decide (n = 14))) ∧ Below w.heap.size w w' := by
  obtain ⟨a, c, rfl⟩ := reads_shape hu
  have hn := hu.2.1
  clear hu
  have hd : Hid (((n : Int) != 14) = !decide (n = 14)) := Lib.hid (by rw [Bool.eq_iff_iff]; simp; omega)
  go_enter Try.func111, Try.ntmps111
  go_wp2
  go_ret
  exact ⟨ret_bool hd.out, bself w⟩
theorem idxRow_any (v : Value) (L : List (List Bool)) (w : World) (hr : Reads2 bools w v L) :
    Calls Try.prog 151 #[v, .func (.func 111) #[] #[]] w fun e w' => ∃ r : Int, e = .returned (.int .i64 r) ∧ decide (0 ≤ r) = !all14 L ∧ Below w.heap.size w w' := by
  obtain ⟨a, c, rfl⟩ := hr.shape
  have hn := hr.lenle
  have HR := Lib.hid hr
  clear hr
  go_enter Try.func151, Try.ntmps151
  go_wp2
  go_loopw [8] (fun i wr => ∃ k : Nat, k ≤ L.length ∧ i = .int .i64 k ∧ (∀ j (h : j < L.length), j < k → L[j].length = 14) ∧ Below w.heap.size w wr) (fun i _ => L.length - (intOf i).toNat)
  case atStart => exact ⟨0, Nat.zero_le _, rfl, fun j _ h => absurd h (by omega), bself w⟩
  case round =>
    obtain ⟨k, hk, rfl, hall, hbel⟩ := hrel
    have HA := Lib.hid hall; clear hall
    by_cases hlt : k < L.length
    · obtain ⟨b, off, u, rfl, hb, hc, hu⟩ := (HR.out.below hbel).at k hlt
      have HN := Lib.hid (fun h => all14_no hlt h)
      have HY : Hid (L[k].length = 14 → ∀ j (h : j < L.length), j < k + 1 → L[j].length = 14) := Lib.hid (fun h j hj hlt2 => by
        by_cases e : j = k
        · subst e; exact h
        · exact HA.out j hj (by omega))
      have kc := lt_of_cell hc
      generalize hq : L[k].length = n at *
      have HQ := Lib.hid hq
      clear hq
      go_wp2_with fail
      refine (not14_any u _ _ _ hu).mono ?_
      rintro e w1 ⟨rfl, hb1⟩
      have hb2 := btr hbel hb1
      clear hu hc
      by_cases hok : n = 14
      · have HO := Lib.hid hok
        rw [decide_eq_true hok]
        clear hok hb1 hbel
        go_wp2
        go_roundw
        case rel => exact ⟨k + 1, by omega, by go_num, HY.out HO.out, hb2⟩
        case measure => simp [intOf]; omega
      · have HO := Lib.hid hok
        rw [decide_eq_false hok]
        clear hok hb1 hbel
        go_wp2
        go_ret
        exact ⟨(k : Int), rfl, by rw [HN.out HO.out]; simp, hb2⟩
    · go_wp2
      go_ret
      exact ⟨-1, rfl, by rw [all14_yes (fun j h => HA.out j h (by omega))]; rfl, hbel⟩
theorem hasRow_any (v : Value) (L : List (List Bool)) (w : World) (hr : Reads2 bools w v L) :
    Calls Try.prog 110 #[v, .func (.func 111) #[] #[]] w fun e w' => e = .returned (.bool (!all14 L)) ∧ Below w.heap.size w w' := by
  go_enter Try.func110, Try.ntmps110
  go_wp2_with fail
  refine (idxRow_any _ L _ hr).mono ?_
  rintro e w1 ⟨r, rfl, hr1, hb⟩
  clear hr
  go_wp2
  go_ret
  exact ⟨rfl, hb⟩

set_option maxHeartbeats 6400000 in
set_option maxRecDepth 100000 in
theorem iCheckLive_any (va vb vc v : Value) (c : Cd) (L : List (List Bool)) (w : World) (hr : ReadsC w va vb vc c) (hv : Reads2 bools w v L) :
    Calls Try.prog 49 #[.agg #[va, vb, vc], v] w fun e w' => e = .returned (.bool (checkR c L)) ∧ Below w.heap.size w w' := by
  obtain ⟨a0, c0, a1, c1, a2, c2, rfl, rfl, rfl⟩ := hr.shape
  obtain ⟨a3, c3, rfl⟩ := hv.shape
  have hnl := hv.lenle
  have hnc := hr.l.2.1
  have HD : Hid (checkR c L = (codeOk c && (decide (L.length = c.list.length) && (all14 L && covAll c L)))) := Lib.hid rfl
  generalize checkR c L = D at *
  have hbx := bal (bself w) (.cells #[.slice a0 c.vars.length c0, .slice a1 c.arrays.length c1, .slice a2 c.list.length c2] 50)
  have HR := Lib.hid hr
  have HV := Lib.hid hv
  clear hr hv
  go_enter Try.func49, Try.ntmps49
  go_wp2_with fail
  refine (iCodeValid_any _ _ _ c _ (HR.out.below hbx)).mono ?_
  rintro e w1 ⟨rfl, hb⟩
  have b0 : w1.cell? ⟨w.heap.size, 0, none⟩ = some (.slice a0 c.vars.length c0) := kept_cell hb (cell_nw (by simp) (by rfl))
  have b1 : w1.cell? ⟨w.heap.size, 1, none⟩ = some (.slice a1 c.arrays.length c1) := kept_cell hb (cell_nw (by simp) (by rfl))
  have b2 : w1.cell? ⟨w.heap.size, 2, none⟩ = some (.slice a2 c.list.length c2) := kept_cell hb (cell_nw (by simp) (by rfl))
  have k2 := lt_of_cell b2
  replace hbx := btr hbx hb
  clear hb
  cases hok : codeOk c with
  | false =>
    have HO := Lib.hid hok; clear hok
    go_wp2
    go_ret
    exact ⟨ret_bool (by rw [HD.out, HO.out]; rfl), hbx⟩
  | true =>
    have HO := Lib.hid hok; clear hok
    obtain ⟨hl1, hl2⟩ := codeOk_len HO.out
    by_cases hll : L.length = c.list.length
    rotate_left
    · have hne : ((L.length : Int) != (c.list.length : Int)) = true := by simp; omega
      have HLL := Lib.hid hll; clear hll
      go_wp2
      go_ret
      exact ⟨ret_bool (by rw [HD.out, HO.out, decide_eq_false HLL.out]; rfl), hbx⟩
    have hne : ((L.length : Int) != (c.list.length : Int)) = false := by simp; omega
    have hle : L.length ≤ c.list.length := by omega
    have hle2 : c.list.length ≤ L.length := by omega
    have HLL := Lib.hid hll; clear hll
    go_wp2_with fail
    refine (hasRow_any _ L _ (HV.out.below hbx)).mono ?_
    rintro e w2 ⟨rfl, hb⟩
    replace b0 := kept_cell hb b0
    replace b1 := kept_cell hb b1
    replace b2 := kept_cell hb b2
    replace k2 := lt_of_cell b2
    replace hbx := btr hbx hb
    clear hb hne
    cases h14 : all14 L with
    | false =>
      have H14 := Lib.hid h14; clear h14
      go_wp2
      go_ret
      exact ⟨ret_bool (by rw [HD.out, HO.out, decide_eq_true HLL.out, H14.out]; rfl), hbx⟩
    | true =>
      have H14 := Lib.hid h14; clear h14
      have HB := Lib.hid (fun (i : Nat) (hi : i < c.list.length) W (hW : Below w.heap.size w W) => liveBefore_any _ _ _ _ c L i W (HR.out.below hW) (HV.out.below hW) HLL.out (all14_at H14.out) HO.out hi)
      obtain ⟨w3, rfl⟩ : ∃ X, X = w2 := ⟨_, rfl⟩
      go_wp2_with fail
      go_loopw [24] (fun i wr => ∃ k : Nat, k ≤ L.length ∧ i = .int .i64 k ∧ (∀ j, j < k → covAt c L j = true) ∧ Below w3.heap.size w3 wr) (fun i _ => L.length - (intOf i).toNat)
      case atStart => exact ⟨0, Nat.zero_le _, rfl, fun j h => absurd h (by omega), bself w3⟩
      case round =>
        obtain ⟨k, hk, rfl, hall, hbel⟩ := hrel
        have HA := Lib.hid hall; clear hall
        have hbw := btr hbx hbel
        by_cases hlt : k < L.length
        · have hkc : k < c.list.length := by omega
          obtain ⟨b, off, u, rfl, hb, hc, hu⟩ := (HV.out.below hbw).at k hlt
          rw [all14_at H14.out k hlt] at hu
          obtain ⟨pa, pc, rfl⟩ := reads_shape hu
          have kc := lt_of_cell hc
          have HN := Lib.hid (fun h => covAll_no (c := c) (L := L) hkc h)
          have HY : Hid (covAt c L k = true → ∀ j, j < k + 1 → covAt c L j = true) := Lib.hid (fun h j hj => by
            by_cases e : j = k
            · subst e; exact h
            · exact HA.out j (by omega))
          have HE := Lib.hid (covAt_at c L k hlt)
          have HL14 : Hid (L[k].length = 14) := Lib.hid (all14_at H14.out k hlt)
          have HB14 : Hid ((befAt c L k).length = 14) := Lib.hid (befAt_len hkc)
          have f2 := kept_cell hbel b2
          have f1 := kept_cell hbel b1
          have f0 := kept_cell hbel b0
          have kf := lt_of_cell f2
          have HBK := Lib.hid (HB.out k hkc _ hbw)
          clear HB
          go_wp2_with fail
          refine HBK.out.mono ?_
          rintro e w4 ⟨g4, rfl, o4, hb4⟩
          replace hu := hu.below hb4
          have hbe := btr hbel hb4
          have hbf := btr hbw hb4
          clear HBK hc hb4
          go_wp2_with fail
          refine (covers_any _ _ L[k] (befAt c L k) _ (by rw [HL14.out]; exact hu) (by rw [HB14.out]; exact reads_of_owns o4 (by omega)) (by rw [HL14.out, HB14.out]; omega) (by rw [HL14.out]; omega)).mono ?_
          rintro e w5 ⟨rfl, rfl⟩
          rw [← HE.out]
          cases hcv : covAt c L k with
          | true =>
            have HC := Lib.hid hcv; clear hcv
            go_wp2
            go_roundw
            case rel => exact ⟨k + 1, by omega, by go_num, HY.out HC.out, hbe⟩
            case measure => simp [intOf]; omega
          | false =>
            have HC := Lib.hid hcv; clear hcv
            go_wp2
            go_ret
            exact ⟨ret_bool (by rw [HD.out, HO.out, decide_eq_true HLL.out, H14.out, HN.out HC.out]; rfl), hbf⟩
        · have HZ := Lib.hid (covAll_yes (c := c) (L := L) (fun j h => HA.out j (by omega)))
          go_wp2
          go_ret
          exact ⟨ret_bool (by rw [HD.out, HO.out, decide_eq_true HLL.out, H14.out, HZ.out]; rfl), hbw⟩

set_option maxHeartbeats 6400000 in
set_option maxRecDepth 100000 in
theorem sCheckLive_any (va vb vc v : Value) (c : Cd) (L : List (List Bool)) (w : World) (hr : ReadsC w va vb vc c) (hv : Reads2 bools w v L) :
    Calls Try.prog 47 #[.agg #[va, vb, vc], v] w fun e w' => e = .returned (.bool (checkR c L)) ∧ Below w.heap.size w w' := by
  obtain ⟨a0, c0, a1, c1, a2, c2, rfl, rfl, rfl⟩ := hr.shape
  obtain ⟨a3, c3, rfl⟩ := hv.shape
  have hnl := hv.lenle
  have hnc := hr.l.2.1
  have HD : Hid (checkR c L = (codeOk c && (decide (L.length = c.list.length) && (all14 L && covAll c L)))) := Lib.hid rfl
  generalize checkR c L = D at *
  have hbx := bal (bself w) (.cells #[.slice a0 c.vars.length c0, .slice a1 c.arrays.length c1, .slice a2 c.list.length c2] 50)
  have HR := Lib.hid hr
  have HV := Lib.hid hv
  clear hr hv
  go_enter Try.func47, Try.ntmps47
  go_wp2_with fail
  refine (sCodeValid_any _ _ _ c _ (HR.out.below hbx)).mono ?_
  rintro e w1 ⟨rfl, hb⟩
  have b0 : w1.cell? ⟨w.heap.size, 0, none⟩ = some (.slice a0 c.vars.length c0) := kept_cell hb (cell_nw (by simp) (by rfl))
  have b1 : w1.cell? ⟨w.heap.size, 1, none⟩ = some (.slice a1 c.arrays.length c1) := kept_cell hb (cell_nw (by simp) (by rfl))
  have b2 : w1.cell? ⟨w.heap.size, 2, none⟩ = some (.slice a2 c.list.length c2) := kept_cell hb (cell_nw (by simp) (by rfl))
  have k2 := lt_of_cell b2
  replace hbx := btr hbx hb
  clear hb
  cases hok : codeOk c with
  | false =>
    have HO := Lib.hid hok; clear hok
    go_wp2
    go_ret
    exact ⟨ret_bool (by rw [HD.out, HO.out]; rfl), hbx⟩
  | true =>
    have HO := Lib.hid hok; clear hok
    obtain ⟨hl1, hl2⟩ := codeOk_len HO.out
    by_cases hll : L.length = c.list.length
    rotate_left
    · have hne : ((L.length : Int) != (c.list.length : Int)) = true := by simp; omega
      have HLL := Lib.hid hll; clear hll
      go_wp2
      go_ret
      exact ⟨ret_bool (by rw [HD.out, HO.out, decide_eq_false HLL.out]; rfl), hbx⟩
    have hne : ((L.length : Int) != (c.list.length : Int)) = false := by simp; omega
    have hle : L.length ≤ c.list.length := by omega
    have hle2 : c.list.length ≤ L.length := by omega
    have HLL := Lib.hid hll; clear hll
    obtain ⟨b9, off9, hb9a, hb9, HCC⟩ : ∃ b' off, a2 = some ⟨b', off, none⟩ ∧ b' < w.heap.size ∧ Hid (∀ k (h : k < c.list.length), w.cell? ⟨b', off + k * 5, none⟩ = some (.int .i64 c.list[k].op) ∧ w.cell? ⟨b', off + k * 5 + 1, none⟩ = some (.int .i64 c.list[k].a) ∧ w.cell? ⟨b', off + k * 5 + 2, none⟩ = some (.int .i64 c.list[k].b) ∧ w.cell? ⟨b', off + k * 5 + 3, none⟩ = some (.int .i64 c.list[k].c) ∧ w.cell? ⟨b', off + k * 5 + 4, none⟩ = some (.int .i64 c.list[k].d)) := by
      obtain ⟨_, hn', aa, cap', b', off, hvv, hcap, ha, hca⟩ := HR.out.l
      simp only [Value.slice.injEq, true_and] at hvv
      obtain ⟨rfl, rfl⟩ := hvv
      obtain ⟨rfl, hbs⟩ := ha (by omega)
      exact ⟨b', off, rfl, hbs, Lib.hid (reads_Instr hca)⟩
    subst hb9a
    obtain ⟨w2, rfl⟩ : ∃ X, X = w1 := ⟨_, rfl⟩
    go_wp2_with fail
    go_loopw [5] (fun i wr => ∃ k : Nat, k ≤ L.length ∧ i = .int .i64 k ∧ (∀ j (h : j < L.length), j < k → L[j].length = 14) ∧ Below w2.heap.size w2 wr) (fun i _ => L.length - (intOf i).toNat)
    case atStart => exact ⟨0, Nat.zero_le _, rfl, fun j _ h => absurd h (by omega), bself w2⟩
    case round =>
      obtain ⟨k, hk, rfl, hall, hbel⟩ := hrel
      have HA := Lib.hid hall; clear hall
      by_cases hlt : k < L.length
      · obtain ⟨b, off, u, rfl, hb, hc, hu⟩ := (HV.out.below (btr hbx hbel)).at k hlt
        have HN := Lib.hid (fun h => all14_no hlt h)
        have HY : Hid (L[k].length = 14 → ∀ j (h : j < L.length), j < k + 1 → L[j].length = 14) := Lib.hid (fun h j hj hlt2 => by
          by_cases e : j = k
          · subst e; exact h
          · exact HA.out j hj (by omega))
        have kc := lt_of_cell hc
        obtain ⟨pa, pc, rfl⟩ := reads_shape hu
        have hn9 := hu.2.1
        clear hu
        have hbw := btr hbx hbel
        generalize L[k].length = n at *
        by_cases h14 : n = 14
        · have hq : ((n : Int) != 14) = false := by simp; omega
          have H14 := Lib.hid h14; clear h14
          go_wp2
          go_roundw
          case rel => exact ⟨k + 1, by omega, by go_num, HY.out H14.out, hbel⟩
          case measure => simp [intOf]; omega
        · have hq : ((n : Int) != 14) = true := by simp; omega
          have H14 := Lib.hid h14; clear h14
          go_wp2
          go_ret
          exact ⟨ret_bool (by rw [HD.out, HO.out, decide_eq_true HLL.out, HN.out H14.out]; rfl), hbw⟩
      · have H14 := Lib.hid (all14_yes (fun j h => HA.out j h (by omega)))
        have HAF := Lib.hid (fun (i : Nat) (hi : i < c.list.length) W (hW : Below w.heap.size w W) => l12After_any _ _ _ _ c L i W (HR.out.below hW) (HV.out.below hW) HLL.out (all14_at H14.out) HO.out hi)
        have HBE := Lib.hid (fun (v : Value) (A : Nat → Bool) (i : Nat) (hi : i < c.list.length) W (hv : Reads W 1 v 14 (bools (tab A))) => l12Before_any c.list[i] v A W (by have h := insOk_op (codeOk_all HO.out i hi); omega) (fun p hp => knl_in (codeOk_all HO.out i hi) p hp) hv)
        obtain ⟨w3, rfl⟩ : ∃ X, X = wr := ⟨_, rfl⟩
        replace b0 := kept_cell hbel b0
        replace b1 := kept_cell hbel b1
        replace b2 := kept_cell hbel b2
        replace k2 := lt_of_cell b2
        replace hbx := btr hbx hbel
        clear HA hbel
        go_wp2_with fail
        clear hlt hk
        go_loopw [6] (fun i wr => ∃ k : Nat, k ≤ L.length ∧ i = .int .i64 k ∧ (∀ j, j < k → covAt c L j = true) ∧ Below w3.heap.size w3 wr) (fun i _ => L.length - (intOf i).toNat)
        case atStart => exact ⟨0, Nat.zero_le _, rfl, fun j h => absurd h (by omega), bself w3⟩
        case round =>
          obtain ⟨k, hk, rfl, hall, hbel⟩ := hrel
          have HA := Lib.hid hall; clear hall
          have hbw := btr hbx hbel
          by_cases hlt : k < L.length
          · have hkc : k < c.list.length := by omega
            obtain ⟨b, off, u, rfl, hb, hc, hu⟩ := (HV.out.below hbw).at k hlt
            rw [all14_at H14.out k hlt] at hu
            obtain ⟨pa, pc, rfl⟩ := reads_shape hu
            have kc := lt_of_cell hc
            have HN := Lib.hid (fun h => covAll_no (c := c) (L := L) hkc h)
            have HY : Hid (covAt c L k = true → ∀ j, j < k + 1 → covAt c L j = true) := Lib.hid (fun h j hj => by
              by_cases e : j = k
              · subst e; exact h
              · exact HA.out j (by omega))
            have HE := Lib.hid (covAt_at c L k hlt)
            have HL14 : Hid (L[k].length = 14) := Lib.hid (all14_at H14.out k hlt)
            have HB14 : Hid ((befAt c L k).length = 14) := Lib.hid (befAt_len hkc)
            have f2 := kept_cell hbel b2
            have f1 := kept_cell hbel b1
            have f0 := kept_cell hbel b0
            have kf := lt_of_cell f2
            obtain ⟨e0, e1, e2, e3, e4⟩ := HCC.out k hkc
            replace e0 := kept_cell hbw e0; replace e1 := kept_cell hbw e1; replace e2 := kept_cell hbw e2; replace e3 := kept_cell hbw e3; replace e4 := kept_cell hbw e4
            have ke0 := lt_of_cell e0
            have HEQF : Hid (befAt c L k = tab (befF c.list[k] (aftF L (flw c.list[k] k)))) := Lib.hid (befAt_at c L k hkc)
            have HSM : Hid (aft L (nxt c.list[k] k) = tab (aftF L (flw c.list[k] k))) := Lib.hid (by rw [← aft_same]; rfl)
            have HA2 := Lib.hid (fun W (hW : Below wr.heap.size wr W) => by
              have h := HAF.out k hkc W (btr hbw hW)
              rw [HSM.out] at h; exact h)
            have HBB := Lib.hid (fun (v : Value) (W : World) (hv : Reads W 1 v 14 (bools (tab (aftF L (flw c.list[k] k))))) => HBE.out v (aftF L (flw c.list[k] k)) k hkc W hv)
            clear HAF HBE
            have hq : (k : Int) < (c.list.length : Int) := by omega
            generalize c.list[k] = x at *
            have HSS := Lib.hid (show ∀ W', Below wr.heap.size wr W' → (fun W' => W'.cell? ⟨b9, off9 + k * 5, none⟩ = some (.int .i64 x.op) ∧ W'.cell? ⟨b9, off9 + k * 5 + 1, none⟩ = some (.int .i64 x.a) ∧ W'.cell? ⟨b9, off9 + k * 5 + 2, none⟩ = some (.int .i64 x.b) ∧ W'.cell? ⟨b9, off9 + k * 5 + 3, none⟩ = some (.int .i64 x.c) ∧ W'.cell? ⟨b9, off9 + k * 5 + 4, none⟩ = some (.int .i64 x.d) ∧ W'.cell? ⟨w.heap.size, 0, none⟩ = some (.slice a0 c.vars.length c0) ∧ W'.cell? ⟨w.heap.size, 1, none⟩ = some (.slice a1 c.arrays.length c1) ∧ W'.cell? ⟨w.heap.size, 2, none⟩ = some (.slice (some ⟨b9, off9, none⟩) c.list.length c2) ∧ W'.cell? ⟨b, off + k, none⟩ = some (.slice pa 14 pc)) W' from fun W' h => ⟨kept_cell h e0, kept_cell h e1, kept_cell h e2, kept_cell h e3, kept_cell h e4, kept_cell h f0, kept_cell h f1, kept_cell h f2, kept_cell h hc⟩)
            go_upto_region 11 with (fail)
            have D2 := Below.drew (bself wr)
            go_cut [51] (fun s wx => s = .bool (!covAt c L k) ∧ Below wr.heap.size wr wx)
            case first =>
              go_region_held3 (fun W' => W'.cell? ⟨b9, off9 + k * 5, none⟩ = some (.int .i64 x.op) ∧ W'.cell? ⟨b9, off9 + k * 5 + 1, none⟩ = some (.int .i64 x.a) ∧ W'.cell? ⟨b9, off9 + k * 5 + 2, none⟩ = some (.int .i64 x.b) ∧ W'.cell? ⟨b9, off9 + k * 5 + 3, none⟩ = some (.int .i64 x.c) ∧ W'.cell? ⟨b9, off9 + k * 5 + 4, none⟩ = some (.int .i64 x.d) ∧ W'.cell? ⟨w.heap.size, 0, none⟩ = some (.slice a0 c.vars.length c0) ∧ W'.cell? ⟨w.heap.size, 1, none⟩ = some (.slice a1 c.arrays.length c1) ∧ W'.cell? ⟨w.heap.size, 2, none⟩ = some (.slice (some ⟨b9, off9, none⟩) c.list.length c2) ∧ W'.cell? ⟨b, off + k, none⟩ = some (.slice pa 14 pc)) (first | exact HSS.out _ (btr (btr D2 ba) bb) | exact HSS.out _ (btr D2 ba) | exact HSS.out _ D2) (first | (go_at_call 108; refine (HA2.out _ D2).mono ?_; rintro e wa ⟨ga, rfl, oa, ba⟩) | (go_at_call 107; refine (HBB.out _ _ (reads_of_owns oa (by omega))).mono ?_; rintro e wb ⟨gb, cb', rfl, ob, bb⟩) | (go_at_call 106; refine (l9Below_any _ _ L[k] (befAt c L k) _ (by rw [HL14.out]; exact hu.below (btr (btr D2 ba) bb)) (by rw [HB14.out, HEQF.out]; exact reads_of_owns ob (by omega)) (by rw [HL14.out, HB14.out]; omega) (by rw [HL14.out]; omega)).mono ?_; rintro e w5 ⟨rfl, rfl⟩))
              all_goals (go_wp2_with fail; go_meet; exact ⟨by rw [HE.out], btr (btr D2 ba) bb⟩)
            obtain ⟨w5, rfl⟩ : ∃ W, W = wc := ⟨_, rfl⟩
            obtain ⟨rfl, hb5⟩ := hcut
            have hbe := btr hbel hb5
            have hbf := btr hbw hb5
            clear D2 hb5 e0 e1 e2 e3 e4 ke0 hc HBB HA2
            cases hcv : covAt c L k with
            | true =>
              have HC := Lib.hid hcv; clear hcv
              go_wp2
              go_roundw
              case rel => exact ⟨k + 1, by omega, by go_num, HY.out HC.out, hbe⟩
              case measure => simp [intOf]; omega
            | false =>
              have HC := Lib.hid hcv; clear hcv
              go_wp2
              go_ret
              exact ⟨ret_bool (by rw [HD.out, HO.out, decide_eq_true HLL.out, H14.out, HN.out HC.out]; rfl), hbf⟩
          · have HZ := Lib.hid (covAll_yes (c := c) (L := L) (fun j h => HA.out j (by omega)))
            go_wp2
            go_ret
            exact ⟨ret_bool (by rw [HD.out, HO.out, decide_eq_true HLL.out, H14.out, HZ.out]; rfl), hbw⟩
end Go.Proofs.Ytkbbpnfhenoihaa
