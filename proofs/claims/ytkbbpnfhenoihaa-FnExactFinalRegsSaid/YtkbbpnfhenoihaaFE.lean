/-
  Which instructions need a fence: the program's and the reference's marks.
-/
import Derived.Test.YtkbbpnfhenoihaaQ
import Derived.Test.YtkbbpnfhenoihaaVP
namespace Go.Proofs.Ytkbbpnfhenoihaa
open Go.RowKit

def isBr (op : Int) : Bool := op == 9 || op == 10
def markStep (out : List Bool) (i : Nat) (x : Ins) : List Bool := if isBr x.op = true then (out.set x.b.toNat true).set (i + 1) true else out
def marksUpto (l : List Ins) : Nat → List Bool
  | 0 => List.replicate l.length false
  | k + 1 => match l[k]? with | some x => markStep (marksUpto l k) k x | none => marksUpto l k
theorem markStep_len (out : List Bool) (i : Nat) (x : Ins) : (markStep out i x).length = out.length := by
  unfold markStep; split <;> simp
theorem marksUpto_len (l : List Ins) (k : Nat) : (marksUpto l k).length = l.length := by
  induction k with
  | zero => simp [marksUpto]
  | succ k ih =>
    unfold marksUpto
    split
    · rw [markStep_len, ih]
    · exact ih
theorem marksUpto_succ (l : List Ins) (k : Nat) (h : k < l.length) : marksUpto l (k + 1) = markStep (marksUpto l k) k l[k] := by
  conv => lhs; unfold marksUpto
  rw [List.getElem?_eq_getElem h]
def marksOf (l : List Ins) : List Bool := marksUpto l l.length
theorem set_swap (l : List Bool) (i j : Nat) : (l.set i true).set j true = (l.set j true).set i true := by
  by_cases h : i = j
  · subst h; rfl
  · exact List.set_comm _ _ h

theorem codeOk_all {c : Cd} (h : codeOk c = true) : ∀ (k : Nat) (hk : k < c.list.length), insOk c.vars.length c.arrays.length c.list.length c.list[k] = true := by
  intro k hk
  unfold codeOk at h
  simp only [Bool.and_eq_true] at h
  exact List.all_eq_true.1 h.2.2.1 _ (List.getElem_mem hk)
theorem codeOk_len {c : Cd} (h : codeOk c = true) : 1 ≤ c.list.length ∧ c.list.length ≤ 400 := by
  unfold codeOk at h
  simp only [Bool.and_eq_true] at h
  exact of_decide_eq_true h.2.1
theorem codeOk_decl {c : Cd} (h : codeOk c = true) : declOk c.vars c.arrays = true := by
  unfold codeOk at h
  simp only [Bool.and_eq_true] at h
  exact h.1
theorem codeOk_last {c : Cd} (h : codeOk c = true) : ∃ hk : c.list.length - 1 < c.list.length, (c.list[c.list.length - 1]'hk).op = 13 ∨ (c.list[c.list.length - 1]'hk).op = 8 := by
  have hl := codeOk_len h
  unfold codeOk at h
  simp only [Bool.and_eq_true] at h
  have h2 := h.2.2.2
  unfold lastOk at h2
  rw [List.getLast?_eq_getElem?, List.getElem?_eq_getElem (by omega)] at h2
  refine ⟨by omega, ?_⟩
  simpa using h2
theorem declOk_len {xs ys : List Int} (h : declOk xs ys = true) : xs.length ≤ 12 ∧ ys.length ≤ 2 := by
  unfold declOk at h
  simp only [Bool.and_eq_true] at h
  exact ⟨(of_decide_eq_true h.1).2, of_decide_eq_true h.2.1⟩
theorem insOk_op {nv na nl : Nat} {x : Ins} (h : insOk nv na nl x = true) : 1 ≤ x.op ∧ x.op ≤ 13 := by
  unfold insOk at h
  simp only [Bool.and_eq_true] at h
  exact of_decide_eq_true h.1
theorem br_in {nv na nl : Nat} {x : Ins} (h : insOk nv na nl x = true) (hb : isBr x.op = true) : 0 ≤ x.b ∧ x.b < nl := by
  obtain ⟨op, a, b, c, d⟩ := x
  unfold isBr at hb
  simp only [Bool.or_eq_true, beq_iff_eq] at hb
  have key : wi b 0 ((nl : Int) - 1) = true := by
    rcases hb with rfl | rfl
    all_goals
      unfold insOk at h
      simp [shp, flds, fOk] at h
      exact h.2.2.1
  have := of_decide_eq_true key
  constructor <;> simp only <;> omega
theorem br_next {c : Cd} (h : codeOk c = true) {k : Nat} (hk : k < c.list.length) (hb : isBr c.list[k].op = true) : k + 1 < c.list.length := by
  obtain ⟨hl, hop⟩ := codeOk_last h
  by_cases e : k = c.list.length - 1
  · subst e
    unfold isBr at hb
    simp only [Bool.or_eq_true, beq_iff_eq] at hb
    omega
  · omega

theorem isBranch_any (op a b c d : Int) (w : World) :
    Calls Try.prog 128 #[.agg #[.int .i64 op, .int .i64 a, .int .i64 b, .int .i64 c, .int .i64 d]] w fun e w' => e = .returned (.bool (isBr op)) ∧ Below w.heap.size w w' := by
  have hc : (op == 9) = true ∨ ((op == 9) = false ∧ ((op == 10) = true ∨ (op == 10) = false)) := by
    cases (op == 9) <;> cases (op == 10) <;> simp
  have hbx := bal (bself w) (.cells #[.int .i64 op, .int .i64 a, .int .i64 b, .int .i64 c, .int .i64 d] 98)
  rcases hc with h | ⟨h, h2 | h2⟩
  · have HB : Hid (isBr op = true) := Lib.hid (by unfold isBr; rw [h]; rfl)
    go_enter Try.func128, Try.ntmps128
    go_wp2
    go_ret
    exact ⟨ret_bool HB.out.symm, hbx⟩
  · have HB : Hid (isBr op = true) := Lib.hid (by unfold isBr; rw [h, h2]; rfl)
    go_enter Try.func128, Try.ntmps128
    go_wp2
    go_ret
    exact ⟨ret_bool HB.out.symm, hbx⟩
  · have HB : Hid (isBr op = false) := Lib.hid (by unfold isBr; rw [h, h2]; rfl)
    go_enter Try.func128, Try.ntmps128
    go_wp2
    go_ret
    exact ⟨ret_bool HB.out.symm, hbx⟩
theorem l11Branch_any (op a b c d : Int) (w : World) :
    Calls Try.prog 123 #[.agg #[.int .i64 op, .int .i64 a, .int .i64 b, .int .i64 c, .int .i64 d]] w fun e w' => e = .returned (.bool (isBr op)) ∧ Below w.heap.size w w' := by
  have hc : (op == 9) = true ∨ ((op == 9) = false ∧ ((op == 10) = true ∨ (op == 10) = false)) := by
    cases (op == 9) <;> cases (op == 10) <;> simp
  have hbx := bal (bself w) (.cells #[.int .i64 op, .int .i64 a, .int .i64 b, .int .i64 c, .int .i64 d] 98)
  rcases hc with h | ⟨h, h2 | h2⟩
  · have HB : Hid (isBr op = true) := Lib.hid (by unfold isBr; rw [h]; rfl)
    go_enter Try.func123, Try.ntmps123
    go_wp2
    go_ret
    exact ⟨ret_bool HB.out.symm, hbx⟩
  · have HB : Hid (isBr op = true) := Lib.hid (by unfold isBr; rw [h, h2]; rfl)
    go_enter Try.func123, Try.ntmps123
    go_wp2
    go_ret
    exact ⟨ret_bool HB.out.symm, hbx⟩
  · have HB : Hid (isBr op = false) := Lib.hid (by unfold isBr; rw [h, h2]; rfl)
    go_enter Try.func123, Try.ntmps123
    go_wp2
    go_ret
    exact ⟨ret_bool HB.out.symm, hbx⟩

theorem info_boolF : (Try.prog.info? 4).map (fun i => (i.zero, i.size, i.bytes)) = some (some (.bool false), 1, 1) := by kernel_rfl
theorem bools_replicate (n : Nat) (b : Bool) : bools (List.replicate n b) = List.replicate n (.bool b) := by simp [bools]
theorem bools_set (l : List Bool) (k : Nat) (b : Bool) : (bools l).set k (.bool b) = bools (l.set k b) := by simp [bools, List.map_set]
theorem bools_at (l : List Bool) (k : Nat) (h : k < l.length) : (bools l)[k]? = some (.bool l[k]) := by simp [bools, h]

set_option maxHeartbeats 1600000 in
theorem fenced_any (va vb vc : Value) (c : Cd) (w : World) (hr : ReadsC w va vb vc c) (hok : codeOk c = true) :
    Calls Try.prog 87 #[.agg #[va, vb, vc]] w fun e w' => ∃ g, e = .returned (.slice (some ⟨g, 0, none⟩) c.list.length c.list.length) ∧ w'.ownsRow w.heap.size 4 1 (.slice (some ⟨g, 0, none⟩) c.list.length c.list.length) c.list.length (bools (marksOf c.list)) ∧ Below w.heap.size w w' := by
  obtain ⟨a0, c0, a1, c1, a2, c2, rfl, rfl, rfl⟩ := hr.shape
  have hlen := codeOk_len hok
  obtain ⟨l1, l2⟩ := hlen
  have HBI := Lib.hid (fun k hk hb => br_in (codeOk_all hok k hk) hb)
  have HBN := Lib.hid (fun k hk hb => br_next hok (k := k) hk hb)
  clear hok
  have hrl := hr.l
  clear hr
  obtain ⟨_, hn, aa, cap, b, off, hv, hcap, ha, hca⟩ := hrl
  simp only [Value.slice.injEq, true_and] at hv
  obtain ⟨rfl, rfl⟩ := hv
  obtain ⟨rfl, hbs⟩ := ha (by omega)
  have HC := Lib.hid (reads_Instr hca)
  clear hca ha
  have hmk := mk_boolF c.list.length (by omega)
  have hb0 := bal (bself w) (.cells #[.slice a0 c.vars.length c0, .slice a1 c.arrays.length c1, .slice (some ⟨b, off, none⟩) c.list.length c2] 50)
  have hown := own_made (w.alloc (.cells #[.slice a0 c.vars.length c0, .slice a1 c.arrays.length c1, .slice (some ⟨b, off, none⟩) c.list.length c2] 50)) (.bool false) c.list.length 4 (by unfold maxLen; omega)
  rw [← bools_replicate] at hown
  simp only [World.size_alloc] at hown
  have hb1 := bal hb0 (.cells (madeCells #[.bool false] c.list.length) 4)
  go_enter Try.func87, Try.ntmps87
  go_wp2
  go_loopw [13] (fun i wr => ∃ k : Nat, k ≤ c.list.length ∧ i = .int .i64 k ∧ wr.ownsRow (w.heap.size + 1) 4 1 (.slice (some ⟨w.heap.size + 1, 0, none⟩) c.list.length c.list.length) c.list.length (bools (marksUpto c.list k)) ∧ Below w.heap.size w wr) (fun i _ => c.list.length - (intOf i).toNat)
  case atStart => exact ⟨0, Nat.zero_le _, rfl, hown, hb1⟩
  case round =>
    obtain ⟨k, hk, rfl, ho, hbel⟩ := hrel
    clear hown hb1 hb0
    by_cases hlt : k < c.list.length
    · obtain ⟨e0, e1, e2, e3, e4⟩ := HC.out k hlt
      have e0 := (hbel.cell (p := ⟨b, off + k * 5, none⟩) hbs).trans e0
      have e1 := (hbel.cell (p := ⟨b, off + k * 5 + 1, none⟩) hbs).trans e1
      have e2 := (hbel.cell (p := ⟨b, off + k * 5 + 2, none⟩) hbs).trans e2
      have e3 := (hbel.cell (p := ⟨b, off + k * 5 + 3, none⟩) hbs).trans e3
      have e4 := (hbel.cell (p := ⟨b, off + k * 5 + 4, none⟩) hbs).trans e4
      have hq1 := HBI.out k hlt
      have hq2 := HBN.out k hlt
      have hms := marksUpto_succ c.list k hlt
      have hml := marksUpto_len c.list k
      generalize c.list[k] = x at *
      have HMS := Lib.hid hms
      have HQ1 := Lib.hid hq1
      have HQ2 := Lib.hid hq2
      have HML := Lib.hid hml
      clear hms hq1 hq2 hml HC HBI HBN
      go_wp2_with fail
      refine (isBranch_any _ _ _ _ _ _).mono ?_
      rintro e w1 ⟨rfl, hb⟩
      have hz1 := hb.size
      simp only [World.size_alloc] at hz1
      have hbz := hbel.size
      have hlo := ho.lt _ rfl
      cases hbr : isBr x.op with
      | false =>
        have HBR := Lib.hid hbr
        clear hbr
        have h2 : Below wr.heap.size wr w1 := btr (by repeat (first | exact Below.refl _ _ | refine Below.alloc ?_ (by simp) _ | refine Below.setCell ?_ (by simp) _)) hb
        have ho2 := own_below ho h2
        have hbel2 := btr hbel h2
        clear ho hbel hb h2
        go_wp2
        go_roundw
        case rel => exact ⟨k + 1, by omega, by go_num, by rw [HMS.out]; unfold markStep; rw [HBR.out]; exact ho2, hbel2⟩
        case measure => simp [intOf]; omega
      | true =>
        obtain ⟨q1, q2⟩ := HQ1.out hbr
        have q3 := HQ2.out hbr
        have HBR := Lib.hid hbr
        clear hbr
        have d2 : w1.cell? ⟨wr.heap.size, 2, none⟩ = some (.int .i64 x.b) := kept_cell hb (cell_nw rfl rfl)
        have k2 := lt_of_cell d2
        have h2 : Below wr.heap.size wr w1 := btr (bal (bself wr) _) hb
        have ho2 := own_below ho h2
        have hbel2 := btr hbel h2
        obtain ⟨nb, hnb⟩ : ∃ nb : Nat, x.b = nb := ⟨x.b.toNat, by omega⟩
        have HNB := Lib.hid hnb
        rw [hnb] at d2 q2
        have q4 : nb < c.list.length := by omega
        have st1 := (ho2.stored nb (.bool true)).1
        have st2 := (st1.stored (k + 1) (.bool true)).1
        have y0 := ho2.cellAt nb (by omega)
        rw [bools_at _ _ (by rw [HML.out]; exact q4)] at y0
        have y1 := st1.cellAt (k + 1) (by omega)
        rw [bools_set, bools_at _ _ (by rw [List.length_set, HML.out]; exact q3)] at y1
        have f0 := ho2.frozenAt nb
        have f1 := ho2.frozenAt (k + 1)
        rw [bools_set, bools_set] at st2
        have hb3 := bst (bst hbel2 (w.heap.size + 1) nb (by omega) (.bool true)) (w.heap.size + 1) (k + 1) (by omega) (.bool true)
        generalize ((marksUpto c.list k)[nb]'(by rw [HML.out]; exact q4)) = z0 at y0
        generalize (((marksUpto c.list k).set nb true)[k + 1]'(by rw [List.length_set, HML.out]; exact q3)) = z1 at y1
        have q5 : (nb : Int) < (c.list.length : Int) := by omega
        have q6 : (k : Int) + 1 < (c.list.length : Int) := by omega
        clear ho hbel hb h2 ho2 hbel2 st1 q1 q2 hnb
        go_wp2
        go_roundw
        case rel => exact ⟨k + 1, by omega, by go_num, by rw [HMS.out]; unfold markStep; rw [HBR.out, HNB.out]; exact st2, hb3⟩
        case measure => simp [intOf]; omega
    · go_wp2
      go_ret
      have e : k = c.list.length := by omega
      subst e
      exact ⟨_, rfl, own_mono ho (by omega), hbel⟩
end Go.Proofs.Ytkbbpnfhenoihaa
