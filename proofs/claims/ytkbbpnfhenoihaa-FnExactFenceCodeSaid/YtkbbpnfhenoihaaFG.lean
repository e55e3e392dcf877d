/-
  The reference's marks; CodeFenced of both.
-/
import Derived.Test.YtkbbpnfhenoihaaFE
namespace Go.Proofs.Ytkbbpnfhenoihaa
open Go.RowKit

set_option maxHeartbeats 1600000 in
theorem l11Marks_any (va vb vc : Value) (c : Cd) (w : World) (hr : ReadsC w va vb vc c) (hok : codeOk c = true) :
    Calls Try.prog 84 #[.agg #[va, vb, vc]] w fun e w' => ∃ g, e = .returned (.slice (some ⟨g, 0, none⟩) c.list.length c.list.length) ∧ w'.ownsRow w.heap.size 4 1 (.slice (some ⟨g, 0, none⟩) c.list.length c.list.length) c.list.length (bools (marksOf c.list)) ∧ Below w.heap.size w w' := by
  obtain ⟨a0, c0, a1, c1, a2, c2, rfl, rfl, rfl⟩ := hr.shape
  have hlen := codeOk_len hok
  obtain ⟨l1, l2⟩ := hlen
  have HBI := Lib.hid (fun k hk hb => br_in (codeOk_all hok k hk) hb)
  have HBN := Lib.hid (fun k hk hb => br_next hok (k := k) hk hb)
  clear hok
  have hrl := hr.l
  clear hr
  obtain ⟨_, hn, aa, cap, b, off, hv, hcap, ha, hca⟩ := hrl
  simp only [Value.slice.injEq, true_and] at hv
  obtain ⟨rfl, rfl⟩ := hv
  obtain ⟨rfl, hbs⟩ := ha (by omega)
  have HC := Lib.hid (reads_Instr hca)
  clear hca ha
  have hmk := mk_boolF c.list.length (by omega)
  have hb0 := bal (bself w) (.cells #[.slice a0 c.vars.length c0, .slice a1 c.arrays.length c1, .slice (some ⟨b, off, none⟩) c.list.length c2] 50)
  have hown := own_made (w.alloc (.cells #[.slice a0 c.vars.length c0, .slice a1 c.arrays.length c1, .slice (some ⟨b, off, none⟩) c.list.length c2] 50)) (.bool false) c.list.length 4 (by unfold maxLen; omega)
  rw [← bools_replicate] at hown
  simp only [World.size_alloc] at hown
  have hb1 := bal hb0 (.cells (madeCells #[.bool false] c.list.length) 4)
  go_enter Try.func84, Try.ntmps84
  go_wp2
  go_loopw [4] (fun i wr => ∃ k : Nat, k ≤ c.list.length ∧ i = .int .i64 k ∧ wr.ownsRow (w.heap.size + 1) 4 1 (.slice (some ⟨w.heap.size + 1, 0, none⟩) c.list.length c.list.length) c.list.length (bools (marksUpto c.list k)) ∧ Below w.heap.size w wr ∧ wr.cell? ⟨w.heap.size, 2, none⟩ = some (.slice (some ⟨b, off, none⟩) c.list.length c2)) (fun i _ => c.list.length - (intOf i).toNat)
  case atStart => exact ⟨0, Nat.zero_le _, rfl, hown, hb1, cell_al (cell_nw rfl rfl) _⟩
  case round =>
    obtain ⟨k, hk, rfl, ho, hbel, d⟩ := hrel
    clear hown hb1 hb0
    have kd := lt_of_cell d
    by_cases hlt : k < c.list.length
    · obtain ⟨e0, e1, e2, e3, e4⟩ := HC.out k hlt
      have e0 := (hbel.cell (p := ⟨b, off + k * 5, none⟩) hbs).trans e0
      have e1 := (hbel.cell (p := ⟨b, off + k * 5 + 1, none⟩) hbs).trans e1
      have e2 := (hbel.cell (p := ⟨b, off + k * 5 + 2, none⟩) hbs).trans e2
      have e3 := (hbel.cell (p := ⟨b, off + k * 5 + 3, none⟩) hbs).trans e3
      have e4 := (hbel.cell (p := ⟨b, off + k * 5 + 4, none⟩) hbs).trans e4
      have hq1 := HBI.out k hlt
      have hq2 := HBN.out k hlt
      have hms := marksUpto_succ c.list k hlt
      have hml := marksUpto_len c.list k
      generalize c.list[k] = x at *
      have HMS := Lib.hid hms
      have HQ1 := Lib.hid hq1
      have HQ2 := Lib.hid hq2
      have HML := Lib.hid hml
      clear hms hq1 hq2 hml HC HBI HBN
      go_wp2_with fail
      refine (l11Branch_any _ _ _ _ _ _).mono ?_
      rintro e w1 ⟨rfl, hb⟩
      have hz1 := hb.size
      have hbz := hbel.size
      have hlo := ho.lt _ rfl
      have d1 := kept_cell hb d
      have kd1 := lt_of_cell d1
      have ho2 := own_below ho hb
      have hbel2 := btr hbel hb
      cases hbr : isBr x.op with
      | false =>
        have HBR := Lib.hid hbr
        clear hbr ho hbel hb
        go_wp2
        go_roundw
        case rel => exact ⟨k + 1, by omega, by go_num, by rw [HMS.out]; unfold markStep; rw [HBR.out]; exact ho2, hbel2, d1⟩
        case measure => simp [intOf]; omega
      | true =>
        obtain ⟨q1, q2⟩ := HQ1.out hbr
        have q3 := HQ2.out hbr
        have HBR := Lib.hid hbr
        clear hbr
        obtain ⟨nb, hnb⟩ : ∃ nb : Nat, x.b = nb := ⟨x.b.toNat, by omega⟩
        have HNB := Lib.hid hnb
        have d2 := kept_cell hb e2
        rw [hnb] at d2 q2
        have q4 : nb < c.list.length := by omega
        have st1 := (ho2.stored (k + 1) (.bool true)).1
        have st2 := (st1.stored nb (.bool true)).1
        have y0 := ho2.cellAt (k + 1) (by omega)
        rw [bools_at _ _ (by rw [HML.out]; exact q3)] at y0
        have y1 := st1.cellAt nb (by omega)
        rw [bools_set, bools_at _ _ (by rw [List.length_set, HML.out]; exact q4)] at y1
        have f0 := ho2.frozenAt nb
        have f1 := ho2.frozenAt (k + 1)
        rw [bools_set, bools_set, ← set_swap] at st2
        have hb3 := bst (bst hbel2 (w.heap.size + 1) (k + 1) (by omega) (.bool true)) (w.heap.size + 1) nb (by omega) (.bool true)
        have d3 := cell_ne d1 (b := w.heap.size + 1) (j := k + 1) (by omega) (.bool true)
        have d4 := cell_ne d3 (b := w.heap.size + 1) (j := nb) (by omega) (.bool true)
        have d5 := cell_ne d2 (b := w.heap.size + 1) (j := k + 1) (by omega) (.bool true)
        generalize ((marksUpto c.list k)[k + 1]'(by rw [HML.out]; exact q3)) = z0 at y0
        generalize (((marksUpto c.list k).set (k + 1) true)[nb]'(by rw [List.length_set, HML.out]; exact q4)) = z1 at y1
        have q5 : (nb : Int) < (c.list.length : Int) := by omega
        have q6 : (k : Int) + 1 < (c.list.length : Int) := by omega
        clear ho hbel hb ho2 hbel2 st1 q1 q2 hnb e0 e1 e2 e3 e4
        go_wp2
        go_roundw
        case rel => exact ⟨k + 1, by omega, by go_num, by rw [HMS.out]; unfold markStep; rw [HBR.out, HNB.out]; exact st2, hb3, d4⟩
        case measure => simp [intOf]; omega
    · go_wp2
      go_ret
      have e : k = c.list.length := by omega
      subst e
      exact ⟨_, rfl, own_mono ho (by omega), hbel⟩

/-- all that needs a fence is one -/
def fencedAll (l : List Ins) : Bool := (List.range l.length).all (fun k => match (marksOf l)[k]?, l[k]? with | some m, some x => !m || x.op == 12 | _, _ => true)
theorem fencedAll_yes {l : List Ins} (h : ∀ k (h1 : k < (marksOf l).length) (h2 : k < l.length), ((marksOf l)[k] && !(l[k].op == 12)) = false) : fencedAll l = true := by
  unfold fencedAll
  rw [List.all_eq_true]
  intro k hk
  have hk' : k < l.length := List.mem_range.1 hk
  have hm : k < (marksOf l).length := by rw [marksOf, marksUpto_len]; exact hk'
  rw [List.getElem?_eq_getElem hm, List.getElem?_eq_getElem hk']
  have := h k hm hk'
  revert this
  simp only
  cases (marksOf l)[k] <;> cases (l[k].op == 12) <;> simp
theorem fencedAll_no {l : List Ins} {k : Nat} (h1 : k < (marksOf l).length) (h2 : k < l.length) (h : ((marksOf l)[k] && !(l[k].op == 12)) = true) : fencedAll l = false := by
  unfold fencedAll
  rw [List.all_eq_false]
  refine ⟨k, List.mem_range.2 h2, ?_⟩
  rw [List.getElem?_eq_getElem h1, List.getElem?_eq_getElem h2]
  revert h
  simp only
  cases (marksOf l)[k] <;> cases (l[k].op == 12) <;> simp
def codeFenced (c : Cd) : Bool := codeOk c && fencedAll c.list
end Go.Proofs.Ytkbbpnfhenoihaa
