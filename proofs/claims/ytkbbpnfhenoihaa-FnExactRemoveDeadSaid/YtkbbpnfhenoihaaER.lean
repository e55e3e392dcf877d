/-
  EraseCode of the program and of the reference.
-/
import Derived.Test.YtkbbpnfhenoihaaFE
import Derived.Test.YtkbbpnfhenoihaaOW
import Derived.Test.YtkbbpnfhenoihaaVV
namespace Go.Proofs.Ytkbbpnfhenoihaa
open Go.RowKit

def eraseIns (n : Int) (x : Ins) : Ins := if (x.op == 13) = true then ⟨8, n, 0, 0, 0⟩ else x
def eraseTail (k : Nat) : List Ins := (List.range k).map (fun r : Nat => (⟨1, (r : Int), 0, 0, 0⟩ : Ins))
theorem eraseTail_len (k : Nat) : (eraseTail k).length = k := by simp [eraseTail]
theorem eraseTail_succ (k : Nat) : eraseTail (k + 1) = eraseTail k ++ [⟨1, (k : Int), 0, 0, 0⟩] := by simp [eraseTail, List.range_succ]
def eraseL (l : List Ins) : List Ins := (l.map (eraseIns l.length) ++ eraseTail 14) ++ [⟨13, 0, 0, 0, 0⟩]
theorem eraseL_len (l : List Ins) : (eraseL l).length = l.length + 15 := by simp [eraseL, eraseTail_len]
def noCode : Cd := ⟨[], [], []⟩
def eraseR (c : Cd) : Cd × Bool := if codeOk c = true ∧ c.list.length ≤ 385 then (⟨c.vars, c.arrays, eraseL c.list⟩, true) else (noCode, false)
theorem eraseR_no {c : Cd} (h : ¬ (codeOk c = true ∧ c.list.length ≤ 385)) : eraseR c = (noCode, false) := by unfold eraseR; rw [if_neg h]
theorem eraseR_yes {c : Cd} (h : codeOk c = true ∧ c.list.length ≤ 385) : eraseR c = (⟨c.vars, c.arrays, eraseL c.list⟩, true) := by unfold eraseR; rw [if_pos h]
theorem noCode_own (w : World) (base : Nat) : OwnC w base (.slice none 0 0) (.slice none 0 0) (.slice none 0 0) noCode :=
  ⟨World.ownsRow_nil _ _ _ _, World.ownsRow_nil _ _ _ _, World.ownsRow_nil _ _ _ _, fun q h => by simp [Value.ownBlock] at h⟩
theorem map_next {f : Ins → Ins} (l : List Ins) (k : Nat) (h : k < l.length) (x : Ins) (hx : x = f l[k]) : ((l.take k).map f ++ l.drop k).set k x = (l.take (k + 1)).map f ++ l.drop (k + 1) := by
  subst hx
  rw [set_dropped _ l _ k (by simp; omega) h, List.take_succ_eq_append_getElem h, List.map_append]
  rfl
theorem map_same {f : Ins → Ins} (l : List Ins) (k : Nat) (h : k < l.length) (hx : f l[k] = l[k]) : (l.take k).map f ++ l.drop k = (l.take (k + 1)).map f ++ l.drop (k + 1) := by
  rw [List.take_succ_eq_append_getElem h, List.map_append, List.drop_eq_getElem_cons h]
  simp [hx]
theorem map_get {f : Ins → Ins} (l : List Ins) (k : Nat) (h : k < l.length) (h2 : k < ((l.take k).map f ++ l.drop k).length) : ((l.take k).map f ++ l.drop k)[k]'h2 = l[k] := by
  rw [List.getElem_append_right (by simp; omega)]
  simp [Nat.min_eq_left (Nat.le_of_lt h)]


set_option maxHeartbeats 6400000 in
set_option maxRecDepth 100000 in
theorem iErase_any (va vb vc : Value) (c : Cd) (w : World) (hr : ReadsC w va vb vc c) :
    Calls Try.prog 39 #[.agg #[va, vb, vc]] w fun e w' => ∃ ua ub uc, e = .returned (.tuple #[.agg #[ua, ub, uc], .bool (eraseR c).2]) ∧ OwnC w' w.heap.size ua ub uc (eraseR c).1 ∧ Below w.heap.size w w' := by
  obtain ⟨a0, c0, a1, c1, a2, c2, rfl, rfl, rfl⟩ := hr.shape
  have hER := fun h => eraseR_no (c := c) h
  have hEY := fun h => eraseR_yes (c := c) h
  generalize eraseR c = R at *
  have HER := Lib.hid hER
  have HEY := Lib.hid hEY
  clear hER hEY
  have ivr := hr.lt
  go_enter Try.func39, Try.ntmps39
  go_wp2_with fail
  refine (iCodeValid_any _ _ _ c _ ((hr.below (bal (bself _) (.cells #[.slice a0 c.vars.length c0, .slice a1 c.arrays.length c1, .slice a2 c.list.length c2] 50))).below (bal (bself _) (.cells #[.slice none 0 0, .slice none 0 0, .slice none 0 0] 50)))).mono ?_
  rintro e w1 ⟨rfl, hb⟩
  have hsz1 := hb.size
  simp only [World.size_alloc] at hsz1
  replace hr := ((hr.below (bal (bself _) (.cells #[.slice a0 c.vars.length c0, .slice a1 c.arrays.length c1, .slice a2 c.list.length c2] 50))).below (bal (bself _) (.cells #[.slice none 0 0, .slice none 0 0, .slice none 0 0] 50))).below hb
  have bx2 : w1.cell? ⟨w.heap.size, 0, none⟩ = some (.slice a0 c.vars.length c0) := kept_cell hb (cell_al (cell_nw (by simp) (by rfl)) _)
  have bx3 : w1.cell? ⟨w.heap.size, 1, none⟩ = some (.slice a1 c.arrays.length c1) := kept_cell hb (cell_al (cell_nw (by simp) (by rfl)) _)
  have bx4 : w1.cell? ⟨w.heap.size, 2, none⟩ = some (.slice a2 c.list.length c2) := kept_cell hb (cell_al (cell_nw (by simp) (by rfl)) _)
  have bx5 : w1.cell? ⟨w.heap.size + 1, 0, none⟩ = some (.slice none 0 0) := kept_cell hb (cell_nw (by simp) (by rfl))
  have bf6 : w1.frozen? ⟨w.heap.size + 1, 0, none⟩ = false := kept_froz hb (by simp) (froz_nw (by simp))
  have bx7 : w1.cell? ⟨w.heap.size + 1, 1, none⟩ = some (.slice none 0 0) := kept_cell hb (cell_nw (by simp) (by rfl))
  have bf8 : w1.frozen? ⟨w.heap.size + 1, 1, none⟩ = false := kept_froz hb (by simp) (froz_nw (by simp))
  have bx9 : w1.cell? ⟨w.heap.size + 1, 2, none⟩ = some (.slice none 0 0) := kept_cell hb (cell_nw (by simp) (by rfl))
  have bf10 : w1.frozen? ⟨w.heap.size + 1, 2, none⟩ = false := kept_froz hb (by simp) (froz_nw (by simp))
  have tot := btr (bal (bal (bself w) (.cells #[.slice a0 c.vars.length c0, .slice a1 c.arrays.length c1, .slice a2 c.list.length c2] 50)) (.cells #[.slice none 0 0, .slice none 0 0, .slice none 0 0] 50)) hb
  clear hb
  have lt11 := lt_of_cell bx2
  have lt12 := lt_of_cell bx3
  have lt13 := lt_of_cell bx4
  have lt14 := lt_of_cell bx5
  have lt15 := lt_of_cell bx7
  have lt16 := lt_of_cell bx9
  cases hok : codeOk c
  · have HO := Lib.hid hok; clear hok hr
    have hR := HER.out (fun h => by have h2 := HO.out; rw [h.1] at h2; cases h2)
    have HR := Lib.hid hR; clear hR
    have x0 := (cell_ne (b := (w.heap.size + 1)) (j := 2) (cell_ne (b := (w.heap.size + 1)) (j := 1) (cell_at _ (w.heap.size + 1) 0 (.slice none 0 0) bx5) (by omega) (.slice none 0 0)) (by omega) (.slice none 0 0))
    have x1 := (cell_ne (b := (w.heap.size + 1)) (j := 2) (cell_at _ (w.heap.size + 1) 1 (.slice none 0 0) (cell_ne (b := (w.heap.size + 1)) (j := 0) bx7 (by omega) (.slice none 0 0))) (by omega) (.slice none 0 0))
    have x2 := (cell_at _ (w.heap.size + 1) 2 (.slice none 0 0) (cell_ne (b := (w.heap.size + 1)) (j := 1) (cell_ne (b := (w.heap.size + 1)) (j := 0) bx9 (by omega) (.slice none 0 0)) (by omega) (.slice none 0 0)))
    have tt := (bst (bst (bst tot (w.heap.size + 1) 0 (by omega) (.slice none 0 0)) (w.heap.size + 1) 1 (by omega) (.slice none 0 0)) (w.heap.size + 1) 2 (by omega) (.slice none 0 0))
    go_wp2
    exact bodyPost_ret (v := .tuple #[.agg #[.slice none 0 0, .slice none 0 0, .slice none 0 0], .bool false]) (by simp [results, Try.results39, go_sem, x0, x1, x2]) rfl (by rw [HR.out]; exact ⟨_, _, _, rfl, noCode_own _ _, tt⟩)
  have HO := Lib.hid hok; clear hok
  have hlen := codeOk_len HO.out
  have hdl := declOk_len (codeOk_decl HO.out)
  obtain ⟨l1, l2⟩ := hlen
  obtain ⟨l3, l4⟩ := hdl
  go_wp2_with fail
  refine (own_any _ _ _ c _ hr (by omega) (by omega) (by omega)).mono ?_
  rintro e w2 ⟨u0, u1, u2, rfl, oc, hb⟩
  have hsz17 := hb.size
  replace bf6 := kept_froz hb (lt_of_cell bx5) bf6
  replace bf8 := kept_froz hb (lt_of_cell bx7) bf8
  replace bf10 := kept_froz hb (lt_of_cell bx9) bf10
  replace hr := hr.below hb
  replace bx2 : w2.cell? ⟨w.heap.size, 0, none⟩ = some (.slice a0 c.vars.length c0) := kept_cell hb bx2
  replace bx3 : w2.cell? ⟨w.heap.size, 1, none⟩ = some (.slice a1 c.arrays.length c1) := kept_cell hb bx3
  replace bx4 : w2.cell? ⟨w.heap.size, 2, none⟩ = some (.slice a2 c.list.length c2) := kept_cell hb bx4
  replace bx5 : w2.cell? ⟨w.heap.size + 1, 0, none⟩ = some (.slice none 0 0) := kept_cell hb bx5
  replace bx7 : w2.cell? ⟨w.heap.size + 1, 1, none⟩ = some (.slice none 0 0) := kept_cell hb bx7
  replace bx9 : w2.cell? ⟨w.heap.size + 1, 2, none⟩ = some (.slice none 0 0) := kept_cell hb bx9
  replace tot := btr tot hb
  clear hb
  have hbas := oc.lt
  obtain ⟨g2, t2, hgv⟩ := own_pos oc.l (by omega)
  obtain ⟨p0, t0, hpv⟩ := own_shape oc.a
  obtain ⟨p1, t1, hqv⟩ := own_shape oc.b
  subst hgv hpv hqv
  have iv18 := oc.lt
  go_wp2
  obtain ⟨w3, hnw⟩ : ∃ X, X = (World.alloc w2 (.cells #[.slice p0 c.vars.length t0, .slice p1 c.arrays.length t1, .slice (some ⟨g2, 0, none⟩) c.list.length t2] 50)) := ⟨_, rfl⟩
  have hb : Below (World.alloc w2 (.cells #[.slice p0 c.vars.length t0, .slice p1 c.arrays.length t1, .slice (some ⟨g2, 0, none⟩) c.list.length t2] 50)).heap.size (World.alloc w2 (.cells #[.slice p0 c.vars.length t0, .slice p1 c.arrays.length t1, .slice (some ⟨g2, 0, none⟩) c.list.length t2] 50)) w3 := by rw [hnw]; exact bself _
  have hsz19 := hb.size
  simp only [World.size_alloc] at hsz19
  replace bf6 := kept_froz hb (lt_of_cell (cell_al bx5 (.cells #[.slice p0 c.vars.length t0, .slice p1 c.arrays.length t1, .slice (some ⟨g2, 0, none⟩) c.list.length t2] 50))) (froz_al (lt_of_cell bx5) bf6 (.cells #[.slice p0 c.vars.length t0, .slice p1 c.arrays.length t1, .slice (some ⟨g2, 0, none⟩) c.list.length t2] 50))
  replace bf8 := kept_froz hb (lt_of_cell (cell_al bx7 (.cells #[.slice p0 c.vars.length t0, .slice p1 c.arrays.length t1, .slice (some ⟨g2, 0, none⟩) c.list.length t2] 50))) (froz_al (lt_of_cell bx7) bf8 (.cells #[.slice p0 c.vars.length t0, .slice p1 c.arrays.length t1, .slice (some ⟨g2, 0, none⟩) c.list.length t2] 50))
  replace bf10 := kept_froz hb (lt_of_cell (cell_al bx9 (.cells #[.slice p0 c.vars.length t0, .slice p1 c.arrays.length t1, .slice (some ⟨g2, 0, none⟩) c.list.length t2] 50))) (froz_al (lt_of_cell bx9) bf10 (.cells #[.slice p0 c.vars.length t0, .slice p1 c.arrays.length t1, .slice (some ⟨g2, 0, none⟩) c.list.length t2] 50))
  replace hr := (hr.below (bal (bself _) (.cells #[.slice p0 c.vars.length t0, .slice p1 c.arrays.length t1, .slice (some ⟨g2, 0, none⟩) c.list.length t2] 50))).below hb
  replace bx2 : w3.cell? ⟨w.heap.size, 0, none⟩ = some (.slice a0 c.vars.length c0) := kept_cell hb (cell_al bx2 (.cells #[.slice p0 c.vars.length t0, .slice p1 c.arrays.length t1, .slice (some ⟨g2, 0, none⟩) c.list.length t2] 50))
  replace bx3 : w3.cell? ⟨w.heap.size, 1, none⟩ = some (.slice a1 c.arrays.length c1) := kept_cell hb (cell_al bx3 (.cells #[.slice p0 c.vars.length t0, .slice p1 c.arrays.length t1, .slice (some ⟨g2, 0, none⟩) c.list.length t2] 50))
  replace bx4 : w3.cell? ⟨w.heap.size, 2, none⟩ = some (.slice a2 c.list.length c2) := kept_cell hb (cell_al bx4 (.cells #[.slice p0 c.vars.length t0, .slice p1 c.arrays.length t1, .slice (some ⟨g2, 0, none⟩) c.list.length t2] 50))
  replace bx5 : w3.cell? ⟨w.heap.size + 1, 0, none⟩ = some (.slice none 0 0) := kept_cell hb (cell_al bx5 (.cells #[.slice p0 c.vars.length t0, .slice p1 c.arrays.length t1, .slice (some ⟨g2, 0, none⟩) c.list.length t2] 50))
  replace bx7 : w3.cell? ⟨w.heap.size + 1, 1, none⟩ = some (.slice none 0 0) := kept_cell hb (cell_al bx7 (.cells #[.slice p0 c.vars.length t0, .slice p1 c.arrays.length t1, .slice (some ⟨g2, 0, none⟩) c.list.length t2] 50))
  replace bx9 : w3.cell? ⟨w.heap.size + 1, 2, none⟩ = some (.slice none 0 0) := kept_cell hb (cell_al bx9 (.cells #[.slice p0 c.vars.length t0, .slice p1 c.arrays.length t1, .slice (some ⟨g2, 0, none⟩) c.list.length t2] 50))
  replace oc := (oc.below (bal (bself _) (.cells #[.slice p0 c.vars.length t0, .slice p1 c.arrays.length t1, .slice (some ⟨g2, 0, none⟩) c.list.length t2] 50))).below hb
  have bx20 : w3.cell? ⟨w2.heap.size, 0, none⟩ = some (.slice p0 c.vars.length t0) := kept_cell hb (cell_nw (by simp) (by rfl))
  have bf21 : w3.frozen? ⟨w2.heap.size, 0, none⟩ = false := kept_froz hb (by simp) (froz_nw (by simp))
  have bx22 : w3.cell? ⟨w2.heap.size, 1, none⟩ = some (.slice p1 c.arrays.length t1) := kept_cell hb (cell_nw (by simp) (by rfl))
  have bf23 : w3.frozen? ⟨w2.heap.size, 1, none⟩ = false := kept_froz hb (by simp) (froz_nw (by simp))
  have bx24 : w3.cell? ⟨w2.heap.size, 2, none⟩ = some (.slice (some ⟨g2, 0, none⟩) c.list.length t2) := kept_cell hb (cell_nw (by simp) (by rfl))
  have bf25 : w3.frozen? ⟨w2.heap.size, 2, none⟩ = false := kept_froz hb (by simp) (froz_nw (by simp))
  replace tot := btr (bal tot (.cells #[.slice p0 c.vars.length t0, .slice p1 c.arrays.length t1, .slice (some ⟨g2, 0, none⟩) c.list.length t2] 50)) hb
  clear hb
  rw [← hnw]
  clear hnw
  have hlo := iv18 _ (Or.inr (Or.inr rfl))
  try simp only [World.size_alloc] at hlo
  have hac := own_diff oc.a oc.l (by decide)
  have hbc := own_diff oc.b oc.l (by decide)
  have lt26 := lt_of_cell bx2
  have lt27 := lt_of_cell bx3
  have lt28 := lt_of_cell bx4
  have lt29 := lt_of_cell bx5
  have lt30 := lt_of_cell bx7
  have lt31 := lt_of_cell bx9
  have lt32 := lt_of_cell bx20
  have lt33 := lt_of_cell bx22
  have lt34 := lt_of_cell bx24
  clear hr
  go_loopw [17] (fun i wr => ∃ k : Nat, k ≤ c.list.length ∧ i = .int .i64 k ∧ wr.ownsRow w1.heap.size 98 5 (.slice (some ⟨g2, 0, none⟩) c.list.length t2) c.list.length (inss ((c.list.take k).map (eraseIns c.list.length) ++ c.list.drop k)) ∧ Chg (fun q => q = g2) w3 wr) (fun i _ => c.list.length - (intOf i).toNat)
  case atStart => exact ⟨0, Nat.zero_le _, rfl, by simpa using oc.l, Chg.refl _ _⟩
  case round =>
    obtain ⟨k, hk, rfl, ho, hC⟩ := hrel
    have hzC := hC.size
    have n0 := chg_cell hC bx4 (by omega)
    have n1 := chg_cell hC bx24 (by omega)
    have k0 := lt_of_cell n0
    have k1 := lt_of_cell n1
    by_cases hlt : k < c.list.length
    · have hl2 : k < ((c.list.take k).map (eraseIns c.list.length) ++ c.list.drop k).length := by simp; omega
      obtain ⟨x, HX, d0, d1, d2, d3, d4⟩ : ∃ x : Ins, Hid (x = c.list[k]) ∧ wr.cell? ⟨g2, k * 5, none⟩ = some (.int .i64 x.op) ∧ wr.cell? ⟨g2, k * 5 + 1, none⟩ = some (.int .i64 x.a) ∧ wr.cell? ⟨g2, k * 5 + 2, none⟩ = some (.int .i64 x.b) ∧ wr.cell? ⟨g2, k * 5 + 3, none⟩ = some (.int .i64 x.c) ∧ wr.cell? ⟨g2, k * 5 + 4, none⟩ = some (.int .i64 x.d) := ⟨c.list[k], Lib.hid rfl, by rw [← map_get (f := eraseIns c.list.length) c.list k hlt hl2]; exact own_row insc_len ho k hl2 0 (by omega), by rw [← map_get (f := eraseIns c.list.length) c.list k hlt hl2]; exact own_row insc_len ho k hl2 1 (by omega), by rw [← map_get (f := eraseIns c.list.length) c.list k hlt hl2]; exact own_row insc_len ho k hl2 2 (by omega), by rw [← map_get (f := eraseIns c.list.length) c.list k hlt hl2]; exact own_row insc_len ho k hl2 3 (by omega), by rw [← map_get (f := eraseIns c.list.length) c.list k hlt hl2]; exact own_row insc_len ho k hl2 4 (by omega)⟩
      have kg := lt_of_cell d0
      have f0 : wr.frozen? ⟨g2, k * 5, none⟩ = false := ho.frozenAt _
      have f1 : wr.frozen? ⟨g2, k * 5 + 1, none⟩ = false := ho.frozenAt _
      have f2 : wr.frozen? ⟨g2, k * 5 + 2, none⟩ = false := ho.frozenAt _
      have f3 : wr.frozen? ⟨g2, k * 5 + 3, none⟩ = false := ho.frozenAt _
      have f4 : wr.frozen? ⟨g2, k * 5 + 4, none⟩ = false := ho.frozenAt _
      by_cases h13 : (x.op == 13) = true
      · have HN : Hid ((c.list.take k).map (eraseIns c.list.length) ++ c.list.drop k = (c.list.take k).map (eraseIns c.list.length) ++ c.list.drop k) := Lib.hid rfl
        have hst := own_set5 ho k hl2 (⟨8, c.list.length, 0, 0, 0⟩ : Ins)
        rw [map_next c.list k hlt _ (by unfold eraseIns; rw [← HX.out, if_pos h13])] at hst
        clear hst
        go_upto_region 8 with (fail)
        obtain ⟨w5, hw5⟩ : ∃ X, X = World.alloc wr (.cells #[.int .i64 x.op, .int .i64 x.a, .int .i64 x.b, .int .i64 x.c, .int .i64 x.d] 98) := ⟨_, rfl⟩
        rw [← hw5]
        have hb5 : Below wr.heap.size wr w5 := by rw [hw5]; exact bal (bself wr) _
        clear hw5
        replace d0 := kept_cell hb5 d0; replace f0 := kept_froz hb5 kg f0
        replace d1 := kept_cell hb5 d1; replace f1 := kept_froz hb5 kg f1
        replace d2 := kept_cell hb5 d2; replace f2 := kept_froz hb5 kg f2
        replace d3 := kept_cell hb5 d3; replace f3 := kept_froz hb5 kg f3
        replace d4 := kept_cell hb5 d4; replace f4 := kept_froz hb5 kg f4
        replace n0 := kept_cell hb5 n0; replace n1 := kept_cell hb5 n1; replace k0 := lt_of_cell n0; replace k1 := lt_of_cell n1
        have hst := own_set5 (own_below ho hb5) k hl2 (⟨8, c.list.length, 0, 0, 0⟩ : Ins)
        rw [map_next c.list k hlt _ (by unfold eraseIns; rw [← HX.out, if_pos h13])] at hst
        have hC2 := hC.trans (Chg.of_below (S := fun q => q = g2) hb5)
        clear hb5
        have hC3 := (((((hC2.setCell g2 (k * 5) (.int .i64 (8)) (fun _ => rfl)).setCell g2 (k * 5 + 1) (.int .i64 ((c.list.length : Int))) (fun _ => rfl)).setCell g2 (k * 5 + 2) (.int .i64 (0)) (fun _ => rfl)).setCell g2 (k * 5 + 3) (.int .i64 (0)) (fun _ => rfl)).setCell g2 (k * 5 + 4) (.int .i64 (0)) (fun _ => rfl))
        clear ho hC hC2 HN HX
        go_wp2
        go_roundw
        case rel => exact ⟨k + 1, by omega, by go_num, hst, hC3⟩
        case measure => simp [intOf]; omega
      · have h13' : (x.op == 13) = false := by simpa using h13
        have hms := map_same (f := eraseIns c.list.length) c.list k hlt (by unfold eraseIns; rw [← HX.out, if_neg h13])
        have HMS := Lib.hid hms; clear hms h13
        have ho2 := own_below ho (bal (bself wr) (.cells #[.int .i64 x.op, .int .i64 x.a, .int .i64 x.b, .int .i64 x.c, .int .i64 x.d] 98))
        have hC2 := hC.trans (Chg.of_below (S := fun q => q = g2) (bal (bself wr) (.cells #[.int .i64 x.op, .int .i64 x.a, .int .i64 x.b, .int .i64 x.c, .int .i64 x.d] 98)))
        rw [HMS.out] at ho2
        clear ho hC HX
        go_wp2
        go_roundw
        case rel => exact ⟨k + 1, by omega, by go_num, ho2, hC2⟩
        case measure => simp [intOf]; omega
    · have e : k = c.list.length := by omega
      subst e
      rw [List.take_length, List.drop_length, List.append_nil] at ho
      have oa := own_keep oc.a hC (fun q h h2 => hac q h (by rw [h2]; rfl))
      have ob := own_keep oc.b hC (fun q h h2 => hbc q h (by rw [h2]; rfl))
      replace bx2 := chg_cell hC bx2 (by omega)
      replace bx3 := chg_cell hC bx3 (by omega)
      replace bx4 := chg_cell hC bx4 (by omega)
      replace bx5 := chg_cell hC bx5 (by omega)
      replace bf6 := chg_froz hC (by omega) bf6 (by omega)
      replace bx7 := chg_cell hC bx7 (by omega)
      replace bf8 := chg_froz hC (by omega) bf8 (by omega)
      replace bx9 := chg_cell hC bx9 (by omega)
      replace bf10 := chg_froz hC (by omega) bf10 (by omega)
      replace bx20 := chg_cell hC bx20 (by omega)
      replace bf21 := chg_froz hC (by omega) bf21 (by omega)
      replace bx22 := chg_cell hC bx22 (by omega)
      replace bf23 := chg_froz hC (by omega) bf23 (by omega)
      replace bx24 := chg_cell hC bx24 (by omega)
      replace bf25 := chg_froz hC (by omega) bf25 (by omega)
      have tot4 := tot.trans (hC.below w.heap.size tot.size (fun q hq h => by omega))
      have hab := oc.ab
      have ia := oc.a.lt
      have ib := oc.b.lt
      obtain ⟨w4, rfl⟩ : ∃ X, X = wr := ⟨_, rfl⟩
      generalize hM : c.list.map (eraseIns c.list.length) = M at *
      have hMl : M.length = c.list.length := by rw [← hM, List.length_map]
      have HM := Lib.hid hM; have HML := Lib.hid hMl; clear hM hMl oc hC tot
      go_wp2
      go_loopw [34] (fun i wr => ∃ (k : Nat) (g3 c3 : Nat), k ≤ 14 ∧ i = .int .i64 k ∧ wr.cell? ⟨w2.heap.size, 2, none⟩ = some (.slice (some ⟨g3, 0, none⟩) (c.list.length + k) c3) ∧ wr.frozen? ⟨w2.heap.size, 2, none⟩ = false ∧ wr.cell? ⟨w2.heap.size, 0, none⟩ = some (.slice p0 c.vars.length t0) ∧ wr.cell? ⟨w2.heap.size, 1, none⟩ = some (.slice p1 c.arrays.length t1) ∧
          wr.ownsRow w1.heap.size 98 5 (.slice (some ⟨g3, 0, none⟩) (c.list.length + k) c3) (c.list.length + k) (inss (M ++ eraseTail k)) ∧ Chg (fun q => q = w2.heap.size ∨ q = g2) w4 wr ∧ (g3 = g2 ∨ w4.heap.size ≤ g3)) (fun i _ => 14 - (intOf i).toNat)
      case atStart => exact ⟨0, g2, t2, by omega, rfl, bx24, bf25, bx20, bx22, by simpa [eraseTail] using ho, Chg.refl _ _, Or.inl rfl⟩
      case round =>
        obtain ⟨k, g3, c3, hk, rfl, m2, fm, m0, m1, ho3, hC, hg3⟩ := hrel
        have hzx := hC.size
        have kb := lt_of_cell m2
        have hlo3 := ho3.lt _ rfl
        by_cases hlt : k < 14
        · clear ho
          go_wp2_with (at_builtin; refine wpList_ap tInstrs rfl _ _ rfl w1.heap.size _ (c.list.length + k) _ rfl ho3 [.int .i64 (1), .int .i64 ((k : Int)), .int .i64 (0), .int .i64 (0), .int .i64 (0)] rfl rfl (one_insc ⟨1, (k : Int), 0, 0, 0⟩) (by omega) (by omega) ?_)
          intro g4 c4 wy ho4 hc4 hg4
          have hzy := hc4.size
          have e4 : ∀ q, (Value.slice (some ⟨g3, 0, none⟩) (c.list.length + k) c3).ownBlock = some q → q = g3 := fun q h => (Option.some.inj h).symm
          have hg5 : g4 = g3 ∨ wr.heap.size ≤ g4 := hg4.elim (fun h => Or.inl (e4 _ h)) Or.inr
          have m2b := chg_cell hc4 m2 (fun h => by have := e4 _ h; omega)
          have fmb := chg_froz hc4 kb fm (fun h => by have := e4 _ h; omega)
          have m0b := cell_ne (b := w2.heap.size) (j := 2) (chg_cell hc4 m0 (fun h => by have := e4 _ h; omega)) (by omega) (.slice (some ⟨g4, 0, none⟩) (c.list.length + k + 1) c4)
          have m1b := cell_ne (b := w2.heap.size) (j := 2) (chg_cell hc4 m1 (fun h => by have := e4 _ h; omega)) (by omega) (.slice (some ⟨g4, 0, none⟩) (c.list.length + k + 1) c4)
          have m2c := cell_at wy (w2.heap.size) 2 (.slice (some ⟨g4, 0, none⟩) (c.list.length + k + 1) c4) m2b
          have fmc := froz_st (b := ⟨w2.heap.size, 2, none⟩) fmb (.slice (some ⟨g4, 0, none⟩) (c.list.length + k + 1) c4)
          have ho5 := own_set ho4 (w2.heap.size) 2 (fun h => by have : g4 = w2.heap.size := Option.some.inj h; omega) (.slice (some ⟨g4, 0, none⟩) (c.list.length + k + 1) c4)
          rw [show inss (M ++ eraseTail k) ++ [Value.int .i64 (1), Value.int .i64 ((k : Int)), Value.int .i64 (0), Value.int .i64 (0), Value.int .i64 (0)] = inss (M ++ eraseTail (k + 1)) from by rw [eraseTail_succ, ← List.append_assoc]; exact (rows_append insc (M ++ eraseTail k) [⟨1, (k : Int), 0, 0, 0⟩]).symm] at ho5
          have hC2 : Chg (fun q => q = w2.heap.size ∨ q = g2) w4 wy := ⟨hc4.os.trans hC.os, hc4.tape.trans hC.tape, hc4.output.trans hC.output, by omega, fun q hq hn => (hc4.block q (by omega) (fun h => by have := e4 _ h; omega)).trans (hC.block q hq hn)⟩
          have hC3 := hC2.setCell (w2.heap.size) 2 (.slice (some ⟨g4, 0, none⟩) (c.list.length + k + 1) c4) (fun _ => Or.inl rfl)
          have k5 := lt_of_cell m2b
          clear ho3 ho4 hc4 hg4 e4 hC hC2 m0 m1 m2
          go_wp2
          go_roundw
          case rel => exact ⟨k + 1, g4, c4, by omega, by go_num, m2c, fmc, m0b, m1b, ho5, hC3, by omega⟩
          case measure => simp [intOf]; omega
        · have e : k = 14 := by omega
          subst e
          clear ho
          go_wp2_with (at_builtin; refine wpList_ap tInstrs rfl _ _ rfl w1.heap.size _ (c.list.length + 14) _ rfl ho3 [.int .i64 (13), .int .i64 (0), .int .i64 (0), .int .i64 (0), .int .i64 (0)] rfl rfl (one_insc ⟨13, 0, 0, 0, 0⟩) (by omega) (by omega) ?_)
          intro g4 c4 wy ho4 hc4 hg4
          have hzy := hc4.size
          have e4 : ∀ q, (Value.slice (some ⟨g3, 0, none⟩) (c.list.length + 14) c3).ownBlock = some q → q = g3 := fun q h => (Option.some.inj h).symm
          have hg5 : g4 = g3 ∨ wr.heap.size ≤ g4 := hg4.elim (fun h => Or.inl (e4 _ h)) Or.inr
          have m2b := chg_cell hc4 m2 (fun h => by have := e4 _ h; omega)
          have fmb := chg_froz hc4 kb fm (fun h => by have := e4 _ h; omega)
          have m0b := cell_ne (b := w2.heap.size) (j := 2) (chg_cell hc4 m0 (fun h => by have := e4 _ h; omega)) (by omega) (.slice (some ⟨g4, 0, none⟩) (c.list.length + 14 + 1) c4)
          have m1b := cell_ne (b := w2.heap.size) (j := 2) (chg_cell hc4 m1 (fun h => by have := e4 _ h; omega)) (by omega) (.slice (some ⟨g4, 0, none⟩) (c.list.length + 14 + 1) c4)
          have m2c := cell_at wy (w2.heap.size) 2 (.slice (some ⟨g4, 0, none⟩) (c.list.length + 14 + 1) c4) m2b
          have fmc := froz_st (b := ⟨w2.heap.size, 2, none⟩) fmb (.slice (some ⟨g4, 0, none⟩) (c.list.length + 14 + 1) c4)
          have ho5 := own_set ho4 (w2.heap.size) 2 (fun h => by have : g4 = w2.heap.size := Option.some.inj h; omega) (.slice (some ⟨g4, 0, none⟩) (c.list.length + 14 + 1) c4)
          rw [show inss (M ++ eraseTail 14) ++ [Value.int .i64 (13), Value.int .i64 (0), Value.int .i64 (0), Value.int .i64 (0), Value.int .i64 (0)] = inss ((M ++ eraseTail 14) ++ [⟨13, 0, 0, 0, 0⟩]) from by exact (rows_append insc (M ++ eraseTail 14) [⟨13, 0, 0, 0, 0⟩]).symm] at ho5
          rw [← HM.out] at ho5
          have hC2 : Chg (fun q => q = w2.heap.size ∨ q = g2) w4 wy := ⟨hc4.os.trans hC.os, hc4.tape.trans hC.tape, hc4.output.trans hC.output, by omega, fun q hq hn => (hc4.block q (by omega) (fun h => by have := e4 _ h; omega)).trans (hC.block q hq hn)⟩
          have hC3 := hC2.setCell (w2.heap.size) 2 (.slice (some ⟨g4, 0, none⟩) (c.list.length + 14 + 1) c4) (fun _ => Or.inl rfl)
          have k5 := lt_of_cell m2b
          have r0 := chg_cell hC3 bx5 (by omega)
          have rf0 := chg_froz hC3 (by omega) bf6 (by omega)
          have r1 := chg_cell hC3 bx7 (by omega)
          have rf1 := chg_froz hC3 (by omega) bf8 (by omega)
          have r2 := chg_cell hC3 bx9 (by omega)
          have rf2 := chg_froz hC3 (by omega) bf10 (by omega)
          have k6 := lt_of_cell r0
          simp only [World.size_setCell] at k6
          have tot5 := tot4.trans (hC3.below w.heap.size tot4.size (fun q hq h => by omega))
          have oa3 := own_keep oa hC3 (fun q h h2 => h2.elim (fun h2 => by have := hbas q (Or.inl h); omega) (fun h2 => hac q h (by rw [h2]; rfl)))
          have ob3 := own_keep ob hC3 (fun q h h2 => h2.elim (fun h2 => by have := hbas q (Or.inr (Or.inl h)); omega) (fun h2 => hbc q h (by rw [h2]; rfl)))
          clear ho3 ho4 hc4 hg4 hC hC2 m0 m1 m2 e4
          by_cases h385 : c.list.length ≤ 385
          · have hR := HEY.out ⟨HO.out, h385⟩
            have HR := Lib.hid hR; clear hR
            have h400 : ¬ (400 : Int) < ((c.list.length : Int) + 14 + 1) := by omega
            have x0 := (cell_ne (b := (w.heap.size + 1)) (j := 2) (cell_ne (b := (w.heap.size + 1)) (j := 1) (cell_at _ (w.heap.size + 1) 0 (.slice p0 c.vars.length t0) r0) (by omega) (.slice p1 c.arrays.length t1)) (by omega) (.slice (some ⟨g4, 0, none⟩) (c.list.length + 14 + 1) c4))
            have x1 := (cell_ne (b := (w.heap.size + 1)) (j := 2) (cell_at _ (w.heap.size + 1) 1 (.slice p1 c.arrays.length t1) (cell_ne (b := (w.heap.size + 1)) (j := 0) r1 (by omega) (.slice p0 c.vars.length t0))) (by omega) (.slice (some ⟨g4, 0, none⟩) (c.list.length + 14 + 1) c4))
            have x2 := (cell_at _ (w.heap.size + 1) 2 (.slice (some ⟨g4, 0, none⟩) (c.list.length + 14 + 1) c4) (cell_ne (b := (w.heap.size + 1)) (j := 1) (cell_ne (b := (w.heap.size + 1)) (j := 0) r2 (by omega) (.slice p0 c.vars.length t0)) (by omega) (.slice p1 c.arrays.length t1)))
            have y0 := (own_set (own_set (own_set oa3 (w.heap.size + 1) 0 (fun h => by have := ia _ h; omega) (.slice p0 c.vars.length t0)) (w.heap.size + 1) 1 (fun h => by have := ia _ h; omega) (.slice p1 c.arrays.length t1)) (w.heap.size + 1) 2 (fun h => by have := ia _ h; omega) (.slice (some ⟨g4, 0, none⟩) (c.list.length + 14 + 1) c4))
            have y1 := (own_set (own_set (own_set ob3 (w.heap.size + 1) 0 (fun h => by have := ib _ h; omega) (.slice p0 c.vars.length t0)) (w.heap.size + 1) 1 (fun h => by have := ib _ h; omega) (.slice p1 c.arrays.length t1)) (w.heap.size + 1) 2 (fun h => by have := ib _ h; omega) (.slice (some ⟨g4, 0, none⟩) (c.list.length + 14 + 1) c4))
            have y2 := (own_set (own_set (own_set ho5 (w.heap.size + 1) 0 (fun h => by have := ho5.lt _ h; omega) (.slice p0 c.vars.length t0)) (w.heap.size + 1) 1 (fun h => by have := ho5.lt _ h; omega) (.slice p1 c.arrays.length t1)) (w.heap.size + 1) 2 (fun h => by have := ho5.lt _ h; omega) (.slice (some ⟨g4, 0, none⟩) (c.list.length + 14 + 1) c4))
            have tt := (bst (bst (bst tot5 (w.heap.size + 1) 0 (by omega) (.slice p0 c.vars.length t0)) (w.heap.size + 1) 1 (by omega) (.slice p1 c.arrays.length t1)) (w.heap.size + 1) 2 (by omega) (.slice (some ⟨g4, 0, none⟩) (c.list.length + 14 + 1) c4))
            have hel := eraseL_len c.list
            clear oa3 ob3 ho5 tot5 tot4
            go_wp2
            exact bodyPost_ret (v := .tuple #[.agg #[.slice p0 c.vars.length t0, .slice p1 c.arrays.length t1, .slice (some ⟨g4, 0, none⟩) (c.list.length + 14 + 1) c4], .bool true]) (by simp [results, Try.results39, go_sem, x0, x1, x2]) rfl (by rw [HR.out]; exact ⟨_, _, _, rfl, ⟨own_mono y0 (by omega), own_mono y1 (by omega), by show World.ownsRow _ _ _ _ _ (eraseL c.list).length (inss (eraseL c.list)); rw [hel]; exact own_mono y2 (by omega), hab⟩, tt⟩)
          · have hR := HER.out (fun h => h385 h.2)
            have HR := Lib.hid hR; clear hR
            have h400 : (400 : Int) < ((c.list.length : Int) + 14 + 1) := by omega
            have x0 := (cell_ne (b := (w.heap.size + 1)) (j := 2) (cell_ne (b := (w.heap.size + 1)) (j := 1) (cell_at _ (w.heap.size + 1) 0 (.slice none 0 0) r0) (by omega) (.slice none 0 0)) (by omega) (.slice none 0 0))
            have x1 := (cell_ne (b := (w.heap.size + 1)) (j := 2) (cell_at _ (w.heap.size + 1) 1 (.slice none 0 0) (cell_ne (b := (w.heap.size + 1)) (j := 0) r1 (by omega) (.slice none 0 0))) (by omega) (.slice none 0 0))
            have x2 := (cell_at _ (w.heap.size + 1) 2 (.slice none 0 0) (cell_ne (b := (w.heap.size + 1)) (j := 1) (cell_ne (b := (w.heap.size + 1)) (j := 0) r2 (by omega) (.slice none 0 0)) (by omega) (.slice none 0 0)))
            have tt := (bst (bst (bst tot5 (w.heap.size + 1) 0 (by omega) (.slice none 0 0)) (w.heap.size + 1) 1 (by omega) (.slice none 0 0)) (w.heap.size + 1) 2 (by omega) (.slice none 0 0))
            clear oa3 ob3 ho5 tot5 tot4 h385
            go_wp2
            exact bodyPost_ret (v := .tuple #[.agg #[.slice none 0 0, .slice none 0 0, .slice none 0 0], .bool false]) (by simp [results, Try.results39, go_sem, x0, x1, x2]) rfl (by rw [HR.out]; exact ⟨_, _, _, rfl, noCode_own _ _, tt⟩)

set_option maxHeartbeats 6400000 in
set_option maxRecDepth 100000 in
theorem sErase_any (va vb vc : Value) (c : Cd) (w : World) (hr : ReadsC w va vb vc c) :
    Calls Try.prog 38 #[.agg #[va, vb, vc]] w fun e w' => ∃ ua ub uc, e = .returned (.tuple #[.agg #[ua, ub, uc], .bool (eraseR c).2]) ∧ OwnC w' w.heap.size ua ub uc (eraseR c).1 ∧ Below w.heap.size w w' := by
  obtain ⟨a0, c0, a1, c1, a2, c2, rfl, rfl, rfl⟩ := hr.shape
  have hER := fun h => eraseR_no (c := c) h
  have hEY := fun h => eraseR_yes (c := c) h
  generalize eraseR c = R at *
  have HER := Lib.hid hER
  have HEY := Lib.hid hEY
  clear hER hEY
  have ivr := hr.lt
  go_enter Try.func38, Try.ntmps38
  go_wp2_with fail
  refine (sCodeValid_any _ _ _ c _ ((hr.below (bal (bself _) (.cells #[.slice a0 c.vars.length c0, .slice a1 c.arrays.length c1, .slice a2 c.list.length c2] 50))).below (bal (bself _) (.cells #[.slice none 0 0, .slice none 0 0, .slice none 0 0] 50)))).mono ?_
  rintro e w1 ⟨rfl, hb⟩
  have hsz1 := hb.size
  simp only [World.size_alloc] at hsz1
  replace hr := ((hr.below (bal (bself _) (.cells #[.slice a0 c.vars.length c0, .slice a1 c.arrays.length c1, .slice a2 c.list.length c2] 50))).below (bal (bself _) (.cells #[.slice none 0 0, .slice none 0 0, .slice none 0 0] 50))).below hb
  have bx2 : w1.cell? ⟨w.heap.size, 0, none⟩ = some (.slice a0 c.vars.length c0) := kept_cell hb (cell_al (cell_nw (by simp) (by rfl)) _)
  have bx3 : w1.cell? ⟨w.heap.size, 1, none⟩ = some (.slice a1 c.arrays.length c1) := kept_cell hb (cell_al (cell_nw (by simp) (by rfl)) _)
  have bx4 : w1.cell? ⟨w.heap.size, 2, none⟩ = some (.slice a2 c.list.length c2) := kept_cell hb (cell_al (cell_nw (by simp) (by rfl)) _)
  have bx5 : w1.cell? ⟨w.heap.size + 1, 0, none⟩ = some (.slice none 0 0) := kept_cell hb (cell_nw (by simp) (by rfl))
  have bf6 : w1.frozen? ⟨w.heap.size + 1, 0, none⟩ = false := kept_froz hb (by simp) (froz_nw (by simp))
  have bx7 : w1.cell? ⟨w.heap.size + 1, 1, none⟩ = some (.slice none 0 0) := kept_cell hb (cell_nw (by simp) (by rfl))
  have bf8 : w1.frozen? ⟨w.heap.size + 1, 1, none⟩ = false := kept_froz hb (by simp) (froz_nw (by simp))
  have bx9 : w1.cell? ⟨w.heap.size + 1, 2, none⟩ = some (.slice none 0 0) := kept_cell hb (cell_nw (by simp) (by rfl))
  have bf10 : w1.frozen? ⟨w.heap.size + 1, 2, none⟩ = false := kept_froz hb (by simp) (froz_nw (by simp))
  have tot := btr (bal (bal (bself w) (.cells #[.slice a0 c.vars.length c0, .slice a1 c.arrays.length c1, .slice a2 c.list.length c2] 50)) (.cells #[.slice none 0 0, .slice none 0 0, .slice none 0 0] 50)) hb
  clear hb
  have lt11 := lt_of_cell bx2
  have lt12 := lt_of_cell bx3
  have lt13 := lt_of_cell bx4
  have lt14 := lt_of_cell bx5
  have lt15 := lt_of_cell bx7
  have lt16 := lt_of_cell bx9
  cases hok : codeOk c
  · have HO := Lib.hid hok; clear hok hr
    have hR := HER.out (fun h => by have h2 := HO.out; rw [h.1] at h2; cases h2)
    have HR := Lib.hid hR; clear hR
    have x0 := (cell_ne (b := (w.heap.size + 1)) (j := 2) (cell_ne (b := (w.heap.size + 1)) (j := 1) (cell_at _ (w.heap.size + 1) 0 (.slice none 0 0) bx5) (by omega) (.slice none 0 0)) (by omega) (.slice none 0 0))
    have x1 := (cell_ne (b := (w.heap.size + 1)) (j := 2) (cell_at _ (w.heap.size + 1) 1 (.slice none 0 0) (cell_ne (b := (w.heap.size + 1)) (j := 0) bx7 (by omega) (.slice none 0 0))) (by omega) (.slice none 0 0))
    have x2 := (cell_at _ (w.heap.size + 1) 2 (.slice none 0 0) (cell_ne (b := (w.heap.size + 1)) (j := 1) (cell_ne (b := (w.heap.size + 1)) (j := 0) bx9 (by omega) (.slice none 0 0)) (by omega) (.slice none 0 0)))
    have tt := (bst (bst (bst tot (w.heap.size + 1) 0 (by omega) (.slice none 0 0)) (w.heap.size + 1) 1 (by omega) (.slice none 0 0)) (w.heap.size + 1) 2 (by omega) (.slice none 0 0))
    go_wp2
    exact bodyPost_ret (v := .tuple #[.agg #[.slice none 0 0, .slice none 0 0, .slice none 0 0], .bool false]) (by simp [results, Try.results38, go_sem, x0, x1, x2]) rfl (by rw [HR.out]; exact ⟨_, _, _, rfl, noCode_own _ _, tt⟩)
  have HO := Lib.hid hok; clear hok
  have hlen := codeOk_len HO.out
  have hdl := declOk_len (codeOk_decl HO.out)
  obtain ⟨l1, l2⟩ := hlen
  obtain ⟨l3, l4⟩ := hdl
  go_wp2_with fail
  refine (l8Copy_any _ _ _ c _ hr (by omega) (by omega) (by omega)).mono ?_
  rintro e w2 ⟨u0, u1, u2, rfl, oc, hb⟩
  have hsz17 := hb.size
  replace bf6 := kept_froz hb (lt_of_cell bx5) bf6
  replace bf8 := kept_froz hb (lt_of_cell bx7) bf8
  replace bf10 := kept_froz hb (lt_of_cell bx9) bf10
  replace hr := hr.below hb
  replace bx2 : w2.cell? ⟨w.heap.size, 0, none⟩ = some (.slice a0 c.vars.length c0) := kept_cell hb bx2
  replace bx3 : w2.cell? ⟨w.heap.size, 1, none⟩ = some (.slice a1 c.arrays.length c1) := kept_cell hb bx3
  replace bx4 : w2.cell? ⟨w.heap.size, 2, none⟩ = some (.slice a2 c.list.length c2) := kept_cell hb bx4
  replace bx5 : w2.cell? ⟨w.heap.size + 1, 0, none⟩ = some (.slice none 0 0) := kept_cell hb bx5
  replace bx7 : w2.cell? ⟨w.heap.size + 1, 1, none⟩ = some (.slice none 0 0) := kept_cell hb bx7
  replace bx9 : w2.cell? ⟨w.heap.size + 1, 2, none⟩ = some (.slice none 0 0) := kept_cell hb bx9
  replace tot := btr tot hb
  clear hb
  have hbas := oc.lt
  obtain ⟨g2, t2, hgv⟩ := own_pos oc.l (by omega)
  obtain ⟨p0, t0, hpv⟩ := own_shape oc.a
  obtain ⟨p1, t1, hqv⟩ := own_shape oc.b
  subst hgv hpv hqv
  have iv18 := oc.lt
  go_wp2
  obtain ⟨w3, hnw⟩ : ∃ X, X = (World.alloc w2 (.cells #[.slice p0 c.vars.length t0, .slice p1 c.arrays.length t1, .slice (some ⟨g2, 0, none⟩) c.list.length t2] 50)) := ⟨_, rfl⟩
  have hb : Below (World.alloc w2 (.cells #[.slice p0 c.vars.length t0, .slice p1 c.arrays.length t1, .slice (some ⟨g2, 0, none⟩) c.list.length t2] 50)).heap.size (World.alloc w2 (.cells #[.slice p0 c.vars.length t0, .slice p1 c.arrays.length t1, .slice (some ⟨g2, 0, none⟩) c.list.length t2] 50)) w3 := by rw [hnw]; exact bself _
  have hsz19 := hb.size
  simp only [World.size_alloc] at hsz19
  replace bf6 := kept_froz hb (lt_of_cell (cell_al bx5 (.cells #[.slice p0 c.vars.length t0, .slice p1 c.arrays.length t1, .slice (some ⟨g2, 0, none⟩) c.list.length t2] 50))) (froz_al (lt_of_cell bx5) bf6 (.cells #[.slice p0 c.vars.length t0, .slice p1 c.arrays.length t1, .slice (some ⟨g2, 0, none⟩) c.list.length t2] 50))
  replace bf8 := kept_froz hb (lt_of_cell (cell_al bx7 (.cells #[.slice p0 c.vars.length t0, .slice p1 c.arrays.length t1, .slice (some ⟨g2, 0, none⟩) c.list.length t2] 50))) (froz_al (lt_of_cell bx7) bf8 (.cells #[.slice p0 c.vars.length t0, .slice p1 c.arrays.length t1, .slice (some ⟨g2, 0, none⟩) c.list.length t2] 50))
  replace bf10 := kept_froz hb (lt_of_cell (cell_al bx9 (.cells #[.slice p0 c.vars.length t0, .slice p1 c.arrays.length t1, .slice (some ⟨g2, 0, none⟩) c.list.length t2] 50))) (froz_al (lt_of_cell bx9) bf10 (.cells #[.slice p0 c.vars.length t0, .slice p1 c.arrays.length t1, .slice (some ⟨g2, 0, none⟩) c.list.length t2] 50))
  replace hr := (hr.below (bal (bself _) (.cells #[.slice p0 c.vars.length t0, .slice p1 c.arrays.length t1, .slice (some ⟨g2, 0, none⟩) c.list.length t2] 50))).below hb
  replace bx2 : w3.cell? ⟨w.heap.size, 0, none⟩ = some (.slice a0 c.vars.length c0) := kept_cell hb (cell_al bx2 (.cells #[.slice p0 c.vars.length t0, .slice p1 c.arrays.length t1, .slice (some ⟨g2, 0, none⟩) c.list.length t2] 50))
  replace bx3 : w3.cell? ⟨w.heap.size, 1, none⟩ = some (.slice a1 c.arrays.length c1) := kept_cell hb (cell_al bx3 (.cells #[.slice p0 c.vars.length t0, .slice p1 c.arrays.length t1, .slice (some ⟨g2, 0, none⟩) c.list.length t2] 50))
  replace bx4 : w3.cell? ⟨w.heap.size, 2, none⟩ = some (.slice a2 c.list.length c2) := kept_cell hb (cell_al bx4 (.cells #[.slice p0 c.vars.length t0, .slice p1 c.arrays.length t1, .slice (some ⟨g2, 0, none⟩) c.list.length t2] 50))
  replace bx5 : w3.cell? ⟨w.heap.size + 1, 0, none⟩ = some (.slice none 0 0) := kept_cell hb (cell_al bx5 (.cells #[.slice p0 c.vars.length t0, .slice p1 c.arrays.length t1, .slice (some ⟨g2, 0, none⟩) c.list.length t2] 50))
  replace bx7 : w3.cell? ⟨w.heap.size + 1, 1, none⟩ = some (.slice none 0 0) := kept_cell hb (cell_al bx7 (.cells #[.slice p0 c.vars.length t0, .slice p1 c.arrays.length t1, .slice (some ⟨g2, 0, none⟩) c.list.length t2] 50))
  replace bx9 : w3.cell? ⟨w.heap.size + 1, 2, none⟩ = some (.slice none 0 0) := kept_cell hb (cell_al bx9 (.cells #[.slice p0 c.vars.length t0, .slice p1 c.arrays.length t1, .slice (some ⟨g2, 0, none⟩) c.list.length t2] 50))
  replace oc := (oc.below (bal (bself _) (.cells #[.slice p0 c.vars.length t0, .slice p1 c.arrays.length t1, .slice (some ⟨g2, 0, none⟩) c.list.length t2] 50))).below hb
  have bx20 : w3.cell? ⟨w2.heap.size, 0, none⟩ = some (.slice p0 c.vars.length t0) := kept_cell hb (cell_nw (by simp) (by rfl))
  have bf21 : w3.frozen? ⟨w2.heap.size, 0, none⟩ = false := kept_froz hb (by simp) (froz_nw (by simp))
  have bx22 : w3.cell? ⟨w2.heap.size, 1, none⟩ = some (.slice p1 c.arrays.length t1) := kept_cell hb (cell_nw (by simp) (by rfl))
  have bf23 : w3.frozen? ⟨w2.heap.size, 1, none⟩ = false := kept_froz hb (by simp) (froz_nw (by simp))
  have bx24 : w3.cell? ⟨w2.heap.size, 2, none⟩ = some (.slice (some ⟨g2, 0, none⟩) c.list.length t2) := kept_cell hb (cell_nw (by simp) (by rfl))
  have bf25 : w3.frozen? ⟨w2.heap.size, 2, none⟩ = false := kept_froz hb (by simp) (froz_nw (by simp))
  replace tot := btr (bal tot (.cells #[.slice p0 c.vars.length t0, .slice p1 c.arrays.length t1, .slice (some ⟨g2, 0, none⟩) c.list.length t2] 50)) hb
  clear hb
  rw [← hnw]
  clear hnw
  have hlo := iv18 _ (Or.inr (Or.inr rfl))
  try simp only [World.size_alloc] at hlo
  have hac := own_diff oc.a oc.l (by decide)
  have hbc := own_diff oc.b oc.l (by decide)
  have lt26 := lt_of_cell bx2
  have lt27 := lt_of_cell bx3
  have lt28 := lt_of_cell bx4
  have lt29 := lt_of_cell bx5
  have lt30 := lt_of_cell bx7
  have lt31 := lt_of_cell bx9
  have lt32 := lt_of_cell bx20
  have lt33 := lt_of_cell bx22
  have lt34 := lt_of_cell bx24
  have hrl := hr.l
  obtain ⟨_, hn, aa, cap, b, off, hv, hcap, ha, hca⟩ := hrl
  simp only [Value.slice.injEq, true_and] at hv
  obtain ⟨rfl, rfl⟩ := hv
  obtain ⟨rfl, hbs⟩ := ha (by omega)
  have HC := Lib.hid (reads_Instr hca)
  have hbg : ¬ b = g2 := fun e => by have := ivr b (Or.inr (Or.inr ⟨off, c2, by omega, rfl⟩)); omega
  clear hca ha
  clear hr
  go_loopw [6] (fun i wr => ∃ k : Nat, k ≤ c.list.length ∧ i = .int .i64 k ∧ wr.ownsRow w1.heap.size 98 5 (.slice (some ⟨g2, 0, none⟩) c.list.length t2) c.list.length (inss ((c.list.take k).map (eraseIns c.list.length) ++ c.list.drop k)) ∧ Chg (fun q => q = g2) w3 wr) (fun i _ => c.list.length - (intOf i).toNat)
  case atStart => exact ⟨0, Nat.zero_le _, rfl, by simpa using oc.l, Chg.refl _ _⟩
  case round =>
    obtain ⟨k, hk, rfl, ho, hC⟩ := hrel
    have hzC := hC.size
    have n0 := chg_cell hC bx4 (by omega)
    have n1 := chg_cell hC bx24 (by omega)
    have k0 := lt_of_cell n0
    have k1 := lt_of_cell n1
    by_cases hlt : k < c.list.length
    · have hl2 : k < ((c.list.take k).map (eraseIns c.list.length) ++ c.list.drop k).length := by simp; omega
      obtain ⟨x, HX, d0, d1, d2, d3, d4⟩ : ∃ x : Ins, Hid (x = c.list[k]) ∧ wr.cell? ⟨g2, k * 5, none⟩ = some (.int .i64 x.op) ∧ wr.cell? ⟨g2, k * 5 + 1, none⟩ = some (.int .i64 x.a) ∧ wr.cell? ⟨g2, k * 5 + 2, none⟩ = some (.int .i64 x.b) ∧ wr.cell? ⟨g2, k * 5 + 3, none⟩ = some (.int .i64 x.c) ∧ wr.cell? ⟨g2, k * 5 + 4, none⟩ = some (.int .i64 x.d) := ⟨c.list[k], Lib.hid rfl, by rw [← map_get (f := eraseIns c.list.length) c.list k hlt hl2]; exact own_row insc_len ho k hl2 0 (by omega), by rw [← map_get (f := eraseIns c.list.length) c.list k hlt hl2]; exact own_row insc_len ho k hl2 1 (by omega), by rw [← map_get (f := eraseIns c.list.length) c.list k hlt hl2]; exact own_row insc_len ho k hl2 2 (by omega), by rw [← map_get (f := eraseIns c.list.length) c.list k hlt hl2]; exact own_row insc_len ho k hl2 3 (by omega), by rw [← map_get (f := eraseIns c.list.length) c.list k hlt hl2]; exact own_row insc_len ho k hl2 4 (by omega)⟩
      have kg := lt_of_cell d0
      have f0 : wr.frozen? ⟨g2, k * 5, none⟩ = false := ho.frozenAt _
      have f1 : wr.frozen? ⟨g2, k * 5 + 1, none⟩ = false := ho.frozenAt _
      have f2 : wr.frozen? ⟨g2, k * 5 + 2, none⟩ = false := ho.frozenAt _
      have f3 : wr.frozen? ⟨g2, k * 5 + 3, none⟩ = false := ho.frozenAt _
      have f4 : wr.frozen? ⟨g2, k * 5 + 4, none⟩ = false := ho.frozenAt _
      obtain ⟨e0, _⟩ := HC.out k hlt
      have e0 := chg_cell hC e0 (by omega)
      rw [← HX.out] at e0
      clear HC
      by_cases h13 : (x.op == 13) = true
      · have HN : Hid ((c.list.take k).map (eraseIns c.list.length) ++ c.list.drop k = (c.list.take k).map (eraseIns c.list.length) ++ c.list.drop k) := Lib.hid rfl
        have hst := own_set5 ho k hl2 (⟨8, c.list.length, 0, 0, 0⟩ : Ins)
        rw [map_next c.list k hlt _ (by unfold eraseIns; rw [← HX.out, if_pos h13])] at hst
        have hC2 := hC
        have hC3 := (((((hC2.setCell g2 (k * 5) (.int .i64 (8)) (fun _ => rfl)).setCell g2 (k * 5 + 1) (.int .i64 ((c.list.length : Int))) (fun _ => rfl)).setCell g2 (k * 5 + 2) (.int .i64 (0)) (fun _ => rfl)).setCell g2 (k * 5 + 3) (.int .i64 (0)) (fun _ => rfl)).setCell g2 (k * 5 + 4) (.int .i64 (0)) (fun _ => rfl))
        clear ho hC hC2 HN HX
        go_wp2
        go_roundw
        case rel => exact ⟨k + 1, by omega, by go_num, hst, hC3⟩
        case measure => simp [intOf]; omega
      · have h13' : (x.op == 13) = false := by simpa using h13
        have hms := map_same (f := eraseIns c.list.length) c.list k hlt (by unfold eraseIns; rw [← HX.out, if_neg h13])
        have HMS := Lib.hid hms; clear hms h13
        have ho2 := ho
        have hC2 := hC
        rw [HMS.out] at ho2
        clear ho hC HX
        go_wp2
        go_roundw
        case rel => exact ⟨k + 1, by omega, by go_num, ho2, hC2⟩
        case measure => simp [intOf]; omega
    · have e : k = c.list.length := by omega
      subst e
      rw [List.take_length, List.drop_length, List.append_nil] at ho
      have oa := own_keep oc.a hC (fun q h h2 => hac q h (by rw [h2]; rfl))
      have ob := own_keep oc.b hC (fun q h h2 => hbc q h (by rw [h2]; rfl))
      replace bx2 := chg_cell hC bx2 (by omega)
      replace bx3 := chg_cell hC bx3 (by omega)
      replace bx4 := chg_cell hC bx4 (by omega)
      replace bx5 := chg_cell hC bx5 (by omega)
      replace bf6 := chg_froz hC (by omega) bf6 (by omega)
      replace bx7 := chg_cell hC bx7 (by omega)
      replace bf8 := chg_froz hC (by omega) bf8 (by omega)
      replace bx9 := chg_cell hC bx9 (by omega)
      replace bf10 := chg_froz hC (by omega) bf10 (by omega)
      replace bx20 := chg_cell hC bx20 (by omega)
      replace bf21 := chg_froz hC (by omega) bf21 (by omega)
      replace bx22 := chg_cell hC bx22 (by omega)
      replace bf23 := chg_froz hC (by omega) bf23 (by omega)
      replace bx24 := chg_cell hC bx24 (by omega)
      replace bf25 := chg_froz hC (by omega) bf25 (by omega)
      have tot4 := tot.trans (hC.below w.heap.size tot.size (fun q hq h => by omega))
      have hab := oc.ab
      have ia := oc.a.lt
      have ib := oc.b.lt
      obtain ⟨w4, rfl⟩ : ∃ X, X = wr := ⟨_, rfl⟩
      generalize hM : c.list.map (eraseIns c.list.length) = M at *
      have hMl : M.length = c.list.length := by rw [← hM, List.length_map]
      have HM := Lib.hid hM; have HML := Lib.hid hMl; clear hM hMl oc hC tot HC
      go_wp2
      go_loopw [7] (fun i wr => ∃ (k : Nat) (g3 c3 : Nat), k ≤ 14 ∧ i = .int .i64 k ∧ wr.cell? ⟨w2.heap.size, 2, none⟩ = some (.slice (some ⟨g3, 0, none⟩) (c.list.length + k) c3) ∧ wr.frozen? ⟨w2.heap.size, 2, none⟩ = false ∧ wr.cell? ⟨w2.heap.size, 0, none⟩ = some (.slice p0 c.vars.length t0) ∧ wr.cell? ⟨w2.heap.size, 1, none⟩ = some (.slice p1 c.arrays.length t1) ∧
          wr.ownsRow w1.heap.size 98 5 (.slice (some ⟨g3, 0, none⟩) (c.list.length + k) c3) (c.list.length + k) (inss (M ++ eraseTail k)) ∧ Chg (fun q => q = w2.heap.size ∨ q = g2) w4 wr ∧ (g3 = g2 ∨ w4.heap.size ≤ g3)) (fun i _ => 14 - (intOf i).toNat)
      case atStart => exact ⟨0, g2, t2, by omega, rfl, bx24, bf25, bx20, bx22, by simpa [eraseTail] using ho, Chg.refl _ _, Or.inl rfl⟩
      case round =>
        obtain ⟨k, g3, c3, hk, rfl, m2, fm, m0, m1, ho3, hC, hg3⟩ := hrel
        have hzx := hC.size
        have kb := lt_of_cell m2
        have hlo3 := ho3.lt _ rfl
        by_cases hlt : k < 14
        · clear ho
          go_wp2_with (at_builtin; refine wpList_ap tInstrs rfl _ _ rfl w1.heap.size _ (c.list.length + k) _ rfl ho3 [.int .i64 (1), .int .i64 ((k : Int)), .int .i64 (0), .int .i64 (0), .int .i64 (0)] rfl rfl (one_insc ⟨1, (k : Int), 0, 0, 0⟩) (by omega) (by omega) ?_)
          intro g4 c4 wy ho4 hc4 hg4
          have hzy := hc4.size
          have e4 : ∀ q, (Value.slice (some ⟨g3, 0, none⟩) (c.list.length + k) c3).ownBlock = some q → q = g3 := fun q h => (Option.some.inj h).symm
          have hg5 : g4 = g3 ∨ wr.heap.size ≤ g4 := hg4.elim (fun h => Or.inl (e4 _ h)) Or.inr
          have m2b := chg_cell hc4 m2 (fun h => by have := e4 _ h; omega)
          have fmb := chg_froz hc4 kb fm (fun h => by have := e4 _ h; omega)
          have m0b := cell_ne (b := w2.heap.size) (j := 2) (chg_cell hc4 m0 (fun h => by have := e4 _ h; omega)) (by omega) (.slice (some ⟨g4, 0, none⟩) (c.list.length + k + 1) c4)
          have m1b := cell_ne (b := w2.heap.size) (j := 2) (chg_cell hc4 m1 (fun h => by have := e4 _ h; omega)) (by omega) (.slice (some ⟨g4, 0, none⟩) (c.list.length + k + 1) c4)
          have m2c := cell_at wy (w2.heap.size) 2 (.slice (some ⟨g4, 0, none⟩) (c.list.length + k + 1) c4) m2b
          have fmc := froz_st (b := ⟨w2.heap.size, 2, none⟩) fmb (.slice (some ⟨g4, 0, none⟩) (c.list.length + k + 1) c4)
          have ho5 := own_set ho4 (w2.heap.size) 2 (fun h => by have : g4 = w2.heap.size := Option.some.inj h; omega) (.slice (some ⟨g4, 0, none⟩) (c.list.length + k + 1) c4)
          rw [show inss (M ++ eraseTail k) ++ [Value.int .i64 (1), Value.int .i64 ((k : Int)), Value.int .i64 (0), Value.int .i64 (0), Value.int .i64 (0)] = inss (M ++ eraseTail (k + 1)) from by rw [eraseTail_succ, ← List.append_assoc]; exact (rows_append insc (M ++ eraseTail k) [⟨1, (k : Int), 0, 0, 0⟩]).symm] at ho5
          have hC2 : Chg (fun q => q = w2.heap.size ∨ q = g2) w4 wy := ⟨hc4.os.trans hC.os, hc4.tape.trans hC.tape, hc4.output.trans hC.output, by omega, fun q hq hn => (hc4.block q (by omega) (fun h => by have := e4 _ h; omega)).trans (hC.block q hq hn)⟩
          have hC3 := hC2.setCell (w2.heap.size) 2 (.slice (some ⟨g4, 0, none⟩) (c.list.length + k + 1) c4) (fun _ => Or.inl rfl)
          have k5 := lt_of_cell m2b
          clear ho3 ho4 hc4 hg4 e4 hC hC2 m0 m1 m2
          go_wp2
          go_roundw
          case rel => exact ⟨k + 1, g4, c4, by omega, by go_num, m2c, fmc, m0b, m1b, ho5, hC3, by omega⟩
          case measure => simp [intOf]; omega
        · have e : k = 14 := by omega
          subst e
          clear ho
          go_wp2_with (at_builtin; refine wpList_ap tInstrs rfl _ _ rfl w1.heap.size _ (c.list.length + 14) _ rfl ho3 [.int .i64 (13), .int .i64 (0), .int .i64 (0), .int .i64 (0), .int .i64 (0)] rfl rfl (one_insc ⟨13, 0, 0, 0, 0⟩) (by omega) (by omega) ?_)
          intro g4 c4 wy ho4 hc4 hg4
          have hzy := hc4.size
          have e4 : ∀ q, (Value.slice (some ⟨g3, 0, none⟩) (c.list.length + 14) c3).ownBlock = some q → q = g3 := fun q h => (Option.some.inj h).symm
          have hg5 : g4 = g3 ∨ wr.heap.size ≤ g4 := hg4.elim (fun h => Or.inl (e4 _ h)) Or.inr
          have m2b := chg_cell hc4 m2 (fun h => by have := e4 _ h; omega)
          have fmb := chg_froz hc4 kb fm (fun h => by have := e4 _ h; omega)
          have m0b := cell_ne (b := w2.heap.size) (j := 2) (chg_cell hc4 m0 (fun h => by have := e4 _ h; omega)) (by omega) (.slice (some ⟨g4, 0, none⟩) (c.list.length + 14 + 1) c4)
          have m1b := cell_ne (b := w2.heap.size) (j := 2) (chg_cell hc4 m1 (fun h => by have := e4 _ h; omega)) (by omega) (.slice (some ⟨g4, 0, none⟩) (c.list.length + 14 + 1) c4)
          have m2c := cell_at wy (w2.heap.size) 2 (.slice (some ⟨g4, 0, none⟩) (c.list.length + 14 + 1) c4) m2b
          have fmc := froz_st (b := ⟨w2.heap.size, 2, none⟩) fmb (.slice (some ⟨g4, 0, none⟩) (c.list.length + 14 + 1) c4)
          have ho5 := own_set ho4 (w2.heap.size) 2 (fun h => by have : g4 = w2.heap.size := Option.some.inj h; omega) (.slice (some ⟨g4, 0, none⟩) (c.list.length + 14 + 1) c4)
          rw [show inss (M ++ eraseTail 14) ++ [Value.int .i64 (13), Value.int .i64 (0), Value.int .i64 (0), Value.int .i64 (0), Value.int .i64 (0)] = inss ((M ++ eraseTail 14) ++ [⟨13, 0, 0, 0, 0⟩]) from by exact (rows_append insc (M ++ eraseTail 14) [⟨13, 0, 0, 0, 0⟩]).symm] at ho5
          rw [← HM.out] at ho5
          have hC2 : Chg (fun q => q = w2.heap.size ∨ q = g2) w4 wy := ⟨hc4.os.trans hC.os, hc4.tape.trans hC.tape, hc4.output.trans hC.output, by omega, fun q hq hn => (hc4.block q (by omega) (fun h => by have := e4 _ h; omega)).trans (hC.block q hq hn)⟩
          have hC3 := hC2.setCell (w2.heap.size) 2 (.slice (some ⟨g4, 0, none⟩) (c.list.length + 14 + 1) c4) (fun _ => Or.inl rfl)
          have k5 := lt_of_cell m2b
          have r0 := chg_cell hC3 bx5 (by omega)
          have rf0 := chg_froz hC3 (by omega) bf6 (by omega)
          have r1 := chg_cell hC3 bx7 (by omega)
          have rf1 := chg_froz hC3 (by omega) bf8 (by omega)
          have r2 := chg_cell hC3 bx9 (by omega)
          have rf2 := chg_froz hC3 (by omega) bf10 (by omega)
          have k6 := lt_of_cell r0
          simp only [World.size_setCell] at k6
          have tot5 := tot4.trans (hC3.below w.heap.size tot4.size (fun q hq h => by omega))
          have oa3 := own_keep oa hC3 (fun q h h2 => h2.elim (fun h2 => by have := hbas q (Or.inl h); omega) (fun h2 => hac q h (by rw [h2]; rfl)))
          have ob3 := own_keep ob hC3 (fun q h h2 => h2.elim (fun h2 => by have := hbas q (Or.inr (Or.inl h)); omega) (fun h2 => hbc q h (by rw [h2]; rfl)))
          clear ho3 ho4 hc4 hg4 hC hC2 m0 m1 m2 e4
          by_cases h385 : c.list.length ≤ 385
          · have hR := HEY.out ⟨HO.out, h385⟩
            have HR := Lib.hid hR; clear hR
            have h400 : ¬ (400 : Int) < ((c.list.length : Int) + 14 + 1) := by omega
            have x0 := (cell_ne (b := (w.heap.size + 1)) (j := 2) (cell_ne (b := (w.heap.size + 1)) (j := 1) (cell_at _ (w.heap.size + 1) 0 (.slice p0 c.vars.length t0) r0) (by omega) (.slice p1 c.arrays.length t1)) (by omega) (.slice (some ⟨g4, 0, none⟩) (c.list.length + 14 + 1) c4))
            have x1 := (cell_ne (b := (w.heap.size + 1)) (j := 2) (cell_at _ (w.heap.size + 1) 1 (.slice p1 c.arrays.length t1) (cell_ne (b := (w.heap.size + 1)) (j := 0) r1 (by omega) (.slice p0 c.vars.length t0))) (by omega) (.slice (some ⟨g4, 0, none⟩) (c.list.length + 14 + 1) c4))
            have x2 := (cell_at _ (w.heap.size + 1) 2 (.slice (some ⟨g4, 0, none⟩) (c.list.length + 14 + 1) c4) (cell_ne (b := (w.heap.size + 1)) (j := 1) (cell_ne (b := (w.heap.size + 1)) (j := 0) r2 (by omega) (.slice p0 c.vars.length t0)) (by omega) (.slice p1 c.arrays.length t1)))
            have y0 := (own_set (own_set (own_set oa3 (w.heap.size + 1) 0 (fun h => by have := ia _ h; omega) (.slice p0 c.vars.length t0)) (w.heap.size + 1) 1 (fun h => by have := ia _ h; omega) (.slice p1 c.arrays.length t1)) (w.heap.size + 1) 2 (fun h => by have := ia _ h; omega) (.slice (some ⟨g4, 0, none⟩) (c.list.length + 14 + 1) c4))
            have y1 := (own_set (own_set (own_set ob3 (w.heap.size + 1) 0 (fun h => by have := ib _ h; omega) (.slice p0 c.vars.length t0)) (w.heap.size + 1) 1 (fun h => by have := ib _ h; omega) (.slice p1 c.arrays.length t1)) (w.heap.size + 1) 2 (fun h => by have := ib _ h; omega) (.slice (some ⟨g4, 0, none⟩) (c.list.length + 14 + 1) c4))
            have y2 := (own_set (own_set (own_set ho5 (w.heap.size + 1) 0 (fun h => by have := ho5.lt _ h; omega) (.slice p0 c.vars.length t0)) (w.heap.size + 1) 1 (fun h => by have := ho5.lt _ h; omega) (.slice p1 c.arrays.length t1)) (w.heap.size + 1) 2 (fun h => by have := ho5.lt _ h; omega) (.slice (some ⟨g4, 0, none⟩) (c.list.length + 14 + 1) c4))
            have tt := (bst (bst (bst tot5 (w.heap.size + 1) 0 (by omega) (.slice p0 c.vars.length t0)) (w.heap.size + 1) 1 (by omega) (.slice p1 c.arrays.length t1)) (w.heap.size + 1) 2 (by omega) (.slice (some ⟨g4, 0, none⟩) (c.list.length + 14 + 1) c4))
            have hel := eraseL_len c.list
            clear oa3 ob3 ho5 tot5 tot4
            go_wp2
            exact bodyPost_ret (v := .tuple #[.agg #[.slice p0 c.vars.length t0, .slice p1 c.arrays.length t1, .slice (some ⟨g4, 0, none⟩) (c.list.length + 14 + 1) c4], .bool true]) (by simp [results, Try.results38, go_sem, x0, x1, x2]) rfl (by rw [HR.out]; exact ⟨_, _, _, rfl, ⟨own_mono y0 (by omega), own_mono y1 (by omega), by show World.ownsRow _ _ _ _ _ (eraseL c.list).length (inss (eraseL c.list)); rw [hel]; exact own_mono y2 (by omega), hab⟩, tt⟩)
          · have hR := HER.out (fun h => h385 h.2)
            have HR := Lib.hid hR; clear hR
            have h400 : (400 : Int) < ((c.list.length : Int) + 14 + 1) := by omega
            have x0 := (cell_ne (b := (w.heap.size + 1)) (j := 2) (cell_ne (b := (w.heap.size + 1)) (j := 1) (cell_at _ (w.heap.size + 1) 0 (.slice none 0 0) r0) (by omega) (.slice none 0 0)) (by omega) (.slice none 0 0))
            have x1 := (cell_ne (b := (w.heap.size + 1)) (j := 2) (cell_at _ (w.heap.size + 1) 1 (.slice none 0 0) (cell_ne (b := (w.heap.size + 1)) (j := 0) r1 (by omega) (.slice none 0 0))) (by omega) (.slice none 0 0))
            have x2 := (cell_at _ (w.heap.size + 1) 2 (.slice none 0 0) (cell_ne (b := (w.heap.size + 1)) (j := 1) (cell_ne (b := (w.heap.size + 1)) (j := 0) r2 (by omega) (.slice none 0 0)) (by omega) (.slice none 0 0)))
            have tt := (bst (bst (bst tot5 (w.heap.size + 1) 0 (by omega) (.slice none 0 0)) (w.heap.size + 1) 1 (by omega) (.slice none 0 0)) (w.heap.size + 1) 2 (by omega) (.slice none 0 0))
            clear oa3 ob3 ho5 tot5 tot4 h385
            go_wp2
            exact bodyPost_ret (v := .tuple #[.agg #[.slice none 0 0, .slice none 0 0, .slice none 0 0], .bool false]) (by simp [results, Try.results38, go_sem, x0, x1, x2]) rfl (by rw [HR.out]; exact ⟨_, _, _, rfl, noCode_own _ _, tt⟩)
end Go.Proofs.Ytkbbpnfhenoihaa
