/-
  RegsUsed of the program and of the reference.
-/
import Derived.Test.YtkbbpnfhenoihaaLC
import Derived.Test.YtkbbpnfhenoihaaRO
namespace Go.Proofs.Ytkbbpnfhenoihaa
open Go.RowKit

/-- how many of fourteen -/
def cntF (F : Nat → Bool) : Nat := (tab F).count true
theorem cntF_le (F : Nat → Bool) : cntF F ≤ 14 := by unfold cntF; exact Nat.le_trans List.count_le_length (by rw [tab_len]; exact Nat.le_refl _)
theorem cntF_congr {F G : Nat → Bool} (h : ∀ q, q < 14 → F q = G q) : cntF F = cntF G := by unfold cntF; rw [tab_congr h]
theorem cntF_set {F G : Nat → Bool} (r : Nat) (hr : r < 14) (h : F r = false) (hG : ∀ q, q < 14 → (if q = r then true else F q) = G q) : cntF G = cntF F + 1 := by
  unfold cntF
  rw [← tab_congr hG, ← tab_set, List.count_set (by rw [tab_len]; exact hr), tab_get, h]
  simp
theorem cntF_none : cntF (fun _ => false) = 0 := by unfold cntF; rw [← tab_false]; rfl
/-- the registers of instructions -/
def usd (l : List Ins) (q : Nat) : Bool := l.any (fun x => (use x).any (fun u => u == (q : Int)) || wrt x == (q : Int))
theorem usd_succ (l : List Ins) (i : Nat) (h : i < l.length) (q : Nat) : usd (l.take (i + 1)) q = (usd (l.take i) q || ((use l[i]).any (fun u => u == (q : Int)) || wrt l[i] == (q : Int))) := by
  unfold usd; rw [List.take_succ_eq_append_getElem h, List.any_append]; simp
theorem ordS_mem (O : List Int) (r q : Int) : (ordS O r).contains q = (O.contains q || r == q) := by
  unfold ordS
  split
  · rename_i h
    by_cases e : r = q
    · subst e; rw [h]; rfl
    · rw [show (r == q) = false from by simpa using e, Bool.or_false]
  · rw [show (O ++ [r]).contains q = (O.contains q || (q == r)) from by rw [List.contains_eq_any_beq, List.contains_eq_any_beq, List.any_append]; simp, BEq.comm]
theorem ordL_mem (O rs : List Int) (q : Int) : (ordL O rs).contains q = (O.contains q || rs.any (fun r => r == q)) := by
  induction rs generalizing O with
  | nil => simp [ordL]
  | cons r rs ih =>
    show (ordL (ordS O r) rs).contains q = _
    rw [ih, ordS_mem, List.any_cons, Bool.or_assoc]
theorem ordC_mem (O : List Int) (l : List Ins) (q : Int) : (ordC O l).contains q = (O.contains q || l.any (fun x => (rgs x).any (fun r => r == q))) := by
  induction l generalizing O with
  | nil => simp [ordC]
  | cons x l ih =>
    show (ordC (ordL O (rgs x)) l).contains q = _
    rw [ih, ordL_mem, List.any_cons, Bool.or_assoc]
theorem rgs_any {nv na nl : Nat} {x : Ins} (h : insOk nv na nl x = true) (q : Nat) : (rgs x).any (fun r => r == (q : Int)) = ((use x).any (fun u => u == (q : Int)) || wrt x == (q : Int)) := by
  have hop := insOk_op h
  obtain ⟨op, a, b, c, d⟩ := x
  simp only at hop
  have hm : ((-1 : Int) == (q : Int)) = false := by simp
  rcases shp_cases op with h' | rfl | rfl | rfl | rfl | rfl | rfl | rfl | rfl | rfl | rfl | rfl | rfl | rfl
  · omega
  all_goals simp [rgs, rgsK, shp, flds, use, wrt, hm, Bool.or_comm, Bool.or_left_comm, Bool.or_assoc]
theorem rgs_in {nv na nl : Nat} {x : Ins} (h : insOk nv na nl x = true) : ∀ r ∈ rgs x, 0 ≤ r ∧ r < 14 := by
  intro r hr
  unfold rgs rgsK at hr
  obtain ⟨p, hp, he⟩ := List.mem_filterMap.1 hr
  split at he
  · rename_i h14
    obtain rfl := Option.some.inj he
    have h1 := insOk_cases h p (List.mem_of_mem_take hp)
    rw [h14] at h1
    exact fOk_r h1
  · cases he
theorem ordS_cnt {O : List Int} {r : Int} (h0 : 0 ≤ r) (h1 : r < 14) (h : O.length = cntF (fun q => O.contains (q : Int))) : (ordS O r).length = cntF (fun q => (ordS O r).contains (q : Int)) := by
  obtain ⟨n, rfl⟩ : ∃ n : Nat, r = (n : Int) := ⟨r.toNat, by omega⟩
  cases hc : O.contains (n : Int) with
  | true => rw [ordS_in hc]; exact h
  | false =>
    rw [cntF_set (F := fun q => O.contains (q : Int)) n (by omega) hc (fun q hq => by
      rw [ordS_mem]
      by_cases e : q = n
      · subst e; simp
      · rw [if_neg e, show ((n : Int) == (q : Int)) = false from by simp; omega, Bool.or_false])]
    rw [ordS_new hc, List.length_append, h]; rfl
theorem ordL_cnt (rs : List Int) (hr : ∀ r ∈ rs, 0 ≤ r ∧ r < 14) {O : List Int} (h : O.length = cntF (fun q => O.contains (q : Int))) : (ordL O rs).length = cntF (fun q => (ordL O rs).contains (q : Int)) := by
  induction rs generalizing O with
  | nil => exact h
  | cons r rs ih =>
    obtain ⟨h0, h1⟩ := hr r (by simp)
    exact ih (fun r hr' => hr r (by simp [hr'])) (ordS_cnt h0 h1 h)
theorem ordC_cnt (l : List Ins) (hr : ∀ x ∈ l, ∀ r ∈ rgs x, 0 ≤ r ∧ r < 14) {O : List Int} (h : O.length = cntF (fun q => O.contains (q : Int))) : (ordC O l).length = cntF (fun q => (ordC O l).contains (q : Int)) := by
  induction l generalizing O with
  | nil => exact h
  | cons x l ih => exact ih (fun x hx => hr x (by simp [hx])) (ordL_cnt _ (hr x (by simp)) h)
theorem regs_count {c : Cd} (h : codeOk c = true) : (ordC [] c.list).length = cntF (usd c.list) := by
  have hall := codeOk_all h
  have hx : ∀ x ∈ c.list, insOk c.vars.length c.arrays.length c.list.length x = true := by
    intro x hx
    obtain ⟨k, hk, rfl⟩ := List.getElem_of_mem hx
    exact hall k hk
  rw [ordC_cnt c.list (fun x hxm => rgs_in (hx x hxm)) (by simp [cntF_none])]
  refine cntF_congr (fun q hq => ?_)
  rw [ordC_mem]
  unfold usd
  simp only [List.contains_nil, Bool.false_or]
  rw [Bool.eq_iff_iff, List.any_eq_true, List.any_eq_true]
  constructor
  · rintro ⟨x, hm, hv⟩; exact ⟨x, hm, by rw [← rgs_any (hx x hm)]; exact hv⟩
  · rintro ⟨x, hm, hv⟩; exact ⟨x, hm, by rw [rgs_any (hx x hm)]; exact hv⟩
def regsUsed (c : Cd) : Int := if codeOk c = true then (cntF (usd c.list) : Int) else 0
theorem regsUsed_yes {c : Cd} (h : codeOk c = true) : regsUsed c = (cntF (usd c.list) : Int) := if_pos h
theorem regsUsed_no {c : Cd} (h : codeOk c = false) : regsUsed c = 0 := by unfold regsUsed; rw [if_neg (by rw [h]; decide)]

set_option maxHeartbeats 3200000 in
theorem numbering_any (va vb vc : Value) (c : Cd) (w : World) (hr : ReadsC w va vb vc c) (hok : codeOk c = true) :
    Calls Try.prog 90 #[.agg #[va, vb, vc]] w fun e w' => ∃ u, e = .returned u ∧ w'.ownsRow w.heap.size 3 1 u (ordC [] c.list).length (ints (ordC [] c.list)) ∧ Below w.heap.size w w' := by
  obtain ⟨a0, c0, a1, c1, a2, c2, rfl, rfl, rfl⟩ := hr.shape
  obtain ⟨w1, hw1⟩ : ∃ X, X = (w.alloc (.cells #[.slice a0 c.vars.length c0, .slice a1 c.arrays.length c1, .slice a2 c.list.length c2] 50)).alloc (.cells #[.slice none 0 0] 22) := ⟨_, rfl⟩
  have hb1 : Below w.heap.size w w1 := by rw [hw1]; exact bal (bal (bself w) _) _
  have hz1 : w1.heap.size = w.heap.size + 1 + 1 := by rw [hw1]; simp
  have b0 : w1.cell? ⟨w.heap.size, 0, none⟩ = some (.slice a0 c.vars.length c0) := by rw [hw1]; exact cell_al (cell_nw rfl rfl) _
  have b1 : w1.cell? ⟨w.heap.size, 1, none⟩ = some (.slice a1 c.arrays.length c1) := by rw [hw1]; exact cell_al (cell_nw rfl rfl) _
  have b2 : w1.cell? ⟨w.heap.size, 2, none⟩ = some (.slice a2 c.list.length c2) := by rw [hw1]; exact cell_al (cell_nw rfl rfl) _
  have bB : w1.cell? ⟨w.heap.size + 1, 0, none⟩ = some (.slice none 0 0) := by rw [hw1]; exact cell_nw (by simp) rfl
  have bf : w1.frozen? ⟨w.heap.size + 1, 0, none⟩ = false := by rw [hw1]; exact froz_nw (by simp)
  have k2 := lt_of_cell b2
  have HW := Lib.hid hw1
  have hz1' : w.heap.size + 2 ≤ w1.heap.size := by omega
  clear hw1 hz1
  have HR := Lib.hid (regsN_any _ _ _ c (w.heap.size + 1) w1 (hr.below hb1) hok bB bf)
  clear hr
  go_enter Try.func90, Try.ntmps90
  go_upto_region 2 with (fail)
  rw [← HW.out]
  clear HW
  go_wp2_with fail
  refine HR.out.mono ?_
  rintro e w2 ⟨u, v, rfl, hB, hv, hC⟩
  obtain ⟨pa, pc, rfl⟩ := own_shape hv
  have hz2 := hC.size
  have kB := lt_of_cell hB
  go_wp2
  go_ret
  exact ⟨_, rfl, own_mono hv (by omega), hb1.trans (hC.below w.heap.size hb1.size (fun q hq h => by omega))⟩

set_option maxHeartbeats 3200000 in
theorem iRegsUsed_any (va vb vc : Value) (c : Cd) (w : World) (hr : ReadsC w va vb vc c) :
    Calls Try.prog 37 #[.agg #[va, vb, vc]] w fun e w' => e = .returned (.int .i64 (regsUsed c)) ∧ Below w.heap.size w w' := by
  obtain ⟨a0, c0, a1, c1, a2, c2, rfl, rfl, rfl⟩ := hr.shape
  have HN := Lib.hid (fun h => regsUsed_no (c := c) h)
  have HY := Lib.hid (fun h => regsUsed_yes (c := c) h)
  have HC := Lib.hid (fun h => regs_count (c := c) h)
  have HL := Lib.hid (fun (W : World) (hW : Below w.heap.size w W) h => numbering_any _ _ _ c W (hr.below hW) h)
  generalize regsUsed c = D at *
  have hbx := bal (bself w) (.cells #[.slice a0 c.vars.length c0, .slice a1 c.arrays.length c1, .slice a2 c.list.length c2] 50)
  go_enter Try.func37, Try.ntmps37
  go_wp2_with fail
  refine (iCodeValid_any _ _ _ c _ (hr.below hbx)).mono ?_
  rintro e w1 ⟨rfl, hb⟩
  have b0 : w1.cell? ⟨w.heap.size, 0, none⟩ = some (.slice a0 c.vars.length c0) := kept_cell hb (cell_nw (by simp) (by rfl))
  have b1 : w1.cell? ⟨w.heap.size, 1, none⟩ = some (.slice a1 c.arrays.length c1) := kept_cell hb (cell_nw (by simp) (by rfl))
  have b2 : w1.cell? ⟨w.heap.size, 2, none⟩ = some (.slice a2 c.list.length c2) := kept_cell hb (cell_nw (by simp) (by rfl))
  have k2 := lt_of_cell b2
  replace hbx := btr hbx hb
  clear hb hr
  cases hok : codeOk c with
  | false =>
    have HO := Lib.hid hok; clear hok
    go_wp2
    go_ret
    exact ⟨ret_int (HN.out HO.out).symm, hbx⟩
  | true =>
    have HO := Lib.hid hok; clear hok
    go_wp2_with fail
    refine (HL.out _ hbx HO.out).mono ?_
    rintro e w2 ⟨u, rfl, ho, hb⟩
    obtain ⟨ua, uc, rfl⟩ := own_shape ho
    go_wp2
    go_ret
    exact ⟨ret_int (by rw [HY.out HO.out, HC.out HO.out]), btr hbx hb⟩

set_option maxHeartbeats 6400000 in
set_option maxRecDepth 100000 in
theorem sRegsUsed_any (va vb vc : Value) (c : Cd) (w : World) (hr : ReadsC w va vb vc c) :
    Calls Try.prog 36 #[.agg #[va, vb, vc]] w fun e w' => e = .returned (.int .i64 (regsUsed c)) ∧ Below w.heap.size w w' := by
  obtain ⟨a0, c0, a1, c1, a2, c2, rfl, rfl, rfl⟩ := hr.shape
  have HN := Lib.hid (fun h => regsUsed_no (c := c) h)
  have HY := Lib.hid (fun h => regsUsed_yes (c := c) h)
  generalize regsUsed c = D at *
  have hbx := bal (bself w) (.cells #[.slice a0 c.vars.length c0, .slice a1 c.arrays.length c1, .slice a2 c.list.length c2] 50)
  go_enter Try.func36, Try.ntmps36
  go_wp2_with fail
  refine (sCodeValid_any _ _ _ c _ (hr.below hbx)).mono ?_
  rintro e w1 ⟨rfl, hb⟩
  have b0 : w1.cell? ⟨w.heap.size, 0, none⟩ = some (.slice a0 c.vars.length c0) := kept_cell hb (cell_nw (by simp) (by rfl))
  have b1 : w1.cell? ⟨w.heap.size, 1, none⟩ = some (.slice a1 c.arrays.length c1) := kept_cell hb (cell_nw (by simp) (by rfl))
  have b2 : w1.cell? ⟨w.heap.size, 2, none⟩ = some (.slice a2 c.list.length c2) := kept_cell hb (cell_nw (by simp) (by rfl))
  have k2 := lt_of_cell b2
  replace hbx := btr hbx hb
  clear hb
  cases hok : codeOk c with
  | false =>
    have HO := Lib.hid hok; clear hok
    go_wp2
    go_ret
    exact ⟨ret_int (HN.out HO.out).symm, hbx⟩
  | true =>
    have HO := Lib.hid hok; clear hok
    obtain ⟨hl1, hl2⟩ := codeOk_len HO.out
    have hmk := fun u => mk_bool14 u
    obtain ⟨b9, off9, hb9a, hb9, HCC⟩ : ∃ b' off, a2 = some ⟨b', off, none⟩ ∧ b' < w.heap.size ∧ Hid (∀ k (h : k < c.list.length), w.cell? ⟨b', off + k * 5, none⟩ = some (.int .i64 c.list[k].op) ∧ w.cell? ⟨b', off + k * 5 + 1, none⟩ = some (.int .i64 c.list[k].a) ∧ w.cell? ⟨b', off + k * 5 + 2, none⟩ = some (.int .i64 c.list[k].b) ∧ w.cell? ⟨b', off + k * 5 + 3, none⟩ = some (.int .i64 c.list[k].c) ∧ w.cell? ⟨b', off + k * 5 + 4, none⟩ = some (.int .i64 c.list[k].d)) := by
      obtain ⟨_, hn', aa, cap', b', off, hvv, hcap, ha, hca⟩ := hr.l
      simp only [Value.slice.injEq, true_and] at hvv
      obtain ⟨rfl, rfl⟩ := hvv
      obtain ⟨rfl, hbs⟩ := ha (by omega)
      exact ⟨b', off, rfl, hbs, Lib.hid (reads_Instr hca)⟩
    subst hb9a
    have hown := own_made w1 (.bool false) 14 4 (by unfold maxLen; omega)
    rw [← bools_replicate, tab_false] at hown
    have hbz := hbx.size
    clear hr
    go_wp2_with fail
    go_loopw [4, 5] (fun nv t wr => ∃ i : Nat, i ≤ c.list.length ∧ t = .int .i64 i ∧ nv = .int .i64 (cntF (usd (c.list.take i)) : Nat) ∧ wr.ownsRow w1.heap.size 4 1 (.slice (some ⟨w1.heap.size, 0, none⟩) 14 14) 14 (bools (tab (usd (c.list.take i)))) ∧ Below w1.heap.size w1 wr) (fun _ t _ => c.list.length - (intOf t).toNat)
    case atStart => exact ⟨0, Nat.zero_le _, rfl, by rw [show cntF (usd (c.list.take 0)) = 0 from by rw [cntF_congr (G := fun _ => false) (fun q _ => by simp [usd])]; exact cntF_none]; rfl, by rw [tab_congr (f := usd (c.list.take 0)) (g := fun _ => false) (fun q _ => by simp [usd])]; exact hown, bal (bself w1) _⟩
    case round =>
      obtain ⟨i, hi, rfl, rfl, ho, hbel⟩ := hrel
      obtain ⟨wO, rfl⟩ : ∃ X, X = wr := ⟨_, rfl⟩
      clear hown hmk
      have hbw := btr hbx hbel
      have hzo := hbel.size
      have hlo := ho.lt _ rfl
      have n2 := kept_cell hbel b2
      have kn := lt_of_cell n2
      by_cases hlt : i < c.list.length
      · obtain ⟨e0, e1, e2, e3, e4⟩ := HCC.out i hlt
        replace e0 := kept_cell hbw e0; replace e1 := kept_cell hbw e1; replace e2 := kept_cell hbw e2; replace e3 := kept_cell hbw e3; replace e4 := kept_cell hbw e4
        have ke := lt_of_cell e0
        have hin := codeOk_all HO.out i hlt
        have hop := insOk_op hin
        have hkn := fun p hp => knl_in hin p hp
        have hus := fun q => usd_succ c.list i hlt q
        have hc14 := cntF_le (usd (c.list.take i))
        have hq : (i : Int) < (c.list.length : Int) := by omega
        generalize hF2 : usd (c.list.take (i + 1)) = F2 at *
        have HF2 := Lib.hid hF2; clear hF2
        generalize usd (c.list.take i) = F1 at *
        generalize c.list[i] = x at *
        clear hin
        go_wp2_with fail
        refine (l12Regs_any x _ (by omega) hkn).mono ?_
        rintro e w3 ⟨g1, g2, rfl, o1, o2, h12, hb3⟩
        have i1 := o1.lt g1 rfl
        have i2 := o2.lt g2 rfl
        have HUS := Lib.hid hus
        replace ho := own_below ho hb3
        have hb4 := btr hbel hb3
        clear hus hkn e0 e1 e2 e3 e4 ke n2 kn hb3
        go_wp2_with fail
        go_loopw [4, 8] (fun nv t wy => ∃ r : Nat, r ≤ 14 ∧ t = .int .i64 r ∧ nv = .int .i64 (cntF (fun q => if q < r then F2 q else F1 q) : Nat) ∧ wy.ownsRow w1.heap.size 4 1 (.slice (some ⟨w1.heap.size, 0, none⟩) 14 14) 14 (bools (tab (fun q => if q < r then F2 q else F1 q))) ∧ Chg (fun q => q = w1.heap.size) w3 wy) (fun _ t _ => 14 - (intOf t).toNat)
        case atStart => exact ⟨0, Nat.zero_le _, rfl, by simp, by simpa using ho, Chg.refl _ _⟩
        case round =>
          obtain ⟨r, hrl, rfl, rfl, hy, hC⟩ := hrel
          clear ho
          by_cases hlr : r < 14
          · have h0 := own_tab_at hy r hlr
            simp only [Nat.lt_irrefl, if_false] at h0
            have c1' := chg_cell hC (own_tab_at o1 r hlr) (by omega)
            have c2' := chg_cell hC (own_tab_at o2 r hlr) (by omega)
            have k1 := lt_of_cell c1'
            have hf := hy.frozenAt r
            have hcl := cntF_le (fun q => if q < r then F2 q else F1 q)
            have hstep : ∀ q, q < 14 → (if q = r then F2 r else if q < r then F2 q else F1 q) = (if q < r + 1 then F2 q else F1 q) := fun q hq => by
              by_cases e : q = r
              · subst e; rw [if_pos rfl, if_pos (by omega)]
              · rw [if_neg e]; by_cases e2 : q < r
                · rw [if_pos e2, if_pos (by omega)]
                · rw [if_neg e2, if_neg (by omega)]
            have hsame : F2 r = F1 r → (∀ q, q < 14 → (if q < r then F2 q else F1 q) = (if q < r + 1 then F2 q else F1 q)) := fun h q hq => by
              rw [← hstep q hq]
              by_cases e : q = r
              · subst e; rw [if_pos rfl, if_neg (by omega), h]
              · rw [if_neg e]
            have hset := fun (h : F2 r = true) => own_tab_set hy r true (G := fun q => if q < r + 1 then F2 q else F1 q) (fun q hq => by have h2 := hstep q hq; rw [h] at h2; exact h2)
            have hcs := fun (h1 : F1 r = false) (h : F2 r = true) => cntF_set (F := fun q => if q < r then F2 q else F1 q) (G := fun q => if q < r + 1 then F2 q else F1 q) r hlr (by simp only [Nat.lt_irrefl, if_false]; exact h1) (fun q hq => by have h2 := hstep q hq; rw [h] at h2; exact h2)
            have hcc := fun (h : F2 r = F1 r) => cntF_congr (hsame h)
            have htt := fun (h : F2 r = F1 r) => tab_congr (hsame h)
            have hus := HUS.out r
            have hC2 := hC.setCell w1.heap.size r (.bool true) (fun _ => rfl)
            have HST := Lib.hid (And.intro hset (And.intro hcs (And.intro hcc htt)))
            have HU := Lib.hid hus
            generalize hn : cntF (fun q => if q < r then F2 q else F1 q) = n at *
            have HNN := Lib.hid hn
            clear hset hcs hcc htt hstep hsame hus hn
            generalize hu1 : F1 r = u1 at *
            generalize ((use x).any (fun u => u == (r : Int))) = y1 at *
            generalize (wrt x == (r : Int)) = y2 at *
            clear hu1
            cases y1 <;> cases y2 <;> cases u1
            · have hfr : Hid (F2 r = false) := Lib.hid (by rw [HU.out]; rfl)
              have hn2 := HST.out.2.2.1 hfr.out
              have hy2 := hy
              rw [HST.out.2.2.2 hfr.out] at hy2
              have HN2 := Lib.hid hn2
              clear hn2 hy hfr hC2
              go_wp2
              go_roundw
              case rel => exact ⟨r + 1, by omega, by go_num, by rw [← HN2.out], hy2, hC⟩
              case measure => simp [intOf]; omega
            · have hfr : Hid (F2 r = true) := Lib.hid (by rw [HU.out]; rfl)
              have hn2 := HST.out.2.2.1 hfr.out
              have hy2 := hy
              rw [HST.out.2.2.2 hfr.out] at hy2
              have HN2 := Lib.hid hn2
              clear hn2 hy hfr hC2
              go_wp2
              go_roundw
              case rel => exact ⟨r + 1, by omega, by go_num, by rw [← HN2.out], hy2, hC⟩
              case measure => simp [intOf]; omega
            · have hfr : Hid (F2 r = true) := Lib.hid (by rw [HU.out]; rfl)
              have hn2 := HST.out.2.1 rfl hfr.out
              have hy2 := HST.out.1 hfr.out
              have HN2 := Lib.hid hn2
              clear hn2 hy hfr hC
              go_wp2
              go_roundw
              case rel => exact ⟨r + 1, by omega, by go_num, by rw [HN2.out]; go_num, hy2, hC2⟩
              case measure => simp [intOf]; omega
            · have hfr : Hid (F2 r = true) := Lib.hid (by rw [HU.out]; rfl)
              have hn2 := HST.out.2.2.1 hfr.out
              have hy2 := hy
              rw [HST.out.2.2.2 hfr.out] at hy2
              have HN2 := Lib.hid hn2
              clear hn2 hy hfr hC2
              go_wp2
              go_roundw
              case rel => exact ⟨r + 1, by omega, by go_num, by rw [← HN2.out], hy2, hC⟩
              case measure => simp [intOf]; omega
            · have hfr : Hid (F2 r = true) := Lib.hid (by rw [HU.out]; rfl)
              have hn2 := HST.out.2.1 rfl hfr.out
              have hy2 := HST.out.1 hfr.out
              have HN2 := Lib.hid hn2
              clear hn2 hy hfr hC
              go_wp2
              go_roundw
              case rel => exact ⟨r + 1, by omega, by go_num, by rw [HN2.out]; go_num, hy2, hC2⟩
              case measure => simp [intOf]; omega
            · have hfr : Hid (F2 r = true) := Lib.hid (by rw [HU.out]; rfl)
              have hn2 := HST.out.2.2.1 hfr.out
              have hy2 := hy
              rw [HST.out.2.2.2 hfr.out] at hy2
              have HN2 := Lib.hid hn2
              clear hn2 hy hfr hC2
              go_wp2
              go_roundw
              case rel => exact ⟨r + 1, by omega, by go_num, by rw [← HN2.out], hy2, hC⟩
              case measure => simp [intOf]; omega
            · have hfr : Hid (F2 r = true) := Lib.hid (by rw [HU.out]; rfl)
              have hn2 := HST.out.2.1 rfl hfr.out
              have hy2 := HST.out.1 hfr.out
              have HN2 := Lib.hid hn2
              clear hn2 hy hfr hC
              go_wp2
              go_roundw
              case rel => exact ⟨r + 1, by omega, by go_num, by rw [HN2.out]; go_num, hy2, hC2⟩
              case measure => simp [intOf]; omega
            · have hfr : Hid (F2 r = true) := Lib.hid (by rw [HU.out]; rfl)
              have hn2 := HST.out.2.2.1 hfr.out
              have hy2 := hy
              rw [HST.out.2.2.2 hfr.out] at hy2
              have HN2 := Lib.hid hn2
              clear hn2 hy hfr hC2
              go_wp2
              go_roundw
              case rel => exact ⟨r + 1, by omega, by go_num, by rw [← HN2.out], hy2, hC⟩
              case measure => simp [intOf]; omega
          · have e : r = 14 := by omega
            subst e
            have h1 := tab_congr (f := fun q => if q < 14 then F2 q else F1 q) (g := F2) (fun q hq => if_pos hq)
            have h2 := cntF_congr (F := fun q => if q < 14 then F2 q else F1 q) (G := F2) (fun q hq => if_pos hq)
            rw [h1] at hy
            rw [h2]
            have hbf := hb4.trans (hC.below w1.heap.size hb4.size (fun q hq h => by omega))
            clear h1 h2
            go_wp2
            go_roundw
            case rel => exact ⟨i + 1, by omega, by go_num, by rw [HF2.out], by rw [HF2.out]; exact hy, hbf⟩
            case measure => simp [intOf]; omega
      · have e : i = c.list.length := by omega
        subst e
        go_wp2
        go_ret
        exact ⟨ret_int (by rw [HY.out HO.out]), hbw⟩
end Go.Proofs.Ytkbbpnfhenoihaa
