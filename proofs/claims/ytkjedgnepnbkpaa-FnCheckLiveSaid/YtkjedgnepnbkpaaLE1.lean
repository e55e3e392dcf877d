/-
 Parts of the proofs of the laws FnCheckLive, FnFinalRegs, FnLiveRegister, FnLiveRegs.
-/
import Derived.Test.YtkjedgnepnbkpaaLB
set_option linter.all false
namespace Go.Proofs.Ytkjedgnepnbkpaa
open Go.RowKit

set_option maxHeartbeats 12800000 in
set_option maxRecDepth 100000 in
theorem live_any (va vb vc : Value) (c : Cd) (w : World) (hr : ReadsC w va vb vc c) (hok : codeOk c = true) :
  Calls Try.prog 78 #[.agg #[va, vb, vc]] w fun e w' => ∃ u us, e = .returned u ∧ Own2B w' w.heap.size u us (liveOf c) ∧ Below w.heap.size w w' := by
 obtain ⟨a0, c0, a1, c1, a2, c2, rfl, rfl, rfl⟩ := hr.shape
 obtain ⟨hl1, hl2⟩ := codeOk_len hok
 have hall := codeOk_all hok
 have hmk14 := fun u => mk_bool14 u
 obtain ⟨w1, hw1⟩ : ∃ X, X = w.alloc (.cells #[.slice a0 c.vars.length c0, .slice a1 c.arrays.length c1, .slice a2 c.list.length c2] 26) := ⟨_, rfl⟩
 have b0 : w1.cell? ⟨w.heap.size, 0, none⟩ = some (.slice a0 c.vars.length c0) := by rw [hw1]; exact Wc rfl rfl
 have b1 : w1.cell? ⟨w.heap.size, 1, none⟩ = some (.slice a1 c.arrays.length c1) := by rw [hw1]; exact Wc rfl rfl
 have b2 : w1.cell? ⟨w.heap.size, 2, none⟩ = some (.slice a2 c.list.length c2) := by rw [hw1]; exact Wc rfl rfl
 have hb1 : Below w.heap.size w w1 := by rw [hw1]; exact bal (Bs w) _
 have hz1 : w1.heap.size = w.heap.size + 1 := by rw [hw1]; simp
 have k2 := Lc b2
 have HW := Lib.hid hw1
 have HZ := Lib.hid hz1
 clear hw1 hz1
 have HRC := Lib.hid (fun W (hW : Below w1.heap.size w1 W) => hr.below (btr hb1 hW))
 have HB := Lib.hid (fun (v : Value) (L : List (List Bool)) (i : Nat) (hi : i < c.list.length) W (hW : Below w1.heap.size w1 W) (hv : Reads2 bools W v L) (hL : L.length = c.list.length) (hrow : ∀ k (h : k < L.length), L[k].length = 14) => liveBefore_any _ _ _ v c L i W (hr.below (btr hb1 hW)) hv hL hrow hok hi)
 have hmk := mk_boolS c.list.length (by omega)
 have hown := own_made w1 (.slice none 0 0) c.list.length 66 (by unfold maxLen; omega)
 have hown2 : Own2B (w1.alloc (.cells (madeCells #[.slice none 0 0] c.list.length) 66)) w1.heap.size (.slice (some ⟨w1.heap.size, 0, none⟩) c.list.length c.list.length) (List.replicate c.list.length (.slice none 0 0)) ((zeroL c).take 0 ++ List.replicate (c.list.length - 0) []) := by
  have h := own2_nils (f := bools) (tr := 4) (rs := (zeroL c).take 0 ++ List.replicate (c.list.length - 0) []) (by simp [bools]) (by simpa using hown) (fun k r hr => by simp [List.getElem?_replicate] at hr; exact hr.2.symm ▸ rfl)
  simpa using h
 have hzl : (zeroL c).length = c.list.length := by simp [zeroL]
 have HZL := Lib.hid hzl
 clear hown hzl hr
 go_enter Try.func78, Try.ntmps78
 go_upto_region 1 with (fail)
 rw [← HW.out]
 clear HW
 go_wp2_with fail
 go_loopw [14] (fun t wr => ∃ k : Nat, k ≤ c.list.length ∧ t = .int .i64 k ∧ (∃ us, Own2B wr w1.heap.size (.slice (some ⟨w1.heap.size, 0, none⟩) c.list.length c.list.length) us ((zeroL c).take k ++ List.replicate (c.list.length - k) [])) ∧ Below w1.heap.size w1 wr) (fun t _ => c.list.length - (intOf t).toNat)
 case atStart => exact ⟨0, Nat.zero_le _, rfl, ⟨_, hown2⟩, bal (Bs w1) _⟩
 case round =>
  obtain ⟨k, hk, rfl, ⟨us, ho⟩, hbel⟩ := hrel
  clear hown2
  by_cases hlt : k < c.list.length
  ·have hl2 : k < ((zeroL c).take k ++ List.replicate (c.list.length - k) ([] : List Bool)).length := by have := HZL.out; simp; omega
   have hst := set_next (zeroL c) ([] : List Bool) k (by rw [HZL.out]; exact hlt)
   have hge : (zeroL c)[k]'(by rw [HZL.out]; exact hlt) = tab (fun _ => false) := by simp [zeroL]
   rw [hge, HZL.out] at hst
   have hbz := hbel.size
   have o1 := own_made wr (.bool false) 14 4 (by unfold maxLen; omega)
   rw [← bools_replicate, tab_false] at o1
   have ho2 := ho.below (bal (Bs wr) (.cells (madeCells #[.bool false] 14) 4))
   have hlt2 := ho.lt
   obtain ⟨x, hx, _⟩ := ho2.rowAt k hl2
   have hcell : (wr.alloc (.cells (madeCells #[.bool false] 14) 4)).cell? ⟨w1.heap.size, k, none⟩ = some x := by rw [ho2.outAt.cellAt k (by omega)]; exact hx
   have hf := ho2.outAt.frozenAt k
   have ho3 := ho2.put (r := tab (fun _ => false)) (u := .slice (some ⟨wr.heap.size, 0, none⟩) 14 14) rfl hl2 (by rw [tab_len]; exact Om o1 (by omega)) (fun q h h2 => by have e : wr.heap.size = q := Option.some.inj h; have := hlt2 q h2; omega) (by decide)
   rw [hst] at ho3
   have hb3 := bst (bal hbel (.cells (madeCells #[.bool false] 14) 4)) w1.heap.size k (by omega) (.slice (some ⟨wr.heap.size, 0, none⟩) 14 14)
   clear ho o1 ho2 hbel hst hge hmk
   go_wp2
   go_roundw
   case rel => exact ⟨k + 1, by omega, by go_num, ⟨_, ho3⟩, hb3⟩
   case measure => simp [intOf]; omega
  ·have e : k = c.list.length := by omega
   subst e
   rw [List.take_of_length_le (by rw [HZL.out]; omega), Nat.sub_self, List.replicate_zero, List.append_nil] at ho
   obtain ⟨w2, rfl⟩ : ∃ X, X = wr := ⟨_, rfl⟩
   obtain ⟨OUT, hOUT⟩ : ∃ X : Value, X = .slice (some ⟨w1.heap.size, 0, none⟩) c.list.length c.list.length := ⟨_, rfl⟩
   have HOUT := Lib.hid hOUT
   clear hlt hmk hOUT hk
   go_wp2_with fail
   go_loopg [5] (28 * c.list.length + 1) (fun gk ch wr => ∃ us L, Own2B wr w1.heap.size (.slice (some ⟨w1.heap.size, 0, none⟩) c.list.length c.list.length) us L ∧ Hid (InvL c L) ∧ ∃ (cb : Bool) (m : Nat), ch = .bool cb ∧ Hid (L = swps c m ∧ (cb = true → m + offs L ≤ 14 * c.list.length) ∧ (cb = false → swp c L = L ∧ m ≤ 14 * c.list.length) ∧ gk = 2 * offs L + (if cb then 1 else 0)) ∧ Below w1.heap.size w1 wr)
   case atStart => exact ⟨_, _, ho, Lib.hid (zero_inv c), true, 0, rfl, Lib.hid ⟨rfl, fun _ => by rw [zero_offs]; omega, fun h => (by cases h), by rw [zero_offs]; simp; omega⟩, hbel⟩
   case round =>
    obtain ⟨us, L, hoL, HI, cb, m, rfl, HM, hbw⟩ := hrel
    clear ho hbel
    cases cb with
    | false =>
     obtain ⟨hm1, _, hm3, _⟩ := HM.out
     obtain ⟨hm4, hm5⟩ := hm3 (by trivial)
     have hfin : L = liveOf c := by rw [hm1]; exact liveOf_of (by rw [← hm1]; exact hm4) hm5
     have HF := Lib.hid hfin
     clear HM hm1 hm3 hm4 hfin
     go_wp2_with fail
     go_ret
     exact ⟨_, _, rfl, by rw [← HF.out]; exact hoL.mono (by omega), btr hb1 hbw⟩
    | true =>
     have c2o := Kc hbw b2
     have kc2o := Lc c2o
     go_wp2_with fail
     clear c2o kc2o
     go_loopw [5, 6] (fun ch it wx => ∃ k : Nat, k ≤ c.list.length ∧ it = .int .i64 ((k : Int) - 1) ∧ ∃ us' M, Own2B wx w1.heap.size (.slice (some ⟨w1.heap.size, 0, none⟩) c.list.length c.list.length) us' M ∧ Hid (InvL c M) ∧ ∃ cb : Bool, ch = .bool cb ∧ Hid (swpTo c k M = swp c L ∧ (cb = false → M = L) ∧ (cb = true → offs M < offs L)) ∧ Below w1.heap.size w1 wx) (fun _ it _ => (intOf it + 1).toNat)
     case atStart => exact ⟨c.list.length, Nat.le_refl _, rfl, _, _, hoL, HI, false, rfl, Lib.hid ⟨rfl, fun _ => rfl, fun h => by cases h⟩, hbw⟩
     case round =>
      obtain ⟨k, hk, hit, us', M, hoM, HJ, cb, rfl, HS, hbx⟩ := hrel
      clear hoL
      rcases Nat.eq_zero_or_pos k with rfl | hpos
      ·rw [show ((0 : Nat) : Int) - 1 = -1 from rfl] at hit
       subst hit
       obtain ⟨s1, s2, s3⟩ := HS.out
       obtain ⟨m1, m2, _, m4⟩ := HM.out
       have m5 := m2 (by trivial)
       have hsw : M = swp c L := s1
       clear s1 HS HM
       cases cb with
       | false =>
        have e := s2 (by trivial)
        subst e
        have HK := Lib.hid (And.intro m1 (And.intro m5 (And.intro hsw m4)))
        clear s2 s3 hsw m1 m2 m4 m5
        go_wp2_with fail
        go_roundg (2 * offs M)
        case measure => have := HK.out.2.2.2; simp at this; omega
        case rel => exact ⟨_, _, hoM, HJ, false, m, rfl, Lib.hid ⟨HK.out.1, fun h => (by cases h), fun _ => ⟨HK.out.2.2.1.symm, by have := HK.out.2.1; omega⟩, by simp⟩, hbx⟩
       | true =>
        have hlt := s3 (by trivial)
        have HK := Lib.hid (And.intro m1 (And.intro m5 (And.intro hsw (And.intro m4 hlt))))
        clear s2 s3 hsw m1 m2 m4 m5 hlt
        go_wp2_with fail
        go_roundg (2 * offs M + 1)
        case measure => have h1 := HK.out.2.2.2.1; have h2 := HK.out.2.2.2.2; simp at h1; omega
        case rel => exact ⟨_, _, hoM, HJ, true, m + 1, rfl, Lib.hid ⟨by rw [swps, ← HK.out.1]; exact HK.out.2.2.1, fun _ => by have h1 := HK.out.2.1; have h2 := HK.out.2.2.2.2; omega, fun h => (by cases h), by simp⟩, hbx⟩
      ·obtain ⟨j, rfl⟩ : ∃ j, k = j + 1 := ⟨k - 1, by omega⟩
       rw [show ((j + 1 : Nat) : Int) - 1 = (j : Int) from by omega] at hit
       subst hit
       have hj : j < c.list.length := by omega
       have hlM := HJ.out.len
       have hjM : j < M.length := by omega
       have hrows := HJ.out.rows
       have hrd := hoM.reads (by omega) (fun k r hkr => by obtain ⟨h1, rfl⟩ := List.getElem?_eq_some_iff.1 hkr; rw [hrows k h1]; omega)
       have hj14 : M[j].length ≤ 14 := by rw [hrows j hjM]; omega
       have HBB := Lib.hid (HB.out _ M j hj _ hbx hrd hlM hrows)
       have HLM := Lib.hid hlM
       have HRM := Lib.hid hrows
       have c0' := Kc hbx b0
       have c1' := Kc hbx b1
       have c2' := Kc hbx b2
       have kc2 := Lc c2'
       clear hpos hrd hlM hrows HB
       go_wp2_with fail
       refine HBB.out.mono ?_
       rintro e w3 ⟨g3, rfl, o3, hb3⟩
       have hz3 := hb3.size
       have hzx := hbx.size
       have hi3 := o3.lt g3 rfl
       have hoM3 := hoM.below hb3
       have hiM := hoM.lt
       have hbx3 := btr hbx hb3
       obtain ⟨u, hu, huo⟩ := hoM3.rowAt j hjM
       have hcell : w3.cell? ⟨w1.heap.size, j, none⟩ = some u := by rw [hoM3.outAt.cellAt j (by omega)]; exact hu
       have hf := hoM3.outAt.frozenAt j
       have hru := Ro huo (by omega)
       have hr3 := Ro o3 (by omega)
       have HB14 : Hid ((befAt c M j).length = 14) := Lib.hid (befAt_len hj)
       obtain ⟨pa, pc, rfl⟩ := Oh huo
       have kc := Lc hcell
       have kc3 := Lc (Kc hb3 c2')
       have HEQ := Lib.hid (fun h => equalB_any (.slice (some ⟨g3, 0, none⟩) 14 14) (.slice pa M[j].length pc) (befAt c M j) M[j] w3 h hru)
       have HEQ2 := Lib.hid (HEQ.out (by rw [HB14.out]; exact hr3))
       clear HBB hru hr3 huo HEQ
       go_wp2_with fail
       refine HEQ2.out.mono ?_
       rintro e w4 ⟨rfl, hb4⟩
       have hz4 := hb4.size
       have hbx4 := btr hbx3 hb4
       have hoM4 := hoM3.below hb4
       have hcell4 := Kc hb4 hcell
       have hf4 := Kf hb4 kc hf
       have o4 := Ob o3 hb4
       clear HEQ2 hoM hoM3 hcell hf
       by_cases heq : befAt c M j = M[j]
       ·rw [decide_eq_true heq]
        have hset := set_self hjM heq
        have hsw := swpTo_step c j M
        rw [hset] at hsw
        have HS2 := Lib.hid (And.intro (hsw.symm.trans HS.out.1) HS.out.2)
        clear heq hset hsw HS o3 o4
        go_wp2
        go_roundw
        case rel => exact ⟨j, by omega, by go_num, _, _, hoM4, HJ, cb, rfl, Lib.hid HS2.out, hbx4⟩
        case measure => simp [intOf]
       ·rw [decide_eq_false heq]
        have hup := (up_offs HJ.out j hjM).2 heq
        have hinv := up_inv HJ.out j hjM
        have hsw := swpTo_step c j M
        have hofs : offs (M.set j (befAt c M j)) < offs L := by
         cases cb with
         | false => rw [← HS.out.2.1 (by trivial)]; exact hup
         | true => exact Nat.lt_trans hup (HS.out.2.2 (by trivial))
        have HS2 := Lib.hid (And.intro (hsw.symm.trans HS.out.1) hofs)
        have HJ2 := Lib.hid hinv
        have ho5 := hoM4.put (r := befAt c M j) (u := .slice (some ⟨g3, 0, none⟩) 14 14) rfl hjM (by rw [HB14.out]; exact Om o4 (by omega)) (fun q h h2 => by have e : g3 = q := Option.some.inj h; have := hiM q h2; omega) (by decide)
        have hb5 := bst hbx4 (w1.heap.size) j (by omega) (.slice (some ⟨g3, 0, none⟩) 14 14)
        clear heq hup hinv hsw hofs HS o3 o4 hoM4 HJ hbx4
        go_wp2
        go_roundw
        case rel => exact ⟨j, by omega, by go_num, _, _, ho5, HJ2, true, rfl, Lib.hid ⟨HS2.out.1, fun h => (by cases h), fun _ => HS2.out.2⟩, hb5⟩
        case measure => simp [intOf]
end Go.Proofs.Ytkjedgnepnbkpaa
