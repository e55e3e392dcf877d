/-
 Parts of the proofs of the laws FnCheckLive, FnFinalRegs, FnLiveRegister, FnLiveRegs.
-/
import Derived.Test.YtkjedgnepnbkpaaZ
import Derived.Test.YtkjedgnepnbkpaaLE1
import Derived.Test.YtkjedgnepnbkpaaLC
set_option linter.all false
namespace Go.Proofs.Ytkjedgnepnbkpaa
open Go.RowKit

set_option maxHeartbeats 12800000 in
set_option maxRecDepth 100000 in
theorem l12Live_any (va vb vc : Value) (c : Cd) (w : World) (hr : ReadsC w va vb vc c) (hok : codeOk c = true) :
  Calls Try.prog 80 #[.agg #[va, vb, vc]] w fun e w' => ∃ u us, e = .returned u ∧ Own2B w' w.heap.size u us (liveOf c) ∧ Below w.heap.size w w' := by
 obtain ⟨a0, c0, a1, c1, a2, c2, rfl, rfl, rfl⟩ := hr.shape
 obtain ⟨hl1, hl2⟩ := codeOk_len hok
 have hall := codeOk_all hok
 have hmk14 := fun u => mk_bool14 u
 obtain ⟨w1, hw1⟩ : ∃ X, X = w.alloc (.cells #[.slice a0 c.vars.length c0, .slice a1 c.arrays.length c1, .slice a2 c.list.length c2] 26) := ⟨_, rfl⟩
 have b0 : w1.cell? ⟨w.heap.size, 0, none⟩ = some (.slice a0 c.vars.length c0) := by rw [hw1]; exact Wc rfl rfl
 have b1 : w1.cell? ⟨w.heap.size, 1, none⟩ = some (.slice a1 c.arrays.length c1) := by rw [hw1]; exact Wc rfl rfl
 have b2 : w1.cell? ⟨w.heap.size, 2, none⟩ = some (.slice a2 c.list.length c2) := by rw [hw1]; exact Wc rfl rfl
 have hb1 : Below w.heap.size w w1 := by rw [hw1]; exact bal (Bs w) _
 have hz1 : w1.heap.size = w.heap.size + 1 := by rw [hw1]; simp
 have k2 := Lc b2
 have HW := Lib.hid hw1
 have HZ := Lib.hid hz1
 clear hw1 hz1
 have HRC := Lib.hid (fun W (hW : Below w1.heap.size w1 W) => hr.below (btr hb1 hW))
 have hcc := hr.l
 obtain ⟨_, hn', aa, cap', b', off, hvv, hcap, ha, hca⟩ := hcc
 simp only [Value.slice.injEq, true_and] at hvv
 obtain ⟨rfl, rfl⟩ := hvv
 obtain ⟨rfl, hbs⟩ := ha (by omega)
 have HCC := Lib.hid (reads_Instr hca)
 have HAF := Lib.hid (fun (v : Value) (L : List (List Bool)) (i : Nat) (hi : i < c.list.length) W (hW : Below w1.heap.size w1 W) (hv : Reads2 bools W v L) (hL : L.length = c.list.length) (hrow : ∀ k (h : k < L.length), L[k].length = 14) => l12After_any _ _ _ v c L i W (hr.below (btr hb1 hW)) hv hL hrow hok hi)
 have HBE := Lib.hid (fun (v : Value) (A : Nat → Bool) (i : Nat) (hi : i < c.list.length) W (hv : Reads W 1 v 14 (bools (tab A))) => l12Before_any c.list[i] v A W (by have h := insOk_op (codeOk_all hok i hi); omega) (fun p hp => knl_in (codeOk_all hok i hi) p hp) hv)
 have onil := own_lit w1 #[] 0 66 rfl (by omega)
 have hown2 : Own2B (w1.alloc (.cells #[] 66)) w1.heap.size (.slice (some ⟨w1.heap.size, 0, none⟩) 0 0) [] (List.replicate 0 (tab (fun _ => false))) := ⟨rfl, onil, fun k u r h => by simp at h, fun j k u u' h => by simp at h⟩
 clear hr hca ha onil
 go_enter Try.func80, Try.ntmps80
 go_upto_region 1 with (fail)
 rw [← HW.out]
 clear HW
 go_wp2_with fail
 go_loopw [3, 4] (fun lv t wr => ∃ k : Nat, k ≤ c.list.length ∧ t = .int .i64 k ∧ (∃ us g cp, lv = .slice (some ⟨g, 0, none⟩) k cp ∧ Own2B wr w1.heap.size (.slice (some ⟨g, 0, none⟩) k cp) us (List.replicate k (tab (fun _ => false)))) ∧ Below w1.heap.size w1 wr) (fun _ t _ => c.list.length - (intOf t).toNat)
 case atStart => exact ⟨0, Nat.zero_le _, rfl, ⟨_, _, _, rfl, hown2⟩, bal (Bs w1) _⟩
 case round =>
  obtain ⟨k, hk, rfl, ⟨us, g, cp, rfl, ho⟩, hbel⟩ := hrel
  clear hown2
  have c2' := Kc hbel b2
  have kc2 := Lc c2'
  have hbz := hbel.size
  by_cases hlt : k < c.list.length
  ·have o1 := own_made wr (.bool false) 14 4 (by unfold maxLen; omega)
   rw [← bools_replicate, tab_false] at o1
   have ho2 := ho.below (bal (Bs wr) (.cells (madeCells #[.bool false] 14) 4))
   have hlt2 := ho.lt
   have hsrc := reads_new (wr.alloc (.cells (madeCells #[.bool false] 14) 4)) [.slice (some ⟨wr.heap.size, 0, none⟩) 14 14] 66 1 rfl
   simp only [Sa] at hsrc
   have ho3 := ho2.below (bal (Bs _) (.cells #[.slice (some ⟨wr.heap.size, 0, none⟩) 14 14] 66))
   have o3 := Ob o1 (bal (Bs _) (.cells #[.slice (some ⟨wr.heap.size, 0, none⟩) 14 14] 66))
   have hout := ho3.outAt
   go_wp2_with (at_builtin; refine wpList_aps tBoolSS rfl _ _ rfl w1.heap.size _ k _ rfl hout _ 1 [.slice (some ⟨wr.heap.size, 0, none⟩) 14 14] rfl hsrc (by intro u hu; simp at hu; subst hu; rfl) (by omega) (by simp; omega) ?_)
   intro v' wx ho' hc' hg' _
   obtain ⟨g', cp', rfl⟩ := own_pos ho' (by omega)
   have hp := ho3.push (u := .slice (some ⟨wr.heap.size, 0, none⟩) 14 14) (r := tab (fun _ => false)) (by rw [List.length_replicate]; exact ho') hc' (by rw [tab_len]; exact Om o3 (by omega)) (fun q h h2 => by have e : wr.heap.size = q := Option.some.inj h; have := hlt2 q h2; omega) (by decide)
   rw [← List.replicate_succ'] at hp
   have hb2 := (bal (bal hbel (.cells (madeCells #[.bool false] 14) 4)) (.cells #[.slice (some ⟨wr.heap.size, 0, none⟩) 14 14] 66)).trans (hc'.below w1.heap.size (by simp; omega) (fun q hq h => by have := hlt2 q (Or.inl h); omega))
   clear ho o1 o3 ho2 ho3 hsrc hbel hout ho' hc' hg'
   go_wp2
   go_roundw
   case rel => exact ⟨k + 1, by omega, by go_num, ⟨_, _, _, rfl, hp⟩, hb2⟩
   case measure => simp [intOf]; omega
  ·have e : k = c.list.length := by omega
   subst e
   obtain ⟨w2, rfl⟩ : ∃ X, X = wr := ⟨_, rfl⟩
   rw [show List.replicate c.list.length (tab (fun _ => false)) = zeroL c from rfl] at ho
   have hgl := ho.lt g (Or.inl rfl)
   have hgl1 := hgl.1
   clear hlt hk hgl
   go_wp2_with fail
   go_loopg [5] (28 * c.list.length + 1) (fun gk ch wr => ∃ us L, Own2B wr w1.heap.size (.slice (some ⟨g, 0, none⟩) c.list.length cp) us L ∧ Hid (InvL c L) ∧ ∃ (cb : Bool) (m : Nat), ch = .bool cb ∧ Hid (L = swps c m ∧ (cb = true → m + offs L ≤ 14 * c.list.length) ∧ (cb = false → swp c L = L ∧ m ≤ 14 * c.list.length) ∧ gk = 2 * offs L + (if cb then 1 else 0)) ∧ Below w1.heap.size w1 wr)
   case atStart => exact ⟨_, _, ho, Lib.hid (zero_inv c), true, 0, rfl, Lib.hid ⟨rfl, fun _ => by rw [zero_offs]; omega, fun h => (by cases h), by rw [zero_offs]; simp; omega⟩, hbel⟩
   case round =>
    obtain ⟨us, L, hoL, HI, cb, m, rfl, HM, hbw⟩ := hrel
    clear ho hbel
    cases cb with
    | false =>
     obtain ⟨hm1, _, hm3, _⟩ := HM.out
     obtain ⟨hm4, hm5⟩ := hm3 (by trivial)
     have hfin : L = liveOf c := by rw [hm1]; exact liveOf_of (by rw [← hm1]; exact hm4) hm5
     have HF := Lib.hid hfin
     clear HM hm1 hm3 hm4 hfin
     go_wp2_with fail
     go_ret
     exact ⟨_, _, rfl, by rw [← HF.out]; exact hoL.mono (by omega), btr hb1 hbw⟩
    | true =>
     have c2o := Kc hbw b2
     have kc2o := Lc c2o
     go_wp2_with fail
     clear c2o kc2o
     go_loopw [5, 6] (fun ch it wx => ∃ k : Nat, k ≤ c.list.length ∧ it = .int .i64 ((k : Int) - 1) ∧ ∃ us' M, Own2B wx w1.heap.size (.slice (some ⟨g, 0, none⟩) c.list.length cp) us' M ∧ Hid (InvL c M) ∧ ∃ cb : Bool, ch = .bool cb ∧ Hid (swpTo c k M = swp c L ∧ (cb = false → M = L) ∧ (cb = true → offs M < offs L)) ∧ Below w1.heap.size w1 wx) (fun _ it _ => (intOf it + 1).toNat)
     case atStart => exact ⟨c.list.length, Nat.le_refl _, rfl, _, _, hoL, HI, false, rfl, Lib.hid ⟨rfl, fun _ => rfl, fun h => by cases h⟩, hbw⟩
     case round =>
      obtain ⟨k, hk, hit, us', M, hoM, HJ, cb, rfl, HS, hbx⟩ := hrel
      clear hoL
      rcases Nat.eq_zero_or_pos k with rfl | hpos
      ·rw [show ((0 : Nat) : Int) - 1 = -1 from rfl] at hit
       subst hit
       obtain ⟨s1, s2, s3⟩ := HS.out
       obtain ⟨m1, m2, _, m4⟩ := HM.out
       have m5 := m2 (by trivial)
       have hsw : M = swp c L := s1
       clear s1 HS HM
       cases cb with
       | false =>
        have e := s2 (by trivial)
        subst e
        have HK := Lib.hid (And.intro m1 (And.intro m5 (And.intro hsw m4)))
        clear s2 s3 hsw m1 m2 m4 m5
        go_wp2_with fail
        go_roundg (2 * offs M)
        case measure => have := HK.out.2.2.2; simp at this; omega
        case rel => exact ⟨_, _, hoM, HJ, false, m, rfl, Lib.hid ⟨HK.out.1, fun h => (by cases h), fun _ => ⟨HK.out.2.2.1.symm, by have := HK.out.2.1; omega⟩, by simp⟩, hbx⟩
       | true =>
        have hlt := s3 (by trivial)
        have HK := Lib.hid (And.intro m1 (And.intro m5 (And.intro hsw (And.intro m4 hlt))))
        clear s2 s3 hsw m1 m2 m4 m5 hlt
        go_wp2_with fail
        go_roundg (2 * offs M + 1)
        case measure => have h1 := HK.out.2.2.2.1; have h2 := HK.out.2.2.2.2; simp at h1; omega
        case rel => exact ⟨_, _, hoM, HJ, true, m + 1, rfl, Lib.hid ⟨by rw [swps, ← HK.out.1]; exact HK.out.2.2.1, fun _ => by have h1 := HK.out.2.1; have h2 := HK.out.2.2.2.2; omega, fun h => (by cases h), by simp⟩, hbx⟩
      ·obtain ⟨j, rfl⟩ : ∃ j, k = j + 1 := ⟨k - 1, by omega⟩
       rw [show ((j + 1 : Nat) : Int) - 1 = (j : Int) from by omega] at hit
       subst hit
       have hj : j < c.list.length := by omega
       have hlM := HJ.out.len
       have hjM : j < M.length := by omega
       have hrows := HJ.out.rows
       have hrd := hoM.reads (by omega) (fun k r hkr => by obtain ⟨h1, rfl⟩ := List.getElem?_eq_some_iff.1 hkr; rw [hrows k h1]; omega)
       have hj14 : M[j].length ≤ 14 := by rw [hrows j hjM]; omega
       have e0 := HCC.out j hj
       have HAA := Lib.hid (fun v => HAF.out v M j hj)
       have HBB := Lib.hid (fun (v : Value) (W : World) (hv : Reads W 1 v 14 (bools (tab (aftF M (flw c.list[j] j))))) => HBE.out v (aftF M (flw c.list[j] j)) j hj W hv)
       have HEQF : Hid (befAt c M j = tab (befF c.list[j] (aftF M (flw c.list[j] j)))) := Lib.hid (befAt_at c M j hj)
       have HSM : Hid (aft M (nxt c.list[j] j) = tab (aftF M (flw c.list[j] j))) := Lib.hid (by rw [← aft_same]; rfl)
       have HLM := Lib.hid hlM
       have HRM := Lib.hid hrows
       obtain ⟨e0, e1, e2, e3, e4⟩ := e0
       have hbw2 := btr hb1 hbx
       replace e0 := Kc hbw2 e0; replace e1 := Kc hbw2 e1; replace e2 := Kc hbw2 e2; replace e3 := Kc hbw2 e3; replace e4 := Kc hbw2 e4
       have c0' := Kc hbx b0
       have c1' := Kc hbx b1
       have c2' := Kc hbx b2
       have kc2 := Lc c2'
       have ke0 := Lc e0
       have hq : (j : Int) < (c.list.length : Int) := by omega
       have HA2 := Lib.hid (fun W (hW : Below wr.heap.size wr W) => by
        have h := HAA.out _ W (btr hbx hW) (hrd.below hW) HLM.out HRM.out
        rw [HSM.out] at h; exact h)
       clear hpos hrd hlM hrows HAF HBE HAA HCC hbw2
       generalize c.list[j] = x at *
       have HSS := Lib.hid (show ∀ W', Below wr.heap.size wr W' → (fun W' => W'.cell? ⟨b', off + j * 5, none⟩ = some (.int .i64 x.op) ∧ W'.cell? ⟨b', off + j * 5 + 1, none⟩ = some (.int .i64 x.a) ∧ W'.cell? ⟨b', off + j * 5 + 2, none⟩ = some (.int .i64 x.b) ∧ W'.cell? ⟨b', off + j * 5 + 3, none⟩ = some (.int .i64 x.c) ∧ W'.cell? ⟨b', off + j * 5 + 4, none⟩ = some (.int .i64 x.d) ∧ W'.cell? ⟨w.heap.size, 0, none⟩ = some (.slice a0 c.vars.length c0) ∧ W'.cell? ⟨w.heap.size, 1, none⟩ = some (.slice a1 c.arrays.length c1) ∧ W'.cell? ⟨w.heap.size, 2, none⟩ = some (.slice (some ⟨b', off, none⟩) c.list.length c2)) W' from fun W' h => ⟨Kc h e0, Kc h e1, Kc h e2, Kc h e3, Kc h e4, Kc h c0', Kc h c1', Kc h c2'⟩)
       go_upto_region 12 with (fail)
       have D := Below.drew (Bs wr)
       go_cut [7] (fun s wx => ∃ g3 c3, s = .slice (some ⟨g3, 0, none⟩) 14 c3 ∧ wx.ownsRow wr.heap.size 4 1 (.slice (some ⟨g3, 0, none⟩) 14 c3) 14 (bools (befAt c M j)) ∧ Below wr.heap.size wr wx)
       case first =>
        go_region_held3 (fun W' => W'.cell? ⟨b', off + j * 5, none⟩ = some (.int .i64 x.op) ∧ W'.cell? ⟨b', off + j * 5 + 1, none⟩ = some (.int .i64 x.a) ∧ W'.cell? ⟨b', off + j * 5 + 2, none⟩ = some (.int .i64 x.b) ∧ W'.cell? ⟨b', off + j * 5 + 3, none⟩ = some (.int .i64 x.c) ∧ W'.cell? ⟨b', off + j * 5 + 4, none⟩ = some (.int .i64 x.d) ∧ W'.cell? ⟨w.heap.size, 0, none⟩ = some (.slice a0 c.vars.length c0) ∧ W'.cell? ⟨w.heap.size, 1, none⟩ = some (.slice a1 c.arrays.length c1) ∧ W'.cell? ⟨w.heap.size, 2, none⟩ = some (.slice (some ⟨b', off, none⟩) c.list.length c2)) (first | exact HSS.out _ (btr (btr D ba) bb) | exact HSS.out _ (btr D ba) | exact HSS.out _ D) (first | (go_at_call 87; refine (HA2.out _ D).mono ?_; rintro e wa ⟨ga, rfl, oa, ba⟩) | (go_at_call 86; refine (HBB.out _ _ (Ro oa (by omega))).mono ?_; rintro e wb ⟨gb, cb', rfl, ob, bb⟩))
        all_goals (go_wp2_with fail; go_meet; exact ⟨_, _, rfl, by rw [HEQF.out]; exact Om ob (by have := D.size; have := ba.size; omega), btr (btr D ba) bb⟩)
       obtain ⟨w3, rfl⟩ : ∃ W, W = wc := ⟨_, rfl⟩
       obtain ⟨g3, c3, rfl, o3, hb3⟩ := hcut
       clear e0 e1 e2 e3 e4 ke0 D HA2 HSM HEQF HSS
       have hz3 := hb3.size
       have hzx := hbx.size
       have hi3 := o3.lt g3 rfl
       have hoM3 := hoM.below hb3
       have hiM := hoM.lt
       have hbx3 := btr hbx hb3
       obtain ⟨u, hu, huo⟩ := hoM3.rowAt j hjM
       have hcell : w3.cell? ⟨g, j, none⟩ = some u := by rw [hoM3.outAt.cellAt j (by omega)]; exact hu
       have hf := hoM3.outAt.frozenAt j
       have hru := Ro huo (by omega)
       have hr3 := Ro o3 (by omega)
       have HB14 : Hid ((befAt c M j).length = 14) := Lib.hid (befAt_len hj)
       obtain ⟨pa, pc, rfl⟩ := Oh huo
       have kc := Lc hcell
       have kc3 := Lc (Kc hb3 c2')
       have HEQ := Lib.hid (fun h => l12Same_any (.slice (some ⟨g3, 0, none⟩) 14 c3) (.slice pa M[j].length pc) (befAt c M j) M[j] w3 h hru)
       have HEQ2 := Lib.hid (HEQ.out (by rw [HB14.out]; exact hr3))
       clear HBB hru hr3 huo HEQ
       go_wp2_with fail
       refine HEQ2.out.mono ?_
       rintro e w4 ⟨rfl, hb4⟩
       have hz4 := hb4.size
       have hbx4 := btr hbx3 hb4
       have hoM4 := hoM3.below hb4
       have hcell4 := Kc hb4 hcell
       have hf4 := Kf hb4 kc hf
       have o4 := Ob o3 hb4
       clear HEQ2 hoM hoM3 hcell hf
       by_cases heq : befAt c M j = M[j]
       ·rw [decide_eq_true heq]
        have hset := set_self hjM heq
        have hsw := swpTo_step c j M
        rw [hset] at hsw
        have HS2 := Lib.hid (And.intro (hsw.symm.trans HS.out.1) HS.out.2)
        clear heq hset hsw HS o3 o4
        go_wp2
        go_roundw
        case rel => exact ⟨j, by omega, by go_num, _, _, hoM4, HJ, cb, rfl, Lib.hid HS2.out, hbx4⟩
        case measure => simp [intOf]
       ·rw [decide_eq_false heq]
        have hup := (up_offs HJ.out j hjM).2 heq
        have hinv := up_inv HJ.out j hjM
        have hsw := swpTo_step c j M
        have hofs : offs (M.set j (befAt c M j)) < offs L := by
         cases cb with
         | false => rw [← HS.out.2.1 (by trivial)]; exact hup
         | true => exact Nat.lt_trans hup (HS.out.2.2 (by trivial))
        have HS2 := Lib.hid (And.intro (hsw.symm.trans HS.out.1) hofs)
        have HJ2 := Lib.hid hinv
        have ho5 := hoM4.put (r := befAt c M j) (u := .slice (some ⟨g3, 0, none⟩) 14 c3) rfl hjM (by rw [HB14.out]; exact Om o4 (by omega)) (fun q h h2 => by have e : g3 = q := Option.some.inj h; have := hiM q h2; omega) (by decide)
        have hb5 := bst hbx4 (g) j (by omega) (.slice (some ⟨g3, 0, none⟩) 14 c3)
        clear heq hup hinv hsw hofs HS o3 o4 hoM4 HJ hbx4
        go_wp2
        go_roundw
        case rel => exact ⟨j, by omega, by go_num, _, _, ho5, HJ2, true, rfl, Lib.hid ⟨HS2.out.1, fun h => (by cases h), fun _ => HS2.out.2⟩, hb5⟩
        case measure => simp [intOf]
end Go.Proofs.Ytkjedgnepnbkpaa
namespace Go.Proofs.Ytkjedgnepnbkpaa
open Go.RowKit

theorem iLiveRegs_any (va vb vc : Value) (c : Cd) (w : World) (hr : ReadsC w va vb vc c) :
  Calls Try.prog 30 #[.agg #[va, vb, vc]] w fun e w' => ∃ u us, e = .returned u ∧ Own2B w' w.heap.size u us (liveR c) ∧ Below w.heap.size w w' := by
 obtain ⟨a0, c0, a1, c1, a2, c2, rfl, rfl, rfl⟩ := hr.shape
 have hbx := bal (Bs w) (.cells #[.slice a0 c.vars.length c0, .slice a1 c.arrays.length c1, .slice a2 c.list.length c2] 26)
 have HV := Lib.hid (fun h => liveR_no (c := c) h)
 have HY := Lib.hid (fun h => liveR_yes (c := c) h)
 have HL := Lib.hid (fun (W : World) (hW : Below w.heap.size w W) h => live_any _ _ _ c W (hr.below hW) h)
 go_enter Try.func30, Try.ntmps30
 go_wp2_with fail
 refine (iCodeValid_any _ _ _ c _ (hr.below hbx)).mono ?_
 rintro e w1 ⟨rfl, hb⟩
 have b0 : w1.cell? ⟨w.heap.size, 0, none⟩ = some (.slice a0 c.vars.length c0) := Kc hb (Wc (by simp) (by rfl))
 have b1 : w1.cell? ⟨w.heap.size, 1, none⟩ = some (.slice a1 c.arrays.length c1) := Kc hb (Wc (by simp) (by rfl))
 have b2 : w1.cell? ⟨w.heap.size, 2, none⟩ = some (.slice a2 c.list.length c2) := Kc hb (Wc (by simp) (by rfl))
 have k2 := Lc b2
 replace hbx := btr hbx hb
 clear hb hr
 cases hok : codeOk c with
 | false =>
  have HO := Lib.hid hok; clear hok
  go_wp2
  go_ret
  exact ⟨_, _, rfl, by rw [HV.out HO.out]; exact (⟨rfl, World.ownsRow_nil _ _ _ _, fun k u r h => by simp at h, fun j k u u' h => by simp at h⟩ : Own2B _ _ _ [] []), hbx⟩
 | true =>
  have HO := Lib.hid hok; clear hok
  go_wp2_with fail
  refine (HL.out _ hbx HO.out).mono ?_
  rintro e w2 ⟨u, us, rfl, ho, hb⟩
  have hz := hbx.size
  obtain ⟨ua, uc, rfl⟩ := ho.shape
  go_wp2
  go_ret
  exact ⟨_, _, rfl, by rw [HY.out HO.out]; exact ho.mono hz, btr hbx hb⟩

theorem sLiveRegs_any (va vb vc : Value) (c : Cd) (w : World) (hr : ReadsC w va vb vc c) :
  Calls Try.prog 32 #[.agg #[va, vb, vc]] w fun e w' => ∃ u us, e = .returned u ∧ Own2B w' w.heap.size u us (liveR c) ∧ Below w.heap.size w w' := by
 obtain ⟨a0, c0, a1, c1, a2, c2, rfl, rfl, rfl⟩ := hr.shape
 have hbx := bal (Bs w) (.cells #[.slice a0 c.vars.length c0, .slice a1 c.arrays.length c1, .slice a2 c.list.length c2] 26)
 have HV := Lib.hid (fun h => liveR_no (c := c) h)
 have HY := Lib.hid (fun h => liveR_yes (c := c) h)
 have HL := Lib.hid (fun (W : World) (hW : Below w.heap.size w W) h => l12Live_any _ _ _ c W (hr.below hW) h)
 go_enter Try.func32, Try.ntmps32
 go_wp2_with fail
 refine (sCodeValid_any _ _ _ c _ (hr.below hbx)).mono ?_
 rintro e w1 ⟨rfl, hb⟩
 have b0 : w1.cell? ⟨w.heap.size, 0, none⟩ = some (.slice a0 c.vars.length c0) := Kc hb (Wc (by simp) (by rfl))
 have b1 : w1.cell? ⟨w.heap.size, 1, none⟩ = some (.slice a1 c.arrays.length c1) := Kc hb (Wc (by simp) (by rfl))
 have b2 : w1.cell? ⟨w.heap.size, 2, none⟩ = some (.slice a2 c.list.length c2) := Kc hb (Wc (by simp) (by rfl))
 have k2 := Lc b2
 replace hbx := btr hbx hb
 clear hb hr
 cases hok : codeOk c with
 | false =>
  have HO := Lib.hid hok; clear hok
  have hz := hbx.size
  have ho := own_lit w1 #[] 0 66 rfl (by omega)
  go_wp2
  go_ret
  exact ⟨_, _, rfl, by rw [HV.out HO.out]; exact (⟨rfl, Om ho hz, fun k u r h => by simp at h, fun j k u u' h => by simp at h⟩ : Own2B _ _ _ [] []), bal hbx _⟩
 | true =>
  have HO := Lib.hid hok; clear hok
  go_wp2_with fail
  refine (HL.out _ hbx HO.out).mono ?_
  rintro e w2 ⟨u, us, rfl, ho, hb⟩
  have hz := hbx.size
  obtain ⟨ua, uc, rfl⟩ := ho.shape
  go_wp2
  go_ret
  exact ⟨_, _, rfl, by rw [HY.out HO.out]; exact ho.mono hz, btr hbx hb⟩
end Go.Proofs.Ytkjedgnepnbkpaa
namespace Go.Proofs.Ytkjedgnepnbkpaa
open Go.RowKit

theorem live_inv (c : Cd) : InvL c (liveOf c) := swps_inv c _
end Go.Proofs.Ytkjedgnepnbkpaa
