/-
 Parts of the proofs of the laws FnCheckLive, FnFinalRegs, FnLiveRegister, FnLiveRegs.
-/
import Derived.Test.YtkjedgnepnbkpaaUH
set_option linter.all false
namespace Go.Proofs.Ytkjedgnepnbkpaa
open Go.RowKit

theorem one_inss (l : List Ins) : ∀ u ∈ inss l, u.oneCell' = true := by
 induction l with
 | nil => intro u h; cases h
 | cons x l ih =>
  intro u h
  rcases List.mem_append.1 (show u ∈ insc x ++ inss l from h) with h | h
  ·exact one_insc x u h
  ·exact ih u h
theorem DrawC.novars {w : World} {base : Nat} {va vb vl v : Value} {nv na n : Nat} (h : DrawC w base va vb vl nv na n) (hv : w.ownsRow base 3 1 v 0 []) (hd : ∀ q, v.ownBlock = some q → vb.ownBlock = some q → False) : DrawC w base v vb vl 0 na n := by
 obtain ⟨c, _, h2, h3, h'⟩ := h.h
 exact ⟨⟨[], c.arrays, c.list⟩, rfl, h2, h3, hv, h'.b, h'.l, hd⟩

/-- what l6Mutate gives -/
def MutP (n0 n1 n2 B g p : Nat) (w : World) (r : Ending) (w' : World) : Prop := ∃ (ua ub ul : Value) (nv p' : Nat), r = .returned (.agg #[ua, ub, ul]) ∧ DrawC w' w.heap.size ua ub ul nv n1 n2 ∧ nv ≤ n0 ∧ Rnd w' B g p' ∧ p' ≤ p + 5 ∧ Chg (fun q => q = g) w w'

set_option maxHeartbeats 6400000 in
set_option maxRecDepth 100000 in
theorem l6Mutate_any (va vb vc : Value) (c : Cd) (B g p : Nat) (w : World) (hr : ReadsC w va vb vc c) (hq : ∀ q, ReadB va vb vc c q → ¬ q = g) (h0 : c.vars.length ≤ 1000) (h1 : c.arrays.length ≤ 1000) (h2 : c.list.length ≤ 1000) (hR : Rnd w B g p) (hp : p + 5 ≤ 1000000000) :
  Calls Try.prog 48 #[.pointer (some ⟨g, 0, none⟩), .agg #[va, vb, vc]] w fun r w' => MutP c.vars.length c.arrays.length c.list.length B g p w r w' := by
 obtain ⟨a0, c0, a1, c1, a2, c2, rfl, rfl, rfl⟩ := hr.shape
 have iR : ∀ q, ReadB (.slice a0 c.vars.length c0) (.slice a1 c.arrays.length c1) (.slice a2 c.list.length c2) c q → q < w.heap.size ∧ ¬ q = g := fun q h => ⟨hr.lt q h, hq q h⟩
 have hrc := hr; clear hr hq
 have hg := hR.lt
 have hC : Chg (fun k => k = g) w w := Chg.refl _ _
 have ird : ∀ q, (fun k => k = g) q → q = g := fun q h => h
 go_enter Try.func48, Try.ntmps48
 go_upto_region 1 with (fail)
 obtain ⟨w1, hnw, hb⟩ := nmw (World.alloc (World.alloc w (.cells #[.slice a0 c.vars.length c0, .slice a1 c.arrays.length c1, .slice a2 c.list.length c2] 26)) (.cells #[.slice none 0 0, .slice none 0 0, .slice none 0 0] 26))
 replace hC := (((hC.trans (Chg.of_below (bal (Bs _) _))).trans (Chg.of_below (bal (Bs _) _)))).trans (Chg.of_below hb)
 replace hR := ((hR.below (bal (Bs _) _)).below (bal (Bs _) _)).below hb
 have hsz1 := hb.size
 simp only [Sa] at hsz1
 replace hrc := ((hrc.below (bal (Bs _) _)).below (bal (Bs _) _)).below hb
 have bk2 : Bk w1 (w.heap.size) [.slice a0 c.vars.length c0, .slice a1 c.arrays.length c1, .slice a2 c.list.length c2] := Bk.below (Bk.al (Bk.nw (by simp) rfl) (.cells #[.slice none 0 0, .slice none 0 0, .slice none 0 0] 26)) hb
 have bk3 : Bk w1 (w.heap.size + 1) [.slice none 0 0, .slice none 0 0, .slice none 0 0] := Bk.below (Bk.nw (by simp) rfl) hb
 clear hb
 rw [← hnw]
 clear hnw
 have lt4 := Bk.lz bk2
 have lt5 := Bk.lz bk3
 go_cut [5] (fun s wx => ∃ (b5 : Nat) (p0 p1 p2 : Option Addr) (t0 t1 t2 : Nat), s = .pointer (some ⟨b5, 0, none⟩) ∧ Bk wx b5 [.slice p0 c.vars.length t0, .slice p1 c.arrays.length t1, .slice p2 c.list.length t2] ∧ Bk wx (w.heap.size + 1) [.slice none 0 0, .slice none 0 0, .slice none 0 0] ∧ DrawC wx w1.heap.size (.slice p0 c.vars.length t0) (.slice p1 c.arrays.length t1) (.slice p2 c.list.length t2) c.vars.length c.arrays.length c.list.length ∧ (∀ q, OwnB (.slice p0 c.vars.length t0) (.slice p1 c.arrays.length t1) (.slice p2 c.list.length t2) q → ¬ q = b5) ∧ w1.heap.size ≤ b5 ∧ Rnd wx B g p ∧ Chg (fun q => q = g) w wx ∧ w1.heap.size ≤ wx.heap.size)
 case first =>
  have HRC := Lib.hid (fun W' (hW : Below w1.heap.size w1 W') => hrc.below hW)
  have HK4 := Lib.hid (fun W' (hW : Below w1.heap.size w1 W') => Bk.below bk3 hW)
  have HRR := Lib.hid (And.intro hR hC)
  have hwl : w.heap.size + 1 < w1.heap.size := Bk.lt bk3 (show 0 < 3 by decide)
  have xc0 := Bk.cell bk2 0 (v := .slice a0 c.vars.length c0) rfl
  have xc1 := Bk.cell bk2 1 (v := .slice a1 c.arrays.length c1) rfl
  have xc2 := Bk.cell bk2 2 (v := .slice a2 c.list.length c2) rfl
  have hwl2 := hC.size; clear hR hC hrc iR bk2 bk3 lt4 lt5
  have HSS : Hid (∀ W', Below w1.heap.size w1 W' → W'.cell? ⟨w.heap.size, 0, none⟩ = some (.slice a0 c.vars.length c0) ∧ W'.cell? ⟨w.heap.size, 1, none⟩ = some (.slice a1 c.arrays.length c1) ∧ W'.cell? ⟨w.heap.size, 2, none⟩ = some (.slice a2 c.list.length c2)) := Lib.hid (fun W' hW => ⟨Kc hW xc0, Kc hW xc1, Kc hW xc2⟩)
  refine wp_region_noPanic ?_
  refine wp_region_held_drew (S := (fun W' => W'.cell? ⟨w.heap.size, 0, none⟩ = some (.slice a0 c.vars.length c0) ∧ W'.cell? ⟨w.heap.size, 1, none⟩ = some (.slice a1 c.arrays.length c1) ∧ W'.cell? ⟨w.heap.size, 2, none⟩ = some (.slice a2 c.list.length c2))) (by kernel_rfl) (HSS.out _ (Below.drew (Bs w1))) (fun _ => ?_)
  have tot0 : Below w1.heap.size w1 (World.drew w1) := Below.drew (Bs _)
  generalize World.drew w1 = wd at tot0 ⊢
  refine name_H (fun T hT A0 hA => ?_)
  have M30 : Hid (∀ (b0 : Nat) (p3 : Option Addr) (t3 : Nat) (b4 : Nat) (p7 : Option Addr) (t7 : Nat) (b8 : Nat) (p11 : Option Addr) (t11 : Nat) (b13 : Nat) (w' : World), Below w1.heap.size w1 w' → RowSet w' w1.heap.size [Rv c p3 t3, Ry c p7 t7, Rl c p11 t11, Rb b13 [.slice p3 c.vars.length t3, .slice p7 c.arrays.length t7, .slice p11 c.list.length t11]] → T 0 #[true, true, true, true, true, true, true, true, true, true, true, true, true, true, true] (Act.put (Act.put (Act.put (Act.put (Act.put (Act.put (Act.put (Act.put (Act.put (Act.put (Act.put (Act.put (Act.put (Act.put A0 (some 7) (.slice (some ⟨b0, 0, none⟩) 0 0)) (some 8) (.pointer (some ⟨w.heap.size, 0, none⟩))) (some 9) (.slice a0 c.vars.length c0)) (some 10) (.slice p3 c.vars.length t3)) (some 11) (.slice (some ⟨b4, 0, none⟩) 0 0)) (some 12) (.pointer (some ⟨w.heap.size, 1, none⟩))) (some 13) (.slice a1 c.arrays.length c1)) (some 14) (.slice p7 c.arrays.length t7)) (some 15) (.slice (some ⟨b8, 0, none⟩) 0 0)) (some 16) (.pointer (some ⟨w.heap.size, 2, none⟩))) (some 17) (.slice a2 c.list.length c2)) (some 18) (.slice p11 c.list.length t11)) (some 19) (.agg #[.slice p3 c.vars.length t3, .slice p7 c.arrays.length t7, .slice p11 c.list.length t11])) (some 5) (.pointer (some ⟨b13, 0, none⟩))) w') := by
   refine Lib.hid ?_
   intro b0 p3 t3 b4 p7 t7 b8 p11 t11 b13 w' tot rs
   have hsz := tot.size
   have hHeld := HSS.out _ tot
   have hTT := hT.out; subst hTT; have hAA := hA.out; subst hAA; clear hT hA
   change wpAnyH _ _ _ _ _ 0 _ _ _
   try simp only [Act.put, sb, List.set]
   refine wpAnyH_done (by kernel_rfl) ?_ _
   refine NoPanic.normal ?_
   clear hHeld
   have o0 := rs.own (Rv c p3 t3 : RowK) (by simp)
   have o1 := rs.own (Ry c p7 t7 : RowK) (by simp)
   have o2 := rs.own (Rl c p11 t11 : RowK) (by simp)
   have HO5 := rs.own (Rb b13 [.slice p3 c.vars.length t3, .slice p7 c.arrays.length t7, .slice p11 c.list.length t11] : RowK) (by simp)
   have hb5 := (HO5.lt b13 rfl).1
   have hdc : DrawC w' w1.heap.size (.slice p3 c.vars.length t3) (.slice p7 c.arrays.length t7) (.slice p11 c.list.length t11) c.vars.length c.arrays.length c.list.length := DrawC.of ⟨o0, o1, o2, rs.dj (Rv c p3 t3 : RowK) (by simp) (Ry c p7 t7 : RowK) (by simp) (by simp)⟩
   have hnb : ∀ q, OwnB (.slice p3 c.vars.length t3) (.slice p7 c.arrays.length t7) (.slice p11 c.list.length t11) q → ¬ q = b13 := fun q h e => by rcases h with h | h | h; (exact rs.dj (Rv c p3 t3 : RowK) (by simp) (Rb b13 [.slice p3 c.vars.length t3, .slice p7 c.arrays.length t7, .slice p11 c.list.length t11] : RowK) (by simp) (by simp) q h (by rw [e]; rfl)); (exact rs.dj (Ry c p7 t7 : RowK) (by simp) (Rb b13 [.slice p3 c.vars.length t3, .slice p7 c.arrays.length t7, .slice p11 c.list.length t11] : RowK) (by simp) (by simp) q h (by rw [e]; rfl)); (exact rs.dj (Rl c p11 t11 : RowK) (by simp) (Rb b13 [.slice p3 c.vars.length t3, .slice p7 c.arrays.length t7, .slice p11 c.list.length t11] : RowK) (by simp) (by simp) q h (by rw [e]; rfl))
   go_wp2_with fail
   go_meet
   exact ⟨_, _, _, _, _, _, _, rfl, Bk.of_own HO5, HK4.out _ tot, hdc, hnb, hb5, HRR.out.1.below tot, HRR.out.2.trans (Chg.of_below tot), tot.size⟩
  have M29 : Hid (∀ (b0 : Nat) (p3 : Option Addr) (t3 : Nat) (b4 : Nat) (p7 : Option Addr) (t7 : Nat) (b8 : Nat) (p11 : Option Addr) (t11 : Nat) (b13 : Nat) (w' : World), Below w1.heap.size w1 w' → RowSet w' w1.heap.size [Rv c p3 t3, Ry c p7 t7, Rl c p11 t11, Rb b13 [.slice none 0 0, .slice none 0 0, .slice none 0 0]] → T 1 #[true, true, true, true, true, true, true, true, true, true, true, true, true, true, false] (Act.put (Act.put (Act.put (Act.put (Act.put (Act.put (Act.put (Act.put (Act.put (Act.put (Act.put (Act.put (Act.put (Act.put A0 (some 7) (.slice (some ⟨b0, 0, none⟩) 0 0)) (some 8) (.pointer (some ⟨w.heap.size, 0, none⟩))) (some 9) (.slice a0 c.vars.length c0)) (some 10) (.slice p3 c.vars.length t3)) (some 11) (.slice (some ⟨b4, 0, none⟩) 0 0)) (some 12) (.pointer (some ⟨w.heap.size, 1, none⟩))) (some 13) (.slice a1 c.arrays.length c1)) (some 14) (.slice p7 c.arrays.length t7)) (some 15) (.slice (some ⟨b8, 0, none⟩) 0 0)) (some 16) (.pointer (some ⟨w.heap.size, 2, none⟩))) (some 17) (.slice a2 c.list.length c2)) (some 18) (.slice p11 c.list.length t11)) (some 19) (.agg #[.slice p3 c.vars.length t3, .slice p7 c.arrays.length t7, .slice p11 c.list.length t11])) (some 5) (.pointer (some ⟨b13, 0, none⟩))) w') := by
   refine Lib.hid ?_
   intro b0 p3 t3 b4 p7 t7 b8 p11 t11 b13 w' tot rs
   have hsz := tot.size
   have hHeld := HSS.out _ tot
   have hTT := hT.out; subst hTT; have hAA := hA.out; subst hAA; clear hT hA
   change wpAnyH _ _ _ _ _ 1 _ _ _
   try simp only [Act.put, sb, List.set]
   refine wpAnyH_ready (rs := [14]) (by kernel_rfl) (by simp) ?_
   refine AllReadyH.cons rfl (fun K hK => ?_) AllReadyH.nil
   have HO := rs.own (Rb b13 [.slice none 0 0, .slice none 0 0, .slice none 0 0] : RowK) (Mt (Mt (Mt Mh)))
   have hb0 : w1.heap.size ≤ b13 := (HO.lt b13 rfl).1
   have kb := Lc ((Bk.of_own HO).cell 0 rfl)
   have x0 := (Bk.of_own HO).cell 0 (v := .slice none 0 0) rfl; have f0 := (Bk.of_own HO).froz 0 (show 0 < 3 by decide)
   have x1 := (Bk.of_own HO).cell 1 (v := .slice none 0 0) rfl; have f1 := (Bk.of_own HO).froz 1 (show 1 < 3 by decide)
   have x2 := (Bk.of_own HO).cell 2 (v := .slice none 0 0) rfl; have f2 := (Bk.of_own HO).froz 2 (show 2 < 3 by decide)
   go_simp
   have rs10 : RowSet _ w1.heap.size [Rv c p3 t3, Ry c p7 t7, Rl c p11 t11, Rb b13 [.slice p3 c.vars.length t3, .slice none 0 0, .slice none 0 0]] := RowSet.sub (RowSet.set rs (Rb b13 [.slice none 0 0, .slice none 0 0, .slice none 0 0] : RowK) (Mt (Mt (Mt Mh))) rfl rfl 0 (.slice p3 c.vars.length t3) (l' := [Rv c p3 t3, Ry c p7 t7, Rl c p11 t11]) (oth_cons Mh (show (0 : Nat) ≠ 13 by decide) (oth_cons (Mt Mh) (show (4 : Nat) ≠ 13 by decide) (oth_cons (Mt (Mt Mh)) (show (8 : Nat) ≠ 13 by decide) oth_nil)))) (Sb (Mt Mh) (Sb (Mt (Mt Mh)) (Sb (Mt (Mt (Mt Mh))) (Sb Mh sub_nil))))
   have rs11 : RowSet _ w1.heap.size [Rv c p3 t3, Ry c p7 t7, Rl c p11 t11, Rb b13 [.slice p3 c.vars.length t3, .slice p7 c.arrays.length t7, .slice none 0 0]] := RowSet.sub (RowSet.set rs10 (Rb b13 [.slice p3 c.vars.length t3, .slice none 0 0, .slice none 0 0] : RowK) (Mt (Mt (Mt Mh))) rfl rfl 1 (.slice p7 c.arrays.length t7) (l' := [Rv c p3 t3, Ry c p7 t7, Rl c p11 t11]) (oth_cons Mh (show (0 : Nat) ≠ 13 by decide) (oth_cons (Mt Mh) (show (4 : Nat) ≠ 13 by decide) (oth_cons (Mt (Mt Mh)) (show (8 : Nat) ≠ 13 by decide) oth_nil)))) (Sb (Mt Mh) (Sb (Mt (Mt Mh)) (Sb (Mt (Mt (Mt Mh))) (Sb Mh sub_nil))))
   have rs12 : RowSet _ w1.heap.size [Rv c p3 t3, Ry c p7 t7, Rl c p11 t11, Rb b13 [.slice p3 c.vars.length t3, .slice p7 c.arrays.length t7, .slice p11 c.list.length t11]] := RowSet.sub (RowSet.set rs11 (Rb b13 [.slice p3 c.vars.length t3, .slice p7 c.arrays.length t7, .slice none 0 0] : RowK) (Mt (Mt (Mt Mh))) rfl rfl 2 (.slice p11 c.list.length t11) (l' := [Rv c p3 t3, Ry c p7 t7, Rl c p11 t11]) (oth_cons Mh (show (0 : Nat) ≠ 13 by decide) (oth_cons (Mt Mh) (show (4 : Nat) ≠ 13 by decide) (oth_cons (Mt (Mt Mh)) (show (8 : Nat) ≠ 13 by decide) oth_nil)))) (Sb (Mt Mh) (Sb (Mt (Mt Mh)) (Sb (Mt (Mt (Mt Mh))) (Sb Mh sub_nil))))
   clear HO kb x0 f0 x1 f1 x2 f2
   refine hK.out _ _ (HSS.out _ (bst (bst (bst tot b13 0 hb0 (.slice p3 c.vars.length t3)) b13 1 hb0 (.slice p7 c.arrays.length t7)) b13 2 hb0 (.slice p11 c.list.length t11))) (fun hHeld => ?_)
   clear hK K
   try simp only [Act.put, sb, List.set]
   have hM := M30.out b0 p3 t3 b4 p7 t7 b8 p11 t11 b13 _ (bst (bst (bst tot b13 0 hb0 (.slice p3 c.vars.length t3)) b13 1 hb0 (.slice p7 c.arrays.length t7)) b13 2 hb0 (.slice p11 c.list.length t11)) rs12
   try simp only [Act.put, sb, List.set] at hM
   exact hM
  have M27 : Hid (∀ (b0 : Nat) (p3 : Option Addr) (t3 : Nat) (b4 : Nat) (p7 : Option Addr) (t7 : Nat) (b8 : Nat) (p11 : Option Addr) (t11 : Nat) (w' : World), Below w1.heap.size w1 w' → RowSet w' w1.heap.size [Rv c p3 t3, Ry c p7 t7, Rl c p11 t11] → T 2 #[true, true, true, true, true, true, true, true, true, true, true, true, true, false, false] (Act.put (Act.put (Act.put (Act.put (Act.put (Act.put (Act.put (Act.put (Act.put (Act.put (Act.put (Act.put (Act.put A0 (some 7) (.slice (some ⟨b0, 0, none⟩) 0 0)) (some 8) (.pointer (some ⟨w.heap.size, 0, none⟩))) (some 9) (.slice a0 c.vars.length c0)) (some 10) (.slice p3 c.vars.length t3)) (some 11) (.slice (some ⟨b4, 0, none⟩) 0 0)) (some 12) (.pointer (some ⟨w.heap.size, 1, none⟩))) (some 13) (.slice a1 c.arrays.length c1)) (some 14) (.slice p7 c.arrays.length t7)) (some 15) (.slice (some ⟨b8, 0, none⟩) 0 0)) (some 16) (.pointer (some ⟨w.heap.size, 2, none⟩))) (some 17) (.slice a2 c.list.length c2)) (some 18) (.slice p11 c.list.length t11)) (some 19) (.agg #[.slice p3 c.vars.length t3, .slice p7 c.arrays.length t7, .slice p11 c.list.length t11])) w') := by
   clear M30
   refine Lib.hid ?_
   intro b0 p3 t3 b4 p7 t7 b8 p11 t11 w' tot rs
   have hsz := tot.size
   have hHeld := HSS.out _ tot
   have hTT := hT.out; subst hTT; have hAA := hA.out; subst hAA; clear hT hA
   change wpAnyH _ _ _ _ _ 2 _ _ _
   try simp only [Act.put, sb, List.set]
   refine wpAnyH_ready (rs := [13]) (by kernel_rfl) (by simp) ?_
   refine AllReadyH.cons rfl (fun K hK => ?_) AllReadyH.nil
   go_simp
   refine hK.out _ _ (HSS.out _ (bal tot _)) (fun hHeld => ?_)
   clear hK K
   try simp only [Act.put, sb, List.set]
   have hM := M29.out b0 p3 t3 b4 p7 t7 b8 p11 t11 w'.heap.size _ (bal tot _) (RowSet.sub (RowSet.lit rs 13 26 3 #[.slice none 0 0, .slice none 0 0, .slice none 0 0] 1 (by omega) (by unfold maxLen; omega) (by simp)) (Sb (Mt Mh) (Sb (Mt (Mt Mh)) (Sb (Mt (Mt (Mt Mh))) (Sb Mh sub_nil)))))
   try simp only [Act.put, sb, List.set] at hM
   exact hM
  have M28 : Hid (∀ (b0 : Nat) (p3 : Option Addr) (t3 : Nat) (b4 : Nat) (p7 : Option Addr) (t7 : Nat) (b8 : Nat) (b13 : Nat) (w' : World), Below w1.heap.size w1 w' → RowSet w' w1.heap.size [Rv c p3 t3, Ry c p7 t7, Rn 8 b8, Rb b13 [.slice none 0 0, .slice none 0 0, .slice none 0 0]] → T 3 #[true, true, true, true, true, true, true, true, true, true, true, false, false, true, false] (Act.put (Act.put (Act.put (Act.put (Act.put (Act.put (Act.put (Act.put (Act.put (Act.put (Act.put (Act.put A0 (some 7) (.slice (some ⟨b0, 0, none⟩) 0 0)) (some 8) (.pointer (some ⟨w.heap.size, 0, none⟩))) (some 9) (.slice a0 c.vars.length c0)) (some 10) (.slice p3 c.vars.length t3)) (some 11) (.slice (some ⟨b4, 0, none⟩) 0 0)) (some 12) (.pointer (some ⟨w.heap.size, 1, none⟩))) (some 13) (.slice a1 c.arrays.length c1)) (some 14) (.slice p7 c.arrays.length t7)) (some 15) (.slice (some ⟨b8, 0, none⟩) 0 0)) (some 16) (.pointer (some ⟨w.heap.size, 2, none⟩))) (some 17) (.slice a2 c.list.length c2)) (some 5) (.pointer (some ⟨b13, 0, none⟩))) w') := by
   clear M30 M27
   refine Lib.hid ?_
   intro b0 p3 t3 b4 p7 t7 b8 b13 w' tot rs
   have hsz := tot.size
   have hHeld := HSS.out _ tot
   have hTT := hT.out; subst hTT; have hAA := hA.out; subst hAA; clear hT hA
   change wpAnyH _ _ _ _ _ 3 _ _ _
   try simp only [Act.put, sb, List.set]
   refine wpAnyH_ready (rs := [11]) (by kernel_rfl) (by simp) ?_
   refine AllReadyH.cons rfl (fun K hK => ?_) AllReadyH.nil
   have HO := rs.own (Rn 8 b8 : RowK) (Mt (Mt Mh))
   have hol := fun q hq => (HO.lt q hq).1
   refine step_aps tInstrs rfl _ _ rfl (w1.heap.size) _ 0 ([]) rfl HO _ (c.list.length) (inss c.list) rfl ((HRC.out _ tot).l) (one_inss c.list) (by omega) (by omega) ?_
   intro vA wA oA hcA hnA _
   try simp only [Nat.zero_add, List.nil_append] at oA
   obtain ⟨p11, t11, rfl⟩ := Oh oA
   have tot2 := tot_chg tot hcA hol
   have rs2 := RowSet.push rs (Rn 8 b8 : RowK) (Mt (Mt Mh)) oA hcA hnA (l' := [Rv c p3 t3, Ry c p7 t7, Rb b13 [.slice none 0 0, .slice none 0 0, .slice none 0 0]]) (oth_cons Mh (show (0 : Nat) ≠ 8 by decide) (oth_cons (Mt Mh) (show (4 : Nat) ≠ 8 by decide) (oth_cons (Mt (Mt (Mt Mh))) (show (13 : Nat) ≠ 8 by decide) oth_nil)))
   clear HO hol oA hcA hnA
   refine hK.out _ _ (HSS.out _ tot2) (fun hHeld => ?_)
   clear hK K
   try simp only [Act.put, sb, List.set]
   refine take_d (i := 12) (d := 19) (v := .agg #[.slice p3 c.vars.length t3, .slice p7 c.arrays.length t7, .slice p11 c.list.length t11]) rfl rfl (by kernel_rfl) (by kernel_rfl) (by kernel_rfl) (fun _ _ _ h => h) (Or.inl ⟨by rfl, fun W' _ => by kernel_rfl⟩) (by assumption) ?_
   try simp only [Act.put, sb, List.set]
   have hM := M29.out b0 p3 t3 b4 p7 t7 b8 p11 t11 b13 _ tot2 (RowSet.sub rs2 (Sb (Mt Mh) (Sb (Mt (Mt Mh)) (Sb Mh (Sb (Mt (Mt (Mt Mh))) sub_nil)))))
   try simp only [Act.put, sb, List.set] at hM
   exact hM
  have M24 : Hid (∀ (b0 : Nat) (p3 : Option Addr) (t3 : Nat) (b4 : Nat) (p7 : Option Addr) (t7 : Nat) (b8 : Nat) (w' : World), Below w1.heap.size w1 w' → RowSet w' w1.heap.size [Rv c p3 t3, Ry c p7 t7, Rn 8 b8] → T 4 #[true, true, true, true, true, true, true, true, true, true, true, false, false, false, false] (Act.put (Act.put (Act.put (Act.put (Act.put (Act.put (Act.put (Act.put (Act.put (Act.put (Act.put A0 (some 7) (.slice (some ⟨b0, 0, none⟩) 0 0)) (some 8) (.pointer (some ⟨w.heap.size, 0, none⟩))) (some 9) (.slice a0 c.vars.length c0)) (some 10) (.slice p3 c.vars.length t3)) (some 11) (.slice (some ⟨b4, 0, none⟩) 0 0)) (some 12) (.pointer (some ⟨w.heap.size, 1, none⟩))) (some 13) (.slice a1 c.arrays.length c1)) (some 14) (.slice p7 c.arrays.length t7)) (some 15) (.slice (some ⟨b8, 0, none⟩) 0 0)) (some 16) (.pointer (some ⟨w.heap.size, 2, none⟩))) (some 17) (.slice a2 c.list.length c2)) w') := by
   clear M30 M29
   refine Lib.hid ?_
   intro b0 p3 t3 b4 p7 t7 b8 w' tot rs
   have hsz := tot.size
   have hHeld := HSS.out _ tot
   have hTT := hT.out; subst hTT; have hAA := hA.out; subst hAA; clear hT hA
   change wpAnyH _ _ _ _ _ 4 _ _ _
   try simp only [Act.put, sb, List.set]
   refine wpAnyH_ready (rs := [11, 13]) (by kernel_rfl) (by simp) ?_
   refine AllReadyH.cons rfl (fun K hK => ?_) ?_
   ·-- 11
    have HO := rs.own (Rn 8 b8 : RowK) (Mt (Mt Mh))
    have hol := fun q hq => (HO.lt q hq).1
    refine step_aps tInstrs rfl _ _ rfl (w1.heap.size) _ 0 ([]) rfl HO _ (c.list.length) (inss c.list) rfl ((HRC.out _ tot).l) (one_inss c.list) (by omega) (by omega) ?_
    intro vA wA oA hcA hnA _
    try simp only [Nat.zero_add, List.nil_append] at oA
    obtain ⟨p11, t11, rfl⟩ := Oh oA
    have tot2 := tot_chg tot hcA hol
    have rs2 := RowSet.push rs (Rn 8 b8 : RowK) (Mt (Mt Mh)) oA hcA hnA (l' := [Rv c p3 t3, Ry c p7 t7]) (oth_cons Mh (show (0 : Nat) ≠ 8 by decide) (oth_cons (Mt Mh) (show (4 : Nat) ≠ 8 by decide) oth_nil))
    clear HO hol oA hcA hnA
    refine hK.out _ _ (HSS.out _ tot2) (fun hHeld => ?_)
    clear hK K
    try simp only [Act.put, sb, List.set]
    refine take_d (i := 12) (d := 19) (v := .agg #[.slice p3 c.vars.length t3, .slice p7 c.arrays.length t7, .slice p11 c.list.length t11]) rfl rfl (by kernel_rfl) (by kernel_rfl) (by kernel_rfl) (fun _ _ _ h => h) (Or.inl ⟨by rfl, fun W' _ => by kernel_rfl⟩) (by assumption) ?_
    try simp only [Act.put, sb, List.set]
    have hM := M27.out b0 p3 t3 b4 p7 t7 b8 p11 t11 _ tot2 (RowSet.sub rs2 (Sb (Mt Mh) (Sb (Mt (Mt Mh)) (Sb Mh sub_nil))))
    try simp only [Act.put, sb, List.set] at hM
    exact hM
   refine AllReadyH.cons rfl (fun K hK => ?_) AllReadyH.nil
   go_simp
   refine hK.out _ _ (HSS.out _ (bal tot _)) (fun hHeld => ?_)
   clear hK K
   try simp only [Act.put, sb, List.set]
   have hM := M28.out b0 p3 t3 b4 p7 t7 b8 w'.heap.size _ (bal tot _) (RowSet.sub (RowSet.lit rs 13 26 3 #[.slice none 0 0, .slice none 0 0, .slice none 0 0] 1 (by omega) (by unfold maxLen; omega) (by simp)) (Sb (Mt Mh) (Sb (Mt (Mt Mh)) (Sb (Mt (Mt (Mt Mh))) (Sb Mh sub_nil)))))
   try simp only [Act.put, sb, List.set] at hM
   exact hM
  have M25 : Hid (∀ (b0 : Nat) (p3 : Option Addr) (t3 : Nat) (b4 : Nat) (p7 : Option Addr) (t7 : Nat) (b13 : Nat) (w' : World), Below w1.heap.size w1 w' → RowSet w' w1.heap.size [Rv c p3 t3, Ry c p7 t7, Rb b13 [.slice none 0 0, .slice none 0 0, .slice none 0 0]] → T 4 #[true, true, true, true, true, true, true, true, false, true, true, false, false, true, false] (Act.put (Act.put (Act.put (Act.put (Act.put (Act.put (Act.put (Act.put (Act.put (Act.put (Act.put A0 (some 7) (.slice (some ⟨b0, 0, none⟩) 0 0)) (some 8) (.pointer (some ⟨w.heap.size, 0, none⟩))) (some 9) (.slice a0 c.vars.length c0)) (some 10) (.slice p3 c.vars.length t3)) (some 11) (.slice (some ⟨b4, 0, none⟩) 0 0)) (some 12) (.pointer (some ⟨w.heap.size, 1, none⟩))) (some 13) (.slice a1 c.arrays.length c1)) (some 14) (.slice p7 c.arrays.length t7)) (some 16) (.pointer (some ⟨w.heap.size, 2, none⟩))) (some 17) (.slice a2 c.list.length c2)) (some 5) (.pointer (some ⟨b13, 0, none⟩))) w') := by
   clear M30 M29 M27 M24
   refine Lib.hid ?_
   intro b0 p3 t3 b4 p7 t7 b13 w' tot rs
   have hsz := tot.size
   have hHeld := HSS.out _ tot
   have hTT := hT.out; subst hTT; have hAA := hA.out; subst hAA; clear hT hA
   change wpAnyH _ _ _ _ _ 4 _ _ _
   try simp only [Act.put, sb, List.set]
   refine wpAnyH_ready (rs := [8]) (by kernel_rfl) (by simp) ?_
   refine AllReadyH.cons rfl (fun K hK => ?_) AllReadyH.nil
   go_simp
   refine hK.out _ _ (HSS.out _ (bal tot _)) (fun hHeld => ?_)
   clear hK K
   try simp only [Act.put, sb, List.set]
   have hM := M28.out b0 p3 t3 b4 p7 t7 w'.heap.size b13 _ (bal tot _) (RowSet.sub (RowSet.lit rs 8 32 5 #[] 0 (by omega) (by unfold maxLen; omega) (by simp)) (Sb (Mt Mh) (Sb (Mt (Mt Mh)) (Sb Mh (Sb (Mt (Mt (Mt Mh))) sub_nil)))))
   try simp only [Act.put, sb, List.set] at hM
   exact hM
  have M26 : Hid (∀ (b0 : Nat) (p3 : Option Addr) (t3 : Nat) (b4 : Nat) (b8 : Nat) (b13 : Nat) (w' : World), Below w1.heap.size w1 w' → RowSet w' w1.heap.size [Rv c p3 t3, Re 4 b4, Rn 8 b8, Rb b13 [.slice none 0 0, .slice none 0 0, .slice none 0 0]] → T 4 #[true, true, true, true, true, true, true, false, true, true, true, false, false, true, false] (Act.put (Act.put (Act.put (Act.put (Act.put (Act.put (Act.put (Act.put (Act.put (Act.put (Act.put A0 (some 7) (.slice (some ⟨b0, 0, none⟩) 0 0)) (some 8) (.pointer (some ⟨w.heap.size, 0, none⟩))) (some 9) (.slice a0 c.vars.length c0)) (some 10) (.slice p3 c.vars.length t3)) (some 11) (.slice (some ⟨b4, 0, none⟩) 0 0)) (some 12) (.pointer (some ⟨w.heap.size, 1, none⟩))) (some 13) (.slice a1 c.arrays.length c1)) (some 15) (.slice (some ⟨b8, 0, none⟩) 0 0)) (some 16) (.pointer (some ⟨w.heap.size, 2, none⟩))) (some 17) (.slice a2 c.list.length c2)) (some 5) (.pointer (some ⟨b13, 0, none⟩))) w') := by
   clear M30 M29 M27 M24 M25
   refine Lib.hid ?_
   intro b0 p3 t3 b4 b8 b13 w' tot rs
   have hsz := tot.size
   have hHeld := HSS.out _ tot
   have hTT := hT.out; subst hTT; have hAA := hA.out; subst hAA; clear hT hA
   change wpAnyH _ _ _ _ _ 4 _ _ _
   try simp only [Act.put, sb, List.set]
   refine wpAnyH_ready (rs := [7]) (by kernel_rfl) (by simp) ?_
   refine AllReadyH.cons rfl (fun K hK => ?_) AllReadyH.nil
   have HO := rs.own (Re 4 b4 : RowK) (Mt Mh)
   have hol := fun q hq => (HO.lt q hq).1
   refine step_aps tInts rfl _ _ rfl (w1.heap.size) _ 0 ([]) rfl HO _ (c.arrays.length) (ints c.arrays) rfl ((HRC.out _ tot).b) (one_ints c.arrays) (by omega) (by omega) ?_
   intro vA wA oA hcA hnA _
   try simp only [Nat.zero_add, List.nil_append] at oA
   obtain ⟨p7, t7, rfl⟩ := Oh oA
   have tot2 := tot_chg tot hcA hol
   have rs2 := RowSet.push rs (Re 4 b4 : RowK) (Mt Mh) oA hcA hnA (l' := [Rv c p3 t3, Rn 8 b8, Rb b13 [.slice none 0 0, .slice none 0 0, .slice none 0 0]]) (oth_cons Mh (show (0 : Nat) ≠ 4 by decide) (oth_cons (Mt (Mt Mh)) (show (8 : Nat) ≠ 4 by decide) (oth_cons (Mt (Mt (Mt Mh))) (show (13 : Nat) ≠ 4 by decide) oth_nil)))
   clear HO hol oA hcA hnA
   refine hK.out _ _ (HSS.out _ tot2) (fun hHeld => ?_)
   clear hK K
   try simp only [Act.put, sb, List.set]
   have hM := M28.out b0 p3 t3 b4 p7 t7 b8 b13 _ tot2 (RowSet.sub rs2 (Sb (Mt Mh) (Sb Mh (Sb (Mt (Mt Mh)) (Sb (Mt (Mt (Mt Mh))) sub_nil)))))
   try simp only [Act.put, sb, List.set] at hM
   exact hM
  have M19 : Hid (∀ (b0 : Nat) (p3 : Option Addr) (t3 : Nat) (b4 : Nat) (p7 : Option Addr) (t7 : Nat) (w' : World), Below w1.heap.size w1 w' → RowSet w' w1.heap.size [Rv c p3 t3, Ry c p7 t7] → T 5 #[true, true, true, true, true, true, true, true, false, true, true, false, false, false, false] (Act.put (Act.put (Act.put (Act.put (Act.put (Act.put (Act.put (Act.put (Act.put (Act.put A0 (some 7) (.slice (some ⟨b0, 0, none⟩) 0 0)) (some 8) (.pointer (some ⟨w.heap.size, 0, none⟩))) (some 9) (.slice a0 c.vars.length c0)) (some 10) (.slice p3 c.vars.length t3)) (some 11) (.slice (some ⟨b4, 0, none⟩) 0 0)) (some 12) (.pointer (some ⟨w.heap.size, 1, none⟩))) (some 13) (.slice a1 c.arrays.length c1)) (some 14) (.slice p7 c.arrays.length t7)) (some 16) (.pointer (some ⟨w.heap.size, 2, none⟩))) (some 17) (.slice a2 c.list.length c2)) w') := by
   clear M30 M29 M27 M28 M26
   refine Lib.hid ?_
   intro b0 p3 t3 b4 p7 t7 w' tot rs
   have hsz := tot.size
   have hHeld := HSS.out _ tot
   have hTT := hT.out; subst hTT; have hAA := hA.out; subst hAA; clear hT hA
   change wpAnyH _ _ _ _ _ 5 _ _ _
   try simp only [Act.put, sb, List.set]
   refine wpAnyH_ready (rs := [8, 13]) (by kernel_rfl) (by simp) ?_
   refine AllReadyH.cons rfl (fun K hK => ?_) ?_
   ·-- 8
    go_simp
    refine hK.out _ _ (HSS.out _ (bal tot _)) (fun hHeld => ?_)
    clear hK K
    try simp only [Act.put, sb, List.set]
    have hM := M24.out b0 p3 t3 b4 p7 t7 w'.heap.size _ (bal tot _) (RowSet.sub (RowSet.lit rs 8 32 5 #[] 0 (by omega) (by unfold maxLen; omega) (by simp)) (Sb (Mt Mh) (Sb (Mt (Mt Mh)) (Sb Mh sub_nil))))
    try simp only [Act.put, sb, List.set] at hM
    exact hM
   refine AllReadyH.cons rfl (fun K hK => ?_) AllReadyH.nil
   go_simp
   refine hK.out _ _ (HSS.out _ (bal tot _)) (fun hHeld => ?_)
   clear hK K
   try simp only [Act.put, sb, List.set]
   have hM := M25.out b0 p3 t3 b4 p7 t7 w'.heap.size _ (bal tot _) (RowSet.sub (RowSet.lit rs 13 26 3 #[.slice none 0 0, .slice none 0 0, .slice none 0 0] 1 (by omega) (by unfold maxLen; omega) (by simp)) (Sb (Mt Mh) (Sb (Mt (Mt Mh)) (Sb Mh sub_nil))))
   try simp only [Act.put, sb, List.set] at hM
   exact hM
  have M20 : Hid (∀ (b0 : Nat) (p3 : Option Addr) (t3 : Nat) (b4 : Nat) (b8 : Nat) (w' : World), Below w1.heap.size w1 w' → RowSet w' w1.heap.size [Rv c p3 t3, Re 4 b4, Rn 8 b8] → T 5 #[true, true, true, true, true, true, true, false, true, true, true, false, false, false, false] (Act.put (Act.put (Act.put (Act.put (Act.put (Act.put (Act.put (Act.put (Act.put (Act.put A0 (some 7) (.slice (some ⟨b0, 0, none⟩) 0 0)) (some 8) (.pointer (some ⟨w.heap.size, 0, none⟩))) (some 9) (.slice a0 c.vars.length c0)) (some 10) (.slice p3 c.vars.length t3)) (some 11) (.slice (some ⟨b4, 0, none⟩) 0 0)) (some 12) (.pointer (some ⟨w.heap.size, 1, none⟩))) (some 13) (.slice a1 c.arrays.length c1)) (some 15) (.slice (some ⟨b8, 0, none⟩) 0 0)) (some 16) (.pointer (some ⟨w.heap.size, 2, none⟩))) (some 17) (.slice a2 c.list.length c2)) w') := by
   clear M30 M29 M27 M28 M25 M19
   refine Lib.hid ?_
   intro b0 p3 t3 b4 b8 w' tot rs
   have hsz := tot.size
   have hHeld := HSS.out _ tot
   have hTT := hT.out; subst hTT; have hAA := hA.out; subst hAA; clear hT hA
   change wpAnyH _ _ _ _ _ 5 _ _ _
   try simp only [Act.put, sb, List.set]
   refine wpAnyH_ready (rs := [7, 13]) (by kernel_rfl) (by simp) ?_
   refine AllReadyH.cons rfl (fun K hK => ?_) ?_
   ·-- 7
    have HO := rs.own (Re 4 b4 : RowK) (Mt Mh)
    have hol := fun q hq => (HO.lt q hq).1
    refine step_aps tInts rfl _ _ rfl (w1.heap.size) _ 0 ([]) rfl HO _ (c.arrays.length) (ints c.arrays) rfl ((HRC.out _ tot).b) (one_ints c.arrays) (by omega) (by omega) ?_
    intro vA wA oA hcA hnA _
    try simp only [Nat.zero_add, List.nil_append] at oA
    obtain ⟨p7, t7, rfl⟩ := Oh oA
    have tot2 := tot_chg tot hcA hol
    have rs2 := RowSet.push rs (Re 4 b4 : RowK) (Mt Mh) oA hcA hnA (l' := [Rv c p3 t3, Rn 8 b8]) (oth_cons Mh (show (0 : Nat) ≠ 4 by decide) (oth_cons (Mt (Mt Mh)) (show (8 : Nat) ≠ 4 by decide) oth_nil))
    clear HO hol oA hcA hnA
    refine hK.out _ _ (HSS.out _ tot2) (fun hHeld => ?_)
    clear hK K
    try simp only [Act.put, sb, List.set]
    have hM := M24.out b0 p3 t3 b4 p7 t7 b8 _ tot2 (RowSet.sub rs2 (Sb (Mt Mh) (Sb Mh (Sb (Mt (Mt Mh)) sub_nil))))
    try simp only [Act.put, sb, List.set] at hM
    exact hM
   refine AllReadyH.cons rfl (fun K hK => ?_) AllReadyH.nil
   go_simp
   refine hK.out _ _ (HSS.out _ (bal tot _)) (fun hHeld => ?_)
   clear hK K
   try simp only [Act.put, sb, List.set]
   have hM := M26.out b0 p3 t3 b4 b8 w'.heap.size _ (bal tot _) (RowSet.sub (RowSet.lit rs 13 26 3 #[.slice none 0 0, .slice none 0 0, .slice none 0 0] 1 (by omega) (by unfold maxLen; omega) (by simp)) (Sb (Mt Mh) (Sb (Mt (Mt Mh)) (Sb (Mt (Mt (Mt Mh))) (Sb Mh sub_nil)))))
   try simp only [Act.put, sb, List.set] at hM
   exact hM
  have M21 : Hid (∀ (b0 : Nat) (p3 : Option Addr) (t3 : Nat) (b4 : Nat) (b13 : Nat) (w' : World), Below w1.heap.size w1 w' → RowSet w' w1.heap.size [Rv c p3 t3, Re 4 b4, Rb b13 [.slice none 0 0, .slice none 0 0, .slice none 0 0]] → T 5 #[true, true, true, true, true, true, true, false, false, true, true, false, false, true, false] (Act.put (Act.put (Act.put (Act.put (Act.put (Act.put (Act.put (Act.put (Act.put (Act.put A0 (some 7) (.slice (some ⟨b0, 0, none⟩) 0 0)) (some 8) (.pointer (some ⟨w.heap.size, 0, none⟩))) (some 9) (.slice a0 c.vars.length c0)) (some 10) (.slice p3 c.vars.length t3)) (some 11) (.slice (some ⟨b4, 0, none⟩) 0 0)) (some 12) (.pointer (some ⟨w.heap.size, 1, none⟩))) (some 13) (.slice a1 c.arrays.length c1)) (some 16) (.pointer (some ⟨w.heap.size, 2, none⟩))) (some 17) (.slice a2 c.list.length c2)) (some 5) (.pointer (some ⟨b13, 0, none⟩))) w') := by
   clear M30 M29 M27 M28 M24 M19 M20
   refine Lib.hid ?_
   intro b0 p3 t3 b4 b13 w' tot rs
   have hsz := tot.size
   have hHeld := HSS.out _ tot
   have hTT := hT.out; subst hTT; have hAA := hA.out; subst hAA; clear hT hA
   change wpAnyH _ _ _ _ _ 5 _ _ _
   try simp only [Act.put, sb, List.set]
   refine wpAnyH_ready (rs := [7, 8]) (by kernel_rfl) (by simp) ?_
   refine AllReadyH.cons rfl (fun K hK => ?_) ?_
   ·-- 7
    have HO := rs.own (Re 4 b4 : RowK) (Mt Mh)
    have hol := fun q hq => (HO.lt q hq).1
    refine step_aps tInts rfl _ _ rfl (w1.heap.size) _ 0 ([]) rfl HO _ (c.arrays.length) (ints c.arrays) rfl ((HRC.out _ tot).b) (one_ints c.arrays) (by omega) (by omega) ?_
    intro vA wA oA hcA hnA _
    try simp only [Nat.zero_add, List.nil_append] at oA
    obtain ⟨p7, t7, rfl⟩ := Oh oA
    have tot2 := tot_chg tot hcA hol
    have rs2 := RowSet.push rs (Re 4 b4 : RowK) (Mt Mh) oA hcA hnA (l' := [Rv c p3 t3, Rb b13 [.slice none 0 0, .slice none 0 0, .slice none 0 0]]) (oth_cons Mh (show (0 : Nat) ≠ 4 by decide) (oth_cons (Mt (Mt Mh)) (show (13 : Nat) ≠ 4 by decide) oth_nil))
    clear HO hol oA hcA hnA
    refine hK.out _ _ (HSS.out _ tot2) (fun hHeld => ?_)
    clear hK K
    try simp only [Act.put, sb, List.set]
    have hM := M25.out b0 p3 t3 b4 p7 t7 b13 _ tot2 (RowSet.sub rs2 (Sb (Mt Mh) (Sb Mh (Sb (Mt (Mt Mh)) sub_nil))))
    try simp only [Act.put, sb, List.set] at hM
    exact hM
   refine AllReadyH.cons rfl (fun K hK => ?_) AllReadyH.nil
   go_simp
   refine hK.out _ _ (HSS.out _ (bal tot _)) (fun hHeld => ?_)
   clear hK K
   try simp only [Act.put, sb, List.set]
   have hM := M26.out b0 p3 t3 b4 w'.heap.size b13 _ (bal tot _) (RowSet.sub (RowSet.lit rs 8 32 5 #[] 0 (by omega) (by unfold maxLen; omega) (by simp)) (Sb (Mt Mh) (Sb (Mt (Mt Mh)) (Sb Mh (Sb (Mt (Mt (Mt Mh))) sub_nil)))))
   try simp only [Act.put, sb, List.set] at hM
   exact hM
  have M22 : Hid (∀ (b0 : Nat) (p3 : Option Addr) (t3 : Nat) (b8 : Nat) (b13 : Nat) (w' : World), Below w1.heap.size w1 w' → RowSet w' w1.heap.size [Rv c p3 t3, Rn 8 b8, Rb b13 [.slice none 0 0, .slice none 0 0, .slice none 0 0]] → T 5 #[true, true, true, true, false, true, true, false, true, true, true, false, false, true, false] (Act.put (Act.put (Act.put (Act.put (Act.put (Act.put (Act.put (Act.put (Act.put (Act.put A0 (some 7) (.slice (some ⟨b0, 0, none⟩) 0 0)) (some 8) (.pointer (some ⟨w.heap.size, 0, none⟩))) (some 9) (.slice a0 c.vars.length c0)) (some 10) (.slice p3 c.vars.length t3)) (some 12) (.pointer (some ⟨w.heap.size, 1, none⟩))) (some 13) (.slice a1 c.arrays.length c1)) (some 15) (.slice (some ⟨b8, 0, none⟩) 0 0)) (some 16) (.pointer (some ⟨w.heap.size, 2, none⟩))) (some 17) (.slice a2 c.list.length c2)) (some 5) (.pointer (some ⟨b13, 0, none⟩))) w') := by
   clear M30 M29 M27 M28 M24 M25 M19 M20 M21
   refine Lib.hid ?_
   intro b0 p3 t3 b8 b13 w' tot rs
   have hsz := tot.size
   have hHeld := HSS.out _ tot
   have hTT := hT.out; subst hTT; have hAA := hA.out; subst hAA; clear hT hA
   change wpAnyH _ _ _ _ _ 5 _ _ _
   try simp only [Act.put, sb, List.set]
   refine wpAnyH_ready (rs := [4]) (by kernel_rfl) (by simp) ?_
   refine AllReadyH.cons rfl (fun K hK => ?_) AllReadyH.nil
   go_simp
   refine hK.out _ _ (HSS.out _ (bal tot _)) (fun hHeld => ?_)
   clear hK K
   try simp only [Act.put, sb, List.set]
   have hM := M26.out b0 p3 t3 w'.heap.size b8 b13 _ (bal tot _) (RowSet.sub (RowSet.lit rs 4 3 1 #[] 0 (by omega) (by unfold maxLen; omega) (by simp)) (Sb (Mt Mh) (Sb Mh (Sb (Mt (Mt Mh)) (Sb (Mt (Mt (Mt Mh))) sub_nil)))))
   try simp only [Act.put, sb, List.set] at hM
   exact hM
  have M23 : Hid (∀ (b0 : Nat) (b4 : Nat) (b8 : Nat) (b13 : Nat) (w' : World), Below w1.heap.size w1 w' → RowSet w' w1.heap.size [Re 0 b0, Re 4 b4, Rn 8 b8, Rb b13 [.slice none 0 0, .slice none 0 0, .slice none 0 0]] → T 5 #[true, true, true, false, true, true, true, false, true, true, true, false, false, true, false] (Act.put (Act.put (Act.put (Act.put (Act.put (Act.put (Act.put (Act.put (Act.put (Act.put A0 (some 7) (.slice (some ⟨b0, 0, none⟩) 0 0)) (some 8) (.pointer (some ⟨w.heap.size, 0, none⟩))) (some 9) (.slice a0 c.vars.length c0)) (some 11) (.slice (some ⟨b4, 0, none⟩) 0 0)) (some 12) (.pointer (some ⟨w.heap.size, 1, none⟩))) (some 13) (.slice a1 c.arrays.length c1)) (some 15) (.slice (some ⟨b8, 0, none⟩) 0 0)) (some 16) (.pointer (some ⟨w.heap.size, 2, none⟩))) (some 17) (.slice a2 c.list.length c2)) (some 5) (.pointer (some ⟨b13, 0, none⟩))) w') := by
   clear M30 M29 M27 M28 M24 M25 M19 M20 M21 M22
   refine Lib.hid ?_
   intro b0 b4 b8 b13 w' tot rs
   have hsz := tot.size
   have hHeld := HSS.out _ tot
   have hTT := hT.out; subst hTT; have hAA := hA.out; subst hAA; clear hT hA
   change wpAnyH _ _ _ _ _ 5 _ _ _
   try simp only [Act.put, sb, List.set]
   refine wpAnyH_ready (rs := [3]) (by kernel_rfl) (by simp) ?_
   refine AllReadyH.cons rfl (fun K hK => ?_) AllReadyH.nil
   have HO := rs.own (Re 0 b0 : RowK) Mh
   have hol := fun q hq => (HO.lt q hq).1
   refine step_aps tInts rfl _ _ rfl (w1.heap.size) _ 0 ([]) rfl HO _ (c.vars.length) (ints c.vars) rfl ((HRC.out _ tot).a) (one_ints c.vars) (by omega) (by omega) ?_
   intro vA wA oA hcA hnA _
   try simp only [Nat.zero_add, List.nil_append] at oA
   obtain ⟨p3, t3, rfl⟩ := Oh oA
   have tot2 := tot_chg tot hcA hol
   have rs2 := RowSet.push rs (Re 0 b0 : RowK) Mh oA hcA hnA (l' := [Re 4 b4, Rn 8 b8, Rb b13 [.slice none 0 0, .slice none 0 0, .slice none 0 0]]) (oth_cons (Mt Mh) (show (4 : Nat) ≠ 0 by decide) (oth_cons (Mt (Mt Mh)) (show (8 : Nat) ≠ 0 by decide) (oth_cons (Mt (Mt (Mt Mh))) (show (13 : Nat) ≠ 0 by decide) oth_nil)))
   clear HO hol oA hcA hnA
   refine hK.out _ _ (HSS.out _ tot2) (fun hHeld => ?_)
   clear hK K
   try simp only [Act.put, sb, List.set]
   have hM := M26.out b0 p3 t3 b4 b8 b13 _ tot2 (RowSet.sub rs2 (Sb Mh (Sb (Mt Mh) (Sb (Mt (Mt Mh)) (Sb (Mt (Mt (Mt Mh))) sub_nil)))))
   try simp only [Act.put, sb, List.set] at hM
   exact hM
  have M12 : Hid (∀ (b0 : Nat) (p3 : Option Addr) (t3 : Nat) (b4 : Nat) (w' : World), Below w1.heap.size w1 w' → RowSet w' w1.heap.size [Rv c p3 t3, Re 4 b4] → T 6 #[true, true, true, true, true, true, true, false, false, true, true, false, false, false, false] (Act.put (Act.put (Act.put (Act.put (Act.put (Act.put (Act.put (Act.put (Act.put A0 (some 7) (.slice (some ⟨b0, 0, none⟩) 0 0)) (some 8) (.pointer (some ⟨w.heap.size, 0, none⟩))) (some 9) (.slice a0 c.vars.length c0)) (some 10) (.slice p3 c.vars.length t3)) (some 11) (.slice (some ⟨b4, 0, none⟩) 0 0)) (some 12) (.pointer (some ⟨w.heap.size, 1, none⟩))) (some 13) (.slice a1 c.arrays.length c1)) (some 16) (.pointer (some ⟨w.heap.size, 2, none⟩))) (some 17) (.slice a2 c.list.length c2)) w') := by
   clear M30 M29 M27 M28 M24 M25 M26 M22 M23
   refine Lib.hid ?_
   intro b0 p3 t3 b4 w' tot rs
   have hsz := tot.size
   have hHeld := HSS.out _ tot
   have hTT := hT.out; subst hTT; have hAA := hA.out; subst hAA; clear hT hA
   change wpAnyH _ _ _ _ _ 6 _ _ _
   try simp only [Act.put, sb, List.set]
   refine wpAnyH_ready (rs := [7, 8, 13]) (by kernel_rfl) (by simp) ?_
   refine AllReadyH.cons rfl (fun K hK => ?_) ?_
   ·-- 7
    have HO := rs.own (Re 4 b4 : RowK) (Mt Mh)
    have hol := fun q hq => (HO.lt q hq).1
    refine step_aps tInts rfl _ _ rfl (w1.heap.size) _ 0 ([]) rfl HO _ (c.arrays.length) (ints c.arrays) rfl ((HRC.out _ tot).b) (one_ints c.arrays) (by omega) (by omega) ?_
    intro vA wA oA hcA hnA _
    try simp only [Nat.zero_add, List.nil_append] at oA
    obtain ⟨p7, t7, rfl⟩ := Oh oA
    have tot2 := tot_chg tot hcA hol
    have rs2 := RowSet.push rs (Re 4 b4 : RowK) (Mt Mh) oA hcA hnA (l' := [Rv c p3 t3]) (oth_cons Mh (show (0 : Nat) ≠ 4 by decide) oth_nil)
    clear HO hol oA hcA hnA
    refine hK.out _ _ (HSS.out _ tot2) (fun hHeld => ?_)
    clear hK K
    try simp only [Act.put, sb, List.set]
    have hM := M19.out b0 p3 t3 b4 p7 t7 _ tot2 (RowSet.sub rs2 (Sb (Mt Mh) (Sb Mh sub_nil)))
    try simp only [Act.put, sb, List.set] at hM
    exact hM
   refine AllReadyH.cons rfl (fun K hK => ?_) ?_
   ·-- 8
    go_simp
    refine hK.out _ _ (HSS.out _ (bal tot _)) (fun hHeld => ?_)
    clear hK K
    try simp only [Act.put, sb, List.set]
    have hM := M20.out b0 p3 t3 b4 w'.heap.size _ (bal tot _) (RowSet.sub (RowSet.lit rs 8 32 5 #[] 0 (by omega) (by unfold maxLen; omega) (by simp)) (Sb (Mt Mh) (Sb (Mt (Mt Mh)) (Sb Mh sub_nil))))
    try simp only [Act.put, sb, List.set] at hM
    exact hM
   refine AllReadyH.cons rfl (fun K hK => ?_) AllReadyH.nil
   go_simp
   refine hK.out _ _ (HSS.out _ (bal tot _)) (fun hHeld => ?_)
   clear hK K
   try simp only [Act.put, sb, List.set]
   have hM := M21.out b0 p3 t3 b4 w'.heap.size _ (bal tot _) (RowSet.sub (RowSet.lit rs 13 26 3 #[.slice none 0 0, .slice none 0 0, .slice none 0 0] 1 (by omega) (by unfold maxLen; omega) (by simp)) (Sb (Mt Mh) (Sb (Mt (Mt Mh)) (Sb Mh sub_nil))))
   try simp only [Act.put, sb, List.set] at hM
   exact hM
  have M13 : Hid (∀ (b0 : Nat) (p3 : Option Addr) (t3 : Nat) (b8 : Nat) (w' : World), Below w1.heap.size w1 w' → RowSet w' w1.heap.size [Rv c p3 t3, Rn 8 b8] → T 6 #[true, true, true, true, false, true, true, false, true, true, true, false, false, false, false] (Act.put (Act.put (Act.put (Act.put (Act.put (Act.put (Act.put (Act.put (Act.put A0 (some 7) (.slice (some ⟨b0, 0, none⟩) 0 0)) (some 8) (.pointer (some ⟨w.heap.size, 0, none⟩))) (some 9) (.slice a0 c.vars.length c0)) (some 10) (.slice p3 c.vars.length t3)) (some 12) (.pointer (some ⟨w.heap.size, 1, none⟩))) (some 13) (.slice a1 c.arrays.length c1)) (some 15) (.slice (some ⟨b8, 0, none⟩) 0 0)) (some 16) (.pointer (some ⟨w.heap.size, 2, none⟩))) (some 17) (.slice a2 c.list.length c2)) w') := by
   clear M30 M29 M27 M28 M24 M25 M26 M19 M21 M23 M12
   refine Lib.hid ?_
   intro b0 p3 t3 b8 w' tot rs
   have hsz := tot.size
   have hHeld := HSS.out _ tot
   have hTT := hT.out; subst hTT; have hAA := hA.out; subst hAA; clear hT hA
   change wpAnyH _ _ _ _ _ 6 _ _ _
   try simp only [Act.put, sb, List.set]
   refine wpAnyH_ready (rs := [4, 13]) (by kernel_rfl) (by simp) ?_
   refine AllReadyH.cons rfl (fun K hK => ?_) ?_
   ·-- 4
    go_simp
    refine hK.out _ _ (HSS.out _ (bal tot _)) (fun hHeld => ?_)
    clear hK K
    try simp only [Act.put, sb, List.set]
    have hM := M20.out b0 p3 t3 w'.heap.size b8 _ (bal tot _) (RowSet.sub (RowSet.lit rs 4 3 1 #[] 0 (by omega) (by unfold maxLen; omega) (by simp)) (Sb (Mt Mh) (Sb Mh (Sb (Mt (Mt Mh)) sub_nil))))
    try simp only [Act.put, sb, List.set] at hM
    exact hM
   refine AllReadyH.cons rfl (fun K hK => ?_) AllReadyH.nil
   go_simp
   refine hK.out _ _ (HSS.out _ (bal tot _)) (fun hHeld => ?_)
   clear hK K
   try simp only [Act.put, sb, List.set]
   have hM := M22.out b0 p3 t3 b8 w'.heap.size _ (bal tot _) (RowSet.sub (RowSet.lit rs 13 26 3 #[.slice none 0 0, .slice none 0 0, .slice none 0 0] 1 (by omega) (by unfold maxLen; omega) (by simp)) (Sb (Mt Mh) (Sb (Mt (Mt Mh)) (Sb Mh sub_nil))))
   try simp only [Act.put, sb, List.set] at hM
   exact hM
  have M14 : Hid (∀ (b0 : Nat) (p3 : Option Addr) (t3 : Nat) (b13 : Nat) (w' : World), Below w1.heap.size w1 w' → RowSet w' w1.heap.size [Rv c p3 t3, Rb b13 [.slice none 0 0, .slice none 0 0, .slice none 0 0]] → T 6 #[true, true, true, true, false, true, true, false, false, true, true, false, false, true, false] (Act.put (Act.put (Act.put (Act.put (Act.put (Act.put (Act.put (Act.put (Act.put A0 (some 7) (.slice (some ⟨b0, 0, none⟩) 0 0)) (some 8) (.pointer (some ⟨w.heap.size, 0, none⟩))) (some 9) (.slice a0 c.vars.length c0)) (some 10) (.slice p3 c.vars.length t3)) (some 12) (.pointer (some ⟨w.heap.size, 1, none⟩))) (some 13) (.slice a1 c.arrays.length c1)) (some 16) (.pointer (some ⟨w.heap.size, 2, none⟩))) (some 17) (.slice a2 c.list.length c2)) (some 5) (.pointer (some ⟨b13, 0, none⟩))) w') := by
   clear M30 M29 M27 M28 M24 M25 M26 M19 M20 M23 M12 M13
   refine Lib.hid ?_
   intro b0 p3 t3 b13 w' tot rs
   have hsz := tot.size
   have hHeld := HSS.out _ tot
   have hTT := hT.out; subst hTT; have hAA := hA.out; subst hAA; clear hT hA
   change wpAnyH _ _ _ _ _ 6 _ _ _
   try simp only [Act.put, sb, List.set]
   refine wpAnyH_ready (rs := [4, 8]) (by kernel_rfl) (by simp) ?_
   refine AllReadyH.cons rfl (fun K hK => ?_) ?_
   ·-- 4
    go_simp
    refine hK.out _ _ (HSS.out _ (bal tot _)) (fun hHeld => ?_)
    clear hK K
    try simp only [Act.put, sb, List.set]
    have hM := M21.out b0 p3 t3 w'.heap.size b13 _ (bal tot _) (RowSet.sub (RowSet.lit rs 4 3 1 #[] 0 (by omega) (by unfold maxLen; omega) (by simp)) (Sb (Mt Mh) (Sb Mh (Sb (Mt (Mt Mh)) sub_nil))))
    try simp only [Act.put, sb, List.set] at hM
    exact hM
   refine AllReadyH.cons rfl (fun K hK => ?_) AllReadyH.nil
   go_simp
   refine hK.out _ _ (HSS.out _ (bal tot _)) (fun hHeld => ?_)
   clear hK K
   try simp only [Act.put, sb, List.set]
   have hM := M22.out b0 p3 t3 w'.heap.size b13 _ (bal tot _) (RowSet.sub (RowSet.lit rs 8 32 5 #[] 0 (by omega) (by unfold maxLen; omega) (by simp)) (Sb (Mt Mh) (Sb Mh (Sb (Mt (Mt Mh)) sub_nil))))
   try simp only [Act.put, sb, List.set] at hM
   exact hM
  have M15 : Hid (∀ (b0 : Nat) (b4 : Nat) (b8 : Nat) (w' : World), Below w1.heap.size w1 w' → RowSet w' w1.heap.size [Re 0 b0, Re 4 b4, Rn 8 b8] → T 6 #[true, true, true, false, true, true, true, false, true, true, true, false, false, false, false] (Act.put (Act.put (Act.put (Act.put (Act.put (Act.put (Act.put (Act.put (Act.put A0 (some 7) (.slice (some ⟨b0, 0, none⟩) 0 0)) (some 8) (.pointer (some ⟨w.heap.size, 0, none⟩))) (some 9) (.slice a0 c.vars.length c0)) (some 11) (.slice (some ⟨b4, 0, none⟩) 0 0)) (some 12) (.pointer (some ⟨w.heap.size, 1, none⟩))) (some 13) (.slice a1 c.arrays.length c1)) (some 15) (.slice (some ⟨b8, 0, none⟩) 0 0)) (some 16) (.pointer (some ⟨w.heap.size, 2, none⟩))) (some 17) (.slice a2 c.list.length c2)) w') := by
   clear M30 M29 M27 M28 M24 M25 M26 M19 M21 M22 M12 M13 M14
   refine Lib.hid ?_
   intro b0 b4 b8 w' tot rs
   have hsz := tot.size
   have hHeld := HSS.out _ tot
   have hTT := hT.out; subst hTT; have hAA := hA.out; subst hAA; clear hT hA
   change wpAnyH _ _ _ _ _ 6 _ _ _
   try simp only [Act.put, sb, List.set]
   refine wpAnyH_ready (rs := [3, 13]) (by kernel_rfl) (by simp) ?_
   refine AllReadyH.cons rfl (fun K hK => ?_) ?_
   ·-- 3
    have HO := rs.own (Re 0 b0 : RowK) Mh
    have hol := fun q hq => (HO.lt q hq).1
    refine step_aps tInts rfl _ _ rfl (w1.heap.size) _ 0 ([]) rfl HO _ (c.vars.length) (ints c.vars) rfl ((HRC.out _ tot).a) (one_ints c.vars) (by omega) (by omega) ?_
    intro vA wA oA hcA hnA _
    try simp only [Nat.zero_add, List.nil_append] at oA
    obtain ⟨p3, t3, rfl⟩ := Oh oA
    have tot2 := tot_chg tot hcA hol
    have rs2 := RowSet.push rs (Re 0 b0 : RowK) Mh oA hcA hnA (l' := [Re 4 b4, Rn 8 b8]) (oth_cons (Mt Mh) (show (4 : Nat) ≠ 0 by decide) (oth_cons (Mt (Mt Mh)) (show (8 : Nat) ≠ 0 by decide) oth_nil))
    clear HO hol oA hcA hnA
    refine hK.out _ _ (HSS.out _ tot2) (fun hHeld => ?_)
    clear hK K
    try simp only [Act.put, sb, List.set]
    have hM := M20.out b0 p3 t3 b4 b8 _ tot2 (RowSet.sub rs2 (Sb Mh (Sb (Mt Mh) (Sb (Mt (Mt Mh)) sub_nil))))
    try simp only [Act.put, sb, List.set] at hM
    exact hM
   refine AllReadyH.cons rfl (fun K hK => ?_) AllReadyH.nil
   go_simp
   refine hK.out _ _ (HSS.out _ (bal tot _)) (fun hHeld => ?_)
   clear hK K
   try simp only [Act.put, sb, List.set]
   have hM := M23.out b0 b4 b8 w'.heap.size _ (bal tot _) (RowSet.sub (RowSet.lit rs 13 26 3 #[.slice none 0 0, .slice none 0 0, .slice none 0 0] 1 (by omega) (by unfold maxLen; omega) (by simp)) (Sb (Mt Mh) (Sb (Mt (Mt Mh)) (Sb (Mt (Mt (Mt Mh))) (Sb Mh sub_nil)))))
   try simp only [Act.put, sb, List.set] at hM
   exact hM
  have M16 : Hid (∀ (b0 : Nat) (b4 : Nat) (b13 : Nat) (w' : World), Below w1.heap.size w1 w' → RowSet w' w1.heap.size [Re 0 b0, Re 4 b4, Rb b13 [.slice none 0 0, .slice none 0 0, .slice none 0 0]] → T 6 #[true, true, true, false, true, true, true, false, false, true, true, false, false, true, false] (Act.put (Act.put (Act.put (Act.put (Act.put (Act.put (Act.put (Act.put (Act.put A0 (some 7) (.slice (some ⟨b0, 0, none⟩) 0 0)) (some 8) (.pointer (some ⟨w.heap.size, 0, none⟩))) (some 9) (.slice a0 c.vars.length c0)) (some 11) (.slice (some ⟨b4, 0, none⟩) 0 0)) (some 12) (.pointer (some ⟨w.heap.size, 1, none⟩))) (some 13) (.slice a1 c.arrays.length c1)) (some 16) (.pointer (some ⟨w.heap.size, 2, none⟩))) (some 17) (.slice a2 c.list.length c2)) (some 5) (.pointer (some ⟨b13, 0, none⟩))) w') := by
   clear M30 M29 M27 M28 M24 M25 M26 M19 M20 M22 M12 M13 M14 M15
   refine Lib.hid ?_
   intro b0 b4 b13 w' tot rs
   have hsz := tot.size
   have hHeld := HSS.out _ tot
   have hTT := hT.out; subst hTT; have hAA := hA.out; subst hAA; clear hT hA
   change wpAnyH _ _ _ _ _ 6 _ _ _
   try simp only [Act.put, sb, List.set]
   refine wpAnyH_ready (rs := [3, 8]) (by kernel_rfl) (by simp) ?_
   refine AllReadyH.cons rfl (fun K hK => ?_) ?_
   ·-- 3
    have HO := rs.own (Re 0 b0 : RowK) Mh
    have hol := fun q hq => (HO.lt q hq).1
    refine step_aps tInts rfl _ _ rfl (w1.heap.size) _ 0 ([]) rfl HO _ (c.vars.length) (ints c.vars) rfl ((HRC.out _ tot).a) (one_ints c.vars) (by omega) (by omega) ?_
    intro vA wA oA hcA hnA _
    try simp only [Nat.zero_add, List.nil_append] at oA
    obtain ⟨p3, t3, rfl⟩ := Oh oA
    have tot2 := tot_chg tot hcA hol
    have rs2 := RowSet.push rs (Re 0 b0 : RowK) Mh oA hcA hnA (l' := [Re 4 b4, Rb b13 [.slice none 0 0, .slice none 0 0, .slice none 0 0]]) (oth_cons (Mt Mh) (show (4 : Nat) ≠ 0 by decide) (oth_cons (Mt (Mt Mh)) (show (13 : Nat) ≠ 0 by decide) oth_nil))
    clear HO hol oA hcA hnA
    refine hK.out _ _ (HSS.out _ tot2) (fun hHeld => ?_)
    clear hK K
    try simp only [Act.put, sb, List.set]
    have hM := M21.out b0 p3 t3 b4 b13 _ tot2 (RowSet.sub rs2 (Sb Mh (Sb (Mt Mh) (Sb (Mt (Mt Mh)) sub_nil))))
    try simp only [Act.put, sb, List.set] at hM
    exact hM
   refine AllReadyH.cons rfl (fun K hK => ?_) AllReadyH.nil
   go_simp
   refine hK.out _ _ (HSS.out _ (bal tot _)) (fun hHeld => ?_)
   clear hK K
   try simp only [Act.put, sb, List.set]
   have hM := M23.out b0 b4 w'.heap.size b13 _ (bal tot _) (RowSet.sub (RowSet.lit rs 8 32 5 #[] 0 (by omega) (by unfold maxLen; omega) (by simp)) (Sb (Mt Mh) (Sb (Mt (Mt Mh)) (Sb Mh (Sb (Mt (Mt (Mt Mh))) sub_nil)))))
   try simp only [Act.put, sb, List.set] at hM
   exact hM
  have M17 : Hid (∀ (b0 : Nat) (b8 : Nat) (b13 : Nat) (w' : World), Below w1.heap.size w1 w' → RowSet w' w1.heap.size [Re 0 b0, Rn 8 b8, Rb b13 [.slice none 0 0, .slice none 0 0, .slice none 0 0]] → T 6 #[true, true, true, false, false, true, true, false, true, true, true, false, false, true, false] (Act.put (Act.put (Act.put (Act.put (Act.put (Act.put (Act.put (Act.put (Act.put A0 (some 7) (.slice (some ⟨b0, 0, none⟩) 0 0)) (some 8) (.pointer (some ⟨w.heap.size, 0, none⟩))) (some 9) (.slice a0 c.vars.length c0)) (some 12) (.pointer (some ⟨w.heap.size, 1, none⟩))) (some 13) (.slice a1 c.arrays.length c1)) (some 15) (.slice (some ⟨b8, 0, none⟩) 0 0)) (some 16) (.pointer (some ⟨w.heap.size, 2, none⟩))) (some 17) (.slice a2 c.list.length c2)) (some 5) (.pointer (some ⟨b13, 0, none⟩))) w') := by
   clear M30 M29 M27 M28 M24 M25 M26 M19 M20 M21 M12 M13 M14 M15 M16
   refine Lib.hid ?_
   intro b0 b8 b13 w' tot rs
   have hsz := tot.size
   have hHeld := HSS.out _ tot
   have hTT := hT.out; subst hTT; have hAA := hA.out; subst hAA; clear hT hA
   change wpAnyH _ _ _ _ _ 6 _ _ _
   try simp only [Act.put, sb, List.set]
   refine wpAnyH_ready (rs := [3, 4]) (by kernel_rfl) (by simp) ?_
   refine AllReadyH.cons rfl (fun K hK => ?_) ?_
   ·-- 3
    have HO := rs.own (Re 0 b0 : RowK) Mh
    have hol := fun q hq => (HO.lt q hq).1
    refine step_aps tInts rfl _ _ rfl (w1.heap.size) _ 0 ([]) rfl HO _ (c.vars.length) (ints c.vars) rfl ((HRC.out _ tot).a) (one_ints c.vars) (by omega) (by omega) ?_
    intro vA wA oA hcA hnA _
    try simp only [Nat.zero_add, List.nil_append] at oA
    obtain ⟨p3, t3, rfl⟩ := Oh oA
    have tot2 := tot_chg tot hcA hol
    have rs2 := RowSet.push rs (Re 0 b0 : RowK) Mh oA hcA hnA (l' := [Rn 8 b8, Rb b13 [.slice none 0 0, .slice none 0 0, .slice none 0 0]]) (oth_cons (Mt Mh) (show (8 : Nat) ≠ 0 by decide) (oth_cons (Mt (Mt Mh)) (show (13 : Nat) ≠ 0 by decide) oth_nil))
    clear HO hol oA hcA hnA
    refine hK.out _ _ (HSS.out _ tot2) (fun hHeld => ?_)
    clear hK K
    try simp only [Act.put, sb, List.set]
    have hM := M22.out b0 p3 t3 b8 b13 _ tot2 (RowSet.sub rs2 (Sb Mh (Sb (Mt Mh) (Sb (Mt (Mt Mh)) sub_nil))))
    try simp only [Act.put, sb, List.set] at hM
    exact hM
   refine AllReadyH.cons rfl (fun K hK => ?_) AllReadyH.nil
   go_simp
   refine hK.out _ _ (HSS.out _ (bal tot _)) (fun hHeld => ?_)
   clear hK K
   try simp only [Act.put, sb, List.set]
   have hM := M23.out b0 w'.heap.size b8 b13 _ (bal tot _) (RowSet.sub (RowSet.lit rs 4 3 1 #[] 0 (by omega) (by unfold maxLen; omega) (by simp)) (Sb (Mt Mh) (Sb Mh (Sb (Mt (Mt Mh)) (Sb (Mt (Mt (Mt Mh))) sub_nil)))))
   try simp only [Act.put, sb, List.set] at hM
   exact hM
  have M18 : Hid (∀ (b4 : Nat) (b8 : Nat) (b13 : Nat) (w' : World), Below w1.heap.size w1 w' → RowSet w' w1.heap.size [Re 4 b4, Rn 8 b8, Rb b13 [.slice none 0 0, .slice none 0 0, .slice none 0 0]] → T 6 #[false, true, true, false, true, true, true, false, true, true, true, false, false, true, false] (Act.put (Act.put (Act.put (Act.put (Act.put (Act.put (Act.put (Act.put (Act.put A0 (some 8) (.pointer (some ⟨w.heap.size, 0, none⟩))) (some 9) (.slice a0 c.vars.length c0)) (some 11) (.slice (some ⟨b4, 0, none⟩) 0 0)) (some 12) (.pointer (some ⟨w.heap.size, 1, none⟩))) (some 13) (.slice a1 c.arrays.length c1)) (some 15) (.slice (some ⟨b8, 0, none⟩) 0 0)) (some 16) (.pointer (some ⟨w.heap.size, 2, none⟩))) (some 17) (.slice a2 c.list.length c2)) (some 5) (.pointer (some ⟨b13, 0, none⟩))) w') := by
   clear M30 M29 M27 M28 M24 M25 M26 M19 M20 M21 M22 M12 M13 M14 M15 M16 M17
   refine Lib.hid ?_
   intro b4 b8 b13 w' tot rs
   have hsz := tot.size
   have hHeld := HSS.out _ tot
   have hTT := hT.out; subst hTT; have hAA := hA.out; subst hAA; clear hT hA
   change wpAnyH _ _ _ _ _ 6 _ _ _
   try simp only [Act.put, sb, List.set]
   refine wpAnyH_ready (rs := [0]) (by kernel_rfl) (by simp) ?_
   refine AllReadyH.cons rfl (fun K hK => ?_) AllReadyH.nil
   go_simp
   refine hK.out _ _ (HSS.out _ (bal tot _)) (fun hHeld => ?_)
   clear hK K
   try simp only [Act.put, sb, List.set]
   have hM := M23.out w'.heap.size b4 b8 b13 _ (bal tot _) (RowSet.sub (RowSet.lit rs 0 3 1 #[] 0 (by omega) (by unfold maxLen; omega) (by simp)) (Sb Mh (Sb (Mt Mh) (Sb (Mt (Mt Mh)) (Sb (Mt (Mt (Mt Mh))) sub_nil)))))
   try simp only [Act.put, sb, List.set] at hM
   exact hM
  have M5 : Hid (∀ (b0 : Nat) (p3 : Option Addr) (t3 : Nat) (w' : World), Below w1.heap.size w1 w' → RowSet w' w1.heap.size [Rv c p3 t3] → T 7 #[true, true, true, true, false, true, true, false, false, true, true, false, false, false, false] (Act.put (Act.put (Act.put (Act.put (Act.put (Act.put (Act.put (Act.put A0 (some 7) (.slice (some ⟨b0, 0, none⟩) 0 0)) (some 8) (.pointer (some ⟨w.heap.size, 0, none⟩))) (some 9) (.slice a0 c.vars.length c0)) (some 10) (.slice p3 c.vars.length t3)) (some 12) (.pointer (some ⟨w.heap.size, 1, none⟩))) (some 13) (.slice a1 c.arrays.length c1)) (some 16) (.pointer (some ⟨w.heap.size, 2, none⟩))) (some 17) (.slice a2 c.list.length c2)) w') := by
   clear M30 M29 M27 M28 M24 M25 M26 M19 M20 M21 M22 M23 M15 M16 M17 M18
   refine Lib.hid ?_
   intro b0 p3 t3 w' tot rs
   have hsz := tot.size
   have hHeld := HSS.out _ tot
   have hTT := hT.out; subst hTT; have hAA := hA.out; subst hAA; clear hT hA
   change wpAnyH _ _ _ _ _ 7 _ _ _
   try simp only [Act.put, sb, List.set]
   refine wpAnyH_ready (rs := [4, 8, 13]) (by kernel_rfl) (by simp) ?_
   refine AllReadyH.cons rfl (fun K hK => ?_) ?_
   ·-- 4
    go_simp
    refine hK.out _ _ (HSS.out _ (bal tot _)) (fun hHeld => ?_)
    clear hK K
    try simp only [Act.put, sb, List.set]
    have hM := M12.out b0 p3 t3 w'.heap.size _ (bal tot _) (RowSet.sub (RowSet.lit rs 4 3 1 #[] 0 (by omega) (by unfold maxLen; omega) (by simp)) (Sb (Mt Mh) (Sb Mh sub_nil)))
    try simp only [Act.put, sb, List.set] at hM
    exact hM
   refine AllReadyH.cons rfl (fun K hK => ?_) ?_
   ·-- 8
    go_simp
    refine hK.out _ _ (HSS.out _ (bal tot _)) (fun hHeld => ?_)
    clear hK K
    try simp only [Act.put, sb, List.set]
    have hM := M13.out b0 p3 t3 w'.heap.size _ (bal tot _) (RowSet.sub (RowSet.lit rs 8 32 5 #[] 0 (by omega) (by unfold maxLen; omega) (by simp)) (Sb (Mt Mh) (Sb Mh sub_nil)))
    try simp only [Act.put, sb, List.set] at hM
    exact hM
   refine AllReadyH.cons rfl (fun K hK => ?_) AllReadyH.nil
   go_simp
   refine hK.out _ _ (HSS.out _ (bal tot _)) (fun hHeld => ?_)
   clear hK K
   try simp only [Act.put, sb, List.set]
   have hM := M14.out b0 p3 t3 w'.heap.size _ (bal tot _) (RowSet.sub (RowSet.lit rs 13 26 3 #[.slice none 0 0, .slice none 0 0, .slice none 0 0] 1 (by omega) (by unfold maxLen; omega) (by simp)) (Sb (Mt Mh) (Sb Mh sub_nil)))
   try simp only [Act.put, sb, List.set] at hM
   exact hM
  have M6 : Hid (∀ (b0 : Nat) (b4 : Nat) (w' : World), Below w1.heap.size w1 w' → RowSet w' w1.heap.size [Re 0 b0, Re 4 b4] → T 7 #[true, true, true, false, true, true, true, false, false, true, true, false, false, false, false] (Act.put (Act.put (Act.put (Act.put (Act.put (Act.put (Act.put (Act.put A0 (some 7) (.slice (some ⟨b0, 0, none⟩) 0 0)) (some 8) (.pointer (some ⟨w.heap.size, 0, none⟩))) (some 9) (.slice a0 c.vars.length c0)) (some 11) (.slice (some ⟨b4, 0, none⟩) 0 0)) (some 12) (.pointer (some ⟨w.heap.size, 1, none⟩))) (some 13) (.slice a1 c.arrays.length c1)) (some 16) (.pointer (some ⟨w.heap.size, 2, none⟩))) (some 17) (.slice a2 c.list.length c2)) w') := by
   clear M30 M29 M27 M28 M24 M25 M26 M19 M20 M21 M22 M23 M13 M14 M17 M18 M5
   refine Lib.hid ?_
   intro b0 b4 w' tot rs
   have hsz := tot.size
   have hHeld := HSS.out _ tot
   have hTT := hT.out; subst hTT; have hAA := hA.out; subst hAA; clear hT hA
   change wpAnyH _ _ _ _ _ 7 _ _ _
   try simp only [Act.put, sb, List.set]
   refine wpAnyH_ready (rs := [3, 8, 13]) (by kernel_rfl) (by simp) ?_
   refine AllReadyH.cons rfl (fun K hK => ?_) ?_
   ·-- 3
    have HO := rs.own (Re 0 b0 : RowK) Mh
    have hol := fun q hq => (HO.lt q hq).1
    refine step_aps tInts rfl _ _ rfl (w1.heap.size) _ 0 ([]) rfl HO _ (c.vars.length) (ints c.vars) rfl ((HRC.out _ tot).a) (one_ints c.vars) (by omega) (by omega) ?_
    intro vA wA oA hcA hnA _
    try simp only [Nat.zero_add, List.nil_append] at oA
    obtain ⟨p3, t3, rfl⟩ := Oh oA
    have tot2 := tot_chg tot hcA hol
    have rs2 := RowSet.push rs (Re 0 b0 : RowK) Mh oA hcA hnA (l' := [Re 4 b4]) (oth_cons (Mt Mh) (show (4 : Nat) ≠ 0 by decide) oth_nil)
    clear HO hol oA hcA hnA
    refine hK.out _ _ (HSS.out _ tot2) (fun hHeld => ?_)
    clear hK K
    try simp only [Act.put, sb, List.set]
    have hM := M12.out b0 p3 t3 b4 _ tot2 (RowSet.sub rs2 (Sb Mh (Sb (Mt Mh) sub_nil)))
    try simp only [Act.put, sb, List.set] at hM
    exact hM
   refine AllReadyH.cons rfl (fun K hK => ?_) ?_
   ·-- 8
    go_simp
    refine hK.out _ _ (HSS.out _ (bal tot _)) (fun hHeld => ?_)
    clear hK K
    try simp only [Act.put, sb, List.set]
    have hM := M15.out b0 b4 w'.heap.size _ (bal tot _) (RowSet.sub (RowSet.lit rs 8 32 5 #[] 0 (by omega) (by unfold maxLen; omega) (by simp)) (Sb (Mt Mh) (Sb (Mt (Mt Mh)) (Sb Mh sub_nil))))
    try simp only [Act.put, sb, List.set] at hM
    exact hM
   refine AllReadyH.cons rfl (fun K hK => ?_) AllReadyH.nil
   go_simp
   refine hK.out _ _ (HSS.out _ (bal tot _)) (fun hHeld => ?_)
   clear hK K
   try simp only [Act.put, sb, List.set]
   have hM := M16.out b0 b4 w'.heap.size _ (bal tot _) (RowSet.sub (RowSet.lit rs 13 26 3 #[.slice none 0 0, .slice none 0 0, .slice none 0 0] 1 (by omega) (by unfold maxLen; omega) (by simp)) (Sb (Mt Mh) (Sb (Mt (Mt Mh)) (Sb Mh sub_nil))))
   try simp only [Act.put, sb, List.set] at hM
   exact hM
  have M7 : Hid (∀ (b0 : Nat) (b8 : Nat) (w' : World), Below w1.heap.size w1 w' → RowSet w' w1.heap.size [Re 0 b0, Rn 8 b8] → T 7 #[true, true, true, false, false, true, true, false, true, true, true, false, false, false, false] (Act.put (Act.put (Act.put (Act.put (Act.put (Act.put (Act.put (Act.put A0 (some 7) (.slice (some ⟨b0, 0, none⟩) 0 0)) (some 8) (.pointer (some ⟨w.heap.size, 0, none⟩))) (some 9) (.slice a0 c.vars.length c0)) (some 12) (.pointer (some ⟨w.heap.size, 1, none⟩))) (some 13) (.slice a1 c.arrays.length c1)) (some 15) (.slice (some ⟨b8, 0, none⟩) 0 0)) (some 16) (.pointer (some ⟨w.heap.size, 2, none⟩))) (some 17) (.slice a2 c.list.length c2)) w') := by
   clear M30 M29 M27 M28 M24 M25 M26 M19 M20 M21 M22 M23 M12 M14 M16 M18 M5 M6
   refine Lib.hid ?_
   intro b0 b8 w' tot rs
   have hsz := tot.size
   have hHeld := HSS.out _ tot
   have hTT := hT.out; subst hTT; have hAA := hA.out; subst hAA; clear hT hA
   change wpAnyH _ _ _ _ _ 7 _ _ _
   try simp only [Act.put, sb, List.set]
   refine wpAnyH_ready (rs := [3, 4, 13]) (by kernel_rfl) (by simp) ?_
   refine AllReadyH.cons rfl (fun K hK => ?_) ?_
   ·-- 3
    have HO := rs.own (Re 0 b0 : RowK) Mh
    have hol := fun q hq => (HO.lt q hq).1
    refine step_aps tInts rfl _ _ rfl (w1.heap.size) _ 0 ([]) rfl HO _ (c.vars.length) (ints c.vars) rfl ((HRC.out _ tot).a) (one_ints c.vars) (by omega) (by omega) ?_
    intro vA wA oA hcA hnA _
    try simp only [Nat.zero_add, List.nil_append] at oA
    obtain ⟨p3, t3, rfl⟩ := Oh oA
    have tot2 := tot_chg tot hcA hol
    have rs2 := RowSet.push rs (Re 0 b0 : RowK) Mh oA hcA hnA (l' := [Rn 8 b8]) (oth_cons (Mt Mh) (show (8 : Nat) ≠ 0 by decide) oth_nil)
    clear HO hol oA hcA hnA
    refine hK.out _ _ (HSS.out _ tot2) (fun hHeld => ?_)
    clear hK K
    try simp only [Act.put, sb, List.set]
    have hM := M13.out b0 p3 t3 b8 _ tot2 (RowSet.sub rs2 (Sb Mh (Sb (Mt Mh) sub_nil)))
    try simp only [Act.put, sb, List.set] at hM
    exact hM
   refine AllReadyH.cons rfl (fun K hK => ?_) ?_
   ·-- 4
    go_simp
    refine hK.out _ _ (HSS.out _ (bal tot _)) (fun hHeld => ?_)
    clear hK K
    try simp only [Act.put, sb, List.set]
    have hM := M15.out b0 w'.heap.size b8 _ (bal tot _) (RowSet.sub (RowSet.lit rs 4 3 1 #[] 0 (by omega) (by unfold maxLen; omega) (by simp)) (Sb (Mt Mh) (Sb Mh (Sb (Mt (Mt Mh)) sub_nil))))
    try simp only [Act.put, sb, List.set] at hM
    exact hM
   refine AllReadyH.cons rfl (fun K hK => ?_) AllReadyH.nil
   go_simp
   refine hK.out _ _ (HSS.out _ (bal tot _)) (fun hHeld => ?_)
   clear hK K
   try simp only [Act.put, sb, List.set]
   have hM := M17.out b0 b8 w'.heap.size _ (bal tot _) (RowSet.sub (RowSet.lit rs 13 26 3 #[.slice none 0 0, .slice none 0 0, .slice none 0 0] 1 (by omega) (by unfold maxLen; omega) (by simp)) (Sb (Mt Mh) (Sb (Mt (Mt Mh)) (Sb Mh sub_nil))))
   try simp only [Act.put, sb, List.set] at hM
   exact hM
  have M8 : Hid (∀ (b0 : Nat) (b13 : Nat) (w' : World), Below w1.heap.size w1 w' → RowSet w' w1.heap.size [Re 0 b0, Rb b13 [.slice none 0 0, .slice none 0 0, .slice none 0 0]] → T 7 #[true, true, true, false, false, true, true, false, false, true, true, false, false, true, false] (Act.put (Act.put (Act.put (Act.put (Act.put (Act.put (Act.put (Act.put A0 (some 7) (.slice (some ⟨b0, 0, none⟩) 0 0)) (some 8) (.pointer (some ⟨w.heap.size, 0, none⟩))) (some 9) (.slice a0 c.vars.length c0)) (some 12) (.pointer (some ⟨w.heap.size, 1, none⟩))) (some 13) (.slice a1 c.arrays.length c1)) (some 16) (.pointer (some ⟨w.heap.size, 2, none⟩))) (some 17) (.slice a2 c.list.length c2)) (some 5) (.pointer (some ⟨b13, 0, none⟩))) w') := by
   clear M30 M29 M27 M28 M24 M25 M26 M19 M20 M21 M22 M23 M12 M13 M15 M18 M5 M6 M7
   refine Lib.hid ?_
   intro b0 b13 w' tot rs
   have hsz := tot.size
   have hHeld := HSS.out _ tot
   have hTT := hT.out; subst hTT; have hAA := hA.out; subst hAA; clear hT hA
   change wpAnyH _ _ _ _ _ 7 _ _ _
   try simp only [Act.put, sb, List.set]
   refine wpAnyH_ready (rs := [3, 4, 8]) (by kernel_rfl) (by simp) ?_
   refine AllReadyH.cons rfl (fun K hK => ?_) ?_
   ·-- 3
    have HO := rs.own (Re 0 b0 : RowK) Mh
    have hol := fun q hq => (HO.lt q hq).1
    refine step_aps tInts rfl _ _ rfl (w1.heap.size) _ 0 ([]) rfl HO _ (c.vars.length) (ints c.vars) rfl ((HRC.out _ tot).a) (one_ints c.vars) (by omega) (by omega) ?_
    intro vA wA oA hcA hnA _
    try simp only [Nat.zero_add, List.nil_append] at oA
    obtain ⟨p3, t3, rfl⟩ := Oh oA
    have tot2 := tot_chg tot hcA hol
    have rs2 := RowSet.push rs (Re 0 b0 : RowK) Mh oA hcA hnA (l' := [Rb b13 [.slice none 0 0, .slice none 0 0, .slice none 0 0]]) (oth_cons (Mt Mh) (show (13 : Nat) ≠ 0 by decide) oth_nil)
    clear HO hol oA hcA hnA
    refine hK.out _ _ (HSS.out _ tot2) (fun hHeld => ?_)
    clear hK K
    try simp only [Act.put, sb, List.set]
    have hM := M14.out b0 p3 t3 b13 _ tot2 (RowSet.sub rs2 (Sb Mh (Sb (Mt Mh) sub_nil)))
    try simp only [Act.put, sb, List.set] at hM
    exact hM
   refine AllReadyH.cons rfl (fun K hK => ?_) ?_
   ·-- 4
    go_simp
    refine hK.out _ _ (HSS.out _ (bal tot _)) (fun hHeld => ?_)
    clear hK K
    try simp only [Act.put, sb, List.set]
    have hM := M16.out b0 w'.heap.size b13 _ (bal tot _) (RowSet.sub (RowSet.lit rs 4 3 1 #[] 0 (by omega) (by unfold maxLen; omega) (by simp)) (Sb (Mt Mh) (Sb Mh (Sb (Mt (Mt Mh)) sub_nil))))
    try simp only [Act.put, sb, List.set] at hM
    exact hM
   refine AllReadyH.cons rfl (fun K hK => ?_) AllReadyH.nil
   go_simp
   refine hK.out _ _ (HSS.out _ (bal tot _)) (fun hHeld => ?_)
   clear hK K
   try simp only [Act.put, sb, List.set]
   have hM := M17.out b0 w'.heap.size b13 _ (bal tot _) (RowSet.sub (RowSet.lit rs 8 32 5 #[] 0 (by omega) (by unfold maxLen; omega) (by simp)) (Sb (Mt Mh) (Sb Mh (Sb (Mt (Mt Mh)) sub_nil))))
   try simp only [Act.put, sb, List.set] at hM
   exact hM
  have M9 : Hid (∀ (b4 : Nat) (b8 : Nat) (w' : World), Below w1.heap.size w1 w' → RowSet w' w1.heap.size [Re 4 b4, Rn 8 b8] → T 7 #[false, true, true, false, true, true, true, false, true, true, true, false, false, false, false] (Act.put (Act.put (Act.put (Act.put (Act.put (Act.put (Act.put (Act.put A0 (some 8) (.pointer (some ⟨w.heap.size, 0, none⟩))) (some 9) (.slice a0 c.vars.length c0)) (some 11) (.slice (some ⟨b4, 0, none⟩) 0 0)) (some 12) (.pointer (some ⟨w.heap.size, 1, none⟩))) (some 13) (.slice a1 c.arrays.length c1)) (some 15) (.slice (some ⟨b8, 0, none⟩) 0 0)) (some 16) (.pointer (some ⟨w.heap.size, 2, none⟩))) (some 17) (.slice a2 c.list.length c2)) w') := by
   clear M30 M29 M27 M28 M24 M25 M26 M19 M20 M21 M22 M23 M12 M13 M14 M16 M17 M5 M6 M7 M8
   refine Lib.hid ?_
   intro b4 b8 w' tot rs
   have hsz := tot.size
   have hHeld := HSS.out _ tot
   have hTT := hT.out; subst hTT; have hAA := hA.out; subst hAA; clear hT hA
   change wpAnyH _ _ _ _ _ 7 _ _ _
   try simp only [Act.put, sb, List.set]
   refine wpAnyH_ready (rs := [0, 13]) (by kernel_rfl) (by simp) ?_
   refine AllReadyH.cons rfl (fun K hK => ?_) ?_
   ·-- 0
    go_simp
    refine hK.out _ _ (HSS.out _ (bal tot _)) (fun hHeld => ?_)
    clear hK K
    try simp only [Act.put, sb, List.set]
    have hM := M15.out w'.heap.size b4 b8 _ (bal tot _) (RowSet.sub (RowSet.lit rs 0 3 1 #[] 0 (by omega) (by unfold maxLen; omega) (by simp)) (Sb Mh (Sb (Mt Mh) (Sb (Mt (Mt Mh)) sub_nil))))
    try simp only [Act.put, sb, List.set] at hM
    exact hM
   refine AllReadyH.cons rfl (fun K hK => ?_) AllReadyH.nil
   go_simp
   refine hK.out _ _ (HSS.out _ (bal tot _)) (fun hHeld => ?_)
   clear hK K
   try simp only [Act.put, sb, List.set]
   have hM := M18.out b4 b8 w'.heap.size _ (bal tot _) (RowSet.sub (RowSet.lit rs 13 26 3 #[.slice none 0 0, .slice none 0 0, .slice none 0 0] 1 (by omega) (by unfold maxLen; omega) (by simp)) (Sb (Mt Mh) (Sb (Mt (Mt Mh)) (Sb Mh sub_nil))))
   try simp only [Act.put, sb, List.set] at hM
   exact hM
  have M10 : Hid (∀ (b4 : Nat) (b13 : Nat) (w' : World), Below w1.heap.size w1 w' → RowSet w' w1.heap.size [Re 4 b4, Rb b13 [.slice none 0 0, .slice none 0 0, .slice none 0 0]] → T 7 #[false, true, true, false, true, true, true, false, false, true, true, false, false, true, false] (Act.put (Act.put (Act.put (Act.put (Act.put (Act.put (Act.put (Act.put A0 (some 8) (.pointer (some ⟨w.heap.size, 0, none⟩))) (some 9) (.slice a0 c.vars.length c0)) (some 11) (.slice (some ⟨b4, 0, none⟩) 0 0)) (some 12) (.pointer (some ⟨w.heap.size, 1, none⟩))) (some 13) (.slice a1 c.arrays.length c1)) (some 16) (.pointer (some ⟨w.heap.size, 2, none⟩))) (some 17) (.slice a2 c.list.length c2)) (some 5) (.pointer (some ⟨b13, 0, none⟩))) w') := by
   clear M30 M29 M27 M28 M24 M25 M26 M19 M20 M21 M22 M23 M12 M13 M14 M15 M17 M5 M6 M7 M8 M9
   refine Lib.hid ?_
   intro b4 b13 w' tot rs
   have hsz := tot.size
   have hHeld := HSS.out _ tot
   have hTT := hT.out; subst hTT; have hAA := hA.out; subst hAA; clear hT hA
   change wpAnyH _ _ _ _ _ 7 _ _ _
   try simp only [Act.put, sb, List.set]
   refine wpAnyH_ready (rs := [0, 8]) (by kernel_rfl) (by simp) ?_
   refine AllReadyH.cons rfl (fun K hK => ?_) ?_
   ·-- 0
    go_simp
    refine hK.out _ _ (HSS.out _ (bal tot _)) (fun hHeld => ?_)
    clear hK K
    try simp only [Act.put, sb, List.set]
    have hM := M16.out w'.heap.size b4 b13 _ (bal tot _) (RowSet.sub (RowSet.lit rs 0 3 1 #[] 0 (by omega) (by unfold maxLen; omega) (by simp)) (Sb Mh (Sb (Mt Mh) (Sb (Mt (Mt Mh)) sub_nil))))
    try simp only [Act.put, sb, List.set] at hM
    exact hM
   refine AllReadyH.cons rfl (fun K hK => ?_) AllReadyH.nil
   go_simp
   refine hK.out _ _ (HSS.out _ (bal tot _)) (fun hHeld => ?_)
   clear hK K
   try simp only [Act.put, sb, List.set]
   have hM := M18.out b4 w'.heap.size b13 _ (bal tot _) (RowSet.sub (RowSet.lit rs 8 32 5 #[] 0 (by omega) (by unfold maxLen; omega) (by simp)) (Sb (Mt Mh) (Sb Mh (Sb (Mt (Mt Mh)) sub_nil))))
   try simp only [Act.put, sb, List.set] at hM
   exact hM
  have M11 : Hid (∀ (b8 : Nat) (b13 : Nat) (w' : World), Below w1.heap.size w1 w' → RowSet w' w1.heap.size [Rn 8 b8, Rb b13 [.slice none 0 0, .slice none 0 0, .slice none 0 0]] → T 7 #[false, true, true, false, false, true, true, false, true, true, true, false, false, true, false] (Act.put (Act.put (Act.put (Act.put (Act.put (Act.put (Act.put (Act.put A0 (some 8) (.pointer (some ⟨w.heap.size, 0, none⟩))) (some 9) (.slice a0 c.vars.length c0)) (some 12) (.pointer (some ⟨w.heap.size, 1, none⟩))) (some 13) (.slice a1 c.arrays.length c1)) (some 15) (.slice (some ⟨b8, 0, none⟩) 0 0)) (some 16) (.pointer (some ⟨w.heap.size, 2, none⟩))) (some 17) (.slice a2 c.list.length c2)) (some 5) (.pointer (some ⟨b13, 0, none⟩))) w') := by
   clear M30 M29 M27 M28 M24 M25 M26 M19 M20 M21 M22 M23 M12 M13 M14 M15 M16 M5 M6 M7 M8 M9 M10
   refine Lib.hid ?_
   intro b8 b13 w' tot rs
   have hsz := tot.size
   have hHeld := HSS.out _ tot
   have hTT := hT.out; subst hTT; have hAA := hA.out; subst hAA; clear hT hA
   change wpAnyH _ _ _ _ _ 7 _ _ _
   try simp only [Act.put, sb, List.set]
   refine wpAnyH_ready (rs := [0, 4]) (by kernel_rfl) (by simp) ?_
   refine AllReadyH.cons rfl (fun K hK => ?_) ?_
   ·-- 0
    go_simp
    refine hK.out _ _ (HSS.out _ (bal tot _)) (fun hHeld => ?_)
    clear hK K
    try simp only [Act.put, sb, List.set]
    have hM := M17.out w'.heap.size b8 b13 _ (bal tot _) (RowSet.sub (RowSet.lit rs 0 3 1 #[] 0 (by omega) (by unfold maxLen; omega) (by simp)) (Sb Mh (Sb (Mt Mh) (Sb (Mt (Mt Mh)) sub_nil))))
    try simp only [Act.put, sb, List.set] at hM
    exact hM
   refine AllReadyH.cons rfl (fun K hK => ?_) AllReadyH.nil
   go_simp
   refine hK.out _ _ (HSS.out _ (bal tot _)) (fun hHeld => ?_)
   clear hK K
   try simp only [Act.put, sb, List.set]
   have hM := M18.out w'.heap.size b8 b13 _ (bal tot _) (RowSet.sub (RowSet.lit rs 4 3 1 #[] 0 (by omega) (by unfold maxLen; omega) (by simp)) (Sb Mh (Sb (Mt Mh) (Sb (Mt (Mt Mh)) sub_nil))))
   try simp only [Act.put, sb, List.set] at hM
   exact hM
  have M1 : Hid (∀ (b0 : Nat) (w' : World), Below w1.heap.size w1 w' → RowSet w' w1.heap.size [Re 0 b0] → T 8 #[true, true, true, false, false, true, true, false, false, true, true, false, false, false, false] (Act.put (Act.put (Act.put (Act.put (Act.put (Act.put (Act.put A0 (some 7) (.slice (some ⟨b0, 0, none⟩) 0 0)) (some 8) (.pointer (some ⟨w.heap.size, 0, none⟩))) (some 9) (.slice a0 c.vars.length c0)) (some 12) (.pointer (some ⟨w.heap.size, 1, none⟩))) (some 13) (.slice a1 c.arrays.length c1)) (some 16) (.pointer (some ⟨w.heap.size, 2, none⟩))) (some 17) (.slice a2 c.list.length c2)) w') := by
   clear M30 M29 M27 M28 M24 M25 M26 M19 M20 M21 M22 M23 M12 M13 M14 M15 M16 M17 M18 M9 M10 M11
   refine Lib.hid ?_
   intro b0 w' tot rs
   have hsz := tot.size
   have hHeld := HSS.out _ tot
   have hTT := hT.out; subst hTT; have hAA := hA.out; subst hAA; clear hT hA
   change wpAnyH _ _ _ _ _ 8 _ _ _
   try simp only [Act.put, sb, List.set]
   refine wpAnyH_ready (rs := [3, 4, 8, 13]) (by kernel_rfl) (by simp) ?_
   refine AllReadyH.cons rfl (fun K hK => ?_) ?_
   ·-- 3
    have HO := rs.own (Re 0 b0 : RowK) Mh
    have hol := fun q hq => (HO.lt q hq).1
    refine step_aps tInts rfl _ _ rfl (w1.heap.size) _ 0 ([]) rfl HO _ (c.vars.length) (ints c.vars) rfl ((HRC.out _ tot).a) (one_ints c.vars) (by omega) (by omega) ?_
    intro vA wA oA hcA hnA _
    try simp only [Nat.zero_add, List.nil_append] at oA
    obtain ⟨p3, t3, rfl⟩ := Oh oA
    have tot2 := tot_chg tot hcA hol
    have rs2 := RowSet.push rs (Re 0 b0 : RowK) Mh oA hcA hnA (l' := []) oth_nil
    clear HO hol oA hcA hnA
    refine hK.out _ _ (HSS.out _ tot2) (fun hHeld => ?_)
    clear hK K
    try simp only [Act.put, sb, List.set]
    have hM := M5.out b0 p3 t3 _ tot2 (RowSet.sub rs2 (Sb Mh sub_nil))
    try simp only [Act.put, sb, List.set] at hM
    exact hM
   refine AllReadyH.cons rfl (fun K hK => ?_) ?_
   ·-- 4
    go_simp
    refine hK.out _ _ (HSS.out _ (bal tot _)) (fun hHeld => ?_)
    clear hK K
    try simp only [Act.put, sb, List.set]
    have hM := M6.out b0 w'.heap.size _ (bal tot _) (RowSet.sub (RowSet.lit rs 4 3 1 #[] 0 (by omega) (by unfold maxLen; omega) (by simp)) (Sb (Mt Mh) (Sb Mh sub_nil)))
    try simp only [Act.put, sb, List.set] at hM
    exact hM
   refine AllReadyH.cons rfl (fun K hK => ?_) ?_
   ·-- 8
    go_simp
    refine hK.out _ _ (HSS.out _ (bal tot _)) (fun hHeld => ?_)
    clear hK K
    try simp only [Act.put, sb, List.set]
    have hM := M7.out b0 w'.heap.size _ (bal tot _) (RowSet.sub (RowSet.lit rs 8 32 5 #[] 0 (by omega) (by unfold maxLen; omega) (by simp)) (Sb (Mt Mh) (Sb Mh sub_nil)))
    try simp only [Act.put, sb, List.set] at hM
    exact hM
   refine AllReadyH.cons rfl (fun K hK => ?_) AllReadyH.nil
   go_simp
   refine hK.out _ _ (HSS.out _ (bal tot _)) (fun hHeld => ?_)
   clear hK K
   try simp only [Act.put, sb, List.set]
   have hM := M8.out b0 w'.heap.size _ (bal tot _) (RowSet.sub (RowSet.lit rs 13 26 3 #[.slice none 0 0, .slice none 0 0, .slice none 0 0] 1 (by omega) (by unfold maxLen; omega) (by simp)) (Sb (Mt Mh) (Sb Mh sub_nil)))
   try simp only [Act.put, sb, List.set] at hM
   exact hM
  have M2 : Hid (∀ (b4 : Nat) (w' : World), Below w1.heap.size w1 w' → RowSet w' w1.heap.size [Re 4 b4] → T 8 #[false, true, true, false, true, true, true, false, false, true, true, false, false, false, false] (Act.put (Act.put (Act.put (Act.put (Act.put (Act.put (Act.put A0 (some 8) (.pointer (some ⟨w.heap.size, 0, none⟩))) (some 9) (.slice a0 c.vars.length c0)) (some 11) (.slice (some ⟨b4, 0, none⟩) 0 0)) (some 12) (.pointer (some ⟨w.heap.size, 1, none⟩))) (some 13) (.slice a1 c.arrays.length c1)) (some 16) (.pointer (some ⟨w.heap.size, 2, none⟩))) (some 17) (.slice a2 c.list.length c2)) w') := by
   clear M30 M29 M27 M28 M24 M25 M26 M19 M20 M21 M22 M23 M12 M13 M14 M15 M16 M17 M18 M5 M7 M8 M11 M1
   refine Lib.hid ?_
   intro b4 w' tot rs
   have hsz := tot.size
   have hHeld := HSS.out _ tot
   have hTT := hT.out; subst hTT; have hAA := hA.out; subst hAA; clear hT hA
   change wpAnyH _ _ _ _ _ 8 _ _ _
   try simp only [Act.put, sb, List.set]
   refine wpAnyH_ready (rs := [0, 8, 13]) (by kernel_rfl) (by simp) ?_
   refine AllReadyH.cons rfl (fun K hK => ?_) ?_
   ·-- 0
    go_simp
    refine hK.out _ _ (HSS.out _ (bal tot _)) (fun hHeld => ?_)
    clear hK K
    try simp only [Act.put, sb, List.set]
    have hM := M6.out w'.heap.size b4 _ (bal tot _) (RowSet.sub (RowSet.lit rs 0 3 1 #[] 0 (by omega) (by unfold maxLen; omega) (by simp)) (Sb Mh (Sb (Mt Mh) sub_nil)))
    try simp only [Act.put, sb, List.set] at hM
    exact hM
   refine AllReadyH.cons rfl (fun K hK => ?_) ?_
   ·-- 8
    go_simp
    refine hK.out _ _ (HSS.out _ (bal tot _)) (fun hHeld => ?_)
    clear hK K
    try simp only [Act.put, sb, List.set]
    have hM := M9.out b4 w'.heap.size _ (bal tot _) (RowSet.sub (RowSet.lit rs 8 32 5 #[] 0 (by omega) (by unfold maxLen; omega) (by simp)) (Sb (Mt Mh) (Sb Mh sub_nil)))
    try simp only [Act.put, sb, List.set] at hM
    exact hM
   refine AllReadyH.cons rfl (fun K hK => ?_) AllReadyH.nil
   go_simp
   refine hK.out _ _ (HSS.out _ (bal tot _)) (fun hHeld => ?_)
   clear hK K
   try simp only [Act.put, sb, List.set]
   have hM := M10.out b4 w'.heap.size _ (bal tot _) (RowSet.sub (RowSet.lit rs 13 26 3 #[.slice none 0 0, .slice none 0 0, .slice none 0 0] 1 (by omega) (by unfold maxLen; omega) (by simp)) (Sb (Mt Mh) (Sb Mh sub_nil)))
   try simp only [Act.put, sb, List.set] at hM
   exact hM
  have M3 : Hid (∀ (b8 : Nat) (w' : World), Below w1.heap.size w1 w' → RowSet w' w1.heap.size [Rn 8 b8] → T 8 #[false, true, true, false, false, true, true, false, true, true, true, false, false, false, false] (Act.put (Act.put (Act.put (Act.put (Act.put (Act.put (Act.put A0 (some 8) (.pointer (some ⟨w.heap.size, 0, none⟩))) (some 9) (.slice a0 c.vars.length c0)) (some 12) (.pointer (some ⟨w.heap.size, 1, none⟩))) (some 13) (.slice a1 c.arrays.length c1)) (some 15) (.slice (some ⟨b8, 0, none⟩) 0 0)) (some 16) (.pointer (some ⟨w.heap.size, 2, none⟩))) (some 17) (.slice a2 c.list.length c2)) w') := by
   clear M30 M29 M27 M28 M24 M25 M26 M19 M20 M21 M22 M23 M12 M13 M14 M15 M16 M17 M18 M5 M6 M8 M10 M1 M2
   refine Lib.hid ?_
   intro b8 w' tot rs
   have hsz := tot.size
   have hHeld := HSS.out _ tot
   have hTT := hT.out; subst hTT; have hAA := hA.out; subst hAA; clear hT hA
   change wpAnyH _ _ _ _ _ 8 _ _ _
   try simp only [Act.put, sb, List.set]
   refine wpAnyH_ready (rs := [0, 4, 13]) (by kernel_rfl) (by simp) ?_
   refine AllReadyH.cons rfl (fun K hK => ?_) ?_
   ·-- 0
    go_simp
    refine hK.out _ _ (HSS.out _ (bal tot _)) (fun hHeld => ?_)
    clear hK K
    try simp only [Act.put, sb, List.set]
    have hM := M7.out w'.heap.size b8 _ (bal tot _) (RowSet.sub (RowSet.lit rs 0 3 1 #[] 0 (by omega) (by unfold maxLen; omega) (by simp)) (Sb Mh (Sb (Mt Mh) sub_nil)))
    try simp only [Act.put, sb, List.set] at hM
    exact hM
   refine AllReadyH.cons rfl (fun K hK => ?_) ?_
   ·-- 4
    go_simp
    refine hK.out _ _ (HSS.out _ (bal tot _)) (fun hHeld => ?_)
    clear hK K
    try simp only [Act.put, sb, List.set]
    have hM := M9.out w'.heap.size b8 _ (bal tot _) (RowSet.sub (RowSet.lit rs 4 3 1 #[] 0 (by omega) (by unfold maxLen; omega) (by simp)) (Sb Mh (Sb (Mt Mh) sub_nil)))
    try simp only [Act.put, sb, List.set] at hM
    exact hM
   refine AllReadyH.cons rfl (fun K hK => ?_) AllReadyH.nil
   go_simp
   refine hK.out _ _ (HSS.out _ (bal tot _)) (fun hHeld => ?_)
   clear hK K
   try simp only [Act.put, sb, List.set]
   have hM := M11.out b8 w'.heap.size _ (bal tot _) (RowSet.sub (RowSet.lit rs 13 26 3 #[.slice none 0 0, .slice none 0 0, .slice none 0 0] 1 (by omega) (by unfold maxLen; omega) (by simp)) (Sb (Mt Mh) (Sb Mh sub_nil)))
   try simp only [Act.put, sb, List.set] at hM
   exact hM
  have M4 : Hid (∀ (b13 : Nat) (w' : World), Below w1.heap.size w1 w' → RowSet w' w1.heap.size [Rb b13 [.slice none 0 0, .slice none 0 0, .slice none 0 0]] → T 8 #[false, true, true, false, false, true, true, false, false, true, true, false, false, true, false] (Act.put (Act.put (Act.put (Act.put (Act.put (Act.put (Act.put A0 (some 8) (.pointer (some ⟨w.heap.size, 0, none⟩))) (some 9) (.slice a0 c.vars.length c0)) (some 12) (.pointer (some ⟨w.heap.size, 1, none⟩))) (some 13) (.slice a1 c.arrays.length c1)) (some 16) (.pointer (some ⟨w.heap.size, 2, none⟩))) (some 17) (.slice a2 c.list.length c2)) (some 5) (.pointer (some ⟨b13, 0, none⟩))) w') := by
   clear M30 M29 M27 M28 M24 M25 M26 M19 M20 M21 M22 M23 M12 M13 M14 M15 M16 M17 M18 M5 M6 M7 M9 M1 M2 M3
   refine Lib.hid ?_
   intro b13 w' tot rs
   have hsz := tot.size
   have hHeld := HSS.out _ tot
   have hTT := hT.out; subst hTT; have hAA := hA.out; subst hAA; clear hT hA
   change wpAnyH _ _ _ _ _ 8 _ _ _
   try simp only [Act.put, sb, List.set]
   refine wpAnyH_ready (rs := [0, 4, 8]) (by kernel_rfl) (by simp) ?_
   refine AllReadyH.cons rfl (fun K hK => ?_) ?_
   ·-- 0
    go_simp
    refine hK.out _ _ (HSS.out _ (bal tot _)) (fun hHeld => ?_)
    clear hK K
    try simp only [Act.put, sb, List.set]
    have hM := M8.out w'.heap.size b13 _ (bal tot _) (RowSet.sub (RowSet.lit rs 0 3 1 #[] 0 (by omega) (by unfold maxLen; omega) (by simp)) (Sb Mh (Sb (Mt Mh) sub_nil)))
    try simp only [Act.put, sb, List.set] at hM
    exact hM
   refine AllReadyH.cons rfl (fun K hK => ?_) ?_
   ·-- 4
    go_simp
    refine hK.out _ _ (HSS.out _ (bal tot _)) (fun hHeld => ?_)
    clear hK K
    try simp only [Act.put, sb, List.set]
    have hM := M10.out w'.heap.size b13 _ (bal tot _) (RowSet.sub (RowSet.lit rs 4 3 1 #[] 0 (by omega) (by unfold maxLen; omega) (by simp)) (Sb Mh (Sb (Mt Mh) sub_nil)))
    try simp only [Act.put, sb, List.set] at hM
    exact hM
   refine AllReadyH.cons rfl (fun K hK => ?_) AllReadyH.nil
   go_simp
   refine hK.out _ _ (HSS.out _ (bal tot _)) (fun hHeld => ?_)
   clear hK K
   try simp only [Act.put, sb, List.set]
   have hM := M11.out w'.heap.size b13 _ (bal tot _) (RowSet.sub (RowSet.lit rs 8 32 5 #[] 0 (by omega) (by unfold maxLen; omega) (by simp)) (Sb Mh (Sb (Mt Mh) sub_nil)))
   try simp only [Act.put, sb, List.set] at hM
   exact hM
  have M0 : Hid (∀ (w' : World), Below w1.heap.size w1 w' → RowSet w' w1.heap.size [] → T 9 #[false, true, true, false, false, true, true, false, false, true, true, false, false, false, false] (Act.put (Act.put (Act.put (Act.put (Act.put (Act.put A0 (some 8) (.pointer (some ⟨w.heap.size, 0, none⟩))) (some 9) (.slice a0 c.vars.length c0)) (some 12) (.pointer (some ⟨w.heap.size, 1, none⟩))) (some 13) (.slice a1 c.arrays.length c1)) (some 16) (.pointer (some ⟨w.heap.size, 2, none⟩))) (some 17) (.slice a2 c.list.length c2)) w') := by
   clear M30 M29 M27 M28 M24 M25 M26 M19 M20 M21 M22 M23 M12 M13 M14 M15 M16 M17 M18 M5 M6 M7 M8 M9 M10 M11
   refine Lib.hid ?_
   intro w' tot rs
   have hsz := tot.size
   have hHeld := HSS.out _ tot
   have hTT := hT.out; subst hTT; have hAA := hA.out; subst hAA; clear hT hA
   change wpAnyH _ _ _ _ _ 9 _ _ _
   try simp only [Act.put, sb, List.set]
   refine wpAnyH_ready (rs := [0, 4, 8, 13]) (by kernel_rfl) (by simp) ?_
   refine AllReadyH.cons rfl (fun K hK => ?_) ?_
   ·-- 0
    go_simp
    refine hK.out _ _ (HSS.out _ (bal tot _)) (fun hHeld => ?_)
    clear hK K
    try simp only [Act.put, sb, List.set]
    have hM := M1.out w'.heap.size _ (bal tot _) (RowSet.sub (RowSet.lit rs 0 3 1 #[] 0 (by omega) (by unfold maxLen; omega) (by simp)) (Sb Mh sub_nil))
    try simp only [Act.put, sb, List.set] at hM
    exact hM
   refine AllReadyH.cons rfl (fun K hK => ?_) ?_
   ·-- 4
    go_simp
    refine hK.out _ _ (HSS.out _ (bal tot _)) (fun hHeld => ?_)
    clear hK K
    try simp only [Act.put, sb, List.set]
    have hM := M2.out w'.heap.size _ (bal tot _) (RowSet.sub (RowSet.lit rs 4 3 1 #[] 0 (by omega) (by unfold maxLen; omega) (by simp)) (Sb Mh sub_nil))
    try simp only [Act.put, sb, List.set] at hM
    exact hM
   refine AllReadyH.cons rfl (fun K hK => ?_) ?_
   ·-- 8
    go_simp
    refine hK.out _ _ (HSS.out _ (bal tot _)) (fun hHeld => ?_)
    clear hK K
    try simp only [Act.put, sb, List.set]
    have hM := M3.out w'.heap.size _ (bal tot _) (RowSet.sub (RowSet.lit rs 8 32 5 #[] 0 (by omega) (by unfold maxLen; omega) (by simp)) (Sb Mh sub_nil))
    try simp only [Act.put, sb, List.set] at hM
    exact hM
   refine AllReadyH.cons rfl (fun K hK => ?_) AllReadyH.nil
   go_simp
   refine hK.out _ _ (HSS.out _ (bal tot _)) (fun hHeld => ?_)
   clear hK K
   try simp only [Act.put, sb, List.set]
   have hM := M4.out w'.heap.size _ (bal tot _) (RowSet.sub (RowSet.lit rs 13 26 3 #[.slice none 0 0, .slice none 0 0, .slice none 0 0] 1 (by omega) (by unfold maxLen; omega) (by simp)) (Sb Mh sub_nil))
   try simp only [Act.put, sb, List.set] at hM
   exact hM
  clear M30 M29 M27 M28 M24 M25 M26 M19 M20 M21 M22 M23 M12 M13 M14 M15 M16 M17 M18 M5 M6 M7 M8 M9 M10 M11 M1 M2 M3 M4
  have hHeld := HSS.out _ tot0
  have hTT := hT.out; subst hTT; have hAA := hA.out; subst hAA; clear hT hA
  change wpAnyH _ _ _ _ _ 15 _ _ _
  try simp only [Act.put, sb, List.set]
  refine take_d (i := 1) (d := 8) (v := ?_) rfl rfl (by kernel_rfl) (by kernel_rfl) (by kernel_rfl) (fun _ _ _ h => h) (Or.inl ⟨by rfl, ?_⟩) (by assumption) ?_
  rotate_left
  ·intro W' hSw; (try clear rs2); (try clear rs); (try clear tot2); (try clear tot); (try clear M0); (try dsimp only at hSw); obtain ⟨s0, s1, s2⟩ := hSw; go_simp; try with_reducible rfl
  try simp only [Act.put, sb, List.set]
  refine take_d (i := 2) (d := 9) (v := ?_) rfl rfl (by kernel_rfl) (by kernel_rfl) (by kernel_rfl) (fun _ _ _ h => h) (Or.inl ⟨by rfl, ?_⟩) (by assumption) ?_
  rotate_left
  ·intro W' hSw; (try clear rs2); (try clear rs); (try clear tot2); (try clear tot); (try clear M0); (try dsimp only at hSw); obtain ⟨s0, s1, s2⟩ := hSw; go_simp; try with_reducible rfl
  try simp only [Act.put, sb, List.set]
  refine take_d (i := 5) (d := 12) (v := ?_) rfl rfl (by kernel_rfl) (by kernel_rfl) (by kernel_rfl) (fun _ _ _ h => h) (Or.inl ⟨by rfl, ?_⟩) (by assumption) ?_
  rotate_left
  ·intro W' hSw; (try clear rs2); (try clear rs); (try clear tot2); (try clear tot); (try clear M0); (try dsimp only at hSw); obtain ⟨s0, s1, s2⟩ := hSw; go_simp; try with_reducible rfl
  try simp only [Act.put, sb, List.set]
  refine take_d (i := 6) (d := 13) (v := ?_) rfl rfl (by kernel_rfl) (by kernel_rfl) (by kernel_rfl) (fun _ _ _ h => h) (Or.inl ⟨by rfl, ?_⟩) (by assumption) ?_
  rotate_left
  ·intro W' hSw; (try clear rs2); (try clear rs); (try clear tot2); (try clear tot); (try clear M0); (try dsimp only at hSw); obtain ⟨s0, s1, s2⟩ := hSw; go_simp; try with_reducible rfl
  try simp only [Act.put, sb, List.set]
  refine take_d (i := 9) (d := 16) (v := ?_) rfl rfl (by kernel_rfl) (by kernel_rfl) (by kernel_rfl) (fun _ _ _ h => h) (Or.inl ⟨by rfl, ?_⟩) (by assumption) ?_
  rotate_left
  ·intro W' hSw; (try clear rs2); (try clear rs); (try clear tot2); (try clear tot); (try clear M0); (try dsimp only at hSw); obtain ⟨s0, s1, s2⟩ := hSw; go_simp; try with_reducible rfl
  try simp only [Act.put, sb, List.set]
  refine take_d (i := 10) (d := 17) (v := ?_) rfl rfl (by kernel_rfl) (by kernel_rfl) (by kernel_rfl) (fun _ _ _ h => h) (Or.inl ⟨by rfl, ?_⟩) (by assumption) ?_
  rotate_left
  ·intro W' hSw; (try clear rs2); (try clear rs); (try clear tot2); (try clear tot); (try clear M0); (try dsimp only at hSw); obtain ⟨s0, s1, s2⟩ := hSw; go_simp; try with_reducible rfl
  try simp only [Act.put, sb, List.set]
  have hM := M0.out wd tot0 RowSet.nil
  try simp only [Act.put, sb, List.set] at hM
  exact hM
 obtain ⟨w2, rfl⟩ : ∃ W, W = wc := ⟨_, rfl⟩
 clear hR hC hrc iR bk2 bk3 lt4 lt5
 obtain ⟨b5, p0, p1, p2, t0, t1, t2, rfl, kb5, kb4, hdc, hnb, hb5, hR, hC, hzc⟩ := hcut
 have hwz : w.heap.size ≤ w1.heap.size ∧ w.heap.size + 1 < w1.heap.size ∧ w.heap.size ≤ w.heap.size + 1 := by omega
 have hb5l := Bk.lt kb5 (show 0 < 3 by decide)
 have iD : ∀ q, OwnB (.slice p0 c.vars.length t0) (.slice p1 c.arrays.length t1) (.slice p2 c.list.length t2) q → w1.heap.size ≤ q ∧ q < w2.heap.size ∧ ¬ q = b5 := fun q h => by have := hdc.lt q h; have := hnb q h; omega
 clear hnb
 obtain ⟨nv, hnv⟩ : ∃ nv, c.vars.length = nv := ⟨_, rfl⟩; rw [hnv] at hdc iD kb5; have hnvl : nv ≤ c.vars.length := (by omega); clear hnv
 obtain ⟨na, hna⟩ : ∃ na, c.arrays.length = na := ⟨_, rfl⟩; rw [hna] at hdc iD kb5 h1; have HNA := Lib.hid hna; clear hna
 obtain ⟨nl, hnl⟩ : ∃ nl, c.list.length = nl := ⟨_, rfl⟩; rw [hnl] at hdc iD kb5 h2; have HNL := Lib.hid hnl; clear hnl
 have lt6 := Bk.lz kb5
 have lt7 := Bk.lz kb4
 by_cases hz : nl < 1
 ·have q24 : ((nl : Int) == 0) = true := by rw [beq_iff_eq]; omega
  obtain ⟨tc8, tf9⟩ := Bk.cf kb5 2 rfl
  go_upto_region 4 with (fail)
  replace lt6 := Bk.lz kb5
  replace lt7 := Bk.lz kb4
  have HDC := Lib.hid (DrawC.keep (DrawC.keep (DrawC.keep hdc (C1 (w.heap.size + 1) (0) (.slice p0 nv t0)) (fun gq h h2 => by have := iD gq h; omega)) (C1 (w.heap.size + 1) (1) (.slice p1 na t1)) (fun gq h h2 => by have := iD gq h; omega)) (C1 (w.heap.size + 1) (2) (.slice p2 nl t2)) (fun gq h h2 => by have := iD gq h; omega)); have HIV := Lib.hid iD; clear hdc
  obtain ⟨tc10, tf11⟩ := Bk.cf kb5 0 rfl
  obtain ⟨tc12, tf13⟩ := Bk.cf kb5 1 rfl
  obtain ⟨tc14, tf15⟩ := Bk.cf kb4 0 rfl
  obtain ⟨tc16, tf17⟩ := Bk.cf kb4 1 rfl
  obtain ⟨tc18, tf19⟩ := Bk.cf kb4 2 rfl
  have HCF := ((((Chg.refl (fun q => q = w.heap.size + 1) w2).setCell (w.heap.size + 1) 0 (.slice p0 nv t0) (fun _ => rfl)).setCell (w.heap.size + 1) 1 (.slice p1 na t1) (fun _ => rfl)).setCell (w.heap.size + 1) 2 (.slice p2 nl t2) (fun _ => rfl))
  have hBf := (Bk.at (Bk.at (Bk.at kb4 0 (.slice p0 nv t0)) 1 (.slice p1 na t1)) 2 (.slice p2 nl t2))
  have xr0 := Bk.cell hBf 0 (v := .slice p0 nv t0) rfl
  have xr1 := Bk.cell hBf 1 (v := .slice p1 na t1) rfl
  have xr2 := Bk.cell hBf 2 (v := .slice p2 nl t2) rfl
  have HCH := Lib.hid HCF; clear HCF hBf
  have HCR := Lib.hid (And.intro hC hR); clear hC hR
  go_wp2
  exact bodyPost_ret (v := .agg #[.slice p0 nv t0, .slice p1 na t1, .slice p2 nl t2]) (by simp [results, Try.results48, go_sem, xr0, xr1, xr2]) rfl (by exact (by unfold MutP; rw [HNA.out, HNL.out]; exact ⟨_, _, _, nv, p, rfl, DrawC.mono HDC.out (by omega), by omega, HCR.out.2.keep HCH.out (fun h => by omega) (fun k hk h => by omega), by omega, chg_app HCR.out.1 HCH.out (fun q hq h => by omega)⟩))
 have q24 : ((nl : Int) == 0) = false := by rw [beq_eq_false_iff_ne]; omega
 obtain ⟨n1, rfl⟩ : ∃ n1, nl = n1 + 1 := ⟨nl - 1, by omega⟩
 obtain ⟨gl, rfl⟩ := hdc.pos (by omega)
 have hgl := iD gl (Or.inr (Or.inr rfl))
 have hw1 : (((n1 + 1 : Nat) : Int) - 1) = (n1 : Int) := by omega
 obtain ⟨tc20, tf21⟩ := Bk.cf kb5 2 rfl
 go_wp2_with fail
 refine (pick_any _ _ B g (p) hR (by omega) (by omega) (by omega)).mono ?_
 rintro e w3 ⟨z, z0, z1, rfl, hRn, hc⟩
 replace hC := (hC).trans hc
 replace hR := hRn; clear hRn
 replace hdc := DrawC.keep hdc hc (fun q h h2 => by have := iD q h; have := ird q h2; omega)
 have hsz22 := hc.size
 clear tf21 tc20
 replace kb5 := Bk.keep kb5 hc (fun h => by have := ird _ h; omega)
 replace kb4 := Bk.keep kb4 hc (fun h => by have := ird _ h; omega)
 clear hc
 replace lt6 := Bk.lz kb5
 replace lt7 := Bk.lz kb4
 by_cases hk0 : z = 0
 ·subst hk0
  go_upto_region 7 with (fail)
  have hc23 := Bk.cell kb5 2 (v := .slice (some ⟨gl, 0, none⟩) (n1 + 1) t2) rfl
  replace lt6 := Bk.lz kb5
  replace lt7 := Bk.lz kb4
  refine wp_region_noPanic ?_
  refine wp_region_held_drew (S := (fun W' => W'.cell? ⟨b5, 2, none⟩ = some (.slice (some ⟨gl, 0, none⟩) (n1 + 1) t2))) (by kernel_rfl) (Kc (Below.drew (Bs w3)) hc23) (fun hHeld => ?_)
  obtain ⟨w4, hwd⟩ : ∃ X, X = World.drew w3 := ⟨_, rfl⟩
  rw [← hwd] at hHeld ⊢
  have hb : Below w3.heap.size w3 w4 := by rw [hwd]; exact Below.drew (Bs _)
  clear hwd
  replace hC := (hC).trans (Chg.of_below hb)
  replace hR := hR.below hb
  replace hdc := DrawC.below hdc hb
  have hsz24 := hb.size
  replace hc23 := Kc hb hc23
  replace kb5 := Bk.below kb5 hb
  replace kb4 := Bk.below kb4 hb
  clear hb
  replace lt6 := Bk.lz kb5
  replace lt7 := Bk.lz kb4
  refine (tq 0 30 rfl rfl ?_ ?_ (tq 1 31 rfl rfl ?_ ?_ (tq 2 32 rfl rfl ?_ ?_ ?_)))
  iterate 3 (rotate_left; intro W' hSw; (try dsimp only at hSw); go_simp; try with_reducible rfl)
  try simp only [Act.put, sb, List.set]
  refine Rdy 3 rfl (fun K hK => ?_)
  go_simp
  obtain ⟨w5, hnw, hb⟩ := nmw (World.alloc w4 (.cells #[.int .i64 0, .int .i64 14, .int .i64 1, .int .i64 12] 3))
  replace hC := ((hC.trans (Chg.of_below (bal (Bs _) _)))).trans (Chg.of_below hb)
  replace hR := (hR.below (bal (Bs _) _)).below hb
  have ol25 := Ob (World.ownsRow_lit (base := (w4).heap.size) (e := 3) (size := 1) (w4) #[.int .i64 0, .int .i64 14, .int .i64 1, .int .i64 12] 4 (Nat.le_refl _) (by unfold maxLen; omega) (by simp)) hb
  try simp only [Sa, Ss] at ol25
  replace hdc := DrawC.below (DrawC.below hdc (bal (Bs _) _)) hb
  have hsz26 := hb.size
  simp only [Sa] at hsz26
  replace hc23 := Kc hb (Ac hc23 _)
  replace kb5 := Bk.below (Bk.al kb5 _) hb
  replace kb4 := Bk.below (Bk.al kb4 _) hb
  have bk27 : Bk w5 (w4.heap.size) [.int .i64 0, .int .i64 14, .int .i64 1, .int .i64 12] := Bk.below (Bk.nw (by simp) rfl) hb
  clear hb
  have iv28 := ol25.lt
  try simp only [Sa] at iv28
  rw [← hnw]
  clear hnw
  replace lt6 := Bk.lz kb5
  replace lt7 := Bk.lz kb4
  have lt29 := Bk.lz bk27
  refine hK.out _ _ (hc23) (fun hHeld => ?_)
  clear hK K
  try simp only [Act.put, sb, List.set]
  refine Rdy 4 rfl (fun K hK => ?_)
  go_simp
  refine (num_any _ [0, 14, 1, 12] _ B g (p + 1) hR (Ro ol25 (by simp)) (fun b o c hb => by simp at hb; omega) (by simp) (by simp) (by omega)).mono ?_
  rintro e w6 ⟨vv, vvm, rfl, hRn, hc⟩
  replace hC := (hC).trans hc
  replace hR := hRn; clear hRn
  replace hdc := DrawC.keep hdc hc (fun q h h2 => by have := iD q h; have := ird q h2; omega)
  have hsz30 := hc.size
  replace hc23 := Gc hc hc23 (fun h => by have := ird _ h; omega)
  replace ol25 := Ow ol25 hc (fun gq h h2 => by have := iv28 gq h; have := ird gq h2; omega)
  replace kb5 := Bk.keep kb5 hc (fun h => by have := ird _ h; omega)
  replace kb4 := Bk.keep kb4 hc (fun h => by have := ird _ h; omega)
  replace bk27 := Bk.keep bk27 hc (fun h => by have := ird _ h; omega)
  clear hc
  clear vvm
  replace lt6 := Bk.lz kb5
  replace lt7 := Bk.lz kb4
  replace lt29 := Bk.lz bk27
  refine hK.out _ _ (hc23) (fun hHeld => ?_)
  clear hK K
  try simp only [Act.put, sb, List.set]
  refine (tq 5 35 rfl rfl ?_ ?_ (tq 6 36 rfl rfl ?_ ?_ ?_))
  iterate 2 (rotate_left; intro W' hSw; (try dsimp only at hSw); go_simp; try with_reducible rfl)
  try simp only [Act.put, sb, List.set]
  refine Rdy 7 rfl (fun K hK => ?_)
  obtain ⟨⟨dx31, hdx31⟩, fdx31⟩ := hdc.at (0) 0 (by omega) (by omega)
  replace hdx31 : w6.cell? ⟨gl, 0, none⟩ = some (.int .i64 dx31) := hdx31; replace fdx31 : w6.frozen? ⟨gl, 0, none⟩ = false := fdx31
  go_simp
  obtain ⟨w7, hnw, hb⟩ := nmw (World.setCell w6 ⟨gl, 0, none⟩ (.int .i64 vv))
  replace hC := ((hC.setNew _ _ _ (Or.inr (by omega)))).trans (Chg.of_below hb)
  replace hR := (hR.keep (C1 _ _ _) (by omega) (fun _ _ => by omega)).below hb
  replace hdc := DrawC.below (DrawC.put hdc 0 0 (by omega) (by omega) (vv)) hb
  have hsz32 := hb.size
  simp only [Ss] at hsz32
  replace hc23 := Kc hb (Nc hc23 (by omega) _)
  replace ol25 := Ob (Oe ol25 _ _ (fun h => by have := iv28 _ h; omega) _) hb
  replace kb5 := Bk.below (Bk.ne kb5 (by omega) _) hb
  replace kb4 := Bk.below (Bk.ne kb4 (by omega) _) hb
  replace bk27 := Bk.below (Bk.ne bk27 (by omega) _) hb
  clear hb
  rw [← hnw]
  clear hnw
  replace lt6 := Bk.lz kb5
  replace lt7 := Bk.lz kb4
  replace lt29 := Bk.lz bk27
  refine hK.out _ _ (hc23) (fun hHeld => ?_)
  clear hK K
  try simp only [Act.put, sb, List.set]
  refine wpAnyH_done (by kernel_rfl) ?_ _
  refine NoPanic.normal ?_
  clear hHeld
  obtain ⟨⟨dx33, hdx33⟩, fdx33⟩ := hdc.at (0) 0 (by omega) (by omega)
  replace hdx33 : w7.cell? ⟨gl, 0, none⟩ = some (.int .i64 dx33) := hdx33; replace fdx33 : w7.frozen? ⟨gl, 0, none⟩ = false := fdx33
  go_upto_region 18 with (fail)
  clear bk27
  clear lt29
  replace lt6 := Bk.lz kb5
  replace lt7 := Bk.lz kb4
  have HDC := Lib.hid (DrawC.keep (DrawC.keep (DrawC.keep hdc (C1 (w.heap.size + 1) (0) (.slice p0 nv t0)) (fun gq h h2 => by have := iD gq h; omega)) (C1 (w.heap.size + 1) (1) (.slice p1 na t1)) (fun gq h h2 => by have := iD gq h; omega)) (C1 (w.heap.size + 1) (2) (.slice (some ⟨gl, 0, none⟩) (n1 + 1) t2)) (fun gq h h2 => by have := iD gq h; omega)); have HIV := Lib.hid iD; clear hdc
  obtain ⟨tc34, tf35⟩ := Bk.cf kb5 0 rfl
  obtain ⟨tc36, tf37⟩ := Bk.cf kb5 1 rfl
  obtain ⟨tc38, tf39⟩ := Bk.cf kb4 0 rfl
  obtain ⟨tc40, tf41⟩ := Bk.cf kb4 1 rfl
  obtain ⟨tc42, tf43⟩ := Bk.cf kb4 2 rfl
  have HCF := ((((Chg.refl (fun q => q = w.heap.size + 1) w7).setCell (w.heap.size + 1) 0 (.slice p0 nv t0) (fun _ => rfl)).setCell (w.heap.size + 1) 1 (.slice p1 na t1) (fun _ => rfl)).setCell (w.heap.size + 1) 2 (.slice (some ⟨gl, 0, none⟩) (n1 + 1) t2) (fun _ => rfl))
  have hBf := (Bk.at (Bk.at (Bk.at kb4 0 (.slice p0 nv t0)) 1 (.slice p1 na t1)) 2 (.slice (some ⟨gl, 0, none⟩) (n1 + 1) t2))
  have xr0 := Bk.cell hBf 0 (v := .slice p0 nv t0) rfl
  have xr1 := Bk.cell hBf 1 (v := .slice p1 na t1) rfl
  have xr2 := Bk.cell hBf 2 (v := .slice (some ⟨gl, 0, none⟩) (n1 + 1) t2) rfl
  have HCH := Lib.hid HCF; clear HCF hBf
  have HCR := Lib.hid (And.intro hC hR); clear hC hR
  go_wp2
  exact bodyPost_ret (v := .agg #[.slice p0 nv t0, .slice p1 na t1, .slice (some ⟨gl, 0, none⟩) (n1 + 1) t2]) (by simp [results, Try.results48, go_sem, xr0, xr1, xr2]) rfl (by exact (by unfold MutP; rw [HNA.out, HNL.out]; exact ⟨_, _, _, nv, p + 1 + 1, rfl, DrawC.mono HDC.out (by omega), by omega, HCR.out.2.keep HCH.out (fun h => by omega) (fun k hk h => by omega), by omega, chg_app HCR.out.1 HCH.out (fun q hq h => by omega)⟩))
 have qk0 : (z == 0) = false := by simp [hk0]
 by_cases hk1 : z = 1
 ·subst hk1
  go_upto_region 9 with (fail)
  have hc44 := Bk.cell kb5 2 (v := .slice (some ⟨gl, 0, none⟩) (n1 + 1) t2) rfl
  replace lt6 := Bk.lz kb5
  replace lt7 := Bk.lz kb4
  refine wp_region_noPanic ?_
  refine wp_region_held_drew (S := (fun W' => W'.cell? ⟨b5, 2, none⟩ = some (.slice (some ⟨gl, 0, none⟩) (n1 + 1) t2))) (by kernel_rfl) (Kc (Below.drew (Bs w3)) hc44) (fun hHeld => ?_)
  obtain ⟨w4, hwd⟩ : ∃ X, X = World.drew w3 := ⟨_, rfl⟩
  rw [← hwd] at hHeld ⊢
  have hb : Below w3.heap.size w3 w4 := by rw [hwd]; exact Below.drew (Bs _)
  clear hwd
  replace hC := (hC).trans (Chg.of_below hb)
  replace hR := hR.below hb
  replace hdc := DrawC.below hdc hb
  have hsz45 := hb.size
  replace hc44 := Kc hb hc44
  replace kb5 := Bk.below kb5 hb
  replace kb4 := Bk.below kb4 hb
  clear hb
  replace lt6 := Bk.lz kb5
  replace lt7 := Bk.lz kb4
  refine (tq 0 39 rfl rfl ?_ ?_ (tq 1 40 rfl rfl ?_ ?_ (tq 2 41 rfl rfl ?_ ?_ (tq 3 42 rfl rfl ?_ ?_ (tq 5 44 rfl rfl ?_ ?_ ?_)))))
  iterate 5 (rotate_left; intro W' hSw; (try dsimp only at hSw); go_simp; try with_reducible rfl)
  try simp only [Act.put, sb, List.set]
  refine wpAnyH_ready (rs := [4, 6]) (by kernel_rfl) (by simp) ?_
  refine AllReadyH.cons rfl (fun K hK => ?_) ?_
  ·-- 4
   go_simp
   refine (pick_any _ _ B g (p + 1) hR (by omega) (by omega) (by omega)).mono ?_
   rintro e w5 ⟨zi, zi0, zi1, rfl, hRn, hc⟩
   replace hC := (hC).trans hc
   replace hR := hRn; clear hRn
   replace hdc := DrawC.keep hdc hc (fun q h h2 => by have := iD q h; have := ird q h2; omega)
   have hsz46 := hc.size
   replace hc44 := Gc hc hc44 (fun h => by have := ird _ h; omega)
   replace kb5 := Bk.keep kb5 hc (fun h => by have := ird _ h; omega)
   replace kb4 := Bk.keep kb4 hc (fun h => by have := ird _ h; omega)
   clear hc
   obtain ⟨ti, rfl⟩ := Int.eq_ofNat_of_zero_le zi0
   have hti : ti < n1 + 1 := by omega
   have hti2 : (ti : Int) < (n1 : Int) + 1 := by omega
   clear zi0 zi1
   replace lt6 := Bk.lz kb5
   replace lt7 := Bk.lz kb4
   refine hK.out _ _ (hc44) (fun hHeld => ?_)
   clear hK K
   try simp only [Act.put, sb, List.set]
   refine Rdy 6 rfl (fun K hK => ?_)
   go_simp
   obtain ⟨w6, hnw, hb⟩ := nmw (World.alloc w5 (.cells #[.int .i64 (-1), .int .i64 14, .int .i64 0, .int .i64 400] 3))
   replace hC := ((hC.trans (Chg.of_below (bal (Bs _) _)))).trans (Chg.of_below hb)
   replace hR := (hR.below (bal (Bs _) _)).below hb
   have ol47 := Ob (World.ownsRow_lit (base := (w5).heap.size) (e := 3) (size := 1) (w5) #[.int .i64 (-1), .int .i64 14, .int .i64 0, .int .i64 400] 4 (Nat.le_refl _) (by unfold maxLen; omega) (by simp)) hb
   try simp only [Sa, Ss] at ol47
   replace hdc := DrawC.below (DrawC.below hdc (bal (Bs _) _)) hb
   have hsz48 := hb.size
   simp only [Sa] at hsz48
   replace hc44 := Kc hb (Ac hc44 _)
   replace kb5 := Bk.below (Bk.al kb5 _) hb
   replace kb4 := Bk.below (Bk.al kb4 _) hb
   have bk49 : Bk w6 (w5.heap.size) [.int .i64 (-1), .int .i64 14, .int .i64 0, .int .i64 400] := Bk.below (Bk.nw (by simp) rfl) hb
   clear hb
   have iv50 := ol47.lt
   try simp only [Sa] at iv50
   rw [← hnw]
   clear hnw
   replace lt6 := Bk.lz kb5
   replace lt7 := Bk.lz kb4
   have lt51 := Bk.lz bk49
   refine hK.out _ _ (hc44) (fun hHeld => ?_)
   clear hK K
   try simp only [Act.put, sb, List.set]
   refine Rdy 7 rfl (fun K hK => ?_)
   go_simp
   refine (num_any _ [-1, 14, 0, 400] _ B g (p + 1 + 1) hR (Ro ol47 (by simp)) (fun b o c hb => by simp at hb; omega) (by simp) (by simp) (by omega)).mono ?_
   rintro e w7 ⟨vv, vvm, rfl, hRn, hc⟩
   replace hC := (hC).trans hc
   replace hR := hRn; clear hRn
   replace hdc := DrawC.keep hdc hc (fun q h h2 => by have := iD q h; have := ird q h2; omega)
   have hsz52 := hc.size
   replace hc44 := Gc hc hc44 (fun h => by have := ird _ h; omega)
   replace ol47 := Ow ol47 hc (fun gq h h2 => by have := iv50 gq h; have := ird gq h2; omega)
   replace kb5 := Bk.keep kb5 hc (fun h => by have := ird _ h; omega)
   replace kb4 := Bk.keep kb4 hc (fun h => by have := ird _ h; omega)
   replace bk49 := Bk.keep bk49 hc (fun h => by have := ird _ h; omega)
   clear hc
   clear vvm
   replace lt6 := Bk.lz kb5
   replace lt7 := Bk.lz kb4
   replace lt51 := Bk.lz bk49
   refine hK.out _ _ (hc44) (fun hHeld => ?_)
   clear hK K
   try simp only [Act.put, sb, List.set]
   refine (tq 8 47 rfl rfl ?_ ?_ (tq 9 48 rfl rfl ?_ ?_ ?_))
   iterate 2 (rotate_left; intro W' hSw; (try dsimp only at hSw); go_simp; try with_reducible rfl)
   try simp only [Act.put, sb, List.set]
   refine Rdy 10 rfl (fun K hK => ?_)
   obtain ⟨⟨dx53, hdx53⟩, fdx53⟩ := hdc.at (ti) 1 (by omega) (by omega)
   replace hdx53 : w7.cell? ⟨gl, ti * 5 + 1, none⟩ = some (.int .i64 dx53) := hdx53; replace fdx53 : w7.frozen? ⟨gl, ti * 5 + 1, none⟩ = false := fdx53
   go_simp
   obtain ⟨w8, hnw, hb⟩ := nmw (World.setCell w7 ⟨gl, ti * 5 + 1, none⟩ (.int .i64 vv))
   replace hC := ((hC.setNew _ _ _ (Or.inr (by omega)))).trans (Chg.of_below hb)
   replace hR := (hR.keep (C1 _ _ _) (by omega) (fun _ _ => by omega)).below hb
   replace hdc := DrawC.below (DrawC.put hdc (ti) 1 (by omega) (by omega) (vv)) hb
   have hsz54 := hb.size
   simp only [Ss] at hsz54
   replace hc44 := Kc hb (Nc hc44 (by omega) _)
   replace ol47 := Ob (Oe ol47 _ _ (fun h => by have := iv50 _ h; omega) _) hb
   replace kb5 := Bk.below (Bk.ne kb5 (by omega) _) hb
   replace kb4 := Bk.below (Bk.ne kb4 (by omega) _) hb
   replace bk49 := Bk.below (Bk.ne bk49 (by omega) _) hb
   clear hb
   rw [← hnw]
   clear hnw
   replace lt6 := Bk.lz kb5
   replace lt7 := Bk.lz kb4
   replace lt51 := Bk.lz bk49
   refine hK.out _ _ (hc44) (fun hHeld => ?_)
   clear hK K
   try simp only [Act.put, sb, List.set]
   refine wpAnyH_done (by kernel_rfl) ?_ _
   refine NoPanic.normal ?_
   clear hHeld
   obtain ⟨⟨dx55, hdx55⟩, fdx55⟩ := hdc.at (ti) 1 (by omega) (by omega)
   replace hdx55 : w8.cell? ⟨gl, ti * 5 + 1, none⟩ = some (.int .i64 dx55) := hdx55; replace fdx55 : w8.frozen? ⟨gl, ti * 5 + 1, none⟩ = false := fdx55
   go_upto_region 18 with (fail)
   clear bk49
   clear lt51
   replace lt6 := Bk.lz kb5
   replace lt7 := Bk.lz kb4
   have HDC := Lib.hid (DrawC.keep (DrawC.keep (DrawC.keep hdc (C1 (w.heap.size + 1) (0) (.slice p0 nv t0)) (fun gq h h2 => by have := iD gq h; omega)) (C1 (w.heap.size + 1) (1) (.slice p1 na t1)) (fun gq h h2 => by have := iD gq h; omega)) (C1 (w.heap.size + 1) (2) (.slice (some ⟨gl, 0, none⟩) (n1 + 1) t2)) (fun gq h h2 => by have := iD gq h; omega)); have HIV := Lib.hid iD; clear hdc
   obtain ⟨tc56, tf57⟩ := Bk.cf kb5 0 rfl
   obtain ⟨tc58, tf59⟩ := Bk.cf kb5 1 rfl
   obtain ⟨tc60, tf61⟩ := Bk.cf kb4 0 rfl
   obtain ⟨tc62, tf63⟩ := Bk.cf kb4 1 rfl
   obtain ⟨tc64, tf65⟩ := Bk.cf kb4 2 rfl
   have HCF := ((((Chg.refl (fun q => q = w.heap.size + 1) w8).setCell (w.heap.size + 1) 0 (.slice p0 nv t0) (fun _ => rfl)).setCell (w.heap.size + 1) 1 (.slice p1 na t1) (fun _ => rfl)).setCell (w.heap.size + 1) 2 (.slice (some ⟨gl, 0, none⟩) (n1 + 1) t2) (fun _ => rfl))
   have hBf := (Bk.at (Bk.at (Bk.at kb4 0 (.slice p0 nv t0)) 1 (.slice p1 na t1)) 2 (.slice (some ⟨gl, 0, none⟩) (n1 + 1) t2))
   have xr0 := Bk.cell hBf 0 (v := .slice p0 nv t0) rfl
   have xr1 := Bk.cell hBf 1 (v := .slice p1 na t1) rfl
   have xr2 := Bk.cell hBf 2 (v := .slice (some ⟨gl, 0, none⟩) (n1 + 1) t2) rfl
   have HCH := Lib.hid HCF; clear HCF hBf
   have HCR := Lib.hid (And.intro hC hR); clear hC hR
   go_wp2
   exact bodyPost_ret (v := .agg #[.slice p0 nv t0, .slice p1 na t1, .slice (some ⟨gl, 0, none⟩) (n1 + 1) t2]) (by simp [results, Try.results48, go_sem, xr0, xr1, xr2]) rfl (by exact (by unfold MutP; rw [HNA.out, HNL.out]; exact ⟨_, _, _, nv, p + 1 + 1 + 1, rfl, DrawC.mono HDC.out (by omega), by omega, HCR.out.2.keep HCH.out (fun h => by omega) (fun k hk h => by omega), by omega, chg_app HCR.out.1 HCH.out (fun q hq h => by omega)⟩))
  refine AllReadyH.cons rfl (fun K hK => ?_) AllReadyH.nil
  go_simp
  obtain ⟨w5, hnw, hb⟩ := nmw (World.alloc w4 (.cells #[.int .i64 (-1), .int .i64 14, .int .i64 0, .int .i64 400] 3))
  replace hC := ((hC.trans (Chg.of_below (bal (Bs _) _)))).trans (Chg.of_below hb)
  replace hR := (hR.below (bal (Bs _) _)).below hb
  have ol66 := Ob (World.ownsRow_lit (base := (w4).heap.size) (e := 3) (size := 1) (w4) #[.int .i64 (-1), .int .i64 14, .int .i64 0, .int .i64 400] 4 (Nat.le_refl _) (by unfold maxLen; omega) (by simp)) hb
  try simp only [Sa, Ss] at ol66
  replace hdc := DrawC.below (DrawC.below hdc (bal (Bs _) _)) hb
  have hsz67 := hb.size
  simp only [Sa] at hsz67
  replace hc44 := Kc hb (Ac hc44 _)
  replace kb5 := Bk.below (Bk.al kb5 _) hb
  replace kb4 := Bk.below (Bk.al kb4 _) hb
  have bk68 : Bk w5 (w4.heap.size) [.int .i64 (-1), .int .i64 14, .int .i64 0, .int .i64 400] := Bk.below (Bk.nw (by simp) rfl) hb
  clear hb
  have iv69 := ol66.lt
  try simp only [Sa] at iv69
  rw [← hnw]
  clear hnw
  replace lt6 := Bk.lz kb5
  replace lt7 := Bk.lz kb4
  have lt70 := Bk.lz bk68
  refine hK.out _ _ (hc44) (fun hHeld => ?_)
  clear hK K
  try simp only [Act.put, sb, List.set]
  refine Rdy 4 rfl (fun K hK => ?_)
  go_simp
  refine (pick_any _ _ B g (p + 1) hR (by omega) (by omega) (by omega)).mono ?_
  rintro e w6 ⟨zi, zi0, zi1, rfl, hRn, hc⟩
  replace hC := (hC).trans hc
  replace hR := hRn; clear hRn
  replace hdc := DrawC.keep hdc hc (fun q h h2 => by have := iD q h; have := ird q h2; omega)
  have hsz71 := hc.size
  replace hc44 := Gc hc hc44 (fun h => by have := ird _ h; omega)
  replace ol66 := Ow ol66 hc (fun gq h h2 => by have := iv69 gq h; have := ird gq h2; omega)
  replace kb5 := Bk.keep kb5 hc (fun h => by have := ird _ h; omega)
  replace kb4 := Bk.keep kb4 hc (fun h => by have := ird _ h; omega)
  replace bk68 := Bk.keep bk68 hc (fun h => by have := ird _ h; omega)
  clear hc
  obtain ⟨ti, rfl⟩ := Int.eq_ofNat_of_zero_le zi0
  have hti : ti < n1 + 1 := by omega
  have hti2 : (ti : Int) < (n1 : Int) + 1 := by omega
  clear zi0 zi1
  replace lt6 := Bk.lz kb5
  replace lt7 := Bk.lz kb4
  replace lt70 := Bk.lz bk68
  refine hK.out _ _ (hc44) (fun hHeld => ?_)
  clear hK K
  try simp only [Act.put, sb, List.set]
  refine Rdy 7 rfl (fun K hK => ?_)
  go_simp
  refine (num_any _ [-1, 14, 0, 400] _ B g (p + 1 + 1) hR (Ro ol66 (by simp)) (fun b o c hb => by simp at hb; omega) (by simp) (by simp) (by omega)).mono ?_
  rintro e w7 ⟨vv, vvm, rfl, hRn, hc⟩
  replace hC := (hC).trans hc
  replace hR := hRn; clear hRn
  replace hdc := DrawC.keep hdc hc (fun q h h2 => by have := iD q h; have := ird q h2; omega)
  have hsz72 := hc.size
  replace hc44 := Gc hc hc44 (fun h => by have := ird _ h; omega)
  replace ol66 := Ow ol66 hc (fun gq h h2 => by have := iv69 gq h; have := ird gq h2; omega)
  replace kb5 := Bk.keep kb5 hc (fun h => by have := ird _ h; omega)
  replace kb4 := Bk.keep kb4 hc (fun h => by have := ird _ h; omega)
  replace bk68 := Bk.keep bk68 hc (fun h => by have := ird _ h; omega)
  clear hc
  clear vvm
  replace lt6 := Bk.lz kb5
  replace lt7 := Bk.lz kb4
  replace lt70 := Bk.lz bk68
  refine hK.out _ _ (hc44) (fun hHeld => ?_)
  clear hK K
  try simp only [Act.put, sb, List.set]
  refine (tq 8 47 rfl rfl ?_ ?_ (tq 9 48 rfl rfl ?_ ?_ ?_))
  iterate 2 (rotate_left; intro W' hSw; (try dsimp only at hSw); go_simp; try with_reducible rfl)
  try simp only [Act.put, sb, List.set]
  refine Rdy 10 rfl (fun K hK => ?_)
  obtain ⟨⟨dx73, hdx73⟩, fdx73⟩ := hdc.at (ti) 1 (by omega) (by omega)
  replace hdx73 : w7.cell? ⟨gl, ti * 5 + 1, none⟩ = some (.int .i64 dx73) := hdx73; replace fdx73 : w7.frozen? ⟨gl, ti * 5 + 1, none⟩ = false := fdx73
  go_simp
  obtain ⟨w8, hnw, hb⟩ := nmw (World.setCell w7 ⟨gl, ti * 5 + 1, none⟩ (.int .i64 vv))
  replace hC := ((hC.setNew _ _ _ (Or.inr (by omega)))).trans (Chg.of_below hb)
  replace hR := (hR.keep (C1 _ _ _) (by omega) (fun _ _ => by omega)).below hb
  replace hdc := DrawC.below (DrawC.put hdc (ti) 1 (by omega) (by omega) (vv)) hb
  have hsz74 := hb.size
  simp only [Ss] at hsz74
  replace hc44 := Kc hb (Nc hc44 (by omega) _)
  replace ol66 := Ob (Oe ol66 _ _ (fun h => by have := iv69 _ h; omega) _) hb
  replace kb5 := Bk.below (Bk.ne kb5 (by omega) _) hb
  replace kb4 := Bk.below (Bk.ne kb4 (by omega) _) hb
  replace bk68 := Bk.below (Bk.ne bk68 (by omega) _) hb
  clear hb
  rw [← hnw]
  clear hnw
  replace lt6 := Bk.lz kb5
  replace lt7 := Bk.lz kb4
  replace lt70 := Bk.lz bk68
  refine hK.out _ _ (hc44) (fun hHeld => ?_)
  clear hK K
  try simp only [Act.put, sb, List.set]
  refine wpAnyH_done (by kernel_rfl) ?_ _
  refine NoPanic.normal ?_
  clear hHeld
  obtain ⟨⟨dx75, hdx75⟩, fdx75⟩ := hdc.at (ti) 1 (by omega) (by omega)
  replace hdx75 : w8.cell? ⟨gl, ti * 5 + 1, none⟩ = some (.int .i64 dx75) := hdx75; replace fdx75 : w8.frozen? ⟨gl, ti * 5 + 1, none⟩ = false := fdx75
  go_upto_region 18 with (fail)
  clear bk68
  clear lt70
  replace lt6 := Bk.lz kb5
  replace lt7 := Bk.lz kb4
  have HDC := Lib.hid (DrawC.keep (DrawC.keep (DrawC.keep hdc (C1 (w.heap.size + 1) (0) (.slice p0 nv t0)) (fun gq h h2 => by have := iD gq h; omega)) (C1 (w.heap.size + 1) (1) (.slice p1 na t1)) (fun gq h h2 => by have := iD gq h; omega)) (C1 (w.heap.size + 1) (2) (.slice (some ⟨gl, 0, none⟩) (n1 + 1) t2)) (fun gq h h2 => by have := iD gq h; omega)); have HIV := Lib.hid iD; clear hdc
  obtain ⟨tc76, tf77⟩ := Bk.cf kb5 0 rfl
  obtain ⟨tc78, tf79⟩ := Bk.cf kb5 1 rfl
  obtain ⟨tc80, tf81⟩ := Bk.cf kb4 0 rfl
  obtain ⟨tc82, tf83⟩ := Bk.cf kb4 1 rfl
  obtain ⟨tc84, tf85⟩ := Bk.cf kb4 2 rfl
  have HCF := ((((Chg.refl (fun q => q = w.heap.size + 1) w8).setCell (w.heap.size + 1) 0 (.slice p0 nv t0) (fun _ => rfl)).setCell (w.heap.size + 1) 1 (.slice p1 na t1) (fun _ => rfl)).setCell (w.heap.size + 1) 2 (.slice (some ⟨gl, 0, none⟩) (n1 + 1) t2) (fun _ => rfl))
  have hBf := (Bk.at (Bk.at (Bk.at kb4 0 (.slice p0 nv t0)) 1 (.slice p1 na t1)) 2 (.slice (some ⟨gl, 0, none⟩) (n1 + 1) t2))
  have xr0 := Bk.cell hBf 0 (v := .slice p0 nv t0) rfl
  have xr1 := Bk.cell hBf 1 (v := .slice p1 na t1) rfl
  have xr2 := Bk.cell hBf 2 (v := .slice (some ⟨gl, 0, none⟩) (n1 + 1) t2) rfl
  have HCH := Lib.hid HCF; clear HCF hBf
  have HCR := Lib.hid (And.intro hC hR); clear hC hR
  go_wp2
  exact bodyPost_ret (v := .agg #[.slice p0 nv t0, .slice p1 na t1, .slice (some ⟨gl, 0, none⟩) (n1 + 1) t2]) (by simp [results, Try.results48, go_sem, xr0, xr1, xr2]) rfl (by exact (by unfold MutP; rw [HNA.out, HNL.out]; exact ⟨_, _, _, nv, p + 1 + 1 + 1, rfl, DrawC.mono HDC.out (by omega), by omega, HCR.out.2.keep HCH.out (fun h => by omega) (fun k hk h => by omega), by omega, chg_app HCR.out.1 HCH.out (fun q hq h => by omega)⟩))
 have qk1 : (z == 1) = false := by simp [hk1]
 by_cases hk2 : z = 2
 ·subst hk2
  obtain ⟨⟨dx86, hdx86⟩, fdx86⟩ := hdc.at (n1) 0 (by omega) (by omega)
  replace hdx86 : w3.cell? ⟨gl, n1 * 5, none⟩ = some (.int .i64 dx86) := hdx86; replace fdx86 : w3.frozen? ⟨gl, n1 * 5, none⟩ = false := fdx86
  obtain ⟨⟨dx87, hdx87⟩, fdx87⟩ := hdc.at (n1) 1 (by omega) (by omega)
  replace hdx87 : w3.cell? ⟨gl, n1 * 5 + 1, none⟩ = some (.int .i64 dx87) := hdx87; replace fdx87 : w3.frozen? ⟨gl, n1 * 5 + 1, none⟩ = false := fdx87
  obtain ⟨⟨dx88, hdx88⟩, fdx88⟩ := hdc.at (n1) 2 (by omega) (by omega)
  replace hdx88 : w3.cell? ⟨gl, n1 * 5 + 2, none⟩ = some (.int .i64 dx88) := hdx88; replace fdx88 : w3.frozen? ⟨gl, n1 * 5 + 2, none⟩ = false := fdx88
  obtain ⟨⟨dx89, hdx89⟩, fdx89⟩ := hdc.at (n1) 3 (by omega) (by omega)
  replace hdx89 : w3.cell? ⟨gl, n1 * 5 + 3, none⟩ = some (.int .i64 dx89) := hdx89; replace fdx89 : w3.frozen? ⟨gl, n1 * 5 + 3, none⟩ = false := fdx89
  obtain ⟨⟨dx90, hdx90⟩, fdx90⟩ := hdc.at (n1) 4 (by omega) (by omega)
  replace hdx90 : w3.cell? ⟨gl, n1 * 5 + 4, none⟩ = some (.int .i64 dx90) := hdx90; replace fdx90 : w3.frozen? ⟨gl, n1 * 5 + 4, none⟩ = false := fdx90
  obtain ⟨tc91, tf92⟩ := Bk.cf kb5 2 rfl
  go_upto_region 18 with (fail)
  obtain ⟨w4, hnw, hb⟩ := nmw (World.setCell (World.setCell (World.setCell (World.setCell (World.setCell w3 ⟨gl, n1 * 5, none⟩ (.int .i64 12)) ⟨gl, n1 * 5 + 1, none⟩ (.int .i64 0)) ⟨gl, n1 * 5 + 2, none⟩ (.int .i64 0)) ⟨gl, n1 * 5 + 3, none⟩ (.int .i64 0)) ⟨gl, n1 * 5 + 4, none⟩ (.int .i64 0))
  replace hC := ((((((hC.setNew _ _ _ (Or.inr (by omega))).setNew _ _ _ (Or.inr (by omega))).setNew _ _ _ (Or.inr (by omega))).setNew _ _ _ (Or.inr (by omega))).setNew _ _ _ (Or.inr (by omega)))).trans (Chg.of_below hb)
  replace hR := (((((hR.keep (C1 _ _ _) (by omega) (fun _ _ => by omega)).keep (C1 _ _ _) (by omega) (fun _ _ => by omega)).keep (C1 _ _ _) (by omega) (fun _ _ => by omega)).keep (C1 _ _ _) (by omega) (fun _ _ => by omega)).keep (C1 _ _ _) (by omega) (fun _ _ => by omega)).below hb
  replace hdc := DrawC.below (DrawC.put (DrawC.put (DrawC.put (DrawC.put (DrawC.put hdc (n1) 0 (by omega) (by omega) (12)) (n1) 1 (by omega) (by omega) (0)) (n1) 2 (by omega) (by omega) (0)) (n1) 3 (by omega) (by omega) (0)) (n1) 4 (by omega) (by omega) (0)) hb
  have hsz93 := hb.size
  simp only [Ss] at hsz93
  clear tf92 tc91
  replace kb5 := Bk.below (Bk.ne (Bk.ne (Bk.ne (Bk.ne (Bk.ne kb5 (by omega) _) (by omega) _) (by omega) _) (by omega) _) (by omega) _) hb
  replace kb4 := Bk.below (Bk.ne (Bk.ne (Bk.ne (Bk.ne (Bk.ne kb4 (by omega) _) (by omega) _) (by omega) _) (by omega) _) (by omega) _) hb
  clear hb
  rw [← hnw]
  clear hnw
  replace lt6 := Bk.lz kb5
  replace lt7 := Bk.lz kb4
  have HDC := Lib.hid (DrawC.keep (DrawC.keep (DrawC.keep hdc (C1 (w.heap.size + 1) (0) (.slice p0 nv t0)) (fun gq h h2 => by have := iD gq h; omega)) (C1 (w.heap.size + 1) (1) (.slice p1 na t1)) (fun gq h h2 => by have := iD gq h; omega)) (C1 (w.heap.size + 1) (2) (.slice (some ⟨gl, 0, none⟩) (n1 + 1) t2)) (fun gq h h2 => by have := iD gq h; omega)); have HIV := Lib.hid iD; clear hdc
  obtain ⟨tc94, tf95⟩ := Bk.cf kb5 0 rfl
  obtain ⟨tc96, tf97⟩ := Bk.cf kb5 1 rfl
  obtain ⟨tc98, tf99⟩ := Bk.cf kb5 2 rfl
  obtain ⟨tc100, tf101⟩ := Bk.cf kb4 0 rfl
  obtain ⟨tc102, tf103⟩ := Bk.cf kb4 1 rfl
  obtain ⟨tc104, tf105⟩ := Bk.cf kb4 2 rfl
  have HCF := ((((Chg.refl (fun q => q = w.heap.size + 1) w4).setCell (w.heap.size + 1) 0 (.slice p0 nv t0) (fun _ => rfl)).setCell (w.heap.size + 1) 1 (.slice p1 na t1) (fun _ => rfl)).setCell (w.heap.size + 1) 2 (.slice (some ⟨gl, 0, none⟩) (n1 + 1) t2) (fun _ => rfl))
  have hBf := (Bk.at (Bk.at (Bk.at kb4 0 (.slice p0 nv t0)) 1 (.slice p1 na t1)) 2 (.slice (some ⟨gl, 0, none⟩) (n1 + 1) t2))
  have xr0 := Bk.cell hBf 0 (v := .slice p0 nv t0) rfl
  have xr1 := Bk.cell hBf 1 (v := .slice p1 na t1) rfl
  have xr2 := Bk.cell hBf 2 (v := .slice (some ⟨gl, 0, none⟩) (n1 + 1) t2) rfl
  have HCH := Lib.hid HCF; clear HCF hBf
  have HCR := Lib.hid (And.intro hC hR); clear hC hR
  go_wp2
  exact bodyPost_ret (v := .agg #[.slice p0 nv t0, .slice p1 na t1, .slice (some ⟨gl, 0, none⟩) (n1 + 1) t2]) (by simp [results, Try.results48, go_sem, xr0, xr1, xr2]) rfl (by exact (by unfold MutP; rw [HNA.out, HNL.out]; exact ⟨_, _, _, nv, p + 1, rfl, DrawC.mono HDC.out (by omega), by omega, HCR.out.2.keep HCH.out (fun h => by omega) (fun k hk h => by omega), by omega, chg_app HCR.out.1 HCH.out (fun q hq h => by omega)⟩))
 have qk2 : (z == 2) = false := by simp [hk2]
 by_cases hk3 : z = 3
 ·subst hk3
  obtain ⟨⟨dx106, hdx106⟩, fdx106⟩ := hdc.at (n1) 0 (by omega) (by omega)
  replace hdx106 : w3.cell? ⟨gl, n1 * 5, none⟩ = some (.int .i64 dx106) := hdx106; replace fdx106 : w3.frozen? ⟨gl, n1 * 5, none⟩ = false := fdx106
  obtain ⟨⟨dx107, hdx107⟩, fdx107⟩ := hdc.at (n1) 1 (by omega) (by omega)
  replace hdx107 : w3.cell? ⟨gl, n1 * 5 + 1, none⟩ = some (.int .i64 dx107) := hdx107; replace fdx107 : w3.frozen? ⟨gl, n1 * 5 + 1, none⟩ = false := fdx107
  obtain ⟨⟨dx108, hdx108⟩, fdx108⟩ := hdc.at (n1) 2 (by omega) (by omega)
  replace hdx108 : w3.cell? ⟨gl, n1 * 5 + 2, none⟩ = some (.int .i64 dx108) := hdx108; replace fdx108 : w3.frozen? ⟨gl, n1 * 5 + 2, none⟩ = false := fdx108
  obtain ⟨⟨dx109, hdx109⟩, fdx109⟩ := hdc.at (n1) 3 (by omega) (by omega)
  replace hdx109 : w3.cell? ⟨gl, n1 * 5 + 3, none⟩ = some (.int .i64 dx109) := hdx109; replace fdx109 : w3.frozen? ⟨gl, n1 * 5 + 3, none⟩ = false := fdx109
  obtain ⟨⟨dx110, hdx110⟩, fdx110⟩ := hdc.at (n1) 4 (by omega) (by omega)
  replace hdx110 : w3.cell? ⟨gl, n1 * 5 + 4, none⟩ = some (.int .i64 dx110) := hdx110; replace fdx110 : w3.frozen? ⟨gl, n1 * 5 + 4, none⟩ = false := fdx110
  obtain ⟨tc111, tf112⟩ := Bk.cf kb5 2 rfl
  go_upto_region 18 with (fail)
  obtain ⟨w4, hnw, hb⟩ := nmw (World.setCell (World.setCell (World.setCell (World.setCell (World.setCell w3 ⟨gl, n1 * 5, none⟩ (.int .i64 8)) ⟨gl, n1 * 5 + 1, none⟩ (.int .i64 0)) ⟨gl, n1 * 5 + 2, none⟩ (.int .i64 0)) ⟨gl, n1 * 5 + 3, none⟩ (.int .i64 0)) ⟨gl, n1 * 5 + 4, none⟩ (.int .i64 0))
  replace hC := ((((((hC.setNew _ _ _ (Or.inr (by omega))).setNew _ _ _ (Or.inr (by omega))).setNew _ _ _ (Or.inr (by omega))).setNew _ _ _ (Or.inr (by omega))).setNew _ _ _ (Or.inr (by omega)))).trans (Chg.of_below hb)
  replace hR := (((((hR.keep (C1 _ _ _) (by omega) (fun _ _ => by omega)).keep (C1 _ _ _) (by omega) (fun _ _ => by omega)).keep (C1 _ _ _) (by omega) (fun _ _ => by omega)).keep (C1 _ _ _) (by omega) (fun _ _ => by omega)).keep (C1 _ _ _) (by omega) (fun _ _ => by omega)).below hb
  replace hdc := DrawC.below (DrawC.put (DrawC.put (DrawC.put (DrawC.put (DrawC.put hdc (n1) 0 (by omega) (by omega) (8)) (n1) 1 (by omega) (by omega) (0)) (n1) 2 (by omega) (by omega) (0)) (n1) 3 (by omega) (by omega) (0)) (n1) 4 (by omega) (by omega) (0)) hb
  have hsz113 := hb.size
  simp only [Ss] at hsz113
  clear tf112 tc111
  replace kb5 := Bk.below (Bk.ne (Bk.ne (Bk.ne (Bk.ne (Bk.ne kb5 (by omega) _) (by omega) _) (by omega) _) (by omega) _) (by omega) _) hb
  replace kb4 := Bk.below (Bk.ne (Bk.ne (Bk.ne (Bk.ne (Bk.ne kb4 (by omega) _) (by omega) _) (by omega) _) (by omega) _) (by omega) _) hb
  clear hb
  rw [← hnw]
  clear hnw
  replace lt6 := Bk.lz kb5
  replace lt7 := Bk.lz kb4
  have HDC := Lib.hid (DrawC.keep (DrawC.keep (DrawC.keep hdc (C1 (w.heap.size + 1) (0) (.slice p0 nv t0)) (fun gq h h2 => by have := iD gq h; omega)) (C1 (w.heap.size + 1) (1) (.slice p1 na t1)) (fun gq h h2 => by have := iD gq h; omega)) (C1 (w.heap.size + 1) (2) (.slice (some ⟨gl, 0, none⟩) (n1 + 1) t2)) (fun gq h h2 => by have := iD gq h; omega)); have HIV := Lib.hid iD; clear hdc
  obtain ⟨tc114, tf115⟩ := Bk.cf kb5 0 rfl
  obtain ⟨tc116, tf117⟩ := Bk.cf kb5 1 rfl
  obtain ⟨tc118, tf119⟩ := Bk.cf kb5 2 rfl
  obtain ⟨tc120, tf121⟩ := Bk.cf kb4 0 rfl
  obtain ⟨tc122, tf123⟩ := Bk.cf kb4 1 rfl
  obtain ⟨tc124, tf125⟩ := Bk.cf kb4 2 rfl
  have HCF := ((((Chg.refl (fun q => q = w.heap.size + 1) w4).setCell (w.heap.size + 1) 0 (.slice p0 nv t0) (fun _ => rfl)).setCell (w.heap.size + 1) 1 (.slice p1 na t1) (fun _ => rfl)).setCell (w.heap.size + 1) 2 (.slice (some ⟨gl, 0, none⟩) (n1 + 1) t2) (fun _ => rfl))
  have hBf := (Bk.at (Bk.at (Bk.at kb4 0 (.slice p0 nv t0)) 1 (.slice p1 na t1)) 2 (.slice (some ⟨gl, 0, none⟩) (n1 + 1) t2))
  have xr0 := Bk.cell hBf 0 (v := .slice p0 nv t0) rfl
  have xr1 := Bk.cell hBf 1 (v := .slice p1 na t1) rfl
  have xr2 := Bk.cell hBf 2 (v := .slice (some ⟨gl, 0, none⟩) (n1 + 1) t2) rfl
  have HCH := Lib.hid HCF; clear HCF hBf
  have HCR := Lib.hid (And.intro hC hR); clear hC hR
  go_wp2
  exact bodyPost_ret (v := .agg #[.slice p0 nv t0, .slice p1 na t1, .slice (some ⟨gl, 0, none⟩) (n1 + 1) t2]) (by simp [results, Try.results48, go_sem, xr0, xr1, xr2]) rfl (by exact (by unfold MutP; rw [HNA.out, HNL.out]; exact ⟨_, _, _, nv, p + 1, rfl, DrawC.mono HDC.out (by omega), by omega, HCR.out.2.keep HCH.out (fun h => by omega) (fun k hk h => by omega), by omega, chg_app HCR.out.1 HCH.out (fun q hq h => by omega)⟩))
 have qk3 : (z == 3) = false := by simp [hk3]
 by_cases hk4 : z = 4
 ·subst hk4
  go_upto_region 15 with (fail)
  have hc126 := Bk.cell kb5 2 (v := .slice (some ⟨gl, 0, none⟩) (n1 + 1) t2) rfl
  replace lt6 := Bk.lz kb5
  replace lt7 := Bk.lz kb4
  refine wp_region_noPanic ?_
  refine wp_region_held_drew (S := (fun W' => W'.cell? ⟨b5, 2, none⟩ = some (.slice (some ⟨gl, 0, none⟩) (n1 + 1) t2))) (by kernel_rfl) (Kc (Below.drew (Bs w3)) hc126) (fun hHeld => ?_)
  obtain ⟨w4, hwd⟩ : ∃ X, X = World.drew w3 := ⟨_, rfl⟩
  rw [← hwd] at hHeld ⊢
  have hb : Below w3.heap.size w3 w4 := by rw [hwd]; exact Below.drew (Bs _)
  clear hwd
  replace hC := (hC).trans (Chg.of_below hb)
  replace hR := hR.below hb
  replace hdc := DrawC.below hdc hb
  have hsz127 := hb.size
  replace hc126 := Kc hb hc126
  replace kb5 := Bk.below kb5 hb
  replace kb4 := Bk.below kb4 hb
  clear hb
  replace lt6 := Bk.lz kb5
  replace lt7 := Bk.lz kb4
  refine (tq 0 67 rfl rfl ?_ ?_ (tq 1 68 rfl rfl ?_ ?_ (tq 2 69 rfl rfl ?_ ?_ (tq 3 70 rfl rfl ?_ ?_ (tq 5 72 rfl rfl ?_ ?_ ?_)))))
  iterate 5 (rotate_left; intro W' hSw; (try dsimp only at hSw); go_simp; try with_reducible rfl)
  try simp only [Act.put, sb, List.set]
  refine wpAnyH_ready (rs := [4, 6]) (by kernel_rfl) (by simp) ?_
  refine AllReadyH.cons rfl (fun K hK => ?_) ?_
  ·-- 4
   go_simp
   refine (pick_any _ _ B g (p + 1) hR (by omega) (by omega) (by omega)).mono ?_
   rintro e w5 ⟨zi, zi0, zi1, rfl, hRn, hc⟩
   replace hC := (hC).trans hc
   replace hR := hRn; clear hRn
   replace hdc := DrawC.keep hdc hc (fun q h h2 => by have := iD q h; have := ird q h2; omega)
   have hsz128 := hc.size
   replace hc126 := Gc hc hc126 (fun h => by have := ird _ h; omega)
   replace kb5 := Bk.keep kb5 hc (fun h => by have := ird _ h; omega)
   replace kb4 := Bk.keep kb4 hc (fun h => by have := ird _ h; omega)
   clear hc
   obtain ⟨ti, rfl⟩ := Int.eq_ofNat_of_zero_le zi0
   have hti : ti < n1 + 1 := by omega
   have hti2 : (ti : Int) < (n1 : Int) + 1 := by omega
   clear zi0 zi1
   replace lt6 := Bk.lz kb5
   replace lt7 := Bk.lz kb4
   refine hK.out _ _ (hc126) (fun hHeld => ?_)
   clear hK K
   try simp only [Act.put, sb, List.set]
   refine Rdy 6 rfl (fun K hK => ?_)
   go_simp
   obtain ⟨w6, hnw, hb⟩ := nmw (World.alloc w5 (.cells #[.int .i64 1, .int .i64 (-1)] 3))
   replace hC := ((hC.trans (Chg.of_below (bal (Bs _) _)))).trans (Chg.of_below hb)
   replace hR := (hR.below (bal (Bs _) _)).below hb
   have ol129 := Ob (World.ownsRow_lit (base := (w5).heap.size) (e := 3) (size := 1) (w5) #[.int .i64 1, .int .i64 (-1)] 2 (Nat.le_refl _) (by unfold maxLen; omega) (by simp)) hb
   try simp only [Sa, Ss] at ol129
   replace hdc := DrawC.below (DrawC.below hdc (bal (Bs _) _)) hb
   have hsz130 := hb.size
   simp only [Sa] at hsz130
   replace hc126 := Kc hb (Ac hc126 _)
   replace kb5 := Bk.below (Bk.al kb5 _) hb
   replace kb4 := Bk.below (Bk.al kb4 _) hb
   have bx131 : w6.cell? ⟨w5.heap.size, 0, none⟩ = some (.int .i64 1) := Kc hb (Wc (by simp) (by rfl))
   have bf132 : w6.frozen? ⟨w5.heap.size, 0, none⟩ = false := Kf hb (by simp <;> omega) (Fn (by simp))
   have bx133 : w6.cell? ⟨w5.heap.size, 1, none⟩ = some (.int .i64 (-1)) := Kc hb (Wc (by simp) (by rfl))
   have bf134 : w6.frozen? ⟨w5.heap.size, 1, none⟩ = false := Kf hb (by simp <;> omega) (Fn (by simp))
   clear hb
   have iv135 := ol129.lt
   try simp only [Sa] at iv135
   rw [← hnw]
   clear hnw
   replace lt6 := Bk.lz kb5
   replace lt7 := Bk.lz kb4
   have lt136 := Lc bx131
   refine hK.out _ _ (hc126) (fun hHeld => ?_)
   clear hK K
   try simp only [Act.put, sb, List.set]
   refine Rdy 7 rfl (fun K hK => ?_)
   go_simp
   refine (num_any _ [1, -1] _ B g (p + 1 + 1) hR (Ro ol129 (by simp)) (fun b o c hb => by simp at hb; omega) (by simp) (by simp) (by omega)).mono ?_
   rintro e w7 ⟨vv, vvm, rfl, hRn, hc⟩
   replace hC := (hC).trans hc
   replace hR := hRn; clear hRn
   replace hdc := DrawC.keep hdc hc (fun q h h2 => by have := iD q h; have := ird q h2; omega)
   have hsz137 := hc.size
   replace bf132 := Gf hc (Lc bx131) bf132 (fun h => by have := ird _ h; omega)
   replace bf134 := Gf hc (Lc bx133) bf134 (fun h => by have := ird _ h; omega)
   replace hc126 := Gc hc hc126 (fun h => by have := ird _ h; omega)
   replace bx131 := Gc hc bx131 (fun h => by have := ird _ h; omega)
   replace bx133 := Gc hc bx133 (fun h => by have := ird _ h; omega)
   replace ol129 := Ow ol129 hc (fun gq h h2 => by have := iv135 gq h; have := ird gq h2; omega)
   replace kb5 := Bk.keep kb5 hc (fun h => by have := ird _ h; omega)
   replace kb4 := Bk.keep kb4 hc (fun h => by have := ird _ h; omega)
   clear hc
   clear vvm
   replace lt6 := Bk.lz kb5
   replace lt7 := Bk.lz kb4
   replace lt136 := Lc bx131
   refine hK.out _ _ (hc126) (fun hHeld => ?_)
   clear hK K
   try simp only [Act.put, sb, List.set]
   refine (tq 8 75 rfl rfl ?_ ?_ (tq 9 76 rfl rfl ?_ ?_ ?_))
   iterate 2 (rotate_left; intro W' hSw; (try dsimp only at hSw); go_simp; try with_reducible rfl)
   try simp only [Act.put, sb, List.set]
   refine Rdy 10 rfl (fun K hK => ?_)
   obtain ⟨⟨dx138, hdx138⟩, fdx138⟩ := hdc.at (ti) 4 (by omega) (by omega)
   replace hdx138 : w7.cell? ⟨gl, ti * 5 + 4, none⟩ = some (.int .i64 dx138) := hdx138; replace fdx138 : w7.frozen? ⟨gl, ti * 5 + 4, none⟩ = false := fdx138
   go_simp
   obtain ⟨w8, hnw, hb⟩ := nmw (World.setCell w7 ⟨gl, ti * 5 + 4, none⟩ (.int .i64 vv))
   replace hC := ((hC.setNew _ _ _ (Or.inr (by omega)))).trans (Chg.of_below hb)
   replace hR := (hR.keep (C1 _ _ _) (by omega) (fun _ _ => by omega)).below hb
   replace hdc := DrawC.below (DrawC.put hdc (ti) 4 (by omega) (by omega) (vv)) hb
   have hsz139 := hb.size
   simp only [Ss] at hsz139
   replace bf132 := Kf hb (Lc (Nc bx131 (by omega) _)) (Fs bf132 _)
   replace bf134 := Kf hb (Lc (Nc bx133 (by omega) _)) (Fs bf134 _)
   replace hc126 := Kc hb (Nc hc126 (by omega) _)
   replace bx131 := Kc hb (Nc bx131 (by omega) _)
   replace bx133 := Kc hb (Nc bx133 (by omega) _)
   replace ol129 := Ob (Oe ol129 _ _ (fun h => by have := iv135 _ h; omega) _) hb
   replace kb5 := Bk.below (Bk.ne kb5 (by omega) _) hb
   replace kb4 := Bk.below (Bk.ne kb4 (by omega) _) hb
   clear hb
   rw [← hnw]
   clear hnw
   replace lt6 := Bk.lz kb5
   replace lt7 := Bk.lz kb4
   replace lt136 := Lc bx131
   refine hK.out _ _ (hc126) (fun hHeld => ?_)
   clear hK K
   try simp only [Act.put, sb, List.set]
   refine wpAnyH_done (by kernel_rfl) ?_ _
   refine NoPanic.normal ?_
   clear hHeld
   obtain ⟨⟨dx140, hdx140⟩, fdx140⟩ := hdc.at (ti) 4 (by omega) (by omega)
   replace hdx140 : w8.cell? ⟨gl, ti * 5 + 4, none⟩ = some (.int .i64 dx140) := hdx140; replace fdx140 : w8.frozen? ⟨gl, ti * 5 + 4, none⟩ = false := fdx140
   go_upto_region 18 with (fail)
   clear bx131 bf132 bx133 bf134
   clear lt136
   replace lt6 := Bk.lz kb5
   replace lt7 := Bk.lz kb4
   have HDC := Lib.hid (DrawC.keep (DrawC.keep (DrawC.keep hdc (C1 (w.heap.size + 1) (0) (.slice p0 nv t0)) (fun gq h h2 => by have := iD gq h; omega)) (C1 (w.heap.size + 1) (1) (.slice p1 na t1)) (fun gq h h2 => by have := iD gq h; omega)) (C1 (w.heap.size + 1) (2) (.slice (some ⟨gl, 0, none⟩) (n1 + 1) t2)) (fun gq h h2 => by have := iD gq h; omega)); have HIV := Lib.hid iD; clear hdc
   obtain ⟨tc141, tf142⟩ := Bk.cf kb5 0 rfl
   obtain ⟨tc143, tf144⟩ := Bk.cf kb5 1 rfl
   obtain ⟨tc145, tf146⟩ := Bk.cf kb4 0 rfl
   obtain ⟨tc147, tf148⟩ := Bk.cf kb4 1 rfl
   obtain ⟨tc149, tf150⟩ := Bk.cf kb4 2 rfl
   have HCF := ((((Chg.refl (fun q => q = w.heap.size + 1) w8).setCell (w.heap.size + 1) 0 (.slice p0 nv t0) (fun _ => rfl)).setCell (w.heap.size + 1) 1 (.slice p1 na t1) (fun _ => rfl)).setCell (w.heap.size + 1) 2 (.slice (some ⟨gl, 0, none⟩) (n1 + 1) t2) (fun _ => rfl))
   have hBf := (Bk.at (Bk.at (Bk.at kb4 0 (.slice p0 nv t0)) 1 (.slice p1 na t1)) 2 (.slice (some ⟨gl, 0, none⟩) (n1 + 1) t2))
   have xr0 := Bk.cell hBf 0 (v := .slice p0 nv t0) rfl
   have xr1 := Bk.cell hBf 1 (v := .slice p1 na t1) rfl
   have xr2 := Bk.cell hBf 2 (v := .slice (some ⟨gl, 0, none⟩) (n1 + 1) t2) rfl
   have HCH := Lib.hid HCF; clear HCF hBf
   have HCR := Lib.hid (And.intro hC hR); clear hC hR
   go_wp2
   exact bodyPost_ret (v := .agg #[.slice p0 nv t0, .slice p1 na t1, .slice (some ⟨gl, 0, none⟩) (n1 + 1) t2]) (by simp [results, Try.results48, go_sem, xr0, xr1, xr2]) rfl (by exact (by unfold MutP; rw [HNA.out, HNL.out]; exact ⟨_, _, _, nv, p + 1 + 1 + 1, rfl, DrawC.mono HDC.out (by omega), by omega, HCR.out.2.keep HCH.out (fun h => by omega) (fun k hk h => by omega), by omega, chg_app HCR.out.1 HCH.out (fun q hq h => by omega)⟩))
  refine AllReadyH.cons rfl (fun K hK => ?_) AllReadyH.nil
  go_simp
  obtain ⟨w5, hnw, hb⟩ := nmw (World.alloc w4 (.cells #[.int .i64 1, .int .i64 (-1)] 3))
  replace hC := ((hC.trans (Chg.of_below (bal (Bs _) _)))).trans (Chg.of_below hb)
  replace hR := (hR.below (bal (Bs _) _)).below hb
  have ol151 := Ob (World.ownsRow_lit (base := (w4).heap.size) (e := 3) (size := 1) (w4) #[.int .i64 1, .int .i64 (-1)] 2 (Nat.le_refl _) (by unfold maxLen; omega) (by simp)) hb
  try simp only [Sa, Ss] at ol151
  replace hdc := DrawC.below (DrawC.below hdc (bal (Bs _) _)) hb
  have hsz152 := hb.size
  simp only [Sa] at hsz152
  replace hc126 := Kc hb (Ac hc126 _)
  replace kb5 := Bk.below (Bk.al kb5 _) hb
  replace kb4 := Bk.below (Bk.al kb4 _) hb
  have bx153 : w5.cell? ⟨w4.heap.size, 0, none⟩ = some (.int .i64 1) := Kc hb (Wc (by simp) (by rfl))
  have bf154 : w5.frozen? ⟨w4.heap.size, 0, none⟩ = false := Kf hb (by simp <;> omega) (Fn (by simp))
  have bx155 : w5.cell? ⟨w4.heap.size, 1, none⟩ = some (.int .i64 (-1)) := Kc hb (Wc (by simp) (by rfl))
  have bf156 : w5.frozen? ⟨w4.heap.size, 1, none⟩ = false := Kf hb (by simp <;> omega) (Fn (by simp))
  clear hb
  have iv157 := ol151.lt
  try simp only [Sa] at iv157
  rw [← hnw]
  clear hnw
  replace lt6 := Bk.lz kb5
  replace lt7 := Bk.lz kb4
  have lt158 := Lc bx153
  refine hK.out _ _ (hc126) (fun hHeld => ?_)
  clear hK K
  try simp only [Act.put, sb, List.set]
  refine Rdy 4 rfl (fun K hK => ?_)
  go_simp
  refine (pick_any _ _ B g (p + 1) hR (by omega) (by omega) (by omega)).mono ?_
  rintro e w6 ⟨zi, zi0, zi1, rfl, hRn, hc⟩
  replace hC := (hC).trans hc
  replace hR := hRn; clear hRn
  replace hdc := DrawC.keep hdc hc (fun q h h2 => by have := iD q h; have := ird q h2; omega)
  have hsz159 := hc.size
  replace bf154 := Gf hc (Lc bx153) bf154 (fun h => by have := ird _ h; omega)
  replace bf156 := Gf hc (Lc bx155) bf156 (fun h => by have := ird _ h; omega)
  replace hc126 := Gc hc hc126 (fun h => by have := ird _ h; omega)
  replace bx153 := Gc hc bx153 (fun h => by have := ird _ h; omega)
  replace bx155 := Gc hc bx155 (fun h => by have := ird _ h; omega)
  replace ol151 := Ow ol151 hc (fun gq h h2 => by have := iv157 gq h; have := ird gq h2; omega)
  replace kb5 := Bk.keep kb5 hc (fun h => by have := ird _ h; omega)
  replace kb4 := Bk.keep kb4 hc (fun h => by have := ird _ h; omega)
  clear hc
  obtain ⟨ti, rfl⟩ := Int.eq_ofNat_of_zero_le zi0
  have hti : ti < n1 + 1 := by omega
  have hti2 : (ti : Int) < (n1 : Int) + 1 := by omega
  clear zi0 zi1
  replace lt6 := Bk.lz kb5
  replace lt7 := Bk.lz kb4
  replace lt158 := Lc bx153
  refine hK.out _ _ (hc126) (fun hHeld => ?_)
  clear hK K
  try simp only [Act.put, sb, List.set]
  refine Rdy 7 rfl (fun K hK => ?_)
  go_simp
  refine (num_any _ [1, -1] _ B g (p + 1 + 1) hR (Ro ol151 (by simp)) (fun b o c hb => by simp at hb; omega) (by simp) (by simp) (by omega)).mono ?_
  rintro e w7 ⟨vv, vvm, rfl, hRn, hc⟩
  replace hC := (hC).trans hc
  replace hR := hRn; clear hRn
  replace hdc := DrawC.keep hdc hc (fun q h h2 => by have := iD q h; have := ird q h2; omega)
  have hsz160 := hc.size
  replace bf154 := Gf hc (Lc bx153) bf154 (fun h => by have := ird _ h; omega)
  replace bf156 := Gf hc (Lc bx155) bf156 (fun h => by have := ird _ h; omega)
  replace hc126 := Gc hc hc126 (fun h => by have := ird _ h; omega)
  replace bx153 := Gc hc bx153 (fun h => by have := ird _ h; omega)
  replace bx155 := Gc hc bx155 (fun h => by have := ird _ h; omega)
  replace ol151 := Ow ol151 hc (fun gq h h2 => by have := iv157 gq h; have := ird gq h2; omega)
  replace kb5 := Bk.keep kb5 hc (fun h => by have := ird _ h; omega)
  replace kb4 := Bk.keep kb4 hc (fun h => by have := ird _ h; omega)
  clear hc
  clear vvm
  replace lt6 := Bk.lz kb5
  replace lt7 := Bk.lz kb4
  replace lt158 := Lc bx153
  refine hK.out _ _ (hc126) (fun hHeld => ?_)
  clear hK K
  try simp only [Act.put, sb, List.set]
  refine (tq 8 75 rfl rfl ?_ ?_ (tq 9 76 rfl rfl ?_ ?_ ?_))
  iterate 2 (rotate_left; intro W' hSw; (try dsimp only at hSw); go_simp; try with_reducible rfl)
  try simp only [Act.put, sb, List.set]
  refine Rdy 10 rfl (fun K hK => ?_)
  obtain ⟨⟨dx161, hdx161⟩, fdx161⟩ := hdc.at (ti) 4 (by omega) (by omega)
  replace hdx161 : w7.cell? ⟨gl, ti * 5 + 4, none⟩ = some (.int .i64 dx161) := hdx161; replace fdx161 : w7.frozen? ⟨gl, ti * 5 + 4, none⟩ = false := fdx161
  go_simp
  obtain ⟨w8, hnw, hb⟩ := nmw (World.setCell w7 ⟨gl, ti * 5 + 4, none⟩ (.int .i64 vv))
  replace hC := ((hC.setNew _ _ _ (Or.inr (by omega)))).trans (Chg.of_below hb)
  replace hR := (hR.keep (C1 _ _ _) (by omega) (fun _ _ => by omega)).below hb
  replace hdc := DrawC.below (DrawC.put hdc (ti) 4 (by omega) (by omega) (vv)) hb
  have hsz162 := hb.size
  simp only [Ss] at hsz162
  replace bf154 := Kf hb (Lc (Nc bx153 (by omega) _)) (Fs bf154 _)
  replace bf156 := Kf hb (Lc (Nc bx155 (by omega) _)) (Fs bf156 _)
  replace hc126 := Kc hb (Nc hc126 (by omega) _)
  replace bx153 := Kc hb (Nc bx153 (by omega) _)
  replace bx155 := Kc hb (Nc bx155 (by omega) _)
  replace ol151 := Ob (Oe ol151 _ _ (fun h => by have := iv157 _ h; omega) _) hb
  replace kb5 := Bk.below (Bk.ne kb5 (by omega) _) hb
  replace kb4 := Bk.below (Bk.ne kb4 (by omega) _) hb
  clear hb
  rw [← hnw]
  clear hnw
  replace lt6 := Bk.lz kb5
  replace lt7 := Bk.lz kb4
  replace lt158 := Lc bx153
  refine hK.out _ _ (hc126) (fun hHeld => ?_)
  clear hK K
  try simp only [Act.put, sb, List.set]
  refine wpAnyH_done (by kernel_rfl) ?_ _
  refine NoPanic.normal ?_
  clear hHeld
  obtain ⟨⟨dx163, hdx163⟩, fdx163⟩ := hdc.at (ti) 4 (by omega) (by omega)
  replace hdx163 : w8.cell? ⟨gl, ti * 5 + 4, none⟩ = some (.int .i64 dx163) := hdx163; replace fdx163 : w8.frozen? ⟨gl, ti * 5 + 4, none⟩ = false := fdx163
  go_upto_region 18 with (fail)
  clear bx153 bf154 bx155 bf156
  clear lt158
  replace lt6 := Bk.lz kb5
  replace lt7 := Bk.lz kb4
  have HDC := Lib.hid (DrawC.keep (DrawC.keep (DrawC.keep hdc (C1 (w.heap.size + 1) (0) (.slice p0 nv t0)) (fun gq h h2 => by have := iD gq h; omega)) (C1 (w.heap.size + 1) (1) (.slice p1 na t1)) (fun gq h h2 => by have := iD gq h; omega)) (C1 (w.heap.size + 1) (2) (.slice (some ⟨gl, 0, none⟩) (n1 + 1) t2)) (fun gq h h2 => by have := iD gq h; omega)); have HIV := Lib.hid iD; clear hdc
  obtain ⟨tc164, tf165⟩ := Bk.cf kb5 0 rfl
  obtain ⟨tc166, tf167⟩ := Bk.cf kb5 1 rfl
  obtain ⟨tc168, tf169⟩ := Bk.cf kb4 0 rfl
  obtain ⟨tc170, tf171⟩ := Bk.cf kb4 1 rfl
  obtain ⟨tc172, tf173⟩ := Bk.cf kb4 2 rfl
  have HCF := ((((Chg.refl (fun q => q = w.heap.size + 1) w8).setCell (w.heap.size + 1) 0 (.slice p0 nv t0) (fun _ => rfl)).setCell (w.heap.size + 1) 1 (.slice p1 na t1) (fun _ => rfl)).setCell (w.heap.size + 1) 2 (.slice (some ⟨gl, 0, none⟩) (n1 + 1) t2) (fun _ => rfl))
  have hBf := (Bk.at (Bk.at (Bk.at kb4 0 (.slice p0 nv t0)) 1 (.slice p1 na t1)) 2 (.slice (some ⟨gl, 0, none⟩) (n1 + 1) t2))
  have xr0 := Bk.cell hBf 0 (v := .slice p0 nv t0) rfl
  have xr1 := Bk.cell hBf 1 (v := .slice p1 na t1) rfl
  have xr2 := Bk.cell hBf 2 (v := .slice (some ⟨gl, 0, none⟩) (n1 + 1) t2) rfl
  have HCH := Lib.hid HCF; clear HCF hBf
  have HCR := Lib.hid (And.intro hC hR); clear hC hR
  go_wp2
  exact bodyPost_ret (v := .agg #[.slice p0 nv t0, .slice p1 na t1, .slice (some ⟨gl, 0, none⟩) (n1 + 1) t2]) (by simp [results, Try.results48, go_sem, xr0, xr1, xr2]) rfl (by exact (by unfold MutP; rw [HNA.out, HNL.out]; exact ⟨_, _, _, nv, p + 1 + 1 + 1, rfl, DrawC.mono HDC.out (by omega), by omega, HCR.out.2.keep HCH.out (fun h => by omega) (fun k hk h => by omega), by omega, chg_app HCR.out.1 HCH.out (fun q hq h => by omega)⟩))
 have qk4 : (z == 4) = false := by simp [hk4]
 by_cases hk5 : z = 5
 ·subst hk5
  obtain ⟨tc175, tf176⟩ := Bk.cf kb5 0 rfl
  go_upto_region 18 with (fail)
  obtain ⟨w4, hnw, hb⟩ := nmw (World.alloc (World.setCell w3 ⟨b5, 0, none⟩ (.slice (some ⟨w3.heap.size, 0, none⟩) 0 0)) (.cells #[] 3))
  replace hC := (((hC.setNew _ _ _ (Or.inr (by omega))).trans (Chg.of_below (bal (Bs _) _)))).trans (Chg.of_below hb)
  replace hR := ((hR.keep (C1 _ _ _) (by omega) (fun _ _ => by omega)).below (bal (Bs _) _)).below hb
  have ol174 := Ob (World.ownsRow_lit (base := ((World.setCell w3 ⟨b5, 0, none⟩ (.slice (some ⟨w3.heap.size, 0, none⟩) 0 0))).heap.size) (e := 3) (size := 1) ((World.setCell w3 ⟨b5, 0, none⟩ (.slice (some ⟨w3.heap.size, 0, none⟩) 0 0))) #[] 0 (Nat.le_refl _) (by unfold maxLen; omega) (by simp)) hb
  try simp only [Sa, Ss] at ol174
  replace hdc := DrawC.below (DrawC.below (DrawC.keep hdc (C1 _ _ _) (fun gq h h2 => by have := iD gq h; omega)) (bal (Bs _) _)) hb
  have hsz177 := hb.size
  simp only [Sa, Ss] at hsz177
  clear tf176 tc175
  replace kb5 : Bk w4 (b5) [.slice (some ⟨w3.heap.size, 0, none⟩) 0 0, .slice p1 na t1, .slice (some ⟨gl, 0, none⟩) (n1 + 1) t2] := Bk.below (Bk.al (Bk.at kb5 0 (.slice (some ⟨w3.heap.size, 0, none⟩) 0 0)) _) hb
  replace kb4 := Bk.below (Bk.al (Bk.ne kb4 (by omega) _) _) hb
  clear hb
  have iv178 := ol174.lt
  try simp only [Sa, Ss] at iv178
  rw [← hnw]
  clear hnw
  replace lt6 := Bk.lz kb5
  replace lt7 := Bk.lz kb4
  have hdv := DrawC.novars hdc (Om ol174 (by omega)) (fun q h h2 => by have := iv178 q h; have := iD q (Or.inr (Or.inl h2)); omega)
  have iV : ∀ q, OwnB (.slice (some ⟨w3.heap.size, 0, none⟩) 0 0) (.slice p1 na t1) (.slice (some ⟨gl, 0, none⟩) (n1 + 1) t2) q → ¬ q = b5 ∧ ¬ q = w.heap.size + 1 := fun q h => by
   rcases h with h | h | h
   ·have := iv178 q h; omega
   ·have := iD q (Or.inr (Or.inl h)); omega
   ·have := iD q (Or.inr (Or.inr h)); omega
  clear hdc ol174
  have HDC := Lib.hid (DrawC.keep (DrawC.keep (DrawC.keep hdv (C1 (w.heap.size + 1) (0) (.slice (some ⟨w3.heap.size, 0, none⟩) 0 0)) (fun gq h h2 => by have := iV gq h; omega)) (C1 (w.heap.size + 1) (1) (.slice p1 na t1)) (fun gq h h2 => by have := iV gq h; omega)) (C1 (w.heap.size + 1) (2) (.slice (some ⟨gl, 0, none⟩) (n1 + 1) t2)) (fun gq h h2 => by have := iV gq h; omega)); have HIV := Lib.hid iV; clear hdv
  obtain ⟨tc179, tf180⟩ := Bk.cf kb5 0 rfl
  obtain ⟨tc181, tf182⟩ := Bk.cf kb5 1 rfl
  obtain ⟨tc183, tf184⟩ := Bk.cf kb5 2 rfl
  obtain ⟨tc185, tf186⟩ := Bk.cf kb4 0 rfl
  obtain ⟨tc187, tf188⟩ := Bk.cf kb4 1 rfl
  obtain ⟨tc189, tf190⟩ := Bk.cf kb4 2 rfl
  have HCF := ((((Chg.refl (fun q => q = w.heap.size + 1) w4).setCell (w.heap.size + 1) 0 (.slice (some ⟨w3.heap.size, 0, none⟩) 0 0) (fun _ => rfl)).setCell (w.heap.size + 1) 1 (.slice p1 na t1) (fun _ => rfl)).setCell (w.heap.size + 1) 2 (.slice (some ⟨gl, 0, none⟩) (n1 + 1) t2) (fun _ => rfl))
  have hBf := (Bk.at (Bk.at (Bk.at kb4 0 (.slice (some ⟨w3.heap.size, 0, none⟩) 0 0)) 1 (.slice p1 na t1)) 2 (.slice (some ⟨gl, 0, none⟩) (n1 + 1) t2))
  have xr0 := Bk.cell hBf 0 (v := .slice (some ⟨w3.heap.size, 0, none⟩) 0 0) rfl
  have xr1 := Bk.cell hBf 1 (v := .slice p1 na t1) rfl
  have xr2 := Bk.cell hBf 2 (v := .slice (some ⟨gl, 0, none⟩) (n1 + 1) t2) rfl
  have HCH := Lib.hid HCF; clear HCF hBf
  have HCR := Lib.hid (And.intro hC hR); clear hC hR
  go_wp2
  exact bodyPost_ret (v := .agg #[.slice (some ⟨w3.heap.size, 0, none⟩) 0 0, .slice p1 na t1, .slice (some ⟨gl, 0, none⟩) (n1 + 1) t2]) (by simp [results, Try.results48, go_sem, xr0, xr1, xr2]) rfl (by exact (by unfold MutP; rw [HNA.out, HNL.out]; exact ⟨_, _, _, 0, p + 1, rfl, DrawC.mono HDC.out (by omega), by omega, HCR.out.2.keep HCH.out (fun h => by omega) (fun k hk h => by omega), by omega, chg_app HCR.out.1 HCH.out (fun q hq h => by omega)⟩))
 have qk5 : (z == 5) = false := by simp [hk5]
 go_upto_region 18 with (fail)
 replace lt6 := Bk.lz kb5
 replace lt7 := Bk.lz kb4
 have HDC := Lib.hid (DrawC.keep (DrawC.keep (DrawC.keep hdc (C1 (w.heap.size + 1) (0) (.slice p0 nv t0)) (fun gq h h2 => by have := iD gq h; omega)) (C1 (w.heap.size + 1) (1) (.slice p1 na t1)) (fun gq h h2 => by have := iD gq h; omega)) (C1 (w.heap.size + 1) (2) (.slice (some ⟨gl, 0, none⟩) (n1 + 1) t2)) (fun gq h h2 => by have := iD gq h; omega)); have HIV := Lib.hid iD; clear hdc
 obtain ⟨tc191, tf192⟩ := Bk.cf kb5 0 rfl
 obtain ⟨tc193, tf194⟩ := Bk.cf kb5 1 rfl
 obtain ⟨tc195, tf196⟩ := Bk.cf kb5 2 rfl
 obtain ⟨tc197, tf198⟩ := Bk.cf kb4 0 rfl
 obtain ⟨tc199, tf200⟩ := Bk.cf kb4 1 rfl
 obtain ⟨tc201, tf202⟩ := Bk.cf kb4 2 rfl
 have HCF := ((((Chg.refl (fun q => q = w.heap.size + 1) w3).setCell (w.heap.size + 1) 0 (.slice p0 nv t0) (fun _ => rfl)).setCell (w.heap.size + 1) 1 (.slice p1 na t1) (fun _ => rfl)).setCell (w.heap.size + 1) 2 (.slice (some ⟨gl, 0, none⟩) (n1 + 1) t2) (fun _ => rfl))
 have hBf := (Bk.at (Bk.at (Bk.at kb4 0 (.slice p0 nv t0)) 1 (.slice p1 na t1)) 2 (.slice (some ⟨gl, 0, none⟩) (n1 + 1) t2))
 have xr0 := Bk.cell hBf 0 (v := .slice p0 nv t0) rfl
 have xr1 := Bk.cell hBf 1 (v := .slice p1 na t1) rfl
 have xr2 := Bk.cell hBf 2 (v := .slice (some ⟨gl, 0, none⟩) (n1 + 1) t2) rfl
 have HCH := Lib.hid HCF; clear HCF hBf
 have HCR := Lib.hid (And.intro hC hR); clear hC hR
 go_wp2
 exact bodyPost_ret (v := .agg #[.slice p0 nv t0, .slice p1 na t1, .slice (some ⟨gl, 0, none⟩) (n1 + 1) t2]) (by simp [results, Try.results48, go_sem, xr0, xr1, xr2]) rfl (by exact (by unfold MutP; rw [HNA.out, HNL.out]; exact ⟨_, _, _, nv, p + 1, rfl, DrawC.mono HDC.out (by omega), by omega, HCR.out.2.keep HCH.out (fun h => by omega) (fun k hk h => by omega), by omega, chg_app HCR.out.1 HCH.out (fun q hq h => by omega)⟩))
end Go.Proofs.Ytkjedgnepnbkpaa
