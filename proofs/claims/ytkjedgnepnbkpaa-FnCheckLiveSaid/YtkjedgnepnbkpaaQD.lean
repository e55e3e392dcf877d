/-
 Parts of the proofs of the laws FnCheckLive, FnFinalRegs, FnLiveRegister, FnLiveRegs.
-/
import Derived.Test.YtkjedgnepnbkpaaPY
import Derived.Test.YtkjedgnepnbkpaaQC
set_option linter.all false
namespace Go.Proofs.Ytkjedgnepnbkpaa
open Go.RowKit

set_option maxHeartbeats 6400000 in
set_option maxRecDepth 100000 in
theorem l2DrawStmt_of (pv pa : Option Addr) (nv cv na ca : Nat) (vb : Value) (B g : Nat) (hnv : 1 ≤ nv) (hnb : nv ≤ 1000 ∧ na ≤ 1000) (d : Nat) (hd : d ≤ 3) (Hb : 1 ≤ d → ∀ (n p : Nat) (w : World), n ≤ 2 → Rnd w B g p → p + n * scost d ≤ 1000000000 → Calls Try.prog 147 #[.pointer (some ⟨g, 0, none⟩), .agg #[.slice pv nv cv, .slice pa na ca, vb], .int .i64 (d : Int), .int .i64 (n : Int)] w fun r w' => ∃ (a : Option Addr) (c : Nat) (L : List St) (p' : Nat), r = .returned (.slice a L.length c) ∧ BlAt w' (fun q => w.heap.size ≤ q) d (.slice a L.length c) L ∧ L.length = n ∧ (∀ x ∈ L, SmS d x) ∧ Rnd w' B g p' ∧ p' ≤ p + n * scost d ∧ Chg (fun q => q = g) w w')
  (p : Nat) (w : World) (hR : Rnd w B g p) (hp : p + scost (d + 1) ≤ 1000000000) :
  Calls Try.prog 164 #[.pointer (some ⟨g, 0, none⟩), .agg #[.slice pv nv cv, .slice pa na ca, vb], .int .i64 ((d + 1 : Nat) : Int)] w fun r w' => ∃ (n : Sn) (s : St) (p' : Nat), r = .returned (.agg #[.int .i64 n.k, .int .i64 n.t, .int .i64 n.ix.k, .int .i64 n.ix.v, .slice n.ix.p n.ix.n n.ix.c, .int .i64 n.val.k, .int .i64 n.val.v, .slice n.val.p n.val.n n.val.c, .int .i64 n.c, .slice n.bp n.bn n.bc, .slice n.ep n.en n.ec]) ∧ StAt w' (fun q => w.heap.size ≤ q) (d + 1) n s ∧ SmS (d + 1) s ∧ Rnd w' B g p' ∧ p' ≤ p + scost (d + 1) ∧ Chg (fun q => q = g) w w' := by
 have hsc : scost (d + 1) = 30000 + 4 * scost d := rfl
 have HSC := Lib.hid hsc; clear hsc
 have hp0 : p + 30000 ≤ 1000000000 := by have := HSC.out; omega
 have HPS : Hid (p + 30000 + 4 * scost d ≤ 1000000000) := Lib.hid (by have := HSC.out; omega)
 have HP0 := Lib.hid hp; clear hp
 have HBH := Lib.hid Hb; clear Hb
 have HWD : Hid (IntKind.i64.wrap (d : Int) = d) := Lib.hid (IntWalk.i64_in _ (by omega))
 have hg := hR.lt
 have hC : Chg (fun k => k = g) w w := Chg.refl _ _
 have ird : ∀ q, (fun k => k = g) q → q = g := fun q h => h
 go_enter Try.func164, Try.ntmps164
 go_wp2_with fail
 have hqn := num_any _ [1, 1, 2, 3, 4, 1, 3, 5] _ B g (p) (((hR.below (bal (Bs _) (.cells #[.slice pv nv cv, .slice pa na ca, vb] 110))).below (bal (Bs _) (.cells #[.int .i64 0, .int .i64 0, .int .i64 0, .int .i64 0, .slice none 0 0, .int .i64 0, .int .i64 0, .slice none 0 0, .int .i64 0, .slice none 0 0, .slice none 0 0] 163))).below (bal (Bs _) (.cells #[.int .i64 1, .int .i64 1, .int .i64 2, .int .i64 3, .int .i64 4, .int .i64 1, .int .i64 3, .int .i64 5] 3))) (Ro (World.ownsRow_lit (base := ((World.alloc (World.alloc w (.cells #[.slice pv nv cv, .slice pa na ca, vb] 110)) (.cells #[.int .i64 0, .int .i64 0, .int .i64 0, .int .i64 0, .slice none 0 0, .int .i64 0, .int .i64 0, .slice none 0 0, .int .i64 0, .slice none 0 0, .slice none 0 0] 163))).heap.size) (e := 3) (size := 1) ((World.alloc (World.alloc w (.cells #[.slice pv nv cv, .slice pa na ca, vb] 110)) (.cells #[.int .i64 0, .int .i64 0, .int .i64 0, .int .i64 0, .slice none 0 0, .int .i64 0, .int .i64 0, .slice none 0 0, .int .i64 0, .slice none 0 0, .slice none 0 0] 163))) #[.int .i64 1, .int .i64 1, .int .i64 2, .int .i64 3, .int .i64 4, .int .i64 1, .int .i64 3, .int .i64 5] 8 (Nat.le_refl _) (by unfold maxLen; omega) (by simp)) (by simp)) (fun b o c hb => by simp at hb; omega) (by simp) (by simp) (by omega)
 simp only [Sa] at hqn
 refine (hqn).mono ?_
 rintro e w1 ⟨kd, kdm, rfl, hRn, hc⟩
 clear hqn
 replace hC := ((((hC.trans (Chg.of_below (bal (Bs _) _))).trans (Chg.of_below (bal (Bs _) _))).trans (Chg.of_below (bal (Bs _) _)))).trans hc
 replace hR := hRn; clear hRn
 have hsz2 := hc.size
 simp only [Sa] at hsz2
 have bk3 : Bk w1 (w.heap.size) [.slice pv nv cv, .slice pa na ca, vb] := Bk.keep (Bk.al (Bk.al (Bk.nw (by simp) rfl) (.cells #[.int .i64 0, .int .i64 0, .int .i64 0, .int .i64 0, .slice none 0 0, .int .i64 0, .int .i64 0, .slice none 0 0, .int .i64 0, .slice none 0 0, .slice none 0 0] 163)) (.cells #[.int .i64 1, .int .i64 1, .int .i64 2, .int .i64 3, .int .i64 4, .int .i64 1, .int .i64 3, .int .i64 5] 3)) hc (fun h => by have := ird _ h; omega)
 have bk4 : Bk w1 (w.heap.size + 1) [.int .i64 0, .int .i64 0, .int .i64 0, .int .i64 0, .slice none 0 0, .int .i64 0, .int .i64 0, .slice none 0 0, .int .i64 0, .slice none 0 0, .slice none 0 0] := Bk.keep (Bk.al (Bk.nw (by simp) rfl) (.cells #[.int .i64 1, .int .i64 1, .int .i64 2, .int .i64 3, .int .i64 4, .int .i64 1, .int .i64 3, .int .i64 5] 3)) hc (fun h => by have := ird _ h; omega)
 have bk5 : Bk w1 (w.heap.size + 1 + 1) [.int .i64 1, .int .i64 1, .int .i64 2, .int .i64 3, .int .i64 4, .int .i64 1, .int .i64 3, .int .i64 5] := Bk.keep (Bk.nw (by simp) rfl) hc (fun h => by have := ird _ h; omega)
 clear hc
 clear bk5
 have lt6 := Bk.lz bk3
 have lt7 := Bk.lz bk4
 have hkd := drawn_sk kdm; clear kdm
 rcases hkd with rfl | rfl | rfl | rfl | rfl
 ·skip
  have hna0 : True := trivial
  obtain ⟨tc8, tf9⟩ := Bk.cf bk3 0 rfl
  go_wp2_with fail
  refine (pick_any _ _ B g (p + 1) (hR.below (bal (Bs _) (.cells #[.int .i64 1, .int .i64 0, .int .i64 0, .int .i64 0, .slice none 0 0, .int .i64 0, .int .i64 0, .slice none 0 0, .int .i64 0, .slice none 0 0, .slice none 0 0] 163))) (by omega) (by omega) (by omega)).mono ?_
  rintro e w2 ⟨tg, tg0, tg1, rfl, hRn, hc⟩
  replace hC := ((hC.trans (Chg.of_below (bal (Bs _) _)))).trans hc
  replace hR := hRn; clear hRn
  have hsz10 := hc.size
  simp only [Sa] at hsz10
  clear tf9 tc8
  replace bk3 := Bk.keep (Bk.al bk3 _) hc (fun h => by have := ird _ h; omega)
  replace bk4 := Bk.keep (Bk.al bk4 _) hc (fun h => by have := ird _ h; omega)
  have bk11 : Bk w2 (w1.heap.size) [.int .i64 1, .int .i64 0, .int .i64 0, .int .i64 0, .slice none 0 0, .int .i64 0, .int .i64 0, .slice none 0 0, .int .i64 0, .slice none 0 0, .slice none 0 0] := Bk.keep (Bk.nw (by simp) rfl) hc (fun h => by have := ird _ h; omega)
  clear hc
  replace lt6 := Bk.lz bk3
  replace lt7 := Bk.lz bk4
  have lt12 := Bk.lz bk11
  obtain ⟨tc13, tf14⟩ := Bk.cf bk3 0 rfl
  obtain ⟨tc15, tf16⟩ := Bk.cf bk3 1 rfl
  obtain ⟨tc17, tf18⟩ := Bk.cf bk3 2 rfl
  obtain ⟨tc19, tf20⟩ := Bk.cf bk11 1 rfl
  go_wp2_with fail
  refine (l2Small_any pv pa nv cv na ca vb B g (p + 1 + 1) _ (hR.keep (C1 (w1.heap.size) (1) (.int .i64 tg)) (by omega) (fun _ _ => by omega)) (by omega) hnv hnb).mono ?_
  rintro e w3 ⟨n1, e1, p1, rfl, hE1, hT1, hRn, hq1, hc⟩
  replace hC := ((hC.setNew _ _ _ (Or.inr (by omega)))).trans hc
  replace hR := hRn; clear hRn
  have hsz21 := hc.size
  simp only [Ss] at hsz21
  clear tf14 tc13 tf16 tc15 tf18 tc17 tf20 tc19
  replace bk3 := Bk.keep (Bk.ne bk3 (by omega) _) hc (fun h => by have := ird _ h; omega)
  replace bk4 := Bk.keep (Bk.ne bk4 (by omega) _) hc (fun h => by have := ird _ h; omega)
  replace bk11 : Bk w3 (w1.heap.size) [.int .i64 1, .int .i64 tg, .int .i64 0, .int .i64 0, .slice none 0 0, .int .i64 0, .int .i64 0, .slice none 0 0, .int .i64 0, .slice none 0 0, .slice none 0 0] := Bk.keep (Bk.at bk11 1 (.int .i64 tg)) hc (fun h => by have := ird _ h; omega)
  clear hc
  clear bk3
  try simp only [Sa, Ss] at hE1
  replace hE1 := ExAt.keep (S := fun _ => False) (Chg.refl _ _) (fun _ _ _ => id) (fun q (hq : w2.heap.size ≤ q) hlt => (show w2.heap.size ≤ q ∧ q < w3.heap.size from ⟨hq, hlt⟩)) (Nat.le_refl _) hE1
  clear lt6
  replace lt7 := Bk.lz bk4
  replace lt12 := Bk.lz bk11
  obtain ⟨tc22, tf23⟩ := Bk.cf bk11 5 rfl
  obtain ⟨tc24, tf25⟩ := Bk.cf bk11 6 rfl
  obtain ⟨tc26, tf27⟩ := Bk.cf bk11 7 rfl
  go_upto_region 18 with (fail)
  obtain ⟨w4, hnw, hb⟩ := nmw (World.setCell (World.setCell (World.setCell w3 ⟨w1.heap.size, 5, none⟩ (.int .i64 n1.k)) ⟨w1.heap.size, 6, none⟩ (.int .i64 n1.v)) ⟨w1.heap.size, 7, none⟩ (.slice n1.p n1.n n1.c))
  replace hC := ((((hC.setNew _ _ _ (Or.inr (by omega))).setNew _ _ _ (Or.inr (by omega))).setNew _ _ _ (Or.inr (by omega)))).trans (Chg.of_below hb)
  replace hR := (((hR.keep (C1 _ _ _) (by omega) (fun _ _ => by omega)).keep (C1 _ _ _) (by omega) (fun _ _ => by omega)).keep (C1 _ _ _) (by omega) (fun _ _ => by omega)).below hb
  replace hE1 := ((ExAt.kI (C1 _ _ _) (fun q _ _ h => by omega) (ExAt.kI (C1 _ _ _) (fun q _ _ h => by omega) (ExAt.kI (C1 _ _ _) (fun q _ _ h => by omega) hE1))).below hb)
  have hsz28 := hb.size
  simp only [Ss] at hsz28
  clear tf23 tc22 tf25 tc24 tf27 tc26
  replace bk4 := Bk.below (Bk.ne (Bk.ne (Bk.ne bk4 (by omega) _) (by omega) _) (by omega) _) hb
  replace bk11 : Bk w4 (w1.heap.size) [.int .i64 1, .int .i64 tg, .int .i64 0, .int .i64 0, .slice none 0 0, .int .i64 n1.k, .int .i64 n1.v, .slice n1.p n1.n n1.c, .int .i64 0, .slice none 0 0, .slice none 0 0] := Bk.below (Bk.at (Bk.at (Bk.at bk11 5 (.int .i64 n1.k)) 6 (.int .i64 n1.v)) 7 (.slice n1.p n1.n n1.c)) hb
  clear hb
  rw [← hnw]
  clear hnw
  replace lt7 := Bk.lz bk4
  replace lt12 := Bk.lz bk11
  obtain ⟨tc29, tf30⟩ := Bk.cf bk4 0 rfl
  obtain ⟨tc31, tf32⟩ := Bk.cf bk4 1 rfl
  obtain ⟨tc33, tf34⟩ := Bk.cf bk4 2 rfl
  obtain ⟨tc35, tf36⟩ := Bk.cf bk4 3 rfl
  obtain ⟨tc37, tf38⟩ := Bk.cf bk4 4 rfl
  obtain ⟨tc39, tf40⟩ := Bk.cf bk4 5 rfl
  obtain ⟨tc41, tf42⟩ := Bk.cf bk4 6 rfl
  obtain ⟨tc43, tf44⟩ := Bk.cf bk4 7 rfl
  obtain ⟨tc45, tf46⟩ := Bk.cf bk4 8 rfl
  obtain ⟨tc47, tf48⟩ := Bk.cf bk4 9 rfl
  obtain ⟨tc49, tf50⟩ := Bk.cf bk4 10 rfl
  obtain ⟨tc51, tf52⟩ := Bk.cf bk11 0 rfl
  obtain ⟨tc53, tf54⟩ := Bk.cf bk11 1 rfl
  obtain ⟨tc55, tf56⟩ := Bk.cf bk11 2 rfl
  obtain ⟨tc57, tf58⟩ := Bk.cf bk11 3 rfl
  obtain ⟨tc59, tf60⟩ := Bk.cf bk11 4 rfl
  obtain ⟨tc61, tf62⟩ := Bk.cf bk11 5 rfl
  obtain ⟨tc63, tf64⟩ := Bk.cf bk11 6 rfl
  obtain ⟨tc65, tf66⟩ := Bk.cf bk11 7 rfl
  obtain ⟨tc67, tf68⟩ := Bk.cf bk11 8 rfl
  obtain ⟨tc69, tf70⟩ := Bk.cf bk11 9 rfl
  obtain ⟨tc71, tf72⟩ := Bk.cf bk11 10 rfl
  have HCF := ((((((((((((Chg.refl (fun q => q = w.heap.size + 1) w4).setCell (w.heap.size + 1) 0 (.int .i64 1) (fun _ => rfl)).setCell (w.heap.size + 1) 1 (.int .i64 tg) (fun _ => rfl)).setCell (w.heap.size + 1) 2 (.int .i64 0) (fun _ => rfl)).setCell (w.heap.size + 1) 3 (.int .i64 0) (fun _ => rfl)).setCell (w.heap.size + 1) 4 (.slice none 0 0) (fun _ => rfl)).setCell (w.heap.size + 1) 5 (.int .i64 n1.k) (fun _ => rfl)).setCell (w.heap.size + 1) 6 (.int .i64 n1.v) (fun _ => rfl)).setCell (w.heap.size + 1) 7 (.slice n1.p n1.n n1.c) (fun _ => rfl)).setCell (w.heap.size + 1) 8 (.int .i64 0) (fun _ => rfl)).setCell (w.heap.size + 1) 9 (.slice none 0 0) (fun _ => rfl)).setCell (w.heap.size + 1) 10 (.slice none 0 0) (fun _ => rfl))
  have hBf := (Bk.at (Bk.at (Bk.at (Bk.at (Bk.at (Bk.at (Bk.at (Bk.at (Bk.at (Bk.at (Bk.at bk4 0 (.int .i64 1)) 1 (.int .i64 tg)) 2 (.int .i64 0)) 3 (.int .i64 0)) 4 (.slice none 0 0)) 5 (.int .i64 n1.k)) 6 (.int .i64 n1.v)) 7 (.slice n1.p n1.n n1.c)) 8 (.int .i64 0)) 9 (.slice none 0 0)) 10 (.slice none 0 0))
  have xr0 := Bk.cell hBf 0 (v := .int .i64 1) rfl
  have xr1 := Bk.cell hBf 1 (v := .int .i64 tg) rfl
  have xr2 := Bk.cell hBf 2 (v := .int .i64 0) rfl
  have xr3 := Bk.cell hBf 3 (v := .int .i64 0) rfl
  have xr4 := Bk.cell hBf 4 (v := .slice none 0 0) rfl
  have xr5 := Bk.cell hBf 5 (v := .int .i64 n1.k) rfl
  have xr6 := Bk.cell hBf 6 (v := .int .i64 n1.v) rfl
  have xr7 := Bk.cell hBf 7 (v := .slice n1.p n1.n n1.c) rfl
  have xr8 := Bk.cell hBf 8 (v := .int .i64 0) rfl
  have xr9 := Bk.cell hBf 9 (v := .slice none 0 0) rfl
  have xr10 := Bk.cell hBf 10 (v := .slice none 0 0) rfl
  have HCH := Lib.hid HCF; clear HCF hBf
  have HCR := Lib.hid (And.intro hC hR); clear hC hR
  have HhE1 := Lib.hid hE1; clear hE1
  go_wp2
  exact bodyPost_ret (v := .agg #[.int .i64 1, .int .i64 tg, .int .i64 0, .int .i64 0, .slice none 0 0, .int .i64 n1.k, .int .i64 n1.v, .slice n1.p n1.n n1.c, .int .i64 0, .slice none 0 0, .slice none 0 0]) (by simp [results, Try.results164, go_sem, xr0, xr1, xr2, xr3, xr4, xr5, xr6, xr7, xr8, xr9, xr10]) rfl (by exact ⟨⟨1, tg, ⟨0, 0, none, 0, 0⟩, n1, 0, none, 0, 0, none, 0, 0⟩, .mk 1 tg (.mk 0 0 []) e1 0 [] [], _, rfl, ⟨rfl, rfl, rfl, ⟨_, ExAt.leaf (d := 0) 0 0⟩, ⟨_, ExAt.keep HCH.out (fun q (hq : w2.heap.size ≤ q ∧ q < w3.heap.size) _ (h : q = w.heap.size + 1) => by omega) (fun q (hq : w2.heap.size ≤ q ∧ q < w3.heap.size) _ => by show w.heap.size ≤ q; omega) (Nat.le_refl _) HhE1.out⟩, RowOf.nil, RowOf.nil⟩, ⟨thin_leaf 0 0, hT1, by simp, by simp, (fun x hx => by cases hx), (fun x hx => by cases hx)⟩, HCR.out.2.keep HCH.out (fun h => by omega) (fun k hk h => by omega), by have := HSC.out; omega, chg_app HCR.out.1 HCH.out (fun q hq h => by omega)⟩)
 ·skip
  by_cases hna : na = 0
  ·have g1 : decide (0 < na) = false := by simp [hna]
   have g2 : decide ((0 : Int) < (na : Int)) = false := by simp [hna]
   clear hna
   have hna0 : True := trivial
   obtain ⟨tc73, tf74⟩ := Bk.cf bk3 0 rfl
   obtain ⟨tc75, tf76⟩ := Bk.cf bk3 1 rfl
   go_wp2_with fail
   refine (pick_any _ _ B g (p + 1) (hR.below (bal (Bs _) (.cells #[.int .i64 1, .int .i64 0, .int .i64 0, .int .i64 0, .slice none 0 0, .int .i64 0, .int .i64 0, .slice none 0 0, .int .i64 0, .slice none 0 0, .slice none 0 0] 163))) (by omega) (by omega) (by omega)).mono ?_
   rintro e w2 ⟨tg, tg0, tg1, rfl, hRn, hc⟩
   replace hC := ((hC.trans (Chg.of_below (bal (Bs _) _)))).trans hc
   replace hR := hRn; clear hRn
   have hsz77 := hc.size
   simp only [Sa] at hsz77
   clear tf74 tc73 tf76 tc75
   replace bk3 := Bk.keep (Bk.al bk3 _) hc (fun h => by have := ird _ h; omega)
   replace bk4 := Bk.keep (Bk.al bk4 _) hc (fun h => by have := ird _ h; omega)
   have bk78 : Bk w2 (w1.heap.size) [.int .i64 1, .int .i64 0, .int .i64 0, .int .i64 0, .slice none 0 0, .int .i64 0, .int .i64 0, .slice none 0 0, .int .i64 0, .slice none 0 0, .slice none 0 0] := Bk.keep (Bk.nw (by simp) rfl) hc (fun h => by have := ird _ h; omega)
   clear hc
   replace lt6 := Bk.lz bk3
   replace lt7 := Bk.lz bk4
   have lt79 := Bk.lz bk78
   obtain ⟨tc80, tf81⟩ := Bk.cf bk3 0 rfl
   obtain ⟨tc82, tf83⟩ := Bk.cf bk3 1 rfl
   obtain ⟨tc84, tf85⟩ := Bk.cf bk3 2 rfl
   obtain ⟨tc86, tf87⟩ := Bk.cf bk78 1 rfl
   go_wp2_with fail
   refine (l2Small_any pv pa nv cv na ca vb B g (p + 1 + 1) _ (hR.keep (C1 (w1.heap.size) (1) (.int .i64 tg)) (by omega) (fun _ _ => by omega)) (by omega) hnv hnb).mono ?_
   rintro e w3 ⟨n1, e1, p1, rfl, hE1, hT1, hRn, hq1, hc⟩
   replace hC := ((hC.setNew _ _ _ (Or.inr (by omega)))).trans hc
   replace hR := hRn; clear hRn
   have hsz88 := hc.size
   simp only [Ss] at hsz88
   clear tf81 tc80 tf83 tc82 tf85 tc84 tf87 tc86
   replace bk3 := Bk.keep (Bk.ne bk3 (by omega) _) hc (fun h => by have := ird _ h; omega)
   replace bk4 := Bk.keep (Bk.ne bk4 (by omega) _) hc (fun h => by have := ird _ h; omega)
   replace bk78 : Bk w3 (w1.heap.size) [.int .i64 1, .int .i64 tg, .int .i64 0, .int .i64 0, .slice none 0 0, .int .i64 0, .int .i64 0, .slice none 0 0, .int .i64 0, .slice none 0 0, .slice none 0 0] := Bk.keep (Bk.at bk78 1 (.int .i64 tg)) hc (fun h => by have := ird _ h; omega)
   clear hc
   clear bk3
   try simp only [Sa, Ss] at hE1
   replace hE1 := ExAt.keep (S := fun _ => False) (Chg.refl _ _) (fun _ _ _ => id) (fun q (hq : w2.heap.size ≤ q) hlt => (show w2.heap.size ≤ q ∧ q < w3.heap.size from ⟨hq, hlt⟩)) (Nat.le_refl _) hE1
   clear lt6
   replace lt7 := Bk.lz bk4
   replace lt79 := Bk.lz bk78
   obtain ⟨tc89, tf90⟩ := Bk.cf bk78 5 rfl
   obtain ⟨tc91, tf92⟩ := Bk.cf bk78 6 rfl
   obtain ⟨tc93, tf94⟩ := Bk.cf bk78 7 rfl
   go_upto_region 18 with (fail)
   obtain ⟨w4, hnw, hb⟩ := nmw (World.setCell (World.setCell (World.setCell w3 ⟨w1.heap.size, 5, none⟩ (.int .i64 n1.k)) ⟨w1.heap.size, 6, none⟩ (.int .i64 n1.v)) ⟨w1.heap.size, 7, none⟩ (.slice n1.p n1.n n1.c))
   replace hC := ((((hC.setNew _ _ _ (Or.inr (by omega))).setNew _ _ _ (Or.inr (by omega))).setNew _ _ _ (Or.inr (by omega)))).trans (Chg.of_below hb)
   replace hR := (((hR.keep (C1 _ _ _) (by omega) (fun _ _ => by omega)).keep (C1 _ _ _) (by omega) (fun _ _ => by omega)).keep (C1 _ _ _) (by omega) (fun _ _ => by omega)).below hb
   replace hE1 := ((ExAt.kI (C1 _ _ _) (fun q _ _ h => by omega) (ExAt.kI (C1 _ _ _) (fun q _ _ h => by omega) (ExAt.kI (C1 _ _ _) (fun q _ _ h => by omega) hE1))).below hb)
   have hsz95 := hb.size
   simp only [Ss] at hsz95
   clear tf90 tc89 tf92 tc91 tf94 tc93
   replace bk4 := Bk.below (Bk.ne (Bk.ne (Bk.ne bk4 (by omega) _) (by omega) _) (by omega) _) hb
   replace bk78 : Bk w4 (w1.heap.size) [.int .i64 1, .int .i64 tg, .int .i64 0, .int .i64 0, .slice none 0 0, .int .i64 n1.k, .int .i64 n1.v, .slice n1.p n1.n n1.c, .int .i64 0, .slice none 0 0, .slice none 0 0] := Bk.below (Bk.at (Bk.at (Bk.at bk78 5 (.int .i64 n1.k)) 6 (.int .i64 n1.v)) 7 (.slice n1.p n1.n n1.c)) hb
   clear hb
   rw [← hnw]
   clear hnw
   replace lt7 := Bk.lz bk4
   replace lt79 := Bk.lz bk78
   obtain ⟨tc96, tf97⟩ := Bk.cf bk4 0 rfl
   obtain ⟨tc98, tf99⟩ := Bk.cf bk4 1 rfl
   obtain ⟨tc100, tf101⟩ := Bk.cf bk4 2 rfl
   obtain ⟨tc102, tf103⟩ := Bk.cf bk4 3 rfl
   obtain ⟨tc104, tf105⟩ := Bk.cf bk4 4 rfl
   obtain ⟨tc106, tf107⟩ := Bk.cf bk4 5 rfl
   obtain ⟨tc108, tf109⟩ := Bk.cf bk4 6 rfl
   obtain ⟨tc110, tf111⟩ := Bk.cf bk4 7 rfl
   obtain ⟨tc112, tf113⟩ := Bk.cf bk4 8 rfl
   obtain ⟨tc114, tf115⟩ := Bk.cf bk4 9 rfl
   obtain ⟨tc116, tf117⟩ := Bk.cf bk4 10 rfl
   obtain ⟨tc118, tf119⟩ := Bk.cf bk78 0 rfl
   obtain ⟨tc120, tf121⟩ := Bk.cf bk78 1 rfl
   obtain ⟨tc122, tf123⟩ := Bk.cf bk78 2 rfl
   obtain ⟨tc124, tf125⟩ := Bk.cf bk78 3 rfl
   obtain ⟨tc126, tf127⟩ := Bk.cf bk78 4 rfl
   obtain ⟨tc128, tf129⟩ := Bk.cf bk78 5 rfl
   obtain ⟨tc130, tf131⟩ := Bk.cf bk78 6 rfl
   obtain ⟨tc132, tf133⟩ := Bk.cf bk78 7 rfl
   obtain ⟨tc134, tf135⟩ := Bk.cf bk78 8 rfl
   obtain ⟨tc136, tf137⟩ := Bk.cf bk78 9 rfl
   obtain ⟨tc138, tf139⟩ := Bk.cf bk78 10 rfl
   have HCF := ((((((((((((Chg.refl (fun q => q = w.heap.size + 1) w4).setCell (w.heap.size + 1) 0 (.int .i64 1) (fun _ => rfl)).setCell (w.heap.size + 1) 1 (.int .i64 tg) (fun _ => rfl)).setCell (w.heap.size + 1) 2 (.int .i64 0) (fun _ => rfl)).setCell (w.heap.size + 1) 3 (.int .i64 0) (fun _ => rfl)).setCell (w.heap.size + 1) 4 (.slice none 0 0) (fun _ => rfl)).setCell (w.heap.size + 1) 5 (.int .i64 n1.k) (fun _ => rfl)).setCell (w.heap.size + 1) 6 (.int .i64 n1.v) (fun _ => rfl)).setCell (w.heap.size + 1) 7 (.slice n1.p n1.n n1.c) (fun _ => rfl)).setCell (w.heap.size + 1) 8 (.int .i64 0) (fun _ => rfl)).setCell (w.heap.size + 1) 9 (.slice none 0 0) (fun _ => rfl)).setCell (w.heap.size + 1) 10 (.slice none 0 0) (fun _ => rfl))
   have hBf := (Bk.at (Bk.at (Bk.at (Bk.at (Bk.at (Bk.at (Bk.at (Bk.at (Bk.at (Bk.at (Bk.at bk4 0 (.int .i64 1)) 1 (.int .i64 tg)) 2 (.int .i64 0)) 3 (.int .i64 0)) 4 (.slice none 0 0)) 5 (.int .i64 n1.k)) 6 (.int .i64 n1.v)) 7 (.slice n1.p n1.n n1.c)) 8 (.int .i64 0)) 9 (.slice none 0 0)) 10 (.slice none 0 0))
   have xr0 := Bk.cell hBf 0 (v := .int .i64 1) rfl
   have xr1 := Bk.cell hBf 1 (v := .int .i64 tg) rfl
   have xr2 := Bk.cell hBf 2 (v := .int .i64 0) rfl
   have xr3 := Bk.cell hBf 3 (v := .int .i64 0) rfl
   have xr4 := Bk.cell hBf 4 (v := .slice none 0 0) rfl
   have xr5 := Bk.cell hBf 5 (v := .int .i64 n1.k) rfl
   have xr6 := Bk.cell hBf 6 (v := .int .i64 n1.v) rfl
   have xr7 := Bk.cell hBf 7 (v := .slice n1.p n1.n n1.c) rfl
   have xr8 := Bk.cell hBf 8 (v := .int .i64 0) rfl
   have xr9 := Bk.cell hBf 9 (v := .slice none 0 0) rfl
   have xr10 := Bk.cell hBf 10 (v := .slice none 0 0) rfl
   have HCH := Lib.hid HCF; clear HCF hBf
   have HCR := Lib.hid (And.intro hC hR); clear hC hR
   have HhE1 := Lib.hid hE1; clear hE1
   go_wp2
   exact bodyPost_ret (v := .agg #[.int .i64 1, .int .i64 tg, .int .i64 0, .int .i64 0, .slice none 0 0, .int .i64 n1.k, .int .i64 n1.v, .slice n1.p n1.n n1.c, .int .i64 0, .slice none 0 0, .slice none 0 0]) (by simp [results, Try.results164, go_sem, xr0, xr1, xr2, xr3, xr4, xr5, xr6, xr7, xr8, xr9, xr10]) rfl (by exact ⟨⟨1, tg, ⟨0, 0, none, 0, 0⟩, n1, 0, none, 0, 0, none, 0, 0⟩, .mk 1 tg (.mk 0 0 []) e1 0 [] [], _, rfl, ⟨rfl, rfl, rfl, ⟨_, ExAt.leaf (d := 0) 0 0⟩, ⟨_, ExAt.keep HCH.out (fun q (hq : w2.heap.size ≤ q ∧ q < w3.heap.size) _ (h : q = w.heap.size + 1) => by omega) (fun q (hq : w2.heap.size ≤ q ∧ q < w3.heap.size) _ => by show w.heap.size ≤ q; omega) (Nat.le_refl _) HhE1.out⟩, RowOf.nil, RowOf.nil⟩, ⟨thin_leaf 0 0, hT1, by simp, by simp, (fun x hx => by cases hx), (fun x hx => by cases hx)⟩, HCR.out.2.keep HCH.out (fun h => by omega) (fun k hk h => by omega), by have := HSC.out; omega, chg_app HCR.out.1 HCH.out (fun q hq h => by omega)⟩)
  ·have g1 : 0 < na := by omega
   obtain ⟨tc140, tf141⟩ := Bk.cf bk3 1 rfl
   go_wp2_with fail
   refine (pick_any _ _ B g (p + 1) (hR.below (bal (Bs _) (.cells #[.int .i64 2, .int .i64 0, .int .i64 0, .int .i64 0, .slice none 0 0, .int .i64 0, .int .i64 0, .slice none 0 0, .int .i64 0, .slice none 0 0, .slice none 0 0] 163))) (by omega) (by omega) (by omega)).mono ?_
   rintro e w2 ⟨tg, tg0, tg1, rfl, hRn, hc⟩
   replace hC := ((hC.trans (Chg.of_below (bal (Bs _) _)))).trans hc
   replace hR := hRn; clear hRn
   have hsz142 := hc.size
   simp only [Sa] at hsz142
   clear tf141 tc140
   replace bk3 := Bk.keep (Bk.al bk3 _) hc (fun h => by have := ird _ h; omega)
   replace bk4 := Bk.keep (Bk.al bk4 _) hc (fun h => by have := ird _ h; omega)
   have bk143 : Bk w2 (w1.heap.size) [.int .i64 2, .int .i64 0, .int .i64 0, .int .i64 0, .slice none 0 0, .int .i64 0, .int .i64 0, .slice none 0 0, .int .i64 0, .slice none 0 0, .slice none 0 0] := Bk.keep (Bk.nw (by simp) rfl) hc (fun h => by have := ird _ h; omega)
   clear hc
   replace lt6 := Bk.lz bk3
   replace lt7 := Bk.lz bk4
   have lt144 := Bk.lz bk143
   obtain ⟨tc145, tf146⟩ := Bk.cf bk3 0 rfl
   obtain ⟨tc147, tf148⟩ := Bk.cf bk3 1 rfl
   obtain ⟨tc149, tf150⟩ := Bk.cf bk3 2 rfl
   obtain ⟨tc151, tf152⟩ := Bk.cf bk143 1 rfl
   go_wp2_with fail
   refine (l2DrawAtom_any pv pa nv cv na ca vb B g (p + 1 + 1) _ (hR.keep (C1 (w1.heap.size) (1) (.int .i64 tg)) (by omega) (fun _ _ => by omega)) (by omega) hnv hnb).mono ?_
   rintro e w3 ⟨k2, v2, p2, rfl, hRn, hq2, hc⟩
   replace hC := ((hC.setNew _ _ _ (Or.inr (by omega)))).trans hc
   replace hR := hRn; clear hRn
   have hsz153 := hc.size
   simp only [Ss] at hsz153
   clear tf146 tc145 tf148 tc147 tf150 tc149 tf152 tc151
   replace bk3 := Bk.keep (Bk.ne bk3 (by omega) _) hc (fun h => by have := ird _ h; omega)
   replace bk4 := Bk.keep (Bk.ne bk4 (by omega) _) hc (fun h => by have := ird _ h; omega)
   replace bk143 : Bk w3 (w1.heap.size) [.int .i64 2, .int .i64 tg, .int .i64 0, .int .i64 0, .slice none 0 0, .int .i64 0, .int .i64 0, .slice none 0 0, .int .i64 0, .slice none 0 0, .slice none 0 0] := Bk.keep (Bk.at bk143 1 (.int .i64 tg)) hc (fun h => by have := ird _ h; omega)
   clear hc
   replace lt6 := Bk.lz bk3
   replace lt7 := Bk.lz bk4
   replace lt144 := Bk.lz bk143
   obtain ⟨tc154, tf155⟩ := Bk.cf bk3 0 rfl
   obtain ⟨tc156, tf157⟩ := Bk.cf bk3 1 rfl
   obtain ⟨tc158, tf159⟩ := Bk.cf bk3 2 rfl
   obtain ⟨tc160, tf161⟩ := Bk.cf bk143 2 rfl
   obtain ⟨tc162, tf163⟩ := Bk.cf bk143 3 rfl
   obtain ⟨tc164, tf165⟩ := Bk.cf bk143 4 rfl
   go_wp2_with fail
   refine (l2Small_any pv pa nv cv na ca vb B g (p2) _ (((hR.keep (C1 (w1.heap.size) (2) (.int .i64 k2)) (by omega) (fun _ _ => by omega)).keep (C1 (w1.heap.size) (3) (.int .i64 v2)) (by omega) (fun _ _ => by omega)).keep (C1 (w1.heap.size) (4) (.slice none 0 0)) (by omega) (fun _ _ => by omega)) (by omega) hnv hnb).mono ?_
   rintro e w4 ⟨n1, e1, p1, rfl, hE1, hT1, hRn, hq1, hc⟩
   replace hC := ((((hC.setNew _ _ _ (Or.inr (by omega))).setNew _ _ _ (Or.inr (by omega))).setNew _ _ _ (Or.inr (by omega)))).trans hc
   replace hR := hRn; clear hRn
   have hsz166 := hc.size
   simp only [Ss] at hsz166
   clear tf155 tc154 tf157 tc156 tf159 tc158 tf161 tc160 tf163 tc162 tf165 tc164
   replace bk3 := Bk.keep (Bk.ne (Bk.ne (Bk.ne bk3 (by omega) _) (by omega) _) (by omega) _) hc (fun h => by have := ird _ h; omega)
   replace bk4 := Bk.keep (Bk.ne (Bk.ne (Bk.ne bk4 (by omega) _) (by omega) _) (by omega) _) hc (fun h => by have := ird _ h; omega)
   replace bk143 : Bk w4 (w1.heap.size) [.int .i64 2, .int .i64 tg, .int .i64 k2, .int .i64 v2, .slice none 0 0, .int .i64 0, .int .i64 0, .slice none 0 0, .int .i64 0, .slice none 0 0, .slice none 0 0] := Bk.keep (Bk.at (Bk.at (Bk.at bk143 2 (.int .i64 k2)) 3 (.int .i64 v2)) 4 (.slice none 0 0)) hc (fun h => by have := ird _ h; omega)
   clear hc
   clear bk3
   try simp only [Sa, Ss] at hE1
   replace hE1 := ExAt.keep (S := fun _ => False) (Chg.refl _ _) (fun _ _ _ => id) (fun q (hq : w3.heap.size ≤ q) hlt => (show w3.heap.size ≤ q ∧ q < w4.heap.size from ⟨hq, hlt⟩)) (Nat.le_refl _) hE1
   clear lt6
   replace lt7 := Bk.lz bk4
   replace lt144 := Bk.lz bk143
   obtain ⟨tc167, tf168⟩ := Bk.cf bk143 5 rfl
   obtain ⟨tc169, tf170⟩ := Bk.cf bk143 6 rfl
   obtain ⟨tc171, tf172⟩ := Bk.cf bk143 7 rfl
   go_upto_region 18 with (fail)
   obtain ⟨w5, hnw, hb⟩ := nmw (World.setCell (World.setCell (World.setCell w4 ⟨w1.heap.size, 5, none⟩ (.int .i64 n1.k)) ⟨w1.heap.size, 6, none⟩ (.int .i64 n1.v)) ⟨w1.heap.size, 7, none⟩ (.slice n1.p n1.n n1.c))
   replace hC := ((((hC.setNew _ _ _ (Or.inr (by omega))).setNew _ _ _ (Or.inr (by omega))).setNew _ _ _ (Or.inr (by omega)))).trans (Chg.of_below hb)
   replace hR := (((hR.keep (C1 _ _ _) (by omega) (fun _ _ => by omega)).keep (C1 _ _ _) (by omega) (fun _ _ => by omega)).keep (C1 _ _ _) (by omega) (fun _ _ => by omega)).below hb
   replace hE1 := ((ExAt.kI (C1 _ _ _) (fun q _ _ h => by omega) (ExAt.kI (C1 _ _ _) (fun q _ _ h => by omega) (ExAt.kI (C1 _ _ _) (fun q _ _ h => by omega) hE1))).below hb)
   have hsz173 := hb.size
   simp only [Ss] at hsz173
   clear tf168 tc167 tf170 tc169 tf172 tc171
   replace bk4 := Bk.below (Bk.ne (Bk.ne (Bk.ne bk4 (by omega) _) (by omega) _) (by omega) _) hb
   replace bk143 : Bk w5 (w1.heap.size) [.int .i64 2, .int .i64 tg, .int .i64 k2, .int .i64 v2, .slice none 0 0, .int .i64 n1.k, .int .i64 n1.v, .slice n1.p n1.n n1.c, .int .i64 0, .slice none 0 0, .slice none 0 0] := Bk.below (Bk.at (Bk.at (Bk.at bk143 5 (.int .i64 n1.k)) 6 (.int .i64 n1.v)) 7 (.slice n1.p n1.n n1.c)) hb
   clear hb
   rw [← hnw]
   clear hnw
   replace lt7 := Bk.lz bk4
   replace lt144 := Bk.lz bk143
   obtain ⟨tc174, tf175⟩ := Bk.cf bk4 0 rfl
   obtain ⟨tc176, tf177⟩ := Bk.cf bk4 1 rfl
   obtain ⟨tc178, tf179⟩ := Bk.cf bk4 2 rfl
   obtain ⟨tc180, tf181⟩ := Bk.cf bk4 3 rfl
   obtain ⟨tc182, tf183⟩ := Bk.cf bk4 4 rfl
   obtain ⟨tc184, tf185⟩ := Bk.cf bk4 5 rfl
   obtain ⟨tc186, tf187⟩ := Bk.cf bk4 6 rfl
   obtain ⟨tc188, tf189⟩ := Bk.cf bk4 7 rfl
   obtain ⟨tc190, tf191⟩ := Bk.cf bk4 8 rfl
   obtain ⟨tc192, tf193⟩ := Bk.cf bk4 9 rfl
   obtain ⟨tc194, tf195⟩ := Bk.cf bk4 10 rfl
   obtain ⟨tc196, tf197⟩ := Bk.cf bk143 0 rfl
   obtain ⟨tc198, tf199⟩ := Bk.cf bk143 1 rfl
   obtain ⟨tc200, tf201⟩ := Bk.cf bk143 2 rfl
   obtain ⟨tc202, tf203⟩ := Bk.cf bk143 3 rfl
   obtain ⟨tc204, tf205⟩ := Bk.cf bk143 4 rfl
   obtain ⟨tc206, tf207⟩ := Bk.cf bk143 5 rfl
   obtain ⟨tc208, tf209⟩ := Bk.cf bk143 6 rfl
   obtain ⟨tc210, tf211⟩ := Bk.cf bk143 7 rfl
   obtain ⟨tc212, tf213⟩ := Bk.cf bk143 8 rfl
   obtain ⟨tc214, tf215⟩ := Bk.cf bk143 9 rfl
   obtain ⟨tc216, tf217⟩ := Bk.cf bk143 10 rfl
   have HCF := ((((((((((((Chg.refl (fun q => q = w.heap.size + 1) w5).setCell (w.heap.size + 1) 0 (.int .i64 2) (fun _ => rfl)).setCell (w.heap.size + 1) 1 (.int .i64 tg) (fun _ => rfl)).setCell (w.heap.size + 1) 2 (.int .i64 k2) (fun _ => rfl)).setCell (w.heap.size + 1) 3 (.int .i64 v2) (fun _ => rfl)).setCell (w.heap.size + 1) 4 (.slice none 0 0) (fun _ => rfl)).setCell (w.heap.size + 1) 5 (.int .i64 n1.k) (fun _ => rfl)).setCell (w.heap.size + 1) 6 (.int .i64 n1.v) (fun _ => rfl)).setCell (w.heap.size + 1) 7 (.slice n1.p n1.n n1.c) (fun _ => rfl)).setCell (w.heap.size + 1) 8 (.int .i64 0) (fun _ => rfl)).setCell (w.heap.size + 1) 9 (.slice none 0 0) (fun _ => rfl)).setCell (w.heap.size + 1) 10 (.slice none 0 0) (fun _ => rfl))
   have hBf := (Bk.at (Bk.at (Bk.at (Bk.at (Bk.at (Bk.at (Bk.at (Bk.at (Bk.at (Bk.at (Bk.at bk4 0 (.int .i64 2)) 1 (.int .i64 tg)) 2 (.int .i64 k2)) 3 (.int .i64 v2)) 4 (.slice none 0 0)) 5 (.int .i64 n1.k)) 6 (.int .i64 n1.v)) 7 (.slice n1.p n1.n n1.c)) 8 (.int .i64 0)) 9 (.slice none 0 0)) 10 (.slice none 0 0))
   have xr0 := Bk.cell hBf 0 (v := .int .i64 2) rfl
   have xr1 := Bk.cell hBf 1 (v := .int .i64 tg) rfl
   have xr2 := Bk.cell hBf 2 (v := .int .i64 k2) rfl
   have xr3 := Bk.cell hBf 3 (v := .int .i64 v2) rfl
   have xr4 := Bk.cell hBf 4 (v := .slice none 0 0) rfl
   have xr5 := Bk.cell hBf 5 (v := .int .i64 n1.k) rfl
   have xr6 := Bk.cell hBf 6 (v := .int .i64 n1.v) rfl
   have xr7 := Bk.cell hBf 7 (v := .slice n1.p n1.n n1.c) rfl
   have xr8 := Bk.cell hBf 8 (v := .int .i64 0) rfl
   have xr9 := Bk.cell hBf 9 (v := .slice none 0 0) rfl
   have xr10 := Bk.cell hBf 10 (v := .slice none 0 0) rfl
   have HCH := Lib.hid HCF; clear HCF hBf
   have HCR := Lib.hid (And.intro hC hR); clear hC hR
   have HhE1 := Lib.hid hE1; clear hE1
   go_wp2
   exact bodyPost_ret (v := .agg #[.int .i64 2, .int .i64 tg, .int .i64 k2, .int .i64 v2, .slice none 0 0, .int .i64 n1.k, .int .i64 n1.v, .slice n1.p n1.n n1.c, .int .i64 0, .slice none 0 0, .slice none 0 0]) (by simp [results, Try.results164, go_sem, xr0, xr1, xr2, xr3, xr4, xr5, xr6, xr7, xr8, xr9, xr10]) rfl (by exact ⟨⟨2, tg, ⟨k2, v2, none, 0, 0⟩, n1, 0, none, 0, 0, none, 0, 0⟩, .mk 2 tg (.mk k2 v2 []) e1 0 [] [], _, rfl, ⟨rfl, rfl, rfl, ⟨_, ExAt.leaf (d := 0) k2 v2⟩, ⟨_, ExAt.keep HCH.out (fun q (hq : w3.heap.size ≤ q ∧ q < w4.heap.size) _ (h : q = w.heap.size + 1) => by omega) (fun q (hq : w3.heap.size ≤ q ∧ q < w4.heap.size) _ => by show w.heap.size ≤ q; omega) (Nat.le_refl _) HhE1.out⟩, RowOf.nil, RowOf.nil⟩, ⟨thin_leaf k2 v2, hT1, by simp, by simp, (fun x hx => by cases hx), (fun x hx => by cases hx)⟩, HCR.out.2.keep HCH.out (fun h => by omega) (fun k hk h => by omega), by have := HSC.out; omega, chg_app HCR.out.1 HCH.out (fun q hq h => by omega)⟩)
 ·skip
  by_cases hd0 : d = 0
  ·have g1 : decide ((1 : Int) < (d : Int) + 1) = false := by simp [hd0]
   have g3 : decide (0 < d) = false := by simp [hd0]
   have HD0 := Lib.hid hd0; clear hd0
   have hna0 : True := trivial
   obtain ⟨tc218, tf219⟩ := Bk.cf bk3 0 rfl
   go_wp2_with fail
   refine (pick_any _ _ B g (p + 1) (hR.below (bal (Bs _) (.cells #[.int .i64 1, .int .i64 0, .int .i64 0, .int .i64 0, .slice none 0 0, .int .i64 0, .int .i64 0, .slice none 0 0, .int .i64 0, .slice none 0 0, .slice none 0 0] 163))) (by omega) (by omega) (by omega)).mono ?_
   rintro e w2 ⟨tg, tg0, tg1, rfl, hRn, hc⟩
   replace hC := ((hC.trans (Chg.of_below (bal (Bs _) _)))).trans hc
   replace hR := hRn; clear hRn
   have hsz220 := hc.size
   simp only [Sa] at hsz220
   clear tf219 tc218
   replace bk3 := Bk.keep (Bk.al bk3 _) hc (fun h => by have := ird _ h; omega)
   replace bk4 := Bk.keep (Bk.al bk4 _) hc (fun h => by have := ird _ h; omega)
   have bk221 : Bk w2 (w1.heap.size) [.int .i64 1, .int .i64 0, .int .i64 0, .int .i64 0, .slice none 0 0, .int .i64 0, .int .i64 0, .slice none 0 0, .int .i64 0, .slice none 0 0, .slice none 0 0] := Bk.keep (Bk.nw (by simp) rfl) hc (fun h => by have := ird _ h; omega)
   clear hc
   replace lt6 := Bk.lz bk3
   replace lt7 := Bk.lz bk4
   have lt222 := Bk.lz bk221
   obtain ⟨tc223, tf224⟩ := Bk.cf bk3 0 rfl
   obtain ⟨tc225, tf226⟩ := Bk.cf bk3 1 rfl
   obtain ⟨tc227, tf228⟩ := Bk.cf bk3 2 rfl
   obtain ⟨tc229, tf230⟩ := Bk.cf bk221 1 rfl
   go_wp2_with fail
   refine (l2Small_any pv pa nv cv na ca vb B g (p + 1 + 1) _ (hR.keep (C1 (w1.heap.size) (1) (.int .i64 tg)) (by omega) (fun _ _ => by omega)) (by omega) hnv hnb).mono ?_
   rintro e w3 ⟨n1, e1, p1, rfl, hE1, hT1, hRn, hq1, hc⟩
   replace hC := ((hC.setNew _ _ _ (Or.inr (by omega)))).trans hc
   replace hR := hRn; clear hRn
   have hsz231 := hc.size
   simp only [Ss] at hsz231
   clear tf224 tc223 tf226 tc225 tf228 tc227 tf230 tc229
   replace bk3 := Bk.keep (Bk.ne bk3 (by omega) _) hc (fun h => by have := ird _ h; omega)
   replace bk4 := Bk.keep (Bk.ne bk4 (by omega) _) hc (fun h => by have := ird _ h; omega)
   replace bk221 : Bk w3 (w1.heap.size) [.int .i64 1, .int .i64 tg, .int .i64 0, .int .i64 0, .slice none 0 0, .int .i64 0, .int .i64 0, .slice none 0 0, .int .i64 0, .slice none 0 0, .slice none 0 0] := Bk.keep (Bk.at bk221 1 (.int .i64 tg)) hc (fun h => by have := ird _ h; omega)
   clear hc
   clear bk3
   try simp only [Sa, Ss] at hE1
   replace hE1 := ExAt.keep (S := fun _ => False) (Chg.refl _ _) (fun _ _ _ => id) (fun q (hq : w2.heap.size ≤ q) hlt => (show w2.heap.size ≤ q ∧ q < w3.heap.size from ⟨hq, hlt⟩)) (Nat.le_refl _) hE1
   clear lt6
   replace lt7 := Bk.lz bk4
   replace lt222 := Bk.lz bk221
   obtain ⟨tc232, tf233⟩ := Bk.cf bk221 5 rfl
   obtain ⟨tc234, tf235⟩ := Bk.cf bk221 6 rfl
   obtain ⟨tc236, tf237⟩ := Bk.cf bk221 7 rfl
   go_upto_region 18 with (fail)
   obtain ⟨w4, hnw, hb⟩ := nmw (World.setCell (World.setCell (World.setCell w3 ⟨w1.heap.size, 5, none⟩ (.int .i64 n1.k)) ⟨w1.heap.size, 6, none⟩ (.int .i64 n1.v)) ⟨w1.heap.size, 7, none⟩ (.slice n1.p n1.n n1.c))
   replace hC := ((((hC.setNew _ _ _ (Or.inr (by omega))).setNew _ _ _ (Or.inr (by omega))).setNew _ _ _ (Or.inr (by omega)))).trans (Chg.of_below hb)
   replace hR := (((hR.keep (C1 _ _ _) (by omega) (fun _ _ => by omega)).keep (C1 _ _ _) (by omega) (fun _ _ => by omega)).keep (C1 _ _ _) (by omega) (fun _ _ => by omega)).below hb
   replace hE1 := ((ExAt.kI (C1 _ _ _) (fun q _ _ h => by omega) (ExAt.kI (C1 _ _ _) (fun q _ _ h => by omega) (ExAt.kI (C1 _ _ _) (fun q _ _ h => by omega) hE1))).below hb)
   have hsz238 := hb.size
   simp only [Ss] at hsz238
   clear tf233 tc232 tf235 tc234 tf237 tc236
   replace bk4 := Bk.below (Bk.ne (Bk.ne (Bk.ne bk4 (by omega) _) (by omega) _) (by omega) _) hb
   replace bk221 : Bk w4 (w1.heap.size) [.int .i64 1, .int .i64 tg, .int .i64 0, .int .i64 0, .slice none 0 0, .int .i64 n1.k, .int .i64 n1.v, .slice n1.p n1.n n1.c, .int .i64 0, .slice none 0 0, .slice none 0 0] := Bk.below (Bk.at (Bk.at (Bk.at bk221 5 (.int .i64 n1.k)) 6 (.int .i64 n1.v)) 7 (.slice n1.p n1.n n1.c)) hb
   clear hb
   rw [← hnw]
   clear hnw
   replace lt7 := Bk.lz bk4
   replace lt222 := Bk.lz bk221
   obtain ⟨tc239, tf240⟩ := Bk.cf bk4 0 rfl
   obtain ⟨tc241, tf242⟩ := Bk.cf bk4 1 rfl
   obtain ⟨tc243, tf244⟩ := Bk.cf bk4 2 rfl
   obtain ⟨tc245, tf246⟩ := Bk.cf bk4 3 rfl
   obtain ⟨tc247, tf248⟩ := Bk.cf bk4 4 rfl
   obtain ⟨tc249, tf250⟩ := Bk.cf bk4 5 rfl
   obtain ⟨tc251, tf252⟩ := Bk.cf bk4 6 rfl
   obtain ⟨tc253, tf254⟩ := Bk.cf bk4 7 rfl
   obtain ⟨tc255, tf256⟩ := Bk.cf bk4 8 rfl
   obtain ⟨tc257, tf258⟩ := Bk.cf bk4 9 rfl
   obtain ⟨tc259, tf260⟩ := Bk.cf bk4 10 rfl
   obtain ⟨tc261, tf262⟩ := Bk.cf bk221 0 rfl
   obtain ⟨tc263, tf264⟩ := Bk.cf bk221 1 rfl
   obtain ⟨tc265, tf266⟩ := Bk.cf bk221 2 rfl
   obtain ⟨tc267, tf268⟩ := Bk.cf bk221 3 rfl
   obtain ⟨tc269, tf270⟩ := Bk.cf bk221 4 rfl
   obtain ⟨tc271, tf272⟩ := Bk.cf bk221 5 rfl
   obtain ⟨tc273, tf274⟩ := Bk.cf bk221 6 rfl
   obtain ⟨tc275, tf276⟩ := Bk.cf bk221 7 rfl
   obtain ⟨tc277, tf278⟩ := Bk.cf bk221 8 rfl
   obtain ⟨tc279, tf280⟩ := Bk.cf bk221 9 rfl
   obtain ⟨tc281, tf282⟩ := Bk.cf bk221 10 rfl
   have HCF := ((((((((((((Chg.refl (fun q => q = w.heap.size + 1) w4).setCell (w.heap.size + 1) 0 (.int .i64 1) (fun _ => rfl)).setCell (w.heap.size + 1) 1 (.int .i64 tg) (fun _ => rfl)).setCell (w.heap.size + 1) 2 (.int .i64 0) (fun _ => rfl)).setCell (w.heap.size + 1) 3 (.int .i64 0) (fun _ => rfl)).setCell (w.heap.size + 1) 4 (.slice none 0 0) (fun _ => rfl)).setCell (w.heap.size + 1) 5 (.int .i64 n1.k) (fun _ => rfl)).setCell (w.heap.size + 1) 6 (.int .i64 n1.v) (fun _ => rfl)).setCell (w.heap.size + 1) 7 (.slice n1.p n1.n n1.c) (fun _ => rfl)).setCell (w.heap.size + 1) 8 (.int .i64 0) (fun _ => rfl)).setCell (w.heap.size + 1) 9 (.slice none 0 0) (fun _ => rfl)).setCell (w.heap.size + 1) 10 (.slice none 0 0) (fun _ => rfl))
   have hBf := (Bk.at (Bk.at (Bk.at (Bk.at (Bk.at (Bk.at (Bk.at (Bk.at (Bk.at (Bk.at (Bk.at bk4 0 (.int .i64 1)) 1 (.int .i64 tg)) 2 (.int .i64 0)) 3 (.int .i64 0)) 4 (.slice none 0 0)) 5 (.int .i64 n1.k)) 6 (.int .i64 n1.v)) 7 (.slice n1.p n1.n n1.c)) 8 (.int .i64 0)) 9 (.slice none 0 0)) 10 (.slice none 0 0))
   have xr0 := Bk.cell hBf 0 (v := .int .i64 1) rfl
   have xr1 := Bk.cell hBf 1 (v := .int .i64 tg) rfl
   have xr2 := Bk.cell hBf 2 (v := .int .i64 0) rfl
   have xr3 := Bk.cell hBf 3 (v := .int .i64 0) rfl
   have xr4 := Bk.cell hBf 4 (v := .slice none 0 0) rfl
   have xr5 := Bk.cell hBf 5 (v := .int .i64 n1.k) rfl
   have xr6 := Bk.cell hBf 6 (v := .int .i64 n1.v) rfl
   have xr7 := Bk.cell hBf 7 (v := .slice n1.p n1.n n1.c) rfl
   have xr8 := Bk.cell hBf 8 (v := .int .i64 0) rfl
   have xr9 := Bk.cell hBf 9 (v := .slice none 0 0) rfl
   have xr10 := Bk.cell hBf 10 (v := .slice none 0 0) rfl
   have HCH := Lib.hid HCF; clear HCF hBf
   have HCR := Lib.hid (And.intro hC hR); clear hC hR
   have HhE1 := Lib.hid hE1; clear hE1
   go_wp2
   exact bodyPost_ret (v := .agg #[.int .i64 1, .int .i64 tg, .int .i64 0, .int .i64 0, .slice none 0 0, .int .i64 n1.k, .int .i64 n1.v, .slice n1.p n1.n n1.c, .int .i64 0, .slice none 0 0, .slice none 0 0]) (by simp [results, Try.results164, go_sem, xr0, xr1, xr2, xr3, xr4, xr5, xr6, xr7, xr8, xr9, xr10]) rfl (by exact ⟨⟨1, tg, ⟨0, 0, none, 0, 0⟩, n1, 0, none, 0, 0, none, 0, 0⟩, .mk 1 tg (.mk 0 0 []) e1 0 [] [], _, rfl, ⟨rfl, rfl, rfl, ⟨_, ExAt.leaf (d := 0) 0 0⟩, ⟨_, ExAt.keep HCH.out (fun q (hq : w2.heap.size ≤ q ∧ q < w3.heap.size) _ (h : q = w.heap.size + 1) => by omega) (fun q (hq : w2.heap.size ≤ q ∧ q < w3.heap.size) _ => by show w.heap.size ≤ q; omega) (Nat.le_refl _) HhE1.out⟩, RowOf.nil, RowOf.nil⟩, ⟨thin_leaf 0 0, hT1, by simp, by simp, (fun x hx => by cases hx), (fun x hx => by cases hx)⟩, HCR.out.2.keep HCH.out (fun h => by omega) (fun k hk h => by omega), by have := HSC.out; omega, chg_app HCR.out.1 HCH.out (fun q hq h => by omega)⟩)
  ·have g1 : (1 : Int) < (d : Int) + 1 := by omega
   have g3 : 0 < d := by omega
   have HBK := Lib.hid (HBH.out (by omega))
   obtain ⟨tc283, tf284⟩ := Bk.cf bk3 0 rfl
   obtain ⟨tc285, tf286⟩ := Bk.cf bk3 1 rfl
   obtain ⟨tc287, tf288⟩ := Bk.cf bk3 2 rfl
   go_wp2_with fail
   refine (l2Small_any pv pa nv cv na ca vb B g (p + 1) _ (hR.below (bal (Bs _) (.cells #[.int .i64 3, .int .i64 0, .int .i64 0, .int .i64 0, .slice none 0 0, .int .i64 0, .int .i64 0, .slice none 0 0, .int .i64 0, .slice none 0 0, .slice none 0 0] 163))) (by omega) hnv hnb).mono ?_
   rintro e w2 ⟨n1, e1, p1, rfl, hE1, hT1, hRn, hq1, hc⟩
   replace hC := ((hC.trans (Chg.of_below (bal (Bs _) _)))).trans hc
   replace hR := hRn; clear hRn
   have hsz289 := hc.size
   simp only [Sa] at hsz289
   clear tf284 tc283 tf286 tc285 tf288 tc287
   replace bk3 := Bk.keep (Bk.al bk3 _) hc (fun h => by have := ird _ h; omega)
   replace bk4 := Bk.keep (Bk.al bk4 _) hc (fun h => by have := ird _ h; omega)
   have bk290 : Bk w2 (w1.heap.size) [.int .i64 3, .int .i64 0, .int .i64 0, .int .i64 0, .slice none 0 0, .int .i64 0, .int .i64 0, .slice none 0 0, .int .i64 0, .slice none 0 0, .slice none 0 0] := Bk.keep (Bk.nw (by simp) rfl) hc (fun h => by have := ird _ h; omega)
   clear hc
   try simp only [Sa, Ss] at hE1
   replace hE1 := ExAt.keep (S := fun _ => False) (Chg.refl _ _) (fun _ _ _ => id) (fun q (hq : w1.heap.size + 1 ≤ q) hlt => (show w1.heap.size + 1 ≤ q ∧ q < w2.heap.size from ⟨hq, hlt⟩)) (Nat.le_refl _) hE1
   replace lt6 := Bk.lz bk3
   replace lt7 := Bk.lz bk4
   have lt291 := Bk.lz bk290
   obtain ⟨tc292, tf293⟩ := Bk.cf bk290 5 rfl
   obtain ⟨tc294, tf295⟩ := Bk.cf bk290 6 rfl
   obtain ⟨tc296, tf297⟩ := Bk.cf bk290 7 rfl
   go_upto_region 13 with (fail)
   obtain ⟨w3, hnw, hb⟩ := nmw (World.setCell (World.setCell (World.setCell w2 ⟨w1.heap.size, 5, none⟩ (.int .i64 n1.k)) ⟨w1.heap.size, 6, none⟩ (.int .i64 n1.v)) ⟨w1.heap.size, 7, none⟩ (.slice n1.p n1.n n1.c))
   replace hC := ((((hC.setNew _ _ _ (Or.inr (by omega))).setNew _ _ _ (Or.inr (by omega))).setNew _ _ _ (Or.inr (by omega)))).trans (Chg.of_below hb)
   replace hR := (((hR.keep (C1 _ _ _) (by omega) (fun _ _ => by omega)).keep (C1 _ _ _) (by omega) (fun _ _ => by omega)).keep (C1 _ _ _) (by omega) (fun _ _ => by omega)).below hb
   replace hE1 := ((ExAt.kI (C1 _ _ _) (fun q _ _ h => by omega) (ExAt.kI (C1 _ _ _) (fun q _ _ h => by omega) (ExAt.kI (C1 _ _ _) (fun q _ _ h => by omega) hE1))).below hb)
   have hsz298 := hb.size
   simp only [Ss] at hsz298
   clear tf293 tc292 tf295 tc294 tf297 tc296
   replace bk3 := Bk.below (Bk.ne (Bk.ne (Bk.ne bk3 (by omega) _) (by omega) _) (by omega) _) hb
   replace bk4 := Bk.below (Bk.ne (Bk.ne (Bk.ne bk4 (by omega) _) (by omega) _) (by omega) _) hb
   replace bk290 : Bk w3 (w1.heap.size) [.int .i64 3, .int .i64 0, .int .i64 0, .int .i64 0, .slice none 0 0, .int .i64 n1.k, .int .i64 n1.v, .slice n1.p n1.n n1.c, .int .i64 0, .slice none 0 0, .slice none 0 0] := Bk.below (Bk.at (Bk.at (Bk.at bk290 5 (.int .i64 n1.k)) 6 (.int .i64 n1.v)) 7 (.slice n1.p n1.n n1.c)) hb
   clear hb
   rw [← hnw]
   clear hnw
   replace lt6 := Bk.lz bk3
   replace lt7 := Bk.lz bk4
   replace lt291 := Bk.lz bk290
   obtain ⟨tc299, tf300⟩ := Bk.cf bk3 0 rfl
   obtain ⟨tc301, tf302⟩ := Bk.cf bk3 1 rfl
   obtain ⟨tc303, tf304⟩ := Bk.cf bk3 2 rfl
   refine wp_region_noPanic ?_
   refine wp_region_held_drew (S := (fun W' => W'.cell? ⟨w.heap.size, 0, none⟩ = some (.slice pv nv cv) ∧ W'.cell? ⟨w.heap.size, 1, none⟩ = some (.slice pa na ca) ∧ W'.cell? ⟨w.heap.size, 2, none⟩ = some (vb))) (by kernel_rfl) ⟨Kc (Below.drew (Bs w3)) tc299, Kc (Below.drew (Bs w3)) tc301, Kc (Below.drew (Bs w3)) tc303⟩ (fun hHeld => ?_)
   obtain ⟨w4, hwd⟩ : ∃ X, X = World.drew w3 := ⟨_, rfl⟩
   rw [← hwd] at hHeld ⊢
   have hb : Below w3.heap.size w3 w4 := by rw [hwd]; exact Below.drew (Bs _)
   clear hwd
   replace hC := (hC).trans (Chg.of_below hb)
   replace hR := hR.below hb
   replace hE1 := (hE1.below hb)
   have hsz305 := hb.size
   replace tf300 := Kf hb (Lc tc299) tf300
   replace tf302 := Kf hb (Lc tc301) tf302
   replace tf304 := Kf hb (Lc tc303) tf304
   replace tc299 := Kc hb tc299
   replace tc301 := Kc hb tc301
   replace tc303 := Kc hb tc303
   replace bk3 := Bk.below bk3 hb
   replace bk4 := Bk.below bk4 hb
   replace bk290 := Bk.below bk290 hb
   clear hb
   replace lt6 := Bk.lz bk3
   replace lt7 := Bk.lz bk4
   replace lt291 := Bk.lz bk290
   refine (tq 0 61 rfl rfl ?_ ?_ (tq 1 62 rfl rfl ?_ ?_ (tq 2 63 rfl rfl ?_ ?_ (tq 3 64 rfl rfl ?_ ?_ (tq 4 65 rfl rfl ?_ ?_ ?_)))))
   iterate 5 (rotate_left; intro W' hSw; (try dsimp only at hSw); go_simp; try with_reducible rfl)
   try simp only [Act.put, sb, List.set]
   refine Rdy 5 rfl (fun K hK => ?_)
   go_simp
   obtain ⟨w5, hnw, hb⟩ := nmw (World.alloc w4 (.cells #[.int .i64 1, .int .i64 2, .int .i64 1, .int .i64 0] 3))
   replace hC := ((hC.trans (Chg.of_below (bal (Bs _) _)))).trans (Chg.of_below hb)
   replace hR := (hR.below (bal (Bs _) _)).below hb
   have ol306 := Ob (World.ownsRow_lit (base := (w4).heap.size) (e := 3) (size := 1) (w4) #[.int .i64 1, .int .i64 2, .int .i64 1, .int .i64 0] 4 (Nat.le_refl _) (by unfold maxLen; omega) (by simp)) hb
   try simp only [Sa, Ss] at ol306
   replace hE1 := ((hE1.below (bal (Bs _) _)).below hb)
   have hsz307 := hb.size
   simp only [Sa] at hsz307
   replace tf300 := Kf hb (Lc (Ac tc299 _)) (Fa (Lc tc299) tf300 _)
   replace tf302 := Kf hb (Lc (Ac tc301 _)) (Fa (Lc tc301) tf302 _)
   replace tf304 := Kf hb (Lc (Ac tc303 _)) (Fa (Lc tc303) tf304 _)
   replace tc299 := Kc hb (Ac tc299 _)
   replace tc301 := Kc hb (Ac tc301 _)
   replace tc303 := Kc hb (Ac tc303 _)
   replace bk3 := Bk.below (Bk.al bk3 _) hb
   replace bk4 := Bk.below (Bk.al bk4 _) hb
   replace bk290 := Bk.below (Bk.al bk290 _) hb
   have bk308 : Bk w5 (w4.heap.size) [.int .i64 1, .int .i64 2, .int .i64 1, .int .i64 0] := Bk.below (Bk.nw (by simp) rfl) hb
   clear hb
   have iv309 := ol306.lt
   try simp only [Sa] at iv309
   rw [← hnw]
   clear hnw
   replace lt6 := Bk.lz bk3
   replace lt7 := Bk.lz bk4
   replace lt291 := Bk.lz bk290
   have lt310 := Bk.lz bk308
   refine hK.out _ _ ⟨tc299, tc301, tc303⟩ (fun hHeld => ?_)
   clear hK K
   try simp only [Act.put, sb, List.set]
   refine Rdy 6 rfl (fun K hK => ?_)
   go_simp
   refine (num_any _ [1, 2, 1, 0] _ B g (p1) hR (Ro ol306 (by simp)) (fun b o c hb => by simp at hb; omega) (by simp) (by simp) (by omega)).mono ?_
   rintro e w6 ⟨mb, mbm, rfl, hRn, hc⟩
   replace hC := (hC).trans hc
   replace hR := hRn; clear hRn
   replace hE1 := ExAt.kI hc (fun q _ _ h => by omega) hE1
   have hsz311 := hc.size
   replace tf300 := Gf hc (Lc tc299) tf300 (fun h => by have := ird _ h; omega)
   replace tf302 := Gf hc (Lc tc301) tf302 (fun h => by have := ird _ h; omega)
   replace tf304 := Gf hc (Lc tc303) tf304 (fun h => by have := ird _ h; omega)
   replace tc299 := Gc hc tc299 (fun h => by have := ird _ h; omega)
   replace tc301 := Gc hc tc301 (fun h => by have := ird _ h; omega)
   replace tc303 := Gc hc tc303 (fun h => by have := ird _ h; omega)
   replace ol306 := Ow ol306 hc (fun gq h h2 => by have := iv309 gq h; have := ird gq h2; omega)
   replace bk3 := Bk.keep bk3 hc (fun h => by have := ird _ h; omega)
   replace bk4 := Bk.keep bk4 hc (fun h => by have := ird _ h; omega)
   replace bk290 := Bk.keep bk290 hc (fun h => by have := ird _ h; omega)
   replace bk308 := Bk.keep bk308 hc (fun h => by have := ird _ h; omega)
   clear hc
   obtain ⟨bb, rfl, hb4b⟩ : ∃ b : Nat, mb = b ∧ b ≤ 2 := by simp only [List.mem_cons, List.not_mem_nil, or_false] at mbm; exact ⟨mb.toNat, by omega, by omega⟩
   have hmlb : bb * scost d ≤ 2 * scost d := Nat.mul_le_mul_right _ hb4b
   have hpzb := HPS.out
   replace lt6 := Bk.lz bk3
   replace lt7 := Bk.lz bk4
   replace lt291 := Bk.lz bk290
   replace lt310 := Bk.lz bk308
   refine hK.out _ _ ⟨tc299, tc301, tc303⟩ (fun hHeld => ?_)
   clear hK K
   try simp only [Act.put, sb, List.set]
   refine Rdy 7 rfl (fun K hK => ?_)
   go_simp
   rw [HWD.out]
   refine (HBK.out bb (p1 + 1) _ hb4b hR (by have := HPS.out; omega)).mono ?_
   rintro e w7 ⟨ab, cb, Lb, pb, rfl, hBb, hlb, hsb, hRn, hqb, hc⟩
   replace hC := (hC).trans hc
   replace hR := hRn; clear hRn
   replace hE1 := ExAt.kI hc (fun q _ _ h => by omega) hE1
   have hsz312 := hc.size
   replace tf300 := Gf hc (Lc tc299) tf300 (fun h => by have := ird _ h; omega)
   replace tf302 := Gf hc (Lc tc301) tf302 (fun h => by have := ird _ h; omega)
   replace tf304 := Gf hc (Lc tc303) tf304 (fun h => by have := ird _ h; omega)
   replace tc299 := Gc hc tc299 (fun h => by have := ird _ h; omega)
   replace tc301 := Gc hc tc301 (fun h => by have := ird _ h; omega)
   replace tc303 := Gc hc tc303 (fun h => by have := ird _ h; omega)
   replace ol306 := Ow ol306 hc (fun gq h h2 => by have := iv309 gq h; have := ird gq h2; omega)
   replace bk3 := Bk.keep bk3 hc (fun h => by have := ird _ h; omega)
   replace bk4 := Bk.keep bk4 hc (fun h => by have := ird _ h; omega)
   replace bk290 := Bk.keep bk290 hc (fun h => by have := ird _ h; omega)
   replace bk308 := Bk.keep bk308 hc (fun h => by have := ird _ h; omega)
   clear hc
   have hsb2 := Lib.hid hsb; have hlb2 : Lb.length ≤ 2 := by omega
   clear hlb hsb
   replace hBb := BlAt.keep2 (S := fun _ => False) (Chg.refl _ _) (fun _ _ _ => id) (fun q (hq : w6.heap.size ≤ q) hlt => (show w6.heap.size ≤ q ∧ q < w7.heap.size from ⟨hq, hlt⟩)) (Nat.le_refl _) hBb
   replace lt6 := Bk.lz bk3
   replace lt7 := Bk.lz bk4
   replace lt291 := Bk.lz bk290
   replace lt310 := Bk.lz bk308
   refine hK.out _ _ ⟨tc299, tc301, tc303⟩ (fun hHeld => ?_)
   clear hK K
   try simp only [Act.put, sb, List.set]
   refine (tq 8 69 rfl rfl ?_ ?_ ?_)
   (rotate_left; intro W' hSw; (try dsimp only at hSw); go_simp; try with_reducible rfl)
   try simp only [Act.put, sb, List.set]
   refine Rdy 9 rfl (fun K hK => ?_)
   obtain ⟨tc313, tf314⟩ := Bk.cf bk290 9 rfl
   go_simp
   obtain ⟨w8, hnw, hb⟩ := nmw (World.setCell w7 ⟨w1.heap.size, 9, none⟩ (.slice ab Lb.length cb))
   replace hC := ((hC.setNew _ _ _ (Or.inr (by omega)))).trans (Chg.of_below hb)
   replace hR := (hR.keep (C1 _ _ _) (by omega) (fun _ _ => by omega)).below hb
   replace hE1 := ((ExAt.kI (C1 _ _ _) (fun q _ _ h => by omega) hE1).below hb)
   replace hBb := ((BlAt.keep2 (C1 _ _ _) (fun q (hq : w6.heap.size ≤ q ∧ q < w7.heap.size) _ (h : q = (w1.heap.size)) => by omega) (fun _ h _ => h) (Nat.le_refl _) hBb).below hb)
   have hsz315 := hb.size
   simp only [Ss] at hsz315
   clear tf314 tc313
   replace tf300 := Kf hb (Lc (Nc tc299 (by omega) _)) (Fs tf300 _)
   replace tf302 := Kf hb (Lc (Nc tc301 (by omega) _)) (Fs tf302 _)
   replace tf304 := Kf hb (Lc (Nc tc303 (by omega) _)) (Fs tf304 _)
   replace tc299 := Kc hb (Nc tc299 (by omega) _)
   replace tc301 := Kc hb (Nc tc301 (by omega) _)
   replace tc303 := Kc hb (Nc tc303 (by omega) _)
   replace ol306 := Ob (Oe ol306 _ _ (fun h => by have := iv309 _ h; omega) _) hb
   replace bk3 := Bk.below (Bk.ne bk3 (by omega) _) hb
   replace bk4 := Bk.below (Bk.ne bk4 (by omega) _) hb
   replace bk290 : Bk w8 (w1.heap.size) [.int .i64 3, .int .i64 0, .int .i64 0, .int .i64 0, .slice none 0 0, .int .i64 n1.k, .int .i64 n1.v, .slice n1.p n1.n n1.c, .int .i64 0, .slice ab Lb.length cb, .slice none 0 0] := Bk.below (Bk.at bk290 9 (.slice ab Lb.length cb)) hb
   replace bk308 := Bk.below (Bk.ne bk308 (by omega) _) hb
   clear hb
   rw [← hnw]
   clear hnw
   replace lt6 := Bk.lz bk3
   replace lt7 := Bk.lz bk4
   replace lt291 := Bk.lz bk290
   replace lt310 := Bk.lz bk308
   refine hK.out _ _ ⟨tc299, tc301, tc303⟩ (fun hHeld => ?_)
   clear hK K
   try simp only [Act.put, sb, List.set]
   refine wpAnyH_done (by kernel_rfl) ?_ _
   refine NoPanic.normal ?_
   clear hHeld
   obtain ⟨tc316, tf317⟩ := Bk.cf bk290 9 rfl
   go_upto_region 14 with (fail)
   replace lt6 := Bk.lz bk3
   replace lt7 := Bk.lz bk4
   replace lt291 := Bk.lz bk290
   replace lt310 := Bk.lz bk308
   clear tf317 tc316
   refine wp_region_noPanic ?_
   refine wp_region_held_drew (S := (fun W' => W'.cell? ⟨w.heap.size, 0, none⟩ = some (.slice pv nv cv) ∧ W'.cell? ⟨w.heap.size, 1, none⟩ = some (.slice pa na ca) ∧ W'.cell? ⟨w.heap.size, 2, none⟩ = some (vb))) (by kernel_rfl) ⟨Kc (Below.drew (Bs w8)) tc299, Kc (Below.drew (Bs w8)) tc301, Kc (Below.drew (Bs w8)) tc303⟩ (fun hHeld => ?_)
   obtain ⟨w9, hwd⟩ : ∃ X, X = World.drew w8 := ⟨_, rfl⟩
   rw [← hwd] at hHeld ⊢
   have hb : Below w8.heap.size w8 w9 := by rw [hwd]; exact Below.drew (Bs _)
   clear hwd
   replace hC := (hC).trans (Chg.of_below hb)
   replace hR := hR.below hb
   replace hE1 := (hE1.below hb)
   replace hBb := (hBb.below hb)
   have hsz318 := hb.size
   replace tf300 := Kf hb (Lc tc299) tf300
   replace tf302 := Kf hb (Lc tc301) tf302
   replace tf304 := Kf hb (Lc tc303) tf304
   replace tc299 := Kc hb tc299
   replace tc301 := Kc hb tc301
   replace tc303 := Kc hb tc303
   replace ol306 := Ob ol306 hb
   replace bk3 := Bk.below bk3 hb
   replace bk4 := Bk.below bk4 hb
   replace bk290 := Bk.below bk290 hb
   replace bk308 := Bk.below bk308 hb
   clear hb
   replace lt6 := Bk.lz bk3
   replace lt7 := Bk.lz bk4
   replace lt291 := Bk.lz bk290
   replace lt310 := Bk.lz bk308
   refine (tq 0 70 rfl rfl ?_ ?_ (tq 1 71 rfl rfl ?_ ?_ (tq 2 72 rfl rfl ?_ ?_ (tq 3 73 rfl rfl ?_ ?_ (tq 4 74 rfl rfl ?_ ?_ ?_)))))
   iterate 5 (rotate_left; intro W' hSw; (try dsimp only at hSw); go_simp; try with_reducible rfl)
   try simp only [Act.put, sb, List.set]
   refine Rdy 5 rfl (fun K hK => ?_)
   go_simp
   obtain ⟨w10, hnw, hb⟩ := nmw (World.alloc w9 (.cells #[.int .i64 0, .int .i64 1, .int .i64 0, .int .i64 2] 3))
   replace hC := ((hC.trans (Chg.of_below (bal (Bs _) _)))).trans (Chg.of_below hb)
   replace hR := (hR.below (bal (Bs _) _)).below hb
   have ol319 := Ob (World.ownsRow_lit (base := (w9).heap.size) (e := 3) (size := 1) (w9) #[.int .i64 0, .int .i64 1, .int .i64 0, .int .i64 2] 4 (Nat.le_refl _) (by unfold maxLen; omega) (by simp)) hb
   try simp only [Sa, Ss] at ol319
   replace hE1 := ((hE1.below (bal (Bs _) _)).below hb)
   replace hBb := ((hBb.below (bal (Bs _) _)).below hb)
   have hsz320 := hb.size
   simp only [Sa] at hsz320
   replace tf300 := Kf hb (Lc (Ac tc299 _)) (Fa (Lc tc299) tf300 _)
   replace tf302 := Kf hb (Lc (Ac tc301 _)) (Fa (Lc tc301) tf302 _)
   replace tf304 := Kf hb (Lc (Ac tc303 _)) (Fa (Lc tc303) tf304 _)
   replace tc299 := Kc hb (Ac tc299 _)
   replace tc301 := Kc hb (Ac tc301 _)
   replace tc303 := Kc hb (Ac tc303 _)
   replace ol306 := Ob (Ob ol306 (bal (Bs _) _)) hb
   replace bk3 := Bk.below (Bk.al bk3 _) hb
   replace bk4 := Bk.below (Bk.al bk4 _) hb
   replace bk290 := Bk.below (Bk.al bk290 _) hb
   replace bk308 := Bk.below (Bk.al bk308 _) hb
   have bk321 : Bk w10 (w9.heap.size) [.int .i64 0, .int .i64 1, .int .i64 0, .int .i64 2] := Bk.below (Bk.nw (by simp) rfl) hb
   clear hb
   have iv322 := ol319.lt
   try simp only [Sa] at iv322
   rw [← hnw]
   clear hnw
   replace lt6 := Bk.lz bk3
   replace lt7 := Bk.lz bk4
   replace lt291 := Bk.lz bk290
   replace lt310 := Bk.lz bk308
   have lt323 := Bk.lz bk321
   refine hK.out _ _ ⟨tc299, tc301, tc303⟩ (fun hHeld => ?_)
   clear hK K
   try simp only [Act.put, sb, List.set]
   refine Rdy 6 rfl (fun K hK => ?_)
   go_simp
   refine (num_any _ [0, 1, 0, 2] _ B g (pb) hR (Ro ol319 (by simp)) (fun b o c hb => by simp at hb; omega) (by simp) (by simp) (by omega)).mono ?_
   rintro e w11 ⟨me, mem, rfl, hRn, hc⟩
   replace hC := (hC).trans hc
   replace hR := hRn; clear hRn
   replace hE1 := ExAt.kI hc (fun q _ _ h => by omega) hE1
   replace hBb := BlAt.keep2 hc (fun q (hq : w6.heap.size ≤ q ∧ q < w7.heap.size) _ (h : q = g) => by omega) (fun _ h _ => h) (Nat.le_refl _) hBb
   have hsz324 := hc.size
   replace tf300 := Gf hc (Lc tc299) tf300 (fun h => by have := ird _ h; omega)
   replace tf302 := Gf hc (Lc tc301) tf302 (fun h => by have := ird _ h; omega)
   replace tf304 := Gf hc (Lc tc303) tf304 (fun h => by have := ird _ h; omega)
   replace tc299 := Gc hc tc299 (fun h => by have := ird _ h; omega)
   replace tc301 := Gc hc tc301 (fun h => by have := ird _ h; omega)
   replace tc303 := Gc hc tc303 (fun h => by have := ird _ h; omega)
   replace ol306 := Ow ol306 hc (fun gq h h2 => by have := iv309 gq h; have := ird gq h2; omega)
   replace ol319 := Ow ol319 hc (fun gq h h2 => by have := iv322 gq h; have := ird gq h2; omega)
   replace bk3 := Bk.keep bk3 hc (fun h => by have := ird _ h; omega)
   replace bk4 := Bk.keep bk4 hc (fun h => by have := ird _ h; omega)
   replace bk290 := Bk.keep bk290 hc (fun h => by have := ird _ h; omega)
   replace bk308 := Bk.keep bk308 hc (fun h => by have := ird _ h; omega)
   replace bk321 := Bk.keep bk321 hc (fun h => by have := ird _ h; omega)
   clear hc
   obtain ⟨be, rfl, hb4e⟩ : ∃ b : Nat, me = b ∧ b ≤ 2 := by simp only [List.mem_cons, List.not_mem_nil, or_false] at mem; exact ⟨me.toNat, by omega, by omega⟩
   have hmle : be * scost d ≤ 2 * scost d := Nat.mul_le_mul_right _ hb4e
   have hpze := HPS.out
   replace lt6 := Bk.lz bk3
   replace lt7 := Bk.lz bk4
   replace lt291 := Bk.lz bk290
   replace lt310 := Bk.lz bk308
   replace lt323 := Bk.lz bk321
   refine hK.out _ _ ⟨tc299, tc301, tc303⟩ (fun hHeld => ?_)
   clear hK K
   try simp only [Act.put, sb, List.set]
   refine Rdy 7 rfl (fun K hK => ?_)
   go_simp
   rw [HWD.out]
   refine (HBK.out be (pb + 1) _ hb4e hR (by have := HPS.out; omega)).mono ?_
   rintro e w12 ⟨ae, ce, Le, pe, rfl, hBe, hle, hse, hRn, hqe, hc⟩
   replace hC := (hC).trans hc
   replace hR := hRn; clear hRn
   replace hE1 := ExAt.kI hc (fun q _ _ h => by omega) hE1
   replace hBb := BlAt.keep2 hc (fun q (hq : w6.heap.size ≤ q ∧ q < w7.heap.size) _ (h : q = g) => by omega) (fun _ h _ => h) (Nat.le_refl _) hBb
   have hsz325 := hc.size
   replace tf300 := Gf hc (Lc tc299) tf300 (fun h => by have := ird _ h; omega)
   replace tf302 := Gf hc (Lc tc301) tf302 (fun h => by have := ird _ h; omega)
   replace tf304 := Gf hc (Lc tc303) tf304 (fun h => by have := ird _ h; omega)
   replace tc299 := Gc hc tc299 (fun h => by have := ird _ h; omega)
   replace tc301 := Gc hc tc301 (fun h => by have := ird _ h; omega)
   replace tc303 := Gc hc tc303 (fun h => by have := ird _ h; omega)
   replace ol306 := Ow ol306 hc (fun gq h h2 => by have := iv309 gq h; have := ird gq h2; omega)
   replace ol319 := Ow ol319 hc (fun gq h h2 => by have := iv322 gq h; have := ird gq h2; omega)
   replace bk3 := Bk.keep bk3 hc (fun h => by have := ird _ h; omega)
   replace bk4 := Bk.keep bk4 hc (fun h => by have := ird _ h; omega)
   replace bk290 := Bk.keep bk290 hc (fun h => by have := ird _ h; omega)
   replace bk308 := Bk.keep bk308 hc (fun h => by have := ird _ h; omega)
   replace bk321 := Bk.keep bk321 hc (fun h => by have := ird _ h; omega)
   clear hc
   have hse2 := Lib.hid hse; have hle2 : Le.length ≤ 2 := by omega
   clear hle hse
   replace hBe := BlAt.keep2 (S := fun _ => False) (Chg.refl _ _) (fun _ _ _ => id) (fun q (hq : w11.heap.size ≤ q) hlt => (show w11.heap.size ≤ q ∧ q < w12.heap.size from ⟨hq, hlt⟩)) (Nat.le_refl _) hBe
   replace lt6 := Bk.lz bk3
   replace lt7 := Bk.lz bk4
   replace lt291 := Bk.lz bk290
   replace lt310 := Bk.lz bk308
   replace lt323 := Bk.lz bk321
   refine hK.out _ _ ⟨tc299, tc301, tc303⟩ (fun hHeld => ?_)
   clear hK K
   try simp only [Act.put, sb, List.set]
   refine (tq 8 78 rfl rfl ?_ ?_ ?_)
   (rotate_left; intro W' hSw; (try dsimp only at hSw); go_simp; try with_reducible rfl)
   try simp only [Act.put, sb, List.set]
   refine Rdy 9 rfl (fun K hK => ?_)
   obtain ⟨tc326, tf327⟩ := Bk.cf bk290 10 rfl
   go_simp
   obtain ⟨w13, hnw, hb⟩ := nmw (World.setCell w12 ⟨w1.heap.size, 10, none⟩ (.slice ae Le.length ce))
   replace hC := ((hC.setNew _ _ _ (Or.inr (by omega)))).trans (Chg.of_below hb)
   replace hR := (hR.keep (C1 _ _ _) (by omega) (fun _ _ => by omega)).below hb
   replace hE1 := ((ExAt.kI (C1 _ _ _) (fun q _ _ h => by omega) hE1).below hb)
   replace hBb := ((BlAt.keep2 (C1 _ _ _) (fun q (hq : w6.heap.size ≤ q ∧ q < w7.heap.size) _ (h : q = (w1.heap.size)) => by omega) (fun _ h _ => h) (Nat.le_refl _) hBb).below hb)
   replace hBe := ((BlAt.keep2 (C1 _ _ _) (fun q (hq : w11.heap.size ≤ q ∧ q < w12.heap.size) _ (h : q = (w1.heap.size)) => by omega) (fun _ h _ => h) (Nat.le_refl _) hBe).below hb)
   have hsz328 := hb.size
   simp only [Ss] at hsz328
   clear tf327 tc326
   replace tf300 := Kf hb (Lc (Nc tc299 (by omega) _)) (Fs tf300 _)
   replace tf302 := Kf hb (Lc (Nc tc301 (by omega) _)) (Fs tf302 _)
   replace tf304 := Kf hb (Lc (Nc tc303 (by omega) _)) (Fs tf304 _)
   replace tc299 := Kc hb (Nc tc299 (by omega) _)
   replace tc301 := Kc hb (Nc tc301 (by omega) _)
   replace tc303 := Kc hb (Nc tc303 (by omega) _)
   replace ol306 := Ob (Oe ol306 _ _ (fun h => by have := iv309 _ h; omega) _) hb
   replace ol319 := Ob (Oe ol319 _ _ (fun h => by have := iv322 _ h; omega) _) hb
   replace bk3 := Bk.below (Bk.ne bk3 (by omega) _) hb
   replace bk4 := Bk.below (Bk.ne bk4 (by omega) _) hb
   replace bk290 : Bk w13 (w1.heap.size) [.int .i64 3, .int .i64 0, .int .i64 0, .int .i64 0, .slice none 0 0, .int .i64 n1.k, .int .i64 n1.v, .slice n1.p n1.n n1.c, .int .i64 0, .slice ab Lb.length cb, .slice ae Le.length ce] := Bk.below (Bk.at bk290 10 (.slice ae Le.length ce)) hb
   replace bk308 := Bk.below (Bk.ne bk308 (by omega) _) hb
   replace bk321 := Bk.below (Bk.ne bk321 (by omega) _) hb
   clear hb
   rw [← hnw]
   clear hnw
   replace lt6 := Bk.lz bk3
   replace lt7 := Bk.lz bk4
   replace lt291 := Bk.lz bk290
   replace lt310 := Bk.lz bk308
   replace lt323 := Bk.lz bk321
   refine hK.out _ _ ⟨tc299, tc301, tc303⟩ (fun hHeld => ?_)
   clear hK K
   try simp only [Act.put, sb, List.set]
   refine wpAnyH_done (by kernel_rfl) ?_ _
   refine NoPanic.normal ?_
   clear hHeld
   obtain ⟨tc329, tf330⟩ := Bk.cf bk290 10 rfl
   go_upto_region 18 with (fail)
   clear bk3 tc299 tf300 tc301 tf302 tc303 tf304 bk308 bk321
   clear lt6 lt310 lt323
   replace lt7 := Bk.lz bk4
   replace lt291 := Bk.lz bk290
   obtain ⟨tc331, tf332⟩ := Bk.cf bk4 0 rfl
   obtain ⟨tc333, tf334⟩ := Bk.cf bk4 1 rfl
   obtain ⟨tc335, tf336⟩ := Bk.cf bk4 2 rfl
   obtain ⟨tc337, tf338⟩ := Bk.cf bk4 3 rfl
   obtain ⟨tc339, tf340⟩ := Bk.cf bk4 4 rfl
   obtain ⟨tc341, tf342⟩ := Bk.cf bk4 5 rfl
   obtain ⟨tc343, tf344⟩ := Bk.cf bk4 6 rfl
   obtain ⟨tc345, tf346⟩ := Bk.cf bk4 7 rfl
   obtain ⟨tc347, tf348⟩ := Bk.cf bk4 8 rfl
   obtain ⟨tc349, tf350⟩ := Bk.cf bk4 9 rfl
   obtain ⟨tc351, tf352⟩ := Bk.cf bk4 10 rfl
   obtain ⟨tc353, tf354⟩ := Bk.cf bk290 0 rfl
   obtain ⟨tc355, tf356⟩ := Bk.cf bk290 1 rfl
   obtain ⟨tc357, tf358⟩ := Bk.cf bk290 2 rfl
   obtain ⟨tc359, tf360⟩ := Bk.cf bk290 3 rfl
   obtain ⟨tc361, tf362⟩ := Bk.cf bk290 4 rfl
   obtain ⟨tc363, tf364⟩ := Bk.cf bk290 5 rfl
   obtain ⟨tc365, tf366⟩ := Bk.cf bk290 6 rfl
   obtain ⟨tc367, tf368⟩ := Bk.cf bk290 7 rfl
   obtain ⟨tc369, tf370⟩ := Bk.cf bk290 8 rfl
   obtain ⟨tc371, tf372⟩ := Bk.cf bk290 9 rfl
   have HCF := ((((((((((((Chg.refl (fun q => q = w.heap.size + 1) w13).setCell (w.heap.size + 1) 0 (.int .i64 3) (fun _ => rfl)).setCell (w.heap.size + 1) 1 (.int .i64 0) (fun _ => rfl)).setCell (w.heap.size + 1) 2 (.int .i64 0) (fun _ => rfl)).setCell (w.heap.size + 1) 3 (.int .i64 0) (fun _ => rfl)).setCell (w.heap.size + 1) 4 (.slice none 0 0) (fun _ => rfl)).setCell (w.heap.size + 1) 5 (.int .i64 n1.k) (fun _ => rfl)).setCell (w.heap.size + 1) 6 (.int .i64 n1.v) (fun _ => rfl)).setCell (w.heap.size + 1) 7 (.slice n1.p n1.n n1.c) (fun _ => rfl)).setCell (w.heap.size + 1) 8 (.int .i64 0) (fun _ => rfl)).setCell (w.heap.size + 1) 9 (.slice ab Lb.length cb) (fun _ => rfl)).setCell (w.heap.size + 1) 10 (.slice ae Le.length ce) (fun _ => rfl))
   have hBf := (Bk.at (Bk.at (Bk.at (Bk.at (Bk.at (Bk.at (Bk.at (Bk.at (Bk.at (Bk.at (Bk.at bk4 0 (.int .i64 3)) 1 (.int .i64 0)) 2 (.int .i64 0)) 3 (.int .i64 0)) 4 (.slice none 0 0)) 5 (.int .i64 n1.k)) 6 (.int .i64 n1.v)) 7 (.slice n1.p n1.n n1.c)) 8 (.int .i64 0)) 9 (.slice ab Lb.length cb)) 10 (.slice ae Le.length ce))
   have xr0 := Bk.cell hBf 0 (v := .int .i64 3) rfl
   have xr1 := Bk.cell hBf 1 (v := .int .i64 0) rfl
   have xr2 := Bk.cell hBf 2 (v := .int .i64 0) rfl
   have xr3 := Bk.cell hBf 3 (v := .int .i64 0) rfl
   have xr4 := Bk.cell hBf 4 (v := .slice none 0 0) rfl
   have xr5 := Bk.cell hBf 5 (v := .int .i64 n1.k) rfl
   have xr6 := Bk.cell hBf 6 (v := .int .i64 n1.v) rfl
   have xr7 := Bk.cell hBf 7 (v := .slice n1.p n1.n n1.c) rfl
   have xr8 := Bk.cell hBf 8 (v := .int .i64 0) rfl
   have xr9 := Bk.cell hBf 9 (v := .slice ab Lb.length cb) rfl
   have xr10 := Bk.cell hBf 10 (v := .slice ae Le.length ce) rfl
   have HCH := Lib.hid HCF; clear HCF hBf
   have HCR := Lib.hid (And.intro hC hR); clear hC hR
   have HhE1 := Lib.hid hE1; clear hE1
   have HhBb := Lib.hid hBb; clear hBb
   have HhBe := Lib.hid hBe; clear hBe
   go_wp2
   exact bodyPost_ret (v := .agg #[.int .i64 3, .int .i64 0, .int .i64 0, .int .i64 0, .slice none 0 0, .int .i64 n1.k, .int .i64 n1.v, .slice n1.p n1.n n1.c, .int .i64 0, .slice ab Lb.length cb, .slice ae Le.length ce]) (by simp [results, Try.results164, go_sem, xr0, xr1, xr2, xr3, xr4, xr5, xr6, xr7, xr8, xr9, xr10]) rfl (by exact ⟨⟨3, 0, ⟨0, 0, none, 0, 0⟩, n1, 0, ab, Lb.length, cb, ae, Le.length, ce⟩, .mk 3 0 (.mk 0 0 []) e1 0 Lb Le, _, rfl, ⟨rfl, rfl, rfl, ⟨_, ExAt.leaf (d := 0) 0 0⟩, ⟨_, ExAt.keep HCH.out (fun q (hq : w1.heap.size + 1 ≤ q ∧ q < w2.heap.size) _ (h : q = w.heap.size + 1) => by omega) (fun q (hq : w1.heap.size + 1 ≤ q ∧ q < w2.heap.size) _ => by show w.heap.size ≤ q; omega) (Nat.le_refl _) HhE1.out⟩, BlAt.keep2 HCH.out (fun q (hq : w6.heap.size ≤ q ∧ q < w7.heap.size) _ (h : q = w.heap.size + 1) => by omega) (fun q (hq : w6.heap.size ≤ q ∧ q < w7.heap.size) _ => by show w.heap.size ≤ q; omega) (Nat.le_refl _) HhBb.out, BlAt.keep2 HCH.out (fun q (hq : w11.heap.size ≤ q ∧ q < w12.heap.size) _ (h : q = w.heap.size + 1) => by omega) (fun q (hq : w11.heap.size ≤ q ∧ q < w12.heap.size) _ => by show w.heap.size ≤ q; omega) (Nat.le_refl _) HhBe.out⟩, ⟨thin_leaf 0 0, hT1, hlb2, hle2, hsb2.out, hse2.out⟩, HCR.out.2.keep HCH.out (fun h => by omega) (fun k hk h => by omega), by have := HSC.out; omega, chg_app HCR.out.1 HCH.out (fun q hq h => by omega)⟩)
 ·skip
  by_cases hd0 : d = 0
  ·have g1 : decide ((1 : Int) < (d : Int) + 1) = false := by simp [hd0]
   have g3 : decide (0 < d) = false := by simp [hd0]
   have HD0 := Lib.hid hd0; clear hd0
   have hna0 : True := trivial
   obtain ⟨tc373, tf374⟩ := Bk.cf bk3 0 rfl
   go_wp2_with fail
   refine (pick_any _ _ B g (p + 1) (hR.below (bal (Bs _) (.cells #[.int .i64 1, .int .i64 0, .int .i64 0, .int .i64 0, .slice none 0 0, .int .i64 0, .int .i64 0, .slice none 0 0, .int .i64 0, .slice none 0 0, .slice none 0 0] 163))) (by omega) (by omega) (by omega)).mono ?_
   rintro e w2 ⟨tg, tg0, tg1, rfl, hRn, hc⟩
   replace hC := ((hC.trans (Chg.of_below (bal (Bs _) _)))).trans hc
   replace hR := hRn; clear hRn
   have hsz375 := hc.size
   simp only [Sa] at hsz375
   clear tf374 tc373
   replace bk3 := Bk.keep (Bk.al bk3 _) hc (fun h => by have := ird _ h; omega)
   replace bk4 := Bk.keep (Bk.al bk4 _) hc (fun h => by have := ird _ h; omega)
   have bk376 : Bk w2 (w1.heap.size) [.int .i64 1, .int .i64 0, .int .i64 0, .int .i64 0, .slice none 0 0, .int .i64 0, .int .i64 0, .slice none 0 0, .int .i64 0, .slice none 0 0, .slice none 0 0] := Bk.keep (Bk.nw (by simp) rfl) hc (fun h => by have := ird _ h; omega)
   clear hc
   replace lt6 := Bk.lz bk3
   replace lt7 := Bk.lz bk4
   have lt377 := Bk.lz bk376
   obtain ⟨tc378, tf379⟩ := Bk.cf bk3 0 rfl
   obtain ⟨tc380, tf381⟩ := Bk.cf bk3 1 rfl
   obtain ⟨tc382, tf383⟩ := Bk.cf bk3 2 rfl
   obtain ⟨tc384, tf385⟩ := Bk.cf bk376 1 rfl
   go_wp2_with fail
   refine (l2Small_any pv pa nv cv na ca vb B g (p + 1 + 1) _ (hR.keep (C1 (w1.heap.size) (1) (.int .i64 tg)) (by omega) (fun _ _ => by omega)) (by omega) hnv hnb).mono ?_
   rintro e w3 ⟨n1, e1, p1, rfl, hE1, hT1, hRn, hq1, hc⟩
   replace hC := ((hC.setNew _ _ _ (Or.inr (by omega)))).trans hc
   replace hR := hRn; clear hRn
   have hsz386 := hc.size
   simp only [Ss] at hsz386
   clear tf379 tc378 tf381 tc380 tf383 tc382 tf385 tc384
   replace bk3 := Bk.keep (Bk.ne bk3 (by omega) _) hc (fun h => by have := ird _ h; omega)
   replace bk4 := Bk.keep (Bk.ne bk4 (by omega) _) hc (fun h => by have := ird _ h; omega)
   replace bk376 : Bk w3 (w1.heap.size) [.int .i64 1, .int .i64 tg, .int .i64 0, .int .i64 0, .slice none 0 0, .int .i64 0, .int .i64 0, .slice none 0 0, .int .i64 0, .slice none 0 0, .slice none 0 0] := Bk.keep (Bk.at bk376 1 (.int .i64 tg)) hc (fun h => by have := ird _ h; omega)
   clear hc
   clear bk3
   try simp only [Sa, Ss] at hE1
   replace hE1 := ExAt.keep (S := fun _ => False) (Chg.refl _ _) (fun _ _ _ => id) (fun q (hq : w2.heap.size ≤ q) hlt => (show w2.heap.size ≤ q ∧ q < w3.heap.size from ⟨hq, hlt⟩)) (Nat.le_refl _) hE1
   clear lt6
   replace lt7 := Bk.lz bk4
   replace lt377 := Bk.lz bk376
   obtain ⟨tc387, tf388⟩ := Bk.cf bk376 5 rfl
   obtain ⟨tc389, tf390⟩ := Bk.cf bk376 6 rfl
   obtain ⟨tc391, tf392⟩ := Bk.cf bk376 7 rfl
   go_upto_region 18 with (fail)
   obtain ⟨w4, hnw, hb⟩ := nmw (World.setCell (World.setCell (World.setCell w3 ⟨w1.heap.size, 5, none⟩ (.int .i64 n1.k)) ⟨w1.heap.size, 6, none⟩ (.int .i64 n1.v)) ⟨w1.heap.size, 7, none⟩ (.slice n1.p n1.n n1.c))
   replace hC := ((((hC.setNew _ _ _ (Or.inr (by omega))).setNew _ _ _ (Or.inr (by omega))).setNew _ _ _ (Or.inr (by omega)))).trans (Chg.of_below hb)
   replace hR := (((hR.keep (C1 _ _ _) (by omega) (fun _ _ => by omega)).keep (C1 _ _ _) (by omega) (fun _ _ => by omega)).keep (C1 _ _ _) (by omega) (fun _ _ => by omega)).below hb
   replace hE1 := ((ExAt.kI (C1 _ _ _) (fun q _ _ h => by omega) (ExAt.kI (C1 _ _ _) (fun q _ _ h => by omega) (ExAt.kI (C1 _ _ _) (fun q _ _ h => by omega) hE1))).below hb)
   have hsz393 := hb.size
   simp only [Ss] at hsz393
   clear tf388 tc387 tf390 tc389 tf392 tc391
   replace bk4 := Bk.below (Bk.ne (Bk.ne (Bk.ne bk4 (by omega) _) (by omega) _) (by omega) _) hb
   replace bk376 : Bk w4 (w1.heap.size) [.int .i64 1, .int .i64 tg, .int .i64 0, .int .i64 0, .slice none 0 0, .int .i64 n1.k, .int .i64 n1.v, .slice n1.p n1.n n1.c, .int .i64 0, .slice none 0 0, .slice none 0 0] := Bk.below (Bk.at (Bk.at (Bk.at bk376 5 (.int .i64 n1.k)) 6 (.int .i64 n1.v)) 7 (.slice n1.p n1.n n1.c)) hb
   clear hb
   rw [← hnw]
   clear hnw
   replace lt7 := Bk.lz bk4
   replace lt377 := Bk.lz bk376
   obtain ⟨tc394, tf395⟩ := Bk.cf bk4 0 rfl
   obtain ⟨tc396, tf397⟩ := Bk.cf bk4 1 rfl
   obtain ⟨tc398, tf399⟩ := Bk.cf bk4 2 rfl
   obtain ⟨tc400, tf401⟩ := Bk.cf bk4 3 rfl
   obtain ⟨tc402, tf403⟩ := Bk.cf bk4 4 rfl
   obtain ⟨tc404, tf405⟩ := Bk.cf bk4 5 rfl
   obtain ⟨tc406, tf407⟩ := Bk.cf bk4 6 rfl
   obtain ⟨tc408, tf409⟩ := Bk.cf bk4 7 rfl
   obtain ⟨tc410, tf411⟩ := Bk.cf bk4 8 rfl
   obtain ⟨tc412, tf413⟩ := Bk.cf bk4 9 rfl
   obtain ⟨tc414, tf415⟩ := Bk.cf bk4 10 rfl
   obtain ⟨tc416, tf417⟩ := Bk.cf bk376 0 rfl
   obtain ⟨tc418, tf419⟩ := Bk.cf bk376 1 rfl
   obtain ⟨tc420, tf421⟩ := Bk.cf bk376 2 rfl
   obtain ⟨tc422, tf423⟩ := Bk.cf bk376 3 rfl
   obtain ⟨tc424, tf425⟩ := Bk.cf bk376 4 rfl
   obtain ⟨tc426, tf427⟩ := Bk.cf bk376 5 rfl
   obtain ⟨tc428, tf429⟩ := Bk.cf bk376 6 rfl
   obtain ⟨tc430, tf431⟩ := Bk.cf bk376 7 rfl
   obtain ⟨tc432, tf433⟩ := Bk.cf bk376 8 rfl
   obtain ⟨tc434, tf435⟩ := Bk.cf bk376 9 rfl
   obtain ⟨tc436, tf437⟩ := Bk.cf bk376 10 rfl
   have HCF := ((((((((((((Chg.refl (fun q => q = w.heap.size + 1) w4).setCell (w.heap.size + 1) 0 (.int .i64 1) (fun _ => rfl)).setCell (w.heap.size + 1) 1 (.int .i64 tg) (fun _ => rfl)).setCell (w.heap.size + 1) 2 (.int .i64 0) (fun _ => rfl)).setCell (w.heap.size + 1) 3 (.int .i64 0) (fun _ => rfl)).setCell (w.heap.size + 1) 4 (.slice none 0 0) (fun _ => rfl)).setCell (w.heap.size + 1) 5 (.int .i64 n1.k) (fun _ => rfl)).setCell (w.heap.size + 1) 6 (.int .i64 n1.v) (fun _ => rfl)).setCell (w.heap.size + 1) 7 (.slice n1.p n1.n n1.c) (fun _ => rfl)).setCell (w.heap.size + 1) 8 (.int .i64 0) (fun _ => rfl)).setCell (w.heap.size + 1) 9 (.slice none 0 0) (fun _ => rfl)).setCell (w.heap.size + 1) 10 (.slice none 0 0) (fun _ => rfl))
   have hBf := (Bk.at (Bk.at (Bk.at (Bk.at (Bk.at (Bk.at (Bk.at (Bk.at (Bk.at (Bk.at (Bk.at bk4 0 (.int .i64 1)) 1 (.int .i64 tg)) 2 (.int .i64 0)) 3 (.int .i64 0)) 4 (.slice none 0 0)) 5 (.int .i64 n1.k)) 6 (.int .i64 n1.v)) 7 (.slice n1.p n1.n n1.c)) 8 (.int .i64 0)) 9 (.slice none 0 0)) 10 (.slice none 0 0))
   have xr0 := Bk.cell hBf 0 (v := .int .i64 1) rfl
   have xr1 := Bk.cell hBf 1 (v := .int .i64 tg) rfl
   have xr2 := Bk.cell hBf 2 (v := .int .i64 0) rfl
   have xr3 := Bk.cell hBf 3 (v := .int .i64 0) rfl
   have xr4 := Bk.cell hBf 4 (v := .slice none 0 0) rfl
   have xr5 := Bk.cell hBf 5 (v := .int .i64 n1.k) rfl
   have xr6 := Bk.cell hBf 6 (v := .int .i64 n1.v) rfl
   have xr7 := Bk.cell hBf 7 (v := .slice n1.p n1.n n1.c) rfl
   have xr8 := Bk.cell hBf 8 (v := .int .i64 0) rfl
   have xr9 := Bk.cell hBf 9 (v := .slice none 0 0) rfl
   have xr10 := Bk.cell hBf 10 (v := .slice none 0 0) rfl
   have HCH := Lib.hid HCF; clear HCF hBf
   have HCR := Lib.hid (And.intro hC hR); clear hC hR
   have HhE1 := Lib.hid hE1; clear hE1
   go_wp2
   exact bodyPost_ret (v := .agg #[.int .i64 1, .int .i64 tg, .int .i64 0, .int .i64 0, .slice none 0 0, .int .i64 n1.k, .int .i64 n1.v, .slice n1.p n1.n n1.c, .int .i64 0, .slice none 0 0, .slice none 0 0]) (by simp [results, Try.results164, go_sem, xr0, xr1, xr2, xr3, xr4, xr5, xr6, xr7, xr8, xr9, xr10]) rfl (by exact ⟨⟨1, tg, ⟨0, 0, none, 0, 0⟩, n1, 0, none, 0, 0, none, 0, 0⟩, .mk 1 tg (.mk 0 0 []) e1 0 [] [], _, rfl, ⟨rfl, rfl, rfl, ⟨_, ExAt.leaf (d := 0) 0 0⟩, ⟨_, ExAt.keep HCH.out (fun q (hq : w2.heap.size ≤ q ∧ q < w3.heap.size) _ (h : q = w.heap.size + 1) => by omega) (fun q (hq : w2.heap.size ≤ q ∧ q < w3.heap.size) _ => by show w.heap.size ≤ q; omega) (Nat.le_refl _) HhE1.out⟩, RowOf.nil, RowOf.nil⟩, ⟨thin_leaf 0 0, hT1, by simp, by simp, (fun x hx => by cases hx), (fun x hx => by cases hx)⟩, HCR.out.2.keep HCH.out (fun h => by omega) (fun k hk h => by omega), by have := HSC.out; omega, chg_app HCR.out.1 HCH.out (fun q hq h => by omega)⟩)
  ·have g1 : (1 : Int) < (d : Int) + 1 := by omega
   have g3 : 0 < d := by omega
   have HBK := Lib.hid (HBH.out (by omega))
   go_wp2_with fail
   have hqn := num_any _ [2, 1, 3] _ B g (p + 1) ((hR.below (bal (Bs _) (.cells #[.int .i64 4, .int .i64 0, .int .i64 0, .int .i64 0, .slice none 0 0, .int .i64 0, .int .i64 0, .slice none 0 0, .int .i64 0, .slice none 0 0, .slice none 0 0] 163))).below (bal (Bs _) (.cells #[.int .i64 2, .int .i64 1, .int .i64 3] 3))) (Ro (World.ownsRow_lit (base := ((World.alloc w1 (.cells #[.int .i64 4, .int .i64 0, .int .i64 0, .int .i64 0, .slice none 0 0, .int .i64 0, .int .i64 0, .slice none 0 0, .int .i64 0, .slice none 0 0, .slice none 0 0] 163))).heap.size) (e := 3) (size := 1) ((World.alloc w1 (.cells #[.int .i64 4, .int .i64 0, .int .i64 0, .int .i64 0, .slice none 0 0, .int .i64 0, .int .i64 0, .slice none 0 0, .int .i64 0, .slice none 0 0, .slice none 0 0] 163))) #[.int .i64 2, .int .i64 1, .int .i64 3] 3 (Nat.le_refl _) (by unfold maxLen; omega) (by simp)) (by simp)) (fun b o c hb => by simp at hb; omega) (by simp) (by simp) (by omega)
   simp only [Sa] at hqn
   refine (hqn).mono ?_
   rintro e w2 ⟨ct, ctm, rfl, hRn, hc⟩
   clear hqn
   replace hC := (((hC.trans (Chg.of_below (bal (Bs _) _))).trans (Chg.of_below (bal (Bs _) _)))).trans hc
   replace hR := hRn; clear hRn
   have hsz439 := hc.size
   simp only [Sa] at hsz439
   replace bk3 := Bk.keep (Bk.al (Bk.al bk3 _) _) hc (fun h => by have := ird _ h; omega)
   replace bk4 := Bk.keep (Bk.al (Bk.al bk4 _) _) hc (fun h => by have := ird _ h; omega)
   have bk440 : Bk w2 (w1.heap.size) [.int .i64 4, .int .i64 0, .int .i64 0, .int .i64 0, .slice none 0 0, .int .i64 0, .int .i64 0, .slice none 0 0, .int .i64 0, .slice none 0 0, .slice none 0 0] := Bk.keep (Bk.al (Bk.nw (by simp) rfl) (.cells #[.int .i64 2, .int .i64 1, .int .i64 3] 3)) hc (fun h => by have := ird _ h; omega)
   have bk441 : Bk w2 (w1.heap.size + 1) [.int .i64 2, .int .i64 1, .int .i64 3] := Bk.keep (Bk.nw (by simp) rfl) hc (fun h => by have := ird _ h; omega)
   clear hc
   clear bk441
   replace lt6 := Bk.lz bk3
   replace lt7 := Bk.lz bk4
   have lt442 := Bk.lz bk440
   obtain ⟨tc443, tf444⟩ := Bk.cf bk440 8 rfl
   go_upto_region 17 with (fail)
   obtain ⟨w3, hnw, hb⟩ := nmw (World.setCell w2 ⟨w1.heap.size, 8, none⟩ (.int .i64 ct))
   replace hC := ((hC.setNew _ _ _ (Or.inr (by omega)))).trans (Chg.of_below hb)
   replace hR := (hR.keep (C1 _ _ _) (by omega) (fun _ _ => by omega)).below hb
   have hsz445 := hb.size
   simp only [Ss] at hsz445
   clear tf444 tc443
   replace bk3 := Bk.below (Bk.ne bk3 (by omega) _) hb
   replace bk4 := Bk.below (Bk.ne bk4 (by omega) _) hb
   replace bk440 : Bk w3 (w1.heap.size) [.int .i64 4, .int .i64 0, .int .i64 0, .int .i64 0, .slice none 0 0, .int .i64 0, .int .i64 0, .slice none 0 0, .int .i64 ct, .slice none 0 0, .slice none 0 0] := Bk.below (Bk.at bk440 8 (.int .i64 ct)) hb
   clear hb
   rw [← hnw]
   clear hnw
   replace lt6 := Bk.lz bk3
   replace lt7 := Bk.lz bk4
   replace lt442 := Bk.lz bk440
   obtain ⟨tc446, tf447⟩ := Bk.cf bk3 0 rfl
   obtain ⟨tc448, tf449⟩ := Bk.cf bk3 1 rfl
   obtain ⟨tc450, tf451⟩ := Bk.cf bk3 2 rfl
   refine wp_region_noPanic ?_
   refine wp_region_held_drew (S := (fun W' => W'.cell? ⟨w.heap.size, 0, none⟩ = some (.slice pv nv cv) ∧ W'.cell? ⟨w.heap.size, 1, none⟩ = some (.slice pa na ca) ∧ W'.cell? ⟨w.heap.size, 2, none⟩ = some (vb))) (by kernel_rfl) ⟨Kc (Below.drew (Bs w3)) tc446, Kc (Below.drew (Bs w3)) tc448, Kc (Below.drew (Bs w3)) tc450⟩ (fun hHeld => ?_)
   obtain ⟨w4, hwd⟩ : ∃ X, X = World.drew w3 := ⟨_, rfl⟩
   rw [← hwd] at hHeld ⊢
   have hb : Below w3.heap.size w3 w4 := by rw [hwd]; exact Below.drew (Bs _)
   clear hwd
   replace hC := (hC).trans (Chg.of_below hb)
   replace hR := hR.below hb
   have hsz452 := hb.size
   replace tf447 := Kf hb (Lc tc446) tf447
   replace tf449 := Kf hb (Lc tc448) tf449
   replace tf451 := Kf hb (Lc tc450) tf451
   replace tc446 := Kc hb tc446
   replace tc448 := Kc hb tc448
   replace tc450 := Kc hb tc450
   replace bk3 := Bk.below bk3 hb
   replace bk4 := Bk.below bk4 hb
   replace bk440 := Bk.below bk440 hb
   clear hb
   replace lt6 := Bk.lz bk3
   replace lt7 := Bk.lz bk4
   replace lt442 := Bk.lz bk440
   refine (tq 0 90 rfl rfl ?_ ?_ (tq 1 91 rfl rfl ?_ ?_ (tq 2 92 rfl rfl ?_ ?_ (tq 3 93 rfl rfl ?_ ?_ (tq 4 94 rfl rfl ?_ ?_ ?_)))))
   iterate 5 (rotate_left; intro W' hSw; (try dsimp only at hSw); go_simp; try with_reducible rfl)
   try simp only [Act.put, sb, List.set]
   refine Rdy 5 rfl (fun K hK => ?_)
   go_simp
   obtain ⟨w5, hnw, hb⟩ := nmw (World.alloc w4 (.cells #[.int .i64 1, .int .i64 2, .int .i64 1] 3))
   replace hC := ((hC.trans (Chg.of_below (bal (Bs _) _)))).trans (Chg.of_below hb)
   replace hR := (hR.below (bal (Bs _) _)).below hb
   have ol453 := Ob (World.ownsRow_lit (base := (w4).heap.size) (e := 3) (size := 1) (w4) #[.int .i64 1, .int .i64 2, .int .i64 1] 3 (Nat.le_refl _) (by unfold maxLen; omega) (by simp)) hb
   try simp only [Sa, Ss] at ol453
   have hsz454 := hb.size
   simp only [Sa] at hsz454
   replace tf447 := Kf hb (Lc (Ac tc446 _)) (Fa (Lc tc446) tf447 _)
   replace tf449 := Kf hb (Lc (Ac tc448 _)) (Fa (Lc tc448) tf449 _)
   replace tf451 := Kf hb (Lc (Ac tc450 _)) (Fa (Lc tc450) tf451 _)
   replace tc446 := Kc hb (Ac tc446 _)
   replace tc448 := Kc hb (Ac tc448 _)
   replace tc450 := Kc hb (Ac tc450 _)
   replace bk3 := Bk.below (Bk.al bk3 _) hb
   replace bk4 := Bk.below (Bk.al bk4 _) hb
   replace bk440 := Bk.below (Bk.al bk440 _) hb
   have bk455 : Bk w5 (w4.heap.size) [.int .i64 1, .int .i64 2, .int .i64 1] := Bk.below (Bk.nw (by simp) rfl) hb
   clear hb
   have iv456 := ol453.lt
   try simp only [Sa] at iv456
   rw [← hnw]
   clear hnw
   replace lt6 := Bk.lz bk3
   replace lt7 := Bk.lz bk4
   replace lt442 := Bk.lz bk440
   have lt457 := Bk.lz bk455
   refine hK.out _ _ ⟨tc446, tc448, tc450⟩ (fun hHeld => ?_)
   clear hK K
   try simp only [Act.put, sb, List.set]
   refine Rdy 6 rfl (fun K hK => ?_)
   go_simp
   refine (num_any _ [1, 2, 1] _ B g (p + 1 + 1) hR (Ro ol453 (by simp)) (fun b o c hb => by simp at hb; omega) (by simp) (by simp) (by omega)).mono ?_
   rintro e w6 ⟨mb, mbm, rfl, hRn, hc⟩
   replace hC := (hC).trans hc
   replace hR := hRn; clear hRn
   have hsz458 := hc.size
   replace tf447 := Gf hc (Lc tc446) tf447 (fun h => by have := ird _ h; omega)
   replace tf449 := Gf hc (Lc tc448) tf449 (fun h => by have := ird _ h; omega)
   replace tf451 := Gf hc (Lc tc450) tf451 (fun h => by have := ird _ h; omega)
   replace tc446 := Gc hc tc446 (fun h => by have := ird _ h; omega)
   replace tc448 := Gc hc tc448 (fun h => by have := ird _ h; omega)
   replace tc450 := Gc hc tc450 (fun h => by have := ird _ h; omega)
   replace ol453 := Ow ol453 hc (fun gq h h2 => by have := iv456 gq h; have := ird gq h2; omega)
   replace bk3 := Bk.keep bk3 hc (fun h => by have := ird _ h; omega)
   replace bk4 := Bk.keep bk4 hc (fun h => by have := ird _ h; omega)
   replace bk440 := Bk.keep bk440 hc (fun h => by have := ird _ h; omega)
   replace bk455 := Bk.keep bk455 hc (fun h => by have := ird _ h; omega)
   clear hc
   obtain ⟨bb, rfl, hb4b⟩ : ∃ b : Nat, mb = b ∧ b ≤ 2 := by simp only [List.mem_cons, List.not_mem_nil, or_false] at mbm; exact ⟨mb.toNat, by omega, by omega⟩
   have hmlb : bb * scost d ≤ 2 * scost d := Nat.mul_le_mul_right _ hb4b
   have hpzb := HPS.out
   replace lt6 := Bk.lz bk3
   replace lt7 := Bk.lz bk4
   replace lt442 := Bk.lz bk440
   replace lt457 := Bk.lz bk455
   refine hK.out _ _ ⟨tc446, tc448, tc450⟩ (fun hHeld => ?_)
   clear hK K
   try simp only [Act.put, sb, List.set]
   refine Rdy 7 rfl (fun K hK => ?_)
   go_simp
   rw [HWD.out]
   refine (HBK.out bb (p + 1 + 1 + 1) _ hb4b hR (by have := HPS.out; omega)).mono ?_
   rintro e w7 ⟨ab, cb, Lb, pb, rfl, hBb, hlb, hsb, hRn, hqb, hc⟩
   replace hC := (hC).trans hc
   replace hR := hRn; clear hRn
   have hsz459 := hc.size
   replace tf447 := Gf hc (Lc tc446) tf447 (fun h => by have := ird _ h; omega)
   replace tf449 := Gf hc (Lc tc448) tf449 (fun h => by have := ird _ h; omega)
   replace tf451 := Gf hc (Lc tc450) tf451 (fun h => by have := ird _ h; omega)
   replace tc446 := Gc hc tc446 (fun h => by have := ird _ h; omega)
   replace tc448 := Gc hc tc448 (fun h => by have := ird _ h; omega)
   replace tc450 := Gc hc tc450 (fun h => by have := ird _ h; omega)
   replace ol453 := Ow ol453 hc (fun gq h h2 => by have := iv456 gq h; have := ird gq h2; omega)
   replace bk3 := Bk.keep bk3 hc (fun h => by have := ird _ h; omega)
   replace bk4 := Bk.keep bk4 hc (fun h => by have := ird _ h; omega)
   replace bk440 := Bk.keep bk440 hc (fun h => by have := ird _ h; omega)
   replace bk455 := Bk.keep bk455 hc (fun h => by have := ird _ h; omega)
   clear hc
   have hsb2 := Lib.hid hsb; have hlb2 : Lb.length ≤ 2 := by omega
   clear hlb hsb
   replace hBb := BlAt.keep2 (S := fun _ => False) (Chg.refl _ _) (fun _ _ _ => id) (fun q (hq : w6.heap.size ≤ q) hlt => (show w6.heap.size ≤ q ∧ q < w7.heap.size from ⟨hq, hlt⟩)) (Nat.le_refl _) hBb
   replace lt6 := Bk.lz bk3
   replace lt7 := Bk.lz bk4
   replace lt442 := Bk.lz bk440
   replace lt457 := Bk.lz bk455
   refine hK.out _ _ ⟨tc446, tc448, tc450⟩ (fun hHeld => ?_)
   clear hK K
   try simp only [Act.put, sb, List.set]
   refine (tq 8 98 rfl rfl ?_ ?_ ?_)
   (rotate_left; intro W' hSw; (try dsimp only at hSw); go_simp; try with_reducible rfl)
   try simp only [Act.put, sb, List.set]
   refine Rdy 9 rfl (fun K hK => ?_)
   obtain ⟨tc460, tf461⟩ := Bk.cf bk440 9 rfl
   go_simp
   obtain ⟨w8, hnw, hb⟩ := nmw (World.setCell w7 ⟨w1.heap.size, 9, none⟩ (.slice ab Lb.length cb))
   replace hC := ((hC.setNew _ _ _ (Or.inr (by omega)))).trans (Chg.of_below hb)
   replace hR := (hR.keep (C1 _ _ _) (by omega) (fun _ _ => by omega)).below hb
   replace hBb := ((BlAt.keep2 (C1 _ _ _) (fun q (hq : w6.heap.size ≤ q ∧ q < w7.heap.size) _ (h : q = (w1.heap.size)) => by omega) (fun _ h _ => h) (Nat.le_refl _) hBb).below hb)
   have hsz462 := hb.size
   simp only [Ss] at hsz462
   clear tf461 tc460
   replace tf447 := Kf hb (Lc (Nc tc446 (by omega) _)) (Fs tf447 _)
   replace tf449 := Kf hb (Lc (Nc tc448 (by omega) _)) (Fs tf449 _)
   replace tf451 := Kf hb (Lc (Nc tc450 (by omega) _)) (Fs tf451 _)
   replace tc446 := Kc hb (Nc tc446 (by omega) _)
   replace tc448 := Kc hb (Nc tc448 (by omega) _)
   replace tc450 := Kc hb (Nc tc450 (by omega) _)
   replace ol453 := Ob (Oe ol453 _ _ (fun h => by have := iv456 _ h; omega) _) hb
   replace bk3 := Bk.below (Bk.ne bk3 (by omega) _) hb
   replace bk4 := Bk.below (Bk.ne bk4 (by omega) _) hb
   replace bk440 : Bk w8 (w1.heap.size) [.int .i64 4, .int .i64 0, .int .i64 0, .int .i64 0, .slice none 0 0, .int .i64 0, .int .i64 0, .slice none 0 0, .int .i64 ct, .slice ab Lb.length cb, .slice none 0 0] := Bk.below (Bk.at bk440 9 (.slice ab Lb.length cb)) hb
   replace bk455 := Bk.below (Bk.ne bk455 (by omega) _) hb
   clear hb
   rw [← hnw]
   clear hnw
   replace lt6 := Bk.lz bk3
   replace lt7 := Bk.lz bk4
   replace lt442 := Bk.lz bk440
   replace lt457 := Bk.lz bk455
   refine hK.out _ _ ⟨tc446, tc448, tc450⟩ (fun hHeld => ?_)
   clear hK K
   try simp only [Act.put, sb, List.set]
   refine wpAnyH_done (by kernel_rfl) ?_ _
   refine NoPanic.normal ?_
   clear hHeld
   obtain ⟨tc463, tf464⟩ := Bk.cf bk440 9 rfl
   go_upto_region 18 with (fail)
   clear bk3 tc446 tf447 tc448 tf449 tc450 tf451 bk455
   clear lt6 lt457
   replace lt7 := Bk.lz bk4
   replace lt442 := Bk.lz bk440
   obtain ⟨tc465, tf466⟩ := Bk.cf bk4 0 rfl
   obtain ⟨tc467, tf468⟩ := Bk.cf bk4 1 rfl
   obtain ⟨tc469, tf470⟩ := Bk.cf bk4 2 rfl
   obtain ⟨tc471, tf472⟩ := Bk.cf bk4 3 rfl
   obtain ⟨tc473, tf474⟩ := Bk.cf bk4 4 rfl
   obtain ⟨tc475, tf476⟩ := Bk.cf bk4 5 rfl
   obtain ⟨tc477, tf478⟩ := Bk.cf bk4 6 rfl
   obtain ⟨tc479, tf480⟩ := Bk.cf bk4 7 rfl
   obtain ⟨tc481, tf482⟩ := Bk.cf bk4 8 rfl
   obtain ⟨tc483, tf484⟩ := Bk.cf bk4 9 rfl
   obtain ⟨tc485, tf486⟩ := Bk.cf bk4 10 rfl
   obtain ⟨tc487, tf488⟩ := Bk.cf bk440 0 rfl
   obtain ⟨tc489, tf490⟩ := Bk.cf bk440 1 rfl
   obtain ⟨tc491, tf492⟩ := Bk.cf bk440 2 rfl
   obtain ⟨tc493, tf494⟩ := Bk.cf bk440 3 rfl
   obtain ⟨tc495, tf496⟩ := Bk.cf bk440 4 rfl
   obtain ⟨tc497, tf498⟩ := Bk.cf bk440 5 rfl
   obtain ⟨tc499, tf500⟩ := Bk.cf bk440 6 rfl
   obtain ⟨tc501, tf502⟩ := Bk.cf bk440 7 rfl
   obtain ⟨tc503, tf504⟩ := Bk.cf bk440 8 rfl
   obtain ⟨tc505, tf506⟩ := Bk.cf bk440 10 rfl
   have HCF := ((((((((((((Chg.refl (fun q => q = w.heap.size + 1) w8).setCell (w.heap.size + 1) 0 (.int .i64 4) (fun _ => rfl)).setCell (w.heap.size + 1) 1 (.int .i64 0) (fun _ => rfl)).setCell (w.heap.size + 1) 2 (.int .i64 0) (fun _ => rfl)).setCell (w.heap.size + 1) 3 (.int .i64 0) (fun _ => rfl)).setCell (w.heap.size + 1) 4 (.slice none 0 0) (fun _ => rfl)).setCell (w.heap.size + 1) 5 (.int .i64 0) (fun _ => rfl)).setCell (w.heap.size + 1) 6 (.int .i64 0) (fun _ => rfl)).setCell (w.heap.size + 1) 7 (.slice none 0 0) (fun _ => rfl)).setCell (w.heap.size + 1) 8 (.int .i64 ct) (fun _ => rfl)).setCell (w.heap.size + 1) 9 (.slice ab Lb.length cb) (fun _ => rfl)).setCell (w.heap.size + 1) 10 (.slice none 0 0) (fun _ => rfl))
   have hBf := (Bk.at (Bk.at (Bk.at (Bk.at (Bk.at (Bk.at (Bk.at (Bk.at (Bk.at (Bk.at (Bk.at bk4 0 (.int .i64 4)) 1 (.int .i64 0)) 2 (.int .i64 0)) 3 (.int .i64 0)) 4 (.slice none 0 0)) 5 (.int .i64 0)) 6 (.int .i64 0)) 7 (.slice none 0 0)) 8 (.int .i64 ct)) 9 (.slice ab Lb.length cb)) 10 (.slice none 0 0))
   have xr0 := Bk.cell hBf 0 (v := .int .i64 4) rfl
   have xr1 := Bk.cell hBf 1 (v := .int .i64 0) rfl
   have xr2 := Bk.cell hBf 2 (v := .int .i64 0) rfl
   have xr3 := Bk.cell hBf 3 (v := .int .i64 0) rfl
   have xr4 := Bk.cell hBf 4 (v := .slice none 0 0) rfl
   have xr5 := Bk.cell hBf 5 (v := .int .i64 0) rfl
   have xr6 := Bk.cell hBf 6 (v := .int .i64 0) rfl
   have xr7 := Bk.cell hBf 7 (v := .slice none 0 0) rfl
   have xr8 := Bk.cell hBf 8 (v := .int .i64 ct) rfl
   have xr9 := Bk.cell hBf 9 (v := .slice ab Lb.length cb) rfl
   have xr10 := Bk.cell hBf 10 (v := .slice none 0 0) rfl
   have HCH := Lib.hid HCF; clear HCF hBf
   have HCR := Lib.hid (And.intro hC hR); clear hC hR
   have HhBb := Lib.hid hBb; clear hBb
   go_wp2
   exact bodyPost_ret (v := .agg #[.int .i64 4, .int .i64 0, .int .i64 0, .int .i64 0, .slice none 0 0, .int .i64 0, .int .i64 0, .slice none 0 0, .int .i64 ct, .slice ab Lb.length cb, .slice none 0 0]) (by simp [results, Try.results164, go_sem, xr0, xr1, xr2, xr3, xr4, xr5, xr6, xr7, xr8, xr9, xr10]) rfl (by exact ⟨⟨4, 0, ⟨0, 0, none, 0, 0⟩, ⟨0, 0, none, 0, 0⟩, ct, ab, Lb.length, cb, none, 0, 0⟩, .mk 4 0 (.mk 0 0 []) (.mk 0 0 []) ct Lb [], _, rfl, ⟨rfl, rfl, rfl, ⟨_, ExAt.leaf (d := 0) 0 0⟩, ⟨_, ExAt.leaf (d := 0) 0 0⟩, BlAt.keep2 HCH.out (fun q (hq : w6.heap.size ≤ q ∧ q < w7.heap.size) _ (h : q = w.heap.size + 1) => by omega) (fun q (hq : w6.heap.size ≤ q ∧ q < w7.heap.size) _ => by show w.heap.size ≤ q; omega) (Nat.le_refl _) HhBb.out, RowOf.nil⟩, ⟨thin_leaf 0 0, thin_leaf 0 0, hlb2, by simp, hsb2.out, (fun x hx => by cases hx)⟩, HCR.out.2.keep HCH.out (fun h => by omega) (fun k hk h => by omega), by have := HSC.out; omega, chg_app HCR.out.1 HCH.out (fun q hq h => by omega)⟩)
 ·skip
  have hna0 : True := trivial
  obtain ⟨tc507, tf508⟩ := Bk.cf bk3 0 rfl
  go_wp2_with fail
  refine (pick_any _ _ B g (p + 1) (hR.below (bal (Bs _) (.cells #[.int .i64 5, .int .i64 0, .int .i64 0, .int .i64 0, .slice none 0 0, .int .i64 0, .int .i64 0, .slice none 0 0, .int .i64 0, .slice none 0 0, .slice none 0 0] 163))) (by omega) (by omega) (by omega)).mono ?_
  rintro e w2 ⟨tg, tg0, tg1, rfl, hRn, hc⟩
  replace hC := ((hC.trans (Chg.of_below (bal (Bs _) _)))).trans hc
  replace hR := hRn; clear hRn
  have hsz509 := hc.size
  simp only [Sa] at hsz509
  clear tf508 tc507
  replace bk3 := Bk.keep (Bk.al bk3 _) hc (fun h => by have := ird _ h; omega)
  replace bk4 := Bk.keep (Bk.al bk4 _) hc (fun h => by have := ird _ h; omega)
  have bk510 : Bk w2 (w1.heap.size) [.int .i64 5, .int .i64 0, .int .i64 0, .int .i64 0, .slice none 0 0, .int .i64 0, .int .i64 0, .slice none 0 0, .int .i64 0, .slice none 0 0, .slice none 0 0] := Bk.keep (Bk.nw (by simp) rfl) hc (fun h => by have := ird _ h; omega)
  clear hc
  replace lt6 := Bk.lz bk3
  replace lt7 := Bk.lz bk4
  have lt511 := Bk.lz bk510
  obtain ⟨tc512, tf513⟩ := Bk.cf bk3 0 rfl
  obtain ⟨tc514, tf515⟩ := Bk.cf bk3 1 rfl
  obtain ⟨tc516, tf517⟩ := Bk.cf bk3 2 rfl
  obtain ⟨tc518, tf519⟩ := Bk.cf bk510 1 rfl
  go_wp2_with fail
  refine (l2Small_any pv pa nv cv na ca vb B g (p + 1 + 1) _ (hR.keep (C1 (w1.heap.size) (1) (.int .i64 tg)) (by omega) (fun _ _ => by omega)) (by omega) hnv hnb).mono ?_
  rintro e w3 ⟨n1, e1, p1, rfl, hE1, hT1, hRn, hq1, hc⟩
  replace hC := ((hC.setNew _ _ _ (Or.inr (by omega)))).trans hc
  replace hR := hRn; clear hRn
  have hsz520 := hc.size
  simp only [Ss] at hsz520
  clear tf513 tc512 tf515 tc514 tf517 tc516 tf519 tc518
  replace bk3 := Bk.keep (Bk.ne bk3 (by omega) _) hc (fun h => by have := ird _ h; omega)
  replace bk4 := Bk.keep (Bk.ne bk4 (by omega) _) hc (fun h => by have := ird _ h; omega)
  replace bk510 : Bk w3 (w1.heap.size) [.int .i64 5, .int .i64 tg, .int .i64 0, .int .i64 0, .slice none 0 0, .int .i64 0, .int .i64 0, .slice none 0 0, .int .i64 0, .slice none 0 0, .slice none 0 0] := Bk.keep (Bk.at bk510 1 (.int .i64 tg)) hc (fun h => by have := ird _ h; omega)
  clear hc
  clear bk3
  try simp only [Sa, Ss] at hE1
  replace hE1 := ExAt.keep (S := fun _ => False) (Chg.refl _ _) (fun _ _ _ => id) (fun q (hq : w2.heap.size ≤ q) hlt => (show w2.heap.size ≤ q ∧ q < w3.heap.size from ⟨hq, hlt⟩)) (Nat.le_refl _) hE1
  clear lt6
  replace lt7 := Bk.lz bk4
  replace lt511 := Bk.lz bk510
  obtain ⟨tc521, tf522⟩ := Bk.cf bk510 5 rfl
  obtain ⟨tc523, tf524⟩ := Bk.cf bk510 6 rfl
  obtain ⟨tc525, tf526⟩ := Bk.cf bk510 7 rfl
  go_upto_region 18 with (fail)
  obtain ⟨w4, hnw, hb⟩ := nmw (World.setCell (World.setCell (World.setCell w3 ⟨w1.heap.size, 5, none⟩ (.int .i64 n1.k)) ⟨w1.heap.size, 6, none⟩ (.int .i64 n1.v)) ⟨w1.heap.size, 7, none⟩ (.slice n1.p n1.n n1.c))
  replace hC := ((((hC.setNew _ _ _ (Or.inr (by omega))).setNew _ _ _ (Or.inr (by omega))).setNew _ _ _ (Or.inr (by omega)))).trans (Chg.of_below hb)
  replace hR := (((hR.keep (C1 _ _ _) (by omega) (fun _ _ => by omega)).keep (C1 _ _ _) (by omega) (fun _ _ => by omega)).keep (C1 _ _ _) (by omega) (fun _ _ => by omega)).below hb
  replace hE1 := ((ExAt.kI (C1 _ _ _) (fun q _ _ h => by omega) (ExAt.kI (C1 _ _ _) (fun q _ _ h => by omega) (ExAt.kI (C1 _ _ _) (fun q _ _ h => by omega) hE1))).below hb)
  have hsz527 := hb.size
  simp only [Ss] at hsz527
  clear tf522 tc521 tf524 tc523 tf526 tc525
  replace bk4 := Bk.below (Bk.ne (Bk.ne (Bk.ne bk4 (by omega) _) (by omega) _) (by omega) _) hb
  replace bk510 : Bk w4 (w1.heap.size) [.int .i64 5, .int .i64 tg, .int .i64 0, .int .i64 0, .slice none 0 0, .int .i64 n1.k, .int .i64 n1.v, .slice n1.p n1.n n1.c, .int .i64 0, .slice none 0 0, .slice none 0 0] := Bk.below (Bk.at (Bk.at (Bk.at bk510 5 (.int .i64 n1.k)) 6 (.int .i64 n1.v)) 7 (.slice n1.p n1.n n1.c)) hb
  clear hb
  rw [← hnw]
  clear hnw
  replace lt7 := Bk.lz bk4
  replace lt511 := Bk.lz bk510
  obtain ⟨tc528, tf529⟩ := Bk.cf bk4 0 rfl
  obtain ⟨tc530, tf531⟩ := Bk.cf bk4 1 rfl
  obtain ⟨tc532, tf533⟩ := Bk.cf bk4 2 rfl
  obtain ⟨tc534, tf535⟩ := Bk.cf bk4 3 rfl
  obtain ⟨tc536, tf537⟩ := Bk.cf bk4 4 rfl
  obtain ⟨tc538, tf539⟩ := Bk.cf bk4 5 rfl
  obtain ⟨tc540, tf541⟩ := Bk.cf bk4 6 rfl
  obtain ⟨tc542, tf543⟩ := Bk.cf bk4 7 rfl
  obtain ⟨tc544, tf545⟩ := Bk.cf bk4 8 rfl
  obtain ⟨tc546, tf547⟩ := Bk.cf bk4 9 rfl
  obtain ⟨tc548, tf549⟩ := Bk.cf bk4 10 rfl
  obtain ⟨tc550, tf551⟩ := Bk.cf bk510 0 rfl
  obtain ⟨tc552, tf553⟩ := Bk.cf bk510 1 rfl
  obtain ⟨tc554, tf555⟩ := Bk.cf bk510 2 rfl
  obtain ⟨tc556, tf557⟩ := Bk.cf bk510 3 rfl
  obtain ⟨tc558, tf559⟩ := Bk.cf bk510 4 rfl
  obtain ⟨tc560, tf561⟩ := Bk.cf bk510 5 rfl
  obtain ⟨tc562, tf563⟩ := Bk.cf bk510 6 rfl
  obtain ⟨tc564, tf565⟩ := Bk.cf bk510 7 rfl
  obtain ⟨tc566, tf567⟩ := Bk.cf bk510 8 rfl
  obtain ⟨tc568, tf569⟩ := Bk.cf bk510 9 rfl
  obtain ⟨tc570, tf571⟩ := Bk.cf bk510 10 rfl
  have HCF := ((((((((((((Chg.refl (fun q => q = w.heap.size + 1) w4).setCell (w.heap.size + 1) 0 (.int .i64 5) (fun _ => rfl)).setCell (w.heap.size + 1) 1 (.int .i64 tg) (fun _ => rfl)).setCell (w.heap.size + 1) 2 (.int .i64 0) (fun _ => rfl)).setCell (w.heap.size + 1) 3 (.int .i64 0) (fun _ => rfl)).setCell (w.heap.size + 1) 4 (.slice none 0 0) (fun _ => rfl)).setCell (w.heap.size + 1) 5 (.int .i64 n1.k) (fun _ => rfl)).setCell (w.heap.size + 1) 6 (.int .i64 n1.v) (fun _ => rfl)).setCell (w.heap.size + 1) 7 (.slice n1.p n1.n n1.c) (fun _ => rfl)).setCell (w.heap.size + 1) 8 (.int .i64 0) (fun _ => rfl)).setCell (w.heap.size + 1) 9 (.slice none 0 0) (fun _ => rfl)).setCell (w.heap.size + 1) 10 (.slice none 0 0) (fun _ => rfl))
  have hBf := (Bk.at (Bk.at (Bk.at (Bk.at (Bk.at (Bk.at (Bk.at (Bk.at (Bk.at (Bk.at (Bk.at bk4 0 (.int .i64 5)) 1 (.int .i64 tg)) 2 (.int .i64 0)) 3 (.int .i64 0)) 4 (.slice none 0 0)) 5 (.int .i64 n1.k)) 6 (.int .i64 n1.v)) 7 (.slice n1.p n1.n n1.c)) 8 (.int .i64 0)) 9 (.slice none 0 0)) 10 (.slice none 0 0))
  have xr0 := Bk.cell hBf 0 (v := .int .i64 5) rfl
  have xr1 := Bk.cell hBf 1 (v := .int .i64 tg) rfl
  have xr2 := Bk.cell hBf 2 (v := .int .i64 0) rfl
  have xr3 := Bk.cell hBf 3 (v := .int .i64 0) rfl
  have xr4 := Bk.cell hBf 4 (v := .slice none 0 0) rfl
  have xr5 := Bk.cell hBf 5 (v := .int .i64 n1.k) rfl
  have xr6 := Bk.cell hBf 6 (v := .int .i64 n1.v) rfl
  have xr7 := Bk.cell hBf 7 (v := .slice n1.p n1.n n1.c) rfl
  have xr8 := Bk.cell hBf 8 (v := .int .i64 0) rfl
  have xr9 := Bk.cell hBf 9 (v := .slice none 0 0) rfl
  have xr10 := Bk.cell hBf 10 (v := .slice none 0 0) rfl
  have HCH := Lib.hid HCF; clear HCF hBf
  have HCR := Lib.hid (And.intro hC hR); clear hC hR
  have HhE1 := Lib.hid hE1; clear hE1
  go_wp2
  exact bodyPost_ret (v := .agg #[.int .i64 5, .int .i64 tg, .int .i64 0, .int .i64 0, .slice none 0 0, .int .i64 n1.k, .int .i64 n1.v, .slice n1.p n1.n n1.c, .int .i64 0, .slice none 0 0, .slice none 0 0]) (by simp [results, Try.results164, go_sem, xr0, xr1, xr2, xr3, xr4, xr5, xr6, xr7, xr8, xr9, xr10]) rfl (by exact ⟨⟨5, tg, ⟨0, 0, none, 0, 0⟩, n1, 0, none, 0, 0, none, 0, 0⟩, .mk 5 tg (.mk 0 0 []) e1 0 [] [], _, rfl, ⟨rfl, rfl, rfl, ⟨_, ExAt.leaf (d := 0) 0 0⟩, ⟨_, ExAt.keep HCH.out (fun q (hq : w2.heap.size ≤ q ∧ q < w3.heap.size) _ (h : q = w.heap.size + 1) => by omega) (fun q (hq : w2.heap.size ≤ q ∧ q < w3.heap.size) _ => by show w.heap.size ≤ q; omega) (Nat.le_refl _) HhE1.out⟩, RowOf.nil, RowOf.nil⟩, ⟨thin_leaf 0 0, hT1, by simp, by simp, (fun x hx => by cases hx), (fun x hx => by cases hx)⟩, HCR.out.2.keep HCH.out (fun h => by omega) (fun k hk h => by omega), by have := HSC.out; omega, chg_app HCR.out.1 HCH.out (fun q hq h => by omega)⟩)
end Go.Proofs.Ytkjedgnepnbkpaa
