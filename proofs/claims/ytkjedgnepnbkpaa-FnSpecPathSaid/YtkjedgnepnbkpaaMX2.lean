/-
 Parts of the proof of the law FnSpecPath.
-/
import Derived.Test.YtkjedgnepnbkpaaMT
import Derived.Test.YtkjedgnepnbkpaaVP
import Derived.Test.YtkjedgnepnbkpaaZ
set_option linter.all false
namespace Go.Proofs.Ytkjedgnepnbkpaa
open Go.RowKit

set_option maxHeartbeats 25600000 in
set_option maxRecDepth 100000 in
theorem exec_6_13 (tb base : Nat) (va vb vc vr vv vA u : Value) (us : List Value) (c : Cd) (s : Ms) (E : List Ev) (w : World) (hr : ReadsC w va vb vc c) (hO : OwnMv w base vr vv vA us s.regs s.mem) (hE : w.ownsRow tb 47 2 u E.length (evs E)) (hd : ∀ q, u.ownBlock = some q → ¬ OwnMB vr vv vA us q) (htb : tb ≤ w.heap.size) (hEl : E.length ≤ 1048576) (hM : MsOk c s) (hok : codeOk c = true) (hlo : 6 ≤ (insAt c s.pc).op ∧ (insAt c s.pc).op ≤ 13) :
  Calls Try.prog 75 #[.agg #[va, vb, vc], .agg #[.int .i64 s.pc, vr, vv, vA], u] w fun e w' => ∃ u', e = .returned (.tuple #[.agg #[.int .i64 (stPc (insAt c s.pc) s), vr, vv, vA], u']) ∧ OwnMv w' base vr vv vA us (stRegs (insAt c s.pc) s) (stMem (insAt c s.pc) s) ∧ w'.ownsRow tb 47 2 u' (E ++ stEvs (insAt c s.pc) s).length (evs (E ++ stEvs (insAt c s.pc) s)) ∧ (∀ q, u'.ownBlock = some q → ¬ OwnMB vr vv vA us q ∧ (u.ownBlock = some q ∨ w.heap.size ≤ q)) ∧ Chg (fun q => OwnMB vr vv vA us q ∨ u.ownBlock = some q) w w' := by
 obtain ⟨a0, c0, a1, c1, a2, c2, rfl, rfl, rfl⟩ := hr.shape
 obtain ⟨pc, rs, vals, arrs⟩ := s
 obtain ⟨pc0, pc1, hrl, hrv, hmo⟩ := hM
 simp only at pc0 pc1 hrl hrv hmo
 obtain ⟨k, rfl⟩ : ∃ k : Nat, pc = k := ⟨pc.toNat, by omega⟩
 have hk : k < c.list.length := by omega
 obtain ⟨l1, l2⟩ := codeOk_len hok
 obtain ⟨l3, l4⟩ := declOk_len (codeOk_decl hok)
 have hins := codeOk_all hok k hk
 have hat : insAt c (k : Int) = c.list[k] := by unfold insAt; rw [Int.toNat_natCast, List.getElem?_eq_getElem hk]; rfl
 simp only at hlo ⊢
 rw [hat] at hlo ⊢
 clear hat
 obtain ⟨m1, m2, m3, m4⟩ := memOk_parts hmo
 simp only at m1 m2 m3 m4
 have own := hO
 clear hO
 obtain ⟨g, cr, rfl⟩ := own_pos own.r (by simp only; omega)
 obtain ⟨pv, cv, rfl⟩ := Oh own.v
 obtain ⟨pA, cA, rfl⟩ := Oh own.a.out
 simp only at own hd
 have HRG := Lib.hid (fun i => gi_range hrv i)
 have HM1 := Lib.hid m1; have HM2 := Lib.hid m2; have HM4 := Lib.hid m4
 have hrr := hr.l
 obtain ⟨_, hn, aa, cap, b', off, hv, hcap, ha, hca⟩ := hrr
 simp only [Value.slice.injEq, true_and] at hv
 obtain ⟨rfl, rfl⟩ := hv
 obtain ⟨rfl, hbs⟩ := ha (by omega)
 obtain ⟨e0, e1, e2, e3, e4⟩ := reads_Instr hca k hk
 have hq : (k : Int) < (c.list.length : Int) := by omega
 have hrs1 : 14 ≤ rs.length := by omega
 have hrs2 : rs.length ≤ 14 := by omega
 have hv1 : c.vars.length ≤ vals.length := by omega
 have hv2 : vals.length ≤ 12 := by omega
 have ha1 : c.arrays.length ≤ arrs.length := by omega
 have ha2 : arrs.length ≤ 2 := by omega
 generalize c.list[k] = x at *
 have HIN := Lib.hid hins
 generalize hT : stp x ⟨(k : Int), rs, ⟨vals, arrs⟩⟩ = T
 have hTp : stPc x ⟨(k : Int), rs, ⟨vals, arrs⟩⟩ = T.pc := by rw [← hT]; rfl
 have hTr : stRegs x ⟨(k : Int), rs, ⟨vals, arrs⟩⟩ = T.regs := by rw [← hT]; rfl
 have hTm : stMem x ⟨(k : Int), rs, ⟨vals, arrs⟩⟩ = T.mem := by rw [← hT]; rfl
 rw [hTp, hTr, hTm]
 generalize hE2 : stEvs x ⟨(k : Int), rs, ⟨vals, arrs⟩⟩ = EE
 have HT := Lib.hid hT; have HE := Lib.hid hE2
 have iE := hE.lt
 clear hT hTp hTr hTm hE2 hins hmo hrl hrv m1 m2 m3 m4 hca ha hr hcap hn
 obtain ⟨w1, hw1⟩ : ∃ X, X = ((w.alloc (.cells #[.slice a0 c.vars.length c0, .slice a1 c.arrays.length c1, .slice (some ⟨b', off, none⟩) c.list.length c2] 26)).alloc (.cells #[.int .i64 k, (.slice (some ⟨g, 0, none⟩) rs.length cr), (.slice pv vals.length cv), (.slice pA arrs.length cA)] 39)).alloc (.cells #[.int .i64 0, .slice none 0 0, .slice none 0 0, .slice none 0 0] 39) := ⟨_, rfl⟩
 have hb1 : Below w.heap.size w w1 := by rw [hw1]; exact bal (bal (bal (Bs w) _) _) _
 have hz1 : w1.heap.size = w.heap.size + 1 + 1 + 1 := by rw [hw1]; simp
 have r2 : w1.cell? ⟨w.heap.size, 2, none⟩ = some (.slice (some ⟨b', off, none⟩) c.list.length c2) := by rw [hw1]; exact Ac (Ac (Wc rfl rfl) _) _
 have C0 : w1.cell? ⟨w.heap.size + 1, 0, none⟩ = some (.int .i64 k) := by rw [hw1]; exact Ac (Wc (by simp) rfl) _
 have C1 : w1.cell? ⟨w.heap.size + 1, 1, none⟩ = some ((.slice (some ⟨g, 0, none⟩) rs.length cr)) := by rw [hw1]; exact Ac (Wc (by simp) rfl) _
 have C2 : w1.cell? ⟨w.heap.size + 1, 2, none⟩ = some ((.slice pv vals.length cv)) := by rw [hw1]; exact Ac (Wc (by simp) rfl) _
 have C3 : w1.cell? ⟨w.heap.size + 1, 3, none⟩ = some ((.slice pA arrs.length cA)) := by rw [hw1]; exact Ac (Wc (by simp) rfl) _
 have Z0 : w1.cell? ⟨w.heap.size + 1 + 1, 0, none⟩ = some (.int .i64 0) := by rw [hw1]; exact Wc (by simp) rfl
 have Y0 : w1.frozen? ⟨w.heap.size + 1 + 1, 0, none⟩ = false := by rw [hw1]; exact Fn (by simp)
 have Z1 : w1.cell? ⟨w.heap.size + 1 + 1, 1, none⟩ = some (.slice none 0 0) := by rw [hw1]; exact Wc (by simp) rfl
 have Y1 : w1.frozen? ⟨w.heap.size + 1 + 1, 1, none⟩ = false := by rw [hw1]; exact Fn (by simp)
 have Z2 : w1.cell? ⟨w.heap.size + 1 + 1, 2, none⟩ = some (.slice none 0 0) := by rw [hw1]; exact Wc (by simp) rfl
 have Y2 : w1.frozen? ⟨w.heap.size + 1 + 1, 2, none⟩ = false := by rw [hw1]; exact Fn (by simp)
 have Z3 : w1.cell? ⟨w.heap.size + 1 + 1, 3, none⟩ = some (.slice none 0 0) := by rw [hw1]; exact Wc (by simp) rfl
 have Y3 : w1.frozen? ⟨w.heap.size + 1 + 1, 3, none⟩ = false := by rw [hw1]; exact Fn (by simp)
 have F0 : w1.frozen? ⟨w.heap.size + 1, 0, none⟩ = false := by rw [hw1]; exact Fa (by simp) (Fn (by simp)) _
 have HW := Lib.hid hw1
 have HZ1 := Lib.hid hz1
 have hz1' : w.heap.size + 3 ≤ w1.heap.size := by omega
 clear hw1 hz1
 replace e0 := Kc hb1 e0
 replace e1 := Kc hb1 e1
 replace e2 := Kc hb1 e2
 replace e3 := Kc hb1 e3
 replace e4 := Kc hb1 e4
 have ilt := own.lt
 replace own := own.below hb1
 replace hE := Ob hE hb1
 have k0 := Lc r2
 have k1 := Lc e0
 have k2 := Lc C0
 go_enter Try.func75, Try.ntmps75
 go_upto_region 1 with (fail)
 rw [← HW.out]
 clear HW
 go_upto_region 3 with (fail)
 obtain ⟨op, a, i2, i3, d⟩ := x
 simp only at e0 e1 e2 e3 e4 hlo ⊢
 obtain ⟨w2, hw2⟩ : ∃ X, X = (w1.alloc (.cells #[.int .i64 op, .int .i64 a, .int .i64 i2, .int .i64 i3, .int .i64 d] 32)) := ⟨_, rfl⟩
 rw [← hw2]
 have hb2 : Below w1.heap.size w1 w2 := by rw [hw2]; exact bal (Bs w1) _
 have hz2 : w1.heap.size + 1 ≤ w2.heap.size := by rw [hw2]; simp
 have d0 : w2.cell? ⟨w1.heap.size, 0, none⟩ = some (.int .i64 op) := by rw [hw2]; exact Wc rfl rfl
 have d1 : w2.cell? ⟨w1.heap.size, 1, none⟩ = some (.int .i64 a) := by rw [hw2]; exact Wc rfl rfl
 have d2 : w2.cell? ⟨w1.heap.size, 2, none⟩ = some (.int .i64 i2) := by rw [hw2]; exact Wc rfl rfl
 have d3 : w2.cell? ⟨w1.heap.size, 3, none⟩ = some (.int .i64 i3) := by rw [hw2]; exact Wc rfl rfl
 have d4 : w2.cell? ⟨w1.heap.size, 4, none⟩ = some (.int .i64 d) := by rw [hw2]; exact Wc rfl rfl
 clear hw2 e0 e1 e2 e3 e4
 replace C0 := Kc hb2 C0; have KZ0 := Lc Z0; replace Z0 := Kc hb2 Z0; replace Y0 := Kf hb2 KZ0 Y0
 replace C1 := Kc hb2 C1; have KZ1 := Lc Z1; replace Z1 := Kc hb2 Z1; replace Y1 := Kf hb2 KZ1 Y1
 replace C2 := Kc hb2 C2; have KZ2 := Lc Z2; replace Z2 := Kc hb2 Z2; replace Y2 := Kf hb2 KZ2 Y2
 replace C3 := Kc hb2 C3; have KZ3 := Lc Z3; replace Z3 := Kc hb2 Z3; replace Y3 := Kf hb2 KZ3 Y3
 replace F0 := Kf hb2 k2 F0
 replace own := own.below hb2
 replace hE := Ob hE hb2
 have hbw2 := btr hb1 hb2
 have H0 : StepW (fun q => OwnMB (.slice (some ⟨g, 0, none⟩) rs.length cr) (.slice pv vals.length cv) (.slice pA arrs.length cA) us q ∨ u.ownBlock = some q) w w2 base (w.heap.size + 1) (.slice (some ⟨g, 0, none⟩) rs.length cr) (.slice pv vals.length cv) (.slice pA arrs.length cA) us rs ⟨vals, arrs⟩ tb u E k :=
  ⟨C0, C1, C2, C3, F0, own, fun h => by have := ilt _ h; omega, hE, fun q e => ⟨by have := iE q e; omega, hd q e, Or.inl (Or.inr e)⟩, Or.inr (by omega), fun q h => Or.inl h, Chg.of_below hbw2⟩
 clear C1 C2 C3 F0 own hE hb2 hb1 hbw2 hbs r2
 have kq0 := Lc C0
 go_wp2_with (at_builtin; refine wpList_ap tEvs rfl _ _ rfl tb _ E.length _ rfl H0.ev [.int .i64 5, .int .i64 k] rfl rfl (one_ev _ _) (by omega) (by omega) ?_)
 clear C0 kq0
 intro g0 cc0 w5 oe hC7 hg7
 have H := H0.event (e := (5, (k : Int))) oe hC7 (fun q hq => by have e3 : g0 = q := Option.some.inj hq; subst e3; exact hg7)
 have HN := Lib.hid (fun q (h : w.heap.size ≤ q) (e : u.ownBlock = some q) => show False from by have := iE q e; omega)
 replace d0 := Gc hC7 d0 (HN.out _ (by omega))
 replace d1 := Gc hC7 d1 (HN.out _ (by omega))
 replace d2 := Gc hC7 d2 (HN.out _ (by omega))
 replace d3 := Gc hC7 d3 (HN.out _ (by omega))
 replace d4 := Gc hC7 d4 (HN.out _ (by omega))
 replace Y0 := Gf hC7 (by omega) Y0 (HN.out _ (by omega)); replace Z0 := Gc hC7 Z0 (HN.out _ (by omega))
 replace Y1 := Gf hC7 (by omega) Y1 (HN.out _ (by omega)); replace Z1 := Gc hC7 Z1 (HN.out _ (by omega))
 replace Y2 := Gf hC7 (by omega) Y2 (HN.out _ (by omega)); replace Z2 := Gc hC7 Z2 (HN.out _ (by omega))
 replace Y3 := Gf hC7 (by omega) Y3 (HN.out _ (by omega)); replace Z3 := Gc hC7 Z3 (HN.out _ (by omega))
 have hz7 := hC7.size
 have hlen : (E ++ [((5 : Int), (k : Int))]).length = E.length + 1 := by simp
 have HLEN := Lib.hid hlen
 have heb0 := H.eb
 have hg0n : ∀ q, w.heap.size ≤ q → q < w2.heap.size → ¬ g0 = q := fun q h1 h2 e => by
  rcases hg7 with h | h
  ·exact HN.out q h1 (e ▸ h)
  ·omega
 have HG0 := Lib.hid hg0n
 clear H0 hC7 oe hg7 hlen hg0n
 have kX := Lc d0
 obtain ⟨P1, P2, P3, P4, P5, P6, P7, P8, P9, P10, P11⟩ := ins_parts HIN.out
 have hop := insOk_op HIN.out
 simp only at hop
 have lX : ∀ q, OwnMB (.slice (some ⟨g, 0, none⟩) rs.length cr) (.slice pv vals.length cv) (.slice pA arrs.length cA) us q → q < w.heap.size := fun q h => (ilt q h).2
 have hgX := lX g (Or.inl rfl)
 have HPI := Lib.hid lX
 have HILT := Lib.hid ilt
 have hopc : op = 6 ∨ op = 7 ∨ op = 8 ∨ op = 9 ∨ op = 10 ∨ op = 11 ∨ op = 12 ∨ op = 13 := by omega
 clear hop hlo lX k0 k1 heb0 ilt hd
 rcases hopc with rfl | rfl | rfl | rfl | rfl | rfl | rfl | rfl
 ·-- next
  obtain ⟨⟨p1, p2⟩, ⟨p3, p4⟩, ⟨p5, p6⟩, p7, p8⟩ := P6 rfl
  clear P1 P2 P3 P4 P5 P6 P7 P8 P9 P10 P11
  obtain ⟨na, rfl⟩ : ∃ n : Nat, a = n := ⟨a.toNat, by omega⟩
  obtain ⟨nc, rfl⟩ : ∃ n : Nat, i3 = n := ⟨i3.toNat, by omega⟩
  obtain ⟨nd, rfl⟩ : ∃ n : Nat, d = n := ⟨d.toNat, by omega⟩
  have yR := H.own.regAt na (by omega); have fyR := H.own.r.frozenAt na; have kyR := Lc yR; have byR : (na : Int) < (rs.length : Int) := by omega
  have yC := H.own.regAt nc (by omega); have fyC := H.own.r.frozenAt nc; have kyC := Lc yC; have byC : (nc : Int) < (rs.length : Int) := by omega
  have yD := H.own.regAt nd (by omega); have fyD := H.own.r.frozenAt nd; have kyD := Lc yD; have byD : (nd : Int) < (rs.length : Int) := by omega
  have hrc := HRG.out (nc : Int); have hrd := HRG.out (nd : Int)
  have HTT : Hid (T = ⟨(k : Int) + 1, rs.set na (opr i2 (gi rs nc) (gi rs nd)), ⟨vals, arrs⟩⟩) := Lib.hid (by rw [← HT.out]; simp [stp, stPc, stRegs, stMem])
  have HEE : Hid (EE = [((5 : Int), (k : Int))]) := Lib.hid (by rw [← HE.out]; simp [stEvs])
  clear HT HE
  generalize gi rs nc = v1 at *; generalize gi rs nd = v2 at *
  go_upto_region 18 with (fail)
  refine wp_region_still_tail 17 (by kernel_rfl) (by kernel_rfl) ?_
  simp only [List.take_succ_cons, List.take_zero, List.drop_succ_cons, List.drop_zero]
  repeat still_step
  still_call (l3Bin_any i2 v1 v2 _ ⟨p3, p4⟩ hrc hrd)
  repeat still_step
  refine wpStill_nil ?_
  change wpList _ _ _ _ _ (World.drew w5)
  have HD := H.drew; clear H
  obtain ⟨wd, hwd⟩ : ∃ X, X = World.drew w5 := ⟨_, rfl⟩
  rw [← hwd] at HD ⊢
  have HB := (show Below w5.heap.size w5 wd from by rw [hwd]; exact Below.drew (Bs _))
  clear hwd
  have yQ := HD.own.regAt na (by omega)
  have fQ := HD.own.r.frozenAt na
  have kQ := Lc yQ
  have H2 := HD.reg na (opr i2 v1 v2)
  clear yR fyR yC fyC yD fyD hrc hrd
  generalize opr i2 v1 v2 = z at *
  replace Y0 := Kf HB (Lc Z0) Y0; replace Z0 := Kc HB Z0
  replace Y1 := Kf HB (Lc Z1) Y1; replace Z1 := Kc HB Z1
  replace Y2 := Kf HB (Lc Z2) Y2; replace Z2 := Kc HB Z2
  replace Y3 := Kf HB (Lc Z3) Y3; replace Z3 := Kc HB Z3
  replace d0 := Kc HB d0
  replace d1 := Kc HB d1
  replace d2 := Kc HB d2
  replace d3 := Kc HB d3
  replace d4 := Kc HB d4
  go_upto_region 28 with (fail)
  replace Y0 := Fs (b := ⟨g, na, none⟩) Y0 (.int .i64 z); replace Z0 := Nc (b := g) (j := na) Z0 (by omega) (.int .i64 z)
  replace Y1 := Fs (b := ⟨g, na, none⟩) Y1 (.int .i64 z); replace Z1 := Nc (b := g) (j := na) Z1 (by omega) (.int .i64 z)
  replace Y2 := Fs (b := ⟨g, na, none⟩) Y2 (.int .i64 z); replace Z2 := Nc (b := g) (j := na) Z2 (by omega) (.int .i64 z)
  replace Y3 := Fs (b := ⟨g, na, none⟩) Y3 (.int .i64 z); replace Z3 := Nc (b := g) (j := na) Z3 (by omega) (.int .i64 z)
  replace d0 := Nc (b := g) (j := na) d0 (by omega) (.int .i64 z)
  replace d1 := Nc (b := g) (j := na) d1 (by omega) (.int .i64 z)
  replace d2 := Nc (b := g) (j := na) d2 (by omega) (.int .i64 z)
  replace d3 := Nc (b := g) (j := na) d3 (by omega) (.int .i64 z)
  replace d4 := Nc (b := g) (j := na) d4 (by omega) (.int .i64 z)
  clear HD HB
  have HMO : Hid (mov ⟨6, (na : Int), i2, (nc : Int), (nd : Int)⟩ (rs.set na z) k = (k : Int) + 1) := Lib.hid (by simp [mov])
  have HR2 := Lib.hid (Ro H2.own.r (by first | omega | (simp; omega)))
  have qc := H2.c0; have kqc := Lc qc
  have hgR : ¬ g0 = (w.heap.size + 1 + 1) := HG0.out _ (by omega) (by have := Lc Z0; omega)
  go_wp2_with fail
  refine (l6Move_any (6) ((na : Int)) (i2) ((nc : Int)) ((nd : Int)) _ (rs.set na z) k _ HR2.out (by omega) (by first | omega | (simp; done) | (simp; omega))).mono ?_
  rintro e w9 ⟨rfl, hb9⟩
  rw [HMO.out]
  have H9 := H2.keep hb9; have hz9 := hb9.size
  replace Y0 := Kf hb9 (Lc Z0) Y0; replace Z0 := Kc hb9 Z0
  replace Y1 := Kf hb9 (Lc Z1) Y1; replace Z1 := Kc hb9 Z1
  replace Y2 := Kf hb9 (Lc Z2) Y2; replace Z2 := Kc hb9 Z2
  replace Y3 := Kf hb9 (Lc Z3) Y3; replace Z3 := Kc hb9 Z3
  have hRb : ¬ (w.heap.size + 1 + 1) = (w.heap.size + 1) := by omega
  have FR := Lib.hid (H9.ret4 ((k : Int) + 1) (w.heap.size + 1 + 1) (by omega) (fun h => by have := HPI.out _ h; omega) (fun h => hgR (Option.some.inj h)) (.int .i64 ((k : Int) + 1)) (.slice (some ⟨g, 0, none⟩) rs.length cr) (.slice pv vals.length cv) (.slice pA arrs.length cA))
  obtain ⟨x0, x1, x2, x3⟩ := cells4 (y := .int .i64 ((k : Int) + 1)) hRb Z0 Z1 Z2 Z3 (.int .i64 ((k : Int) + 1)) (.slice (some ⟨g, 0, none⟩) rs.length cr) (.slice pv vals.length cv) (.slice pA arrs.length cA)
  have q0 := H9.c0; have qf := H9.f0; have kq := Lc q0
  have FO := (H9.fin ((k : Int) + 1)).2.1
  have t0 := FO.c0; have t1 := FO.c1; have t2 := FO.c2; have t3 := FO.c3
  have HEB := Lib.hid H9.eb
  have s0 := Nc (b := (w.heap.size + 1)) (j := 0) Z0 (by omega) (.int .i64 ((k : Int) + 1)); have sf0 := Fs (b := ⟨(w.heap.size + 1), 0, none⟩) Y0 (.int .i64 ((k : Int) + 1))
  have s1 := Nc (b := (w.heap.size + 1)) (j := 0) Z1 (by omega) (.int .i64 ((k : Int) + 1)); have sf1 := Fs (b := ⟨(w.heap.size + 1), 0, none⟩) Y1 (.int .i64 ((k : Int) + 1))
  have s2 := Nc (b := (w.heap.size + 1)) (j := 0) Z2 (by omega) (.int .i64 ((k : Int) + 1)); have sf2 := Fs (b := ⟨(w.heap.size + 1), 0, none⟩) Y2 (.int .i64 ((k : Int) + 1))
  have s3 := Nc (b := (w.heap.size + 1)) (j := 0) Z3 (by omega) (.int .i64 ((k : Int) + 1)); have sf3 := Fs (b := ⟨(w.heap.size + 1), 0, none⟩) Y3 (.int .i64 ((k : Int) + 1))
  have kR := Lc Z0
  clear H2 H9 FO Z0 Z1 Z2 Z3 Y0 Y1 Y2 Y3 hb9 HR2 HMO qc kqc
  go_wp2
  exact bodyPost_ret (v := .tuple #[.agg #[.int .i64 ((k : Int) + 1), (.slice (some ⟨g, 0, none⟩) rs.length cr), (.slice pv vals.length cv), (.slice pA arrs.length cA)], .slice (some ⟨g0, 0, none⟩) (E.length + 1) cc0]) (by simp [results, Try.results75, go_sem, x0, x1, x2, x3]) rfl (by rw [HTT.out, HEE.out]; exact ⟨_, rfl, FR.out.1, by have h := FR.out.2.1; simpa [List.append_assoc] using h, fun q hq => ⟨(HEB.out q hq).2.1, by rcases (HEB.out q hq).2.2 with h | h; exact h.elim (fun h => absurd h (HEB.out q hq).2.1) Or.inl; exact Or.inr h⟩, FR.out.2.2⟩)
 ·-- next
  obtain ⟨⟨p1, p2⟩, ⟨p3, p4⟩, ⟨p5, p6⟩, p7, p8⟩ := P7 rfl
  clear P1 P2 P3 P4 P5 P6 P7 P8 P9 P10 P11
  obtain ⟨na, rfl⟩ : ∃ n : Nat, a = n := ⟨a.toNat, by omega⟩
  obtain ⟨nb, rfl⟩ : ∃ n : Nat, i2 = n := ⟨i2.toNat, by omega⟩
  obtain ⟨nc, rfl⟩ : ∃ n : Nat, i3 = n := ⟨i3.toNat, by omega⟩
  obtain ⟨nd, rfl⟩ : ∃ n : Nat, d = n := ⟨d.toNat, by omega⟩
  have yR := H.own.regAt na (by omega); have fyR := H.own.r.frozenAt na; have kyR := Lc yR; have byR : (na : Int) < (rs.length : Int) := by omega
  have yB := H.own.regAt nb (by omega); have fyB := H.own.r.frozenAt nb; have kyB := Lc yB; have byB : (nb : Int) < (rs.length : Int) := by omega
  have yC := H.own.regAt nc (by omega); have fyC := H.own.r.frozenAt nc; have kyC := Lc yC; have byC : (nc : Int) < (rs.length : Int) := by omega
  have yD := H.own.regAt nd (by omega); have fyD := H.own.r.frozenAt nd; have kyD := Lc yD; have byD : (nd : Int) < (rs.length : Int) := by omega
  by_cases hz : gi rs nb = 0
  ·skip
   have HTT : Hid (T = ⟨(k : Int) + 1, rs.set na (gi rs nd), ⟨vals, arrs⟩⟩) := Lib.hid (by rw [← HT.out]; simp [stp, stPc, stRegs, stMem, hz])
   have HEE : Hid (EE = [((5 : Int), (k : Int))]) := Lib.hid (by rw [← HE.out]; simp [stEvs])
   clear HT HE
   rw [hz] at yB
   have H2 := H.reg na (gi rs nd)
   generalize gi rs nd = z at *
   clear hz H
   go_upto_region 28 with (fail)
   replace Y0 := Fs (b := ⟨g, na, none⟩) Y0 (.int .i64 z); replace Z0 := Nc (b := g) (j := na) Z0 (by omega) (.int .i64 z)
   replace Y1 := Fs (b := ⟨g, na, none⟩) Y1 (.int .i64 z); replace Z1 := Nc (b := g) (j := na) Z1 (by omega) (.int .i64 z)
   replace Y2 := Fs (b := ⟨g, na, none⟩) Y2 (.int .i64 z); replace Z2 := Nc (b := g) (j := na) Z2 (by omega) (.int .i64 z)
   replace Y3 := Fs (b := ⟨g, na, none⟩) Y3 (.int .i64 z); replace Z3 := Nc (b := g) (j := na) Z3 (by omega) (.int .i64 z)
   replace d0 := Nc (b := g) (j := na) d0 (by omega) (.int .i64 z)
   replace d1 := Nc (b := g) (j := na) d1 (by omega) (.int .i64 z)
   replace d2 := Nc (b := g) (j := na) d2 (by omega) (.int .i64 z)
   replace d3 := Nc (b := g) (j := na) d3 (by omega) (.int .i64 z)
   replace d4 := Nc (b := g) (j := na) d4 (by omega) (.int .i64 z)
   have HMO : Hid (mov ⟨7, (na : Int), (nb : Int), (nc : Int), (nd : Int)⟩ (rs.set na z) k = (k : Int) + 1) := Lib.hid (by simp [mov])
   have HR2 := Lib.hid (Ro H2.own.r (by first | omega | (simp; omega)))
   have qc := H2.c0; have kqc := Lc qc
   have hgR : ¬ g0 = (w.heap.size + 1 + 1) := HG0.out _ (by omega) (by have := Lc Z0; omega)
   go_wp2_with fail
   refine (l6Move_any (7) ((na : Int)) ((nb : Int)) ((nc : Int)) ((nd : Int)) _ (rs.set na z) k _ HR2.out (by omega) (by first | omega | (simp; done) | (simp; omega))).mono ?_
   rintro e w9 ⟨rfl, hb9⟩
   rw [HMO.out]
   have H9 := H2.keep hb9; have hz9 := hb9.size
   replace Y0 := Kf hb9 (Lc Z0) Y0; replace Z0 := Kc hb9 Z0
   replace Y1 := Kf hb9 (Lc Z1) Y1; replace Z1 := Kc hb9 Z1
   replace Y2 := Kf hb9 (Lc Z2) Y2; replace Z2 := Kc hb9 Z2
   replace Y3 := Kf hb9 (Lc Z3) Y3; replace Z3 := Kc hb9 Z3
   have hRb : ¬ (w.heap.size + 1 + 1) = (w.heap.size + 1) := by omega
   have FR := Lib.hid (H9.ret4 ((k : Int) + 1) (w.heap.size + 1 + 1) (by omega) (fun h => by have := HPI.out _ h; omega) (fun h => hgR (Option.some.inj h)) (.int .i64 ((k : Int) + 1)) (.slice (some ⟨g, 0, none⟩) rs.length cr) (.slice pv vals.length cv) (.slice pA arrs.length cA))
   obtain ⟨x0, x1, x2, x3⟩ := cells4 (y := .int .i64 ((k : Int) + 1)) hRb Z0 Z1 Z2 Z3 (.int .i64 ((k : Int) + 1)) (.slice (some ⟨g, 0, none⟩) rs.length cr) (.slice pv vals.length cv) (.slice pA arrs.length cA)
   have q0 := H9.c0; have qf := H9.f0; have kq := Lc q0
   have FO := (H9.fin ((k : Int) + 1)).2.1
   have t0 := FO.c0; have t1 := FO.c1; have t2 := FO.c2; have t3 := FO.c3
   have HEB := Lib.hid H9.eb
   have s0 := Nc (b := (w.heap.size + 1)) (j := 0) Z0 (by omega) (.int .i64 ((k : Int) + 1)); have sf0 := Fs (b := ⟨(w.heap.size + 1), 0, none⟩) Y0 (.int .i64 ((k : Int) + 1))
   have s1 := Nc (b := (w.heap.size + 1)) (j := 0) Z1 (by omega) (.int .i64 ((k : Int) + 1)); have sf1 := Fs (b := ⟨(w.heap.size + 1), 0, none⟩) Y1 (.int .i64 ((k : Int) + 1))
   have s2 := Nc (b := (w.heap.size + 1)) (j := 0) Z2 (by omega) (.int .i64 ((k : Int) + 1)); have sf2 := Fs (b := ⟨(w.heap.size + 1), 0, none⟩) Y2 (.int .i64 ((k : Int) + 1))
   have s3 := Nc (b := (w.heap.size + 1)) (j := 0) Z3 (by omega) (.int .i64 ((k : Int) + 1)); have sf3 := Fs (b := ⟨(w.heap.size + 1), 0, none⟩) Y3 (.int .i64 ((k : Int) + 1))
   have kR := Lc Z0
   clear H2 H9 FO Z0 Z1 Z2 Z3 Y0 Y1 Y2 Y3 hb9 HR2 HMO qc kqc
   go_wp2
   exact bodyPost_ret (v := .tuple #[.agg #[.int .i64 ((k : Int) + 1), (.slice (some ⟨g, 0, none⟩) rs.length cr), (.slice pv vals.length cv), (.slice pA arrs.length cA)], .slice (some ⟨g0, 0, none⟩) (E.length + 1) cc0]) (by simp [results, Try.results75, go_sem, x0, x1, x2, x3]) rfl (by rw [HTT.out, HEE.out]; exact ⟨_, rfl, FR.out.1, by have h := FR.out.2.1; simpa [List.append_assoc] using h, fun q hq => ⟨(HEB.out q hq).2.1, by rcases (HEB.out q hq).2.2 with h | h; exact h.elim (fun h => absurd h (HEB.out q hq).2.1) Or.inl; exact Or.inr h⟩, FR.out.2.2⟩)
  ·skip
   have HTT : Hid (T = ⟨(k : Int) + 1, rs.set na (gi rs nc), ⟨vals, arrs⟩⟩) := Lib.hid (by rw [← HT.out]; simp [stp, stPc, stRegs, stMem, hz])
   have HEE : Hid (EE = [((5 : Int), (k : Int))]) := Lib.hid (by rw [← HE.out]; simp [stEvs])
   clear HT HE
   have hz1 : (gi rs nb != 0) = true := by simp [hz]
   have H2 := H.reg na (gi rs nc)
   generalize gi rs nc = z at *
   generalize gi rs nb = y at *
   clear hz H
   go_upto_region 28 with (fail)
   replace Y0 := Fs (b := ⟨g, na, none⟩) Y0 (.int .i64 z); replace Z0 := Nc (b := g) (j := na) Z0 (by omega) (.int .i64 z)
   replace Y1 := Fs (b := ⟨g, na, none⟩) Y1 (.int .i64 z); replace Z1 := Nc (b := g) (j := na) Z1 (by omega) (.int .i64 z)
   replace Y2 := Fs (b := ⟨g, na, none⟩) Y2 (.int .i64 z); replace Z2 := Nc (b := g) (j := na) Z2 (by omega) (.int .i64 z)
   replace Y3 := Fs (b := ⟨g, na, none⟩) Y3 (.int .i64 z); replace Z3 := Nc (b := g) (j := na) Z3 (by omega) (.int .i64 z)
   replace d0 := Nc (b := g) (j := na) d0 (by omega) (.int .i64 z)
   replace d1 := Nc (b := g) (j := na) d1 (by omega) (.int .i64 z)
   replace d2 := Nc (b := g) (j := na) d2 (by omega) (.int .i64 z)
   replace d3 := Nc (b := g) (j := na) d3 (by omega) (.int .i64 z)
   replace d4 := Nc (b := g) (j := na) d4 (by omega) (.int .i64 z)
   have HMO : Hid (mov ⟨7, (na : Int), (nb : Int), (nc : Int), (nd : Int)⟩ (rs.set na z) k = (k : Int) + 1) := Lib.hid (by simp [mov])
   have HR2 := Lib.hid (Ro H2.own.r (by first | omega | (simp; omega)))
   have qc := H2.c0; have kqc := Lc qc
   have hgR : ¬ g0 = (w.heap.size + 1 + 1) := HG0.out _ (by omega) (by have := Lc Z0; omega)
   go_wp2_with fail
   refine (l6Move_any (7) ((na : Int)) ((nb : Int)) ((nc : Int)) ((nd : Int)) _ (rs.set na z) k _ HR2.out (by omega) (by first | omega | (simp; done) | (simp; omega))).mono ?_
   rintro e w9 ⟨rfl, hb9⟩
   rw [HMO.out]
   have H9 := H2.keep hb9; have hz9 := hb9.size
   replace Y0 := Kf hb9 (Lc Z0) Y0; replace Z0 := Kc hb9 Z0
   replace Y1 := Kf hb9 (Lc Z1) Y1; replace Z1 := Kc hb9 Z1
   replace Y2 := Kf hb9 (Lc Z2) Y2; replace Z2 := Kc hb9 Z2
   replace Y3 := Kf hb9 (Lc Z3) Y3; replace Z3 := Kc hb9 Z3
   have hRb : ¬ (w.heap.size + 1 + 1) = (w.heap.size + 1) := by omega
   have FR := Lib.hid (H9.ret4 ((k : Int) + 1) (w.heap.size + 1 + 1) (by omega) (fun h => by have := HPI.out _ h; omega) (fun h => hgR (Option.some.inj h)) (.int .i64 ((k : Int) + 1)) (.slice (some ⟨g, 0, none⟩) rs.length cr) (.slice pv vals.length cv) (.slice pA arrs.length cA))
   obtain ⟨x0, x1, x2, x3⟩ := cells4 (y := .int .i64 ((k : Int) + 1)) hRb Z0 Z1 Z2 Z3 (.int .i64 ((k : Int) + 1)) (.slice (some ⟨g, 0, none⟩) rs.length cr) (.slice pv vals.length cv) (.slice pA arrs.length cA)
   have q0 := H9.c0; have qf := H9.f0; have kq := Lc q0
   have FO := (H9.fin ((k : Int) + 1)).2.1
   have t0 := FO.c0; have t1 := FO.c1; have t2 := FO.c2; have t3 := FO.c3
   have HEB := Lib.hid H9.eb
   have s0 := Nc (b := (w.heap.size + 1)) (j := 0) Z0 (by omega) (.int .i64 ((k : Int) + 1)); have sf0 := Fs (b := ⟨(w.heap.size + 1), 0, none⟩) Y0 (.int .i64 ((k : Int) + 1))
   have s1 := Nc (b := (w.heap.size + 1)) (j := 0) Z1 (by omega) (.int .i64 ((k : Int) + 1)); have sf1 := Fs (b := ⟨(w.heap.size + 1), 0, none⟩) Y1 (.int .i64 ((k : Int) + 1))
   have s2 := Nc (b := (w.heap.size + 1)) (j := 0) Z2 (by omega) (.int .i64 ((k : Int) + 1)); have sf2 := Fs (b := ⟨(w.heap.size + 1), 0, none⟩) Y2 (.int .i64 ((k : Int) + 1))
   have s3 := Nc (b := (w.heap.size + 1)) (j := 0) Z3 (by omega) (.int .i64 ((k : Int) + 1)); have sf3 := Fs (b := ⟨(w.heap.size + 1), 0, none⟩) Y3 (.int .i64 ((k : Int) + 1))
   have kR := Lc Z0
   clear H2 H9 FO Z0 Z1 Z2 Z3 Y0 Y1 Y2 Y3 hb9 HR2 HMO qc kqc
   go_wp2
   exact bodyPost_ret (v := .tuple #[.agg #[.int .i64 ((k : Int) + 1), (.slice (some ⟨g, 0, none⟩) rs.length cr), (.slice pv vals.length cv), (.slice pA arrs.length cA)], .slice (some ⟨g0, 0, none⟩) (E.length + 1) cc0]) (by simp [results, Try.results75, go_sem, x0, x1, x2, x3]) rfl (by rw [HTT.out, HEE.out]; exact ⟨_, rfl, FR.out.1, by have h := FR.out.2.1; simpa [List.append_assoc] using h, fun q hq => ⟨(HEB.out q hq).2.1, by rcases (HEB.out q hq).2.2 with h | h; exact h.elim (fun h => absurd h (HEB.out q hq).2.1) Or.inl; exact Or.inr h⟩, FR.out.2.2⟩)
 ·-- next
  obtain ⟨p1, p2⟩ := P8 rfl
  clear P1 P2 P3 P4 P5 P6 P7 P8 P9 P10 P11
  have HTT : Hid (T = ⟨a, rs, ⟨vals, arrs⟩⟩) := Lib.hid (by rw [← HT.out]; simp [stp, stPc, stRegs, stMem])
  have HEE : Hid (EE = [((5 : Int), (k : Int))]) := Lib.hid (by rw [← HE.out]; simp [stEvs])
  clear HT HE
  have HMO : Hid (mov ⟨8, a, i2, i3, d⟩ (rs) k = a) := Lib.hid (by simp [mov])
  have HR2 := Lib.hid (Ro H.own.r (by first | omega | (simp; omega)))
  have qc := H.c0; have kqc := Lc qc
  have hgR : ¬ g0 = (w.heap.size + 1 + 1) := HG0.out _ (by omega) (by have := Lc Z0; omega)
  go_wp2_with fail
  refine (l6Move_any (8) (a) (i2) (i3) (d) _ (rs) k _ HR2.out (by omega) (by first | omega | (simp; done) | (simp; omega))).mono ?_
  rintro e w9 ⟨rfl, hb9⟩
  rw [HMO.out]
  have H9 := H.keep hb9; have hz9 := hb9.size
  replace Y0 := Kf hb9 (Lc Z0) Y0; replace Z0 := Kc hb9 Z0
  replace Y1 := Kf hb9 (Lc Z1) Y1; replace Z1 := Kc hb9 Z1
  replace Y2 := Kf hb9 (Lc Z2) Y2; replace Z2 := Kc hb9 Z2
  replace Y3 := Kf hb9 (Lc Z3) Y3; replace Z3 := Kc hb9 Z3
  have hRb : ¬ (w.heap.size + 1 + 1) = (w.heap.size + 1) := by omega
  have FR := Lib.hid (H9.ret4 (a) (w.heap.size + 1 + 1) (by omega) (fun h => by have := HPI.out _ h; omega) (fun h => hgR (Option.some.inj h)) (.int .i64 (a)) (.slice (some ⟨g, 0, none⟩) rs.length cr) (.slice pv vals.length cv) (.slice pA arrs.length cA))
  obtain ⟨x0, x1, x2, x3⟩ := cells4 (y := .int .i64 (a)) hRb Z0 Z1 Z2 Z3 (.int .i64 (a)) (.slice (some ⟨g, 0, none⟩) rs.length cr) (.slice pv vals.length cv) (.slice pA arrs.length cA)
  have q0 := H9.c0; have qf := H9.f0; have kq := Lc q0
  have FO := (H9.fin (a)).2.1
  have t0 := FO.c0; have t1 := FO.c1; have t2 := FO.c2; have t3 := FO.c3
  have HEB := Lib.hid H9.eb
  have s0 := Nc (b := (w.heap.size + 1)) (j := 0) Z0 (by omega) (.int .i64 (a)); have sf0 := Fs (b := ⟨(w.heap.size + 1), 0, none⟩) Y0 (.int .i64 (a))
  have s1 := Nc (b := (w.heap.size + 1)) (j := 0) Z1 (by omega) (.int .i64 (a)); have sf1 := Fs (b := ⟨(w.heap.size + 1), 0, none⟩) Y1 (.int .i64 (a))
  have s2 := Nc (b := (w.heap.size + 1)) (j := 0) Z2 (by omega) (.int .i64 (a)); have sf2 := Fs (b := ⟨(w.heap.size + 1), 0, none⟩) Y2 (.int .i64 (a))
  have s3 := Nc (b := (w.heap.size + 1)) (j := 0) Z3 (by omega) (.int .i64 (a)); have sf3 := Fs (b := ⟨(w.heap.size + 1), 0, none⟩) Y3 (.int .i64 (a))
  have kR := Lc Z0
  clear H H9 FO Z0 Z1 Z2 Z3 Y0 Y1 Y2 Y3 hb9 HR2 HMO qc kqc
  go_wp2
  exact bodyPost_ret (v := .tuple #[.agg #[.int .i64 (a), (.slice (some ⟨g, 0, none⟩) rs.length cr), (.slice pv vals.length cv), (.slice pA arrs.length cA)], .slice (some ⟨g0, 0, none⟩) (E.length + 1) cc0]) (by simp [results, Try.results75, go_sem, x0, x1, x2, x3]) rfl (by rw [HTT.out, HEE.out]; exact ⟨_, rfl, FR.out.1, by have h := FR.out.2.1; simpa [List.append_assoc] using h, fun q hq => ⟨(HEB.out q hq).2.1, by rcases (HEB.out q hq).2.2 with h | h; exact h.elim (fun h => absurd h (HEB.out q hq).2.1) Or.inl; exact Or.inr h⟩, FR.out.2.2⟩)
 ·-- next
  obtain ⟨⟨p1, p2⟩, p3, p4⟩ := P9 rfl
  clear P1 P2 P3 P4 P5 P6 P7 P8 P9 P10 P11
  obtain ⟨na, rfl⟩ : ∃ n : Nat, a = n := ⟨a.toNat, by omega⟩
  by_cases hz : gi rs na = 0
  ·skip
   have HTT : Hid (T = ⟨i2, rs, ⟨vals, arrs⟩⟩) := Lib.hid (by rw [← HT.out]; simp [stp, stPc, stRegs, stMem, hz])
   have HEE : Hid (EE = [((5 : Int), (k : Int))]) := Lib.hid (by rw [← HE.out]; simp [stEvs])
   clear HT HE
   have HZ := Lib.hid hz; clear hz
   have HMO : Hid (mov ⟨9, (na : Int), i2, i3, d⟩ (rs) k = i2) := Lib.hid (by simp [mov, HZ.out])
   have HR2 := Lib.hid (Ro H.own.r (by first | omega | (simp; omega)))
   have qc := H.c0; have kqc := Lc qc
   have hgR : ¬ g0 = (w.heap.size + 1 + 1) := HG0.out _ (by omega) (by have := Lc Z0; omega)
   go_wp2_with fail
   refine (l6Move_any (9) ((na : Int)) (i2) (i3) (d) _ (rs) k _ HR2.out (by omega) (by first | omega | (simp; done) | (simp; omega))).mono ?_
   rintro e w9 ⟨rfl, hb9⟩
   rw [HMO.out]
   have H9 := H.keep hb9; have hz9 := hb9.size
   replace Y0 := Kf hb9 (Lc Z0) Y0; replace Z0 := Kc hb9 Z0
   replace Y1 := Kf hb9 (Lc Z1) Y1; replace Z1 := Kc hb9 Z1
   replace Y2 := Kf hb9 (Lc Z2) Y2; replace Z2 := Kc hb9 Z2
   replace Y3 := Kf hb9 (Lc Z3) Y3; replace Z3 := Kc hb9 Z3
   have hRb : ¬ (w.heap.size + 1 + 1) = (w.heap.size + 1) := by omega
   have FR := Lib.hid (H9.ret4 (i2) (w.heap.size + 1 + 1) (by omega) (fun h => by have := HPI.out _ h; omega) (fun h => hgR (Option.some.inj h)) (.int .i64 (i2)) (.slice (some ⟨g, 0, none⟩) rs.length cr) (.slice pv vals.length cv) (.slice pA arrs.length cA))
   obtain ⟨x0, x1, x2, x3⟩ := cells4 (y := .int .i64 (i2)) hRb Z0 Z1 Z2 Z3 (.int .i64 (i2)) (.slice (some ⟨g, 0, none⟩) rs.length cr) (.slice pv vals.length cv) (.slice pA arrs.length cA)
   have q0 := H9.c0; have qf := H9.f0; have kq := Lc q0
   have FO := (H9.fin (i2)).2.1
   have t0 := FO.c0; have t1 := FO.c1; have t2 := FO.c2; have t3 := FO.c3
   have HEB := Lib.hid H9.eb
   have s0 := Nc (b := (w.heap.size + 1)) (j := 0) Z0 (by omega) (.int .i64 (i2)); have sf0 := Fs (b := ⟨(w.heap.size + 1), 0, none⟩) Y0 (.int .i64 (i2))
   have s1 := Nc (b := (w.heap.size + 1)) (j := 0) Z1 (by omega) (.int .i64 (i2)); have sf1 := Fs (b := ⟨(w.heap.size + 1), 0, none⟩) Y1 (.int .i64 (i2))
   have s2 := Nc (b := (w.heap.size + 1)) (j := 0) Z2 (by omega) (.int .i64 (i2)); have sf2 := Fs (b := ⟨(w.heap.size + 1), 0, none⟩) Y2 (.int .i64 (i2))
   have s3 := Nc (b := (w.heap.size + 1)) (j := 0) Z3 (by omega) (.int .i64 (i2)); have sf3 := Fs (b := ⟨(w.heap.size + 1), 0, none⟩) Y3 (.int .i64 (i2))
   have kR := Lc Z0
   clear H H9 FO Z0 Z1 Z2 Z3 Y0 Y1 Y2 Y3 hb9 HR2 HMO qc kqc
   go_wp2
   exact bodyPost_ret (v := .tuple #[.agg #[.int .i64 (i2), (.slice (some ⟨g, 0, none⟩) rs.length cr), (.slice pv vals.length cv), (.slice pA arrs.length cA)], .slice (some ⟨g0, 0, none⟩) (E.length + 1) cc0]) (by simp [results, Try.results75, go_sem, x0, x1, x2, x3]) rfl (by rw [HTT.out, HEE.out]; exact ⟨_, rfl, FR.out.1, by have h := FR.out.2.1; simpa [List.append_assoc] using h, fun q hq => ⟨(HEB.out q hq).2.1, by rcases (HEB.out q hq).2.2 with h | h; exact h.elim (fun h => absurd h (HEB.out q hq).2.1) Or.inl; exact Or.inr h⟩, FR.out.2.2⟩)
  ·skip
   have HTT : Hid (T = ⟨(k : Int) + 1, rs, ⟨vals, arrs⟩⟩) := Lib.hid (by rw [← HT.out]; simp [stp, stPc, stRegs, stMem, hz])
   have HEE : Hid (EE = [((5 : Int), (k : Int))]) := Lib.hid (by rw [← HE.out]; simp [stEvs])
   clear HT HE
   have HZ := Lib.hid hz; clear hz
   have HMO : Hid (mov ⟨9, (na : Int), i2, i3, d⟩ (rs) k = (k : Int) + 1) := Lib.hid (by simp [mov, HZ.out])
   have HR2 := Lib.hid (Ro H.own.r (by first | omega | (simp; omega)))
   have qc := H.c0; have kqc := Lc qc
   have hgR : ¬ g0 = (w.heap.size + 1 + 1) := HG0.out _ (by omega) (by have := Lc Z0; omega)
   go_wp2_with fail
   refine (l6Move_any (9) ((na : Int)) (i2) (i3) (d) _ (rs) k _ HR2.out (by omega) (by first | omega | (simp; done) | (simp; omega))).mono ?_
   rintro e w9 ⟨rfl, hb9⟩
   rw [HMO.out]
   have H9 := H.keep hb9; have hz9 := hb9.size
   replace Y0 := Kf hb9 (Lc Z0) Y0; replace Z0 := Kc hb9 Z0
   replace Y1 := Kf hb9 (Lc Z1) Y1; replace Z1 := Kc hb9 Z1
   replace Y2 := Kf hb9 (Lc Z2) Y2; replace Z2 := Kc hb9 Z2
   replace Y3 := Kf hb9 (Lc Z3) Y3; replace Z3 := Kc hb9 Z3
   have hRb : ¬ (w.heap.size + 1 + 1) = (w.heap.size + 1) := by omega
   have FR := Lib.hid (H9.ret4 ((k : Int) + 1) (w.heap.size + 1 + 1) (by omega) (fun h => by have := HPI.out _ h; omega) (fun h => hgR (Option.some.inj h)) (.int .i64 ((k : Int) + 1)) (.slice (some ⟨g, 0, none⟩) rs.length cr) (.slice pv vals.length cv) (.slice pA arrs.length cA))
   obtain ⟨x0, x1, x2, x3⟩ := cells4 (y := .int .i64 ((k : Int) + 1)) hRb Z0 Z1 Z2 Z3 (.int .i64 ((k : Int) + 1)) (.slice (some ⟨g, 0, none⟩) rs.length cr) (.slice pv vals.length cv) (.slice pA arrs.length cA)
   have q0 := H9.c0; have qf := H9.f0; have kq := Lc q0
   have FO := (H9.fin ((k : Int) + 1)).2.1
   have t0 := FO.c0; have t1 := FO.c1; have t2 := FO.c2; have t3 := FO.c3
   have HEB := Lib.hid H9.eb
   have s0 := Nc (b := (w.heap.size + 1)) (j := 0) Z0 (by omega) (.int .i64 ((k : Int) + 1)); have sf0 := Fs (b := ⟨(w.heap.size + 1), 0, none⟩) Y0 (.int .i64 ((k : Int) + 1))
   have s1 := Nc (b := (w.heap.size + 1)) (j := 0) Z1 (by omega) (.int .i64 ((k : Int) + 1)); have sf1 := Fs (b := ⟨(w.heap.size + 1), 0, none⟩) Y1 (.int .i64 ((k : Int) + 1))
   have s2 := Nc (b := (w.heap.size + 1)) (j := 0) Z2 (by omega) (.int .i64 ((k : Int) + 1)); have sf2 := Fs (b := ⟨(w.heap.size + 1), 0, none⟩) Y2 (.int .i64 ((k : Int) + 1))
   have s3 := Nc (b := (w.heap.size + 1)) (j := 0) Z3 (by omega) (.int .i64 ((k : Int) + 1)); have sf3 := Fs (b := ⟨(w.heap.size + 1), 0, none⟩) Y3 (.int .i64 ((k : Int) + 1))
   have kR := Lc Z0
   clear H H9 FO Z0 Z1 Z2 Z3 Y0 Y1 Y2 Y3 hb9 HR2 HMO qc kqc
   go_wp2
   exact bodyPost_ret (v := .tuple #[.agg #[.int .i64 ((k : Int) + 1), (.slice (some ⟨g, 0, none⟩) rs.length cr), (.slice pv vals.length cv), (.slice pA arrs.length cA)], .slice (some ⟨g0, 0, none⟩) (E.length + 1) cc0]) (by simp [results, Try.results75, go_sem, x0, x1, x2, x3]) rfl (by rw [HTT.out, HEE.out]; exact ⟨_, rfl, FR.out.1, by have h := FR.out.2.1; simpa [List.append_assoc] using h, fun q hq => ⟨(HEB.out q hq).2.1, by rcases (HEB.out q hq).2.2 with h | h; exact h.elim (fun h => absurd h (HEB.out q hq).2.1) Or.inl; exact Or.inr h⟩, FR.out.2.2⟩)
 ·-- next
  obtain ⟨⟨p1, p2⟩, p3, p4⟩ := P10 rfl
  clear P1 P2 P3 P4 P5 P6 P7 P8 P9 P10 P11
  obtain ⟨na, rfl⟩ : ∃ n : Nat, a = n := ⟨a.toNat, by omega⟩
  have yR := H.own.regAt na (by omega); have fyR := H.own.r.frozenAt na; have kyR := Lc yR; have byR : (na : Int) < (rs.length : Int) := by omega
  have hrg := HRG.out (na : Int)
  have HSG := Lib.hid (gi_set rs na (by omega) ((gi rs na + 255) % 256))
  by_cases hz : (gi rs na + 255) % 256 = 0
  ·skip
   have HTT : Hid (T = ⟨(k : Int) + 1, rs.set na ((gi rs na + 255) % 256), ⟨vals, arrs⟩⟩) := Lib.hid (by rw [← HT.out]; simp [stp, stPc, stRegs, stMem, hz])
   have HEE : Hid (EE = [((5 : Int), (k : Int))]) := Lib.hid (by rw [← HE.out]; simp [stEvs])
   clear HT HE
   have HZ := Lib.hid hz; clear hz
   have H2 := (H.reg na ((gi rs na + 255) % 256)).drew
   have hgs := HSG.out
   generalize gi rs na = y at *
   have HGS := Lib.hid hgs; clear hgs HSG
   go_upto_region 25 with (fail)
   go_region
   clear H
   go_upto_region 28 with (fail)
   replace Y0 := Fs (b := ⟨g, na, none⟩) Y0 (.int .i64 ((y + 255) % 256)); replace Z0 := Nc (b := g) (j := na) Z0 (by omega) (.int .i64 ((y + 255) % 256))
   replace Y1 := Fs (b := ⟨g, na, none⟩) Y1 (.int .i64 ((y + 255) % 256)); replace Z1 := Nc (b := g) (j := na) Z1 (by omega) (.int .i64 ((y + 255) % 256))
   replace Y2 := Fs (b := ⟨g, na, none⟩) Y2 (.int .i64 ((y + 255) % 256)); replace Z2 := Nc (b := g) (j := na) Z2 (by omega) (.int .i64 ((y + 255) % 256))
   replace Y3 := Fs (b := ⟨g, na, none⟩) Y3 (.int .i64 ((y + 255) % 256)); replace Z3 := Nc (b := g) (j := na) Z3 (by omega) (.int .i64 ((y + 255) % 256))
   replace d0 := Nc (b := g) (j := na) d0 (by omega) (.int .i64 ((y + 255) % 256))
   replace d1 := Nc (b := g) (j := na) d1 (by omega) (.int .i64 ((y + 255) % 256))
   replace d2 := Nc (b := g) (j := na) d2 (by omega) (.int .i64 ((y + 255) % 256))
   replace d3 := Nc (b := g) (j := na) d3 (by omega) (.int .i64 ((y + 255) % 256))
   replace d4 := Nc (b := g) (j := na) d4 (by omega) (.int .i64 ((y + 255) % 256))
   have HB := Below.drew (Bs (World.setCell w5 ⟨g, na, none⟩ (.int .i64 ((y + 255) % 256))))
   replace Y0 := Kf HB (Lc Z0) Y0; replace Z0 := Kc HB Z0
   replace Y1 := Kf HB (Lc Z1) Y1; replace Z1 := Kc HB Z1
   replace Y2 := Kf HB (Lc Z2) Y2; replace Z2 := Kc HB Z2
   replace Y3 := Kf HB (Lc Z3) Y3; replace Z3 := Kc HB Z3
   replace d0 := Kc HB d0
   replace d1 := Kc HB d1
   replace d2 := Kc HB d2
   replace d3 := Kc HB d3
   replace d4 := Kc HB d4
   have hz8 := HB.size
   obtain ⟨w8, hw8⟩ : ∃ X, X = World.drew (World.setCell w5 ⟨g, na, none⟩ (.int .i64 ((y + 255) % 256))) := ⟨_, rfl⟩
   rw [← hw8] at H2 hz8 d0 d1 d2 d3 d4 Z0 Z1 Z2 Z3 Y0 Y1 Y2 Y3 ⊢
   simp only [Ss] at hz8
   clear hw8 HB yR fyR
   generalize hz9 : (y + 255) % 256 = z at *
   clear hz9
   have HMO : Hid (mov ⟨10, (na : Int), i2, i3, d⟩ (rs.set na z) k = (k : Int) + 1) := Lib.hid (by unfold mov; simp only; rw [HGS.out]; simp [HZ.out])
   have HR2 := Lib.hid (Ro H2.own.r (by first | omega | (simp; omega)))
   have qc := H2.c0; have kqc := Lc qc
   have hgR : ¬ g0 = (w.heap.size + 1 + 1) := HG0.out _ (by omega) (by have := Lc Z0; omega)
   go_wp2_with fail
   refine (l6Move_any (10) ((na : Int)) (i2) (i3) (d) _ (rs.set na z) k _ HR2.out (by omega) (by first | omega | (simp; done) | (simp; omega))).mono ?_
   rintro e w9 ⟨rfl, hb9⟩
   rw [HMO.out]
   have H9 := H2.keep hb9; have hz9 := hb9.size
   replace Y0 := Kf hb9 (Lc Z0) Y0; replace Z0 := Kc hb9 Z0
   replace Y1 := Kf hb9 (Lc Z1) Y1; replace Z1 := Kc hb9 Z1
   replace Y2 := Kf hb9 (Lc Z2) Y2; replace Z2 := Kc hb9 Z2
   replace Y3 := Kf hb9 (Lc Z3) Y3; replace Z3 := Kc hb9 Z3
   have hRb : ¬ (w.heap.size + 1 + 1) = (w.heap.size + 1) := by omega
   have FR := Lib.hid (H9.ret4 ((k : Int) + 1) (w.heap.size + 1 + 1) (by omega) (fun h => by have := HPI.out _ h; omega) (fun h => hgR (Option.some.inj h)) (.int .i64 ((k : Int) + 1)) (.slice (some ⟨g, 0, none⟩) rs.length cr) (.slice pv vals.length cv) (.slice pA arrs.length cA))
   obtain ⟨x0, x1, x2, x3⟩ := cells4 (y := .int .i64 ((k : Int) + 1)) hRb Z0 Z1 Z2 Z3 (.int .i64 ((k : Int) + 1)) (.slice (some ⟨g, 0, none⟩) rs.length cr) (.slice pv vals.length cv) (.slice pA arrs.length cA)
   have q0 := H9.c0; have qf := H9.f0; have kq := Lc q0
   have FO := (H9.fin ((k : Int) + 1)).2.1
   have t0 := FO.c0; have t1 := FO.c1; have t2 := FO.c2; have t3 := FO.c3
   have HEB := Lib.hid H9.eb
   have s0 := Nc (b := (w.heap.size + 1)) (j := 0) Z0 (by omega) (.int .i64 ((k : Int) + 1)); have sf0 := Fs (b := ⟨(w.heap.size + 1), 0, none⟩) Y0 (.int .i64 ((k : Int) + 1))
   have s1 := Nc (b := (w.heap.size + 1)) (j := 0) Z1 (by omega) (.int .i64 ((k : Int) + 1)); have sf1 := Fs (b := ⟨(w.heap.size + 1), 0, none⟩) Y1 (.int .i64 ((k : Int) + 1))
   have s2 := Nc (b := (w.heap.size + 1)) (j := 0) Z2 (by omega) (.int .i64 ((k : Int) + 1)); have sf2 := Fs (b := ⟨(w.heap.size + 1), 0, none⟩) Y2 (.int .i64 ((k : Int) + 1))
   have s3 := Nc (b := (w.heap.size + 1)) (j := 0) Z3 (by omega) (.int .i64 ((k : Int) + 1)); have sf3 := Fs (b := ⟨(w.heap.size + 1), 0, none⟩) Y3 (.int .i64 ((k : Int) + 1))
   have kR := Lc Z0
   clear H2 H9 FO Z0 Z1 Z2 Z3 Y0 Y1 Y2 Y3 hb9 HR2 HMO qc kqc
   go_wp2
   exact bodyPost_ret (v := .tuple #[.agg #[.int .i64 ((k : Int) + 1), (.slice (some ⟨g, 0, none⟩) rs.length cr), (.slice pv vals.length cv), (.slice pA arrs.length cA)], .slice (some ⟨g0, 0, none⟩) (E.length + 1) cc0]) (by simp [results, Try.results75, go_sem, x0, x1, x2, x3]) rfl (by rw [HTT.out, HEE.out]; exact ⟨_, rfl, FR.out.1, by have h := FR.out.2.1; simpa [List.append_assoc] using h, fun q hq => ⟨(HEB.out q hq).2.1, by rcases (HEB.out q hq).2.2 with h | h; exact h.elim (fun h => absurd h (HEB.out q hq).2.1) Or.inl; exact Or.inr h⟩, FR.out.2.2⟩)
  ·skip
   have HTT : Hid (T = ⟨i2, rs.set na ((gi rs na + 255) % 256), ⟨vals, arrs⟩⟩) := Lib.hid (by rw [← HT.out]; simp [stp, stPc, stRegs, stMem, hz])
   have HEE : Hid (EE = [((5 : Int), (k : Int))]) := Lib.hid (by rw [← HE.out]; simp [stEvs])
   clear HT HE
   have HZ := Lib.hid hz; clear hz
   have H2 := (H.reg na ((gi rs na + 255) % 256)).drew
   have hgs := HSG.out
   generalize gi rs na = y at *
   have HGS := Lib.hid hgs; clear hgs HSG
   go_upto_region 25 with (fail)
   go_region
   clear H
   go_upto_region 28 with (fail)
   replace Y0 := Fs (b := ⟨g, na, none⟩) Y0 (.int .i64 ((y + 255) % 256)); replace Z0 := Nc (b := g) (j := na) Z0 (by omega) (.int .i64 ((y + 255) % 256))
   replace Y1 := Fs (b := ⟨g, na, none⟩) Y1 (.int .i64 ((y + 255) % 256)); replace Z1 := Nc (b := g) (j := na) Z1 (by omega) (.int .i64 ((y + 255) % 256))
   replace Y2 := Fs (b := ⟨g, na, none⟩) Y2 (.int .i64 ((y + 255) % 256)); replace Z2 := Nc (b := g) (j := na) Z2 (by omega) (.int .i64 ((y + 255) % 256))
   replace Y3 := Fs (b := ⟨g, na, none⟩) Y3 (.int .i64 ((y + 255) % 256)); replace Z3 := Nc (b := g) (j := na) Z3 (by omega) (.int .i64 ((y + 255) % 256))
   replace d0 := Nc (b := g) (j := na) d0 (by omega) (.int .i64 ((y + 255) % 256))
   replace d1 := Nc (b := g) (j := na) d1 (by omega) (.int .i64 ((y + 255) % 256))
   replace d2 := Nc (b := g) (j := na) d2 (by omega) (.int .i64 ((y + 255) % 256))
   replace d3 := Nc (b := g) (j := na) d3 (by omega) (.int .i64 ((y + 255) % 256))
   replace d4 := Nc (b := g) (j := na) d4 (by omega) (.int .i64 ((y + 255) % 256))
   have HB := Below.drew (Bs (World.setCell w5 ⟨g, na, none⟩ (.int .i64 ((y + 255) % 256))))
   replace Y0 := Kf HB (Lc Z0) Y0; replace Z0 := Kc HB Z0
   replace Y1 := Kf HB (Lc Z1) Y1; replace Z1 := Kc HB Z1
   replace Y2 := Kf HB (Lc Z2) Y2; replace Z2 := Kc HB Z2
   replace Y3 := Kf HB (Lc Z3) Y3; replace Z3 := Kc HB Z3
   replace d0 := Kc HB d0
   replace d1 := Kc HB d1
   replace d2 := Kc HB d2
   replace d3 := Kc HB d3
   replace d4 := Kc HB d4
   have hz8 := HB.size
   obtain ⟨w8, hw8⟩ : ∃ X, X = World.drew (World.setCell w5 ⟨g, na, none⟩ (.int .i64 ((y + 255) % 256))) := ⟨_, rfl⟩
   rw [← hw8] at H2 hz8 d0 d1 d2 d3 d4 Z0 Z1 Z2 Z3 Y0 Y1 Y2 Y3 ⊢
   simp only [Ss] at hz8
   clear hw8 HB yR fyR
   generalize hz9 : (y + 255) % 256 = z at *
   clear hz9
   have HMO : Hid (mov ⟨10, (na : Int), i2, i3, d⟩ (rs.set na z) k = i2) := Lib.hid (by unfold mov; simp only; rw [HGS.out]; simp [HZ.out])
   have HR2 := Lib.hid (Ro H2.own.r (by first | omega | (simp; omega)))
   have qc := H2.c0; have kqc := Lc qc
   have hgR : ¬ g0 = (w.heap.size + 1 + 1) := HG0.out _ (by omega) (by have := Lc Z0; omega)
   go_wp2_with fail
   refine (l6Move_any (10) ((na : Int)) (i2) (i3) (d) _ (rs.set na z) k _ HR2.out (by omega) (by first | omega | (simp; done) | (simp; omega))).mono ?_
   rintro e w9 ⟨rfl, hb9⟩
   rw [HMO.out]
   have H9 := H2.keep hb9; have hz9 := hb9.size
   replace Y0 := Kf hb9 (Lc Z0) Y0; replace Z0 := Kc hb9 Z0
   replace Y1 := Kf hb9 (Lc Z1) Y1; replace Z1 := Kc hb9 Z1
   replace Y2 := Kf hb9 (Lc Z2) Y2; replace Z2 := Kc hb9 Z2
   replace Y3 := Kf hb9 (Lc Z3) Y3; replace Z3 := Kc hb9 Z3
   have hRb : ¬ (w.heap.size + 1 + 1) = (w.heap.size + 1) := by omega
   have FR := Lib.hid (H9.ret4 (i2) (w.heap.size + 1 + 1) (by omega) (fun h => by have := HPI.out _ h; omega) (fun h => hgR (Option.some.inj h)) (.int .i64 (i2)) (.slice (some ⟨g, 0, none⟩) rs.length cr) (.slice pv vals.length cv) (.slice pA arrs.length cA))
   obtain ⟨x0, x1, x2, x3⟩ := cells4 (y := .int .i64 (i2)) hRb Z0 Z1 Z2 Z3 (.int .i64 (i2)) (.slice (some ⟨g, 0, none⟩) rs.length cr) (.slice pv vals.length cv) (.slice pA arrs.length cA)
   have q0 := H9.c0; have qf := H9.f0; have kq := Lc q0
   have FO := (H9.fin (i2)).2.1
   have t0 := FO.c0; have t1 := FO.c1; have t2 := FO.c2; have t3 := FO.c3
   have HEB := Lib.hid H9.eb
   have s0 := Nc (b := (w.heap.size + 1)) (j := 0) Z0 (by omega) (.int .i64 (i2)); have sf0 := Fs (b := ⟨(w.heap.size + 1), 0, none⟩) Y0 (.int .i64 (i2))
   have s1 := Nc (b := (w.heap.size + 1)) (j := 0) Z1 (by omega) (.int .i64 (i2)); have sf1 := Fs (b := ⟨(w.heap.size + 1), 0, none⟩) Y1 (.int .i64 (i2))
   have s2 := Nc (b := (w.heap.size + 1)) (j := 0) Z2 (by omega) (.int .i64 (i2)); have sf2 := Fs (b := ⟨(w.heap.size + 1), 0, none⟩) Y2 (.int .i64 (i2))
   have s3 := Nc (b := (w.heap.size + 1)) (j := 0) Z3 (by omega) (.int .i64 (i2)); have sf3 := Fs (b := ⟨(w.heap.size + 1), 0, none⟩) Y3 (.int .i64 (i2))
   have kR := Lc Z0
   clear H2 H9 FO Z0 Z1 Z2 Z3 Y0 Y1 Y2 Y3 hb9 HR2 HMO qc kqc
   go_wp2
   exact bodyPost_ret (v := .tuple #[.agg #[.int .i64 (i2), (.slice (some ⟨g, 0, none⟩) rs.length cr), (.slice pv vals.length cv), (.slice pA arrs.length cA)], .slice (some ⟨g0, 0, none⟩) (E.length + 1) cc0]) (by simp [results, Try.results75, go_sem, x0, x1, x2, x3]) rfl (by rw [HTT.out, HEE.out]; exact ⟨_, rfl, FR.out.1, by have h := FR.out.2.1; simpa [List.append_assoc] using h, fun q hq => ⟨(HEB.out q hq).2.1, by rcases (HEB.out q hq).2.2 with h | h; exact h.elim (fun h => absurd h (HEB.out q hq).2.1) Or.inl; exact Or.inr h⟩, FR.out.2.2⟩)
 ·-- next
  obtain ⟨p1, p2⟩ := P11 rfl
  clear P1 P2 P3 P4 P5 P6 P7 P8 P9 P10 P11
  obtain ⟨na, rfl⟩ : ∃ n : Nat, a = n := ⟨a.toNat, by omega⟩
  have HTT : Hid (T = ⟨(k : Int) + 1, rs, ⟨vals, arrs⟩⟩) := Lib.hid (by rw [← HT.out]; simp [stp, stPc, stRegs, stMem])
  have HEE : Hid (EE = [((5 : Int), (k : Int)), (4, gi rs na)]) := Lib.hid (by rw [← HE.out]; simp [stEvs])
  clear HT HE
  have yR := H.own.regAt na (by omega); have fyR := H.own.r.frozenAt na; have kyR := Lc yR; have byR : (na : Int) < (rs.length : Int) := by omega
  generalize gi rs na = z at *
  go_wp2_with (at_builtin; refine wpList_ap tEvs rfl _ _ rfl tb _ (E ++ [((5 : Int), (k : Int))]).length _ rfl H.ev [.int .i64 4, .int .i64 (z)] rfl rfl (one_ev _ _) (by have := HLEN.out; omega) (by have := H.chg.size; omega) ?_)
  intro ge ce w7 oe hC7 hg7
  have oe2 : w7.ownsRow tb 47 2 (.slice (some ⟨ge, 0, none⟩) (E.length + 1 + 1) ce) ((E ++ [((5 : Int), (k : Int))]).length + 1) (evs (E ++ [((5 : Int), (k : Int))]) ++ [.int .i64 4, .int .i64 (z)]) := by rw [HLEN.out]; exact oe
  have H7 := H.event (e := (4, z)) oe2 hC7 (fun q hq => by have e3 : ge = q := Option.some.inj hq; subst e3; exact hg7)
  have HNN := Lib.hid (fun q (h1 : w.heap.size ≤ q) (h2 : q < w2.heap.size) (e : (Value.slice (some ⟨g0, 0, none⟩) (E.length + 1) cc0).ownBlock = some q) => show False from HG0.out q h1 h2 (Option.some.inj e))
  have HMM := Lib.hid (fun q (h : OwnMB (.slice (some ⟨g, 0, none⟩) rs.length cr) (.slice pv vals.length cv) (.slice pA arrs.length cA) us q) (e : (Value.slice (some ⟨g0, 0, none⟩) (E.length + 1) cc0).ownBlock = some q) => show False from (H.eb q e).2.1 h)
  have hgen : ∀ q, w.heap.size ≤ q → q < w2.heap.size → ¬ ge = q := fun q h1 h2 e => by
   rcases hg7 with h | h
   ·exact HNN.out q h1 h2 (e ▸ h)
   ·omega
  have HGE := Lib.hid hgen; clear hgen
  replace d0 := Gc hC7 d0 (HNN.out _ (by omega) (by omega))
  replace d1 := Gc hC7 d1 (HNN.out _ (by omega) (by omega))
  replace d2 := Gc hC7 d2 (HNN.out _ (by omega) (by omega))
  replace d3 := Gc hC7 d3 (HNN.out _ (by omega) (by omega))
  replace d4 := Gc hC7 d4 (HNN.out _ (by omega) (by omega))
  replace Y0 := Gf hC7 (Lc Z0) Y0 (HNN.out _ (by omega) (by omega)); replace Z0 := Gc hC7 Z0 (HNN.out _ (by omega) (by omega))
  replace Y1 := Gf hC7 (Lc Z1) Y1 (HNN.out _ (by omega) (by omega)); replace Z1 := Gc hC7 Z1 (HNN.out _ (by omega) (by omega))
  replace Y2 := Gf hC7 (Lc Z2) Y2 (HNN.out _ (by omega) (by omega)); replace Z2 := Gc hC7 Z2 (HNN.out _ (by omega) (by omega))
  replace Y3 := Gf hC7 (Lc Z3) Y3 (HNN.out _ (by omega) (by omega)); replace Z3 := Gc hC7 Z3 (HNN.out _ (by omega) (by omega))
  have hz7 := hC7.size
  clear H hC7 hg7 oe oe2
  clear yR fyR HNN HMM
  have HMO : Hid (mov ⟨11, (na : Int), i2, i3, d⟩ (rs) k = (k : Int) + 1) := Lib.hid (by simp [mov])
  have HR2 := Lib.hid (Ro H7.own.r (by first | omega | (simp; omega)))
  have qc := H7.c0; have kqc := Lc qc
  have hgR : ¬ ge = (w.heap.size + 1 + 1) := HGE.out _ (by omega) (by have := Lc Z0; omega)
  go_wp2_with fail
  refine (l6Move_any (11) ((na : Int)) (i2) (i3) (d) _ (rs) k _ HR2.out (by omega) (by first | omega | (simp; done) | (simp; omega))).mono ?_
  rintro e w9 ⟨rfl, hb9⟩
  rw [HMO.out]
  have H9 := H7.keep hb9; have hz9 := hb9.size
  replace Y0 := Kf hb9 (Lc Z0) Y0; replace Z0 := Kc hb9 Z0
  replace Y1 := Kf hb9 (Lc Z1) Y1; replace Z1 := Kc hb9 Z1
  replace Y2 := Kf hb9 (Lc Z2) Y2; replace Z2 := Kc hb9 Z2
  replace Y3 := Kf hb9 (Lc Z3) Y3; replace Z3 := Kc hb9 Z3
  have hRb : ¬ (w.heap.size + 1 + 1) = (w.heap.size + 1) := by omega
  have FR := Lib.hid (H9.ret4 ((k : Int) + 1) (w.heap.size + 1 + 1) (by omega) (fun h => by have := HPI.out _ h; omega) (fun h => hgR (Option.some.inj h)) (.int .i64 ((k : Int) + 1)) (.slice (some ⟨g, 0, none⟩) rs.length cr) (.slice pv vals.length cv) (.slice pA arrs.length cA))
  obtain ⟨x0, x1, x2, x3⟩ := cells4 (y := .int .i64 ((k : Int) + 1)) hRb Z0 Z1 Z2 Z3 (.int .i64 ((k : Int) + 1)) (.slice (some ⟨g, 0, none⟩) rs.length cr) (.slice pv vals.length cv) (.slice pA arrs.length cA)
  have q0 := H9.c0; have qf := H9.f0; have kq := Lc q0
  have FO := (H9.fin ((k : Int) + 1)).2.1
  have t0 := FO.c0; have t1 := FO.c1; have t2 := FO.c2; have t3 := FO.c3
  have HEB := Lib.hid H9.eb
  have s0 := Nc (b := (w.heap.size + 1)) (j := 0) Z0 (by omega) (.int .i64 ((k : Int) + 1)); have sf0 := Fs (b := ⟨(w.heap.size + 1), 0, none⟩) Y0 (.int .i64 ((k : Int) + 1))
  have s1 := Nc (b := (w.heap.size + 1)) (j := 0) Z1 (by omega) (.int .i64 ((k : Int) + 1)); have sf1 := Fs (b := ⟨(w.heap.size + 1), 0, none⟩) Y1 (.int .i64 ((k : Int) + 1))
  have s2 := Nc (b := (w.heap.size + 1)) (j := 0) Z2 (by omega) (.int .i64 ((k : Int) + 1)); have sf2 := Fs (b := ⟨(w.heap.size + 1), 0, none⟩) Y2 (.int .i64 ((k : Int) + 1))
  have s3 := Nc (b := (w.heap.size + 1)) (j := 0) Z3 (by omega) (.int .i64 ((k : Int) + 1)); have sf3 := Fs (b := ⟨(w.heap.size + 1), 0, none⟩) Y3 (.int .i64 ((k : Int) + 1))
  have kR := Lc Z0
  clear H7 H9 FO Z0 Z1 Z2 Z3 Y0 Y1 Y2 Y3 hb9 HR2 HMO qc kqc
  go_wp2
  exact bodyPost_ret (v := .tuple #[.agg #[.int .i64 ((k : Int) + 1), (.slice (some ⟨g, 0, none⟩) rs.length cr), (.slice pv vals.length cv), (.slice pA arrs.length cA)], .slice (some ⟨ge, 0, none⟩) (E.length + 1 + 1) ce]) (by simp [results, Try.results75, go_sem, x0, x1, x2, x3]) rfl (by rw [HTT.out, HEE.out]; exact ⟨_, rfl, FR.out.1, by have h := FR.out.2.1; simpa [List.append_assoc] using h, fun q hq => ⟨(HEB.out q hq).2.1, by rcases (HEB.out q hq).2.2 with h | h; exact h.elim (fun h => absurd h (HEB.out q hq).2.1) Or.inl; exact Or.inr h⟩, FR.out.2.2⟩)
 ·-- next
  clear P1 P2 P3 P4 P5 P6 P7 P8 P9 P10 P11
  have HTT : Hid (T = ⟨(k : Int) + 1, rs, ⟨vals, arrs⟩⟩) := Lib.hid (by rw [← HT.out]; simp [stp, stPc, stRegs, stMem])
  have HEE : Hid (EE = [((5 : Int), (k : Int))]) := Lib.hid (by rw [← HE.out]; simp [stEvs])
  clear HT HE
  have HMO : Hid (mov ⟨12, a, i2, i3, d⟩ (rs) k = (k : Int) + 1) := Lib.hid (by simp [mov])
  have HR2 := Lib.hid (Ro H.own.r (by first | omega | (simp; omega)))
  have qc := H.c0; have kqc := Lc qc
  have hgR : ¬ g0 = (w.heap.size + 1 + 1) := HG0.out _ (by omega) (by have := Lc Z0; omega)
  go_wp2_with fail
  refine (l6Move_any (12) (a) (i2) (i3) (d) _ (rs) k _ HR2.out (by omega) (by first | omega | (simp; done) | (simp; omega))).mono ?_
  rintro e w9 ⟨rfl, hb9⟩
  rw [HMO.out]
  have H9 := H.keep hb9; have hz9 := hb9.size
  replace Y0 := Kf hb9 (Lc Z0) Y0; replace Z0 := Kc hb9 Z0
  replace Y1 := Kf hb9 (Lc Z1) Y1; replace Z1 := Kc hb9 Z1
  replace Y2 := Kf hb9 (Lc Z2) Y2; replace Z2 := Kc hb9 Z2
  replace Y3 := Kf hb9 (Lc Z3) Y3; replace Z3 := Kc hb9 Z3
  have hRb : ¬ (w.heap.size + 1 + 1) = (w.heap.size + 1) := by omega
  have FR := Lib.hid (H9.ret4 ((k : Int) + 1) (w.heap.size + 1 + 1) (by omega) (fun h => by have := HPI.out _ h; omega) (fun h => hgR (Option.some.inj h)) (.int .i64 ((k : Int) + 1)) (.slice (some ⟨g, 0, none⟩) rs.length cr) (.slice pv vals.length cv) (.slice pA arrs.length cA))
  obtain ⟨x0, x1, x2, x3⟩ := cells4 (y := .int .i64 ((k : Int) + 1)) hRb Z0 Z1 Z2 Z3 (.int .i64 ((k : Int) + 1)) (.slice (some ⟨g, 0, none⟩) rs.length cr) (.slice pv vals.length cv) (.slice pA arrs.length cA)
  have q0 := H9.c0; have qf := H9.f0; have kq := Lc q0
  have FO := (H9.fin ((k : Int) + 1)).2.1
  have t0 := FO.c0; have t1 := FO.c1; have t2 := FO.c2; have t3 := FO.c3
  have HEB := Lib.hid H9.eb
  have s0 := Nc (b := (w.heap.size + 1)) (j := 0) Z0 (by omega) (.int .i64 ((k : Int) + 1)); have sf0 := Fs (b := ⟨(w.heap.size + 1), 0, none⟩) Y0 (.int .i64 ((k : Int) + 1))
  have s1 := Nc (b := (w.heap.size + 1)) (j := 0) Z1 (by omega) (.int .i64 ((k : Int) + 1)); have sf1 := Fs (b := ⟨(w.heap.size + 1), 0, none⟩) Y1 (.int .i64 ((k : Int) + 1))
  have s2 := Nc (b := (w.heap.size + 1)) (j := 0) Z2 (by omega) (.int .i64 ((k : Int) + 1)); have sf2 := Fs (b := ⟨(w.heap.size + 1), 0, none⟩) Y2 (.int .i64 ((k : Int) + 1))
  have s3 := Nc (b := (w.heap.size + 1)) (j := 0) Z3 (by omega) (.int .i64 ((k : Int) + 1)); have sf3 := Fs (b := ⟨(w.heap.size + 1), 0, none⟩) Y3 (.int .i64 ((k : Int) + 1))
  have kR := Lc Z0
  clear H H9 FO Z0 Z1 Z2 Z3 Y0 Y1 Y2 Y3 hb9 HR2 HMO qc kqc
  go_wp2
  exact bodyPost_ret (v := .tuple #[.agg #[.int .i64 ((k : Int) + 1), (.slice (some ⟨g, 0, none⟩) rs.length cr), (.slice pv vals.length cv), (.slice pA arrs.length cA)], .slice (some ⟨g0, 0, none⟩) (E.length + 1) cc0]) (by simp [results, Try.results75, go_sem, x0, x1, x2, x3]) rfl (by rw [HTT.out, HEE.out]; exact ⟨_, rfl, FR.out.1, by have h := FR.out.2.1; simpa [List.append_assoc] using h, fun q hq => ⟨(HEB.out q hq).2.1, by rcases (HEB.out q hq).2.2 with h | h; exact h.elim (fun h => absurd h (HEB.out q hq).2.1) Or.inl; exact Or.inr h⟩, FR.out.2.2⟩)
 ·-- next
  clear P1 P2 P3 P4 P5 P6 P7 P8 P9 P10 P11
  have HTT : Hid (T = ⟨(k : Int), rs, ⟨vals, arrs⟩⟩) := Lib.hid (by rw [← HT.out]; simp [stp, stPc, stRegs, stMem])
  have HEE : Hid (EE = [((5 : Int), (k : Int))]) := Lib.hid (by rw [← HE.out]; simp [stEvs])
  clear HT HE
  have HMO : Hid (mov ⟨13, a, i2, i3, d⟩ (rs) k = (k : Int)) := Lib.hid (by simp [mov])
  have HR2 := Lib.hid (Ro H.own.r (by first | omega | (simp; omega)))
  have qc := H.c0; have kqc := Lc qc
  have hgR : ¬ g0 = (w.heap.size + 1 + 1) := HG0.out _ (by omega) (by have := Lc Z0; omega)
  go_wp2_with fail
  refine (l6Move_any (13) (a) (i2) (i3) (d) _ (rs) k _ HR2.out (by omega) (by first | omega | (simp; done) | (simp; omega))).mono ?_
  rintro e w9 ⟨rfl, hb9⟩
  rw [HMO.out]
  have H9 := H.keep hb9; have hz9 := hb9.size
  replace Y0 := Kf hb9 (Lc Z0) Y0; replace Z0 := Kc hb9 Z0
  replace Y1 := Kf hb9 (Lc Z1) Y1; replace Z1 := Kc hb9 Z1
  replace Y2 := Kf hb9 (Lc Z2) Y2; replace Z2 := Kc hb9 Z2
  replace Y3 := Kf hb9 (Lc Z3) Y3; replace Z3 := Kc hb9 Z3
  have hRb : ¬ (w.heap.size + 1 + 1) = (w.heap.size + 1) := by omega
  have FR := Lib.hid (H9.ret4 ((k : Int)) (w.heap.size + 1 + 1) (by omega) (fun h => by have := HPI.out _ h; omega) (fun h => hgR (Option.some.inj h)) (.int .i64 ((k : Int))) (.slice (some ⟨g, 0, none⟩) rs.length cr) (.slice pv vals.length cv) (.slice pA arrs.length cA))
  obtain ⟨x0, x1, x2, x3⟩ := cells4 (y := .int .i64 ((k : Int))) hRb Z0 Z1 Z2 Z3 (.int .i64 ((k : Int))) (.slice (some ⟨g, 0, none⟩) rs.length cr) (.slice pv vals.length cv) (.slice pA arrs.length cA)
  have q0 := H9.c0; have qf := H9.f0; have kq := Lc q0
  have FO := (H9.fin ((k : Int))).2.1
  have t0 := FO.c0; have t1 := FO.c1; have t2 := FO.c2; have t3 := FO.c3
  have HEB := Lib.hid H9.eb
  have s0 := Nc (b := (w.heap.size + 1)) (j := 0) Z0 (by omega) (.int .i64 ((k : Int))); have sf0 := Fs (b := ⟨(w.heap.size + 1), 0, none⟩) Y0 (.int .i64 ((k : Int)))
  have s1 := Nc (b := (w.heap.size + 1)) (j := 0) Z1 (by omega) (.int .i64 ((k : Int))); have sf1 := Fs (b := ⟨(w.heap.size + 1), 0, none⟩) Y1 (.int .i64 ((k : Int)))
  have s2 := Nc (b := (w.heap.size + 1)) (j := 0) Z2 (by omega) (.int .i64 ((k : Int))); have sf2 := Fs (b := ⟨(w.heap.size + 1), 0, none⟩) Y2 (.int .i64 ((k : Int)))
  have s3 := Nc (b := (w.heap.size + 1)) (j := 0) Z3 (by omega) (.int .i64 ((k : Int))); have sf3 := Fs (b := ⟨(w.heap.size + 1), 0, none⟩) Y3 (.int .i64 ((k : Int)))
  have kR := Lc Z0
  clear H H9 FO Z0 Z1 Z2 Z3 Y0 Y1 Y2 Y3 hb9 HR2 HMO qc kqc
  go_wp2
  exact bodyPost_ret (v := .tuple #[.agg #[.int .i64 ((k : Int)), (.slice (some ⟨g, 0, none⟩) rs.length cr), (.slice pv vals.length cv), (.slice pA arrs.length cA)], .slice (some ⟨g0, 0, none⟩) (E.length + 1) cc0]) (by simp [results, Try.results75, go_sem, x0, x1, x2, x3]) rfl (by rw [HTT.out, HEE.out]; exact ⟨_, rfl, FR.out.1, by have h := FR.out.2.1; simpa [List.append_assoc] using h, fun q hq => ⟨(HEB.out q hq).2.1, by rcases (HEB.out q hq).2.2 with h | h; exact h.elim (fun h => absurd h (HEB.out q hq).2.1) Or.inl; exact Or.inr h⟩, FR.out.2.2⟩)
end Go.Proofs.Ytkjedgnepnbkpaa
