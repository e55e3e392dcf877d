/-
 Parts of the proof of the law FnSpecPath.
-/
import Derived.Test.YtkjedgnepnbkpaaMT
import Derived.Test.YtkjedgnepnbkpaaVP
import Derived.Test.YtkjedgnepnbkpaaZ
set_option linter.all false
namespace Go.Proofs.Ytkjedgnepnbkpaa
open Go.RowKit

set_option maxHeartbeats 25600000 in
set_option maxRecDepth 100000 in
theorem step_1_5 (b base : Nat) (va vb vc vr vv vA : Value) (us : List Value) (c : Cd) (s : Ms) (w : World) (hr : ReadsC w va vb vc c) (hS : OwnS w base b vr vv vA us s) (hM : MsOk c s) (hok : codeOk c = true) (hlo : 1 ≤ (insAt c s.pc).op ∧ (insAt c s.pc).op ≤ 5) :
  Calls Try.prog 68 #[.pointer (some ⟨b, 0, none⟩), .agg #[va, vb, vc]] w fun e w' => ∃ u, e = .returned u ∧ w'.ownsRow w.heap.size 47 2 u (stEvs (insAt c s.pc) s).length (evs (stEvs (insAt c s.pc) s)) ∧ OwnS w' base b vr vv vA us (stp (insAt c s.pc) s) ∧ Chg (fun q => q = b ∨ OwnMB vr vv vA us q) w w' := by
 obtain ⟨a0, c0, a1, c1, a2, c2, rfl, rfl, rfl⟩ := hr.shape
 obtain ⟨pc, rs, vals, arrs⟩ := s
 obtain ⟨pc0, pc1, hrl, hrv, hmo⟩ := hM
 simp only at pc0 pc1 hrl hrv hmo
 obtain ⟨k, rfl⟩ : ∃ k : Nat, pc = k := ⟨pc.toNat, by omega⟩
 have hk : k < c.list.length := by omega
 obtain ⟨l1, l2⟩ := codeOk_len hok
 obtain ⟨l3, l4⟩ := declOk_len (codeOk_decl hok)
 have hins := codeOk_all hok k hk
 have hat : insAt c (k : Int) = c.list[k] := by unfold insAt; rw [Int.toNat_natCast, List.getElem?_eq_getElem hk]; rfl
 simp only at hlo ⊢
 rw [hat] at hlo ⊢
 clear hat
 obtain ⟨m1, m2, m3, m4⟩ := memOk_parts hmo
 simp only at m1 m2 m3 m4
 obtain ⟨C0, C1, C2, C3, F0, own, ob⟩ := hS
 simp only at C0
 obtain ⟨g, cr, rfl⟩ := own_pos own.r (by simp only; omega)
 obtain ⟨pv, cv, rfl⟩ := Oh own.v
 obtain ⟨pA, cA, rfl⟩ := Oh own.a.out
 simp only at own C1 C2 C3 ob
 have HRG := Lib.hid (fun i => gi_range hrv i)
 have HM1 := Lib.hid m1; have HM2 := Lib.hid m2; have HM4 := Lib.hid m4
 have hrr := hr.l
 obtain ⟨_, hn, aa, cap, b', off, hv, hcap, ha, hca⟩ := hrr
 simp only [Value.slice.injEq, true_and] at hv
 obtain ⟨rfl, rfl⟩ := hv
 obtain ⟨rfl, hbs⟩ := ha (by omega)
 obtain ⟨e0, e1, e2, e3, e4⟩ := reads_Instr hca k hk
 have hq : (k : Int) < (c.list.length : Int) := by omega
 have hrs1 : 14 ≤ rs.length := by omega
 have hrs2 : rs.length ≤ 14 := by omega
 have hv1 : c.vars.length ≤ vals.length := by omega
 have hv2 : vals.length ≤ 12 := by omega
 have ha1 : c.arrays.length ≤ arrs.length := by omega
 have ha2 : arrs.length ≤ 2 := by omega
 generalize c.list[k] = x at *
 have HIN := Lib.hid hins
 generalize hT : stp x ⟨(k : Int), rs, ⟨vals, arrs⟩⟩ = T
 generalize hE : stEvs x ⟨(k : Int), rs, ⟨vals, arrs⟩⟩ = EE
 have HT := Lib.hid hT; have HE := Lib.hid hE
 clear hT hE hins hmo hrl hrv m1 m2 m3 m4 hca ha hr hcap hn
 obtain ⟨w1, hw1⟩ : ∃ X, X = w.alloc (.cells #[.slice a0 c.vars.length c0, .slice a1 c.arrays.length c1, .slice (some ⟨b', off, none⟩) c.list.length c2] 26) := ⟨_, rfl⟩
 have hb1 : Below w.heap.size w w1 := by rw [hw1]; exact bal (Bs w) _
 have r2 : w1.cell? ⟨w.heap.size, 2, none⟩ = some (.slice (some ⟨b', off, none⟩) c.list.length c2) := by rw [hw1]; exact Wc rfl rfl
 have HW := Lib.hid hw1
 clear hw1
 replace e0 := Kc hb1 e0
 replace e1 := Kc hb1 e1
 replace e2 := Kc hb1 e2
 replace e3 := Kc hb1 e3
 replace e4 := Kc hb1 e4
 have lC := Lc C0
 replace F0 := Kf hb1 lC F0
 replace C0 := Kc hb1 C0; replace C1 := Kc hb1 C1; replace C2 := Kc hb1 C2; replace C3 := Kc hb1 C3
 have ilt := own.lt
 replace own := own.below hb1
 have k0 := Lc r2
 have k1 := Lc e0
 have k2 := Lc C0
 go_enter Try.func68, Try.ntmps68
 go_upto_region 1 with (fail)
 rw [← HW.out]
 clear HW
 go_region
 go_upto_region 4 with (fail)
 obtain ⟨op, a, i2, i3, d⟩ := x
 simp only at e0 e1 e2 e3 e4 hlo ⊢
 obtain ⟨w5, hw5⟩ : ∃ X, X = (World.drew ((w1.alloc (.cells #[.int .i64 op, .int .i64 a, .int .i64 i2, .int .i64 i3, .int .i64 d] 32)).alloc (.cells #[.int .i64 5, .int .i64 k] 47))) := ⟨_, rfl⟩
 rw [← hw5]
 have hz5 : w1.heap.size + 2 = w5.heap.size := by rw [hw5]; simp
 have hb5 : Below w1.heap.size w1 w5 := by rw [hw5]; exact Below.drew (bal (bal (Bs w1) _) _)
 have d0 : w5.cell? ⟨w1.heap.size, 0, none⟩ = some (.int .i64 op) := by rw [hw5]; exact Kc (Below.drew (Bs _)) (Ac (Wc rfl rfl) _)
 have d1 : w5.cell? ⟨w1.heap.size, 1, none⟩ = some (.int .i64 a) := by rw [hw5]; exact Kc (Below.drew (Bs _)) (Ac (Wc rfl rfl) _)
 have d2 : w5.cell? ⟨w1.heap.size, 2, none⟩ = some (.int .i64 i2) := by rw [hw5]; exact Kc (Below.drew (Bs _)) (Ac (Wc rfl rfl) _)
 have d3 : w5.cell? ⟨w1.heap.size, 3, none⟩ = some (.int .i64 i3) := by rw [hw5]; exact Kc (Below.drew (Bs _)) (Ac (Wc rfl rfl) _)
 have d4 : w5.cell? ⟨w1.heap.size, 4, none⟩ = some (.int .i64 d) := by rw [hw5]; exact Kc (Below.drew (Bs _)) (Ac (Wc rfl rfl) _)
 have oE : w5.ownsRow w.heap.size 47 2 (.slice (some ⟨w1.heap.size + 1, 0, none⟩) 1 1) 1 (evs [(5, (k : Int))]) := by
  rw [hw5]
  have h := own_evt (w1.alloc (.cells #[.int .i64 op, .int .i64 a, .int .i64 i2, .int .i64 i3, .int .i64 d] 32)) 5 k
  simp only [Sa] at h
  exact Om (Ob h (Below.drew (Bs _))) (by omega)
 have H : StepW (fun q => q = b ∨ OwnMB (.slice (some ⟨g, 0, none⟩) rs.length cr) (.slice pv vals.length cv) (.slice pA arrs.length cA) us q) w w5 base b (.slice (some ⟨g, 0, none⟩) rs.length cr) (.slice pv vals.length cv) (.slice pA arrs.length cA) us rs ⟨vals, arrs⟩ w.heap.size (.slice (some ⟨w1.heap.size + 1, 0, none⟩) 1 1) [(5, (k : Int))] k :=
  ⟨Kc hb5 C0, Kc hb5 C1, Kc hb5 C2, Kc hb5 C3, Kf hb5 k2 F0, own.below hb5, ob, oE, fun q e => by
   have e2 : w1.heap.size + 1 = q := Option.some.inj e
   refine ⟨by omega, fun h2 => by have := ilt q h2; omega, Or.inr (by omega)⟩, Or.inl (Or.inl rfl), fun q h => Or.inr h, (Chg.of_below (btr hb1 hb5))⟩
 clear hw5 e0 e1 e2 e3 e4 C0 C1 C2 C3 F0 own oE hb5 hb1 hz5 r2
 have kX := Lc d0
 obtain ⟨P1, P2, P3, P4, P5, P6, P7, P8, P9, P10, P11⟩ := ins_parts HIN.out
 have hop := insOk_op HIN.out
 simp only at hop
 have hgb : ¬ g = b := fun e => ob (e ▸ Or.inl rfl)
 have lX : ∀ q, OwnMB (.slice (some ⟨g, 0, none⟩) rs.length cr) (.slice pv vals.length cv) (.slice pA arrs.length cA) us q → q < w1.heap.size := fun q h => by have := ilt q h; omega
 have hgX := lX g (Or.inl rfl)
 have HPI := Lib.hid lX
 have hopc : op = 1 ∨ op = 2 ∨ op = 3 ∨ op = 4 ∨ op = 5 := by omega
 clear hop hlo lX ob hbs lC ilt k0 k1
 rcases hopc with rfl | rfl | rfl | rfl | rfl
 ·-- next
  obtain ⟨⟨p1, p2⟩, p3, p4⟩ := P1 rfl
  clear P1 P2 P3 P4 P5 P6 P7 P8 P9 P10 P11
  obtain ⟨na, rfl⟩ : ∃ n : Nat, a = n := ⟨a.toNat, by omega⟩
  have HTT : Hid (T = ⟨(k : Int) + 1, rs.set na i2, ⟨vals, arrs⟩⟩) := Lib.hid (by rw [← HT.out]; simp [stp, stPc, stRegs, stMem])
  have HEE : Hid (EE = [(5, (k : Int))]) := Lib.hid (by rw [← HE.out]; simp [stEvs])
  clear HT HE
  have yR := H.own.regAt na (by omega); have fyR := H.own.r.frozenAt na; have kyR := Lc yR; have byR : (na : Int) < (rs.length : Int) := by omega
  have H2 := H.reg na i2
  clear H
  have FI := Lib.hid (H2.fin ((k : Int) + 1))
  have C0 := H2.c0; have F0 := H2.f0; have K0 := Lc C0
  clear H2
  go_wp2
  go_ret
  exact ⟨_, rfl, by rw [HEE.out]; exact FI.out.1, by rw [HTT.out]; exact FI.out.2.1, FI.out.2.2⟩
 ·-- next
  obtain ⟨⟨p1, p2⟩, p3, p4⟩ := P2 rfl
  clear P1 P2 P3 P4 P5 P6 P7 P8 P9 P10 P11
  obtain ⟨na, rfl⟩ : ∃ n : Nat, a = n := ⟨a.toNat, by omega⟩
  obtain ⟨nb, rfl⟩ : ∃ n : Nat, i2 = n := ⟨i2.toNat, by omega⟩
  have HTT : Hid (T = ⟨(k : Int) + 1, rs.set na (gi vals nb), ⟨vals, arrs⟩⟩) := Lib.hid (by rw [← HT.out]; simp [stp, stPc, stRegs, stMem])
  have HEE : Hid (EE = [(5, (k : Int))]) := Lib.hid (by rw [← HE.out]; simp [stEvs])
  clear HT HE
  obtain ⟨gv, cv2, hv⟩ := own_pos H.own.v (by simp only; omega)
  simp only [Value.slice.injEq, true_and] at hv
  obtain ⟨rfl, rfl⟩ := hv
  have yR := H.own.regAt na (by omega); have fyR := H.own.r.frozenAt na; have kyR := Lc yR; have byR : (na : Int) < (rs.length : Int) := by omega
  have yV := H.own.valAt nb (by simp only; omega); have kV := Lc yV; have bV : (nb : Int) < (vals.length : Int) := by omega
  simp only at yV
  generalize gi vals nb = z at *
  have D2 := H.c2
  go_upto_region 8 with (fail)
  refine wp_region_still_tail 13 (by kernel_rfl) (by kernel_rfl) ?_
  simp only [List.take_succ_cons, List.take_zero, List.drop_succ_cons, List.drop_zero]
  repeat still_step
  refine wpStill_nil ?_
  change wpList _ _ _ _ _ (World.drew w5)
  have HD := H.drew; clear H
  obtain ⟨wd, hwd⟩ : ∃ X, X = World.drew w5 := ⟨_, rfl⟩
  rw [← hwd] at HD ⊢
  have yQ := HD.own.regAt na (by omega)
  have fQ := HD.own.r.frozenAt na
  have kQ := Lc yQ
  have H2 := HD.reg na z
  clear HD hwd D2 yR fyR yV
  have FI := Lib.hid (H2.fin ((k : Int) + 1))
  have C0 := H2.c0; have F0 := H2.f0; have K0 := Lc C0
  clear H2
  go_wp2
  go_ret
  exact ⟨_, rfl, by rw [HEE.out]; exact FI.out.1, by rw [HTT.out]; exact FI.out.2.1, FI.out.2.2⟩
 ·-- next
  obtain ⟨⟨p1, p2⟩, p3, p4⟩ := P3 rfl
  clear P1 P2 P3 P4 P5 P6 P7 P8 P9 P10 P11
  obtain ⟨na, rfl⟩ : ∃ n : Nat, a = n := ⟨a.toNat, by omega⟩
  obtain ⟨nb, rfl⟩ : ∃ n : Nat, i2 = n := ⟨i2.toNat, by omega⟩
  have HTT : Hid (T = ⟨(k : Int) + 1, rs, ⟨vals.set na (gi rs nb), arrs⟩⟩) := Lib.hid (by rw [← HT.out]; simp [stp, stPc, stRegs, stMem])
  have HEE : Hid (EE = [(5, (k : Int))]) := Lib.hid (by rw [← HE.out]; simp [stEvs])
  clear HT HE
  obtain ⟨gv, cv2, hv⟩ := own_pos H.own.v (by simp only; omega)
  simp only [Value.slice.injEq, true_and] at hv
  obtain ⟨rfl, rfl⟩ := hv
  have yR := H.own.regAt nb (by omega); have fyR := H.own.r.frozenAt nb; have kyR := Lc yR; have byR : (nb : Int) < (rs.length : Int) := by omega
  have yV := H.own.valAt na (by simp only; omega); have fV := H.own.v.frozenAt na; have kV := Lc yV; have bV : (na : Int) < (vals.length : Int) := by omega
  generalize gi rs nb = z at *
  have D2 := H.c2
  go_upto_region 10 with (fail)
  refine wp_region_still_tail 13 (by kernel_rfl) (by kernel_rfl) ?_
  simp only [List.take_succ_cons, List.take_zero, List.drop_succ_cons, List.drop_zero]
  repeat still_step
  refine wpStill_nil ?_
  change wpList _ _ _ _ _ (World.drew w5)
  have HD := H.drew; clear H
  obtain ⟨wd, hwd⟩ : ∃ X, X = World.drew w5 := ⟨_, rfl⟩
  rw [← hwd] at HD ⊢
  have yQ := HD.own.valAt na (by simp only; omega)
  have fQ := HD.own.v.frozenAt na
  have kQ := Lc yQ
  have H2 := HD.val na z
  clear HD hwd D2 yR fyR yV fV
  have FI := Lib.hid (H2.fin ((k : Int) + 1))
  have C0 := H2.c0; have F0 := H2.f0; have K0 := Lc C0
  clear H2
  go_wp2
  go_ret
  exact ⟨_, rfl, by rw [HEE.out]; exact FI.out.1, by rw [HTT.out]; exact FI.out.2.1, FI.out.2.2⟩
 ·-- next
  obtain ⟨⟨p1, p2⟩, ⟨p3, p4⟩, p5, p6⟩ := P4 rfl
  clear P1 P2 P3 P4 P5 P6 P7 P8 P9 P10 P11
  obtain ⟨na, rfl⟩ : ∃ n : Nat, a = n := ⟨a.toNat, by omega⟩
  obtain ⟨nb, rfl⟩ : ∃ n : Nat, i2 = n := ⟨i2.toNat, by omega⟩
  obtain ⟨nc, rfl⟩ : ∃ n : Nat, i3 = n := ⟨i3.toNat, by omega⟩
  have hg4 : (gr arrs nb).length = 4 := by unfold gr; rw [Int.toNat_natCast, List.getElem?_eq_getElem (by omega)]; exact (HM4.out _ (List.getElem_mem _)).1
  obtain ⟨gA, cA2, hv⟩ := own_pos H.own.a.out (by simp only; omega)
  simp only [Value.slice.injEq, true_and] at hv
  obtain ⟨rfl, rfl⟩ := hv
  obtain ⟨ga, ca, A1, A2, A3⟩ := H.own.arrAt nb (by simp only; omega) hg4
  clear hg4
  have hrg := HRG.out (nc : Int)
  have yC := H.own.regAt nc (by omega); have fyC := H.own.r.frozenAt nc; have kyC := Lc yC; have byC : (nc : Int) < (rs.length : Int) := by omega
  obtain ⟨v, hv⟩ : ∃ v : Nat, gi rs nc = v := ⟨(gi rs nc).toNat, by omega⟩
  have HTT : Hid (T = ⟨(k : Int) + 1, rs.set na (gi (gr arrs nb) ((v % 4 : Nat) : Int)), ⟨vals, arrs⟩⟩) := Lib.hid (by rw [← HT.out]; simp [stp, stPc, stRegs, stMem, hv])
  have HEE : Hid (EE = [(5, (k : Int)), (2, adr nb v)]) := Lib.hid (by rw [← HE.out]; simp [stEvs, hv])
  clear HT HE
  rw [hv] at yC hrg
  obtain ⟨j, hj⟩ : ∃ j : Nat, v % 4 = j := ⟨_, rfl⟩
  have hj4 : j < 4 := by omega
  have hjm : (v : Int).tmod 4 = (j : Int) := by rw [Int.tmod_eq_emod_of_nonneg (by omega)]; omega
  have hj5 : (j : Int) < 4 := by omega
  rw [hj] at HTT
  obtain ⟨A4, A5⟩ := A3 j hj4
  clear hj
  generalize gi (gr arrs nb) (j : Int) = z at *
  have kga := HPI.out ga (Or.inr (Or.inr (Or.inr ⟨nb, _, A2, rfl⟩)))
  clear A3 A2 hv
  go_wp2_with fail
  refine (address_any nb v _ (by omega) (by omega)).mono ?_
  rintro e w6 ⟨rfl, rfl⟩
  clear yC fyC
  have kgA := HPI.out gA (Or.inr (Or.inr (Or.inl rfl)))
  go_wp2_with (at_builtin; refine wpList_ap tEvs rfl _ _ rfl w.heap.size _ 1 _ rfl H.ev [.int .i64 2, .int .i64 (adr nb v)] rfl rfl (one_ev _ _) (by omega) H.chg.size ?_)
  intro ge ce w7 oe hC7 hg7
  have H7 := H.event (e := (2, adr nb v)) oe hC7 (fun q hq => by have e3 : ge = q := Option.some.inj hq; subst e3; exact hg7)
  have HN := Lib.hid (fun q (h : q < w1.heap.size + 1) (e : (Value.slice (some ⟨w1.heap.size + 1, 0, none⟩) 1 1).ownBlock = some q) => show False from by have e2 : w1.heap.size + 1 = q := Option.some.inj e; omega)
  replace d0 := Gc hC7 d0 (HN.out _ (by omega))
  replace d1 := Gc hC7 d1 (HN.out _ (by omega))
  replace d2 := Gc hC7 d2 (HN.out _ (by omega))
  replace d3 := Gc hC7 d3 (HN.out _ (by omega))
  replace d4 := Gc hC7 d4 (HN.out _ (by omega))
  replace A1 := Gc hC7 A1 (HN.out _ (by omega))
  replace A4 := Gc hC7 A4 (HN.out _ (by omega))
  have hz7 := hC7.size
  clear H hC7 hg7 oe HN
  have yR := H7.own.regAt na (by omega); have fyR := H7.own.r.frozenAt na; have kyR := Lc yR; have byR : (na : Int) < (rs.length : Int) := by omega
  have D3 := H7.c3; have K3 := Lc D3; have KA1 := Lc A1; have KA4 := Lc A4; have bA : (nb : Int) < (arrs.length : Int) := by omega
  go_upto_region 14 with (fail)
  refine wp_region_still_tail 17 (by kernel_rfl) (by kernel_rfl) ?_
  simp only [List.take_succ_cons, List.take_zero, List.drop_succ_cons, List.drop_zero]
  repeat still_step
  refine wpStill_nil ?_
  change wpList _ _ _ _ _ (World.drew w7)
  have HD := H7.drew; clear H7
  obtain ⟨wd, hwd⟩ : ∃ X, X = World.drew w7 := ⟨_, rfl⟩
  rw [← hwd] at HD ⊢
  have yQ := HD.own.regAt na (by omega)
  have fQ := HD.own.r.frozenAt na
  have kQ := Lc yQ
  have H2 := HD.reg na z
  clear HD hwd D3 yR fyR A1 A4
  have FI := Lib.hid (H2.fin ((k : Int) + 1))
  have C0 := H2.c0; have F0 := H2.f0; have K0 := Lc C0
  clear H2
  go_wp2
  go_ret
  exact ⟨_, rfl, by rw [HEE.out]; exact FI.out.1, by rw [HTT.out]; exact FI.out.2.1, FI.out.2.2⟩
 ·-- next
  obtain ⟨⟨p1, p2⟩, ⟨p3, p4⟩, p5, p6⟩ := P5 rfl
  clear P1 P2 P3 P4 P5 P6 P7 P8 P9 P10 P11
  obtain ⟨na, rfl⟩ : ∃ n : Nat, a = n := ⟨a.toNat, by omega⟩
  obtain ⟨nb, rfl⟩ : ∃ n : Nat, i2 = n := ⟨i2.toNat, by omega⟩
  obtain ⟨nc, rfl⟩ : ∃ n : Nat, i3 = n := ⟨i3.toNat, by omega⟩
  have hg4 : (gr arrs na).length = 4 := by unfold gr; rw [Int.toNat_natCast, List.getElem?_eq_getElem (by omega)]; exact (HM4.out _ (List.getElem_mem _)).1
  obtain ⟨gA, cA2, hv⟩ := own_pos H.own.a.out (by simp only; omega)
  simp only [Value.slice.injEq, true_and] at hv
  obtain ⟨rfl, rfl⟩ := hv
  obtain ⟨ga, ca, A1, A2, A3⟩ := H.own.arrAt na (by simp only; omega) hg4
  clear hg4
  have hrg := HRG.out (nb : Int)
  have yC := H.own.regAt nb (by omega); have fyC := H.own.r.frozenAt nb; have kyC := Lc yC; have byC : (nb : Int) < (rs.length : Int) := by omega
  obtain ⟨v, hv⟩ : ∃ v : Nat, gi rs nb = v := ⟨(gi rs nb).toNat, by omega⟩
  have hmod : ((v : Int) % 4).toNat = v % 4 := by omega
  have HTT : Hid (T = ⟨(k : Int) + 1, rs, ⟨vals, arrs.set na ((gr arrs na).set (v % 4) (gi rs nc))⟩⟩) := Lib.hid (by rw [← HT.out]; simp [stp, stPc, stRegs, stMem, hv, hmod])
  have HEE : Hid (EE = [(5, (k : Int)), (3, adr na v)]) := Lib.hid (by rw [← HE.out]; simp [stEvs, hv])
  clear HT HE
  rw [hv] at yC hrg
  obtain ⟨j, hj⟩ : ∃ j : Nat, v % 4 = j := ⟨_, rfl⟩
  have hj4 : j < 4 := by omega
  have hjm : (v : Int).tmod 4 = (j : Int) := by rw [Int.tmod_eq_emod_of_nonneg (by omega)]; omega
  have hj5 : (j : Int) < 4 := by omega
  rw [hj] at HTT
  obtain ⟨A4, A5⟩ := A3 j hj4
  clear hj
  generalize gi (gr arrs na) (j : Int) = z0 at *
  have kga := HPI.out ga (Or.inr (Or.inr (Or.inr ⟨na, _, A2, rfl⟩)))
  have HA2 := Lib.hid A2
  clear A3 A2 hv hmod
  go_wp2_with fail
  refine (address_any na v _ (by omega) (by omega)).mono ?_
  rintro e w6 ⟨rfl, rfl⟩
  clear yC fyC
  have kgA := HPI.out gA (Or.inr (Or.inr (Or.inl rfl)))
  go_wp2_with (at_builtin; refine wpList_ap tEvs rfl _ _ rfl w.heap.size _ 1 _ rfl H.ev [.int .i64 3, .int .i64 (adr na v)] rfl rfl (one_ev _ _) (by omega) H.chg.size ?_)
  intro ge ce w7 oe hC7 hg7
  have H7 := H.event (e := (3, adr na v)) oe hC7 (fun q hq => by have e3 : ge = q := Option.some.inj hq; subst e3; exact hg7)
  have HN := Lib.hid (fun q (h : q < w1.heap.size + 1) (e : (Value.slice (some ⟨w1.heap.size + 1, 0, none⟩) 1 1).ownBlock = some q) => show False from by have e2 : w1.heap.size + 1 = q := Option.some.inj e; omega)
  replace d0 := Gc hC7 d0 (HN.out _ (by omega))
  replace d1 := Gc hC7 d1 (HN.out _ (by omega))
  replace d2 := Gc hC7 d2 (HN.out _ (by omega))
  replace d3 := Gc hC7 d3 (HN.out _ (by omega))
  replace d4 := Gc hC7 d4 (HN.out _ (by omega))
  replace A5 := Gf hC7 (by omega) A5 (HN.out _ (by omega))
  replace A1 := Gc hC7 A1 (HN.out _ (by omega))
  replace A4 := Gc hC7 A4 (HN.out _ (by omega))
  have hz7 := hC7.size
  clear H hC7 hg7 oe HN
  have yR := H7.own.regAt nc (by omega); have fyR := H7.own.r.frozenAt nc; have kyR := Lc yR; have byR : (nc : Int) < (rs.length : Int) := by omega
  have D3 := H7.c3; have K3 := Lc D3; have KA1 := Lc A1; have KA4 := Lc A4; have bA : (na : Int) < (arrs.length : Int) := by omega
  generalize gi rs nc = z at *
  go_upto_region 18 with (fail)
  refine wp_region_still_tail 17 (by kernel_rfl) (by kernel_rfl) ?_
  simp only [List.take_succ_cons, List.take_zero, List.drop_succ_cons, List.drop_zero]
  repeat still_step
  refine wpStill_nil ?_
  change wpList _ _ _ _ _ (World.drew w7)
  have HD := H7.drew; clear H7
  obtain ⟨wd, hwd⟩ : ∃ X, X = World.drew w7 := ⟨_, rfl⟩
  rw [← hwd] at HD ⊢
  have yQ := Kc (show Below w7.heap.size w7 wd from by rw [hwd]; exact Below.drew (Bs _)) A4
  have fQ := Kf (show Below w7.heap.size w7 wd from by rw [hwd]; exact Below.drew (Bs _)) KA4 A5
  have kQ := Lc yQ
  have H2 := HD.arr HA2.out j z
  clear HD hwd D3 yR fyR A1 A4 A5
  have FI := Lib.hid (H2.fin ((k : Int) + 1))
  have C0 := H2.c0; have F0 := H2.f0; have K0 := Lc C0
  clear H2
  go_wp2
  go_ret
  exact ⟨_, rfl, by rw [HEE.out]; exact FI.out.1, by rw [HTT.out]; exact FI.out.2.1, FI.out.2.2⟩
end Go.Proofs.Ytkjedgnepnbkpaa
