/-
  Parts of the proofs of the laws FnCheckLive, FnFinalRegs, FnLiveRegister, FnLiveRegs.
-/
import Derived.Test.YtkjedgnepnbkpaaQC
import Derived.Test.YtkjedgnepnbkpaaQK
set_option linter.all false
namespace Go.Proofs.Ytkjedgnepnbkpaa
open Go.RowKit

set_option maxHeartbeats 6400000 in
set_option maxRecDepth 100000 in
theorem l7Stmt_of (base : Nat) (A : Nat → Prop) (hA : ∀ q, A q → q < base) (d : Nat) (Hb : ∀ (D : Nat) (a : Option Addr) (c : Nat) (L : List St) (la fa : Option Addr) (lc fc k : Nat) (ap dep : Int) (w : World), L7 w base la fa k lc fc → base ≤ w.heap.size → k + L.length * sbd d ≤ 1000000 → BlAt w A D (.slice a L.length c) L → (∀ x ∈ L, SmS d x) →
      Calls Try.prog 162 #[.agg #[.slice la k lc, .slice fa k fc, .int .i64 ap], .slice a L.length c, .int .i64 dep] w fun r w' => ∃ (la' fa' : Option Addr) (lc' fc' k' : Nat) (ap' : Int), r = .returned (.agg #[.slice la' k' lc', .slice fa' k' fc', .int .i64 ap']) ∧ L7 w' base la' fa' k' lc' fc' ∧ (∀ q, L7B la' fa' q → L7B la fa q ∨ w.heap.size ≤ q) ∧ k ≤ k' ∧ k' ≤ k + L.length * sbd d ∧ Chg (fun q => L7B la fa q) w w')
    (D : Nat) (n : Sn) (s : St) (la fa : Option Addr) (lc fc k : Nat) (ap dep : Int) (w : World) (hL : L7 w base la fa k lc fc) (hb : base ≤ w.heap.size) (hk : k + sbd (d + 1) ≤ 1000000) (hx : StAt w A D n s) (hs : SmS (d + 1) s) :
    Calls Try.prog 167 #[.agg #[.slice la k lc, .slice fa k fc, .int .i64 ap], .agg #[.int .i64 n.k, .int .i64 n.t, .int .i64 n.ix.k, .int .i64 n.ix.v, .slice n.ix.p n.ix.n n.ix.c, .int .i64 n.val.k, .int .i64 n.val.v, .slice n.val.p n.val.n n.val.c, .int .i64 n.c, .slice n.bp n.bn n.bc, .slice n.ep n.en n.ec], .int .i64 dep] w fun r w' => ∃ (la' fa' : Option Addr) (lc' fc' k' : Nat) (ap' : Int), r = .returned (.agg #[.slice la' k' lc', .slice fa' k' fc', .int .i64 ap']) ∧ L7 w' base la' fa' k' lc' fc' ∧ (∀ q, L7B la' fa' q → L7B la fa q ∨ w.heap.size ≤ q) ∧ k ≤ k' ∧ k' ≤ k + sbd (d + 1) ∧ Chg (fun q => L7B la fa q) w w' := by
  cases D with
  | zero => cases hx
  | succ D =>
    have HSB : Hid (sbd (d + 1) = 250 + 4 * sbd d) := Lib.hid rfl
    obtain ⟨k0, t0, ix, val, c0, body, els⟩ := s
    obtain ⟨hTI, hTV, hlb, hle, hsb, hse⟩ := hs
    obtain ⟨h1, h2, h3, ⟨D1, h4⟩, ⟨D2, h5⟩, h6, h7⟩ := hx
    have hkeep : ∀ q, A q → q < w.heap.size → ¬ L7B la fa q := fun q hq _ h => by have := hA q hq; have := hL.lt q h; omega
    have HIX := Lib.hid (fun W (hD : Chg (fun q => L7B la fa q) w W) la fa lc fc k ap stmt reg g1 g2 g3 => l7Expr_any base A hA 5 D1 n.ix ix la fa lc fc k ap stmt reg W g1 g2 g3 (ExAt.keep hD hkeep (fun _ h _ => h) (Nat.le_refl _) h4) hTI)
    have HVL := Lib.hid (fun W (hD : Chg (fun q => L7B la fa q) w W) la fa lc fc k ap stmt reg g1 g2 g3 => l7Expr_any base A hA 5 D2 n.val val la fa lc fc k ap stmt reg W g1 g2 g3 (ExAt.keep hD hkeep (fun _ h _ => h) (Nat.le_refl _) h5) hTV)
    have HBO := Lib.hid (fun W (hD : Chg (fun q => L7B la fa q) w W) a c (hv : Value.slice n.bp n.bn n.bc = .slice a body.length c) la fa lc fc k ap dep g1 g2 g3 => Hb D a c body la fa lc fc k ap dep W g1 g2 g3 (by rw [← hv]; exact BlAt.keep2 hD hkeep (fun _ h _ => h) (Nat.le_refl _) h6) hsb)
    have HEL := Lib.hid (fun W (hD : Chg (fun q => L7B la fa q) w W) a c (hv : Value.slice n.ep n.en n.ec = .slice a els.length c) la fa lc fc k ap dep g1 g2 g3 => Hb D a c els la fa lc fc k ap dep W g1 g2 g3 (by rw [← hv]; exact BlAt.keep2 hD hkeep (fun _ h _ => h) (Nat.le_refl _) h7) hse)
    obtain ⟨_, _, s6⟩ := h6.shape; obtain ⟨_, _, s7⟩ := h7.shape
    clear h4 h5 h6 h7 hTI hTV hsb hse hkeep Hb
    obtain ⟨nk, nt, nix, nval, nc, bp, bn, bc, ep, en, ec⟩ := n
    obtain ⟨ik, iv, ip, im, ic⟩ := nix
    obtain ⟨jk, jv, jp, jm, jc⟩ := nval
    simp only [Value.slice.injEq] at *
    obtain ⟨rfl, rfl, rfl⟩ := s6; obtain ⟨rfl, rfl, rfl⟩ := s7
    subst h1 h2 h3
    have hb5 : bnd3 5 = 121 := rfl
    have hkk : k + 250 + 4 * sbd d ≤ 1000000 := by have := HSB.out; omega
    have hmb : body.length * sbd d ≤ 2 * sbd d := Nat.mul_le_mul_right _ hlb
    have hme : els.length * sbd d ≤ 2 * sbd d := Nat.mul_le_mul_right _ hle
    clear hk
    generalize sbd (d + 1) = SB1 at *
    generalize sbd d = SB at *
    have iv0 : ∀ q, L7B la fa q → (q < w.heap.size ∨ w.heap.size + 3 ≤ q) ∧ q < w.heap.size ∧ base ≤ q := fun q h => by have := hL.lt q h; omega
    have hN0 : ∀ q, L7B la fa q → L7B la fa q ∨ w.heap.size ≤ q := fun q h => Or.inl h
    have hD : Chg (fun q => L7B la fa q) w w := Chg.refl _ _
    have oL := hL; clear hL
    go_enter Try.func167, Try.ntmps167
    go_upto_region 1 with (fail)
    obtain ⟨w1, hnw, hb⟩ := nmw (World.alloc (World.alloc (World.alloc w (.cells #[.slice la k lc, .slice fa k fc, .int .i64 ap] 155)) (.cells #[.int .i64 nk, .int .i64 nt, .int .i64 ik, .int .i64 iv, .slice ip im ic, .int .i64 jk, .int .i64 jv, .slice jp jm jc, .int .i64 nc, .slice bp body.length bc, .slice ep els.length ec] 163)) (.cells #[.slice none 0 0, .slice none 0 0, .int .i64 0] 155))
    have hD9 := (((hD.trans (Chg.of_below (bal (Bs _) (.cells #[.slice la k lc, .slice fa k fc, .int .i64 ap] 155)))).trans (Chg.of_below (bal (Bs _) (.cells #[.int .i64 nk, .int .i64 nt, .int .i64 ik, .int .i64 iv, .slice ip im ic, .int .i64 jk, .int .i64 jv, .slice jp jm jc, .int .i64 nc, .slice bp body.length bc, .slice ep els.length ec] 163)))).trans (Chg.of_below (bal (Bs _) (.cells #[.slice none 0 0, .slice none 0 0, .int .i64 0] 155)))).trans (Chg.of_below hb)
    have hsz1 := hb.size
    simp only [Sa] at hsz1
    replace oL := (((oL.below (bal (Bs _) _)).below (bal (Bs _) _)).below (bal (Bs _) _)).below hb
    have bk2 : Bk w1 (w.heap.size) [.slice la k lc, .slice fa k fc, .int .i64 ap] := Bk.below (Bk.al (Bk.al (Bk.nw (by simp) rfl) (.cells #[.int .i64 nk, .int .i64 nt, .int .i64 ik, .int .i64 iv, .slice ip im ic, .int .i64 jk, .int .i64 jv, .slice jp jm jc, .int .i64 nc, .slice bp body.length bc, .slice ep els.length ec] 163)) (.cells #[.slice none 0 0, .slice none 0 0, .int .i64 0] 155)) hb
    have bk3 : Bk w1 (w.heap.size + 1) [.int .i64 nk, .int .i64 nt, .int .i64 ik, .int .i64 iv, .slice ip im ic, .int .i64 jk, .int .i64 jv, .slice jp jm jc, .int .i64 nc, .slice bp body.length bc, .slice ep els.length ec] := Bk.below (Bk.al (Bk.nw (by simp) rfl) (.cells #[.slice none 0 0, .slice none 0 0, .int .i64 0] 155)) hb
    have bk4 : Bk w1 (w.heap.size + 1 + 1) [.slice none 0 0, .slice none 0 0, .int .i64 0] := Bk.below (Bk.nw (by simp) rfl) hb
    clear hb
    clear hD
    have hD := hD9; clear hD9
    rw [← hnw]
    clear hnw
    have lt5 := Bk.lz bk2
    have lt6 := Bk.lz bk3
    have lt7 := Bk.lz bk4
    by_cases hq4 : (nk == 4) = true
    · skip
      have hqn4 : (nk != 4) = false := by rw [bne]; rw [hq4]; rfl
      have hq1 : ¬ (nk == 1) = true := by have : nk = 4 := (by simpa using hq4); subst this; decide
      have hq2 : ¬ (nk == 2) = true := by have : nk = 4 := (by simpa using hq4); subst this; decide
      have hq3 : ¬ (nk == 3) = true := by have : nk = 4 := (by simpa using hq4); subst this; decide
      have hq5 : ¬ (nk == 5) = true := by have : nk = 4 := (by simpa using hq4); subst this; decide
      obtain ⟨tc8, tf9⟩ := Bk.cf bk2 0 rfl
      obtain ⟨tc10, tf11⟩ := Bk.cf bk2 1 rfl
      obtain ⟨tc12, tf13⟩ := Bk.cf bk2 2 rfl
      obtain ⟨tc14, tf15⟩ := Bk.cf bk3 0 rfl
      obtain ⟨tc16, tf17⟩ := Bk.cf bk3 8 rfl
      go_wp2_with fail
      refine (l7Add_any base _ _ _ _ k _ _ _ _ _ _ _ _ (oL.keep (C1 (w.heap.size) 2 (.int .i64 (wrap64 (ap + 1)))) (fun gq h h2 => by have := iv0 gq h; omega)) (by first | omega | (simp only [Sa, Ss]; omega)) (by omega)).mono ?_
      rintro e w2 ⟨la1, fa1, lc1, fc1, k1, rfl, hL1, hM1, rfl, hb⟩
      have hD9 := chg_app (hD.setNew (w.heap.size) 2 (.int .i64 (wrap64 (ap + 1))) (Or.inr (by omega))) hb (fun q hq h => by rcases hN0 q h with h1 | h1; exact h1; omega)
      have hsz18 := hb.size
      simp only [Ss] at hsz18
      clear tf9 tc8 tf11 tc10 tf13 tc12 tf15 tc14 tf17 tc16
      replace bk2 : Bk w2 (w.heap.size) [.slice la k lc, .slice fa k fc, .int .i64 (wrap64 (ap + 1))] := Bk.keep (Bk.at bk2 2 (.int .i64 (wrap64 (ap + 1)))) hb (fun h => by have := iv0 _ h; omega)
      replace bk3 := Bk.keep (Bk.ne bk3 (by omega) _) hb (fun h => by have := iv0 _ h; omega)
      replace bk4 := Bk.keep (Bk.ne bk4 (by omega) _) hb (fun h => by have := iv0 _ h; omega)
      clear hb
      clear hD
      have hD := hD9; clear hD9
      try simp only [Sa, Ss] at hM1
      clear oL
      have oL := hL1; clear hL1
      have hN1 : ∀ q, L7B la1 fa1 q → L7B la fa q ∨ w.heap.size ≤ q := fun q h => by rcases hM1 q h with h1 | h1; exact hN0 q h1; exact Or.inr (by omega)
      have iv1 : ∀ q, L7B la1 fa1 q → (q < w.heap.size ∨ w.heap.size + 3 ≤ q) ∧ q < w2.heap.size ∧ base ≤ q := fun q h => by have h2 := oL.lt q h; rcases hM1 q h with h1 | h1; (have := iv0 q h1; omega); omega
      clear hM1 iv0 hN0
      replace lt5 := Bk.lz bk2
      replace lt6 := Bk.lz bk3
      replace lt7 := Bk.lz bk4
      have HCL := Lib.hid (fun W hD la fa lc fc k ap dep g1 g2 g3 => HBO.out W hD bp bc (by simp) la fa lc fc k ap dep g1 g2 g3)
      obtain ⟨tc19, tf20⟩ := Bk.cf bk2 0 rfl
      obtain ⟨tc21, tf22⟩ := Bk.cf bk2 1 rfl
      obtain ⟨tc23, tf24⟩ := Bk.cf bk2 2 rfl
      obtain ⟨tc25, tf26⟩ := Bk.cf bk3 9 rfl
      go_wp2_with fail
      refine (HCL.out _ (((hD.setNew (w.heap.size) 0 (.slice la1 (k + 1) lc1) (Or.inr (by omega))).setNew (w.heap.size) 1 (.slice fa1 (k + 1) fc1) (Or.inr (by omega))).setNew (w.heap.size) 2 (.int .i64 (wrap64 (ap + 1))) (Or.inr (by omega))) _ _ _ _ (k + 1) _ _ (((oL.keep (C1 (w.heap.size) 0 (.slice la1 (k + 1) lc1)) (fun gq h h2 => by have := iv1 gq h; omega)).keep (C1 (w.heap.size) 1 (.slice fa1 (k + 1) fc1)) (fun gq h h2 => by have := iv1 gq h; omega)).keep (C1 (w.heap.size) 2 (.int .i64 (wrap64 (ap + 1)))) (fun gq h h2 => by have := iv1 gq h; omega)) (by first | omega | (simp only [Sa, Ss]; omega)) (by omega)).mono ?_
      rintro e w3 ⟨la2, fa2, lc2, fc2, k2, ap2, rfl, hL2, hM2, ha2, hz2, hb⟩
      have hD9 := chg_app (((hD.setNew (w.heap.size) 0 (.slice la1 (k + 1) lc1) (Or.inr (by omega))).setNew (w.heap.size) 1 (.slice fa1 (k + 1) fc1) (Or.inr (by omega))).setNew (w.heap.size) 2 (.int .i64 (wrap64 (ap + 1))) (Or.inr (by omega))) hb (fun q hq h => by rcases hN1 q h with h1 | h1; exact h1; omega)
      have hsz27 := hb.size
      simp only [Ss] at hsz27
      clear tf20 tc19 tf22 tc21 tf24 tc23 tf26 tc25
      replace bk2 : Bk w3 (w.heap.size) [.slice la1 (k + 1) lc1, .slice fa1 (k + 1) fc1, .int .i64 (wrap64 (ap + 1))] := Bk.keep (Bk.at (Bk.at (Bk.at bk2 0 (.slice la1 (k + 1) lc1)) 1 (.slice fa1 (k + 1) fc1)) 2 (.int .i64 (wrap64 (ap + 1)))) hb (fun h => by have := iv1 _ h; omega)
      replace bk3 := Bk.keep (Bk.ne (Bk.ne (Bk.ne bk3 (by omega) _) (by omega) _) (by omega) _) hb (fun h => by have := iv1 _ h; omega)
      replace bk4 := Bk.keep (Bk.ne (Bk.ne (Bk.ne bk4 (by omega) _) (by omega) _) (by omega) _) hb (fun h => by have := iv1 _ h; omega)
      clear hb
      clear hD
      have hD := hD9; clear hD9
      try simp only [Sa, Ss] at hM2
      clear oL
      have oL := hL2; clear hL2
      have hN2 : ∀ q, L7B la2 fa2 q → L7B la fa q ∨ w.heap.size ≤ q := fun q h => by rcases hM2 q h with h1 | h1; exact hN1 q h1; exact Or.inr (by omega)
      have iv2 : ∀ q, L7B la2 fa2 q → (q < w.heap.size ∨ w.heap.size + 3 ≤ q) ∧ q < w3.heap.size ∧ base ≤ q := fun q h => by have h2 := oL.lt q h; rcases hM2 q h with h1 | h1; (have := iv1 q h1; omega); omega
      clear hM2 iv1 hN1
      clear bk3
      clear HCL
      clear lt6
      replace lt5 := Bk.lz bk2
      replace lt7 := Bk.lz bk4
      obtain ⟨tc28, tf29⟩ := Bk.cf bk2 0 rfl
      obtain ⟨tc30, tf31⟩ := Bk.cf bk2 1 rfl
      obtain ⟨tc32, tf33⟩ := Bk.cf bk2 2 rfl
      go_wp2_with fail
      refine (l7Add_any base _ _ _ _ k2 _ _ _ _ _ _ _ _ (((oL.keep (C1 (w.heap.size) 0 (.slice la2 k2 lc2)) (fun gq h h2 => by have := iv2 gq h; omega)).keep (C1 (w.heap.size) 1 (.slice fa2 k2 fc2)) (fun gq h h2 => by have := iv2 gq h; omega)).keep (C1 (w.heap.size) 2 (.int .i64 ap2)) (fun gq h h2 => by have := iv2 gq h; omega)) (by first | omega | (simp only [Sa, Ss]; omega)) (by omega)).mono ?_
      rintro e w4 ⟨la3, fa3, lc3, fc3, k3, rfl, hL3, hM3, rfl, hb⟩
      have hD9 := chg_app (((hD.setNew (w.heap.size) 0 (.slice la2 k2 lc2) (Or.inr (by omega))).setNew (w.heap.size) 1 (.slice fa2 k2 fc2) (Or.inr (by omega))).setNew (w.heap.size) 2 (.int .i64 ap2) (Or.inr (by omega))) hb (fun q hq h => by rcases hN2 q h with h1 | h1; exact h1; omega)
      have hsz34 := hb.size
      simp only [Ss] at hsz34
      clear tf29 tc28 tf31 tc30 tf33 tc32
      replace bk2 : Bk w4 (w.heap.size) [.slice la2 k2 lc2, .slice fa2 k2 fc2, .int .i64 ap2] := Bk.keep (Bk.at (Bk.at (Bk.at bk2 0 (.slice la2 k2 lc2)) 1 (.slice fa2 k2 fc2)) 2 (.int .i64 ap2)) hb (fun h => by have := iv2 _ h; omega)
      replace bk4 := Bk.keep (Bk.ne (Bk.ne (Bk.ne bk4 (by omega) _) (by omega) _) (by omega) _) hb (fun h => by have := iv2 _ h; omega)
      clear hb
      clear hD
      have hD := hD9; clear hD9
      try simp only [Sa, Ss] at hM3
      clear oL
      have oL := hL3; clear hL3
      have hN3 : ∀ q, L7B la3 fa3 q → L7B la fa q ∨ w.heap.size ≤ q := fun q h => by rcases hM3 q h with h1 | h1; exact hN2 q h1; exact Or.inr (by omega)
      have iv3 : ∀ q, L7B la3 fa3 q → (q < w.heap.size ∨ w.heap.size + 3 ≤ q) ∧ q < w4.heap.size ∧ base ≤ q := fun q h => by have h2 := oL.lt q h; rcases hM3 q h with h1 | h1; (have := iv2 q h1; omega); omega
      clear hM3 iv2 hN2
      clear bk2
      clear lt5
      replace lt7 := Bk.lz bk4
      obtain ⟨tc35, tf36⟩ := Bk.cf bk4 0 rfl
      obtain ⟨tc37, tf38⟩ := Bk.cf bk4 1 rfl
      obtain ⟨tc39, tf40⟩ := Bk.cf bk4 2 rfl
      have hBf := (Bk.at (Bk.at (Bk.at bk4 0 (.slice la3 (k2 + 1) lc3)) 1 (.slice fa3 (k2 + 1) fc3)) 2 (.int .i64 ap2))
      have xr0 := Bk.cell hBf 0 (v := .slice la3 (k2 + 1) lc3) rfl
      have xr1 := Bk.cell hBf 1 (v := .slice fa3 (k2 + 1) fc3) rfl
      have xr2 := Bk.cell hBf 2 (v := .int .i64 ap2) rfl
      clear hBf
      have HDF := Lib.hid (((hD.setNew (w.heap.size + 1 + 1) 0 (.slice la3 (k2 + 1) lc3) (Or.inr (by omega))).setNew (w.heap.size + 1 + 1) 1 (.slice fa3 (k2 + 1) fc3) (Or.inr (by omega))).setNew (w.heap.size + 1 + 1) 2 (.int .i64 ap2) (Or.inr (by omega)))
      have HOL := Lib.hid (((oL.keep (C1 (w.heap.size + 1 + 1) 0 (.slice la3 (k2 + 1) lc3)) (fun gq h h2 => by have := iv3 gq h; omega)).keep (C1 (w.heap.size + 1 + 1) 1 (.slice fa3 (k2 + 1) fc3)) (fun gq h h2 => by have := iv3 gq h; omega)).keep (C1 (w.heap.size + 1 + 1) 2 (.int .i64 ap2)) (fun gq h h2 => by have := iv3 gq h; omega))
      clear hD oL
      go_wp2
      exact bodyPost_ret (v := .agg #[.slice la3 (k2 + 1) lc3, .slice fa3 (k2 + 1) fc3, .int .i64 ap2]) (by simp [results, Try.results167, go_sem, xr0, xr1, xr2]) rfl (by exact ⟨la3, fa3, lc3, fc3, k2 + 1, _, rfl, HOL.out, hN3, by omega, by have := HSB.out; omega, HDF.out⟩)
    · skip
      have hqn4 : (nk != 4) = true := by rw [bne]; simpa using hq4
      obtain ⟨tc41, tf42⟩ := Bk.cf bk2 0 rfl
      obtain ⟨tc43, tf44⟩ := Bk.cf bk2 1 rfl
      obtain ⟨tc45, tf46⟩ := Bk.cf bk2 2 rfl
      obtain ⟨tc47, tf48⟩ := Bk.cf bk3 0 rfl
      obtain ⟨tc49, tf50⟩ := Bk.cf bk3 5 rfl
      obtain ⟨tc51, tf52⟩ := Bk.cf bk3 6 rfl
      obtain ⟨tc53, tf54⟩ := Bk.cf bk3 7 rfl
      go_wp2_with fail
      refine (HVL.out _ (hD.setNew (w.heap.size) 2 (.int .i64 (wrap64 (ap + 1))) (Or.inr (by omega))) _ _ _ _ k _ _ _ (oL.keep (C1 (w.heap.size) 2 (.int .i64 (wrap64 (ap + 1)))) (fun gq h h2 => by have := iv0 gq h; omega)) (by first | omega | (simp only [Sa, Ss]; omega)) (by omega)).mono ?_
      rintro e w2 ⟨la1, fa1, lc1, fc1, k1, rfl, hL1, hM1, ha1, hz1, hb⟩
      have hD9 := chg_app (hD.setNew (w.heap.size) 2 (.int .i64 (wrap64 (ap + 1))) (Or.inr (by omega))) hb (fun q hq h => by rcases hN0 q h with h1 | h1; exact h1; omega)
      have hsz55 := hb.size
      simp only [Ss] at hsz55
      clear tf42 tc41 tf44 tc43 tf46 tc45 tf48 tc47 tf50 tc49 tf52 tc51 tf54 tc53
      replace bk2 : Bk w2 (w.heap.size) [.slice la k lc, .slice fa k fc, .int .i64 (wrap64 (ap + 1))] := Bk.keep (Bk.at bk2 2 (.int .i64 (wrap64 (ap + 1)))) hb (fun h => by have := iv0 _ h; omega)
      replace bk3 := Bk.keep (Bk.ne bk3 (by omega) _) hb (fun h => by have := iv0 _ h; omega)
      replace bk4 := Bk.keep (Bk.ne bk4 (by omega) _) hb (fun h => by have := iv0 _ h; omega)
      clear hb
      clear hD
      have hD := hD9; clear hD9
      try simp only [Sa, Ss] at hM1
      clear oL
      have oL := hL1; clear hL1
      have hN1 : ∀ q, L7B la1 fa1 q → L7B la fa q ∨ w.heap.size ≤ q := fun q h => by rcases hM1 q h with h1 | h1; exact hN0 q h1; exact Or.inr (by omega)
      have iv1 : ∀ q, L7B la1 fa1 q → (q < w.heap.size ∨ w.heap.size + 3 ≤ q) ∧ q < w2.heap.size ∧ base ≤ q := fun q h => by have h2 := oL.lt q h; rcases hM1 q h with h1 | h1; (have := iv0 q h1; omega); omega
      clear hM1 iv0 hN0
      replace lt5 := Bk.lz bk2
      replace lt6 := Bk.lz bk3
      replace lt7 := Bk.lz bk4
      by_cases hq1 : (nk == 1) = true
      · skip
        have hq2 : ¬ (nk == 2) = true := by have : nk = 1 := (by simpa using hq1); subst this; decide
        have hq3 : ¬ (nk == 3) = true := by have : nk = 1 := (by simpa using hq1); subst this; decide
        have hq5 : ¬ (nk == 5) = true := by have : nk = 1 := (by simpa using hq1); subst this; decide
        obtain ⟨tc56, tf57⟩ := Bk.cf bk2 0 rfl
        obtain ⟨tc58, tf59⟩ := Bk.cf bk2 1 rfl
        obtain ⟨tc60, tf61⟩ := Bk.cf bk2 2 rfl
        obtain ⟨tc62, tf63⟩ := Bk.cf bk3 0 rfl
        obtain ⟨tc64, tf65⟩ := Bk.cf bk3 1 rfl
        go_wp2_with fail
        refine (l7Add_any base _ _ _ _ k1 _ _ _ _ _ _ _ _ (((oL.keep (C1 (w.heap.size) 0 (.slice la1 k1 lc1)) (fun gq h h2 => by have := iv1 gq h; omega)).keep (C1 (w.heap.size) 1 (.slice fa1 k1 fc1)) (fun gq h h2 => by have := iv1 gq h; omega)).keep (C1 (w.heap.size) 2 (.int .i64 (wrap64 (ap + 1)))) (fun gq h h2 => by have := iv1 gq h; omega)) (by first | omega | (simp only [Sa, Ss]; omega)) (by omega)).mono ?_
        rintro e w3 ⟨la2, fa2, lc2, fc2, k2, rfl, hL2, hM2, rfl, hb⟩
        have hD9 := chg_app (((hD.setNew (w.heap.size) 0 (.slice la1 k1 lc1) (Or.inr (by omega))).setNew (w.heap.size) 1 (.slice fa1 k1 fc1) (Or.inr (by omega))).setNew (w.heap.size) 2 (.int .i64 (wrap64 (ap + 1))) (Or.inr (by omega))) hb (fun q hq h => by rcases hN1 q h with h1 | h1; exact h1; omega)
        have hsz66 := hb.size
        simp only [Ss] at hsz66
        clear tf57 tc56 tf59 tc58 tf61 tc60 tf63 tc62 tf65 tc64
        replace bk2 : Bk w3 (w.heap.size) [.slice la1 k1 lc1, .slice fa1 k1 fc1, .int .i64 (wrap64 (ap + 1))] := Bk.keep (Bk.at (Bk.at (Bk.at bk2 0 (.slice la1 k1 lc1)) 1 (.slice fa1 k1 fc1)) 2 (.int .i64 (wrap64 (ap + 1)))) hb (fun h => by have := iv1 _ h; omega)
        replace bk3 := Bk.keep (Bk.ne (Bk.ne (Bk.ne bk3 (by omega) _) (by omega) _) (by omega) _) hb (fun h => by have := iv1 _ h; omega)
        replace bk4 := Bk.keep (Bk.ne (Bk.ne (Bk.ne bk4 (by omega) _) (by omega) _) (by omega) _) hb (fun h => by have := iv1 _ h; omega)
        clear hb
        clear hD
        have hD := hD9; clear hD9
        try simp only [Sa, Ss] at hM2
        clear oL
        have oL := hL2; clear hL2
        have hN2 : ∀ q, L7B la2 fa2 q → L7B la fa q ∨ w.heap.size ≤ q := fun q h => by rcases hM2 q h with h1 | h1; exact hN1 q h1; exact Or.inr (by omega)
        have iv2 : ∀ q, L7B la2 fa2 q → (q < w.heap.size ∨ w.heap.size + 3 ≤ q) ∧ q < w3.heap.size ∧ base ≤ q := fun q h => by have h2 := oL.lt q h; rcases hM2 q h with h1 | h1; (have := iv1 q h1; omega); omega
        clear hM2 iv1 hN1
        replace lt5 := Bk.lz bk2
        replace lt6 := Bk.lz bk3
        replace lt7 := Bk.lz bk4
        obtain ⟨tc67, tf68⟩ := Bk.cf bk4 0 rfl
        obtain ⟨tc69, tf70⟩ := Bk.cf bk4 1 rfl
        obtain ⟨tc71, tf72⟩ := Bk.cf bk4 2 rfl
        have hBf := (Bk.at (Bk.at (Bk.at bk4 0 (.slice la2 (k1 + 1) lc2)) 1 (.slice fa2 (k1 + 1) fc2)) 2 (.int .i64 (wrap64 (ap + 1))))
        have xr0 := Bk.cell hBf 0 (v := .slice la2 (k1 + 1) lc2) rfl
        have xr1 := Bk.cell hBf 1 (v := .slice fa2 (k1 + 1) fc2) rfl
        have xr2 := Bk.cell hBf 2 (v := .int .i64 (wrap64 (ap + 1))) rfl
        clear hBf
        have HDF := Lib.hid (((hD.setNew (w.heap.size + 1 + 1) 0 (.slice la2 (k1 + 1) lc2) (Or.inr (by omega))).setNew (w.heap.size + 1 + 1) 1 (.slice fa2 (k1 + 1) fc2) (Or.inr (by omega))).setNew (w.heap.size + 1 + 1) 2 (.int .i64 (wrap64 (ap + 1))) (Or.inr (by omega)))
        have HOL := Lib.hid (((oL.keep (C1 (w.heap.size + 1 + 1) 0 (.slice la2 (k1 + 1) lc2)) (fun gq h h2 => by have := iv2 gq h; omega)).keep (C1 (w.heap.size + 1 + 1) 1 (.slice fa2 (k1 + 1) fc2)) (fun gq h h2 => by have := iv2 gq h; omega)).keep (C1 (w.heap.size + 1 + 1) 2 (.int .i64 (wrap64 (ap + 1)))) (fun gq h h2 => by have := iv2 gq h; omega))
        clear hD oL
        go_wp2
        exact bodyPost_ret (v := .agg #[.slice la2 (k1 + 1) lc2, .slice fa2 (k1 + 1) fc2, .int .i64 (wrap64 (ap + 1))]) (by simp [results, Try.results167, go_sem, xr0, xr1, xr2]) rfl (by exact ⟨la2, fa2, lc2, fc2, k1 + 1, _, rfl, HOL.out, hN2, by omega, by have := HSB.out; omega, HDF.out⟩)
      · skip
        by_cases hq5 : (nk == 5) = true
        · skip
          have hq2 : ¬ (nk == 2) = true := by have : nk = 5 := (by simpa using hq5); subst this; decide
          have hq3 : ¬ (nk == 3) = true := by have : nk = 5 := (by simpa using hq5); subst this; decide
          obtain ⟨tc73, tf74⟩ := Bk.cf bk2 0 rfl
          obtain ⟨tc75, tf76⟩ := Bk.cf bk2 1 rfl
          obtain ⟨tc77, tf78⟩ := Bk.cf bk2 2 rfl
          obtain ⟨tc79, tf80⟩ := Bk.cf bk3 0 rfl
          go_wp2_with fail
          refine (l7Add_any base _ _ _ _ k1 _ _ _ _ _ _ _ _ (((oL.keep (C1 (w.heap.size) 0 (.slice la1 k1 lc1)) (fun gq h h2 => by have := iv1 gq h; omega)).keep (C1 (w.heap.size) 1 (.slice fa1 k1 fc1)) (fun gq h h2 => by have := iv1 gq h; omega)).keep (C1 (w.heap.size) 2 (.int .i64 (wrap64 (ap + 1)))) (fun gq h h2 => by have := iv1 gq h; omega)) (by first | omega | (simp only [Sa, Ss]; omega)) (by omega)).mono ?_
          rintro e w3 ⟨la2, fa2, lc2, fc2, k2, rfl, hL2, hM2, rfl, hb⟩
          have hD9 := chg_app (((hD.setNew (w.heap.size) 0 (.slice la1 k1 lc1) (Or.inr (by omega))).setNew (w.heap.size) 1 (.slice fa1 k1 fc1) (Or.inr (by omega))).setNew (w.heap.size) 2 (.int .i64 (wrap64 (ap + 1))) (Or.inr (by omega))) hb (fun q hq h => by rcases hN1 q h with h1 | h1; exact h1; omega)
          have hsz81 := hb.size
          simp only [Ss] at hsz81
          clear tf74 tc73 tf76 tc75 tf78 tc77 tf80 tc79
          replace bk2 : Bk w3 (w.heap.size) [.slice la1 k1 lc1, .slice fa1 k1 fc1, .int .i64 (wrap64 (ap + 1))] := Bk.keep (Bk.at (Bk.at (Bk.at bk2 0 (.slice la1 k1 lc1)) 1 (.slice fa1 k1 fc1)) 2 (.int .i64 (wrap64 (ap + 1)))) hb (fun h => by have := iv1 _ h; omega)
          replace bk3 := Bk.keep (Bk.ne (Bk.ne (Bk.ne bk3 (by omega) _) (by omega) _) (by omega) _) hb (fun h => by have := iv1 _ h; omega)
          replace bk4 := Bk.keep (Bk.ne (Bk.ne (Bk.ne bk4 (by omega) _) (by omega) _) (by omega) _) hb (fun h => by have := iv1 _ h; omega)
          clear hb
          clear hD
          have hD := hD9; clear hD9
          try simp only [Sa, Ss] at hM2
          clear oL
          have oL := hL2; clear hL2
          have hN2 : ∀ q, L7B la2 fa2 q → L7B la fa q ∨ w.heap.size ≤ q := fun q h => by rcases hM2 q h with h1 | h1; exact hN1 q h1; exact Or.inr (by omega)
          have iv2 : ∀ q, L7B la2 fa2 q → (q < w.heap.size ∨ w.heap.size + 3 ≤ q) ∧ q < w3.heap.size ∧ base ≤ q := fun q h => by have h2 := oL.lt q h; rcases hM2 q h with h1 | h1; (have := iv1 q h1; omega); omega
          clear hM2 iv1 hN1
          replace lt5 := Bk.lz bk2
          replace lt6 := Bk.lz bk3
          replace lt7 := Bk.lz bk4
          obtain ⟨tc82, tf83⟩ := Bk.cf bk2 0 rfl
          obtain ⟨tc84, tf85⟩ := Bk.cf bk2 1 rfl
          obtain ⟨tc86, tf87⟩ := Bk.cf bk2 2 rfl
          obtain ⟨tc88, tf89⟩ := Bk.cf bk3 1 rfl
          go_wp2_with fail
          refine (l7Add_any base _ _ _ _ (k1 + 1) _ _ _ _ _ _ _ _ (((oL.keep (C1 (w.heap.size) 0 (.slice la2 (k1 + 1) lc2)) (fun gq h h2 => by have := iv2 gq h; omega)).keep (C1 (w.heap.size) 1 (.slice fa2 (k1 + 1) fc2)) (fun gq h h2 => by have := iv2 gq h; omega)).keep (C1 (w.heap.size) 2 (.int .i64 (wrap64 (ap + 1)))) (fun gq h h2 => by have := iv2 gq h; omega)) (by first | omega | (simp only [Sa, Ss]; omega)) (by omega)).mono ?_
          rintro e w4 ⟨la3, fa3, lc3, fc3, k3, rfl, hL3, hM3, rfl, hb⟩
          have hD9 := chg_app (((hD.setNew (w.heap.size) 0 (.slice la2 (k1 + 1) lc2) (Or.inr (by omega))).setNew (w.heap.size) 1 (.slice fa2 (k1 + 1) fc2) (Or.inr (by omega))).setNew (w.heap.size) 2 (.int .i64 (wrap64 (ap + 1))) (Or.inr (by omega))) hb (fun q hq h => by rcases hN2 q h with h1 | h1; exact h1; omega)
          have hsz90 := hb.size
          simp only [Ss] at hsz90
          clear tf83 tc82 tf85 tc84 tf87 tc86 tf89 tc88
          replace bk2 : Bk w4 (w.heap.size) [.slice la2 (k1 + 1) lc2, .slice fa2 (k1 + 1) fc2, .int .i64 (wrap64 (ap + 1))] := Bk.keep (Bk.at (Bk.at (Bk.at bk2 0 (.slice la2 (k1 + 1) lc2)) 1 (.slice fa2 (k1 + 1) fc2)) 2 (.int .i64 (wrap64 (ap + 1)))) hb (fun h => by have := iv2 _ h; omega)
          replace bk3 := Bk.keep (Bk.ne (Bk.ne (Bk.ne bk3 (by omega) _) (by omega) _) (by omega) _) hb (fun h => by have := iv2 _ h; omega)
          replace bk4 := Bk.keep (Bk.ne (Bk.ne (Bk.ne bk4 (by omega) _) (by omega) _) (by omega) _) hb (fun h => by have := iv2 _ h; omega)
          clear hb
          clear hD
          have hD := hD9; clear hD9
          try simp only [Sa, Ss] at hM3
          clear oL
          have oL := hL3; clear hL3
          have hN3 : ∀ q, L7B la3 fa3 q → L7B la fa q ∨ w.heap.size ≤ q := fun q h => by rcases hM3 q h with h1 | h1; exact hN2 q h1; exact Or.inr (by omega)
          have iv3 : ∀ q, L7B la3 fa3 q → (q < w.heap.size ∨ w.heap.size + 3 ≤ q) ∧ q < w4.heap.size ∧ base ≤ q := fun q h => by have h2 := oL.lt q h; rcases hM3 q h with h1 | h1; (have := iv2 q h1; omega); omega
          clear hM3 iv2 hN2
          replace lt5 := Bk.lz bk2
          replace lt6 := Bk.lz bk3
          replace lt7 := Bk.lz bk4
          obtain ⟨tc91, tf92⟩ := Bk.cf bk4 0 rfl
          obtain ⟨tc93, tf94⟩ := Bk.cf bk4 1 rfl
          obtain ⟨tc95, tf96⟩ := Bk.cf bk4 2 rfl
          have hBf := (Bk.at (Bk.at (Bk.at bk4 0 (.slice la3 (k1 + 1 + 1) lc3)) 1 (.slice fa3 (k1 + 1 + 1) fc3)) 2 (.int .i64 (wrap64 (ap + 1))))
          have xr0 := Bk.cell hBf 0 (v := .slice la3 (k1 + 1 + 1) lc3) rfl
          have xr1 := Bk.cell hBf 1 (v := .slice fa3 (k1 + 1 + 1) fc3) rfl
          have xr2 := Bk.cell hBf 2 (v := .int .i64 (wrap64 (ap + 1))) rfl
          clear hBf
          have HDF := Lib.hid (((hD.setNew (w.heap.size + 1 + 1) 0 (.slice la3 (k1 + 1 + 1) lc3) (Or.inr (by omega))).setNew (w.heap.size + 1 + 1) 1 (.slice fa3 (k1 + 1 + 1) fc3) (Or.inr (by omega))).setNew (w.heap.size + 1 + 1) 2 (.int .i64 (wrap64 (ap + 1))) (Or.inr (by omega)))
          have HOL := Lib.hid (((oL.keep (C1 (w.heap.size + 1 + 1) 0 (.slice la3 (k1 + 1 + 1) lc3)) (fun gq h h2 => by have := iv3 gq h; omega)).keep (C1 (w.heap.size + 1 + 1) 1 (.slice fa3 (k1 + 1 + 1) fc3)) (fun gq h h2 => by have := iv3 gq h; omega)).keep (C1 (w.heap.size + 1 + 1) 2 (.int .i64 (wrap64 (ap + 1)))) (fun gq h h2 => by have := iv3 gq h; omega))
          clear hD oL
          go_wp2
          exact bodyPost_ret (v := .agg #[.slice la3 (k1 + 1 + 1) lc3, .slice fa3 (k1 + 1 + 1) fc3, .int .i64 (wrap64 (ap + 1))]) (by simp [results, Try.results167, go_sem, xr0, xr1, xr2]) rfl (by exact ⟨la3, fa3, lc3, fc3, k1 + 1 + 1, _, rfl, HOL.out, hN3, by omega, by have := HSB.out; omega, HDF.out⟩)
        · skip
          by_cases hq2 : (nk == 2) = true
          · skip
            have hq3 : ¬ (nk == 3) = true := by have : nk = 2 := (by simpa using hq2); subst this; decide
            obtain ⟨tc97, tf98⟩ := Bk.cf bk2 0 rfl
            obtain ⟨tc99, tf100⟩ := Bk.cf bk2 1 rfl
            obtain ⟨tc101, tf102⟩ := Bk.cf bk2 2 rfl
            obtain ⟨tc103, tf104⟩ := Bk.cf bk3 0 rfl
            obtain ⟨tc105, tf106⟩ := Bk.cf bk3 2 rfl
            obtain ⟨tc107, tf108⟩ := Bk.cf bk3 3 rfl
            obtain ⟨tc109, tf110⟩ := Bk.cf bk3 4 rfl
            go_wp2_with fail
            refine (HIX.out _ (((hD.setNew (w.heap.size) 0 (.slice la1 k1 lc1) (Or.inr (by omega))).setNew (w.heap.size) 1 (.slice fa1 k1 fc1) (Or.inr (by omega))).setNew (w.heap.size) 2 (.int .i64 (wrap64 (ap + 1))) (Or.inr (by omega))) _ _ _ _ k1 _ _ _ (((oL.keep (C1 (w.heap.size) 0 (.slice la1 k1 lc1)) (fun gq h h2 => by have := iv1 gq h; omega)).keep (C1 (w.heap.size) 1 (.slice fa1 k1 fc1)) (fun gq h h2 => by have := iv1 gq h; omega)).keep (C1 (w.heap.size) 2 (.int .i64 (wrap64 (ap + 1)))) (fun gq h h2 => by have := iv1 gq h; omega)) (by first | omega | (simp only [Sa, Ss]; omega)) (by omega)).mono ?_
            rintro e w3 ⟨la2, fa2, lc2, fc2, k2, rfl, hL2, hM2, ha2, hz2, hb⟩
            have hD9 := chg_app (((hD.setNew (w.heap.size) 0 (.slice la1 k1 lc1) (Or.inr (by omega))).setNew (w.heap.size) 1 (.slice fa1 k1 fc1) (Or.inr (by omega))).setNew (w.heap.size) 2 (.int .i64 (wrap64 (ap + 1))) (Or.inr (by omega))) hb (fun q hq h => by rcases hN1 q h with h1 | h1; exact h1; omega)
            have hsz111 := hb.size
            simp only [Ss] at hsz111
            clear tf98 tc97 tf100 tc99 tf102 tc101 tf104 tc103 tf106 tc105 tf108 tc107 tf110 tc109
            replace bk2 : Bk w3 (w.heap.size) [.slice la1 k1 lc1, .slice fa1 k1 fc1, .int .i64 (wrap64 (ap + 1))] := Bk.keep (Bk.at (Bk.at (Bk.at bk2 0 (.slice la1 k1 lc1)) 1 (.slice fa1 k1 fc1)) 2 (.int .i64 (wrap64 (ap + 1)))) hb (fun h => by have := iv1 _ h; omega)
            replace bk3 := Bk.keep (Bk.ne (Bk.ne (Bk.ne bk3 (by omega) _) (by omega) _) (by omega) _) hb (fun h => by have := iv1 _ h; omega)
            replace bk4 := Bk.keep (Bk.ne (Bk.ne (Bk.ne bk4 (by omega) _) (by omega) _) (by omega) _) hb (fun h => by have := iv1 _ h; omega)
            clear hb
            clear hD
            have hD := hD9; clear hD9
            try simp only [Sa, Ss] at hM2
            clear oL
            have oL := hL2; clear hL2
            have hN2 : ∀ q, L7B la2 fa2 q → L7B la fa q ∨ w.heap.size ≤ q := fun q h => by rcases hM2 q h with h1 | h1; exact hN1 q h1; exact Or.inr (by omega)
            have iv2 : ∀ q, L7B la2 fa2 q → (q < w.heap.size ∨ w.heap.size + 3 ≤ q) ∧ q < w3.heap.size ∧ base ≤ q := fun q h => by have h2 := oL.lt q h; rcases hM2 q h with h1 | h1; (have := iv1 q h1; omega); omega
            clear hM2 iv1 hN1
            replace lt5 := Bk.lz bk2
            replace lt6 := Bk.lz bk3
            replace lt7 := Bk.lz bk4
            obtain ⟨tc112, tf113⟩ := Bk.cf bk2 0 rfl
            obtain ⟨tc114, tf115⟩ := Bk.cf bk2 1 rfl
            obtain ⟨tc116, tf117⟩ := Bk.cf bk2 2 rfl
            obtain ⟨tc118, tf119⟩ := Bk.cf bk3 1 rfl
            go_wp2_with fail
            refine (l7Add_any base _ _ _ _ k2 _ _ _ _ _ _ _ _ (((oL.keep (C1 (w.heap.size) 0 (.slice la2 k2 lc2)) (fun gq h h2 => by have := iv2 gq h; omega)).keep (C1 (w.heap.size) 1 (.slice fa2 k2 fc2)) (fun gq h h2 => by have := iv2 gq h; omega)).keep (C1 (w.heap.size) 2 (.int .i64 (wrap64 (ap + 1)))) (fun gq h h2 => by have := iv2 gq h; omega)) (by first | omega | (simp only [Sa, Ss]; omega)) (by omega)).mono ?_
            rintro e w4 ⟨la3, fa3, lc3, fc3, k3, rfl, hL3, hM3, rfl, hb⟩
            have hD9 := chg_app (((hD.setNew (w.heap.size) 0 (.slice la2 k2 lc2) (Or.inr (by omega))).setNew (w.heap.size) 1 (.slice fa2 k2 fc2) (Or.inr (by omega))).setNew (w.heap.size) 2 (.int .i64 (wrap64 (ap + 1))) (Or.inr (by omega))) hb (fun q hq h => by rcases hN2 q h with h1 | h1; exact h1; omega)
            have hsz120 := hb.size
            simp only [Ss] at hsz120
            clear tf113 tc112 tf115 tc114 tf117 tc116 tf119 tc118
            replace bk2 : Bk w4 (w.heap.size) [.slice la2 k2 lc2, .slice fa2 k2 fc2, .int .i64 (wrap64 (ap + 1))] := Bk.keep (Bk.at (Bk.at (Bk.at bk2 0 (.slice la2 k2 lc2)) 1 (.slice fa2 k2 fc2)) 2 (.int .i64 (wrap64 (ap + 1)))) hb (fun h => by have := iv2 _ h; omega)
            replace bk3 := Bk.keep (Bk.ne (Bk.ne (Bk.ne bk3 (by omega) _) (by omega) _) (by omega) _) hb (fun h => by have := iv2 _ h; omega)
            replace bk4 := Bk.keep (Bk.ne (Bk.ne (Bk.ne bk4 (by omega) _) (by omega) _) (by omega) _) hb (fun h => by have := iv2 _ h; omega)
            clear hb
            clear hD
            have hD := hD9; clear hD9
            try simp only [Sa, Ss] at hM3
            clear oL
            have oL := hL3; clear hL3
            have hN3 : ∀ q, L7B la3 fa3 q → L7B la fa q ∨ w.heap.size ≤ q := fun q h => by rcases hM3 q h with h1 | h1; exact hN2 q h1; exact Or.inr (by omega)
            have iv3 : ∀ q, L7B la3 fa3 q → (q < w.heap.size ∨ w.heap.size + 3 ≤ q) ∧ q < w4.heap.size ∧ base ≤ q := fun q h => by have h2 := oL.lt q h; rcases hM3 q h with h1 | h1; (have := iv2 q h1; omega); omega
            clear hM3 iv2 hN2
            replace lt5 := Bk.lz bk2
            replace lt6 := Bk.lz bk3
            replace lt7 := Bk.lz bk4
            obtain ⟨tc121, tf122⟩ := Bk.cf bk4 0 rfl
            obtain ⟨tc123, tf124⟩ := Bk.cf bk4 1 rfl
            obtain ⟨tc125, tf126⟩ := Bk.cf bk4 2 rfl
            have hBf := (Bk.at (Bk.at (Bk.at bk4 0 (.slice la3 (k2 + 1) lc3)) 1 (.slice fa3 (k2 + 1) fc3)) 2 (.int .i64 (wrap64 (ap + 1))))
            have xr0 := Bk.cell hBf 0 (v := .slice la3 (k2 + 1) lc3) rfl
            have xr1 := Bk.cell hBf 1 (v := .slice fa3 (k2 + 1) fc3) rfl
            have xr2 := Bk.cell hBf 2 (v := .int .i64 (wrap64 (ap + 1))) rfl
            clear hBf
            have HDF := Lib.hid (((hD.setNew (w.heap.size + 1 + 1) 0 (.slice la3 (k2 + 1) lc3) (Or.inr (by omega))).setNew (w.heap.size + 1 + 1) 1 (.slice fa3 (k2 + 1) fc3) (Or.inr (by omega))).setNew (w.heap.size + 1 + 1) 2 (.int .i64 (wrap64 (ap + 1))) (Or.inr (by omega)))
            have HOL := Lib.hid (((oL.keep (C1 (w.heap.size + 1 + 1) 0 (.slice la3 (k2 + 1) lc3)) (fun gq h h2 => by have := iv3 gq h; omega)).keep (C1 (w.heap.size + 1 + 1) 1 (.slice fa3 (k2 + 1) fc3)) (fun gq h h2 => by have := iv3 gq h; omega)).keep (C1 (w.heap.size + 1 + 1) 2 (.int .i64 (wrap64 (ap + 1)))) (fun gq h h2 => by have := iv3 gq h; omega))
            clear hD oL
            go_wp2
            exact bodyPost_ret (v := .agg #[.slice la3 (k2 + 1) lc3, .slice fa3 (k2 + 1) fc3, .int .i64 (wrap64 (ap + 1))]) (by simp [results, Try.results167, go_sem, xr0, xr1, xr2]) rfl (by exact ⟨la3, fa3, lc3, fc3, k2 + 1, _, rfl, HOL.out, hN3, by omega, by have := HSB.out; omega, HDF.out⟩)
          · skip
            by_cases hq3 : (nk == 3) = true
            · skip
              obtain ⟨tc127, tf128⟩ := Bk.cf bk2 0 rfl
              obtain ⟨tc129, tf130⟩ := Bk.cf bk2 1 rfl
              obtain ⟨tc131, tf132⟩ := Bk.cf bk2 2 rfl
              obtain ⟨tc133, tf134⟩ := Bk.cf bk3 0 rfl
              go_wp2_with fail
              refine (l7Add_any base _ _ _ _ k1 _ _ _ _ _ _ _ _ (((oL.keep (C1 (w.heap.size) 0 (.slice la1 k1 lc1)) (fun gq h h2 => by have := iv1 gq h; omega)).keep (C1 (w.heap.size) 1 (.slice fa1 k1 fc1)) (fun gq h h2 => by have := iv1 gq h; omega)).keep (C1 (w.heap.size) 2 (.int .i64 (wrap64 (ap + 1)))) (fun gq h h2 => by have := iv1 gq h; omega)) (by first | omega | (simp only [Sa, Ss]; omega)) (by omega)).mono ?_
              rintro e w3 ⟨la2, fa2, lc2, fc2, k2, rfl, hL2, hM2, rfl, hb⟩
              have hD9 := chg_app (((hD.setNew (w.heap.size) 0 (.slice la1 k1 lc1) (Or.inr (by omega))).setNew (w.heap.size) 1 (.slice fa1 k1 fc1) (Or.inr (by omega))).setNew (w.heap.size) 2 (.int .i64 (wrap64 (ap + 1))) (Or.inr (by omega))) hb (fun q hq h => by rcases hN1 q h with h1 | h1; exact h1; omega)
              have hsz135 := hb.size
              simp only [Ss] at hsz135
              clear tf128 tc127 tf130 tc129 tf132 tc131 tf134 tc133
              replace bk2 : Bk w3 (w.heap.size) [.slice la1 k1 lc1, .slice fa1 k1 fc1, .int .i64 (wrap64 (ap + 1))] := Bk.keep (Bk.at (Bk.at (Bk.at bk2 0 (.slice la1 k1 lc1)) 1 (.slice fa1 k1 fc1)) 2 (.int .i64 (wrap64 (ap + 1)))) hb (fun h => by have := iv1 _ h; omega)
              replace bk3 := Bk.keep (Bk.ne (Bk.ne (Bk.ne bk3 (by omega) _) (by omega) _) (by omega) _) hb (fun h => by have := iv1 _ h; omega)
              replace bk4 := Bk.keep (Bk.ne (Bk.ne (Bk.ne bk4 (by omega) _) (by omega) _) (by omega) _) hb (fun h => by have := iv1 _ h; omega)
              clear hb
              clear hD
              have hD := hD9; clear hD9
              try simp only [Sa, Ss] at hM2
              clear oL
              have oL := hL2; clear hL2
              have hN2 : ∀ q, L7B la2 fa2 q → L7B la fa q ∨ w.heap.size ≤ q := fun q h => by rcases hM2 q h with h1 | h1; exact hN1 q h1; exact Or.inr (by omega)
              have iv2 : ∀ q, L7B la2 fa2 q → (q < w.heap.size ∨ w.heap.size + 3 ≤ q) ∧ q < w3.heap.size ∧ base ≤ q := fun q h => by have h2 := oL.lt q h; rcases hM2 q h with h1 | h1; (have := iv1 q h1; omega); omega
              clear hM2 iv1 hN1
              replace lt5 := Bk.lz bk2
              replace lt6 := Bk.lz bk3
              replace lt7 := Bk.lz bk4
              have HCL := Lib.hid (fun W hD la fa lc fc k ap dep g1 g2 g3 => HBO.out W hD bp bc (by simp) la fa lc fc k ap dep g1 g2 g3)
              obtain ⟨tc136, tf137⟩ := Bk.cf bk2 0 rfl
              obtain ⟨tc138, tf139⟩ := Bk.cf bk2 1 rfl
              obtain ⟨tc140, tf141⟩ := Bk.cf bk2 2 rfl
              obtain ⟨tc142, tf143⟩ := Bk.cf bk3 9 rfl
              go_wp2_with fail
              refine (HCL.out _ (((hD.setNew (w.heap.size) 0 (.slice la2 (k1 + 1) lc2) (Or.inr (by omega))).setNew (w.heap.size) 1 (.slice fa2 (k1 + 1) fc2) (Or.inr (by omega))).setNew (w.heap.size) 2 (.int .i64 (wrap64 (ap + 1))) (Or.inr (by omega))) _ _ _ _ (k1 + 1) _ _ (((oL.keep (C1 (w.heap.size) 0 (.slice la2 (k1 + 1) lc2)) (fun gq h h2 => by have := iv2 gq h; omega)).keep (C1 (w.heap.size) 1 (.slice fa2 (k1 + 1) fc2)) (fun gq h h2 => by have := iv2 gq h; omega)).keep (C1 (w.heap.size) 2 (.int .i64 (wrap64 (ap + 1)))) (fun gq h h2 => by have := iv2 gq h; omega)) (by first | omega | (simp only [Sa, Ss]; omega)) (by omega)).mono ?_
              rintro e w4 ⟨la3, fa3, lc3, fc3, k3, ap3, rfl, hL3, hM3, ha3, hz3, hb⟩
              have hD9 := chg_app (((hD.setNew (w.heap.size) 0 (.slice la2 (k1 + 1) lc2) (Or.inr (by omega))).setNew (w.heap.size) 1 (.slice fa2 (k1 + 1) fc2) (Or.inr (by omega))).setNew (w.heap.size) 2 (.int .i64 (wrap64 (ap + 1))) (Or.inr (by omega))) hb (fun q hq h => by rcases hN2 q h with h1 | h1; exact h1; omega)
              have hsz144 := hb.size
              simp only [Ss] at hsz144
              clear tf137 tc136 tf139 tc138 tf141 tc140 tf143 tc142
              replace bk2 : Bk w4 (w.heap.size) [.slice la2 (k1 + 1) lc2, .slice fa2 (k1 + 1) fc2, .int .i64 (wrap64 (ap + 1))] := Bk.keep (Bk.at (Bk.at (Bk.at bk2 0 (.slice la2 (k1 + 1) lc2)) 1 (.slice fa2 (k1 + 1) fc2)) 2 (.int .i64 (wrap64 (ap + 1)))) hb (fun h => by have := iv2 _ h; omega)
              replace bk3 := Bk.keep (Bk.ne (Bk.ne (Bk.ne bk3 (by omega) _) (by omega) _) (by omega) _) hb (fun h => by have := iv2 _ h; omega)
              replace bk4 := Bk.keep (Bk.ne (Bk.ne (Bk.ne bk4 (by omega) _) (by omega) _) (by omega) _) hb (fun h => by have := iv2 _ h; omega)
              clear hb
              clear hD
              have hD := hD9; clear hD9
              try simp only [Sa, Ss] at hM3
              clear oL
              have oL := hL3; clear hL3
              have hN3 : ∀ q, L7B la3 fa3 q → L7B la fa q ∨ w.heap.size ≤ q := fun q h => by rcases hM3 q h with h1 | h1; exact hN2 q h1; exact Or.inr (by omega)
              have iv3 : ∀ q, L7B la3 fa3 q → (q < w.heap.size ∨ w.heap.size + 3 ≤ q) ∧ q < w4.heap.size ∧ base ≤ q := fun q h => by have h2 := oL.lt q h; rcases hM3 q h with h1 | h1; (have := iv2 q h1; omega); omega
              clear hM3 iv2 hN2
              clear HCL
              replace lt5 := Bk.lz bk2
              replace lt6 := Bk.lz bk3
              replace lt7 := Bk.lz bk4
              obtain ⟨tc145, tf146⟩ := Bk.cf bk2 0 rfl
              obtain ⟨tc147, tf148⟩ := Bk.cf bk2 1 rfl
              obtain ⟨tc149, tf150⟩ := Bk.cf bk2 2 rfl
              go_wp2_with fail
              refine (l7Add_any base _ _ _ _ k3 _ _ _ _ _ _ _ _ (((oL.keep (C1 (w.heap.size) 0 (.slice la3 k3 lc3)) (fun gq h h2 => by have := iv3 gq h; omega)).keep (C1 (w.heap.size) 1 (.slice fa3 k3 fc3)) (fun gq h h2 => by have := iv3 gq h; omega)).keep (C1 (w.heap.size) 2 (.int .i64 ap3)) (fun gq h h2 => by have := iv3 gq h; omega)) (by first | omega | (simp only [Sa, Ss]; omega)) (by omega)).mono ?_
              rintro e w5 ⟨la4, fa4, lc4, fc4, k4, rfl, hL4, hM4, rfl, hb⟩
              have hD9 := chg_app (((hD.setNew (w.heap.size) 0 (.slice la3 k3 lc3) (Or.inr (by omega))).setNew (w.heap.size) 1 (.slice fa3 k3 fc3) (Or.inr (by omega))).setNew (w.heap.size) 2 (.int .i64 ap3) (Or.inr (by omega))) hb (fun q hq h => by rcases hN3 q h with h1 | h1; exact h1; omega)
              have hsz151 := hb.size
              simp only [Ss] at hsz151
              clear tf146 tc145 tf148 tc147 tf150 tc149
              replace bk2 : Bk w5 (w.heap.size) [.slice la3 k3 lc3, .slice fa3 k3 fc3, .int .i64 ap3] := Bk.keep (Bk.at (Bk.at (Bk.at bk2 0 (.slice la3 k3 lc3)) 1 (.slice fa3 k3 fc3)) 2 (.int .i64 ap3)) hb (fun h => by have := iv3 _ h; omega)
              replace bk3 := Bk.keep (Bk.ne (Bk.ne (Bk.ne bk3 (by omega) _) (by omega) _) (by omega) _) hb (fun h => by have := iv3 _ h; omega)
              replace bk4 := Bk.keep (Bk.ne (Bk.ne (Bk.ne bk4 (by omega) _) (by omega) _) (by omega) _) hb (fun h => by have := iv3 _ h; omega)
              clear hb
              clear hD
              have hD := hD9; clear hD9
              try simp only [Sa, Ss] at hM4
              clear oL
              have oL := hL4; clear hL4
              have hN4 : ∀ q, L7B la4 fa4 q → L7B la fa q ∨ w.heap.size ≤ q := fun q h => by rcases hM4 q h with h1 | h1; exact hN3 q h1; exact Or.inr (by omega)
              have iv4 : ∀ q, L7B la4 fa4 q → (q < w.heap.size ∨ w.heap.size + 3 ≤ q) ∧ q < w5.heap.size ∧ base ≤ q := fun q h => by have h2 := oL.lt q h; rcases hM4 q h with h1 | h1; (have := iv3 q h1; omega); omega
              clear hM4 iv3 hN3
              replace lt5 := Bk.lz bk2
              replace lt6 := Bk.lz bk3
              replace lt7 := Bk.lz bk4
              obtain ⟨tc152, tf153⟩ := Bk.cf bk2 0 rfl
              obtain ⟨tc154, tf155⟩ := Bk.cf bk2 1 rfl
              obtain ⟨tc156, tf157⟩ := Bk.cf bk2 2 rfl
              go_upto_region 20 with (fail)
              obtain ⟨w6, hnw, hb⟩ := nmw (World.setCell (World.setCell (World.setCell w5 ⟨w.heap.size, 0, none⟩ (.slice la4 (k3 + 1) lc4)) ⟨w.heap.size, 1, none⟩ (.slice fa4 (k3 + 1) fc4)) ⟨w.heap.size, 2, none⟩ (.int .i64 ap3))
              have hD9 := (((hD.setNew (w.heap.size) 0 (.slice la4 (k3 + 1) lc4) (Or.inr (by omega))).setNew (w.heap.size) 1 (.slice fa4 (k3 + 1) fc4) (Or.inr (by omega))).setNew (w.heap.size) 2 (.int .i64 ap3) (Or.inr (by omega))).trans (Chg.of_below hb)
              have hsz158 := hb.size
              simp only [Ss] at hsz158
              clear tf153 tc152 tf155 tc154 tf157 tc156
              replace oL := (((oL.keep (C1 _ _ _) (fun gq h h2 => by have := iv4 gq h; omega)).keep (C1 _ _ _) (fun gq h h2 => by have := iv4 gq h; omega)).keep (C1 _ _ _) (fun gq h h2 => by have := iv4 gq h; omega)).below hb
              replace bk2 : Bk w6 (w.heap.size) [.slice la4 (k3 + 1) lc4, .slice fa4 (k3 + 1) fc4, .int .i64 ap3] := Bk.below (Bk.at (Bk.at (Bk.at bk2 0 (.slice la4 (k3 + 1) lc4)) 1 (.slice fa4 (k3 + 1) fc4)) 2 (.int .i64 ap3)) hb
              replace bk3 := Bk.below (Bk.ne (Bk.ne (Bk.ne bk3 (by omega) _) (by omega) _) (by omega) _) hb
              replace bk4 := Bk.below (Bk.ne (Bk.ne (Bk.ne bk4 (by omega) _) (by omega) _) (by omega) _) hb
              clear hb
              clear hD
              have hD := hD9; clear hD9
              rw [← hnw]
              clear hnw
              replace lt5 := Bk.lz bk2
              replace lt6 := Bk.lz bk3
              replace lt7 := Bk.lz bk4
              obtain ⟨g4, hg4⟩ := oL.pos (by omega)
              subst hg4
              obtain ⟨⟨xg4, hcg4⟩, hfg4⟩ := oL.at k1 2 (by omega) (by omega)
              have hlgg4 := (oL.lt g4 (Or.inl rfl)); have hvgg4 := iv4 g4 (Or.inl rfl)
              obtain ⟨tc159, tf160⟩ := Bk.cf bk2 0 rfl
              go_upto_region 21 with (fail)
              obtain ⟨w7, hnw⟩ : ∃ X, X = (World.setCell w6 ⟨g4, k1 * 5 + 2, none⟩ (.int .i64 (k3 + 1))) := ⟨_, rfl⟩
              have hcS : Chg (fun q => L7B (some ⟨g4, 0, none⟩) fa4 q) w6 w7 := by rw [hnw]; exact (Chg.refl _ _).setCell _ _ _ (fun _ => Or.inl rfl)
              have hLg : L7 w7 base (some ⟨g4, 0, none⟩) fa4 (k3 + 1) lc4 fc4 := by rw [hnw]; exact oL.put k1 2 (by omega) (by omega) _
              rw [← hnw]
              clear hnw
              have hD9 := chg_app hD hcS (fun q hq h => by rcases hN4 q h with h1 | h1; exact h1; omega)
              have hsz161 := hcS.size
              clear tf160 tc159
              replace bk2 : Bk w7 (w.heap.size) [.slice (some ⟨g4, 0, none⟩) (k3 + 1) lc4, .slice fa4 (k3 + 1) fc4, .int .i64 ap3] := Bk.keep bk2 hcS (fun h => by have := iv4 _ h; omega)
              replace bk3 : Bk w7 (w.heap.size + 1) [.int .i64 nk, .int .i64 nt, .int .i64 ik, .int .i64 iv, .slice ip im ic, .int .i64 jk, .int .i64 jv, .slice jp jm jc, .int .i64 nc, .slice bp body.length bc, .slice ep els.length ec] := Bk.keep bk3 hcS (fun h => by have := iv4 _ h; omega)
              replace bk4 : Bk w7 (w.heap.size + 1 + 1) [.slice none 0 0, .slice none 0 0, .int .i64 0] := Bk.keep bk4 hcS (fun h => by have := iv4 _ h; omega)
              clear hcS
              clear hD
              have hD := hD9; clear hD9
              clear oL hcg4 hfg4; have oL := hLg; clear hLg
              have iv4p : ∀ q, L7B (some ⟨g4, 0, none⟩) fa4 q → (q < w.heap.size ∨ w.heap.size + 3 ≤ q) ∧ q < w7.heap.size ∧ base ≤ q := fun q h => by have h2 := oL.lt q h; have := iv4 q h; omega
              clear iv4
              replace lt5 := Bk.lz bk2
              replace lt6 := Bk.lz bk3
              replace lt7 := Bk.lz bk4
              have HCL := Lib.hid (fun W hD la fa lc fc k ap dep g1 g2 g3 => HEL.out W hD ep ec (by simp) la fa lc fc k ap dep g1 g2 g3)
              obtain ⟨tc162, tf163⟩ := Bk.cf bk2 0 rfl
              obtain ⟨tc164, tf165⟩ := Bk.cf bk2 1 rfl
              obtain ⟨tc166, tf167⟩ := Bk.cf bk2 2 rfl
              obtain ⟨tc168, tf169⟩ := Bk.cf bk3 10 rfl
              go_wp2_with fail
              refine (HCL.out _ hD _ _ _ _ (k3 + 1) _ _ oL (by first | omega | (simp only [Sa, Ss]; omega)) (by omega)).mono ?_
              rintro e w8 ⟨la5, fa5, lc5, fc5, k5, ap5, rfl, hL5, hM5, ha5, hz5, hb⟩
              have hD9 := chg_app hD hb (fun q hq h => by rcases hN4 q h with h1 | h1; exact h1; omega)
              have hsz170 := hb.size
              clear tf163 tc162 tf165 tc164 tf167 tc166 tf169 tc168
              replace bk2 := Bk.keep bk2 hb (fun h => by have := iv4p _ h; omega)
              replace bk3 := Bk.keep bk3 hb (fun h => by have := iv4p _ h; omega)
              replace bk4 := Bk.keep bk4 hb (fun h => by have := iv4p _ h; omega)
              clear hb
              clear hD
              have hD := hD9; clear hD9
              try simp only [Sa, Ss] at hM5
              clear oL
              have oL := hL5; clear hL5
              have hN5 : ∀ q, L7B la5 fa5 q → L7B la fa q ∨ w.heap.size ≤ q := fun q h => by rcases hM5 q h with h1 | h1; exact hN4 q h1; exact Or.inr (by omega)
              have iv5 : ∀ q, L7B la5 fa5 q → (q < w.heap.size ∨ w.heap.size + 3 ≤ q) ∧ q < w8.heap.size ∧ base ≤ q := fun q h => by have h2 := oL.lt q h; rcases hM5 q h with h1 | h1; (have := iv4p q h1; omega); omega
              clear hM5 iv4p hN4
              clear HCL
              replace lt5 := Bk.lz bk2
              replace lt6 := Bk.lz bk3
              replace lt7 := Bk.lz bk4
              obtain ⟨tc171, tf172⟩ := Bk.cf bk2 0 rfl
              obtain ⟨tc173, tf174⟩ := Bk.cf bk2 1 rfl
              obtain ⟨tc175, tf176⟩ := Bk.cf bk2 2 rfl
              go_upto_region 22 with (fail)
              obtain ⟨w9, hnw, hb⟩ := nmw (World.setCell (World.setCell (World.setCell w8 ⟨w.heap.size, 0, none⟩ (.slice la5 k5 lc5)) ⟨w.heap.size, 1, none⟩ (.slice fa5 k5 fc5)) ⟨w.heap.size, 2, none⟩ (.int .i64 ap5))
              have hD9 := (((hD.setNew (w.heap.size) 0 (.slice la5 k5 lc5) (Or.inr (by omega))).setNew (w.heap.size) 1 (.slice fa5 k5 fc5) (Or.inr (by omega))).setNew (w.heap.size) 2 (.int .i64 ap5) (Or.inr (by omega))).trans (Chg.of_below hb)
              have hsz177 := hb.size
              simp only [Ss] at hsz177
              clear tf172 tc171 tf174 tc173 tf176 tc175
              replace oL := (((oL.keep (C1 _ _ _) (fun gq h h2 => by have := iv5 gq h; omega)).keep (C1 _ _ _) (fun gq h h2 => by have := iv5 gq h; omega)).keep (C1 _ _ _) (fun gq h h2 => by have := iv5 gq h; omega)).below hb
              replace bk2 : Bk w9 (w.heap.size) [.slice la5 k5 lc5, .slice fa5 k5 fc5, .int .i64 ap5] := Bk.below (Bk.at (Bk.at (Bk.at bk2 0 (.slice la5 k5 lc5)) 1 (.slice fa5 k5 fc5)) 2 (.int .i64 ap5)) hb
              replace bk3 := Bk.below (Bk.ne (Bk.ne (Bk.ne bk3 (by omega) _) (by omega) _) (by omega) _) hb
              replace bk4 := Bk.below (Bk.ne (Bk.ne (Bk.ne bk4 (by omega) _) (by omega) _) (by omega) _) hb
              clear hb
              clear hD
              have hD := hD9; clear hD9
              rw [← hnw]
              clear hnw
              replace lt5 := Bk.lz bk2
              replace lt6 := Bk.lz bk3
              replace lt7 := Bk.lz bk4
              obtain ⟨g5, hg5⟩ := oL.pos (by omega)
              subst hg5
              obtain ⟨⟨xg5, hcg5⟩, hfg5⟩ := oL.at k3 1 (by omega) (by omega)
              have hlgg5 := (oL.lt g5 (Or.inl rfl)); have hvgg5 := iv5 g5 (Or.inl rfl)
              obtain ⟨tc178, tf179⟩ := Bk.cf bk2 0 rfl
              go_upto_region 23 with (fail)
              obtain ⟨w10, hnw⟩ : ∃ X, X = (World.setCell w9 ⟨g5, k3 * 5 + 1, none⟩ (.int .i64 k5)) := ⟨_, rfl⟩
              have hcS : Chg (fun q => L7B (some ⟨g5, 0, none⟩) fa5 q) w9 w10 := by rw [hnw]; exact (Chg.refl _ _).setCell _ _ _ (fun _ => Or.inl rfl)
              have hLg : L7 w10 base (some ⟨g5, 0, none⟩) fa5 k5 lc5 fc5 := by rw [hnw]; exact oL.put k3 1 (by omega) (by omega) _
              rw [← hnw]
              clear hnw
              have hD9 := chg_app hD hcS (fun q hq h => by rcases hN5 q h with h1 | h1; exact h1; omega)
              have hsz180 := hcS.size
              clear tf179 tc178
              replace bk2 : Bk w10 (w.heap.size) [.slice (some ⟨g5, 0, none⟩) k5 lc5, .slice fa5 k5 fc5, .int .i64 ap5] := Bk.keep bk2 hcS (fun h => by have := iv5 _ h; omega)
              replace bk3 : Bk w10 (w.heap.size + 1) [.int .i64 nk, .int .i64 nt, .int .i64 ik, .int .i64 iv, .slice ip im ic, .int .i64 jk, .int .i64 jv, .slice jp jm jc, .int .i64 nc, .slice bp body.length bc, .slice ep els.length ec] := Bk.keep bk3 hcS (fun h => by have := iv5 _ h; omega)
              replace bk4 : Bk w10 (w.heap.size + 1 + 1) [.slice none 0 0, .slice none 0 0, .int .i64 0] := Bk.keep bk4 hcS (fun h => by have := iv5 _ h; omega)
              clear hcS
              clear hD
              have hD := hD9; clear hD9
              clear oL hcg5 hfg5; have oL := hLg; clear hLg
              have iv5p : ∀ q, L7B (some ⟨g5, 0, none⟩) fa5 q → (q < w.heap.size ∨ w.heap.size + 3 ≤ q) ∧ q < w10.heap.size ∧ base ≤ q := fun q h => by have h2 := oL.lt q h; have := iv5 q h; omega
              clear iv5
              replace lt5 := Bk.lz bk2
              replace lt6 := Bk.lz bk3
              replace lt7 := Bk.lz bk4
              obtain ⟨tc181, tf182⟩ := Bk.cf bk2 0 rfl
              obtain ⟨tc183, tf184⟩ := Bk.cf bk2 1 rfl
              obtain ⟨tc185, tf186⟩ := Bk.cf bk2 2 rfl
              obtain ⟨tc187, tf188⟩ := Bk.cf bk4 0 rfl
              obtain ⟨tc189, tf190⟩ := Bk.cf bk4 1 rfl
              obtain ⟨tc191, tf192⟩ := Bk.cf bk4 2 rfl
              have hBf := (Bk.at (Bk.at (Bk.at bk4 0 (.slice (some ⟨g5, 0, none⟩) k5 lc5)) 1 (.slice fa5 k5 fc5)) 2 (.int .i64 ap5))
              have xr0 := Bk.cell hBf 0 (v := .slice (some ⟨g5, 0, none⟩) k5 lc5) rfl
              have xr1 := Bk.cell hBf 1 (v := .slice fa5 k5 fc5) rfl
              have xr2 := Bk.cell hBf 2 (v := .int .i64 ap5) rfl
              clear hBf
              have HDF := Lib.hid (((hD.setNew (w.heap.size + 1 + 1) 0 (.slice (some ⟨g5, 0, none⟩) k5 lc5) (Or.inr (by omega))).setNew (w.heap.size + 1 + 1) 1 (.slice fa5 k5 fc5) (Or.inr (by omega))).setNew (w.heap.size + 1 + 1) 2 (.int .i64 ap5) (Or.inr (by omega)))
              have HOL := Lib.hid (((oL.keep (C1 (w.heap.size + 1 + 1) 0 (.slice (some ⟨g5, 0, none⟩) k5 lc5)) (fun gq h h2 => by have := iv5p gq h; omega)).keep (C1 (w.heap.size + 1 + 1) 1 (.slice fa5 k5 fc5)) (fun gq h h2 => by have := iv5p gq h; omega)).keep (C1 (w.heap.size + 1 + 1) 2 (.int .i64 ap5)) (fun gq h h2 => by have := iv5p gq h; omega))
              clear hD oL
              go_wp2
              exact bodyPost_ret (v := .agg #[.slice (some ⟨g5, 0, none⟩) k5 lc5, .slice fa5 k5 fc5, .int .i64 ap5]) (by simp [results, Try.results167, go_sem, xr0, xr1, xr2]) rfl (by exact ⟨(some ⟨g5, 0, none⟩), fa5, lc5, fc5, k5, _, rfl, HOL.out, hN5, by omega, by have := HSB.out; omega, HDF.out⟩)
            · skip
              obtain ⟨tc193, tf194⟩ := Bk.cf bk2 0 rfl
              obtain ⟨tc195, tf196⟩ := Bk.cf bk2 1 rfl
              obtain ⟨tc197, tf198⟩ := Bk.cf bk2 2 rfl
              obtain ⟨tc199, tf200⟩ := Bk.cf bk3 0 rfl
              obtain ⟨tc201, tf202⟩ := Bk.cf bk3 8 rfl
              go_wp2_with fail
              refine (l7Add_any base _ _ _ _ k1 _ _ _ _ _ _ _ _ (((oL.keep (C1 (w.heap.size) 0 (.slice la1 k1 lc1)) (fun gq h h2 => by have := iv1 gq h; omega)).keep (C1 (w.heap.size) 1 (.slice fa1 k1 fc1)) (fun gq h h2 => by have := iv1 gq h; omega)).keep (C1 (w.heap.size) 2 (.int .i64 (wrap64 (ap + 1)))) (fun gq h h2 => by have := iv1 gq h; omega)) (by first | omega | (simp only [Sa, Ss]; omega)) (by omega)).mono ?_
              rintro e w3 ⟨la2, fa2, lc2, fc2, k2, rfl, hL2, hM2, rfl, hb⟩
              have hD9 := chg_app (((hD.setNew (w.heap.size) 0 (.slice la1 k1 lc1) (Or.inr (by omega))).setNew (w.heap.size) 1 (.slice fa1 k1 fc1) (Or.inr (by omega))).setNew (w.heap.size) 2 (.int .i64 (wrap64 (ap + 1))) (Or.inr (by omega))) hb (fun q hq h => by rcases hN1 q h with h1 | h1; exact h1; omega)
              have hsz203 := hb.size
              simp only [Ss] at hsz203
              clear tf194 tc193 tf196 tc195 tf198 tc197 tf200 tc199 tf202 tc201
              replace bk2 : Bk w3 (w.heap.size) [.slice la1 k1 lc1, .slice fa1 k1 fc1, .int .i64 (wrap64 (ap + 1))] := Bk.keep (Bk.at (Bk.at (Bk.at bk2 0 (.slice la1 k1 lc1)) 1 (.slice fa1 k1 fc1)) 2 (.int .i64 (wrap64 (ap + 1)))) hb (fun h => by have := iv1 _ h; omega)
              replace bk3 := Bk.keep (Bk.ne (Bk.ne (Bk.ne bk3 (by omega) _) (by omega) _) (by omega) _) hb (fun h => by have := iv1 _ h; omega)
              replace bk4 := Bk.keep (Bk.ne (Bk.ne (Bk.ne bk4 (by omega) _) (by omega) _) (by omega) _) hb (fun h => by have := iv1 _ h; omega)
              clear hb
              clear hD
              have hD := hD9; clear hD9
              try simp only [Sa, Ss] at hM2
              clear oL
              have oL := hL2; clear hL2
              have hN2 : ∀ q, L7B la2 fa2 q → L7B la fa q ∨ w.heap.size ≤ q := fun q h => by rcases hM2 q h with h1 | h1; exact hN1 q h1; exact Or.inr (by omega)
              have iv2 : ∀ q, L7B la2 fa2 q → (q < w.heap.size ∨ w.heap.size + 3 ≤ q) ∧ q < w3.heap.size ∧ base ≤ q := fun q h => by have h2 := oL.lt q h; rcases hM2 q h with h1 | h1; (have := iv1 q h1; omega); omega
              clear hM2 iv1 hN1
              replace lt5 := Bk.lz bk2
              replace lt6 := Bk.lz bk3
              replace lt7 := Bk.lz bk4
              have HCL := Lib.hid (fun W hD la fa lc fc k ap dep g1 g2 g3 => HBO.out W hD bp bc (by simp) la fa lc fc k ap dep g1 g2 g3)
              obtain ⟨tc204, tf205⟩ := Bk.cf bk2 0 rfl
              obtain ⟨tc206, tf207⟩ := Bk.cf bk2 1 rfl
              obtain ⟨tc208, tf209⟩ := Bk.cf bk2 2 rfl
              obtain ⟨tc210, tf211⟩ := Bk.cf bk3 9 rfl
              go_wp2_with fail
              refine (HCL.out _ (((hD.setNew (w.heap.size) 0 (.slice la2 (k1 + 1) lc2) (Or.inr (by omega))).setNew (w.heap.size) 1 (.slice fa2 (k1 + 1) fc2) (Or.inr (by omega))).setNew (w.heap.size) 2 (.int .i64 (wrap64 (ap + 1))) (Or.inr (by omega))) _ _ _ _ (k1 + 1) _ _ (((oL.keep (C1 (w.heap.size) 0 (.slice la2 (k1 + 1) lc2)) (fun gq h h2 => by have := iv2 gq h; omega)).keep (C1 (w.heap.size) 1 (.slice fa2 (k1 + 1) fc2)) (fun gq h h2 => by have := iv2 gq h; omega)).keep (C1 (w.heap.size) 2 (.int .i64 (wrap64 (ap + 1)))) (fun gq h h2 => by have := iv2 gq h; omega)) (by first | omega | (simp only [Sa, Ss]; omega)) (by omega)).mono ?_
              rintro e w4 ⟨la3, fa3, lc3, fc3, k3, ap3, rfl, hL3, hM3, ha3, hz3, hb⟩
              have hD9 := chg_app (((hD.setNew (w.heap.size) 0 (.slice la2 (k1 + 1) lc2) (Or.inr (by omega))).setNew (w.heap.size) 1 (.slice fa2 (k1 + 1) fc2) (Or.inr (by omega))).setNew (w.heap.size) 2 (.int .i64 (wrap64 (ap + 1))) (Or.inr (by omega))) hb (fun q hq h => by rcases hN2 q h with h1 | h1; exact h1; omega)
              have hsz212 := hb.size
              simp only [Ss] at hsz212
              clear tf205 tc204 tf207 tc206 tf209 tc208 tf211 tc210
              replace bk2 : Bk w4 (w.heap.size) [.slice la2 (k1 + 1) lc2, .slice fa2 (k1 + 1) fc2, .int .i64 (wrap64 (ap + 1))] := Bk.keep (Bk.at (Bk.at (Bk.at bk2 0 (.slice la2 (k1 + 1) lc2)) 1 (.slice fa2 (k1 + 1) fc2)) 2 (.int .i64 (wrap64 (ap + 1)))) hb (fun h => by have := iv2 _ h; omega)
              replace bk3 := Bk.keep (Bk.ne (Bk.ne (Bk.ne bk3 (by omega) _) (by omega) _) (by omega) _) hb (fun h => by have := iv2 _ h; omega)
              replace bk4 := Bk.keep (Bk.ne (Bk.ne (Bk.ne bk4 (by omega) _) (by omega) _) (by omega) _) hb (fun h => by have := iv2 _ h; omega)
              clear hb
              clear hD
              have hD := hD9; clear hD9
              try simp only [Sa, Ss] at hM3
              clear oL
              have oL := hL3; clear hL3
              have hN3 : ∀ q, L7B la3 fa3 q → L7B la fa q ∨ w.heap.size ≤ q := fun q h => by rcases hM3 q h with h1 | h1; exact hN2 q h1; exact Or.inr (by omega)
              have iv3 : ∀ q, L7B la3 fa3 q → (q < w.heap.size ∨ w.heap.size + 3 ≤ q) ∧ q < w4.heap.size ∧ base ≤ q := fun q h => by have h2 := oL.lt q h; rcases hM3 q h with h1 | h1; (have := iv2 q h1; omega); omega
              clear hM3 iv2 hN2
              clear bk3
              clear HCL
              clear lt6
              replace lt5 := Bk.lz bk2
              replace lt7 := Bk.lz bk4
              obtain ⟨tc213, tf214⟩ := Bk.cf bk2 0 rfl
              obtain ⟨tc215, tf216⟩ := Bk.cf bk2 1 rfl
              obtain ⟨tc217, tf218⟩ := Bk.cf bk2 2 rfl
              go_wp2_with fail
              refine (l7Add_any base _ _ _ _ k3 _ _ _ _ _ _ _ _ (((oL.keep (C1 (w.heap.size) 0 (.slice la3 k3 lc3)) (fun gq h h2 => by have := iv3 gq h; omega)).keep (C1 (w.heap.size) 1 (.slice fa3 k3 fc3)) (fun gq h h2 => by have := iv3 gq h; omega)).keep (C1 (w.heap.size) 2 (.int .i64 ap3)) (fun gq h h2 => by have := iv3 gq h; omega)) (by first | omega | (simp only [Sa, Ss]; omega)) (by omega)).mono ?_
              rintro e w5 ⟨la4, fa4, lc4, fc4, k4, rfl, hL4, hM4, rfl, hb⟩
              have hD9 := chg_app (((hD.setNew (w.heap.size) 0 (.slice la3 k3 lc3) (Or.inr (by omega))).setNew (w.heap.size) 1 (.slice fa3 k3 fc3) (Or.inr (by omega))).setNew (w.heap.size) 2 (.int .i64 ap3) (Or.inr (by omega))) hb (fun q hq h => by rcases hN3 q h with h1 | h1; exact h1; omega)
              have hsz219 := hb.size
              simp only [Ss] at hsz219
              clear tf214 tc213 tf216 tc215 tf218 tc217
              replace bk2 : Bk w5 (w.heap.size) [.slice la3 k3 lc3, .slice fa3 k3 fc3, .int .i64 ap3] := Bk.keep (Bk.at (Bk.at (Bk.at bk2 0 (.slice la3 k3 lc3)) 1 (.slice fa3 k3 fc3)) 2 (.int .i64 ap3)) hb (fun h => by have := iv3 _ h; omega)
              replace bk4 := Bk.keep (Bk.ne (Bk.ne (Bk.ne bk4 (by omega) _) (by omega) _) (by omega) _) hb (fun h => by have := iv3 _ h; omega)
              clear hb
              clear hD
              have hD := hD9; clear hD9
              try simp only [Sa, Ss] at hM4
              clear oL
              have oL := hL4; clear hL4
              have hN4 : ∀ q, L7B la4 fa4 q → L7B la fa q ∨ w.heap.size ≤ q := fun q h => by rcases hM4 q h with h1 | h1; exact hN3 q h1; exact Or.inr (by omega)
              have iv4 : ∀ q, L7B la4 fa4 q → (q < w.heap.size ∨ w.heap.size + 3 ≤ q) ∧ q < w5.heap.size ∧ base ≤ q := fun q h => by have h2 := oL.lt q h; rcases hM4 q h with h1 | h1; (have := iv3 q h1; omega); omega
              clear hM4 iv3 hN3
              clear bk2
              clear lt5
              replace lt7 := Bk.lz bk4
              obtain ⟨tc220, tf221⟩ := Bk.cf bk4 0 rfl
              obtain ⟨tc222, tf223⟩ := Bk.cf bk4 1 rfl
              obtain ⟨tc224, tf225⟩ := Bk.cf bk4 2 rfl
              have hBf := (Bk.at (Bk.at (Bk.at bk4 0 (.slice la4 (k3 + 1) lc4)) 1 (.slice fa4 (k3 + 1) fc4)) 2 (.int .i64 ap3))
              have xr0 := Bk.cell hBf 0 (v := .slice la4 (k3 + 1) lc4) rfl
              have xr1 := Bk.cell hBf 1 (v := .slice fa4 (k3 + 1) fc4) rfl
              have xr2 := Bk.cell hBf 2 (v := .int .i64 ap3) rfl
              clear hBf
              have HDF := Lib.hid (((hD.setNew (w.heap.size + 1 + 1) 0 (.slice la4 (k3 + 1) lc4) (Or.inr (by omega))).setNew (w.heap.size + 1 + 1) 1 (.slice fa4 (k3 + 1) fc4) (Or.inr (by omega))).setNew (w.heap.size + 1 + 1) 2 (.int .i64 ap3) (Or.inr (by omega)))
              have HOL := Lib.hid (((oL.keep (C1 (w.heap.size + 1 + 1) 0 (.slice la4 (k3 + 1) lc4)) (fun gq h h2 => by have := iv4 gq h; omega)).keep (C1 (w.heap.size + 1 + 1) 1 (.slice fa4 (k3 + 1) fc4)) (fun gq h h2 => by have := iv4 gq h; omega)).keep (C1 (w.heap.size + 1 + 1) 2 (.int .i64 ap3)) (fun gq h h2 => by have := iv4 gq h; omega))
              clear hD oL
              go_wp2
              exact bodyPost_ret (v := .agg #[.slice la4 (k3 + 1) lc4, .slice fa4 (k3 + 1) fc4, .int .i64 ap3]) (by simp [results, Try.results167, go_sem, xr0, xr1, xr2]) rfl (by exact ⟨la4, fa4, lc4, fc4, k3 + 1, _, rfl, HOL.out, hN4, by omega, by have := HSB.out; omega, HDF.out⟩)
end Go.Proofs.Ytkjedgnepnbkpaa
