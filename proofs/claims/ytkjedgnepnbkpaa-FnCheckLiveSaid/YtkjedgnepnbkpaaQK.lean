/-
 Parts of the proofs of the laws FnCheckLive, FnFinalRegs, FnLiveRegister, FnLiveRegs.
-/
import Derived.Test.YtkjedgnepnbkpaaQJ
set_option linter.all false
namespace Go.Proofs.Ytkjedgnepnbkpaa
open Go.RowKit

set_option maxHeartbeats 6400000 in
set_option maxRecDepth 100000 in
theorem l7Expr_any (base : Nat) (A : Nat → Prop) (hA : ∀ q, A q → q < base) : ∀ (d D : Nat) (n : En) (e : Ex) (la fa : Option Addr) (lc fc k : Nat) (ap stmt reg : Int) (w : World), L7 w base la fa k lc fc → base ≤ w.heap.size → k + bnd3 d ≤ 1000000 → ExAt w A D n e → Thin d e →
  Calls Try.prog 171 #[.agg #[.slice la k lc, .slice fa k fc, .int .i64 ap], .int .i64 stmt, .agg #[.int .i64 n.k, .int .i64 n.v, .slice n.p n.n n.c], .int .i64 reg] w fun r w' => ∃ (la' fa' : Option Addr) (lc' fc' k' : Nat), r = .returned (.agg #[.slice la' k' lc', .slice fa' k' fc', .int .i64 ap]) ∧ L7 w' base la' fa' k' lc' fc' ∧ (∀ q, L7B la' fa' q → L7B la fa q ∨ w.heap.size ≤ q) ∧ k ≤ k' ∧ k' ≤ k + bnd3 d ∧ Chg (fun q => L7B la fa q) w w' := by
 intro d
 induction d with
 | zero => intro D n e la fa lc fc k ap stmt reg w hL hb hk hx ht; cases ht
 | succ d IH =>
  intro D n e la fa lc fc k ap stmt reg w hL hb hk hx ht
  cases D with
  | zero => cases hx
  | succ D =>
   have HBD : Hid (bnd3 (d + 1) = 1 + 3 * bnd3 d) := Lib.hid rfl
   obtain ⟨ek, ev, kids⟩ := e
   obtain ⟨nk, nv, np, nn, nc⟩ := n
   have hs := hx.shape
   simp only [Ex.k, Ex.v, Ex.kids] at hs
   obtain ⟨rfl, rfl, rfl⟩ := hs
   have HX := Lib.hid (fun W (hD : Chg (fun q => L7B la fa q) w W) j (hj : j < kids.length) => (ExAt.keep hD (fun q hq _ h => by have := hA q hq; have := hL.lt q h; omega) (fun _ h _ => h) (Nat.le_refl _) hx).kidm j hj)
   obtain ⟨hl3, htk⟩ := ht
   have HT := Lib.hid htk; clear htk hx
   have hk1 : k + 1 + 3 * bnd3 d ≤ 1000000 := by have := HBD.out; omega
   clear hk
   have HIH := Lib.hid IH; clear IH
   have hl3' : kids.length ≤ 3 := hl3; clear hl3
   generalize bnd3 (d + 1) = BD1 at *
   generalize bnd3 d = BD at *
   have iv0 : ∀ q, L7B la fa q → (q < w.heap.size ∨ w.heap.size + 3 ≤ q) ∧ q < w.heap.size ∧ base ≤ q := fun q h => by have := hL.lt q h; omega
   have hN0 : ∀ q, L7B la fa q → L7B la fa q ∨ w.heap.size ≤ q := fun q h => Or.inl h
   have hD : Chg (fun q => L7B la fa q) w w := Chg.refl _ _
   have oL := hL; clear hL
   go_enter Try.func171, Try.ntmps171
   go_upto_region 1 with (fail)
   obtain ⟨w1, hnw, hb⟩ := nmw (World.alloc (World.alloc (World.alloc w (.cells #[.slice la k lc, .slice fa k fc, .int .i64 ap] 155)) (.cells #[.int .i64 nk, .int .i64 nv, .slice np kids.length nc] 161)) (.cells #[.slice none 0 0, .slice none 0 0, .int .i64 0] 155))
   have hD9 := (((hD.trans (Chg.of_below (bal (Bs _) (.cells #[.slice la k lc, .slice fa k fc, .int .i64 ap] 155)))).trans (Chg.of_below (bal (Bs _) (.cells #[.int .i64 nk, .int .i64 nv, .slice np kids.length nc] 161)))).trans (Chg.of_below (bal (Bs _) (.cells #[.slice none 0 0, .slice none 0 0, .int .i64 0] 155)))).trans (Chg.of_below hb)
   have hsz1 := hb.size
   simp only [Sa] at hsz1
   replace oL := (((oL.below (bal (Bs _) _)).below (bal (Bs _) _)).below (bal (Bs _) _)).below hb
   have bk2 : Bk w1 (w.heap.size) [.slice la k lc, .slice fa k fc, .int .i64 ap] := Bk.below (Bk.al (Bk.al (Bk.nw (by simp) rfl) (.cells #[.int .i64 nk, .int .i64 nv, .slice np kids.length nc] 161)) (.cells #[.slice none 0 0, .slice none 0 0, .int .i64 0] 155)) hb
   have bx3 : w1.cell? ⟨w.heap.size + 1, 0, none⟩ = some (.int .i64 nk) := Kc hb (Ac (Wc (by simp) (by rfl)) _)
   have bx4 : w1.cell? ⟨w.heap.size + 1, 1, none⟩ = some (.int .i64 nv) := Kc hb (Ac (Wc (by simp) (by rfl)) _)
   have bx5 : w1.cell? ⟨w.heap.size + 1, 2, none⟩ = some (.slice np kids.length nc) := Kc hb (Ac (Wc (by simp) (by rfl)) _)
   have bk6 : Bk w1 (w.heap.size + 1 + 1) [.slice none 0 0, .slice none 0 0, .int .i64 0] := Bk.below (Bk.nw (by simp) rfl) hb
   clear hb
   clear hD
   have hD := hD9; clear hD9
   rw [← hnw]
   clear hnw
   have lt7 := Bk.lz bk2
   have lt8 := Lc bx3
   have lt9 := Bk.lz bk6
   by_cases hq1 : (nk == 1) = true
   ·skip
    obtain ⟨tc10, tf11⟩ := Bk.cf bk2 0 rfl
    obtain ⟨tc12, tf13⟩ := Bk.cf bk2 1 rfl
    obtain ⟨tc14, tf15⟩ := Bk.cf bk2 2 rfl
    go_wp2_with fail
    refine (l7Add_any base _ _ _ _ k _ _ _ _ _ _ _ _ oL (by first | omega | (simp only [Sa, Ss]; omega)) (by omega)).mono ?_
    rintro e w2 ⟨la1, fa1, lc1, fc1, k1, rfl, hL1, hM1, rfl, hb⟩
    have hD9 := chg_app hD hb (fun q hq h => by rcases hN0 q h with h1 | h1; exact h1; omega)
    have hsz16 := hb.size
    clear tf11 tc10 tf13 tc12 tf15 tc14
    replace bx3 := Gc hb bx3 (fun h => by have := iv0 _ h; omega)
    replace bx4 := Gc hb bx4 (fun h => by have := iv0 _ h; omega)
    replace bx5 := Gc hb bx5 (fun h => by have := iv0 _ h; omega)
    replace bk2 := Bk.keep bk2 hb (fun h => by have := iv0 _ h; omega)
    replace bk6 := Bk.keep bk6 hb (fun h => by have := iv0 _ h; omega)
    clear hb
    clear hD
    have hD := hD9; clear hD9
    try simp only [Sa, Ss] at hM1
    clear oL
    have oL := hL1; clear hL1
    have hN1 : ∀ q, L7B la1 fa1 q → L7B la fa q ∨ w.heap.size ≤ q := fun q h => by rcases hM1 q h with h1 | h1; exact hN0 q h1; exact Or.inr (by omega)
    have iv1 : ∀ q, L7B la1 fa1 q → (q < w.heap.size ∨ w.heap.size + 3 ≤ q) ∧ q < w2.heap.size ∧ base ≤ q := fun q h => by have h2 := oL.lt q h; rcases hM1 q h with h1 | h1; (have := iv0 q h1; omega); omega
    clear hM1 iv0 hN0
    replace lt7 := Bk.lz bk2
    replace lt8 := Lc bx3
    replace lt9 := Bk.lz bk6
    obtain ⟨tc17, tf18⟩ := Bk.cf bk6 0 rfl
    obtain ⟨tc19, tf20⟩ := Bk.cf bk6 1 rfl
    obtain ⟨tc21, tf22⟩ := Bk.cf bk6 2 rfl
    have hBf := (Bk.at (Bk.at (Bk.at bk6 0 (.slice la1 (k + 1) lc1)) 1 (.slice fa1 (k + 1) fc1)) 2 (.int .i64 ap))
    have xr0 := Bk.cell hBf 0 (v := .slice la1 (k + 1) lc1) rfl
    have xr1 := Bk.cell hBf 1 (v := .slice fa1 (k + 1) fc1) rfl
    have xr2 := Bk.cell hBf 2 (v := .int .i64 ap) rfl
    clear hBf
    have HDF := Lib.hid (((hD.setNew (w.heap.size + 1 + 1) 0 (.slice la1 (k + 1) lc1) (Or.inr (by omega))).setNew (w.heap.size + 1 + 1) 1 (.slice fa1 (k + 1) fc1) (Or.inr (by omega))).setNew (w.heap.size + 1 + 1) 2 (.int .i64 ap) (Or.inr (by omega)))
    have HOL := Lib.hid (((oL.keep (C1 (w.heap.size + 1 + 1) 0 (.slice la1 (k + 1) lc1)) (fun gq h h2 => by have := iv1 gq h; omega)).keep (C1 (w.heap.size + 1 + 1) 1 (.slice fa1 (k + 1) fc1)) (fun gq h h2 => by have := iv1 gq h; omega)).keep (C1 (w.heap.size + 1 + 1) 2 (.int .i64 ap)) (fun gq h h2 => by have := iv1 gq h; omega))
    clear hD oL
    go_wp2
    exact bodyPost_ret (v := .agg #[.slice la1 (k + 1) lc1, .slice fa1 (k + 1) fc1, .int .i64 ap]) (by simp [results, Try.results171, go_sem, xr0, xr1, xr2]) rfl (by exact ⟨la1, fa1, lc1, fc1, k + 1, rfl, HOL.out, hN1, by omega, by have := HBD.out; omega, HDF.out⟩)
   ·skip
    by_cases hq2 : (nk == 2) = true
    ·skip
     obtain ⟨tc23, tf24⟩ := Bk.cf bk2 0 rfl
     obtain ⟨tc25, tf26⟩ := Bk.cf bk2 1 rfl
     obtain ⟨tc27, tf28⟩ := Bk.cf bk2 2 rfl
     go_wp2_with fail
     refine (l7Add_any base _ _ _ _ k _ _ _ _ _ _ _ _ oL (by first | omega | (simp only [Sa, Ss]; omega)) (by omega)).mono ?_
     rintro e w2 ⟨la1, fa1, lc1, fc1, k1, rfl, hL1, hM1, rfl, hb⟩
     have hD9 := chg_app hD hb (fun q hq h => by rcases hN0 q h with h1 | h1; exact h1; omega)
     have hsz29 := hb.size
     clear tf24 tc23 tf26 tc25 tf28 tc27
     replace bx3 := Gc hb bx3 (fun h => by have := iv0 _ h; omega)
     replace bx4 := Gc hb bx4 (fun h => by have := iv0 _ h; omega)
     replace bx5 := Gc hb bx5 (fun h => by have := iv0 _ h; omega)
     replace bk2 := Bk.keep bk2 hb (fun h => by have := iv0 _ h; omega)
     replace bk6 := Bk.keep bk6 hb (fun h => by have := iv0 _ h; omega)
     clear hb
     clear hD
     have hD := hD9; clear hD9
     try simp only [Sa, Ss] at hM1
     clear oL
     have oL := hL1; clear hL1
     have hN1 : ∀ q, L7B la1 fa1 q → L7B la fa q ∨ w.heap.size ≤ q := fun q h => by rcases hM1 q h with h1 | h1; exact hN0 q h1; exact Or.inr (by omega)
     have iv1 : ∀ q, L7B la1 fa1 q → (q < w.heap.size ∨ w.heap.size + 3 ≤ q) ∧ q < w2.heap.size ∧ base ≤ q := fun q h => by have h2 := oL.lt q h; rcases hM1 q h with h1 | h1; (have := iv0 q h1; omega); omega
     clear hM1 iv0 hN0
     replace lt7 := Bk.lz bk2
     replace lt8 := Lc bx3
     replace lt9 := Bk.lz bk6
     obtain ⟨tc30, tf31⟩ := Bk.cf bk6 0 rfl
     obtain ⟨tc32, tf33⟩ := Bk.cf bk6 1 rfl
     obtain ⟨tc34, tf35⟩ := Bk.cf bk6 2 rfl
     have hBf := (Bk.at (Bk.at (Bk.at bk6 0 (.slice la1 (k + 1) lc1)) 1 (.slice fa1 (k + 1) fc1)) 2 (.int .i64 ap))
     have xr0 := Bk.cell hBf 0 (v := .slice la1 (k + 1) lc1) rfl
     have xr1 := Bk.cell hBf 1 (v := .slice fa1 (k + 1) fc1) rfl
     have xr2 := Bk.cell hBf 2 (v := .int .i64 ap) rfl
     clear hBf
     have HDF := Lib.hid (((hD.setNew (w.heap.size + 1 + 1) 0 (.slice la1 (k + 1) lc1) (Or.inr (by omega))).setNew (w.heap.size + 1 + 1) 1 (.slice fa1 (k + 1) fc1) (Or.inr (by omega))).setNew (w.heap.size + 1 + 1) 2 (.int .i64 ap) (Or.inr (by omega)))
     have HOL := Lib.hid (((oL.keep (C1 (w.heap.size + 1 + 1) 0 (.slice la1 (k + 1) lc1)) (fun gq h h2 => by have := iv1 gq h; omega)).keep (C1 (w.heap.size + 1 + 1) 1 (.slice fa1 (k + 1) fc1)) (fun gq h h2 => by have := iv1 gq h; omega)).keep (C1 (w.heap.size + 1 + 1) 2 (.int .i64 ap)) (fun gq h h2 => by have := iv1 gq h; omega))
     clear hD oL
     go_wp2
     exact bodyPost_ret (v := .agg #[.slice la1 (k + 1) lc1, .slice fa1 (k + 1) fc1, .int .i64 ap]) (by simp [results, Try.results171, go_sem, xr0, xr1, xr2]) rfl (by exact ⟨la1, fa1, lc1, fc1, k + 1, rfl, HOL.out, hN1, by omega, by have := HBD.out; omega, HDF.out⟩)
    ·skip
     go_upto_region 6 with (fail)
     replace lt7 := Bk.lz bk2
     replace lt8 := Lc bx3
     replace lt9 := Bk.lz bk6
     have HI0 : Hid (∃ (j : Nat) (la1 fa1 : Option Addr) (lc1 fc1 k1 : Nat), j ≤ kids.length ∧ Value.int .i64 0 = .int .i64 j ∧ Bk w1 (w.heap.size) [.slice la1 k1 lc1, .slice fa1 k1 fc1, .int .i64 ap] ∧ Bk w1 (w.heap.size + 1 + 1) [.slice none 0 0, .slice none 0 0, .int .i64 0] ∧ w1.cell? ⟨w.heap.size + 1, 0, none⟩ = some (.int .i64 nk) ∧ w1.cell? ⟨w.heap.size + 1, 1, none⟩ = some (.int .i64 nv) ∧ w1.cell? ⟨w.heap.size + 1, 2, none⟩ = some (.slice np kids.length nc) ∧ L7 w1 base la1 fa1 k1 lc1 fc1 ∧ (∀ q, L7B la1 fa1 q → L7B la fa q ∨ w.heap.size ≤ q) ∧ (∀ q, L7B la1 fa1 q → (q < w.heap.size ∨ w.heap.size + 3 ≤ q) ∧ q < w1.heap.size ∧ base ≤ q) ∧ k ≤ k1 ∧ k1 ≤ k + j * BD ∧ Chg (fun q => L7B la fa q) w w1 ∧ w1.heap.size ≤ w1.heap.size) := Lib.hid ⟨0, la, fa, lc, fc, k, Nat.zero_le _, rfl, bk2, bk6, bx3, bx4, bx5, oL, hN0, fun q h => by have := iv0 q h; omega, Nat.le_refl _, by omega, hD, Nat.le_refl _⟩
     have hszb : w.heap.size + 3 ≤ w1.heap.size := by omega
     clear hD iv0 hN0 oL bk2 bx3 bx4 bx5 bk6 lt7 lt8 lt9
     go_wp2_with fail
     go_loopw [9] (fun i wr => ∃ (j : Nat) (la1 fa1 : Option Addr) (lc1 fc1 k1 : Nat), j ≤ kids.length ∧ i = .int .i64 j ∧ Bk wr (w.heap.size) [.slice la1 k1 lc1, .slice fa1 k1 fc1, .int .i64 ap] ∧ Bk wr (w.heap.size + 1 + 1) [.slice none 0 0, .slice none 0 0, .int .i64 0] ∧ wr.cell? ⟨w.heap.size + 1, 0, none⟩ = some (.int .i64 nk) ∧ wr.cell? ⟨w.heap.size + 1, 1, none⟩ = some (.int .i64 nv) ∧ wr.cell? ⟨w.heap.size + 1, 2, none⟩ = some (.slice np kids.length nc) ∧ L7 wr base la1 fa1 k1 lc1 fc1 ∧ (∀ q, L7B la1 fa1 q → L7B la fa q ∨ w.heap.size ≤ q) ∧ (∀ q, L7B la1 fa1 q → (q < w.heap.size ∨ w.heap.size + 3 ≤ q) ∧ q < wr.heap.size ∧ base ≤ q) ∧ k ≤ k1 ∧ k1 ≤ k + j * BD ∧ Chg (fun q => L7B la fa q) w wr ∧ w1.heap.size ≤ wr.heap.size) (fun i _ => kids.length - (intOf i).toNat)
     case atStart => exact HI0.out
     case round =>
      obtain ⟨j, la1, fa1, lc1, fc1, k1, hj, rfl, kb4, kb8, d0, d1, d2, oL, hN1, iv1, hk2, hk3, hD, hzr⟩ := hrel
      clear HI0
      have lt36 := Bk.lz kb4
      have lt37 := Bk.lz kb8
      have lt38 := Lc d0
      by_cases hlt : j < kids.length
      ·have hqj : (j : Int) < (kids.length : Int) := by omega
       obtain ⟨kb, ko, m, hp, hAb, hkb, hm, e0, e1, e2⟩ := HX.out wr hD j hlt
       have hkA := hA kb hAb; clear hAb
       have hth := HT.out _ (List.getElem_mem hlt)
       have HTH := Lib.hid hth; clear hth
       generalize kids[j] = y at *
       have hjb : j * BD ≤ 2 * BD := Nat.mul_le_mul_right _ (by omega)
       have HMU := Lib.hid (show (j + 1) * BD = j * BD + BD from Nat.succ_mul j BD)
       have HIC := Lib.hid (fun W (hW : Below wr.heap.size wr W) la fa lc fc k reg h1 h2 h3 => HIH.out D m y la fa lc fc k ap stmt reg W h1 h2 h3 (hm.below hW) HTH.out)
       have hkc : k1 + BD ≤ 1000000 := by omega
       clear hm
       subst hp
       go_upto_region 9 with (fail)
       replace lt36 := Bk.lz kb4
       replace lt37 := Bk.lz kb8
       replace lt38 := Lc d0
       have lt39 := Lc e0
       refine wp_region_noPanic ?_
       refine wp_region_held_drew (S := (fun W' => W'.cell? ⟨w.heap.size + 1, 2, none⟩ = some (.slice (some ⟨kb, ko, none⟩) kids.length nc) ∧ W'.cell? ⟨kb, ko + j * 3, none⟩ = some (.int .i64 m.k) ∧ W'.cell? ⟨kb, ko + j * 3 + 1, none⟩ = some (.int .i64 m.v) ∧ W'.cell? ⟨kb, ko + j * 3 + 2, none⟩ = some (.slice m.p m.n m.c))) (by kernel_rfl) ⟨Kc (Below.drew (Bs wr)) d2, Kc (Below.drew (Bs wr)) e0, Kc (Below.drew (Bs wr)) e1, Kc (Below.drew (Bs wr)) e2⟩ (fun hHeld => ?_)
       obtain ⟨w2, hwd⟩ : ∃ X, X = World.drew wr := ⟨_, rfl⟩
       rw [← hwd] at hHeld ⊢
       have hb : Below wr.heap.size wr w2 := by rw [hwd]; exact Below.drew (Bs _)
       clear hwd
       have hBn := btr (Bs wr) hb
       have hD9 := hD.trans (Chg.of_below hb)
       have hsz40 := hb.size
       replace oL := oL.below hb
       replace d0 := Kc hb d0
       replace d1 := Kc hb d1
       replace d2 := Kc hb d2
       replace e0 := Kc hb e0
       replace e1 := Kc hb e1
       replace e2 := Kc hb e2
       replace kb4 := Bk.below kb4 hb
       replace kb8 := Bk.below kb8 hb
       clear hb
       clear hD
       have hD := hD9; clear hD9
       have hB9 := hBn; clear hBn
       replace lt36 := Bk.lz kb4
       replace lt37 := Bk.lz kb8
       replace lt38 := Lc d0
       replace lt39 := Lc e0
       refine (tq 1 38 rfl rfl ?_ ?_ (tq 2 39 rfl rfl ?_ ?_ (tq 3 40 rfl rfl ?_ ?_ (tq 4 41 rfl rfl ?_ ?_ (tq 5 42 rfl rfl ?_ ?_ (tq 6 43 rfl rfl ?_ ?_ (tq 7 44 rfl rfl ?_ ?_ (tq 8 45 rfl rfl ?_ ?_ (tq 9 46 rfl rfl ?_ ?_ ?_)))))))))
       iterate 9 (rotate_left; intro W' hSw; (try dsimp only at hSw); go_simp; try with_reducible rfl)
       try simp only [Act.put, sb, List.set]
       refine Rdy 0 rfl (fun K hK => ?_)
       obtain ⟨tc41, tf42⟩ := Bk.cf kb4 0 rfl
       obtain ⟨tc43, tf44⟩ := Bk.cf kb4 1 rfl
       obtain ⟨tc45, tf46⟩ := Bk.cf kb4 2 rfl
       go_simp
       replace lt36 := Bk.lz kb4
       replace lt37 := Bk.lz kb8
       replace lt38 := Lc d0
       replace lt39 := Lc e0
       refine hK.out _ _ ⟨d2, e0, e1, e2⟩ (fun hHeld => ?_)
       clear hK K
       try simp only [Act.put, sb, List.set]
       refine Rdy 10 rfl (fun K hK => ?_)
       go_simp
       refine (HIC.out _ hB9 _ _ _ _ k1 _ oL (by omega) hkc).mono ?_
       rintro e w3 ⟨la2, fa2, lc2, fc2, k2, rfl, hL2, hM2, hk4, hk5, hb⟩
       have hD9 := chg_app hD hb (fun q hq h => by rcases hN1 q h with h1 | h1; exact h1; omega)
       have hsz47 := hb.size
       clear tf42 tc41 tf44 tc43 tf46 tc45
       replace d0 := Gc hb d0 (fun h => by have := iv1 _ h; omega)
       replace d1 := Gc hb d1 (fun h => by have := iv1 _ h; omega)
       replace d2 := Gc hb d2 (fun h => by have := iv1 _ h; omega)
       replace e0 := Gc hb e0 (fun h => by have := iv1 _ h; omega)
       replace e1 := Gc hb e1 (fun h => by have := iv1 _ h; omega)
       replace e2 := Gc hb e2 (fun h => by have := iv1 _ h; omega)
       replace kb4 := Bk.keep kb4 hb (fun h => by have := iv1 _ h; omega)
       replace kb8 := Bk.keep kb8 hb (fun h => by have := iv1 _ h; omega)
       clear hb
       clear hD
       have hD := hD9; clear hD9
       try simp only [Sa, Ss] at hM2
       clear oL
       have oL := hL2; clear hL2
       have hN2 : ∀ q, L7B la2 fa2 q → L7B la fa q ∨ w.heap.size ≤ q := fun q h => by rcases hM2 q h with h1 | h1; exact hN1 q h1; exact Or.inr (by omega)
       have iv2 : ∀ q, L7B la2 fa2 q → (q < w.heap.size ∨ w.heap.size + 3 ≤ q) ∧ q < w3.heap.size ∧ base ≤ q := fun q h => by have h2 := oL.lt q h; rcases hM2 q h with h1 | h1; (have := iv1 q h1; omega); omega
       clear hM2 iv1 hN1
       replace lt36 := Bk.lz kb4
       replace lt37 := Bk.lz kb8
       replace lt38 := Lc d0
       replace lt39 := Lc e0
       refine hK.out _ _ ⟨d2, e0, e1, e2⟩ (fun hHeld => ?_)
       clear hK K
       try simp only [Act.put, sb, List.set]
       refine Rdy 11 rfl (fun K hK => ?_)
       obtain ⟨tc48, tf49⟩ := Bk.cf kb4 0 rfl
       obtain ⟨tc50, tf51⟩ := Bk.cf kb4 1 rfl
       obtain ⟨tc52, tf53⟩ := Bk.cf kb4 2 rfl
       go_simp
       obtain ⟨w4, hnw, hb⟩ := nmw (World.setCell (World.setCell (World.setCell w3 ⟨w.heap.size, 0, none⟩ (.slice la2 k2 lc2)) ⟨w.heap.size, 1, none⟩ (.slice fa2 k2 fc2)) ⟨w.heap.size, 2, none⟩ (.int .i64 ap))
       have hD9 := (((hD.setNew (w.heap.size) 0 (.slice la2 k2 lc2) (Or.inr (by omega))).setNew (w.heap.size) 1 (.slice fa2 k2 fc2) (Or.inr (by omega))).setNew (w.heap.size) 2 (.int .i64 ap) (Or.inr (by omega))).trans (Chg.of_below hb)
       have hsz54 := hb.size
       simp only [Ss] at hsz54
       clear tf49 tc48 tf51 tc50 tf53 tc52
       replace oL := (((oL.keep (C1 _ _ _) (fun gq h h2 => by have := iv2 gq h; omega)).keep (C1 _ _ _) (fun gq h h2 => by have := iv2 gq h; omega)).keep (C1 _ _ _) (fun gq h h2 => by have := iv2 gq h; omega)).below hb
       replace d0 := Kc hb (Nc (Nc (Nc d0 (by omega) _) (by omega) _) (by omega) _)
       replace d1 := Kc hb (Nc (Nc (Nc d1 (by omega) _) (by omega) _) (by omega) _)
       replace d2 := Kc hb (Nc (Nc (Nc d2 (by omega) _) (by omega) _) (by omega) _)
       replace e0 := Kc hb (Nc (Nc (Nc e0 (by omega) _) (by omega) _) (by omega) _)
       replace e1 := Kc hb (Nc (Nc (Nc e1 (by omega) _) (by omega) _) (by omega) _)
       replace e2 := Kc hb (Nc (Nc (Nc e2 (by omega) _) (by omega) _) (by omega) _)
       replace kb4 : Bk w4 (w.heap.size) [.slice la2 k2 lc2, .slice fa2 k2 fc2, .int .i64 ap] := Bk.below (Bk.at (Bk.at (Bk.at kb4 0 (.slice la2 k2 lc2)) 1 (.slice fa2 k2 fc2)) 2 (.int .i64 ap)) hb
       replace kb8 := Bk.below (Bk.ne (Bk.ne (Bk.ne kb8 (by omega) _) (by omega) _) (by omega) _) hb
       clear hb
       clear hD
       have hD := hD9; clear hD9
       rw [← hnw]
       clear hnw
       replace lt36 := Bk.lz kb4
       replace lt37 := Bk.lz kb8
       replace lt38 := Lc d0
       replace lt39 := Lc e0
       refine hK.out _ _ ⟨d2, e0, e1, e2⟩ (fun hHeld => ?_)
       clear hK K
       try simp only [Act.put, sb, List.set]
       refine wpAnyH_done (by kernel_rfl) ?_ _
       refine NoPanic.normal ?_
       clear hHeld
       have HH := Lib.hid (And.intro oL hD); clear oL hD
       obtain ⟨tc55, tf56⟩ := Bk.cf kb4 0 rfl
       obtain ⟨tc57, tf58⟩ := Bk.cf kb4 1 rfl
       obtain ⟨tc59, tf60⟩ := Bk.cf kb4 2 rfl
       go_wp2
       go_roundw
       case rel => exact ⟨j + 1, la2, fa2, lc2, fc2, k2, by omega, by go_num, kb4, kb8, d0, d1, d2, HH.out.1, hN2, fun q h => by have := iv2 q h; omega, by omega, by have := HMU.out; omega, HH.out.2, by omega⟩
       case measure => simp [intOf]; omega
      ·have hje : j = kids.length := by omega
       have hk6 : k1 ≤ k + 3 * BD := by have : j * BD ≤ 3 * BD := Nat.mul_le_mul_right _ (by omega); omega
       have hk7 : k1 ≤ 1000000 := by omega
       have hqn : ¬ (j : Int) < (kids.length : Int) := by omega
       clear hk3 hje
       by_cases hq3 : (nk == 3) = true
       ·skip
        obtain ⟨tc61, tf62⟩ := Bk.cf kb4 0 rfl
        obtain ⟨tc63, tf64⟩ := Bk.cf kb4 1 rfl
        obtain ⟨tc65, tf66⟩ := Bk.cf kb4 2 rfl
        go_wp2_with fail
        refine (l7Add_any base _ _ _ _ k1 _ _ _ _ _ _ _ _ oL (by first | omega | (simp only [Sa, Ss]; omega)) (by omega)).mono ?_
        rintro e w2 ⟨la2, fa2, lc2, fc2, k2, rfl, hL2, hM2, rfl, hb⟩
        have hD9 := chg_app hD hb (fun q hq h => by rcases hN1 q h with h1 | h1; exact h1; omega)
        have hsz67 := hb.size
        clear tf62 tc61 tf64 tc63 tf66 tc65
        replace d0 := Gc hb d0 (fun h => by have := iv1 _ h; omega)
        replace d1 := Gc hb d1 (fun h => by have := iv1 _ h; omega)
        replace d2 := Gc hb d2 (fun h => by have := iv1 _ h; omega)
        replace kb4 := Bk.keep kb4 hb (fun h => by have := iv1 _ h; omega)
        replace kb8 := Bk.keep kb8 hb (fun h => by have := iv1 _ h; omega)
        clear hb
        clear hD
        have hD := hD9; clear hD9
        try simp only [Sa, Ss] at hM2
        clear oL
        have oL := hL2; clear hL2
        have hN2 : ∀ q, L7B la2 fa2 q → L7B la fa q ∨ w.heap.size ≤ q := fun q h => by rcases hM2 q h with h1 | h1; exact hN1 q h1; exact Or.inr (by omega)
        have iv2 : ∀ q, L7B la2 fa2 q → (q < w.heap.size ∨ w.heap.size + 3 ≤ q) ∧ q < w2.heap.size ∧ base ≤ q := fun q h => by have h2 := oL.lt q h; rcases hM2 q h with h1 | h1; (have := iv1 q h1; omega); omega
        clear hM2 iv1 hN1
        replace lt36 := Bk.lz kb4
        replace lt37 := Bk.lz kb8
        replace lt38 := Lc d0
        obtain ⟨tc68, tf69⟩ := Bk.cf kb8 0 rfl
        obtain ⟨tc70, tf71⟩ := Bk.cf kb8 1 rfl
        obtain ⟨tc72, tf73⟩ := Bk.cf kb8 2 rfl
        have hBf := (Bk.at (Bk.at (Bk.at kb8 0 (.slice la2 (k1 + 1) lc2)) 1 (.slice fa2 (k1 + 1) fc2)) 2 (.int .i64 ap))
        have xr0 := Bk.cell hBf 0 (v := .slice la2 (k1 + 1) lc2) rfl
        have xr1 := Bk.cell hBf 1 (v := .slice fa2 (k1 + 1) fc2) rfl
        have xr2 := Bk.cell hBf 2 (v := .int .i64 ap) rfl
        clear hBf
        have HDF := Lib.hid (((hD.setNew (w.heap.size + 1 + 1) 0 (.slice la2 (k1 + 1) lc2) (Or.inr (by omega))).setNew (w.heap.size + 1 + 1) 1 (.slice fa2 (k1 + 1) fc2) (Or.inr (by omega))).setNew (w.heap.size + 1 + 1) 2 (.int .i64 ap) (Or.inr (by omega)))
        have HOL := Lib.hid (((oL.keep (C1 (w.heap.size + 1 + 1) 0 (.slice la2 (k1 + 1) lc2)) (fun gq h h2 => by have := iv2 gq h; omega)).keep (C1 (w.heap.size + 1 + 1) 1 (.slice fa2 (k1 + 1) fc2)) (fun gq h h2 => by have := iv2 gq h; omega)).keep (C1 (w.heap.size + 1 + 1) 2 (.int .i64 ap)) (fun gq h h2 => by have := iv2 gq h; omega))
        clear hD oL
        go_wp2
        exact bodyPost_ret (v := .agg #[.slice la2 (k1 + 1) lc2, .slice fa2 (k1 + 1) fc2, .int .i64 ap]) (by simp [results, Try.results171, go_sem, xr0, xr1, xr2]) rfl (by exact ⟨la2, fa2, lc2, fc2, k1 + 1, rfl, HOL.out, hN2, by omega, by have := HBD.out; omega, HDF.out⟩)
       ·skip
        by_cases hq11 : (nk == 11) = true
        ·skip
         obtain ⟨tc74, tf75⟩ := Bk.cf kb4 0 rfl
         obtain ⟨tc76, tf77⟩ := Bk.cf kb4 1 rfl
         obtain ⟨tc78, tf79⟩ := Bk.cf kb4 2 rfl
         go_wp2_with fail
         refine (l7Add_any base _ _ _ _ k1 _ _ _ _ _ _ _ _ oL (by first | omega | (simp only [Sa, Ss]; omega)) (by omega)).mono ?_
         rintro e w2 ⟨la2, fa2, lc2, fc2, k2, rfl, hL2, hM2, rfl, hb⟩
         have hD9 := chg_app hD hb (fun q hq h => by rcases hN1 q h with h1 | h1; exact h1; omega)
         have hsz80 := hb.size
         clear tf75 tc74 tf77 tc76 tf79 tc78
         replace d0 := Gc hb d0 (fun h => by have := iv1 _ h; omega)
         replace d1 := Gc hb d1 (fun h => by have := iv1 _ h; omega)
         replace d2 := Gc hb d2 (fun h => by have := iv1 _ h; omega)
         replace kb4 := Bk.keep kb4 hb (fun h => by have := iv1 _ h; omega)
         replace kb8 := Bk.keep kb8 hb (fun h => by have := iv1 _ h; omega)
         clear hb
         clear hD
         have hD := hD9; clear hD9
         try simp only [Sa, Ss] at hM2
         clear oL
         have oL := hL2; clear hL2
         have hN2 : ∀ q, L7B la2 fa2 q → L7B la fa q ∨ w.heap.size ≤ q := fun q h => by rcases hM2 q h with h1 | h1; exact hN1 q h1; exact Or.inr (by omega)
         have iv2 : ∀ q, L7B la2 fa2 q → (q < w.heap.size ∨ w.heap.size + 3 ≤ q) ∧ q < w2.heap.size ∧ base ≤ q := fun q h => by have h2 := oL.lt q h; rcases hM2 q h with h1 | h1; (have := iv1 q h1; omega); omega
         clear hM2 iv1 hN1
         replace lt36 := Bk.lz kb4
         replace lt37 := Bk.lz kb8
         replace lt38 := Lc d0
         obtain ⟨tc81, tf82⟩ := Bk.cf kb8 0 rfl
         obtain ⟨tc83, tf84⟩ := Bk.cf kb8 1 rfl
         obtain ⟨tc85, tf86⟩ := Bk.cf kb8 2 rfl
         have hBf := (Bk.at (Bk.at (Bk.at kb8 0 (.slice la2 (k1 + 1) lc2)) 1 (.slice fa2 (k1 + 1) fc2)) 2 (.int .i64 ap))
         have xr0 := Bk.cell hBf 0 (v := .slice la2 (k1 + 1) lc2) rfl
         have xr1 := Bk.cell hBf 1 (v := .slice fa2 (k1 + 1) fc2) rfl
         have xr2 := Bk.cell hBf 2 (v := .int .i64 ap) rfl
         clear hBf
         have HDF := Lib.hid (((hD.setNew (w.heap.size + 1 + 1) 0 (.slice la2 (k1 + 1) lc2) (Or.inr (by omega))).setNew (w.heap.size + 1 + 1) 1 (.slice fa2 (k1 + 1) fc2) (Or.inr (by omega))).setNew (w.heap.size + 1 + 1) 2 (.int .i64 ap) (Or.inr (by omega)))
         have HOL := Lib.hid (((oL.keep (C1 (w.heap.size + 1 + 1) 0 (.slice la2 (k1 + 1) lc2)) (fun gq h h2 => by have := iv2 gq h; omega)).keep (C1 (w.heap.size + 1 + 1) 1 (.slice fa2 (k1 + 1) fc2)) (fun gq h h2 => by have := iv2 gq h; omega)).keep (C1 (w.heap.size + 1 + 1) 2 (.int .i64 ap)) (fun gq h h2 => by have := iv2 gq h; omega))
         clear hD oL
         go_wp2
         exact bodyPost_ret (v := .agg #[.slice la2 (k1 + 1) lc2, .slice fa2 (k1 + 1) fc2, .int .i64 ap]) (by simp [results, Try.results171, go_sem, xr0, xr1, xr2]) rfl (by exact ⟨la2, fa2, lc2, fc2, k1 + 1, rfl, HOL.out, hN2, by omega, by have := HBD.out; omega, HDF.out⟩)
        ·skip
         obtain ⟨tc87, tf88⟩ := Bk.cf kb4 0 rfl
         obtain ⟨tc89, tf90⟩ := Bk.cf kb4 1 rfl
         obtain ⟨tc91, tf92⟩ := Bk.cf kb4 2 rfl
         go_wp2_with fail
         refine (l7Add_any base _ _ _ _ k1 _ _ _ _ _ _ _ _ oL (by first | omega | (simp only [Sa, Ss]; omega)) (by omega)).mono ?_
         rintro e w2 ⟨la2, fa2, lc2, fc2, k2, rfl, hL2, hM2, rfl, hb⟩
         have hD9 := chg_app hD hb (fun q hq h => by rcases hN1 q h with h1 | h1; exact h1; omega)
         have hsz93 := hb.size
         clear tf88 tc87 tf90 tc89 tf92 tc91
         replace d0 := Gc hb d0 (fun h => by have := iv1 _ h; omega)
         replace d1 := Gc hb d1 (fun h => by have := iv1 _ h; omega)
         replace d2 := Gc hb d2 (fun h => by have := iv1 _ h; omega)
         replace kb4 := Bk.keep kb4 hb (fun h => by have := iv1 _ h; omega)
         replace kb8 := Bk.keep kb8 hb (fun h => by have := iv1 _ h; omega)
         clear hb
         clear hD
         have hD := hD9; clear hD9
         try simp only [Sa, Ss] at hM2
         clear oL
         have oL := hL2; clear hL2
         have hN2 : ∀ q, L7B la2 fa2 q → L7B la fa q ∨ w.heap.size ≤ q := fun q h => by rcases hM2 q h with h1 | h1; exact hN1 q h1; exact Or.inr (by omega)
         have iv2 : ∀ q, L7B la2 fa2 q → (q < w.heap.size ∨ w.heap.size + 3 ≤ q) ∧ q < w2.heap.size ∧ base ≤ q := fun q h => by have h2 := oL.lt q h; rcases hM2 q h with h1 | h1; (have := iv1 q h1; omega); omega
         clear hM2 iv1 hN1
         replace lt36 := Bk.lz kb4
         replace lt37 := Bk.lz kb8
         replace lt38 := Lc d0
         obtain ⟨tc94, tf95⟩ := Bk.cf kb8 0 rfl
         obtain ⟨tc96, tf97⟩ := Bk.cf kb8 1 rfl
         obtain ⟨tc98, tf99⟩ := Bk.cf kb8 2 rfl
         have hBf := (Bk.at (Bk.at (Bk.at kb8 0 (.slice la2 (k1 + 1) lc2)) 1 (.slice fa2 (k1 + 1) fc2)) 2 (.int .i64 ap))
         have xr0 := Bk.cell hBf 0 (v := .slice la2 (k1 + 1) lc2) rfl
         have xr1 := Bk.cell hBf 1 (v := .slice fa2 (k1 + 1) fc2) rfl
         have xr2 := Bk.cell hBf 2 (v := .int .i64 ap) rfl
         clear hBf
         have HDF := Lib.hid (((hD.setNew (w.heap.size + 1 + 1) 0 (.slice la2 (k1 + 1) lc2) (Or.inr (by omega))).setNew (w.heap.size + 1 + 1) 1 (.slice fa2 (k1 + 1) fc2) (Or.inr (by omega))).setNew (w.heap.size + 1 + 1) 2 (.int .i64 ap) (Or.inr (by omega)))
         have HOL := Lib.hid (((oL.keep (C1 (w.heap.size + 1 + 1) 0 (.slice la2 (k1 + 1) lc2)) (fun gq h h2 => by have := iv2 gq h; omega)).keep (C1 (w.heap.size + 1 + 1) 1 (.slice fa2 (k1 + 1) fc2)) (fun gq h h2 => by have := iv2 gq h; omega)).keep (C1 (w.heap.size + 1 + 1) 2 (.int .i64 ap)) (fun gq h h2 => by have := iv2 gq h; omega))
         clear hD oL
         go_wp2
         exact bodyPost_ret (v := .agg #[.slice la2 (k1 + 1) lc2, .slice fa2 (k1 + 1) fc2, .int .i64 ap]) (by simp [results, Try.results171, go_sem, xr0, xr1, xr2]) rfl (by exact ⟨la2, fa2, lc2, fc2, k1 + 1, rfl, HOL.out, hN2, by omega, by have := HBD.out; omega, HDF.out⟩)
end Go.Proofs.Ytkjedgnepnbkpaa
