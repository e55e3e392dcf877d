/-
 Parts of the proofs of the laws FnCheckLive, FnFinalRegs, FnLiveRegister, FnLiveRegs.
-/
import Derived.Test.YtkjedgnepnbkpaaQG
import Derived.Test.YtkjedgnepnbkpaaQM
set_option linter.all false
namespace Go.Proofs.Ytkjedgnepnbkpaa
open Go.RowKit

theorem no_L7B {q : Nat} (h : L7B none none q) : False := by rcases h with h | h <;> simp [Value.ownBlock] at h
set_option maxHeartbeats 6400000 in
set_option maxRecDepth 100000 in
theorem l7Compile_any (va vb u : Value) (xs ys : List Int) (A : Nat → Prop) (D : Nat) (L : List St) (w : World) (hr : Reads w 1 va xs.length (ints xs)) (hs : Reads w 1 vb ys.length (ints ys)) (hx : BlAt w A D u L) (hA : ∀ q, A q → q < w.heap.size) (hL4 : L.length ≤ 4) (hsm : ∀ x ∈ L, SmS 3 x) :
  Calls Try.prog 146 #[.agg #[va, vb, u]] w fun r w' => ∃ (la fa : Option Addr) (lc fc k : Nat) (ap : Int) (ok : Bool), r = .returned (.tuple #[.agg #[.slice la k lc, .slice fa k fc, .int .i64 ap], .bool ok]) ∧ L7 w' w.heap.size la fa k lc fc ∧ k ≤ 400 ∧ (ok = true → 1 ≤ k) ∧ Below w.heap.size w w' := by
 obtain ⟨pv, cv, rfl⟩ := reads_shape hr
 obtain ⟨pa, ca, rfl⟩ := reads_shape hs
 obtain ⟨pu, cu, rfl⟩ := hx.shape
 have HPV := Lib.hid (fun W (hW : Below w.heap.size w W) => ProgramValid_b _ _ xs ys A D _ L W (hr.below hW) (hs.below hW) (hx.below hW))
 obtain ⟨base, hbase⟩ : ∃ b, b = w.heap.size := ⟨_, rfl⟩
 have HBK := Lib.hid (fun W (hW : Chg (fun q => L7B none none q) w W) la fa lc fc k ap dep h1 h2 h3 => (l7Both base A (fun q hq => by rw [hbase]; exact hA q hq) 3).2 D pu cu L la fa lc fc k ap dep W h1 h2 h3 (BlAt.keep2 hW (fun q _ _ h => no_L7B h) (fun _ h _ => h) (Nat.le_refl _) hx) hsm)
 clear hr hs hx hA hsm
 have hb4 : L.length * sbd 3 ≤ 4 * 5250 := Nat.mul_le_mul hL4 (by decide)
 have hL : L7 w base none none 0 0 0 := L7.nil
 have hb : base ≤ w.heap.size := by omega
 rw [← hbase]
 have HB := Lib.hid hbase; clear hbase
 have iv0 : ∀ q, L7B none none q → (q < w.heap.size ∨ w.heap.size + 2 ≤ q) ∧ q < w.heap.size ∧ base ≤ q := fun q h => (no_L7B h).elim
 have hN0 : ∀ q, L7B none none q → L7B none none q ∨ w.heap.size ≤ q := fun q h => Or.inl h
 have hD : Chg (fun q => L7B none none q) w w := Chg.refl _ _
 have oL := hL; clear hL
 go_enter Try.func146, Try.ntmps146
 go_upto_region 1 with (fail)
 obtain ⟨w1, hnw, hb⟩ := nmw (World.alloc (World.alloc w (.cells #[.slice pv xs.length cv, .slice pa ys.length ca, .slice pu L.length cu] 110)) (.cells #[.slice none 0 0, .slice none 0 0, .int .i64 0] 155))
 have hD9 := ((hD.trans (Chg.of_below (bal (Bs _) (.cells #[.slice pv xs.length cv, .slice pa ys.length ca, .slice pu L.length cu] 110)))).trans (Chg.of_below (bal (Bs _) (.cells #[.slice none 0 0, .slice none 0 0, .int .i64 0] 155)))).trans (Chg.of_below hb)
 have hsz1 := hb.size
 simp only [Sa] at hsz1
 replace oL := ((oL.below (bal (Bs _) _)).below (bal (Bs _) _)).below hb
 have bk2 : Bk w1 (w.heap.size) [.slice pv xs.length cv, .slice pa ys.length ca, .slice pu L.length cu] := Bk.below (Bk.al (Bk.nw (by simp) rfl) (.cells #[.slice none 0 0, .slice none 0 0, .int .i64 0] 155)) hb
 have bk3 : Bk w1 (w.heap.size + 1) [.slice none 0 0, .slice none 0 0, .int .i64 0] := Bk.below (Bk.nw (by simp) rfl) hb
 clear hb
 clear hD
 have hD := hD9; clear hD9
 rw [← hnw]
 clear hnw
 have lt4 := Bk.lz bk2
 have lt5 := Bk.lz bk3
 obtain ⟨tc6, tf7⟩ := Bk.cf bk2 0 rfl
 obtain ⟨tc8, tf9⟩ := Bk.cf bk2 1 rfl
 obtain ⟨tc10, tf11⟩ := Bk.cf bk2 2 rfl
 go_wp2_with fail
 refine (HPV.out _ (hD.below w.heap.size (Nat.le_refl _) (fun q _ h => no_L7B h))).mono ?_
 rintro e w2 ⟨pb, rfl, hb9⟩
 have hD9 := hD.trans (Chg.of_below hb9)
 have hsz12 := hb9.size
 clear tf7 tc6 tf9 tc8 tf11 tc10
 replace oL := oL.below hb9
 replace bk2 : Bk w2 (w.heap.size) [.slice pv xs.length cv, .slice pa ys.length ca, .slice pu L.length cu] := Bk.below bk2 hb9
 replace bk3 : Bk w2 (w.heap.size + 1) [.slice none 0 0, .slice none 0 0, .int .i64 0] := Bk.below bk3 hb9
 clear hb9
 clear hD
 have hD := hD9; clear hD9
 replace lt4 := Bk.lz bk2
 replace lt5 := Bk.lz bk3
 cases pb with
 | false =>
  obtain ⟨tc13, tf14⟩ := Bk.cf bk3 0 rfl
  obtain ⟨tc15, tf16⟩ := Bk.cf bk3 1 rfl
  obtain ⟨tc17, tf18⟩ := Bk.cf bk3 2 rfl
  have hBf := (Bk.at (Bk.at (Bk.at bk3 0 (.slice none 0 0)) 1 (.slice none 0 0)) 2 (.int .i64 0))
  have xr0 := Bk.cell hBf 0 (v := .slice none 0 0) rfl
  have xr1 := Bk.cell hBf 1 (v := .slice none 0 0) rfl
  have xr2 := Bk.cell hBf 2 (v := .int .i64 0) rfl
  clear hBf
  have HDF := Lib.hid (((hD.setNew (w.heap.size + 1) 0 (.slice none 0 0) (Or.inr (by omega))).setNew (w.heap.size + 1) 1 (.slice none 0 0) (Or.inr (by omega))).setNew (w.heap.size + 1) 2 (.int .i64 0) (Or.inr (by omega)))
  have HOL := Lib.hid (((oL.keep (C1 (w.heap.size + 1) 0 (.slice none 0 0)) (fun gq h h2 => by have := iv0 gq h; omega)).keep (C1 (w.heap.size + 1) 1 (.slice none 0 0)) (fun gq h h2 => by have := iv0 gq h; omega)).keep (C1 (w.heap.size + 1) 2 (.int .i64 0)) (fun gq h h2 => by have := iv0 gq h; omega))
  clear hD oL
  go_wp2
  exact bodyPost_ret (v := .tuple #[.agg #[.slice none 0 0, .slice none 0 0, .int .i64 0], .bool false]) (by simp [results, Try.results146, go_sem, xr0, xr1, xr2]) rfl (by exact ⟨none, none, 0, 0, 0, 0, false, rfl, L7.nil, by omega, (fun h => by cases h), (HDF.out.below base (by have := HB.out; omega) (fun q _ h => no_L7B h))⟩)
 | true =>
  obtain ⟨tc19, tf20⟩ := Bk.cf bk2 2 rfl
  go_wp2_with fail
  refine (HBK.out _ hD _ _ _ _ _ _ _ oL (by first | omega | (simp only [Sa, Ss]; omega)) (by omega)).mono ?_
  rintro e w3 ⟨la1, fa1, lc1, fc1, k1, ap1, rfl, hL1, hM1, ha1, hz1, hb⟩
  have hD9 := chg_app hD hb (fun q hq h => by rcases hN0 q h with h1 | h1; exact h1; omega)
  have hsz21 := hb.size
  clear tf20 tc19
  replace bk2 := Bk.keep bk2 hb (fun h => by have := iv0 _ h; omega)
  replace bk3 := Bk.keep bk3 hb (fun h => by have := iv0 _ h; omega)
  clear hb
  clear hD
  have hD := hD9; clear hD9
  try simp only [Sa, Ss] at hM1
  clear oL
  have oL := hL1; clear hL1
  have hN1 : ∀ q, L7B la1 fa1 q → L7B none none q ∨ w.heap.size ≤ q := fun q h => by rcases hM1 q h with h1 | h1; exact hN0 q h1; exact Or.inr (by omega)
  have iv1 : ∀ q, L7B la1 fa1 q → (q < w.heap.size ∨ w.heap.size + 2 ≤ q) ∧ q < w3.heap.size ∧ base ≤ q := fun q h => by have h2 := oL.lt q h; rcases hM1 q h with h1 | h1; (have := iv0 q h1; omega); omega
  clear hM1 iv0 hN0
  clear bk2
  clear lt4
  replace lt5 := Bk.lz bk3
  have hz2 : k1 ≤ 21000 := by omega
  clear hz1 ha1 hb4
  go_upto_region 4 with (fail)
  obtain ⟨w4, hnw, hb⟩ := nmw (World.alloc w3 (.cells #[.slice la1 k1 lc1, .slice fa1 k1 fc1, .int .i64 ap1] 155))
  have hD9 := (hD.trans (Chg.of_below (bal (Bs _) (.cells #[.slice la1 k1 lc1, .slice fa1 k1 fc1, .int .i64 ap1] 155)))).trans (Chg.of_below hb)
  have hsz22 := hb.size
  simp only [Sa] at hsz22
  replace oL := (oL.below (bal (Bs _) _)).below hb
  replace bk3 := Bk.below (Bk.al bk3 _) hb
  have bk23 : Bk w4 (w3.heap.size) [.slice la1 k1 lc1, .slice fa1 k1 fc1, .int .i64 ap1] := Bk.below (Bk.nw (by simp) rfl) hb
  clear hb
  clear hD
  have hD := hD9; clear hD9
  rw [← hnw]
  clear hnw
  replace lt5 := Bk.lz bk3
  have lt24 := Bk.lz bk23
  obtain ⟨tc25, tf26⟩ := Bk.cf bk23 0 rfl
  obtain ⟨tc27, tf28⟩ := Bk.cf bk23 1 rfl
  obtain ⟨tc29, tf30⟩ := Bk.cf bk23 2 rfl
  go_wp2_with fail
  refine (l7Add_any base _ _ _ _ k1 _ _ _ _ _ _ _ _ oL (by first | omega | (simp only [Sa, Ss]; omega)) (by omega)).mono ?_
  rintro e w5 ⟨la2, fa2, lc2, fc2, k2, rfl, hL2, hM2, rfl, hb⟩
  have hD9 := chg_app hD hb (fun q hq h => by rcases hN1 q h with h1 | h1; exact h1; omega)
  have hsz31 := hb.size
  clear tf26 tc25 tf28 tc27 tf30 tc29
  replace bk3 := Bk.keep bk3 hb (fun h => by have := iv1 _ h; omega)
  replace bk23 := Bk.keep bk23 hb (fun h => by have := iv1 _ h; omega)
  clear hb
  clear hD
  have hD := hD9; clear hD9
  try simp only [Sa, Ss] at hM2
  clear oL
  have oL := hL2; clear hL2
  have hN2 : ∀ q, L7B la2 fa2 q → L7B none none q ∨ w.heap.size ≤ q := fun q h => by rcases hM2 q h with h1 | h1; exact hN1 q h1; exact Or.inr (by omega)
  have iv2 : ∀ q, L7B la2 fa2 q → (q < w.heap.size ∨ w.heap.size + 2 ≤ q) ∧ q < w5.heap.size ∧ base ≤ q ∧ ¬ q = w3.heap.size := fun q h => by have h2 := oL.lt q h; rcases hM2 q h with h1 | h1; (have := iv1 q h1; omega); omega
  clear hM2 iv1 hN1
  replace lt5 := Bk.lz bk3
  replace lt24 := Bk.lz bk23
  obtain ⟨tc32, tf33⟩ := Bk.cf bk23 0 rfl
  obtain ⟨tc34, tf35⟩ := Bk.cf bk23 1 rfl
  obtain ⟨tc36, tf37⟩ := Bk.cf bk23 2 rfl
  go_upto_region 5 with (fail)
  obtain ⟨w6, hnw, hb⟩ := nmw (World.setCell (World.setCell (World.setCell w5 ⟨w3.heap.size, 0, none⟩ (.slice la2 (k1 + 1) lc2)) ⟨w3.heap.size, 1, none⟩ (.slice fa2 (k1 + 1) fc2)) ⟨w3.heap.size, 2, none⟩ (.int .i64 ap1))
  have hD9 := (((hD.setNew (w3.heap.size) 0 (.slice la2 (k1 + 1) lc2) (Or.inr (by omega))).setNew (w3.heap.size) 1 (.slice fa2 (k1 + 1) fc2) (Or.inr (by omega))).setNew (w3.heap.size) 2 (.int .i64 ap1) (Or.inr (by omega))).trans (Chg.of_below hb)
  have hsz38 := hb.size
  simp only [Ss] at hsz38
  clear tf33 tc32 tf35 tc34 tf37 tc36
  replace oL := (((oL.keep (C1 _ _ _) (fun gq h h2 => by have := iv2 gq h; omega)).keep (C1 _ _ _) (fun gq h h2 => by have := iv2 gq h; omega)).keep (C1 _ _ _) (fun gq h h2 => by have := iv2 gq h; omega)).below hb
  replace bk3 := Bk.below (Bk.ne (Bk.ne (Bk.ne bk3 (by omega) _) (by omega) _) (by omega) _) hb
  replace bk23 : Bk w6 (w3.heap.size) [.slice la2 (k1 + 1) lc2, .slice fa2 (k1 + 1) fc2, .int .i64 ap1] := Bk.below (Bk.at (Bk.at (Bk.at bk23 0 (.slice la2 (k1 + 1) lc2)) 1 (.slice fa2 (k1 + 1) fc2)) 2 (.int .i64 ap1)) hb
  clear hb
  clear hD
  have hD := hD9; clear hD9
  rw [← hnw]
  clear hnw
  replace lt5 := Bk.lz bk3
  replace lt24 := Bk.lz bk23
  by_cases hbig : (400 : Int) < ((k1 : Nat) : Int) + 1
  ·skip
   have hbg : 400 < k1 + 1 := by omega
   obtain ⟨tc39, tf40⟩ := Bk.cf bk3 0 rfl
   obtain ⟨tc41, tf42⟩ := Bk.cf bk3 1 rfl
   obtain ⟨tc43, tf44⟩ := Bk.cf bk3 2 rfl
   obtain ⟨tc45, tf46⟩ := Bk.cf bk23 0 rfl
   have hBf := (Bk.at (Bk.at (Bk.at bk3 0 (.slice none 0 0)) 1 (.slice none 0 0)) 2 (.int .i64 0))
   have xr0 := Bk.cell hBf 0 (v := .slice none 0 0) rfl
   have xr1 := Bk.cell hBf 1 (v := .slice none 0 0) rfl
   have xr2 := Bk.cell hBf 2 (v := .int .i64 0) rfl
   clear hBf
   have HDF := Lib.hid (((hD.setNew (w.heap.size + 1) 0 (.slice none 0 0) (Or.inr (by omega))).setNew (w.heap.size + 1) 1 (.slice none 0 0) (Or.inr (by omega))).setNew (w.heap.size + 1) 2 (.int .i64 0) (Or.inr (by omega)))
   have HOL := Lib.hid (((oL.keep (C1 (w.heap.size + 1) 0 (.slice none 0 0)) (fun gq h h2 => by have := iv2 gq h; omega)).keep (C1 (w.heap.size + 1) 1 (.slice none 0 0)) (fun gq h h2 => by have := iv2 gq h; omega)).keep (C1 (w.heap.size + 1) 2 (.int .i64 0)) (fun gq h h2 => by have := iv2 gq h; omega))
   clear hD oL
   go_wp2
   exact bodyPost_ret (v := .tuple #[.agg #[.slice none 0 0, .slice none 0 0, .int .i64 0], .bool false]) (by simp [results, Try.results146, go_sem, xr0, xr1, xr2]) rfl (by exact ⟨none, none, 0, 0, 0, 0, false, rfl, L7.nil, by omega, (fun h => by cases h), (HDF.out.below base (by have := HB.out; omega) (fun q _ h => no_L7B h))⟩)
  ·skip
   have hbg : ¬ 400 < k1 + 1 := by omega
   have hbd : decide ((400 : Int) < ((k1 + 1 : Nat) : Int)) = false := decide_eq_false (by omega)
   have hbe : decide ((400 : Int) < (k1 : Int) + 1) = false := decide_eq_false (by omega)
   have hbn : ¬ (400 : Int) < ((k1 + 1 : Nat) : Int) := by omega
   obtain ⟨tc47, tf48⟩ := Bk.cf bk3 0 rfl
   obtain ⟨tc49, tf50⟩ := Bk.cf bk3 1 rfl
   obtain ⟨tc51, tf52⟩ := Bk.cf bk3 2 rfl
   obtain ⟨tc53, tf54⟩ := Bk.cf bk23 0 rfl
   obtain ⟨tc55, tf56⟩ := Bk.cf bk23 1 rfl
   obtain ⟨tc57, tf58⟩ := Bk.cf bk23 2 rfl
   have hBf := (Bk.at (Bk.at (Bk.at bk3 0 (.slice la2 (k1 + 1) lc2)) 1 (.slice fa2 (k1 + 1) fc2)) 2 (.int .i64 ap1))
   have xr0 := Bk.cell hBf 0 (v := .slice la2 (k1 + 1) lc2) rfl
   have xr1 := Bk.cell hBf 1 (v := .slice fa2 (k1 + 1) fc2) rfl
   have xr2 := Bk.cell hBf 2 (v := .int .i64 ap1) rfl
   clear hBf
   have HDF := Lib.hid (((hD.setNew (w.heap.size + 1) 0 (.slice la2 (k1 + 1) lc2) (Or.inr (by omega))).setNew (w.heap.size + 1) 1 (.slice fa2 (k1 + 1) fc2) (Or.inr (by omega))).setNew (w.heap.size + 1) 2 (.int .i64 ap1) (Or.inr (by omega)))
   have HOL := Lib.hid (((oL.keep (C1 (w.heap.size + 1) 0 (.slice la2 (k1 + 1) lc2)) (fun gq h h2 => by have := iv2 gq h; omega)).keep (C1 (w.heap.size + 1) 1 (.slice fa2 (k1 + 1) fc2)) (fun gq h h2 => by have := iv2 gq h; omega)).keep (C1 (w.heap.size + 1) 2 (.int .i64 ap1)) (fun gq h h2 => by have := iv2 gq h; omega))
   clear hD oL
   go_wp2
   exact bodyPost_ret (v := .tuple #[.agg #[.slice la2 (k1 + 1) lc2, .slice fa2 (k1 + 1) fc2, .int .i64 ap1], .bool true]) (by simp [results, Try.results146, go_sem, xr0, xr1, xr2]) rfl (by exact (by first | exact ⟨la2, fa2, lc2, fc2, k1 + 1, ap1, true, rfl, HOL.out, by omega, (fun _ => by omega), (HDF.out.below base (by have := HB.out; omega) (fun q _ h => no_L7B h))⟩ | exact ⟨la2, fa2, lc2, fc2, k1 + 1, ap1, Or.inr ⟨rfl, HOL.out, by omega, (HDF.out.below base (by have := HB.out; omega) (fun q _ h => no_L7B h))⟩⟩ | exact ⟨la2, fa2, lc2, fc2, k1 + 1, ap1, Or.inr ⟨rfl, HOL.out, by omega, by omega, (HDF.out.below base (by have := HB.out; omega) (fun q _ h => no_L7B h))⟩⟩))
end Go.Proofs.Ytkjedgnepnbkpaa
