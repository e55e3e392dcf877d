/-
 Parts of the proofs of the laws FnCheckLive, FnFinalRegs, FnLiveRegister, FnLiveRegs.
-/
import Derived.Test.YtkjedgnepnbkpaaPW
import Derived.Test.YtkjedgnepnbkpaaLX
set_option linter.all false
namespace Go.Proofs.Ytkjedgnepnbkpaa
open Go.RowKit

set_option maxHeartbeats 6400000 in
set_option maxRecDepth 100000 in
theorem l7Add_any (base : Nat) (la fa : Option Addr) (lc fc k : Nat) (ap stmt x0 x1 x2 x3 x4 : Int) (w : World) (hL : L7 w base la fa k lc fc) (hb : base ≤ w.heap.size) (hk : k ≤ 1000000) :
  Calls Try.prog 163 #[.agg #[.slice la k lc, .slice fa k fc, .int .i64 ap], .int .i64 stmt, .agg #[.int .i64 x0, .int .i64 x1, .int .i64 x2, .int .i64 x3, .int .i64 x4]] w fun r w' => ∃ (la' fa' : Option Addr) (lc' fc' k' : Nat), r = .returned (.agg #[.slice la' k' lc', .slice fa' k' fc', .int .i64 ap]) ∧ L7 w' base la' fa' k' lc' fc' ∧ (∀ q, L7B la' fa' q → L7B la fa q ∨ w.heap.size ≤ q) ∧ k' = k + 1 ∧ Chg (fun q => L7B la fa q) w w' := by
 have hlt := hL.lt
 obtain ⟨⟨il, hil, oI⟩, ⟨fl, hfl, oF⟩⟩ := hL
 have HIL := Lib.hid hil; have HFL := Lib.hid hfl; clear hil hfl
 have hIF := own_diff oI oF (by decide)
 have ivI0 : ∀ q, (Value.slice la k lc).ownBlock = some q → q < w.heap.size := fun q h => (oI.lt q h).2
 have ivF0 : ∀ q, (Value.slice fa k fc).ownBlock = some q → q < w.heap.size := fun q h => (oF.lt q h).2
 have HDF : Chg (fun q => L7B la fa q) w w := Chg.refl _ _
 have HIF := Lib.hid hIF; clear hIF

 go_enter Try.func163, Try.ntmps163
 go_upto_region 1 with (fail)
 obtain ⟨w1, hnw, hb⟩ := nmw (World.alloc (World.alloc (World.alloc w (.cells #[.slice la k lc, .slice fa k fc, .int .i64 ap] 155)) (.cells #[.int .i64 x0, .int .i64 x1, .int .i64 x2, .int .i64 x3, .int .i64 x4] 32)) (.cells #[.slice none 0 0, .slice none 0 0, .int .i64 0] 155))
 have hD9 := (((HDF.trans (Chg.of_below (bal (Bs _) (.cells #[.slice la k lc, .slice fa k fc, .int .i64 ap] 155)))).trans (Chg.of_below (bal (Bs _) (.cells #[.int .i64 x0, .int .i64 x1, .int .i64 x2, .int .i64 x3, .int .i64 x4] 32)))).trans (Chg.of_below (bal (Bs _) (.cells #[.slice none 0 0, .slice none 0 0, .int .i64 0] 155)))).trans (Chg.of_below hb)
 have hsz1 := hb.size
 simp only [Sa] at hsz1
 replace oI := Ob (Ob (Ob (Ob oI (bal (Bs _) _)) (bal (Bs _) _)) (bal (Bs _) _)) hb
 replace oF := Ob (Ob (Ob (Ob oF (bal (Bs _) _)) (bal (Bs _) _)) (bal (Bs _) _)) hb
 have bk2 : Bk w1 (w.heap.size) [.slice la k lc, .slice fa k fc, .int .i64 ap] := Bk.below (Bk.al (Bk.al (Bk.nw (by simp) rfl) (.cells #[.int .i64 x0, .int .i64 x1, .int .i64 x2, .int .i64 x3, .int .i64 x4] 32)) (.cells #[.slice none 0 0, .slice none 0 0, .int .i64 0] 155)) hb
 have bx3 : w1.cell? ⟨w.heap.size + 1, 0, none⟩ = some (.int .i64 x0) := Kc hb (Ac (Wc (by simp) (by rfl)) _)
 have bx4 : w1.cell? ⟨w.heap.size + 1, 1, none⟩ = some (.int .i64 x1) := Kc hb (Ac (Wc (by simp) (by rfl)) _)
 have bx5 : w1.cell? ⟨w.heap.size + 1, 2, none⟩ = some (.int .i64 x2) := Kc hb (Ac (Wc (by simp) (by rfl)) _)
 have bx6 : w1.cell? ⟨w.heap.size + 1, 3, none⟩ = some (.int .i64 x3) := Kc hb (Ac (Wc (by simp) (by rfl)) _)
 have bx7 : w1.cell? ⟨w.heap.size + 1, 4, none⟩ = some (.int .i64 x4) := Kc hb (Ac (Wc (by simp) (by rfl)) _)
 have bk8 : Bk w1 (w.heap.size + 1 + 1) [.slice none 0 0, .slice none 0 0, .int .i64 0] := Bk.below (Bk.nw (by simp) rfl) hb
 clear hb
 clear HDF; have HDF := hD9; clear hD9
 rw [← hnw]
 clear hnw
 have lt9 := Bk.lz bk2
 have lt10 := Lc bx3
 have lt11 := Bk.lz bk8
 obtain ⟨tc13, tf14⟩ := Bk.cf bk2 0 rfl
 go_wp2_with (at_builtin; go_must (refine wpList_aps tInstrs rfl _ _ rfl base _ k (inss il) rfl (Ob oI (bal (Bs _) (.cells #[.int .i64 x0, .int .i64 x1, .int .i64 x2, .int .i64 x3, .int .i64 x4] 32))) _ 1 (insc ⟨x0, x1, x2, x3, x4⟩) rfl (Ro (World.ownsRow_lit (base := (w1).heap.size) (e := 32) (size := 5) (w1) #[.int .i64 x0, .int .i64 x1, .int .i64 x2, .int .i64 x3, .int .i64 x4] 1 (Nat.le_refl _) (by unfold maxLen; omega) (by simp)) (by simp)) (one_insc ⟨x0, x1, x2, x3, x4⟩) (by omega) (by first | omega | (simp only [Sa, Ss]; omega)) ?_))
 intro vA w2 oX hc hNw _
 obtain ⟨pX, tX, rfl⟩ := Oh oX
 have hD9 := chg_app (HDF.trans (Chg.of_below (bal (Bs _) (.cells #[.int .i64 x0, .int .i64 x1, .int .i64 x2, .int .i64 x3, .int .i64 x4] 32)))) hc (fun q hq h => Or.inl (by rw [← h]; exact blk_len))
 have hNo : ∀ q, (Value.slice pX (k + 1) tX).ownBlock = some q → (Value.slice la k lc).ownBlock = some q ∨ w.heap.size + 3 ≤ q := fun q h => by rcases hNw with e1 | ⟨g, e1, e2⟩; (exact Or.inl (by rw [← h, ← e1])); (rw [e1] at h; have := Option.some.inj h; simp only [Sa, Ss] at e2; exact Or.inr (by omega))
 have hsz15 := hc.size
 simp only [Sa] at hsz15
 clear tf14 tc13
 replace oF := Ow (Ob oF (bal (Bs _) _)) hc (fun gq h h2 => (fun gq h h2 => HIF.out gq h2 h) gq h h2)
 replace bx3 := Gc hc (Ac bx3 _) (fun h => by have := ivI0 _ h; omega)
 replace bx4 := Gc hc (Ac bx4 _) (fun h => by have := ivI0 _ h; omega)
 replace bx5 := Gc hc (Ac bx5 _) (fun h => by have := ivI0 _ h; omega)
 replace bx6 := Gc hc (Ac bx6 _) (fun h => by have := ivI0 _ h; omega)
 replace bx7 := Gc hc (Ac bx7 _) (fun h => by have := ivI0 _ h; omega)
 replace bk2 := Bk.keep (Bk.al bk2 _) hc (fun h => by have := ivI0 _ h; omega)
 replace bk8 := Bk.keep (Bk.al bk8 _) hc (fun h => by have := ivI0 _ h; omega)
 have bk16 : Bk w2 (w1.heap.size) [.int .i64 x0, .int .i64 x1, .int .i64 x2, .int .i64 x3, .int .i64 x4] := Bk.keep (Bk.nw (by simp) rfl) hc (fun h => by have := ivI0 _ h; omega)
 clear hc
 clear HDF; have HDF := hD9; clear hD9
 have iNX : ∀ q, (Value.slice pX (k + 1) tX).ownBlock = some q → (q < w.heap.size ∨ w.heap.size + 3 ≤ q) ∧ q < w2.heap.size := fun q h => by have h2 := oX.lt q h; rcases hNo q h with h1 | h1; (have := ivI0 q h1; omega); omega
 have hNX := Lib.hid hNo; clear hNo hNw oI
 clear bx3 bx4 bx5 bx6 bx7 bk16
 clear lt10
 replace lt9 := Bk.lz bk2
 replace lt11 := Bk.lz bk8
 have hXF := Lib.hid (own_diff oX oF (by decide))
 obtain ⟨tc17, tf18⟩ := Bk.cf bk2 0 rfl
 go_upto_region 2 with (fail)
 obtain ⟨w3, hnw, hb⟩ := nmw (World.setCell w2 ⟨w.heap.size, 0, none⟩ (.slice pX (k + 1) tX))
 have hD9 := (HDF.setNew (w.heap.size) 0 (.slice pX (k + 1) tX) (Or.inr (by omega))).trans (Chg.of_below hb)
 have hsz19 := hb.size
 simp only [Ss] at hsz19
 clear tf18 tc17
 replace oF := Ob (Oe oF _ _ (fun h => by have := ivF0 _ h; omega) _) hb
 replace oX := Ob (Oe oX _ _ (fun h => by have := iNX _ h; omega) _) hb
 replace bk2 : Bk w3 (w.heap.size) [.slice pX (k + 1) tX, .slice fa k fc, .int .i64 ap] := Bk.below (Bk.at bk2 0 (.slice pX (k + 1) tX)) hb
 replace bk8 := Bk.below (Bk.ne bk8 (by omega) _) hb
 clear hb
 clear HDF; have HDF := hD9; clear hD9
 rw [← hnw]
 clear hnw
 replace lt9 := Bk.lz bk2
 replace lt11 := Bk.lz bk8
 obtain ⟨tc21, tf22⟩ := Bk.cf bk2 1 rfl
 go_wp2_with (at_builtin; go_must (refine wpList_aps tInts rfl _ _ rfl base _ k (ints fl) rfl (Ob oF (bal (Bs _) (.cells #[.int .i64 stmt] 3))) _ 1 (ints [stmt]) rfl (Ro (World.ownsRow_lit (base := (w3).heap.size) (e := 3) (size := 1) (w3) #[.int .i64 stmt] 1 (Nat.le_refl _) (by unfold maxLen; omega) (by simp)) (by simp)) (one_ints [stmt]) (by omega) (by first | omega | (simp only [Sa, Ss]; omega)) ?_))
 intro vA w4 oY hc hNw _
 obtain ⟨pY, tY, rfl⟩ := Oh oY
 have hD9 := chg_app (HDF.trans (Chg.of_below (bal (Bs _) (.cells #[.int .i64 stmt] 3)))) hc (fun q hq h => Or.inr (by rw [← h]; exact blk_len))
 have hNo : ∀ q, (Value.slice pY (k + 1) tY).ownBlock = some q → (Value.slice fa k fc).ownBlock = some q ∨ w.heap.size + 3 ≤ q := fun q h => by rcases hNw with e1 | ⟨g, e1, e2⟩; (exact Or.inl (by rw [← h, ← e1])); (rw [e1] at h; have := Option.some.inj h; simp only [Sa, Ss] at e2; exact Or.inr (by omega))
 have hsz23 := hc.size
 simp only [Sa] at hsz23
 clear tf22 tc21
 replace oX := Ow (Ob oX (bal (Bs _) _)) hc (fun gq h h2 => (fun gq h h2 => hXF.out gq h h2) gq h h2)
 replace bk2 := Bk.keep (Bk.al bk2 _) hc (fun h => by have := ivF0 _ h; omega)
 replace bk8 := Bk.keep (Bk.al bk8 _) hc (fun h => by have := ivF0 _ h; omega)
 have bx24 : w4.cell? ⟨w3.heap.size, 0, none⟩ = some (.int .i64 stmt) := Gc hc (Wc (by simp) (by rfl)) (fun h => by have := ivF0 _ h; omega)
 have bf25 : w4.frozen? ⟨w3.heap.size, 0, none⟩ = false := Gf hc (by simp <;> omega) (Fn (by simp)) (fun h => by have := ivF0 _ h; omega)
 clear hc
 clear HDF; have HDF := hD9; clear hD9
 have iNY : ∀ q, (Value.slice pY (k + 1) tY).ownBlock = some q → (q < w.heap.size ∨ w.heap.size + 3 ≤ q) ∧ q < w4.heap.size := fun q h => by have h2 := oY.lt q h; rcases hNo q h with h1 | h1; (have := ivF0 q h1; omega); omega
 have hNY := Lib.hid hNo; clear hNo hNw oF
 clear bx24 bf25
 replace lt9 := Bk.lz bk2
 replace lt11 := Bk.lz bk8
 obtain ⟨tc26, tf27⟩ := Bk.cf bk2 1 rfl
 go_upto_region 3 with (fail)
 obtain ⟨w5, hnw, hb⟩ := nmw (World.setCell w4 ⟨w.heap.size, 1, none⟩ (.slice pY (k + 1) tY))
 have hD9 := (HDF.setNew (w.heap.size) 1 (.slice pY (k + 1) tY) (Or.inr (by omega))).trans (Chg.of_below hb)
 have hsz28 := hb.size
 simp only [Ss] at hsz28
 clear tf27 tc26
 replace oX := Ob (Oe oX _ _ (fun h => by have := iNX _ h; omega) _) hb
 replace oY := Ob (Oe oY _ _ (fun h => by have := iNY _ h; omega) _) hb
 replace bk2 : Bk w5 (w.heap.size) [.slice pX (k + 1) tX, .slice pY (k + 1) tY, .int .i64 ap] := Bk.below (Bk.at bk2 1 (.slice pY (k + 1) tY)) hb
 replace bk8 := Bk.below (Bk.ne bk8 (by omega) _) hb
 clear hb
 clear HDF; have HDF := hD9; clear hD9
 rw [← hnw]
 clear hnw
 replace lt9 := Bk.lz bk2
 replace lt11 := Bk.lz bk8
 obtain ⟨tc29, tf30⟩ := Bk.cf bk2 0 rfl
 obtain ⟨tc31, tf32⟩ := Bk.cf bk2 1 rfl
 obtain ⟨tc33, tf34⟩ := Bk.cf bk2 2 rfl
 obtain ⟨tc35, tf36⟩ := Bk.cf bk8 0 rfl
 obtain ⟨tc37, tf38⟩ := Bk.cf bk8 1 rfl
 obtain ⟨tc39, tf40⟩ := Bk.cf bk8 2 rfl
 have hBf := (Bk.at (Bk.at (Bk.at bk8 0 (.slice pX (k + 1) tX)) 1 (.slice pY (k + 1) tY)) 2 (.int .i64 ap))
 have xr0 := Bk.cell hBf 0 (v := .slice pX (k + 1) tX) rfl
 have xr1 := Bk.cell hBf 1 (v := .slice pY (k + 1) tY) rfl
 have xr2 := Bk.cell hBf 2 (v := .int .i64 ap) rfl
 have HX := Lib.hid (Oe (Oe (Oe oX (w.heap.size + 1 + 1) 0 (fun h => by have := iNX _ h; omega) (.slice pX (k + 1) tX)) (w.heap.size + 1 + 1) 1 (fun h => by have := iNX _ h; omega) (.slice pY (k + 1) tY)) (w.heap.size + 1 + 1) 2 (fun h => by have := iNX _ h; omega) (.int .i64 ap)); have HY := Lib.hid (Oe (Oe (Oe oY (w.heap.size + 1 + 1) 0 (fun h => by have := iNY _ h; omega) (.slice pX (k + 1) tX)) (w.heap.size + 1 + 1) 1 (fun h => by have := iNY _ h; omega) (.slice pY (k + 1) tY)) (w.heap.size + 1 + 1) 2 (fun h => by have := iNY _ h; omega) (.int .i64 ap)); have HE := Lib.hid (((HDF.setNew (w.heap.size + 1 + 1) 0 (.slice pX (k + 1) tX) (Or.inr (by omega))).setNew (w.heap.size + 1 + 1) 1 (.slice pY (k + 1) tY) (Or.inr (by omega))).setNew (w.heap.size + 1 + 1) 2 (.int .i64 ap) (Or.inr (by omega))); clear oX oY HDF hBf
 go_wp2
 exact bodyPost_ret (v := .agg #[.slice pX (k + 1) tX, .slice pY (k + 1) tY, .int .i64 ap]) (by simp [results, Try.results163, go_sem, xr0, xr1, xr2]) rfl (by exact ⟨pX, pY, tX, tY, k + 1, rfl, ⟨⟨il ++ [⟨x0, x1, x2, x3, x4⟩], by rw [List.length_append, HIL.out]; rfl, by have h := HX.out; rw [← rows_one insc, ← rows_append] at h; exact h⟩, ⟨fl ++ [stmt], by rw [List.length_append, HFL.out]; rfl, by have h := HY.out; rw [← ints_append] at h; exact h⟩⟩, fun q h => by
   rcases h with h | h
   ·rcases hNX.out q (by rw [← h]; exact blk_len) with h1 | h1
    ·exact Or.inl (Or.inl (by rw [← h1]; exact blk_len))
    ·exact Or.inr (by omega)
   ·rcases hNY.out q (by rw [← h]; exact blk_len) with h1 | h1
    ·exact Or.inl (Or.inr (by rw [← h1]; exact blk_len))
    ·exact Or.inr (by omega), rfl, HE.out⟩)
/-- a bound on the code of a small statement -/
def sbd : Nat → Nat
 | 0 => 0
 | d + 1 => 250 + 4 * sbd d

end Go.Proofs.Ytkjedgnepnbkpaa
