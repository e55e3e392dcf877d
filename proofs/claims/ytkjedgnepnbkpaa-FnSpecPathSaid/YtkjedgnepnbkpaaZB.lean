/-
 Parts of the proof of the law FnSpecPath.
-/
import Derived.Test.YtkjedgnepnbkpaaLS
import Derived.Test.YtkjedgnepnbkpaaML
import Derived.Test.YtkjedgnepnbkpaaPW
import Derived.Test.YtkjedgnepnbkpaaZM
set_option linter.all false
namespace Go.Proofs.Ytkjedgnepnbkpaa
open Go.RowKit

set_option maxHeartbeats 6400000 in
set_option maxRecDepth 100000 in
theorem l3Bend_any (vx vy : Value) (m : Mm) (B g p : Nat) (w : World) (hm : ReadsM w vx vy m) (h0 : m.vals.length ≤ 1005) (h1 : m.arrs.length ≤ 1005) (h2 : ∀ r ∈ m.arrs, 3 ≤ r.length ∧ r.length ≤ 4) (hR : Rnd w B g p) (hp : p + 5 ≤ 1000000000) :
  Calls Try.prog 153 #[.pointer (some ⟨g, 0, none⟩), .agg #[vx, vy]] w fun r w' => ∃ (ux uy : Value) (m' : Mm) (p' : Nat), r = .returned (.agg #[ux, uy]) ∧ DrM w' w.heap.size ux uy m' ∧ m'.vals.length ≤ m.vals.length + 1 ∧ m'.arrs.length ≤ m.arrs.length ∧ Rnd w' B g p' ∧ p' ≤ p + 5 ∧ Chg (fun q => q = g) w w' := by
 obtain ⟨a0, c0, a1, c1, rfl, rfl⟩ := hm.shape
 have hpr : pre2 m.arrs m.arrs.length ≤ 4 * m.arrs.length := pre2_le m.arrs 4 (fun k r hr => (h2 r (List.mem_of_getElem? hr)).2) _ (Nat.le_refl _)
 have HM := Lib.hid (fun W (hW : Below w.heap.size w W) => hm.below hW)
 have H2 := Lib.hid h2; clear hm h2
 obtain ⟨xs, L⟩ := m
 simp only at h0 h1 hpr HM H2 ⊢
 have hg := hR.lt
 have hC : Chg (fun k => k = g) w w := Chg.refl _ _
 have ird : ∀ q, (fun k => k = g) q → q = g := fun q h => h
 go_enter Try.func153, Try.ntmps153
 go_wp2_with fail
 refine (l3Copy_any _ _ ⟨xs, L⟩ _ (HM.out _ (bal (bal (Bs w) (.cells #[.slice a0 xs.length c0, .slice a1 L.length c1] 37)) (.cells #[.slice none 0 0, .slice none 0 0] 37))).x (HM.out _ (bal (bal (Bs w) (.cells #[.slice a0 xs.length c0, .slice a1 L.length c1] 37)) (.cells #[.slice none 0 0, .slice none 0 0] 37))).y (by simp only; omega) (by simp only; omega) (by simp only; omega)).mono ?_
 rintro e w1 ⟨ux, uy, us, rfl, oX, oY2, hap, hb⟩
 simp only [Sa] at oX oY2
 obtain ⟨px, tx, rfl⟩ := Oh oX
 obtain ⟨py, ty, rfl⟩ := Oh oY2.out
 have oY : OwnY w1 _ _ us L.length := ⟨L, rfl, H2.out, oY2⟩
 clear oY2 H2 HM
 replace hC := (((hC.trans (Chg.of_below (bal (Bs _) _))).trans (Chg.of_below (bal (Bs _) _)))).trans (Chg.of_below hb)
 replace hR := ((hR.below (bal (Bs _) _)).below (bal (Bs _) _)).below hb
 have hsz1 := hb.size
 simp only [Sa] at hsz1
 have bk2 : Bk w1 (w.heap.size) [.slice a0 xs.length c0, .slice a1 L.length c1] := Bk.below (Bk.al (Bk.nw (by simp) rfl) (.cells #[.slice none 0 0, .slice none 0 0] 37)) hb
 have bk3 : Bk w1 (w.heap.size + 1) [.slice none 0 0, .slice none 0 0] := Bk.below (Bk.nw (by simp) rfl) hb
 clear hb
 have lt4 := Bk.lz bk2
 have lt5 := Bk.lz bk3
 have iv6 := oX.lt
 try simp only [Sa] at iv6
 have iv7 := oY.lt
 try simp only [Sa] at iv7
 go_wp2_with fail
 refine (pick_any _ _ B g (p) (hR.below (bal (Bs _) (.cells #[.slice px xs.length tx, .slice py L.length ty] 37))) (by omega) (by omega) (by omega)).mono ?_
 rintro e w2 ⟨z, z0, z1, rfl, hRn, hc⟩
 replace hC := ((hC.trans (Chg.of_below (bal (Bs _) _)))).trans hc
 replace hR := hRn; clear hRn
 have hsz8 := hc.size
 simp only [Sa] at hsz8
 replace oX := Ow (Ob oX (bal (Bs _) _)) hc (fun gq h h2 => by have := iv6 gq h; have := ird gq h2; omega)
 replace oY := (oY.below (bal (Bs _) _)).keep hc (fun gq h h2 => by have := iv7 gq h; have := ird gq h2; omega)
 replace bk2 := Bk.keep (Bk.al bk2 _) hc (fun h => by have := ird _ h; omega)
 replace bk3 := Bk.keep (Bk.al bk3 _) hc (fun h => by have := ird _ h; omega)
 have bk9 : Bk w2 (w1.heap.size) [.slice px xs.length tx, .slice py L.length ty] := Bk.keep (Bk.nw (by simp) rfl) hc (fun h => by have := ird _ h; omega)
 clear hc
 replace lt4 := Bk.lz bk2
 replace lt5 := Bk.lz bk3
 have lt10 := Bk.lz bk9
 by_cases hk0 : z = 0
 ·subst hk0
  obtain ⟨tc13, tf14⟩ := Bk.cf bk9 0 rfl
  go_wp2_with (at_builtin; refine wpList_aps tInts rfl _ _ rfl (w.heap.size + 1 + 1) _ xs.length (ints xs) rfl (Ob oX (bal (Bs _) (.cells #[.int .i64 0] 3))) _ 1 (ints [0]) rfl ((Ro (World.ownsRow_lit (base := (w2).heap.size) (e := 3) (size := 1) (w2) #[.int .i64 0] 1 (Nat.le_refl _) (by unfold maxLen; omega) (by simp)) (by simp))) (one_ints [0]) (by omega) (by first | omega | (simp only [Sa, Ss]; omega)) ?_)
  intro vA w3 oA12 hc hNw _
  obtain ⟨pA14, tA14, rfl⟩ := Oh oA12
  have in19 : ∀ q, (Value.slice pA14 (xs.length + 1) tA14).ownBlock = some q → ((w.heap.size + 1 + 1 ≤ q ∧ q < w1.heap.size) ∨ w2.heap.size ≤ q) ∧ q < w3.heap.size := fun q h => ⟨by rcases hNw with e | ⟨g, e, hg⟩; (rw [e] at h; exact Or.inl (iv6 q h)); (rw [e] at h; have := Option.some.inj h; first | omega | (simp only [Sa] at hg; omega)), (oA12.lt q h).2⟩
  replace hC := chg_app (hC.trans (Chg.of_below (bal (Bs _) _))) hc (fun q hq h => by have := iv6 q h; omega)
  replace hR := (hR.below (bal (Bs _) _)).keep hc (fun h => by have := iv6 _ h; omega) (fun k hk h => by have := iv6 _ h; omega)
  have hsz15 := hc.size
  simp only [Sa] at hsz15
  clear tf14 tc13
  replace oY := (oY.below (bal (Bs _) _)).keep hc (fun gq h h2 => (fun a b c => hap a c b) gq h h2)
  replace bk2 := Bk.keep (Bk.al bk2 _) hc (fun h => by have := iv6 _ h; omega)
  replace bk3 := Bk.keep (Bk.al bk3 _) hc (fun h => by have := iv6 _ h; omega)
  replace bk9 := Bk.keep (Bk.al bk9 _) hc (fun h => by have := iv6 _ h; omega)
  have bx16 : w3.cell? ⟨w2.heap.size, 0, none⟩ = some (.int .i64 0) := Gc hc (Wc (by simp) (by rfl)) (fun h => by have := iv6 _ h; omega)
  have bf17 : w3.frozen? ⟨w2.heap.size, 0, none⟩ = false := Gf hc (by simp <;> omega) (Fn (by simp)) (fun h => by have := iv6 _ h; omega)
  clear hc
  have iv18 := oA12.lt
  try simp only [Sa] at iv18
  clear hNw oX
  replace lt4 := Bk.lz bk2
  replace lt5 := Bk.lz bk3
  replace lt10 := Bk.lz bk9
  have lt20 := Lc bx16
  obtain ⟨tc21, tf22⟩ := Bk.cf bk9 0 rfl
  go_upto_region 13 with (fail)
  obtain ⟨w4, hnw, hb⟩ := nmw (World.setCell w3 ⟨w1.heap.size, 0, none⟩ (.slice pA14 (xs.length + 1) tA14))
  replace hC := ((hC.setNew _ _ _ (Or.inr (by omega)))).trans (Chg.of_below hb)
  replace hR := (hR.keep (C1 _ _ _) (by omega) (fun _ _ => by omega)).below hb
  have hsz23 := hb.size
  simp only [Ss] at hsz23
  clear tf22 tc21
  replace bf17 := Kf hb (Lc (Nc bx16 (by omega) _)) (Fs bf17 _)
  replace oY := (oY.keep (C1 _ _ _) (fun gq h h2 => by have := iv7 gq h; omega)).below hb
  replace bx16 := Kc hb (Nc bx16 (by omega) _)
  replace oA12 := Ob (Oe oA12 _ _ (fun h => by have := in19 _ h; omega) _) hb
  replace bk2 := Bk.below (Bk.ne bk2 (by omega) _) hb
  replace bk3 := Bk.below (Bk.ne bk3 (by omega) _) hb
  replace bk9 : Bk w4 (w1.heap.size) [.slice pA14 (xs.length + 1) tA14, .slice py L.length ty] := Bk.below (Bk.at bk9 0 (.slice pA14 (xs.length + 1) tA14)) hb
  clear hb
  rw [← hnw]
  clear hnw
  replace lt4 := Bk.lz bk2
  replace lt5 := Bk.lz bk3
  replace lt10 := Bk.lz bk9
  replace lt20 := Lc bx16
  obtain ⟨m2, hm2, hm3, hm4⟩ := DrM.parts (xs := xs ++ [0]) (show World.ownsRow _ _ _ _ _ _ _ from by rw [ints_append]; exact oA12) (by rw [List.length_append]; rfl) oY (by omega) (by omega)
  clear oY
  clear oA12
  have HDM := Lib.hid (And.intro (DrM.keep (DrM.keep hm2 (C1 (w.heap.size + 1) (0) (.slice pA14 (xs.length + 1) tA14)) (fun q hq h => by omega)) (C1 (w.heap.size + 1) (1) (.slice py L.length ty)) (fun q hq h => by omega)) (And.intro hm3 hm4)); clear hm2 hm3 hm4
  obtain ⟨tc24, tf25⟩ := Bk.cf bk3 0 rfl
  obtain ⟨tc26, tf27⟩ := Bk.cf bk3 1 rfl
  obtain ⟨tc28, tf29⟩ := Bk.cf bk9 0 rfl
  obtain ⟨tc30, tf31⟩ := Bk.cf bk9 1 rfl
  have HCF := (((Chg.refl (fun q => q = w.heap.size + 1) w4).setCell (w.heap.size + 1) 0 (.slice pA14 (xs.length + 1) tA14) (fun _ => rfl)).setCell (w.heap.size + 1) 1 (.slice py L.length ty) (fun _ => rfl))
  have hBf := (Bk.at (Bk.at bk3 0 (.slice pA14 (xs.length + 1) tA14)) 1 (.slice py L.length ty))
  have xr0 := Bk.cell hBf 0 (v := .slice pA14 (xs.length + 1) tA14) rfl
  have xr1 := Bk.cell hBf 1 (v := .slice py L.length ty) rfl
  have HCH := Lib.hid HCF; clear HCF hBf
  have HCR := Lib.hid (And.intro hC hR); clear hC hR
  go_wp2
  exact bodyPost_ret (v := .agg #[.slice pA14 (xs.length + 1) tA14, .slice py L.length ty]) (by simp [results, Try.results153, go_sem, xr0, xr1]) rfl (by exact (by first | exact ⟨_, _, m2, p + 1, rfl, DrM.mono HDM.out.1 (by omega), by have := HDM.out.2.1; omega, by have := HDM.out.2.2; omega, HCR.out.2.keep HCH.out (fun h => by omega) (fun k hk h => by omega), by omega, chg_app HCR.out.1 HCH.out (fun q hq h => by omega)⟩ | exact ⟨_, _, rfl, m2, DrM.mono HDM.out.1 (by omega), by have := HDM.out.2.1; omega, by have := HDM.out.2.2; omega, p + 1, HCR.out.2.keep HCH.out (fun h => by omega) (fun k hk h => by omega), by omega, chg_app HCR.out.1 HCH.out (fun q hq h => by omega)⟩ | exact ⟨⟨_, _, rfl⟩, m2, DrM.mono HDM.out.1 (by omega), by have := HDM.out.2.1; omega, by have := HDM.out.2.2; omega, p + 1, HCR.out.2.keep HCH.out (fun h => by omega) (fun k hk h => by omega), by omega, chg_app HCR.out.1 HCH.out (fun q hq h => by omega)⟩))
 have qk0 : (z == 0) = false := by simp [hk0]
 by_cases hk1 : z = 1
 ·subst hk1
  by_cases hn0 : xs.length < 1
  ·have hq : decide ((0 : Int) < (xs.length : Int)) = false := decide_eq_false (by omega)
   have hq0 : ¬ (0 : Int) < (xs.length : Int) := by omega
   obtain ⟨tc32, tf33⟩ := Bk.cf bk9 0 rfl
   go_upto_region 13 with (fail)
   replace lt4 := Bk.lz bk2
   replace lt5 := Bk.lz bk3
   replace lt10 := Bk.lz bk9
   obtain ⟨m2, hm2, hm3, hm4⟩ := DrM.parts oX rfl oY (by omega) (by omega)
   clear oX
   clear oY
   have HDM := Lib.hid (And.intro (DrM.keep (DrM.keep hm2 (C1 (w.heap.size + 1) (0) (.slice px xs.length tx)) (fun q hq h => by omega)) (C1 (w.heap.size + 1) (1) (.slice py L.length ty)) (fun q hq h => by omega)) (And.intro hm3 hm4)); clear hm2 hm3 hm4
   obtain ⟨tc34, tf35⟩ := Bk.cf bk3 0 rfl
   obtain ⟨tc36, tf37⟩ := Bk.cf bk3 1 rfl
   obtain ⟨tc38, tf39⟩ := Bk.cf bk9 1 rfl
   have HCF := (((Chg.refl (fun q => q = w.heap.size + 1) w2).setCell (w.heap.size + 1) 0 (.slice px xs.length tx) (fun _ => rfl)).setCell (w.heap.size + 1) 1 (.slice py L.length ty) (fun _ => rfl))
   have hBf := (Bk.at (Bk.at bk3 0 (.slice px xs.length tx)) 1 (.slice py L.length ty))
   have xr0 := Bk.cell hBf 0 (v := .slice px xs.length tx) rfl
   have xr1 := Bk.cell hBf 1 (v := .slice py L.length ty) rfl
   have HCH := Lib.hid HCF; clear HCF hBf
   have HCR := Lib.hid (And.intro hC hR); clear hC hR
   go_wp2
   exact bodyPost_ret (v := .agg #[.slice px xs.length tx, .slice py L.length ty]) (by simp [results, Try.results153, go_sem, xr0, xr1]) rfl (by exact (by first | exact ⟨_, _, m2, p + 1, rfl, DrM.mono HDM.out.1 (by omega), by have := HDM.out.2.1; omega, by have := HDM.out.2.2; omega, HCR.out.2.keep HCH.out (fun h => by omega) (fun k hk h => by omega), by omega, chg_app HCR.out.1 HCH.out (fun q hq h => by omega)⟩ | exact ⟨_, _, rfl, m2, DrM.mono HDM.out.1 (by omega), by have := HDM.out.2.1; omega, by have := HDM.out.2.2; omega, p + 1, HCR.out.2.keep HCH.out (fun h => by omega) (fun k hk h => by omega), by omega, chg_app HCR.out.1 HCH.out (fun q hq h => by omega)⟩ | exact ⟨⟨_, _, rfl⟩, m2, DrM.mono HDM.out.1 (by omega), by have := HDM.out.2.1; omega, by have := HDM.out.2.2; omega, p + 1, HCR.out.2.keep HCH.out (fun h => by omega) (fun k hk h => by omega), by omega, chg_app HCR.out.1 HCH.out (fun q hq h => by omega)⟩))
  have hq : (0 : Int) < (xs.length : Int) := by omega
  obtain ⟨gx, cx, hgx⟩ := own_pos oX (by omega)
  simp only [Value.slice.injEq, true_and] at hgx
  obtain ⟨rfl, rfl⟩ := hgx
  have oI : OwnI _ _ gx xs.length tx := ⟨xs, rfl, oX⟩
  have igx := iv6 gx rfl
  have hgy : ∀ q, OwnB2 (.slice py L.length ty) us q → ¬ q = gx := fun q h e => hap q (by subst e; rfl) h
  have iY9 : ∀ q, OwnB2 (.slice py L.length ty) us q → (w.heap.size ≤ q ∧ q < w2.heap.size) ∧ ¬ q = gx := fun q h => ⟨by have := iv7 q h; omega, hgy q h⟩
  clear hgy
  clear oX
  obtain ⟨⟨x0, hx0⟩, fx0⟩ := oI.at 0 (by omega)
  clear hx0 fx0
  obtain ⟨tc40, tf41⟩ := Bk.cf bk9 0 rfl
  go_upto_region 7 with (fail)
  clear tf41 tc40
  have hc42 := Bk.cell bk9 0 (v := .slice (some ⟨gx, 0, none⟩) xs.length tx) rfl
  replace lt4 := Bk.lz bk2
  replace lt5 := Bk.lz bk3
  replace lt10 := Bk.lz bk9
  refine wp_region_noPanic ?_
  refine wp_region_held_drew (S := (fun W' => W'.cell? ⟨w1.heap.size, 0, none⟩ = some (.slice (some ⟨gx, 0, none⟩) xs.length tx))) (by kernel_rfl) (Kc (Below.drew (Bs w2)) hc42) (fun hHeld => ?_)
  obtain ⟨w3, hwd⟩ : ∃ X, X = World.drew w2 := ⟨_, rfl⟩
  rw [← hwd] at hHeld ⊢
  have hb : Below w2.heap.size w2 w3 := by rw [hwd]; exact Below.drew (Bs _)
  clear hwd
  replace hC := (hC).trans (Chg.of_below hb)
  replace hR := hR.below hb
  replace oI := OwnI.below oI hb
  have hsz43 := hb.size
  replace oY := oY.below hb
  replace hc42 := Kc hb hc42
  replace bk2 := Bk.below bk2 hb
  replace bk3 := Bk.below bk3 hb
  replace bk9 := Bk.below bk9 hb
  clear hb
  replace lt4 := Bk.lz bk2
  replace lt5 := Bk.lz bk3
  replace lt10 := Bk.lz bk9
  refine (tq 0 23 rfl rfl ?_ ?_ (tq 1 24 rfl rfl ?_ ?_ (tq 2 25 rfl rfl ?_ ?_ ?_)))
  iterate 3 (rotate_left; intro W' hSw; (try dsimp only at hSw); go_simp; try with_reducible rfl)
  try simp only [Act.put, sb, List.set]
  refine Rdy 3 rfl (fun K hK => ?_)
  go_simp
  obtain ⟨w4, hnw, hb⟩ := nmw (World.alloc w3 (.cells #[.int .i64 (-1), .int .i64 256, .int .i64 9223372036854775807] 3))
  replace hC := ((hC.trans (Chg.of_below (bal (Bs _) _)))).trans (Chg.of_below hb)
  replace hR := (hR.below (bal (Bs _) _)).below hb
  have ol44 := Ob (World.ownsRow_lit (base := (w3).heap.size) (e := 3) (size := 1) (w3) #[.int .i64 (-1), .int .i64 256, .int .i64 9223372036854775807] 3 (Nat.le_refl _) (by unfold maxLen; omega) (by simp)) hb
  try simp only [Sa, Ss] at ol44
  replace oI := OwnI.below (OwnI.below oI (bal (Bs _) _)) hb
  have hsz45 := hb.size
  simp only [Sa] at hsz45
  replace oY := (oY.below (bal (Bs _) _)).below hb
  replace hc42 := Kc hb (Ac hc42 _)
  replace bk2 := Bk.below (Bk.al bk2 _) hb
  replace bk3 := Bk.below (Bk.al bk3 _) hb
  replace bk9 := Bk.below (Bk.al bk9 _) hb
  have bk46 : Bk w4 (w3.heap.size) [.int .i64 (-1), .int .i64 256, .int .i64 9223372036854775807] := Bk.below (Bk.nw (by simp) rfl) hb
  clear hb
  have iv47 := ol44.lt
  try simp only [Sa] at iv47
  rw [← hnw]
  clear hnw
  replace lt4 := Bk.lz bk2
  replace lt5 := Bk.lz bk3
  replace lt10 := Bk.lz bk9
  have lt48 := Bk.lz bk46
  refine hK.out _ _ (hc42) (fun hHeld => ?_)
  clear hK K
  try simp only [Act.put, sb, List.set]
  refine Rdy 4 rfl (fun K hK => ?_)
  go_simp
  refine (num_any _ [(-1), 256, 9223372036854775807] _ B g (p + 1) hR (Ro ol44 (by simp)) (fun b o c hb => by simp at hb; omega) (by simp) (by simp) (by omega)).mono ?_
  rintro e w5 ⟨vv, vvm, rfl, hRn, hc⟩
  replace hC := (hC).trans hc
  replace hR := hRn; clear hRn
  replace oI := OwnI.keep oI hc (fun h => by have := ird _ h; omega)
  have hsz49 := hc.size
  replace oY := oY.keep hc (fun gq h h2 => by have := iY9 gq h; have := ird gq h2; omega)
  replace hc42 := Gc hc hc42 (fun h => by have := ird _ h; omega)
  replace ol44 := Ow ol44 hc (fun gq h h2 => by have := iv47 gq h; have := ird gq h2; omega)
  replace bk2 := Bk.keep bk2 hc (fun h => by have := ird _ h; omega)
  replace bk3 := Bk.keep bk3 hc (fun h => by have := ird _ h; omega)
  replace bk9 := Bk.keep bk9 hc (fun h => by have := ird _ h; omega)
  replace bk46 := Bk.keep bk46 hc (fun h => by have := ird _ h; omega)
  clear hc
  clear vvm
  obtain ⟨⟨x0, hx0⟩, fx0⟩ := oI.at 0 (by omega)
  replace lt4 := Bk.lz bk2
  replace lt5 := Bk.lz bk3
  replace lt10 := Bk.lz bk9
  replace lt48 := Bk.lz bk46
  refine hK.out _ _ (hc42) (fun hHeld => ?_)
  clear hK K
  try simp only [Act.put, sb, List.set]
  refine (tq 5 28 rfl rfl ?_ ?_ ?_)
  (rotate_left; intro W' hSw; (try dsimp only at hSw); go_simp; try with_reducible rfl)
  try simp only [Act.put, sb, List.set]
  refine Rdy 6 rfl (fun K hK => ?_)
  go_simp
  obtain ⟨w6, hnw, hb⟩ := nmw (World.setCell w5 ⟨gx, 0, none⟩ (.int .i64 vv))
  replace hC := ((hC.setNew _ _ _ (Or.inr (by omega)))).trans (Chg.of_below hb)
  replace hR := (hR.keep (C1 _ _ _) (by omega) (fun _ _ => by omega)).below hb
  replace oI := OwnI.below (OwnI.put oI (0) (vv)) hb
  have hsz50 := hb.size
  simp only [Ss] at hsz50
  replace oY := (oY.keep (C1 _ _ _) (fun gq h h2 => by have := iY9 gq h; omega)).below hb
  replace hc42 := Kc hb (Nc hc42 (by omega) _)
  replace ol44 := Ob (Oe ol44 _ _ (fun h => by have := iv47 _ h; omega) _) hb
  replace bk2 := Bk.below (Bk.ne bk2 (by omega) _) hb
  replace bk3 := Bk.below (Bk.ne bk3 (by omega) _) hb
  replace bk9 := Bk.below (Bk.ne bk9 (by omega) _) hb
  replace bk46 := Bk.below (Bk.ne bk46 (by omega) _) hb
  clear hb
  rw [← hnw]
  clear hnw
  replace lt4 := Bk.lz bk2
  replace lt5 := Bk.lz bk3
  replace lt10 := Bk.lz bk9
  replace lt48 := Bk.lz bk46
  refine hK.out _ _ (hc42) (fun hHeld => ?_)
  clear hK K
  try simp only [Act.put, sb, List.set]
  refine wpAnyH_done (by kernel_rfl) ?_ _
  refine NoPanic.normal ?_
  clear hHeld
  go_upto_region 13 with (fail)
  replace lt4 := Bk.lz bk2
  replace lt5 := Bk.lz bk3
  replace lt10 := Bk.lz bk9
  replace lt48 := Bk.lz bk46
  obtain ⟨m2, hm2, hm3, hm4⟩ := DrM.partsI oI oY (by omega) (by omega)
  clear oY
  clear oI
  clear ol44
  have HDM := Lib.hid (And.intro (DrM.keep (DrM.keep hm2 (C1 (w.heap.size + 1) (0) (.slice (some ⟨gx, 0, none⟩) xs.length tx)) (fun q hq h => by omega)) (C1 (w.heap.size + 1) (1) (.slice py L.length ty)) (fun q hq h => by omega)) (And.intro hm3 hm4)); clear hm2 hm3 hm4
  obtain ⟨tc51, tf52⟩ := Bk.cf bk3 0 rfl
  obtain ⟨tc53, tf54⟩ := Bk.cf bk3 1 rfl
  obtain ⟨tc55, tf56⟩ := Bk.cf bk9 1 rfl
  have HCF := (((Chg.refl (fun q => q = w.heap.size + 1) w6).setCell (w.heap.size + 1) 0 (.slice (some ⟨gx, 0, none⟩) xs.length tx) (fun _ => rfl)).setCell (w.heap.size + 1) 1 (.slice py L.length ty) (fun _ => rfl))
  have hBf := (Bk.at (Bk.at bk3 0 (.slice (some ⟨gx, 0, none⟩) xs.length tx)) 1 (.slice py L.length ty))
  have xr0 := Bk.cell hBf 0 (v := .slice (some ⟨gx, 0, none⟩) xs.length tx) rfl
  have xr1 := Bk.cell hBf 1 (v := .slice py L.length ty) rfl
  have HCH := Lib.hid HCF; clear HCF hBf
  have HCR := Lib.hid (And.intro hC hR); clear hC hR
  go_wp2
  exact bodyPost_ret (v := .agg #[.slice (some ⟨gx, 0, none⟩) xs.length tx, .slice py L.length ty]) (by simp [results, Try.results153, go_sem, xr0, xr1]) rfl (by exact (by first | exact ⟨_, _, m2, p + 1 + 1, rfl, DrM.mono HDM.out.1 (by omega), by have := HDM.out.2.1; omega, by have := HDM.out.2.2; omega, HCR.out.2.keep HCH.out (fun h => by omega) (fun k hk h => by omega), by omega, chg_app HCR.out.1 HCH.out (fun q hq h => by omega)⟩ | exact ⟨_, _, rfl, m2, DrM.mono HDM.out.1 (by omega), by have := HDM.out.2.1; omega, by have := HDM.out.2.2; omega, p + 1 + 1, HCR.out.2.keep HCH.out (fun h => by omega) (fun k hk h => by omega), by omega, chg_app HCR.out.1 HCH.out (fun q hq h => by omega)⟩ | exact ⟨⟨_, _, rfl⟩, m2, DrM.mono HDM.out.1 (by omega), by have := HDM.out.2.1; omega, by have := HDM.out.2.2; omega, p + 1 + 1, HCR.out.2.keep HCH.out (fun h => by omega) (fun k hk h => by omega), by omega, chg_app HCR.out.1 HCH.out (fun q hq h => by omega)⟩))
 have qk1 : (z == 1) = false := by simp [hk1]
 by_cases hk2 : z = 2
 ·subst hk2
  by_cases hn0 : L.length < 1
  ·have hq : decide ((0 : Int) < (L.length : Int)) = false := decide_eq_false (by omega)
   have hq0 : ¬ (0 : Int) < (L.length : Int) := by omega
   obtain ⟨tc57, tf58⟩ := Bk.cf bk9 1 rfl
   go_upto_region 13 with (fail)
   replace lt4 := Bk.lz bk2
   replace lt5 := Bk.lz bk3
   replace lt10 := Bk.lz bk9
   obtain ⟨m2, hm2, hm3, hm4⟩ := DrM.parts oX rfl oY (by omega) (by omega)
   clear oX
   clear oY
   have HDM := Lib.hid (And.intro (DrM.keep (DrM.keep hm2 (C1 (w.heap.size + 1) (0) (.slice px xs.length tx)) (fun q hq h => by omega)) (C1 (w.heap.size + 1) (1) (.slice py L.length ty)) (fun q hq h => by omega)) (And.intro hm3 hm4)); clear hm2 hm3 hm4
   obtain ⟨tc59, tf60⟩ := Bk.cf bk3 0 rfl
   obtain ⟨tc61, tf62⟩ := Bk.cf bk3 1 rfl
   obtain ⟨tc63, tf64⟩ := Bk.cf bk9 0 rfl
   have HCF := (((Chg.refl (fun q => q = w.heap.size + 1) w2).setCell (w.heap.size + 1) 0 (.slice px xs.length tx) (fun _ => rfl)).setCell (w.heap.size + 1) 1 (.slice py L.length ty) (fun _ => rfl))
   have hBf := (Bk.at (Bk.at bk3 0 (.slice px xs.length tx)) 1 (.slice py L.length ty))
   have xr0 := Bk.cell hBf 0 (v := .slice px xs.length tx) rfl
   have xr1 := Bk.cell hBf 1 (v := .slice py L.length ty) rfl
   have HCH := Lib.hid HCF; clear HCF hBf
   have HCR := Lib.hid (And.intro hC hR); clear hC hR
   go_wp2
   exact bodyPost_ret (v := .agg #[.slice px xs.length tx, .slice py L.length ty]) (by simp [results, Try.results153, go_sem, xr0, xr1]) rfl (by exact (by first | exact ⟨_, _, m2, p + 1, rfl, DrM.mono HDM.out.1 (by omega), by have := HDM.out.2.1; omega, by have := HDM.out.2.2; omega, HCR.out.2.keep HCH.out (fun h => by omega) (fun k hk h => by omega), by omega, chg_app HCR.out.1 HCH.out (fun q hq h => by omega)⟩ | exact ⟨_, _, rfl, m2, DrM.mono HDM.out.1 (by omega), by have := HDM.out.2.1; omega, by have := HDM.out.2.2; omega, p + 1, HCR.out.2.keep HCH.out (fun h => by omega) (fun k hk h => by omega), by omega, chg_app HCR.out.1 HCH.out (fun q hq h => by omega)⟩ | exact ⟨⟨_, _, rfl⟩, m2, DrM.mono HDM.out.1 (by omega), by have := HDM.out.2.1; omega, by have := HDM.out.2.2; omega, p + 1, HCR.out.2.keep HCH.out (fun h => by omega) (fun k hk h => by omega), by omega, chg_app HCR.out.1 HCH.out (fun q hq h => by omega)⟩))
  have hq : (0 : Int) < (L.length : Int) := by omega
  obtain ⟨gy, hgy⟩ : ∃ gy, py = some ⟨gy, 0, none⟩ := by obtain ⟨L, h1, h2, h3⟩ := oY.h; obtain ⟨b, c, hb⟩ := own_pos h3.out (by omega); simp only [Value.slice.injEq] at hb; exact ⟨b, hb.1⟩
  subst hgy
  obtain ⟨p4, k4, t4, hu4, h43, h44, h4t, hy4, fy4⟩ := oY.first (by omega)
  have h3t : 3 ≤ t4 := by omega
  have hsl : ∀ W, (Instr.slice 23 (.slice p4 k4 t4) none (some (.int .i64 3)) none).run Try.prog W = .ok (.slice p4 3 t4) W := fun W => run_pre tInts p4 k4 t4 3 h3t W
  have igy := iv7 gy (Or.inl rfl)
  obtain ⟨tc65, tf66⟩ := Bk.cf bk9 1 rfl
  go_upto_region 10 with (fail)
  replace lt4 := Bk.lz bk2
  replace lt5 := Bk.lz bk3
  replace lt10 := Bk.lz bk9
  have lt67 := Lc hy4
  have hstl : True := trivial
  refine wp_region_still_tail 8 (by kernel_rfl) (by kernel_rfl) ?_
  simp only [List.take_succ_cons, List.take_zero, List.drop_succ_cons, List.drop_zero]
  repeat still_step
  refine wpStill_nil ?_
  change wpList _ _ _ _ _ (World.drew w2)
  obtain ⟨w3, hwd⟩ : ∃ X, X = World.drew w2 := ⟨_, rfl⟩
  rw [← hwd]
  have hb : Below w2.heap.size w2 w3 := by rw [hwd]; exact Below.drew (Bs _)
  clear hwd hstl
  replace hC := (hC).trans (Chg.of_below hb)
  replace hR := hR.below hb
  have hsz68 := hb.size
  clear tf66 tc65
  replace fy4 := Kf hb (Lc hy4) fy4
  replace oX := Ob oX hb
  replace oY := oY.below hb
  replace hy4 := Kc hb hy4
  replace bk2 := Bk.below bk2 hb
  replace bk3 := Bk.below bk3 hb
  replace bk9 := Bk.below bk9 hb
  clear hb
  replace lt4 := Bk.lz bk2
  replace lt5 := Bk.lz bk3
  replace lt10 := Bk.lz bk9
  replace lt67 := Lc hy4
  obtain ⟨m2, hm2, hm3, hm4⟩ := DrM.cut (p := p4) (e := k4) (t := t4) oX rfl oY hap hu4 ⟨h43, h44⟩ (by omega) (by omega)
  clear oX oY
  go_upto_region 13 with (fail)
  obtain ⟨w4, hnw⟩ : ∃ X, X = (World.setCell w3 ⟨gy, 0, none⟩ (.slice p4 3 t4)) := ⟨_, rfl⟩
  have hb : Below (World.setCell w3 ⟨gy, 0, none⟩ (.slice p4 3 t4)).heap.size (World.setCell w3 ⟨gy, 0, none⟩ (.slice p4 3 t4)) w4 := by rw [hnw]; exact Bs _
  rw [← hnw] at hm2
  replace hC := ((hC.setNew _ _ _ (Or.inr (by omega)))).trans (Chg.of_below hb)
  replace hR := (hR.keep (C1 _ _ _) (by omega) (fun _ _ => by omega)).below hb
  have hsz69 := hb.size
  simp only [Ss] at hsz69
  replace bk2 := Bk.below (Bk.ne bk2 (by omega) _) hb
  replace bk3 := Bk.below (Bk.ne bk3 (by omega) _) hb
  replace bk9 := Bk.below (Bk.ne bk9 (by omega) _) hb
  clear hb
  rw [← hnw]
  clear hnw
  clear lt67
  replace lt4 := Bk.lz bk2
  replace lt5 := Bk.lz bk3
  replace lt10 := Bk.lz bk9
  clear hy4 fy4
  have HDM := Lib.hid (And.intro (DrM.keep (DrM.keep hm2 (C1 (w.heap.size + 1) (0) (.slice px xs.length tx)) (fun q hq h => by omega)) (C1 (w.heap.size + 1) (1) (.slice (some ⟨gy, 0, none⟩) L.length ty)) (fun q hq h => by omega)) (And.intro hm3 hm4)); clear hm2 hm3 hm4
  obtain ⟨tc70, tf71⟩ := Bk.cf bk3 0 rfl
  obtain ⟨tc72, tf73⟩ := Bk.cf bk3 1 rfl
  obtain ⟨tc74, tf75⟩ := Bk.cf bk9 0 rfl
  obtain ⟨tc76, tf77⟩ := Bk.cf bk9 1 rfl
  have HCF := (((Chg.refl (fun q => q = w.heap.size + 1) w4).setCell (w.heap.size + 1) 0 (.slice px xs.length tx) (fun _ => rfl)).setCell (w.heap.size + 1) 1 (.slice (some ⟨gy, 0, none⟩) L.length ty) (fun _ => rfl))
  have hBf := (Bk.at (Bk.at bk3 0 (.slice px xs.length tx)) 1 (.slice (some ⟨gy, 0, none⟩) L.length ty))
  have xr0 := Bk.cell hBf 0 (v := .slice px xs.length tx) rfl
  have xr1 := Bk.cell hBf 1 (v := .slice (some ⟨gy, 0, none⟩) L.length ty) rfl
  have HCH := Lib.hid HCF; clear HCF hBf
  have HCR := Lib.hid (And.intro hC hR); clear hC hR
  go_wp2
  exact bodyPost_ret (v := .agg #[.slice px xs.length tx, .slice (some ⟨gy, 0, none⟩) L.length ty]) (by simp [results, Try.results153, go_sem, xr0, xr1]) rfl (by exact (by first | exact ⟨_, _, m2, p + 1, rfl, DrM.mono HDM.out.1 (by omega), by have := HDM.out.2.1; omega, by have := HDM.out.2.2; omega, HCR.out.2.keep HCH.out (fun h => by omega) (fun k hk h => by omega), by omega, chg_app HCR.out.1 HCH.out (fun q hq h => by omega)⟩ | exact ⟨_, _, rfl, m2, DrM.mono HDM.out.1 (by omega), by have := HDM.out.2.1; omega, by have := HDM.out.2.2; omega, p + 1, HCR.out.2.keep HCH.out (fun h => by omega) (fun k hk h => by omega), by omega, chg_app HCR.out.1 HCH.out (fun q hq h => by omega)⟩ | exact ⟨⟨_, _, rfl⟩, m2, DrM.mono HDM.out.1 (by omega), by have := HDM.out.2.1; omega, by have := HDM.out.2.2; omega, p + 1, HCR.out.2.keep HCH.out (fun h => by omega) (fun k hk h => by omega), by omega, chg_app HCR.out.1 HCH.out (fun q hq h => by omega)⟩))
 have qk2 : (z == 2) = false := by simp [hk2]
 by_cases hk3 : z = 3
 ·subst hk3
  have hm2 : DrM w2 w.heap.size _ _ _ := DrM.nil _ _
  have HN : Hid (∀ W : World, DrM W w.heap.size (.slice none 0 0) (.slice none 0 0) ⟨[], []⟩) := Lib.hid (fun W => DrM.nil W _); clear hm2
  clear oX
  clear oY
  obtain ⟨tc78, tf79⟩ := Bk.cf bk3 0 rfl
  obtain ⟨tc80, tf81⟩ := Bk.cf bk3 1 rfl
  have HCF := (((Chg.refl (fun q => q = w.heap.size + 1) w2).setCell (w.heap.size + 1) 0 (.slice none 0 0) (fun _ => rfl)).setCell (w.heap.size + 1) 1 (.slice none 0 0) (fun _ => rfl))
  have hBf := (Bk.at (Bk.at bk3 0 (.slice none 0 0)) 1 (.slice none 0 0))
  have xr0 := Bk.cell hBf 0 (v := .slice none 0 0) rfl
  have xr1 := Bk.cell hBf 1 (v := .slice none 0 0) rfl
  have HCH := Lib.hid HCF; clear HCF hBf
  have HCR := Lib.hid (And.intro hC hR); clear hC hR
  go_wp2
  exact bodyPost_ret (v := .agg #[.slice none 0 0, .slice none 0 0]) (by simp [results, Try.results153, go_sem, xr0, xr1]) rfl (by exact (by first | exact ⟨_, _, ⟨[], []⟩, p + 1, rfl, HN.out _, by simp, by simp, HCR.out.2.keep HCH.out (fun h => by omega) (fun k hk h => by omega), by omega, chg_app HCR.out.1 HCH.out (fun q hq h => by omega)⟩ | exact ⟨_, _, rfl, ⟨[], []⟩, HN.out _, by simp, by simp, p + 1, HCR.out.2.keep HCH.out (fun h => by omega) (fun k hk h => by omega), by omega, chg_app HCR.out.1 HCH.out (fun q hq h => by omega)⟩ | exact ⟨⟨_, _, rfl⟩, ⟨[], []⟩, HN.out _, by simp, by simp, p + 1, HCR.out.2.keep HCH.out (fun h => by omega) (fun k hk h => by omega), by omega, chg_app HCR.out.1 HCH.out (fun q hq h => by omega)⟩))
 have qk3 : (z == 3) = false := by simp [hk3]
 go_upto_region 13 with (fail)
 replace lt4 := Bk.lz bk2
 replace lt5 := Bk.lz bk3
 replace lt10 := Bk.lz bk9
 obtain ⟨m2, hm2, hm3, hm4⟩ := DrM.parts oX rfl oY (by omega) (by omega)
 clear oX
 clear oY
 have HDM := Lib.hid (And.intro (DrM.keep (DrM.keep hm2 (C1 (w.heap.size + 1) (0) (.slice px xs.length tx)) (fun q hq h => by omega)) (C1 (w.heap.size + 1) (1) (.slice py L.length ty)) (fun q hq h => by omega)) (And.intro hm3 hm4)); clear hm2 hm3 hm4
 obtain ⟨tc82, tf83⟩ := Bk.cf bk3 0 rfl
 obtain ⟨tc84, tf85⟩ := Bk.cf bk3 1 rfl
 obtain ⟨tc86, tf87⟩ := Bk.cf bk9 0 rfl
 obtain ⟨tc88, tf89⟩ := Bk.cf bk9 1 rfl
 have HCF := (((Chg.refl (fun q => q = w.heap.size + 1) w2).setCell (w.heap.size + 1) 0 (.slice px xs.length tx) (fun _ => rfl)).setCell (w.heap.size + 1) 1 (.slice py L.length ty) (fun _ => rfl))
 have hBf := (Bk.at (Bk.at bk3 0 (.slice px xs.length tx)) 1 (.slice py L.length ty))
 have xr0 := Bk.cell hBf 0 (v := .slice px xs.length tx) rfl
 have xr1 := Bk.cell hBf 1 (v := .slice py L.length ty) rfl
 have HCH := Lib.hid HCF; clear HCF hBf
 have HCR := Lib.hid (And.intro hC hR); clear hC hR
 go_wp2
 exact bodyPost_ret (v := .agg #[.slice px xs.length tx, .slice py L.length ty]) (by simp [results, Try.results153, go_sem, xr0, xr1]) rfl (by exact (by first | exact ⟨_, _, m2, p + 1, rfl, DrM.mono HDM.out.1 (by omega), by have := HDM.out.2.1; omega, by have := HDM.out.2.2; omega, HCR.out.2.keep HCH.out (fun h => by omega) (fun k hk h => by omega), by omega, chg_app HCR.out.1 HCH.out (fun q hq h => by omega)⟩ | exact ⟨_, _, rfl, m2, DrM.mono HDM.out.1 (by omega), by have := HDM.out.2.1; omega, by have := HDM.out.2.2; omega, p + 1, HCR.out.2.keep HCH.out (fun h => by omega) (fun k hk h => by omega), by omega, chg_app HCR.out.1 HCH.out (fun q hq h => by omega)⟩ | exact ⟨⟨_, _, rfl⟩, m2, DrM.mono HDM.out.1 (by omega), by have := HDM.out.2.1; omega, by have := HDM.out.2.2; omega, p + 1, HCR.out.2.keep HCH.out (fun h => by omega) (fun k hk h => by omega), by omega, chg_app HCR.out.1 HCH.out (fun q hq h => by omega)⟩))
end Go.Proofs.Ytkjedgnepnbkpaa
