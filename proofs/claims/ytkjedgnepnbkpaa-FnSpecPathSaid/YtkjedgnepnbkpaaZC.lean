/-
 Parts of the proof of the law FnSpecPath.
-/
import Derived.Test.YtkjedgnepnbkpaaQJ
import Derived.Test.YtkjedgnepnbkpaaZA
import Derived.Test.YtkjedgnepnbkpaaZB
set_option linter.all false
namespace Go.Proofs.Ytkjedgnepnbkpaa
open Go.RowKit

set_option maxHeartbeats 6400000 in
set_option maxRecDepth 100000 in
theorem l6State_any (pv pa pl : Option Addr) (nv cv na ca nl cl : Nat) (B g p : Nat) (w : World) (hR : Rnd w B g p) (hp : p + 6000 ≤ 1000000000) (hnv : nv ≤ 1000) (hna : na ≤ 1000) (hnl : nl ≤ 1000) :
  Calls Try.prog 113 #[.pointer (some ⟨g, 0, none⟩), .agg #[.slice pv nv cv, .slice pa na ca, .slice pl nl cl]] w fun r w' => ∃ (ur ux uy : Value) (s : Ms) (p' : Nat), r = .returned (.agg #[.int .i64 s.pc, ur, ux, uy]) ∧ DrS w' w.heap.size ur ux uy s ∧ Rnd w' B g p' ∧ p' ≤ p + 6000 ∧ Chg (fun q => q = g) w w' := by
 have hg := hR.lt
 have hC : Chg (fun k => k = g) w w := Chg.refl _ _
 have ird : ∀ q, (fun k => k = g) q → q = g := fun q h => h
 go_enter Try.func113, Try.ntmps113
 go_wp2_with fail
 refine (l6Heads_any pv pa pl nv na nl cv ca cl _).mono ?_
 rintro e w1 ⟨rfl, hb⟩
 replace hC := (((hC.trans (Chg.of_below (bal (Bs _) _))).trans (Chg.of_below (bal (Bs _) _)))).trans (Chg.of_below hb)
 replace hR := ((hR.below (bal (Bs _) _)).below (bal (Bs _) _)).below hb
 have hsz1 := hb.size
 simp only [Sa] at hsz1
 have bk2 : Bk w1 (w.heap.size) [.slice pv nv cv, .slice pa na ca, .slice pl nl cl] := Bk.below (Bk.al (Bk.nw (by simp) rfl) (.cells #[.int .i64 0, .slice none 0 0, .slice none 0 0, .slice none 0 0] 39)) hb
 have bk3 : Bk w1 (w.heap.size + 1) [.int .i64 0, .slice none 0 0, .slice none 0 0, .slice none 0 0] := Bk.below (Bk.nw (by simp) rfl) hb
 clear hb
 have lt4 := Bk.lz bk2
 have lt5 := Bk.lz bk3
 go_wp2_with fail
 refine (l3Memory_any pv pa nv cv na ca (.slice none 0 0) B g (p) _ hR (by omega) hnv hna).mono ?_
 rintro e w2 ⟨ux, uy, us, m, p1, rfl, oM, hm1, hm2, hm3, hRn, hp1, hc⟩
 try simp only [Sa, Ss] at oM
 obtain ⟨px, tx, py, ty, rfl, rfl⟩ := oM.shape
 have HM3 : Hid (∀ r ∈ m.arrs, 3 ≤ r.length ∧ r.length ≤ 4) := Lib.hid (fun r hr => by have := hm3 r hr; omega)
 clear hm3
 have hml0 : m.vals.length ≤ 1000 := by omega
 have hml1 : m.arrs.length ≤ 1000 := by omega
 clear hm1 hm2
 replace hC := (hC).trans hc
 replace hR := hRn; clear hRn
 have hsz6 := hc.size
 replace bk2 := Bk.keep bk2 hc (fun h => by have := ird _ h; omega)
 replace bk3 := Bk.keep bk3 hc (fun h => by have := ird _ h; omega)
 clear hc
 have iv7 := oM.lt
 replace lt4 := Bk.lz bk2
 replace lt5 := Bk.lz bk3
 go_upto_region 2 with (fail)
 obtain ⟨w3, hnw, hb⟩ := nmw (World.alloc w2 (.cells #[.int .i64 0, .slice none 0 0, .slice px m.vals.length tx, .slice py m.arrs.length ty] 39))
 replace hC := ((hC.trans (Chg.of_below (bal (Bs _) _)))).trans (Chg.of_below hb)
 replace hR := (hR.below (bal (Bs _) _)).below hb
 have hsz8 := hb.size
 simp only [Sa] at hsz8
 replace oM := (oM.below (bal (Bs _) _)).below hb
 replace bk2 := Bk.below (Bk.al bk2 _) hb
 replace bk3 := Bk.below (Bk.al bk3 _) hb
 have bk9 : Bk w3 (w2.heap.size) [.int .i64 0, .slice none 0 0, .slice px m.vals.length tx, .slice py m.arrs.length ty] := Bk.below (Bk.nw (by simp) rfl) hb
 clear hb
 rw [← hnw]
 clear hnw
 replace lt4 := Bk.lz bk2
 replace lt5 := Bk.lz bk3
 have lt10 := Bk.lz bk9
 have hbk : w.heap.size ≤ w.heap.size + 1 ∧ w.heap.size ≤ w2.heap.size := by omega
 obtain ⟨tc11, tf12⟩ := Bk.cf bk2 2 rfl
 go_upto_if 15 with (fail)
 clear tf12 tc11
 go_cut [] (fun wx => ∃ (pc : Int) (pk : Nat), Bk wx (w2.heap.size) [.int .i64 pc, .slice none 0 0, .slice px m.vals.length tx, .slice py m.arrs.length ty] ∧ Bk wx (w.heap.size) [.slice pv nv cv, .slice pa na ca, .slice pl nl cl] ∧ Bk wx (w.heap.size + 1) [.int .i64 0, .slice none 0 0, .slice none 0 0, .slice none 0 0] ∧ OwnM wx w1.heap.size (.slice px m.vals.length tx) (.slice py m.arrs.length ty) us m ∧ Rnd wx B g pk ∧ pk ≤ p1 + 1 ∧ Chg (fun q => q = g) w wx ∧ w3.heap.size ≤ wx.heap.size)
 case first =>
  by_cases hl0 : nl < 1
  ·have hq0 : decide ((0 : Int) < (nl : Int)) = false := decide_eq_false (by omega)
   have hq9 : ¬ (0 : Int) < (nl : Int) := by omega
   go_wp2_with fail
   go_meet
   exact ⟨0, p1, bk9, bk2, bk3, oM, hR, by omega, hC, Nat.le_refl _⟩
  have hq0 : (0 : Int) < (nl : Int) := by omega
  obtain ⟨tc13, tf14⟩ := Bk.cf bk2 2 rfl
  go_wp2_with fail
  refine (pick_any _ _ B g (p1) hR (by omega) (by omega) (by omega)).mono ?_
  rintro e w4 ⟨pc, pc0, pc1, rfl, hRn, hc⟩
  replace hC := (hC).trans hc
  replace hR := hRn; clear hRn
  have hsz15 := hc.size
  clear tf14 tc13
  replace oM := oM.keep hc (fun gq h h2 => by have := iv7 gq h; have := ird gq h2; omega)
  replace bk2 := Bk.keep bk2 hc (fun h => by have := ird _ h; omega)
  replace bk3 := Bk.keep bk3 hc (fun h => by have := ird _ h; omega)
  replace bk9 := Bk.keep bk9 hc (fun h => by have := ird _ h; omega)
  clear hc
  replace lt4 := Bk.lz bk2
  replace lt5 := Bk.lz bk3
  replace lt10 := Bk.lz bk9
  obtain ⟨tc16, tf17⟩ := Bk.cf bk9 0 rfl
  have HX1 := Lib.hid (And.intro (Bk.at bk9 0 (.int .i64 pc)) (And.intro (Bk.ne (b' := (w2.heap.size)) (j' := 0) bk2 (by omega) (.int .i64 pc)) (And.intro (Bk.ne (b' := (w2.heap.size)) (j' := 0) bk3 (by omega) (.int .i64 pc)) (And.intro (oM.keep (C1 (w2.heap.size) 0 (.int .i64 pc)) (fun gq h h2 => by have := iv7 gq h; omega)) (And.intro (hR.keep (C1 (w2.heap.size) (0) (.int .i64 pc)) (by omega) (fun _ _ => by omega)) (hC.setNew (w2.heap.size) (0) (.int .i64 pc) (Or.inr (by omega))))))))
  clear hR hC oM
  go_wp2_with fail
  go_meet
  exact ⟨pc, p1 + 1, HX1.out.1, HX1.out.2.1, HX1.out.2.2.1, HX1.out.2.2.2.1, HX1.out.2.2.2.2.1, by omega, HX1.out.2.2.2.2.2, by (try simp only [Ss]); omega⟩
 clear hR hC bk2 bk3 oM bk9 lt4 lt5 lt10
 obtain ⟨wc2, rfl⟩ : ∃ W, W = wc := ⟨_, rfl⟩
 obtain ⟨pc, pk2, kb5, kb3, kb4, oM, hR, hpk2, hC, hzc⟩ := hcut
 have iM : ∀ q, OwnBM (.slice px m.vals.length tx) (.slice py m.arrs.length ty) us q → w1.heap.size ≤ q ∧ q < w2.heap.size := fun q h => by have := iv7 q h; omega
 have lt18 := Bk.lz kb5
 have lt19 := Bk.lz kb3
 have lt20 := Bk.lz kb4
 go_upto_region 4 with (fail)
 replace lt18 := Bk.lz kb5
 replace lt19 := Bk.lz kb3
 replace lt20 := Bk.lz kb4
 have HI0 : Hid (∃ (k pk : Nat) (rs : List Int) (a : Option Addr) (c : Nat), Value.int .i64 0 = .int .i64 k ∧ k ≤ 14 ∧ Hid (rs.length = k) ∧ wc2.ownsRow wc2.heap.size 3 1 (.slice a k c) k (ints rs) ∧ Bk wc2 (w2.heap.size) [.int .i64 pc, .slice a k c, .slice px m.vals.length tx, .slice py m.arrs.length ty] ∧ Bk wc2 (w.heap.size) [.slice pv nv cv, .slice pa na ca, .slice pl nl cl] ∧ Bk wc2 (w.heap.size + 1) [.int .i64 0, .slice none 0 0, .slice none 0 0, .slice none 0 0] ∧ OwnM wc2 w1.heap.size (.slice px m.vals.length tx) (.slice py m.arrs.length ty) us m ∧ Rnd wc2 B g pk ∧ pk ≤ pk2 + k ∧ Chg (fun q => q = g) w wc2 ∧ wc2.heap.size ≤ wc2.heap.size) := Lib.hid ⟨0, pk2, [], none, 0, rfl, by omega, Lib.hid rfl, World.ownsRow_nil _ _ _ _, kb5, kb3, kb4, oM, hR, by omega, hC, Nat.le_refl _⟩
 have hszb : w.heap.size < wc2.heap.size ∧ w.heap.size + 1 < wc2.heap.size ∧ w2.heap.size < wc2.heap.size ∧ w1.heap.size ≤ wc2.heap.size := by omega
 clear hR hC kb5 kb3 kb4 oM lt18 lt19 lt20
 go_wp2_with fail
 go_loopw [6] (fun i wr => ∃ (k pk : Nat) (rs : List Int) (a : Option Addr) (c : Nat), i = .int .i64 k ∧ k ≤ 14 ∧ Hid (rs.length = k) ∧ wr.ownsRow wc2.heap.size 3 1 (.slice a k c) k (ints rs) ∧ Bk wr (w2.heap.size) [.int .i64 pc, .slice a k c, .slice px m.vals.length tx, .slice py m.arrs.length ty] ∧ Bk wr (w.heap.size) [.slice pv nv cv, .slice pa na ca, .slice pl nl cl] ∧ Bk wr (w.heap.size + 1) [.int .i64 0, .slice none 0 0, .slice none 0 0, .slice none 0 0] ∧ OwnM wr w1.heap.size (.slice px m.vals.length tx) (.slice py m.arrs.length ty) us m ∧ Rnd wr B g pk ∧ pk ≤ pk2 + k ∧ Chg (fun q => q = g) w wr ∧ wc2.heap.size ≤ wr.heap.size) (fun i _ => 14 - (intOf i).toNat)
 case atStart => exact HI0.out
 case round =>
  obtain ⟨k, pk, rs, a, c, rfl, hk, HXL, oX, kb5, kb3, kb4, oM, hR, hpk, hC, hzr⟩ := hrel
  clear HI0
  obtain ⟨wl, rfl⟩ : ∃ X, X = wr := ⟨_, rfl⟩
  have iX := oX.lt
  have lt21 := Bk.lz kb5
  have lt22 := Bk.lz kb3
  have lt23 := Bk.lz kb4
  by_cases hlt : k < 14
  ·have hq1 : (k : Int) < 14 := by omega
   go_upto_region 7 with (fail)
   replace lt21 := Bk.lz kb5
   replace lt22 := Bk.lz kb3
   replace lt23 := Bk.lz kb4
   refine wp_region_noPanic ?_
   refine wp_region_held_drew (S := (fun W' => True)) (by kernel_rfl) trivial (fun hHeld => ?_)
   obtain ⟨w6, hwd⟩ : ∃ X, X = World.drew wl := ⟨_, rfl⟩
   rw [← hwd]
   have hb : Below wl.heap.size wl w6 := by rw [hwd]; exact Below.drew (Bs _)
   clear hwd
   replace hC := (hC).trans (Chg.of_below hb)
   replace hR := hR.below hb
   have hsz24 := hb.size
   replace oX := Ob oX hb
   replace oM := oM.below hb
   replace kb5 := Bk.below kb5 hb
   replace kb3 := Bk.below kb3 hb
   replace kb4 := Bk.below kb4 hb
   clear hb
   replace lt21 := Bk.lz kb5
   replace lt22 := Bk.lz kb3
   replace lt23 := Bk.lz kb4
   refine (tq 0 26 rfl rfl ?_ ?_ (tq 2 28 rfl rfl ?_ ?_ ?_))
   iterate 2 (rotate_left; intro W' hSw; clear hSw; go_simp; try with_reducible rfl)
   try simp only [Act.put, sb, List.set]
   refine wpAnyH_ready (rs := [1, 3]) (by kernel_rfl) (by simp) ?_
   refine AllReadyH.cons rfl (fun K hK => ?_) ?_
   ·-- 1
    obtain ⟨tc25, tf26⟩ := Bk.cf kb5 1 rfl
    go_simp
    replace lt21 := Bk.lz kb5
    replace lt22 := Bk.lz kb3
    replace lt23 := Bk.lz kb4
    refine hK.out _ _ trivial (fun hHeld => ?_)
    clear hK K
    try simp only [Act.put, sb, List.set]
    refine Rdy 3 rfl (fun K hK => ?_)
    go_simp
    refine (l3Value_any B g (pk) _ hR (by omega)).mono ?_
    rintro e w7 ⟨z1, rfl, hz1, hRn, hc⟩
    replace hC := (hC).trans hc
    replace hR := hRn; clear hRn
    have hsz27 := hc.size
    clear tf26 tc25
    replace oX := Ow oX hc (fun gq h h2 => by have := iX gq h; have := ird gq h2; omega)
    replace oM := oM.keep hc (fun gq h h2 => by have := iM gq h; have := ird gq h2; omega)
    replace kb5 := Bk.keep kb5 hc (fun h => by have := ird _ h; omega)
    replace kb3 := Bk.keep kb3 hc (fun h => by have := ird _ h; omega)
    replace kb4 := Bk.keep kb4 hc (fun h => by have := ird _ h; omega)
    clear hc
    replace lt21 := Bk.lz kb5
    replace lt22 := Bk.lz kb3
    replace lt23 := Bk.lz kb4
    refine hK.out _ _ trivial (fun hHeld => ?_)
    clear hK K
    try simp only [Act.put, sb, List.set]
    refine Rdy 4 rfl (fun K hK => ?_)
    go_simp
    obtain ⟨w8, hnw, hb⟩ := nmw (World.alloc w7 (.cells #[.int .i64 z1] 3))
    replace hC := ((hC.trans (Chg.of_below (bal (Bs _) _)))).trans (Chg.of_below hb)
    replace hR := (hR.below (bal (Bs _) _)).below hb
    have ol28 := Ob (World.ownsRow_lit (base := (w7).heap.size) (e := 3) (size := 1) (w7) #[.int .i64 z1] 1 (Nat.le_refl _) (by unfold maxLen; omega) (by simp)) hb
    try simp only [Sa, Ss] at ol28
    have hsz29 := hb.size
    simp only [Sa] at hsz29
    replace oX := Ob (Ob oX (bal (Bs _) _)) hb
    replace oM := (oM.below (bal (Bs _) _)).below hb
    replace kb5 := Bk.below (Bk.al kb5 _) hb
    replace kb3 := Bk.below (Bk.al kb3 _) hb
    replace kb4 := Bk.below (Bk.al kb4 _) hb
    have bx30 : w8.cell? ⟨w7.heap.size, 0, none⟩ = some (.int .i64 z1) := Kc hb (Wc (by simp) (by rfl))
    have bf31 : w8.frozen? ⟨w7.heap.size, 0, none⟩ = false := Kf hb (by simp <;> omega) (Fn (by simp))
    clear hb
    have iv32 := ol28.lt
    try simp only [Sa] at iv32
    rw [← hnw]
    clear hnw
    replace lt21 := Bk.lz kb5
    replace lt22 := Bk.lz kb3
    replace lt23 := Bk.lz kb4
    have lt33 := Lc bx30
    refine hK.out _ _ trivial (fun hHeld => ?_)
    clear hK K
    try simp only [Act.put, sb, List.set]
    refine Rdy 5 rfl (fun K hK => ?_)
    refine step_aps tInts rfl _ _ rfl (wc2.heap.size) _ k (ints rs) rfl oX _ 1 (ints [z1]) rfl ((Ro ol28 (by simp))) (one_ints [z1]) (by omega) (by first | omega | (simp only [Sa, Ss]; omega)) ?_
    intro vA w9 oA34 hc hNw _
    obtain ⟨pA34, tA34, rfl⟩ := Oh oA34
    replace hC := chg_app hC hc (fun q hq h => by have := iX q h; omega)
    replace hR := hR.keep hc (fun h => by have := iX _ h; omega) (fun k hk h => by have := iX _ h; omega)
    have hsz35 := hc.size
    replace bf31 := Gf hc (Lc bx30) bf31 (fun h => by have := iX _ h; omega)
    replace oM := oM.keep hc (fun gq h h2 => by have := iM gq h; have := iX gq h2; omega)
    replace bx30 := Gc hc bx30 (fun h => by have := iX _ h; omega)
    replace ol28 := Ow ol28 hc (fun gq h h2 => by have := iv32 gq h; have := iX gq h2; omega)
    replace kb5 := Bk.keep kb5 hc (fun h => by have := iX _ h; omega)
    replace kb3 := Bk.keep kb3 hc (fun h => by have := iX _ h; omega)
    replace kb4 := Bk.keep kb4 hc (fun h => by have := iX _ h; omega)
    clear hc
    have iv36 := oA34.lt
    clear hNw oX
    replace lt21 := Bk.lz kb5
    replace lt22 := Bk.lz kb3
    replace lt23 := Bk.lz kb4
    replace lt33 := Lc bx30
    refine hK.out _ _ trivial (fun hHeld => ?_)
    clear hK K
    try simp only [Act.put, sb, List.set]
    refine (tq 6 32 rfl rfl ?_ ?_ ?_)
    (rotate_left; intro W' hSw; clear hSw; go_simp; try with_reducible rfl)
    try simp only [Act.put, sb, List.set]
    refine Rdy 7 rfl (fun K hK => ?_)
    obtain ⟨tc37, tf38⟩ := Bk.cf kb5 1 rfl
    go_simp
    obtain ⟨w10, hnw, hb⟩ := nmw (World.setCell w9 ⟨w2.heap.size, 1, none⟩ (.slice pA34 (k + 1) tA34))
    replace hC := ((hC.setNew _ _ _ (Or.inr (by omega)))).trans (Chg.of_below hb)
    replace hR := (hR.keep (C1 _ _ _) (by omega) (fun _ _ => by omega)).below hb
    have hsz39 := hb.size
    simp only [Ss] at hsz39
    clear tf38 tc37
    replace bf31 := Kf hb (Lc (Nc bx30 (by omega) _)) (Fs bf31 _)
    replace oM := (oM.keep (C1 _ _ _) (fun gq h h2 => by have := iM gq h; omega)).below hb
    replace bx30 := Kc hb (Nc bx30 (by omega) _)
    replace ol28 := Ob (Oe ol28 _ _ (fun h => by have := iv32 _ h; omega) _) hb
    replace oA34 := Ob (Oe oA34 _ _ (fun h => by have := iv36 _ h; omega) _) hb
    replace kb5 : Bk w10 (w2.heap.size) [.int .i64 pc, .slice pA34 (k + 1) tA34, .slice px m.vals.length tx, .slice py m.arrs.length ty] := Bk.below (Bk.at kb5 1 (.slice pA34 (k + 1) tA34)) hb
    replace kb3 := Bk.below (Bk.ne kb3 (by omega) _) hb
    replace kb4 := Bk.below (Bk.ne kb4 (by omega) _) hb
    clear hb
    rw [← hnw]
    clear hnw
    replace lt21 := Bk.lz kb5
    replace lt22 := Bk.lz kb3
    replace lt23 := Bk.lz kb4
    replace lt33 := Lc bx30
    refine hK.out _ _ trivial (fun hHeld => ?_)
    clear hK K
    try simp only [Act.put, sb, List.set]
    refine wpAnyH_done (by kernel_rfl) ?_ _
    refine NoPanic.normal ?_
    clear hHeld
    have HO := Lib.hid (show w10.ownsRow wc2.heap.size 3 1 _ (k + 1) (ints (rs ++ [z1])) from by rw [ints_append]; exact oA34)
    have HXL2 : Hid ((rs ++ ([z1] : List Int)).length = k + 1) := Lib.hid (by rw [List.length_append, HXL.out]; rfl)
    have HH := Lib.hid (And.intro hR (And.intro hC oM)); clear hR hC oM oA34
    obtain ⟨tc40, tf41⟩ := Bk.cf kb5 1 rfl
    go_wp2
    go_roundw
    case rel => exact ⟨k + 1, pk + 1, rs ++ [z1], _, _, by go_num, by omega, HXL2, HO.out, kb5, kb3, kb4, HH.out.2.2, HH.out.1, by omega, HH.out.2.1, by omega⟩
    case measure => simp [intOf]; omega
   refine AllReadyH.cons rfl (fun K hK => ?_) AllReadyH.nil
   obtain ⟨tc42, tf43⟩ := Bk.cf kb5 1 rfl
   go_simp
   refine (l3Value_any B g (pk) _ hR (by omega)).mono ?_
   rintro e w7 ⟨z1, rfl, hz1, hRn, hc⟩
   replace hC := (hC).trans hc
   replace hR := hRn; clear hRn
   have hsz44 := hc.size
   clear tf43 tc42
   replace oX := Ow oX hc (fun gq h h2 => by have := iX gq h; have := ird gq h2; omega)
   replace oM := oM.keep hc (fun gq h h2 => by have := iM gq h; have := ird gq h2; omega)
   replace kb5 := Bk.keep kb5 hc (fun h => by have := ird _ h; omega)
   replace kb3 := Bk.keep kb3 hc (fun h => by have := ird _ h; omega)
   replace kb4 := Bk.keep kb4 hc (fun h => by have := ird _ h; omega)
   clear hc
   replace lt21 := Bk.lz kb5
   replace lt22 := Bk.lz kb3
   replace lt23 := Bk.lz kb4
   refine hK.out _ _ trivial (fun hHeld => ?_)
   clear hK K
   try simp only [Act.put, sb, List.set]
   refine wpAnyH_ready (rs := [1, 4]) (by kernel_rfl) (by simp) ?_
   refine AllReadyH.cons rfl (fun K hK => ?_) ?_
   ·-- 1
    obtain ⟨tc45, tf46⟩ := Bk.cf kb5 1 rfl
    go_simp
    replace lt21 := Bk.lz kb5
    replace lt22 := Bk.lz kb3
    replace lt23 := Bk.lz kb4
    refine hK.out _ _ trivial (fun hHeld => ?_)
    clear hK K
    try simp only [Act.put, sb, List.set]
    refine Rdy 4 rfl (fun K hK => ?_)
    go_simp
    obtain ⟨w8, hnw, hb⟩ := nmw (World.alloc w7 (.cells #[.int .i64 z1] 3))
    replace hC := ((hC.trans (Chg.of_below (bal (Bs _) _)))).trans (Chg.of_below hb)
    replace hR := (hR.below (bal (Bs _) _)).below hb
    have ol47 := Ob (World.ownsRow_lit (base := (w7).heap.size) (e := 3) (size := 1) (w7) #[.int .i64 z1] 1 (Nat.le_refl _) (by unfold maxLen; omega) (by simp)) hb
    try simp only [Sa, Ss] at ol47
    have hsz48 := hb.size
    simp only [Sa] at hsz48
    clear tf46 tc45
    replace oX := Ob (Ob oX (bal (Bs _) _)) hb
    replace oM := (oM.below (bal (Bs _) _)).below hb
    replace kb5 := Bk.below (Bk.al kb5 _) hb
    replace kb3 := Bk.below (Bk.al kb3 _) hb
    replace kb4 := Bk.below (Bk.al kb4 _) hb
    have bx49 : w8.cell? ⟨w7.heap.size, 0, none⟩ = some (.int .i64 z1) := Kc hb (Wc (by simp) (by rfl))
    have bf50 : w8.frozen? ⟨w7.heap.size, 0, none⟩ = false := Kf hb (by simp <;> omega) (Fn (by simp))
    clear hb
    have iv51 := ol47.lt
    try simp only [Sa] at iv51
    rw [← hnw]
    clear hnw
    replace lt21 := Bk.lz kb5
    replace lt22 := Bk.lz kb3
    replace lt23 := Bk.lz kb4
    have lt52 := Lc bx49
    refine hK.out _ _ trivial (fun hHeld => ?_)
    clear hK K
    try simp only [Act.put, sb, List.set]
    refine Rdy 5 rfl (fun K hK => ?_)
    refine step_aps tInts rfl _ _ rfl (wc2.heap.size) _ k (ints rs) rfl oX _ 1 (ints [z1]) rfl ((Ro ol47 (by simp))) (one_ints [z1]) (by omega) (by first | omega | (simp only [Sa, Ss]; omega)) ?_
    intro vA w9 oA53 hc hNw _
    obtain ⟨pA53, tA53, rfl⟩ := Oh oA53
    replace hC := chg_app hC hc (fun q hq h => by have := iX q h; omega)
    replace hR := hR.keep hc (fun h => by have := iX _ h; omega) (fun k hk h => by have := iX _ h; omega)
    have hsz54 := hc.size
    replace bf50 := Gf hc (Lc bx49) bf50 (fun h => by have := iX _ h; omega)
    replace oM := oM.keep hc (fun gq h h2 => by have := iM gq h; have := iX gq h2; omega)
    replace bx49 := Gc hc bx49 (fun h => by have := iX _ h; omega)
    replace ol47 := Ow ol47 hc (fun gq h h2 => by have := iv51 gq h; have := iX gq h2; omega)
    replace kb5 := Bk.keep kb5 hc (fun h => by have := iX _ h; omega)
    replace kb3 := Bk.keep kb3 hc (fun h => by have := iX _ h; omega)
    replace kb4 := Bk.keep kb4 hc (fun h => by have := iX _ h; omega)
    clear hc
    have iv55 := oA53.lt
    clear hNw oX
    replace lt21 := Bk.lz kb5
    replace lt22 := Bk.lz kb3
    replace lt23 := Bk.lz kb4
    replace lt52 := Lc bx49
    refine hK.out _ _ trivial (fun hHeld => ?_)
    clear hK K
    try simp only [Act.put, sb, List.set]
    refine (tq 6 32 rfl rfl ?_ ?_ ?_)
    (rotate_left; intro W' hSw; clear hSw; go_simp; try with_reducible rfl)
    try simp only [Act.put, sb, List.set]
    refine Rdy 7 rfl (fun K hK => ?_)
    obtain ⟨tc56, tf57⟩ := Bk.cf kb5 1 rfl
    go_simp
    obtain ⟨w10, hnw, hb⟩ := nmw (World.setCell w9 ⟨w2.heap.size, 1, none⟩ (.slice pA53 (k + 1) tA53))
    replace hC := ((hC.setNew _ _ _ (Or.inr (by omega)))).trans (Chg.of_below hb)
    replace hR := (hR.keep (C1 _ _ _) (by omega) (fun _ _ => by omega)).below hb
    have hsz58 := hb.size
    simp only [Ss] at hsz58
    clear tf57 tc56
    replace bf50 := Kf hb (Lc (Nc bx49 (by omega) _)) (Fs bf50 _)
    replace oM := (oM.keep (C1 _ _ _) (fun gq h h2 => by have := iM gq h; omega)).below hb
    replace bx49 := Kc hb (Nc bx49 (by omega) _)
    replace ol47 := Ob (Oe ol47 _ _ (fun h => by have := iv51 _ h; omega) _) hb
    replace oA53 := Ob (Oe oA53 _ _ (fun h => by have := iv55 _ h; omega) _) hb
    replace kb5 : Bk w10 (w2.heap.size) [.int .i64 pc, .slice pA53 (k + 1) tA53, .slice px m.vals.length tx, .slice py m.arrs.length ty] := Bk.below (Bk.at kb5 1 (.slice pA53 (k + 1) tA53)) hb
    replace kb3 := Bk.below (Bk.ne kb3 (by omega) _) hb
    replace kb4 := Bk.below (Bk.ne kb4 (by omega) _) hb
    clear hb
    rw [← hnw]
    clear hnw
    replace lt21 := Bk.lz kb5
    replace lt22 := Bk.lz kb3
    replace lt23 := Bk.lz kb4
    replace lt52 := Lc bx49
    refine hK.out _ _ trivial (fun hHeld => ?_)
    clear hK K
    try simp only [Act.put, sb, List.set]
    refine wpAnyH_done (by kernel_rfl) ?_ _
    refine NoPanic.normal ?_
    clear hHeld
    have HO := Lib.hid (show w10.ownsRow wc2.heap.size 3 1 _ (k + 1) (ints (rs ++ [z1])) from by rw [ints_append]; exact oA53)
    have HXL2 : Hid ((rs ++ ([z1] : List Int)).length = k + 1) := Lib.hid (by rw [List.length_append, HXL.out]; rfl)
    have HH := Lib.hid (And.intro hR (And.intro hC oM)); clear hR hC oM oA53
    obtain ⟨tc59, tf60⟩ := Bk.cf kb5 1 rfl
    go_wp2
    go_roundw
    case rel => exact ⟨k + 1, pk + 1, rs ++ [z1], _, _, by go_num, by omega, HXL2, HO.out, kb5, kb3, kb4, HH.out.2.2, HH.out.1, by omega, HH.out.2.1, by omega⟩
    case measure => simp [intOf]; omega
   refine AllReadyH.cons rfl (fun K hK => ?_) AllReadyH.nil
   go_simp
   obtain ⟨w8, hnw, hb⟩ := nmw (World.alloc w7 (.cells #[.int .i64 z1] 3))
   replace hC := ((hC.trans (Chg.of_below (bal (Bs _) _)))).trans (Chg.of_below hb)
   replace hR := (hR.below (bal (Bs _) _)).below hb
   have ol61 := Ob (World.ownsRow_lit (base := (w7).heap.size) (e := 3) (size := 1) (w7) #[.int .i64 z1] 1 (Nat.le_refl _) (by unfold maxLen; omega) (by simp)) hb
   try simp only [Sa, Ss] at ol61
   have hsz62 := hb.size
   simp only [Sa] at hsz62
   replace oX := Ob (Ob oX (bal (Bs _) _)) hb
   replace oM := (oM.below (bal (Bs _) _)).below hb
   replace kb5 := Bk.below (Bk.al kb5 _) hb
   replace kb3 := Bk.below (Bk.al kb3 _) hb
   replace kb4 := Bk.below (Bk.al kb4 _) hb
   have bx63 : w8.cell? ⟨w7.heap.size, 0, none⟩ = some (.int .i64 z1) := Kc hb (Wc (by simp) (by rfl))
   have bf64 : w8.frozen? ⟨w7.heap.size, 0, none⟩ = false := Kf hb (by simp <;> omega) (Fn (by simp))
   clear hb
   have iv65 := ol61.lt
   try simp only [Sa] at iv65
   rw [← hnw]
   clear hnw
   replace lt21 := Bk.lz kb5
   replace lt22 := Bk.lz kb3
   replace lt23 := Bk.lz kb4
   have lt66 := Lc bx63
   refine hK.out _ _ trivial (fun hHeld => ?_)
   clear hK K
   try simp only [Act.put, sb, List.set]
   refine Rdy 1 rfl (fun K hK => ?_)
   obtain ⟨tc67, tf68⟩ := Bk.cf kb5 1 rfl
   go_simp
   replace lt21 := Bk.lz kb5
   replace lt22 := Bk.lz kb3
   replace lt23 := Bk.lz kb4
   replace lt66 := Lc bx63
   refine hK.out _ _ trivial (fun hHeld => ?_)
   clear hK K
   try simp only [Act.put, sb, List.set]
   refine Rdy 5 rfl (fun K hK => ?_)
   refine step_aps tInts rfl _ _ rfl (wc2.heap.size) _ k (ints rs) rfl oX _ 1 (ints [z1]) rfl ((Ro ol61 (by simp))) (one_ints [z1]) (by omega) (by first | omega | (simp only [Sa, Ss]; omega)) ?_
   intro vA w9 oA69 hc hNw _
   obtain ⟨pA69, tA69, rfl⟩ := Oh oA69
   replace hC := chg_app hC hc (fun q hq h => by have := iX q h; omega)
   replace hR := hR.keep hc (fun h => by have := iX _ h; omega) (fun k hk h => by have := iX _ h; omega)
   have hsz70 := hc.size
   clear tf68 tc67
   replace bf64 := Gf hc (Lc bx63) bf64 (fun h => by have := iX _ h; omega)
   replace oM := oM.keep hc (fun gq h h2 => by have := iM gq h; have := iX gq h2; omega)
   replace bx63 := Gc hc bx63 (fun h => by have := iX _ h; omega)
   replace ol61 := Ow ol61 hc (fun gq h h2 => by have := iv65 gq h; have := iX gq h2; omega)
   replace kb5 := Bk.keep kb5 hc (fun h => by have := iX _ h; omega)
   replace kb3 := Bk.keep kb3 hc (fun h => by have := iX _ h; omega)
   replace kb4 := Bk.keep kb4 hc (fun h => by have := iX _ h; omega)
   clear hc
   have iv71 := oA69.lt
   clear hNw oX
   replace lt21 := Bk.lz kb5
   replace lt22 := Bk.lz kb3
   replace lt23 := Bk.lz kb4
   replace lt66 := Lc bx63
   refine hK.out _ _ trivial (fun hHeld => ?_)
   clear hK K
   try simp only [Act.put, sb, List.set]
   refine (tq 6 32 rfl rfl ?_ ?_ ?_)
   (rotate_left; intro W' hSw; clear hSw; go_simp; try with_reducible rfl)
   try simp only [Act.put, sb, List.set]
   refine Rdy 7 rfl (fun K hK => ?_)
   obtain ⟨tc72, tf73⟩ := Bk.cf kb5 1 rfl
   go_simp
   obtain ⟨w10, hnw, hb⟩ := nmw (World.setCell w9 ⟨w2.heap.size, 1, none⟩ (.slice pA69 (k + 1) tA69))
   replace hC := ((hC.setNew _ _ _ (Or.inr (by omega)))).trans (Chg.of_below hb)
   replace hR := (hR.keep (C1 _ _ _) (by omega) (fun _ _ => by omega)).below hb
   have hsz74 := hb.size
   simp only [Ss] at hsz74
   clear tf73 tc72
   replace bf64 := Kf hb (Lc (Nc bx63 (by omega) _)) (Fs bf64 _)
   replace oM := (oM.keep (C1 _ _ _) (fun gq h h2 => by have := iM gq h; omega)).below hb
   replace bx63 := Kc hb (Nc bx63 (by omega) _)
   replace ol61 := Ob (Oe ol61 _ _ (fun h => by have := iv65 _ h; omega) _) hb
   replace oA69 := Ob (Oe oA69 _ _ (fun h => by have := iv71 _ h; omega) _) hb
   replace kb5 : Bk w10 (w2.heap.size) [.int .i64 pc, .slice pA69 (k + 1) tA69, .slice px m.vals.length tx, .slice py m.arrs.length ty] := Bk.below (Bk.at kb5 1 (.slice pA69 (k + 1) tA69)) hb
   replace kb3 := Bk.below (Bk.ne kb3 (by omega) _) hb
   replace kb4 := Bk.below (Bk.ne kb4 (by omega) _) hb
   clear hb
   rw [← hnw]
   clear hnw
   replace lt21 := Bk.lz kb5
   replace lt22 := Bk.lz kb3
   replace lt23 := Bk.lz kb4
   replace lt66 := Lc bx63
   refine hK.out _ _ trivial (fun hHeld => ?_)
   clear hK K
   try simp only [Act.put, sb, List.set]
   refine wpAnyH_done (by kernel_rfl) ?_ _
   refine NoPanic.normal ?_
   clear hHeld
   have HO := Lib.hid (show w10.ownsRow wc2.heap.size 3 1 _ (k + 1) (ints (rs ++ [z1])) from by rw [ints_append]; exact oA69)
   have HXL2 : Hid ((rs ++ ([z1] : List Int)).length = k + 1) := Lib.hid (by rw [List.length_append, HXL.out]; rfl)
   have HH := Lib.hid (And.intro hR (And.intro hC oM)); clear hR hC oM oA69
   obtain ⟨tc75, tf76⟩ := Bk.cf kb5 1 rfl
   go_wp2
   go_roundw
   case rel => exact ⟨k + 1, pk + 1, rs ++ [z1], _, _, by go_num, by omega, HXL2, HO.out, kb5, kb3, kb4, HH.out.2.2, HH.out.1, by omega, HH.out.2.1, by omega⟩
   case measure => simp [intOf]; omega
  ·have hq1 : decide ((k : Int) < 14) = false := decide_eq_false (by omega)
   have hq2 : ¬ (k : Int) < 14 := by omega
   go_upto_region 8 with (fail)
   replace lt21 := Bk.lz kb5
   replace lt22 := Bk.lz kb3
   replace lt23 := Bk.lz kb4
   have hkn : k = 14 := by omega
   clear hq1 hq2 hlt
   subst hkn
   obtain ⟨gx, cx, hgx⟩ := own_pos oX (by omega)
   simp only [Value.slice.injEq, true_and] at hgx
   obtain ⟨rfl, rfl⟩ := hgx
   have igx := iX gx rfl
   have hc14 : 14 ≤ c := (Ro oX (by omega)).2.2.elim (fun _ h => h.elim (fun _ h => h.elim (fun _ h => h.elim (fun _ h => by have := h.1; simp only [Value.slice.injEq] at this; have := h.2.1.1; omega))))
   have oI : OwnI _ _ gx 14 c := ⟨rs, HXL.out, oX⟩
   clear oX iX
   replace lt21 := Bk.lz kb5
   replace lt22 := Bk.lz kb3
   replace lt23 := Bk.lz kb4
   go_wp2_with fail
   refine (pick_any _ _ B g (pk) hR (by omega) (by omega) (by omega)).mono ?_
   rintro e w6 ⟨z, z0, z1, rfl, hRn, hc⟩
   replace hC := (hC).trans hc
   replace hR := hRn; clear hRn
   replace oI := OwnI.keep oI hc (fun h => by have := ird _ h; omega)
   have hsz77 := hc.size
   replace oM := oM.keep hc (fun gq h h2 => by have := iM gq h; have := ird gq h2; omega)
   replace kb5 := Bk.keep kb5 hc (fun h => by have := ird _ h; omega)
   replace kb3 := Bk.keep kb3 hc (fun h => by have := ird _ h; omega)
   replace kb4 := Bk.keep kb4 hc (fun h => by have := ird _ h; omega)
   clear hc
   replace lt21 := Bk.lz kb5
   replace lt22 := Bk.lz kb3
   replace lt23 := Bk.lz kb4
   by_cases hk0 : z = 0
   ·subst hk0
    go_wp2_with fail
    refine (num_any _ [(-1), 400, 0] _ B g (pk + 1) (hR.below (bal (Bs _) (.cells #[.int .i64 (-1), .int .i64 400, .int .i64 0] 3))) (Ro (World.ownsRow_lit (base := (w6).heap.size) (e := 3) (size := 1) (w6) #[.int .i64 (-1), .int .i64 400, .int .i64 0] 3 (Nat.le_refl _) (by unfold maxLen; omega) (by simp)) (by simp)) (fun b o c hb => by simp at hb; omega) (by simp) (by simp) (by omega)).mono ?_
    rintro e w7 ⟨vv, vvm, rfl, hRn, hc⟩
    replace hC := ((hC.trans (Chg.of_below (bal (Bs _) _)))).trans hc
    replace hR := hRn; clear hRn
    replace oI := OwnI.keep (OwnI.below oI (bal (Bs _) _)) hc (fun h => by have := ird _ h; omega)
    have hsz79 := hc.size
    simp only [Sa] at hsz79
    replace oM := (oM.below (bal (Bs _) _)).keep hc (fun gq h h2 => by have := iM gq h; have := ird gq h2; omega)
    replace kb5 := Bk.keep (Bk.al kb5 _) hc (fun h => by have := ird _ h; omega)
    replace kb3 := Bk.keep (Bk.al kb3 _) hc (fun h => by have := ird _ h; omega)
    replace kb4 := Bk.keep (Bk.al kb4 _) hc (fun h => by have := ird _ h; omega)
    have bk80 : Bk w7 (w6.heap.size) [.int .i64 (-1), .int .i64 400, .int .i64 0] := Bk.keep (Bk.nw (by simp) rfl) hc (fun h => by have := ird _ h; omega)
    clear hc
    clear bk80
    replace lt21 := Bk.lz kb5
    replace lt22 := Bk.lz kb3
    replace lt23 := Bk.lz kb4
    clear vvm
    obtain ⟨tc81, tf82⟩ := Bk.cf kb5 0 rfl
    go_upto_region 17 with (fail)
    obtain ⟨w8, hnw, hb⟩ := nmw (World.setCell w7 ⟨w2.heap.size, 0, none⟩ (.int .i64 vv))
    replace hC := ((hC.setNew _ _ _ (Or.inr (by omega)))).trans (Chg.of_below hb)
    replace hR := (hR.keep (C1 _ _ _) (by omega) (fun _ _ => by omega)).below hb
    replace oI := OwnI.below (OwnI.keep oI (C1 _ _ _) (by omega)) hb
    have hsz83 := hb.size
    simp only [Ss] at hsz83
    clear tf82 tc81
    replace oM := (oM.keep (C1 _ _ _) (fun gq h h2 => by have := iM gq h; omega)).below hb
    replace kb5 : Bk w8 (w2.heap.size) [.int .i64 vv, .slice (some ⟨gx, 0, none⟩) 14 c, .slice px m.vals.length tx, .slice py m.arrs.length ty] := Bk.below (Bk.at kb5 0 (.int .i64 vv)) hb
    replace kb3 := Bk.below (Bk.ne kb3 (by omega) _) hb
    replace kb4 := Bk.below (Bk.ne kb4 (by omega) _) hb
    clear hb
    rw [← hnw]
    clear hnw
    replace lt21 := Bk.lz kb5
    replace lt22 := Bk.lz kb3
    replace lt23 := Bk.lz kb4
    have hds : ∃ rs2 : List Int, Hid (DrS (World.setCell (World.setCell (World.setCell (World.setCell w8 ⟨w.heap.size + 1, 0, none⟩ (.int .i64 vv)) ⟨w.heap.size + 1, 1, none⟩ (.slice (some ⟨gx, 0, none⟩) 14 c)) ⟨w.heap.size + 1, 2, none⟩ (.slice px m.vals.length tx)) ⟨w.heap.size + 1, 3, none⟩ (.slice py m.arrs.length ty)) w.heap.size (.slice (some ⟨gx, 0, none⟩) 14 c) (.slice px m.vals.length tx) (.slice py m.arrs.length ty) ⟨vv, rs2, m⟩) := by
     obtain ⟨rs3, h1, h2⟩ := (OwnI.keep (OwnI.keep (OwnI.keep (OwnI.keep oI (C1 (w.heap.size + 1) (0) (.int .i64 vv)) (by omega)) (C1 (w.heap.size + 1) (1) (.slice (some ⟨gx, 0, none⟩) 14 c)) (by omega)) (C1 (w.heap.size + 1) (2) (.slice px m.vals.length tx)) (by omega)) (C1 (w.heap.size + 1) (3) (.slice py m.arrs.length ty)) (by omega)).h
     exact ⟨rs3, Lib.hid ⟨by rw [h1]; exact Ro h2 (by omega), (Abv.own h2).mono (by omega), Nat.le_of_eq h1, DrM.mono (DrM.of ((((oM.keep (C1 (w.heap.size + 1) 0 (.int .i64 vv)) (fun gq h h2 => by have := iM gq h; omega)).keep (C1 (w.heap.size + 1) 1 (.slice (some ⟨gx, 0, none⟩) 14 c)) (fun gq h h2 => by have := iM gq h; omega)).keep (C1 (w.heap.size + 1) 2 (.slice px m.vals.length tx)) (fun gq h h2 => by have := iM gq h; omega)).keep (C1 (w.heap.size + 1) 3 (.slice py m.arrs.length ty)) (fun gq h h2 => by have := iM gq h; omega)) (Nat.le_trans hml0 (by decide)) (Nat.le_trans hml1 (by decide)) HM3.out) (by omega)⟩⟩
    obtain ⟨rs2, HDS⟩ := hds
    clear oI oM
    obtain ⟨tc84, tf85⟩ := Bk.cf kb5 0 rfl
    obtain ⟨tc86, tf87⟩ := Bk.cf kb5 1 rfl
    obtain ⟨tc88, tf89⟩ := Bk.cf kb5 2 rfl
    obtain ⟨tc90, tf91⟩ := Bk.cf kb5 3 rfl
    obtain ⟨tc92, tf93⟩ := Bk.cf kb4 0 rfl
    obtain ⟨tc94, tf95⟩ := Bk.cf kb4 1 rfl
    obtain ⟨tc96, tf97⟩ := Bk.cf kb4 2 rfl
    obtain ⟨tc98, tf99⟩ := Bk.cf kb4 3 rfl
    have HCF := (((((Chg.refl (fun q => q = w.heap.size + 1) w8).setCell (w.heap.size + 1) 0 (.int .i64 vv) (fun _ => rfl)).setCell (w.heap.size + 1) 1 (.slice (some ⟨gx, 0, none⟩) 14 c) (fun _ => rfl)).setCell (w.heap.size + 1) 2 (.slice px m.vals.length tx) (fun _ => rfl)).setCell (w.heap.size + 1) 3 (.slice py m.arrs.length ty) (fun _ => rfl))
    have hBf := (Bk.at (Bk.at (Bk.at (Bk.at kb4 0 (.int .i64 vv)) 1 (.slice (some ⟨gx, 0, none⟩) 14 c)) 2 (.slice px m.vals.length tx)) 3 (.slice py m.arrs.length ty))
    have xr0 := Bk.cell hBf 0 (v := .int .i64 vv) rfl
    have xr1 := Bk.cell hBf 1 (v := .slice (some ⟨gx, 0, none⟩) 14 c) rfl
    have xr2 := Bk.cell hBf 2 (v := .slice px m.vals.length tx) rfl
    have xr3 := Bk.cell hBf 3 (v := .slice py m.arrs.length ty) rfl
    have HCH := Lib.hid HCF; clear HCF hBf
    have HCR := Lib.hid (And.intro hC hR); clear hC hR
    go_wp2
    exact bodyPost_ret (v := .agg #[.int .i64 vv, .slice (some ⟨gx, 0, none⟩) 14 c, .slice px m.vals.length tx, .slice py m.arrs.length ty]) (by simp [results, Try.results113, go_sem, xr0, xr1, xr2, xr3]) rfl (by exact (by first | exact ⟨_, _, _, ⟨vv, rs2, m⟩, pk + 1 + 1, rfl, HDS.out, HCR.out.2.keep HCH.out (fun h => by omega) (fun k hk h => by omega), by omega, chg_app HCR.out.1 HCH.out (fun q hq h => by omega)⟩ | exact ⟨_, _, _, ⟨vv, rs2, m⟩, rfl, HDS.out, pk + 1 + 1, HCR.out.2.keep HCH.out (fun h => by omega) (fun k hk h => by omega), by omega, chg_app HCR.out.1 HCH.out (fun q hq h => by omega)⟩ | exact ⟨_, _, _, ⟨vv, rs2, m⟩, ⟨pk + 1 + 1, rfl⟩, HDS.out, HCR.out.2.keep HCH.out (fun h => by omega) (fun k hk h => by omega), by omega, chg_app HCR.out.1 HCH.out (fun q hq h => by omega)⟩ | exact ⟨_, _, _, ⟨vv, rs2, m⟩, rfl, HDS.out, ⟨pk + 1 + 1, HCR.out.2.keep HCH.out (fun h => by omega) (fun k hk h => by omega), by omega, chg_app HCR.out.1 HCH.out (fun q hq h => by omega)⟩⟩))
   have qk0 : (z == 0) = false := by simp [hk0]
   by_cases hk1 : z = 1
   ·subst hk1
    have hsl : ∀ W, (Instr.slice 23 (.slice (some ⟨gx, 0, none⟩) 14 c) none (some (.int .i64 13)) none).run Try.prog W = .ok (.slice (some ⟨gx, 0, none⟩) 13 c) W := fun W => run_pre tInts _ 14 c 13 (by omega) W
    obtain ⟨tc100, tf101⟩ := Bk.cf kb5 1 rfl
    go_upto_region 17 with (fail)
    obtain ⟨w7, hnw, hb⟩ := nmw (World.setCell w6 ⟨w2.heap.size, 1, none⟩ (.slice (some ⟨gx, 0, none⟩) 13 c))
    replace hC := ((hC.setNew _ _ _ (Or.inr (by omega)))).trans (Chg.of_below hb)
    replace hR := (hR.keep (C1 _ _ _) (by omega) (fun _ _ => by omega)).below hb
    replace oI := OwnI.below (OwnI.keep oI (C1 _ _ _) (by omega)) hb
    have hsz102 := hb.size
    simp only [Ss] at hsz102
    clear tf101 tc100
    replace oM := (oM.keep (C1 _ _ _) (fun gq h h2 => by have := iM gq h; omega)).below hb
    replace kb5 : Bk w7 (w2.heap.size) [.int .i64 pc, .slice (some ⟨gx, 0, none⟩) 13 c, .slice px m.vals.length tx, .slice py m.arrs.length ty] := Bk.below (Bk.at kb5 1 (.slice (some ⟨gx, 0, none⟩) 13 c)) hb
    replace kb3 := Bk.below (Bk.ne kb3 (by omega) _) hb
    replace kb4 := Bk.below (Bk.ne kb4 (by omega) _) hb
    clear hb
    rw [← hnw]
    clear hnw
    replace lt21 := Bk.lz kb5
    replace lt22 := Bk.lz kb3
    replace lt23 := Bk.lz kb4
    have hds : ∃ rs2 : List Int, Hid (DrS (World.setCell (World.setCell (World.setCell (World.setCell w7 ⟨w.heap.size + 1, 0, none⟩ (.int .i64 pc)) ⟨w.heap.size + 1, 1, none⟩ (.slice (some ⟨gx, 0, none⟩) 13 c)) ⟨w.heap.size + 1, 2, none⟩ (.slice px m.vals.length tx)) ⟨w.heap.size + 1, 3, none⟩ (.slice py m.arrs.length ty)) w.heap.size (.slice (some ⟨gx, 0, none⟩) 13 c) (.slice px m.vals.length tx) (.slice py m.arrs.length ty) ⟨pc, rs2, m⟩) := by
     obtain ⟨rs3, h1, h2⟩ := (OwnI.keep (OwnI.keep (OwnI.keep (OwnI.keep oI (C1 (w.heap.size + 1) (0) (.int .i64 pc)) (by omega)) (C1 (w.heap.size + 1) (1) (.slice (some ⟨gx, 0, none⟩) 13 c)) (by omega)) (C1 (w.heap.size + 1) (2) (.slice px m.vals.length tx)) (by omega)) (C1 (w.heap.size + 1) (3) (.slice py m.arrs.length ty)) (by omega)).h
     exact ⟨rs3.take 13, Lib.hid ⟨by rw [List.length_take, h1, show ints (rs3.take 13) = (ints rs3).take 13 from by simp [ints]]; exact reads_take (Ro h2 (by omega)) 13 (by omega), fun b o n c hv => (Abv.own h2).mono (by omega) b o 14 c (by simp only [Value.slice.injEq] at hv; rw [hv.1, hv.2.2]), by rw [List.length_take, h1]; decide, DrM.mono (DrM.of ((((oM.keep (C1 (w.heap.size + 1) 0 (.int .i64 pc)) (fun gq h h2 => by have := iM gq h; omega)).keep (C1 (w.heap.size + 1) 1 (.slice (some ⟨gx, 0, none⟩) 13 c)) (fun gq h h2 => by have := iM gq h; omega)).keep (C1 (w.heap.size + 1) 2 (.slice px m.vals.length tx)) (fun gq h h2 => by have := iM gq h; omega)).keep (C1 (w.heap.size + 1) 3 (.slice py m.arrs.length ty)) (fun gq h h2 => by have := iM gq h; omega)) (Nat.le_trans hml0 (by decide)) (Nat.le_trans hml1 (by decide)) HM3.out) (by omega)⟩⟩
    obtain ⟨rs2, HDS⟩ := hds
    clear oI oM
    obtain ⟨tc103, tf104⟩ := Bk.cf kb5 0 rfl
    obtain ⟨tc105, tf106⟩ := Bk.cf kb5 1 rfl
    obtain ⟨tc107, tf108⟩ := Bk.cf kb5 2 rfl
    obtain ⟨tc109, tf110⟩ := Bk.cf kb5 3 rfl
    obtain ⟨tc111, tf112⟩ := Bk.cf kb4 0 rfl
    obtain ⟨tc113, tf114⟩ := Bk.cf kb4 1 rfl
    obtain ⟨tc115, tf116⟩ := Bk.cf kb4 2 rfl
    obtain ⟨tc117, tf118⟩ := Bk.cf kb4 3 rfl
    have HCF := (((((Chg.refl (fun q => q = w.heap.size + 1) w7).setCell (w.heap.size + 1) 0 (.int .i64 pc) (fun _ => rfl)).setCell (w.heap.size + 1) 1 (.slice (some ⟨gx, 0, none⟩) 13 c) (fun _ => rfl)).setCell (w.heap.size + 1) 2 (.slice px m.vals.length tx) (fun _ => rfl)).setCell (w.heap.size + 1) 3 (.slice py m.arrs.length ty) (fun _ => rfl))
    have hBf := (Bk.at (Bk.at (Bk.at (Bk.at kb4 0 (.int .i64 pc)) 1 (.slice (some ⟨gx, 0, none⟩) 13 c)) 2 (.slice px m.vals.length tx)) 3 (.slice py m.arrs.length ty))
    have xr0 := Bk.cell hBf 0 (v := .int .i64 pc) rfl
    have xr1 := Bk.cell hBf 1 (v := .slice (some ⟨gx, 0, none⟩) 13 c) rfl
    have xr2 := Bk.cell hBf 2 (v := .slice px m.vals.length tx) rfl
    have xr3 := Bk.cell hBf 3 (v := .slice py m.arrs.length ty) rfl
    have HCH := Lib.hid HCF; clear HCF hBf
    have HCR := Lib.hid (And.intro hC hR); clear hC hR
    go_wp2
    exact bodyPost_ret (v := .agg #[.int .i64 pc, .slice (some ⟨gx, 0, none⟩) 13 c, .slice px m.vals.length tx, .slice py m.arrs.length ty]) (by simp [results, Try.results113, go_sem, xr0, xr1, xr2, xr3]) rfl (by exact (by first | exact ⟨_, _, _, ⟨pc, rs2, m⟩, pk + 1, rfl, HDS.out, HCR.out.2.keep HCH.out (fun h => by omega) (fun k hk h => by omega), by omega, chg_app HCR.out.1 HCH.out (fun q hq h => by omega)⟩ | exact ⟨_, _, _, ⟨pc, rs2, m⟩, rfl, HDS.out, pk + 1, HCR.out.2.keep HCH.out (fun h => by omega) (fun k hk h => by omega), by omega, chg_app HCR.out.1 HCH.out (fun q hq h => by omega)⟩ | exact ⟨_, _, _, ⟨pc, rs2, m⟩, ⟨pk + 1, rfl⟩, HDS.out, HCR.out.2.keep HCH.out (fun h => by omega) (fun k hk h => by omega), by omega, chg_app HCR.out.1 HCH.out (fun q hq h => by omega)⟩ | exact ⟨_, _, _, ⟨pc, rs2, m⟩, rfl, HDS.out, ⟨pk + 1, HCR.out.2.keep HCH.out (fun h => by omega) (fun k hk h => by omega), by omega, chg_app HCR.out.1 HCH.out (fun q hq h => by omega)⟩⟩))
   have qk1 : (z == 1) = false := by simp [hk1]
   by_cases hk2 : z = 2
   ·subst hk2
    obtain ⟨⟨x0, hx0⟩, fx0⟩ := oI.at 0 (by omega)
    clear hx0 fx0
    go_upto_region 14 with (fail)
    have hc119 := Bk.cell kb5 1 (v := .slice (some ⟨gx, 0, none⟩) 14 c) rfl
    replace lt21 := Bk.lz kb5
    replace lt22 := Bk.lz kb3
    replace lt23 := Bk.lz kb4
    refine wp_region_noPanic ?_
    refine wp_region_held_drew (S := (fun W' => W'.cell? ⟨w2.heap.size, 1, none⟩ = some (.slice (some ⟨gx, 0, none⟩) 14 c))) (by kernel_rfl) (Kc (Below.drew (Bs w6)) hc119) (fun hHeld => ?_)
    obtain ⟨w7, hwd⟩ : ∃ X, X = World.drew w6 := ⟨_, rfl⟩
    rw [← hwd] at hHeld ⊢
    have hb : Below w6.heap.size w6 w7 := by rw [hwd]; exact Below.drew (Bs _)
    clear hwd
    replace hC := (hC).trans (Chg.of_below hb)
    replace hR := hR.below hb
    replace oI := OwnI.below oI hb
    have hsz120 := hb.size
    replace oM := oM.below hb
    replace hc119 := Kc hb hc119
    replace kb5 := Bk.below kb5 hb
    replace kb3 := Bk.below kb3 hb
    replace kb4 := Bk.below kb4 hb
    clear hb
    replace lt21 := Bk.lz kb5
    replace lt22 := Bk.lz kb3
    replace lt23 := Bk.lz kb4
    refine (tq 0 49 rfl rfl ?_ ?_ (tq 1 50 rfl rfl ?_ ?_ (tq 2 51 rfl rfl ?_ ?_ ?_)))
    iterate 3 (rotate_left; intro W' hSw; (try dsimp only at hSw); go_simp; try with_reducible rfl)
    try simp only [Act.put, sb, List.set]
    refine Rdy 3 rfl (fun K hK => ?_)
    go_simp
    obtain ⟨w8, hnw, hb⟩ := nmw (World.alloc w7 (.cells #[.int .i64 (-1), .int .i64 256] 3))
    replace hC := ((hC.trans (Chg.of_below (bal (Bs _) _)))).trans (Chg.of_below hb)
    replace hR := (hR.below (bal (Bs _) _)).below hb
    have ol121 := Ob (World.ownsRow_lit (base := (w7).heap.size) (e := 3) (size := 1) (w7) #[.int .i64 (-1), .int .i64 256] 2 (Nat.le_refl _) (by unfold maxLen; omega) (by simp)) hb
    try simp only [Sa, Ss] at ol121
    replace oI := OwnI.below (OwnI.below oI (bal (Bs _) _)) hb
    have hsz122 := hb.size
    simp only [Sa] at hsz122
    replace oM := (oM.below (bal (Bs _) _)).below hb
    replace hc119 := Kc hb (Ac hc119 _)
    replace kb5 := Bk.below (Bk.al kb5 _) hb
    replace kb3 := Bk.below (Bk.al kb3 _) hb
    replace kb4 := Bk.below (Bk.al kb4 _) hb
    have bk123 : Bk w8 (w7.heap.size) [.int .i64 (-1), .int .i64 256] := Bk.below (Bk.nw (by simp) rfl) hb
    clear hb
    have iv124 := ol121.lt
    try simp only [Sa] at iv124
    rw [← hnw]
    clear hnw
    replace lt21 := Bk.lz kb5
    replace lt22 := Bk.lz kb3
    replace lt23 := Bk.lz kb4
    have lt125 := Bk.lz bk123
    refine hK.out _ _ (hc119) (fun hHeld => ?_)
    clear hK K
    try simp only [Act.put, sb, List.set]
    refine Rdy 4 rfl (fun K hK => ?_)
    go_simp
    refine (num_any _ [(-1), 256] _ B g (pk + 1) hR (Ro ol121 (by simp)) (fun b o c hb => by simp at hb; omega) (by simp) (by simp) (by omega)).mono ?_
    rintro e w9 ⟨vv, vvm, rfl, hRn, hc⟩
    replace hC := (hC).trans hc
    replace hR := hRn; clear hRn
    replace oI := OwnI.keep oI hc (fun h => by have := ird _ h; omega)
    have hsz126 := hc.size
    replace oM := oM.keep hc (fun gq h h2 => by have := iM gq h; have := ird gq h2; omega)
    replace hc119 := Gc hc hc119 (fun h => by have := ird _ h; omega)
    replace ol121 := Ow ol121 hc (fun gq h h2 => by have := iv124 gq h; have := ird gq h2; omega)
    replace kb5 := Bk.keep kb5 hc (fun h => by have := ird _ h; omega)
    replace kb3 := Bk.keep kb3 hc (fun h => by have := ird _ h; omega)
    replace kb4 := Bk.keep kb4 hc (fun h => by have := ird _ h; omega)
    replace bk123 := Bk.keep bk123 hc (fun h => by have := ird _ h; omega)
    clear hc
    clear vvm
    obtain ⟨⟨x0, hx0⟩, fx0⟩ := oI.at 0 (by omega)
    replace lt21 := Bk.lz kb5
    replace lt22 := Bk.lz kb3
    replace lt23 := Bk.lz kb4
    replace lt125 := Bk.lz bk123
    refine hK.out _ _ (hc119) (fun hHeld => ?_)
    clear hK K
    try simp only [Act.put, sb, List.set]
    refine (tq 5 54 rfl rfl ?_ ?_ ?_)
    (rotate_left; intro W' hSw; (try dsimp only at hSw); go_simp; try with_reducible rfl)
    try simp only [Act.put, sb, List.set]
    refine Rdy 6 rfl (fun K hK => ?_)
    go_simp
    obtain ⟨w10, hnw, hb⟩ := nmw (World.setCell w9 ⟨gx, 0, none⟩ (.int .i64 vv))
    replace hC := ((hC.setNew _ _ _ (Or.inr (by omega)))).trans (Chg.of_below hb)
    replace hR := (hR.keep (C1 _ _ _) (by omega) (fun _ _ => by omega)).below hb
    replace oI := OwnI.below (OwnI.put oI (0) (vv)) hb
    have hsz127 := hb.size
    simp only [Ss] at hsz127
    replace oM := (oM.keep (C1 _ _ _) (fun gq h h2 => by have := iM gq h; omega)).below hb
    replace hc119 := Kc hb (Nc hc119 (by omega) _)
    replace ol121 := Ob (Oe ol121 _ _ (fun h => by have := iv124 _ h; omega) _) hb
    replace kb5 := Bk.below (Bk.ne kb5 (by omega) _) hb
    replace kb3 := Bk.below (Bk.ne kb3 (by omega) _) hb
    replace kb4 := Bk.below (Bk.ne kb4 (by omega) _) hb
    replace bk123 := Bk.below (Bk.ne bk123 (by omega) _) hb
    clear hb
    rw [← hnw]
    clear hnw
    replace lt21 := Bk.lz kb5
    replace lt22 := Bk.lz kb3
    replace lt23 := Bk.lz kb4
    replace lt125 := Bk.lz bk123
    refine hK.out _ _ (hc119) (fun hHeld => ?_)
    clear hK K
    try simp only [Act.put, sb, List.set]
    refine wpAnyH_done (by kernel_rfl) ?_ _
    refine NoPanic.normal ?_
    clear hHeld
    go_upto_region 17 with (fail)
    clear bk123
    clear lt125
    replace lt21 := Bk.lz kb5
    replace lt22 := Bk.lz kb3
    replace lt23 := Bk.lz kb4
    have hds : ∃ rs2 : List Int, Hid (DrS (World.setCell (World.setCell (World.setCell (World.setCell w10 ⟨w.heap.size + 1, 0, none⟩ (.int .i64 pc)) ⟨w.heap.size + 1, 1, none⟩ (.slice (some ⟨gx, 0, none⟩) 14 c)) ⟨w.heap.size + 1, 2, none⟩ (.slice px m.vals.length tx)) ⟨w.heap.size + 1, 3, none⟩ (.slice py m.arrs.length ty)) w.heap.size (.slice (some ⟨gx, 0, none⟩) 14 c) (.slice px m.vals.length tx) (.slice py m.arrs.length ty) ⟨pc, rs2, m⟩) := by
     obtain ⟨rs3, h1, h2⟩ := (OwnI.keep (OwnI.keep (OwnI.keep (OwnI.keep oI (C1 (w.heap.size + 1) (0) (.int .i64 pc)) (by omega)) (C1 (w.heap.size + 1) (1) (.slice (some ⟨gx, 0, none⟩) 14 c)) (by omega)) (C1 (w.heap.size + 1) (2) (.slice px m.vals.length tx)) (by omega)) (C1 (w.heap.size + 1) (3) (.slice py m.arrs.length ty)) (by omega)).h
     exact ⟨rs3, Lib.hid ⟨by rw [h1]; exact Ro h2 (by omega), (Abv.own h2).mono (by omega), Nat.le_of_eq h1, DrM.mono (DrM.of ((((oM.keep (C1 (w.heap.size + 1) 0 (.int .i64 pc)) (fun gq h h2 => by have := iM gq h; omega)).keep (C1 (w.heap.size + 1) 1 (.slice (some ⟨gx, 0, none⟩) 14 c)) (fun gq h h2 => by have := iM gq h; omega)).keep (C1 (w.heap.size + 1) 2 (.slice px m.vals.length tx)) (fun gq h h2 => by have := iM gq h; omega)).keep (C1 (w.heap.size + 1) 3 (.slice py m.arrs.length ty)) (fun gq h h2 => by have := iM gq h; omega)) (Nat.le_trans hml0 (by decide)) (Nat.le_trans hml1 (by decide)) HM3.out) (by omega)⟩⟩
    obtain ⟨rs2, HDS⟩ := hds
    clear oI oM
    obtain ⟨tc128, tf129⟩ := Bk.cf kb5 0 rfl
    obtain ⟨tc130, tf131⟩ := Bk.cf kb5 2 rfl
    obtain ⟨tc132, tf133⟩ := Bk.cf kb5 3 rfl
    obtain ⟨tc134, tf135⟩ := Bk.cf kb4 0 rfl
    obtain ⟨tc136, tf137⟩ := Bk.cf kb4 1 rfl
    obtain ⟨tc138, tf139⟩ := Bk.cf kb4 2 rfl
    obtain ⟨tc140, tf141⟩ := Bk.cf kb4 3 rfl
    have HCF := (((((Chg.refl (fun q => q = w.heap.size + 1) w10).setCell (w.heap.size + 1) 0 (.int .i64 pc) (fun _ => rfl)).setCell (w.heap.size + 1) 1 (.slice (some ⟨gx, 0, none⟩) 14 c) (fun _ => rfl)).setCell (w.heap.size + 1) 2 (.slice px m.vals.length tx) (fun _ => rfl)).setCell (w.heap.size + 1) 3 (.slice py m.arrs.length ty) (fun _ => rfl))
    have hBf := (Bk.at (Bk.at (Bk.at (Bk.at kb4 0 (.int .i64 pc)) 1 (.slice (some ⟨gx, 0, none⟩) 14 c)) 2 (.slice px m.vals.length tx)) 3 (.slice py m.arrs.length ty))
    have xr0 := Bk.cell hBf 0 (v := .int .i64 pc) rfl
    have xr1 := Bk.cell hBf 1 (v := .slice (some ⟨gx, 0, none⟩) 14 c) rfl
    have xr2 := Bk.cell hBf 2 (v := .slice px m.vals.length tx) rfl
    have xr3 := Bk.cell hBf 3 (v := .slice py m.arrs.length ty) rfl
    have HCH := Lib.hid HCF; clear HCF hBf
    have HCR := Lib.hid (And.intro hC hR); clear hC hR
    go_wp2
    exact bodyPost_ret (v := .agg #[.int .i64 pc, .slice (some ⟨gx, 0, none⟩) 14 c, .slice px m.vals.length tx, .slice py m.arrs.length ty]) (by simp [results, Try.results113, go_sem, xr0, xr1, xr2, xr3]) rfl (by exact (by first | exact ⟨_, _, _, ⟨pc, rs2, m⟩, pk + 1 + 1, rfl, HDS.out, HCR.out.2.keep HCH.out (fun h => by omega) (fun k hk h => by omega), by omega, chg_app HCR.out.1 HCH.out (fun q hq h => by omega)⟩ | exact ⟨_, _, _, ⟨pc, rs2, m⟩, rfl, HDS.out, pk + 1 + 1, HCR.out.2.keep HCH.out (fun h => by omega) (fun k hk h => by omega), by omega, chg_app HCR.out.1 HCH.out (fun q hq h => by omega)⟩ | exact ⟨_, _, _, ⟨pc, rs2, m⟩, ⟨pk + 1 + 1, rfl⟩, HDS.out, HCR.out.2.keep HCH.out (fun h => by omega) (fun k hk h => by omega), by omega, chg_app HCR.out.1 HCH.out (fun q hq h => by omega)⟩ | exact ⟨_, _, _, ⟨pc, rs2, m⟩, rfl, HDS.out, ⟨pk + 1 + 1, HCR.out.2.keep HCH.out (fun h => by omega) (fun k hk h => by omega), by omega, chg_app HCR.out.1 HCH.out (fun q hq h => by omega)⟩⟩))
   have qk2 : (z == 2) = false := by simp [hk2]
   by_cases hk3 : z = 3
   ·subst hk3
    obtain ⟨tc142, tf143⟩ := Bk.cf kb5 2 rfl
    obtain ⟨tc144, tf145⟩ := Bk.cf kb5 3 rfl
    go_wp2_with fail
    refine (l3Bend_any _ _ m B g (pk + 1) _ (DrM.of oM (by omega) (by omega) HM3.out).reads (by omega) (by omega) HM3.out hR (by omega)).mono ?_
    rintro e w7 ⟨ua, ub, m2, p8, rfl, hma, hla, hlb, hRn, hp8, hc⟩
    try simp only [Sa, Ss] at hma
    obtain ⟨pxa, txa, pya, tya, rfl, rfl⟩ := hma.reads.shape
    replace hC := (hC).trans hc
    replace hR := hRn; clear hRn
    replace oI := OwnI.keep oI hc (fun h => by have := ird _ h; omega)
    have hsz146 := hc.size
    clear tf143 tc142 tf145 tc144
    replace oM := oM.keep hc (fun gq h h2 => by have := iM gq h; have := ird gq h2; omega)
    replace kb5 := Bk.keep kb5 hc (fun h => by have := ird _ h; omega)
    replace kb3 := Bk.keep kb3 hc (fun h => by have := ird _ h; omega)
    replace kb4 := Bk.keep kb4 hc (fun h => by have := ird _ h; omega)
    clear hc
    replace lt21 := Bk.lz kb5
    replace lt22 := Bk.lz kb3
    replace lt23 := Bk.lz kb4
    go_wp2_with fail
    refine (l3Bend_any _ _ m2 B g (p8) _ (hma).reads (by omega) (by omega) hma.l2 hR (by omega)).mono ?_
    rintro e w8 ⟨uc, ud, m3, p9, rfl, hmc, hlc, hld, hRn, hp9, hc⟩
    obtain ⟨pxc, txc, pyc, tyc, rfl, rfl⟩ := hmc.reads.shape
    replace hC := (hC).trans hc
    replace hR := hRn; clear hRn
    replace oI := OwnI.keep oI hc (fun h => by have := ird _ h; omega)
    have hsz147 := hc.size
    replace oM := oM.keep hc (fun gq h h2 => by have := iM gq h; have := ird gq h2; omega)
    replace hma := hma.keep hc (fun gq h h2 => by have := (fun q (h : w6.heap.size ≤ q) => h) gq h; have := ird gq h2; omega)
    replace kb5 := Bk.keep kb5 hc (fun h => by have := ird _ h; omega)
    replace kb3 := Bk.keep kb3 hc (fun h => by have := ird _ h; omega)
    replace kb4 := Bk.keep kb4 hc (fun h => by have := ird _ h; omega)
    clear hc
    replace lt21 := Bk.lz kb5
    replace lt22 := Bk.lz kb3
    replace lt23 := Bk.lz kb4
    clear oM hma
    obtain ⟨tc148, tf149⟩ := Bk.cf kb5 2 rfl
    obtain ⟨tc150, tf151⟩ := Bk.cf kb5 3 rfl
    go_upto_region 17 with (fail)
    obtain ⟨w9, hnw, hb⟩ := nmw (World.setCell (World.setCell w8 ⟨w2.heap.size, 2, none⟩ (.slice pxc m3.vals.length txc)) ⟨w2.heap.size, 3, none⟩ (.slice pyc m3.arrs.length tyc))
    replace hC := (((hC.setNew _ _ _ (Or.inr (by omega))).setNew _ _ _ (Or.inr (by omega)))).trans (Chg.of_below hb)
    replace hR := ((hR.keep (C1 _ _ _) (by omega) (fun _ _ => by omega)).keep (C1 _ _ _) (by omega) (fun _ _ => by omega)).below hb
    replace oI := OwnI.below (OwnI.keep (OwnI.keep oI (C1 _ _ _) (by omega)) (C1 _ _ _) (by omega)) hb
    have hsz152 := hb.size
    simp only [Ss] at hsz152
    clear tf149 tc148 tf151 tc150
    replace hmc := ((hmc.keep (C1 _ _ _) (fun gq h h2 => by have := (fun q (h : w7.heap.size ≤ q) => h) gq h; omega)).keep (C1 _ _ _) (fun gq h h2 => by have := (fun q (h : w7.heap.size ≤ q) => h) gq h; omega)).below hb
    replace kb5 : Bk w9 (w2.heap.size) [.int .i64 pc, .slice (some ⟨gx, 0, none⟩) 14 c, .slice pxc m3.vals.length txc, .slice pyc m3.arrs.length tyc] := Bk.below (Bk.at (Bk.at kb5 2 (.slice pxc m3.vals.length txc)) 3 (.slice pyc m3.arrs.length tyc)) hb
    replace kb3 := Bk.below (Bk.ne (Bk.ne kb3 (by omega) _) (by omega) _) hb
    replace kb4 := Bk.below (Bk.ne (Bk.ne kb4 (by omega) _) (by omega) _) hb
    clear hb
    rw [← hnw]
    clear hnw
    replace lt21 := Bk.lz kb5
    replace lt22 := Bk.lz kb3
    replace lt23 := Bk.lz kb4
    have hds : ∃ rs2 : List Int, Hid (DrS (World.setCell (World.setCell (World.setCell (World.setCell w9 ⟨w.heap.size + 1, 0, none⟩ (.int .i64 pc)) ⟨w.heap.size + 1, 1, none⟩ (.slice (some ⟨gx, 0, none⟩) 14 c)) ⟨w.heap.size + 1, 2, none⟩ (.slice pxc m3.vals.length txc)) ⟨w.heap.size + 1, 3, none⟩ (.slice pyc m3.arrs.length tyc)) w.heap.size (.slice (some ⟨gx, 0, none⟩) 14 c) (.slice pxc m3.vals.length txc) (.slice pyc m3.arrs.length tyc) ⟨pc, rs2, m3⟩) := by
     obtain ⟨rs3, h1, h2⟩ := (OwnI.keep (OwnI.keep (OwnI.keep (OwnI.keep oI (C1 (w.heap.size + 1) (0) (.int .i64 pc)) (by omega)) (C1 (w.heap.size + 1) (1) (.slice (some ⟨gx, 0, none⟩) 14 c)) (by omega)) (C1 (w.heap.size + 1) (2) (.slice pxc m3.vals.length txc)) (by omega)) (C1 (w.heap.size + 1) (3) (.slice pyc m3.arrs.length tyc)) (by omega)).h
     exact ⟨rs3, Lib.hid ⟨by rw [h1]; exact Ro h2 (by omega), (Abv.own h2).mono (by omega), Nat.le_of_eq h1, DrM.mono ((((hmc.keep (C1 (w.heap.size + 1) 0 (.int .i64 pc)) (fun gq h h2 => by have := (fun q (h : w7.heap.size ≤ q) => h) gq h; omega)).keep (C1 (w.heap.size + 1) 1 (.slice (some ⟨gx, 0, none⟩) 14 c)) (fun gq h h2 => by have := (fun q (h : w7.heap.size ≤ q) => h) gq h; omega)).keep (C1 (w.heap.size + 1) 2 (.slice pxc m3.vals.length txc)) (fun gq h h2 => by have := (fun q (h : w7.heap.size ≤ q) => h) gq h; omega)).keep (C1 (w.heap.size + 1) 3 (.slice pyc m3.arrs.length tyc)) (fun gq h h2 => by have := (fun q (h : w7.heap.size ≤ q) => h) gq h; omega)) (by omega)⟩⟩
    obtain ⟨rs2, HDS⟩ := hds
    clear oI hmc
    obtain ⟨tc153, tf154⟩ := Bk.cf kb5 0 rfl
    obtain ⟨tc155, tf156⟩ := Bk.cf kb5 1 rfl
    obtain ⟨tc157, tf158⟩ := Bk.cf kb5 2 rfl
    obtain ⟨tc159, tf160⟩ := Bk.cf kb5 3 rfl
    obtain ⟨tc161, tf162⟩ := Bk.cf kb4 0 rfl
    obtain ⟨tc163, tf164⟩ := Bk.cf kb4 1 rfl
    obtain ⟨tc165, tf166⟩ := Bk.cf kb4 2 rfl
    obtain ⟨tc167, tf168⟩ := Bk.cf kb4 3 rfl
    have HCF := (((((Chg.refl (fun q => q = w.heap.size + 1) w9).setCell (w.heap.size + 1) 0 (.int .i64 pc) (fun _ => rfl)).setCell (w.heap.size + 1) 1 (.slice (some ⟨gx, 0, none⟩) 14 c) (fun _ => rfl)).setCell (w.heap.size + 1) 2 (.slice pxc m3.vals.length txc) (fun _ => rfl)).setCell (w.heap.size + 1) 3 (.slice pyc m3.arrs.length tyc) (fun _ => rfl))
    have hBf := (Bk.at (Bk.at (Bk.at (Bk.at kb4 0 (.int .i64 pc)) 1 (.slice (some ⟨gx, 0, none⟩) 14 c)) 2 (.slice pxc m3.vals.length txc)) 3 (.slice pyc m3.arrs.length tyc))
    have xr0 := Bk.cell hBf 0 (v := .int .i64 pc) rfl
    have xr1 := Bk.cell hBf 1 (v := .slice (some ⟨gx, 0, none⟩) 14 c) rfl
    have xr2 := Bk.cell hBf 2 (v := .slice pxc m3.vals.length txc) rfl
    have xr3 := Bk.cell hBf 3 (v := .slice pyc m3.arrs.length tyc) rfl
    have HCH := Lib.hid HCF; clear HCF hBf
    have HCR := Lib.hid (And.intro hC hR); clear hC hR
    go_wp2
    exact bodyPost_ret (v := .agg #[.int .i64 pc, .slice (some ⟨gx, 0, none⟩) 14 c, .slice pxc m3.vals.length txc, .slice pyc m3.arrs.length tyc]) (by simp [results, Try.results113, go_sem, xr0, xr1, xr2, xr3]) rfl (by exact (by first | exact ⟨_, _, _, ⟨pc, rs2, m3⟩, p9, rfl, HDS.out, HCR.out.2.keep HCH.out (fun h => by omega) (fun k hk h => by omega), by omega, chg_app HCR.out.1 HCH.out (fun q hq h => by omega)⟩ | exact ⟨_, _, _, ⟨pc, rs2, m3⟩, rfl, HDS.out, p9, HCR.out.2.keep HCH.out (fun h => by omega) (fun k hk h => by omega), by omega, chg_app HCR.out.1 HCH.out (fun q hq h => by omega)⟩ | exact ⟨_, _, _, ⟨pc, rs2, m3⟩, ⟨p9, rfl⟩, HDS.out, HCR.out.2.keep HCH.out (fun h => by omega) (fun k hk h => by omega), by omega, chg_app HCR.out.1 HCH.out (fun q hq h => by omega)⟩ | exact ⟨_, _, _, ⟨pc, rs2, m3⟩, rfl, HDS.out, ⟨p9, HCR.out.2.keep HCH.out (fun h => by omega) (fun k hk h => by omega), by omega, chg_app HCR.out.1 HCH.out (fun q hq h => by omega)⟩⟩))
   have qk3 : (z == 3) = false := by simp [hk3]
   go_upto_region 17 with (fail)
   replace lt21 := Bk.lz kb5
   replace lt22 := Bk.lz kb3
   replace lt23 := Bk.lz kb4
   have hds : ∃ rs2 : List Int, Hid (DrS (World.setCell (World.setCell (World.setCell (World.setCell w6 ⟨w.heap.size + 1, 0, none⟩ (.int .i64 pc)) ⟨w.heap.size + 1, 1, none⟩ (.slice (some ⟨gx, 0, none⟩) 14 c)) ⟨w.heap.size + 1, 2, none⟩ (.slice px m.vals.length tx)) ⟨w.heap.size + 1, 3, none⟩ (.slice py m.arrs.length ty)) w.heap.size (.slice (some ⟨gx, 0, none⟩) 14 c) (.slice px m.vals.length tx) (.slice py m.arrs.length ty) ⟨pc, rs2, m⟩) := by
    obtain ⟨rs3, h1, h2⟩ := (OwnI.keep (OwnI.keep (OwnI.keep (OwnI.keep oI (C1 (w.heap.size + 1) (0) (.int .i64 pc)) (by omega)) (C1 (w.heap.size + 1) (1) (.slice (some ⟨gx, 0, none⟩) 14 c)) (by omega)) (C1 (w.heap.size + 1) (2) (.slice px m.vals.length tx)) (by omega)) (C1 (w.heap.size + 1) (3) (.slice py m.arrs.length ty)) (by omega)).h
    exact ⟨rs3, Lib.hid ⟨by rw [h1]; exact Ro h2 (by omega), (Abv.own h2).mono (by omega), Nat.le_of_eq h1, DrM.mono (DrM.of ((((oM.keep (C1 (w.heap.size + 1) 0 (.int .i64 pc)) (fun gq h h2 => by have := iM gq h; omega)).keep (C1 (w.heap.size + 1) 1 (.slice (some ⟨gx, 0, none⟩) 14 c)) (fun gq h h2 => by have := iM gq h; omega)).keep (C1 (w.heap.size + 1) 2 (.slice px m.vals.length tx)) (fun gq h h2 => by have := iM gq h; omega)).keep (C1 (w.heap.size + 1) 3 (.slice py m.arrs.length ty)) (fun gq h h2 => by have := iM gq h; omega)) (Nat.le_trans hml0 (by decide)) (Nat.le_trans hml1 (by decide)) HM3.out) (by omega)⟩⟩
   obtain ⟨rs2, HDS⟩ := hds
   clear oI oM
   obtain ⟨tc169, tf170⟩ := Bk.cf kb5 0 rfl
   obtain ⟨tc171, tf172⟩ := Bk.cf kb5 1 rfl
   obtain ⟨tc173, tf174⟩ := Bk.cf kb5 2 rfl
   obtain ⟨tc175, tf176⟩ := Bk.cf kb5 3 rfl
   obtain ⟨tc177, tf178⟩ := Bk.cf kb4 0 rfl
   obtain ⟨tc179, tf180⟩ := Bk.cf kb4 1 rfl
   obtain ⟨tc181, tf182⟩ := Bk.cf kb4 2 rfl
   obtain ⟨tc183, tf184⟩ := Bk.cf kb4 3 rfl
   have HCF := (((((Chg.refl (fun q => q = w.heap.size + 1) w6).setCell (w.heap.size + 1) 0 (.int .i64 pc) (fun _ => rfl)).setCell (w.heap.size + 1) 1 (.slice (some ⟨gx, 0, none⟩) 14 c) (fun _ => rfl)).setCell (w.heap.size + 1) 2 (.slice px m.vals.length tx) (fun _ => rfl)).setCell (w.heap.size + 1) 3 (.slice py m.arrs.length ty) (fun _ => rfl))
   have hBf := (Bk.at (Bk.at (Bk.at (Bk.at kb4 0 (.int .i64 pc)) 1 (.slice (some ⟨gx, 0, none⟩) 14 c)) 2 (.slice px m.vals.length tx)) 3 (.slice py m.arrs.length ty))
   have xr0 := Bk.cell hBf 0 (v := .int .i64 pc) rfl
   have xr1 := Bk.cell hBf 1 (v := .slice (some ⟨gx, 0, none⟩) 14 c) rfl
   have xr2 := Bk.cell hBf 2 (v := .slice px m.vals.length tx) rfl
   have xr3 := Bk.cell hBf 3 (v := .slice py m.arrs.length ty) rfl
   have HCH := Lib.hid HCF; clear HCF hBf
   have HCR := Lib.hid (And.intro hC hR); clear hC hR
   go_wp2
   exact bodyPost_ret (v := .agg #[.int .i64 pc, .slice (some ⟨gx, 0, none⟩) 14 c, .slice px m.vals.length tx, .slice py m.arrs.length ty]) (by simp [results, Try.results113, go_sem, xr0, xr1, xr2, xr3]) rfl (by exact (by first | exact ⟨_, _, _, ⟨pc, rs2, m⟩, pk + 1, rfl, HDS.out, HCR.out.2.keep HCH.out (fun h => by omega) (fun k hk h => by omega), by omega, chg_app HCR.out.1 HCH.out (fun q hq h => by omega)⟩ | exact ⟨_, _, _, ⟨pc, rs2, m⟩, rfl, HDS.out, pk + 1, HCR.out.2.keep HCH.out (fun h => by omega) (fun k hk h => by omega), by omega, chg_app HCR.out.1 HCH.out (fun q hq h => by omega)⟩ | exact ⟨_, _, _, ⟨pc, rs2, m⟩, ⟨pk + 1, rfl⟩, HDS.out, HCR.out.2.keep HCH.out (fun h => by omega) (fun k hk h => by omega), by omega, chg_app HCR.out.1 HCH.out (fun q hq h => by omega)⟩ | exact ⟨_, _, _, ⟨pc, rs2, m⟩, rfl, HDS.out, ⟨pk + 1, HCR.out.2.keep HCH.out (fun h => by omega) (fun k hk h => by omega), by omega, chg_app HCR.out.1 HCH.out (fun q hq h => by omega)⟩⟩))
end Go.Proofs.Ytkjedgnepnbkpaa
