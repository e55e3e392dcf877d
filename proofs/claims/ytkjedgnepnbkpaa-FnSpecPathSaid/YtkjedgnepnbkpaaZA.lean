/-
 Parts of the proof of the law FnSpecPath.
-/
import Derived.Test.YtkjedgnepnbkpaaPY
import Derived.Test.YtkjedgnepnbkpaaZM
set_option linter.all false
namespace Go.Proofs.Ytkjedgnepnbkpaa
open Go.RowKit

set_option maxHeartbeats 6400000 in
set_option maxRecDepth 100000 in
theorem l3Memory_any (pv pa : Option Addr) (nv cv na ca : Nat) (vb : Value) (B g p : Nat) (w : World) (hR : Rnd w B g p) (hp : p + 5000 ≤ 1000000000) (hnv : nv ≤ 1000) (hna : na ≤ 1000) :
  Calls Try.prog 89 #[.pointer (some ⟨g, 0, none⟩), .agg #[.slice pv nv cv, .slice pa na ca, vb]] w fun r w' => ∃ (vx vy : Value) (us : List Value) (m : Mm) (p' : Nat), r = .returned (.agg #[vx, vy]) ∧ OwnM w' w.heap.size vx vy us m ∧ m.vals.length = nv ∧ m.arrs.length = na ∧ (∀ r ∈ m.arrs, r.length = 4) ∧ Rnd w' B g p' ∧ p' ≤ p + 5000 ∧ Chg (fun q => q = g) w w' := by
 have hg := hR.lt
 have hC : Chg (fun k => k = g) w w := Chg.refl _ _
 have ird : ∀ q, (fun k => k = g) q → q = g := fun q h => h
 go_enter Try.func89, Try.ntmps89
 go_upto_region 2 with (fail)
 obtain ⟨w1, hnw, hb⟩ := nmw (World.alloc (World.alloc (World.alloc w (.cells #[.slice pv nv cv, .slice pa na ca, vb] 110)) (.cells #[.slice none 0 0, .slice none 0 0] 37)) (.cells #[.slice none 0 0, .slice none 0 0] 37))
 replace hC := ((((hC.trans (Chg.of_below (bal (Bs _) _))).trans (Chg.of_below (bal (Bs _) _))).trans (Chg.of_below (bal (Bs _) _)))).trans (Chg.of_below hb)
 replace hR := (((hR.below (bal (Bs _) _)).below (bal (Bs _) _)).below (bal (Bs _) _)).below hb
 have hsz1 := hb.size
 simp only [Sa] at hsz1
 have bk2 : Bk w1 (w.heap.size) [.slice pv nv cv, .slice pa na ca, vb] := Bk.below (Bk.al (Bk.al (Bk.nw (by simp) rfl) (.cells #[.slice none 0 0, .slice none 0 0] 37)) (.cells #[.slice none 0 0, .slice none 0 0] 37)) hb
 have bk3 : Bk w1 (w.heap.size + 1) [.slice none 0 0, .slice none 0 0] := Bk.below (Bk.al (Bk.nw (by simp) rfl) (.cells #[.slice none 0 0, .slice none 0 0] 37)) hb
 have bk4 : Bk w1 (w.heap.size + 1 + 1) [.slice none 0 0, .slice none 0 0] := Bk.below (Bk.nw (by simp) rfl) hb
 clear hb
 rw [← hnw]
 clear hnw
 have lt5 := Bk.lz bk2
 have lt6 := Bk.lz bk3
 have lt7 := Bk.lz bk4
 have HI0 : Hid (∃ (k pk : Nat) (xs : List Int) (a : Option Addr) (c : Nat), Value.int .i64 0 = .int .i64 k ∧ k ≤ nv ∧ Hid (xs.length = k) ∧ w1.ownsRow w1.heap.size 3 1 (.slice a k c) k (ints xs) ∧ Bk w1 (w.heap.size + 1 + 1) [.slice a k c, .slice none 0 0] ∧ Bk w1 (w.heap.size) [.slice pv nv cv, .slice pa na ca, vb] ∧ Bk w1 (w.heap.size + 1) [.slice none 0 0, .slice none 0 0] ∧ Rnd w1 B g pk ∧ pk ≤ p + k ∧ Chg (fun q => q = g) w w1 ∧ w1.heap.size ≤ w1.heap.size) := Lib.hid ⟨0, p, [], none, 0, rfl, by omega, Lib.hid rfl, World.ownsRow_nil _ _ _ _, bk4, bk2, bk3, hR, by omega, hC, Nat.le_refl _⟩
 have hszb : w.heap.size ≤ w.heap.size ∧ w.heap.size < w1.heap.size ∧ w.heap.size + 1 < w1.heap.size ∧ w.heap.size + 1 + 1 < w1.heap.size ∧ g < w.heap.size := by omega
 clear hR hC bk2 bk3 bk4 lt5 lt6 lt7
 go_wp2_with fail
 go_loopw [6] (fun i wr => ∃ (k pk : Nat) (xs : List Int) (a : Option Addr) (c : Nat), i = .int .i64 k ∧ k ≤ nv ∧ Hid (xs.length = k) ∧ wr.ownsRow w1.heap.size 3 1 (.slice a k c) k (ints xs) ∧ Bk wr (w.heap.size + 1 + 1) [.slice a k c, .slice none 0 0] ∧ Bk wr (w.heap.size) [.slice pv nv cv, .slice pa na ca, vb] ∧ Bk wr (w.heap.size + 1) [.slice none 0 0, .slice none 0 0] ∧ Rnd wr B g pk ∧ pk ≤ p + k ∧ Chg (fun q => q = g) w wr ∧ w1.heap.size ≤ wr.heap.size) (fun i _ => nv - (intOf i).toNat)
 case atStart => exact HI0.out
 case round =>
  obtain ⟨k, pk, xs, a, c, rfl, hk, HXL, oX, kb5, kb3, kb4, hR, hpk, hC, hzr⟩ := hrel
  clear HI0
  obtain ⟨wl, rfl⟩ : ∃ X, X = wr := ⟨_, rfl⟩
  have iX := oX.lt
  have lt8 := Bk.lz kb5
  have lt9 := Bk.lz kb3
  have lt10 := Bk.lz kb4
  by_cases hlt : k < nv
  ·have hq1 : (k : Int) < (nv : Int) := by omega
   obtain ⟨tc11, tf12⟩ := Bk.cf kb3 0 rfl
   go_upto_region 5 with (fail)
   clear tf12 tc11
   replace lt8 := Bk.lz kb5
   replace lt9 := Bk.lz kb3
   replace lt10 := Bk.lz kb4
   refine wp_region_noPanic ?_
   refine wp_region_held_drew (S := (fun W' => True)) (by kernel_rfl) trivial (fun hHeld => ?_)
   obtain ⟨w2, hwd⟩ : ∃ X, X = World.drew wl := ⟨_, rfl⟩
   rw [← hwd]
   have hb : Below wl.heap.size wl w2 := by rw [hwd]; exact Below.drew (Bs _)
   clear hwd
   replace hC := (hC).trans (Chg.of_below hb)
   replace hR := hR.below hb
   have hsz13 := hb.size
   replace oX := Ob oX hb
   replace kb5 := Bk.below kb5 hb
   replace kb3 := Bk.below kb3 hb
   replace kb4 := Bk.below kb4 hb
   clear hb
   replace lt8 := Bk.lz kb5
   replace lt9 := Bk.lz kb3
   replace lt10 := Bk.lz kb4
   refine (tq 0 18 rfl rfl ?_ ?_ (tq 2 20 rfl rfl ?_ ?_ ?_))
   iterate 2 (rotate_left; intro W' hSw; clear hSw; go_simp; try with_reducible rfl)
   try simp only [Act.put, sb, List.set]
   refine wpAnyH_ready (rs := [1, 3]) (by kernel_rfl) (by simp) ?_
   refine AllReadyH.cons rfl (fun K hK => ?_) ?_
   ·-- 1
    obtain ⟨tc14, tf15⟩ := Bk.cf kb5 0 rfl
    go_simp
    replace lt8 := Bk.lz kb5
    replace lt9 := Bk.lz kb3
    replace lt10 := Bk.lz kb4
    refine hK.out _ _ trivial (fun hHeld => ?_)
    clear hK K
    try simp only [Act.put, sb, List.set]
    refine Rdy 3 rfl (fun K hK => ?_)
    go_simp
    refine (l3Value_any B g (pk) _ hR (by omega)).mono ?_
    rintro e w3 ⟨z1, rfl, hz1, hRn, hc⟩
    replace hC := (hC).trans hc
    replace hR := hRn; clear hRn
    have hsz16 := hc.size
    clear tf15 tc14
    replace oX := Ow oX hc (fun gq h h2 => by have := iX gq h; have := ird gq h2; omega)
    replace kb5 := Bk.keep kb5 hc (fun h => by have := ird _ h; omega)
    replace kb3 := Bk.keep kb3 hc (fun h => by have := ird _ h; omega)
    replace kb4 := Bk.keep kb4 hc (fun h => by have := ird _ h; omega)
    clear hc
    replace lt8 := Bk.lz kb5
    replace lt9 := Bk.lz kb3
    replace lt10 := Bk.lz kb4
    refine hK.out _ _ trivial (fun hHeld => ?_)
    clear hK K
    try simp only [Act.put, sb, List.set]
    refine Rdy 4 rfl (fun K hK => ?_)
    go_simp
    obtain ⟨w4, hnw, hb⟩ := nmw (World.alloc w3 (.cells #[.int .i64 z1] 3))
    replace hC := ((hC.trans (Chg.of_below (bal (Bs _) _)))).trans (Chg.of_below hb)
    replace hR := (hR.below (bal (Bs _) _)).below hb
    have ol17 := Ob (World.ownsRow_lit (base := (w3).heap.size) (e := 3) (size := 1) (w3) #[.int .i64 z1] 1 (Nat.le_refl _) (by unfold maxLen; omega) (by simp)) hb
    try simp only [Sa, Ss] at ol17
    have hsz18 := hb.size
    simp only [Sa] at hsz18
    replace oX := Ob (Ob oX (bal (Bs _) _)) hb
    replace kb5 := Bk.below (Bk.al kb5 _) hb
    replace kb3 := Bk.below (Bk.al kb3 _) hb
    replace kb4 := Bk.below (Bk.al kb4 _) hb
    have bx19 : w4.cell? ⟨w3.heap.size, 0, none⟩ = some (.int .i64 z1) := Kc hb (Wc (by simp) (by rfl))
    have bf20 : w4.frozen? ⟨w3.heap.size, 0, none⟩ = false := Kf hb (by simp <;> omega) (Fn (by simp))
    clear hb
    have iv21 := ol17.lt
    try simp only [Sa] at iv21
    rw [← hnw]
    clear hnw
    replace lt8 := Bk.lz kb5
    replace lt9 := Bk.lz kb3
    replace lt10 := Bk.lz kb4
    have lt22 := Lc bx19
    refine hK.out _ _ trivial (fun hHeld => ?_)
    clear hK K
    try simp only [Act.put, sb, List.set]
    refine Rdy 5 rfl (fun K hK => ?_)
    refine step_aps tInts rfl _ _ rfl (w1.heap.size) _ k (ints xs) rfl oX _ 1 (ints [z1]) rfl ((Ro ol17 (by simp))) (one_ints [z1]) (by omega) (by first | omega | (simp only [Sa, Ss]; omega)) ?_
    intro vA w5 oA23 hc hNw _
    obtain ⟨pA23, tA23, rfl⟩ := Oh oA23
    replace hC := chg_app hC hc (fun q hq h => by have := iX q h; omega)
    replace hR := hR.keep hc (fun h => by have := iX _ h; omega) (fun k hk h => by have := iX _ h; omega)
    have hsz24 := hc.size
    replace bf20 := Gf hc (Lc bx19) bf20 (fun h => by have := iX _ h; omega)
    replace bx19 := Gc hc bx19 (fun h => by have := iX _ h; omega)
    replace ol17 := Ow ol17 hc (fun gq h h2 => by have := iv21 gq h; have := iX gq h2; omega)
    replace kb5 := Bk.keep kb5 hc (fun h => by have := iX _ h; omega)
    replace kb3 := Bk.keep kb3 hc (fun h => by have := iX _ h; omega)
    replace kb4 := Bk.keep kb4 hc (fun h => by have := iX _ h; omega)
    clear hc
    have iv25 := oA23.lt
    clear hNw oX
    replace lt8 := Bk.lz kb5
    replace lt9 := Bk.lz kb3
    replace lt10 := Bk.lz kb4
    replace lt22 := Lc bx19
    refine hK.out _ _ trivial (fun hHeld => ?_)
    clear hK K
    try simp only [Act.put, sb, List.set]
    refine (tq 6 24 rfl rfl ?_ ?_ ?_)
    (rotate_left; intro W' hSw; clear hSw; go_simp; try with_reducible rfl)
    try simp only [Act.put, sb, List.set]
    refine Rdy 7 rfl (fun K hK => ?_)
    obtain ⟨tc26, tf27⟩ := Bk.cf kb5 0 rfl
    go_simp
    obtain ⟨w6, hnw, hb⟩ := nmw (World.setCell w5 ⟨w.heap.size + 1 + 1, 0, none⟩ (.slice pA23 (k + 1) tA23))
    replace hC := ((hC.setNew _ _ _ (Or.inr (by omega)))).trans (Chg.of_below hb)
    replace hR := (hR.keep (C1 _ _ _) (by omega) (fun _ _ => by omega)).below hb
    have hsz28 := hb.size
    simp only [Ss] at hsz28
    clear tf27 tc26
    replace bf20 := Kf hb (Lc (Nc bx19 (by omega) _)) (Fs bf20 _)
    replace bx19 := Kc hb (Nc bx19 (by omega) _)
    replace ol17 := Ob (Oe ol17 _ _ (fun h => by have := iv21 _ h; omega) _) hb
    replace oA23 := Ob (Oe oA23 _ _ (fun h => by have := iv25 _ h; omega) _) hb
    replace kb5 : Bk w6 (w.heap.size + 1 + 1) [.slice pA23 (k + 1) tA23, .slice none 0 0] := Bk.below (Bk.at kb5 0 (.slice pA23 (k + 1) tA23)) hb
    replace kb3 := Bk.below (Bk.ne kb3 (by omega) _) hb
    replace kb4 := Bk.below (Bk.ne kb4 (by omega) _) hb
    clear hb
    rw [← hnw]
    clear hnw
    replace lt8 := Bk.lz kb5
    replace lt9 := Bk.lz kb3
    replace lt10 := Bk.lz kb4
    replace lt22 := Lc bx19
    refine hK.out _ _ trivial (fun hHeld => ?_)
    clear hK K
    try simp only [Act.put, sb, List.set]
    refine wpAnyH_done (by kernel_rfl) ?_ _
    refine NoPanic.normal ?_
    clear hHeld
    have HO := Lib.hid (show w6.ownsRow w1.heap.size 3 1 _ (k + 1) (ints (xs ++ [z1])) from by rw [ints_append]; exact oA23)
    have HXL2 : Hid ((xs ++ ([z1] : List Int)).length = k + 1) := Lib.hid (by rw [List.length_append, HXL.out]; rfl)
    have HH := Lib.hid (And.intro hR hC); clear hR hC oA23
    obtain ⟨tc29, tf30⟩ := Bk.cf kb5 0 rfl
    go_wp2
    go_roundw
    case rel => exact ⟨k + 1, pk + 1, xs ++ [z1], _, _, by go_num, by omega, HXL2, HO.out, kb5, kb3, kb4, HH.out.1, by omega, HH.out.2, by omega⟩
    case measure => simp [intOf]; omega
   refine AllReadyH.cons rfl (fun K hK => ?_) AllReadyH.nil
   obtain ⟨tc31, tf32⟩ := Bk.cf kb5 0 rfl
   go_simp
   refine (l3Value_any B g (pk) _ hR (by omega)).mono ?_
   rintro e w3 ⟨z1, rfl, hz1, hRn, hc⟩
   replace hC := (hC).trans hc
   replace hR := hRn; clear hRn
   have hsz33 := hc.size
   clear tf32 tc31
   replace oX := Ow oX hc (fun gq h h2 => by have := iX gq h; have := ird gq h2; omega)
   replace kb5 := Bk.keep kb5 hc (fun h => by have := ird _ h; omega)
   replace kb3 := Bk.keep kb3 hc (fun h => by have := ird _ h; omega)
   replace kb4 := Bk.keep kb4 hc (fun h => by have := ird _ h; omega)
   clear hc
   replace lt8 := Bk.lz kb5
   replace lt9 := Bk.lz kb3
   replace lt10 := Bk.lz kb4
   refine hK.out _ _ trivial (fun hHeld => ?_)
   clear hK K
   try simp only [Act.put, sb, List.set]
   refine wpAnyH_ready (rs := [1, 4]) (by kernel_rfl) (by simp) ?_
   refine AllReadyH.cons rfl (fun K hK => ?_) ?_
   ·-- 1
    obtain ⟨tc34, tf35⟩ := Bk.cf kb5 0 rfl
    go_simp
    replace lt8 := Bk.lz kb5
    replace lt9 := Bk.lz kb3
    replace lt10 := Bk.lz kb4
    refine hK.out _ _ trivial (fun hHeld => ?_)
    clear hK K
    try simp only [Act.put, sb, List.set]
    refine Rdy 4 rfl (fun K hK => ?_)
    go_simp
    obtain ⟨w4, hnw, hb⟩ := nmw (World.alloc w3 (.cells #[.int .i64 z1] 3))
    replace hC := ((hC.trans (Chg.of_below (bal (Bs _) _)))).trans (Chg.of_below hb)
    replace hR := (hR.below (bal (Bs _) _)).below hb
    have ol36 := Ob (World.ownsRow_lit (base := (w3).heap.size) (e := 3) (size := 1) (w3) #[.int .i64 z1] 1 (Nat.le_refl _) (by unfold maxLen; omega) (by simp)) hb
    try simp only [Sa, Ss] at ol36
    have hsz37 := hb.size
    simp only [Sa] at hsz37
    clear tf35 tc34
    replace oX := Ob (Ob oX (bal (Bs _) _)) hb
    replace kb5 := Bk.below (Bk.al kb5 _) hb
    replace kb3 := Bk.below (Bk.al kb3 _) hb
    replace kb4 := Bk.below (Bk.al kb4 _) hb
    have bx38 : w4.cell? ⟨w3.heap.size, 0, none⟩ = some (.int .i64 z1) := Kc hb (Wc (by simp) (by rfl))
    have bf39 : w4.frozen? ⟨w3.heap.size, 0, none⟩ = false := Kf hb (by simp <;> omega) (Fn (by simp))
    clear hb
    have iv40 := ol36.lt
    try simp only [Sa] at iv40
    rw [← hnw]
    clear hnw
    replace lt8 := Bk.lz kb5
    replace lt9 := Bk.lz kb3
    replace lt10 := Bk.lz kb4
    have lt41 := Lc bx38
    refine hK.out _ _ trivial (fun hHeld => ?_)
    clear hK K
    try simp only [Act.put, sb, List.set]
    refine Rdy 5 rfl (fun K hK => ?_)
    refine step_aps tInts rfl _ _ rfl (w1.heap.size) _ k (ints xs) rfl oX _ 1 (ints [z1]) rfl ((Ro ol36 (by simp))) (one_ints [z1]) (by omega) (by first | omega | (simp only [Sa, Ss]; omega)) ?_
    intro vA w5 oA42 hc hNw _
    obtain ⟨pA42, tA42, rfl⟩ := Oh oA42
    replace hC := chg_app hC hc (fun q hq h => by have := iX q h; omega)
    replace hR := hR.keep hc (fun h => by have := iX _ h; omega) (fun k hk h => by have := iX _ h; omega)
    have hsz43 := hc.size
    replace bf39 := Gf hc (Lc bx38) bf39 (fun h => by have := iX _ h; omega)
    replace bx38 := Gc hc bx38 (fun h => by have := iX _ h; omega)
    replace ol36 := Ow ol36 hc (fun gq h h2 => by have := iv40 gq h; have := iX gq h2; omega)
    replace kb5 := Bk.keep kb5 hc (fun h => by have := iX _ h; omega)
    replace kb3 := Bk.keep kb3 hc (fun h => by have := iX _ h; omega)
    replace kb4 := Bk.keep kb4 hc (fun h => by have := iX _ h; omega)
    clear hc
    have iv44 := oA42.lt
    clear hNw oX
    replace lt8 := Bk.lz kb5
    replace lt9 := Bk.lz kb3
    replace lt10 := Bk.lz kb4
    replace lt41 := Lc bx38
    refine hK.out _ _ trivial (fun hHeld => ?_)
    clear hK K
    try simp only [Act.put, sb, List.set]
    refine (tq 6 24 rfl rfl ?_ ?_ ?_)
    (rotate_left; intro W' hSw; clear hSw; go_simp; try with_reducible rfl)
    try simp only [Act.put, sb, List.set]
    refine Rdy 7 rfl (fun K hK => ?_)
    obtain ⟨tc45, tf46⟩ := Bk.cf kb5 0 rfl
    go_simp
    obtain ⟨w6, hnw, hb⟩ := nmw (World.setCell w5 ⟨w.heap.size + 1 + 1, 0, none⟩ (.slice pA42 (k + 1) tA42))
    replace hC := ((hC.setNew _ _ _ (Or.inr (by omega)))).trans (Chg.of_below hb)
    replace hR := (hR.keep (C1 _ _ _) (by omega) (fun _ _ => by omega)).below hb
    have hsz47 := hb.size
    simp only [Ss] at hsz47
    clear tf46 tc45
    replace bf39 := Kf hb (Lc (Nc bx38 (by omega) _)) (Fs bf39 _)
    replace bx38 := Kc hb (Nc bx38 (by omega) _)
    replace ol36 := Ob (Oe ol36 _ _ (fun h => by have := iv40 _ h; omega) _) hb
    replace oA42 := Ob (Oe oA42 _ _ (fun h => by have := iv44 _ h; omega) _) hb
    replace kb5 : Bk w6 (w.heap.size + 1 + 1) [.slice pA42 (k + 1) tA42, .slice none 0 0] := Bk.below (Bk.at kb5 0 (.slice pA42 (k + 1) tA42)) hb
    replace kb3 := Bk.below (Bk.ne kb3 (by omega) _) hb
    replace kb4 := Bk.below (Bk.ne kb4 (by omega) _) hb
    clear hb
    rw [← hnw]
    clear hnw
    replace lt8 := Bk.lz kb5
    replace lt9 := Bk.lz kb3
    replace lt10 := Bk.lz kb4
    replace lt41 := Lc bx38
    refine hK.out _ _ trivial (fun hHeld => ?_)
    clear hK K
    try simp only [Act.put, sb, List.set]
    refine wpAnyH_done (by kernel_rfl) ?_ _
    refine NoPanic.normal ?_
    clear hHeld
    have HO := Lib.hid (show w6.ownsRow w1.heap.size 3 1 _ (k + 1) (ints (xs ++ [z1])) from by rw [ints_append]; exact oA42)
    have HXL2 : Hid ((xs ++ ([z1] : List Int)).length = k + 1) := Lib.hid (by rw [List.length_append, HXL.out]; rfl)
    have HH := Lib.hid (And.intro hR hC); clear hR hC oA42
    obtain ⟨tc48, tf49⟩ := Bk.cf kb5 0 rfl
    go_wp2
    go_roundw
    case rel => exact ⟨k + 1, pk + 1, xs ++ [z1], _, _, by go_num, by omega, HXL2, HO.out, kb5, kb3, kb4, HH.out.1, by omega, HH.out.2, by omega⟩
    case measure => simp [intOf]; omega
   refine AllReadyH.cons rfl (fun K hK => ?_) AllReadyH.nil
   go_simp
   obtain ⟨w4, hnw, hb⟩ := nmw (World.alloc w3 (.cells #[.int .i64 z1] 3))
   replace hC := ((hC.trans (Chg.of_below (bal (Bs _) _)))).trans (Chg.of_below hb)
   replace hR := (hR.below (bal (Bs _) _)).below hb
   have ol50 := Ob (World.ownsRow_lit (base := (w3).heap.size) (e := 3) (size := 1) (w3) #[.int .i64 z1] 1 (Nat.le_refl _) (by unfold maxLen; omega) (by simp)) hb
   try simp only [Sa, Ss] at ol50
   have hsz51 := hb.size
   simp only [Sa] at hsz51
   replace oX := Ob (Ob oX (bal (Bs _) _)) hb
   replace kb5 := Bk.below (Bk.al kb5 _) hb
   replace kb3 := Bk.below (Bk.al kb3 _) hb
   replace kb4 := Bk.below (Bk.al kb4 _) hb
   have bx52 : w4.cell? ⟨w3.heap.size, 0, none⟩ = some (.int .i64 z1) := Kc hb (Wc (by simp) (by rfl))
   have bf53 : w4.frozen? ⟨w3.heap.size, 0, none⟩ = false := Kf hb (by simp <;> omega) (Fn (by simp))
   clear hb
   have iv54 := ol50.lt
   try simp only [Sa] at iv54
   rw [← hnw]
   clear hnw
   replace lt8 := Bk.lz kb5
   replace lt9 := Bk.lz kb3
   replace lt10 := Bk.lz kb4
   have lt55 := Lc bx52
   refine hK.out _ _ trivial (fun hHeld => ?_)
   clear hK K
   try simp only [Act.put, sb, List.set]
   refine Rdy 1 rfl (fun K hK => ?_)
   obtain ⟨tc56, tf57⟩ := Bk.cf kb5 0 rfl
   go_simp
   replace lt8 := Bk.lz kb5
   replace lt9 := Bk.lz kb3
   replace lt10 := Bk.lz kb4
   replace lt55 := Lc bx52
   refine hK.out _ _ trivial (fun hHeld => ?_)
   clear hK K
   try simp only [Act.put, sb, List.set]
   refine Rdy 5 rfl (fun K hK => ?_)
   refine step_aps tInts rfl _ _ rfl (w1.heap.size) _ k (ints xs) rfl oX _ 1 (ints [z1]) rfl ((Ro ol50 (by simp))) (one_ints [z1]) (by omega) (by first | omega | (simp only [Sa, Ss]; omega)) ?_
   intro vA w5 oA58 hc hNw _
   obtain ⟨pA58, tA58, rfl⟩ := Oh oA58
   replace hC := chg_app hC hc (fun q hq h => by have := iX q h; omega)
   replace hR := hR.keep hc (fun h => by have := iX _ h; omega) (fun k hk h => by have := iX _ h; omega)
   have hsz59 := hc.size
   clear tf57 tc56
   replace bf53 := Gf hc (Lc bx52) bf53 (fun h => by have := iX _ h; omega)
   replace bx52 := Gc hc bx52 (fun h => by have := iX _ h; omega)
   replace ol50 := Ow ol50 hc (fun gq h h2 => by have := iv54 gq h; have := iX gq h2; omega)
   replace kb5 := Bk.keep kb5 hc (fun h => by have := iX _ h; omega)
   replace kb3 := Bk.keep kb3 hc (fun h => by have := iX _ h; omega)
   replace kb4 := Bk.keep kb4 hc (fun h => by have := iX _ h; omega)
   clear hc
   have iv60 := oA58.lt
   clear hNw oX
   replace lt8 := Bk.lz kb5
   replace lt9 := Bk.lz kb3
   replace lt10 := Bk.lz kb4
   replace lt55 := Lc bx52
   refine hK.out _ _ trivial (fun hHeld => ?_)
   clear hK K
   try simp only [Act.put, sb, List.set]
   refine (tq 6 24 rfl rfl ?_ ?_ ?_)
   (rotate_left; intro W' hSw; clear hSw; go_simp; try with_reducible rfl)
   try simp only [Act.put, sb, List.set]
   refine Rdy 7 rfl (fun K hK => ?_)
   obtain ⟨tc61, tf62⟩ := Bk.cf kb5 0 rfl
   go_simp
   obtain ⟨w6, hnw, hb⟩ := nmw (World.setCell w5 ⟨w.heap.size + 1 + 1, 0, none⟩ (.slice pA58 (k + 1) tA58))
   replace hC := ((hC.setNew _ _ _ (Or.inr (by omega)))).trans (Chg.of_below hb)
   replace hR := (hR.keep (C1 _ _ _) (by omega) (fun _ _ => by omega)).below hb
   have hsz63 := hb.size
   simp only [Ss] at hsz63
   clear tf62 tc61
   replace bf53 := Kf hb (Lc (Nc bx52 (by omega) _)) (Fs bf53 _)
   replace bx52 := Kc hb (Nc bx52 (by omega) _)
   replace ol50 := Ob (Oe ol50 _ _ (fun h => by have := iv54 _ h; omega) _) hb
   replace oA58 := Ob (Oe oA58 _ _ (fun h => by have := iv60 _ h; omega) _) hb
   replace kb5 : Bk w6 (w.heap.size + 1 + 1) [.slice pA58 (k + 1) tA58, .slice none 0 0] := Bk.below (Bk.at kb5 0 (.slice pA58 (k + 1) tA58)) hb
   replace kb3 := Bk.below (Bk.ne kb3 (by omega) _) hb
   replace kb4 := Bk.below (Bk.ne kb4 (by omega) _) hb
   clear hb
   rw [← hnw]
   clear hnw
   replace lt8 := Bk.lz kb5
   replace lt9 := Bk.lz kb3
   replace lt10 := Bk.lz kb4
   replace lt55 := Lc bx52
   refine hK.out _ _ trivial (fun hHeld => ?_)
   clear hK K
   try simp only [Act.put, sb, List.set]
   refine wpAnyH_done (by kernel_rfl) ?_ _
   refine NoPanic.normal ?_
   clear hHeld
   have HO := Lib.hid (show w6.ownsRow w1.heap.size 3 1 _ (k + 1) (ints (xs ++ [z1])) from by rw [ints_append]; exact oA58)
   have HXL2 : Hid ((xs ++ ([z1] : List Int)).length = k + 1) := Lib.hid (by rw [List.length_append, HXL.out]; rfl)
   have HH := Lib.hid (And.intro hR hC); clear hR hC oA58
   obtain ⟨tc64, tf65⟩ := Bk.cf kb5 0 rfl
   go_wp2
   go_roundw
   case rel => exact ⟨k + 1, pk + 1, xs ++ [z1], _, _, by go_num, by omega, HXL2, HO.out, kb5, kb3, kb4, HH.out.1, by omega, HH.out.2, by omega⟩
   case measure => simp [intOf]; omega
  ·have hq1 : decide ((k : Int) < (nv : Int)) = false := decide_eq_false (by omega)
   have hq2 : ¬ (k : Int) < (nv : Int) := by omega
   obtain ⟨tc66, tf67⟩ := Bk.cf kb3 0 rfl
   go_upto_region 6 with (fail)
   replace lt8 := Bk.lz kb5
   replace lt9 := Bk.lz kb3
   replace lt10 := Bk.lz kb4
   have hkn : k = nv := by omega
   clear hq1 hq2 hlt
   subst hkn
   have HI2 : Hid (∃ (j pj : Nat) (us : List Value) (L : List (List Int)) (a2 : Option Addr) (c2 : Nat), Value.int .i64 0 = .int .i64 j ∧ j ≤ na ∧ Hid (L.length = j) ∧ Hid (∀ r ∈ L, r.length = 4) ∧ Own2I wl wl.heap.size (.slice a2 j c2) us L ∧ Bk wl (w.heap.size + 1 + 1) [.slice a k c, .slice a2 j c2] ∧ Bk wl (w.heap.size) [.slice pv k cv, .slice pa na ca, vb] ∧ Bk wl (w.heap.size + 1) [.slice none 0 0, .slice none 0 0] ∧ wl.ownsRow w1.heap.size 3 1 (.slice a k c) k (ints xs) ∧ Rnd wl B g pj ∧ pj ≤ pk + 4 * j ∧ Chg (fun q => q = g) w wl ∧ wl.heap.size ≤ wl.heap.size) := Lib.hid ⟨0, pk, [], [], none, 0, rfl, by omega, Lib.hid rfl, Lib.hid (fun r hr => by cases hr), ⟨rfl, World.ownsRow_nil _ _ _ _, fun k u r hu => by simp at hu, fun j k u u' hu => by simp at hu⟩, kb5, kb3, kb4, oX, hR, by omega, hC, Nat.le_refl _⟩
   have iX2 : ∀ q, (Value.slice a k c).ownBlock = some q → w1.heap.size ≤ q ∧ q < wl.heap.size := fun q h => by have := iX q h; omega
   have hszb2 : w1.heap.size ≤ wl.heap.size := by omega
   clear hR hC iX kb5 kb3 kb4 oX tc66 tf67 lt8 lt9 lt10
   go_wp2_with fail
   go_loopw [7] (fun i wr => ∃ (j pj : Nat) (us : List Value) (L : List (List Int)) (a2 : Option Addr) (c2 : Nat), i = .int .i64 j ∧ j ≤ na ∧ Hid (L.length = j) ∧ Hid (∀ r ∈ L, r.length = 4) ∧ Own2I wr wl.heap.size (.slice a2 j c2) us L ∧ Bk wr (w.heap.size + 1 + 1) [.slice a k c, .slice a2 j c2] ∧ Bk wr (w.heap.size) [.slice pv k cv, .slice pa na ca, vb] ∧ Bk wr (w.heap.size + 1) [.slice none 0 0, .slice none 0 0] ∧ wr.ownsRow w1.heap.size 3 1 (.slice a k c) k (ints xs) ∧ Rnd wr B g pj ∧ pj ≤ pk + 4 * j ∧ Chg (fun q => q = g) w wr ∧ wl.heap.size ≤ wr.heap.size) (fun i _ => na - (intOf i).toNat)
   case atStart => exact HI2.out
   case round =>
    obtain ⟨j, pj, us, L, a2, c2, rfl, hj, HLL, HL4, hY, kb5, kb3, kb4, oX, hR, hpj, hC, hzr2⟩ := hrel
    clear HI2
    obtain ⟨wm, rfl⟩ : ∃ X, X = wr := ⟨_, rfl⟩
    have iY := hY.lt
    have lt68 := Bk.lz kb5
    have lt69 := Bk.lz kb3
    have lt70 := Bk.lz kb4
    by_cases hlt2 : j < na
    ·have hq1 : (j : Int) < (na : Int) := by omega
     obtain ⟨tc72, tf73⟩ := Bk.cf kb3 1 rfl
     go_upto_region 10 with (fail)
     obtain ⟨w2, hnw, hb⟩ := nmw (World.alloc wm (.cells #[] 3))
     replace hC := ((hC.trans (Chg.of_below (bal (Bs _) _)))).trans (Chg.of_below hb)
     replace hR := (hR.below (bal (Bs _) _)).below hb
     have ol71 := Ob (World.ownsRow_lit (base := (wm).heap.size) (e := 3) (size := 1) (wm) #[] 0 (Nat.le_refl _) (by unfold maxLen; omega) (by simp)) hb
     try simp only [Sa, Ss] at ol71
     have hsz74 := hb.size
     simp only [Sa] at hsz74
     clear tf73 tc72
     replace oX := Ob (Ob oX (bal (Bs _) _)) hb
     replace hY := (hY.below (bal (Bs _) _)).below hb
     replace kb5 := Bk.below (Bk.al kb5 _) hb
     replace kb3 := Bk.below (Bk.al kb3 _) hb
     replace kb4 := Bk.below (Bk.al kb4 _) hb
     clear hb
     have iv75 := ol71.lt
     try simp only [Sa] at iv75
     rw [← hnw]
     clear hnw
     replace lt68 := Bk.lz kb5
     replace lt69 := Bk.lz kb3
     replace lt70 := Bk.lz kb4
     have iY3 : ∀ q, OwnB2 (.slice a2 j c2) us q → wl.heap.size ≤ q ∧ q < wm.heap.size := fun q h => by have := iY q h; omega
     have hszb3 : wl.heap.size ≤ wm.heap.size ∧ wm.heap.size ≤ w2.heap.size := by omega
     have HI3 : Hid (∃ (e pe : Nat) (ys : List Int) (a3 : Option Addr) (c3 : Nat), Value.slice (some ⟨wm.heap.size, 0, none⟩) 0 0 = .slice a3 e c3 ∧ Value.int .i64 0 = .int .i64 e ∧ e ≤ 4 ∧ Hid (ys.length = e) ∧ w2.ownsRow wm.heap.size 3 1 (.slice a3 e c3) e (ints ys) ∧ Own2I w2 wl.heap.size (.slice a2 j c2) us L ∧ Bk w2 (w.heap.size + 1 + 1) [.slice a k c, .slice a2 j c2] ∧ Bk w2 (w.heap.size) [.slice pv k cv, .slice pa na ca, vb] ∧ Bk w2 (w.heap.size + 1) [.slice none 0 0, .slice none 0 0] ∧ w2.ownsRow w1.heap.size 3 1 (.slice a k c) k (ints xs) ∧ Rnd w2 B g pe ∧ pe ≤ pj + e ∧ Chg (fun q => q = g) w w2 ∧ w2.heap.size ≤ w2.heap.size) := Lib.hid ⟨0, pj, [], _, _, rfl, rfl, by omega, Lib.hid rfl, ol71, hY, kb5, kb3, kb4, oX, hR, by omega, hC, Nat.le_refl _⟩
     clear hR hC iY kb5 kb3 kb4 oX hY ol71 lt68 lt69 lt70
     go_wp2_with fail
     go_loopw [8, 9] (fun v i wr => ∃ (e pe : Nat) (ys : List Int) (a3 : Option Addr) (c3 : Nat), v = .slice a3 e c3 ∧ i = .int .i64 e ∧ e ≤ 4 ∧ Hid (ys.length = e) ∧ wr.ownsRow wm.heap.size 3 1 (.slice a3 e c3) e (ints ys) ∧ Own2I wr wl.heap.size (.slice a2 j c2) us L ∧ Bk wr (w.heap.size + 1 + 1) [.slice a k c, .slice a2 j c2] ∧ Bk wr (w.heap.size) [.slice pv k cv, .slice pa na ca, vb] ∧ Bk wr (w.heap.size + 1) [.slice none 0 0, .slice none 0 0] ∧ wr.ownsRow w1.heap.size 3 1 (.slice a k c) k (ints xs) ∧ Rnd wr B g pe ∧ pe ≤ pj + e ∧ Chg (fun q => q = g) w wr ∧ w2.heap.size ≤ wr.heap.size) (fun _ i _ => 4 - (intOf i).toNat)
     case atStart => exact HI3.out
     case round =>
      obtain ⟨e, pe, ys, a3, c3, rfl, rfl, he, HYL, oR, hY, kb5, kb3, kb4, oX, hR, hpe, hC, hzr3⟩ := hrel
      clear HI3
      obtain ⟨wn, rfl⟩ : ∃ X, X = wr := ⟨_, rfl⟩
      have iR := oR.lt
      have lt76 := Bk.lz kb5
      have lt77 := Bk.lz kb3
      have lt78 := Bk.lz kb4
      by_cases hlt3 : e < 4
      ·have hq3 : (e : Int) < 4 := by omega
       go_wp2_with fail
       refine (l3Value_any B g (pe) _ hR (by omega)).mono ?_
       rintro e w3 ⟨z1, rfl, hz1, hRn, hc⟩
       replace hC := (hC).trans hc
       replace hR := hRn; clear hRn
       have hsz79 := hc.size
       replace oX := Ow oX hc (fun gq h h2 => by have := iX2 gq h; have := ird gq h2; omega)
       replace hY := hY.keep hc (fun gq h h2 => by have := iY3 gq h; have := ird gq h2; omega)
       replace oR := Ow oR hc (fun gq h h2 => by have := iR gq h; have := ird gq h2; omega)
       replace kb5 := Bk.keep kb5 hc (fun h => by have := ird _ h; omega)
       replace kb3 := Bk.keep kb3 hc (fun h => by have := ird _ h; omega)
       replace kb4 := Bk.keep kb4 hc (fun h => by have := ird _ h; omega)
       clear hc
       replace lt76 := Bk.lz kb5
       replace lt77 := Bk.lz kb3
       replace lt78 := Bk.lz kb4
       go_wp2_with (at_builtin; refine wpList_aps tInts rfl _ _ rfl (wm.heap.size) _ e (ints ys) rfl (Ob oR (bal (Bs _) (.cells #[.int .i64 z1] 3))) _ 1 (ints [z1]) rfl ((Ro (World.ownsRow_lit (base := (w3).heap.size) (e := 3) (size := 1) (w3) #[.int .i64 z1] 1 (Nat.le_refl _) (by unfold maxLen; omega) (by simp)) (by simp))) (one_ints [z1]) (by omega) (by first | omega | (simp only [Sa, Ss]; omega)) ?_)
       intro vA w4 oA81 hc hNw _
       obtain ⟨pA81, tA81, rfl⟩ := Oh oA81
       replace hC := chg_app (hC.trans (Chg.of_below (bal (Bs _) _))) hc (fun q hq h => by have := iR q h; omega)
       replace hR := (hR.below (bal (Bs _) _)).keep hc (fun h => by have := iR _ h; omega) (fun k hk h => by have := iR _ h; omega)
       have hsz82 := hc.size
       simp only [Sa] at hsz82
       replace oX := Ow (Ob oX (bal (Bs _) _)) hc (fun gq h h2 => by have := iX2 gq h; have := iR gq h2; omega)
       replace hY := (hY.below (bal (Bs _) _)).keep hc (fun gq h h2 => by have := iY3 gq h; have := iR gq h2; omega)
       replace kb5 := Bk.keep (Bk.al kb5 _) hc (fun h => by have := iR _ h; omega)
       replace kb3 := Bk.keep (Bk.al kb3 _) hc (fun h => by have := iR _ h; omega)
       replace kb4 := Bk.keep (Bk.al kb4 _) hc (fun h => by have := iR _ h; omega)
       have bx83 : w4.cell? ⟨w3.heap.size, 0, none⟩ = some (.int .i64 z1) := Gc hc (Wc (by simp) (by rfl)) (fun h => by have := iR _ h; omega)
       have bf84 : w4.frozen? ⟨w3.heap.size, 0, none⟩ = false := Gf hc (by simp <;> omega) (Fn (by simp)) (fun h => by have := iR _ h; omega)
       clear hc
       have iv85 := oA81.lt
       try simp only [Sa] at iv85
       clear hNw oR
       replace lt76 := Bk.lz kb5
       replace lt77 := Bk.lz kb3
       replace lt78 := Bk.lz kb4
       have lt86 := Lc bx83
       have HO := Lib.hid (show w4.ownsRow wm.heap.size 3 1 _ (e + 1) (ints (ys ++ [z1])) from by rw [ints_append]; exact oA81)
       have HYL2 : Hid ((ys ++ ([z1] : List Int)).length = e + 1) := Lib.hid (by rw [List.length_append, HYL.out]; rfl)
       have HH := Lib.hid (And.intro hR (And.intro hC hY)); clear hR hC hY oA81
       go_wp2
       go_roundw
       case rel => exact ⟨e + 1, pe + 1, ys ++ [z1], _, _, rfl, by go_num, by omega, HYL2, HO.out, HH.out.2.2, kb5, kb3, kb4, oX, HH.out.1, by omega, HH.out.2.1, by omega⟩
       case measure => simp [intOf]; omega
      ·have hq3 : decide ((e : Int) < 4) = false := decide_eq_false (by omega)
       have hq4 : ¬ (e : Int) < 4 := by omega
       go_upto_region 14 with (fail)
       replace lt76 := Bk.lz kb5
       replace lt77 := Bk.lz kb3
       replace lt78 := Bk.lz kb4
       have he4 : e = 4 := by omega
       clear hq3 hq4 hlt3 hq1
       subst he4
       have oOut := (hY.below (bal (Bs _) (.cells #[.slice a3 4 c3] 23))).outAt; have iOut := fun q (h : (Value.slice a2 j c2).ownBlock = some q) => iY3 q (Or.inl h)
       have hYp := (hY.below (bal (Bs _) (.cells #[.slice a3 4 c3] 23)))
       have hRp := (Ob oR (bal (Bs _) (.cells #[.slice a3 4 c3] 23)))
       obtain ⟨tc88, tf89⟩ := Bk.cf kb5 1 rfl
       go_wp2_with (at_builtin; refine wpList_aps tIntSS rfl _ _ rfl (wl.heap.size) _ j (us) rfl oOut _ 1 [.slice a3 4 c3] rfl (Ro (World.ownsRow_lit (base := (wn).heap.size) (e := 23) (size := 1) (wn) #[.slice a3 4 c3] 1 (Nat.le_refl _) (by unfold maxLen; omega) (by simp)) (by simp)) (fun u hu => by rw [List.mem_singleton.1 hu]; rfl) (by omega) (by first | omega | (simp only [Sa, Ss]; omega)) ?_)
       intro vA w3 oA hc hNw _
       obtain ⟨pA, tA, rfl⟩ := Oh oA
       have hYn := Own2.push (r := ys) hYp (own_cast oA (by rw [HLL.out])) hc (own_cast (Om hRp (by omega)) HYL.out.symm) (fun q h h2 => by have := iR q h; have := iY3 q h2; omega) (by decide)
       have HL42 : Hid (∀ r ∈ L ++ [ys], r.length = 4) := Lib.hid (fun r hr => by rcases List.mem_append.1 hr with h | h; (exact HL4.out r h); (rw [List.mem_singleton.1 h]; exact HYL.out))
       have HLL2 : Hid ((L ++ [ys]).length = j + 1) := Lib.hid (by rw [List.length_append, HLL.out]; rfl)
       have iYn := hYn.lt
       replace hC := chg_app (hC.trans (Chg.of_below (bal (Bs _) _))) hc (fun q hq h => by have := iOut q h; omega)
       replace hR := (hR.below (bal (Bs _) _)).keep hc (fun h => by have := iOut _ h; omega) (fun k hk h => by have := iOut _ h; omega)
       have hsz90 := hc.size
       simp only [Sa] at hsz90
       clear tf89 tc88
       replace oX := Ow (Ob oX (bal (Bs _) _)) hc (fun gq h h2 => by have := iX2 gq h; have := iOut gq h2; omega)
       replace kb5 := Bk.keep (Bk.al kb5 _) hc (fun h => by have := iOut _ h; omega)
       replace kb3 := Bk.keep (Bk.al kb3 _) hc (fun h => by have := iOut _ h; omega)
       replace kb4 := Bk.keep (Bk.al kb4 _) hc (fun h => by have := iOut _ h; omega)
       have bx91 : w3.cell? ⟨wn.heap.size, 0, none⟩ = some (.slice a3 4 c3) := Gc hc (Wc (by simp) (by rfl)) (fun h => by have := iOut _ h; omega)
       have bf92 : w3.frozen? ⟨wn.heap.size, 0, none⟩ = false := Gf hc (by simp <;> omega) (Fn (by simp)) (fun h => by have := iOut _ h; omega)
       clear hc
       clear hNw oOut oA hYp hRp
       replace lt76 := Bk.lz kb5
       replace lt77 := Bk.lz kb3
       replace lt78 := Bk.lz kb4
       have lt93 := Lc bx91
       obtain ⟨tc94, tf95⟩ := Bk.cf kb5 1 rfl
       have HY := Lib.hid (hYn.keep (C1 (w.heap.size + 1 + 1) 1 (.slice pA (j + 1) tA)) (fun gq h h2 => by have := iYn gq h; omega))
       have HX := Lib.hid (Oe oX (w.heap.size + 1 + 1) 1 (fun h => by have := iX2 _ h; omega) (.slice pA (j + 1) tA))
       have HBB := Lib.hid (And.intro (Bk.at kb5 1 (.slice pA (j + 1) tA)) (And.intro (Bk.ne (b' := (w.heap.size + 1 + 1)) (j' := 1) kb3 (by omega) (.slice pA (j + 1) tA)) (Bk.ne (b' := (w.heap.size + 1 + 1)) (j' := 1) kb4 (by omega) (.slice pA (j + 1) tA))))
       have HH := Lib.hid (And.intro (hR.keep (C1 (w.heap.size + 1 + 1) (1) (.slice pA (j + 1) tA)) (by omega) (fun _ _ => by omega)) (hC.setNew (w.heap.size + 1 + 1) (1) (.slice pA (j + 1) tA) (Or.inr (by omega)))); clear hR hC hYn oX
       go_wp2
       go_roundw
       case rel => exact ⟨j + 1, pe, _, L ++ [ys], _, _, by go_num, by omega, HLL2, HL42, HY.out, HBB.out.1, HBB.out.2.1, HBB.out.2.2, HX.out, HH.out.1, by omega, HH.out.2, by simp only [Ss]; omega⟩
       case measure => simp [intOf]; omega
    ·have hq1 : decide ((j : Int) < (na : Int)) = false := decide_eq_false (by omega)
     have hq2 : ¬ (j : Int) < (na : Int) := by omega
     obtain ⟨tc96, tf97⟩ := Bk.cf kb3 1 rfl
     go_upto_region 15 with (fail)
     replace lt68 := Bk.lz kb5
     replace lt69 := Bk.lz kb3
     replace lt70 := Bk.lz kb4
     have hjn : j = na := by omega
     clear hq1 hq2 hlt2
     subst hjn
     have HOM : Hid (OwnM _ w.heap.size (.slice a k c) (.slice a2 j c2) us ⟨xs, L⟩) := Lib.hid ⟨own_cast (Om (Oe (Oe oX (w.heap.size + 1) 0 (fun h => by have := iX2 _ h; omega) (.slice a k c)) (w.heap.size + 1) 1 (fun h => by have := iX2 _ h; omega) (.slice a2 j c2)) (by omega)) HXL.out.symm, Own2.mono ((hY.keep (C1 (w.heap.size + 1) 0 (.slice a k c)) (fun gq h h2 => by have := iY gq h; omega)).keep (C1 (w.heap.size + 1) 1 (.slice a2 j c2)) (fun gq h h2 => by have := iY gq h; omega)) (by omega), fun q h h2 => by have := iX2 q h; have := iY q h2; omega⟩
     clear oX hY
     obtain ⟨tc98, tf99⟩ := Bk.cf kb5 0 rfl
     obtain ⟨tc100, tf101⟩ := Bk.cf kb5 1 rfl
     obtain ⟨tc102, tf103⟩ := Bk.cf kb4 0 rfl
     obtain ⟨tc104, tf105⟩ := Bk.cf kb4 1 rfl
     have HCF := (((Chg.refl (fun q => q = w.heap.size + 1) wm).setCell (w.heap.size + 1) 0 (.slice a k c) (fun _ => rfl)).setCell (w.heap.size + 1) 1 (.slice a2 j c2) (fun _ => rfl))
     have hBf := (Bk.at (Bk.at kb4 0 (.slice a k c)) 1 (.slice a2 j c2))
     have xr0 := Bk.cell hBf 0 (v := .slice a k c) rfl
     have xr1 := Bk.cell hBf 1 (v := .slice a2 j c2) rfl
     have HCH := Lib.hid HCF; clear HCF hBf
     have HCR := Lib.hid (And.intro hC hR); clear hC hR
     go_wp2
     exact bodyPost_ret (v := .agg #[.slice a k c, .slice a2 j c2]) (by simp [results, Try.results89, go_sem, xr0, xr1]) rfl (by exact (by first | exact ⟨_, _, us, ⟨xs, L⟩, pj, rfl, HOM.out, HXL.out, HLL.out, HL4.out, HCR.out.2.keep HCH.out (fun h => by omega) (fun k hk h => by omega), by omega, chg_app HCR.out.1 HCH.out (fun q hq h => by omega)⟩ | exact ⟨_, _, rfl, us, ⟨xs, L⟩, HOM.out, HXL.out, HLL.out, HL4.out, pj, HCR.out.2.keep HCH.out (fun h => by omega) (fun k hk h => by omega), by omega, chg_app HCR.out.1 HCH.out (fun q hq h => by omega)⟩ | exact ⟨⟨_, _, rfl⟩, us, ⟨xs, L⟩, HOM.out, HXL.out, HLL.out, HL4.out, pj, HCR.out.2.keep HCH.out (fun h => by omega) (fun k hk h => by omega), by omega, chg_app HCR.out.1 HCH.out (fun q hq h => by omega)⟩))
end Go.Proofs.Ytkjedgnepnbkpaa
