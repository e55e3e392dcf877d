/-
 Parts of the proofs of the laws FnCheckLive, FnFinalRegs, FnLiveRegister, FnLiveRegs.
-/
import Derived.Test.YtkjedgnepnbkpaaQE
import Derived.Test.YtkjedgnepnbkpaaQG
set_option linter.all false
namespace Go.Proofs.Ytkjedgnepnbkpaa
open Go.RowKit

theorem bl_one {w : World} {B : Nat → Prop} {base : Nat} {b : Nat} (h : w.ownsRow base 163 11 (.slice (some ⟨b, 0, none⟩) 1 1) 1 [.int .i64 1, .int .i64 1, .int .i64 0, .int .i64 0, .slice none 0 0, .int .i64 2, .int .i64 0, .slice none 0 0, .int .i64 0, .slice none 0 0, .slice none 0 0]) (hB : ∀ q, base ≤ q → B q) :
  BlAt w B 3 (.slice (some ⟨b, 0, none⟩) 1 1) [.mk 1 1 (.mk 0 0 []) (.mk 2 0 []) 0 [] []] :=
 RowOf.of_own (rs := [⟨1, 1, ⟨0, 0, none, 0, 0⟩, ⟨2, 0, none, 0, 0⟩, 0, none, 0, 0, none, 0, 0⟩]) rfl h (by simp) (fun q hq _ => hB q hq) (fun j h1 h2 => by
  have hj : j = 0 := by simp at h1; omega
  subst hj
  exact ⟨rfl, rfl, rfl, ⟨1, ExAt.leaf 0 0⟩, ⟨1, ExAt.leaf 2 0⟩, RowOf.nil, RowOf.nil⟩)
theorem small_one : ∀ x ∈ [St.mk 1 1 (.mk 0 0 []) (.mk 2 0 []) 0 [] []], SmS 3 x := fun x hx => by
 rw [List.mem_singleton.1 hx]
 exact ⟨thin_leaf 0 0, thin_leaf 2 0, by simp, by simp, (fun _ h => by cases h), (fun _ h => by cases h)⟩
set_option maxHeartbeats 6400000 in
set_option maxRecDepth 100000 in
theorem l2Program_any (B g p : Nat) (w : World) (hR : Rnd w B g p) (hp : p + 3000000 ≤ 1000000000) :
  Calls Try.prog 107 #[.pointer (some ⟨g, 0, none⟩)] w fun r w' => ∃ (a0 a1 a2 : Option Addr) (c0 c1 c2 : Nat) (xs ys : List Int) (L : List St) (p' : Nat), r = .returned (.agg #[.slice a0 xs.length c0, .slice a1 ys.length c1, .slice a2 L.length c2]) ∧ w'.ownsRow w.heap.size 3 1 (.slice a0 xs.length c0) xs.length (ints xs) ∧ w'.ownsRow w.heap.size 3 1 (.slice a1 ys.length c1) ys.length (ints ys) ∧ (∀ q, (Value.slice a0 xs.length c0).ownBlock = some q → ¬ (Value.slice a1 ys.length c1).ownBlock = some q) ∧ 1 ≤ xs.length ∧ xs.length ≤ 5 ∧ ys.length ≤ 2 ∧ BlAt w' (fun q => w.heap.size ≤ q) 3 (.slice a2 L.length c2) L ∧ L.length ≤ 4 ∧ (∀ x ∈ L, SmS 3 x) ∧ Rnd w' B g p' ∧ p' ≤ p + 3000000 ∧ Chg (fun q => q = g) w w' := by
 have hg := hR.lt
 have hC : Chg (fun k => k = g) w w := Chg.refl _ _
 have ird : ∀ q, (fun k => k = g) q → q = g := fun q h => h
 go_enter Try.func107, Try.ntmps107
 go_wp2_with fail
 have hqn := num_any _ [3, 4, 2, 5] _ B g (p) (((hR.below (bal (Bs _) (.cells #[.slice none 0 0, .slice none 0 0, .slice none 0 0] 110))).below (bal (Bs _) (.cells #[.slice none 0 0, .slice none 0 0, .slice none 0 0] 110))).below (bal (Bs _) (.cells #[.int .i64 3, .int .i64 4, .int .i64 2, .int .i64 5] 3))) (Ro (World.ownsRow_lit (base := ((World.alloc (World.alloc w (.cells #[.slice none 0 0, .slice none 0 0, .slice none 0 0] 110)) (.cells #[.slice none 0 0, .slice none 0 0, .slice none 0 0] 110))).heap.size) (e := 3) (size := 1) ((World.alloc (World.alloc w (.cells #[.slice none 0 0, .slice none 0 0, .slice none 0 0] 110)) (.cells #[.slice none 0 0, .slice none 0 0, .slice none 0 0] 110))) #[.int .i64 3, .int .i64 4, .int .i64 2, .int .i64 5] 4 (Nat.le_refl _) (by unfold maxLen; omega) (by simp)) (by simp)) (fun b o c hb => by simp at hb; omega) (by simp) (by simp) (by omega)
 simp only [Sa] at hqn
 refine (hqn).mono ?_
 rintro e w1 ⟨n0, n0m, rfl, hRn, hc⟩
 clear hqn
 replace hC := ((((hC.trans (Chg.of_below (bal (Bs _) _))).trans (Chg.of_below (bal (Bs _) _))).trans (Chg.of_below (bal (Bs _) _)))).trans hc
 replace hR := hRn; clear hRn
 have hsz2 := hc.size
 simp only [Sa] at hsz2
 have bk3 : Bk w1 (w.heap.size) [.slice none 0 0, .slice none 0 0, .slice none 0 0] := Bk.keep (Bk.al (Bk.al (Bk.nw (by simp) rfl) (.cells #[.slice none 0 0, .slice none 0 0, .slice none 0 0] 110)) (.cells #[.int .i64 3, .int .i64 4, .int .i64 2, .int .i64 5] 3)) hc (fun h => by have := ird _ h; omega)
 have bk4 : Bk w1 (w.heap.size + 1) [.slice none 0 0, .slice none 0 0, .slice none 0 0] := Bk.keep (Bk.al (Bk.nw (by simp) rfl) (.cells #[.int .i64 3, .int .i64 4, .int .i64 2, .int .i64 5] 3)) hc (fun h => by have := ird _ h; omega)
 have bk5 : Bk w1 (w.heap.size + 1 + 1) [.int .i64 3, .int .i64 4, .int .i64 2, .int .i64 5] := Bk.keep (Bk.nw (by simp) rfl) hc (fun h => by have := ird _ h; omega)
 clear hc
 clear bk5
 have lt6 := Bk.lz bk3
 have lt7 := Bk.lz bk4
 obtain ⟨t0, rfl, ht0, ht5⟩ : ∃ t : Nat, n0 = t ∧ 2 ≤ t ∧ t ≤ 5 := by simp only [List.mem_cons, List.not_mem_nil, or_false] at n0m; exact ⟨n0.toNat, by omega, by omega, by omega⟩
 have HI0 : Hid (∃ (k m : Nat) (xs : List Int) (a : Option Addr) (c pk : Nat), Value.int .i64 (t0 : Nat) = .int .i64 k ∧ m + k = t0 ∧ Hid (xs.length = m) ∧ w1.ownsRow w1.heap.size 3 1 (.slice a m c) m (ints xs) ∧ Bk w1 (w.heap.size + 1) [.slice a m c, .slice none 0 0, .slice none 0 0] ∧ Bk w1 (w.heap.size) [.slice none 0 0, .slice none 0 0, .slice none 0 0] ∧ Rnd w1 B g pk ∧ pk ≤ p + 1 + m ∧ Chg (fun q => q = g) w w1 ∧ w1.heap.size ≤ w1.heap.size) := Lib.hid ⟨t0, 0, [], none, 0, p + 1, rfl, by omega, Lib.hid rfl, World.ownsRow_nil _ _ _ _, bk4, bk3, hR, by omega, hC, Nat.le_refl _⟩
 have hsza0 : w.heap.size ≤ w.heap.size + 1 ∧ w.heap.size + 1 < w1.heap.size ∧ w.heap.size ≤ w.heap.size ∧ w.heap.size < w1.heap.size ∧ ¬ w.heap.size = w.heap.size + 1 := by omega
 clear hR hC bk3 bk4 lt6 lt7
 go_wp2_with fail
 go_loopw [4] (fun i wr => ∃ (k m : Nat) (xs : List Int) (a : Option Addr) (c pk : Nat), i = .int .i64 k ∧ m + k = t0 ∧ Hid (xs.length = m) ∧ wr.ownsRow w1.heap.size 3 1 (.slice a m c) m (ints xs) ∧ Bk wr (w.heap.size + 1) [.slice a m c, .slice none 0 0, .slice none 0 0] ∧ Bk wr (w.heap.size) [.slice none 0 0, .slice none 0 0, .slice none 0 0] ∧ Rnd wr B g pk ∧ pk ≤ p + 1 + m ∧ Chg (fun q => q = g) w wr ∧ w1.heap.size ≤ wr.heap.size) (fun i _ => (intOf i).toNat)
 case atStart => exact HI0.out
 case round =>
  obtain ⟨k, m, xs, a, c, pk, rfl, hmk, HXL, oX, kb3, kb2, hR, hpk, hC, hzr⟩ := hrel
  clear HI0
  obtain ⟨wla, rfl⟩ : ∃ X, X = wr := ⟨_, rfl⟩
  have k3 := Bk.lt kb3 (show 0 < 3 by decide); have k2 := Bk.lt kb2 (show 0 < 3 by decide); have iX := oX.lt
  have hmk1 : m ≤ 5 ∧ k ≤ 5 := by omega
  have HMK := Lib.hid hmk; clear hmk
  by_cases hk0 : 0 < k
  ·have hqk : (0 : Int) < (k : Int) := by omega
   go_upto_region 5 with (fail)
   have lt8 := Bk.lz kb3
   have lt9 := Bk.lz kb2
   refine wp_region_noPanic ?_
   refine wp_region_held_drew (S := (fun W' => True)) (by kernel_rfl) trivial (fun hHeld => ?_)
   obtain ⟨w2, hwd⟩ : ∃ X, X = World.drew wla := ⟨_, rfl⟩
   rw [← hwd]
   have hb : Below wla.heap.size wla w2 := by rw [hwd]; exact Below.drew (Bs _)
   clear hwd
   replace hC := (hC).trans (Chg.of_below hb)
   replace hR := hR.below hb
   have hsz10 := hb.size
   replace oX := Ob oX hb
   replace kb3 := Bk.below kb3 hb
   replace kb2 := Bk.below kb2 hb
   clear hb
   replace lt8 := Bk.lz kb3
   replace lt9 := Bk.lz kb2
   refine (tq 0 14 rfl rfl ?_ ?_ (tq 2 16 rfl rfl ?_ ?_ ?_))
   iterate 2 (rotate_left; intro W' hSw; clear hSw; go_simp; try with_reducible rfl)
   try simp only [Act.put, sb, List.set]
   refine wpAnyH_ready (rs := [1, 3]) (by kernel_rfl) (by simp) ?_
   refine AllReadyH.cons rfl (fun K hK => ?_) ?_
   ·-- 1
    obtain ⟨tc11, tf12⟩ := Bk.cf kb3 0 rfl
    go_simp
    replace lt8 := Bk.lz kb3
    replace lt9 := Bk.lz kb2
    refine hK.out _ _ trivial (fun hHeld => ?_)
    clear hK K
    try simp only [Act.put, sb, List.set]
    refine Rdy 3 rfl (fun K hK => ?_)
    go_simp
    obtain ⟨w3, hnw, hb⟩ := nmw (World.alloc w2 (.cells #[.int .i64 0, .int .i64 1, .int .i64 0, .int .i64 1, .int .i64 2, .int .i64 3] 3))
    replace hC := ((hC.trans (Chg.of_below (bal (Bs _) _)))).trans (Chg.of_below hb)
    replace hR := (hR.below (bal (Bs _) _)).below hb
    have ol13 := Ob (World.ownsRow_lit (base := (w2).heap.size) (e := 3) (size := 1) (w2) #[.int .i64 0, .int .i64 1, .int .i64 0, .int .i64 1, .int .i64 2, .int .i64 3] 6 (Nat.le_refl _) (by unfold maxLen; omega) (by simp)) hb
    try simp only [Sa, Ss] at ol13
    have hsz14 := hb.size
    simp only [Sa] at hsz14
    clear tf12 tc11
    replace oX := Ob (Ob oX (bal (Bs _) _)) hb
    replace kb3 := Bk.below (Bk.al kb3 _) hb
    replace kb2 := Bk.below (Bk.al kb2 _) hb
    have bk15 : Bk w3 (w2.heap.size) [.int .i64 0, .int .i64 1, .int .i64 0, .int .i64 1, .int .i64 2, .int .i64 3] := Bk.below (Bk.nw (by simp) rfl) hb
    clear hb
    have iv16 := ol13.lt
    try simp only [Sa] at iv16
    rw [← hnw]
    clear hnw
    replace lt8 := Bk.lz kb3
    replace lt9 := Bk.lz kb2
    have lt17 := Bk.lz bk15
    refine hK.out _ _ trivial (fun hHeld => ?_)
    clear hK K
    try simp only [Act.put, sb, List.set]
    refine Rdy 4 rfl (fun K hK => ?_)
    go_simp
    refine (num_any _ [0, 1, 0, 1, 2, 3] _ B g (pk) hR (Ro ol13 (by simp)) (fun b o c hb => by simp at hb; omega) (by simp) (by simp) (by omega)).mono ?_
    rintro e w4 ⟨rr, rrm, rfl, hRn, hc⟩
    replace hC := (hC).trans hc
    replace hR := hRn; clear hRn
    have hsz18 := hc.size
    replace oX := Ow oX hc (fun gq h h2 => by have := iX gq h; have := ird gq h2; omega)
    replace ol13 := Ow ol13 hc (fun gq h h2 => by have := iv16 gq h; have := ird gq h2; omega)
    replace kb3 := Bk.keep kb3 hc (fun h => by have := ird _ h; omega)
    replace kb2 := Bk.keep kb2 hc (fun h => by have := ird _ h; omega)
    replace bk15 := Bk.keep bk15 hc (fun h => by have := ird _ h; omega)
    clear hc
    clear rrm
    replace lt8 := Bk.lz kb3
    replace lt9 := Bk.lz kb2
    replace lt17 := Bk.lz bk15
    refine hK.out _ _ trivial (fun hHeld => ?_)
    clear hK K
    try simp only [Act.put, sb, List.set]
    refine Rdy 5 rfl (fun K hK => ?_)
    go_simp
    obtain ⟨w5, hnw, hb⟩ := nmw (World.alloc w4 (.cells #[.int .i64 rr] 3))
    replace hC := ((hC.trans (Chg.of_below (bal (Bs _) _)))).trans (Chg.of_below hb)
    replace hR := (hR.below (bal (Bs _) _)).below hb
    have ol19 := Ob (World.ownsRow_lit (base := (w4).heap.size) (e := 3) (size := 1) (w4) #[.int .i64 rr] 1 (Nat.le_refl _) (by unfold maxLen; omega) (by simp)) hb
    try simp only [Sa, Ss] at ol19
    have hsz20 := hb.size
    simp only [Sa] at hsz20
    replace oX := Ob (Ob oX (bal (Bs _) _)) hb
    replace ol13 := Ob (Ob ol13 (bal (Bs _) _)) hb
    replace kb3 := Bk.below (Bk.al kb3 _) hb
    replace kb2 := Bk.below (Bk.al kb2 _) hb
    replace bk15 := Bk.below (Bk.al bk15 _) hb
    have bx21 : w5.cell? ⟨w4.heap.size, 0, none⟩ = some (.int .i64 rr) := Kc hb (Wc (by simp) (by rfl))
    have bf22 : w5.frozen? ⟨w4.heap.size, 0, none⟩ = false := Kf hb (by simp <;> omega) (Fn (by simp))
    clear hb
    have iv23 := ol19.lt
    try simp only [Sa] at iv23
    rw [← hnw]
    clear hnw
    replace lt8 := Bk.lz kb3
    replace lt9 := Bk.lz kb2
    replace lt17 := Bk.lz bk15
    have lt24 := Lc bx21
    refine hK.out _ _ trivial (fun hHeld => ?_)
    clear hK K
    try simp only [Act.put, sb, List.set]
    refine Rdy 6 rfl (fun K hK => ?_)
    refine step_aps tInts rfl _ _ rfl (w1.heap.size) _ m (ints xs) rfl oX _ 1 (ints [rr]) rfl ((Ro ol19 (by simp))) (one_ints [rr]) (by omega) (by first | omega | (simp only [Sa, Ss]; omega)) ?_
    intro vA w6 oA25 hc hNw _
    obtain ⟨pA25, tA25, rfl⟩ := Oh oA25
    replace hC := chg_app hC hc (fun q hq h => by have := iX q h; omega)
    replace hR := hR.keep hc (fun h => by have := iX _ h; omega) (fun k hk h => by have := iX _ h; omega)
    have hsz26 := hc.size
    replace bf22 := Gf hc (Lc bx21) bf22 (fun h => by have := iX _ h; omega)
    replace ol13 := Ow ol13 hc (fun gq h h2 => by have := iv16 gq h; have := iX gq h2; omega)
    replace bx21 := Gc hc bx21 (fun h => by have := iX _ h; omega)
    replace ol19 := Ow ol19 hc (fun gq h h2 => by have := iv23 gq h; have := iX gq h2; omega)
    replace kb3 := Bk.keep kb3 hc (fun h => by have := iX _ h; omega)
    replace kb2 := Bk.keep kb2 hc (fun h => by have := iX _ h; omega)
    replace bk15 := Bk.keep bk15 hc (fun h => by have := iX _ h; omega)
    clear hc
    have iv27 := oA25.lt
    clear hNw oX
    replace lt8 := Bk.lz kb3
    replace lt9 := Bk.lz kb2
    replace lt17 := Bk.lz bk15
    replace lt24 := Lc bx21
    refine hK.out _ _ trivial (fun hHeld => ?_)
    clear hK K
    try simp only [Act.put, sb, List.set]
    refine (tq 7 21 rfl rfl ?_ ?_ ?_)
    (rotate_left; intro W' hSw; clear hSw; go_simp; try with_reducible rfl)
    try simp only [Act.put, sb, List.set]
    refine Rdy 8 rfl (fun K hK => ?_)
    obtain ⟨tc28, tf29⟩ := Bk.cf kb3 0 rfl
    go_simp
    obtain ⟨w7, hnw, hb⟩ := nmw (World.setCell w6 ⟨w.heap.size + 1, 0, none⟩ (.slice pA25 (m + 1) tA25))
    replace hC := ((hC.setNew _ _ _ (Or.inr (by omega)))).trans (Chg.of_below hb)
    replace hR := (hR.keep (C1 _ _ _) (by omega) (fun _ _ => by omega)).below hb
    have hsz30 := hb.size
    simp only [Ss] at hsz30
    clear tf29 tc28
    replace bf22 := Kf hb (Lc (Nc bx21 (by omega) _)) (Fs bf22 _)
    replace ol13 := Ob (Oe ol13 _ _ (fun h => by have := iv16 _ h; omega) _) hb
    replace bx21 := Kc hb (Nc bx21 (by omega) _)
    replace ol19 := Ob (Oe ol19 _ _ (fun h => by have := iv23 _ h; omega) _) hb
    replace oA25 := Ob (Oe oA25 _ _ (fun h => by have := iv27 _ h; omega) _) hb
    replace kb3 : Bk w7 (w.heap.size + 1) [.slice pA25 (m + 1) tA25, .slice none 0 0, .slice none 0 0] := Bk.below (Bk.at kb3 0 (.slice pA25 (m + 1) tA25)) hb
    replace kb2 := Bk.below (Bk.ne kb2 (by omega) _) hb
    replace bk15 := Bk.below (Bk.ne bk15 (by omega) _) hb
    clear hb
    rw [← hnw]
    clear hnw
    replace lt8 := Bk.lz kb3
    replace lt9 := Bk.lz kb2
    replace lt17 := Bk.lz bk15
    replace lt24 := Lc bx21
    refine hK.out _ _ trivial (fun hHeld => ?_)
    clear hK K
    try simp only [Act.put, sb, List.set]
    refine wpAnyH_done (by kernel_rfl) ?_ _
    refine NoPanic.normal ?_
    clear hHeld
    have HO := Lib.hid (show w7.ownsRow w1.heap.size 3 1 _ (m + 1) (ints (xs ++ [rr])) from by rw [ints_append]; exact oA25)
    have HXL2 : Hid ((xs ++ [rr]).length = m + 1) := Lib.hid (by rw [List.length_append, HXL.out]; rfl)
    have HH := Lib.hid (And.intro hR hC); clear hR hC oA25
    obtain ⟨tc31, tf32⟩ := Bk.cf kb3 0 rfl
    go_wp2
    go_roundw
    case rel => exact ⟨k - 1, m + 1, xs ++ [rr], _, _, pk + 1, by congr 1; omega, by have := HMK.out; omega, HXL2, HO.out, kb3, kb2, HH.out.1, by omega, HH.out.2, by omega⟩
    case measure => simp [intOf]; omega
   refine AllReadyH.cons rfl (fun K hK => ?_) AllReadyH.nil
   obtain ⟨tc33, tf34⟩ := Bk.cf kb3 0 rfl
   go_simp
   obtain ⟨w3, hnw, hb⟩ := nmw (World.alloc w2 (.cells #[.int .i64 0, .int .i64 1, .int .i64 0, .int .i64 1, .int .i64 2, .int .i64 3] 3))
   replace hC := ((hC.trans (Chg.of_below (bal (Bs _) _)))).trans (Chg.of_below hb)
   replace hR := (hR.below (bal (Bs _) _)).below hb
   have ol35 := Ob (World.ownsRow_lit (base := (w2).heap.size) (e := 3) (size := 1) (w2) #[.int .i64 0, .int .i64 1, .int .i64 0, .int .i64 1, .int .i64 2, .int .i64 3] 6 (Nat.le_refl _) (by unfold maxLen; omega) (by simp)) hb
   try simp only [Sa, Ss] at ol35
   have hsz36 := hb.size
   simp only [Sa] at hsz36
   clear tf34 tc33
   replace oX := Ob (Ob oX (bal (Bs _) _)) hb
   replace kb3 := Bk.below (Bk.al kb3 _) hb
   replace kb2 := Bk.below (Bk.al kb2 _) hb
   have bk37 : Bk w3 (w2.heap.size) [.int .i64 0, .int .i64 1, .int .i64 0, .int .i64 1, .int .i64 2, .int .i64 3] := Bk.below (Bk.nw (by simp) rfl) hb
   clear hb
   have iv38 := ol35.lt
   try simp only [Sa] at iv38
   rw [← hnw]
   clear hnw
   replace lt8 := Bk.lz kb3
   replace lt9 := Bk.lz kb2
   have lt39 := Bk.lz bk37
   refine hK.out _ _ trivial (fun hHeld => ?_)
   clear hK K
   try simp only [Act.put, sb, List.set]
   refine wpAnyH_ready (rs := [1, 4]) (by kernel_rfl) (by simp) ?_
   refine AllReadyH.cons rfl (fun K hK => ?_) ?_
   ·-- 1
    obtain ⟨tc40, tf41⟩ := Bk.cf kb3 0 rfl
    go_simp
    replace lt8 := Bk.lz kb3
    replace lt9 := Bk.lz kb2
    replace lt39 := Bk.lz bk37
    refine hK.out _ _ trivial (fun hHeld => ?_)
    clear hK K
    try simp only [Act.put, sb, List.set]
    refine Rdy 4 rfl (fun K hK => ?_)
    go_simp
    refine (num_any _ [0, 1, 0, 1, 2, 3] _ B g (pk) hR (Ro ol35 (by simp)) (fun b o c hb => by simp at hb; omega) (by simp) (by simp) (by omega)).mono ?_
    rintro e w4 ⟨rr, rrm, rfl, hRn, hc⟩
    replace hC := (hC).trans hc
    replace hR := hRn; clear hRn
    have hsz42 := hc.size
    clear tf41 tc40
    replace oX := Ow oX hc (fun gq h h2 => by have := iX gq h; have := ird gq h2; omega)
    replace ol35 := Ow ol35 hc (fun gq h h2 => by have := iv38 gq h; have := ird gq h2; omega)
    replace kb3 := Bk.keep kb3 hc (fun h => by have := ird _ h; omega)
    replace kb2 := Bk.keep kb2 hc (fun h => by have := ird _ h; omega)
    replace bk37 := Bk.keep bk37 hc (fun h => by have := ird _ h; omega)
    clear hc
    clear rrm
    replace lt8 := Bk.lz kb3
    replace lt9 := Bk.lz kb2
    replace lt39 := Bk.lz bk37
    refine hK.out _ _ trivial (fun hHeld => ?_)
    clear hK K
    try simp only [Act.put, sb, List.set]
    refine Rdy 5 rfl (fun K hK => ?_)
    go_simp
    obtain ⟨w5, hnw, hb⟩ := nmw (World.alloc w4 (.cells #[.int .i64 rr] 3))
    replace hC := ((hC.trans (Chg.of_below (bal (Bs _) _)))).trans (Chg.of_below hb)
    replace hR := (hR.below (bal (Bs _) _)).below hb
    have ol43 := Ob (World.ownsRow_lit (base := (w4).heap.size) (e := 3) (size := 1) (w4) #[.int .i64 rr] 1 (Nat.le_refl _) (by unfold maxLen; omega) (by simp)) hb
    try simp only [Sa, Ss] at ol43
    have hsz44 := hb.size
    simp only [Sa] at hsz44
    replace oX := Ob (Ob oX (bal (Bs _) _)) hb
    replace ol35 := Ob (Ob ol35 (bal (Bs _) _)) hb
    replace kb3 := Bk.below (Bk.al kb3 _) hb
    replace kb2 := Bk.below (Bk.al kb2 _) hb
    replace bk37 := Bk.below (Bk.al bk37 _) hb
    have bx45 : w5.cell? ⟨w4.heap.size, 0, none⟩ = some (.int .i64 rr) := Kc hb (Wc (by simp) (by rfl))
    have bf46 : w5.frozen? ⟨w4.heap.size, 0, none⟩ = false := Kf hb (by simp <;> omega) (Fn (by simp))
    clear hb
    have iv47 := ol43.lt
    try simp only [Sa] at iv47
    rw [← hnw]
    clear hnw
    replace lt8 := Bk.lz kb3
    replace lt9 := Bk.lz kb2
    replace lt39 := Bk.lz bk37
    have lt48 := Lc bx45
    refine hK.out _ _ trivial (fun hHeld => ?_)
    clear hK K
    try simp only [Act.put, sb, List.set]
    refine Rdy 6 rfl (fun K hK => ?_)
    refine step_aps tInts rfl _ _ rfl (w1.heap.size) _ m (ints xs) rfl oX _ 1 (ints [rr]) rfl ((Ro ol43 (by simp))) (one_ints [rr]) (by omega) (by first | omega | (simp only [Sa, Ss]; omega)) ?_
    intro vA w6 oA49 hc hNw _
    obtain ⟨pA49, tA49, rfl⟩ := Oh oA49
    replace hC := chg_app hC hc (fun q hq h => by have := iX q h; omega)
    replace hR := hR.keep hc (fun h => by have := iX _ h; omega) (fun k hk h => by have := iX _ h; omega)
    have hsz50 := hc.size
    replace bf46 := Gf hc (Lc bx45) bf46 (fun h => by have := iX _ h; omega)
    replace ol35 := Ow ol35 hc (fun gq h h2 => by have := iv38 gq h; have := iX gq h2; omega)
    replace bx45 := Gc hc bx45 (fun h => by have := iX _ h; omega)
    replace ol43 := Ow ol43 hc (fun gq h h2 => by have := iv47 gq h; have := iX gq h2; omega)
    replace kb3 := Bk.keep kb3 hc (fun h => by have := iX _ h; omega)
    replace kb2 := Bk.keep kb2 hc (fun h => by have := iX _ h; omega)
    replace bk37 := Bk.keep bk37 hc (fun h => by have := iX _ h; omega)
    clear hc
    have iv51 := oA49.lt
    clear hNw oX
    replace lt8 := Bk.lz kb3
    replace lt9 := Bk.lz kb2
    replace lt39 := Bk.lz bk37
    replace lt48 := Lc bx45
    refine hK.out _ _ trivial (fun hHeld => ?_)
    clear hK K
    try simp only [Act.put, sb, List.set]
    refine (tq 7 21 rfl rfl ?_ ?_ ?_)
    (rotate_left; intro W' hSw; clear hSw; go_simp; try with_reducible rfl)
    try simp only [Act.put, sb, List.set]
    refine Rdy 8 rfl (fun K hK => ?_)
    obtain ⟨tc52, tf53⟩ := Bk.cf kb3 0 rfl
    go_simp
    obtain ⟨w7, hnw, hb⟩ := nmw (World.setCell w6 ⟨w.heap.size + 1, 0, none⟩ (.slice pA49 (m + 1) tA49))
    replace hC := ((hC.setNew _ _ _ (Or.inr (by omega)))).trans (Chg.of_below hb)
    replace hR := (hR.keep (C1 _ _ _) (by omega) (fun _ _ => by omega)).below hb
    have hsz54 := hb.size
    simp only [Ss] at hsz54
    clear tf53 tc52
    replace bf46 := Kf hb (Lc (Nc bx45 (by omega) _)) (Fs bf46 _)
    replace ol35 := Ob (Oe ol35 _ _ (fun h => by have := iv38 _ h; omega) _) hb
    replace bx45 := Kc hb (Nc bx45 (by omega) _)
    replace ol43 := Ob (Oe ol43 _ _ (fun h => by have := iv47 _ h; omega) _) hb
    replace oA49 := Ob (Oe oA49 _ _ (fun h => by have := iv51 _ h; omega) _) hb
    replace kb3 : Bk w7 (w.heap.size + 1) [.slice pA49 (m + 1) tA49, .slice none 0 0, .slice none 0 0] := Bk.below (Bk.at kb3 0 (.slice pA49 (m + 1) tA49)) hb
    replace kb2 := Bk.below (Bk.ne kb2 (by omega) _) hb
    replace bk37 := Bk.below (Bk.ne bk37 (by omega) _) hb
    clear hb
    rw [← hnw]
    clear hnw
    replace lt8 := Bk.lz kb3
    replace lt9 := Bk.lz kb2
    replace lt39 := Bk.lz bk37
    replace lt48 := Lc bx45
    refine hK.out _ _ trivial (fun hHeld => ?_)
    clear hK K
    try simp only [Act.put, sb, List.set]
    refine wpAnyH_done (by kernel_rfl) ?_ _
    refine NoPanic.normal ?_
    clear hHeld
    have HO := Lib.hid (show w7.ownsRow w1.heap.size 3 1 _ (m + 1) (ints (xs ++ [rr])) from by rw [ints_append]; exact oA49)
    have HXL2 : Hid ((xs ++ [rr]).length = m + 1) := Lib.hid (by rw [List.length_append, HXL.out]; rfl)
    have HH := Lib.hid (And.intro hR hC); clear hR hC oA49
    obtain ⟨tc55, tf56⟩ := Bk.cf kb3 0 rfl
    go_wp2
    go_roundw
    case rel => exact ⟨k - 1, m + 1, xs ++ [rr], _, _, pk + 1, by congr 1; omega, by have := HMK.out; omega, HXL2, HO.out, kb3, kb2, HH.out.1, by omega, HH.out.2, by omega⟩
    case measure => simp [intOf]; omega
   refine AllReadyH.cons rfl (fun K hK => ?_) AllReadyH.nil
   go_simp
   refine (num_any _ [0, 1, 0, 1, 2, 3] _ B g (pk) hR (Ro ol35 (by simp)) (fun b o c hb => by simp at hb; omega) (by simp) (by simp) (by omega)).mono ?_
   rintro e w4 ⟨rr, rrm, rfl, hRn, hc⟩
   replace hC := (hC).trans hc
   replace hR := hRn; clear hRn
   have hsz57 := hc.size
   replace oX := Ow oX hc (fun gq h h2 => by have := iX gq h; have := ird gq h2; omega)
   replace ol35 := Ow ol35 hc (fun gq h h2 => by have := iv38 gq h; have := ird gq h2; omega)
   replace kb3 := Bk.keep kb3 hc (fun h => by have := ird _ h; omega)
   replace kb2 := Bk.keep kb2 hc (fun h => by have := ird _ h; omega)
   replace bk37 := Bk.keep bk37 hc (fun h => by have := ird _ h; omega)
   clear hc
   clear rrm
   replace lt8 := Bk.lz kb3
   replace lt9 := Bk.lz kb2
   replace lt39 := Bk.lz bk37
   refine hK.out _ _ trivial (fun hHeld => ?_)
   clear hK K
   try simp only [Act.put, sb, List.set]
   refine wpAnyH_ready (rs := [1, 5]) (by kernel_rfl) (by simp) ?_
   refine AllReadyH.cons rfl (fun K hK => ?_) ?_
   ·-- 1
    obtain ⟨tc58, tf59⟩ := Bk.cf kb3 0 rfl
    go_simp
    replace lt8 := Bk.lz kb3
    replace lt9 := Bk.lz kb2
    replace lt39 := Bk.lz bk37
    refine hK.out _ _ trivial (fun hHeld => ?_)
    clear hK K
    try simp only [Act.put, sb, List.set]
    refine Rdy 5 rfl (fun K hK => ?_)
    go_simp
    obtain ⟨w5, hnw, hb⟩ := nmw (World.alloc w4 (.cells #[.int .i64 rr] 3))
    replace hC := ((hC.trans (Chg.of_below (bal (Bs _) _)))).trans (Chg.of_below hb)
    replace hR := (hR.below (bal (Bs _) _)).below hb
    have ol60 := Ob (World.ownsRow_lit (base := (w4).heap.size) (e := 3) (size := 1) (w4) #[.int .i64 rr] 1 (Nat.le_refl _) (by unfold maxLen; omega) (by simp)) hb
    try simp only [Sa, Ss] at ol60
    have hsz61 := hb.size
    simp only [Sa] at hsz61
    clear tf59 tc58
    replace oX := Ob (Ob oX (bal (Bs _) _)) hb
    replace ol35 := Ob (Ob ol35 (bal (Bs _) _)) hb
    replace kb3 := Bk.below (Bk.al kb3 _) hb
    replace kb2 := Bk.below (Bk.al kb2 _) hb
    replace bk37 := Bk.below (Bk.al bk37 _) hb
    have bx62 : w5.cell? ⟨w4.heap.size, 0, none⟩ = some (.int .i64 rr) := Kc hb (Wc (by simp) (by rfl))
    have bf63 : w5.frozen? ⟨w4.heap.size, 0, none⟩ = false := Kf hb (by simp <;> omega) (Fn (by simp))
    clear hb
    have iv64 := ol60.lt
    try simp only [Sa] at iv64
    rw [← hnw]
    clear hnw
    replace lt8 := Bk.lz kb3
    replace lt9 := Bk.lz kb2
    replace lt39 := Bk.lz bk37
    have lt65 := Lc bx62
    refine hK.out _ _ trivial (fun hHeld => ?_)
    clear hK K
    try simp only [Act.put, sb, List.set]
    refine Rdy 6 rfl (fun K hK => ?_)
    refine step_aps tInts rfl _ _ rfl (w1.heap.size) _ m (ints xs) rfl oX _ 1 (ints [rr]) rfl ((Ro ol60 (by simp))) (one_ints [rr]) (by omega) (by first | omega | (simp only [Sa, Ss]; omega)) ?_
    intro vA w6 oA66 hc hNw _
    obtain ⟨pA66, tA66, rfl⟩ := Oh oA66
    replace hC := chg_app hC hc (fun q hq h => by have := iX q h; omega)
    replace hR := hR.keep hc (fun h => by have := iX _ h; omega) (fun k hk h => by have := iX _ h; omega)
    have hsz67 := hc.size
    replace bf63 := Gf hc (Lc bx62) bf63 (fun h => by have := iX _ h; omega)
    replace ol35 := Ow ol35 hc (fun gq h h2 => by have := iv38 gq h; have := iX gq h2; omega)
    replace bx62 := Gc hc bx62 (fun h => by have := iX _ h; omega)
    replace ol60 := Ow ol60 hc (fun gq h h2 => by have := iv64 gq h; have := iX gq h2; omega)
    replace kb3 := Bk.keep kb3 hc (fun h => by have := iX _ h; omega)
    replace kb2 := Bk.keep kb2 hc (fun h => by have := iX _ h; omega)
    replace bk37 := Bk.keep bk37 hc (fun h => by have := iX _ h; omega)
    clear hc
    have iv68 := oA66.lt
    clear hNw oX
    replace lt8 := Bk.lz kb3
    replace lt9 := Bk.lz kb2
    replace lt39 := Bk.lz bk37
    replace lt65 := Lc bx62
    refine hK.out _ _ trivial (fun hHeld => ?_)
    clear hK K
    try simp only [Act.put, sb, List.set]
    refine (tq 7 21 rfl rfl ?_ ?_ ?_)
    (rotate_left; intro W' hSw; clear hSw; go_simp; try with_reducible rfl)
    try simp only [Act.put, sb, List.set]
    refine Rdy 8 rfl (fun K hK => ?_)
    obtain ⟨tc69, tf70⟩ := Bk.cf kb3 0 rfl
    go_simp
    obtain ⟨w7, hnw, hb⟩ := nmw (World.setCell w6 ⟨w.heap.size + 1, 0, none⟩ (.slice pA66 (m + 1) tA66))
    replace hC := ((hC.setNew _ _ _ (Or.inr (by omega)))).trans (Chg.of_below hb)
    replace hR := (hR.keep (C1 _ _ _) (by omega) (fun _ _ => by omega)).below hb
    have hsz71 := hb.size
    simp only [Ss] at hsz71
    clear tf70 tc69
    replace bf63 := Kf hb (Lc (Nc bx62 (by omega) _)) (Fs bf63 _)
    replace ol35 := Ob (Oe ol35 _ _ (fun h => by have := iv38 _ h; omega) _) hb
    replace bx62 := Kc hb (Nc bx62 (by omega) _)
    replace ol60 := Ob (Oe ol60 _ _ (fun h => by have := iv64 _ h; omega) _) hb
    replace oA66 := Ob (Oe oA66 _ _ (fun h => by have := iv68 _ h; omega) _) hb
    replace kb3 : Bk w7 (w.heap.size + 1) [.slice pA66 (m + 1) tA66, .slice none 0 0, .slice none 0 0] := Bk.below (Bk.at kb3 0 (.slice pA66 (m + 1) tA66)) hb
    replace kb2 := Bk.below (Bk.ne kb2 (by omega) _) hb
    replace bk37 := Bk.below (Bk.ne bk37 (by omega) _) hb
    clear hb
    rw [← hnw]
    clear hnw
    replace lt8 := Bk.lz kb3
    replace lt9 := Bk.lz kb2
    replace lt39 := Bk.lz bk37
    replace lt65 := Lc bx62
    refine hK.out _ _ trivial (fun hHeld => ?_)
    clear hK K
    try simp only [Act.put, sb, List.set]
    refine wpAnyH_done (by kernel_rfl) ?_ _
    refine NoPanic.normal ?_
    clear hHeld
    have HO := Lib.hid (show w7.ownsRow w1.heap.size 3 1 _ (m + 1) (ints (xs ++ [rr])) from by rw [ints_append]; exact oA66)
    have HXL2 : Hid ((xs ++ [rr]).length = m + 1) := Lib.hid (by rw [List.length_append, HXL.out]; rfl)
    have HH := Lib.hid (And.intro hR hC); clear hR hC oA66
    obtain ⟨tc72, tf73⟩ := Bk.cf kb3 0 rfl
    go_wp2
    go_roundw
    case rel => exact ⟨k - 1, m + 1, xs ++ [rr], _, _, pk + 1, by congr 1; omega, by have := HMK.out; omega, HXL2, HO.out, kb3, kb2, HH.out.1, by omega, HH.out.2, by omega⟩
    case measure => simp [intOf]; omega
   refine AllReadyH.cons rfl (fun K hK => ?_) AllReadyH.nil
   go_simp
   obtain ⟨w5, hnw, hb⟩ := nmw (World.alloc w4 (.cells #[.int .i64 rr] 3))
   replace hC := ((hC.trans (Chg.of_below (bal (Bs _) _)))).trans (Chg.of_below hb)
   replace hR := (hR.below (bal (Bs _) _)).below hb
   have ol74 := Ob (World.ownsRow_lit (base := (w4).heap.size) (e := 3) (size := 1) (w4) #[.int .i64 rr] 1 (Nat.le_refl _) (by unfold maxLen; omega) (by simp)) hb
   try simp only [Sa, Ss] at ol74
   have hsz75 := hb.size
   simp only [Sa] at hsz75
   replace oX := Ob (Ob oX (bal (Bs _) _)) hb
   replace ol35 := Ob (Ob ol35 (bal (Bs _) _)) hb
   replace kb3 := Bk.below (Bk.al kb3 _) hb
   replace kb2 := Bk.below (Bk.al kb2 _) hb
   replace bk37 := Bk.below (Bk.al bk37 _) hb
   have bx76 : w5.cell? ⟨w4.heap.size, 0, none⟩ = some (.int .i64 rr) := Kc hb (Wc (by simp) (by rfl))
   have bf77 : w5.frozen? ⟨w4.heap.size, 0, none⟩ = false := Kf hb (by simp <;> omega) (Fn (by simp))
   clear hb
   have iv78 := ol74.lt
   try simp only [Sa] at iv78
   rw [← hnw]
   clear hnw
   replace lt8 := Bk.lz kb3
   replace lt9 := Bk.lz kb2
   replace lt39 := Bk.lz bk37
   have lt79 := Lc bx76
   refine hK.out _ _ trivial (fun hHeld => ?_)
   clear hK K
   try simp only [Act.put, sb, List.set]
   refine Rdy 1 rfl (fun K hK => ?_)
   obtain ⟨tc80, tf81⟩ := Bk.cf kb3 0 rfl
   go_simp
   replace lt8 := Bk.lz kb3
   replace lt9 := Bk.lz kb2
   replace lt39 := Bk.lz bk37
   replace lt79 := Lc bx76
   refine hK.out _ _ trivial (fun hHeld => ?_)
   clear hK K
   try simp only [Act.put, sb, List.set]
   refine Rdy 6 rfl (fun K hK => ?_)
   refine step_aps tInts rfl _ _ rfl (w1.heap.size) _ m (ints xs) rfl oX _ 1 (ints [rr]) rfl ((Ro ol74 (by simp))) (one_ints [rr]) (by omega) (by first | omega | (simp only [Sa, Ss]; omega)) ?_
   intro vA w6 oA82 hc hNw _
   obtain ⟨pA82, tA82, rfl⟩ := Oh oA82
   replace hC := chg_app hC hc (fun q hq h => by have := iX q h; omega)
   replace hR := hR.keep hc (fun h => by have := iX _ h; omega) (fun k hk h => by have := iX _ h; omega)
   have hsz83 := hc.size
   clear tf81 tc80
   replace bf77 := Gf hc (Lc bx76) bf77 (fun h => by have := iX _ h; omega)
   replace ol35 := Ow ol35 hc (fun gq h h2 => by have := iv38 gq h; have := iX gq h2; omega)
   replace bx76 := Gc hc bx76 (fun h => by have := iX _ h; omega)
   replace ol74 := Ow ol74 hc (fun gq h h2 => by have := iv78 gq h; have := iX gq h2; omega)
   replace kb3 := Bk.keep kb3 hc (fun h => by have := iX _ h; omega)
   replace kb2 := Bk.keep kb2 hc (fun h => by have := iX _ h; omega)
   replace bk37 := Bk.keep bk37 hc (fun h => by have := iX _ h; omega)
   clear hc
   have iv84 := oA82.lt
   clear hNw oX
   replace lt8 := Bk.lz kb3
   replace lt9 := Bk.lz kb2
   replace lt39 := Bk.lz bk37
   replace lt79 := Lc bx76
   refine hK.out _ _ trivial (fun hHeld => ?_)
   clear hK K
   try simp only [Act.put, sb, List.set]
   refine (tq 7 21 rfl rfl ?_ ?_ ?_)
   (rotate_left; intro W' hSw; clear hSw; go_simp; try with_reducible rfl)
   try simp only [Act.put, sb, List.set]
   refine Rdy 8 rfl (fun K hK => ?_)
   obtain ⟨tc85, tf86⟩ := Bk.cf kb3 0 rfl
   go_simp
   obtain ⟨w7, hnw, hb⟩ := nmw (World.setCell w6 ⟨w.heap.size + 1, 0, none⟩ (.slice pA82 (m + 1) tA82))
   replace hC := ((hC.setNew _ _ _ (Or.inr (by omega)))).trans (Chg.of_below hb)
   replace hR := (hR.keep (C1 _ _ _) (by omega) (fun _ _ => by omega)).below hb
   have hsz87 := hb.size
   simp only [Ss] at hsz87
   clear tf86 tc85
   replace bf77 := Kf hb (Lc (Nc bx76 (by omega) _)) (Fs bf77 _)
   replace ol35 := Ob (Oe ol35 _ _ (fun h => by have := iv38 _ h; omega) _) hb
   replace bx76 := Kc hb (Nc bx76 (by omega) _)
   replace ol74 := Ob (Oe ol74 _ _ (fun h => by have := iv78 _ h; omega) _) hb
   replace oA82 := Ob (Oe oA82 _ _ (fun h => by have := iv84 _ h; omega) _) hb
   replace kb3 : Bk w7 (w.heap.size + 1) [.slice pA82 (m + 1) tA82, .slice none 0 0, .slice none 0 0] := Bk.below (Bk.at kb3 0 (.slice pA82 (m + 1) tA82)) hb
   replace kb2 := Bk.below (Bk.ne kb2 (by omega) _) hb
   replace bk37 := Bk.below (Bk.ne bk37 (by omega) _) hb
   clear hb
   rw [← hnw]
   clear hnw
   replace lt8 := Bk.lz kb3
   replace lt9 := Bk.lz kb2
   replace lt39 := Bk.lz bk37
   replace lt79 := Lc bx76
   refine hK.out _ _ trivial (fun hHeld => ?_)
   clear hK K
   try simp only [Act.put, sb, List.set]
   refine wpAnyH_done (by kernel_rfl) ?_ _
   refine NoPanic.normal ?_
   clear hHeld
   have HO := Lib.hid (show w7.ownsRow w1.heap.size 3 1 _ (m + 1) (ints (xs ++ [rr])) from by rw [ints_append]; exact oA82)
   have HXL2 : Hid ((xs ++ [rr]).length = m + 1) := Lib.hid (by rw [List.length_append, HXL.out]; rfl)
   have HH := Lib.hid (And.intro hR hC); clear hR hC oA82
   obtain ⟨tc88, tf89⟩ := Bk.cf kb3 0 rfl
   go_wp2
   go_roundw
   case rel => exact ⟨k - 1, m + 1, xs ++ [rr], _, _, pk + 1, by congr 1; omega, by have := HMK.out; omega, HXL2, HO.out, kb3, kb2, HH.out.1, by omega, HH.out.2, by omega⟩
   case measure => simp [intOf]; omega
  ·have hk00 : k = 0 := by omega
   subst hk00
   have hmk2 : m = t0 := by have := HMK.out; omega
   have hnv : 1 ≤ m ∧ m ≤ 5 := by omega
   clear hmk2 HMK hk0 hmk1
   obtain ⟨nv, hnv9⟩ : ∃ X, X = m := ⟨_, rfl⟩; subst hnv9
   obtain ⟨us, hus9⟩ : ∃ X, X = xs := ⟨_, rfl⟩; subst hus9
   obtain ⟨av, hav9⟩ : ∃ X, X = a := ⟨_, rfl⟩; subst hav9
   obtain ⟨cv, hcv9⟩ : ∃ X, X = c := ⟨_, rfl⟩; subst hcv9
   obtain ⟨pv1, hpv19⟩ : ∃ X, X = pk := ⟨_, rfl⟩; subst hpv19
   have hRp := hpk; have HUL := HXL; clear HXL hpk
   obtain ⟨oV, hz1⟩ := And.intro oX hzr; clear oX iX hzr
   have iV1 := oV.lt
   go_wp2_with fail
   refine (num_any _ [1, 2, 0, 1] _ B g (pv1) (hR.below (bal (Bs _) (.cells #[.int .i64 1, .int .i64 2, .int .i64 0, .int .i64 1] 3))) (Ro (World.ownsRow_lit (base := (wla).heap.size) (e := 3) (size := 1) (wla) #[.int .i64 1, .int .i64 2, .int .i64 0, .int .i64 1] 4 (Nat.le_refl _) (by unfold maxLen; omega) (by simp)) (by simp)) (fun b o c hb => by simp at hb; omega) (by simp) (by simp) (by omega)).mono ?_
   rintro e w2 ⟨n1, n1m, rfl, hRn, hc⟩
   replace hC := ((hC.trans (Chg.of_below (bal (Bs _) _)))).trans hc
   replace hR := hRn; clear hRn
   have hsz91 := hc.size
   simp only [Sa] at hsz91
   replace oV := Ow (Ob oV (bal (Bs _) _)) hc (fun gq h h2 => by have := iV1 gq h; have := ird gq h2; omega)
   replace kb3 := Bk.keep (Bk.al kb3 _) hc (fun h => by have := ird _ h; omega)
   replace kb2 := Bk.keep (Bk.al kb2 _) hc (fun h => by have := ird _ h; omega)
   have bk92 : Bk w2 (wla.heap.size) [.int .i64 1, .int .i64 2, .int .i64 0, .int .i64 1] := Bk.keep (Bk.nw (by simp) rfl) hc (fun h => by have := ird _ h; omega)
   clear hc
   clear bk92
   have lt93 := Bk.lz kb3
   have lt94 := Bk.lz kb2
   obtain ⟨t1, rfl, ht2⟩ : ∃ t : Nat, n1 = t ∧ t ≤ 2 := by simp only [List.mem_cons, List.not_mem_nil, or_false] at n1m; exact ⟨n1.toNat, by omega, by omega⟩
   have iV : ∀ q, (Value.slice av nv cv).ownBlock = some q → w1.heap.size ≤ q ∧ q < w2.heap.size := fun q hq => by have := iV1 q hq; omega
   clear iV1
   have HI0 : Hid (∃ (k m : Nat) (xs : List Int) (a : Option Addr) (c pk : Nat), Value.int .i64 (t1 : Nat) = .int .i64 k ∧ m + k = t1 ∧ Hid (xs.length = m) ∧ w2.ownsRow w2.heap.size 3 1 (.slice a m c) m (ints xs) ∧ Bk w2 (w.heap.size + 1) [.slice av nv cv, .slice a m c, .slice none 0 0] ∧ Bk w2 (w.heap.size) [.slice none 0 0, .slice none 0 0, .slice none 0 0] ∧ w2.ownsRow w1.heap.size 3 1 (.slice av nv cv) nv (ints us) ∧ Rnd w2 B g pk ∧ pk ≤ pv1 + 1 + m ∧ Chg (fun q => q = g) w w2 ∧ w2.heap.size ≤ w2.heap.size) := Lib.hid ⟨t1, 0, [], none, 0, pv1 + 1, rfl, by omega, Lib.hid rfl, World.ownsRow_nil _ _ _ _, kb3, kb2, oV, hR, by omega, hC, Nat.le_refl _⟩
   have hszb0 : w.heap.size ≤ w.heap.size + 1 ∧ w.heap.size + 1 < w2.heap.size ∧ w.heap.size ≤ w.heap.size ∧ w.heap.size < w2.heap.size ∧ ¬ w.heap.size = w.heap.size + 1 := by omega
   clear hR hC kb3 kb2 oV lt93 lt94
   go_wp2_with fail
   go_loopw [5] (fun i wr => ∃ (k m : Nat) (xs : List Int) (a : Option Addr) (c pk : Nat), i = .int .i64 k ∧ m + k = t1 ∧ Hid (xs.length = m) ∧ wr.ownsRow w2.heap.size 3 1 (.slice a m c) m (ints xs) ∧ Bk wr (w.heap.size + 1) [.slice av nv cv, .slice a m c, .slice none 0 0] ∧ Bk wr (w.heap.size) [.slice none 0 0, .slice none 0 0, .slice none 0 0] ∧ wr.ownsRow w1.heap.size 3 1 (.slice av nv cv) nv (ints us) ∧ Rnd wr B g pk ∧ pk ≤ pv1 + 1 + m ∧ Chg (fun q => q = g) w wr ∧ w2.heap.size ≤ wr.heap.size) (fun i _ => (intOf i).toNat)
   case atStart => exact HI0.out
   case round =>
    obtain ⟨k, m, xs, a, c, pk, rfl, hmk, HXL, oX, kb3, kb2, oV, hR, hpk, hC, hzr⟩ := hrel
    clear HI0
    obtain ⟨wlb, rfl⟩ : ∃ X, X = wr := ⟨_, rfl⟩
    have k3 := Bk.lt kb3 (show 0 < 3 by decide); have k2 := Bk.lt kb2 (show 0 < 3 by decide); have iX := oX.lt
    have hmk1 : m ≤ 5 ∧ k ≤ 5 := by omega
    have HMK := Lib.hid hmk; clear hmk
    by_cases hk0 : 0 < k
    ·have hqk : (0 : Int) < (k : Int) := by omega
     go_upto_region 9 with (fail)
     have lt95 := Bk.lz kb3
     have lt96 := Bk.lz kb2
     refine wp_region_noPanic ?_
     refine wp_region_held_drew (S := (fun W' => True)) (by kernel_rfl) trivial (fun hHeld => ?_)
     obtain ⟨w3, hwd⟩ : ∃ X, X = World.drew wlb := ⟨_, rfl⟩
     rw [← hwd]
     have hb : Below wlb.heap.size wlb w3 := by rw [hwd]; exact Below.drew (Bs _)
     clear hwd
     replace hC := (hC).trans (Chg.of_below hb)
     replace hR := hR.below hb
     have hsz97 := hb.size
     replace oX := Ob oX hb
     replace oV := Ob oV hb
     replace kb3 := Bk.below kb3 hb
     replace kb2 := Bk.below kb2 hb
     clear hb
     replace lt95 := Bk.lz kb3
     replace lt96 := Bk.lz kb2
     refine (tq 0 29 rfl rfl ?_ ?_ (tq 2 31 rfl rfl ?_ ?_ ?_))
     iterate 2 (rotate_left; intro W' hSw; clear hSw; go_simp; try with_reducible rfl)
     try simp only [Act.put, sb, List.set]
     refine wpAnyH_ready (rs := [1, 3]) (by kernel_rfl) (by simp) ?_
     refine AllReadyH.cons rfl (fun K hK => ?_) ?_
     ·-- 1
      obtain ⟨tc98, tf99⟩ := Bk.cf kb3 1 rfl
      go_simp
      replace lt95 := Bk.lz kb3
      replace lt96 := Bk.lz kb2
      refine hK.out _ _ trivial (fun hHeld => ?_)
      clear hK K
      try simp only [Act.put, sb, List.set]
      refine Rdy 3 rfl (fun K hK => ?_)
      go_simp
      obtain ⟨w4, hnw, hb⟩ := nmw (World.alloc w3 (.cells #[.int .i64 0, .int .i64 1, .int .i64 0, .int .i64 1, .int .i64 3] 3))
      replace hC := ((hC.trans (Chg.of_below (bal (Bs _) _)))).trans (Chg.of_below hb)
      replace hR := (hR.below (bal (Bs _) _)).below hb
      have ol100 := Ob (World.ownsRow_lit (base := (w3).heap.size) (e := 3) (size := 1) (w3) #[.int .i64 0, .int .i64 1, .int .i64 0, .int .i64 1, .int .i64 3] 5 (Nat.le_refl _) (by unfold maxLen; omega) (by simp)) hb
      try simp only [Sa, Ss] at ol100
      have hsz101 := hb.size
      simp only [Sa] at hsz101
      clear tf99 tc98
      replace oX := Ob (Ob oX (bal (Bs _) _)) hb
      replace oV := Ob (Ob oV (bal (Bs _) _)) hb
      replace kb3 := Bk.below (Bk.al kb3 _) hb
      replace kb2 := Bk.below (Bk.al kb2 _) hb
      have bk102 : Bk w4 (w3.heap.size) [.int .i64 0, .int .i64 1, .int .i64 0, .int .i64 1, .int .i64 3] := Bk.below (Bk.nw (by simp) rfl) hb
      clear hb
      have iv103 := ol100.lt
      try simp only [Sa] at iv103
      rw [← hnw]
      clear hnw
      replace lt95 := Bk.lz kb3
      replace lt96 := Bk.lz kb2
      have lt104 := Bk.lz bk102
      refine hK.out _ _ trivial (fun hHeld => ?_)
      clear hK K
      try simp only [Act.put, sb, List.set]
      refine Rdy 4 rfl (fun K hK => ?_)
      go_simp
      refine (num_any _ [0, 1, 0, 1, 3] _ B g (pk) hR (Ro ol100 (by simp)) (fun b o c hb => by simp at hb; omega) (by simp) (by simp) (by omega)).mono ?_
      rintro e w5 ⟨rr, rrm, rfl, hRn, hc⟩
      replace hC := (hC).trans hc
      replace hR := hRn; clear hRn
      have hsz105 := hc.size
      replace oX := Ow oX hc (fun gq h h2 => by have := iX gq h; have := ird gq h2; omega)
      replace oV := Ow oV hc (fun gq h h2 => by have := iV gq h; have := ird gq h2; omega)
      replace ol100 := Ow ol100 hc (fun gq h h2 => by have := iv103 gq h; have := ird gq h2; omega)
      replace kb3 := Bk.keep kb3 hc (fun h => by have := ird _ h; omega)
      replace kb2 := Bk.keep kb2 hc (fun h => by have := ird _ h; omega)
      replace bk102 := Bk.keep bk102 hc (fun h => by have := ird _ h; omega)
      clear hc
      clear rrm
      replace lt95 := Bk.lz kb3
      replace lt96 := Bk.lz kb2
      replace lt104 := Bk.lz bk102
      refine hK.out _ _ trivial (fun hHeld => ?_)
      clear hK K
      try simp only [Act.put, sb, List.set]
      refine Rdy 5 rfl (fun K hK => ?_)
      go_simp
      obtain ⟨w6, hnw, hb⟩ := nmw (World.alloc w5 (.cells #[.int .i64 rr] 3))
      replace hC := ((hC.trans (Chg.of_below (bal (Bs _) _)))).trans (Chg.of_below hb)
      replace hR := (hR.below (bal (Bs _) _)).below hb
      have ol106 := Ob (World.ownsRow_lit (base := (w5).heap.size) (e := 3) (size := 1) (w5) #[.int .i64 rr] 1 (Nat.le_refl _) (by unfold maxLen; omega) (by simp)) hb
      try simp only [Sa, Ss] at ol106
      have hsz107 := hb.size
      simp only [Sa] at hsz107
      replace oX := Ob (Ob oX (bal (Bs _) _)) hb
      replace oV := Ob (Ob oV (bal (Bs _) _)) hb
      replace ol100 := Ob (Ob ol100 (bal (Bs _) _)) hb
      replace kb3 := Bk.below (Bk.al kb3 _) hb
      replace kb2 := Bk.below (Bk.al kb2 _) hb
      replace bk102 := Bk.below (Bk.al bk102 _) hb
      have bx108 : w6.cell? ⟨w5.heap.size, 0, none⟩ = some (.int .i64 rr) := Kc hb (Wc (by simp) (by rfl))
      have bf109 : w6.frozen? ⟨w5.heap.size, 0, none⟩ = false := Kf hb (by simp <;> omega) (Fn (by simp))
      clear hb
      have iv110 := ol106.lt
      try simp only [Sa] at iv110
      rw [← hnw]
      clear hnw
      replace lt95 := Bk.lz kb3
      replace lt96 := Bk.lz kb2
      replace lt104 := Bk.lz bk102
      have lt111 := Lc bx108
      refine hK.out _ _ trivial (fun hHeld => ?_)
      clear hK K
      try simp only [Act.put, sb, List.set]
      refine Rdy 6 rfl (fun K hK => ?_)
      refine step_aps tInts rfl _ _ rfl (w2.heap.size) _ m (ints xs) rfl oX _ 1 (ints [rr]) rfl ((Ro ol106 (by simp))) (one_ints [rr]) (by omega) (by first | omega | (simp only [Sa, Ss]; omega)) ?_
      intro vA w7 oA112 hc hNw _
      obtain ⟨pA112, tA112, rfl⟩ := Oh oA112
      replace hC := chg_app hC hc (fun q hq h => by have := iX q h; omega)
      replace hR := hR.keep hc (fun h => by have := iX _ h; omega) (fun k hk h => by have := iX _ h; omega)
      have hsz113 := hc.size
      replace bf109 := Gf hc (Lc bx108) bf109 (fun h => by have := iX _ h; omega)
      replace oV := Ow oV hc (fun gq h h2 => by have := iV gq h; have := iX gq h2; omega)
      replace ol100 := Ow ol100 hc (fun gq h h2 => by have := iv103 gq h; have := iX gq h2; omega)
      replace bx108 := Gc hc bx108 (fun h => by have := iX _ h; omega)
      replace ol106 := Ow ol106 hc (fun gq h h2 => by have := iv110 gq h; have := iX gq h2; omega)
      replace kb3 := Bk.keep kb3 hc (fun h => by have := iX _ h; omega)
      replace kb2 := Bk.keep kb2 hc (fun h => by have := iX _ h; omega)
      replace bk102 := Bk.keep bk102 hc (fun h => by have := iX _ h; omega)
      clear hc
      have iv114 := oA112.lt
      clear hNw oX
      replace lt95 := Bk.lz kb3
      replace lt96 := Bk.lz kb2
      replace lt104 := Bk.lz bk102
      replace lt111 := Lc bx108
      refine hK.out _ _ trivial (fun hHeld => ?_)
      clear hK K
      try simp only [Act.put, sb, List.set]
      refine (tq 7 36 rfl rfl ?_ ?_ ?_)
      (rotate_left; intro W' hSw; clear hSw; go_simp; try with_reducible rfl)
      try simp only [Act.put, sb, List.set]
      refine Rdy 8 rfl (fun K hK => ?_)
      obtain ⟨tc115, tf116⟩ := Bk.cf kb3 1 rfl
      go_simp
      obtain ⟨w8, hnw, hb⟩ := nmw (World.setCell w7 ⟨w.heap.size + 1, 1, none⟩ (.slice pA112 (m + 1) tA112))
      replace hC := ((hC.setNew _ _ _ (Or.inr (by omega)))).trans (Chg.of_below hb)
      replace hR := (hR.keep (C1 _ _ _) (by omega) (fun _ _ => by omega)).below hb
      have hsz117 := hb.size
      simp only [Ss] at hsz117
      clear tf116 tc115
      replace bf109 := Kf hb (Lc (Nc bx108 (by omega) _)) (Fs bf109 _)
      replace oV := Ob (Oe oV _ _ (fun h => by have := iV _ h; omega) _) hb
      replace ol100 := Ob (Oe ol100 _ _ (fun h => by have := iv103 _ h; omega) _) hb
      replace bx108 := Kc hb (Nc bx108 (by omega) _)
      replace ol106 := Ob (Oe ol106 _ _ (fun h => by have := iv110 _ h; omega) _) hb
      replace oA112 := Ob (Oe oA112 _ _ (fun h => by have := iv114 _ h; omega) _) hb
      replace kb3 : Bk w8 (w.heap.size + 1) [.slice av nv cv, .slice pA112 (m + 1) tA112, .slice none 0 0] := Bk.below (Bk.at kb3 1 (.slice pA112 (m + 1) tA112)) hb
      replace kb2 := Bk.below (Bk.ne kb2 (by omega) _) hb
      replace bk102 := Bk.below (Bk.ne bk102 (by omega) _) hb
      clear hb
      rw [← hnw]
      clear hnw
      replace lt95 := Bk.lz kb3
      replace lt96 := Bk.lz kb2
      replace lt104 := Bk.lz bk102
      replace lt111 := Lc bx108
      refine hK.out _ _ trivial (fun hHeld => ?_)
      clear hK K
      try simp only [Act.put, sb, List.set]
      refine wpAnyH_done (by kernel_rfl) ?_ _
      refine NoPanic.normal ?_
      clear hHeld
      have HO := Lib.hid (show w8.ownsRow w2.heap.size 3 1 _ (m + 1) (ints (xs ++ [rr])) from by rw [ints_append]; exact oA112)
      have HXL2 : Hid ((xs ++ [rr]).length = m + 1) := Lib.hid (by rw [List.length_append, HXL.out]; rfl)
      have HH := Lib.hid (And.intro hR hC); clear hR hC oA112
      obtain ⟨tc118, tf119⟩ := Bk.cf kb3 1 rfl
      go_wp2
      go_roundw
      case rel => exact ⟨k - 1, m + 1, xs ++ [rr], _, _, pk + 1, by congr 1; omega, by have := HMK.out; omega, HXL2, HO.out, kb3, kb2, oV, HH.out.1, by omega, HH.out.2, by omega⟩
      case measure => simp [intOf]; omega
     refine AllReadyH.cons rfl (fun K hK => ?_) AllReadyH.nil
     obtain ⟨tc120, tf121⟩ := Bk.cf kb3 1 rfl
     go_simp
     obtain ⟨w4, hnw, hb⟩ := nmw (World.alloc w3 (.cells #[.int .i64 0, .int .i64 1, .int .i64 0, .int .i64 1, .int .i64 3] 3))
     replace hC := ((hC.trans (Chg.of_below (bal (Bs _) _)))).trans (Chg.of_below hb)
     replace hR := (hR.below (bal (Bs _) _)).below hb
     have ol122 := Ob (World.ownsRow_lit (base := (w3).heap.size) (e := 3) (size := 1) (w3) #[.int .i64 0, .int .i64 1, .int .i64 0, .int .i64 1, .int .i64 3] 5 (Nat.le_refl _) (by unfold maxLen; omega) (by simp)) hb
     try simp only [Sa, Ss] at ol122
     have hsz123 := hb.size
     simp only [Sa] at hsz123
     clear tf121 tc120
     replace oX := Ob (Ob oX (bal (Bs _) _)) hb
     replace oV := Ob (Ob oV (bal (Bs _) _)) hb
     replace kb3 := Bk.below (Bk.al kb3 _) hb
     replace kb2 := Bk.below (Bk.al kb2 _) hb
     have bk124 : Bk w4 (w3.heap.size) [.int .i64 0, .int .i64 1, .int .i64 0, .int .i64 1, .int .i64 3] := Bk.below (Bk.nw (by simp) rfl) hb
     clear hb
     have iv125 := ol122.lt
     try simp only [Sa] at iv125
     rw [← hnw]
     clear hnw
     replace lt95 := Bk.lz kb3
     replace lt96 := Bk.lz kb2
     have lt126 := Bk.lz bk124
     refine hK.out _ _ trivial (fun hHeld => ?_)
     clear hK K
     try simp only [Act.put, sb, List.set]
     refine wpAnyH_ready (rs := [1, 4]) (by kernel_rfl) (by simp) ?_
     refine AllReadyH.cons rfl (fun K hK => ?_) ?_
     ·-- 1
      obtain ⟨tc127, tf128⟩ := Bk.cf kb3 1 rfl
      go_simp
      replace lt95 := Bk.lz kb3
      replace lt96 := Bk.lz kb2
      replace lt126 := Bk.lz bk124
      refine hK.out _ _ trivial (fun hHeld => ?_)
      clear hK K
      try simp only [Act.put, sb, List.set]
      refine Rdy 4 rfl (fun K hK => ?_)
      go_simp
      refine (num_any _ [0, 1, 0, 1, 3] _ B g (pk) hR (Ro ol122 (by simp)) (fun b o c hb => by simp at hb; omega) (by simp) (by simp) (by omega)).mono ?_
      rintro e w5 ⟨rr, rrm, rfl, hRn, hc⟩
      replace hC := (hC).trans hc
      replace hR := hRn; clear hRn
      have hsz129 := hc.size
      clear tf128 tc127
      replace oX := Ow oX hc (fun gq h h2 => by have := iX gq h; have := ird gq h2; omega)
      replace oV := Ow oV hc (fun gq h h2 => by have := iV gq h; have := ird gq h2; omega)
      replace ol122 := Ow ol122 hc (fun gq h h2 => by have := iv125 gq h; have := ird gq h2; omega)
      replace kb3 := Bk.keep kb3 hc (fun h => by have := ird _ h; omega)
      replace kb2 := Bk.keep kb2 hc (fun h => by have := ird _ h; omega)
      replace bk124 := Bk.keep bk124 hc (fun h => by have := ird _ h; omega)
      clear hc
      clear rrm
      replace lt95 := Bk.lz kb3
      replace lt96 := Bk.lz kb2
      replace lt126 := Bk.lz bk124
      refine hK.out _ _ trivial (fun hHeld => ?_)
      clear hK K
      try simp only [Act.put, sb, List.set]
      refine Rdy 5 rfl (fun K hK => ?_)
      go_simp
      obtain ⟨w6, hnw, hb⟩ := nmw (World.alloc w5 (.cells #[.int .i64 rr] 3))
      replace hC := ((hC.trans (Chg.of_below (bal (Bs _) _)))).trans (Chg.of_below hb)
      replace hR := (hR.below (bal (Bs _) _)).below hb
      have ol130 := Ob (World.ownsRow_lit (base := (w5).heap.size) (e := 3) (size := 1) (w5) #[.int .i64 rr] 1 (Nat.le_refl _) (by unfold maxLen; omega) (by simp)) hb
      try simp only [Sa, Ss] at ol130
      have hsz131 := hb.size
      simp only [Sa] at hsz131
      replace oX := Ob (Ob oX (bal (Bs _) _)) hb
      replace oV := Ob (Ob oV (bal (Bs _) _)) hb
      replace ol122 := Ob (Ob ol122 (bal (Bs _) _)) hb
      replace kb3 := Bk.below (Bk.al kb3 _) hb
      replace kb2 := Bk.below (Bk.al kb2 _) hb
      replace bk124 := Bk.below (Bk.al bk124 _) hb
      have bx132 : w6.cell? ⟨w5.heap.size, 0, none⟩ = some (.int .i64 rr) := Kc hb (Wc (by simp) (by rfl))
      have bf133 : w6.frozen? ⟨w5.heap.size, 0, none⟩ = false := Kf hb (by simp <;> omega) (Fn (by simp))
      clear hb
      have iv134 := ol130.lt
      try simp only [Sa] at iv134
      rw [← hnw]
      clear hnw
      replace lt95 := Bk.lz kb3
      replace lt96 := Bk.lz kb2
      replace lt126 := Bk.lz bk124
      have lt135 := Lc bx132
      refine hK.out _ _ trivial (fun hHeld => ?_)
      clear hK K
      try simp only [Act.put, sb, List.set]
      refine Rdy 6 rfl (fun K hK => ?_)
      refine step_aps tInts rfl _ _ rfl (w2.heap.size) _ m (ints xs) rfl oX _ 1 (ints [rr]) rfl ((Ro ol130 (by simp))) (one_ints [rr]) (by omega) (by first | omega | (simp only [Sa, Ss]; omega)) ?_
      intro vA w7 oA136 hc hNw _
      obtain ⟨pA136, tA136, rfl⟩ := Oh oA136
      replace hC := chg_app hC hc (fun q hq h => by have := iX q h; omega)
      replace hR := hR.keep hc (fun h => by have := iX _ h; omega) (fun k hk h => by have := iX _ h; omega)
      have hsz137 := hc.size
      replace bf133 := Gf hc (Lc bx132) bf133 (fun h => by have := iX _ h; omega)
      replace oV := Ow oV hc (fun gq h h2 => by have := iV gq h; have := iX gq h2; omega)
      replace ol122 := Ow ol122 hc (fun gq h h2 => by have := iv125 gq h; have := iX gq h2; omega)
      replace bx132 := Gc hc bx132 (fun h => by have := iX _ h; omega)
      replace ol130 := Ow ol130 hc (fun gq h h2 => by have := iv134 gq h; have := iX gq h2; omega)
      replace kb3 := Bk.keep kb3 hc (fun h => by have := iX _ h; omega)
      replace kb2 := Bk.keep kb2 hc (fun h => by have := iX _ h; omega)
      replace bk124 := Bk.keep bk124 hc (fun h => by have := iX _ h; omega)
      clear hc
      have iv138 := oA136.lt
      clear hNw oX
      replace lt95 := Bk.lz kb3
      replace lt96 := Bk.lz kb2
      replace lt126 := Bk.lz bk124
      replace lt135 := Lc bx132
      refine hK.out _ _ trivial (fun hHeld => ?_)
      clear hK K
      try simp only [Act.put, sb, List.set]
      refine (tq 7 36 rfl rfl ?_ ?_ ?_)
      (rotate_left; intro W' hSw; clear hSw; go_simp; try with_reducible rfl)
      try simp only [Act.put, sb, List.set]
      refine Rdy 8 rfl (fun K hK => ?_)
      obtain ⟨tc139, tf140⟩ := Bk.cf kb3 1 rfl
      go_simp
      obtain ⟨w8, hnw, hb⟩ := nmw (World.setCell w7 ⟨w.heap.size + 1, 1, none⟩ (.slice pA136 (m + 1) tA136))
      replace hC := ((hC.setNew _ _ _ (Or.inr (by omega)))).trans (Chg.of_below hb)
      replace hR := (hR.keep (C1 _ _ _) (by omega) (fun _ _ => by omega)).below hb
      have hsz141 := hb.size
      simp only [Ss] at hsz141
      clear tf140 tc139
      replace bf133 := Kf hb (Lc (Nc bx132 (by omega) _)) (Fs bf133 _)
      replace oV := Ob (Oe oV _ _ (fun h => by have := iV _ h; omega) _) hb
      replace ol122 := Ob (Oe ol122 _ _ (fun h => by have := iv125 _ h; omega) _) hb
      replace bx132 := Kc hb (Nc bx132 (by omega) _)
      replace ol130 := Ob (Oe ol130 _ _ (fun h => by have := iv134 _ h; omega) _) hb
      replace oA136 := Ob (Oe oA136 _ _ (fun h => by have := iv138 _ h; omega) _) hb
      replace kb3 : Bk w8 (w.heap.size + 1) [.slice av nv cv, .slice pA136 (m + 1) tA136, .slice none 0 0] := Bk.below (Bk.at kb3 1 (.slice pA136 (m + 1) tA136)) hb
      replace kb2 := Bk.below (Bk.ne kb2 (by omega) _) hb
      replace bk124 := Bk.below (Bk.ne bk124 (by omega) _) hb
      clear hb
      rw [← hnw]
      clear hnw
      replace lt95 := Bk.lz kb3
      replace lt96 := Bk.lz kb2
      replace lt126 := Bk.lz bk124
      replace lt135 := Lc bx132
      refine hK.out _ _ trivial (fun hHeld => ?_)
      clear hK K
      try simp only [Act.put, sb, List.set]
      refine wpAnyH_done (by kernel_rfl) ?_ _
      refine NoPanic.normal ?_
      clear hHeld
      have HO := Lib.hid (show w8.ownsRow w2.heap.size 3 1 _ (m + 1) (ints (xs ++ [rr])) from by rw [ints_append]; exact oA136)
      have HXL2 : Hid ((xs ++ [rr]).length = m + 1) := Lib.hid (by rw [List.length_append, HXL.out]; rfl)
      have HH := Lib.hid (And.intro hR hC); clear hR hC oA136
      obtain ⟨tc142, tf143⟩ := Bk.cf kb3 1 rfl
      go_wp2
      go_roundw
      case rel => exact ⟨k - 1, m + 1, xs ++ [rr], _, _, pk + 1, by congr 1; omega, by have := HMK.out; omega, HXL2, HO.out, kb3, kb2, oV, HH.out.1, by omega, HH.out.2, by omega⟩
      case measure => simp [intOf]; omega
     refine AllReadyH.cons rfl (fun K hK => ?_) AllReadyH.nil
     go_simp
     refine (num_any _ [0, 1, 0, 1, 3] _ B g (pk) hR (Ro ol122 (by simp)) (fun b o c hb => by simp at hb; omega) (by simp) (by simp) (by omega)).mono ?_
     rintro e w5 ⟨rr, rrm, rfl, hRn, hc⟩
     replace hC := (hC).trans hc
     replace hR := hRn; clear hRn
     have hsz144 := hc.size
     replace oX := Ow oX hc (fun gq h h2 => by have := iX gq h; have := ird gq h2; omega)
     replace oV := Ow oV hc (fun gq h h2 => by have := iV gq h; have := ird gq h2; omega)
     replace ol122 := Ow ol122 hc (fun gq h h2 => by have := iv125 gq h; have := ird gq h2; omega)
     replace kb3 := Bk.keep kb3 hc (fun h => by have := ird _ h; omega)
     replace kb2 := Bk.keep kb2 hc (fun h => by have := ird _ h; omega)
     replace bk124 := Bk.keep bk124 hc (fun h => by have := ird _ h; omega)
     clear hc
     clear rrm
     replace lt95 := Bk.lz kb3
     replace lt96 := Bk.lz kb2
     replace lt126 := Bk.lz bk124
     refine hK.out _ _ trivial (fun hHeld => ?_)
     clear hK K
     try simp only [Act.put, sb, List.set]
     refine wpAnyH_ready (rs := [1, 5]) (by kernel_rfl) (by simp) ?_
     refine AllReadyH.cons rfl (fun K hK => ?_) ?_
     ·-- 1
      obtain ⟨tc145, tf146⟩ := Bk.cf kb3 1 rfl
      go_simp
      replace lt95 := Bk.lz kb3
      replace lt96 := Bk.lz kb2
      replace lt126 := Bk.lz bk124
      refine hK.out _ _ trivial (fun hHeld => ?_)
      clear hK K
      try simp only [Act.put, sb, List.set]
      refine Rdy 5 rfl (fun K hK => ?_)
      go_simp
      obtain ⟨w6, hnw, hb⟩ := nmw (World.alloc w5 (.cells #[.int .i64 rr] 3))
      replace hC := ((hC.trans (Chg.of_below (bal (Bs _) _)))).trans (Chg.of_below hb)
      replace hR := (hR.below (bal (Bs _) _)).below hb
      have ol147 := Ob (World.ownsRow_lit (base := (w5).heap.size) (e := 3) (size := 1) (w5) #[.int .i64 rr] 1 (Nat.le_refl _) (by unfold maxLen; omega) (by simp)) hb
      try simp only [Sa, Ss] at ol147
      have hsz148 := hb.size
      simp only [Sa] at hsz148
      clear tf146 tc145
      replace oX := Ob (Ob oX (bal (Bs _) _)) hb
      replace oV := Ob (Ob oV (bal (Bs _) _)) hb
      replace ol122 := Ob (Ob ol122 (bal (Bs _) _)) hb
      replace kb3 := Bk.below (Bk.al kb3 _) hb
      replace kb2 := Bk.below (Bk.al kb2 _) hb
      replace bk124 := Bk.below (Bk.al bk124 _) hb
      have bx149 : w6.cell? ⟨w5.heap.size, 0, none⟩ = some (.int .i64 rr) := Kc hb (Wc (by simp) (by rfl))
      have bf150 : w6.frozen? ⟨w5.heap.size, 0, none⟩ = false := Kf hb (by simp <;> omega) (Fn (by simp))
      clear hb
      have iv151 := ol147.lt
      try simp only [Sa] at iv151
      rw [← hnw]
      clear hnw
      replace lt95 := Bk.lz kb3
      replace lt96 := Bk.lz kb2
      replace lt126 := Bk.lz bk124
      have lt152 := Lc bx149
      refine hK.out _ _ trivial (fun hHeld => ?_)
      clear hK K
      try simp only [Act.put, sb, List.set]
      refine Rdy 6 rfl (fun K hK => ?_)
      refine step_aps tInts rfl _ _ rfl (w2.heap.size) _ m (ints xs) rfl oX _ 1 (ints [rr]) rfl ((Ro ol147 (by simp))) (one_ints [rr]) (by omega) (by first | omega | (simp only [Sa, Ss]; omega)) ?_
      intro vA w7 oA153 hc hNw _
      obtain ⟨pA153, tA153, rfl⟩ := Oh oA153
      replace hC := chg_app hC hc (fun q hq h => by have := iX q h; omega)
      replace hR := hR.keep hc (fun h => by have := iX _ h; omega) (fun k hk h => by have := iX _ h; omega)
      have hsz154 := hc.size
      replace bf150 := Gf hc (Lc bx149) bf150 (fun h => by have := iX _ h; omega)
      replace oV := Ow oV hc (fun gq h h2 => by have := iV gq h; have := iX gq h2; omega)
      replace ol122 := Ow ol122 hc (fun gq h h2 => by have := iv125 gq h; have := iX gq h2; omega)
      replace bx149 := Gc hc bx149 (fun h => by have := iX _ h; omega)
      replace ol147 := Ow ol147 hc (fun gq h h2 => by have := iv151 gq h; have := iX gq h2; omega)
      replace kb3 := Bk.keep kb3 hc (fun h => by have := iX _ h; omega)
      replace kb2 := Bk.keep kb2 hc (fun h => by have := iX _ h; omega)
      replace bk124 := Bk.keep bk124 hc (fun h => by have := iX _ h; omega)
      clear hc
      have iv155 := oA153.lt
      clear hNw oX
      replace lt95 := Bk.lz kb3
      replace lt96 := Bk.lz kb2
      replace lt126 := Bk.lz bk124
      replace lt152 := Lc bx149
      refine hK.out _ _ trivial (fun hHeld => ?_)
      clear hK K
      try simp only [Act.put, sb, List.set]
      refine (tq 7 36 rfl rfl ?_ ?_ ?_)
      (rotate_left; intro W' hSw; clear hSw; go_simp; try with_reducible rfl)
      try simp only [Act.put, sb, List.set]
      refine Rdy 8 rfl (fun K hK => ?_)
      obtain ⟨tc156, tf157⟩ := Bk.cf kb3 1 rfl
      go_simp
      obtain ⟨w8, hnw, hb⟩ := nmw (World.setCell w7 ⟨w.heap.size + 1, 1, none⟩ (.slice pA153 (m + 1) tA153))
      replace hC := ((hC.setNew _ _ _ (Or.inr (by omega)))).trans (Chg.of_below hb)
      replace hR := (hR.keep (C1 _ _ _) (by omega) (fun _ _ => by omega)).below hb
      have hsz158 := hb.size
      simp only [Ss] at hsz158
      clear tf157 tc156
      replace bf150 := Kf hb (Lc (Nc bx149 (by omega) _)) (Fs bf150 _)
      replace oV := Ob (Oe oV _ _ (fun h => by have := iV _ h; omega) _) hb
      replace ol122 := Ob (Oe ol122 _ _ (fun h => by have := iv125 _ h; omega) _) hb
      replace bx149 := Kc hb (Nc bx149 (by omega) _)
      replace ol147 := Ob (Oe ol147 _ _ (fun h => by have := iv151 _ h; omega) _) hb
      replace oA153 := Ob (Oe oA153 _ _ (fun h => by have := iv155 _ h; omega) _) hb
      replace kb3 : Bk w8 (w.heap.size + 1) [.slice av nv cv, .slice pA153 (m + 1) tA153, .slice none 0 0] := Bk.below (Bk.at kb3 1 (.slice pA153 (m + 1) tA153)) hb
      replace kb2 := Bk.below (Bk.ne kb2 (by omega) _) hb
      replace bk124 := Bk.below (Bk.ne bk124 (by omega) _) hb
      clear hb
      rw [← hnw]
      clear hnw
      replace lt95 := Bk.lz kb3
      replace lt96 := Bk.lz kb2
      replace lt126 := Bk.lz bk124
      replace lt152 := Lc bx149
      refine hK.out _ _ trivial (fun hHeld => ?_)
      clear hK K
      try simp only [Act.put, sb, List.set]
      refine wpAnyH_done (by kernel_rfl) ?_ _
      refine NoPanic.normal ?_
      clear hHeld
      have HO := Lib.hid (show w8.ownsRow w2.heap.size 3 1 _ (m + 1) (ints (xs ++ [rr])) from by rw [ints_append]; exact oA153)
      have HXL2 : Hid ((xs ++ [rr]).length = m + 1) := Lib.hid (by rw [List.length_append, HXL.out]; rfl)
      have HH := Lib.hid (And.intro hR hC); clear hR hC oA153
      obtain ⟨tc159, tf160⟩ := Bk.cf kb3 1 rfl
      go_wp2
      go_roundw
      case rel => exact ⟨k - 1, m + 1, xs ++ [rr], _, _, pk + 1, by congr 1; omega, by have := HMK.out; omega, HXL2, HO.out, kb3, kb2, oV, HH.out.1, by omega, HH.out.2, by omega⟩
      case measure => simp [intOf]; omega
     refine AllReadyH.cons rfl (fun K hK => ?_) AllReadyH.nil
     go_simp
     obtain ⟨w6, hnw, hb⟩ := nmw (World.alloc w5 (.cells #[.int .i64 rr] 3))
     replace hC := ((hC.trans (Chg.of_below (bal (Bs _) _)))).trans (Chg.of_below hb)
     replace hR := (hR.below (bal (Bs _) _)).below hb
     have ol161 := Ob (World.ownsRow_lit (base := (w5).heap.size) (e := 3) (size := 1) (w5) #[.int .i64 rr] 1 (Nat.le_refl _) (by unfold maxLen; omega) (by simp)) hb
     try simp only [Sa, Ss] at ol161
     have hsz162 := hb.size
     simp only [Sa] at hsz162
     replace oX := Ob (Ob oX (bal (Bs _) _)) hb
     replace oV := Ob (Ob oV (bal (Bs _) _)) hb
     replace ol122 := Ob (Ob ol122 (bal (Bs _) _)) hb
     replace kb3 := Bk.below (Bk.al kb3 _) hb
     replace kb2 := Bk.below (Bk.al kb2 _) hb
     replace bk124 := Bk.below (Bk.al bk124 _) hb
     have bx163 : w6.cell? ⟨w5.heap.size, 0, none⟩ = some (.int .i64 rr) := Kc hb (Wc (by simp) (by rfl))
     have bf164 : w6.frozen? ⟨w5.heap.size, 0, none⟩ = false := Kf hb (by simp <;> omega) (Fn (by simp))
     clear hb
     have iv165 := ol161.lt
     try simp only [Sa] at iv165
     rw [← hnw]
     clear hnw
     replace lt95 := Bk.lz kb3
     replace lt96 := Bk.lz kb2
     replace lt126 := Bk.lz bk124
     have lt166 := Lc bx163
     refine hK.out _ _ trivial (fun hHeld => ?_)
     clear hK K
     try simp only [Act.put, sb, List.set]
     refine Rdy 1 rfl (fun K hK => ?_)
     obtain ⟨tc167, tf168⟩ := Bk.cf kb3 1 rfl
     go_simp
     replace lt95 := Bk.lz kb3
     replace lt96 := Bk.lz kb2
     replace lt126 := Bk.lz bk124
     replace lt166 := Lc bx163
     refine hK.out _ _ trivial (fun hHeld => ?_)
     clear hK K
     try simp only [Act.put, sb, List.set]
     refine Rdy 6 rfl (fun K hK => ?_)
     refine step_aps tInts rfl _ _ rfl (w2.heap.size) _ m (ints xs) rfl oX _ 1 (ints [rr]) rfl ((Ro ol161 (by simp))) (one_ints [rr]) (by omega) (by first | omega | (simp only [Sa, Ss]; omega)) ?_
     intro vA w7 oA169 hc hNw _
     obtain ⟨pA169, tA169, rfl⟩ := Oh oA169
     replace hC := chg_app hC hc (fun q hq h => by have := iX q h; omega)
     replace hR := hR.keep hc (fun h => by have := iX _ h; omega) (fun k hk h => by have := iX _ h; omega)
     have hsz170 := hc.size
     clear tf168 tc167
     replace bf164 := Gf hc (Lc bx163) bf164 (fun h => by have := iX _ h; omega)
     replace oV := Ow oV hc (fun gq h h2 => by have := iV gq h; have := iX gq h2; omega)
     replace ol122 := Ow ol122 hc (fun gq h h2 => by have := iv125 gq h; have := iX gq h2; omega)
     replace bx163 := Gc hc bx163 (fun h => by have := iX _ h; omega)
     replace ol161 := Ow ol161 hc (fun gq h h2 => by have := iv165 gq h; have := iX gq h2; omega)
     replace kb3 := Bk.keep kb3 hc (fun h => by have := iX _ h; omega)
     replace kb2 := Bk.keep kb2 hc (fun h => by have := iX _ h; omega)
     replace bk124 := Bk.keep bk124 hc (fun h => by have := iX _ h; omega)
     clear hc
     have iv171 := oA169.lt
     clear hNw oX
     replace lt95 := Bk.lz kb3
     replace lt96 := Bk.lz kb2
     replace lt126 := Bk.lz bk124
     replace lt166 := Lc bx163
     refine hK.out _ _ trivial (fun hHeld => ?_)
     clear hK K
     try simp only [Act.put, sb, List.set]
     refine (tq 7 36 rfl rfl ?_ ?_ ?_)
     (rotate_left; intro W' hSw; clear hSw; go_simp; try with_reducible rfl)
     try simp only [Act.put, sb, List.set]
     refine Rdy 8 rfl (fun K hK => ?_)
     obtain ⟨tc172, tf173⟩ := Bk.cf kb3 1 rfl
     go_simp
     obtain ⟨w8, hnw, hb⟩ := nmw (World.setCell w7 ⟨w.heap.size + 1, 1, none⟩ (.slice pA169 (m + 1) tA169))
     replace hC := ((hC.setNew _ _ _ (Or.inr (by omega)))).trans (Chg.of_below hb)
     replace hR := (hR.keep (C1 _ _ _) (by omega) (fun _ _ => by omega)).below hb
     have hsz174 := hb.size
     simp only [Ss] at hsz174
     clear tf173 tc172
     replace bf164 := Kf hb (Lc (Nc bx163 (by omega) _)) (Fs bf164 _)
     replace oV := Ob (Oe oV _ _ (fun h => by have := iV _ h; omega) _) hb
     replace ol122 := Ob (Oe ol122 _ _ (fun h => by have := iv125 _ h; omega) _) hb
     replace bx163 := Kc hb (Nc bx163 (by omega) _)
     replace ol161 := Ob (Oe ol161 _ _ (fun h => by have := iv165 _ h; omega) _) hb
     replace oA169 := Ob (Oe oA169 _ _ (fun h => by have := iv171 _ h; omega) _) hb
     replace kb3 : Bk w8 (w.heap.size + 1) [.slice av nv cv, .slice pA169 (m + 1) tA169, .slice none 0 0] := Bk.below (Bk.at kb3 1 (.slice pA169 (m + 1) tA169)) hb
     replace kb2 := Bk.below (Bk.ne kb2 (by omega) _) hb
     replace bk124 := Bk.below (Bk.ne bk124 (by omega) _) hb
     clear hb
     rw [← hnw]
     clear hnw
     replace lt95 := Bk.lz kb3
     replace lt96 := Bk.lz kb2
     replace lt126 := Bk.lz bk124
     replace lt166 := Lc bx163
     refine hK.out _ _ trivial (fun hHeld => ?_)
     clear hK K
     try simp only [Act.put, sb, List.set]
     refine wpAnyH_done (by kernel_rfl) ?_ _
     refine NoPanic.normal ?_
     clear hHeld
     have HO := Lib.hid (show w8.ownsRow w2.heap.size 3 1 _ (m + 1) (ints (xs ++ [rr])) from by rw [ints_append]; exact oA169)
     have HXL2 : Hid ((xs ++ [rr]).length = m + 1) := Lib.hid (by rw [List.length_append, HXL.out]; rfl)
     have HH := Lib.hid (And.intro hR hC); clear hR hC oA169
     obtain ⟨tc175, tf176⟩ := Bk.cf kb3 1 rfl
     go_wp2
     go_roundw
     case rel => exact ⟨k - 1, m + 1, xs ++ [rr], _, _, pk + 1, by congr 1; omega, by have := HMK.out; omega, HXL2, HO.out, kb3, kb2, oV, HH.out.1, by omega, HH.out.2, by omega⟩
     case measure => simp [intOf]; omega
    ·have hk00 : k = 0 := by omega
     subst hk00
     have hmk2 : m = t1 := by have := HMK.out; omega
     have hna : m ≤ 2 := by omega
     clear hmk2 HMK hk0 hmk1
     have hb3 : w1.heap.size ≤ w2.heap.size := by omega
     go_upto_region 10 with (fail)
     have lt177 := Bk.lz kb3
     have lt178 := Bk.lz kb2
     go_cut [41] (fun _ wx => ∃ (aL : Option Addr) (cL pL : Nat) (L : List St), Bk wx (w.heap.size + 1) [.slice av nv cv, .slice a m c, .slice aL L.length cL] ∧ Bk wx (w.heap.size) [.slice none 0 0, .slice none 0 0, .slice none 0 0] ∧ wx.ownsRow w1.heap.size 3 1 (.slice av nv cv) nv (ints us) ∧ wx.ownsRow w2.heap.size 3 1 (.slice a m c) m (ints xs) ∧ BlAt wx (fun q => wlb.heap.size ≤ q ∧ q < wx.heap.size) 3 (.slice aL L.length cL) L ∧ L.length ≤ 4 ∧ Hid (∀ x ∈ L, SmS 3 x) ∧ Rnd wx B g pL ∧ pL ≤ p + 2600000 ∧ Chg (fun q => q = g) w wx ∧ wlb.heap.size ≤ wx.heap.size)
     case first =>
      replace lt177 := Bk.lz kb3
      replace lt178 := Bk.lz kb2
      refine wp_region_noPanic ?_
      refine wp_region_held_drew (S := (fun W' => True)) (by kernel_rfl) trivial (fun hHeld => ?_)
      obtain ⟨w3, hwd⟩ : ∃ X, X = World.drew wlb := ⟨_, rfl⟩
      rw [← hwd]
      have hb : Below wlb.heap.size wlb w3 := by rw [hwd]; exact Below.drew (Bs _)
      clear hwd
      replace hC := (hC).trans (Chg.of_below hb)
      replace hR := hR.below hb
      have hsz179 := hb.size
      replace oX := Ob oX hb
      replace oV := Ob oV hb
      replace kb3 := Bk.below kb3 hb
      replace kb2 := Bk.below kb2 hb
      clear hb
      replace lt177 := Bk.lz kb3
      replace lt178 := Bk.lz kb2
      refine (tq 0 37 rfl rfl ?_ ?_ (tq 2 39 rfl rfl ?_ ?_ ?_))
      iterate 2 (rotate_left; intro W' hSw; clear hSw; go_simp; try with_reducible rfl)
      try simp only [Act.put, sb, List.set]
      refine wpAnyH_ready (rs := [1, 3]) (by kernel_rfl) (by simp) ?_
      refine AllReadyH.cons rfl (fun K hK => ?_) ?_
      ·-- 1
       obtain ⟨tc180, tf181⟩ := Bk.cf kb3 0 rfl
       obtain ⟨tc182, tf183⟩ := Bk.cf kb3 1 rfl
       obtain ⟨tc184, tf185⟩ := Bk.cf kb3 2 rfl
       go_simp
       replace lt177 := Bk.lz kb3
       replace lt178 := Bk.lz kb2
       refine hK.out _ _ trivial (fun hHeld => ?_)
       clear hK K
       try simp only [Act.put, sb, List.set]
       refine Rdy 3 rfl (fun K hK => ?_)
       go_simp
       obtain ⟨w4, hnw, hb⟩ := nmw (World.alloc w3 (.cells #[.int .i64 2, .int .i64 3, .int .i64 1, .int .i64 4] 3))
       replace hC := ((hC.trans (Chg.of_below (bal (Bs _) _)))).trans (Chg.of_below hb)
       replace hR := (hR.below (bal (Bs _) _)).below hb
       have ol186 := Ob (World.ownsRow_lit (base := (w3).heap.size) (e := 3) (size := 1) (w3) #[.int .i64 2, .int .i64 3, .int .i64 1, .int .i64 4] 4 (Nat.le_refl _) (by unfold maxLen; omega) (by simp)) hb
       try simp only [Sa, Ss] at ol186
       have hsz187 := hb.size
       simp only [Sa] at hsz187
       clear tf181 tc180 tf183 tc182 tf185 tc184
       replace oX := Ob (Ob oX (bal (Bs _) _)) hb
       replace oV := Ob (Ob oV (bal (Bs _) _)) hb
       replace kb3 := Bk.below (Bk.al kb3 _) hb
       replace kb2 := Bk.below (Bk.al kb2 _) hb
       have bk188 : Bk w4 (w3.heap.size) [.int .i64 2, .int .i64 3, .int .i64 1, .int .i64 4] := Bk.below (Bk.nw (by simp) rfl) hb
       clear hb
       have iv189 := ol186.lt
       try simp only [Sa] at iv189
       rw [← hnw]
       clear hnw
       replace lt177 := Bk.lz kb3
       replace lt178 := Bk.lz kb2
       have lt190 := Bk.lz bk188
       refine hK.out _ _ trivial (fun hHeld => ?_)
       clear hK K
       try simp only [Act.put, sb, List.set]
       refine Rdy 4 rfl (fun K hK => ?_)
       go_simp
       refine (num_any _ [2, 3, 1, 4] _ B g (pk) hR (Ro ol186 (by simp)) (fun b o c hb => by simp at hb; omega) (by simp) (by simp) (by omega)).mono ?_
       rintro e w5 ⟨n2, n2m, rfl, hRn, hc⟩
       replace hC := (hC).trans hc
       replace hR := hRn; clear hRn
       have hsz191 := hc.size
       replace oX := Ow oX hc (fun gq h h2 => by have := iX gq h; have := ird gq h2; omega)
       replace oV := Ow oV hc (fun gq h h2 => by have := iV gq h; have := ird gq h2; omega)
       replace ol186 := Ow ol186 hc (fun gq h h2 => by have := iv189 gq h; have := ird gq h2; omega)
       replace kb3 := Bk.keep kb3 hc (fun h => by have := ird _ h; omega)
       replace kb2 := Bk.keep kb2 hc (fun h => by have := ird _ h; omega)
       replace bk188 := Bk.keep bk188 hc (fun h => by have := ird _ h; omega)
       clear hc
       obtain ⟨t2, rfl, ht4⟩ : ∃ t : Nat, n2 = t ∧ t ≤ 4 := by simp only [List.mem_cons, List.not_mem_nil, or_false] at n2m; exact ⟨n2.toNat, by omega, by omega⟩
       replace lt177 := Bk.lz kb3
       replace lt178 := Bk.lz kb2
       replace lt190 := Bk.lz bk188
       refine hK.out _ _ trivial (fun hHeld => ?_)
       clear hK K
       try simp only [Act.put, sb, List.set]
       refine Rdy 5 rfl (fun K hK => ?_)
       go_simp
       have hts : t2 * scost 3 ≤ 4 * 630000 := Nat.mul_le_mul ht4 (by decide)
       have HBK := Lib.hid ((l2DrawBoth av a nv cv m c (.slice none 0 0) B g hnv.1 ⟨by omega, by omega⟩ 2 (by omega)).2 t2 (pk + 1) _ ht4 hR (by show pk + 1 + t2 * scost 3 ≤ _; omega))
       refine (HBK.out).mono ?_
       rintro e w6 ⟨aL, cL, L, pL, rfl, hBL, hlL, hsL, hRn, hqL, hc⟩
       replace hC := (hC).trans hc
       replace hR := hRn; clear hRn
       have hsz192 := hc.size
       replace oX := Ow oX hc (fun gq h h2 => by have := iX gq h; have := ird gq h2; omega)
       replace oV := Ow oV hc (fun gq h h2 => by have := iV gq h; have := ird gq h2; omega)
       replace ol186 := Ow ol186 hc (fun gq h h2 => by have := iv189 gq h; have := ird gq h2; omega)
       replace kb3 := Bk.keep kb3 hc (fun h => by have := ird _ h; omega)
       replace kb2 := Bk.keep kb2 hc (fun h => by have := ird _ h; omega)
       replace bk188 := Bk.keep bk188 hc (fun h => by have := ird _ h; omega)
       clear hc
       clear HBK
       have HSL := Lib.hid hsL; have hlL2 : L.length ≤ 4 := (by omega); have hqL2 : pL ≤ pk + 1 + 4 * 630000 := by have : pL ≤ pk + 1 + t2 * scost 3 := hqL; omega
       clear hlL hsL hqL hts
       replace hBL := BlAt.keep2 (S := fun _ => False) (Chg.refl _ _) (fun _ _ _ => id) (fun q (hq : w5.heap.size ≤ q) hlt => (show w5.heap.size ≤ q ∧ q < w6.heap.size from ⟨hq, hlt⟩)) (Nat.le_refl _) hBL
       replace lt177 := Bk.lz kb3
       replace lt178 := Bk.lz kb2
       replace lt190 := Bk.lz bk188
       refine hK.out _ _ trivial (fun hHeld => ?_)
       clear hK K
       try simp only [Act.put, sb, List.set]
       refine (tq 6 43 rfl rfl ?_ ?_ ?_)
       (rotate_left; intro W' hSw; clear hSw; go_simp; try with_reducible rfl)
       try simp only [Act.put, sb, List.set]
       refine Rdy 7 rfl (fun K hK => ?_)
       obtain ⟨tc193, tf194⟩ := Bk.cf kb3 2 rfl
       go_simp
       obtain ⟨w7, hnw, hb⟩ := nmw (World.setCell w6 ⟨w.heap.size + 1, 2, none⟩ (.slice aL L.length cL))
       replace hC := ((hC.setNew _ _ _ (Or.inr (by omega)))).trans (Chg.of_below hb)
       replace hR := (hR.keep (C1 _ _ _) (by omega) (fun _ _ => by omega)).below hb
       replace hBL := ((BlAt.keep2 (C1 _ _ _) (fun q (hq : w5.heap.size ≤ q ∧ q < w6.heap.size) _ (h : q = (w.heap.size + 1)) => by omega) (fun _ h _ => h) (Nat.le_refl _) hBL).below hb)
       have hsz195 := hb.size
       simp only [Ss] at hsz195
       clear tf194 tc193
       replace oX := Ob (Oe oX _ _ (fun h => by have := iX _ h; omega) _) hb
       replace oV := Ob (Oe oV _ _ (fun h => by have := iV _ h; omega) _) hb
       replace ol186 := Ob (Oe ol186 _ _ (fun h => by have := iv189 _ h; omega) _) hb
       replace kb3 : Bk w7 (w.heap.size + 1) [.slice av nv cv, .slice a m c, .slice aL L.length cL] := Bk.below (Bk.at kb3 2 (.slice aL L.length cL)) hb
       replace kb2 := Bk.below (Bk.ne kb2 (by omega) _) hb
       replace bk188 := Bk.below (Bk.ne bk188 (by omega) _) hb
       clear hb
       rw [← hnw]
       clear hnw
       replace lt177 := Bk.lz kb3
       replace lt178 := Bk.lz kb2
       replace lt190 := Bk.lz bk188
       refine hK.out _ _ trivial (fun hHeld => ?_)
       clear hK K
       try simp only [Act.put, sb, List.set]
       refine wpAnyH_done (by kernel_rfl) ?_ _
       refine NoPanic.normal ?_
       clear hHeld
       obtain ⟨tc196, tf197⟩ := Bk.cf kb3 2 rfl
       go_wp2_with fail
       go_meet
       exact ⟨aL, cL, pL, L, kb3, kb2, oV, oX, BlAt.keep2 (S := fun _ => False) (Chg.refl _ _) (fun _ _ _ => id) (fun q (hq : w5.heap.size ≤ q ∧ q < w6.heap.size) hlt => ⟨by omega, hlt⟩) (Nat.le_refl _) hBL, hlL2, HSL, hR, by omega, hC, by omega⟩
      refine AllReadyH.cons rfl (fun K hK => ?_) AllReadyH.nil
      obtain ⟨tc198, tf199⟩ := Bk.cf kb3 0 rfl
      obtain ⟨tc200, tf201⟩ := Bk.cf kb3 1 rfl
      obtain ⟨tc202, tf203⟩ := Bk.cf kb3 2 rfl
      go_simp
      obtain ⟨w4, hnw, hb⟩ := nmw (World.alloc w3 (.cells #[.int .i64 2, .int .i64 3, .int .i64 1, .int .i64 4] 3))
      replace hC := ((hC.trans (Chg.of_below (bal (Bs _) _)))).trans (Chg.of_below hb)
      replace hR := (hR.below (bal (Bs _) _)).below hb
      have ol204 := Ob (World.ownsRow_lit (base := (w3).heap.size) (e := 3) (size := 1) (w3) #[.int .i64 2, .int .i64 3, .int .i64 1, .int .i64 4] 4 (Nat.le_refl _) (by unfold maxLen; omega) (by simp)) hb
      try simp only [Sa, Ss] at ol204
      have hsz205 := hb.size
      simp only [Sa] at hsz205
      clear tf199 tc198 tf201 tc200 tf203 tc202
      replace oX := Ob (Ob oX (bal (Bs _) _)) hb
      replace oV := Ob (Ob oV (bal (Bs _) _)) hb
      replace kb3 := Bk.below (Bk.al kb3 _) hb
      replace kb2 := Bk.below (Bk.al kb2 _) hb
      have bk206 : Bk w4 (w3.heap.size) [.int .i64 2, .int .i64 3, .int .i64 1, .int .i64 4] := Bk.below (Bk.nw (by simp) rfl) hb
      clear hb
      have iv207 := ol204.lt
      try simp only [Sa] at iv207
      rw [← hnw]
      clear hnw
      replace lt177 := Bk.lz kb3
      replace lt178 := Bk.lz kb2
      have lt208 := Bk.lz bk206
      refine hK.out _ _ trivial (fun hHeld => ?_)
      clear hK K
      try simp only [Act.put, sb, List.set]
      refine wpAnyH_ready (rs := [1, 4]) (by kernel_rfl) (by simp) ?_
      refine AllReadyH.cons rfl (fun K hK => ?_) ?_
      ·-- 1
       obtain ⟨tc209, tf210⟩ := Bk.cf kb3 0 rfl
       obtain ⟨tc211, tf212⟩ := Bk.cf kb3 1 rfl
       obtain ⟨tc213, tf214⟩ := Bk.cf kb3 2 rfl
       go_simp
       replace lt177 := Bk.lz kb3
       replace lt178 := Bk.lz kb2
       replace lt208 := Bk.lz bk206
       refine hK.out _ _ trivial (fun hHeld => ?_)
       clear hK K
       try simp only [Act.put, sb, List.set]
       refine Rdy 4 rfl (fun K hK => ?_)
       go_simp
       refine (num_any _ [2, 3, 1, 4] _ B g (pk) hR (Ro ol204 (by simp)) (fun b o c hb => by simp at hb; omega) (by simp) (by simp) (by omega)).mono ?_
       rintro e w5 ⟨n2, n2m, rfl, hRn, hc⟩
       replace hC := (hC).trans hc
       replace hR := hRn; clear hRn
       have hsz215 := hc.size
       clear tf210 tc209 tf212 tc211 tf214 tc213
       replace oX := Ow oX hc (fun gq h h2 => by have := iX gq h; have := ird gq h2; omega)
       replace oV := Ow oV hc (fun gq h h2 => by have := iV gq h; have := ird gq h2; omega)
       replace ol204 := Ow ol204 hc (fun gq h h2 => by have := iv207 gq h; have := ird gq h2; omega)
       replace kb3 := Bk.keep kb3 hc (fun h => by have := ird _ h; omega)
       replace kb2 := Bk.keep kb2 hc (fun h => by have := ird _ h; omega)
       replace bk206 := Bk.keep bk206 hc (fun h => by have := ird _ h; omega)
       clear hc
       obtain ⟨t2, rfl, ht4⟩ : ∃ t : Nat, n2 = t ∧ t ≤ 4 := by simp only [List.mem_cons, List.not_mem_nil, or_false] at n2m; exact ⟨n2.toNat, by omega, by omega⟩
       replace lt177 := Bk.lz kb3
       replace lt178 := Bk.lz kb2
       replace lt208 := Bk.lz bk206
       refine hK.out _ _ trivial (fun hHeld => ?_)
       clear hK K
       try simp only [Act.put, sb, List.set]
       refine Rdy 5 rfl (fun K hK => ?_)
       go_simp
       have hts : t2 * scost 3 ≤ 4 * 630000 := Nat.mul_le_mul ht4 (by decide)
       have HBK := Lib.hid ((l2DrawBoth av a nv cv m c (.slice none 0 0) B g hnv.1 ⟨by omega, by omega⟩ 2 (by omega)).2 t2 (pk + 1) _ ht4 hR (by show pk + 1 + t2 * scost 3 ≤ _; omega))
       refine (HBK.out).mono ?_
       rintro e w6 ⟨aL, cL, L, pL, rfl, hBL, hlL, hsL, hRn, hqL, hc⟩
       replace hC := (hC).trans hc
       replace hR := hRn; clear hRn
       have hsz216 := hc.size
       replace oX := Ow oX hc (fun gq h h2 => by have := iX gq h; have := ird gq h2; omega)
       replace oV := Ow oV hc (fun gq h h2 => by have := iV gq h; have := ird gq h2; omega)
       replace ol204 := Ow ol204 hc (fun gq h h2 => by have := iv207 gq h; have := ird gq h2; omega)
       replace kb3 := Bk.keep kb3 hc (fun h => by have := ird _ h; omega)
       replace kb2 := Bk.keep kb2 hc (fun h => by have := ird _ h; omega)
       replace bk206 := Bk.keep bk206 hc (fun h => by have := ird _ h; omega)
       clear hc
       clear HBK
       have HSL := Lib.hid hsL; have hlL2 : L.length ≤ 4 := (by omega); have hqL2 : pL ≤ pk + 1 + 4 * 630000 := by have : pL ≤ pk + 1 + t2 * scost 3 := hqL; omega
       clear hlL hsL hqL hts
       replace hBL := BlAt.keep2 (S := fun _ => False) (Chg.refl _ _) (fun _ _ _ => id) (fun q (hq : w5.heap.size ≤ q) hlt => (show w5.heap.size ≤ q ∧ q < w6.heap.size from ⟨hq, hlt⟩)) (Nat.le_refl _) hBL
       replace lt177 := Bk.lz kb3
       replace lt178 := Bk.lz kb2
       replace lt208 := Bk.lz bk206
       refine hK.out _ _ trivial (fun hHeld => ?_)
       clear hK K
       try simp only [Act.put, sb, List.set]
       refine (tq 6 43 rfl rfl ?_ ?_ ?_)
       (rotate_left; intro W' hSw; clear hSw; go_simp; try with_reducible rfl)
       try simp only [Act.put, sb, List.set]
       refine Rdy 7 rfl (fun K hK => ?_)
       obtain ⟨tc217, tf218⟩ := Bk.cf kb3 2 rfl
       go_simp
       obtain ⟨w7, hnw, hb⟩ := nmw (World.setCell w6 ⟨w.heap.size + 1, 2, none⟩ (.slice aL L.length cL))
       replace hC := ((hC.setNew _ _ _ (Or.inr (by omega)))).trans (Chg.of_below hb)
       replace hR := (hR.keep (C1 _ _ _) (by omega) (fun _ _ => by omega)).below hb
       replace hBL := ((BlAt.keep2 (C1 _ _ _) (fun q (hq : w5.heap.size ≤ q ∧ q < w6.heap.size) _ (h : q = (w.heap.size + 1)) => by omega) (fun _ h _ => h) (Nat.le_refl _) hBL).below hb)
       have hsz219 := hb.size
       simp only [Ss] at hsz219
       clear tf218 tc217
       replace oX := Ob (Oe oX _ _ (fun h => by have := iX _ h; omega) _) hb
       replace oV := Ob (Oe oV _ _ (fun h => by have := iV _ h; omega) _) hb
       replace ol204 := Ob (Oe ol204 _ _ (fun h => by have := iv207 _ h; omega) _) hb
       replace kb3 : Bk w7 (w.heap.size + 1) [.slice av nv cv, .slice a m c, .slice aL L.length cL] := Bk.below (Bk.at kb3 2 (.slice aL L.length cL)) hb
       replace kb2 := Bk.below (Bk.ne kb2 (by omega) _) hb
       replace bk206 := Bk.below (Bk.ne bk206 (by omega) _) hb
       clear hb
       rw [← hnw]
       clear hnw
       replace lt177 := Bk.lz kb3
       replace lt178 := Bk.lz kb2
       replace lt208 := Bk.lz bk206
       refine hK.out _ _ trivial (fun hHeld => ?_)
       clear hK K
       try simp only [Act.put, sb, List.set]
       refine wpAnyH_done (by kernel_rfl) ?_ _
       refine NoPanic.normal ?_
       clear hHeld
       obtain ⟨tc220, tf221⟩ := Bk.cf kb3 2 rfl
       go_wp2_with fail
       go_meet
       exact ⟨aL, cL, pL, L, kb3, kb2, oV, oX, BlAt.keep2 (S := fun _ => False) (Chg.refl _ _) (fun _ _ _ => id) (fun q (hq : w5.heap.size ≤ q ∧ q < w6.heap.size) hlt => ⟨by omega, hlt⟩) (Nat.le_refl _) hBL, hlL2, HSL, hR, by omega, hC, by omega⟩
      refine AllReadyH.cons rfl (fun K hK => ?_) AllReadyH.nil
      go_simp
      refine (num_any _ [2, 3, 1, 4] _ B g (pk) hR (Ro ol204 (by simp)) (fun b o c hb => by simp at hb; omega) (by simp) (by simp) (by omega)).mono ?_
      rintro e w5 ⟨n2, n2m, rfl, hRn, hc⟩
      replace hC := (hC).trans hc
      replace hR := hRn; clear hRn
      have hsz222 := hc.size
      replace oX := Ow oX hc (fun gq h h2 => by have := iX gq h; have := ird gq h2; omega)
      replace oV := Ow oV hc (fun gq h h2 => by have := iV gq h; have := ird gq h2; omega)
      replace ol204 := Ow ol204 hc (fun gq h h2 => by have := iv207 gq h; have := ird gq h2; omega)
      replace kb3 := Bk.keep kb3 hc (fun h => by have := ird _ h; omega)
      replace kb2 := Bk.keep kb2 hc (fun h => by have := ird _ h; omega)
      replace bk206 := Bk.keep bk206 hc (fun h => by have := ird _ h; omega)
      clear hc
      obtain ⟨t2, rfl, ht4⟩ : ∃ t : Nat, n2 = t ∧ t ≤ 4 := by simp only [List.mem_cons, List.not_mem_nil, or_false] at n2m; exact ⟨n2.toNat, by omega, by omega⟩
      replace lt177 := Bk.lz kb3
      replace lt178 := Bk.lz kb2
      replace lt208 := Bk.lz bk206
      refine hK.out _ _ trivial (fun hHeld => ?_)
      clear hK K
      try simp only [Act.put, sb, List.set]
      refine Rdy 1 rfl (fun K hK => ?_)
      obtain ⟨tc223, tf224⟩ := Bk.cf kb3 0 rfl
      obtain ⟨tc225, tf226⟩ := Bk.cf kb3 1 rfl
      obtain ⟨tc227, tf228⟩ := Bk.cf kb3 2 rfl
      go_simp
      replace lt177 := Bk.lz kb3
      replace lt178 := Bk.lz kb2
      replace lt208 := Bk.lz bk206
      refine hK.out _ _ trivial (fun hHeld => ?_)
      clear hK K
      try simp only [Act.put, sb, List.set]
      refine Rdy 5 rfl (fun K hK => ?_)
      go_simp
      have hts : t2 * scost 3 ≤ 4 * 630000 := Nat.mul_le_mul ht4 (by decide)
      have HBK := Lib.hid ((l2DrawBoth av a nv cv m c (.slice none 0 0) B g hnv.1 ⟨by omega, by omega⟩ 2 (by omega)).2 t2 (pk + 1) _ ht4 hR (by show pk + 1 + t2 * scost 3 ≤ _; omega))
      refine (HBK.out).mono ?_
      rintro e w6 ⟨aL, cL, L, pL, rfl, hBL, hlL, hsL, hRn, hqL, hc⟩
      replace hC := (hC).trans hc
      replace hR := hRn; clear hRn
      have hsz229 := hc.size
      clear tf224 tc223 tf226 tc225 tf228 tc227
      replace oX := Ow oX hc (fun gq h h2 => by have := iX gq h; have := ird gq h2; omega)
      replace oV := Ow oV hc (fun gq h h2 => by have := iV gq h; have := ird gq h2; omega)
      replace ol204 := Ow ol204 hc (fun gq h h2 => by have := iv207 gq h; have := ird gq h2; omega)
      replace kb3 := Bk.keep kb3 hc (fun h => by have := ird _ h; omega)
      replace kb2 := Bk.keep kb2 hc (fun h => by have := ird _ h; omega)
      replace bk206 := Bk.keep bk206 hc (fun h => by have := ird _ h; omega)
      clear hc
      clear HBK
      have HSL := Lib.hid hsL; have hlL2 : L.length ≤ 4 := (by omega); have hqL2 : pL ≤ pk + 1 + 4 * 630000 := by have : pL ≤ pk + 1 + t2 * scost 3 := hqL; omega
      clear hlL hsL hqL hts
      replace hBL := BlAt.keep2 (S := fun _ => False) (Chg.refl _ _) (fun _ _ _ => id) (fun q (hq : w5.heap.size ≤ q) hlt => (show w5.heap.size ≤ q ∧ q < w6.heap.size from ⟨hq, hlt⟩)) (Nat.le_refl _) hBL
      replace lt177 := Bk.lz kb3
      replace lt178 := Bk.lz kb2
      replace lt208 := Bk.lz bk206
      refine hK.out _ _ trivial (fun hHeld => ?_)
      clear hK K
      try simp only [Act.put, sb, List.set]
      refine (tq 6 43 rfl rfl ?_ ?_ ?_)
      (rotate_left; intro W' hSw; clear hSw; go_simp; try with_reducible rfl)
      try simp only [Act.put, sb, List.set]
      refine Rdy 7 rfl (fun K hK => ?_)
      obtain ⟨tc230, tf231⟩ := Bk.cf kb3 2 rfl
      go_simp
      obtain ⟨w7, hnw, hb⟩ := nmw (World.setCell w6 ⟨w.heap.size + 1, 2, none⟩ (.slice aL L.length cL))
      replace hC := ((hC.setNew _ _ _ (Or.inr (by omega)))).trans (Chg.of_below hb)
      replace hR := (hR.keep (C1 _ _ _) (by omega) (fun _ _ => by omega)).below hb
      replace hBL := ((BlAt.keep2 (C1 _ _ _) (fun q (hq : w5.heap.size ≤ q ∧ q < w6.heap.size) _ (h : q = (w.heap.size + 1)) => by omega) (fun _ h _ => h) (Nat.le_refl _) hBL).below hb)
      have hsz232 := hb.size
      simp only [Ss] at hsz232
      clear tf231 tc230
      replace oX := Ob (Oe oX _ _ (fun h => by have := iX _ h; omega) _) hb
      replace oV := Ob (Oe oV _ _ (fun h => by have := iV _ h; omega) _) hb
      replace ol204 := Ob (Oe ol204 _ _ (fun h => by have := iv207 _ h; omega) _) hb
      replace kb3 : Bk w7 (w.heap.size + 1) [.slice av nv cv, .slice a m c, .slice aL L.length cL] := Bk.below (Bk.at kb3 2 (.slice aL L.length cL)) hb
      replace kb2 := Bk.below (Bk.ne kb2 (by omega) _) hb
      replace bk206 := Bk.below (Bk.ne bk206 (by omega) _) hb
      clear hb
      rw [← hnw]
      clear hnw
      replace lt177 := Bk.lz kb3
      replace lt178 := Bk.lz kb2
      replace lt208 := Bk.lz bk206
      refine hK.out _ _ trivial (fun hHeld => ?_)
      clear hK K
      try simp only [Act.put, sb, List.set]
      refine wpAnyH_done (by kernel_rfl) ?_ _
      refine NoPanic.normal ?_
      clear hHeld
      obtain ⟨tc233, tf234⟩ := Bk.cf kb3 2 rfl
      go_wp2_with fail
      go_meet
      exact ⟨aL, cL, pL, L, kb3, kb2, oV, oX, BlAt.keep2 (S := fun _ => False) (Chg.refl _ _) (fun _ _ _ => id) (fun q (hq : w5.heap.size ≤ q ∧ q < w6.heap.size) hlt => ⟨by omega, hlt⟩) (Nat.le_refl _) hBL, hlL2, HSL, hR, by omega, hC, by omega⟩
     obtain ⟨w4, rfl⟩ : ∃ W, W = wc := ⟨_, rfl⟩
     clear hR hC kb3 kb2 oX oV lt177 lt178
     obtain ⟨aL, cL, pL, L, kb3, kb2, oV, oX, hBL, hlL2, HSL, hR, hqL, hC, hzc⟩ := hcut
     have iX := oX.lt
     have lt235 := Bk.lz kb3
     have lt236 := Bk.lz kb2
     have HL9 := HUL; have HL8 := HXL
     have HPV := Lib.hid (ProgramValid_b (.slice av nv cv) (.slice a m c) us xs _ 3 _ L _ (by have h := Ro oV (by omega); rw [HL9.out]; exact h) (by have h := Ro oX (by omega); rw [HL8.out]; exact h) hBL)
     obtain ⟨tc237, tf238⟩ := Bk.cf kb3 0 rfl
     obtain ⟨tc239, tf240⟩ := Bk.cf kb3 1 rfl
     obtain ⟨tc241, tf242⟩ := Bk.cf kb3 2 rfl
     go_wp2_with fail
     refine (HPV.out).mono ?_
     rintro e w5 ⟨pb, rfl, hb⟩
     replace hC := (hC).trans (Chg.of_below hb)
     replace hR := hR.below hb
     replace hBL := (hBL.below hb)
     have hsz243 := hb.size
     clear tf238 tc237 tf240 tc239 tf242 tc241
     replace oV := Ob oV hb
     replace oX := Ob oX hb
     replace kb3 := Bk.below kb3 hb
     replace kb2 := Bk.below kb2 hb
     clear hb
     clear HPV
     replace lt235 := Bk.lz kb3
     replace lt236 := Bk.lz kb2
     cases pb with
     | true =>
      have HF := Lib.hid (And.intro (Oe (Oe (Oe oV (w.heap.size) 0 (fun h => by have := iV _ h; omega) (.slice av nv cv)) (w.heap.size) 1 (fun h => by have := iV _ h; omega) (.slice a m c)) (w.heap.size) 2 (fun h => by have := iV _ h; omega) (.slice aL L.length cL)) (And.intro (Oe (Oe (Oe oX (w.heap.size) 0 (fun h => by have := iX _ h; omega) (.slice av nv cv)) (w.heap.size) 1 (fun h => by have := iX _ h; omega) (.slice a m c)) (w.heap.size) 2 (fun h => by have := iX _ h; omega) (.slice aL L.length cL)) (BlAt.keep2 (S := fun _ => False) (Chg.refl _ _) (fun _ _ _ => id) (fun q (hq : wlb.heap.size ≤ q ∧ q < w4.heap.size) _ => (show w.heap.size ≤ q by omega)) (Nat.le_refl _) (BlAt.keep2 (C1 (w.heap.size) (2) (.slice aL L.length cL)) (fun q (hq : wlb.heap.size ≤ q ∧ q < w4.heap.size) _ (h : q = (w.heap.size)) => by omega) (fun _ h _ => h) (Nat.le_refl _) (BlAt.keep2 (C1 (w.heap.size) (1) (.slice a m c)) (fun q (hq : wlb.heap.size ≤ q ∧ q < w4.heap.size) _ (h : q = (w.heap.size)) => by omega) (fun _ h _ => h) (Nat.le_refl _) (BlAt.keep2 (C1 (w.heap.size) (0) (.slice av nv cv)) (fun q (hq : wlb.heap.size ≤ q ∧ q < w4.heap.size) _ (h : q = (w.heap.size)) => by omega) (fun _ h _ => h) (Nat.le_refl _) hBL))))))
      have HAP := Lib.hid (show ∀ q, (Value.slice av nv cv).ownBlock = some q → (Value.slice a m c).ownBlock = some q → False from fun q h1 h2 => by have := iV q h1; have := iX q h2; omega)
      clear oV oX hBL
      have tC := (((hC.setNew (w.heap.size) (0) (.slice av nv cv) (Or.inr (by omega))).setNew (w.heap.size) (1) (.slice a m c) (Or.inr (by omega))).setNew (w.heap.size) (2) (.slice aL L.length cL) (Or.inr (by omega))); have tR := (((hR.keep (C1 (w.heap.size) (0) (.slice av nv cv)) (by omega) (fun _ _ => by omega)).keep (C1 (w.heap.size) (1) (.slice a m c)) (by omega) (fun _ _ => by omega)).keep (C1 (w.heap.size) (2) (.slice aL L.length cL)) (by omega) (fun _ _ => by omega))
      obtain ⟨tc244, tf245⟩ := Bk.cf kb3 0 rfl
      obtain ⟨tc246, tf247⟩ := Bk.cf kb3 1 rfl
      obtain ⟨tc248, tf249⟩ := Bk.cf kb3 2 rfl
      obtain ⟨tc250, tf251⟩ := Bk.cf kb2 0 rfl
      obtain ⟨tc252, tf253⟩ := Bk.cf kb2 1 rfl
      obtain ⟨tc254, tf255⟩ := Bk.cf kb2 2 rfl
      have x256 := (Nc (b := (w.heap.size)) (j := 2) (Nc (b := (w.heap.size)) (j := 1) (Tc _ (w.heap.size) 0 (.slice av nv cv) tc250) (by omega) (.slice a m c)) (by omega) (.slice aL L.length cL))
      have x257 := (Nc (b := (w.heap.size)) (j := 2) (Tc _ (w.heap.size) 1 (.slice a m c) (Nc (b := (w.heap.size)) (j := 0) tc252 (by omega) (.slice av nv cv))) (by omega) (.slice aL L.length cL))
      have x258 := (Tc _ (w.heap.size) 2 (.slice aL L.length cL) (Nc (b := (w.heap.size)) (j := 1) (Nc (b := (w.heap.size)) (j := 0) tc254 (by omega) (.slice av nv cv)) (by omega) (.slice a m c)))
      have tt := True.intro
      go_wp2
      exact bodyPost_ret (v := .agg #[.slice av nv cv, .slice a m c, .slice aL L.length cL]) (by simp [results, Try.results107, go_sem, x256, x257, x258]) rfl (by exact ⟨av, a, aL, cv, c, cL, us, xs, L, _, by rw [HL9.out, HL8.out], by rw [HL9.out]; exact Om HF.out.1 (by omega), by rw [HL8.out]; exact Om HF.out.2.1 (by omega), by rw [HL9.out, HL8.out]; exact fun q h1 h2 => HAP.out q h1 h2, by rw [HL9.out]; omega, by rw [HL9.out]; omega, by rw [HL8.out]; omega, HF.out.2.2, hlL2, HSL.out, tR, by omega, tC⟩)
     | false =>
      clear oV oX hBL
      have ol259 := Om (base' := w.heap.size) (Ob (World.ownsRow_lit (base := ((World.setCell (World.setCell (World.setCell w5 ⟨w.heap.size, 0, none⟩ (.slice (some ⟨w5.heap.size, 0, none⟩) 2 2)) ⟨w.heap.size, 1, none⟩ (.slice none 0 0)) ⟨w.heap.size, 2, none⟩ (.slice (some ⟨w5.heap.size + 1, 0, none⟩) 1 1))).heap.size) (e := 3) (size := 1) ((World.setCell (World.setCell (World.setCell w5 ⟨w.heap.size, 0, none⟩ (.slice (some ⟨w5.heap.size, 0, none⟩) 2 2)) ⟨w.heap.size, 1, none⟩ (.slice none 0 0)) ⟨w.heap.size, 2, none⟩ (.slice (some ⟨w5.heap.size + 1, 0, none⟩) 1 1))) #[.int .i64 0, .int .i64 1] 2 (Nat.le_refl _) (by unfold maxLen; omega) (by simp)) (bal (Bs _) (.cells #[.int .i64 1, .int .i64 1, .int .i64 0, .int .i64 0, .slice none 0 0, .int .i64 2, .int .i64 0, .slice none 0 0, .int .i64 0, .slice none 0 0, .slice none 0 0] 163))) (by first | omega | (simp only [Sa, Ss]; omega))
      simp only [Sa, Ss] at ol259
      have hol259 := Lib.hid ol259; clear ol259
      have ol260 := Om (base' := w.heap.size) (World.ownsRow_lit (base := ((World.alloc (World.setCell (World.setCell (World.setCell w5 ⟨w.heap.size, 0, none⟩ (.slice (some ⟨w5.heap.size, 0, none⟩) 2 2)) ⟨w.heap.size, 1, none⟩ (.slice none 0 0)) ⟨w.heap.size, 2, none⟩ (.slice (some ⟨w5.heap.size + 1, 0, none⟩) 1 1)) (.cells #[.int .i64 0, .int .i64 1] 3))).heap.size) (e := 163) (size := 11) ((World.alloc (World.setCell (World.setCell (World.setCell w5 ⟨w.heap.size, 0, none⟩ (.slice (some ⟨w5.heap.size, 0, none⟩) 2 2)) ⟨w.heap.size, 1, none⟩ (.slice none 0 0)) ⟨w.heap.size, 2, none⟩ (.slice (some ⟨w5.heap.size + 1, 0, none⟩) 1 1)) (.cells #[.int .i64 0, .int .i64 1] 3))) #[.int .i64 1, .int .i64 1, .int .i64 0, .int .i64 0, .slice none 0 0, .int .i64 2, .int .i64 0, .slice none 0 0, .int .i64 0, .slice none 0 0, .slice none 0 0] 1 (Nat.le_refl _) (by unfold maxLen; omega) (by simp)) (by first | omega | (simp only [Sa, Ss]; omega))
      simp only [Sa, Ss] at ol260
      have hol260 := Lib.hid ol260; clear ol260
      have tC := (((((hC.setNew (w.heap.size) (0) (.slice (some ⟨w5.heap.size, 0, none⟩) 2 2) (Or.inr (by omega))).setNew (w.heap.size) (1) (.slice none 0 0) (Or.inr (by omega))).setNew (w.heap.size) (2) (.slice (some ⟨w5.heap.size + 1, 0, none⟩) 1 1) (Or.inr (by omega))).trans (Chg.of_below (bal (Bs _) (.cells #[.int .i64 0, .int .i64 1] 3)))).trans (Chg.of_below (bal (Bs _) (.cells #[.int .i64 1, .int .i64 1, .int .i64 0, .int .i64 0, .slice none 0 0, .int .i64 2, .int .i64 0, .slice none 0 0, .int .i64 0, .slice none 0 0, .slice none 0 0] 163)))); have tR := (((((hR.keep (C1 (w.heap.size) (0) (.slice (some ⟨w5.heap.size, 0, none⟩) 2 2)) (by omega) (fun _ _ => by omega)).keep (C1 (w.heap.size) (1) (.slice none 0 0)) (by omega) (fun _ _ => by omega)).keep (C1 (w.heap.size) (2) (.slice (some ⟨w5.heap.size + 1, 0, none⟩) 1 1)) (by omega) (fun _ _ => by omega)).below (bal (Bs _) (.cells #[.int .i64 0, .int .i64 1] 3))).below (bal (Bs _) (.cells #[.int .i64 1, .int .i64 1, .int .i64 0, .int .i64 0, .slice none 0 0, .int .i64 2, .int .i64 0, .slice none 0 0, .int .i64 0, .slice none 0 0, .slice none 0 0] 163)))
      obtain ⟨tc261, tf262⟩ := Bk.cf kb2 0 rfl
      obtain ⟨tc263, tf264⟩ := Bk.cf kb2 1 rfl
      obtain ⟨tc265, tf266⟩ := Bk.cf kb2 2 rfl
      have x267 := (Ac (Ac (Nc (b := (w.heap.size)) (j := 2) (Nc (b := (w.heap.size)) (j := 1) (Tc _ (w.heap.size) 0 (.slice (some ⟨w5.heap.size, 0, none⟩) 2 2) tc261) (by omega) (.slice none 0 0)) (by omega) (.slice (some ⟨w5.heap.size + 1, 0, none⟩) 1 1)) (.cells #[.int .i64 0, .int .i64 1] 3)) (.cells #[.int .i64 1, .int .i64 1, .int .i64 0, .int .i64 0, .slice none 0 0, .int .i64 2, .int .i64 0, .slice none 0 0, .int .i64 0, .slice none 0 0, .slice none 0 0] 163))
      have x268 := (Ac (Ac (Nc (b := (w.heap.size)) (j := 2) (Tc _ (w.heap.size) 1 (.slice none 0 0) (Nc (b := (w.heap.size)) (j := 0) tc263 (by omega) (.slice (some ⟨w5.heap.size, 0, none⟩) 2 2))) (by omega) (.slice (some ⟨w5.heap.size + 1, 0, none⟩) 1 1)) (.cells #[.int .i64 0, .int .i64 1] 3)) (.cells #[.int .i64 1, .int .i64 1, .int .i64 0, .int .i64 0, .slice none 0 0, .int .i64 2, .int .i64 0, .slice none 0 0, .int .i64 0, .slice none 0 0, .slice none 0 0] 163))
      have x269 := (Ac (Ac (Tc _ (w.heap.size) 2 (.slice (some ⟨w5.heap.size + 1, 0, none⟩) 1 1) (Nc (b := (w.heap.size)) (j := 1) (Nc (b := (w.heap.size)) (j := 0) tc265 (by omega) (.slice (some ⟨w5.heap.size, 0, none⟩) 2 2)) (by omega) (.slice none 0 0))) (.cells #[.int .i64 0, .int .i64 1] 3)) (.cells #[.int .i64 1, .int .i64 1, .int .i64 0, .int .i64 0, .slice none 0 0, .int .i64 2, .int .i64 0, .slice none 0 0, .int .i64 0, .slice none 0 0, .slice none 0 0] 163))
      have tt := True.intro
      go_wp2
      exact bodyPost_ret (v := .agg #[.slice (some ⟨w5.heap.size, 0, none⟩) 2 2, .slice none 0 0, .slice (some ⟨w5.heap.size + 1, 0, none⟩) 1 1]) (by simp [results, Try.results107, go_sem, x267, x268, x269]) rfl (by exact ⟨some ⟨w5.heap.size, 0, none⟩, none, some ⟨w5.heap.size + 1, 0, none⟩, 2, 0, 1, [0, 1], [], _, _, rfl, hol259.out, World.ownsRow_nil _ _ _ _, (fun q _ h2 => by simp [Value.ownBlock] at h2), by simp, by simp, by simp, bl_one hol260.out (fun q hq => hq), by simp, small_one, tR, by omega, tC⟩)
end Go.Proofs.Ytkjedgnepnbkpaa
