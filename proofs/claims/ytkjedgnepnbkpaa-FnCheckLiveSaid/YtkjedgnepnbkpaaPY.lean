/-
 Parts of the proofs of the laws FnCheckLive, FnFinalRegs, FnLiveRegister, FnLiveRegs.
-/
import Derived.Test.YtkjedgnepnbkpaaPX
set_option maxHeartbeats 12800000
set_option maxRecDepth 100000
set_option linter.all false
namespace Go.Proofs.Ytkjedgnepnbkpaa
open Go.RowKit

theorem l3Value_any (B g p : Nat) (w : World) (hR : Rnd w B g p) (hp : p + 1 ≤ 1000000000) :
  Calls Try.prog 137 #[.pointer (some ⟨g, 0, none⟩)] w fun r w' => ∃ v : Int, r = .returned (.int .i64 v) ∧ (0 ≤ v ∧ v < 256) ∧ Rnd w' B g (p + 1) ∧ Chg (fun q => q = g) w w' := by
 have hg := hR.lt
 have hC : Chg (fun k => k = g) w w := Chg.refl _ _
 have ird : ∀ q, (fun k => k = g) q → q = g := fun q h => h
 go_enter Try.func137, Try.ntmps137
 go_wp2_with fail
 refine (num_any _ [0, 1, 2, 3, 255, 128, 7, 4, 100] _ B g (p) (hR.below (bal (Bs _) (.cells #[.int .i64 0, .int .i64 1, .int .i64 2, .int .i64 3, .int .i64 255, .int .i64 128, .int .i64 7, .int .i64 4, .int .i64 100] 3))) (Ro (World.ownsRow_lit (base := (w).heap.size) (e := 3) (size := 1) (w) #[.int .i64 0, .int .i64 1, .int .i64 2, .int .i64 3, .int .i64 255, .int .i64 128, .int .i64 7, .int .i64 4, .int .i64 100] 9 (Nat.le_refl _) (by unfold maxLen; omega) (by simp)) (by simp)) (fun b o c hb => by simp at hb; omega) (by simp) (by simp) (by omega)).mono ?_
 rintro e w1 ⟨v, vm, rfl, hRn, hc⟩
 replace hC := ((hC.trans (Chg.of_below (bal (Bs _) _)))).trans hc
 replace hR := hRn; clear hRn
 have hsz2 := hc.size
 simp only [Sa] at hsz2
 have bk3 : Bk w1 (w.heap.size) [.int .i64 0, .int .i64 1, .int .i64 2, .int .i64 3, .int .i64 255, .int .i64 128, .int .i64 7, .int .i64 4, .int .i64 100] := Bk.keep (Bk.nw (by simp) rfl) hc (fun h => by have := ird _ h; omega)
 clear hc
 clear bk3
 have HV : Hid (0 ≤ v ∧ v < 256) := Lib.hid (by simp only [List.mem_cons, List.not_mem_nil, or_false] at vm; omega)
 clear vm
 have tC := hC; have tR := hR
 have tt := True.intro
 go_wp2
 exact bodyPost_ret (v := .int .i64 v) (by simp [results, Try.results137, go_sem]) rfl (by exact ⟨v, rfl, HV.out, tR, tC⟩)
theorem l2Small_any (pv pa : Option Addr) (nv cv na ca : Nat) (vb : Value) (B g p : Nat) (w : World) (hR : Rnd w B g p) (hp : p + 10100 ≤ 1000000000) (hnv : 1 ≤ nv) (hnb : nv ≤ 1000 ∧ na ≤ 1000) :
  Calls Try.prog 169 #[.pointer (some ⟨g, 0, none⟩), .agg #[.slice pv nv cv, .slice pa na ca, vb]] w fun r w' => ∃ (n : En) (e : Ex) (p' : Nat), r = .returned (.agg #[.int .i64 n.k, .int .i64 n.v, .slice n.p n.n n.c]) ∧ ExAt w' (fun q => w.heap.size ≤ q) 5 n e ∧ Thin 5 e ∧ Rnd w' B g p' ∧ p' ≤ p + 10100 ∧ Chg (fun q => q = g) w w' := by
 have hg := hR.lt
 have hC : Chg (fun k => k = g) w w := Chg.refl _ _
 have ird : ∀ q, (fun k => k = g) q → q = g := fun q h => h
 go_enter Try.func169, Try.ntmps169
 go_upto_region 1 with (fail)
 obtain ⟨w1, hnw, hb⟩ := nmw (World.alloc (World.alloc w (.cells #[.slice pv nv cv, .slice pa na ca, vb] 110)) (.cells #[.int .i64 0, .int .i64 0, .slice none 0 0] 161))
 replace hC := (((hC.trans (Chg.of_below (bal (Bs _) _))).trans (Chg.of_below (bal (Bs _) _)))).trans (Chg.of_below hb)
 replace hR := ((hR.below (bal (Bs _) _)).below (bal (Bs _) _)).below hb
 have hsz1 := hb.size
 simp only [Sa] at hsz1
 have bk2 : Bk w1 (w.heap.size) [.slice pv nv cv, .slice pa na ca, vb] := Bk.below (Bk.al (Bk.nw (by simp) rfl) (.cells #[.int .i64 0, .int .i64 0, .slice none 0 0] 161)) hb
 have bk3 : Bk w1 (w.heap.size + 1) [.int .i64 0, .int .i64 0, .slice none 0 0] := Bk.below (Bk.nw (by simp) rfl) hb
 clear hb
 rw [← hnw]
 clear hnw
 have lt4 := Bk.lz bk2
 have lt5 := Bk.lz bk3
 go_cut [5] (fun s wx => ∃ (n : En) (e : Ex) (b5 pk lo hi : Nat), s = .pointer (some ⟨b5, 0, none⟩) ∧ Bk wx b5 [.int .i64 n.k, .int .i64 n.v, .slice n.p n.n n.c] ∧ Bk wx (w.heap.size) [.slice pv nv cv, .slice pa na ca, vb] ∧ Bk wx (w.heap.size + 1) [.int .i64 0, .int .i64 0, .slice none 0 0] ∧ ExAt wx (fun q => lo ≤ q ∧ q < hi) 5 n e ∧ Thin 5 e ∧ (w1.heap.size ≤ lo ∧ hi ≤ wx.heap.size ∧ (b5 < lo ∨ hi ≤ b5) ∧ w1.heap.size ≤ b5) ∧ Rnd wx B g pk ∧ pk ≤ p + 10050 ∧ Chg (fun q => q = g) w wx ∧ w1.heap.size ≤ wx.heap.size)
 case first =>
  have hc6 := Bk.cell bk2 0 (v := .slice pv nv cv) rfl
  have hc7 := Bk.cell bk2 1 (v := .slice pa na ca) rfl
  have hc8 := Bk.cell bk2 2 (v := vb) rfl
  replace lt4 := Bk.lz bk2
  replace lt5 := Bk.lz bk3
  refine wp_region_noPanic ?_
  refine wp_region_held_drew (S := (fun W' => W'.cell? ⟨w.heap.size, 0, none⟩ = some (.slice pv nv cv) ∧ W'.cell? ⟨w.heap.size, 1, none⟩ = some (.slice pa na ca) ∧ W'.cell? ⟨w.heap.size, 2, none⟩ = some (vb))) (by kernel_rfl) ⟨Kc (Below.drew (Bs w1)) hc6, Kc (Below.drew (Bs w1)) hc7, Kc (Below.drew (Bs w1)) hc8⟩ (fun hHeld => ?_)
  obtain ⟨w2, hwd⟩ : ∃ X, X = World.drew w1 := ⟨_, rfl⟩
  rw [← hwd] at hHeld ⊢
  have hb : Below w1.heap.size w1 w2 := by rw [hwd]; exact Below.drew (Bs _)
  clear hwd
  replace hC := (hC).trans (Chg.of_below hb)
  replace hR := hR.below hb
  have hsz9 := hb.size
  replace hc6 := Kc hb hc6
  replace hc7 := Kc hb hc7
  replace hc8 := Kc hb hc8
  replace bk2 := Bk.below bk2 hb
  replace bk3 := Bk.below bk3 hb
  clear hb
  replace lt4 := Bk.lz bk2
  replace lt5 := Bk.lz bk3
  refine (tq 0 6 rfl rfl ?_ ?_ (tq 1 7 rfl rfl ?_ ?_ (tq 2 8 rfl rfl ?_ ?_ ?_)))
  iterate 3 (rotate_left; intro W' hSw; (try dsimp only at hSw); go_simp; try with_reducible rfl)
  try simp only [Act.put, sb, List.set]
  refine wpAnyH_ready (rs := [3, 6]) (by kernel_rfl) (by simp) ?_
  refine AllReadyH.cons rfl (fun K hK => ?_) ?_
  ·-- 3
   go_simp
   obtain ⟨w3, hnw, hb⟩ := nmw (World.alloc w2 (.cells #[.int .i64 2, .int .i64 3, .int .i64 2, .int .i64 1, .int .i64 4] 3))
   replace hC := ((hC.trans (Chg.of_below (bal (Bs _) _)))).trans (Chg.of_below hb)
   replace hR := (hR.below (bal (Bs _) _)).below hb
   have ol10 := Ob (World.ownsRow_lit (base := (w2).heap.size) (e := 3) (size := 1) (w2) #[.int .i64 2, .int .i64 3, .int .i64 2, .int .i64 1, .int .i64 4] 5 (Nat.le_refl _) (by unfold maxLen; omega) (by simp)) hb
   try simp only [Sa, Ss] at ol10
   have hsz11 := hb.size
   simp only [Sa] at hsz11
   replace hc6 := Kc hb (Ac hc6 _)
   replace hc7 := Kc hb (Ac hc7 _)
   replace hc8 := Kc hb (Ac hc8 _)
   replace bk2 := Bk.below (Bk.al bk2 _) hb
   replace bk3 := Bk.below (Bk.al bk3 _) hb
   have bk12 : Bk w3 (w2.heap.size) [.int .i64 2, .int .i64 3, .int .i64 2, .int .i64 1, .int .i64 4] := Bk.below (Bk.nw (by simp) rfl) hb
   clear hb
   have iv13 := ol10.lt
   try simp only [Sa] at iv13
   rw [← hnw]
   clear hnw
   replace lt4 := Bk.lz bk2
   replace lt5 := Bk.lz bk3
   have lt14 := Bk.lz bk12
   refine hK.out _ _ ⟨hc6, hc7, hc8⟩ (fun hHeld => ?_)
   clear hK K
   try simp only [Act.put, sb, List.set]
   refine wpAnyH_ready (rs := [4, 6]) (by kernel_rfl) (by simp) ?_
   refine AllReadyH.cons rfl (fun K hK => ?_) ?_
   ·-- 4
    go_simp
    refine (num_any _ [2, 3, 2, 1, 4] _ B g (p) hR (Ro ol10 (by simp)) (fun b o c hb => by simp at hb; omega) (by simp) (by simp) (by omega)).mono ?_
    rintro e w4 ⟨d0, d0m, rfl, hRn, hc⟩
    replace hC := (hC).trans hc
    replace hR := hRn; clear hRn
    have hsz15 := hc.size
    replace hc6 := Gc hc hc6 (fun h => by have := ird _ h; omega)
    replace hc7 := Gc hc hc7 (fun h => by have := ird _ h; omega)
    replace hc8 := Gc hc hc8 (fun h => by have := ird _ h; omega)
    replace ol10 := Ow ol10 hc (fun gq h h2 => by have := iv13 gq h; have := ird gq h2; omega)
    replace bk2 := Bk.keep bk2 hc (fun h => by have := ird _ h; omega)
    replace bk3 := Bk.keep bk3 hc (fun h => by have := ird _ h; omega)
    replace bk12 := Bk.keep bk12 hc (fun h => by have := ird _ h; omega)
    clear hc
    obtain ⟨d, hd, hd4⟩ : ∃ d : Nat, d0 = d ∧ d ≤ 4 := ⟨d0.toNat, by simp only [List.mem_cons, List.not_mem_nil, or_false] at d0m; omega, by simp only [List.mem_cons, List.not_mem_nil, or_false] at d0m; omega⟩
    subst hd
    clear d0m
    have hdc := dcost_le hd4
    replace lt4 := Bk.lz bk2
    replace lt5 := Bk.lz bk3
    replace lt14 := Bk.lz bk12
    refine hK.out _ _ ⟨hc6, hc7, hc8⟩ (fun hHeld => ?_)
    clear hK K
    try simp only [Act.put, sb, List.set]
    refine wpAnyH_ready (rs := [5, 6]) (by kernel_rfl) (by simp) ?_
    refine AllReadyH.cons rfl (fun K hK => ?_) ?_
    ·-- 5
     go_simp
     refine (l2Draw_any pv pa nv cv na ca vb B g hnv hnb d (p + 1) _ hd4 hR (by omega)).mono ?_
     rintro e w5 ⟨n, e, p1, rfl, hE, hTh, hRn, hp1, hc⟩
     replace hC := (hC).trans hc
     replace hR := hRn; clear hRn
     have hsz16 := hc.size
     replace hc6 := Gc hc hc6 (fun h => by have := ird _ h; omega)
     replace hc7 := Gc hc hc7 (fun h => by have := ird _ h; omega)
     replace hc8 := Gc hc hc8 (fun h => by have := ird _ h; omega)
     replace ol10 := Ow ol10 hc (fun gq h h2 => by have := iv13 gq h; have := ird gq h2; omega)
     replace bk2 := Bk.keep bk2 hc (fun h => by have := ird _ h; omega)
     replace bk3 := Bk.keep bk3 hc (fun h => by have := ird _ h; omega)
     replace bk12 := Bk.keep bk12 hc (fun h => by have := ird _ h; omega)
     clear hc
     replace hE := ExAt.keep (S := fun _ => False) (Chg.refl _ _) (fun _ _ _ => id) (fun q (hq : w4.heap.size ≤ q) hlt => (show w4.heap.size ≤ q ∧ q < w5.heap.size from ⟨hq, hlt⟩)) (Nat.le_refl _) hE
     replace lt4 := Bk.lz bk2
     replace lt5 := Bk.lz bk3
     replace lt14 := Bk.lz bk12
     refine hK.out _ _ ⟨hc6, hc7, hc8⟩ (fun hHeld => ?_)
     clear hK K
     try simp only [Act.put, sb, List.set]
     refine Rdy 6 rfl (fun K hK => ?_)
     go_simp
     obtain ⟨w6, hnw, hb⟩ := nmw (World.alloc w5 (.cells #[.int .i64 0, .int .i64 0, .slice none 0 0] 161))
     replace hC := ((hC.trans (Chg.of_below (bal (Bs _) _)))).trans (Chg.of_below hb)
     replace hR := (hR.below (bal (Bs _) _)).below hb
     replace hE := ((hE.below (bal (Bs _) _)).below hb)
     have hsz17 := hb.size
     simp only [Sa] at hsz17
     replace hc6 := Kc hb (Ac hc6 _)
     replace hc7 := Kc hb (Ac hc7 _)
     replace hc8 := Kc hb (Ac hc8 _)
     replace ol10 := Ob (Ob ol10 (bal (Bs _) _)) hb
     replace bk2 := Bk.below (Bk.al bk2 _) hb
     replace bk3 := Bk.below (Bk.al bk3 _) hb
     replace bk12 := Bk.below (Bk.al bk12 _) hb
     have bk18 : Bk w6 (w5.heap.size) [.int .i64 0, .int .i64 0, .slice none 0 0] := Bk.below (Bk.nw (by simp) rfl) hb
     clear hb
     rw [← hnw]
     clear hnw
     replace lt4 := Bk.lz bk2
     replace lt5 := Bk.lz bk3
     replace lt14 := Bk.lz bk12
     have lt19 := Bk.lz bk18
     refine hK.out _ _ ⟨hc6, hc7, hc8⟩ (fun hHeld => ?_)
     clear hK K
     try simp only [Act.put, sb, List.set]
     refine Rdy 7 rfl (fun K hK => ?_)
     obtain ⟨tc20, tf21⟩ := Bk.cf bk18 0 rfl
     obtain ⟨tc22, tf23⟩ := Bk.cf bk18 1 rfl
     obtain ⟨tc24, tf25⟩ := Bk.cf bk18 2 rfl
     go_simp
     obtain ⟨w7, hnw, hb⟩ := nmw (World.setCell (World.setCell (World.setCell w6 ⟨w5.heap.size, 0, none⟩ (.int .i64 n.k)) ⟨w5.heap.size, 1, none⟩ (.int .i64 n.v)) ⟨w5.heap.size, 2, none⟩ (.slice n.p n.n n.c))
     replace hC := ((((hC.setNew _ _ _ (Or.inr (by omega))).setNew _ _ _ (Or.inr (by omega))).setNew _ _ _ (Or.inr (by omega)))).trans (Chg.of_below hb)
     replace hR := (((hR.keep (C1 _ _ _) (by omega) (fun _ _ => by omega)).keep (C1 _ _ _) (by omega) (fun _ _ => by omega)).keep (C1 _ _ _) (by omega) (fun _ _ => by omega)).below hb
     replace hE := ((ExAt.kI (C1 _ _ _) (fun q _ _ h => by omega) (ExAt.kI (C1 _ _ _) (fun q _ _ h => by omega) (ExAt.kI (C1 _ _ _) (fun q _ _ h => by omega) hE))).below hb)
     have hsz26 := hb.size
     simp only [Ss] at hsz26
     clear tf21 tc20 tf23 tc22 tf25 tc24
     replace hc6 := Kc hb (Nc (Nc (Nc hc6 (by omega) _) (by omega) _) (by omega) _)
     replace hc7 := Kc hb (Nc (Nc (Nc hc7 (by omega) _) (by omega) _) (by omega) _)
     replace hc8 := Kc hb (Nc (Nc (Nc hc8 (by omega) _) (by omega) _) (by omega) _)
     replace ol10 := Ob (Oe (Oe (Oe ol10 _ _ (fun h => by have := iv13 _ h; omega) _) _ _ (fun h => by have := iv13 _ h; omega) _) _ _ (fun h => by have := iv13 _ h; omega) _) hb
     replace bk2 := Bk.below (Bk.ne (Bk.ne (Bk.ne bk2 (by omega) _) (by omega) _) (by omega) _) hb
     replace bk3 := Bk.below (Bk.ne (Bk.ne (Bk.ne bk3 (by omega) _) (by omega) _) (by omega) _) hb
     replace bk12 := Bk.below (Bk.ne (Bk.ne (Bk.ne bk12 (by omega) _) (by omega) _) (by omega) _) hb
     replace bk18 : Bk w7 (w5.heap.size) [.int .i64 n.k, .int .i64 n.v, .slice n.p n.n n.c] := Bk.below (Bk.at (Bk.at (Bk.at bk18 0 (.int .i64 n.k)) 1 (.int .i64 n.v)) 2 (.slice n.p n.n n.c)) hb
     clear hb
     rw [← hnw]
     clear hnw
     replace lt4 := Bk.lz bk2
     replace lt5 := Bk.lz bk3
     replace lt14 := Bk.lz bk12
     replace lt19 := Bk.lz bk18
     refine hK.out _ _ ⟨hc6, hc7, hc8⟩ (fun hHeld => ?_)
     clear hK K
     try simp only [Act.put, sb, List.set]
     refine wpAnyH_done (by kernel_rfl) ?_ _
     refine NoPanic.normal ?_
     clear hHeld
     have hE5 := ExAt.keep (S := fun _ => False) (Chg.refl _ _) (fun _ _ _ => id) (fun _ h _ => h) (by omega : d + 1 ≤ 5) hE; have hT5 := Thin.mono (by omega : d + 1 ≤ 5) hTh
     obtain ⟨tc27, tf28⟩ := Bk.cf bk18 0 rfl
     obtain ⟨tc29, tf30⟩ := Bk.cf bk18 1 rfl
     obtain ⟨tc31, tf32⟩ := Bk.cf bk18 2 rfl
     go_wp2_with fail
     go_meet
     exact ⟨n, e, _, _, w4.heap.size, w5.heap.size, rfl, bk18, bk2, bk3, hE5, hT5, by omega, hR, by omega, hC, by omega⟩
    refine AllReadyH.cons rfl (fun K hK => ?_) AllReadyH.nil
    go_simp
    obtain ⟨w5, hnw, hb⟩ := nmw (World.alloc w4 (.cells #[.int .i64 0, .int .i64 0, .slice none 0 0] 161))
    replace hC := ((hC.trans (Chg.of_below (bal (Bs _) _)))).trans (Chg.of_below hb)
    replace hR := (hR.below (bal (Bs _) _)).below hb
    have hsz33 := hb.size
    simp only [Sa] at hsz33
    replace hc6 := Kc hb (Ac hc6 _)
    replace hc7 := Kc hb (Ac hc7 _)
    replace hc8 := Kc hb (Ac hc8 _)
    replace ol10 := Ob (Ob ol10 (bal (Bs _) _)) hb
    replace bk2 := Bk.below (Bk.al bk2 _) hb
    replace bk3 := Bk.below (Bk.al bk3 _) hb
    replace bk12 := Bk.below (Bk.al bk12 _) hb
    have bk34 : Bk w5 (w4.heap.size) [.int .i64 0, .int .i64 0, .slice none 0 0] := Bk.below (Bk.nw (by simp) rfl) hb
    clear hb
    rw [← hnw]
    clear hnw
    replace lt4 := Bk.lz bk2
    replace lt5 := Bk.lz bk3
    replace lt14 := Bk.lz bk12
    have lt35 := Bk.lz bk34
    refine hK.out _ _ ⟨hc6, hc7, hc8⟩ (fun hHeld => ?_)
    clear hK K
    try simp only [Act.put, sb, List.set]
    refine Rdy 5 rfl (fun K hK => ?_)
    go_simp
    refine (l2Draw_any pv pa nv cv na ca vb B g hnv hnb d (p + 1) _ hd4 hR (by omega)).mono ?_
    rintro e w6 ⟨n, e, p1, rfl, hE, hTh, hRn, hp1, hc⟩
    replace hC := (hC).trans hc
    replace hR := hRn; clear hRn
    have hsz36 := hc.size
    replace hc6 := Gc hc hc6 (fun h => by have := ird _ h; omega)
    replace hc7 := Gc hc hc7 (fun h => by have := ird _ h; omega)
    replace hc8 := Gc hc hc8 (fun h => by have := ird _ h; omega)
    replace ol10 := Ow ol10 hc (fun gq h h2 => by have := iv13 gq h; have := ird gq h2; omega)
    replace bk2 := Bk.keep bk2 hc (fun h => by have := ird _ h; omega)
    replace bk3 := Bk.keep bk3 hc (fun h => by have := ird _ h; omega)
    replace bk12 := Bk.keep bk12 hc (fun h => by have := ird _ h; omega)
    replace bk34 := Bk.keep bk34 hc (fun h => by have := ird _ h; omega)
    clear hc
    replace hE := ExAt.keep (S := fun _ => False) (Chg.refl _ _) (fun _ _ _ => id) (fun q (hq : w5.heap.size ≤ q) hlt => (show w5.heap.size ≤ q ∧ q < w6.heap.size from ⟨hq, hlt⟩)) (Nat.le_refl _) hE
    replace lt4 := Bk.lz bk2
    replace lt5 := Bk.lz bk3
    replace lt14 := Bk.lz bk12
    replace lt35 := Bk.lz bk34
    refine hK.out _ _ ⟨hc6, hc7, hc8⟩ (fun hHeld => ?_)
    clear hK K
    try simp only [Act.put, sb, List.set]
    refine Rdy 7 rfl (fun K hK => ?_)
    obtain ⟨tc37, tf38⟩ := Bk.cf bk34 0 rfl
    obtain ⟨tc39, tf40⟩ := Bk.cf bk34 1 rfl
    obtain ⟨tc41, tf42⟩ := Bk.cf bk34 2 rfl
    go_simp
    obtain ⟨w7, hnw, hb⟩ := nmw (World.setCell (World.setCell (World.setCell w6 ⟨w4.heap.size, 0, none⟩ (.int .i64 n.k)) ⟨w4.heap.size, 1, none⟩ (.int .i64 n.v)) ⟨w4.heap.size, 2, none⟩ (.slice n.p n.n n.c))
    replace hC := ((((hC.setNew _ _ _ (Or.inr (by omega))).setNew _ _ _ (Or.inr (by omega))).setNew _ _ _ (Or.inr (by omega)))).trans (Chg.of_below hb)
    replace hR := (((hR.keep (C1 _ _ _) (by omega) (fun _ _ => by omega)).keep (C1 _ _ _) (by omega) (fun _ _ => by omega)).keep (C1 _ _ _) (by omega) (fun _ _ => by omega)).below hb
    replace hE := ((ExAt.kI (C1 _ _ _) (fun q _ _ h => by omega) (ExAt.kI (C1 _ _ _) (fun q _ _ h => by omega) (ExAt.kI (C1 _ _ _) (fun q _ _ h => by omega) hE))).below hb)
    have hsz43 := hb.size
    simp only [Ss] at hsz43
    clear tf38 tc37 tf40 tc39 tf42 tc41
    replace hc6 := Kc hb (Nc (Nc (Nc hc6 (by omega) _) (by omega) _) (by omega) _)
    replace hc7 := Kc hb (Nc (Nc (Nc hc7 (by omega) _) (by omega) _) (by omega) _)
    replace hc8 := Kc hb (Nc (Nc (Nc hc8 (by omega) _) (by omega) _) (by omega) _)
    replace ol10 := Ob (Oe (Oe (Oe ol10 _ _ (fun h => by have := iv13 _ h; omega) _) _ _ (fun h => by have := iv13 _ h; omega) _) _ _ (fun h => by have := iv13 _ h; omega) _) hb
    replace bk2 := Bk.below (Bk.ne (Bk.ne (Bk.ne bk2 (by omega) _) (by omega) _) (by omega) _) hb
    replace bk3 := Bk.below (Bk.ne (Bk.ne (Bk.ne bk3 (by omega) _) (by omega) _) (by omega) _) hb
    replace bk12 := Bk.below (Bk.ne (Bk.ne (Bk.ne bk12 (by omega) _) (by omega) _) (by omega) _) hb
    replace bk34 : Bk w7 (w4.heap.size) [.int .i64 n.k, .int .i64 n.v, .slice n.p n.n n.c] := Bk.below (Bk.at (Bk.at (Bk.at bk34 0 (.int .i64 n.k)) 1 (.int .i64 n.v)) 2 (.slice n.p n.n n.c)) hb
    clear hb
    rw [← hnw]
    clear hnw
    replace lt4 := Bk.lz bk2
    replace lt5 := Bk.lz bk3
    replace lt14 := Bk.lz bk12
    replace lt35 := Bk.lz bk34
    refine hK.out _ _ ⟨hc6, hc7, hc8⟩ (fun hHeld => ?_)
    clear hK K
    try simp only [Act.put, sb, List.set]
    refine wpAnyH_done (by kernel_rfl) ?_ _
    refine NoPanic.normal ?_
    clear hHeld
    have hE5 := ExAt.keep (S := fun _ => False) (Chg.refl _ _) (fun _ _ _ => id) (fun _ h _ => h) (by omega : d + 1 ≤ 5) hE; have hT5 := Thin.mono (by omega : d + 1 ≤ 5) hTh
    obtain ⟨tc44, tf45⟩ := Bk.cf bk34 0 rfl
    obtain ⟨tc46, tf47⟩ := Bk.cf bk34 1 rfl
    obtain ⟨tc48, tf49⟩ := Bk.cf bk34 2 rfl
    go_wp2_with fail
    go_meet
    exact ⟨n, e, _, _, w5.heap.size, w6.heap.size, rfl, bk34, bk2, bk3, hE5, hT5, by omega, hR, by omega, hC, by omega⟩
   refine AllReadyH.cons rfl (fun K hK => ?_) AllReadyH.nil
   go_simp
   obtain ⟨w4, hnw, hb⟩ := nmw (World.alloc w3 (.cells #[.int .i64 0, .int .i64 0, .slice none 0 0] 161))
   replace hC := ((hC.trans (Chg.of_below (bal (Bs _) _)))).trans (Chg.of_below hb)
   replace hR := (hR.below (bal (Bs _) _)).below hb
   have hsz50 := hb.size
   simp only [Sa] at hsz50
   replace hc6 := Kc hb (Ac hc6 _)
   replace hc7 := Kc hb (Ac hc7 _)
   replace hc8 := Kc hb (Ac hc8 _)
   replace ol10 := Ob (Ob ol10 (bal (Bs _) _)) hb
   replace bk2 := Bk.below (Bk.al bk2 _) hb
   replace bk3 := Bk.below (Bk.al bk3 _) hb
   replace bk12 := Bk.below (Bk.al bk12 _) hb
   have bk51 : Bk w4 (w3.heap.size) [.int .i64 0, .int .i64 0, .slice none 0 0] := Bk.below (Bk.nw (by simp) rfl) hb
   clear hb
   rw [← hnw]
   clear hnw
   replace lt4 := Bk.lz bk2
   replace lt5 := Bk.lz bk3
   replace lt14 := Bk.lz bk12
   have lt52 := Bk.lz bk51
   refine hK.out _ _ ⟨hc6, hc7, hc8⟩ (fun hHeld => ?_)
   clear hK K
   try simp only [Act.put, sb, List.set]
   refine Rdy 4 rfl (fun K hK => ?_)
   go_simp
   refine (num_any _ [2, 3, 2, 1, 4] _ B g (p) hR (Ro ol10 (by simp)) (fun b o c hb => by simp at hb; omega) (by simp) (by simp) (by omega)).mono ?_
   rintro e w5 ⟨d0, d0m, rfl, hRn, hc⟩
   replace hC := (hC).trans hc
   replace hR := hRn; clear hRn
   have hsz53 := hc.size
   replace hc6 := Gc hc hc6 (fun h => by have := ird _ h; omega)
   replace hc7 := Gc hc hc7 (fun h => by have := ird _ h; omega)
   replace hc8 := Gc hc hc8 (fun h => by have := ird _ h; omega)
   replace ol10 := Ow ol10 hc (fun gq h h2 => by have := iv13 gq h; have := ird gq h2; omega)
   replace bk2 := Bk.keep bk2 hc (fun h => by have := ird _ h; omega)
   replace bk3 := Bk.keep bk3 hc (fun h => by have := ird _ h; omega)
   replace bk12 := Bk.keep bk12 hc (fun h => by have := ird _ h; omega)
   replace bk51 := Bk.keep bk51 hc (fun h => by have := ird _ h; omega)
   clear hc
   obtain ⟨d, hd, hd4⟩ : ∃ d : Nat, d0 = d ∧ d ≤ 4 := ⟨d0.toNat, by simp only [List.mem_cons, List.not_mem_nil, or_false] at d0m; omega, by simp only [List.mem_cons, List.not_mem_nil, or_false] at d0m; omega⟩
   subst hd
   clear d0m
   have hdc := dcost_le hd4
   replace lt4 := Bk.lz bk2
   replace lt5 := Bk.lz bk3
   replace lt14 := Bk.lz bk12
   replace lt52 := Bk.lz bk51
   refine hK.out _ _ ⟨hc6, hc7, hc8⟩ (fun hHeld => ?_)
   clear hK K
   try simp only [Act.put, sb, List.set]
   refine Rdy 5 rfl (fun K hK => ?_)
   go_simp
   refine (l2Draw_any pv pa nv cv na ca vb B g hnv hnb d (p + 1) _ hd4 hR (by omega)).mono ?_
   rintro e w6 ⟨n, e, p1, rfl, hE, hTh, hRn, hp1, hc⟩
   replace hC := (hC).trans hc
   replace hR := hRn; clear hRn
   have hsz54 := hc.size
   replace hc6 := Gc hc hc6 (fun h => by have := ird _ h; omega)
   replace hc7 := Gc hc hc7 (fun h => by have := ird _ h; omega)
   replace hc8 := Gc hc hc8 (fun h => by have := ird _ h; omega)
   replace ol10 := Ow ol10 hc (fun gq h h2 => by have := iv13 gq h; have := ird gq h2; omega)
   replace bk2 := Bk.keep bk2 hc (fun h => by have := ird _ h; omega)
   replace bk3 := Bk.keep bk3 hc (fun h => by have := ird _ h; omega)
   replace bk12 := Bk.keep bk12 hc (fun h => by have := ird _ h; omega)
   replace bk51 := Bk.keep bk51 hc (fun h => by have := ird _ h; omega)
   clear hc
   replace hE := ExAt.keep (S := fun _ => False) (Chg.refl _ _) (fun _ _ _ => id) (fun q (hq : w5.heap.size ≤ q) hlt => (show w5.heap.size ≤ q ∧ q < w6.heap.size from ⟨hq, hlt⟩)) (Nat.le_refl _) hE
   replace lt4 := Bk.lz bk2
   replace lt5 := Bk.lz bk3
   replace lt14 := Bk.lz bk12
   replace lt52 := Bk.lz bk51
   refine hK.out _ _ ⟨hc6, hc7, hc8⟩ (fun hHeld => ?_)
   clear hK K
   try simp only [Act.put, sb, List.set]
   refine Rdy 7 rfl (fun K hK => ?_)
   obtain ⟨tc55, tf56⟩ := Bk.cf bk51 0 rfl
   obtain ⟨tc57, tf58⟩ := Bk.cf bk51 1 rfl
   obtain ⟨tc59, tf60⟩ := Bk.cf bk51 2 rfl
   go_simp
   obtain ⟨w7, hnw, hb⟩ := nmw (World.setCell (World.setCell (World.setCell w6 ⟨w3.heap.size, 0, none⟩ (.int .i64 n.k)) ⟨w3.heap.size, 1, none⟩ (.int .i64 n.v)) ⟨w3.heap.size, 2, none⟩ (.slice n.p n.n n.c))
   replace hC := ((((hC.setNew _ _ _ (Or.inr (by omega))).setNew _ _ _ (Or.inr (by omega))).setNew _ _ _ (Or.inr (by omega)))).trans (Chg.of_below hb)
   replace hR := (((hR.keep (C1 _ _ _) (by omega) (fun _ _ => by omega)).keep (C1 _ _ _) (by omega) (fun _ _ => by omega)).keep (C1 _ _ _) (by omega) (fun _ _ => by omega)).below hb
   replace hE := ((ExAt.kI (C1 _ _ _) (fun q _ _ h => by omega) (ExAt.kI (C1 _ _ _) (fun q _ _ h => by omega) (ExAt.kI (C1 _ _ _) (fun q _ _ h => by omega) hE))).below hb)
   have hsz61 := hb.size
   simp only [Ss] at hsz61
   clear tf56 tc55 tf58 tc57 tf60 tc59
   replace hc6 := Kc hb (Nc (Nc (Nc hc6 (by omega) _) (by omega) _) (by omega) _)
   replace hc7 := Kc hb (Nc (Nc (Nc hc7 (by omega) _) (by omega) _) (by omega) _)
   replace hc8 := Kc hb (Nc (Nc (Nc hc8 (by omega) _) (by omega) _) (by omega) _)
   replace ol10 := Ob (Oe (Oe (Oe ol10 _ _ (fun h => by have := iv13 _ h; omega) _) _ _ (fun h => by have := iv13 _ h; omega) _) _ _ (fun h => by have := iv13 _ h; omega) _) hb
   replace bk2 := Bk.below (Bk.ne (Bk.ne (Bk.ne bk2 (by omega) _) (by omega) _) (by omega) _) hb
   replace bk3 := Bk.below (Bk.ne (Bk.ne (Bk.ne bk3 (by omega) _) (by omega) _) (by omega) _) hb
   replace bk12 := Bk.below (Bk.ne (Bk.ne (Bk.ne bk12 (by omega) _) (by omega) _) (by omega) _) hb
   replace bk51 : Bk w7 (w3.heap.size) [.int .i64 n.k, .int .i64 n.v, .slice n.p n.n n.c] := Bk.below (Bk.at (Bk.at (Bk.at bk51 0 (.int .i64 n.k)) 1 (.int .i64 n.v)) 2 (.slice n.p n.n n.c)) hb
   clear hb
   rw [← hnw]
   clear hnw
   replace lt4 := Bk.lz bk2
   replace lt5 := Bk.lz bk3
   replace lt14 := Bk.lz bk12
   replace lt52 := Bk.lz bk51
   refine hK.out _ _ ⟨hc6, hc7, hc8⟩ (fun hHeld => ?_)
   clear hK K
   try simp only [Act.put, sb, List.set]
   refine wpAnyH_done (by kernel_rfl) ?_ _
   refine NoPanic.normal ?_
   clear hHeld
   have hE5 := ExAt.keep (S := fun _ => False) (Chg.refl _ _) (fun _ _ _ => id) (fun _ h _ => h) (by omega : d + 1 ≤ 5) hE; have hT5 := Thin.mono (by omega : d + 1 ≤ 5) hTh
   obtain ⟨tc62, tf63⟩ := Bk.cf bk51 0 rfl
   obtain ⟨tc64, tf65⟩ := Bk.cf bk51 1 rfl
   obtain ⟨tc66, tf67⟩ := Bk.cf bk51 2 rfl
   go_wp2_with fail
   go_meet
   exact ⟨n, e, _, _, w5.heap.size, w6.heap.size, rfl, bk51, bk2, bk3, hE5, hT5, by omega, hR, by omega, hC, by omega⟩
  refine AllReadyH.cons rfl (fun K hK => ?_) AllReadyH.nil
  go_simp
  obtain ⟨w3, hnw, hb⟩ := nmw (World.alloc w2 (.cells #[.int .i64 0, .int .i64 0, .slice none 0 0] 161))
  replace hC := ((hC.trans (Chg.of_below (bal (Bs _) _)))).trans (Chg.of_below hb)
  replace hR := (hR.below (bal (Bs _) _)).below hb
  have hsz68 := hb.size
  simp only [Sa] at hsz68
  replace hc6 := Kc hb (Ac hc6 _)
  replace hc7 := Kc hb (Ac hc7 _)
  replace hc8 := Kc hb (Ac hc8 _)
  replace bk2 := Bk.below (Bk.al bk2 _) hb
  replace bk3 := Bk.below (Bk.al bk3 _) hb
  have bk69 : Bk w3 (w2.heap.size) [.int .i64 0, .int .i64 0, .slice none 0 0] := Bk.below (Bk.nw (by simp) rfl) hb
  clear hb
  rw [← hnw]
  clear hnw
  replace lt4 := Bk.lz bk2
  replace lt5 := Bk.lz bk3
  have lt70 := Bk.lz bk69
  refine hK.out _ _ ⟨hc6, hc7, hc8⟩ (fun hHeld => ?_)
  clear hK K
  try simp only [Act.put, sb, List.set]
  refine Rdy 3 rfl (fun K hK => ?_)
  go_simp
  obtain ⟨w4, hnw, hb⟩ := nmw (World.alloc w3 (.cells #[.int .i64 2, .int .i64 3, .int .i64 2, .int .i64 1, .int .i64 4] 3))
  replace hC := ((hC.trans (Chg.of_below (bal (Bs _) _)))).trans (Chg.of_below hb)
  replace hR := (hR.below (bal (Bs _) _)).below hb
  have ol71 := Ob (World.ownsRow_lit (base := (w3).heap.size) (e := 3) (size := 1) (w3) #[.int .i64 2, .int .i64 3, .int .i64 2, .int .i64 1, .int .i64 4] 5 (Nat.le_refl _) (by unfold maxLen; omega) (by simp)) hb
  try simp only [Sa, Ss] at ol71
  have hsz72 := hb.size
  simp only [Sa] at hsz72
  replace hc6 := Kc hb (Ac hc6 _)
  replace hc7 := Kc hb (Ac hc7 _)
  replace hc8 := Kc hb (Ac hc8 _)
  replace bk2 := Bk.below (Bk.al bk2 _) hb
  replace bk3 := Bk.below (Bk.al bk3 _) hb
  replace bk69 := Bk.below (Bk.al bk69 _) hb
  have bk73 : Bk w4 (w3.heap.size) [.int .i64 2, .int .i64 3, .int .i64 2, .int .i64 1, .int .i64 4] := Bk.below (Bk.nw (by simp) rfl) hb
  clear hb
  have iv74 := ol71.lt
  try simp only [Sa] at iv74
  rw [← hnw]
  clear hnw
  replace lt4 := Bk.lz bk2
  replace lt5 := Bk.lz bk3
  replace lt70 := Bk.lz bk69
  have lt75 := Bk.lz bk73
  refine hK.out _ _ ⟨hc6, hc7, hc8⟩ (fun hHeld => ?_)
  clear hK K
  try simp only [Act.put, sb, List.set]
  refine Rdy 4 rfl (fun K hK => ?_)
  go_simp
  refine (num_any _ [2, 3, 2, 1, 4] _ B g (p) hR (Ro ol71 (by simp)) (fun b o c hb => by simp at hb; omega) (by simp) (by simp) (by omega)).mono ?_
  rintro e w5 ⟨d0, d0m, rfl, hRn, hc⟩
  replace hC := (hC).trans hc
  replace hR := hRn; clear hRn
  have hsz76 := hc.size
  replace hc6 := Gc hc hc6 (fun h => by have := ird _ h; omega)
  replace hc7 := Gc hc hc7 (fun h => by have := ird _ h; omega)
  replace hc8 := Gc hc hc8 (fun h => by have := ird _ h; omega)
  replace ol71 := Ow ol71 hc (fun gq h h2 => by have := iv74 gq h; have := ird gq h2; omega)
  replace bk2 := Bk.keep bk2 hc (fun h => by have := ird _ h; omega)
  replace bk3 := Bk.keep bk3 hc (fun h => by have := ird _ h; omega)
  replace bk69 := Bk.keep bk69 hc (fun h => by have := ird _ h; omega)
  replace bk73 := Bk.keep bk73 hc (fun h => by have := ird _ h; omega)
  clear hc
  obtain ⟨d, hd, hd4⟩ : ∃ d : Nat, d0 = d ∧ d ≤ 4 := ⟨d0.toNat, by simp only [List.mem_cons, List.not_mem_nil, or_false] at d0m; omega, by simp only [List.mem_cons, List.not_mem_nil, or_false] at d0m; omega⟩
  subst hd
  clear d0m
  have hdc := dcost_le hd4
  replace lt4 := Bk.lz bk2
  replace lt5 := Bk.lz bk3
  replace lt70 := Bk.lz bk69
  replace lt75 := Bk.lz bk73
  refine hK.out _ _ ⟨hc6, hc7, hc8⟩ (fun hHeld => ?_)
  clear hK K
  try simp only [Act.put, sb, List.set]
  refine Rdy 5 rfl (fun K hK => ?_)
  go_simp
  refine (l2Draw_any pv pa nv cv na ca vb B g hnv hnb d (p + 1) _ hd4 hR (by omega)).mono ?_
  rintro e w6 ⟨n, e, p1, rfl, hE, hTh, hRn, hp1, hc⟩
  replace hC := (hC).trans hc
  replace hR := hRn; clear hRn
  have hsz77 := hc.size
  replace hc6 := Gc hc hc6 (fun h => by have := ird _ h; omega)
  replace hc7 := Gc hc hc7 (fun h => by have := ird _ h; omega)
  replace hc8 := Gc hc hc8 (fun h => by have := ird _ h; omega)
  replace ol71 := Ow ol71 hc (fun gq h h2 => by have := iv74 gq h; have := ird gq h2; omega)
  replace bk2 := Bk.keep bk2 hc (fun h => by have := ird _ h; omega)
  replace bk3 := Bk.keep bk3 hc (fun h => by have := ird _ h; omega)
  replace bk69 := Bk.keep bk69 hc (fun h => by have := ird _ h; omega)
  replace bk73 := Bk.keep bk73 hc (fun h => by have := ird _ h; omega)
  clear hc
  replace hE := ExAt.keep (S := fun _ => False) (Chg.refl _ _) (fun _ _ _ => id) (fun q (hq : w5.heap.size ≤ q) hlt => (show w5.heap.size ≤ q ∧ q < w6.heap.size from ⟨hq, hlt⟩)) (Nat.le_refl _) hE
  replace lt4 := Bk.lz bk2
  replace lt5 := Bk.lz bk3
  replace lt70 := Bk.lz bk69
  replace lt75 := Bk.lz bk73
  refine hK.out _ _ ⟨hc6, hc7, hc8⟩ (fun hHeld => ?_)
  clear hK K
  try simp only [Act.put, sb, List.set]
  refine Rdy 7 rfl (fun K hK => ?_)
  obtain ⟨tc78, tf79⟩ := Bk.cf bk69 0 rfl
  obtain ⟨tc80, tf81⟩ := Bk.cf bk69 1 rfl
  obtain ⟨tc82, tf83⟩ := Bk.cf bk69 2 rfl
  go_simp
  obtain ⟨w7, hnw, hb⟩ := nmw (World.setCell (World.setCell (World.setCell w6 ⟨w2.heap.size, 0, none⟩ (.int .i64 n.k)) ⟨w2.heap.size, 1, none⟩ (.int .i64 n.v)) ⟨w2.heap.size, 2, none⟩ (.slice n.p n.n n.c))
  replace hC := ((((hC.setNew _ _ _ (Or.inr (by omega))).setNew _ _ _ (Or.inr (by omega))).setNew _ _ _ (Or.inr (by omega)))).trans (Chg.of_below hb)
  replace hR := (((hR.keep (C1 _ _ _) (by omega) (fun _ _ => by omega)).keep (C1 _ _ _) (by omega) (fun _ _ => by omega)).keep (C1 _ _ _) (by omega) (fun _ _ => by omega)).below hb
  replace hE := ((ExAt.kI (C1 _ _ _) (fun q _ _ h => by omega) (ExAt.kI (C1 _ _ _) (fun q _ _ h => by omega) (ExAt.kI (C1 _ _ _) (fun q _ _ h => by omega) hE))).below hb)
  have hsz84 := hb.size
  simp only [Ss] at hsz84
  clear tf79 tc78 tf81 tc80 tf83 tc82
  replace hc6 := Kc hb (Nc (Nc (Nc hc6 (by omega) _) (by omega) _) (by omega) _)
  replace hc7 := Kc hb (Nc (Nc (Nc hc7 (by omega) _) (by omega) _) (by omega) _)
  replace hc8 := Kc hb (Nc (Nc (Nc hc8 (by omega) _) (by omega) _) (by omega) _)
  replace ol71 := Ob (Oe (Oe (Oe ol71 _ _ (fun h => by have := iv74 _ h; omega) _) _ _ (fun h => by have := iv74 _ h; omega) _) _ _ (fun h => by have := iv74 _ h; omega) _) hb
  replace bk2 := Bk.below (Bk.ne (Bk.ne (Bk.ne bk2 (by omega) _) (by omega) _) (by omega) _) hb
  replace bk3 := Bk.below (Bk.ne (Bk.ne (Bk.ne bk3 (by omega) _) (by omega) _) (by omega) _) hb
  replace bk69 : Bk w7 (w2.heap.size) [.int .i64 n.k, .int .i64 n.v, .slice n.p n.n n.c] := Bk.below (Bk.at (Bk.at (Bk.at bk69 0 (.int .i64 n.k)) 1 (.int .i64 n.v)) 2 (.slice n.p n.n n.c)) hb
  replace bk73 := Bk.below (Bk.ne (Bk.ne (Bk.ne bk73 (by omega) _) (by omega) _) (by omega) _) hb
  clear hb
  rw [← hnw]
  clear hnw
  replace lt4 := Bk.lz bk2
  replace lt5 := Bk.lz bk3
  replace lt70 := Bk.lz bk69
  replace lt75 := Bk.lz bk73
  refine hK.out _ _ ⟨hc6, hc7, hc8⟩ (fun hHeld => ?_)
  clear hK K
  try simp only [Act.put, sb, List.set]
  refine wpAnyH_done (by kernel_rfl) ?_ _
  refine NoPanic.normal ?_
  clear hHeld
  have hE5 := ExAt.keep (S := fun _ => False) (Chg.refl _ _) (fun _ _ _ => id) (fun _ h _ => h) (by omega : d + 1 ≤ 5) hE; have hT5 := Thin.mono (by omega : d + 1 ≤ 5) hTh
  obtain ⟨tc85, tf86⟩ := Bk.cf bk69 0 rfl
  obtain ⟨tc87, tf88⟩ := Bk.cf bk69 1 rfl
  obtain ⟨tc89, tf90⟩ := Bk.cf bk69 2 rfl
  go_wp2_with fail
  go_meet
  exact ⟨n, e, _, _, w5.heap.size, w6.heap.size, rfl, bk69, bk2, bk3, hE5, hT5, by omega, hR, by omega, hC, by omega⟩
 obtain ⟨w3, rfl⟩ : ∃ W, W = wc := ⟨_, rfl⟩
 clear hR hC bk2 bk3 lt4 lt5
 obtain ⟨n, e, b5, pk, lo, hi, rfl, kb5, kb3, kb4, hE, hTh, hbb, hR, hpk, hC, hzc⟩ := hcut
 have hT5 := Lib.hid hTh; clear hTh
 have lt91 := Bk.lz kb5
 have lt92 := Bk.lz kb3
 have lt93 := Bk.lz kb4
 have HRT := Lib.hid (l2Right_any pv pa nv cv na ca vb _ 5 n e _ hE)
 obtain ⟨tc94, tf95⟩ := Bk.cf kb5 0 rfl
 obtain ⟨tc96, tf97⟩ := Bk.cf kb5 1 rfl
 obtain ⟨tc98, tf99⟩ := Bk.cf kb5 2 rfl
 obtain ⟨tc100, tf101⟩ := Bk.cf kb3 0 rfl
 obtain ⟨tc102, tf103⟩ := Bk.cf kb3 1 rfl
 obtain ⟨tc104, tf105⟩ := Bk.cf kb3 2 rfl
 go_wp2_with fail
 refine (HRT.out).mono ?_
 rintro e w4 ⟨rfl, hb⟩
 replace hC := (hC).trans (Chg.of_below hb)
 replace hR := hR.below hb
 replace hE := (hE.below hb)
 have hsz106 := hb.size
 clear tf95 tc94 tf97 tc96 tf99 tc98 tf101 tc100 tf103 tc102 tf105 tc104
 replace kb5 := Bk.below kb5 hb
 replace kb3 := Bk.below kb3 hb
 replace kb4 := Bk.below kb4 hb
 clear hb
 replace lt91 := Bk.lz kb5
 replace lt92 := Bk.lz kb3
 replace lt93 := Bk.lz kb4
 cases hx : exRight nv na e with
 | true =>
  have tE := Lib.hid (ExAt.keep (C1 (w.heap.size + 1) (2) (.slice n.p n.n n.c)) (fun q (hq : lo ≤ q ∧ q < hi) _ (h : q = (w.heap.size + 1)) => by omega) (fun _ h _ => h) (Nat.le_refl _) (ExAt.keep (C1 (w.heap.size + 1) (1) (.int .i64 n.v)) (fun q (hq : lo ≤ q ∧ q < hi) _ (h : q = (w.heap.size + 1)) => by omega) (fun _ h _ => h) (Nat.le_refl _) (ExAt.keep (C1 (w.heap.size + 1) (0) (.int .i64 n.k)) (fun q (hq : lo ≤ q ∧ q < hi) _ (h : q = (w.heap.size + 1)) => by omega) (fun _ h _ => h) (Nat.le_refl _) hE)))
  clear hE
  have tC := (((hC.setNew (w.heap.size + 1) (0) (.int .i64 n.k) (Or.inr (by omega))).setNew (w.heap.size + 1) (1) (.int .i64 n.v) (Or.inr (by omega))).setNew (w.heap.size + 1) (2) (.slice n.p n.n n.c) (Or.inr (by omega))); have tR := (((hR.keep (C1 (w.heap.size + 1) (0) (.int .i64 n.k)) (by omega) (fun _ _ => by omega)).keep (C1 (w.heap.size + 1) (1) (.int .i64 n.v)) (by omega) (fun _ _ => by omega)).keep (C1 (w.heap.size + 1) (2) (.slice n.p n.n n.c)) (by omega) (fun _ _ => by omega))
  obtain ⟨tc107, tf108⟩ := Bk.cf kb5 0 rfl
  obtain ⟨tc109, tf110⟩ := Bk.cf kb5 1 rfl
  obtain ⟨tc111, tf112⟩ := Bk.cf kb5 2 rfl
  obtain ⟨tc113, tf114⟩ := Bk.cf kb4 0 rfl
  obtain ⟨tc115, tf116⟩ := Bk.cf kb4 1 rfl
  obtain ⟨tc117, tf118⟩ := Bk.cf kb4 2 rfl
  have x119 := (Nc (b := (w.heap.size + 1)) (j := 2) (Nc (b := (w.heap.size + 1)) (j := 1) (Tc _ (w.heap.size + 1) 0 (.int .i64 n.k) tc113) (by omega) (.int .i64 n.v)) (by omega) (.slice n.p n.n n.c))
  have x120 := (Nc (b := (w.heap.size + 1)) (j := 2) (Tc _ (w.heap.size + 1) 1 (.int .i64 n.v) (Nc (b := (w.heap.size + 1)) (j := 0) tc115 (by omega) (.int .i64 n.k))) (by omega) (.slice n.p n.n n.c))
  have x121 := (Tc _ (w.heap.size + 1) 2 (.slice n.p n.n n.c) (Nc (b := (w.heap.size + 1)) (j := 1) (Nc (b := (w.heap.size + 1)) (j := 0) tc117 (by omega) (.int .i64 n.k)) (by omega) (.int .i64 n.v)))
  have tt := True.intro
  go_wp2
  exact bodyPost_ret (v := .agg #[.int .i64 n.k, .int .i64 n.v, .slice n.p n.n n.c]) (by simp [results, Try.results169, go_sem, x119, x120, x121]) rfl (by exact ⟨n, e, _, rfl, ExAt.keep (S := fun _ => False) (Chg.refl _ _) (fun _ _ _ => id) (fun q (hq : lo ≤ q ∧ q < hi) _ => by show w.heap.size ≤ q; omega) (Nat.le_refl _) tE.out, hT5.out, tR, by omega, tC⟩)
 | false =>
  clear hE
  obtain ⟨tc122, tf123⟩ := Bk.cf kb3 0 rfl
  obtain ⟨tc124, tf125⟩ := Bk.cf kb3 1 rfl
  obtain ⟨tc126, tf127⟩ := Bk.cf kb3 2 rfl
  go_wp2_with fail
  refine (l2DrawAtom_any pv pa nv cv na ca vb B g (pk) _ hR (by omega) hnv hnb).mono ?_
  rintro e w5 ⟨k, v, p2, rfl, hRn, hp2, hc⟩
  replace hC := (hC).trans hc
  replace hR := hRn; clear hRn
  have hsz128 := hc.size
  clear tf123 tc122 tf125 tc124 tf127 tc126
  replace kb5 := Bk.keep kb5 hc (fun h => by have := ird _ h; omega)
  replace kb3 := Bk.keep kb3 hc (fun h => by have := ird _ h; omega)
  replace kb4 := Bk.keep kb4 hc (fun h => by have := ird _ h; omega)
  clear hc
  replace lt91 := Bk.lz kb5
  replace lt92 := Bk.lz kb3
  replace lt93 := Bk.lz kb4
  have tC := (((hC.setNew (w.heap.size + 1) (0) (.int .i64 k) (Or.inr (by omega))).setNew (w.heap.size + 1) (1) (.int .i64 v) (Or.inr (by omega))).setNew (w.heap.size + 1) (2) (.slice none 0 0) (Or.inr (by omega))); have tR := (((hR.keep (C1 (w.heap.size + 1) (0) (.int .i64 k)) (by omega) (fun _ _ => by omega)).keep (C1 (w.heap.size + 1) (1) (.int .i64 v)) (by omega) (fun _ _ => by omega)).keep (C1 (w.heap.size + 1) (2) (.slice none 0 0)) (by omega) (fun _ _ => by omega))
  obtain ⟨tc129, tf130⟩ := Bk.cf kb4 0 rfl
  obtain ⟨tc131, tf132⟩ := Bk.cf kb4 1 rfl
  obtain ⟨tc133, tf134⟩ := Bk.cf kb4 2 rfl
  have x135 := (Nc (b := (w.heap.size + 1)) (j := 2) (Nc (b := (w.heap.size + 1)) (j := 1) (Tc _ (w.heap.size + 1) 0 (.int .i64 k) tc129) (by omega) (.int .i64 v)) (by omega) (.slice none 0 0))
  have x136 := (Nc (b := (w.heap.size + 1)) (j := 2) (Tc _ (w.heap.size + 1) 1 (.int .i64 v) (Nc (b := (w.heap.size + 1)) (j := 0) tc131 (by omega) (.int .i64 k))) (by omega) (.slice none 0 0))
  have x137 := (Tc _ (w.heap.size + 1) 2 (.slice none 0 0) (Nc (b := (w.heap.size + 1)) (j := 1) (Nc (b := (w.heap.size + 1)) (j := 0) tc133 (by omega) (.int .i64 k)) (by omega) (.int .i64 v)))
  have tt := True.intro
  go_wp2
  exact bodyPost_ret (v := .agg #[.int .i64 k, .int .i64 v, .slice none 0 0]) (by simp [results, Try.results169, go_sem, x135, x136, x137]) rfl (by exact ⟨⟨k, v, none, 0, 0⟩, .mk k v [], _, rfl, ExAt.leaf k v, Thin.mono (by omega : 1 ≤ 5) ⟨by simp [Ex.kids], fun x hx => by simp [Ex.kids] at hx⟩, tR, by omega, tC⟩)
end Go.Proofs.Ytkjedgnepnbkpaa
