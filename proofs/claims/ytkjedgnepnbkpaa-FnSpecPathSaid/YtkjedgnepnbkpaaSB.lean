/-
 Parts of the proof of the law FnSpecPath.
-/
import Derived.Test.YtkjedgnepnbkpaaME
import Derived.Test.YtkjedgnepnbkpaaML
import Derived.Test.YtkjedgnepnbkpaaRS
import Derived.Test.YtkjedgnepnbkpaaSA
set_option maxHeartbeats 12800000
set_option maxRecDepth 100000
set_option linter.all false
namespace Go.Proofs.Ytkjedgnepnbkpaa
open Go.RowKit

theorem iMOwn_any (vr vx vy : Value) (s : Ms) (w : World) (hs : ReadsS w vr vx vy s) (h0 : s.regs.length ≤ 1048576) (hl : s.mem.vals.length ≤ 1048576) (hn : s.mem.arrs.length ≤ 1048576) (hp : pre2 s.mem.arrs s.mem.arrs.length ≤ 1048576) :
  Calls Try.prog 67 #[.agg #[.int .i64 s.pc, vr, vx, vy]] w fun e w' => ∃ ur ux uy us, e = .returned (.agg #[.int .i64 s.pc, ur, ux, uy]) ∧ OwnMv w' w.heap.size ur ux uy us s.regs s.mem ∧ Below w.heap.size w w' := by
 obtain ⟨a5, c5, rfl⟩ := reads_shape hs.r
 obtain ⟨a3, c3, a4, c4, rfl, rfl⟩ := hs.m.shape
 have HS := Lib.hid (fun W (hW : Below w.heap.size w W) => hs.below hW)
 have HCP := Lib.hid (fun W (hW : Below w.heap.size w W) => memOwn_any _ _ s.mem W (HS.out W hW).m.x (HS.out W hW).m.y hl hn hp)
 clear hs
 go_enter Try.func67, Try.ntmps67
 go_upto_region 1 with (fail)
 obtain ⟨w1, hnw, hb⟩ := nmw (World.alloc (World.alloc w (.cells #[.int .i64 s.pc, .slice a5 s.regs.length c5, .slice a3 s.mem.vals.length c3, .slice a4 s.mem.arrs.length c4] 39)) (.cells #[.int .i64 0, .slice none 0 0, .slice none 0 0, .slice none 0 0] 39))
 have hsz1 := hb.size
 simp only [Sa] at hsz1
 have bk2 : Bk w1 (w.heap.size) [.int .i64 s.pc, .slice a5 s.regs.length c5, .slice a3 s.mem.vals.length c3, .slice a4 s.mem.arrs.length c4] := Bk.below (Bk.al (Bk.nw (by simp) rfl) (.cells #[.int .i64 0, .slice none 0 0, .slice none 0 0, .slice none 0 0] 39)) hb
 have bk3 : Bk w1 (w.heap.size + 1) [.int .i64 0, .slice none 0 0, .slice none 0 0, .slice none 0 0] := Bk.below (Bk.nw (by simp) rfl) hb
 have tot := btr (bal (bal (Bs w) (.cells #[.int .i64 s.pc, .slice a5 s.regs.length c5, .slice a3 s.mem.vals.length c3, .slice a4 s.mem.arrs.length c4] 39)) (.cells #[.int .i64 0, .slice none 0 0, .slice none 0 0, .slice none 0 0] 39)) hb
 clear hb
 rw [← hnw]
 clear hnw
 have lt4 := Bk.lz bk2
 have lt5 := Bk.lz bk3
 obtain ⟨tc6, tf7⟩ := Bk.cf bk2 0 rfl
 obtain ⟨tc8, tf9⟩ := Bk.cf bk2 1 rfl
 obtain ⟨tc10, tf11⟩ := Bk.cf bk2 2 rfl
 obtain ⟨tc12, tf13⟩ := Bk.cf bk2 3 rfl
 refine wp_region_noPanic ?_
 refine wp_region_held_drew (S := (fun W' => W'.cell? ⟨w.heap.size, 0, none⟩ = some (.int .i64 s.pc) ∧ W'.cell? ⟨w.heap.size, 1, none⟩ = some (.slice a5 s.regs.length c5) ∧ W'.cell? ⟨w.heap.size, 2, none⟩ = some (.slice a3 s.mem.vals.length c3) ∧ W'.cell? ⟨w.heap.size, 3, none⟩ = some (.slice a4 s.mem.arrs.length c4))) (by kernel_rfl) ⟨Kc (Below.drew (Bs w1)) tc6, Kc (Below.drew (Bs w1)) tc8, Kc (Below.drew (Bs w1)) tc10, Kc (Below.drew (Bs w1)) tc12⟩ (fun hHeld => ?_)
 obtain ⟨w2, hwd⟩ : ∃ X, X = World.drew w1 := ⟨_, rfl⟩
 rw [← hwd] at hHeld ⊢
 have hb : Below w1.heap.size w1 w2 := by rw [hwd]; exact Below.drew (Bs _)
 clear hwd
 have hsz14 := hb.size
 replace tf7 := Kf hb (Lc tc6) tf7
 replace tf9 := Kf hb (Lc tc8) tf9
 replace tf11 := Kf hb (Lc tc10) tf11
 replace tf13 := Kf hb (Lc tc12) tf13
 replace tc6 := Kc hb tc6
 replace tc8 := Kc hb tc8
 replace tc10 := Kc hb tc10
 replace tc12 := Kc hb tc12
 replace bk2 := Bk.below bk2 hb
 replace bk3 := Bk.below bk3 hb
 replace tot := btr tot hb
 clear hb
 replace lt4 := Bk.lz bk2
 replace lt5 := Bk.lz bk3
 refine (tq 0 3 rfl rfl ?_ ?_ (tq 1 4 rfl rfl ?_ ?_ (tq 2 5 rfl rfl ?_ ?_ (tq 3 6 rfl rfl ?_ ?_ (tq 5 8 rfl rfl ?_ ?_ (tq 6 9 rfl rfl ?_ ?_ ?_))))))
 iterate 6 (rotate_left; intro W' hSw; (try dsimp only at hSw); go_simp; try with_reducible rfl)
 try simp only [Act.put, sb, List.set]
 refine Rdy 4 rfl (fun K hK => ?_)
 go_simp
 refine (clone_any _ s.regs _ (HS.out _ tot).r (by omega)).mono ?_
 rintro e w3 ⟨ur, rfl, oR, hb⟩
 obtain ⟨pr, tr, rfl⟩ := Oh oR
 have hsz15 := hb.size
 replace tf7 := Kf hb (Lc tc6) tf7
 replace tf9 := Kf hb (Lc tc8) tf9
 replace tf11 := Kf hb (Lc tc10) tf11
 replace tf13 := Kf hb (Lc tc12) tf13
 replace tc6 := Kc hb tc6
 replace tc8 := Kc hb tc8
 replace tc10 := Kc hb tc10
 replace tc12 := Kc hb tc12
 replace bk2 := Bk.below bk2 hb
 replace bk3 := Bk.below bk3 hb
 replace tot := btr tot hb
 clear hb
 have iv16 := oR.lt
 replace lt4 := Bk.lz bk2
 replace lt5 := Bk.lz bk3
 refine hK.out _ _ ⟨tc6, tc8, tc10, tc12⟩ (fun hHeld => ?_)
 clear hK K
 try simp only [Act.put, sb, List.set]
 refine Rdy 7 rfl (fun K hK => ?_)
 go_simp
 refine (HCP.out _ tot).mono ?_
 rintro e w4 ⟨ux, uy, us, rfl, ox, oy, hap, hb⟩
 obtain ⟨px, tx, rfl⟩ := Oh ox
 obtain ⟨py, ty, rfl⟩ := Oh oy.out
 have oM : OwnM w4 _ _ _ _ s.mem := ⟨ox, oy, hap⟩
 clear ox oy hap
 have hsz17 := hb.size
 replace tf7 := Kf hb (Lc tc6) tf7
 replace tf9 := Kf hb (Lc tc8) tf9
 replace tf11 := Kf hb (Lc tc10) tf11
 replace tf13 := Kf hb (Lc tc12) tf13
 replace tc6 := Kc hb tc6
 replace tc8 := Kc hb tc8
 replace tc10 := Kc hb tc10
 replace tc12 := Kc hb tc12
 replace oR := Ob oR hb
 replace bk2 := Bk.below bk2 hb
 replace bk3 := Bk.below bk3 hb
 replace tot := btr tot hb
 clear hb
 have iv18 := oM.lt
 replace lt4 := Bk.lz bk2
 replace lt5 := Bk.lz bk3
 refine hK.out _ _ ⟨tc6, tc8, tc10, tc12⟩ (fun hHeld => ?_)
 clear hK K
 try simp only [Act.put, sb, List.set]
 refine (tq 8 11 rfl rfl (.agg #[.int .i64 s.pc, .slice pr s.regs.length tr, .slice px s.mem.vals.length tx, .slice py s.mem.arrs.length ty]) (fun W' _ => by kernel_rfl) ?_)
 try simp only [Act.put, sb, List.set]
 refine Rdy 9 rfl (fun K hK => ?_)
 obtain ⟨tc19, tf20⟩ := Bk.cf bk3 0 rfl
 obtain ⟨tc21, tf22⟩ := Bk.cf bk3 1 rfl
 obtain ⟨tc23, tf24⟩ := Bk.cf bk3 2 rfl
 obtain ⟨tc25, tf26⟩ := Bk.cf bk3 3 rfl
 go_simp
 obtain ⟨w5, hnw, hb⟩ := nmw (World.setCell (World.setCell (World.setCell (World.setCell w4 ⟨w.heap.size + 1, 0, none⟩ (.int .i64 s.pc)) ⟨w.heap.size + 1, 1, none⟩ (.slice pr s.regs.length tr)) ⟨w.heap.size + 1, 2, none⟩ (.slice px s.mem.vals.length tx)) ⟨w.heap.size + 1, 3, none⟩ (.slice py s.mem.arrs.length ty))
 have hsz27 := hb.size
 simp only [Ss] at hsz27
 clear tf20 tc19 tf22 tc21 tf24 tc23 tf26 tc25
 replace tf7 := Kf hb (Lc (Nc (Nc (Nc (Nc tc6 (by omega) _) (by omega) _) (by omega) _) (by omega) _)) (Fs (Fs (Fs (Fs tf7 _) _) _) _)
 replace tf9 := Kf hb (Lc (Nc (Nc (Nc (Nc tc8 (by omega) _) (by omega) _) (by omega) _) (by omega) _)) (Fs (Fs (Fs (Fs tf9 _) _) _) _)
 replace tf11 := Kf hb (Lc (Nc (Nc (Nc (Nc tc10 (by omega) _) (by omega) _) (by omega) _) (by omega) _)) (Fs (Fs (Fs (Fs tf11 _) _) _) _)
 replace tf13 := Kf hb (Lc (Nc (Nc (Nc (Nc tc12 (by omega) _) (by omega) _) (by omega) _) (by omega) _)) (Fs (Fs (Fs (Fs tf13 _) _) _) _)
 replace tc6 := Kc hb (Nc (Nc (Nc (Nc tc6 (by omega) _) (by omega) _) (by omega) _) (by omega) _)
 replace tc8 := Kc hb (Nc (Nc (Nc (Nc tc8 (by omega) _) (by omega) _) (by omega) _) (by omega) _)
 replace tc10 := Kc hb (Nc (Nc (Nc (Nc tc10 (by omega) _) (by omega) _) (by omega) _) (by omega) _)
 replace tc12 := Kc hb (Nc (Nc (Nc (Nc tc12 (by omega) _) (by omega) _) (by omega) _) (by omega) _)
 replace oR := Ob (Oe (Oe (Oe (Oe oR _ _ (fun h => by have := iv16 _ h; omega) _) _ _ (fun h => by have := iv16 _ h; omega) _) _ _ (fun h => by have := iv16 _ h; omega) _) _ _ (fun h => by have := iv16 _ h; omega) _) hb
 replace oM := ((((oM.keep (C1 _ _ _) (fun gq h h2 => by have := iv18 gq h; omega)).keep (C1 _ _ _) (fun gq h h2 => by have := iv18 gq h; omega)).keep (C1 _ _ _) (fun gq h h2 => by have := iv18 gq h; omega)).keep (C1 _ _ _) (fun gq h h2 => by have := iv18 gq h; omega)).below hb
 replace bk2 := Bk.below (Bk.ne (Bk.ne (Bk.ne (Bk.ne bk2 (by omega) _) (by omega) _) (by omega) _) (by omega) _) hb
 replace bk3 : Bk w5 (w.heap.size + 1) [.int .i64 s.pc, .slice pr s.regs.length tr, .slice px s.mem.vals.length tx, .slice py s.mem.arrs.length ty] := Bk.below (Bk.at (Bk.at (Bk.at (Bk.at bk3 0 (.int .i64 s.pc)) 1 (.slice pr s.regs.length tr)) 2 (.slice px s.mem.vals.length tx)) 3 (.slice py s.mem.arrs.length ty)) hb
 replace tot := btr (bst (bst (bst (bst tot (w.heap.size + 1) 0 (by omega) (.int .i64 s.pc)) (w.heap.size + 1) 1 (by omega) (.slice pr s.regs.length tr)) (w.heap.size + 1) 2 (by omega) (.slice px s.mem.vals.length tx)) (w.heap.size + 1) 3 (by omega) (.slice py s.mem.arrs.length ty)) hb
 clear hb
 rw [← hnw]
 clear hnw
 replace lt4 := Bk.lz bk2
 replace lt5 := Bk.lz bk3
 refine hK.out _ _ ⟨tc6, tc8, tc10, tc12⟩ (fun hHeld => ?_)
 clear hK K
 try simp only [Act.put, sb, List.set]
 refine wpAnyH_done (by kernel_rfl) ?_ _
 refine NoPanic.normal ?_
 clear hHeld
 have OM : OwnMv w5 w.heap.size (.slice pr s.regs.length tr) (.slice px s.mem.vals.length tx) (.slice py s.mem.arrs.length ty) us s.regs s.mem := ⟨Om oR (by omega), Om oM.x (by omega), oM.y.mono (by omega), fun q h h2 => by have := iv16 q h; have := iv18 q (Or.inl h2); omega, fun q h h2 => by have := iv16 q h; have := iv18 q (Or.inr h2); omega, oM.ap⟩
 obtain ⟨tc28, tf29⟩ := Bk.cf bk3 0 rfl
 obtain ⟨tc30, tf31⟩ := Bk.cf bk3 1 rfl
 obtain ⟨tc32, tf33⟩ := Bk.cf bk3 2 rfl
 obtain ⟨tc34, tf35⟩ := Bk.cf bk3 3 rfl
 have x36 := tc28
 have x37 := tc30
 have x38 := tc32
 have x39 := tc34
 have tt := tot
 go_wp2
 exact bodyPost_ret (v := .agg #[.int .i64 s.pc, .slice pr s.regs.length tr, .slice px s.mem.vals.length tx, .slice py s.mem.arrs.length ty]) (by simp [results, Try.results67, go_sem, x36, x37, x38, x39]) rfl (by exact ⟨_, _, _, us, rfl, OM, tt⟩)
theorem sMOwn_any (vr vx vy : Value) (s : Ms) (w : World) (hs : ReadsS w vr vx vy s) (h0 : s.regs.length ≤ 1048576) (hl : s.mem.vals.length ≤ 1048576) (hn : s.mem.arrs.length ≤ 1048576) (hp : pre2 s.mem.arrs s.mem.arrs.length ≤ 1048576) :
  Calls Try.prog 65 #[.agg #[.int .i64 s.pc, vr, vx, vy]] w fun e w' => ∃ ur ux uy us, e = .returned (.agg #[.int .i64 s.pc, ur, ux, uy]) ∧ OwnMv w' w.heap.size ur ux uy us s.regs s.mem ∧ Below w.heap.size w w' := by
 obtain ⟨a5, c5, rfl⟩ := reads_shape hs.r
 obtain ⟨a3, c3, a4, c4, rfl, rfl⟩ := hs.m.shape
 have HS := Lib.hid (fun W (hW : Below w.heap.size w W) => hs.below hW)
 have HCP := Lib.hid (fun W (hW : Below w.heap.size w W) => l3Copy_any _ _ s.mem W (HS.out W hW).m.x (HS.out W hW).m.y hl hn hp)
 clear hs
 go_enter Try.func65, Try.ntmps65
 go_upto_region 1 with (fail)
 obtain ⟨w1, hnw, hb⟩ := nmw (World.alloc (World.alloc w (.cells #[.int .i64 s.pc, .slice a5 s.regs.length c5, .slice a3 s.mem.vals.length c3, .slice a4 s.mem.arrs.length c4] 39)) (.cells #[.int .i64 0, .slice none 0 0, .slice none 0 0, .slice none 0 0] 39))
 have hsz1 := hb.size
 simp only [Sa] at hsz1
 have bk2 : Bk w1 (w.heap.size) [.int .i64 s.pc, .slice a5 s.regs.length c5, .slice a3 s.mem.vals.length c3, .slice a4 s.mem.arrs.length c4] := Bk.below (Bk.al (Bk.nw (by simp) rfl) (.cells #[.int .i64 0, .slice none 0 0, .slice none 0 0, .slice none 0 0] 39)) hb
 have bk3 : Bk w1 (w.heap.size + 1) [.int .i64 0, .slice none 0 0, .slice none 0 0, .slice none 0 0] := Bk.below (Bk.nw (by simp) rfl) hb
 have tot := btr (bal (bal (Bs w) (.cells #[.int .i64 s.pc, .slice a5 s.regs.length c5, .slice a3 s.mem.vals.length c3, .slice a4 s.mem.arrs.length c4] 39)) (.cells #[.int .i64 0, .slice none 0 0, .slice none 0 0, .slice none 0 0] 39)) hb
 clear hb
 rw [← hnw]
 clear hnw
 have lt4 := Bk.lz bk2
 have lt5 := Bk.lz bk3
 obtain ⟨tc6, tf7⟩ := Bk.cf bk2 0 rfl
 obtain ⟨tc8, tf9⟩ := Bk.cf bk2 1 rfl
 obtain ⟨tc10, tf11⟩ := Bk.cf bk2 2 rfl
 obtain ⟨tc12, tf13⟩ := Bk.cf bk2 3 rfl
 refine wp_region_noPanic ?_
 refine wp_region_held_drew (S := (fun W' => W'.cell? ⟨w.heap.size, 0, none⟩ = some (.int .i64 s.pc) ∧ W'.cell? ⟨w.heap.size, 1, none⟩ = some (.slice a5 s.regs.length c5) ∧ W'.cell? ⟨w.heap.size, 2, none⟩ = some (.slice a3 s.mem.vals.length c3) ∧ W'.cell? ⟨w.heap.size, 3, none⟩ = some (.slice a4 s.mem.arrs.length c4))) (by kernel_rfl) ⟨Kc (Below.drew (Bs w1)) tc6, Kc (Below.drew (Bs w1)) tc8, Kc (Below.drew (Bs w1)) tc10, Kc (Below.drew (Bs w1)) tc12⟩ (fun hHeld => ?_)
 obtain ⟨w2, hwd⟩ : ∃ X, X = World.drew w1 := ⟨_, rfl⟩
 rw [← hwd] at hHeld ⊢
 have hb : Below w1.heap.size w1 w2 := by rw [hwd]; exact Below.drew (Bs _)
 clear hwd
 have hsz14 := hb.size
 replace tf7 := Kf hb (Lc tc6) tf7
 replace tf9 := Kf hb (Lc tc8) tf9
 replace tf11 := Kf hb (Lc tc10) tf11
 replace tf13 := Kf hb (Lc tc12) tf13
 replace tc6 := Kc hb tc6
 replace tc8 := Kc hb tc8
 replace tc10 := Kc hb tc10
 replace tc12 := Kc hb tc12
 replace bk2 := Bk.below bk2 hb
 replace bk3 := Bk.below bk3 hb
 replace tot := btr tot hb
 clear hb
 replace lt4 := Bk.lz bk2
 replace lt5 := Bk.lz bk3
 refine (tq 0 3 rfl rfl ?_ ?_ (tq 1 4 rfl rfl ?_ ?_ (tq 3 6 rfl rfl ?_ ?_ (tq 4 7 rfl rfl ?_ ?_ (tq 6 9 rfl rfl ?_ ?_ (tq 7 10 rfl rfl ?_ ?_ ?_))))))
 iterate 6 (rotate_left; intro W' hSw; (try dsimp only at hSw); go_simp; try with_reducible rfl)
 try simp only [Act.put, sb, List.set]
 refine Rdy 2 rfl (fun K hK => ?_)
 go_simp
 obtain ⟨w3, hnw, hb⟩ := nmw (World.alloc w2 (.cells #[] 3))
 have ol15 := Ob (World.ownsRow_lit (base := (w2).heap.size) (e := 3) (size := 1) (w2) #[] 0 (Nat.le_refl _) (by unfold maxLen; omega) (by simp)) hb
 try simp only [Sa, Ss] at ol15
 have hsz16 := hb.size
 simp only [Sa] at hsz16
 replace tf7 := Kf hb (Lc (Ac tc6 _)) (Fa (Lc tc6) tf7 _)
 replace tf9 := Kf hb (Lc (Ac tc8 _)) (Fa (Lc tc8) tf9 _)
 replace tf11 := Kf hb (Lc (Ac tc10 _)) (Fa (Lc tc10) tf11 _)
 replace tf13 := Kf hb (Lc (Ac tc12 _)) (Fa (Lc tc12) tf13 _)
 replace tc6 := Kc hb (Ac tc6 _)
 replace tc8 := Kc hb (Ac tc8 _)
 replace tc10 := Kc hb (Ac tc10 _)
 replace tc12 := Kc hb (Ac tc12 _)
 replace bk2 := Bk.below (Bk.al bk2 _) hb
 replace bk3 := Bk.below (Bk.al bk3 _) hb
 replace tot := btr (bal tot _) hb
 clear hb
 have iv17 := ol15.lt
 try simp only [Sa] at iv17
 rw [← hnw]
 clear hnw
 replace lt4 := Bk.lz bk2
 replace lt5 := Bk.lz bk3
 refine hK.out _ _ ⟨tc6, tc8, tc10, tc12⟩ (fun hHeld => ?_)
 clear hK K
 try simp only [Act.put, sb, List.set]
 refine Rdy 5 rfl (fun K hK => ?_)
 refine step_aps tInts rfl _ _ rfl (w2.heap.size) _ 0 ([]) rfl ol15 _ s.regs.length (ints s.regs) rfl ((HS.out _ tot).r) (one_ints s.regs) (by omega) (by first | omega | (simp only [Sa, Ss]; omega)) ?_
 intro vA w4 oA18 hc hNw _
 try simp only [Nat.zero_add, List.nil_append] at oA18
 obtain ⟨pA18, tA18, rfl⟩ := Oh oA18
 have hsz19 := hc.size
 replace tf7 := Gf hc (Lc tc6) tf7 (fun h => by have := iv17 _ h; omega)
 replace tf9 := Gf hc (Lc tc8) tf9 (fun h => by have := iv17 _ h; omega)
 replace tf11 := Gf hc (Lc tc10) tf11 (fun h => by have := iv17 _ h; omega)
 replace tf13 := Gf hc (Lc tc12) tf13 (fun h => by have := iv17 _ h; omega)
 replace tc6 := Gc hc tc6 (fun h => by have := iv17 _ h; omega)
 replace tc8 := Gc hc tc8 (fun h => by have := iv17 _ h; omega)
 replace tc10 := Gc hc tc10 (fun h => by have := iv17 _ h; omega)
 replace tc12 := Gc hc tc12 (fun h => by have := iv17 _ h; omega)
 replace bk2 := Bk.keep bk2 hc (fun h => by have := iv17 _ h; omega)
 replace bk3 := Bk.keep bk3 hc (fun h => by have := iv17 _ h; omega)
 replace tot := tot.trans (hc.below w.heap.size (by have := tot.size; omega) (fun gq hgq h => by have := iv17 gq h; omega))
 clear hc
 have iv20 := oA18.lt
 clear hNw ol15
 replace lt4 := Bk.lz bk2
 replace lt5 := Bk.lz bk3
 refine hK.out _ _ ⟨tc6, tc8, tc10, tc12⟩ (fun hHeld => ?_)
 clear hK K
 try simp only [Act.put, sb, List.set]
 refine Rdy 8 rfl (fun K hK => ?_)
 go_simp
 refine (HCP.out _ tot).mono ?_
 rintro e w5 ⟨ux, uy, us, rfl, ox, oy, hap, hb⟩
 obtain ⟨px, tx, rfl⟩ := Oh ox
 obtain ⟨py, ty, rfl⟩ := Oh oy.out
 have oM : OwnM w5 _ _ _ _ s.mem := ⟨ox, oy, hap⟩
 clear ox oy hap
 have hsz21 := hb.size
 replace tf7 := Kf hb (Lc tc6) tf7
 replace tf9 := Kf hb (Lc tc8) tf9
 replace tf11 := Kf hb (Lc tc10) tf11
 replace tf13 := Kf hb (Lc tc12) tf13
 replace tc6 := Kc hb tc6
 replace tc8 := Kc hb tc8
 replace tc10 := Kc hb tc10
 replace tc12 := Kc hb tc12
 replace oA18 := Ob oA18 hb
 replace bk2 := Bk.below bk2 hb
 replace bk3 := Bk.below bk3 hb
 replace tot := btr tot hb
 clear hb
 have iv22 := oM.lt
 replace lt4 := Bk.lz bk2
 replace lt5 := Bk.lz bk3
 refine hK.out _ _ ⟨tc6, tc8, tc10, tc12⟩ (fun hHeld => ?_)
 clear hK K
 try simp only [Act.put, sb, List.set]
 refine (tq 9 12 rfl rfl (.agg #[.int .i64 s.pc, .slice pA18 s.regs.length tA18, .slice px s.mem.vals.length tx, .slice py s.mem.arrs.length ty]) (fun W' _ => by kernel_rfl) ?_)
 try simp only [Act.put, sb, List.set]
 refine Rdy 10 rfl (fun K hK => ?_)
 obtain ⟨tc23, tf24⟩ := Bk.cf bk3 0 rfl
 obtain ⟨tc25, tf26⟩ := Bk.cf bk3 1 rfl
 obtain ⟨tc27, tf28⟩ := Bk.cf bk3 2 rfl
 obtain ⟨tc29, tf30⟩ := Bk.cf bk3 3 rfl
 go_simp
 obtain ⟨w6, hnw, hb⟩ := nmw (World.setCell (World.setCell (World.setCell (World.setCell w5 ⟨w.heap.size + 1, 0, none⟩ (.int .i64 s.pc)) ⟨w.heap.size + 1, 1, none⟩ (.slice pA18 s.regs.length tA18)) ⟨w.heap.size + 1, 2, none⟩ (.slice px s.mem.vals.length tx)) ⟨w.heap.size + 1, 3, none⟩ (.slice py s.mem.arrs.length ty))
 have hsz31 := hb.size
 simp only [Ss] at hsz31
 clear tf24 tc23 tf26 tc25 tf28 tc27 tf30 tc29
 replace tf7 := Kf hb (Lc (Nc (Nc (Nc (Nc tc6 (by omega) _) (by omega) _) (by omega) _) (by omega) _)) (Fs (Fs (Fs (Fs tf7 _) _) _) _)
 replace tf9 := Kf hb (Lc (Nc (Nc (Nc (Nc tc8 (by omega) _) (by omega) _) (by omega) _) (by omega) _)) (Fs (Fs (Fs (Fs tf9 _) _) _) _)
 replace tf11 := Kf hb (Lc (Nc (Nc (Nc (Nc tc10 (by omega) _) (by omega) _) (by omega) _) (by omega) _)) (Fs (Fs (Fs (Fs tf11 _) _) _) _)
 replace tf13 := Kf hb (Lc (Nc (Nc (Nc (Nc tc12 (by omega) _) (by omega) _) (by omega) _) (by omega) _)) (Fs (Fs (Fs (Fs tf13 _) _) _) _)
 replace tc6 := Kc hb (Nc (Nc (Nc (Nc tc6 (by omega) _) (by omega) _) (by omega) _) (by omega) _)
 replace tc8 := Kc hb (Nc (Nc (Nc (Nc tc8 (by omega) _) (by omega) _) (by omega) _) (by omega) _)
 replace tc10 := Kc hb (Nc (Nc (Nc (Nc tc10 (by omega) _) (by omega) _) (by omega) _) (by omega) _)
 replace tc12 := Kc hb (Nc (Nc (Nc (Nc tc12 (by omega) _) (by omega) _) (by omega) _) (by omega) _)
 replace oA18 := Ob (Oe (Oe (Oe (Oe oA18 _ _ (fun h => by have := iv20 _ h; omega) _) _ _ (fun h => by have := iv20 _ h; omega) _) _ _ (fun h => by have := iv20 _ h; omega) _) _ _ (fun h => by have := iv20 _ h; omega) _) hb
 replace oM := ((((oM.keep (C1 _ _ _) (fun gq h h2 => by have := iv22 gq h; omega)).keep (C1 _ _ _) (fun gq h h2 => by have := iv22 gq h; omega)).keep (C1 _ _ _) (fun gq h h2 => by have := iv22 gq h; omega)).keep (C1 _ _ _) (fun gq h h2 => by have := iv22 gq h; omega)).below hb
 replace bk2 := Bk.below (Bk.ne (Bk.ne (Bk.ne (Bk.ne bk2 (by omega) _) (by omega) _) (by omega) _) (by omega) _) hb
 replace bk3 : Bk w6 (w.heap.size + 1) [.int .i64 s.pc, .slice pA18 s.regs.length tA18, .slice px s.mem.vals.length tx, .slice py s.mem.arrs.length ty] := Bk.below (Bk.at (Bk.at (Bk.at (Bk.at bk3 0 (.int .i64 s.pc)) 1 (.slice pA18 s.regs.length tA18)) 2 (.slice px s.mem.vals.length tx)) 3 (.slice py s.mem.arrs.length ty)) hb
 replace tot := btr (bst (bst (bst (bst tot (w.heap.size + 1) 0 (by omega) (.int .i64 s.pc)) (w.heap.size + 1) 1 (by omega) (.slice pA18 s.regs.length tA18)) (w.heap.size + 1) 2 (by omega) (.slice px s.mem.vals.length tx)) (w.heap.size + 1) 3 (by omega) (.slice py s.mem.arrs.length ty)) hb
 clear hb
 rw [← hnw]
 clear hnw
 replace lt4 := Bk.lz bk2
 replace lt5 := Bk.lz bk3
 refine hK.out _ _ ⟨tc6, tc8, tc10, tc12⟩ (fun hHeld => ?_)
 clear hK K
 try simp only [Act.put, sb, List.set]
 refine wpAnyH_done (by kernel_rfl) ?_ _
 refine NoPanic.normal ?_
 clear hHeld
 have OM : OwnMv w6 w.heap.size (.slice pA18 s.regs.length tA18) (.slice px s.mem.vals.length tx) (.slice py s.mem.arrs.length ty) us s.regs s.mem := ⟨Om oA18 (by omega), Om oM.x (by omega), oM.y.mono (by omega), fun q h h2 => by have := iv20 q h; have := iv22 q (Or.inl h2); omega, fun q h h2 => by have := iv20 q h; have := iv22 q (Or.inr h2); omega, oM.ap⟩
 obtain ⟨tc32, tf33⟩ := Bk.cf bk3 0 rfl
 obtain ⟨tc34, tf35⟩ := Bk.cf bk3 1 rfl
 obtain ⟨tc36, tf37⟩ := Bk.cf bk3 2 rfl
 obtain ⟨tc38, tf39⟩ := Bk.cf bk3 3 rfl
 have x40 := tc32
 have x41 := tc34
 have x42 := tc36
 have x43 := tc38
 have tt := tot
 go_wp2
 exact bodyPost_ret (v := .agg #[.int .i64 s.pc, .slice pA18 s.regs.length tA18, .slice px s.mem.vals.length tx, .slice py s.mem.arrs.length ty]) (by simp [results, Try.results65, go_sem, x40, x41, x42, x43]) rfl (by exact ⟨_, _, _, us, rfl, OM, tt⟩)
end Go.Proofs.Ytkjedgnepnbkpaa
