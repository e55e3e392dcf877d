/-
 Parts of the proof of the law FnSpecPath.
-/
import Derived.Test.YtkjedgnepnbkpaaSC
set_option maxHeartbeats 12800000
set_option maxRecDepth 100000
set_option linter.all false
namespace Go.Proofs.Ytkjedgnepnbkpaa
open Go.RowKit

def spathR (c : Cd) (s : Ms) : List Ev × Bool := if mvOk c s = true then (pathE c s, true) else ([], false)
theorem spath_no {c : Cd} {s : Ms} (h : mvOk c s = false) : spathR c s = ([], false) := by unfold spathR; rw [h]; rfl
theorem spath_yes {c : Cd} {s : Ms} (h : mvOk c s = true) : spathR c s = (pathE c s, true) := by unfold spathR; rw [h]; rfl
theorem spathR_len (c : Cd) (s : Ms) : (spathR c s).1.length ≤ 8 := by
 cases h : mvOk c s with
 | false => rw [spath_no h]; simp
 | true => rw [spath_yes h]; exact pathE_len c s

theorem iSpecPath_any (va vb vc vr vx vy : Value) (c : Cd) (s : Ms) (w : World) (hr : ReadsC w va vb vc c) (hs : ReadsS w vr vx vy s) (h0 : s.regs.length ≤ 1048576) (hl : s.mem.vals.length ≤ 1048576) (hn : s.mem.arrs.length ≤ 1048576) (hp : pre2 s.mem.arrs s.mem.arrs.length ≤ 1048576) :
  Calls Try.prog 18 #[.agg #[va, vb, vc], .agg #[.int .i64 s.pc, vr, vx, vy]] w fun e w' => ∃ u, e = .returned (.tuple #[u, .bool (spathR c s).2]) ∧ w'.ownsRow w.heap.size 47 2 u (spathR c s).1.length (evs (spathR c s).1) ∧ Below w.heap.size w w' := by
 have ivr := hr.lt
 obtain ⟨a0, c0, a1, c1, a2, c2, rfl, rfl, rfl⟩ := hr.shape
 obtain ⟨a5, c5, rfl⟩ := reads_shape hs.r
 obtain ⟨a3, c3, a4, c4, rfl, rfl⟩ := hs.m.shape
 have HR := Lib.hid (fun W (hW : Below w.heap.size w W) => hr.below hW); have HS := Lib.hid (fun W (hW : Below w.heap.size w W) => hs.below hW)
 have HMV := Lib.hid (fun W (hW : Below w.heap.size w W) => iMValid_any _ _ _ _ _ _ c s W (HR.out W hW) (HS.out W hW))
 have HOK := Lib.hid (fun h => mvOk_ok (c := c) (s := s) h)
 have HSN := Lib.hid (fun h => spath_no (c := c) (s := s) h); have HSY := Lib.hid (fun h => spath_yes (c := c) (s := s) h)
 have HB0 := Lib.hid h0; have HBL := Lib.hid hl; have HBN := Lib.hid hn; have HBP := Lib.hid hp
 clear hr hs h0 hl hn hp
 generalize spathR c s = R at *
 cases hv : mvOk c s with
 | false =>
  have HRR := Lib.hid (HSN.out hv)
  have HMV2 := Lib.hid (fun W hW => by have h := HMV.out W hW; rw [hv] at h; exact h)
  clear HMV HOK HSN HSY hv
  go_enter Try.func18, Try.ntmps18
  go_wp2_with fail
  refine (HMV2.out _ (bal (bal (Bs w) (.cells #[.slice a0 c.vars.length c0, .slice a1 c.arrays.length c1, .slice a2 c.list.length c2] 26)) (.cells #[.int .i64 s.pc, .slice a5 s.regs.length c5, .slice a3 s.mem.vals.length c3, .slice a4 s.mem.arrs.length c4] 39))).mono ?_
  rintro e w1 ⟨rfl, hb⟩
  have hsz1 := hb.size
  simp only [Sa] at hsz1
  have bk2 : Bk w1 (w.heap.size) [.slice a0 c.vars.length c0, .slice a1 c.arrays.length c1, .slice a2 c.list.length c2] := Bk.below (Bk.al (Bk.nw (by simp) rfl) (.cells #[.int .i64 s.pc, .slice a5 s.regs.length c5, .slice a3 s.mem.vals.length c3, .slice a4 s.mem.arrs.length c4] 39)) hb
  have bk3 : Bk w1 (w.heap.size + 1) [.int .i64 s.pc, .slice a5 s.regs.length c5, .slice a3 s.mem.vals.length c3, .slice a4 s.mem.arrs.length c4] := Bk.below (Bk.nw (by simp) rfl) hb
  have tot := btr (bal (bal (Bs w) (.cells #[.slice a0 c.vars.length c0, .slice a1 c.arrays.length c1, .slice a2 c.list.length c2] 26)) (.cells #[.int .i64 s.pc, .slice a5 s.regs.length c5, .slice a3 s.mem.vals.length c3, .slice a4 s.mem.arrs.length c4] 39)) hb
  clear hb
  have lt4 := Bk.lz bk2
  have lt5 := Bk.lz bk3
  have tt := tot
  go_wp2
  exact bodyPost_ret (v := .tuple #[.slice none 0 0, .bool false]) (by simp [results, Try.results18, go_sem]) rfl (by exact by rw [HRR.out]; exact ⟨_, rfl, World.ownsRow_nil _ _ _ _, tt⟩)
 | true =>
  have HRR := Lib.hid (HSY.out hv)
  have HMV2 := Lib.hid (fun W hW => by have h := HMV.out W hW; rw [hv] at h; exact h)
  have HK := Lib.hid (HOK.out hv)
  clear HMV HOK HSN HSY hv
  go_enter Try.func18, Try.ntmps18
  go_wp2_with fail
  refine (HMV2.out _ (bal (bal (Bs w) (.cells #[.slice a0 c.vars.length c0, .slice a1 c.arrays.length c1, .slice a2 c.list.length c2] 26)) (.cells #[.int .i64 s.pc, .slice a5 s.regs.length c5, .slice a3 s.mem.vals.length c3, .slice a4 s.mem.arrs.length c4] 39))).mono ?_
  rintro e w1 ⟨rfl, hb⟩
  have hsz6 := hb.size
  simp only [Sa] at hsz6
  have bk7 : Bk w1 (w.heap.size) [.slice a0 c.vars.length c0, .slice a1 c.arrays.length c1, .slice a2 c.list.length c2] := Bk.below (Bk.al (Bk.nw (by simp) rfl) (.cells #[.int .i64 s.pc, .slice a5 s.regs.length c5, .slice a3 s.mem.vals.length c3, .slice a4 s.mem.arrs.length c4] 39)) hb
  have bk8 : Bk w1 (w.heap.size + 1) [.int .i64 s.pc, .slice a5 s.regs.length c5, .slice a3 s.mem.vals.length c3, .slice a4 s.mem.arrs.length c4] := Bk.below (Bk.nw (by simp) rfl) hb
  have tot := btr (bal (bal (Bs w) (.cells #[.slice a0 c.vars.length c0, .slice a1 c.arrays.length c1, .slice a2 c.list.length c2] 26)) (.cells #[.int .i64 s.pc, .slice a5 s.regs.length c5, .slice a3 s.mem.vals.length c3, .slice a4 s.mem.arrs.length c4] 39)) hb
  clear hb
  have lt9 := Bk.lz bk7
  have lt10 := Bk.lz bk8
  obtain ⟨tc11, tf12⟩ := Bk.cf bk7 0 rfl
  obtain ⟨tc13, tf14⟩ := Bk.cf bk7 1 rfl
  obtain ⟨tc15, tf16⟩ := Bk.cf bk7 2 rfl
  obtain ⟨tc17, tf18⟩ := Bk.cf bk8 0 rfl
  obtain ⟨tc19, tf20⟩ := Bk.cf bk8 1 rfl
  obtain ⟨tc21, tf22⟩ := Bk.cf bk8 2 rfl
  obtain ⟨tc23, tf24⟩ := Bk.cf bk8 3 rfl
  go_wp2_with fail
  refine (iPath_any _ _ _ _ _ _ c s _ (HR.out _ tot) (HS.out _ tot) HB0.out HBL.out HBN.out HBP.out HK.out.2 HK.out.1).mono ?_
  rintro e w2 ⟨u, rfl, oU, hb⟩
  obtain ⟨pu, tu, rfl⟩ := Oh oU
  have hsz25 := hb.size
  clear tf12 tc11 tf14 tc13 tf16 tc15 tf18 tc17 tf20 tc19 tf22 tc21 tf24 tc23
  replace bk7 := Bk.below bk7 hb
  replace bk8 := Bk.below bk8 hb
  replace tot := btr tot hb
  clear hb
  clear bk7 bk8
  clear lt9 lt10
  have iv26 := oU.lt
  have tt := tot
  go_wp2
  exact bodyPost_ret (v := .tuple #[.slice pu ((pathE c s).length) tu, .bool true]) (by simp [results, Try.results18, go_sem]) rfl (by exact by rw [HRR.out]; exact ⟨_, rfl, Om oU (by omega), tt⟩)
theorem sSpecPath_any (va vb vc vr vx vy : Value) (c : Cd) (s : Ms) (w : World) (hr : ReadsC w va vb vc c) (hs : ReadsS w vr vx vy s) (h0 : s.regs.length ≤ 1048576) (hl : s.mem.vals.length ≤ 1048576) (hn : s.mem.arrs.length ≤ 1048576) (hp : pre2 s.mem.arrs s.mem.arrs.length ≤ 1048576) :
  Calls Try.prog 19 #[.agg #[va, vb, vc], .agg #[.int .i64 s.pc, vr, vx, vy]] w fun e w' => ∃ u, e = .returned (.tuple #[u, .bool (spathR c s).2]) ∧ w'.ownsRow w.heap.size 47 2 u (spathR c s).1.length (evs (spathR c s).1) ∧ Below w.heap.size w w' := by
 have ivr := hr.lt
 obtain ⟨a0, c0, a1, c1, a2, c2, rfl, rfl, rfl⟩ := hr.shape
 obtain ⟨a5, c5, rfl⟩ := reads_shape hs.r
 obtain ⟨a3, c3, a4, c4, rfl, rfl⟩ := hs.m.shape
 have HR := Lib.hid (fun W (hW : Below w.heap.size w W) => hr.below hW); have HS := Lib.hid (fun W (hW : Below w.heap.size w W) => hs.below hW)
 have HMV := Lib.hid (fun W (hW : Below w.heap.size w W) => sMValid_any _ _ _ _ _ _ c s W (HR.out W hW) (HS.out W hW))
 have HOK := Lib.hid (fun h => mvOk_ok (c := c) (s := s) h)
 have HSN := Lib.hid (fun h => spath_no (c := c) (s := s) h); have HSY := Lib.hid (fun h => spath_yes (c := c) (s := s) h)
 have HB0 := Lib.hid h0; have HBL := Lib.hid hl; have HBN := Lib.hid hn; have HBP := Lib.hid hp
 clear hr hs h0 hl hn hp
 generalize spathR c s = R at *
 cases hv : mvOk c s with
 | false =>
  have HRR := Lib.hid (HSN.out hv)
  have HMV2 := Lib.hid (fun W hW => by have h := HMV.out W hW; rw [hv] at h; exact h)
  clear HMV HOK HSN HSY hv
  go_enter Try.func19, Try.ntmps19
  go_wp2_with fail
  refine (HMV2.out _ (bal (bal (Bs w) (.cells #[.slice a0 c.vars.length c0, .slice a1 c.arrays.length c1, .slice a2 c.list.length c2] 26)) (.cells #[.int .i64 s.pc, .slice a5 s.regs.length c5, .slice a3 s.mem.vals.length c3, .slice a4 s.mem.arrs.length c4] 39))).mono ?_
  rintro e w1 ⟨rfl, hb⟩
  have hsz1 := hb.size
  simp only [Sa] at hsz1
  have bk2 : Bk w1 (w.heap.size) [.slice a0 c.vars.length c0, .slice a1 c.arrays.length c1, .slice a2 c.list.length c2] := Bk.below (Bk.al (Bk.nw (by simp) rfl) (.cells #[.int .i64 s.pc, .slice a5 s.regs.length c5, .slice a3 s.mem.vals.length c3, .slice a4 s.mem.arrs.length c4] 39)) hb
  have bk3 : Bk w1 (w.heap.size + 1) [.int .i64 s.pc, .slice a5 s.regs.length c5, .slice a3 s.mem.vals.length c3, .slice a4 s.mem.arrs.length c4] := Bk.below (Bk.nw (by simp) rfl) hb
  have tot := btr (bal (bal (Bs w) (.cells #[.slice a0 c.vars.length c0, .slice a1 c.arrays.length c1, .slice a2 c.list.length c2] 26)) (.cells #[.int .i64 s.pc, .slice a5 s.regs.length c5, .slice a3 s.mem.vals.length c3, .slice a4 s.mem.arrs.length c4] 39)) hb
  clear hb
  have lt4 := Bk.lz bk2
  have lt5 := Bk.lz bk3
  have ef := (World.ownsRow_lit (base := (w1).heap.size) (e := 47) (size := 2) (w1) #[] 0 (Nat.le_refl _) (by unfold maxLen; omega) (by simp))
  try simp only [Sa, Ss] at ef
  have tt := (bal tot (.cells #[] 47))
  go_wp2
  exact bodyPost_ret (v := .tuple #[.slice (some ⟨w1.heap.size, 0, none⟩) 0 0, .bool false]) (by simp [results, Try.results19, go_sem]) rfl (by exact by rw [HRR.out]; exact ⟨_, rfl, Om ef (by omega), tt⟩)
 | true =>
  have HRR := Lib.hid (HSY.out hv)
  have HMV2 := Lib.hid (fun W hW => by have h := HMV.out W hW; rw [hv] at h; exact h)
  have HK := Lib.hid (HOK.out hv)
  clear HMV HOK HSN HSY hv
  go_enter Try.func19, Try.ntmps19
  go_wp2_with fail
  refine (HMV2.out _ (bal (bal (Bs w) (.cells #[.slice a0 c.vars.length c0, .slice a1 c.arrays.length c1, .slice a2 c.list.length c2] 26)) (.cells #[.int .i64 s.pc, .slice a5 s.regs.length c5, .slice a3 s.mem.vals.length c3, .slice a4 s.mem.arrs.length c4] 39))).mono ?_
  rintro e w1 ⟨rfl, hb⟩
  have hsz7 := hb.size
  simp only [Sa] at hsz7
  have bk8 : Bk w1 (w.heap.size) [.slice a0 c.vars.length c0, .slice a1 c.arrays.length c1, .slice a2 c.list.length c2] := Bk.below (Bk.al (Bk.nw (by simp) rfl) (.cells #[.int .i64 s.pc, .slice a5 s.regs.length c5, .slice a3 s.mem.vals.length c3, .slice a4 s.mem.arrs.length c4] 39)) hb
  have bk9 : Bk w1 (w.heap.size + 1) [.int .i64 s.pc, .slice a5 s.regs.length c5, .slice a3 s.mem.vals.length c3, .slice a4 s.mem.arrs.length c4] := Bk.below (Bk.nw (by simp) rfl) hb
  have tot := btr (bal (bal (Bs w) (.cells #[.slice a0 c.vars.length c0, .slice a1 c.arrays.length c1, .slice a2 c.list.length c2] 26)) (.cells #[.int .i64 s.pc, .slice a5 s.regs.length c5, .slice a3 s.mem.vals.length c3, .slice a4 s.mem.arrs.length c4] 39)) hb
  clear hb
  have lt10 := Bk.lz bk8
  have lt11 := Bk.lz bk9
  go_upto_region 3 with (fail)
  replace lt10 := Bk.lz bk8
  replace lt11 := Bk.lz bk9
  obtain ⟨tc12, tf13⟩ := Bk.cf bk8 0 rfl
  obtain ⟨tc14, tf15⟩ := Bk.cf bk8 1 rfl
  obtain ⟨tc16, tf17⟩ := Bk.cf bk8 2 rfl
  obtain ⟨tc18, tf19⟩ := Bk.cf bk9 0 rfl
  obtain ⟨tc20, tf21⟩ := Bk.cf bk9 1 rfl
  obtain ⟨tc22, tf23⟩ := Bk.cf bk9 2 rfl
  obtain ⟨tc24, tf25⟩ := Bk.cf bk9 3 rfl
  refine wp_region_noPanic ?_
  refine wp_region_held_drew (S := (fun W' => W'.cell? ⟨w.heap.size, 0, none⟩ = some (.slice a0 c.vars.length c0) ∧ W'.cell? ⟨w.heap.size, 1, none⟩ = some (.slice a1 c.arrays.length c1) ∧ W'.cell? ⟨w.heap.size, 2, none⟩ = some (.slice a2 c.list.length c2) ∧ W'.cell? ⟨w.heap.size + 1, 0, none⟩ = some (.int .i64 s.pc) ∧ W'.cell? ⟨w.heap.size + 1, 1, none⟩ = some (.slice a5 s.regs.length c5) ∧ W'.cell? ⟨w.heap.size + 1, 2, none⟩ = some (.slice a3 s.mem.vals.length c3) ∧ W'.cell? ⟨w.heap.size + 1, 3, none⟩ = some (.slice a4 s.mem.arrs.length c4))) (by kernel_rfl) ⟨Kc (Below.drew (Bs w1)) tc12, Kc (Below.drew (Bs w1)) tc14, Kc (Below.drew (Bs w1)) tc16, Kc (Below.drew (Bs w1)) tc18, Kc (Below.drew (Bs w1)) tc20, Kc (Below.drew (Bs w1)) tc22, Kc (Below.drew (Bs w1)) tc24⟩ (fun hHeld => ?_)
  obtain ⟨w2, hwd⟩ : ∃ X, X = World.drew w1 := ⟨_, rfl⟩
  rw [← hwd] at hHeld ⊢
  have hb : Below w1.heap.size w1 w2 := by rw [hwd]; exact Below.drew (Bs _)
  clear hwd
  have hsz26 := hb.size
  replace tf13 := Kf hb (Lc tc12) tf13
  replace tf15 := Kf hb (Lc tc14) tf15
  replace tf17 := Kf hb (Lc tc16) tf17
  replace tf19 := Kf hb (Lc tc18) tf19
  replace tf21 := Kf hb (Lc tc20) tf21
  replace tf23 := Kf hb (Lc tc22) tf23
  replace tf25 := Kf hb (Lc tc24) tf25
  replace tc12 := Kc hb tc12
  replace tc14 := Kc hb tc14
  replace tc16 := Kc hb tc16
  replace tc18 := Kc hb tc18
  replace tc20 := Kc hb tc20
  replace tc22 := Kc hb tc22
  replace tc24 := Kc hb tc24
  replace bk8 := Bk.below bk8 hb
  replace bk9 := Bk.below bk9 hb
  replace tot := btr tot hb
  clear hb
  replace lt10 := Bk.lz bk8
  replace lt11 := Bk.lz bk9
  refine (tq 0 11 rfl rfl ?_ ?_ (tq 1 12 rfl rfl ?_ ?_ ?_))
  iterate 2 (rotate_left; intro W' hSw; (try dsimp only at hSw); go_simp; try with_reducible rfl)
  try simp only [Act.put, sb, List.set]
  refine Rdy 2 rfl (fun K hK => ?_)
  go_simp
  refine (sMOwn_any _ _ _ s _ (HS.out _ tot) HB0.out HBL.out HBN.out HBP.out).mono ?_
  rintro e w3 ⟨ur, ux, uy, us, rfl, OM, hb⟩
  obtain ⟨pr, tr, rfl⟩ := Oh OM.r
  obtain ⟨px, tx, rfl⟩ := Oh OM.v
  obtain ⟨py, ty, rfl⟩ := Oh OM.a.out
  have hsz27 := hb.size
  replace tf13 := Kf hb (Lc tc12) tf13
  replace tf15 := Kf hb (Lc tc14) tf15
  replace tf17 := Kf hb (Lc tc16) tf17
  replace tf19 := Kf hb (Lc tc18) tf19
  replace tf21 := Kf hb (Lc tc20) tf21
  replace tf23 := Kf hb (Lc tc22) tf23
  replace tf25 := Kf hb (Lc tc24) tf25
  replace tc12 := Kc hb tc12
  replace tc14 := Kc hb tc14
  replace tc16 := Kc hb tc16
  replace tc18 := Kc hb tc18
  replace tc20 := Kc hb tc20
  replace tc22 := Kc hb tc22
  replace tc24 := Kc hb tc24
  replace bk8 := Bk.below bk8 hb
  replace bk9 := Bk.below bk9 hb
  replace tot := btr tot hb
  clear hb
  have iv28 := OM.lt
  replace lt10 := Bk.lz bk8
  replace lt11 := Bk.lz bk9
  refine hK.out _ _ ⟨tc12, tc14, tc16, tc18, tc20, tc22, tc24⟩ (fun hHeld => ?_)
  clear hK K
  try simp only [Act.put, sb, List.set]
  refine Rdy 3 rfl (fun K hK => ?_)
  go_simp
  have HSP := Lib.hid (sPath_any _ _ _ _ _ _ us w.heap.size c s (.slice none 0 0) w3.heap.size [] w3 (HR.out _ tot) (OM.mono (by omega)) (World.ownsRow_nil _ _ _ _) (fun q h => by simp [Value.ownBlock] at h) (Nat.le_refl _) (by simp) (fun q h => ⟨fun h2 => by have := ivr q h; have := iv28 q h2; omega, fun h2 => by simp [Value.ownBlock] at h2⟩) HK.out.2 HK.out.1)
  have iS : ∀ q, (OwnMB (.slice pr s.regs.length tr) (.slice px s.mem.vals.length tx) (.slice py s.mem.arrs.length ty) us q ∨ (Value.slice none 0 0).ownBlock = some q) → w.heap.size + 2 ≤ q ∧ q < w3.heap.size := fun q h => by rcases h with h | h; (have := iv28 q h; omega); (simp [Value.ownBlock] at h)
  refine (HSP.out).mono ?_
  rintro e w4 ⟨u, rfl, oU, hd, hC⟩
  obtain ⟨pu, tu, rfl⟩ := Oh oU
  simp only [List.nil_append] at oU
  have hsz29 := hC.size
  replace tf13 := Gf hC (Lc tc12) tf13 (fun h => by have := iS _ h; omega)
  replace tf15 := Gf hC (Lc tc14) tf15 (fun h => by have := iS _ h; omega)
  replace tf17 := Gf hC (Lc tc16) tf17 (fun h => by have := iS _ h; omega)
  replace tf19 := Gf hC (Lc tc18) tf19 (fun h => by have := iS _ h; omega)
  replace tf21 := Gf hC (Lc tc20) tf21 (fun h => by have := iS _ h; omega)
  replace tf23 := Gf hC (Lc tc22) tf23 (fun h => by have := iS _ h; omega)
  replace tf25 := Gf hC (Lc tc24) tf25 (fun h => by have := iS _ h; omega)
  replace tc12 := Gc hC tc12 (fun h => by have := iS _ h; omega)
  replace tc14 := Gc hC tc14 (fun h => by have := iS _ h; omega)
  replace tc16 := Gc hC tc16 (fun h => by have := iS _ h; omega)
  replace tc18 := Gc hC tc18 (fun h => by have := iS _ h; omega)
  replace tc20 := Gc hC tc20 (fun h => by have := iS _ h; omega)
  replace tc22 := Gc hC tc22 (fun h => by have := iS _ h; omega)
  replace tc24 := Gc hC tc24 (fun h => by have := iS _ h; omega)
  replace bk8 := Bk.keep bk8 hC (fun h => by have := iS _ h; omega)
  replace bk9 := Bk.keep bk9 hC (fun h => by have := iS _ h; omega)
  replace tot := tot.trans (hC.below w.heap.size (by have := tot.size; omega) (fun gq hgq h => by have := iS gq h; omega))
  clear hC
  have iv30 := oU.lt
  replace lt10 := Bk.lz bk8
  replace lt11 := Bk.lz bk9
  refine hK.out _ _ ⟨tc12, tc14, tc16, tc18, tc20, tc22, tc24⟩ (fun hHeld => ?_)
  clear hK K
  try simp only [Act.put, sb, List.set]
  refine (tq 4 4 rfl rfl ?_ ?_ (tq 5 5 rfl rfl ?_ ?_ ?_))
  iterate 2 (rotate_left; intro W' hSw; (try dsimp only at hSw); go_simp; try with_reducible rfl)
  try simp only [Act.put, sb, List.set]
  refine wpAnyH_done (by kernel_rfl) ?_ _
  refine NoPanic.normal ?_
  clear hHeld
  have tt := tot
  go_wp2
  exact bodyPost_ret (v := .tuple #[.slice pu ((pathE c s).length) tu, .bool true]) (by simp [results, Try.results19, go_sem]) rfl (by exact by rw [HRR.out]; exact ⟨_, rfl, Om oU (by omega), tt⟩)
end Go.Proofs.Ytkjedgnepnbkpaa
