/-
 Parts of the proofs of the laws FnCheckLive, FnFinalRegs, FnLiveRegister, FnLiveRegs.
-/
import Derived.Test.YtkjedgnepnbkpaaZM
import Derived.Test.YtkjedgnepnbkpaaQN
set_option linter.all false
namespace Go.Proofs.Ytkjedgnepnbkpaa
open Go.RowKit

set_option maxHeartbeats 6400000 in
set_option maxRecDepth 100000 in
theorem CompileProgram_any (va vb u : Value) (xs ys : List Int) (A : Nat → Prop) (D : Nat) (L : List St) (w : World) (hr : Reads w 1 va xs.length (ints xs)) (hs : Reads w 1 vb ys.length (ints ys)) (hx : BlAt w A D u L) (hA : ∀ q, A q → q < w.heap.size) (hL4 : L.length ≤ 4) (hsm : ∀ x ∈ L, SmS 3 x) (hx1 : xs.length ≤ 1000) (hy1 : ys.length ≤ 1000) :
  Calls Try.prog 106 #[.agg #[va, vb, u]] w fun r w' => ∃ (p0 p1 p2 : Option Addr) (t0 t1 t2 n0 n1 n2 : Nat) (ok : Bool), r = .returned (.tuple #[.agg #[.slice p0 n0 t0, .slice p1 n1 t1, .slice p2 n2 t2], .bool ok]) ∧ (ok = true → DrawC w' w.heap.size (.slice p0 n0 t0) (.slice p1 n1 t1) (.slice p2 n2 t2) n0 n1 n2 ∧ n0 ≤ xs.length ∧ n1 ≤ ys.length ∧ 1 ≤ n2 ∧ n2 ≤ 400) ∧ Below w.heap.size w w' := by
 obtain ⟨a0, c0, rfl⟩ := reads_shape hr
 obtain ⟨a1, c1, rfl⟩ := reads_shape hs
 have HRA := Lib.hid (fun W (hW : Below w.heap.size w W) => hr.below hW)
 have HRB := Lib.hid (fun W (hW : Below w.heap.size w W) => hs.below hW)
 have HCC := Lib.hid (fun W (hW : Below w.heap.size w W) => l7Compile_any _ _ u xs ys A D L W (hr.below hW) (hs.below hW) (hx.below hW) (fun q h => by have := hA q h; have := hW.size; omega) hL4 hsm)
 clear hr hs hx hA hL4 hsm
 go_enter Try.func106, Try.ntmps106
 go_wp2_with fail
 refine (HCC.out _ (bal (bal (Bs w) (.cells #[.slice a0 xs.length c0, .slice a1 ys.length c1, u] 110)) (.cells #[.slice none 0 0, .slice none 0 0, .slice none 0 0] 26))).mono ?_
 rintro e w1 ⟨la, fa, lc, fc, k, ap, ok, rfl, oL, hk, hk1, hb⟩
 simp only [Sa] at oL
 have hsz1 := hb.size
 simp only [Sa] at hsz1
 have bk2 : Bk w1 (w.heap.size) [.slice a0 xs.length c0, .slice a1 ys.length c1, u] := Bk.below (Bk.al (Bk.nw (by simp) rfl) (.cells #[.slice none 0 0, .slice none 0 0, .slice none 0 0] 26)) hb
 have bk3 : Bk w1 (w.heap.size + 1) [.slice none 0 0, .slice none 0 0, .slice none 0 0] := Bk.below (Bk.nw (by simp) rfl) hb
 have tot := btr (bal (bal (Bs w) (.cells #[.slice a0 xs.length c0, .slice a1 ys.length c1, u] 110)) (.cells #[.slice none 0 0, .slice none 0 0, .slice none 0 0] 26)) hb
 clear hb
 have lt4 := Bk.lz bk2
 have lt5 := Bk.lz bk3
 have iv6 := oL.lt
 try simp only [Sa] at iv6
 cases ok with
 | false =>
  obtain ⟨tc7, tf8⟩ := Bk.cf bk3 0 rfl
  obtain ⟨tc9, tf10⟩ := Bk.cf bk3 1 rfl
  obtain ⟨tc11, tf12⟩ := Bk.cf bk3 2 rfl
  have x13 := (Ac (Nc (b := (w.heap.size + 1)) (j := 2) (Nc (b := (w.heap.size + 1)) (j := 1) (Tc _ (w.heap.size + 1) 0 (.slice none 0 0) tc7) (by omega) (.slice none 0 0)) (by omega) (.slice none 0 0)) (.cells #[.slice la k lc, .slice fa k fc, .int .i64 ap] 155))
  have x14 := (Ac (Nc (b := (w.heap.size + 1)) (j := 2) (Tc _ (w.heap.size + 1) 1 (.slice none 0 0) (Nc (b := (w.heap.size + 1)) (j := 0) tc9 (by omega) (.slice none 0 0))) (by omega) (.slice none 0 0)) (.cells #[.slice la k lc, .slice fa k fc, .int .i64 ap] 155))
  have x15 := (Ac (Tc _ (w.heap.size + 1) 2 (.slice none 0 0) (Nc (b := (w.heap.size + 1)) (j := 1) (Nc (b := (w.heap.size + 1)) (j := 0) tc11 (by omega) (.slice none 0 0)) (by omega) (.slice none 0 0))) (.cells #[.slice la k lc, .slice fa k fc, .int .i64 ap] 155))
  have tt := (bal (bst (bst (bst tot (w.heap.size + 1) 0 (by omega) (.slice none 0 0)) (w.heap.size + 1) 1 (by omega) (.slice none 0 0)) (w.heap.size + 1) 2 (by omega) (.slice none 0 0)) (.cells #[.slice la k lc, .slice fa k fc, .int .i64 ap] 155))
  go_wp2
  exact bodyPost_ret (v := .tuple #[.agg #[.slice none 0 0, .slice none 0 0, .slice none 0 0], .bool false]) (by simp [results, Try.results106, go_sem, x13, x14, x15]) rfl (by exact ⟨_, _, _, _, _, _, _, _, _, false, rfl, (fun h => by cases h), tt⟩)
 | true =>
  go_upto_region 4 with (fail)
  obtain ⟨w2, hnw, hb⟩ := nmw (World.alloc w1 (.cells #[.slice la k lc, .slice fa k fc, .int .i64 ap] 155))
  have hsz16 := hb.size
  simp only [Sa] at hsz16
  replace oL := (oL.below (bal (Bs _) _)).below hb
  replace bk2 := Bk.below (Bk.al bk2 _) hb
  replace bk3 := Bk.below (Bk.al bk3 _) hb
  have bk17 : Bk w2 (w1.heap.size) [.slice la k lc, .slice fa k fc, .int .i64 ap] := Bk.below (Bk.nw (by simp) rfl) hb
  replace tot := btr (bal tot _) hb
  clear hb
  rw [← hnw]
  clear hnw
  have hc18 := Bk.cell bk2 0 (v := .slice a0 xs.length c0) rfl
  have hc19 := Bk.cell bk2 1 (v := .slice a1 ys.length c1) rfl
  have hc20 := Bk.cell bk17 0 (v := .slice la k lc) rfl
  replace lt4 := Bk.lz bk2
  replace lt5 := Bk.lz bk3
  have lt21 := Bk.lz bk17
  refine wp_region_noPanic ?_
  refine wp_region_held_drew (S := (fun W' => W'.cell? ⟨w.heap.size, 0, none⟩ = some (.slice a0 xs.length c0) ∧ W'.cell? ⟨w.heap.size, 1, none⟩ = some (.slice a1 ys.length c1) ∧ W'.cell? ⟨w1.heap.size, 0, none⟩ = some (.slice la k lc))) (by kernel_rfl) ⟨Kc (Below.drew (Bs w2)) hc18, Kc (Below.drew (Bs w2)) hc19, Kc (Below.drew (Bs w2)) hc20⟩ (fun hHeld => ?_)
  obtain ⟨w3, hwd⟩ : ∃ X, X = World.drew w2 := ⟨_, rfl⟩
  rw [← hwd] at hHeld ⊢
  have hb : Below w2.heap.size w2 w3 := by rw [hwd]; exact Below.drew (Bs _)
  clear hwd
  have hsz22 := hb.size
  replace oL := oL.below hb
  replace hc18 := Kc hb hc18
  replace hc19 := Kc hb hc19
  replace hc20 := Kc hb hc20
  replace bk2 := Bk.below bk2 hb
  replace bk3 := Bk.below bk3 hb
  replace bk17 := Bk.below bk17 hb
  replace tot := btr tot hb
  clear hb
  replace lt4 := Bk.lz bk2
  replace lt5 := Bk.lz bk3
  replace lt21 := Bk.lz bk17
  refine (tq 1 15 rfl rfl ?_ ?_ (tq 2 16 rfl rfl ?_ ?_ (tq 5 19 rfl rfl ?_ ?_ (tq 6 20 rfl rfl ?_ ?_ (tq 8 22 rfl rfl ?_ ?_ (tq 9 23 rfl rfl ?_ ?_ ?_))))))
  iterate 6 (rotate_left; intro W' hSw; (try dsimp only at hSw); go_simp; try with_reducible rfl)
  try simp only [Act.put, sb, List.set]
  refine wpAnyH_ready (rs := [0, 4]) (by kernel_rfl) (by simp) ?_
  refine AllReadyH.cons rfl (fun K hK => ?_) ?_
  ·-- 0
   go_simp
   obtain ⟨w4, hnw, hb⟩ := nmw (World.alloc w3 (.cells #[] 3))
   have ol23 := Ob (World.ownsRow_lit (base := (w3).heap.size) (e := 3) (size := 1) (w3) #[] 0 (Nat.le_refl _) (by unfold maxLen; omega) (by simp)) hb
   try simp only [Sa, Ss] at ol23
   have hsz24 := hb.size
   simp only [Sa] at hsz24
   replace oL := (oL.below (bal (Bs _) _)).below hb
   replace hc18 := Kc hb (Ac hc18 _)
   replace hc19 := Kc hb (Ac hc19 _)
   replace hc20 := Kc hb (Ac hc20 _)
   replace bk2 := Bk.below (Bk.al bk2 _) hb
   replace bk3 := Bk.below (Bk.al bk3 _) hb
   replace bk17 := Bk.below (Bk.al bk17 _) hb
   replace tot := btr (bal tot _) hb
   clear hb
   have iv25 := ol23.lt
   try simp only [Sa] at iv25
   rw [← hnw]
   clear hnw
   replace lt4 := Bk.lz bk2
   replace lt5 := Bk.lz bk3
   replace lt21 := Bk.lz bk17
   refine hK.out _ _ ⟨hc18, hc19, hc20⟩ (fun hHeld => ?_)
   clear hK K
   try simp only [Act.put, sb, List.set]
   refine wpAnyH_ready (rs := [3, 4]) (by kernel_rfl) (by simp) ?_
   refine AllReadyH.cons rfl (fun K hK => ?_) ?_
   ·-- 3
    have ie26 : ∀ q, (Value.slice (some ⟨w3.heap.size, 0, none⟩) 0 0).ownBlock = some q → q = w3.heap.size := fun q h => (Option.some.inj h).symm
    refine step_aps tInts rfl _ _ rfl (w3.heap.size) _ 0 ([]) rfl ol23 _ xs.length (ints xs) rfl ((HRA.out _ tot)) (one_ints xs) (by omega) (by first | omega | (simp only [Sa, Ss]; omega)) ?_
    intro vA w5 oA27 hc hNw _
    try simp only [Nat.zero_add, List.nil_append] at oA27
    obtain ⟨pA27, tA27, rfl⟩ := Oh oA27
    have in30 : ∀ q, (Value.slice pA27 xs.length tA27).ownBlock = some q → (q = w3.heap.size ∨ w4.heap.size ≤ q) ∧ q < w5.heap.size := fun q h => ⟨by rcases hNw with e | ⟨g, e, hg⟩; (rw [e] at h; exact Or.inl (ie26 q h)); (rw [e] at h; have := Option.some.inj h; omega), (oA27.lt q h).2⟩
    have hsz28 := hc.size
    replace oL := oL.keep hc (fun gq h h2 => by have := iv6 gq h; have := ie26 gq h2; omega)
    replace hc18 := Gc hc hc18 (fun h => by have := ie26 _ h; omega)
    replace hc19 := Gc hc hc19 (fun h => by have := ie26 _ h; omega)
    replace hc20 := Gc hc hc20 (fun h => by have := ie26 _ h; omega)
    replace bk2 := Bk.keep bk2 hc (fun h => by have := ie26 _ h; omega)
    replace bk3 := Bk.keep bk3 hc (fun h => by have := ie26 _ h; omega)
    replace bk17 := Bk.keep bk17 hc (fun h => by have := ie26 _ h; omega)
    replace tot := tot.trans (hc.below w.heap.size (by have := tot.size; omega) (fun gq hgq h => by have := ie26 gq h; omega))
    clear hc
    have iv29 := oA27.lt
    clear hNw ol23
    replace lt4 := Bk.lz bk2
    replace lt5 := Bk.lz bk3
    replace lt21 := Bk.lz bk17
    refine hK.out _ _ ⟨hc18, hc19, hc20⟩ (fun hHeld => ?_)
    clear hK K
    try simp only [Act.put, sb, List.set]
    refine Rdy 4 rfl (fun K hK => ?_)
    go_simp
    obtain ⟨w6, hnw, hb⟩ := nmw (World.alloc w5 (.cells #[] 3))
    have ol31 := Ob (World.ownsRow_lit (base := (w5).heap.size) (e := 3) (size := 1) (w5) #[] 0 (Nat.le_refl _) (by unfold maxLen; omega) (by simp)) hb
    try simp only [Sa, Ss] at ol31
    have hsz32 := hb.size
    simp only [Sa] at hsz32
    replace oL := (oL.below (bal (Bs _) _)).below hb
    replace hc18 := Kc hb (Ac hc18 _)
    replace hc19 := Kc hb (Ac hc19 _)
    replace hc20 := Kc hb (Ac hc20 _)
    replace oA27 := Ob (Ob oA27 (bal (Bs _) _)) hb
    replace bk2 := Bk.below (Bk.al bk2 _) hb
    replace bk3 := Bk.below (Bk.al bk3 _) hb
    replace bk17 := Bk.below (Bk.al bk17 _) hb
    replace tot := btr (bal tot _) hb
    clear hb
    have iv33 := ol31.lt
    try simp only [Sa] at iv33
    rw [← hnw]
    clear hnw
    replace lt4 := Bk.lz bk2
    replace lt5 := Bk.lz bk3
    replace lt21 := Bk.lz bk17
    refine hK.out _ _ ⟨hc18, hc19, hc20⟩ (fun hHeld => ?_)
    clear hK K
    try simp only [Act.put, sb, List.set]
    refine Rdy 7 rfl (fun K hK => ?_)
    have ie34 : ∀ q, (Value.slice (some ⟨w5.heap.size, 0, none⟩) 0 0).ownBlock = some q → q = w5.heap.size := fun q h => (Option.some.inj h).symm
    refine step_aps tInts rfl _ _ rfl (w5.heap.size) _ 0 ([]) rfl ol31 _ ys.length (ints ys) rfl ((HRB.out _ tot)) (one_ints ys) (by omega) (by first | omega | (simp only [Sa, Ss]; omega)) ?_
    intro vA w7 oA35 hc hNw _
    try simp only [Nat.zero_add, List.nil_append] at oA35
    obtain ⟨pA35, tA35, rfl⟩ := Oh oA35
    have in38 : ∀ q, (Value.slice pA35 ys.length tA35).ownBlock = some q → (q = w5.heap.size ∨ w6.heap.size ≤ q) ∧ q < w7.heap.size := fun q h => ⟨by rcases hNw with e | ⟨g, e, hg⟩; (rw [e] at h; exact Or.inl (ie34 q h)); (rw [e] at h; have := Option.some.inj h; omega), (oA35.lt q h).2⟩
    have hsz36 := hc.size
    replace oL := oL.keep hc (fun gq h h2 => by have := iv6 gq h; have := ie34 gq h2; omega)
    replace hc18 := Gc hc hc18 (fun h => by have := ie34 _ h; omega)
    replace hc19 := Gc hc hc19 (fun h => by have := ie34 _ h; omega)
    replace hc20 := Gc hc hc20 (fun h => by have := ie34 _ h; omega)
    replace oA27 := Ow oA27 hc (fun gq h h2 => by have := in30 gq h; have := ie34 gq h2; omega)
    replace bk2 := Bk.keep bk2 hc (fun h => by have := ie34 _ h; omega)
    replace bk3 := Bk.keep bk3 hc (fun h => by have := ie34 _ h; omega)
    replace bk17 := Bk.keep bk17 hc (fun h => by have := ie34 _ h; omega)
    replace tot := tot.trans (hc.below w.heap.size (by have := tot.size; omega) (fun gq hgq h => by have := ie34 gq h; omega))
    clear hc
    have iv37 := oA35.lt
    clear hNw ol31
    replace lt4 := Bk.lz bk2
    replace lt5 := Bk.lz bk3
    replace lt21 := Bk.lz bk17
    refine hK.out _ _ ⟨hc18, hc19, hc20⟩ (fun hHeld => ?_)
    clear hK K
    try simp only [Act.put, sb, List.set]
    refine (tq 10 24 rfl rfl (.agg #[.slice pA27 xs.length tA27, .slice pA35 ys.length tA35, .slice la k lc]) (fun W' _ => by kernel_rfl) ?_)
    try simp only [Act.put, sb, List.set]
    refine Rdy 11 rfl (fun K hK => ?_)
    obtain ⟨tc39, tf40⟩ := Bk.cf bk3 0 rfl
    obtain ⟨tc41, tf42⟩ := Bk.cf bk3 1 rfl
    obtain ⟨tc43, tf44⟩ := Bk.cf bk3 2 rfl
    go_simp
    obtain ⟨w8, hnw, hb⟩ := nmw (World.setCell (World.setCell (World.setCell w7 ⟨w.heap.size + 1, 0, none⟩ (.slice pA27 xs.length tA27)) ⟨w.heap.size + 1, 1, none⟩ (.slice pA35 ys.length tA35)) ⟨w.heap.size + 1, 2, none⟩ (.slice la k lc))
    have hsz45 := hb.size
    simp only [Ss] at hsz45
    clear tf40 tc39 tf42 tc41 tf44 tc43
    replace oL := (((oL.keep (C1 _ _ _) (fun gq h h2 => by have := iv6 gq h; omega)).keep (C1 _ _ _) (fun gq h h2 => by have := iv6 gq h; omega)).keep (C1 _ _ _) (fun gq h h2 => by have := iv6 gq h; omega)).below hb
    replace hc18 := Kc hb (Nc (Nc (Nc hc18 (by omega) _) (by omega) _) (by omega) _)
    replace hc19 := Kc hb (Nc (Nc (Nc hc19 (by omega) _) (by omega) _) (by omega) _)
    replace hc20 := Kc hb (Nc (Nc (Nc hc20 (by omega) _) (by omega) _) (by omega) _)
    replace oA27 := Ob (Oe (Oe (Oe oA27 _ _ (fun h => by have := in30 _ h; omega) _) _ _ (fun h => by have := in30 _ h; omega) _) _ _ (fun h => by have := in30 _ h; omega) _) hb
    replace oA35 := Ob (Oe (Oe (Oe oA35 _ _ (fun h => by have := in38 _ h; omega) _) _ _ (fun h => by have := in38 _ h; omega) _) _ _ (fun h => by have := in38 _ h; omega) _) hb
    replace bk2 := Bk.below (Bk.ne (Bk.ne (Bk.ne bk2 (by omega) _) (by omega) _) (by omega) _) hb
    replace bk3 : Bk w8 (w.heap.size + 1) [.slice pA27 xs.length tA27, .slice pA35 ys.length tA35, .slice la k lc] := Bk.below (Bk.at (Bk.at (Bk.at bk3 0 (.slice pA27 xs.length tA27)) 1 (.slice pA35 ys.length tA35)) 2 (.slice la k lc)) hb
    replace bk17 := Bk.below (Bk.ne (Bk.ne (Bk.ne bk17 (by omega) _) (by omega) _) (by omega) _) hb
    replace tot := btr (bst (bst (bst tot (w.heap.size + 1) 0 (by omega) (.slice pA27 xs.length tA27)) (w.heap.size + 1) 1 (by omega) (.slice pA35 ys.length tA35)) (w.heap.size + 1) 2 (by omega) (.slice la k lc)) hb
    clear hb
    rw [← hnw]
    clear hnw
    replace lt4 := Bk.lz bk2
    replace lt5 := Bk.lz bk3
    replace lt21 := Bk.lz bk17
    refine hK.out _ _ ⟨hc18, hc19, hc20⟩ (fun hHeld => ?_)
    clear hK K
    try simp only [Act.put, sb, List.set]
    refine (tq 12 3 rfl rfl ?_ ?_ ?_)
    (rotate_left; intro W' hSw; (try dsimp only at hSw); go_simp; try with_reducible rfl)
    try simp only [Act.put, sb, List.set]
    refine wpAnyH_done (by kernel_rfl) ?_ _
    refine NoPanic.normal ?_
    clear hHeld
    obtain ⟨il, hil, oI⟩ := oL.l
    have hdr : DrawC _ w.heap.size _ _ _ xs.length ys.length k := ⟨⟨xs, ys, il⟩, rfl, rfl, hil, ⟨Om oA27 (by omega), Om oA35 (by omega), own_cast (Om oI (by omega)) hil.symm, fun q h h2 => by have := in30 q h; have := in38 q h2; omega⟩⟩
    have HDR := Lib.hid hdr; clear hdr oI
    obtain ⟨tc46, tf47⟩ := Bk.cf bk3 0 rfl
    obtain ⟨tc48, tf49⟩ := Bk.cf bk3 1 rfl
    obtain ⟨tc50, tf51⟩ := Bk.cf bk3 2 rfl
    have x52 := tc46
    have x53 := tc48
    have x54 := tc50
    have tt := tot
    go_wp2
    exact bodyPost_ret (v := .tuple #[.agg #[.slice pA27 xs.length tA27, .slice pA35 ys.length tA35, .slice la k lc], .bool true]) (by simp [results, Try.results106, go_sem, x52, x53, x54]) rfl (by exact (by first | exact ⟨_, _, _, _, _, _, _, _, _, true, rfl, (fun _ => ⟨HDR.out, Nat.le_refl _, Nat.le_refl _, hk1 rfl, hk⟩), tt⟩ | exact ⟨_, _, _, _, _, _, _, _, _, true, rfl, (fun _ => ⟨HDR.out, Nat.le_refl _, Nat.le_refl _, hk1 trivial, hk⟩), tt⟩))
   refine AllReadyH.cons rfl (fun K hK => ?_) AllReadyH.nil
   go_simp
   obtain ⟨w5, hnw, hb⟩ := nmw (World.alloc w4 (.cells #[] 3))
   have ol55 := Ob (World.ownsRow_lit (base := (w4).heap.size) (e := 3) (size := 1) (w4) #[] 0 (Nat.le_refl _) (by unfold maxLen; omega) (by simp)) hb
   try simp only [Sa, Ss] at ol55
   have hsz56 := hb.size
   simp only [Sa] at hsz56
   replace oL := (oL.below (bal (Bs _) _)).below hb
   replace hc18 := Kc hb (Ac hc18 _)
   replace hc19 := Kc hb (Ac hc19 _)
   replace hc20 := Kc hb (Ac hc20 _)
   replace ol23 := Ob (Ob ol23 (bal (Bs _) _)) hb
   replace bk2 := Bk.below (Bk.al bk2 _) hb
   replace bk3 := Bk.below (Bk.al bk3 _) hb
   replace bk17 := Bk.below (Bk.al bk17 _) hb
   replace tot := btr (bal tot _) hb
   clear hb
   have iv57 := ol55.lt
   try simp only [Sa] at iv57
   rw [← hnw]
   clear hnw
   replace lt4 := Bk.lz bk2
   replace lt5 := Bk.lz bk3
   replace lt21 := Bk.lz bk17
   refine hK.out _ _ ⟨hc18, hc19, hc20⟩ (fun hHeld => ?_)
   clear hK K
   try simp only [Act.put, sb, List.set]
   refine Rdy 3 rfl (fun K hK => ?_)
   have ie58 : ∀ q, (Value.slice (some ⟨w3.heap.size, 0, none⟩) 0 0).ownBlock = some q → q = w3.heap.size := fun q h => (Option.some.inj h).symm
   have ie59 : ∀ q, (Value.slice (some ⟨w4.heap.size, 0, none⟩) 0 0).ownBlock = some q → q = w4.heap.size := fun q h => (Option.some.inj h).symm
   refine step_aps tInts rfl _ _ rfl (w3.heap.size) _ 0 ([]) rfl ol23 _ xs.length (ints xs) rfl ((HRA.out _ tot)) (one_ints xs) (by omega) (by first | omega | (simp only [Sa, Ss]; omega)) ?_
   intro vA w6 oA60 hc hNw _
   try simp only [Nat.zero_add, List.nil_append] at oA60
   obtain ⟨pA60, tA60, rfl⟩ := Oh oA60
   have in63 : ∀ q, (Value.slice pA60 xs.length tA60).ownBlock = some q → (q = w3.heap.size ∨ w5.heap.size ≤ q) ∧ q < w6.heap.size := fun q h => ⟨by rcases hNw with e | ⟨g, e, hg⟩; (rw [e] at h; exact Or.inl (ie58 q h)); (rw [e] at h; have := Option.some.inj h; omega), (oA60.lt q h).2⟩
   have hsz61 := hc.size
   replace oL := oL.keep hc (fun gq h h2 => by have := iv6 gq h; have := ie58 gq h2; omega)
   replace hc18 := Gc hc hc18 (fun h => by have := ie58 _ h; omega)
   replace hc19 := Gc hc hc19 (fun h => by have := ie58 _ h; omega)
   replace hc20 := Gc hc hc20 (fun h => by have := ie58 _ h; omega)
   replace ol55 := Ow ol55 hc (fun gq h h2 => by have := ie59 gq h; have := ie58 gq h2; omega)
   replace bk2 := Bk.keep bk2 hc (fun h => by have := ie58 _ h; omega)
   replace bk3 := Bk.keep bk3 hc (fun h => by have := ie58 _ h; omega)
   replace bk17 := Bk.keep bk17 hc (fun h => by have := ie58 _ h; omega)
   replace tot := tot.trans (hc.below w.heap.size (by have := tot.size; omega) (fun gq hgq h => by have := ie58 gq h; omega))
   clear hc
   have iv62 := oA60.lt
   clear hNw ol23
   replace lt4 := Bk.lz bk2
   replace lt5 := Bk.lz bk3
   replace lt21 := Bk.lz bk17
   refine hK.out _ _ ⟨hc18, hc19, hc20⟩ (fun hHeld => ?_)
   clear hK K
   try simp only [Act.put, sb, List.set]
   refine Rdy 7 rfl (fun K hK => ?_)
   refine step_aps tInts rfl _ _ rfl (w4.heap.size) _ 0 ([]) rfl ol55 _ ys.length (ints ys) rfl ((HRB.out _ tot)) (one_ints ys) (by omega) (by first | omega | (simp only [Sa, Ss]; omega)) ?_
   intro vA w7 oA64 hc hNw _
   try simp only [Nat.zero_add, List.nil_append] at oA64
   obtain ⟨pA64, tA64, rfl⟩ := Oh oA64
   have in67 : ∀ q, (Value.slice pA64 ys.length tA64).ownBlock = some q → (q = w4.heap.size ∨ w6.heap.size ≤ q) ∧ q < w7.heap.size := fun q h => ⟨by rcases hNw with e | ⟨g, e, hg⟩; (rw [e] at h; exact Or.inl (ie59 q h)); (rw [e] at h; have := Option.some.inj h; omega), (oA64.lt q h).2⟩
   have hsz65 := hc.size
   replace oL := oL.keep hc (fun gq h h2 => by have := iv6 gq h; have := ie59 gq h2; omega)
   replace hc18 := Gc hc hc18 (fun h => by have := ie59 _ h; omega)
   replace hc19 := Gc hc hc19 (fun h => by have := ie59 _ h; omega)
   replace hc20 := Gc hc hc20 (fun h => by have := ie59 _ h; omega)
   replace oA60 := Ow oA60 hc (fun gq h h2 => by have := in63 gq h; have := ie59 gq h2; omega)
   replace bk2 := Bk.keep bk2 hc (fun h => by have := ie59 _ h; omega)
   replace bk3 := Bk.keep bk3 hc (fun h => by have := ie59 _ h; omega)
   replace bk17 := Bk.keep bk17 hc (fun h => by have := ie59 _ h; omega)
   replace tot := tot.trans (hc.below w.heap.size (by have := tot.size; omega) (fun gq hgq h => by have := ie59 gq h; omega))
   clear hc
   have iv66 := oA64.lt
   clear hNw ol55
   replace lt4 := Bk.lz bk2
   replace lt5 := Bk.lz bk3
   replace lt21 := Bk.lz bk17
   refine hK.out _ _ ⟨hc18, hc19, hc20⟩ (fun hHeld => ?_)
   clear hK K
   try simp only [Act.put, sb, List.set]
   refine (tq 10 24 rfl rfl (.agg #[.slice pA60 xs.length tA60, .slice pA64 ys.length tA64, .slice la k lc]) (fun W' _ => by kernel_rfl) ?_)
   try simp only [Act.put, sb, List.set]
   refine Rdy 11 rfl (fun K hK => ?_)
   obtain ⟨tc68, tf69⟩ := Bk.cf bk3 0 rfl
   obtain ⟨tc70, tf71⟩ := Bk.cf bk3 1 rfl
   obtain ⟨tc72, tf73⟩ := Bk.cf bk3 2 rfl
   go_simp
   obtain ⟨w8, hnw, hb⟩ := nmw (World.setCell (World.setCell (World.setCell w7 ⟨w.heap.size + 1, 0, none⟩ (.slice pA60 xs.length tA60)) ⟨w.heap.size + 1, 1, none⟩ (.slice pA64 ys.length tA64)) ⟨w.heap.size + 1, 2, none⟩ (.slice la k lc))
   have hsz74 := hb.size
   simp only [Ss] at hsz74
   clear tf69 tc68 tf71 tc70 tf73 tc72
   replace oL := (((oL.keep (C1 _ _ _) (fun gq h h2 => by have := iv6 gq h; omega)).keep (C1 _ _ _) (fun gq h h2 => by have := iv6 gq h; omega)).keep (C1 _ _ _) (fun gq h h2 => by have := iv6 gq h; omega)).below hb
   replace hc18 := Kc hb (Nc (Nc (Nc hc18 (by omega) _) (by omega) _) (by omega) _)
   replace hc19 := Kc hb (Nc (Nc (Nc hc19 (by omega) _) (by omega) _) (by omega) _)
   replace hc20 := Kc hb (Nc (Nc (Nc hc20 (by omega) _) (by omega) _) (by omega) _)
   replace oA60 := Ob (Oe (Oe (Oe oA60 _ _ (fun h => by have := in63 _ h; omega) _) _ _ (fun h => by have := in63 _ h; omega) _) _ _ (fun h => by have := in63 _ h; omega) _) hb
   replace oA64 := Ob (Oe (Oe (Oe oA64 _ _ (fun h => by have := in67 _ h; omega) _) _ _ (fun h => by have := in67 _ h; omega) _) _ _ (fun h => by have := in67 _ h; omega) _) hb
   replace bk2 := Bk.below (Bk.ne (Bk.ne (Bk.ne bk2 (by omega) _) (by omega) _) (by omega) _) hb
   replace bk3 : Bk w8 (w.heap.size + 1) [.slice pA60 xs.length tA60, .slice pA64 ys.length tA64, .slice la k lc] := Bk.below (Bk.at (Bk.at (Bk.at bk3 0 (.slice pA60 xs.length tA60)) 1 (.slice pA64 ys.length tA64)) 2 (.slice la k lc)) hb
   replace bk17 := Bk.below (Bk.ne (Bk.ne (Bk.ne bk17 (by omega) _) (by omega) _) (by omega) _) hb
   replace tot := btr (bst (bst (bst tot (w.heap.size + 1) 0 (by omega) (.slice pA60 xs.length tA60)) (w.heap.size + 1) 1 (by omega) (.slice pA64 ys.length tA64)) (w.heap.size + 1) 2 (by omega) (.slice la k lc)) hb
   clear hb
   rw [← hnw]
   clear hnw
   replace lt4 := Bk.lz bk2
   replace lt5 := Bk.lz bk3
   replace lt21 := Bk.lz bk17
   refine hK.out _ _ ⟨hc18, hc19, hc20⟩ (fun hHeld => ?_)
   clear hK K
   try simp only [Act.put, sb, List.set]
   refine (tq 12 3 rfl rfl ?_ ?_ ?_)
   (rotate_left; intro W' hSw; (try dsimp only at hSw); go_simp; try with_reducible rfl)
   try simp only [Act.put, sb, List.set]
   refine wpAnyH_done (by kernel_rfl) ?_ _
   refine NoPanic.normal ?_
   clear hHeld
   obtain ⟨il, hil, oI⟩ := oL.l
   have hdr : DrawC _ w.heap.size _ _ _ xs.length ys.length k := ⟨⟨xs, ys, il⟩, rfl, rfl, hil, ⟨Om oA60 (by omega), Om oA64 (by omega), own_cast (Om oI (by omega)) hil.symm, fun q h h2 => by have := in63 q h; have := in67 q h2; omega⟩⟩
   have HDR := Lib.hid hdr; clear hdr oI
   obtain ⟨tc75, tf76⟩ := Bk.cf bk3 0 rfl
   obtain ⟨tc77, tf78⟩ := Bk.cf bk3 1 rfl
   obtain ⟨tc79, tf80⟩ := Bk.cf bk3 2 rfl
   have x81 := tc75
   have x82 := tc77
   have x83 := tc79
   have tt := tot
   go_wp2
   exact bodyPost_ret (v := .tuple #[.agg #[.slice pA60 xs.length tA60, .slice pA64 ys.length tA64, .slice la k lc], .bool true]) (by simp [results, Try.results106, go_sem, x81, x82, x83]) rfl (by exact (by first | exact ⟨_, _, _, _, _, _, _, _, _, true, rfl, (fun _ => ⟨HDR.out, Nat.le_refl _, Nat.le_refl _, hk1 rfl, hk⟩), tt⟩ | exact ⟨_, _, _, _, _, _, _, _, _, true, rfl, (fun _ => ⟨HDR.out, Nat.le_refl _, Nat.le_refl _, hk1 trivial, hk⟩), tt⟩))
  refine AllReadyH.cons rfl (fun K hK => ?_) AllReadyH.nil
  go_simp
  obtain ⟨w4, hnw, hb⟩ := nmw (World.alloc w3 (.cells #[] 3))
  have ol84 := Ob (World.ownsRow_lit (base := (w3).heap.size) (e := 3) (size := 1) (w3) #[] 0 (Nat.le_refl _) (by unfold maxLen; omega) (by simp)) hb
  try simp only [Sa, Ss] at ol84
  have hsz85 := hb.size
  simp only [Sa] at hsz85
  replace oL := (oL.below (bal (Bs _) _)).below hb
  replace hc18 := Kc hb (Ac hc18 _)
  replace hc19 := Kc hb (Ac hc19 _)
  replace hc20 := Kc hb (Ac hc20 _)
  replace bk2 := Bk.below (Bk.al bk2 _) hb
  replace bk3 := Bk.below (Bk.al bk3 _) hb
  replace bk17 := Bk.below (Bk.al bk17 _) hb
  replace tot := btr (bal tot _) hb
  clear hb
  have iv86 := ol84.lt
  try simp only [Sa] at iv86
  rw [← hnw]
  clear hnw
  replace lt4 := Bk.lz bk2
  replace lt5 := Bk.lz bk3
  replace lt21 := Bk.lz bk17
  refine hK.out _ _ ⟨hc18, hc19, hc20⟩ (fun hHeld => ?_)
  clear hK K
  try simp only [Act.put, sb, List.set]
  refine Rdy 0 rfl (fun K hK => ?_)
  go_simp
  obtain ⟨w5, hnw, hb⟩ := nmw (World.alloc w4 (.cells #[] 3))
  have ol87 := Ob (World.ownsRow_lit (base := (w4).heap.size) (e := 3) (size := 1) (w4) #[] 0 (Nat.le_refl _) (by unfold maxLen; omega) (by simp)) hb
  try simp only [Sa, Ss] at ol87
  have hsz88 := hb.size
  simp only [Sa] at hsz88
  replace oL := (oL.below (bal (Bs _) _)).below hb
  replace hc18 := Kc hb (Ac hc18 _)
  replace hc19 := Kc hb (Ac hc19 _)
  replace hc20 := Kc hb (Ac hc20 _)
  replace ol84 := Ob (Ob ol84 (bal (Bs _) _)) hb
  replace bk2 := Bk.below (Bk.al bk2 _) hb
  replace bk3 := Bk.below (Bk.al bk3 _) hb
  replace bk17 := Bk.below (Bk.al bk17 _) hb
  replace tot := btr (bal tot _) hb
  clear hb
  have iv89 := ol87.lt
  try simp only [Sa] at iv89
  rw [← hnw]
  clear hnw
  replace lt4 := Bk.lz bk2
  replace lt5 := Bk.lz bk3
  replace lt21 := Bk.lz bk17
  refine hK.out _ _ ⟨hc18, hc19, hc20⟩ (fun hHeld => ?_)
  clear hK K
  try simp only [Act.put, sb, List.set]
  refine Rdy 3 rfl (fun K hK => ?_)
  have ie90 : ∀ q, (Value.slice (some ⟨w3.heap.size, 0, none⟩) 0 0).ownBlock = some q → q = w3.heap.size := fun q h => (Option.some.inj h).symm
  have ie91 : ∀ q, (Value.slice (some ⟨w4.heap.size, 0, none⟩) 0 0).ownBlock = some q → q = w4.heap.size := fun q h => (Option.some.inj h).symm
  refine step_aps tInts rfl _ _ rfl (w4.heap.size) _ 0 ([]) rfl ol87 _ xs.length (ints xs) rfl ((HRA.out _ tot)) (one_ints xs) (by omega) (by first | omega | (simp only [Sa, Ss]; omega)) ?_
  intro vA w6 oA92 hc hNw _
  try simp only [Nat.zero_add, List.nil_append] at oA92
  obtain ⟨pA92, tA92, rfl⟩ := Oh oA92
  have in95 : ∀ q, (Value.slice pA92 xs.length tA92).ownBlock = some q → (q = w4.heap.size ∨ w5.heap.size ≤ q) ∧ q < w6.heap.size := fun q h => ⟨by rcases hNw with e | ⟨g, e, hg⟩; (rw [e] at h; exact Or.inl (ie91 q h)); (rw [e] at h; have := Option.some.inj h; omega), (oA92.lt q h).2⟩
  have hsz93 := hc.size
  replace oL := oL.keep hc (fun gq h h2 => by have := iv6 gq h; have := ie91 gq h2; omega)
  replace hc18 := Gc hc hc18 (fun h => by have := ie91 _ h; omega)
  replace hc19 := Gc hc hc19 (fun h => by have := ie91 _ h; omega)
  replace hc20 := Gc hc hc20 (fun h => by have := ie91 _ h; omega)
  replace ol84 := Ow ol84 hc (fun gq h h2 => by have := ie90 gq h; have := ie91 gq h2; omega)
  replace bk2 := Bk.keep bk2 hc (fun h => by have := ie91 _ h; omega)
  replace bk3 := Bk.keep bk3 hc (fun h => by have := ie91 _ h; omega)
  replace bk17 := Bk.keep bk17 hc (fun h => by have := ie91 _ h; omega)
  replace tot := tot.trans (hc.below w.heap.size (by have := tot.size; omega) (fun gq hgq h => by have := ie91 gq h; omega))
  clear hc
  have iv94 := oA92.lt
  clear hNw ol87
  replace lt4 := Bk.lz bk2
  replace lt5 := Bk.lz bk3
  replace lt21 := Bk.lz bk17
  refine hK.out _ _ ⟨hc18, hc19, hc20⟩ (fun hHeld => ?_)
  clear hK K
  try simp only [Act.put, sb, List.set]
  refine Rdy 7 rfl (fun K hK => ?_)
  refine step_aps tInts rfl _ _ rfl (w3.heap.size) _ 0 ([]) rfl ol84 _ ys.length (ints ys) rfl ((HRB.out _ tot)) (one_ints ys) (by omega) (by first | omega | (simp only [Sa, Ss]; omega)) ?_
  intro vA w7 oA96 hc hNw _
  try simp only [Nat.zero_add, List.nil_append] at oA96
  obtain ⟨pA96, tA96, rfl⟩ := Oh oA96
  have in99 : ∀ q, (Value.slice pA96 ys.length tA96).ownBlock = some q → (q = w3.heap.size ∨ w6.heap.size ≤ q) ∧ q < w7.heap.size := fun q h => ⟨by rcases hNw with e | ⟨g, e, hg⟩; (rw [e] at h; exact Or.inl (ie90 q h)); (rw [e] at h; have := Option.some.inj h; omega), (oA96.lt q h).2⟩
  have hsz97 := hc.size
  replace oL := oL.keep hc (fun gq h h2 => by have := iv6 gq h; have := ie90 gq h2; omega)
  replace hc18 := Gc hc hc18 (fun h => by have := ie90 _ h; omega)
  replace hc19 := Gc hc hc19 (fun h => by have := ie90 _ h; omega)
  replace hc20 := Gc hc hc20 (fun h => by have := ie90 _ h; omega)
  replace oA92 := Ow oA92 hc (fun gq h h2 => by have := in95 gq h; have := ie90 gq h2; omega)
  replace bk2 := Bk.keep bk2 hc (fun h => by have := ie90 _ h; omega)
  replace bk3 := Bk.keep bk3 hc (fun h => by have := ie90 _ h; omega)
  replace bk17 := Bk.keep bk17 hc (fun h => by have := ie90 _ h; omega)
  replace tot := tot.trans (hc.below w.heap.size (by have := tot.size; omega) (fun gq hgq h => by have := ie90 gq h; omega))
  clear hc
  have iv98 := oA96.lt
  clear hNw ol84
  replace lt4 := Bk.lz bk2
  replace lt5 := Bk.lz bk3
  replace lt21 := Bk.lz bk17
  refine hK.out _ _ ⟨hc18, hc19, hc20⟩ (fun hHeld => ?_)
  clear hK K
  try simp only [Act.put, sb, List.set]
  refine (tq 10 24 rfl rfl (.agg #[.slice pA92 xs.length tA92, .slice pA96 ys.length tA96, .slice la k lc]) (fun W' _ => by kernel_rfl) ?_)
  try simp only [Act.put, sb, List.set]
  refine Rdy 11 rfl (fun K hK => ?_)
  obtain ⟨tc100, tf101⟩ := Bk.cf bk3 0 rfl
  obtain ⟨tc102, tf103⟩ := Bk.cf bk3 1 rfl
  obtain ⟨tc104, tf105⟩ := Bk.cf bk3 2 rfl
  go_simp
  obtain ⟨w8, hnw, hb⟩ := nmw (World.setCell (World.setCell (World.setCell w7 ⟨w.heap.size + 1, 0, none⟩ (.slice pA92 xs.length tA92)) ⟨w.heap.size + 1, 1, none⟩ (.slice pA96 ys.length tA96)) ⟨w.heap.size + 1, 2, none⟩ (.slice la k lc))
  have hsz106 := hb.size
  simp only [Ss] at hsz106
  clear tf101 tc100 tf103 tc102 tf105 tc104
  replace oL := (((oL.keep (C1 _ _ _) (fun gq h h2 => by have := iv6 gq h; omega)).keep (C1 _ _ _) (fun gq h h2 => by have := iv6 gq h; omega)).keep (C1 _ _ _) (fun gq h h2 => by have := iv6 gq h; omega)).below hb
  replace hc18 := Kc hb (Nc (Nc (Nc hc18 (by omega) _) (by omega) _) (by omega) _)
  replace hc19 := Kc hb (Nc (Nc (Nc hc19 (by omega) _) (by omega) _) (by omega) _)
  replace hc20 := Kc hb (Nc (Nc (Nc hc20 (by omega) _) (by omega) _) (by omega) _)
  replace oA92 := Ob (Oe (Oe (Oe oA92 _ _ (fun h => by have := in95 _ h; omega) _) _ _ (fun h => by have := in95 _ h; omega) _) _ _ (fun h => by have := in95 _ h; omega) _) hb
  replace oA96 := Ob (Oe (Oe (Oe oA96 _ _ (fun h => by have := in99 _ h; omega) _) _ _ (fun h => by have := in99 _ h; omega) _) _ _ (fun h => by have := in99 _ h; omega) _) hb
  replace bk2 := Bk.below (Bk.ne (Bk.ne (Bk.ne bk2 (by omega) _) (by omega) _) (by omega) _) hb
  replace bk3 : Bk w8 (w.heap.size + 1) [.slice pA92 xs.length tA92, .slice pA96 ys.length tA96, .slice la k lc] := Bk.below (Bk.at (Bk.at (Bk.at bk3 0 (.slice pA92 xs.length tA92)) 1 (.slice pA96 ys.length tA96)) 2 (.slice la k lc)) hb
  replace bk17 := Bk.below (Bk.ne (Bk.ne (Bk.ne bk17 (by omega) _) (by omega) _) (by omega) _) hb
  replace tot := btr (bst (bst (bst tot (w.heap.size + 1) 0 (by omega) (.slice pA92 xs.length tA92)) (w.heap.size + 1) 1 (by omega) (.slice pA96 ys.length tA96)) (w.heap.size + 1) 2 (by omega) (.slice la k lc)) hb
  clear hb
  rw [← hnw]
  clear hnw
  replace lt4 := Bk.lz bk2
  replace lt5 := Bk.lz bk3
  replace lt21 := Bk.lz bk17
  refine hK.out _ _ ⟨hc18, hc19, hc20⟩ (fun hHeld => ?_)
  clear hK K
  try simp only [Act.put, sb, List.set]
  refine (tq 12 3 rfl rfl ?_ ?_ ?_)
  (rotate_left; intro W' hSw; (try dsimp only at hSw); go_simp; try with_reducible rfl)
  try simp only [Act.put, sb, List.set]
  refine wpAnyH_done (by kernel_rfl) ?_ _
  refine NoPanic.normal ?_
  clear hHeld
  obtain ⟨il, hil, oI⟩ := oL.l
  have hdr : DrawC _ w.heap.size _ _ _ xs.length ys.length k := ⟨⟨xs, ys, il⟩, rfl, rfl, hil, ⟨Om oA92 (by omega), Om oA96 (by omega), own_cast (Om oI (by omega)) hil.symm, fun q h h2 => by have := in95 q h; have := in99 q h2; omega⟩⟩
  have HDR := Lib.hid hdr; clear hdr oI
  obtain ⟨tc107, tf108⟩ := Bk.cf bk3 0 rfl
  obtain ⟨tc109, tf110⟩ := Bk.cf bk3 1 rfl
  obtain ⟨tc111, tf112⟩ := Bk.cf bk3 2 rfl
  have x113 := tc107
  have x114 := tc109
  have x115 := tc111
  have tt := tot
  go_wp2
  exact bodyPost_ret (v := .tuple #[.agg #[.slice pA92 xs.length tA92, .slice pA96 ys.length tA96, .slice la k lc], .bool true]) (by simp [results, Try.results106, go_sem, x113, x114, x115]) rfl (by exact (by first | exact ⟨_, _, _, _, _, _, _, _, _, true, rfl, (fun _ => ⟨HDR.out, Nat.le_refl _, Nat.le_refl _, hk1 rfl, hk⟩), tt⟩ | exact ⟨_, _, _, _, _, _, _, _, _, true, rfl, (fun _ => ⟨HDR.out, Nat.le_refl _, Nat.le_refl _, hk1 trivial, hk⟩), tt⟩))
end Go.Proofs.Ytkjedgnepnbkpaa
