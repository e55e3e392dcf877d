/-
  Parts of the proofs of the laws FnCheckLive, FnFinalRegs, FnLiveRegister, FnLiveRegs.
-/
import Derived.Test.YtkjedgnepnbkpaaQL
set_option linter.all false
namespace Go.Proofs.Ytkjedgnepnbkpaa
open Go.RowKit

set_option maxHeartbeats 6400000 in
set_option maxRecDepth 100000 in
theorem l7Block_of (base : Nat) (A : Nat → Prop) (hA : ∀ q, A q → q < base) (d : Nat) (Hs : ∀ (D : Nat) (n : Sn) (s : St) (la fa : Option Addr) (lc fc k : Nat) (ap dep : Int) (w : World), L7 w base la fa k lc fc → base ≤ w.heap.size → k + sbd d ≤ 1000000 → StAt w A D n s → SmS d s →
      Calls Try.prog 167 #[.agg #[.slice la k lc, .slice fa k fc, .int .i64 ap], .agg #[.int .i64 n.k, .int .i64 n.t, .int .i64 n.ix.k, .int .i64 n.ix.v, .slice n.ix.p n.ix.n n.ix.c, .int .i64 n.val.k, .int .i64 n.val.v, .slice n.val.p n.val.n n.val.c, .int .i64 n.c, .slice n.bp n.bn n.bc, .slice n.ep n.en n.ec], .int .i64 dep] w fun r w' => ∃ (la' fa' : Option Addr) (lc' fc' k' : Nat) (ap' : Int), r = .returned (.agg #[.slice la' k' lc', .slice fa' k' fc', .int .i64 ap']) ∧ L7 w' base la' fa' k' lc' fc' ∧ (∀ q, L7B la' fa' q → L7B la fa q ∨ w.heap.size ≤ q) ∧ k ≤ k' ∧ k' ≤ k + sbd d ∧ Chg (fun q => L7B la fa q) w w')
    (D : Nat) (a : Option Addr) (c : Nat) (L : List St) (la fa : Option Addr) (lc fc k : Nat) (ap dep : Int) (w : World) (hL : L7 w base la fa k lc fc) (hb : base ≤ w.heap.size) (hk : k + L.length * sbd d ≤ 1000000) (hx : BlAt w A D (.slice a L.length c) L) (hs : ∀ x ∈ L, SmS d x) :
    Calls Try.prog 162 #[.agg #[.slice la k lc, .slice fa k fc, .int .i64 ap], .slice a L.length c, .int .i64 dep] w fun r w' => ∃ (la' fa' : Option Addr) (lc' fc' k' : Nat) (ap' : Int), r = .returned (.agg #[.slice la' k' lc', .slice fa' k' fc', .int .i64 ap']) ∧ L7 w' base la' fa' k' lc' fc' ∧ (∀ q, L7B la' fa' q → L7B la fa q ∨ w.heap.size ≤ q) ∧ k ≤ k' ∧ k' ≤ k + L.length * sbd d ∧ Chg (fun q => L7B la fa q) w w' := by
  have hl63 : L.length ≤ 9223372036854775807 := by obtain ⟨_, _, h, _⟩ := hx; exact h.2.1
  have HX := Lib.hid (fun W (hD : Chg (fun q => L7B la fa q) w W) j (hj : j < L.length) => (hx.keep hD (fun q hq _ h => by have := hA q hq; have := hL.lt q h; omega) (fun _ h _ => h) (Nat.le_refl _)).stmt j hj)
  have HT := Lib.hid hs; clear hs hx
  have HSS := Lib.hid Hs; clear Hs
  have HMN := Lib.hid (fun j (hj : j < L.length) => (Nat.mul_le_mul_right (sbd d) (by omega : j + 1 ≤ L.length)))
  have HMS := Lib.hid (fun j => show (j + 1) * sbd d = j * sbd d + sbd d from Nat.succ_mul j _)
  have HK := Lib.hid hk; clear hk
  generalize hSB : sbd d = SB at *
  clear hSB
  have iv0 : ∀ q, L7B la fa q → (q < w.heap.size ∨ w.heap.size + 2 ≤ q) ∧ q < w.heap.size ∧ base ≤ q := fun q h => by have := hL.lt q h; omega
  have hN0 : ∀ q, L7B la fa q → L7B la fa q ∨ w.heap.size ≤ q := fun q h => Or.inl h
  have hD : Chg (fun q => L7B la fa q) w w := Chg.refl _ _
  have oL := hL; clear hL
  go_enter Try.func162, Try.ntmps162
  go_upto_region 1 with (fail)
  obtain ⟨w1, hnw, hb⟩ := nmw (World.alloc (World.alloc w (.cells #[.slice la k lc, .slice fa k fc, .int .i64 ap] 155)) (.cells #[.slice none 0 0, .slice none 0 0, .int .i64 0] 155))
  have hD9 := ((hD.trans (Chg.of_below (bal (Bs _) (.cells #[.slice la k lc, .slice fa k fc, .int .i64 ap] 155)))).trans (Chg.of_below (bal (Bs _) (.cells #[.slice none 0 0, .slice none 0 0, .int .i64 0] 155)))).trans (Chg.of_below hb)
  have hsz1 := hb.size
  simp only [Sa] at hsz1
  replace oL := ((oL.below (bal (Bs _) _)).below (bal (Bs _) _)).below hb
  have bk2 : Bk w1 (w.heap.size) [.slice la k lc, .slice fa k fc, .int .i64 ap] := Bk.below (Bk.al (Bk.nw (by simp) rfl) (.cells #[.slice none 0 0, .slice none 0 0, .int .i64 0] 155)) hb
  have bk3 : Bk w1 (w.heap.size + 1) [.slice none 0 0, .slice none 0 0, .int .i64 0] := Bk.below (Bk.nw (by simp) rfl) hb
  clear hb
  clear hD
  have hD := hD9; clear hD9
  rw [← hnw]
  clear hnw
  have lt4 := Bk.lz bk2
  have lt5 := Bk.lz bk3
  have HI0 : Hid (∃ (j : Nat) (la1 fa1 : Option Addr) (lc1 fc1 k1 : Nat) (ap1 : Int), j ≤ L.length ∧ Value.int .i64 0 = .int .i64 j ∧ Bk w1 (w.heap.size) [.slice la1 k1 lc1, .slice fa1 k1 fc1, .int .i64 ap1] ∧ Bk w1 (w.heap.size + 1) [.slice none 0 0, .slice none 0 0, .int .i64 0] ∧ L7 w1 base la1 fa1 k1 lc1 fc1 ∧ (∀ q, L7B la1 fa1 q → L7B la fa q ∨ w.heap.size ≤ q) ∧ (∀ q, L7B la1 fa1 q → (q < w.heap.size ∨ w.heap.size + 2 ≤ q) ∧ q < w1.heap.size ∧ base ≤ q) ∧ k ≤ k1 ∧ k1 ≤ k + j * SB ∧ Chg (fun q => L7B la fa q) w w1 ∧ w1.heap.size ≤ w1.heap.size) := Lib.hid ⟨0, la, fa, lc, fc, k, ap, Nat.zero_le _, rfl, bk2, bk3, oL, hN0, fun q h => by have := iv0 q h; omega, Nat.le_refl _, by omega, hD, Nat.le_refl _⟩
  have hszb : w.heap.size + 2 ≤ w1.heap.size := by omega
  clear hD iv0 hN0 oL bk2 bk3 lt4 lt5
  go_wp2_with fail
  go_loopw [7] (fun i wr => ∃ (j : Nat) (la1 fa1 : Option Addr) (lc1 fc1 k1 : Nat) (ap1 : Int), j ≤ L.length ∧ i = .int .i64 j ∧ Bk wr (w.heap.size) [.slice la1 k1 lc1, .slice fa1 k1 fc1, .int .i64 ap1] ∧ Bk wr (w.heap.size + 1) [.slice none 0 0, .slice none 0 0, .int .i64 0] ∧ L7 wr base la1 fa1 k1 lc1 fc1 ∧ (∀ q, L7B la1 fa1 q → L7B la fa q ∨ w.heap.size ≤ q) ∧ (∀ q, L7B la1 fa1 q → (q < w.heap.size ∨ w.heap.size + 2 ≤ q) ∧ q < wr.heap.size ∧ base ≤ q) ∧ k ≤ k1 ∧ k1 ≤ k + j * SB ∧ Chg (fun q => L7B la fa q) w wr ∧ w1.heap.size ≤ wr.heap.size) (fun i _ => L.length - (intOf i).toNat)
  case atStart => exact HI0.out
  case round =>
    obtain ⟨j, la1, fa1, lc1, fc1, k1, ap1, hj, rfl, kb3, kb6, oL, hN1, iv1, hk2, hk3, hD, hzr⟩ := hrel
    clear HI0
    have lt6 := Bk.lz kb3
    have lt7 := Bk.lz kb6
    by_cases hlt : j < L.length
    · have hqj : (j : Int) < (L.length : Int) := by omega
      obtain ⟨kb, ko, cu2, m, hp, hAb, hkb, hm, hcs⟩ := HX.out wr hD j hlt
      have hkA := hA kb hAb; clear hAb
      have hth := HT.out _ (List.getElem_mem hlt)
      have HTH := Lib.hid hth; clear hth
      simp only [Value.slice.injEq, true_and] at hp
      obtain ⟨rfl, rfl⟩ := hp
      have e0 : wr.cell? ⟨kb, ko + j * 11, none⟩ = some (.int .i64 m.k) := by have h := hcs 0 (by omega); exact h
      have e1 : wr.cell? ⟨kb, ko + j * 11 + 1, none⟩ = some (.int .i64 m.t) := by have h := hcs 1 (by omega); rw [← Nat.add_assoc] at h; exact h
      have e2 : wr.cell? ⟨kb, ko + j * 11 + 2, none⟩ = some (.int .i64 m.ix.k) := by have h := hcs 2 (by omega); rw [← Nat.add_assoc] at h; exact h
      have e3 : wr.cell? ⟨kb, ko + j * 11 + 3, none⟩ = some (.int .i64 m.ix.v) := by have h := hcs 3 (by omega); rw [← Nat.add_assoc] at h; exact h
      have e4 : wr.cell? ⟨kb, ko + j * 11 + 4, none⟩ = some (.slice m.ix.p m.ix.n m.ix.c) := by have h := hcs 4 (by omega); rw [← Nat.add_assoc] at h; exact h
      have e5 : wr.cell? ⟨kb, ko + j * 11 + 5, none⟩ = some (.int .i64 m.val.k) := by have h := hcs 5 (by omega); rw [← Nat.add_assoc] at h; exact h
      have e6 : wr.cell? ⟨kb, ko + j * 11 + 6, none⟩ = some (.int .i64 m.val.v) := by have h := hcs 6 (by omega); rw [← Nat.add_assoc] at h; exact h
      have e7 : wr.cell? ⟨kb, ko + j * 11 + 7, none⟩ = some (.slice m.val.p m.val.n m.val.c) := by have h := hcs 7 (by omega); rw [← Nat.add_assoc] at h; exact h
      have e8 : wr.cell? ⟨kb, ko + j * 11 + 8, none⟩ = some (.int .i64 m.c) := by have h := hcs 8 (by omega); rw [← Nat.add_assoc] at h; exact h
      have e9 : wr.cell? ⟨kb, ko + j * 11 + 9, none⟩ = some (.slice m.bp m.bn m.bc) := by have h := hcs 9 (by omega); rw [← Nat.add_assoc] at h; exact h
      have e10 : wr.cell? ⟨kb, ko + j * 11 + 10, none⟩ = some (.slice m.ep m.en m.ec) := by have h := hcs 10 (by omega); rw [← Nat.add_assoc] at h; exact h
      clear hcs
      generalize L[j] = y at *
      have hm1 := HMN.out j hlt; have hm2 := HMS.out j; have hkc : k1 + SB ≤ 1000000 := by have := HK.out; omega
      have HM2 := Lib.hid hm2; clear hm1 hm2
      have HIC := Lib.hid (fun W (hW : Below wr.heap.size wr W) la fa lc fc k ap h1 h2 h3 => HSS.out D m y la fa lc fc k ap dep W h1 h2 h3 (StAt.keep (S := fun _ => False) (Chg.of_below hW) (fun _ _ _ => id) (fun _ h _ => h) (Nat.le_refl _) hm) HTH.out)
      clear hm
      go_upto_region 4 with (fail)
      replace lt6 := Bk.lz kb3
      replace lt7 := Bk.lz kb6
      have lt8 := Lc e0
      refine wp_region_noPanic ?_
      refine wp_region_held_drew (S := (fun W' => W'.cell? ⟨kb, ko + j * 11, none⟩ = some (.int .i64 m.k) ∧ W'.cell? ⟨kb, ko + j * 11 + 1, none⟩ = some (.int .i64 m.t) ∧ W'.cell? ⟨kb, ko + j * 11 + 2, none⟩ = some (.int .i64 m.ix.k) ∧ W'.cell? ⟨kb, ko + j * 11 + 3, none⟩ = some (.int .i64 m.ix.v) ∧ W'.cell? ⟨kb, ko + j * 11 + 4, none⟩ = some (.slice m.ix.p m.ix.n m.ix.c) ∧ W'.cell? ⟨kb, ko + j * 11 + 5, none⟩ = some (.int .i64 m.val.k) ∧ W'.cell? ⟨kb, ko + j * 11 + 6, none⟩ = some (.int .i64 m.val.v) ∧ W'.cell? ⟨kb, ko + j * 11 + 7, none⟩ = some (.slice m.val.p m.val.n m.val.c) ∧ W'.cell? ⟨kb, ko + j * 11 + 8, none⟩ = some (.int .i64 m.c) ∧ W'.cell? ⟨kb, ko + j * 11 + 9, none⟩ = some (.slice m.bp m.bn m.bc) ∧ W'.cell? ⟨kb, ko + j * 11 + 10, none⟩ = some (.slice m.ep m.en m.ec))) (by kernel_rfl) ⟨Kc (Below.drew (Bs wr)) e0, Kc (Below.drew (Bs wr)) e1, Kc (Below.drew (Bs wr)) e2, Kc (Below.drew (Bs wr)) e3, Kc (Below.drew (Bs wr)) e4, Kc (Below.drew (Bs wr)) e5, Kc (Below.drew (Bs wr)) e6, Kc (Below.drew (Bs wr)) e7, Kc (Below.drew (Bs wr)) e8, Kc (Below.drew (Bs wr)) e9, Kc (Below.drew (Bs wr)) e10⟩ (fun hHeld => ?_)
      obtain ⟨w2, hwd⟩ : ∃ X, X = World.drew wr := ⟨_, rfl⟩
      rw [← hwd] at hHeld ⊢
      have hb : Below wr.heap.size wr w2 := by rw [hwd]; exact Below.drew (Bs _)
      clear hwd
      have hBn := btr (Bs wr) hb
      have hD9 := hD.trans (Chg.of_below hb)
      have hsz9 := hb.size
      replace oL := oL.below hb
      replace e0 := Kc hb e0
      replace e1 := Kc hb e1
      replace e2 := Kc hb e2
      replace e3 := Kc hb e3
      replace e4 := Kc hb e4
      replace e5 := Kc hb e5
      replace e6 := Kc hb e6
      replace e7 := Kc hb e7
      replace e8 := Kc hb e8
      replace e9 := Kc hb e9
      replace e10 := Kc hb e10
      replace kb3 := Bk.below kb3 hb
      replace kb6 := Bk.below kb6 hb
      clear hb
      clear hD
      have hD := hD9; clear hD9
      have hB9 := hBn; clear hBn
      replace lt6 := Bk.lz kb3
      replace lt7 := Bk.lz kb6
      replace lt8 := Lc e0
      refine (tq 1 15 rfl rfl ?_ ?_ (tq 2 16 rfl rfl ?_ ?_ (tq 3 17 rfl rfl ?_ ?_ (tq 4 18 rfl rfl ?_ ?_ (tq 5 19 rfl rfl ?_ ?_ ?_)))))
      iterate 5 (rotate_left; intro W' hSw; (try dsimp only at hSw); go_simp; try with_reducible rfl)
      try simp only [Act.put, sb, List.set]
      refine Rdy 0 rfl (fun K hK => ?_)
      obtain ⟨tc10, tf11⟩ := Bk.cf kb3 0 rfl
      obtain ⟨tc12, tf13⟩ := Bk.cf kb3 1 rfl
      obtain ⟨tc14, tf15⟩ := Bk.cf kb3 2 rfl
      go_simp
      replace lt6 := Bk.lz kb3
      replace lt7 := Bk.lz kb6
      replace lt8 := Lc e0
      refine hK.out _ _ ⟨e0, e1, e2, e3, e4, e5, e6, e7, e8, e9, e10⟩ (fun hHeld => ?_)
      clear hK K
      try simp only [Act.put, sb, List.set]
      refine Rdy 6 rfl (fun K hK => ?_)
      go_simp
      refine (HIC.out _ hB9 _ _ _ _ k1 _ oL (by omega) hkc).mono ?_
      rintro e w3 ⟨la2, fa2, lc2, fc2, k2, ap2, rfl, hL2, hM2, hk4, hk5, hb⟩
      have hD9 := chg_app hD hb (fun q hq h => by rcases hN1 q h with h1 | h1; exact h1; omega)
      have hsz16 := hb.size
      clear tf11 tc10 tf13 tc12 tf15 tc14
      replace e0 := Gc hb e0 (fun h => by have := iv1 _ h; omega)
      replace e1 := Gc hb e1 (fun h => by have := iv1 _ h; omega)
      replace e2 := Gc hb e2 (fun h => by have := iv1 _ h; omega)
      replace e3 := Gc hb e3 (fun h => by have := iv1 _ h; omega)
      replace e4 := Gc hb e4 (fun h => by have := iv1 _ h; omega)
      replace e5 := Gc hb e5 (fun h => by have := iv1 _ h; omega)
      replace e6 := Gc hb e6 (fun h => by have := iv1 _ h; omega)
      replace e7 := Gc hb e7 (fun h => by have := iv1 _ h; omega)
      replace e8 := Gc hb e8 (fun h => by have := iv1 _ h; omega)
      replace e9 := Gc hb e9 (fun h => by have := iv1 _ h; omega)
      replace e10 := Gc hb e10 (fun h => by have := iv1 _ h; omega)
      replace kb3 := Bk.keep kb3 hb (fun h => by have := iv1 _ h; omega)
      replace kb6 := Bk.keep kb6 hb (fun h => by have := iv1 _ h; omega)
      clear hb
      clear hD
      have hD := hD9; clear hD9
      try simp only [Sa, Ss] at hM2
      clear oL
      have oL := hL2; clear hL2
      have hN2 : ∀ q, L7B la2 fa2 q → L7B la fa q ∨ w.heap.size ≤ q := fun q h => by rcases hM2 q h with h1 | h1; exact hN1 q h1; exact Or.inr (by omega)
      have iv2 : ∀ q, L7B la2 fa2 q → (q < w.heap.size ∨ w.heap.size + 2 ≤ q) ∧ q < w3.heap.size ∧ base ≤ q := fun q h => by have h2 := oL.lt q h; rcases hM2 q h with h1 | h1; (have := iv1 q h1; omega); omega
      clear hM2 iv1 hN1
      replace lt6 := Bk.lz kb3
      replace lt7 := Bk.lz kb6
      replace lt8 := Lc e0
      refine hK.out _ _ ⟨e0, e1, e2, e3, e4, e5, e6, e7, e8, e9, e10⟩ (fun hHeld => ?_)
      clear hK K
      try simp only [Act.put, sb, List.set]
      refine Rdy 7 rfl (fun K hK => ?_)
      obtain ⟨tc17, tf18⟩ := Bk.cf kb3 0 rfl
      obtain ⟨tc19, tf20⟩ := Bk.cf kb3 1 rfl
      obtain ⟨tc21, tf22⟩ := Bk.cf kb3 2 rfl
      go_simp
      obtain ⟨w4, hnw, hb⟩ := nmw (World.setCell (World.setCell (World.setCell w3 ⟨w.heap.size, 0, none⟩ (.slice la2 k2 lc2)) ⟨w.heap.size, 1, none⟩ (.slice fa2 k2 fc2)) ⟨w.heap.size, 2, none⟩ (.int .i64 ap2))
      have hD9 := (((hD.setNew (w.heap.size) 0 (.slice la2 k2 lc2) (Or.inr (by omega))).setNew (w.heap.size) 1 (.slice fa2 k2 fc2) (Or.inr (by omega))).setNew (w.heap.size) 2 (.int .i64 ap2) (Or.inr (by omega))).trans (Chg.of_below hb)
      have hsz23 := hb.size
      simp only [Ss] at hsz23
      clear tf18 tc17 tf20 tc19 tf22 tc21
      replace oL := (((oL.keep (C1 _ _ _) (fun gq h h2 => by have := iv2 gq h; omega)).keep (C1 _ _ _) (fun gq h h2 => by have := iv2 gq h; omega)).keep (C1 _ _ _) (fun gq h h2 => by have := iv2 gq h; omega)).below hb
      replace e0 := Kc hb (Nc (Nc (Nc e0 (by omega) _) (by omega) _) (by omega) _)
      replace e1 := Kc hb (Nc (Nc (Nc e1 (by omega) _) (by omega) _) (by omega) _)
      replace e2 := Kc hb (Nc (Nc (Nc e2 (by omega) _) (by omega) _) (by omega) _)
      replace e3 := Kc hb (Nc (Nc (Nc e3 (by omega) _) (by omega) _) (by omega) _)
      replace e4 := Kc hb (Nc (Nc (Nc e4 (by omega) _) (by omega) _) (by omega) _)
      replace e5 := Kc hb (Nc (Nc (Nc e5 (by omega) _) (by omega) _) (by omega) _)
      replace e6 := Kc hb (Nc (Nc (Nc e6 (by omega) _) (by omega) _) (by omega) _)
      replace e7 := Kc hb (Nc (Nc (Nc e7 (by omega) _) (by omega) _) (by omega) _)
      replace e8 := Kc hb (Nc (Nc (Nc e8 (by omega) _) (by omega) _) (by omega) _)
      replace e9 := Kc hb (Nc (Nc (Nc e9 (by omega) _) (by omega) _) (by omega) _)
      replace e10 := Kc hb (Nc (Nc (Nc e10 (by omega) _) (by omega) _) (by omega) _)
      replace kb3 : Bk w4 (w.heap.size) [.slice la2 k2 lc2, .slice fa2 k2 fc2, .int .i64 ap2] := Bk.below (Bk.at (Bk.at (Bk.at kb3 0 (.slice la2 k2 lc2)) 1 (.slice fa2 k2 fc2)) 2 (.int .i64 ap2)) hb
      replace kb6 := Bk.below (Bk.ne (Bk.ne (Bk.ne kb6 (by omega) _) (by omega) _) (by omega) _) hb
      clear hb
      clear hD
      have hD := hD9; clear hD9
      rw [← hnw]
      clear hnw
      replace lt6 := Bk.lz kb3
      replace lt7 := Bk.lz kb6
      replace lt8 := Lc e0
      refine hK.out _ _ ⟨e0, e1, e2, e3, e4, e5, e6, e7, e8, e9, e10⟩ (fun hHeld => ?_)
      clear hK K
      try simp only [Act.put, sb, List.set]
      refine wpAnyH_done (by kernel_rfl) ?_ _
      refine NoPanic.normal ?_
      clear hHeld
      have HH := Lib.hid (And.intro oL hD); clear oL hD
      obtain ⟨tc24, tf25⟩ := Bk.cf kb3 0 rfl
      obtain ⟨tc26, tf27⟩ := Bk.cf kb3 1 rfl
      obtain ⟨tc28, tf29⟩ := Bk.cf kb3 2 rfl
      go_wp2
      go_roundw
      case rel => exact ⟨j + 1, la2, fa2, lc2, fc2, k2, ap2, by omega, by go_num, kb3, kb6, HH.out.1, hN2, fun q h => by have := iv2 q h; omega, by omega, by have := HM2.out; omega, HH.out.2, by omega⟩
      case measure => simp [intOf]; omega
    · have hje : j = L.length := by omega
      have hk6 : k1 ≤ k + L.length * SB := by rw [← hje]; exact hk3
      have hqn : ¬ (j : Int) < (L.length : Int) := by omega
      have HK6 := Lib.hid hk6; clear hk3 hje hk6
      obtain ⟨tc30, tf31⟩ := Bk.cf kb3 0 rfl
      obtain ⟨tc32, tf33⟩ := Bk.cf kb3 1 rfl
      obtain ⟨tc34, tf35⟩ := Bk.cf kb3 2 rfl
      obtain ⟨tc36, tf37⟩ := Bk.cf kb6 0 rfl
      obtain ⟨tc38, tf39⟩ := Bk.cf kb6 1 rfl
      obtain ⟨tc40, tf41⟩ := Bk.cf kb6 2 rfl
      have hBf := (Bk.at (Bk.at (Bk.at kb6 0 (.slice la1 k1 lc1)) 1 (.slice fa1 k1 fc1)) 2 (.int .i64 ap1))
      have xr0 := Bk.cell hBf 0 (v := .slice la1 k1 lc1) rfl
      have xr1 := Bk.cell hBf 1 (v := .slice fa1 k1 fc1) rfl
      have xr2 := Bk.cell hBf 2 (v := .int .i64 ap1) rfl
      clear hBf
      have HDF := Lib.hid (((hD.setNew (w.heap.size + 1) 0 (.slice la1 k1 lc1) (Or.inr (by omega))).setNew (w.heap.size + 1) 1 (.slice fa1 k1 fc1) (Or.inr (by omega))).setNew (w.heap.size + 1) 2 (.int .i64 ap1) (Or.inr (by omega)))
      have HOL := Lib.hid (((oL.keep (C1 (w.heap.size + 1) 0 (.slice la1 k1 lc1)) (fun gq h h2 => by have := iv1 gq h; omega)).keep (C1 (w.heap.size + 1) 1 (.slice fa1 k1 fc1)) (fun gq h h2 => by have := iv1 gq h; omega)).keep (C1 (w.heap.size + 1) 2 (.int .i64 ap1)) (fun gq h h2 => by have := iv1 gq h; omega))
      clear hD oL
      go_wp2
      exact bodyPost_ret (v := .agg #[.slice la1 k1 lc1, .slice fa1 k1 fc1, .int .i64 ap1]) (by simp [results, Try.results162, go_sem, xr0, xr1, xr2]) rfl (by exact ⟨la1, fa1, lc1, fc1, k1, ⟨ap1, rfl⟩, HOL.out, hN1, by omega, HK6.out, HDF.out⟩)

theorem l7Both (base : Nat) (A : Nat → Prop) (hA : ∀ q, A q → q < base) : ∀ (d : Nat), (∀ (D : Nat) (n : Sn) (s : St) (la fa : Option Addr) (lc fc k : Nat) (ap dep : Int) (w : World), L7 w base la fa k lc fc → base ≤ w.heap.size → k + sbd d ≤ 1000000 → StAt w A D n s → SmS d s → Calls Try.prog 167 #[.agg #[.slice la k lc, .slice fa k fc, .int .i64 ap], .agg #[.int .i64 n.k, .int .i64 n.t, .int .i64 n.ix.k, .int .i64 n.ix.v, .slice n.ix.p n.ix.n n.ix.c, .int .i64 n.val.k, .int .i64 n.val.v, .slice n.val.p n.val.n n.val.c, .int .i64 n.c, .slice n.bp n.bn n.bc, .slice n.ep n.en n.ec], .int .i64 dep] w fun r w' => ∃ (la' fa' : Option Addr) (lc' fc' k' : Nat) (ap' : Int), r = .returned (.agg #[.slice la' k' lc', .slice fa' k' fc', .int .i64 ap']) ∧ L7 w' base la' fa' k' lc' fc' ∧ (∀ q, L7B la' fa' q → L7B la fa q ∨ w.heap.size ≤ q) ∧ k ≤ k' ∧ k' ≤ k + sbd d ∧ Chg (fun q => L7B la fa q) w w') ∧ (∀ (D : Nat) (a : Option Addr) (c : Nat) (L : List St) (la fa : Option Addr) (lc fc k : Nat) (ap dep : Int) (w : World), L7 w base la fa k lc fc → base ≤ w.heap.size → k + L.length * sbd d ≤ 1000000 → BlAt w A D (.slice a L.length c) L → (∀ x ∈ L, SmS d x) → Calls Try.prog 162 #[.agg #[.slice la k lc, .slice fa k fc, .int .i64 ap], .slice a L.length c, .int .i64 dep] w fun r w' => ∃ (la' fa' : Option Addr) (lc' fc' k' : Nat) (ap' : Int), r = .returned (.agg #[.slice la' k' lc', .slice fa' k' fc', .int .i64 ap']) ∧ L7 w' base la' fa' k' lc' fc' ∧ (∀ q, L7B la' fa' q → L7B la fa q ∨ w.heap.size ≤ q) ∧ k ≤ k' ∧ k' ≤ k + L.length * sbd d ∧ Chg (fun q => L7B la fa q) w w') := by
  intro d
  induction d with
  | zero =>
    have hs : (∀ (D : Nat) (n : Sn) (s : St) (la fa : Option Addr) (lc fc k : Nat) (ap dep : Int) (w : World), L7 w base la fa k lc fc → base ≤ w.heap.size → k + sbd 0 ≤ 1000000 → StAt w A D n s → SmS 0 s → Calls Try.prog 167 #[.agg #[.slice la k lc, .slice fa k fc, .int .i64 ap], .agg #[.int .i64 n.k, .int .i64 n.t, .int .i64 n.ix.k, .int .i64 n.ix.v, .slice n.ix.p n.ix.n n.ix.c, .int .i64 n.val.k, .int .i64 n.val.v, .slice n.val.p n.val.n n.val.c, .int .i64 n.c, .slice n.bp n.bn n.bc, .slice n.ep n.en n.ec], .int .i64 dep] w fun r w' => ∃ (la' fa' : Option Addr) (lc' fc' k' : Nat) (ap' : Int), r = .returned (.agg #[.slice la' k' lc', .slice fa' k' fc', .int .i64 ap']) ∧ L7 w' base la' fa' k' lc' fc' ∧ (∀ q, L7B la' fa' q → L7B la fa q ∨ w.heap.size ≤ q) ∧ k ≤ k' ∧ k' ≤ k + sbd 0 ∧ Chg (fun q => L7B la fa q) w w') := fun D n s la fa lc fc k ap dep w _ _ _ _ h => h.elim
    exact ⟨hs, fun D a c L la fa lc fc k ap dep w h1 h2 h3 h4 h5 => l7Block_of base A hA 0 hs D a c L la fa lc fc k ap dep w h1 h2 h3 h4 h5⟩
  | succ d ih =>
    have hs : (∀ (D : Nat) (n : Sn) (s : St) (la fa : Option Addr) (lc fc k : Nat) (ap dep : Int) (w : World), L7 w base la fa k lc fc → base ≤ w.heap.size → k + sbd (d + 1) ≤ 1000000 → StAt w A D n s → SmS (d + 1) s → Calls Try.prog 167 #[.agg #[.slice la k lc, .slice fa k fc, .int .i64 ap], .agg #[.int .i64 n.k, .int .i64 n.t, .int .i64 n.ix.k, .int .i64 n.ix.v, .slice n.ix.p n.ix.n n.ix.c, .int .i64 n.val.k, .int .i64 n.val.v, .slice n.val.p n.val.n n.val.c, .int .i64 n.c, .slice n.bp n.bn n.bc, .slice n.ep n.en n.ec], .int .i64 dep] w fun r w' => ∃ (la' fa' : Option Addr) (lc' fc' k' : Nat) (ap' : Int), r = .returned (.agg #[.slice la' k' lc', .slice fa' k' fc', .int .i64 ap']) ∧ L7 w' base la' fa' k' lc' fc' ∧ (∀ q, L7B la' fa' q → L7B la fa q ∨ w.heap.size ≤ q) ∧ k ≤ k' ∧ k' ≤ k + sbd (d + 1) ∧ Chg (fun q => L7B la fa q) w w') := fun D n s la fa lc fc k ap dep w h1 h2 h3 h4 h5 => l7Stmt_of base A hA d ih.2 D n s la fa lc fc k ap dep w h1 h2 h3 h4 h5
    exact ⟨hs, fun D a c L la fa lc fc k ap dep w h1 h2 h3 h4 h5 => l7Block_of base A hA (d + 1) hs D a c L la fa lc fc k ap dep w h1 h2 h3 h4 h5⟩

end Go.Proofs.Ytkjedgnepnbkpaa
