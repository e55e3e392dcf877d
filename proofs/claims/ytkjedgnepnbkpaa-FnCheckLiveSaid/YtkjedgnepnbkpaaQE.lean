/-
 Parts of the proofs of the laws FnCheckLive, FnFinalRegs, FnLiveRegister, FnLiveRegs.
-/
import Derived.Test.YtkjedgnepnbkpaaQD
set_option linter.all false
namespace Go.Proofs.Ytkjedgnepnbkpaa
open Go.RowKit

set_option maxHeartbeats 6400000 in
set_option maxRecDepth 100000 in
theorem l2DrawBlock_of (pv pa : Option Addr) (nv cv na ca : Nat) (vb : Value) (B g : Nat) (d : Nat) (hd : d ≤ 3) (Hs : ∀ (p : Nat) (w : World), Rnd w B g p → p + scost (d + 1) ≤ 1000000000 → Calls Try.prog 164 #[.pointer (some ⟨g, 0, none⟩), .agg #[.slice pv nv cv, .slice pa na ca, vb], .int .i64 ((d + 1 : Nat) : Int)] w fun r w' => ∃ (n : Sn) (s : St) (p' : Nat), r = .returned (.agg #[.int .i64 n.k, .int .i64 n.t, .int .i64 n.ix.k, .int .i64 n.ix.v, .slice n.ix.p n.ix.n n.ix.c, .int .i64 n.val.k, .int .i64 n.val.v, .slice n.val.p n.val.n n.val.c, .int .i64 n.c, .slice n.bp n.bn n.bc, .slice n.ep n.en n.ec]) ∧ StAt w' (fun q => w.heap.size ≤ q) (d + 1) n s ∧ SmS (d + 1) s ∧ Rnd w' B g p' ∧ p' ≤ p + scost (d + 1) ∧ Chg (fun q => q = g) w w')
  (n p : Nat) (w : World) (hn : n ≤ 4) (hR : Rnd w B g p) (hp : p + n * scost (d + 1) ≤ 1000000000) :
  Calls Try.prog 147 #[.pointer (some ⟨g, 0, none⟩), .agg #[.slice pv nv cv, .slice pa na ca, vb], .int .i64 ((d + 1 : Nat) : Int), .int .i64 (n : Int)] w fun r w' => ∃ (a : Option Addr) (c : Nat) (L : List St) (p' : Nat), r = .returned (.slice a L.length c) ∧ BlAt w' (fun q => w.heap.size ≤ q) (d + 1) (.slice a L.length c) L ∧ L.length = n ∧ (∀ x ∈ L, SmS (d + 1) x) ∧ Rnd w' B g p' ∧ p' ≤ p + n * scost (d + 1) ∧ Chg (fun q => q = g) w w' := by
 have HP0 := Lib.hid hp; clear hp
 have HSS := Lib.hid Hs; clear Hs
 have HMN := Lib.hid (fun k (hk : k < n) => (Nat.mul_le_mul_right (scost (d + 1)) (by omega : k + 1 ≤ n)))
 have HMS := Lib.hid (fun k => show (k + 1) * scost (d + 1) = k * scost (d + 1) + scost (d + 1) from Nat.succ_mul k _)
 generalize scost (d + 1) = SC at *
 have hg := hR.lt
 have hC : Chg (fun k => k = g) w w := Chg.refl _ _
 have ird : ∀ q, (fun k => k = g) q → q = g := fun q h => h
 go_enter Try.func147, Try.ntmps147
 go_upto_region 2 with (fail)
 obtain ⟨w1, hnw, hb⟩ := nmw (World.alloc (World.alloc w (.cells #[.slice pv nv cv, .slice pa na ca, vb] 110)) (.cells #[] 163))
 replace hC := (((hC.trans (Chg.of_below (bal (Bs _) _))).trans (Chg.of_below (bal (Bs _) _)))).trans (Chg.of_below hb)
 replace hR := ((hR.below (bal (Bs _) _)).below (bal (Bs _) _)).below hb
 have ol1 := Ob (World.ownsRow_lit (base := ((World.alloc w (.cells #[.slice pv nv cv, .slice pa na ca, vb] 110))).heap.size) (e := 163) (size := 11) ((World.alloc w (.cells #[.slice pv nv cv, .slice pa na ca, vb] 110))) #[] 0 (Nat.le_refl _) (by unfold maxLen; omega) (by simp)) hb
 try simp only [Sa, Ss] at ol1
 have hsz2 := hb.size
 simp only [Sa] at hsz2
 have bk3 : Bk w1 (w.heap.size) [.slice pv nv cv, .slice pa na ca, vb] := Bk.below (Bk.al (Bk.nw (by simp) rfl) (.cells #[] 163)) hb
 clear hb
 have iv4 := ol1.lt
 try simp only [Sa] at iv4
 rw [← hnw]
 clear hnw
 have lt5 := Bk.lz bk3
 obtain ⟨tc6, tf7⟩ := Bk.cf bk3 0 rfl
 obtain ⟨tc8, tf9⟩ := Bk.cf bk3 1 rfl
 obtain ⟨tc10, tf11⟩ := Bk.cf bk3 2 rfl
 have hs0 : StsAt w1 w.heap.size (d + 1) (.slice (some ⟨w.heap.size + 1, 0, none⟩) 0 0) [] [] := StsAt.nil (Om ol1 (by omega))
 have HI0 : Hid (∃ (k : Nat) (rs : List Sn) (l : List St) (a : Option Addr) (c pk : Nat), k ≤ n ∧ Value.int .i64 0 = .int .i64 k ∧ Value.slice (some ⟨w.heap.size + 1, 0, none⟩) 0 0 = .slice a k c ∧ l.length = k ∧ StsAt w1 w.heap.size (d + 1) (.slice a k c) rs l ∧ w1.cell? ⟨w.heap.size, 0, none⟩ = some (.slice pv nv cv) ∧ w1.cell? ⟨w.heap.size, 1, none⟩ = some (.slice pa na ca) ∧ w1.cell? ⟨w.heap.size, 2, none⟩ = some (vb) ∧ Rnd w1 B g pk ∧ pk ≤ p + k * SC ∧ Chg (fun q => q = g) w w1 ∧ w1.heap.size ≤ w1.heap.size) := Lib.hid ⟨0, [], [], _, 0, p, Nat.zero_le _, rfl, rfl, rfl, hs0, tc6, tc8, tc10, hR, by omega, hC, Nat.le_refl _⟩
 clear hs0 hR hC bk3 ol1 tc6 tf7 tc8 tf9 tc10 tf11 lt5
 go_wp2_with fail
 go_loopw [9, 10] (fun o i wr => ∃ (k : Nat) (rs : List Sn) (l : List St) (a : Option Addr) (c pk : Nat), k ≤ n ∧ i = .int .i64 k ∧ o = .slice a k c ∧ l.length = k ∧ StsAt wr w.heap.size (d + 1) (.slice a k c) rs l ∧ wr.cell? ⟨w.heap.size, 0, none⟩ = some (.slice pv nv cv) ∧ wr.cell? ⟨w.heap.size, 1, none⟩ = some (.slice pa na ca) ∧ wr.cell? ⟨w.heap.size, 2, none⟩ = some (vb) ∧ Rnd wr B g pk ∧ pk ≤ p + k * SC ∧ Chg (fun q => q = g) w wr ∧ w1.heap.size ≤ wr.heap.size) (fun _ i _ => n - (intOf i).toNat)
 case atStart => exact HI0.out
 case round =>
  clear HI0
  obtain ⟨k, rs, l, a, c, pk, hk, rfl, rfl, hlk, hSA, c0, c1, c2, hR, hpk, hC, hzr⟩ := hrel
  have HLK := Lib.hid hlk; clear hlk
  have k5 := Lc c0
  by_cases hlt : k < n
  ·have hqk : (k : Int) < (n : Int) := by omega
   have hm1 := HMN.out k hlt; have hm2 := HMS.out k; have hp1 : pk + SC ≤ 1000000000 := by have := HP0.out; omega
   have HM2 := Lib.hid hm2; clear hm1 hm2
   have hKOr : ∀ q, (Value.slice a k c).ownBlock = some q → q < wr.heap.size := fun q hq => (hSA.own.lt q hq).2
   go_wp2_with fail
   refine (HSS.out pk _ hR hp1).mono ?_
   rintro e w2 ⟨nd, e, p1, rfl, hE, hSm, hRn, hp2, hc⟩
   have hSA9 := hSA.keep hc (fun q hq (h : q = g) => by omega)
   replace hC := (hC).trans hc
   replace hR := hRn; clear hRn
   have hsz12 := hc.size
   replace c0 := Gc hc c0 (fun h => by have := ird _ h; omega)
   replace c1 := Gc hc c1 (fun h => by have := ird _ h; omega)
   replace c2 := Gc hc c2 (fun h => by have := ird _ h; omega)
   clear hc
   clear hSA; have hSA := hSA9; clear hSA9
   replace hE := StAt.keep (S := fun _ => False) (Chg.refl _ _) (fun _ _ _ => id) (fun q (hq : wr.heap.size ≤ q) hlt => (show wr.heap.size ≤ q ∧ q < w2.heap.size from ⟨hq, hlt⟩)) (Nat.le_refl _) hE
   have lt13 := Lc c0
   have hKO := hSA.own.lt
   have iK : ∀ q, (Value.slice a k c).ownBlock = some q → w.heap.size + 1 ≤ q ∧ q < wr.heap.size := fun q hq => by have h1 := hKOr q hq; have h2 := hKO q hq; omega
   have hKO3 : w2.ownsRow (w.heap.size + 1) 163 11 (.slice a k c) k (rows snc rs) := by have h := hSA.own; rw [HLK.out] at h; exact h
   go_wp2_with (at_builtin; go_must (refine wpList_aps tStmts rfl _ _ rfl (w.heap.size + 1) _ k (rows snc rs) rfl (Ob hKO3 (bal (Bs _) (.cells #[.int .i64 nd.k, .int .i64 nd.t, .int .i64 nd.ix.k, .int .i64 nd.ix.v, .slice nd.ix.p nd.ix.n nd.ix.c, .int .i64 nd.val.k, .int .i64 nd.val.v, .slice nd.val.p nd.val.n nd.val.c, .int .i64 nd.c, .slice nd.bp nd.bn nd.bc, .slice nd.ep nd.en nd.ec] 163))) _ 1 (snc nd) rfl (Ro (World.ownsRow_lit (base := (w2).heap.size) (e := 163) (size := 11) (w2) #[.int .i64 nd.k, .int .i64 nd.t, .int .i64 nd.ix.k, .int .i64 nd.ix.v, .slice nd.ix.p nd.ix.n nd.ix.c, .int .i64 nd.val.k, .int .i64 nd.val.v, .slice nd.val.p nd.val.n nd.val.c, .int .i64 nd.c, .slice nd.bp nd.bn nd.bc, .slice nd.ep nd.en nd.ec] 1 (Nat.le_refl _) (by unfold maxLen; omega) (by simp)) (by simp)) (one_snc nd) (by first | omega | (simp only [Sa]; omega)) (by first | omega | (simp only [Sa]; omega)) ?_))
   intro vA w3 oA hc hNw _
   obtain ⟨pA, tA, rfl⟩ := Oh oA
   have hSA9 := StsAt.push (hSA.below (bal (Bs _) (.cells #[.int .i64 nd.k, .int .i64 nd.t, .int .i64 nd.ix.k, .int .i64 nd.ix.v, .slice nd.ix.p nd.ix.n nd.ix.c, .int .i64 nd.val.k, .int .i64 nd.val.v, .slice nd.val.p nd.val.n nd.val.c, .int .i64 nd.c, .slice nd.bp nd.bn nd.bc, .slice nd.ep nd.en nd.ec] 163))) (by rw [HLK.out]; exact oA) hc hNw (StAt.keep (S := fun _ => False) (Chg.refl _ _) (fun _ _ _ => id) (fun q (hq : wr.heap.size ≤ q ∧ q < w2.heap.size) _ => hq.1) (Nat.le_refl _) (StAt.keep (S := fun _ => False) (Chg.of_below (bal (Bs _) (.cells #[.int .i64 nd.k, .int .i64 nd.t, .int .i64 nd.ix.k, .int .i64 nd.ix.v, .slice nd.ix.p nd.ix.n nd.ix.c, .int .i64 nd.val.k, .int .i64 nd.val.v, .slice nd.val.p nd.val.n nd.val.c, .int .i64 nd.c, .slice nd.bp nd.bn nd.bc, .slice nd.ep nd.en nd.ec] 163))) (fun _ _ _ => id) (fun _ h _ => h) (Nat.le_refl _) hE)) hSm (by omega) (fun q hq => by have := hKOr q hq; omega)
   replace hC := chg_app (hC.trans (Chg.of_below (bal (Bs _) _))) hc (fun q hq h => by have := iK q h; omega)
   replace hR := (hR.below (bal (Bs _) _)).keep hc (fun h => by have := iK _ h; omega) (fun k hk h => by have := iK _ h; omega)
   replace hE := StAt.keep hc (fun q (hq : wr.heap.size ≤ q ∧ q < w2.heap.size) _ h => by have := iK q h; omega) (fun _ h _ => h) (Nat.le_refl _) (StAt.keep (S := fun _ => False) (Chg.of_below (bal (Bs _) _)) (fun _ _ _ => id) (fun _ h _ => h) (Nat.le_refl _) hE)
   have hsz15 := hc.size
   simp only [Sa] at hsz15
   replace c0 := Gc hc (Ac c0 _) (fun h => by have := iK _ h; omega)
   replace c1 := Gc hc (Ac c1 _) (fun h => by have := iK _ h; omega)
   replace c2 := Gc hc (Ac c2 _) (fun h => by have := iK _ h; omega)
   have bk16 : Bk w3 (w2.heap.size) [.int .i64 nd.k, .int .i64 nd.t, .int .i64 nd.ix.k, .int .i64 nd.ix.v, .slice nd.ix.p nd.ix.n nd.ix.c, .int .i64 nd.val.k, .int .i64 nd.val.v, .slice nd.val.p nd.val.n nd.val.c, .int .i64 nd.c, .slice nd.bp nd.bn nd.bc, .slice nd.ep nd.en nd.ec] := Bk.keep (Bk.nw (by simp) rfl) hc (fun h => by have := iK _ h; omega)
   clear hc
   clear hSA; have hSA := hSA9; clear hSA9
   have HSA2 := Lib.hid hSA; have HH := Lib.hid (And.intro hR hC); clear hSA hR hC hNw oA hKO3 iK hKO
   have hla : (l ++ [e]).length = k + 1 := by rw [List.length_append, HLK.out]; rfl
   have HLA := Lib.hid hla; clear hla
   go_wp2
   go_roundw
   case rel => exact ⟨k + 1, rs ++ [nd], l ++ [e], pA, tA, p1, by omega, by go_num, rfl, HLA.out, HSA2.out, c0, c1, c2, HH.out.1, by have := HM2.out; omega, HH.out.2, by omega⟩
   case measure => simp [intOf]; omega
  ·have hke : k = n := by omega
   subst hke
   obtain ⟨hlk⟩ : Nonempty (l.length = k) := ⟨HLK.out⟩
   have HMM := HMN; clear HMN HMS HLK
   subst hlk
   have HBL := Lib.hid (hSA.block (by omega)); have HSM := Lib.hid hSA.small; clear hSA
   have tC := hC; have tR := hR
   have tt := True.intro
   go_wp2
   exact bodyPost_ret (v := .slice a l.length c) (by simp [results, Try.results147, go_sem]) rfl (by exact ⟨_, _, l, pk, rfl, BlAt.keep2 (S := fun _ => False) (Chg.refl _ _) (fun _ _ _ => id) (fun q (hq : w.heap.size < q) _ => by show w.heap.size ≤ q; omega) (Nat.le_refl _) HBL.out, rfl, HSM.out, tR, by omega, tC⟩)
end Go.Proofs.Ytkjedgnepnbkpaa
namespace Go.Proofs.Ytkjedgnepnbkpaa
open Go.RowKit

theorem l2DrawBoth (pv pa : Option Addr) (nv cv na ca : Nat) (vb : Value) (B g : Nat) (hnv : 1 ≤ nv) (hnb : nv ≤ 1000 ∧ na ≤ 1000) : ∀ (d : Nat), d ≤ 3 →
  (∀ (p : Nat) (w : World), Rnd w B g p → p + scost (d + 1) ≤ 1000000000 → Calls Try.prog 164 #[.pointer (some ⟨g, 0, none⟩), .agg #[.slice pv nv cv, .slice pa na ca, vb], .int .i64 ((d + 1 : Nat) : Int)] w fun r w' => ∃ (n : Sn) (s : St) (p' : Nat), r = .returned (.agg #[.int .i64 n.k, .int .i64 n.t, .int .i64 n.ix.k, .int .i64 n.ix.v, .slice n.ix.p n.ix.n n.ix.c, .int .i64 n.val.k, .int .i64 n.val.v, .slice n.val.p n.val.n n.val.c, .int .i64 n.c, .slice n.bp n.bn n.bc, .slice n.ep n.en n.ec]) ∧ StAt w' (fun q => w.heap.size ≤ q) (d + 1) n s ∧ SmS (d + 1) s ∧ Rnd w' B g p' ∧ p' ≤ p + scost (d + 1) ∧ Chg (fun q => q = g) w w') ∧
  (∀ (n p : Nat) (w : World), n ≤ 4 → Rnd w B g p → p + n * scost (d + 1) ≤ 1000000000 → Calls Try.prog 147 #[.pointer (some ⟨g, 0, none⟩), .agg #[.slice pv nv cv, .slice pa na ca, vb], .int .i64 ((d + 1 : Nat) : Int), .int .i64 (n : Int)] w fun r w' => ∃ (a : Option Addr) (c : Nat) (L : List St) (p' : Nat), r = .returned (.slice a L.length c) ∧ BlAt w' (fun q => w.heap.size ≤ q) (d + 1) (.slice a L.length c) L ∧ L.length = n ∧ (∀ x ∈ L, SmS (d + 1) x) ∧ Rnd w' B g p' ∧ p' ≤ p + n * scost (d + 1) ∧ Chg (fun q => q = g) w w') := by
 intro d
 induction d with
 | zero =>
  intro hd
  have hs := fun p w hR hp => l2DrawStmt_of pv pa nv cv na ca vb B g hnv hnb 0 hd (fun h => by omega) p w hR hp
  exact ⟨hs, fun n p w hn hR hp => l2DrawBlock_of pv pa nv cv na ca vb B g 0 hd hs n p w hn hR hp⟩
 | succ d ih =>
  intro hd
  have hb := (ih (by omega)).2
  have hs := fun p w hR hp => l2DrawStmt_of pv pa nv cv na ca vb B g hnv hnb (d + 1) hd (fun _ n p w hn hR hp => hb n p w (by omega) hR hp) p w hR hp
  exact ⟨hs, fun n p w hn hR hp => l2DrawBlock_of pv pa nv cv na ca vb B g (d + 1) hd hs n p w hn hR hp⟩
end Go.Proofs.Ytkjedgnepnbkpaa
