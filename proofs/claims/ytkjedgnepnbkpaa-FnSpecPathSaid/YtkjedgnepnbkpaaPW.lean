/-
 Parts of the proof of the law FnSpecPath.
-/
import Derived.Test.YtkjedgnepnbkpaaMT
import Derived.Test.YtkjedgnepnbkpaaPV
import Derived.Test.YtkjedgnepnbkpaaZ
set_option maxHeartbeats 12800000
set_option maxRecDepth 100000
set_option linter.all false
namespace Go.Proofs.Ytkjedgnepnbkpaa
open Go.RowKit

/-- well-formed, and not too many nodes -/
def exRight (nv na : Nat) (e : Ex) : Bool := exOk nv na 5 e && decide (exCnt 5 e ≤ 15)

theorem chg_app {S T : Nat → Prop} {w W W' : World} (h : Chg S w W) (k : Chg T W W') (hs : ∀ q, q < w.heap.size → T q → S q) : Chg S w W' :=
 ⟨k.os.trans h.os, k.tape.trans h.tape, k.output.trans h.output, Nat.le_trans h.size k.size, fun q hq hn => (k.block q (Nat.lt_of_lt_of_le hq h.size) (fun h2 => hn (hs q hq h2))).trans (h.block q hq hn)⟩
def dcost : Nat → Nat
 | 0 => 8
 | d + 1 => 8 + 3 * dcost d

theorem l2Right_any (pv pa : Option Addr) (nv cv na ca : Nat) (vb : Value) (B : Nat → Prop) (D : Nat) (n : En) (e : Ex) (w : World) (hx : ExAt w B D n e) :
  Calls Try.prog 173 #[.agg #[.slice pv nv cv, .slice pa na ca, vb], .agg #[.int .i64 n.k, .int .i64 n.v, .slice n.p n.n n.c]] w fun r w' => r = .returned (.bool (exRight nv na e)) ∧ Below w.heap.size w w' := by
 have HX := Lib.hid (fun W (hW : Below w.heap.size w W) => hx.below hW)
 have HN : Hid (exOk nv na 5 e = false → exRight nv na e = false) := Lib.hid (fun h => by unfold exRight; rw [h]; rfl)
 have HY : Hid (exOk nv na 5 e = true → exRight nv na e = decide (exCnt 5 e ≤ 15)) := Lib.hid (fun h => by unfold exRight; rw [h]; rfl)
 have HS := Lib.hid (fun W (hW : Below w.heap.size w W) => l2Shape_any pv pa nv cv na ca vb B 5 D n e W (by omega) (HX.out W hW))
 have HC := Lib.hid (fun (h : exOk nv na 5 e = true) W (hW : Below w.heap.size w W) => l2Count_any B 5 D 5 n e W (by omega) (HX.out W hW) (exOk_thin (nv := nv) (na := na) h))
 clear hx HX
 generalize exRight nv na e = X at *
 generalize exCnt 5 e = Y at *
 go_enter Try.func173, Try.ntmps173
 go_wp2_with fail
 refine (HS.out _ (bal (bal (Bs w) (.cells #[.slice pv nv cv, .slice pa na ca, vb] 110)) (.cells #[.int .i64 n.k, .int .i64 n.v, .slice n.p n.n n.c] 161))).mono ?_
 rintro e w1 ⟨rfl, hb⟩
 have hsz1 := hb.size
 simp only [Sa] at hsz1
 have bk2 : Bk w1 (w.heap.size) [.slice pv nv cv, .slice pa na ca, vb] := Bk.below (Bk.al (Bk.nw (by simp) rfl) (.cells #[.int .i64 n.k, .int .i64 n.v, .slice n.p n.n n.c] 161)) hb
 have bk3 : Bk w1 (w.heap.size + 1) [.int .i64 n.k, .int .i64 n.v, .slice n.p n.n n.c] := Bk.below (Bk.nw (by simp) rfl) hb
 have tot := btr (bal (bal (Bs w) (.cells #[.slice pv nv cv, .slice pa na ca, vb] 110)) (.cells #[.int .i64 n.k, .int .i64 n.v, .slice n.p n.n n.c] 161)) hb
 clear hb
 clear bk2
 have lt4 := Bk.lz bk3
 cases hc : exOk nv na 5 e with
 | false =>
  have HR := Lib.hid (HN.out hc); clear HN HY HC HS hc
  have tt := tot
  go_wp2
  exact bodyPost_ret (v := .bool false) (by simp [results, Try.results173, go_sem]) rfl (by exact by rw [HR.out]; exact ⟨rfl, tt⟩)
 | true =>
  have HR := Lib.hid (HY.out hc); have HC2 := Lib.hid (HC.out hc); clear HN HY HC HS hc
  obtain ⟨tc5, tf6⟩ := Bk.cf bk3 0 rfl
  obtain ⟨tc7, tf8⟩ := Bk.cf bk3 1 rfl
  obtain ⟨tc9, tf10⟩ := Bk.cf bk3 2 rfl
  go_wp2_with fail
  refine (HC2.out _ tot).mono ?_
  rintro e w2 ⟨rfl, hb⟩
  have hsz11 := hb.size
  clear tf6 tc5 tf8 tc7 tf10 tc9
  replace bk3 := Bk.below bk3 hb
  replace tot := btr tot hb
  clear hb
  clear bk3
  clear lt4
  have tt := tot
  go_wp2
  exact bodyPost_ret (v := .bool (decide (Y ≤ 15))) (by simp [results, Try.results173, go_sem]) rfl (by exact by rw [HR.out]; exact ⟨rfl, tt⟩)
theorem l2DrawAtom_any (pv pa : Option Addr) (nv cv na ca : Nat) (vb : Value) (B g p : Nat) (w : World) (hR : Rnd w B g p) (hp : p + 2 ≤ 1000000000) (hnv : 1 ≤ nv) (hnb : nv ≤ 1000 ∧ na ≤ 1000) :
  Calls Try.prog 168 #[.pointer (some ⟨g, 0, none⟩), .agg #[.slice pv nv cv, .slice pa na ca, vb]] w fun r w' => ∃ (k v : Int) (p' : Nat), r = .returned (.agg #[.int .i64 k, .int .i64 v, .slice none 0 0]) ∧ Rnd w' B g p' ∧ p' ≤ p + 2 ∧ Chg (fun q => q = g) w w' := by
 have hg := hR.lt
 have hC : Chg (fun k => k = g) w w := Chg.refl _ _
 have ird : ∀ q, (fun k => k = g) q → q = g := fun q h => h
 go_enter Try.func168, Try.ntmps168
 go_wp2_with fail
 refine (pick_any _ _ B g (p) ((hR.below (bal (Bs _) (.cells #[.slice pv nv cv, .slice pa na ca, vb] 110))).below (bal (Bs _) (.cells #[.int .i64 0, .int .i64 0, .slice none 0 0] 161))) (by omega) (by omega) (by omega)).mono ?_
 rintro e w1 ⟨r, r0, r1, rfl, hRn, hc⟩
 replace hC := (((hC.trans (Chg.of_below (bal (Bs _) _))).trans (Chg.of_below (bal (Bs _) _)))).trans hc
 replace hR := hRn; clear hRn
 have hsz1 := hc.size
 simp only [Sa] at hsz1
 have bk2 : Bk w1 (w.heap.size) [.slice pv nv cv, .slice pa na ca, vb] := Bk.keep (Bk.al (Bk.nw (by simp) rfl) (.cells #[.int .i64 0, .int .i64 0, .slice none 0 0] 161)) hc (fun h => by have := ird _ h; omega)
 have bk3 : Bk w1 (w.heap.size + 1) [.int .i64 0, .int .i64 0, .slice none 0 0] := Bk.keep (Bk.nw (by simp) rfl) hc (fun h => by have := ird _ h; omega)
 clear hc
 have lt4 := Bk.lz bk2
 have lt5 := Bk.lz bk3
 by_cases h0 : r = 0
 ·subst h0
  go_wp2_with fail
  refine (num_any _ [1, 0, 2, 3, 255, 7, 128] _ B g (p + 1) (hR.below (bal (Bs _) (.cells #[.int .i64 1, .int .i64 0, .int .i64 2, .int .i64 3, .int .i64 255, .int .i64 7, .int .i64 128] 3))) (Ro (World.ownsRow_lit (base := (w1).heap.size) (e := 3) (size := 1) (w1) #[.int .i64 1, .int .i64 0, .int .i64 2, .int .i64 3, .int .i64 255, .int .i64 7, .int .i64 128] 7 (Nat.le_refl _) (by unfold maxLen; omega) (by simp)) (by simp)) (fun b o c hb => by simp at hb; omega) (by simp) (by simp) (by omega)).mono ?_
  rintro e w2 ⟨v, vm, rfl, hRn, hc⟩
  replace hC := ((hC.trans (Chg.of_below (bal (Bs _) _)))).trans hc
  replace hR := hRn; clear hRn
  have hsz7 := hc.size
  simp only [Sa] at hsz7
  replace bk2 := Bk.keep (Bk.al bk2 _) hc (fun h => by have := ird _ h; omega)
  replace bk3 := Bk.keep (Bk.al bk3 _) hc (fun h => by have := ird _ h; omega)
  have bk8 : Bk w2 (w1.heap.size) [.int .i64 1, .int .i64 0, .int .i64 2, .int .i64 3, .int .i64 255, .int .i64 7, .int .i64 128] := Bk.keep (Bk.nw (by simp) rfl) hc (fun h => by have := ird _ h; omega)
  clear hc
  clear bk8
  replace lt4 := Bk.lz bk2
  replace lt5 := Bk.lz bk3
  have tC := (((hC.setNew (w.heap.size + 1) (0) (.int .i64 1) (Or.inr (by omega))).setNew (w.heap.size + 1) (1) (.int .i64 v) (Or.inr (by omega))).setNew (w.heap.size + 1) (2) (.slice none 0 0) (Or.inr (by omega))); have tR := (((hR.keep (C1 (w.heap.size + 1) (0) (.int .i64 1)) (by omega) (fun _ _ => by omega)).keep (C1 (w.heap.size + 1) (1) (.int .i64 v)) (by omega) (fun _ _ => by omega)).keep (C1 (w.heap.size + 1) (2) (.slice none 0 0)) (by omega) (fun _ _ => by omega))
  obtain ⟨tc9, tf10⟩ := Bk.cf bk3 0 rfl
  obtain ⟨tc11, tf12⟩ := Bk.cf bk3 1 rfl
  obtain ⟨tc13, tf14⟩ := Bk.cf bk3 2 rfl
  have x15 := (Nc (b := (w.heap.size + 1)) (j := 2) (Nc (b := (w.heap.size + 1)) (j := 1) (Tc _ (w.heap.size + 1) 0 (.int .i64 1) tc9) (by omega) (.int .i64 v)) (by omega) (.slice none 0 0))
  have x16 := (Nc (b := (w.heap.size + 1)) (j := 2) (Tc _ (w.heap.size + 1) 1 (.int .i64 v) (Nc (b := (w.heap.size + 1)) (j := 0) tc11 (by omega) (.int .i64 1))) (by omega) (.slice none 0 0))
  have x17 := (Tc _ (w.heap.size + 1) 2 (.slice none 0 0) (Nc (b := (w.heap.size + 1)) (j := 1) (Nc (b := (w.heap.size + 1)) (j := 0) tc13 (by omega) (.int .i64 1)) (by omega) (.int .i64 v)))
  have tt := True.intro
  go_wp2
  exact bodyPost_ret (v := .agg #[.int .i64 1, .int .i64 v, .slice none 0 0]) (by simp [results, Try.results168, go_sem, x15, x16, x17]) rfl (by exact ⟨_, _, _, rfl, tR, by omega, tC⟩)
 ·have q0 : (r == 0) = false := by simpa using h0
  obtain ⟨tc18, tf19⟩ := Bk.cf bk2 0 rfl
  go_wp2_with fail
  refine (pick_any _ _ B g (p + 1) hR (by omega) (by omega) (by omega)).mono ?_
  rintro e w2 ⟨v, v0, v1, rfl, hRn, hc⟩
  replace hC := (hC).trans hc
  replace hR := hRn; clear hRn
  have hsz20 := hc.size
  clear tf19 tc18
  replace bk2 := Bk.keep bk2 hc (fun h => by have := ird _ h; omega)
  replace bk3 := Bk.keep bk3 hc (fun h => by have := ird _ h; omega)
  clear hc
  clear bk2
  clear lt4
  replace lt5 := Bk.lz bk3
  have tC := (((hC.setNew (w.heap.size + 1) (0) (.int .i64 2) (Or.inr (by omega))).setNew (w.heap.size + 1) (1) (.int .i64 v) (Or.inr (by omega))).setNew (w.heap.size + 1) (2) (.slice none 0 0) (Or.inr (by omega))); have tR := (((hR.keep (C1 (w.heap.size + 1) (0) (.int .i64 2)) (by omega) (fun _ _ => by omega)).keep (C1 (w.heap.size + 1) (1) (.int .i64 v)) (by omega) (fun _ _ => by omega)).keep (C1 (w.heap.size + 1) (2) (.slice none 0 0)) (by omega) (fun _ _ => by omega))
  obtain ⟨tc21, tf22⟩ := Bk.cf bk3 0 rfl
  obtain ⟨tc23, tf24⟩ := Bk.cf bk3 1 rfl
  obtain ⟨tc25, tf26⟩ := Bk.cf bk3 2 rfl
  have x27 := (Nc (b := (w.heap.size + 1)) (j := 2) (Nc (b := (w.heap.size + 1)) (j := 1) (Tc _ (w.heap.size + 1) 0 (.int .i64 2) tc21) (by omega) (.int .i64 v)) (by omega) (.slice none 0 0))
  have x28 := (Nc (b := (w.heap.size + 1)) (j := 2) (Tc _ (w.heap.size + 1) 1 (.int .i64 v) (Nc (b := (w.heap.size + 1)) (j := 0) tc23 (by omega) (.int .i64 2))) (by omega) (.slice none 0 0))
  have x29 := (Tc _ (w.heap.size + 1) 2 (.slice none 0 0) (Nc (b := (w.heap.size + 1)) (j := 1) (Nc (b := (w.heap.size + 1)) (j := 0) tc25 (by omega) (.int .i64 2)) (by omega) (.int .i64 v)))
  have tt := True.intro
  go_wp2
  exact bodyPost_ret (v := .agg #[.int .i64 2, .int .i64 v, .slice none 0 0]) (by simp [results, Try.results168, go_sem, x27, x28, x29]) rfl (by exact ⟨_, _, _, rfl, tR, by omega, tC⟩)
end Go.Proofs.Ytkjedgnepnbkpaa
namespace Go.Proofs.Ytkjedgnepnbkpaa
open Go.RowKit

structure RowK where
 k : Nat
 e : TypeId
 sz : Nat
 v : Value
 n : Nat
 xs : List Value
/-- rows of the call's own; those with different keys lie in different blocks -/
structure RowSet (w : World) (base : Nat) (l : List RowK) : Prop where
 own : ∀ r ∈ l, w.ownsRow base r.e r.sz r.v r.n r.xs
 dj : ∀ r ∈ l, ∀ s ∈ l, r.k ≠ s.k → ∀ q, r.v.ownBlock = some q → s.v.ownBlock = some q → False
section
variable {w w' : World} {base : Nat} {l l' : List RowK}
theorem RowSet.nil : RowSet w base [] := ⟨fun _ h => (by cases h), fun _ h => (by cases h)⟩
theorem RowSet.sub (h : RowSet w base l) (hs : ∀ r ∈ l', r ∈ l) : RowSet w base l' := ⟨fun r hr => h.own r (hs r hr), fun r hr s hs2 => h.dj r (hs r hr) s (hs s hs2)⟩
theorem RowSet.below (h : RowSet w base l) (hb : Below w.heap.size w w') : RowSet w' base l := ⟨fun r hr => Ob (h.own r hr) hb, h.dj⟩
theorem RowSet.lit (h : RowSet w base l) (k : Nat) (e : TypeId) (sz : Nat) (cs : Array Value) (n : Nat) (hb : base ≤ w.heap.size) (hn : n ≤ maxLen) (hc : cs.size = n * sz) : RowSet (w.alloc (.cells cs e)) base (⟨k, e, sz, .slice (some ⟨w.heap.size, 0, none⟩) n n, n, cs.toList⟩ :: l) := by
 have hl : (w.alloc (.cells cs e)).ownsRow base e sz (.slice (some ⟨w.heap.size, 0, none⟩) n n) n cs.toList := Om (World.ownsRow_lit (base := w.heap.size) (e := e) (size := sz) w cs n (Nat.le_refl _) hn hc) hb
 have hlt : ∀ r ∈ l, ∀ q, r.v.ownBlock = some q → q < w.heap.size := fun r hr q hq => ((h.own r hr).lt q hq).2
 refine ⟨fun r hr => ?_, fun r hr s hs hk q h1 h2 => ?_⟩
 ·rcases List.mem_cons.1 hr with rfl | hr
  ·exact hl
  ·exact Ob (h.own r hr) (bal (Bs w) _)
 ·rcases List.mem_cons.1 hr with rfl | hr
  ·rcases List.mem_cons.1 hs with rfl | hs
   ·exact hk rfl
   ·have e1 : w.heap.size = q := Option.some.inj h1
    have := hlt s hs q h2; omega
  ·rcases List.mem_cons.1 hs with rfl | hs
   ·have e1 : w.heap.size = q := Option.some.inj h2
    have := hlt r hr q h1; omega
   ·exact h.dj r hr s hs hk q h1 h2
theorem RowSet.push (h : RowSet w base l) (r : RowK) (hr : r ∈ l) {v' : Value} {n' : Nat} {xs' : List Value} (ho : w'.ownsRow base r.e r.sz v' n' xs') (hc : Chg (fun q => r.v.ownBlock = some q) w w') (hN : NewOr w r.v v') (hl : ∀ s ∈ l', s ∈ l ∧ s.k ≠ r.k) : RowSet w' base (⟨r.k, r.e, r.sz, v', n', xs'⟩ :: l') := by
 have hnb : ∀ s ∈ l', ∀ q, v'.ownBlock = some q → s.v.ownBlock = some q → False := fun s hs q h1 h2 => by
  rcases hN with e1 | ⟨g, e1, e2⟩
  ·exact h.dj r hr s (hl s hs).1 (fun e => (hl s hs).2 e.symm) q (e1 ▸ h1) h2
  ·rw [e1] at h1
   have := Option.some.inj h1
   have := ((h.own s (hl s hs).1).lt q h2).2
   omega
 refine ⟨fun s hs => ?_, fun a ha b hb hk q h1 h2 => ?_⟩
 ·rcases List.mem_cons.1 hs with rfl | hs
  ·exact ho
  ·exact Ow (h.own s (hl s hs).1) hc (fun q h1 h2 => h.dj r hr s (hl s hs).1 (fun e => (hl s hs).2 e.symm) q h2 h1)
 ·rcases List.mem_cons.1 ha with rfl | ha
  ·rcases List.mem_cons.1 hb with rfl | hb
   ·exact hk rfl
   ·exact hnb b hb q h1 h2
  ·rcases List.mem_cons.1 hb with rfl | hb
   ·exact hnb a ha q h2 h1
   ·exact h.dj a (hl a ha).1 b (hl b hb).1 hk q h1 h2
theorem RowSet.set (h : RowSet w base l) (r : RowK) (hr : r ∈ l) {b n c : Nat} (hv : r.v = .slice (some ⟨b, 0, none⟩) n c) (hn : r.n = n) (j : Nat) (u : Value) (hl : ∀ s ∈ l', s ∈ l ∧ s.k ≠ r.k) : RowSet (w.setCell ⟨b, j, none⟩ u) base (⟨r.k, r.e, r.sz, r.v, r.n, r.xs.set j u⟩ :: l') := by
 have ho := h.own r hr
 obtain ⟨k, e, sz, v, n', xs⟩ := r
 simp only at hv hn ho hl ⊢
 subst hv hn
 have hs := (ho.stored j u).1
 refine ⟨fun s hs2 => ?_, fun a ha b2 hb hk q h1 h2 => ?_⟩
 ·rcases List.mem_cons.1 hs2 with rfl | hs2
  ·exact hs
  ·exact Oe (h.own s (hl s hs2).1) b j (fun h1 => h.dj _ hr s (hl s hs2).1 (fun e => (hl s hs2).2 e.symm) b rfl h1) u
 ·have key : ∀ s ∈ l', ∀ q, (Value.slice (some ⟨b, 0, none⟩) n' c).ownBlock = some q → s.v.ownBlock = some q → False := fun s hs q h1 h2 => h.dj _ hr s (hl s hs).1 (fun e => (hl s hs).2 e.symm) q h1 h2
  rcases List.mem_cons.1 ha with rfl | ha
  ·rcases List.mem_cons.1 hb with rfl | hb
   ·exact hk rfl
   ·exact key b2 hb q h1 h2
  ·rcases List.mem_cons.1 hb with rfl | hb
   ·exact key a ha q h2 h1
   ·exact h.dj a (hl a ha).1 b2 (hl b2 hb).1 hk q h1 h2
end
theorem sub_nil {l : List RowK} : ∀ r ∈ ([] : List RowK), r ∈ l := fun _ h => (by cases h)
theorem Sb {a : RowK} {l l' : List RowK} (h : a ∈ l) (hs : ∀ r ∈ l', r ∈ l) : ∀ r ∈ a :: l', r ∈ l := fun r hr => by
 rcases List.mem_cons.1 hr with rfl | hr
 ·exact h
 ·exact hs r hr
theorem oth_nil {l : List RowK} {k : Nat} : ∀ s ∈ ([] : List RowK), s ∈ l ∧ s.k ≠ k := fun _ h => (by cases h)
theorem oth_cons {a : RowK} {l l' : List RowK} {k : Nat} (h : a ∈ l) (hk : a.k ≠ k) (hs : ∀ s ∈ l', s ∈ l ∧ s.k ≠ k) : ∀ s ∈ a :: l', s ∈ l ∧ s.k ≠ k := fun r hr => by
 rcases List.mem_cons.1 hr with rfl | hr
 ·exact ⟨h, hk⟩
 ·exact hs r hr
/-- what is behind a region gets a name -/
theorem name_H {P : Program} {md : Region.Mode} {ops : Array Oper} {Q : Exit → Act → World → Prop} {S : World → Prop} {fuel : Nat} {listed : Array Bool} {a : Act} {w : World}
  (h : ∀ (T : Nat → Array Bool → Act → World → Prop), Hid (T = wpAnyH P md ops Q S) → ∀ A0, Hid (A0 = a) → T fuel listed A0 w) : wpAnyH P md ops Q S fuel listed a w := h _ (Lib.hid rfl) _ (Lib.hid rfl)
theorem tot_chg {W w w' : World} {S : Nat → Prop} (ht : Below W.heap.size W w) (hc : Chg S w w') (hs : ∀ q, S q → W.heap.size ≤ q) : Below W.heap.size W w' := ht.trans (hc.below W.heap.size ht.size (fun q hq h => by have := hs q h; omega))
theorem Bk.of_own {w : World} {base : Nat} {e : TypeId} {sz b n c : Nat} {xs : List Value} (h : w.ownsRow base e sz (.slice (some ⟨b, 0, none⟩) n c) n xs) : Bk w b xs := fun j hj => by
 refine ⟨?_, h.frozenAt j⟩
 rw [h.cellAt j (by rw [← h.1]; exact hj), List.getElem?_eq_getElem hj]
theorem Mh {α : Type} {a : α} {l : List α} : a ∈ a :: l := List.Mem.head _
theorem Mt {α : Type} {a b : α} {l : List α} (h : a ∈ l) : a ∈ b :: l := List.Mem.tail _ h
/-- the rows of a code's copy: its three rows, empty rows, the box -/
abbrev Rv (c : Cd) (p : Option Addr) (t : Nat) : RowK := ⟨0, 3, 1, .slice p c.vars.length t, c.vars.length, ints c.vars⟩
abbrev Ry (c : Cd) (p : Option Addr) (t : Nat) : RowK := ⟨4, 3, 1, .slice p c.arrays.length t, c.arrays.length, ints c.arrays⟩
abbrev Rl (c : Cd) (p : Option Addr) (t : Nat) : RowK := ⟨8, 32, 5, .slice p c.list.length t, c.list.length, inss c.list⟩
abbrev Re (k b : Nat) : RowK := ⟨k, 3, 1, .slice (some ⟨b, 0, none⟩) 0 0, 0, []⟩
abbrev Rn (k b : Nat) : RowK := ⟨k, 32, 5, .slice (some ⟨b, 0, none⟩) 0 0, 0, []⟩
abbrev Rb (b : Nat) (l : List Value) : RowK := ⟨13, 26, 3, .slice (some ⟨b, 0, none⟩) 1 1, 1, l⟩
end Go.Proofs.Ytkjedgnepnbkpaa
