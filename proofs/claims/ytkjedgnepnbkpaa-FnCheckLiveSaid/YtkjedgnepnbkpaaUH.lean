/-
 Parts of the proofs of the laws FnCheckLive, FnFinalRegs, FnLiveRegister, FnLiveRegs.
-/
import Derived.Test.YtkjedgnepnbkpaaZM
set_option linter.all false
namespace Go.Proofs.Ytkjedgnepnbkpaa
open Go.RowKit

/-- n rows of fourteen Booleans of the call's own -/
structure LvD (w : World) (base : Nat) (v : Value) (us : List Value) (n : Nat) : Prop where
 h : ∃ L : List (List Bool), L.length = n ∧ (∀ r ∈ L, r.length = 14) ∧ Own2B w base v us L
section
variable {w w' : World} {base n : Nat} {v : Value} {us : List Value}
theorem LvD.lt (h : LvD w base v us n) : ∀ q, OwnB2 v us q → base ≤ q ∧ q < w.heap.size := by
 obtain ⟨L, _, _, h3⟩ := h.h; exact h3.lt
theorem LvD.keep (h : LvD w base v us n) {S : Nat → Prop} (hc : Chg S w w') (hs : ∀ q, OwnB2 v us q → ¬ S q) : LvD w' base v us n := by
 obtain ⟨L, h1, h2, h3⟩ := h.h; exact ⟨L, h1, h2, h3.keep hc hs⟩
theorem LvD.below (h : LvD w base v us n) (hb : Below w.heap.size w w') : LvD w' base v us n := by
 obtain ⟨L, h1, h2, h3⟩ := h.h; exact ⟨L, h1, h2, h3.below hb⟩
theorem LvD.bit {k g l c : Nat} (h : LvD w base v us n) (hu : us[k]? = some (.slice (some ⟨g, 0, none⟩) l c)) (j : Nat) (x : Bool) : LvD (w.setCell ⟨g, j, none⟩ (.bool x)) base v us n := by
 obtain ⟨L, h1, h2, h3⟩ := h.h
 have hk : k < us.length := (List.getElem?_eq_some_iff.1 hu).1
 have hk2 : k < L.length := by rw [← h3.len]; exact hk
 have ho := h3.row k _ _ hu (List.getElem?_eq_getElem hk2)
 have e : l = L[k].length := by obtain ⟨a', c', hs⟩ := Oh ho; simp only [Value.slice.injEq] at hs; exact hs.2.1
 subst e
 have hs := (ho.stored j (.bool x)).1
 rw [bools_set] at hs
 have hl : (L[k].set j x).length = L[k].length := List.length_set
 refine ⟨L.set k (L[k].set j x), by rw [List.length_set]; exact h1, fun r hr => ?_, h3.turn (w' := w.setCell ⟨g, j, none⟩ (.bool x)) hu (own_cast hs hl.symm) ((Chg.refl _ w).setCell g j _ (fun _ => rfl)) (by decide)⟩
 rcases List.mem_or_eq_of_mem_set hr with h4 | rfl
 ·exact h2 r h4
 ·rw [hl]; exact h2 _ (List.getElem_mem hk2)
/-- row k: its slice, its cells -/
theorem LvD.row {g c : Nat} (h : LvD w base (.slice (some ⟨g, 0, none⟩) n c) us n) (k : Nat) (hk : k < n) : ∃ gk t, us[k]? = some (.slice (some ⟨gk, 0, none⟩) 14 t) ∧ 14 ≤ t ∧ w.cell? ⟨g, k, none⟩ = some (.slice (some ⟨gk, 0, none⟩) 14 t) ∧ w.frozen? ⟨g, k, none⟩ = false ∧ (base ≤ gk ∧ gk < w.heap.size) ∧ ¬ gk = g ∧ ∀ j, j < 14 → (∃ x : Bool, w.cell? ⟨gk, j, none⟩ = some (.bool x)) ∧ w.frozen? ⟨gk, j, none⟩ = false := by
 obtain ⟨L, rfl, h2, h3⟩ := h.h
 obtain ⟨u, hu, ho⟩ := h3.rowAt k hk
 have hl := h2 L[k] (List.getElem_mem hk)
 obtain ⟨gk, t, rfl⟩ : ∃ gk t, u = .slice (some ⟨gk, 0, none⟩) L[k].length t := by
  obtain ⟨b, c2, hb⟩ := own_pos ho (by omega); exact ⟨b, c2, hb⟩
 have hcap : L[k].length ≤ t := by
  obtain ⟨_, _, a, cap, b, off, hv, hcap, _⟩ := Ro ho (by omega)
  simp only [Value.slice.injEq] at hv
  obtain ⟨_, _, rfl⟩ := hv
  exact hcap.1
 have hne : ¬ gk = g := fun e => h3.outer (by decide) k _ hu g rfl (by rw [e]; rfl)
 have hlt := ho.lt gk rfl
 have hcell : w.cell? ⟨g, k, none⟩ = some (.slice (some ⟨gk, 0, none⟩) L[k].length t) := by rw [h3.outAt.cellAt k (by omega)]; exact hu
 have hbits : ∀ j, j < L[k].length → (∃ x : Bool, w.cell? ⟨gk, j, none⟩ = some (.bool x)) ∧ w.frozen? ⟨gk, j, none⟩ = false := fun j hj => ⟨⟨L[k][j], by rw [ho.cellAt j (by omega), bools_at _ _ hj]⟩, ho.frozenAt j⟩
 have hfr := h3.outAt.frozenAt k
 rw [hl] at hu hcap hcell hbits
 exact ⟨gk, t, hu, hcap, hcell, hfr, hlt, hne, hbits⟩
theorem LvD.shape (h : LvD w base v us n) : ∃ a c, v = .slice a n c := by
 obtain ⟨L, rfl, _, h3⟩ := h.h; exact h3.shape
theorem LvD.pos (h : LvD w base v us n) (hn : 0 < n) : ∃ g c, v = .slice (some ⟨g, 0, none⟩) n c ∧ base ≤ g ∧ g < w.heap.size := by
 obtain ⟨L, rfl, _, h3⟩ := h.h
 obtain ⟨g, c, rfl⟩ := own_pos h3.out hn
 exact ⟨g, c, rfl, h3.out.lt g rfl⟩
theorem LvD.bitAt {k g l c : Nat} (h : LvD w base v us n) (hu : us[k]? = some (.slice (some ⟨g, 0, none⟩) l c)) (j : Nat) (hj : j < 14) : (∃ x : Bool, w.cell? ⟨g, j, none⟩ = some (.bool x)) ∧ w.frozen? ⟨g, j, none⟩ = false := by
 obtain ⟨L, h1, h2, h3⟩ := h.h
 have hk : k < us.length := (List.getElem?_eq_some_iff.1 hu).1
 have hk2 : k < L.length := by rw [← h3.len]; exact hk
 have ho := h3.row k _ _ hu (List.getElem?_eq_getElem hk2)
 have e : l = L[k].length := by obtain ⟨a', c', hs⟩ := Oh ho; simp only [Value.slice.injEq] at hs; exact hs.2.1
 subst e
 have hl := h2 L[k] (List.getElem_mem hk2)
 exact ⟨⟨L[k][j]'(by omega), by rw [ho.cellAt j (by omega), bools_at _ _ (by omega)]⟩, ho.frozenAt j⟩
/-- a map that is read; its blocks lie at or above base -/
structure LvX (w : World) (base : Nat) (v : Value) (n : Nat) : Prop where
 h : ∃ (L : List (List Bool)) (us : List Value), Reads w 1 v n us ∧ Abv base v ∧ (∀ (k : Nat) (u : Value) (r : List Bool), us[k]? = some u → L[k]? = some r → Reads w 1 u r.length (bools r)) ∧ (∀ u ∈ us, Abv base u) ∧ L.length = n ∧ ∀ r ∈ L, r.length ≤ 14
theorem LvX.keep (h : LvX w base v n) {S : Nat → Prop} (hc : Chg S w w') (hs : ∀ q, base ≤ q → ¬ S q) : LvX w' base v n := by
 obtain ⟨L, us, h1, h2, h3, h4, h5, h6⟩ := h.h
 exact ⟨L, us, h1.keep hc (fun b o c _ hv => hs b (h2 _ _ _ _ hv)), h2, fun k u r hu hr => (h3 k u r hu hr).keep hc (fun b o c _ hv => hs b (h4 u (List.mem_of_getElem? hu) _ _ _ _ hv)), h4, h5, h6⟩
theorem LvX.below (h : LvX w base v n) (hb : Below w.heap.size w w') : LvX w' base v n := by
 obtain ⟨L, us, h1, h2, h3, h4, h5, h6⟩ := h.h
 exact ⟨L, us, h1.below hb, h2, fun k u r hu hr => (h3 k u r hu hr).below hb, h4, h5, h6⟩
theorem LvX.reads (h : LvX w base v n) : ∃ L : List (List Bool), Reads2 bools w v L ∧ L.length = n ∧ ∀ r ∈ L, r.length ≤ 14 := by
 obtain ⟨L, us, h1, h2, h3, h4, rfl, h6⟩ := h.h
 exact ⟨L, ⟨us, h1, h3⟩, rfl, h6⟩
theorem LvD.x (h : LvD w base v us n) (hn : n ≤ 1000) : LvX w base v n := by
 obtain ⟨L, rfl, h2, h3⟩ := h.h
 refine ⟨L, us, Ro h3.out (by omega), Abv.own h3.out, fun k u r hu hr => Ro (h3.row k u r hu hr) (by have := h2 r (List.mem_of_getElem? hr); omega), fun u hu => ?_, rfl, fun r hr => by have := h2 r hr; omega⟩
 obtain ⟨k, hk, rfl⟩ := List.getElem_of_mem hu
 have hk2 : k < L.length := by rw [← h3.len]; exact hk
 exact Abv.own (h3.row k _ _ (List.getElem?_eq_getElem hk) (List.getElem?_eq_getElem hk2))
/-- a row is cut short -/
theorem LvD.cut {g c k t e : Nat} {p : Option Addr} (h : LvD w base (.slice (some ⟨g, 0, none⟩) n c) us n) (hn : n ≤ 1000) (hu0 : us[k]? = some (.slice p 14 t)) (he : e ≤ 14) :
  LvX (w.setCell ⟨g, k, none⟩ (.slice p e t)) base (.slice (some ⟨g, 0, none⟩) n c) n := by
 have hx := h.x hn
 obtain ⟨L, rfl, h2, h3⟩ := h.h
 have hk : k < us.length := (List.getElem?_eq_some_iff.1 hu0).1
 have hk2 : k < L.length := by rw [← h3.len]; exact hk
 have hC : Chg (fun q => q = g) w (w.setCell ⟨g, k, none⟩ (.slice p e t)) := (Chg.refl _ _).setCell g k _ (fun _ => rfl)
 have hrow : ∀ (j : Nat) (u : Value) (r : List Bool), us[j]? = some u → L[j]? = some r → Reads (w.setCell ⟨g, k, none⟩ (.slice p e t)) 1 u r.length (bools r) := fun j u r hu hr => by
  have ho := Ow (h3.row j u r hu hr) hC (fun q hq e2 => h3.outer (by decide) j u hu q (by subst e2; rfl) hq)
  exact Ro ho (by have := h2 r (List.mem_of_getElem? hr); omega)
 have habv : ∀ (j : Nat) (u : Value), us[j]? = some u → Abv base u := fun j u hu => by
  have hj2 : j < L.length := by rw [← h3.len]; exact (List.getElem?_eq_some_iff.1 hu).1
  exact Abv.own (h3.row j u _ hu (List.getElem?_eq_getElem hj2))
 have hout := (h3.out.stored k (.slice p e t)).1
 have hlen : (L.set k ((L[k]).take e)).length = L.length := List.length_set
 have hL := h2 L[k] (List.getElem_mem hk2)
 refine ⟨L.set k ((L[k]).take e), us.set k (.slice p e t), Ro hout (by omega), Abv.own h3.out, fun j u r hu hr => ?_, fun u hu => ?_, hlen, fun r hr => ?_⟩
 ·by_cases e0 : j = k
  ·subst e0
   rw [List.getElem?_set_self hk] at hu
   rw [List.getElem?_set_self hk2] at hr
   obtain rfl := Option.some.inj hu
   obtain rfl := Option.some.inj hr
   have h5 := hrow j _ _ hu0 (List.getElem?_eq_getElem hk2)
   rw [hL] at h5
   have h6 := reads_take h5 e he
   rw [show (bools L[j]).take e = bools ((L[j]).take e) from by simp [bools]] at h6
   rw [show ((L[j]).take e).length = e from by rw [List.length_take]; omega]
   exact h6
  ·rw [List.getElem?_set_ne (fun h => e0 h.symm)] at hu hr
   exact hrow j u r hu hr
 ·rcases List.mem_or_eq_of_mem_set hu with h1 | rfl
  ·obtain ⟨j, hj, rfl⟩ := List.getElem_of_mem h1
   exact habv j _ (List.getElem?_eq_getElem hj)
  ·intro b o m c2 hv
   simp only [Value.slice.injEq] at hv
   exact habv k _ hu0 b o 14 t (by rw [hv.1])
 ·rcases List.mem_or_eq_of_mem_set hr with h1 | rfl
  ·have := h2 r h1; omega
  ·rw [List.length_take]; omega
end
end Go.Proofs.Ytkjedgnepnbkpaa
namespace Go.Proofs.Ytkjedgnepnbkpaa
open Go.RowKit

structure RowK where
 k : Nat
 e : TypeId
 sz : Nat
 v : Value
 n : Nat
 xs : List Value
/-- rows of the call's own; those with different keys lie in different blocks -/
structure RowSet (w : World) (base : Nat) (l : List RowK) : Prop where
 own : ∀ r ∈ l, w.ownsRow base r.e r.sz r.v r.n r.xs
 dj : ∀ r ∈ l, ∀ s ∈ l, r.k ≠ s.k → ∀ q, r.v.ownBlock = some q → s.v.ownBlock = some q → False
section
variable {w w' : World} {base : Nat} {l l' : List RowK}
theorem RowSet.nil : RowSet w base [] := ⟨fun _ h => (by cases h), fun _ h => (by cases h)⟩
theorem RowSet.sub (h : RowSet w base l) (hs : ∀ r ∈ l', r ∈ l) : RowSet w base l' := ⟨fun r hr => h.own r (hs r hr), fun r hr s hs2 => h.dj r (hs r hr) s (hs s hs2)⟩
theorem RowSet.below (h : RowSet w base l) (hb : Below w.heap.size w w') : RowSet w' base l := ⟨fun r hr => Ob (h.own r hr) hb, h.dj⟩
theorem RowSet.lit (h : RowSet w base l) (k : Nat) (e : TypeId) (sz : Nat) (cs : Array Value) (n : Nat) (hb : base ≤ w.heap.size) (hn : n ≤ maxLen) (hc : cs.size = n * sz) : RowSet (w.alloc (.cells cs e)) base (⟨k, e, sz, .slice (some ⟨w.heap.size, 0, none⟩) n n, n, cs.toList⟩ :: l) := by
 have hl : (w.alloc (.cells cs e)).ownsRow base e sz (.slice (some ⟨w.heap.size, 0, none⟩) n n) n cs.toList := Om (World.ownsRow_lit (base := w.heap.size) (e := e) (size := sz) w cs n (Nat.le_refl _) hn hc) hb
 have hlt : ∀ r ∈ l, ∀ q, r.v.ownBlock = some q → q < w.heap.size := fun r hr q hq => ((h.own r hr).lt q hq).2
 refine ⟨fun r hr => ?_, fun r hr s hs hk q h1 h2 => ?_⟩
 ·rcases List.mem_cons.1 hr with rfl | hr
  ·exact hl
  ·exact Ob (h.own r hr) (bal (Bs w) _)
 ·rcases List.mem_cons.1 hr with rfl | hr
  ·rcases List.mem_cons.1 hs with rfl | hs
   ·exact hk rfl
   ·have e1 : w.heap.size = q := Option.some.inj h1
    have := hlt s hs q h2; omega
  ·rcases List.mem_cons.1 hs with rfl | hs
   ·have e1 : w.heap.size = q := Option.some.inj h2
    have := hlt r hr q h1; omega
   ·exact h.dj r hr s hs hk q h1 h2
theorem RowSet.push (h : RowSet w base l) (r : RowK) (hr : r ∈ l) {v' : Value} {n' : Nat} {xs' : List Value} (ho : w'.ownsRow base r.e r.sz v' n' xs') (hc : Chg (fun q => r.v.ownBlock = some q) w w') (hN : NewOr w r.v v') (hl : ∀ s ∈ l', s ∈ l ∧ s.k ≠ r.k) : RowSet w' base (⟨r.k, r.e, r.sz, v', n', xs'⟩ :: l') := by
 have hnb : ∀ s ∈ l', ∀ q, v'.ownBlock = some q → s.v.ownBlock = some q → False := fun s hs q h1 h2 => by
  rcases hN with e1 | ⟨g, e1, e2⟩
  ·exact h.dj r hr s (hl s hs).1 (fun e => (hl s hs).2 e.symm) q (e1 ▸ h1) h2
  ·rw [e1] at h1
   have := Option.some.inj h1
   have := ((h.own s (hl s hs).1).lt q h2).2
   omega
 refine ⟨fun s hs => ?_, fun a ha b hb hk q h1 h2 => ?_⟩
 ·rcases List.mem_cons.1 hs with rfl | hs
  ·exact ho
  ·exact Ow (h.own s (hl s hs).1) hc (fun q h1 h2 => h.dj r hr s (hl s hs).1 (fun e => (hl s hs).2 e.symm) q h2 h1)
 ·rcases List.mem_cons.1 ha with rfl | ha
  ·rcases List.mem_cons.1 hb with rfl | hb
   ·exact hk rfl
   ·exact hnb b hb q h1 h2
  ·rcases List.mem_cons.1 hb with rfl | hb
   ·exact hnb a ha q h2 h1
   ·exact h.dj a (hl a ha).1 b (hl b hb).1 hk q h1 h2
theorem RowSet.set (h : RowSet w base l) (r : RowK) (hr : r ∈ l) {b n c : Nat} (hv : r.v = .slice (some ⟨b, 0, none⟩) n c) (hn : r.n = n) (j : Nat) (u : Value) (hl : ∀ s ∈ l', s ∈ l ∧ s.k ≠ r.k) : RowSet (w.setCell ⟨b, j, none⟩ u) base (⟨r.k, r.e, r.sz, r.v, r.n, r.xs.set j u⟩ :: l') := by
 have ho := h.own r hr
 obtain ⟨k, e, sz, v, n', xs⟩ := r
 simp only at hv hn ho hl ⊢
 subst hv hn
 have hs := (ho.stored j u).1
 refine ⟨fun s hs2 => ?_, fun a ha b2 hb hk q h1 h2 => ?_⟩
 ·rcases List.mem_cons.1 hs2 with rfl | hs2
  ·exact hs
  ·exact Oe (h.own s (hl s hs2).1) b j (fun h1 => h.dj _ hr s (hl s hs2).1 (fun e => (hl s hs2).2 e.symm) b rfl h1) u
 ·have key : ∀ s ∈ l', ∀ q, (Value.slice (some ⟨b, 0, none⟩) n' c).ownBlock = some q → s.v.ownBlock = some q → False := fun s hs q h1 h2 => h.dj _ hr s (hl s hs).1 (fun e => (hl s hs).2 e.symm) q h1 h2
  rcases List.mem_cons.1 ha with rfl | ha
  ·rcases List.mem_cons.1 hb with rfl | hb
   ·exact hk rfl
   ·exact key b2 hb q h1 h2
  ·rcases List.mem_cons.1 hb with rfl | hb
   ·exact key a ha q h2 h1
   ·exact h.dj a (hl a ha).1 b2 (hl b2 hb).1 hk q h1 h2
end
theorem sub_nil {l : List RowK} : ∀ r ∈ ([] : List RowK), r ∈ l := fun _ h => (by cases h)
theorem Sb {a : RowK} {l l' : List RowK} (h : a ∈ l) (hs : ∀ r ∈ l', r ∈ l) : ∀ r ∈ a :: l', r ∈ l := fun r hr => by
 rcases List.mem_cons.1 hr with rfl | hr
 ·exact h
 ·exact hs r hr
theorem oth_nil {l : List RowK} {k : Nat} : ∀ s ∈ ([] : List RowK), s ∈ l ∧ s.k ≠ k := fun _ h => (by cases h)
theorem oth_cons {a : RowK} {l l' : List RowK} {k : Nat} (h : a ∈ l) (hk : a.k ≠ k) (hs : ∀ s ∈ l', s ∈ l ∧ s.k ≠ k) : ∀ s ∈ a :: l', s ∈ l ∧ s.k ≠ k := fun r hr => by
 rcases List.mem_cons.1 hr with rfl | hr
 ·exact ⟨h, hk⟩
 ·exact hs r hr
/-- what is behind a region gets a name -/
theorem name_H {P : Program} {md : Region.Mode} {ops : Array Oper} {Q : Exit → Act → World → Prop} {S : World → Prop} {fuel : Nat} {listed : Array Bool} {a : Act} {w : World}
  (h : ∀ (T : Nat → Array Bool → Act → World → Prop), Hid (T = wpAnyH P md ops Q S) → ∀ A0, Hid (A0 = a) → T fuel listed A0 w) : wpAnyH P md ops Q S fuel listed a w := h _ (Lib.hid rfl) _ (Lib.hid rfl)
theorem tot_chg {W w w' : World} {S : Nat → Prop} (ht : Below W.heap.size W w) (hc : Chg S w w') (hs : ∀ q, S q → W.heap.size ≤ q) : Below W.heap.size W w' := ht.trans (hc.below W.heap.size ht.size (fun q hq h => by have := hs q h; omega))
theorem Bk.of_own {w : World} {base : Nat} {e : TypeId} {sz b n c : Nat} {xs : List Value} (h : w.ownsRow base e sz (.slice (some ⟨b, 0, none⟩) n c) n xs) : Bk w b xs := fun j hj => by
 refine ⟨?_, h.frozenAt j⟩
 rw [h.cellAt j (by rw [← h.1]; exact hj), List.getElem?_eq_getElem hj]
theorem Mh {α : Type} {a : α} {l : List α} : a ∈ a :: l := List.Mem.head _
theorem Mt {α : Type} {a b : α} {l : List α} (h : a ∈ l) : a ∈ b :: l := List.Mem.tail _ h
/-- the rows of a code's copy: its three rows, empty rows, the box -/
abbrev Rv (c : Cd) (p : Option Addr) (t : Nat) : RowK := ⟨0, 3, 1, .slice p c.vars.length t, c.vars.length, ints c.vars⟩
abbrev Ry (c : Cd) (p : Option Addr) (t : Nat) : RowK := ⟨4, 3, 1, .slice p c.arrays.length t, c.arrays.length, ints c.arrays⟩
abbrev Rl (c : Cd) (p : Option Addr) (t : Nat) : RowK := ⟨8, 32, 5, .slice p c.list.length t, c.list.length, inss c.list⟩
abbrev Re (k b : Nat) : RowK := ⟨k, 3, 1, .slice (some ⟨b, 0, none⟩) 0 0, 0, []⟩
abbrev Rn (k b : Nat) : RowK := ⟨k, 32, 5, .slice (some ⟨b, 0, none⟩) 0 0, 0, []⟩
abbrev Rb (b : Nat) (l : List Value) : RowK := ⟨13, 26, 3, .slice (some ⟨b, 0, none⟩) 1 1, 1, l⟩
end Go.Proofs.Ytkjedgnepnbkpaa
