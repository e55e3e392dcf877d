/-
 Parts of the proofs of the laws FnCheckLive, FnCodeFenced, FnEraseCode, FnEraseSecret, FnFinalRegs, FnLiveRegister, FnLiveRegs, FnSpecPath.
-/
import Derived.Deep.CutBlock
import Derived.Test.YtkjedgnepnbkpaaPY
set_option linter.all false
namespace Go.Proofs.Ytkjedgnepnbkpaa
open Go.RowKit
structure ReadsM (w : World) (vx vy : Value) (m : Mm) : Prop where
 x : Reads w 1 vx m.vals.length (ints m.vals)
 y : Reads2 ints w vy m.arrs
theorem ReadsM.below {w w' : World} {vx vy : Value} {m : Mm} (h : ReadsM w vx vy m) (hb : Below w.heap.size w w') : ReadsM w' vx vy m := ⟨h.x.below hb, h.y.below hb⟩
theorem ReadsM.shape {w : World} {vx vy : Value} {m : Mm} (h : ReadsM w vx vy m) : ∃ a0 c0 a1 c1, vx = .slice a0 m.vals.length c0 ∧ vy = .slice a1 m.arrs.length c1 := by
 obtain ⟨a0, c0, h0⟩ := reads_shape h.x
 obtain ⟨a1, c1, h1⟩ := h.y.shape
 exact ⟨a0, c0, a1, c1, h0, h1⟩
structure OwnM (w : World) (base : Nat) (vx vy : Value) (us : List Value) (m : Mm) : Prop where
 x : w.ownsRow base 3 1 vx m.vals.length (ints m.vals)
 y : Own2I w base vy us m.arrs
 ap : ∀ q, vx.ownBlock = some q → ¬ OwnB2 vy us q
def OwnBM (vx vy : Value) (us : List Value) (q : Nat) : Prop := vx.ownBlock = some q ∨ OwnB2 vy us q
section
variable {w w' : World} {base base' : Nat} {vx vy : Value} {us : List Value} {m : Mm}
theorem OwnM.lt (h : OwnM w base vx vy us m) : ∀ q, OwnBM vx vy us q → base ≤ q ∧ q < w.heap.size := by
 rintro q (hq | hq)
 ·exact h.x.lt q hq
 exact h.y.lt q hq
theorem OwnM.keep (h : OwnM w base vx vy us m) {S : Nat → Prop} (hc : Chg S w w') (hs : ∀ q, OwnBM vx vy us q → ¬ S q) : OwnM w' base vx vy us m :=
 ⟨Ow h.x hc (fun q hq => hs q (Or.inl hq)), h.y.keep hc (fun q hq => hs q (Or.inr hq)), h.ap⟩
theorem OwnM.below (h : OwnM w base vx vy us m) (hb : Below w.heap.size w w') : OwnM w' base vx vy us m := h.keep (S := fun _ => False) (Chg.of_below hb) (fun _ _ => id)
theorem OwnM.mono (h : OwnM w base vx vy us m) (hb : base' ≤ base) : OwnM w base' vx vy us m := ⟨Om h.x hb, h.y.mono hb, h.ap⟩
theorem OwnM.reads (h : OwnM w base vx vy us m) (h0 : m.vals.length ≤ 1048576) (h1 : m.arrs.length ≤ 1048576) (h2 : pre2 m.arrs m.arrs.length ≤ 1048576) : ReadsM w vx vy m :=
 ⟨Ro h.x (by omega), h.y.reads (by omega) (fun k r hr => by
  obtain ⟨hk, rfl⟩ := List.getElem?_eq_some_iff.1 hr
  have := pre2_all m.arrs k hk m.arrs.length hk
  omega)⟩
theorem OwnM.shape (h : OwnM w base vx vy us m) : ∃ a0 c0 a1 c1, vx = .slice a0 m.vals.length c0 ∧ vy = .slice a1 m.arrs.length c1 := by
 obtain ⟨a0, c0, h0⟩ := Oh h.x
 obtain ⟨a1, c1, h1⟩ := h.y.shape
 exact ⟨a0, c0, a1, c1, h0, h1⟩
end
end Go.Proofs.Ytkjedgnepnbkpaa
namespace Go.Proofs.Ytkjedgnepnbkpaa
open Go.RowKit
def Abv (base : Nat) (v : Value) : Prop := ∀ b o n c, v = .slice (some ⟨b, o, none⟩) n c → base ≤ b
theorem Abv.mono {base base' : Nat} {v : Value} (h : Abv base v) (hb : base' ≤ base) : Abv base' v := fun b o n c e => Nat.le_trans hb (h b o n c e)
theorem Abv.nil (base : Nat) : Abv base (.slice none 0 0) := fun b o n c e => by simp at e
theorem Abv.own {w : World} {base : Nat} {e : TypeId} {sz n : Nat} {v : Value} {xs : List Value} (h : w.ownsRow base e sz v n xs) : Abv base v := fun b o m c hv => by
 subst hv
 exact (h.lt b rfl).1
structure DrM (w : World) (base : Nat) (vx vy : Value) (m : Mm) : Prop where
 x : Reads w 1 vx m.vals.length (ints m.vals)
 xb : Abv base vx
 y : ∃ vs : List Value, Reads w 1 vy m.arrs.length vs ∧ (∀ (k : Nat) (u : Value) (r : List Int), vs[k]? = some u → m.arrs[k]? = some r → Reads w 1 u r.length (ints r)) ∧ ∀ u ∈ vs, Abv base u
 yb : Abv base vy
 l0 : m.vals.length ≤ 1010
 l1 : m.arrs.length ≤ 1010
 l2 : ∀ r ∈ m.arrs, 3 ≤ r.length ∧ r.length ≤ 4
section
variable {w w' : World} {base base' : Nat} {vx vy : Value} {m : Mm}
theorem DrM.keep (h : DrM w base vx vy m) {S : Nat → Prop} (hc : Chg S w w') (hs : ∀ q, base ≤ q → ¬ S q) : DrM w' base vx vy m := by
 obtain ⟨vs, h1, h2, h3⟩ := h.y
 have hl : vs.length = m.arrs.length := by have := h1.1; omega
 refine ⟨h.x.keep hc (fun b o c _ hv => hs b (h.xb _ _ _ _ hv)), h.xb, ⟨vs, h1.keep hc (fun b o c _ hv => hs b (h.yb _ _ _ _ hv)), fun k u r hu hr => (h2 k u r hu hr).keep hc (fun b o c _ hv => hs b (h3 u (List.mem_of_getElem? hu) _ _ _ _ hv)), h3⟩, h.yb, h.l0, h.l1, h.l2⟩
theorem DrM.below (h : DrM w base vx vy m) (hb : Below w.heap.size w w') : DrM w' base vx vy m := by
 obtain ⟨vs, h1, h2, h3⟩ := h.y
 exact ⟨h.x.below hb, h.xb, ⟨vs, h1.below hb, fun k u r hu hr => (h2 k u r hu hr).below hb, h3⟩, h.yb, h.l0, h.l1, h.l2⟩
theorem DrM.mono (h : DrM w base vx vy m) (hb : base' ≤ base) : DrM w base' vx vy m := by
 obtain ⟨vs, h1, h2, h3⟩ := h.y
 exact ⟨h.x, h.xb.mono hb, ⟨vs, h1, h2, fun u hu => (h3 u hu).mono hb⟩, h.yb.mono hb, h.l0, h.l1, h.l2⟩
theorem DrM.reads (h : DrM w base vx vy m) : ReadsM w vx vy m := by
 obtain ⟨vs, h1, h2, _⟩ := h.y
 exact ⟨h.x, ⟨vs, h1, h2⟩⟩
theorem DrM.pre (h : DrM w base vx vy m) : pre2 m.arrs m.arrs.length ≤ 4 * m.arrs.length := pre2_le m.arrs 4 (fun k r hr => (h.l2 r (List.mem_of_getElem? hr)).2) _ (Nat.le_refl _)
theorem DrM.of {us : List Value} (h : OwnM w base vx vy us m) (l0 : m.vals.length ≤ 1010) (l1 : m.arrs.length ≤ 1010) (l2 : ∀ r ∈ m.arrs, 3 ≤ r.length ∧ r.length ≤ 4) : DrM w base vx vy m := by
 refine ⟨Ro h.x (by omega), Abv.own h.x, ⟨us, Ro h.y.out (by omega), fun k u r hu hr => Ro (h.y.row k u r hu hr) (by have := l2 r (List.mem_of_getElem? hr); omega), fun u hu => ?_⟩, Abv.own h.y.out, l0, l1, l2⟩
 obtain ⟨k, hk, rfl⟩ := List.getElem_of_mem hu
 have a0 : k < m.arrs.length := by rw [← h.y.len]; exact hk
 exact Abv.own (h.y.row k _ _ (List.getElem?_eq_getElem hk) (List.getElem?_eq_getElem a0))
theorem DrM.nil (w : World) (base : Nat) : DrM w base (.slice none 0 0) (.slice none 0 0) ⟨[], []⟩ :=
 ⟨Ro (World.ownsRow_nil w 0 0 1) (by simp), Abv.nil base, ⟨[], Ro (World.ownsRow_nil w 0 0 1) (by simp), fun k u r hu => by simp at hu, fun u hu => by cases hu⟩, Abv.nil base, by simp, by simp, fun r hr => by cases hr⟩
end
theorem reads_take {w : World} {a : Option Addr} {n c : Nat} {xs : List Value} (h : Reads w 1 (.slice a n c) n xs) (k : Nat) (hk : k ≤ n) : Reads w 1 (.slice a k c) k (xs.take k) := by
 obtain ⟨h1, h2, a', d0, b, c0, hv, b0, ha, a0⟩ := h
 simp only [Value.slice.injEq] at hv
 obtain ⟨rfl, _, rfl⟩ := hv
 refine ⟨by rw [List.length_take]; omega, by omega, a, c, b, c0, rfl, ⟨by omega, b0.2⟩, fun h0 => ha (by omega), fun j hj => ?_⟩
 rw [List.length_take] at hj
 rw [List.getElem_take]
 exact a0 j (by omega)
theorem own_cast {w : World} {base : Nat} {e : TypeId} {sz n m : Nat} {v : Value} {xs : List Value} (h : w.ownsRow base e sz v n xs) (e1 : n = m) : w.ownsRow base e sz v m xs := e1 ▸ h
structure OwnI (w : World) (base b n c : Nat) : Prop where
 h : ∃ xs : List Int, xs.length = n ∧ w.ownsRow base 3 1 (.slice (some ⟨b, 0, none⟩) n c) n (ints xs)
section
variable {w w' : World} {base b n c : Nat}
theorem OwnI.keep (h : OwnI w base b n c) {S : Nat → Prop} (hc : Chg S w w') (hs : ¬ S b) : OwnI w' base b n c := by
 obtain ⟨xs, h1, h2⟩ := h.h
 exact ⟨xs, h1, Ow h2 hc (fun q hq => by have e : b = q := Option.some.inj hq; exact e ▸ hs)⟩
theorem OwnI.below (h : OwnI w base b n c) (hb : Below w.heap.size w w') : OwnI w' base b n c := h.keep (S := fun _ => False) (Chg.of_below hb) id
theorem OwnI.put (h : OwnI w base b n c) (k : Nat) (v : Int) : OwnI (w.setCell ⟨b, k, none⟩ (.int .i64 v)) base b n c := by
 obtain ⟨xs, h1, h2⟩ := h.h
 have h3 := (h2.stored k (.int .i64 v)).1
 rw [ints_set] at h3
 exact ⟨xs.set k v, by rw [List.length_set]; exact h1, h3⟩
theorem OwnI.at (h : OwnI w base b n c) (k : Nat) (hk : k < n) : (∃ x : Int, w.cell? ⟨b, k, none⟩ = some (.int .i64 x)) ∧ w.frozen? ⟨b, k, none⟩ = false := by
 obtain ⟨xs, rfl, h2⟩ := h.h
 exact ⟨⟨xs[k], by rw [h2.cellAt k (by omega), ints_at xs k hk]⟩, h2.frozenAt k⟩
theorem OwnI.lt (h : OwnI w base b n c) : base ≤ b ∧ b < w.heap.size := by
 obtain ⟨xs, _, h2⟩ := h.h; exact h2.lt b rfl
end
structure OwnY (w : World) (base : Nat) (v : Value) (us : List Value) (n : Nat) : Prop where
 h : ∃ L : List (List Int), L.length = n ∧ (∀ r ∈ L, 3 ≤ r.length ∧ r.length ≤ 4) ∧ Own2I w base v us L
section
variable {w w' : World} {base base' n : Nat} {v : Value} {us : List Value}
theorem OwnY.lt (h : OwnY w base v us n) : ∀ q, OwnB2 v us q → base ≤ q ∧ q < w.heap.size := by
 obtain ⟨L, _, _, h3⟩ := h.h; exact h3.lt
theorem OwnY.keep (h : OwnY w base v us n) {S : Nat → Prop} (hc : Chg S w w') (hs : ∀ q, OwnB2 v us q → ¬ S q) : OwnY w' base v us n := by
 obtain ⟨L, h1, h2, h3⟩ := h.h; exact ⟨L, h1, h2, h3.keep hc hs⟩
theorem OwnY.below (h : OwnY w base v us n) (hb : Below w.heap.size w w') : OwnY w' base v us n := by
 obtain ⟨L, h1, h2, h3⟩ := h.h; exact ⟨L, h1, h2, h3.below hb⟩
theorem DrM.parts {vx : Value} {xs : List Int} {k : Nat} (hx : w.ownsRow base 3 1 vx k (ints xs)) (hk : xs.length = k) (hY : OwnY w base v us n) (l0 : k ≤ 1010) (l1 : n ≤ 1010) : ∃ m : Mm, DrM w base vx v m ∧ m.vals.length = k ∧ m.arrs.length = n := by
 subst hk
 obtain ⟨L, rfl, h2, h3⟩ := hY.h
 refine ⟨⟨xs, L⟩, ⟨Ro hx (by simp only; omega), Abv.own hx, ⟨us, Ro h3.out (by simp only; omega), fun k u r hu hr => Ro (h3.row k u r hu hr) (by have := h2 r (List.mem_of_getElem? hr); omega), fun u hu => ?_⟩, Abv.own h3.out, l0, l1, h2⟩, rfl, rfl⟩
 obtain ⟨k, hk, rfl⟩ := List.getElem_of_mem hu
 have a0 : k < L.length := by rw [← h3.len]; exact hk
 exact Abv.own (h3.row k _ _ (List.getElem?_eq_getElem hk) (List.getElem?_eq_getElem a0))
theorem DrM.partsI {b k c : Nat} (hx : OwnI w base b k c) (hY : OwnY w base v us n) (l0 : k ≤ 1010) (l1 : n ≤ 1010) : ∃ m : Mm, DrM w base (.slice (some ⟨b, 0, none⟩) k c) v m ∧ m.vals.length = k ∧ m.arrs.length = n := by
 obtain ⟨xs, h1, h2⟩ := hx.h; exact DrM.parts h2 h1 hY l0 l1
theorem OwnY.first {g c : Nat} (h : OwnY w base (.slice (some ⟨g, 0, none⟩) n c) us n) (hn : 0 < n) : ∃ p k t, us[0]? = some (.slice p k t) ∧ 3 ≤ k ∧ k ≤ 4 ∧ k ≤ t ∧ w.cell? ⟨g, 0, none⟩ = some (.slice p k t) ∧ w.frozen? ⟨g, 0, none⟩ = false := by
 obtain ⟨L, rfl, h2, h3⟩ := h.h
 obtain ⟨u, hu, ho⟩ := h3.rowAt 0 hn
 have hl := h2 L[0] (List.getElem_mem hn)
 obtain ⟨p, t, rfl⟩ := Oh ho
 have hr := Ro ho (by omega)
 obtain ⟨_, _, a, b0, b, c0, hv, a0, _⟩ := hr
 simp only [Value.slice.injEq] at hv
 obtain ⟨rfl, _, rfl⟩ := hv
 refine ⟨p, _, t, hu, hl.1, hl.2, a0.1, ?_, h3.outAt.frozenAt 0⟩
 rw [h3.outAt.cellAt 0 (by omega)]; exact hu
theorem DrM.cut {vx : Value} {xs : List Int} {k g c : Nat} {p : Option Addr} {e t : Nat} (hx : w.ownsRow base 3 1 vx k (ints xs)) (hk : xs.length = k) (hY : OwnY w base (.slice (some ⟨g, 0, none⟩) n c) us n) (hd : ∀ q, vx.ownBlock = some q → ¬ OwnB2 (.slice (some ⟨g, 0, none⟩) n c) us q) (h0 : us[0]? = some (.slice p e t)) (he : 3 ≤ e ∧ e ≤ 4) (l0 : k ≤ 1010) (l1 : n ≤ 1010) :
  ∃ m : Mm, DrM (w.setCell ⟨g, 0, none⟩ (.slice p 3 t)) base vx (.slice (some ⟨g, 0, none⟩) n c) m ∧ m.vals.length = k ∧ m.arrs.length = n := by
 subst hk
 obtain ⟨L, rfl, h2, h3⟩ := hY.h
 have hC : Chg (fun q => q = g) w (w.setCell ⟨g, 0, none⟩ (.slice p 3 t)) := (Chg.refl _ _).setCell g 0 _ (fun _ => rfl)
 have g0 : 0 < us.length := (List.getElem?_eq_some_iff.1 h0).1
 have d0 : 0 < L.length := by rw [← h3.len]; exact g0
 have j0 := h3.row 0 _ _ h0 (List.getElem?_eq_getElem d0)
 have c0 : ∀ (k : Nat) (u : Value) (r : List Int), us[k]? = some u → L[k]? = some r → Reads (w.setCell ⟨g, 0, none⟩ (.slice p 3 t)) 1 u r.length (ints r) := fun k u r hu hr => by
  have ho := Ow (h3.row k u r hu hr) hC (fun q hq e2 => h3.outer (by decide) k u hu q (by subst e2; rfl) hq)
  exact Ro ho (by have := h2 r (List.mem_of_getElem? hr); omega)
 have b0 : ∀ (k : Nat) (u : Value), us[k]? = some u → Abv base u := fun k u hu => by
  have i0 : k < L.length := by rw [← h3.len]; exact (List.getElem?_eq_some_iff.1 hu).1
  exact Abv.own (h3.row k u _ hu (List.getElem?_eq_getElem i0))
 have f0 := (h3.out.stored 0 (.slice p 3 t)).1
 have a0 : (L.set 0 ((L[0]).take 3)).length = L.length := List.length_set
 have k0 := h2 L[0] (List.getElem_mem d0)
 have e4 : e = (L[0]).length := by
  obtain ⟨a', c', hs⟩ := Oh j0
  simp only [Value.slice.injEq] at hs; exact hs.2.1
 refine ⟨⟨xs, L.set 0 ((L[0]).take 3)⟩, ⟨Ro (Ow hx hC (fun q hq e2 => hd q hq (Or.inl (by subst e2; rfl)))) (by simp only; omega), Abv.own hx, ⟨us.set 0 (.slice p 3 t), ?_, fun k u r hu hr => ?_, fun u hu => ?_⟩, Abv.own h3.out, l0, by simp only [a0]; exact l1, fun r hr => ?_⟩, rfl, a0⟩
 ·simp only [a0]
  exact Ro f0 (by omega)
 ·by_cases e0 : k = 0
  ·subst e0
   rw [List.getElem?_set_self g0] at hu
   rw [List.getElem?_set_self d0] at hr
   obtain rfl := Option.some.inj hu
   obtain rfl := Option.some.inj hr
   have h5 := c0 0 _ _ h0 (List.getElem?_eq_getElem d0)
   rw [← e4] at h5
   have h6 := reads_take h5 3 (by omega)
   rw [show (ints L[0]).take 3 = ints ((L[0]).take 3) from by simp [ints]] at h6
   rw [show ((L[0]).take 3).length = 3 from by rw [List.length_take]; omega]
   exact h6
  rw [List.getElem?_set_ne (fun h => e0 h.symm)] at hu hr
  exact c0 k u r hu hr
 ·rcases List.mem_or_eq_of_mem_set hu with h1 | rfl
  ·obtain ⟨k, hk, rfl⟩ := List.getElem_of_mem h1
   exact b0 k _ (List.getElem?_eq_getElem hk)
  intro b o m c2 hv
  have := b0 0 _ h0
  simp only [Value.slice.injEq] at hv
  exact this b o e t (by rw [hv.1])
 rcases List.mem_or_eq_of_mem_set hr with h1 | rfl
 ·exact h2 r h1
 rw [List.length_take]; omega
end
end Go.Proofs.Ytkjedgnepnbkpaa
namespace Go.Proofs.Ytkjedgnepnbkpaa
open Go.RowKit
structure OwnR (w : World) (base : Nat) (v : Value) (n : Nat) : Prop where
 h : ∃ xs : List Int, xs.length = n ∧ w.ownsRow base 3 1 v n (ints xs)
section
variable {w w' : World} {base n : Nat} {v : Value}
theorem OwnR.keep (h : OwnR w base v n) {S : Nat → Prop} (hc : Chg S w w') (hs : ∀ q, v.ownBlock = some q → ¬ S q) : OwnR w' base v n := by
 obtain ⟨xs, h1, h2⟩ := h.h
 exact ⟨xs, h1, Ow h2 hc hs⟩
theorem OwnR.below (h : OwnR w base v n) (hb : Below w.heap.size w w') : OwnR w' base v n := h.keep (S := fun _ => False) (Chg.of_below hb) (fun _ _ => id)
theorem OwnR.put {g c : Nat} (h : OwnR w base v n) (hv : v = .slice (some ⟨g, 0, none⟩) n c) (k : Nat) (z : Int) : OwnR (w.setCell ⟨g, k, none⟩ (.int .i64 z)) base v n := by
 subst hv
 obtain ⟨xs, h1, h2⟩ := h.h
 have h3 := (h2.stored k (.int .i64 z)).1
 rw [ints_set] at h3
 exact ⟨xs.set k z, by rw [List.length_set]; exact h1, h3⟩
theorem OwnR.pos (h : OwnR w base v n) (hn : 0 < n) : ∃ g c, v = .slice (some ⟨g, 0, none⟩) n c := by
 obtain ⟨xs, _, h2⟩ := h.h; exact own_pos h2 hn
theorem OwnR.at {g c : Nat} (h : OwnR w base (.slice (some ⟨g, 0, none⟩) n c) n) (k : Nat) (hk : k < n) : (∃ x : Int, w.cell? ⟨g, k, none⟩ = some (.int .i64 x)) ∧ w.frozen? ⟨g, k, none⟩ = false := by
 obtain ⟨xs, rfl, h2⟩ := h.h
 exact ⟨⟨xs[k], by rw [h2.cellAt k (by omega), ints_at xs k hk]⟩, h2.frozenAt k⟩
theorem OwnR.lt (h : OwnR w base v n) : ∀ q, v.ownBlock = some q → base ≤ q ∧ q < w.heap.size := by
 obtain ⟨xs, _, h2⟩ := h.h; exact h2.lt
end
section
variable {w : World} {base n g c : Nat} {v : Value} {us : List Value}
theorem OwnY.pos (h : OwnY w base v us n) (hn : 0 < n) : ∃ g c, v = .slice (some ⟨g, 0, none⟩) n c := by
 obtain ⟨L, rfl, _, h3⟩ := h.h; exact own_pos h3.out hn
theorem OwnY.cellU (h : OwnY w base (.slice (some ⟨g, 0, none⟩) n c) us n) {k : Nat} {u : Value} (hu : us[k]? = some u) : w.cell? ⟨g, k, none⟩ = some u := by
 obtain ⟨L, rfl, _, h3⟩ := h.h
 have hk : k < us.length := (List.getElem?_eq_some_iff.1 hu).1
 have hl := h3.len
 rw [h3.outAt.cellAt k (by omega)]; exact hu
theorem OwnY.intAt {k gr l t : Nat} (h : OwnY w base v us n) (hu : us[k]? = some (.slice (some ⟨gr, 0, none⟩) l t)) (j : Nat) (hj : j < l) : (∃ x : Int, w.cell? ⟨gr, j, none⟩ = some (.int .i64 x)) ∧ w.frozen? ⟨gr, j, none⟩ = false := by
 obtain ⟨L, _, _, h3⟩ := h.h
 have hk : k < us.length := (List.getElem?_eq_some_iff.1 hu).1
 have a0 : k < L.length := by rw [← h3.len]; exact hk
 have ho := h3.row k _ _ hu (List.getElem?_eq_getElem a0)
 have e : l = L[k].length := by obtain ⟨a', c', hs⟩ := Oh ho; simp only [Value.slice.injEq] at hs; exact hs.2.1
 subst e
 exact ⟨⟨L[k][j], by rw [ho.cellAt j (by omega), ints_at _ _ hj]⟩, ho.frozenAt j⟩
end
end Go.Proofs.Ytkjedgnepnbkpaa
namespace Go.Proofs.Ytkjedgnepnbkpaa
open Go.RowKit
structure LvD (w : World) (base : Nat) (v : Value) (us : List Value) (n : Nat) : Prop where
 h : ∃ L : List (List Bool), L.length = n ∧ (∀ r ∈ L, r.length = 14) ∧ Own2B w base v us L
section
variable {w w' : World} {base n : Nat} {v : Value} {us : List Value}
theorem LvD.lt (h : LvD w base v us n) : ∀ q, OwnB2 v us q → base ≤ q ∧ q < w.heap.size := by
 obtain ⟨L, _, _, h3⟩ := h.h; exact h3.lt
theorem LvD.keep (h : LvD w base v us n) {S : Nat → Prop} (hc : Chg S w w') (hs : ∀ q, OwnB2 v us q → ¬ S q) : LvD w' base v us n := by
 obtain ⟨L, h1, h2, h3⟩ := h.h; exact ⟨L, h1, h2, h3.keep hc hs⟩
theorem LvD.below (h : LvD w base v us n) (hb : Below w.heap.size w w') : LvD w' base v us n := by
 obtain ⟨L, h1, h2, h3⟩ := h.h; exact ⟨L, h1, h2, h3.below hb⟩
theorem LvD.bit {k g l c : Nat} (h : LvD w base v us n) (hu : us[k]? = some (.slice (some ⟨g, 0, none⟩) l c)) (j : Nat) (x : Bool) : LvD (w.setCell ⟨g, j, none⟩ (.bool x)) base v us n := by
 obtain ⟨L, h1, h2, h3⟩ := h.h
 have hk : k < us.length := (List.getElem?_eq_some_iff.1 hu).1
 have a0 : k < L.length := by rw [← h3.len]; exact hk
 have ho := h3.row k _ _ hu (List.getElem?_eq_getElem a0)
 have e : l = L[k].length := by obtain ⟨a', c', hs⟩ := Oh ho; simp only [Value.slice.injEq] at hs; exact hs.2.1
 subst e
 have hs := (ho.stored j (.bool x)).1
 rw [bools_set] at hs
 have hl : (L[k].set j x).length = L[k].length := List.length_set
 refine ⟨L.set k (L[k].set j x), by rw [List.length_set]; exact h1, fun r hr => ?_, h3.turn (w' := w.setCell ⟨g, j, none⟩ (.bool x)) hu (own_cast hs hl.symm) ((Chg.refl _ w).setCell g j _ (fun _ => rfl)) (by decide)⟩
 rcases List.mem_or_eq_of_mem_set hr with h4 | rfl
 ·exact h2 r h4
 rw [hl]; exact h2 _ (List.getElem_mem a0)
theorem LvD.row {g c : Nat} (h : LvD w base (.slice (some ⟨g, 0, none⟩) n c) us n) (k : Nat) (hk : k < n) : ∃ gk t, us[k]? = some (.slice (some ⟨gk, 0, none⟩) 14 t) ∧ 14 ≤ t ∧ w.cell? ⟨g, k, none⟩ = some (.slice (some ⟨gk, 0, none⟩) 14 t) ∧ w.frozen? ⟨g, k, none⟩ = false ∧ (base ≤ gk ∧ gk < w.heap.size) ∧ ¬ gk = g ∧ ∀ j, j < 14 → (∃ x : Bool, w.cell? ⟨gk, j, none⟩ = some (.bool x)) ∧ w.frozen? ⟨gk, j, none⟩ = false := by
 obtain ⟨L, rfl, h2, h3⟩ := h.h
 obtain ⟨u, hu, ho⟩ := h3.rowAt k hk
 have hl := h2 L[k] (List.getElem_mem hk)
 obtain ⟨gk, t, rfl⟩ : ∃ gk t, u = .slice (some ⟨gk, 0, none⟩) L[k].length t := by
  obtain ⟨b, c2, hb⟩ := own_pos ho (by omega); exact ⟨b, c2, hb⟩
 have a0 : L[k].length ≤ t := by
  obtain ⟨_, _, a, g0, b, h0, hv, a0, _⟩ := Ro ho (by omega)
  simp only [Value.slice.injEq] at hv
  obtain ⟨_, _, rfl⟩ := hv
  exact a0.1
 have f0 : ¬ gk = g := fun e => h3.outer (by decide) k _ hu g rfl (by rw [e]; rfl)
 have e0 := ho.lt gk rfl
 have c0 : w.cell? ⟨g, k, none⟩ = some (.slice (some ⟨gk, 0, none⟩) L[k].length t) := by rw [h3.outAt.cellAt k (by omega)]; exact hu
 have b0 : ∀ j, j < L[k].length → (∃ x : Bool, w.cell? ⟨gk, j, none⟩ = some (.bool x)) ∧ w.frozen? ⟨gk, j, none⟩ = false := fun j hj => ⟨⟨L[k][j], by rw [ho.cellAt j (by omega), bools_at _ _ hj]⟩, ho.frozenAt j⟩
 have d0 := h3.outAt.frozenAt k
 rw [hl] at hu a0 c0 b0
 exact ⟨gk, t, hu, a0, c0, d0, e0, f0, b0⟩
theorem LvD.shape (h : LvD w base v us n) : ∃ a c, v = .slice a n c := by
 obtain ⟨L, rfl, _, h3⟩ := h.h; exact h3.shape
theorem LvD.pos (h : LvD w base v us n) (hn : 0 < n) : ∃ g c, v = .slice (some ⟨g, 0, none⟩) n c ∧ base ≤ g ∧ g < w.heap.size := by
 obtain ⟨L, rfl, _, h3⟩ := h.h
 obtain ⟨g, c, rfl⟩ := own_pos h3.out hn
 exact ⟨g, c, rfl, h3.out.lt g rfl⟩
theorem LvD.bitAt {k g l c : Nat} (h : LvD w base v us n) (hu : us[k]? = some (.slice (some ⟨g, 0, none⟩) l c)) (j : Nat) (hj : j < 14) : (∃ x : Bool, w.cell? ⟨g, j, none⟩ = some (.bool x)) ∧ w.frozen? ⟨g, j, none⟩ = false := by
 obtain ⟨L, h1, h2, h3⟩ := h.h
 have hk : k < us.length := (List.getElem?_eq_some_iff.1 hu).1
 have a0 : k < L.length := by rw [← h3.len]; exact hk
 have ho := h3.row k _ _ hu (List.getElem?_eq_getElem a0)
 have e : l = L[k].length := by obtain ⟨a', c', hs⟩ := Oh ho; simp only [Value.slice.injEq] at hs; exact hs.2.1
 subst e
 have hl := h2 L[k] (List.getElem_mem a0)
 exact ⟨⟨L[k][j]'(by omega), by rw [ho.cellAt j (by omega), bools_at _ _ (by omega)]⟩, ho.frozenAt j⟩
structure LvX (w : World) (base : Nat) (v : Value) (n : Nat) : Prop where
 h : ∃ (L : List (List Bool)) (us : List Value), Reads w 1 v n us ∧ Abv base v ∧ (∀ (k : Nat) (u : Value) (r : List Bool), us[k]? = some u → L[k]? = some r → Reads w 1 u r.length (bools r)) ∧ (∀ u ∈ us, Abv base u) ∧ L.length = n ∧ ∀ r ∈ L, r.length ≤ 14
theorem LvX.keep (h : LvX w base v n) {S : Nat → Prop} (hc : Chg S w w') (hs : ∀ q, base ≤ q → ¬ S q) : LvX w' base v n := by
 obtain ⟨L, us, h1, h2, h3, h4, h5, h6⟩ := h.h
 exact ⟨L, us, h1.keep hc (fun b o c _ hv => hs b (h2 _ _ _ _ hv)), h2, fun k u r hu hr => (h3 k u r hu hr).keep hc (fun b o c _ hv => hs b (h4 u (List.mem_of_getElem? hu) _ _ _ _ hv)), h4, h5, h6⟩
theorem LvX.below (h : LvX w base v n) (hb : Below w.heap.size w w') : LvX w' base v n := by
 obtain ⟨L, us, h1, h2, h3, h4, h5, h6⟩ := h.h
 exact ⟨L, us, h1.below hb, h2, fun k u r hu hr => (h3 k u r hu hr).below hb, h4, h5, h6⟩
theorem LvX.reads (h : LvX w base v n) : ∃ L : List (List Bool), Reads2 bools w v L ∧ L.length = n ∧ ∀ r ∈ L, r.length ≤ 14 := by
 obtain ⟨L, us, h1, h2, h3, h4, rfl, h6⟩ := h.h
 exact ⟨L, ⟨us, h1, h3⟩, rfl, h6⟩
theorem LvD.x (h : LvD w base v us n) (hn : n ≤ 1000) : LvX w base v n := by
 obtain ⟨L, rfl, h2, h3⟩ := h.h
 refine ⟨L, us, Ro h3.out (by omega), Abv.own h3.out, fun k u r hu hr => Ro (h3.row k u r hu hr) (by have := h2 r (List.mem_of_getElem? hr); omega), fun u hu => ?_, rfl, fun r hr => by have := h2 r hr; omega⟩
 obtain ⟨k, hk, rfl⟩ := List.getElem_of_mem hu
 have a0 : k < L.length := by rw [← h3.len]; exact hk
 exact Abv.own (h3.row k _ _ (List.getElem?_eq_getElem hk) (List.getElem?_eq_getElem a0))
theorem LvD.cut {g c k t e : Nat} {p : Option Addr} (h : LvD w base (.slice (some ⟨g, 0, none⟩) n c) us n) (hn : n ≤ 1000) (hu0 : us[k]? = some (.slice p 14 t)) (he : e ≤ 14) :
  LvX (w.setCell ⟨g, k, none⟩ (.slice p e t)) base (.slice (some ⟨g, 0, none⟩) n c) n := by
 have hx := h.x hn
 obtain ⟨L, rfl, h2, h3⟩ := h.h
 have hk : k < us.length := (List.getElem?_eq_some_iff.1 hu0).1
 have c0 : k < L.length := by rw [← h3.len]; exact hk
 have hC : Chg (fun q => q = g) w (w.setCell ⟨g, k, none⟩ (.slice p e t)) := (Chg.refl _ _).setCell g k _ (fun _ => rfl)
 have b0 : ∀ (j : Nat) (u : Value) (r : List Bool), us[j]? = some u → L[j]? = some r → Reads (w.setCell ⟨g, k, none⟩ (.slice p e t)) 1 u r.length (bools r) := fun j u r hu hr => by
  have ho := Ow (h3.row j u r hu hr) hC (fun q hq e2 => h3.outer (by decide) j u hu q (by subst e2; rfl) hq)
  exact Ro ho (by have := h2 r (List.mem_of_getElem? hr); omega)
 have a0 : ∀ (j : Nat) (u : Value), us[j]? = some u → Abv base u := fun j u hu => by
  have g0 : j < L.length := by rw [← h3.len]; exact (List.getElem?_eq_some_iff.1 hu).1
  exact Abv.own (h3.row j u _ hu (List.getElem?_eq_getElem g0))
 have f0 := (h3.out.stored k (.slice p e t)).1
 have d0 : (L.set k ((L[k]).take e)).length = L.length := List.length_set
 have hL := h2 L[k] (List.getElem_mem c0)
 refine ⟨L.set k ((L[k]).take e), us.set k (.slice p e t), Ro f0 (by omega), Abv.own h3.out, fun j u r hu hr => ?_, fun u hu => ?_, d0, fun r hr => ?_⟩
 ·by_cases e0 : j = k
  ·subst e0
   rw [List.getElem?_set_self hk] at hu
   rw [List.getElem?_set_self c0] at hr
   obtain rfl := Option.some.inj hu
   obtain rfl := Option.some.inj hr
   have h5 := b0 j _ _ hu0 (List.getElem?_eq_getElem c0)
   rw [hL] at h5
   have h6 := reads_take h5 e he
   rw [show (bools L[j]).take e = bools ((L[j]).take e) from by simp [bools]] at h6
   rw [show ((L[j]).take e).length = e from by rw [List.length_take]; omega]
   exact h6
  rw [List.getElem?_set_ne (fun h => e0 h.symm)] at hu hr
  exact b0 j u r hu hr
 ·rcases List.mem_or_eq_of_mem_set hu with h1 | rfl
  ·obtain ⟨j, hj, rfl⟩ := List.getElem_of_mem h1
   exact a0 j _ (List.getElem?_eq_getElem hj)
  intro b o m c2 hv
  simp only [Value.slice.injEq] at hv
  exact a0 k _ hu0 b o 14 t (by rw [hv.1])
 rcases List.mem_or_eq_of_mem_set hr with h1 | rfl
 ·have := h2 r h1; omega
 rw [List.length_take]; omega
end
end Go.Proofs.Ytkjedgnepnbkpaa
