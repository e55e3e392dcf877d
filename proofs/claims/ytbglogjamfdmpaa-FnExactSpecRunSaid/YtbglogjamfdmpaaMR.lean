/-
  Parts of the proof of the law FnExactSpecRun.
-/
import Derived.Test.YtbglogjamfdmpaaFE
import Derived.Test.YtbglogjamfdmpaaMQ
import Derived.Test.YtbglogjamfdmpaaRI
namespace Go.Proofs.Ytbglogjamfdmpaa
open Go.RowKit

/-- registers (vr), variables (vv) and arrays (va, with rows us), in blocks of their own -/
structure OwnMv (w : World) (base : Nat) (vr vv va : Value) (us : List Value) (rs : List Int) (m : Mm) : Prop where
  r : w.ownsRow base 3 1 vr rs.length (ints rs)
  v : w.ownsRow base 3 1 vv m.vals.length (ints m.vals)
  a : Own2I w base va us m.arrs
  rv : ∀ q, vr.ownBlock = some q → vv.ownBlock = some q → False
  ra : ∀ q, vr.ownBlock = some q → ¬ OwnB2 va us q
  va : ∀ q, vv.ownBlock = some q → ¬ OwnB2 va us q
/-- q is one of its blocks -/
def OwnMB (vr vv va : Value) (us : List Value) (q : Nat) : Prop := vr.ownBlock = some q ∨ vv.ownBlock = some q ∨ OwnB2 va us q

section
variable {w w' : World} {base base' : Nat} {vr vv va : Value} {us : List Value} {rs : List Int} {m : Mm}
theorem OwnMv.lt (h : OwnMv w base vr vv va us rs m) : ∀ q, OwnMB vr vv va us q → base ≤ q ∧ q < w.heap.size := by
  rintro q (hq | hq | hq)
  · exact h.r.lt q hq
  · exact h.v.lt q hq
  · exact h.a.lt q hq
theorem OwnMv.keep (h : OwnMv w base vr vv va us rs m) {S : Nat → Prop} (hc : Chg S w w') (hs : ∀ q, OwnMB vr vv va us q → ¬ S q) : OwnMv w' base vr vv va us rs m :=
  ⟨own_keep h.r hc (fun q hq => hs q (Or.inl hq)), own_keep h.v hc (fun q hq => hs q (Or.inr (Or.inl hq))), h.a.keep hc (fun q hq => hs q (Or.inr (Or.inr hq))), h.rv, h.ra, h.va⟩
theorem OwnMv.below (h : OwnMv w base vr vv va us rs m) (hb : Below w.heap.size w w') : OwnMv w' base vr vv va us rs m := h.keep (S := fun _ => False) (Chg.of_below hb) (fun _ _ => id)
theorem OwnMv.mono (h : OwnMv w base vr vv va us rs m) (hb : base' ≤ base) : OwnMv w base' vr vv va us rs m := ⟨own_mono h.r hb, own_mono h.v hb, h.a.mono hb, h.rv, h.ra, h.va⟩
/-- behind a store elsewhere -/
theorem OwnMv.far (h : OwnMv w base vr vv va us rs m) (b j : Nat) (x : Value) (hb : ¬ OwnMB vr vv va us b) : OwnMv (w.setCell ⟨b, j, none⟩ x) base vr vv va us rs m :=
  h.keep ((Chg.refl (fun q => q = b) w).setCell b j x (fun _ => rfl)) (fun _ hq e => hb (e ▸ hq))
theorem OwnMv.setReg {g n c : Nat} (h : OwnMv w base (.slice (some ⟨g, 0, none⟩) n c) vv va us rs m) (k : Nat) (x : Int) : OwnMv (w.setCell ⟨g, k, none⟩ (.int .i64 x)) base (.slice (some ⟨g, 0, none⟩) n c) vv va us (rs.set k x) m := by
  have hC : Chg (fun q => q = g) w (w.setCell ⟨g, k, none⟩ (.int .i64 x)) := (Chg.refl _ _).setCell g k _ (fun _ => rfl)
  have hn : n = rs.length := by
    obtain ⟨a, c', hs⟩ := own_shape h.r
    simp at hs; omega
  subst hn
  refine ⟨?_, own_keep h.v hC (fun q hq e => h.rv q (by subst e; rfl) hq), h.a.keep hC (fun q hq e => h.ra q (by subst e; rfl) hq), h.rv, h.ra, h.va⟩
  have h1 := (h.r.stored k (.int .i64 x)).1
  rw [ints_set] at h1
  rw [List.length_set]; exact h1
theorem OwnMv.setVal {g n c : Nat} (h : OwnMv w base vr (.slice (some ⟨g, 0, none⟩) n c) va us rs m) (k : Nat) (x : Int) : OwnMv (w.setCell ⟨g, k, none⟩ (.int .i64 x)) base vr (.slice (some ⟨g, 0, none⟩) n c) va us rs ⟨m.vals.set k x, m.arrs⟩ := by
  have hC : Chg (fun q => q = g) w (w.setCell ⟨g, k, none⟩ (.int .i64 x)) := (Chg.refl _ _).setCell g k _ (fun _ => rfl)
  have hn : n = m.vals.length := by
    obtain ⟨a, c', hs⟩ := own_shape h.v
    simp at hs; omega
  subst hn
  refine ⟨own_keep h.r hC (fun q hq e => h.rv q hq (by subst e; rfl)), ?_, h.a.keep hC (fun q hq e => h.va q (by subst e; rfl) hq), h.rv, h.ra, h.va⟩
  have h1 := (h.v.stored k (.int .i64 x)).1
  rw [ints_set] at h1
  simp only [List.length_set]; exact h1
theorem OwnMv.setArr {i g n c : Nat} (h : OwnMv w base vr vv va us rs m) (hu : us[i]? = some (.slice (some ⟨g, 0, none⟩) n c)) (k : Nat) (x : Int) : OwnMv (w.setCell ⟨g, k, none⟩ (.int .i64 x)) base vr vv va us rs ⟨m.vals, m.arrs.set i ((gr m.arrs i).set k x)⟩ := by
  have hC : Chg (fun q => q = g) w (w.setCell ⟨g, k, none⟩ (.int .i64 x)) := (Chg.refl _ _).setCell g k _ (fun _ => rfl)
  have hi : i < m.arrs.length := by rw [← h.a.len]; exact (List.getElem?_eq_some_iff.1 hu).1
  have hgr : gr m.arrs i = m.arrs[i] := by unfold gr; rw [Int.toNat_natCast, List.getElem?_eq_getElem hi]; rfl
  have hrow := h.a.row i _ _ hu (List.getElem?_eq_getElem hi)
  have hn : n = m.arrs[i].length := by
    obtain ⟨a, c', hs⟩ := own_shape hrow
    simp at hs; omega
  subst hn
  have hg : OwnB2 va us g := Or.inr ⟨i, _, hu, rfl⟩
  have h1 := (hrow.stored k (.int .i64 x)).1
  rw [ints_set] at h1
  refine ⟨own_keep h.r hC (fun q hq e => h.ra q hq (e ▸ hg)), own_keep h.v hC (fun q hq e => h.va q hq (e ▸ hg)), ?_, h.rv, h.ra, h.va⟩
  rw [hgr]
  refine h.a.turn hu (r := m.arrs[i].set k x) (by rw [List.length_set]; exact h1) ?_ (by decide)
  exact (Chg.refl _ _).setCell g k _ (fun _ => rfl)
/-- a register's cell -/
theorem OwnMv.regAt {g n c : Nat} (h : OwnMv w base (.slice (some ⟨g, 0, none⟩) n c) vv va us rs m) (k : Nat) (hk : k < rs.length) : w.cell? ⟨g, k, none⟩ = some (.int .i64 (gi rs k)) := by
  have hn : n = rs.length := by
    obtain ⟨a, c', hs⟩ := own_shape h.r
    simp at hs; omega
  subst hn
  rw [h.r.cellAt k (by omega), ints_at _ _ hk]
  unfold gi; rw [Int.toNat_natCast, List.getElem?_eq_getElem hk]; rfl
theorem OwnMv.valAt {g n c : Nat} (h : OwnMv w base vr (.slice (some ⟨g, 0, none⟩) n c) va us rs m) (k : Nat) (hk : k < m.vals.length) : w.cell? ⟨g, k, none⟩ = some (.int .i64 (gi m.vals k)) := by
  have hn : n = m.vals.length := by
    obtain ⟨a, c', hs⟩ := own_shape h.v
    simp at hs; omega
  subst hn
  rw [h.v.cellAt k (by omega), ints_at _ _ hk]
  unfold gi; rw [Int.toNat_natCast, List.getElem?_eq_getElem hk]; rfl
/-- an array's row, and its cells -/
theorem OwnMv.arrAt {g n c : Nat} (h : OwnMv w base vr vv (.slice (some ⟨g, 0, none⟩) n c) us rs m) (i : Nat) (hi : i < m.arrs.length) (hl : (gr m.arrs i).length = 4) :
    ∃ ga ca, w.cell? ⟨g, i, none⟩ = some (.slice (some ⟨ga, 0, none⟩) 4 ca) ∧ us[i]? = some (.slice (some ⟨ga, 0, none⟩) 4 ca) ∧ ∀ k, k < 4 → w.cell? ⟨ga, k, none⟩ = some (.int .i64 (gi (gr m.arrs i) k)) ∧ w.frozen? ⟨ga, k, none⟩ = false := by
  obtain ⟨u, hu, hrow⟩ := h.a.rowAt i hi
  have hgr : gr m.arrs i = m.arrs[i] := by unfold gr; rw [Int.toNat_natCast, List.getElem?_eq_getElem hi]; rfl
  rw [hgr] at hl ⊢
  rw [hl] at hrow
  obtain ⟨ga, ca, rfl⟩ := own_pos hrow (by omega)
  have hn : n = m.arrs.length := by
    obtain ⟨a, c', hs⟩ := own_shape h.a.out
    simp at hs; omega
  subst hn
  refine ⟨ga, ca, ?_, hu, fun k hk => ⟨?_, hrow.frozenAt k⟩⟩
  · rw [h.a.outAt.cellAt i (by omega)]; exact hu
  · rw [hrow.cellAt k (by omega), ints_at _ _ (by omega)]
    unfold gi; rw [Int.toNat_natCast, List.getElem?_eq_getElem (by omega)]; rfl
end
theorem gi_range {xs : List Int} (h : ∀ n ∈ xs, 0 ≤ n ∧ n < 256) (i : Int) : 0 ≤ gi xs i ∧ gi xs i ≤ 255 := by
  unfold gi
  cases e : xs[i.toNat]? with
  | none => simp
  | some n =>
    have := h n (List.mem_of_getElem? e)
    simp only [Option.getD_some]; omega
end Go.Proofs.Ytbglogjamfdmpaa
