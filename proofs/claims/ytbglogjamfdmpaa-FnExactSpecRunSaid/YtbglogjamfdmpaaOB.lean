/-
  Parts of the proof of the law FnExactSpecRun.
-/
import Derived.Deep.Fields
import Derived.Deep.Slices
import Derived.Test.YtbglogjamfdmpaaO
import Derived.Test.YtbglogjamfdmpaaRS
namespace Go.Proofs.Ytbglogjamfdmpaa
open Go.RowKit Go.ChangeShapes Go.WideShapes Go.Deep Go.Joins

variable {H : Type} {enc : TypeId × Value → H} {P : Program} {w : World} {base : Nat} {spare : Nat → Bool} {held : Bool}

theorem op_bools {r : Reach} {b0 : Nat} {t e : TypeId} {v : Value} {d : DataW H} {p : List MemPlace} (ht : P.underlying t = some (.slice e)) (he : P.underlying e = some .bool) (hc : P.cellsOf e = 1)
    (hv : Value.okWide P w r b0 t v) (h : DataW.Trod enc P w base spare held t v d p) : ∃ xs : List Bool, Reads w 1 v xs.length (bools xs) := by
  obtain ⟨a, len, cap, rfl⟩ := okWide_slice ht hv
  obtain ⟨fuel, hf⟩ := h
  exact rd_bools ht he hc (c := .slice a len cap) (by simpa [Value.cells] using hf)
theorem rd_intss {t e q : TypeId} {fuel : Nat} {c : Value} {x : DataW H × List MemPlace} (ht : P.underlying t = some (.slice e)) (he : P.underlying e = some (.slice q)) (hq : P.underlying q = some (.int .i64)) (ce : P.cellsOf e = 1) (cq : P.cellsOf q = 1)
    (h : DataW.trod enc P w base spare held fuel t [c] = some x) : ∃ rs : List (List Int), Reads2 ints w c rs :=
  rd_rows2 ht ce (fun h => by obtain ⟨xs, h1, _⟩ := rd_ints he hq cq h; exact ⟨xs, h1⟩) h
/-- a memory: a slice of ints and a slice of slices of ints, by value -/
theorem op_memory {r : Reach} {b0 : Nat} {t ti e : TypeId} {k0 k1 : Field} {v : Value} {d : DataW H} {p : List MemPlace} (hs : P.underlying t = some (.struct #[k0, k1])) (hk : oneCellFields P #[k0, k1] = true) (hC : P.cellsOf t = 2)
    (ht0 : P.underlying k0.type = some (.slice ti)) (hi : P.underlying ti = some (.int .i64)) (hci : P.cellsOf ti = 1) (ht1 : P.underlying k1.type = some (.slice e)) (he : P.underlying e = some (.slice ti)) (ce : P.cellsOf e = 1)
    (hv : Value.okWide P w r b0 t v) (h : DataW.Trod enc P w base spare held t v d p) :
    ∃ (c0 c1 : Value) (xs : List Int) (rs : List (List Int)), v = .agg #[c0, c1] ∧ Reads w 1 c0 xs.length (ints xs) ∧ Reads2 ints w c1 rs := by
  obtain ⟨c0, c1, y0, y1, n, rfl, _, _, g0, g1⟩ := open_agg2 hs hk hC hv h
  obtain ⟨xs, r0, _⟩ := rd_ints ht0 hi hci g0
  obtain ⟨rs, r1⟩ := rd_intss ht1 he hi ce hci g1
  exact ⟨c0, c1, xs, rs, rfl, r0, r1⟩
end Go.Proofs.Ytbglogjamfdmpaa
namespace Go.Proofs.Ytbglogjamfdmpaa
open Go.RowKit Go.ChangeShapes Go.WideShapes Go.Deep Go.Joins

variable {H : Type} {enc : TypeId × Value → H} {P : Program} {w : World} {base : Nat} {spare : Nat → Bool} {held : Bool}

theorem rd_rows {α : Type} {f : α → List Value} {sz : Nat} (mk : (Nat → Int) → α) (hmk : ∀ x, f (mk x) = (List.range sz).map (fun j => Value.int .i64 (x j))) (hf : ∀ x, (f x).length = sz)
    {t e : TypeId} {fs : Array Field} {fuel : Nat} {c : Value} {x : DataW H × List MemPlace} (ht : P.underlying t = some (.slice e)) (he : P.underlying e = some (.struct fs)) (hone : oneCellFields P fs = true) (hsz : fs.size = sz) (hC : P.cellsOf e = sz)
    (h0 : 0 < sz) (hint : ∀ (j : Nat) (g : Field), fs[j]? = some g → P.underlying g.type = some (.int .i64)) (h : DataW.trod enc P w base spare held fuel t [c] = some x) :
    ∃ l : List α, Reads w sz c l.length (rows f l) := by
  rcases open_slice ht h with ⟨hcs, _⟩ | ⟨a, len, cap, m, n, D, Pl, hcs, _, hl, hm, hmm, _, hi⟩
  · simp only [List.cons.injEq, and_true] at hcs
    subst hcs
    exact ⟨[], reads_of_owns (World.ownsRow_nil w 0 0 sz) (by simp)⟩
  · simp only [List.cons.injEq, and_true] at hcs
    subst hcs
    have hlm : len ≤ m := by rw [hmm]; split <;> omega
    rw [hC] at hi
    have each : ∀ i j, ∃ z : Int, i < len → j < sz → w.cell? (a.add (i * sz + j)) = some (.int .i64 z) := by
      intro i j
      by_cases hij : i < len ∧ j < sz
      · obtain ⟨hi1, hj1⟩ := hij
        obtain ⟨cs', hc, ht'⟩ := hi i (by omega)
        obtain ⟨_, hcl, hat⟩ := World.cells?_some hc
        obtain ⟨ys, n', _, _, _, hyl, hg⟩ := DataW.trod_struct he ht'
        have hfj : fs[j]? = some (fs[j]'(by omega)) := Array.getElem?_eq_getElem (by omega)
        obtain ⟨ho, hk⟩ := hone_of hone j _ hfj
        have h1 := hg j _ hfj
        rw [ho, hk] at h1
        have e1 : (cs'.drop j).take 1 = [cs'[j]'(by omega)] := by
          rw [List.drop_eq_getElem_cons (by omega)]; rfl
        rw [e1, List.getElem?_eq_getElem (by omega)] at h1
        obtain ⟨z, hz, _⟩ := DataW.trod_int (hint j _ hfj) h1
        simp only [List.cons.injEq, and_true] at hz
        refine ⟨z, fun _ _ => ?_⟩
        rw [← Go.Deep.add_add, hat j hj1, List.getElem?_eq_getElem (by omega), hz]
      · exact ⟨0, fun h1 h2 => absurd ⟨h1, h2⟩ hij⟩
    have X : ∃ X : Nat → Nat → Int, ∀ i j, i < len → j < sz → w.cell? (a.add (i * sz + j)) = some (.int .i64 (X i j)) :=
      ⟨fun i j => Classical.choose (each i j), fun i j => Classical.choose_spec (each i j)⟩
    obtain ⟨X, hX⟩ := X
    refine ⟨(List.range len).map (fun i => mk (X i)), ?_⟩
    have hll : ((List.range len).map (fun i => mk (X i))).length = len := by simp
    rw [hll]
    have hrl := rows_length hf ((List.range len).map (fun i => mk (X i)))
    rw [hll] at hrl
    obtain ⟨b, off, spot⟩ := a
    refine ⟨hrl, by unfold maxLen at hm; omega, some ⟨b, off, spot⟩, cap, b, off, rfl, ⟨hl, fun h => by cases h⟩, ?_, ?_⟩
    · intro hp
      have hc0 := hX 0 0 hp h0
      have hspot : spot = none := by simpa [Addr.add] using World.cell?_spot hc0
      subst hspot
      exact ⟨rfl, by have := World.block_lt_of_cell? w _ hc0; simpa [Addr.add] using this⟩
    · intro p hp
      rw [hrl] at hp
      have hq : p / sz < len := Nat.div_lt_of_lt_mul (by rw [Nat.mul_comm]; exact hp)
      have hr : p % sz < sz := Nat.mod_lt _ h0
      have hpe : p / sz * sz + p % sz = p := by rw [Nat.mul_comm]; exact Nat.div_add_mod p sz
      have hspot : spot = none := by
        have hc1 := hX 0 0 (Nat.lt_of_le_of_lt (Nat.zero_le _) hq) h0
        simpa [Addr.add] using World.cell?_spot hc1
      subst hspot
      have hc0 := hX (p / sz) (p % sz) hq hr
      rw [hpe, addr_add] at hc0
      have hg := rows_get hf ((List.range len).map (fun i => mk (X i))) (p / sz) (by simpa using hq) (p % sz) hr
      rw [hpe] at hg
      rw [hc0]
      simp only [List.getElem_map, List.getElem_range, hmk] at hg
      rw [List.getElem?_eq_getElem (by rw [hrl]; exact hp), List.getElem?_eq_getElem (by simpa using hr)] at hg
      simp only [List.getElem_map, List.getElem_range] at hg
      exact hg.symm

theorem all5 {P : Program} {f0 f1 f2 f3 f4 : Field} (h0 : P.underlying f0.type = some (.int .i64)) (h1 : P.underlying f1.type = some (.int .i64)) (h2 : P.underlying f2.type = some (.int .i64)) (h3 : P.underlying f3.type = some (.int .i64)) (h4 : P.underlying f4.type = some (.int .i64)) :
    ∀ (j : Nat) (g : Field), (#[f0, f1, f2, f3, f4] : Array Field)[j]? = some g → P.underlying g.type = some (.int .i64) := by
  intro j g hg
  match j with
  | 0 => simp at hg; subst hg; exact h0
  | 1 => simp at hg; subst hg; exact h1
  | 2 => simp at hg; subst hg; exact h2
  | 3 => simp at hg; subst hg; exact h3
  | 4 => simp at hg; subst hg; exact h4
  | _ + 5 => simp at hg

/-- code: two slices of ints and one of instructions, by value -/
theorem op_code {r : Reach} {b0 : Nat} {t ti e : TypeId} {k0 k1 k2 f0 f1 f2 f3 f4 : Field} {v : Value} {d : DataW H} {p : List MemPlace} (hs : P.underlying t = some (.struct #[k0, k1, k2])) (hk : oneCellFields P #[k0, k1, k2] = true) (hC : P.cellsOf t = 3)
    (ht0 : P.underlying k0.type = some (.slice ti)) (ht1 : P.underlying k1.type = some (.slice ti)) (hi : P.underlying ti = some (.int .i64)) (hci : P.cellsOf ti = 1)
    (ht2 : P.underlying k2.type = some (.slice e)) (he : P.underlying e = some (.struct #[f0, f1, f2, f3, f4])) (hone : oneCellFields P #[f0, f1, f2, f3, f4] = true) (hCe : P.cellsOf e = 5)
    (h0 : P.underlying f0.type = some (.int .i64)) (h1 : P.underlying f1.type = some (.int .i64)) (h2 : P.underlying f2.type = some (.int .i64)) (h3 : P.underlying f3.type = some (.int .i64)) (h4 : P.underlying f4.type = some (.int .i64))
    (hv : Value.okWide P w r b0 t v) (h : DataW.Trod enc P w base spare held t v d p) :
    ∃ (c0 c1 c2 : Value) (xs ys : List Int) (l : List Ins), v = .agg #[c0, c1, c2] ∧ Reads w 1 c0 xs.length (ints xs) ∧ Reads w 1 c1 ys.length (ints ys) ∧ Reads w 5 c2 l.length (inss l) := by
  obtain ⟨c0, c1, c2, y0, y1, y2, n, rfl, _, _, g0, g1, g2⟩ := open_agg3 hs hk hC hv h
  obtain ⟨xs, r0, _⟩ := rd_ints ht0 hi hci g0
  obtain ⟨ys, r1, _⟩ := rd_ints ht1 hi hci g1
  obtain ⟨l, r2⟩ := rd_rows (f := insc) (fun x => ⟨x 0, x 1, x 2, x 3, x 4⟩) (fun x => rfl) insc_len ht2 he hone rfl hCe (by omega) (all5 h0 h1 h2 h3 h4) g2
  exact ⟨c0, c1, c2, xs, ys, l, rfl, r0, r1, r2⟩
end Go.Proofs.Ytbglogjamfdmpaa
