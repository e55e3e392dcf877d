/-
  Opening the arguments of a law: what a value that reads as data is, in my words 'Reads'.
-/
import Derived.Lib.SmallJoins
import Derived.Test.YtkbbpnfhenoihaaK
namespace Go.Proofs.Ytkbbpnfhenoihaa
open Go.RowKit Go.ChangeShapes Go.WideShapes

variable {H : Type} {enc : TypeId × Value → H} {P : Program} {w : World} {base : Nat} {spare : Nat → Bool} {held : Bool}

theorem rd_ints {t e : TypeId} {fuel : Nat} {c : Value} {x : DataW H × List MemPlace} (ht : P.underlying t = some (.slice e)) (he : P.underlying e = some (.int .i64)) (hc : P.cellsOf e = 1)
    (h : DataW.trod enc P w base spare held fuel t [c] = some x) : ∃ xs : List Int, Reads w 1 c xs.length (ints xs) ∧ ∀ n ∈ xs, (Lit.int .i64 n).wf = true := by
  rcases open_ints ht he hc h with ⟨hcs, _⟩ | ⟨a, len, cap, zs, hcs, _, hl, hm, hz, _, hcell, hwz⟩
  · simp only [List.cons.injEq, and_true] at hcs
    subst hcs
    exact ⟨[], reads_of_owns (World.ownsRow_nil w 0 0 1) (by simp), fun n hn => by cases hn⟩
  · simp only [List.cons.injEq, and_true] at hcs
    subst hcs
    have hlen : len ≤ zs.length := by rw [hz]; split <;> omega
    have htl : (zs.take len).length = len := by rw [List.length_take]; omega
    refine ⟨zs.take len, ?_, fun n hn => hwz n (List.mem_of_mem_take hn)⟩
    rw [htl]
    obtain ⟨b, off, spot⟩ := a
    refine ⟨by rw [ints_length, htl]; omega, by unfold maxLen at hm; omega, some ⟨b, off, spot⟩, cap, b, off, rfl, ⟨hl, fun h => by cases h⟩, ?_, ?_⟩
    · intro h0
      have hc0 := hcell 0 (by omega)
      have hspot : spot = none := by simpa [Addr.add] using World.cell?_spot hc0
      subst hspot
      exact ⟨rfl, by have := World.block_lt_of_cell? w _ hc0; simpa [Addr.add] using this⟩
    · intro j hj
      have hj' : j < len := by rw [ints_length, htl] at hj; exact hj
      have hc0 := hcell 0 (by omega)
      have hspot : spot = none := by simpa [Addr.add] using World.cell?_spot hc0
      subst hspot
      have hcj := hcell j (by omega)
      rw [addr_add] at hcj
      rw [hcj, ints_get, List.getElem_take]
      congr 2
      simp only [List.getD_eq_getElem?_getD]
      rw [List.getElem?_eq_getElem (by omega)]
      rfl

theorem rd_bytes {t e : TypeId} {fuel : Nat} {c : Value} {x : DataW H × List MemPlace} (ht : P.underlying t = some (.slice e)) (he : P.underlying e = some (.int .u8)) (hc : P.cellsOf e = 1)
    (h : DataW.trod enc P w base spare held fuel t [c] = some x) : ∃ xs : List Int, Reads w 1 c xs.length (xs.map (Value.int .u8)) ∧ ∀ n ∈ xs, 0 ≤ n ∧ n < 256 := by
  rcases open_ints ht he hc h with ⟨hcs, _⟩ | ⟨a, len, cap, zs, hcs, _, hl, hm, hz, _, hcell, hwz⟩
  · simp only [List.cons.injEq, and_true] at hcs
    subst hcs
    exact ⟨[], reads_of_owns (World.ownsRow_nil w 0 0 1) (by simp), fun n hn => by cases hn⟩
  · simp only [List.cons.injEq, and_true] at hcs
    subst hcs
    have hlen : len ≤ zs.length := by rw [hz]; split <;> omega
    have htl : (zs.take len).length = len := by rw [List.length_take]; omega
    refine ⟨zs.take len, ?_, fun n hn => by have h := hwz n (List.mem_of_mem_take hn); simp [Lit.wf, IntKind.min, IntKind.max, IntKind.bits, IntKind.signed] at h; omega⟩
    rw [htl]
    obtain ⟨b, off, spot⟩ := a
    refine ⟨by rw [List.length_map, htl]; omega, by unfold maxLen at hm; omega, some ⟨b, off, spot⟩, cap, b, off, rfl, ⟨hl, fun h => by cases h⟩, ?_, ?_⟩
    · intro h0
      have hc0 := hcell 0 (by omega)
      have hspot : spot = none := by simpa [Addr.add] using World.cell?_spot hc0
      subst hspot
      exact ⟨rfl, by have := World.block_lt_of_cell? w _ hc0; simpa [Addr.add] using this⟩
    · intro j hj
      have hj' : j < len := by rw [List.length_map, htl] at hj; exact hj
      have hc0 := hcell 0 (by omega)
      have hspot : spot = none := by simpa [Addr.add] using World.cell?_spot hc0
      subst hspot
      have hcj := hcell j (by omega)
      rw [addr_add] at hcj
      rw [hcj, List.getElem_map, List.getElem_take]
      congr 2
      simp only [List.getD_eq_getElem?_getD]
      rw [List.getElem?_eq_getElem (by omega)]
      rfl

/-- a struct of one field that is a slice of ints, by value -/
theorem op_cache {r : Reach} {b0 : Nat} {t e : TypeId} {f0 : Field} {v : Value} {d : DataW H} {p : List MemPlace} (hs : P.underlying t = some (.struct #[f0])) (hC : P.cellsOf t = 1) (hf0 : f0.offset = 0) (hf1 : P.cellsOf f0.type = 1)
    (ht : P.underlying f0.type = some (.slice e)) (he : P.underlying e = some (.int .i64)) (hc : P.cellsOf e = 1)
    (hv : Value.okWide P w r b0 t v) (h : DataW.Trod enc P w base spare held t v d p) :
    ∃ (c : Value) (xs : List Int), v = .agg #[c] ∧ Reads w 1 c xs.length (ints xs) ∧ ∀ n ∈ xs, (Lit.int .i64 n).wf = true := by
  obtain ⟨cs, rfl, hsz⟩ := okWide_struct hs hv
  have hex : ∃ c, cs = #[c] := by
    rw [hC] at hsz
    exact ⟨cs[0], by ext i hi1 hi2; · simp [hsz]
                     · simp at hi2; subst hi2; rfl⟩
  obtain ⟨c, rfl⟩ := hex
  obtain ⟨fuel, hf⟩ := h
  obtain ⟨y0, n, _, _, h0⟩ := trod_struct1 hs hf
  rw [hf0, hf1] at h0
  obtain ⟨xs, h1, h2⟩ := rd_ints ht he hc (c := c) (by simpa [Value.cells] using h0)
  exact ⟨c, xs, rfl, h1, h2⟩

theorem op_bytes {r : Reach} {b0 : Nat} {t e : TypeId} {v : Value} {d : DataW H} {p : List MemPlace} (ht : P.underlying t = some (.slice e)) (he : P.underlying e = some (.int .u8)) (hc : P.cellsOf e = 1)
    (hv : Value.okWide P w r b0 t v) (h : DataW.Trod enc P w base spare held t v d p) :
    ∃ xs : List Int, Reads w 1 v xs.length (xs.map (Value.int .u8)) ∧ ∀ n ∈ xs, 0 ≤ n ∧ n < 256 := by
  obtain ⟨a, len, cap, rfl⟩ := okWide_slice ht hv
  obtain ⟨fuel, hf⟩ := h
  exact rd_bytes ht he hc (c := .slice a len cap) (by simpa [Value.cells] using hf)
end Go.Proofs.Ytkbbpnfhenoihaa
