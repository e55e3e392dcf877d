/-
  Parts of the proof of the law FnExactSpecPath.
-/
import Derived.Lib.SmallJoins
import Derived.Test.YtbglogjamfdmpaaPT
namespace Go.Proofs.Ytbglogjamfdmpaa
open Go.RowKit Go.ChangeShapes Go.WideShapes

variable {H : Type} {enc : TypeId × Value → H} {P : Program} {w : World} {base : Nat} {spare : Nat → Bool} {held : Bool}

theorem rd_ints {t e : TypeId} {fuel : Nat} {c : Value} {x : DataW H × List MemPlace} (ht : P.underlying t = some (.slice e)) (he : P.underlying e = some (.int .i64)) (hc : P.cellsOf e = 1)
    (h : DataW.trod enc P w base spare held fuel t [c] = some x) : ∃ xs : List Int, Reads w 1 c xs.length (ints xs) ∧ ∀ n ∈ xs, (Lit.int .i64 n).wf = true := by
  rcases open_ints ht he hc h with ⟨hcs, _⟩ | ⟨a, len, cap, zs, hcs, _, hl, hm, hz, _, hcell, hwz⟩
  · simp only [List.cons.injEq, and_true] at hcs
    subst hcs
    exact ⟨[], reads_of_owns (World.ownsRow_nil w 0 0 1) (by simp), fun n hn => by cases hn⟩
  · simp only [List.cons.injEq, and_true] at hcs
    subst hcs
    have hlen : len ≤ zs.length := by rw [hz]; split <;> omega
    have htl : (zs.take len).length = len := by rw [List.length_take]; omega
    refine ⟨zs.take len, ?_, fun n hn => hwz n (List.mem_of_mem_take hn)⟩
    rw [htl]
    obtain ⟨b, off, spot⟩ := a
    refine ⟨by rw [ints_length, htl]; omega, by unfold maxLen at hm; omega, some ⟨b, off, spot⟩, cap, b, off, rfl, ⟨hl, fun h => by cases h⟩, ?_, ?_⟩
    · intro h0
      have hc0 := hcell 0 (by omega)
      have hspot : spot = none := by simpa [Addr.add] using World.cell?_spot hc0
      subst hspot
      exact ⟨rfl, by have := World.block_lt_of_cell? w _ hc0; simpa [Addr.add] using this⟩
    · intro j hj
      have hj' : j < len := by rw [ints_length, htl] at hj; exact hj
      have hc0 := hcell 0 (by omega)
      have hspot : spot = none := by simpa [Addr.add] using World.cell?_spot hc0
      subst hspot
      have hcj := hcell j (by omega)
      rw [addr_add] at hcj
      rw [hcj, ints_get, List.getElem_take]
      congr 2
      simp only [List.getD_eq_getElem?_getD]
      rw [List.getElem?_eq_getElem (by omega)]
      rfl

end Go.Proofs.Ytbglogjamfdmpaa
