/-
  Parts of the proof of the law FnExactSpecPath.
-/
import Derived.Test.YtbglogjamfdmpaaO
import Derived.Test.YtbglogjamfdmpaaRS
namespace Go.Proofs.Ytbglogjamfdmpaa
open Go.RowKit Go.ChangeShapes Go.WideShapes Go.Deep Go.Joins

variable {H : Type} {enc : TypeId × Value → H} {P : Program} {w : World} {base : Nat} {spare : Nat → Bool} {held : Bool}

theorem rd_intss {t e q : TypeId} {fuel : Nat} {c : Value} {x : DataW H × List MemPlace} (ht : P.underlying t = some (.slice e)) (he : P.underlying e = some (.slice q)) (hq : P.underlying q = some (.int .i64)) (ce : P.cellsOf e = 1) (cq : P.cellsOf q = 1)
    (h : DataW.trod enc P w base spare held fuel t [c] = some x) : ∃ rs : List (List Int), Reads2 ints w c rs :=
  rd_rows2 ht ce (fun h => by obtain ⟨xs, h1, _⟩ := rd_ints he hq cq h; exact ⟨xs, h1⟩) h
end Go.Proofs.Ytbglogjamfdmpaa
namespace Go.Proofs.Ytbglogjamfdmpaa
open Go.RowKit Go.ChangeShapes Go.WideShapes Go.Deep Go.Joins

variable {H : Type} {enc : TypeId × Value → H} {P : Program} {w : World} {base : Nat} {spare : Nat → Bool} {held : Bool}

/-- a state: an int, a slice of ints, a memory, by value -/
theorem op_machine {r : Reach} {b0 : Nat} {t ti e : TypeId} {f0 f1 f2 k0 k1 : Field} {v : Value} {d : DataW H} {p : List MemPlace} (hs : P.underlying t = some (.struct #[f0, f1, f2])) (hC : P.cellsOf t = 4)
    (hT0 : P.underlying f0.type = some (.int .i64)) (hC0 : P.cellsOf f0.type = 1 ∧ f0.offset = 0) (hT1 : P.underlying f1.type = some (.slice ti)) (hC1 : P.cellsOf f1.type = 1 ∧ f1.offset = 1) (hC2 : P.cellsOf f2.type = 2 ∧ f2.offset = 2)
    (hs2 : P.underlying f2.type = some (.struct #[k0, k1])) (hk : oneCellFields P #[k0, k1] = true)
    (ht0 : P.underlying k0.type = some (.slice ti)) (hi : P.underlying ti = some (.int .i64)) (hci : P.cellsOf ti = 1) (ht1 : P.underlying k1.type = some (.slice e)) (he : P.underlying e = some (.slice ti)) (ce : P.cellsOf e = 1)
    (hv : Value.okWide P w r b0 t v) (h : DataW.Trod enc P w base spare held t v d p) :
    ∃ (n : Int) (c1 c2 c3 : Value) (rs xs : List Int) (qs : List (List Int)), v = .agg #[.int .i64 n, c1, c2, c3] ∧ Reads w 1 c1 rs.length (ints rs) ∧ Reads w 1 c2 xs.length (ints xs) ∧ Reads2 ints w c3 qs := by
  obtain ⟨cs, rfl, hsz⟩ := okWide_struct hs hv
  obtain ⟨c0, c1, c2, c3, rfl⟩ := array4 (hsz.trans hC)
  obtain ⟨fuel, hf⟩ := h
  obtain ⟨y0, y1, y2, n, hx, _, h0, h1, h2⟩ := trod_struct3 hs hf
  rw [hC0.1, hC0.2] at h0
  rw [hC1.1, hC1.2] at h1
  rw [hC2.1, hC2.2] at h2
  simp only [Value.cells, List.drop, List.take] at h0 h1 h2
  obtain ⟨z, hz, _⟩ := DataW.trod_int hT0 h0
  obtain ⟨rs, r1, _⟩ := rd_ints hT1 hi hci h1
  obtain ⟨g0, g1, n2, hx2, _, i0, i1⟩ := trod_struct2 hs2 h2
  obtain ⟨o0, q0⟩ := hone_of hk 0 k0 rfl
  obtain ⟨o1, q1⟩ := hone_of hk 1 k1 rfl
  obtain ⟨xs, r2, _⟩ := rd_ints ht0 hi hci (by simpa [o0, q0] using i0)
  obtain ⟨as', r3⟩ := rd_intss ht1 he hi ce hci (by simpa [o1, q1] using i1)
  simp only [List.cons.injEq, and_true] at hz
  subst hz
  exact ⟨z, c1, c2, c3, rs, xs, as', rfl, r1, r2, r3⟩
end Go.Proofs.Ytbglogjamfdmpaa
