/-
 Parts of the proof of the law FnSpecPath.
-/
import Derived.Lib.SmallJoins
import Derived.Test.YtkjedgnepnbkpaaC
import Derived.Test.YtkjedgnepnbkpaaK
import Derived.Test.YtkjedgnepnbkpaaProg
set_option linter.all false
namespace Go.Proofs.Ytkjedgnepnbkpaa
open Go.RowKit Go.ChangeShapes Go.WideShapes

variable {H : Type} {enc : TypeId × Value → H} {P : Program} {w : World} {base : Nat} {spare : Nat → Bool} {held : Bool}

theorem rd_bytes {t e : TypeId} {fuel : Nat} {c : Value} {x : DataW H × List MemPlace} (ht : P.underlying t = some (.slice e)) (he : P.underlying e = some (.int .u8)) (hc : P.cellsOf e = 1)
  (h : DataW.trod enc P w base spare held fuel t [c] = some x) : ∃ xs : List Int, Reads w 1 c xs.length (xs.map (Value.int .u8)) ∧ ∀ n ∈ xs, 0 ≤ n ∧ n < 256 := by
 rcases open_ints ht he hc h with ⟨hcs, _⟩ | ⟨a, len, cap, zs, hcs, _, hl, hm, hz, _, hcell, hwz⟩
 ·simp only [List.cons.injEq, and_true] at hcs
  subst hcs
  exact ⟨[], Ro (World.ownsRow_nil w 0 0 1) (by simp), fun n hn => by cases hn⟩
 ·simp only [List.cons.injEq, and_true] at hcs
  subst hcs
  have hlen : len ≤ zs.length := by rw [hz]; split <;> omega
  have htl : (zs.take len).length = len := by rw [List.length_take]; omega
  refine ⟨zs.take len, ?_, fun n hn => by have h := hwz n (List.mem_of_mem_take hn); simp [Lit.wf, IntKind.min, IntKind.max, IntKind.bits, IntKind.signed] at h; omega⟩
  rw [htl]
  obtain ⟨b, off, spot⟩ := a
  refine ⟨by rw [List.length_map, htl]; omega, by unfold maxLen at hm; omega, some ⟨b, off, spot⟩, cap, b, off, rfl, ⟨hl, fun h => by cases h⟩, ?_, ?_⟩
  ·intro h0
   have hc0 := hcell 0 (by omega)
   have hspot : spot = none := by simpa [Addr.add] using World.cell?_spot hc0
   subst hspot
   exact ⟨rfl, by have := World.block_lt_of_cell? w _ hc0; simpa [Addr.add] using this⟩
  ·intro j hj
   have hj' : j < len := by rw [List.length_map, htl] at hj; exact hj
   have hc0 := hcell 0 (by omega)
   have hspot : spot = none := by simpa [Addr.add] using World.cell?_spot hc0
   subst hspot
   have hcj := hcell j (by omega)
   rw [addr_add] at hcj
   rw [hcj, List.getElem_map, List.getElem_take]
   congr 2
   simp only [List.getD_eq_getElem?_getD]
   rw [List.getElem?_eq_getElem (by omega)]
   rfl

theorem op_bytes {r : Reach} {b0 : Nat} {t e : TypeId} {v : Value} {d : DataW H} {p : List MemPlace} (ht : P.underlying t = some (.slice e)) (he : P.underlying e = some (.int .u8)) (hc : P.cellsOf e = 1)
  (hv : Value.okWide P w r b0 t v) (h : DataW.Trod enc P w base spare held t v d p) :
  ∃ xs : List Int, Reads w 1 v xs.length (xs.map (Value.int .u8)) ∧ ∀ n ∈ xs, 0 ≤ n ∧ n < 256 := by
 obtain ⟨a, len, cap, rfl⟩ := okWide_slice ht hv
 obtain ⟨fuel, hf⟩ := h
 exact rd_bytes ht he hc (c := .slice a len cap) (by simpa [Value.cells] using hf)
end Go.Proofs.Ytkjedgnepnbkpaa


namespace Go.Proofs.Ytkjedgnepnbkpaa
open Go.RowKit

theorem info_Instr : (Try.prog.info? 32).map (fun i => (i.zero, i.size, i.bytes)) = some (some (.agg #[.int .i64 0, .int .i64 0, .int .i64 0, .int .i64 0, .int .i64 0]), 5, 40) := by kernel_rfl
end Go.Proofs.Ytkjedgnepnbkpaa
namespace Go.Proofs.Ytkjedgnepnbkpaa
open Go.RowKit

theorem Ac {w : World} {a : Addr} {x : Value} (h : w.cell? a = some x) (o : Obj) : (w.alloc o).cell? a = some x := by
 have hb := World.block_lt_of_cell? w a h
 rw [← h]
 exact World.cell?_of_block (w := w) (heap_alloc_old w o hb)
theorem Nc {w : World} {b j b' j' : Nat} {x : Value} (h : w.cell? ⟨b', j', none⟩ = some x) (hn : ¬ (b' = b ∧ j' = j)) (u : Value) : (w.setCell ⟨b, j, none⟩ u).cell? ⟨b', j', none⟩ = some x := by
 rw [World.cell?_setCell_other w ⟨b, j, none⟩ ⟨b', j', none⟩ u (fun e => hn (by simp only [Addr.mk.injEq] at e; omega))]
 exact h
theorem Wc {w : World} {cs : Array Value} {t : TypeId} {b j : Nat} {x : Value} (hb : b = w.heap.size) (h : cs[j]? = some x) : (w.alloc (.cells cs t)).cell? ⟨b, j, none⟩ = some x := by
 subst hb
 rw [cell_of_row _ _ j cs t (0, 0) (heap_alloc_new w _)]; exact h
theorem Fn {w : World} {cs : Array Value} {t : TypeId} {b j : Nat} (hb : b = w.heap.size) : (w.alloc (.cells cs t)).frozen? ⟨b, j, none⟩ = false := by
 subst hb
 exact froz_new w cs t j
theorem Fa {w : World} {b j : Nat} {c : Bool} (hb : b < w.heap.size) (h : w.frozen? ⟨b, j, none⟩ = c) (o : Obj) : (w.alloc o).frozen? ⟨b, j, none⟩ = c := by
 rw [← h]
 exact World.frozen?_of_block (w := w) (heap_alloc_old w o hb)
theorem Fs {w : World} {a b : Addr} {c : Bool} (h : w.frozen? a = c) (u : Value) : (w.setCell b u).frozen? a = c := (froz_set w b u a).trans h

theorem Gc {S : Nat → Prop} {w w' : World} (h : Chg S w w') {b j : Nat} {x : Value} (hc : w.cell? ⟨b, j, none⟩ = some x) (hs : ¬ S b) : w'.cell? ⟨b, j, none⟩ = some x := (h.cell j (Lc hc) hs).trans hc
theorem Gf {S : Nat → Prop} {w w' : World} (h : Chg S w w') {b j : Nat} {c : Bool} (hb : b < w.heap.size) (hc : w.frozen? ⟨b, j, none⟩ = c) (hs : ¬ S b) : w'.frozen? ⟨b, j, none⟩ = c := (h.frozen j hb hs).trans hc
/-- rows of different element types lie in different blocks -/
theorem own_diff {w : World} {base base' : Nat} {e e' : TypeId} {sz sz' n n' : Nat} {v v' : Value} {xs ys : List Value} (h : w.ownsRow base e sz v n xs) (h' : w.ownsRow base' e' sz' v' n' ys) (he : e ≠ e') : ∀ q, v.ownBlock = some q → v'.ownBlock = some q → False := by
 intro q h1 h2
 rcases h.2 with ⟨rfl, _⟩ | ⟨g, cap, cur, rfl, _, hg, _⟩
 ·simp [Value.ownBlock] at h1
 ·rcases h'.2 with ⟨rfl, _⟩ | ⟨g', cap', cur', rfl, _, hg', _⟩
  ·simp [Value.ownBlock] at h2
  ·have e1 : g = q := Option.some.inj h1
   have e2 : g' = q := Option.some.inj h2
   subst e1
   subst e2
   rw [hg] at hg'
   simp only [Option.some.injEq, Obj.cells.injEq] at hg'
   exact he hg'.2.1

/-- code, as plain data -/
structure Cd where
 vars : List Int
 arrays : List Int
 list : List Ins
deriving DecidableEq

/-- the value of a code reads as it -/
structure ReadsC (w : World) (va vb vc : Value) (c : Cd) : Prop where
 a : Reads w 1 va c.vars.length (ints c.vars)
 b : Reads w 1 vb c.arrays.length (ints c.arrays)
 l : Reads w 5 vc c.list.length (inss c.list)
/-- q is a block in which a code's value that is read lies -/
def ReadB (va vb vc : Value) (c : Cd) (q : Nat) : Prop :=
 (∃ o cap, 0 < c.vars.length ∧ va = .slice (some ⟨q, o, none⟩) c.vars.length cap) ∨ (∃ o cap, 0 < c.arrays.length ∧ vb = .slice (some ⟨q, o, none⟩) c.arrays.length cap) ∨ (∃ o cap, 0 < c.list.length ∧ vc = .slice (some ⟨q, o, none⟩) c.list.length cap)
theorem ReadsC.lt {w : World} {va vb vc : Value} {c : Cd} (h : ReadsC w va vb vc c) : ∀ q, ReadB va vb vc c q → q < w.heap.size := by
 intro q hq
 rcases hq with ⟨o, cap, h0, hv⟩ | ⟨o, cap, h0, hv⟩ | ⟨o, cap, h0, hv⟩
 ·exact reads_lt h.a q o cap h0 hv
 ·exact reads_lt h.b q o cap h0 hv
 ·exact reads_lt h.l q o cap h0 hv
theorem ReadsC.keep {w w' : World} {va vb vc : Value} {c : Cd} (h : ReadsC w va vb vc c) {S : Nat → Prop} (hc : Chg S w w') (hs : ∀ q, ReadB va vb vc c q → ¬ S q) : ReadsC w' va vb vc c :=
 ⟨h.a.keep hc (fun b o cap h0 hv => hs b (Or.inl ⟨o, cap, h0, hv⟩)), h.b.keep hc (fun b o cap h0 hv => hs b (Or.inr (Or.inl ⟨o, cap, h0, hv⟩))), h.l.keep hc (fun b o cap h0 hv => hs b (Or.inr (Or.inr ⟨o, cap, h0, hv⟩)))⟩
theorem ReadsC.below {w w' : World} {va vb vc : Value} {c : Cd} (h : ReadsC w va vb vc c) (hb : Below w.heap.size w w') : ReadsC w' va vb vc c := ⟨h.a.below hb, h.b.below hb, h.l.below hb⟩
theorem ReadsC.shape {w : World} {va vb vc : Value} {c : Cd} (h : ReadsC w va vb vc c) : ∃ a0 c0 a1 c1 a2 c2, va = .slice a0 c.vars.length c0 ∧ vb = .slice a1 c.arrays.length c1 ∧ vc = .slice a2 c.list.length c2 := by
 obtain ⟨a0, c0, h0⟩ := reads_shape h.a
 obtain ⟨a1, c1, h1⟩ := reads_shape h.b
 obtain ⟨a2, c2, h2⟩ := reads_shape h.l
 exact ⟨a0, c0, a1, c1, a2, c2, h0, h1, h2⟩

/-- the call owns the value of a code: three rows, in blocks of their own -/
structure OwnC (w : World) (base : Nat) (va vb vc : Value) (c : Cd) : Prop where
 a : w.ownsRow base 3 1 va c.vars.length (ints c.vars)
 b : w.ownsRow base 3 1 vb c.arrays.length (ints c.arrays)
 l : w.ownsRow base 32 5 vc c.list.length (inss c.list)
 ab : ∀ q, va.ownBlock = some q → vb.ownBlock = some q → False
def OwnB (va vb vc : Value) (q : Nat) : Prop := va.ownBlock = some q ∨ vb.ownBlock = some q ∨ vc.ownBlock = some q
theorem OwnC.lt {w : World} {base : Nat} {va vb vc : Value} {c : Cd} (h : OwnC w base va vb vc c) : ∀ q, OwnB va vb vc q → base ≤ q ∧ q < w.heap.size := by
 intro q hq
 rcases hq with hq | hq | hq
 ·exact h.a.lt q hq
 ·exact h.b.lt q hq
 ·exact h.l.lt q hq
theorem OwnC.keep {w w' : World} {base : Nat} {va vb vc : Value} {c : Cd} (h : OwnC w base va vb vc c) {S : Nat → Prop} (hc : Chg S w w') (hs : ∀ q, OwnB va vb vc q → ¬ S q) : OwnC w' base va vb vc c :=
 ⟨Ow h.a hc (fun q hq => hs q (Or.inl hq)), Ow h.b hc (fun q hq => hs q (Or.inr (Or.inl hq))), Ow h.l hc (fun q hq => hs q (Or.inr (Or.inr hq))), h.ab⟩
theorem OwnC.below {w w' : World} {base : Nat} {va vb vc : Value} {c : Cd} (h : OwnC w base va vb vc c) (hb : Below w.heap.size w w') : OwnC w' base va vb vc c := h.keep (S := fun _ => False) (Chg.of_below hb) (fun _ _ => id)
theorem OwnC.mono {w : World} {base base' : Nat} {va vb vc : Value} {c : Cd} (h : OwnC w base va vb vc c) (hb : base' ≤ base) : OwnC w base' va vb vc c := ⟨Om h.a hb, Om h.b hb, Om h.l hb, h.ab⟩
theorem OwnC.reads {w : World} {base : Nat} {va vb vc : Value} {c : Cd} (h : OwnC w base va vb vc c) (h0 : c.vars.length ≤ 9223372036854775807) (h1 : c.arrays.length ≤ 9223372036854775807) (h2 : c.list.length ≤ 9223372036854775807) : ReadsC w va vb vc c :=
 ⟨Ro h.a h0, Ro h.b h1, Ro h.l h2⟩
theorem OwnC.shape {w : World} {base : Nat} {va vb vc : Value} {c : Cd} (h : OwnC w base va vb vc c) : ∃ a0 c0 a1 c1 a2 c2, va = .slice a0 c.vars.length c0 ∧ vb = .slice a1 c.arrays.length c1 ∧ vc = .slice a2 c.list.length c2 := by
 obtain ⟨a0, c0, h0⟩ := Oh h.a
 obtain ⟨a1, c1, h1⟩ := Oh h.b
 obtain ⟨a2, c2, h2⟩ := Oh h.l
 exact ⟨a0, c0, a1, c1, a2, c2, h0, h1, h2⟩

end Go.Proofs.Ytkjedgnepnbkpaa
