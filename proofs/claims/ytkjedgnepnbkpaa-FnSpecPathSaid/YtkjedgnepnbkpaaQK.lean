/-
 Parts of the proof of the law FnSpecPath.
-/
import Derived.Test.YtkjedgnepnbkpaaQC
import Derived.Test.YtkjedgnepnbkpaaQG
import Derived.Test.YtkjedgnepnbkpaaQJ
import Derived.Test.YtkjedgnepnbkpaaYC
import Derived.Test.YtkjedgnepnbkpaaYD
import Derived.Test.YtkjedgnepnbkpaaZM





set_option linter.all false
namespace Go.Proofs.Ytkjedgnepnbkpaa
open Go.RowKit

/-- what a draw of code gives: so many variables, arrays and instructions at most -/
def CodeP (v a n d B g p : Nat) (w : World) (r : Ending) (w' : World) : Prop := ∃ (ua ub ul : Value) (nv na nl p' : Nat), r = .returned (.agg #[ua, ub, ul]) ∧ DrawC w' w.heap.size ua ub ul nv na nl ∧ nv ≤ v ∧ na ≤ a ∧ nl ≤ n ∧ Rnd w' B g p' ∧ p' ≤ p + d ∧ Chg (fun q => q = g) w w'

end Go.Proofs.Ytkjedgnepnbkpaa
namespace Go.Proofs.Ytkjedgnepnbkpaa
open Go.RowKit

/-- a drawn code: it reads, it is not long -/
structure RdC (w : World) (va vb vc : Value) (c : Cd) : Prop where
 r : ReadsC w va vb vc c
 l0 : c.vars.length ≤ 1000
 l1 : c.arrays.length ≤ 1000
 l2 : c.list.length ≤ 1000
structure RdM (w : World) (vx vy : Value) (m : Mm) : Prop where
 r : ReadsM w vx vy m
 l0 : m.vals.length ≤ 1010
 l1 : m.arrs.length ≤ 1010
 l2 : pre2 m.arrs m.arrs.length ≤ 5000
theorem RdC.of {w : World} {base : Nat} {va vb vl : Value} {nv na nl : Nat} (h : DrawC w base va vb vl nv na nl) (h0 : nv ≤ 1000) (h1 : na ≤ 1000) (h2 : nl ≤ 1000) : ∃ c : Cd, RdC w va vb vl c := by
 obtain ⟨c, e1, e2, e3, hr⟩ := h.reads (by omega) (by omega) (by omega)
 exact ⟨c, hr, by omega, by omega, by omega⟩
theorem RdC.below {w w' : World} {va vb vc : Value} {c : Cd} (h : RdC w va vb vc c) (hb : Below w.heap.size w w') : RdC w' va vb vc c := ⟨h.r.below hb, h.l0, h.l1, h.l2⟩
theorem RdM.below {w w' : World} {vx vy : Value} {m : Mm} (h : RdM w vx vy m) (hb : Below w.heap.size w w') : RdM w' vx vy m := ⟨h.r.below hb, h.l0, h.l1, h.l2⟩
theorem RdM.of {w : World} {base : Nat} {vx vy : Value} {m : Mm} (h : DrM w base vx vy m) : RdM w vx vy m := ⟨h.reads, h.l0, h.l1, by have := h.pre; have := h.l1; omega⟩
/-- l6Mutate on a drawn code above block g -/
theorem l6Mutate_of (va vb vl : Value) (nv na nl base B g p : Nat) (w : World) (h : DrawC w base va vb vl nv na nl) (hg : g < base) (h0 : nv ≤ 1000) (h1 : na ≤ 1000) (h2 : nl ≤ 1000) (hR : Rnd w B g p) (hp : p + 5 ≤ 1000000000) :
  Calls Try.prog 48 #[.pointer (some ⟨g, 0, none⟩), .agg #[va, vb, vl]] w fun r w' => CodeP nv na nl 5 B g p w r w' := by
 obtain ⟨c, e1, e2, e3, hr⟩ := h.reads (by omega) (by omega) (by omega)
 have hlt := h.lt
 have hq : ∀ q, ReadB va vb vl c q → ¬ q = g := by
  intro q hq
  have : OwnB va vb vl q := by
   rcases hq with ⟨o, cp, _, e⟩ | ⟨o, cp, _, e⟩ | ⟨o, cp, _, e⟩
   ·exact Or.inl (by rw [e]; rfl)
   ·exact Or.inr (Or.inl (by rw [e]; rfl))
   ·exact Or.inr (Or.inr (by rw [e]; rfl))
  have := hlt q this; omega
 refine (l6Mutate_any va vb vl c B g p w hr hq (by omega) (by omega) (by omega) hR hp).mono ?_
 rintro r w' ⟨ua, ub, ul, nv', p', hr', hd, hv, hR', hp', hC⟩
 exact ⟨ua, ub, ul, nv', na, nl, p', hr', e2 ▸ e3 ▸ hd, by omega, Nat.le_refl _, Nat.le_refl _, hR', hp', hC⟩
end Go.Proofs.Ytkjedgnepnbkpaa
