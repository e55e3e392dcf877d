/-
  Parts of the proof of the law FnExactSpecRun.
-/
import Derived.Test.YtbglogjamfdmpaaNA
import Derived.Test.YtbglogjamfdmpaaNB
namespace Go.Proofs.Ytbglogjamfdmpaa
open Go.RowKit

def runE (c : Cd) (m : Mm) : List Ev := match finN c m with | some n => evN c (n + 1) (ini m) | none => []
def runM (c : Cd) (m : Mm) : Mm := match finN c m with | some n => (stN c (n + 1) (ini m)).mem | none => ⟨[], []⟩
def runB (c : Cd) (m : Mm) : Bool := (finN c m).isSome
theorem run_no {c : Cd} {m : Mm} (h : finN c m = none) : runE c m = [] ∧ runM c m = ⟨[], []⟩ ∧ runB c m = false := by unfold runE runM runB; rw [h]; exact ⟨rfl, rfl, rfl⟩
theorem run_yes {c : Cd} {m : Mm} {n : Nat} (h : finN c m = some n) : runE c m = evN c (n + 1) (ini m) ∧ runM c m = (stN c (n + 1) (ini m)).mem ∧ runB c m = true := by unfold runE runM runB; rw [h]; exact ⟨rfl, rfl, rfl⟩
theorem finN_lt {c : Cd} {m : Mm} {n : Nat} (h : finN c m = some n) : n < 20000 := by
  unfold finN at h
  split at h
  · have hf : ∀ (p : Nat → Bool) (f k n : Nat), fstH p f k = some n → n < k + f := by
      intro p f
      induction f with
      | zero => intro k n h; cases h
      | succ f ih =>
        intro k n h
        rw [fstH] at h
        split at h
        · have := Option.some.inj h; omega
        · have := ih _ _ h; omega
    have := hf _ _ _ _ h; omega
  · cases h
theorem noMem_own (w : World) (base : Nat) : OwnM w base (.slice none 0 0) (.slice none 0 0) [] ⟨[], []⟩ :=
  ⟨World.ownsRow_nil _ _ _ _, ⟨rfl, World.ownsRow_nil _ _ _ _, fun k u r h => by simp at h, fun j k u u' h => by simp at h⟩, fun q h => by simp [Value.ownBlock] at h⟩
theorem OwnMv.toM {w : World} {base : Nat} {vr vv va : Value} {us : List Value} {rs : List Int} {m : Mm} (h : OwnMv w base vr vv va us rs m) : OwnM w base vv va us m := ⟨h.v, h.a, h.va⟩


end Go.Proofs.Ytbglogjamfdmpaa
