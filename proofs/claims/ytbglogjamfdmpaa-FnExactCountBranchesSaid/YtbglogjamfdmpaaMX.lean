/-
  Parts of the proof of the law FnExactCountBranches.
-/
import Derived.Test.YtbglogjamfdmpaaMX1
import Derived.Test.YtbglogjamfdmpaaMX2
import Derived.Test.YtbglogjamfdmpaaNA
import Derived.Test.YtbglogjamfdmpaaNB
namespace Go.Proofs.Ytbglogjamfdmpaa
open Go.RowKit

theorem exec_any (tb base : Nat) (va vb vc vr vv vA u : Value) (us : List Value) (c : Cd) (s : Ms) (E : List Ev) (w : World) (hr : ReadsC w va vb vc c) (hO : OwnMv w base vr vv vA us s.regs s.mem) (hE : w.ownsRow tb 89 2 u E.length (evs E)) (hd : ∀ q, u.ownBlock = some q → ¬ OwnMB vr vv vA us q) (htb : tb ≤ w.heap.size) (hEl : E.length ≤ 1048576) (hM : MsOk c s) (hok : codeOk c = true) :
    Calls Try.prog 112 #[.agg #[va, vb, vc], .agg #[.int .i64 s.pc, vr, vv, vA], u] w fun e w' => ∃ u', e = .returned (.tuple #[.agg #[.int .i64 (stPc (insAt c s.pc) s), vr, vv, vA], u']) ∧ OwnMv w' base vr vv vA us (stRegs (insAt c s.pc) s) (stMem (insAt c s.pc) s) ∧ w'.ownsRow tb 89 2 u' (E ++ stEvs (insAt c s.pc) s).length (evs (E ++ stEvs (insAt c s.pc) s)) ∧ (∀ q, u'.ownBlock = some q → ¬ OwnMB vr vv vA us q ∧ (u.ownBlock = some q ∨ w.heap.size ≤ q)) ∧ Chg (fun q => OwnMB vr vv vA us q ∨ u.ownBlock = some q) w w' := by
  have hop : 1 ≤ (insAt c s.pc).op ∧ (insAt c s.pc).op ≤ 13 := by
    have h0 := hM.pc0
    have h1 := hM.pc1
    unfold insAt
    rw [List.getElem?_eq_getElem (by omega)]
    exact insOk_op (codeOk_all hok _ (by omega))
  by_cases h : (insAt c s.pc).op ≤ 5
  · exact exec_1_5 tb base va vb vc vr vv vA u us c s E w hr hO hE hd htb hEl hM hok ⟨hop.1, h⟩
  · exact exec_6_13 tb base va vb vc vr vv vA u us c s E w hr hO hE hd htb hEl hM hok ⟨by omega, hop.2⟩
end Go.Proofs.Ytbglogjamfdmpaa
namespace Go.Proofs.Ytbglogjamfdmpaa
open Go.RowKit

def runE (c : Cd) (m : Mm) : List Ev := match finN c m with | some n => evN c (n + 1) (ini m) | none => []
def runM (c : Cd) (m : Mm) : Mm := match finN c m with | some n => (stN c (n + 1) (ini m)).mem | none => ⟨[], []⟩
def runB (c : Cd) (m : Mm) : Bool := (finN c m).isSome
theorem run_no {c : Cd} {m : Mm} (h : finN c m = none) : runE c m = [] ∧ runM c m = ⟨[], []⟩ ∧ runB c m = false := by unfold runE runM runB; rw [h]; exact ⟨rfl, rfl, rfl⟩
theorem run_yes {c : Cd} {m : Mm} {n : Nat} (h : finN c m = some n) : runE c m = evN c (n + 1) (ini m) ∧ runM c m = (stN c (n + 1) (ini m)).mem ∧ runB c m = true := by unfold runE runM runB; rw [h]; exact ⟨rfl, rfl, rfl⟩
theorem finN_lt {c : Cd} {m : Mm} {n : Nat} (h : finN c m = some n) : n < 20000 := by
  unfold finN at h
  split at h
  · have hf : ∀ (p : Nat → Bool) (f k n : Nat), fstH p f k = some n → n < k + f := by
      intro p f
      induction f with
      | zero => intro k n h; cases h
      | succ f ih =>
        intro k n h
        rw [fstH] at h
        split at h
        · have := Option.some.inj h; omega
        · have := ih _ _ h; omega
    have := hf _ _ _ _ h; omega
  · cases h
theorem runE_len (c : Cd) (m : Mm) : (runE c m).length ≤ 40000 := by
  cases h : finN c m with
  | none => rw [(run_no h).1]; simp
  | some n => rw [(run_yes h).1]; have := evN_len c (ini m) (n + 1); have := finN_lt h; omega
theorem noMem_own (w : World) (base : Nat) : OwnM w base (.slice none 0 0) (.slice none 0 0) [] ⟨[], []⟩ :=
  ⟨World.ownsRow_nil _ _ _ _, ⟨rfl, World.ownsRow_nil _ _ _ _, fun k u r h => by simp at h, fun j k u u' h => by simp at h⟩, fun q h => by simp [Value.ownBlock] at h⟩
theorem OwnMv.toM {w : World} {base : Nat} {vr vv va : Value} {us : List Value} {rs : List Int} {m : Mm} (h : OwnMv w base vr vv va us rs m) : OwnM w base vv va us m := ⟨h.v, h.a, h.va⟩


end Go.Proofs.Ytbglogjamfdmpaa
