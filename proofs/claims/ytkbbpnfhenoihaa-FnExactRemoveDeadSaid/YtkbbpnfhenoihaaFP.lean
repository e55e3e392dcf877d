/-
  FenceCode: plain.
-/
import Derived.Test.YtkbbpnfhenoihaaER
import Derived.Test.YtkbbpnfhenoihaaTA
namespace Go.Proofs.Ytkbbpnfhenoihaa
open Go.RowKit

def needAt (l : List Ins) (k : Nat) : Bool := match (marksOf l)[k]?, l[k]? with | some m, some x => m && !(x.op == 12) | _, _ => false
theorem needAt_eq {l : List Ins} {k : Nat} (h1 : k < (marksOf l).length) (h2 : k < l.length) : needAt l k = ((marksOf l)[k] && !(l[k].op == 12)) := by
  unfold needAt; rw [List.getElem?_eq_getElem h1, List.getElem?_eq_getElem h2]
/-- how many instructions the first k take behind fencing -/
def cnt (l : List Ins) : Nat → Nat
  | 0 => 0
  | k + 1 => cnt l k + (if needAt l k = true then 2 else 1)
theorem cnt_le (l : List Ins) (k : Nat) : cnt l k ≤ 2 * k := by
  induction k with
  | zero => simp [cnt]
  | succ k ih => simp only [cnt]; split <;> omega
def fence : Ins := ⟨12, 0, 0, 0, 0⟩
def fx (l : List Ins) (x : Ins) : Ins := if 0 ≤ tgt x then aim x (cnt l (tgt x).toNat) else x
def fenceTo (l : List Ins) : Nat → List Ins
  | 0 => []
  | k + 1 => fenceTo l k ++ ((if needAt l k = true then [fence] else []) ++ (match l[k]? with | some x => [fx l x] | none => []))
theorem fenceTo_succ (l : List Ins) (k : Nat) (h : k < l.length) : fenceTo l (k + 1) = fenceTo l k ++ ((if needAt l k = true then [fence] else []) ++ [fx l l[k]]) := by
  conv => lhs; unfold fenceTo
  rw [List.getElem?_eq_getElem h]
theorem fenceTo_len (l : List Ins) (k : Nat) (h : k ≤ l.length) : (fenceTo l k).length = cnt l k := by
  induction k with
  | zero => rfl
  | succ k ih =>
    rw [fenceTo_succ l k (by omega), List.length_append, ih (by omega)]
    simp only [cnt, List.length_append, List.length_cons, List.length_nil]
    split <;> simp
def needs (l : List Ins) (k : Nat) : List Bool := (List.range k).map (needAt l)
theorem needs_len (l : List Ins) (k : Nat) : (needs l k).length = k := by simp [needs]
theorem needs_succ (l : List Ins) (k : Nat) : needs l (k + 1) = needs l k ++ [needAt l k] := by simp [needs, List.range_succ]
theorem needs_get (l : List Ins) (n k : Nat) (h : k < (needs l n).length) : (needs l n)[k] = needAt l k := by simp [needs]
def places (l : List Ins) (k : Nat) : List Int := (List.range k).map (fun i => (cnt l i : Int))
theorem places_len (l : List Ins) (k : Nat) : (places l k).length = k := by simp [places]
theorem places_succ (l : List Ins) (k : Nat) : places l (k + 1) = places l k ++ [(cnt l k : Int)] := by simp [places, List.range_succ]
theorem places_get (l : List Ins) (n k : Nat) (h : k < (places l n).length) : (places l n)[k] = (cnt l k : Int) := by simp [places]
def fenceR (c : Cd) : Cd × Bool := if codeOk c = true ∧ cnt c.list c.list.length ≤ 400 then (⟨c.vars, c.arrays, fenceTo c.list c.list.length⟩, true) else (noCode, false)
theorem fenceR_no {c : Cd} (h : ¬ (codeOk c = true ∧ cnt c.list c.list.length ≤ 400)) : fenceR c = (noCode, false) := by unfold fenceR; rw [if_neg h]
theorem fenceR_yes {c : Cd} (h : codeOk c = true ∧ cnt c.list c.list.length ≤ 400) : fenceR c = (⟨c.vars, c.arrays, fenceTo c.list c.list.length⟩, true) := by unfold fenceR; rw [if_pos h]
theorem fenceR_lens (c : Cd) : (fenceR c).1.vars.length ≤ 1048576 ∧ (fenceR c).1.arrays.length ≤ 1048576 ∧ (fenceR c).1.list.length ≤ 1048576 := by
  by_cases h : codeOk c = true ∧ cnt c.list c.list.length ≤ 400
  · rw [fenceR_yes h]
    have h1 := declOk_len (codeOk_decl h.1)
    have h2 := fenceTo_len c.list c.list.length (Nat.le_refl _)
    refine ⟨?_, ?_, ?_⟩ <;> simp only <;> omega
  · rw [fenceR_no h]
    simp [noCode]
theorem tgt_in {nv na nl : Nat} {x : Ins} (h : insOk nv na nl x = true) (h0 : 0 ≤ tgt x) : tgt x < nl ∧ (x.op = 8 ∨ x.op = 9 ∨ x.op = 10) := by
  rcases tgt_cases x with ⟨h8, ht, _⟩ | ⟨h9, ht, _⟩ | ⟨h9, ht, _⟩ | ⟨_, ht, _⟩
  · refine ⟨?_, Or.inl h8⟩
    rw [ht]
    obtain ⟨op, a, b, c, d⟩ := x
    simp only at h8
    subst h8
    unfold insOk at h
    simp [shp, flds, fOk] at h
    have := of_decide_eq_true h.2.1
    simp only
    omega
  · have := br_in h (by unfold isBr; rw [h9]; rfl)
    exact ⟨by rw [ht]; exact this.2, Or.inr (Or.inl h9)⟩
  · have := br_in h (by unfold isBr; rw [h9]; rfl)
    exact ⟨by rw [ht]; exact this.2, Or.inr (Or.inr h9)⟩
  · omega
end Go.Proofs.Ytkbbpnfhenoihaa
