/-
  Parts of the proof of the law FnExactRunTime.
-/
import Derived.Test.YtbglogjamfdmpaaJ
namespace Go.Proofs.Ytbglogjamfdmpaa
open Go.RowKit

abbrev Ev := Int × Int
/-- a row of events, as cells -/
def evs : List Ev → List Value
  | [] => []
  | e :: l => .int .i64 e.1 :: .int .i64 e.2 :: evs l
theorem evs_length (l : List Ev) : (evs l).length = l.length * 2 := by
  induction l with
  | nil => rfl
  | cons e l ih => simp only [evs, List.length_cons, ih]; omega
theorem evs_append (a b : List Ev) : evs (a ++ b) = evs a ++ evs b := by
  induction a with
  | nil => rfl
  | cons e l ih => simp [evs, ih]
theorem evs_get (l : List Ev) (k : Nat) (h : k < l.length) : (evs l)[k * 2]? = some (.int .i64 l[k].1) ∧ (evs l)[k * 2 + 1]? = some (.int .i64 l[k].2) := by
  induction l generalizing k with
  | nil => cases h
  | cons e l ih =>
    cases k with
    | zero => exact ⟨rfl, rfl⟩
    | succ k =>
      have h' := ih k (by simpa using h)
      have e1 : (k + 1) * 2 = k * 2 + 1 + 1 := by omega
      rw [e1]
      exact ⟨by simpa [evs] using h'.1, by simpa [evs] using h'.2⟩
theorem one_evs (l : List Ev) : ∀ u ∈ evs l, u.oneCell' = true := by
  induction l with
  | nil => intro u hu; cases hu
  | cons e l ih =>
    intro u hu
    simp only [evs, List.mem_cons] at hu
    rcases hu with rfl | rfl | hu
    · rfl
    · rfl
    · exact ih u hu

/-- the cells of element k -/
theorem reads_ev {w : World} {b off : Nat} {l : List Ev} (hc : ∀ j (h : j < (evs l).length), w.cell? ⟨b, off + j, none⟩ = some (evs l)[j]) (k : Nat) (h : k < l.length) :
    w.cell? ⟨b, off + k * 2, none⟩ = some (.int .i64 l[k].1) ∧ w.cell? ⟨b, off + k * 2 + 1, none⟩ = some (.int .i64 l[k].2) := by
  have hl := evs_length l
  obtain ⟨g1, g2⟩ := evs_get l k h
  have h1 := hc (k * 2) (by omega)
  have h2 := hc (k * 2 + 1) (by omega)
  rw [List.getElem?_eq_getElem (by omega)] at g1 g2
  rw [h1, ← Nat.add_assoc] at *
  exact ⟨g1, h2.trans g2⟩

def touches (e : Ev) : Bool := decide (e.1 = 2 ∨ e.1 = 3)
def isAddr (a : Int) : Bool := decide (0 ≤ a ∧ a ≤ 7)
def cstep (s : List Int × List Bool) (e : Ev) : Option (List Int × List Bool) :=
  if touches e = true then (if isAddr e.2 = true then some (accL s.1 e.2, s.2 ++ [accH s.1 e.2]) else none) else some s
def crun (xs : List Int) (l : List Ev) : Option (List Int × List Bool) := l.foldlM cstep (xs, [])
def crunR (xs : List Int) (l : List Ev) : List Int × List Bool × Bool :=
  if cacheOk xs = true then (match crun xs l with | some (y, h) => (y, h, true) | none => ([], [], false)) else ([], [], false)

theorem crun_snoc (xs : List Int) (l : List Ev) (e : Ev) : crun xs (l ++ [e]) = (crun xs l).bind (fun s => cstep s e) := by
  unfold crun; rw [List.foldlM_append]; simp
theorem crun_take (xs : List Int) (l : List Ev) (k : Nat) (h : k < l.length) : crun xs (l.take (k + 1)) = (crun xs (l.take k)).bind (fun s => cstep s l[k]) := by
  rw [List.take_succ_eq_append_getElem h, crun_snoc]
theorem crun_none (xs : List Int) (l : List Ev) (k : Nat) (h : crun xs (l.take k) = none) : crun xs l = none := by
  have e : l = l.take k ++ l.drop k := (List.take_append_drop k l).symm
  rw [e]; unfold crun at h ⊢; rw [List.foldlM_append, h]; rfl

theorem accL_ok {xs : List Int} {a : Int} (h : accOk xs a = true) : cacheOk (accL xs a) = true := by
  have hh := h
  unfold accOk at hh
  rw [Bool.and_eq_true] at hh
  have ha := of_decide_eq_true hh.2
  obtain ⟨x, y, rfl⟩ := cacheOk_two hh.1
  have hc := hh.1
  unfold accL; rw [if_pos h]
  unfold cacheOk at hc ⊢
  have hc := (of_decide_eq_true hc).2
  have hx := lineOk_yes (hc 0 (by simp))
  have hy := lineOk_yes (hc 1 (by simp))
  simp only [List.getElem_cons_zero, List.getElem_cons_succ] at hx hy
  refine decide_eq_true ⟨by simp, ?_⟩
  have hm : a / 2 % 2 = 0 ∨ a / 2 % 2 = 1 := by omega
  intro j hj
  have hj2 : j < 2 := by simpa using hj
  unfold lineOk
  refine decide_eq_true ?_
  rcases hm with hm | hm
  · have e : (a / 2 % 2).toNat = 0 := by omega
    simp only [e, List.set_cons_zero]
    match j, hj2 with
    | 0, _ => simp; omega
    | 1, _ => simpa using hy
  · have e : (a / 2 % 2).toNat = 1 := by omega
    simp only [e, List.set_cons_succ, List.set_cons_zero]
    match j, hj2 with
    | 0, _ => simpa using hx
    | 1, _ => simp; omega

/-- what holds of a state on the way -/
theorem crun_inv (xs : List Int) (hok : cacheOk xs = true) : ∀ (l : List Ev) (y : List Int) (h : List Bool), crun xs l = some (y, h) → cacheOk y = true ∧ h.length ≤ l.length := by
  intro l
  have key : ∀ n (l : List Ev), l.length = n → ∀ y h, crun xs l = some (y, h) → cacheOk y = true ∧ h.length ≤ l.length := by
    intro n
    induction n with
    | zero =>
      intro l hl y h hr
      have : l = [] := List.eq_nil_of_length_eq_zero hl
      subst this
      simp [crun] at hr
      obtain ⟨rfl, rfl⟩ := hr
      exact ⟨hok, by simp⟩
    | succ n ih =>
      intro l hl y h hr
      have hne : l ≠ [] := by intro e; subst e; simp at hl
      obtain ⟨l', e, rfl⟩ : ∃ l' e, l = l' ++ [e] := ⟨l.dropLast, l.getLast hne, (List.dropLast_concat_getLast hne).symm⟩
      rw [crun_snoc] at hr
      cases hs : crun xs l' with
      | none => rw [hs] at hr; cases hr
      | some s =>
        rw [hs] at hr
        obtain ⟨y', h'⟩ := s
        have hi := ih l' (by simpa using hl) y' h' hs
        simp only [Option.bind_some] at hr
        unfold cstep at hr
        split at hr
        · split at hr
          · rename_i h1 h2
            simp only [Option.some.injEq, Prod.mk.injEq] at hr
            obtain ⟨rfl, rfl⟩ := hr
            have ha := of_decide_eq_true h2
            exact ⟨accL_ok (accOk_of hi.1 ha.1 ha.2), by simp; omega⟩
          · cases hr
        · simp only [Option.some.injEq, Prod.mk.injEq] at hr
          obtain ⟨rfl, rfl⟩ := hr
          exact ⟨hi.1, by simp; omega⟩
  exact fun y h hr => key l.length l rfl y h hr
end Go.Proofs.Ytbglogjamfdmpaa
