/-
  Cache runs: plain laws.
-/
import Derived.Test.YtcnaeeejffeeoaaW
namespace Go.Proofs.Ytcnaeeejffeeoaa
open Go.RowKit

theorem snoc_ind {α : Type} {P : List α → Prop} (h0 : P []) (hs : ∀ l e, P l → P (l ++ [e])) : ∀ l, P l := by
  intro l
  have key : ∀ n (l : List α), l.length = n → P l := by
    intro n
    induction n with
    | zero => intro l hl; rw [List.eq_nil_of_length_eq_zero hl]; exact h0
    | succ n ih =>
      intro l hl
      have hne : l ≠ [] := by intro e; subst e; simp at hl
      obtain ⟨l', e, rfl⟩ : ∃ l' e, l = l' ++ [e] := ⟨l.dropLast, l.getLast hne, (List.dropLast_concat_getLast hne).symm⟩
      exact hs l' e (ih l' (by simpa using hl))
  exact key l.length l rfl

theorem crun_range (xs : List Int) : ∀ (l : List Ev) s, crun xs l = some s → ∀ e ∈ l, touches e = true → isAddr e.2 = true := by
  intro l
  refine snoc_ind (P := fun l => ∀ s, crun xs l = some s → ∀ e ∈ l, touches e = true → isAddr e.2 = true) ?_ ?_ l
  · intro s _ e he; cases he
  · intro l e ih s hs e' he' ht
    rw [crun_snoc] at hs
    cases hc : crun xs l with
    | none => rw [hc] at hs; cases hs
    | some s' =>
      rw [hc] at hs
      simp only [Option.bind_some] at hs
      rcases List.mem_append.1 he' with h | h
      · exact ih s' hc e' h ht
      · simp at h
        subst h
        unfold cstep at hs
        rw [if_pos ht] at hs
        by_cases ha : isAddr e'.2 = true
        · exact ha
        · rw [if_neg ha] at hs; cases hs

def stepB (line : Int) (b : Int) (e : Ev) : Int := if touches e = true ∧ (e.2 / 2) % 2 = line then e.2 / 2 else b
def lastB (line : Int) (b : Int) (l : List Ev) : Int := l.foldl (stepB line) b
theorem lastB_take (line b : Int) (l : List Ev) (k : Nat) (h : k < l.length) : lastB line b (l.take (k + 1)) = stepB line (lastB line b (l.take k)) l[k] := by
  rw [List.take_succ_eq_append_getElem h]; unfold lastB; rw [List.foldl_append]; rfl
theorem lastB_snoc (line b : Int) (l : List Ev) (e : Ev) : lastB line b (l ++ [e]) = stepB line (lastB line b l) e := by simp [lastB]

theorem accL_get {xs : List Int} {a : Int} (h : accOk xs a = true) (k : Nat) (hk : k < 2) : (accL xs a).getD k 0 = if (a / 2) % 2 = k then a / 2 else xs.getD k 0 := by
  have hh := h
  unfold accOk at hh
  rw [Bool.and_eq_true] at hh
  obtain ⟨x, y, rfl⟩ := cacheOk_two hh.1
  unfold accL; rw [if_pos h]
  have hm : a / 2 % 2 = 0 ∨ a / 2 % 2 = 1 := by omega
  match k, hk with
  | 0, _ =>
    rcases hm with hm | hm
    · have e : (a / 2 % 2).toNat = 0 := by omega
      simp [e, hm]
    · have e : (a / 2 % 2).toNat = 1 := by omega
      simp [e, hm]
  | 1, _ =>
    rcases hm with hm | hm
    · have e : (a / 2 % 2).toNat = 0 := by omega
      simp [e, hm]
    · have e : (a / 2 % 2).toNat = 1 := by omega
      simp [e, hm]

theorem crun_last (xs : List Int) (hok : cacheOk xs = true) (k : Nat) (hk : k < 2) : ∀ (l : List Ev) ys h, crun xs l = some (ys, h) → ys.getD k 0 = lastB k (xs.getD k 0) l := by
  intro l
  refine snoc_ind (P := fun l => ∀ ys h, crun xs l = some (ys, h) → ys.getD k 0 = lastB k (xs.getD k 0) l) ?_ ?_ l
  · intro ys h hs
    simp [crun] at hs
    obtain ⟨rfl, _⟩ := hs
    simp [lastB]
  · intro l e ih ys h hs
    rw [crun_snoc] at hs
    cases hc : crun xs l with
    | none => rw [hc] at hs; cases hs
    | some s' =>
      obtain ⟨ys', h'⟩ := s'
      rw [hc] at hs
      simp only [Option.bind_some] at hs
      have hi := ih ys' h' hc
      have hinv := crun_inv xs hok l ys' h' hc
      rw [lastB_snoc, ← hi]
      unfold cstep at hs
      unfold stepB
      by_cases ht : touches e = true
      · rw [if_pos ht] at hs
        by_cases ha : isAddr e.2 = true
        · rw [if_pos ha] at hs
          simp only [Option.some.injEq, Prod.mk.injEq] at hs
          obtain ⟨rfl, _⟩ := hs
          have hr := of_decide_eq_true ha
          rw [accL_get (accOk_of hinv.1 hr.1 hr.2) k hk]
          simp [ht]
        · rw [if_neg ha] at hs; cases hs
      · rw [if_neg ht] at hs
        simp only [Option.some.injEq, Prod.mk.injEq] at hs
        obtain ⟨rfl, _⟩ := hs
        simp [ht]

theorem crunR_true {xs : List Int} {l : List Ev} (h : (crunR xs l).2.2 = true) : cacheOk xs = true ∧ crun xs l = some ((crunR xs l).1, (crunR xs l).2.1) := by
  unfold crunR at h ⊢
  by_cases hok : cacheOk xs = true
  · rw [if_pos hok] at h ⊢
    cases hc : crun xs l with
    | none => rw [hc] at h; cases h
    | some s => exact ⟨hok, rfl⟩
  · rw [if_neg hok] at h; cases h

def anyT (line : Int) (l : List Ev) : Bool := l.any (fun e => touches e && ((e.2 / 2) % 2 == line))
theorem anyT_take (line : Int) (l : List Ev) (k : Nat) (h : k < l.length) : anyT line (l.take (k + 1)) = (anyT line (l.take k) || (touches l[k] && ((l[k].2 / 2) % 2 == line))) := by
  rw [List.take_succ_eq_append_getElem h]; unfold anyT; rw [List.any_append]; simp
theorem prime_any (line : Int) : ∀ l : List Ev, (∀ e ∈ l, touches e = true → isAddr e.2 = true) → (lastB line (-2) l != -2) = anyT line l := by
  intro l
  refine snoc_ind (P := fun l => (∀ e ∈ l, touches e = true → isAddr e.2 = true) → (lastB line (-2) l != -2) = anyT line l) ?_ ?_ l
  · intro _; rfl
  · intro l e ih h
    have hi := ih (fun e' h' => h e' (List.mem_append_left _ h'))
    rw [lastB_snoc]
    unfold anyT at hi ⊢
    rw [List.any_append, ← hi]
    unfold stepB
    by_cases ht : touches e = true
    · have hr := of_decide_eq_true (h e (List.mem_append_right _ (List.mem_singleton.2 rfl)) ht)
      by_cases hm : (e.2 / 2) % 2 = line
      · rw [if_pos ⟨ht, hm⟩]
        have : e.2 / 2 ≠ -2 := by omega
        simp [ht, hm, this]
      · rw [if_neg (fun h => hm h.2)]
        simp [ht, hm]
    · rw [if_neg (fun h => ht h.1)]
      simp [ht]

/-- an event's cells, in a row of the call's own -/
theorem own_ev {w : World} {base : Nat} {e : TypeId} {g c : Nat} {l : List Ev} (h : w.ownsRow base e 2 (.slice (some ⟨g, 0, none⟩) l.length c) l.length (evs l)) (k : Nat) (hk : k < l.length) :
    w.cell? ⟨g, k * 2, none⟩ = some (.int .i64 l[k].1) ∧ w.cell? ⟨g, k * 2 + 1, none⟩ = some (.int .i64 l[k].2) := by
  obtain ⟨g1, g2⟩ := evs_get l k hk
  exact ⟨(h.cellAt (k * 2) (by omega)).trans g1, (h.cellAt (k * 2 + 1) (by omega)).trans g2⟩
end Go.Proofs.Ytcnaeeejffeeoaa
