/-
  Parts of a slice: list[:k], list[k:].
-/
import Derived.Test.YtcnaeeejffeeoaaHH
namespace Go.Proofs.Ytcnaeeejffeeoaa
open Go.RowKit

theorem run_pre {P : Program} {t e : TypeId} {z : Value} {size bytes : Nat} (T : SliceT P t e z size bytes) (a : Option Addr) (n c k : Nat) (hk : k ≤ c) (W : World) :
    (Instr.slice t (.slice a n c) none (some (.int .i64 (k : Int))) none).run P W = .ok (.slice a k c) W := by
  obtain ⟨i, hi, hz0, hz1, hz2⟩ := info_parts T.info
  have h1 : (0 : Int) ≤ (k : Int) ∧ (k : Int) ≤ (c : Int) := by omega
  have ha : (if c = 0 then a else Option.map (fun x => x.add 0) a) = a := by
    split
    · rfl
    · cases a <;> simp [Addr.add]
  simp [Instr.slice, Instr.sliceBounds, Instr.sliceBound, asIntOf, run_underlying T.under, sizeOf, typeInfo, hi, hk, ha]

theorem run_post {P : Program} {t e : TypeId} {z : Value} {size bytes : Nat} (T : SliceT P t e z size bytes) (a : Option Addr) (n c k : Nat) (hk : k ≤ n) (W : World) :
    (Instr.slice t (.slice a n c) (some (.int .i64 (k : Int))) none none).run P W = .ok (.slice (if c = k then a else a.map (fun x => x.add (k * size))) (n - k) (c - k)) W := by
  obtain ⟨i, hi, hz0, hz1, hz2⟩ := info_parts T.info
  subst hz1
  simp [Instr.slice, Instr.sliceBounds, Instr.sliceBound, asIntOf, run_underlying T.under, sizeOf, typeInfo, hi, hk]

theorem own_pre {w : World} {base : Nat} {e : TypeId} {size : Nat} {a : Option Addr} {n c : Nat} {vs : List Value} (h : w.ownsRow base e size (.slice a n c) n vs) (hn : n ≤ 9223372036854775807) (k : Nat) (hk : k ≤ n) : Reads w size (.slice a k c) k (vs.take (k * size)) := by
  obtain ⟨h1, h2, a', c', b, off, hv, ⟨hc, hnil⟩, ha, hcell⟩ := reads_of_owns h hn
  simp only [Value.slice.injEq, true_and] at hv
  obtain ⟨rfl, rfl⟩ := hv
  have hks : k * size ≤ vs.length := by rw [h1]; exact Nat.mul_le_mul_right _ hk
  refine ⟨by rw [List.length_take]; omega, by omega, a, c, b, off, rfl, ⟨by omega, hnil⟩, fun h0 => ha (by omega), fun j hj => ?_⟩
  have hj2 : j < vs.length := by rw [List.length_take] at hj; omega
  rw [List.getElem_take]
  exact hcell j hj2

theorem own_post {w : World} {base : Nat} {e : TypeId} {size : Nat} {a : Option Addr} {n c : Nat} {vs : List Value} (h : w.ownsRow base e size (.slice a n c) n vs) (hn : n ≤ 9223372036854775807) (k : Nat) (hk : k ≤ n) :
    Reads w size (.slice (if c = k then a else a.map (fun x => x.add (k * size))) (n - k) (c - k)) (n - k) (vs.drop (k * size)) := by
  obtain ⟨h1, h2, a', c', b, off, hv, ⟨hc, hnil⟩, ha, hcell⟩ := reads_of_owns h hn
  simp only [Value.slice.injEq, true_and] at hv
  obtain ⟨rfl, rfl⟩ := hv
  have hks : k * size ≤ vs.length := by rw [h1]; exact Nat.mul_le_mul_right _ hk
  refine ⟨by rw [List.length_drop, h1, Nat.sub_mul], by omega, _, _, b, off + k * size, rfl, ⟨by omega, ?_⟩, fun h0 => ?_, fun j hj => ?_⟩
  · intro hno
    by_cases hck : c = k
    · omega
    · rw [if_neg hck] at hno
      cases a with
      | none => have := hnil rfl; omega
      | some x => cases hno
  · obtain ⟨rfl, hb⟩ := ha (by omega)
    have hck : ¬ c = k := by omega
    rw [if_neg hck]
    exact ⟨by simp [addr_add], hb⟩
  · rw [List.getElem_drop]
    rw [List.length_drop] at hj
    rw [← hcell (k * size + j) (by omega)]
    congr 2
    omega

/-! ### runs and times of parts -/
theorem crun_append (xs : List Int) (a b : List Ev) : crun xs (a ++ b) = (crun xs a).bind (fun s => (crun s.1 b).map (fun r => (r.1, s.2 ++ r.2))) := by
  refine snoc_ind (P := fun b => crun xs (a ++ b) = (crun xs a).bind (fun s => (crun s.1 b).map (fun r => (r.1, s.2 ++ r.2)))) ?_ ?_ b
  · rw [List.append_nil]; cases crun xs a with
    | none => rfl
    | some s => simp [crun]
  · intro b e ih
    rw [← List.append_assoc, crun_snoc, ih]
    cases crun xs a with
    | none => rfl
    | some s =>
      simp only [Option.bind_some]
      rw [crun_snoc]
      cases crun s.1 b with
      | none => rfl
      | some r =>
        simp only [Option.map_some, Option.bind_some]
        unfold cstep
        split
        · split
          · simp
          · rfl
        · rfl
theorem stepsOf_append (a b : List Ev) : stepsOf (a ++ b) = stepsOf a + stepsOf b := by unfold stepsOf; rw [List.filter_append, List.length_append]; omega
theorem missOf_append (a b : List Bool) : missOf (a ++ b) = missOf a + missOf b := by unfold missOf; rw [List.filter_append, List.length_append]; omega

/-- what a run of the whole says of its parts -/
theorem crunR_parts {xs : List Int} {l : List Ev} (h : (crunR xs l).2.2 = true) (k : Nat) :
    (crunR xs (l.take k)).2.2 = true ∧ (crunR (crunR xs (l.take k)).1 (l.drop k)).2.2 = true ∧ (crunR (crunR xs (l.take k)).1 (l.drop k)).1 = (crunR xs l).1 ∧
      (crunR xs (l.take k)).2.1 ++ (crunR (crunR xs (l.take k)).1 (l.drop k)).2.1 = (crunR xs l).2.1 := by
  obtain ⟨hok, hr⟩ := crunR_true h
  have hl : l = l.take k ++ l.drop k := (List.take_append_drop k l).symm
  have hr2 := hr
  rw [hl, crun_append] at hr2
  rw [← hl] at hr2
  cases h1 : crun xs (l.take k) with
  | none => rw [h1] at hr2; cases hr2
  | some s =>
    obtain ⟨y, h'⟩ := s
    rw [h1] at hr2
    simp only [Option.bind_some] at hr2
    have hy := (crun_inv xs hok _ _ _ h1).1
    rw [crunR_ok hok h1]
    cases h2 : crun y (l.drop k) with
    | none => rw [h2] at hr2; cases hr2
    | some r =>
      obtain ⟨z, h''⟩ := r
      rw [h2] at hr2
      simp only [Option.map_some, Option.some.injEq, Prod.mk.injEq] at hr2
      rw [crunR_ok hy h2]
      exact ⟨rfl, rfl, hr2.1, hr2.2⟩
theorem traceT_parts {xs : List Int} {l : List Ev} (h : (crunR xs l).2.2 = true) (k : Nat) : traceT xs (l.take k) + traceT (crunR xs (l.take k)).1 (l.drop k) = traceT xs l := by
  obtain ⟨h1, h2, h3, h4⟩ := crunR_parts h k
  unfold traceT
  rw [if_pos h, if_pos h1, if_pos h2, ← h4, missOf_append]
  have := stepsOf_append (l.take k) (l.drop k)
  rw [List.take_append_drop] at this
  omega
theorem steps_miss (xs : List Int) : ∀ (l : List Ev) y h, crun xs l = some (y, h) → stepsOf l + 10 * missOf h ≤ 10 * l.length := by
  intro l
  refine snoc_ind (P := fun l => ∀ y h, crun xs l = some (y, h) → stepsOf l + 10 * missOf h ≤ 10 * l.length) ?_ ?_ l
  · intro y h hs; simp [crun] at hs; obtain ⟨_, rfl⟩ := hs; simp [stepsOf, missOf]
  · intro l e ih y h hs
    rw [crun_snoc] at hs
    cases hc : crun xs l with
    | none => rw [hc] at hs; cases hs
    | some s =>
      obtain ⟨y', h'⟩ := s
      rw [hc] at hs
      simp only [Option.bind_some] at hs
      have hi := ih y' h' hc
      rw [stepsOf_append, List.length_append]
      have h1 := stepsOf_le [e]
      unfold cstep at hs
      by_cases ht : touches e = true
      · rw [if_pos ht] at hs
        have h5 : stepsOf [e] = 0 := by
          have := of_decide_eq_true ht
          unfold stepsOf
          have : ¬ (e.1 == 5) = true := by simp; omega
          simp [this]
        split at hs
        · simp only [Option.some.injEq, Prod.mk.injEq] at hs
          obtain ⟨rfl, rfl⟩ := hs
          rw [missOf_append, h5]
          have h2 := missOf_le [accH y' e.2]
          simp at h2 ⊢
          omega
        · cases hs
      · rw [if_neg ht] at hs
        simp only [Option.some.injEq, Prod.mk.injEq] at hs
        obtain ⟨rfl, rfl⟩ := hs
        simp at h1 ⊢
        omega
theorem traceT_hi {xs : List Int} {l : List Ev} (h : (crunR xs l).2.2 = true) : traceT xs l ≤ 10 * l.length := by
  obtain ⟨hok, hr⟩ := crunR_true h
  unfold traceT; rw [if_pos h]
  exact steps_miss xs l _ _ hr
end Go.Proofs.Ytcnaeeejffeeoaa
