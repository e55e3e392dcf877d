/-
  Parts of the proof of the law FnExactSpecRun.
-/
import Derived.Lib.SmallJoins
import Derived.Test.YtbglogjamfdmpaaK
import Derived.Test.YtbglogjamfdmpaaPT
import Derived.Test.YtbglogjamfdmpaaProg
namespace Go.Proofs.Ytbglogjamfdmpaa
open Go.RowKit Go.ChangeShapes Go.WideShapes

variable {H : Type} {enc : TypeId × Value → H} {P : Program} {w : World} {base : Nat} {spare : Nat → Bool} {held : Bool}

theorem rd_ints {t e : TypeId} {fuel : Nat} {c : Value} {x : DataW H × List MemPlace} (ht : P.underlying t = some (.slice e)) (he : P.underlying e = some (.int .i64)) (hc : P.cellsOf e = 1)
    (h : DataW.trod enc P w base spare held fuel t [c] = some x) : ∃ xs : List Int, Reads w 1 c xs.length (ints xs) ∧ ∀ n ∈ xs, (Lit.int .i64 n).wf = true := by
  rcases open_ints ht he hc h with ⟨hcs, _⟩ | ⟨a, len, cap, zs, hcs, _, hl, hm, hz, _, hcell, hwz⟩
  · simp only [List.cons.injEq, and_true] at hcs
    subst hcs
    exact ⟨[], reads_of_owns (World.ownsRow_nil w 0 0 1) (by simp), fun n hn => by cases hn⟩
  · simp only [List.cons.injEq, and_true] at hcs
    subst hcs
    have hlen : len ≤ zs.length := by rw [hz]; split <;> omega
    have htl : (zs.take len).length = len := by rw [List.length_take]; omega
    refine ⟨zs.take len, ?_, fun n hn => hwz n (List.mem_of_mem_take hn)⟩
    rw [htl]
    obtain ⟨b, off, spot⟩ := a
    refine ⟨by rw [ints_length, htl]; omega, by unfold maxLen at hm; omega, some ⟨b, off, spot⟩, cap, b, off, rfl, ⟨hl, fun h => by cases h⟩, ?_, ?_⟩
    · intro h0
      have hc0 := hcell 0 (by omega)
      have hspot : spot = none := by simpa [Addr.add] using World.cell?_spot hc0
      subst hspot
      exact ⟨rfl, by have := World.block_lt_of_cell? w _ hc0; simpa [Addr.add] using this⟩
    · intro j hj
      have hj' : j < len := by rw [ints_length, htl] at hj; exact hj
      have hc0 := hcell 0 (by omega)
      have hspot : spot = none := by simpa [Addr.add] using World.cell?_spot hc0
      subst hspot
      have hcj := hcell j (by omega)
      rw [addr_add] at hcj
      rw [hcj, ints_get, List.getElem_take]
      congr 2
      simp only [List.getD_eq_getElem?_getD]
      rw [List.getElem?_eq_getElem (by omega)]
      rfl

end Go.Proofs.Ytbglogjamfdmpaa
namespace Go.Proofs.Ytbglogjamfdmpaa
open Go.RowKit

def marks (k : Int) (n : Nat) : List Int := (List.range n).map (fun i : Nat => k + (i : Int))
theorem marks_length (k : Int) (n : Nat) : (marks k n).length = n := by simp [marks]
theorem marks_succ (k : Int) (n : Nat) : marks k (n + 1) = marks k n ++ [k + n] := by simp [marks, List.range_succ]
theorem marks_get (k : Int) (n j : Nat) (h : j < (marks k n).length) : (marks k n)[j] = k + j := by simp [marks]

theorem szIntS_any (v : Value) (n : Nat) (vs : List Value) (left : Int) (w : World) (hr : Reads w 1 v n vs) (h0 : 0 ≤ left) (h1 : left ≤ 1073741824) :
    Calls Try.prog 51 #[v, .int .i64 left] w fun e w' => e = .returned (.int .i64 (if left < n then -1 else left - n)) ∧ w' = w := by
  obtain ⟨_, hn, a, cap, b, off, rfl, _⟩ := hr
  by_cases h : left < n
  · have h2 : left - (n : Int) < 0 := by omega
    rw [if_pos h]
    clear h
    go_enter Try.func51, Try.ntmps51
    go_wp2
    go_ret
    exact ⟨rfl, rfl⟩
  · have h2 : ¬ left - (n : Int) < 0 := by omega
    rw [if_neg h]
    clear h
    go_enter Try.func51, Try.ntmps51
    go_wp2
    go_ret
    exact ⟨rfl, rfl⟩

theorem set_marks (xs : List Int) (k : Int) (j : Nat) (h : j < xs.length) : (ints (marks k j ++ xs.drop j)).set j (.int .i64 (k + j)) = ints (marks k (j + 1) ++ xs.drop (j + 1)) := by
  have e : xs.drop j = xs[j] :: xs.drop (j + 1) := by rw [List.drop_eq_getElem_cons h]
  have hl : (ints (marks k j)).length = j := by simp [ints, marks]
  rw [marks_succ, e, ints_append, ints_append, ints_append, List.set_append_right _ _ (by omega), hl, Nat.sub_self]
  simp only [ints, List.map_cons, List.set_cons_zero, List.map_nil, List.append_assoc, List.cons_append, List.nil_append]

theorem markIntS_any (v : Value) (xs : List Int) (k : Int) (w : World) (base : Nat) (ho : w.ownsRow base 3 1 v xs.length (ints xs)) (hn : xs.length ≤ 1073741824) (h0 : 0 ≤ k) (h1 : k ≤ 1073741824) :
    Calls Try.prog 73 #[v, .int .i64 k] w fun e w' => e = .returned (.int .i64 (k + xs.length)) ∧ w'.ownsRow base 3 1 v xs.length (ints (marks k xs.length)) ∧ Chg (fun g => v.ownBlock = some g) w w' := by
  have hsl : (v = .slice none 0 0 ∧ xs = []) ∨ ∃ g cap, v = .slice (some ⟨g, 0, none⟩) xs.length cap := by
    rcases ho.2 with ⟨h, h'⟩ | ⟨g, cap, _, h, _⟩
    · exact Or.inl ⟨h, List.eq_nil_of_length_eq_zero h'⟩
    · exact Or.inr ⟨g, cap, h⟩
  rcases hsl with ⟨rfl, rfl⟩ | ⟨g, cap, rfl⟩
  · go_enter Try.func73, Try.ntmps73
    go_wp2
    refine wp_loop_rounds 1 ?_
    rw [rounds_succ]
    go_wp2
    go_ret
    exact ⟨ret_int (by simp), by simpa [marks] using ho, Chg.refl _ _⟩
  · go_enter Try.func73, Try.ntmps73
    go_wp2
    go_loopw [1, 5] (fun kk i wr => ∃ j : Nat, j ≤ xs.length ∧ i = .int .i64 j ∧ kk = .int .i64 (k + j) ∧ wr.ownsRow base 3 1 (.slice (some ⟨g, 0, none⟩) xs.length cap) xs.length (ints (marks k j ++ xs.drop j)) ∧ Chg (fun k => g = k) w wr) (fun _ i _ => xs.length - (intOf i).toNat)
    case atStart => exact ⟨0, Nat.zero_le _, rfl, by simp, by simpa [marks] using ho, Chg.refl _ _⟩
    case round =>
      obtain ⟨j, hj, rfl, rfl, hoj, hc⟩ := hrel
      by_cases hlt : j < xs.length
      · have hcell : wr.cell? ⟨g, j, none⟩ = some (.int .i64 xs[j]) := by
          rw [hoj.cellAt j (by omega)]
          simp [ints, List.getElem?_append, marks_length, hlt]
        have hf := hoj.frozenAt j
        have hst := (hoj.stored j (.int .i64 (k + j))).1
        rw [set_marks xs k j hlt] at hst
        have hc2 := hc.setCell g j (.int .i64 (k + j)) (fun _ => rfl)
        clear hoj hc ho
        go_wp2
        go_roundw
        case rel => exact ⟨j + 1, by omega, by go_num, by simp; omega, hst, hc2⟩
        case measure => simp [intOf]; omega
      · have e : j = xs.length := by omega
        subst e
        go_wp2
        go_ret
        exact ⟨rfl, by simpa using hoj, hc.mono (fun _ _ h => by simp [Value.ownBlock, h])⟩

theorem heldIntS_any (v : Value) (n : Nat) (k : Int) (w : World) (hr : Reads w 1 v n (ints (marks k n))) (hn : n ≤ 1073741824) (h0 : 0 ≤ k) (h1 : k ≤ 1073741824) :
    Calls Try.prog 87 #[v, .int .i64 k] w fun e w' => e = .returned (.int .i64 (k + n)) ∧ ∃ d, w' = w.drewN d := by
  obtain ⟨_, _, a, cap, b, off, rfl, ⟨hcap, _⟩, ha, hca⟩ := hr
  go_enter Try.func87, Try.ntmps87
  go_wp2
  go_loopw [1, 5] (fun kk i wr => ∃ j : Nat, j ≤ n ∧ i = .int .i64 j ∧ kk = .int .i64 (k + j) ∧ ∃ d, wr = w.drewN d) (fun _ i _ => n - (intOf i).toNat)
  case atStart => exact ⟨0, Nat.zero_le _, rfl, by simp, 0, rfl⟩
  case round =>
    obtain ⟨j, hj, rfl, rfl, d, rfl⟩ := hrel
    by_cases hlt : j < n
    · obtain ⟨rfl, hbs⟩ := ha (by omega)
      have hc1 := hca j (by simpa [ints, marks] using hlt)
      rw [ints_get, marks_get] at hc1
      clear hca ha
      go_wp2
      go_roundw
      case rel => exact ⟨j + 1, by omega, by go_num, by simp; omega, d, rfl⟩
      case measure => simp [intOf]; omega
    · have e : j = n := by omega
      subst e
      go_wp2
      go_ret
      exact ⟨rfl, _, rfl⟩
end Go.Proofs.Ytbglogjamfdmpaa
