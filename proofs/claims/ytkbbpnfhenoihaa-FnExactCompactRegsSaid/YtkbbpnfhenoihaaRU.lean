/-
  Renumbering of registers: plain.
-/
import Derived.Test.YtkbbpnfhenoihaaLC
import Derived.Test.YtkbbpnfhenoihaaRO
import Derived.Test.YtkbbpnfhenoihaaRT
namespace Go.Proofs.Ytkbbpnfhenoihaa
open Go.RowKit

theorem idxI_app {O : List Int} {r : Int} (h : O.contains r = true) (rest : List Int) : idxI (O ++ rest) r = idxI O r := by
  unfold idxI
  rw [List.findIdx?_append]
  have hm : ∃ k, O.findIdx? (fun x => x == r) = some k := by
    cases hf : O.findIdx? (fun x => x == r) with
    | some k => exact ⟨k, rfl⟩
    | none =>
      rw [List.findIdx?_eq_none_iff] at hf
      have hr : r ∈ O := List.contains_iff_mem.1 h
      have := hf r hr; simp at this
  obtain ⟨k, hk⟩ := hm
  rw [hk]; rfl
theorem idxI_none {O : List Int} {r : Int} (h : O.contains r = false) : idxI O r = -1 := by
  refine idxI_no (fun j hj e => ?_)
  rw [List.contains_iff_mem.2 (e ▸ List.getElem_mem hj)] at h
  cases h
theorem idxI_last {O : List Int} {r : Int} (h : O.contains r = false) : idxI (O ++ [r]) r = O.length := by
  refine idxI_at (by simp) (by simp) (fun j hj hlt e => ?_)
  rw [List.getElem_append_left hlt] at e
  rw [List.contains_iff_mem.2 (e ▸ List.getElem_mem hlt)] at h
  cases h
theorem idxI_other {O : List Int} {r q : Int} (h : ¬ r = q) : idxI (O ++ [r]) q = idxI O q := by
  cases hc : O.contains q with
  | true => exact idxI_app hc [r]
  | false =>
    rw [idxI_none hc]
    refine idxI_none ?_
    rw [show (O ++ [r]).contains q = (O.contains q || (q == r)) from by rw [List.contains_eq_any_beq, List.contains_eq_any_beq, List.any_append]; simp, hc]
    simpa using fun e : q = r => h e.symm
/-- the table of numbers -/
def nmT (O : List Int) : List Int := (List.range 14).map (fun q : Nat => idxI O (q : Int))
theorem nmT_len (O : List Int) : (nmT O).length = 14 := by simp [nmT]
theorem nmT_get (O : List Int) (r : Nat) (h : r < (nmT O).length) : (nmT O)[r] = idxI O (r : Int) := by simp [nmT]
theorem nmT_set {O : List Int} {r : Nat} (h : O.contains (r : Int) = false) : (nmT O).set r O.length = nmT (O ++ [(r : Int)]) := by
  apply List.ext_getElem
  · simp [nmT]
  · intro j h1 h2
    rw [List.getElem_set]
    have h3 : j < (nmT O).length := by simpa using h1
    by_cases e : r = j
    · subst e
      rw [if_pos rfl, nmT_get, idxI_last h]
    · rw [if_neg e, nmT_get, nmT_get, idxI_other (by omega)]
theorem nmT_nil : nmT [] = List.replicate 14 (-1) := by
  apply List.ext_getElem
  · simp [nmT]
  · intro j h1 h2
    rw [nmT_get, List.getElem_replicate]; rfl
theorem ordS_ext (O : List Int) (r : Int) : ∃ rest, ordS O r = O ++ rest := by
  cases h : O.contains r with
  | true => exact ⟨[], by rw [ordS_in h, List.append_nil]⟩
  | false => exact ⟨[r], ordS_new h⟩
theorem ordL_ext (rs O : List Int) : ∃ rest, ordL O rs = O ++ rest := by
  induction rs generalizing O with
  | nil => exact ⟨[], by simp [ordL]⟩
  | cons r rs ih =>
    obtain ⟨r1, h1⟩ := ordS_ext O r
    obtain ⟨r2, h2⟩ := ih (ordS O r)
    exact ⟨r1 ++ r2, by show ordL (ordS O r) rs = _; rw [h2, h1, List.append_assoc]⟩
theorem ordC_ext (l : List Ins) (O : List Int) : ∃ rest, ordC O l = O ++ rest := by
  induction l generalizing O with
  | nil => exact ⟨[], by simp [ordC]⟩
  | cons x l ih =>
    obtain ⟨r1, h1⟩ := ordL_ext (rgs x) O
    obtain ⟨r2, h2⟩ := ih (ordL O (rgs x))
    exact ⟨r1 ++ r2, by show ordC (ordL O (rgs x)) l = _; rw [h2, h1, List.append_assoc]⟩
theorem ordL_app (O a b : List Int) : ordL O (a ++ b) = ordL (ordL O a) b := by simp [ordL]
/-- what stands in the order at some place on the way has its number for good -/
theorem idx_final {l : List Ins} {i : Nat} (hi : i < l.length) {k : Nat} {r : Int} (h : (ordL (ordC [] (l.take i)) (rgsK l[i] k)).contains r = true) : idxI (ordC [] l) r = idxI (ordL (ordC [] (l.take i)) (rgsK l[i] k)) r := by
  have h1 : ∃ rest, ordC [] l = ordL (ordC [] (l.take i)) (rgsK l[i] k) ++ rest := by
    have e : l = l.take (i + 1) ++ l.drop (i + 1) := (List.take_append_drop _ _).symm
    obtain ⟨r2, h2⟩ := ordC_ext (l.drop (i + 1)) (ordC [] (l.take (i + 1)))
    have h3 : ordC [] l = ordC (ordC [] (l.take (i + 1))) (l.drop (i + 1)) := by
      conv => lhs; rw [e]
      unfold ordC; rw [List.foldl_append]
    have hk : ∃ b, rgs l[i] = rgsK l[i] k ++ b := by
      unfold rgs rgsK
      by_cases hk : k ≤ 4
      · refine ⟨((((shp l[i].op).zip (flds l[i])).take 4).drop k).filterMap (fun p => if p.1 = 114 then some p.2 else none), ?_⟩
        rw [← List.filterMap_append]
        congr 1
        conv => lhs; rw [← List.take_append_drop k (((shp l[i].op).zip (flds l[i])).take 4)]
        rw [List.take_take, Nat.min_eq_left hk]
      · refine ⟨[], ?_⟩
        rw [List.append_nil, List.take_of_length_le (by rw [List.length_zip]; simp [flds]; omega), List.take_of_length_le (by rw [List.length_zip]; simp [flds]; omega)]
    obtain ⟨b, hb⟩ := hk
    obtain ⟨r3, h4⟩ := ordL_ext b (ordL (ordC [] (l.take i)) (rgsK l[i] k))
    refine ⟨r3 ++ r2, ?_⟩
    rw [h3, h2, ordC_succ [] l i hi, hb, ordL_app, h4, List.append_assoc]
  obtain ⟨rest, hr⟩ := h1
  rw [hr]
  exact idxI_app h rest
/-- the reference's letters and the program's tell the same registers -/
theorem knl_shp {op : Int} (hop : ¬ (op < 1 ∨ 13 < op)) (k : Nat) (h1 : k < (knl op).length) (h2 : k < (shp op).length) : (knl op)[k] ≠ 48 ↔ (shp op)[k] = 114 := by
  rcases shp_cases op with h | rfl | rfl | rfl | rfl | rfl | rfl | rfl | rfl | rfl | rfl | rfl | rfl | rfl
  · exact absurd h hop
  all_goals
    revert h1 h2
    match k with
    | 0 => first | (intro h1 h2; revert h1; simp [knl]; done) | (intro h1 h2; simp [knl, shp])
    | 1 => first | (intro h1 h2; revert h1; simp [knl]; done) | (intro h1 h2; simp [knl, shp])
    | 2 => first | (intro h1 h2; revert h1; simp [knl]; done) | (intro h1 h2; simp [knl, shp])
    | 3 => first | (intro h1 h2; revert h1; simp [knl]; done) | (intro h1 h2; simp [knl, shp])
    | n + 4 => intro h1 h2; exact absurd h1 (Nat.not_lt.2 (Nat.le_trans (knl_len _) (by omega)))
theorem knl_rest {op : Int} (hop : ¬ (op < 1 ∨ 13 < op)) (k : Nat) (h1 : (knl op).length ≤ k) (h2 : k < (shp op).length) : ¬ (shp op)[k] = 114 := by
  rcases shp_cases op with h | rfl | rfl | rfl | rfl | rfl | rfl | rfl | rfl | rfl | rfl | rfl | rfl | rfl
  · exact absurd h hop
  all_goals
    revert h1 h2
    match k with
    | 0 => first | (intro h1 h2; revert h1; simp [knl]; done) | (intro h1 h2; simp [shp])
    | 1 => first | (intro h1 h2; revert h1; simp [knl]; done) | (intro h1 h2; simp [shp])
    | 2 => first | (intro h1 h2; revert h1; simp [knl]; done) | (intro h1 h2; simp [shp])
    | 3 => first | (intro h1 h2; revert h1; simp [knl]; done) | (intro h1 h2; simp [shp])
    | n + 4 => intro h1 h2; exact absurd h2 (by rw [shp_len hop]; omega)
theorem rest_all {x : Ins} (hop : ¬ (x.op < 1 ∨ 13 < x.op)) (O : List Int) (j : Nat) (h : (knl x.op).length ≤ j) (h4 : j ≤ 4) : rgsK x j = rgsK x 4 ∧ mixF O x j = mixF O x 4 := by
  obtain ⟨d, hd⟩ : ∃ d, j + d = 4 := ⟨4 - j, by omega⟩
  induction d generalizing j with
  | zero => have e : j = 4 := by omega
            subst e; exact ⟨rfl, rfl⟩
  | succ d ih =>
    have hl := shp_len hop
    have hj : j < (shp x.op).length := by omega
    have hf : j < (flds x).length := by simp [flds]; omega
    have hn := knl_rest hop j h hj
    obtain ⟨i1, i2⟩ := ih (j + 1) (by omega) (by omega) (by omega)
    have h1 := rgsK_succ x j hj hf
    rw [if_neg hn, List.append_nil] at h1
    have h2 := mixF_same O hl j (by omega) (by rw [cmpF_get O j hj hf (by rw [cmpF_len O hl]; omega), if_neg hn])
    exact ⟨h1.symm.trans i1, h2.trans i2⟩
def compactR (c : Cd) : Cd × Bool := if codeOk c = true then (⟨c.vars, c.arrays, c.list.map (cmpI (ordC [] c.list))⟩, true) else (noCode, false)
theorem compactR_yes {c : Cd} (h : codeOk c = true) : compactR c = (⟨c.vars, c.arrays, c.list.map (cmpI (ordC [] c.list))⟩, true) := if_pos h
theorem compactR_no {c : Cd} (h : codeOk c = false) : compactR c = (noCode, false) := by unfold compactR; rw [if_neg (by rw [h]; decide)]
theorem compactR_lens (c : Cd) : (compactR c).1.vars.length ≤ 1048576 ∧ (compactR c).1.arrays.length ≤ 1048576 ∧ (compactR c).1.list.length ≤ 1048576 := by
  cases h : codeOk c with
  | true =>
    rw [compactR_yes h]
    have h1 := declOk_len (codeOk_decl h)
    have h2 := codeOk_len h
    refine ⟨?_, ?_, ?_⟩ <;> simp <;> omega
  | false =>
    rw [compactR_no h]
    simp [noCode]
end Go.Proofs.Ytkbbpnfhenoihaa
