/-
  RemoveDead: the small walks.
-/
import Derived.Test.YtkbbpnfhenoihaaDW
namespace Go.Proofs.Ytkbbpnfhenoihaa
open Go.RowKit

theorem any_at {xs : List Bool} {k : Nat} (hk : k < xs.length) (h : xs[k] = true) : xs.any id = true := List.any_eq_true.2 ⟨_, List.getElem_mem hk, h⟩
theorem any_no {xs : List Bool} (h : ∀ j (hj : j < xs.length), xs[j] = false) : xs.any id = false := by
  rw [List.any_eq_false]
  intro x hx
  obtain ⟨j, hj, rfl⟩ := List.getElem_of_mem hx
  simp [h j hj]
theorem any_succ (c : Cd) (k : Nat) : (deds c (k + 1)).any id = ((deds c k).any id || dedAt c k) := by rw [deds_succ, List.any_append]; simp
theorem anyDed_eq (c : Cd) : anyDed c = (deds c c.list.length).any id := rfl
theorem dOf_deds (c : Cd) : wout c (dOf (deds c c.list.length)) = rem1 c := by
  have h : ∀ k, k < c.list.length → dOf (deds c c.list.length) k = dedAt c k := fun k hk => by rw [dOf_at _ k (by rw [deds_len]; exact hk), deds_get]
  have hs : ∀ k, k ≤ c.list.length → stay (dOf (deds c c.list.length)) k = stay (dedAt c) k := by
    intro k
    induction k with
    | zero => intro _; rfl
    | succ k ih => intro hk; simp only [stay]; rw [ih (by omega), h k (by omega)]
  have hx : ∀ x, tgt x < c.list.length → dx (dOf (deds c c.list.length)) x = dx (dedAt c) x := fun x hx => by
    unfold dx
    by_cases h0 : 0 ≤ tgt x
    · rw [if_pos h0, if_pos h0, hs _ (by omega)]
    · rw [if_neg h0, if_neg h0]
  have ho : ∀ k, k ≤ c.list.length → (∀ j (hj : j < c.list.length), tgt c.list[j] < c.list.length) → outTo c.list (dOf (deds c c.list.length)) k = outTo c.list (dedAt c) k := by
    intro k
    induction k with
    | zero => intro _ _; rfl
    | succ k ih =>
      intro hk ht
      rw [outTo_succ _ _ k (by omega), outTo_succ _ _ k (by omega), ih (by omega) ht, h k (by omega), hx _ (ht k (by omega))]
  unfold rem1 wout
  by_cases ht : ∀ j (hj : j < c.list.length), tgt c.list[j] < c.list.length
  · rw [ho _ (Nat.le_refl _) ht]
  · have h2 : ∀ t, dOf (deds c c.list.length) t = dedAt c t := fun t => by
      by_cases htl : t < c.list.length
      · exact h t htl
      · unfold dOf dedAt
        rw [List.getD_eq_getElem?_getD, List.getElem?_eq_none (by rw [deds_len]; omega), List.getElem?_eq_none (by omega)]; rfl
    rw [show dOf (deds c c.list.length) = dedAt c from funext h2]

theorem set_ded (c : Cd) (k : Nat) (hk : k < c.list.length) (z : Bool) (hz : z = dedAt c k) : (deds c k ++ (List.replicate c.list.length false).drop k).set k z = deds c (k + 1) ++ (List.replicate c.list.length false).drop (k + 1) := by
  rw [drop_cons _ k (by simpa using hk) _ (deds_len _ _), hz, ← deds_succ]
theorem skip_ded (c : Cd) (k : Nat) (hk : k < c.list.length) (hz : dedAt c k = false) : deds c k ++ (List.replicate c.list.length false).drop k = deds c (k + 1) ++ (List.replicate c.list.length false).drop (k + 1) := by
  rw [deds_succ, hz, List.drop_eq_getElem_cons (by simpa using hk)]
  simp

/-- what a call owns lies in its own blocks, read too -/
theorem readB_own {w : World} {base : Nat} {va vb vc : Value} {c : Cd} (h : OwnC w base va vb vc c) : ∀ q, ReadB va vb vc c q → base ≤ q ∧ q < w.heap.size := by
  have one : ∀ {e : TypeId} {sz n : Nat} {v : Value} {xs : List Value} (_ : w.ownsRow base e sz v n xs) (q o cap : Nat), 0 < n → v = .slice (some ⟨q, o, none⟩) n cap → base ≤ q ∧ q < w.heap.size := by
    intro e sz n v xs ho q o cap h0 hv
    obtain ⟨g, c', hg⟩ := own_pos ho h0
    rw [hv] at hg
    simp only [Value.slice.injEq, Option.some.injEq, Addr.mk.injEq] at hg
    refine ho.lt q ?_
    rw [hv, hg.1.2.1]; rfl
  intro q hq
  rcases hq with ⟨o, cap, h0, hv⟩ | ⟨o, cap, h0, hv⟩ | ⟨o, cap, h0, hv⟩
  · exact one h.a q o cap h0 hv
  · exact one h.b q o cap h0 hv
  · exact one h.l q o cap h0 hv

theorem indexB_any (v : Value) (xs : List Bool) (w : World) (hr : Reads w 1 v xs.length (bools xs)) :
    Calls Try.prog 157 #[v, .bool true] w fun e w' => ∃ i : Int, e = .returned (.int .i64 i) ∧ decide (0 ≤ i) = xs.any id ∧ Below w.heap.size w w' := by
  obtain ⟨_, hn, a, cap, b, off, rfl, hcap, ha, hca⟩ := hr
  go_enter Try.func157, Try.ntmps157
  go_wp2
  go_loop [8] (fun i => ∃ k : Nat, k ≤ xs.length ∧ i = .int .i64 k ∧ (∀ j (h : j < xs.length), j < k → xs[j] = false)) (fun i => xs.length - (intOf i).toNat)
  case atStart => exact ⟨0, Nat.zero_le _, rfl, fun j _ h => absurd h (by omega)⟩
  case round =>
    obtain ⟨k, hk, rfl, hall⟩ := hrel
    have HA := Lib.hid hall; clear hall
    by_cases hlt : k < xs.length
    · obtain ⟨rfl, hbs⟩ := ha (by omega)
      have hc1 := hca k (by simpa [bools] using hlt)
      rw [bools_get] at hc1
      have HY := Lib.hid (fun (h : xs[k] = true) => any_at hlt h)
      have HN : Hid (xs[k] = false → ∀ j (h : j < xs.length), j < k + 1 → xs[j] = false) := Lib.hid (fun h j hj hlt2 => by
        by_cases e : j = k
        · subst e; exact h
        · exact HA.out j hj (by omega))
      clear hca ha
      generalize xs[k] = x at *
      cases x with
      | true =>
        go_wp2
        go_ret
        exact ⟨_, rfl, by rw [HY.out (by trivial)]; exact decide_eq_true (by omega), bself w⟩
      | false =>
        go_wp2
        go_round
        case rel => exact ⟨k + 1, by omega, by go_num, HN.out (by trivial)⟩
        case measure => simp [intOf]; omega
    · have HZ := Lib.hid (any_no (fun j h => HA.out j h (by omega)))
      go_wp2
      go_ret
      exact ⟨_, rfl, by rw [HZ.out]; rfl, bself w⟩
theorem containsB_any (v : Value) (xs : List Bool) (w : World) (hr : Reads w 1 v xs.length (bools xs)) :
    Calls Try.prog 119 #[v, .bool true] w fun e w' => e = .returned (.bool (xs.any id)) ∧ Below w.heap.size w w' := by
  go_enter Try.func119, Try.ntmps119
  go_wp2_with fail
  refine (indexB_any _ xs _ hr).mono ?_
  rintro e w1 ⟨i, rfl, hi, hb⟩
  have HI := Lib.hid hi
  clear hr hi
  go_wp2
  go_ret
  exact ⟨ret_bool HI.out, hb⟩

set_option maxHeartbeats 1600000 in
theorem l12Dead_any (op a b c d : Int) (v : Value) (A : Nat → Bool) (w : World) (hv : Reads w 1 v 14 (bools (tab A))) (ha : op = 1 ∨ op = 2 ∨ op = 6 ∨ op = 7 → 0 ≤ a ∧ a < 14) :
    Calls Try.prog 116 #[.agg #[.int .i64 op, .int .i64 a, .int .i64 b, .int .i64 c, .int .i64 d], v] w fun e w' => e = .returned (.bool (ded ⟨op, a, b, c, d⟩ A)) ∧ Below w.heap.size w w' := by
  have hbx := bal (bself w) (.cells #[.int .i64 op, .int .i64 a, .int .i64 b, .int .i64 c, .int .i64 d] 98)
  obtain ⟨_, hn, aa, cap, b', off, rfl, hcap, hA, hca⟩ := hv
  obtain ⟨rfl, hbs⟩ := hA (by omega)
  by_cases h : op = 1 ∨ op = 2 ∨ op = 6 ∨ op = 7
  · obtain ⟨p1, p2⟩ := ha h
    obtain ⟨na, rfl⟩ : ∃ n : Nat, a = n := ⟨a.toNat, by omega⟩
    have hc := hca na (by rw [bools_length, tab_len]; omega)
    rw [bools_get, tab_get] at hc
    have hc2 := cell_al hc (.cells #[.int .i64 op, .int .i64 (na : Int), .int .i64 b, .int .i64 c, .int .i64 d] 98)
    have kc := lt_of_cell hc
    have hq : (na : Int) < (14 : Int) := by omega
    have hD : ded ⟨op, (na : Int), b, c, d⟩ A = !(A na) := by
      unfold ded
      rcases h with rfl | rfl | rfl | rfl <;> simp
    have HD := Lib.hid hD
    generalize ded ⟨op, (na : Int), b, c, d⟩ A = z at *
    generalize A na = y at *
    clear hD hca hA ha
    rcases h with rfl | rfl | rfl | rfl
    all_goals
      go_enter Try.func116, Try.ntmps116
      go_wp2
      go_ret
      exact ⟨ret_bool HD.out.symm, hbx⟩
  · have HD : Hid (ded ⟨op, a, b, c, d⟩ A = false) := Lib.hid (by
      unfold ded
      have e1 : (op == 1) = false := by simp; omega
      have e2 : (op == 2) = false := by simp; omega
      have e6 : (op == 6) = false := by simp; omega
      have e7 : (op == 7) = false := by simp; omega
      simp only [e1, e2, e6, e7]; rfl)
    have e1 : (op == 1) = false := by simp; omega
    have e2 : (op == 2) = false := by simp; omega
    have e6 : (op == 6) = false := by simp; omega
    have e7 : (op == 7) = false := by simp; omega
    clear h hca hA ha
    go_enter Try.func116, Try.ntmps116
    go_wp2
    go_ret
    exact ⟨ret_bool HD.out.symm, hbx⟩
theorem ded_in {nv na nl : Nat} {x : Ins} (h : insOk nv na nl x = true) (hop : x.op = 1 ∨ x.op = 2 ∨ x.op = 6 ∨ x.op = 7) : 0 ≤ x.a ∧ x.a < 14 := by
  obtain ⟨op, a, b, c, d⟩ := x
  simp only at hop ⊢
  rcases hop with rfl | rfl | rfl | rfl
  all_goals
    unfold insOk at h
    simp [shp, flds, fOk, wi] at h
    omega
end Go.Proofs.Ytkbbpnfhenoihaa
