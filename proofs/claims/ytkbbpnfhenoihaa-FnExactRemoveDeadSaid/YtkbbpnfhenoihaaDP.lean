/-
  Code without some instructions, and RemoveDead: plain.
-/
import Derived.Test.YtkbbpnfhenoihaaLZ
namespace Go.Proofs.Ytkbbpnfhenoihaa
open Go.RowKit

/-- how many of the first k instructions remain -/
def stay (d : Nat → Bool) : Nat → Nat
  | 0 => 0
  | k + 1 => stay d k + (if d k = true then 0 else 1)
theorem stay_le (d : Nat → Bool) (k : Nat) : stay d k ≤ k := by
  induction k with
  | zero => simp [stay]
  | succ k ih => simp only [stay]; split <;> omega
theorem stay_mono (d : Nat → Bool) {j k : Nat} (h : j ≤ k) : stay d j ≤ stay d k := by
  induction k with
  | zero => have : j = 0 := by omega
            subst this; exact Nat.le_refl _
  | succ k ih =>
    by_cases e : j = k + 1
    · subst e; exact Nat.le_refl _
    · have := ih (by omega)
      simp only [stay]; omega
theorem stay_lt (d : Nat → Bool) {j k : Nat} (h : j < k) (hd : d j = true) : stay d k < k := by
  induction k with
  | zero => omega
  | succ k ih =>
    simp only [stay]
    by_cases e : j = k
    · subst e
      rw [if_pos hd]
      have := stay_le d j
      omega
    · have := ih (by omega)
      split <;> omega
def stays (d : Nat → Bool) (k : Nat) : List Int := (List.range k).map (fun i => (stay d i : Int))
theorem stays_len (d : Nat → Bool) (k : Nat) : (stays d k).length = k := by simp [stays]
theorem stays_succ (d : Nat → Bool) (k : Nat) : stays d (k + 1) = stays d k ++ [(stay d k : Int)] := by simp [stays, List.range_succ]
theorem stays_get (d : Nat → Bool) (n k : Nat) (h : k < (stays d n).length) : (stays d n)[k] = (stay d k : Int) := by simp [stays]
def dx (d : Nat → Bool) (x : Ins) : Ins := if 0 ≤ tgt x then aim x (stay d (tgt x).toNat) else x
def outTo (l : List Ins) (d : Nat → Bool) : Nat → List Ins
  | 0 => []
  | k + 1 => outTo l d k ++ (match l[k]? with | some x => if d k = true then [] else [dx d x] | none => [])
theorem outTo_succ (l : List Ins) (d : Nat → Bool) (k : Nat) (h : k < l.length) : outTo l d (k + 1) = outTo l d k ++ (if d k = true then [] else [dx d l[k]]) := by
  conv => lhs; unfold outTo
  rw [List.getElem?_eq_getElem h]
theorem outTo_len (l : List Ins) (d : Nat → Bool) (k : Nat) (h : k ≤ l.length) : (outTo l d k).length = stay d k := by
  induction k with
  | zero => rfl
  | succ k ih =>
    rw [outTo_succ l d k (by omega), List.length_append, ih (by omega)]
    simp only [stay]
    split <;> simp
def wout (c : Cd) (d : Nat → Bool) : Cd := ⟨c.vars, c.arrays, outTo c.list d c.list.length⟩
theorem outTo_mem (l : List Ins) (d : Nat → Bool) (k : Nat) (h : k ≤ l.length) : ∀ y ∈ outTo l d k, ∃ (j : Nat) (hj : j < l.length), j < k ∧ d j = false ∧ y = dx d l[j] := by
  induction k with
  | zero => intro y hy; simp [outTo] at hy
  | succ k ih =>
    intro y hy
    rw [outTo_succ l d k (by omega)] at hy
    rcases List.mem_append.1 hy with hy | hy
    · obtain ⟨j, hj, h1, h2, h3⟩ := ih (by omega) y hy
      exact ⟨j, hj, by omega, h2, h3⟩
    · cases hd : d k with
      | true => rw [hd] at hy; simp at hy
      | false =>
        rw [hd] at hy
        simp at hy
        exact ⟨k, by omega, by omega, hd, hy⟩
theorem dx_op (d : Nat → Bool) (x : Ins) : (dx d x).op = x.op := by
  unfold dx
  split
  · unfold aim; repeat (first | split | rfl)
  · rfl
theorem aim_ok {nv na nl nl' : Nat} {x : Ins} (h : insOk nv na nl x = true) {t : Nat} (h0 : 0 ≤ tgt x) (ht : t < nl') : insOk nv na nl' (aim x (t : Int)) = true := by
  obtain ⟨_, hop⟩ := tgt_in h h0
  obtain ⟨op, a, b, c, d⟩ := x
  simp only at hop
  rcases hop with rfl | rfl | rfl
  all_goals
    unfold insOk at h ⊢
    simp [shp, flds, fOk, aim] at h ⊢
    simp [h]
    unfold wi
    exact decide_eq_true (by omega)
theorem insOk_any {nv na nl nl' : Nat} {x : Ins} (h : insOk nv na nl x = true) (h0 : ¬ 0 ≤ tgt x) : insOk nv na nl' x = true := by
  have hop := insOk_op h
  have h1 := fun hp => tgt_in0 h hp
  have h8 : ¬ (x.op = 8 ∨ x.op = 9 ∨ x.op = 10) := fun e => h0 (h1 e)
  clear h1 h0
  obtain ⟨op, a, b, c, d⟩ := x
  simp only at hop h8
  rcases shp_cases op with h' | rfl | rfl | rfl | rfl | rfl | rfl | rfl | rfl | rfl | rfl | rfl | rfl | rfl
  all_goals first | omega | (unfold insOk at h ⊢; simp [shp, flds, fOk] at h ⊢; exact h)
theorem dx_ok {nv na nl nl' : Nat} {d : Nat → Bool} {x : Ins} (h : insOk nv na nl x = true) (hd : ∀ t, t < nl → stay d t < nl') : insOk nv na nl' (dx d x) = true := by
  unfold dx
  split
  · rename_i h0
    obtain ⟨ht, _⟩ := tgt_in h h0
    exact aim_ok h h0 (hd _ (by omega))
  · rename_i h0
    exact insOk_any h h0
theorem codeOk_mk {c : Cd} (h1 : declOk c.vars c.arrays = true) (h2 : 1 ≤ c.list.length ∧ c.list.length ≤ 400) (h3 : ∀ x ∈ c.list, insOk c.vars.length c.arrays.length c.list.length x = true) (h4 : lastOk c.list = true) : codeOk c = true := by
  unfold codeOk
  rw [h1, decide_eq_true h2, List.all_eq_true.2 h3, h4]; rfl
/-- code that keeps its last instruction stays valid -/
theorem wout_ok {c : Cd} {d : Nat → Bool} (h : codeOk c = true) (hd : d (c.list.length - 1) = false) : codeOk (wout c d) = true := by
  obtain ⟨h1, h2⟩ := codeOk_len h
  obtain ⟨hk, hlast⟩ := codeOk_last h
  obtain ⟨n, hn⟩ : ∃ n, c.list.length = n + 1 := ⟨c.list.length - 1, by omega⟩
  have hn1 : c.list.length - 1 = n := by omega
  have hlen := outTo_len c.list d c.list.length (Nat.le_refl _)
  have hs : stay d c.list.length = stay d n + 1 := by rw [hn]; simp only [stay]; rw [← hn1, hd]; rfl
  have hsl := stay_le d c.list.length
  have hin : ∀ t, t < c.list.length → stay d t < stay d c.list.length := fun t ht => by
    have := stay_mono d (j := t) (k := n) (by omega)
    omega
  refine codeOk_mk (show declOk c.vars c.arrays = true from codeOk_decl h) ⟨?_, ?_⟩ ?_ ?_
  · simp only [wout]; omega
  · simp only [wout]; omega
  · intro y hy
    obtain ⟨j, hj, _, _, rfl⟩ := outTo_mem c.list d c.list.length (Nat.le_refl _) y hy
    simp only [wout]
    rw [hlen]
    exact dx_ok (codeOk_all h j hj) hin
  · unfold lastOk
    have e : (wout c d).list = outTo c.list d n ++ [dx d c.list[n]] := by
      simp only [wout]
      conv => lhs; rw [hn]
      have hdn : d n = false := by rw [← hn1]; exact hd
      rw [outTo_succ c.list d n (by omega), hdn]; simp
    rw [e, List.getLast?_concat]
    simp only [dx_op]
    simp only [hn1] at hlast
    rcases hlast with h3 | h3 <;> rw [h3] <;> rfl

/-- an instruction only writes a register that is not live behind it -/
def ded (x : Ins) (A : Nat → Bool) : Bool := (x.op == 1 || (x.op == 2 || (x.op == 6 || x.op == 7))) && !(A x.a.toNat)
def dedAt (c : Cd) (k : Nat) : Bool := match c.list[k]? with | some x => ded x (aftF (liveOf c) (flw x k)) | none => false
theorem dedAt_at (c : Cd) (k : Nat) (h : k < c.list.length) : dedAt c k = ded c.list[k] (aftF (liveOf c) (flw c.list[k] k)) := by
  unfold dedAt; rw [List.getElem?_eq_getElem h]
def deds (c : Cd) (k : Nat) : List Bool := (List.range k).map (dedAt c)
theorem deds_len (c : Cd) (k : Nat) : (deds c k).length = k := by simp [deds]
theorem deds_succ (c : Cd) (k : Nat) : deds c (k + 1) = deds c k ++ [dedAt c k] := by simp [deds, List.range_succ]
theorem deds_get (c : Cd) (n k : Nat) (h : k < (deds c n).length) : (deds c n)[k] = dedAt c k := by simp [deds]
theorem ded_last {c : Cd} (h : codeOk c = true) : dedAt c (c.list.length - 1) = false := by
  obtain ⟨hk, hlast⟩ := codeOk_last h
  rw [dedAt_at c _ hk]
  unfold ded
  rcases hlast with h3 | h3 <;> rw [h3] <;> rfl
def anyDed (c : Cd) : Bool := (deds c c.list.length).any id
theorem anyDed_yes {c : Cd} (h : anyDed c = true) : ∃ k, k < c.list.length ∧ dedAt c k = true := by
  unfold anyDed at h
  obtain ⟨b, hb, h1⟩ := List.any_eq_true.1 h
  simp only [deds, List.mem_map, List.mem_range] at hb
  obtain ⟨k, hk, rfl⟩ := hb
  exact ⟨k, hk, h1⟩
def rem1 (c : Cd) : Cd := wout c (dedAt c)
theorem rem1_len {c : Cd} (h : anyDed c = true) : (rem1 c).list.length < c.list.length := by
  obtain ⟨k, hk, h1⟩ := anyDed_yes h
  simp only [rem1, wout]
  rw [outTo_len _ _ _ (Nat.le_refl _)]
  exact stay_lt _ hk h1
theorem rem1_ok {c : Cd} (h : codeOk c = true) : codeOk (rem1 c) = true := wout_ok h (ded_last h)
def remN : Nat → Cd → Cd
  | 0, c => c
  | n + 1, c => if anyDed c = true then remN n (rem1 c) else c
theorem remN_no {c : Cd} (h : anyDed c = false) (n : Nat) : remN n c = c := by
  cases n with
  | zero => rfl
  | succ n => rw [remN, if_neg (by rw [h]; exact Bool.false_ne_true)]
theorem remN_same (n : Nat) : ∀ (m : Nat) (c : Cd), c.list.length ≤ n → c.list.length ≤ m → remN n c = remN m c := by
  induction n with
  | zero =>
    intro m c hn hm
    have : anyDed c = false := by
      cases h : anyDed c with
      | false => rfl
      | true => have := rem1_len h; omega
    rw [remN_no this, remN_no this]
  | succ n ih =>
    intro m c hn hm
    cases h : anyDed c with
    | false => rw [remN_no h, remN_no h]
    | true =>
      have hl := rem1_len h
      cases m with
      | zero => omega
      | succ m =>
        rw [remN, remN, if_pos h, if_pos h]
        exact ih m (rem1 c) (by omega) (by omega)
def remOf (c : Cd) : Cd := remN c.list.length c
theorem remOf_no {c : Cd} (h : anyDed c = false) : remOf c = c := remN_no h _
theorem remOf_yes {c : Cd} (h : anyDed c = true) : remOf c = remOf (rem1 c) := by
  have hl := rem1_len h
  unfold remOf
  obtain ⟨n, hn⟩ : ∃ n, c.list.length = n + 1 := ⟨c.list.length - 1, by omega⟩
  rw [hn, remN, if_pos h]
  exact remN_same _ _ _ (by omega) (Nat.le_refl _)
def remR (c : Cd) : Cd × Bool := if codeOk c = true then (remOf c, true) else (noCode, false)
theorem remR_no {c : Cd} (h : codeOk c = false) : remR c = (noCode, false) := by unfold remR; rw [h]; rfl
theorem remR_yes {c : Cd} (h : codeOk c = true) : remR c = (remOf c, true) := by unfold remR; rw [if_pos h]
theorem remN_ok (n : Nat) : ∀ c : Cd, codeOk c = true → codeOk (remN n c) = true := by
  induction n with
  | zero => intro c h; exact h
  | succ n ih => intro c h; rw [remN]; split; exact ih _ (rem1_ok h); exact h
theorem remOf_ok {c : Cd} (h : codeOk c = true) : codeOk (remOf c) = true := remN_ok _ c h
theorem remR_lens (c : Cd) : (remR c).1.vars.length ≤ 1048576 ∧ (remR c).1.arrays.length ≤ 1048576 ∧ (remR c).1.list.length ≤ 1048576 := by
  cases h : codeOk c with
  | true =>
    rw [remR_yes h]
    have h0 := remOf_ok h
    have h1 := declOk_len (codeOk_decl h0)
    have h2 := codeOk_len h0
    refine ⟨?_, ?_, ?_⟩ <;> simp only <;> omega
  | false => rw [remR_no h]; simp [noCode]
end Go.Proofs.Ytkbbpnfhenoihaa
