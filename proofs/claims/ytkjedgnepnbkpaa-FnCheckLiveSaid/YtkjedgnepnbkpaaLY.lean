/-
 Parts of the proofs of the laws FnCheckLive, FnFinalRegs, FnLiveRegister, FnLiveRegs.
-/
import Derived.Test.YtkjedgnepnbkpaaLW
set_option linter.all false
namespace Go.Proofs.Ytkjedgnepnbkpaa
open Go.RowKit

theorem flw_any (x : Ins) (i : Nat) (p : Int → Bool) : (flw x i).any p = (nxt x i).any p := by
 unfold flw nxt
 split
 ·rfl
 ·split
  ·simp [Bool.or_comm]
  ·rfl
/-- the letters say which registers are read -/
theorem knl_reads {x : Ins} (hop : ¬ (x.op < 1 ∨ 13 < x.op)) (r : Int) : ((knl x.op).zip (flds x)).any (fun p => (p.1 == 49 || p.1 == 51) && p.2 == r) = (use x).any (fun u => u == r) := by
 obtain ⟨op, a, b, c, d⟩ := x
 rcases shp_cases op with h | rfl | rfl | rfl | rfl | rfl | rfl | rfl | rfl | rfl | rfl | rfl | rfl | rfl
 ·exact absurd h hop
 all_goals simp [knl, use, flds]
/-- and which is written -/
theorem knl_writes {x : Ins} (hop : ¬ (x.op < 1 ∨ 13 < x.op)) (r : Int) (h0 : 0 ≤ r) : ((knl x.op).zip (flds x)).any (fun p => (p.1 == 50 || p.1 == 51) && p.2 == r) = (wrt x == r) := by
 obtain ⟨op, a, b, c, d⟩ := x
 have hm : (-1 == r) = false := by simp; omega
 rcases shp_cases op with h | rfl | rfl | rfl | rfl | rfl | rfl | rfl | rfl | rfl | rfl | rfl | rfl | rfl
 ·exact absurd h hop
 all_goals simp [knl, wrt, flds, hm]
end Go.Proofs.Ytkjedgnepnbkpaa
namespace Go.Proofs.Ytkjedgnepnbkpaa
open Go.RowKit

theorem tab_len (f : Nat → Bool) : (tab f).length = 14 := by simp [tab]
theorem tab_get (f : Nat → Bool) (r : Nat) (h : r < (tab f).length) : (tab f)[r] = f r := by simp [tab]
theorem tab_getD (f : Nat → Bool) (r : Nat) (h : r < 14) : (tab f).getD r false = f r := by
 rw [List.getD_eq_getElem?_getD, List.getElem?_eq_getElem (by rw [tab_len]; exact h), tab_get]; rfl
theorem tab_congr {f g : Nat → Bool} (h : ∀ r, r < 14 → f r = g r) : tab f = tab g := by
 unfold tab
 exact List.map_congr_left (fun r hr => h r (List.mem_range.1 hr))
theorem tab_set (f : Nat → Bool) (r : Nat) (b : Bool) : (tab f).set r b = tab (fun q => if q = r then b else f q) := by
 apply List.ext_getElem
 ·simp [tab]
 ·intro j h1 h2
  rw [List.getElem_set]
  simp only [tab, List.getElem_map, List.getElem_range]
  by_cases e : r = j
  ·subst e; simp
  ·rw [if_neg e, if_neg (fun h => e h.symm)]
theorem tab_false : List.replicate 14 false = tab (fun _ => false) := by simp [tab, List.map_const']

theorem bit_at (L : List (List Bool)) (t r : Nat) (h : t < L.length) (h2 : r < L[t].length) : bit L (t : Int) r = L[t][r] := by
 unfold bit
 rw [Int.toNat_natCast, List.getElem?_eq_getElem h, Option.getD_some, List.getD_eq_getElem?_getD, List.getElem?_eq_getElem h2]; rfl
def aft (L : List (List Bool)) (ts : List Int) : List Bool := tab (aftF L ts)
theorem aftF_succ (L : List (List Bool)) (ts : List Int) (k : Nat) (h : k < ts.length) (r : Nat) : aftF L (ts.take (k + 1)) r = (aftF L (ts.take k) r || bit L ts[k] r) := by
 unfold aftF
 rw [List.take_succ_eq_append_getElem h, List.any_append]; simp
theorem aft_same (L : List (List Bool)) (x : Ins) (i : Nat) : aft L (flw x i) = aft L (nxt x i) := tab_congr (fun _ _ => flw_any x i _)
theorem befAt_at (c : Cd) (L : List (List Bool)) (i : Nat) (h : i < c.list.length) : befAt c L i = tab (befF c.list[i] (aftF L (flw c.list[i] i))) := by
 unfold befAt; rw [List.getElem?_eq_getElem h]

theorem swps_fix {c : Cd} {n : Nat} (h : swp c (swps c n) = swps c n) (m : Nat) : swps c (n + m) = swps c n := by
 induction m with
 | zero => rfl
 | succ m ih => rw [← Nat.add_assoc, swps, ih, h]
theorem liveOf_of {c : Cd} {n : Nat} (h : swp c (swps c n) = swps c n) (hn : n ≤ 14 * c.list.length) : swps c n = liveOf c := by
 obtain ⟨m, hm⟩ := Nat.exists_eq_add_of_le hn
 rw [liveOf, hm, swps_fix h]

/-- one row covers another -/
def leq (a b : List Bool) : Prop := ∀ r, r < 14 → a.getD r false = true → b.getD r false = true
theorem leq_refl (a : List Bool) : leq a a := fun _ _ h => h
theorem leq_trans {a b c : List Bool} (h : leq a b) (k : leq b c) : leq a c := fun r hr ha => k r hr (h r hr ha)
/-- the map has its shape, and each row is covered by what has to be live there -/
structure InvL (c : Cd) (L : List (List Bool)) : Prop where
 len : L.length = c.list.length
 rows : ∀ k (h : k < L.length), L[k].length = 14
 low : ∀ k (h : k < L.length), leq L[k] (befAt c L k)
theorem bit_mono {L M : List (List Bool)} (h : ∀ k : Nat, leq ((L[k]?).getD []) ((M[k]?).getD [])) (t : Int) {r : Nat} (hr : r < 14) : bit L t r = true → bit M t r = true := h t.toNat r hr
theorem befAt_mono {c : Cd} {L M : List (List Bool)} (h : ∀ k : Nat, leq ((L[k]?).getD []) ((M[k]?).getD [])) (i : Nat) : leq (befAt c L i) (befAt c M i) := by
 intro r hr
 unfold befAt
 cases c.list[i]? with
 | none => exact id
 | some x =>
  simp only
  rw [tab_getD _ _ hr, tab_getD _ _ hr]
  unfold befF aftF
  simp only [Bool.or_eq_true, Bool.and_eq_true, List.any_eq_true]
  rintro (h1 | ⟨⟨t, ht, hb⟩, h2⟩)
  ·exact Or.inl h1
  ·exact Or.inr ⟨⟨t, ht, bit_mono h t hr hb⟩, h2⟩
theorem befAt_len {c : Cd} {L : List (List Bool)} {k : Nat} (h : k < c.list.length) : (befAt c L k).length = 14 := by rw [befAt_at c L k h, tab_len]
theorem zero_inv (c : Cd) : InvL c (zeroL c) := by
 refine ⟨by simp [zeroL], fun k h => by simp [zeroL, tab_len], fun k h r hr => ?_⟩
 simp only [zeroL, List.getElem_replicate]
 rw [tab_getD _ _ hr]; intro h; cases h
theorem up_leq {c : Cd} {L : List (List Bool)} (h : InvL c L) (k : Nat) : ∀ j : Nat, leq ((L[j]?).getD []) (((L.set k (befAt c L k))[j]?).getD []) := by
 intro j
 rw [List.getElem?_set]
 by_cases e : k = j
 ·subst e
  rw [if_pos rfl]
  by_cases hk : k < L.length
  ·rw [if_pos hk, List.getElem?_eq_getElem hk]
   exact h.low k hk
  ·rw [if_neg hk, List.getElem?_eq_none (by omega)]
   exact leq_refl _
 ·rw [if_neg e]; exact leq_refl _
theorem up_inv {c : Cd} {L : List (List Bool)} (h : InvL c L) (k : Nat) (hk : k < L.length) : InvL c (L.set k (befAt c L k)) := by
 refine ⟨by rw [List.length_set]; exact h.len, fun j hj => ?_, fun j hj => ?_⟩
 ·rw [List.getElem_set]
  split
  ·exact befAt_len (by rw [← h.len]; exact hk)
  ·exact h.rows j (by simpa using hj)
 ·rw [List.getElem_set]
  split
  ·rename_i e
   subst e
   exact befAt_mono (up_leq h k) k
  ·exact leq_trans (h.low j (by simpa using hj)) (befAt_mono (up_leq h k) j)

/-- how many registers are not live, over all rows -/
def offs (L : List (List Bool)) : Nat := (L.map (fun a => a.count false)).sum
theorem count_le {a b : List Bool} (hl : a.length = b.length) (h : ∀ r, r < a.length → a.getD r false = true → b.getD r false = true) : b.count false ≤ a.count false ∧ (a ≠ b → b.count false < a.count false) := by
 induction a generalizing b with
 | nil =>
  have : b = [] := List.eq_nil_of_length_eq_zero (by simpa using hl.symm)
  subst this; simp
 | cons x a ih =>
  cases b with
  | nil => simp at hl
  | cons y b =>
   have h0 := h 0 (by simp)
   have ih := ih (b := b) (by simpa using hl) (fun r hr => by have := h (r + 1) (by simpa using hr); simpa using this)
   simp only [List.getD_cons_zero] at h0
   obtain ⟨i1, i2⟩ := ih
   rw [List.count_cons, List.count_cons]
   cases x <;> cases y <;> simp at h0 ⊢
   ·exact ⟨i1, i2⟩
   ·omega
   ·exact ⟨i1, i2⟩
theorem sum_set (f : List Bool → Nat) (L : List (List Bool)) (k : Nat) (hk : k < L.length) (x : List Bool) : ((L.set k x).map f).sum + f L[k] = (L.map f).sum + f x := by
 induction L generalizing k with
 | nil => cases hk
 | cons a L ih =>
  cases k with
  | zero => simp; omega
  | succ k =>
   have := ih k (by simpa using hk)
   simp only [List.set_cons_succ, List.map_cons, List.sum_cons, List.getElem_cons_succ]
   omega
theorem up_offs {c : Cd} {L : List (List Bool)} (h : InvL c L) (k : Nat) (hk : k < L.length) : offs (L.set k (befAt c L k)) ≤ offs L ∧ (befAt c L k ≠ L[k] → offs (L.set k (befAt c L k)) < offs L) := by
 have h1 := sum_set (fun a => a.count false) L k hk (befAt c L k)
 have h14 := h.rows k hk
 have h15 : (befAt c L k).length = 14 := befAt_len (by rw [← h.len]; exact hk)
 obtain ⟨c1, c2⟩ := count_le (a := L[k]) (b := befAt c L k) (by rw [h14, h15]) (fun r hr => h.low k hk r (by omega))
 unfold offs
 refine ⟨by omega, fun hne => ?_⟩
 have := c2 (fun e => hne e.symm)
 omega
theorem zero_offs (c : Cd) : offs (zeroL c) = 14 * c.list.length := by
 unfold offs zeroL
 rw [List.map_replicate, List.sum_replicate_nat]
 rw [show (tab (fun _ => false)).count false = 14 from by rw [← tab_false]; simp]
 omega
theorem swpTo_step (c : Cd) (k : Nat) (L : List (List Bool)) : swpTo c (k + 1) L = swpTo c k (L.set k (befAt c L k)) := rfl
theorem set_self {L : List (List Bool)} {k : Nat} (hk : k < L.length) {x : List Bool} (h : x = L[k]) : L.set k x = L := by
 subst h; simp

theorem nxt_in {c : Cd} (h : codeOk c = true) {i : Nat} (hi : i < c.list.length) : ∀ t ∈ nxt c.list[i] i, 0 ≤ t ∧ t < (c.list.length : Int) := by
 intro t ht
 have hin := codeOk_all h i hi
 obtain ⟨hl, hlast⟩ := codeOk_last h
 have hnext : ¬ c.list[i].op = 13 → ¬ c.list[i].op = 8 → (i : Int) + 1 < (c.list.length : Int) := by
  intro h1 h2
  by_cases e : i = c.list.length - 1
  ·subst e
   rcases hlast with h3 | h3
   ·exact absurd h3 h1
   ·exact absurd h3 h2
  ·omega
 have htg := fun hop => tgt_in0 hin hop
 have hti := fun h0 => (tgt_in hin h0).1
 rcases tgt_cases c.list[i] with ⟨h8, e, _⟩ | ⟨h9, e, _⟩ | ⟨h9, e, _⟩ | ⟨⟨h1, h2, h3⟩, _, _⟩
 ·have h0 := htg (Or.inl h8)
  have h2 := hti h0
  rw [e] at h0 h2
  simp only [nxt, h8, if_true, List.mem_singleton] at ht
  subst ht; exact ⟨h0, h2⟩
 ·have h0 := htg (Or.inr (Or.inl h9))
  have h2 := hti h0
  have h3 := hnext (by omega) (by omega)
  rw [e] at h0 h2
  unfold nxt at ht
  rw [if_neg (by omega), if_pos (Or.inl h9)] at ht
  simp only [List.mem_cons, List.not_mem_nil, or_false] at ht
  rcases ht with rfl | rfl
  ·omega
  ·exact ⟨h0, h2⟩
 ·have h0 := htg (Or.inr (Or.inr h9))
  have h2 := hti h0
  have h3 := hnext (by omega) (by omega)
  rw [e] at h0 h2
  unfold nxt at ht
  rw [if_neg (by omega), if_pos (Or.inr h9)] at ht
  simp only [List.mem_cons, List.not_mem_nil, or_false] at ht
  rcases ht with rfl | rfl
  ·omega
  ·exact ⟨h0, h2⟩
 ·unfold nxt at ht
  rw [if_neg h1, if_neg (by omega)] at ht
  by_cases h13 : c.list[i].op = 13
  ·rw [if_pos h13] at ht; cases ht
  ·rw [if_neg h13] at ht
   simp only [List.mem_singleton] at ht
   have := hnext h13 h1
   subst ht; omega
theorem flw_in {c : Cd} (h : codeOk c = true) {i : Nat} (hi : i < c.list.length) : ∀ t ∈ flw c.list[i] i, 0 ≤ t ∧ t < (c.list.length : Int) := by
 intro t ht
 have h1 := flw_any c.list[i] i (fun u => u == t)
 have h2 : (flw c.list[i] i).any (fun u => u == t) = true := List.any_eq_true.2 ⟨t, ht, by simp⟩
 rw [h1] at h2
 obtain ⟨u, hu, he⟩ := List.any_eq_true.1 h2
 have : u = t := by simpa using he
 subst this
 exact nxt_in h hi u hu
theorem insOk_cases {nv na nl : Nat} {x : Ins} (h : insOk nv na nl x = true) : ∀ p ∈ (shp x.op).zip (flds x), fOk nv na nl p.1.toNat p.2 = true := by
 unfold insOk at h
 simp only [Bool.and_eq_true] at h
 exact List.all_eq_true.1 h.2
theorem fOk_r {nv na nl : Nat} {n : Int} (h : fOk nv na nl 114 n = true) : 0 ≤ n ∧ n < 14 := by
 unfold fOk at h
 rw [if_pos rfl] at h
 have := of_decide_eq_true h
 omega
theorem use_in {nv na nl : Nat} {x : Ins} (h : insOk nv na nl x = true) : ∀ u ∈ use x, 0 ≤ u ∧ u < 14 := by
 have hop := insOk_op h
 have hall := insOk_cases h
 obtain ⟨op, a, b, c, d⟩ := x
 simp only at hop hall
 rcases shp_cases op with h' | rfl | rfl | rfl | rfl | rfl | rfl | rfl | rfl | rfl | rfl | rfl | rfl | rfl
 ·omega
 all_goals
  simp only [shp, flds, use] at hall ⊢
  simp at hall ⊢
 all_goals first | omega | skip
 ·exact fOk_r hall.2.1
 ·exact fOk_r hall.2.2.1
 ·exact ⟨fOk_r hall.2.1, fOk_r hall.2.2.1⟩
 ·exact ⟨fOk_r hall.2.2.1, fOk_r hall.2.2.2⟩
 ·exact ⟨fOk_r hall.2.1, fOk_r hall.2.2.1, fOk_r hall.2.2.2⟩
 ·exact fOk_r hall.1
 ·exact fOk_r hall.1
 ·exact fOk_r hall.1
theorem wrt_in {nv na nl : Nat} {x : Ins} (h : insOk nv na nl x = true) : wrt x = -1 ∨ (0 ≤ wrt x ∧ wrt x < 14) := by
 have hop := insOk_op h
 have hall := insOk_cases h
 obtain ⟨op, a, b, c, d⟩ := x
 simp only at hop hall
 rcases shp_cases op with h' | rfl | rfl | rfl | rfl | rfl | rfl | rfl | rfl | rfl | rfl | rfl | rfl | rfl
 ·omega
 all_goals
  simp only [shp, flds] at hall
  simp [wrt] at hall ⊢
 all_goals exact Or.inr (fOk_r hall.1)
/-- the fields whose letters are digits 1 to 3 are registers -/
theorem knl_in {nv na nl : Nat} {x : Ins} (h : insOk nv na nl x = true) : ∀ p ∈ (knl x.op).zip (flds x), p.1 ≠ 48 → 0 ≤ p.2 ∧ p.2 < 14 := by
 have hop := insOk_op h
 have hall := insOk_cases h
 obtain ⟨op, a, b, c, d⟩ := x
 simp only at hop hall
 rcases shp_cases op with h' | rfl | rfl | rfl | rfl | rfl | rfl | rfl | rfl | rfl | rfl | rfl | rfl | rfl
 ·omega
 all_goals
  simp only [shp, flds, knl] at hall ⊢
  simp at hall ⊢
 all_goals first | exact fOk_r hall.1 | exact fOk_r hall.2.1 | exact ⟨fOk_r hall.1, fOk_r hall.2.2.1⟩ | exact ⟨fOk_r hall.2.1, fOk_r hall.2.2.1⟩ | exact ⟨fOk_r hall.1, fOk_r hall.2.2.1, fOk_r hall.2.2.2⟩ | exact ⟨fOk_r hall.1, fOk_r hall.2.1, fOk_r hall.2.2.1, fOk_r hall.2.2.2⟩
theorem swpTo_inv {c : Cd} (k : Nat) {L : List (List Bool)} (h : InvL c L) (hk : k ≤ L.length) : InvL c (swpTo c k L) := by
 induction k generalizing L with
 | zero => exact h
 | succ k ih => exact ih (up_inv h k (by omega)) (by rw [List.length_set]; omega)
theorem swps_inv (c : Cd) (n : Nat) : InvL c (swps c n) := by
 induction n with
 | zero => exact zero_inv c
 | succ n ih => exact swpTo_inv _ ih (by rw [ih.len]; exact Nat.le_refl _)
def liveR (c : Cd) : List (List Bool) := if codeOk c = true then liveOf c else []
theorem liveR_yes {c : Cd} (h : codeOk c = true) : liveR c = liveOf c := if_pos h
theorem liveR_no {c : Cd} (h : codeOk c = false) : liveR c = [] := by unfold liveR; rw [if_neg (by rw [h]; decide)]
theorem liveR_len (c : Cd) : (liveR c).length ≤ 400 ∧ ∀ (k : Nat) (r : List Bool), (liveR c)[k]? = some r → r.length ≤ 14 := by
 by_cases h : codeOk c = true
 ·rw [liveR_yes h]
  have hi := swps_inv c (14 * c.list.length)
  refine ⟨by rw [liveOf, hi.len]; exact (codeOk_len h).2, fun k r hr => ?_⟩
  obtain ⟨hk, rfl⟩ := List.getElem?_eq_some_iff.1 hr
  rw [show (liveOf c)[k].length = 14 from hi.rows k hk]
  exact Nat.le_refl _
 ·rw [liveR_no (by simpa using h)]
  exact ⟨by simp, fun k r hr => by simp at hr⟩
end Go.Proofs.Ytkjedgnepnbkpaa
