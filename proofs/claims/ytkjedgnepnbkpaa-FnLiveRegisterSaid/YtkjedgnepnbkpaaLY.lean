/-
 Parts of the proofs of the laws FnCheckLive, FnCodeFenced, FnEraseCode, FnEraseSecret, FnFinalRegs, FnLiveRegister, FnLiveRegs, FnSpecPath.
-/
import Derived.Test.YtkjedgnepnbkpaaKq4
set_option maxHeartbeats 12800000
set_option maxRecDepth 100000
set_option linter.all false
namespace Go.Proofs.Ytkjedgnepnbkpaa
open Go.RowKit
theorem flw_any (x : Ins) (i : Nat) (p : Int → Bool) : (flw x i).any p = (nxt x i).any p := by
 unfold flw nxt
 split
 ·rfl
 split
 ·simp [Bool.or_comm]
 rfl
theorem knl_reads {x : Ins} (hop : ¬ (x.op < 1 ∨ 13 < x.op)) (r : Int) : ((knl x.op).zip (flds x)).any (fun p => (p.1 == 49 || p.1 == 51) && p.2 == r) = (use x).any (fun u => u == r) := by
 obtain ⟨op, a, b, c, d⟩ := x
 rcases shp_cases op with h | rfl | rfl | rfl | rfl | rfl | rfl | rfl | rfl | rfl | rfl | rfl | rfl | rfl
 ·exact absurd h hop
 all_goals simp [knl, use, flds]
theorem knl_writes {x : Ins} (hop : ¬ (x.op < 1 ∨ 13 < x.op)) (r : Int) (h0 : 0 ≤ r) : ((knl x.op).zip (flds x)).any (fun p => (p.1 == 50 || p.1 == 51) && p.2 == r) = (wrt x == r) := by
 obtain ⟨op, a, b, c, d⟩ := x
 have hm : (-1 == r) = false := by simp; omega
 rcases shp_cases op with h | rfl | rfl | rfl | rfl | rfl | rfl | rfl | rfl | rfl | rfl | rfl | rfl | rfl
 ·exact absurd h hop
 all_goals simp [knl, wrt, flds, hm]
end Go.Proofs.Ytkjedgnepnbkpaa
namespace Go.Proofs.Ytkjedgnepnbkpaa
open Go.RowKit
theorem tab_len (f : Nat → Bool) : (tab f).length = 14 := by simp [tab]
theorem tab_get (f : Nat → Bool) (r : Nat) (h : r < (tab f).length) : (tab f)[r] = f r := by simp [tab]
theorem tab_getD (f : Nat → Bool) (r : Nat) (h : r < 14) : (tab f).getD r false = f r := by
 rw [List.getD_eq_getElem?_getD, List.getElem?_eq_getElem (by rw [tab_len]; exact h), tab_get]; rfl
theorem tab_congr {f g : Nat → Bool} (h : ∀ r, r < 14 → f r = g r) : tab f = tab g := by
 unfold tab
 exact List.map_congr_left (fun r hr => h r (List.mem_range.1 hr))
theorem tab_set (f : Nat → Bool) (r : Nat) (b : Bool) : (tab f).set r b = tab (fun q => if q = r then b else f q) := by
 apply List.ext_getElem
 ·simp [tab]
 intro j h1 h2
 rw [List.getElem_set]
 simp only [tab, List.getElem_map, List.getElem_range]
 by_cases e : r = j
 ·subst e; simp
 rw [if_neg e, if_neg (fun h => e h.symm)]
theorem tab_false : List.replicate 14 false = tab (fun _ => false) := by simp [tab, List.map_const']
theorem bit_at (L : List (List Bool)) (t r : Nat) (h : t < L.length) (h2 : r < L[t].length) : bit L (t : Int) r = L[t][r] := by
 unfold bit
 rw [Int.toNat_natCast, List.getElem?_eq_getElem h, Option.getD_some, List.getD_eq_getElem?_getD, List.getElem?_eq_getElem h2]; rfl
def aft (L : List (List Bool)) (ts : List Int) : List Bool := tab (aftF L ts)
theorem aftF_succ (L : List (List Bool)) (ts : List Int) (k : Nat) (h : k < ts.length) (r : Nat) : aftF L (ts.take (k + 1)) r = (aftF L (ts.take k) r || bit L ts[k] r) := by
 unfold aftF
 rw [List.take_succ_eq_append_getElem h, List.any_append]; simp
theorem aft_same (L : List (List Bool)) (x : Ins) (i : Nat) : aft L (flw x i) = aft L (nxt x i) := tab_congr (fun _ _ => flw_any x i _)
theorem befAt_at (c : Cd) (L : List (List Bool)) (i : Nat) (h : i < c.list.length) : befAt c L i = tab (befF c.list[i] (aftF L (flw c.list[i] i))) := by
 unfold befAt; rw [List.getElem?_eq_getElem h]
theorem swps_fix {c : Cd} {n : Nat} (h : swp c (swps c n) = swps c n) (m : Nat) : swps c (n + m) = swps c n := by
 induction m with
 | zero => rfl
 | succ m ih => rw [← Nat.add_assoc, swps, ih, h]
theorem liveOf_of {c : Cd} {n : Nat} (h : swp c (swps c n) = swps c n) (hn : n ≤ 14 * c.list.length) : swps c n = liveOf c := by
 obtain ⟨m, hm⟩ := Nat.exists_eq_add_of_le hn
 rw [liveOf, hm, swps_fix h]
def leq (a b : List Bool) : Prop := ∀ r, r < 14 → a.getD r false = true → b.getD r false = true
theorem leq_refl (a : List Bool) : leq a a := fun _ _ h => h
theorem leq_trans {a b c : List Bool} (h : leq a b) (k : leq b c) : leq a c := fun r hr ha => k r hr (h r hr ha)
structure InvL (c : Cd) (L : List (List Bool)) : Prop where
 len : L.length = c.list.length
 rows : ∀ k (h : k < L.length), L[k].length = 14
 low : ∀ k (h : k < L.length), leq L[k] (befAt c L k)
theorem bit_mono {L M : List (List Bool)} (h : ∀ k : Nat, leq ((L[k]?).getD []) ((M[k]?).getD [])) (t : Int) {r : Nat} (hr : r < 14) : bit L t r = true → bit M t r = true := h t.toNat r hr
theorem befAt_mono {c : Cd} {L M : List (List Bool)} (h : ∀ k : Nat, leq ((L[k]?).getD []) ((M[k]?).getD [])) (i : Nat) : leq (befAt c L i) (befAt c M i) := by
 intro r hr
 unfold befAt
 cases c.list[i]? with
 | none => exact id
 | some x =>
  simp only
  rw [tab_getD _ _ hr, tab_getD _ _ hr]
  unfold befF aftF
  simp only [Bool.or_eq_true, Bool.and_eq_true, List.any_eq_true]
  rintro (h1 | ⟨⟨t, ht, hb⟩, h2⟩)
  ·exact Or.inl h1
  exact Or.inr ⟨⟨t, ht, bit_mono h t hr hb⟩, h2⟩
theorem befAt_len {c : Cd} {L : List (List Bool)} {k : Nat} (h : k < c.list.length) : (befAt c L k).length = 14 := by rw [befAt_at c L k h, tab_len]
theorem zero_inv (c : Cd) : InvL c (zeroL c) := by
 refine ⟨by simp [zeroL], fun k h => by simp [zeroL, tab_len], fun k h r hr => ?_⟩
 simp only [zeroL, List.getElem_replicate]
 rw [tab_getD _ _ hr]; intro h; cases h
theorem up_leq {c : Cd} {L : List (List Bool)} (h : InvL c L) (k : Nat) : ∀ j : Nat, leq ((L[j]?).getD []) (((L.set k (befAt c L k))[j]?).getD []) := by
 intro j
 rw [List.getElem?_set]
 by_cases e : k = j
 ·subst e
  rw [if_pos rfl]
  by_cases hk : k < L.length
  ·rw [if_pos hk, List.getElem?_eq_getElem hk]
   exact h.low k hk
  rw [if_neg hk, List.getElem?_eq_none (by omega)]
  exact leq_refl _
 rw [if_neg e]; exact leq_refl _
theorem up_inv {c : Cd} {L : List (List Bool)} (h : InvL c L) (k : Nat) (hk : k < L.length) : InvL c (L.set k (befAt c L k)) := by
 refine ⟨by rw [List.length_set]; exact h.len, fun j hj => ?_, fun j hj => ?_⟩
 ·rw [List.getElem_set]
  split
  ·exact befAt_len (by rw [← h.len]; exact hk)
  exact h.rows j (by simpa using hj)
 rw [List.getElem_set]
 split
 ·rename_i e
  subst e
  exact befAt_mono (up_leq h k) k
 exact leq_trans (h.low j (by simpa using hj)) (befAt_mono (up_leq h k) j)
def offs (L : List (List Bool)) : Nat := (L.map (fun a => a.count false)).sum
theorem count_le {a b : List Bool} (hl : a.length = b.length) (h : ∀ r, r < a.length → a.getD r false = true → b.getD r false = true) : b.count false ≤ a.count false ∧ (a ≠ b → b.count false < a.count false) := by
 induction a generalizing b with
 | nil =>
  have : b = [] := List.eq_nil_of_length_eq_zero (by simpa using hl.symm)
  subst this; simp
 | cons x a ih =>
  cases b with
  | nil => simp at hl
  | cons y b =>
   have h0 := h 0 (by simp)
   have ih := ih (b := b) (by simpa using hl) (fun r hr => by have := h (r + 1) (by simpa using hr); simpa using this)
   simp only [List.getD_cons_zero] at h0
   obtain ⟨i1, i2⟩ := ih
   rw [List.count_cons, List.count_cons]
   cases x <;> cases y <;> simp at h0 ⊢
   ·exact ⟨i1, i2⟩
   ·omega
   exact ⟨i1, i2⟩
theorem sum_set (f : List Bool → Nat) (L : List (List Bool)) (k : Nat) (hk : k < L.length) (x : List Bool) : ((L.set k x).map f).sum + f L[k] = (L.map f).sum + f x := by
 induction L generalizing k with
 | nil => cases hk
 | cons a L ih =>
  cases k with
  | zero => simp; omega
  | succ k =>
   have := ih k (by simpa using hk)
   simp only [List.set_cons_succ, List.map_cons, List.sum_cons, List.getElem_cons_succ]
   omega
theorem up_offs {c : Cd} {L : List (List Bool)} (h : InvL c L) (k : Nat) (hk : k < L.length) : offs (L.set k (befAt c L k)) ≤ offs L ∧ (befAt c L k ≠ L[k] → offs (L.set k (befAt c L k)) < offs L) := by
 have h1 := sum_set (fun a => a.count false) L k hk (befAt c L k)
 have a0 := h.rows k hk
 have b0 : (befAt c L k).length = 14 := befAt_len (by rw [← h.len]; exact hk)
 obtain ⟨c1, c2⟩ := count_le (a := L[k]) (b := befAt c L k) (by rw [a0, b0]) (fun r hr => h.low k hk r (by omega))
 unfold offs
 refine ⟨by omega, fun hne => ?_⟩
 have := c2 (fun e => hne e.symm)
 omega
theorem zero_offs (c : Cd) : offs (zeroL c) = 14 * c.list.length := by
 unfold offs zeroL
 rw [List.map_replicate, List.sum_replicate_nat]
 rw [show (tab (fun _ => false)).count false = 14 from by rw [← tab_false]; simp]
 omega
theorem swpTo_step (c : Cd) (k : Nat) (L : List (List Bool)) : swpTo c (k + 1) L = swpTo c k (L.set k (befAt c L k)) := rfl
theorem set_self {L : List (List Bool)} {k : Nat} (hk : k < L.length) {x : List Bool} (h : x = L[k]) : L.set k x = L := by
 subst h; simp
theorem nxt_in {c : Cd} (h : codeOk c = true) {i : Nat} (hi : i < c.list.length) : ∀ t ∈ nxt c.list[i] i, 0 ≤ t ∧ t < (c.list.length : Int) := by
 intro t ht
 have e0 := codeOk_all h i hi
 obtain ⟨hl, b0⟩ := codeOk_last h
 have a0 : ¬ c.list[i].op = 13 → ¬ c.list[i].op = 8 → (i : Int) + 1 < (c.list.length : Int) := by
  intro h1 h2
  by_cases e : i = c.list.length - 1
  ·subst e
   rcases b0 with h3 | h3
   ·exact absurd h3 h1
   exact absurd h3 h2
  omega
 have c0 := fun hop => tgt_in0 e0 hop
 have d0 := fun h0 => (tgt_in e0 h0).1
 rcases tgt_cases c.list[i] with ⟨h8, e, _⟩ | ⟨h9, e, _⟩ | ⟨h9, e, _⟩ | ⟨⟨h1, h2, h3⟩, _, _⟩
 ·have h0 := c0 (Or.inl h8)
  have h2 := d0 h0
  rw [e] at h0 h2
  simp only [nxt, h8, if_true, List.mem_singleton] at ht
  subst ht; exact ⟨h0, h2⟩
 ·have h0 := c0 (Or.inr (Or.inl h9))
  have h2 := d0 h0
  have h3 := a0 (by omega) (by omega)
  rw [e] at h0 h2
  unfold nxt at ht
  rw [if_neg (by omega), if_pos (Or.inl h9)] at ht
  simp only [List.mem_cons, List.not_mem_nil, or_false] at ht
  rcases ht with rfl | rfl
  ·omega
  exact ⟨h0, h2⟩
 ·have h0 := c0 (Or.inr (Or.inr h9))
  have h2 := d0 h0
  have h3 := a0 (by omega) (by omega)
  rw [e] at h0 h2
  unfold nxt at ht
  rw [if_neg (by omega), if_pos (Or.inr h9)] at ht
  simp only [List.mem_cons, List.not_mem_nil, or_false] at ht
  rcases ht with rfl | rfl
  ·omega
  exact ⟨h0, h2⟩
 unfold nxt at ht
 rw [if_neg h1, if_neg (by omega)] at ht
 by_cases h13 : c.list[i].op = 13
 ·rw [if_pos h13] at ht; cases ht
 rw [if_neg h13] at ht
 simp only [List.mem_singleton] at ht
 have := a0 h13 h1
 subst ht; omega
theorem flw_in {c : Cd} (h : codeOk c = true) {i : Nat} (hi : i < c.list.length) : ∀ t ∈ flw c.list[i] i, 0 ≤ t ∧ t < (c.list.length : Int) := by
 intro t ht
 have h1 := flw_any c.list[i] i (fun u => u == t)
 have h2 : (flw c.list[i] i).any (fun u => u == t) = true := List.any_eq_true.2 ⟨t, ht, by simp⟩
 rw [h1] at h2
 obtain ⟨u, hu, he⟩ := List.any_eq_true.1 h2
 have : u = t := by simpa using he
 subst this
 exact nxt_in h hi u hu
theorem insOk_cases {nv na nl : Nat} {x : Ins} (h : insOk nv na nl x = true) : ∀ p ∈ (shp x.op).zip (flds x), fOk nv na nl p.1.toNat p.2 = true := by
 unfold insOk at h
 simp only [Bool.and_eq_true] at h
 exact List.all_eq_true.1 h.2
theorem fOk_r {nv na nl : Nat} {n : Int} (h : fOk nv na nl 114 n = true) : 0 ≤ n ∧ n < 14 := by
 unfold fOk at h
 rw [if_pos rfl] at h
 have := of_decide_eq_true h
 omega
theorem use_in {nv na nl : Nat} {x : Ins} (h : insOk nv na nl x = true) : ∀ u ∈ use x, 0 ≤ u ∧ u < 14 := by
 have b0 := insOk_op h
 have a0 := insOk_cases h
 obtain ⟨op, a, b, c, d⟩ := x
 simp only at b0 a0
 rcases shp_cases op with h' | rfl | rfl | rfl | rfl | rfl | rfl | rfl | rfl | rfl | rfl | rfl | rfl | rfl
 ·omega
 all_goals
  simp only [shp, flds, use] at a0 ⊢
  simp at a0 ⊢
 all_goals first | omega | skip
 ·exact fOk_r a0.2.1
 ·exact fOk_r a0.2.2.1
 ·exact ⟨fOk_r a0.2.1, fOk_r a0.2.2.1⟩
 ·exact ⟨fOk_r a0.2.2.1, fOk_r a0.2.2.2⟩
 ·exact ⟨fOk_r a0.2.1, fOk_r a0.2.2.1, fOk_r a0.2.2.2⟩
 ·exact fOk_r a0.1
 ·exact fOk_r a0.1
 exact fOk_r a0.1
theorem wrt_in {nv na nl : Nat} {x : Ins} (h : insOk nv na nl x = true) : wrt x = -1 ∨ (0 ≤ wrt x ∧ wrt x < 14) := by
 have b0 := insOk_op h
 have a0 := insOk_cases h
 obtain ⟨op, a, b, c, d⟩ := x
 simp only at b0 a0
 rcases shp_cases op with h' | rfl | rfl | rfl | rfl | rfl | rfl | rfl | rfl | rfl | rfl | rfl | rfl | rfl
 ·omega
 all_goals
  simp only [shp, flds] at a0
  simp [wrt] at a0 ⊢
 all_goals exact Or.inr (fOk_r a0.1)
theorem knl_in {nv na nl : Nat} {x : Ins} (h : insOk nv na nl x = true) : ∀ p ∈ (knl x.op).zip (flds x), p.1 ≠ 48 → 0 ≤ p.2 ∧ p.2 < 14 := by
 have b0 := insOk_op h
 have a0 := insOk_cases h
 obtain ⟨op, a, b, c, d⟩ := x
 simp only at b0 a0
 rcases shp_cases op with h' | rfl | rfl | rfl | rfl | rfl | rfl | rfl | rfl | rfl | rfl | rfl | rfl | rfl
 ·omega
 all_goals
  simp only [shp, flds, knl] at a0 ⊢
  simp at a0 ⊢
 all_goals first | exact fOk_r a0.1 | exact fOk_r a0.2.1 | exact ⟨fOk_r a0.1, fOk_r a0.2.2.1⟩ | exact ⟨fOk_r a0.2.1, fOk_r a0.2.2.1⟩ | exact ⟨fOk_r a0.1, fOk_r a0.2.2.1, fOk_r a0.2.2.2⟩ | exact ⟨fOk_r a0.1, fOk_r a0.2.1, fOk_r a0.2.2.1, fOk_r a0.2.2.2⟩
theorem swpTo_inv {c : Cd} (k : Nat) {L : List (List Bool)} (h : InvL c L) (hk : k ≤ L.length) : InvL c (swpTo c k L) := by
 induction k generalizing L with
 | zero => exact h
 | succ k ih => exact ih (up_inv h k (by omega)) (by rw [List.length_set]; omega)
theorem swps_inv (c : Cd) (n : Nat) : InvL c (swps c n) := by
 induction n with
 | zero => exact zero_inv c
 | succ n ih => exact swpTo_inv _ ih (by rw [ih.len]; exact Nat.le_refl _)
def liveR (c : Cd) : List (List Bool) := if codeOk c = true then liveOf c else []
theorem liveR_yes {c : Cd} (h : codeOk c = true) : liveR c = liveOf c := if_pos h
theorem liveR_no {c : Cd} (h : codeOk c = false) : liveR c = [] := by unfold liveR; rw [if_neg (by rw [h]; decide)]
theorem liveR_len (c : Cd) : (liveR c).length ≤ 400 ∧ ∀ (k : Nat) (r : List Bool), (liveR c)[k]? = some r → r.length ≤ 14 := by
 by_cases h : codeOk c = true
 ·rw [liveR_yes h]
  have hi := swps_inv c (14 * c.list.length)
  refine ⟨by rw [liveOf, hi.len]; exact (codeOk_len h).2, fun k r hr => ?_⟩
  obtain ⟨hk, rfl⟩ := List.getElem?_eq_some_iff.1 hr
  rw [show (liveOf c)[k].length = 14 from hi.rows k hk]
  exact Nat.le_refl _
 rw [liveR_no (by simpa using h)]
 exact ⟨by simp, fun k r hr => by simp at hr⟩
end Go.Proofs.Ytkjedgnepnbkpaa
namespace Go.Proofs.Ytkjedgnepnbkpaa
open Go.RowKit
theorem mk_bool14 (u : World) : (Instr.makeSlice 66 (.int .i64 14) (.int .i64 14)).run Try.prog u = .ok (.slice (some ⟨u.heap.size, 0, none⟩) 14 14) (u.alloc (.cells (madeCells #[.bool false] 14) 4)) := mk_boolF 14 (by omega) u
theorem flw_len (x : Ins) (i : Nat) : (flw x i).length ≤ 2 := by unfold flw; repeat (first | split | simp)
theorem nxt_len (x : Ins) (i : Nat) : (nxt x i).length ≤ 2 := by unfold nxt; repeat (first | split | simp)
theorem own_tab_set {w : World} {base : Nat} {e : TypeId} {g cap : Nat} {F : Nat → Bool} (ho : w.ownsRow base e 1 (.slice (some ⟨g, 0, none⟩) 14 cap) 14 (bools (tab F))) (r : Nat) (b : Bool) {G : Nat → Bool} (hG : ∀ q, q < 14 → (if q = r then b else F q) = G q) :
  (w.setCell ⟨g, r, none⟩ (.bool b)).ownsRow base e 1 (.slice (some ⟨g, 0, none⟩) 14 cap) 14 (bools (tab G)) := by
 have h := (ho.stored r (.bool b)).1
 rw [bools_set, tab_set, tab_congr hG] at h
 exact h
theorem own_tab_at {w : World} {base : Nat} {e : TypeId} {g cap : Nat} {F : Nat → Bool} (ho : w.ownsRow base e 1 (.slice (some ⟨g, 0, none⟩) 14 cap) 14 (bools (tab F))) (r : Nat) (hr : r < 14) : w.cell? ⟨g, r, none⟩ = some (.bool (F r)) := by
 rw [ho.cellAt r (by omega), bools_at _ _ (by rw [tab_len]; exact hr), tab_get]
theorem liveAfter_any (va vb vc v : Value) (c : Cd) (L : List (List Bool)) (i : Nat) (w : World) (hr : ReadsC w va vb vc c) (hv : Reads2 bools w v L) (hL : L.length = c.list.length) (hrow : ∀ k (h : k < L.length), L[k].length = 14) (hok : codeOk c = true) (hi : i < c.list.length) :
  Calls Try.prog 132 #[.agg #[va, vb, vc], .int .i64 i, v] w fun e w' => ∃ g, e = .returned (.slice (some ⟨g, 0, none⟩) 14 14) ∧ w'.ownsRow w.heap.size 4 1 (.slice (some ⟨g, 0, none⟩) 14 14) 14 (bools (aft L (flw c.list[i] i))) ∧ Below w.heap.size w w' := by
 obtain ⟨a0, c0, a1, c1, a2, c2, rfl, rfl, rfl⟩ := hr.shape
 obtain ⟨a3, c3, rfl⟩ := hv.shape
 obtain ⟨t1, u1⟩ := codeOk_len hok
 have v1 := fun u => mk_bool14 u
 have z0 := bal (Bs w) (.cells #[.slice a0 c.vars.length c0, .slice a1 c.arrays.length c1, .slice a2 c.list.length c2] 26)
 have f0 := own_made (w.alloc (.cells #[.slice a0 c.vars.length c0, .slice a1 c.arrays.length c1, .slice a2 c.list.length c2] 26)) (.bool false) 14 4 (by unfold maxLen; omega)
 rw [← bools_replicate, tab_false] at f0
 simp only [Sa] at f0
 have t0 := bal z0 (.cells (madeCells #[.bool false] 14) 4)
 have d1 := fun t ht => flw_in hok hi t ht
 have HC := Lib.hid (fun W (hW : Below w.heap.size w W) => follow_any _ _ _ c i W (hr.below hW) hi (by omega) (codeOk_all hok i hi))
 have y1 := flw_len c.list[i] i
 generalize flw c.list[i] i = ts at *
 have HI := Lib.hid d1
 have HV := Lib.hid hv
 have HR := Lib.hid hrow
 have HL := Lib.hid hL
 clear hr hv d1 hrow hL
 go_enter Try.func132, Try.ntmps132
 go_wp2_with fail
 refine (HC.out _ t0).mono ?_
 rintro e w1 ⟨u, rfl, k0, hb⟩
 have m1 := hb.size
 simp only [Sa] at m1
 have j1 := Ob f0 hb
 have m0 := btr t0 hb
 obtain ⟨ua, uc, rfl⟩ := Oh k0
 have w0 := k0.lt
 simp only [Sa] at w0
 clear f0 hb t0 z0 HC
 go_wp2_with fail
 go_loopw [17] (fun t wr => ∃ k : Nat, k ≤ ts.length ∧ t = .int .i64 k ∧ wr.ownsRow (w.heap.size + 1) 4 1 (.slice (some ⟨w.heap.size + 1, 0, none⟩) 14 14) 14 (bools (tab (aftF L (ts.take k)))) ∧ Chg (fun q => q = w.heap.size + 1) w1 wr) (fun t _ => ts.length - (intOf t).toNat)
 case atStart => exact ⟨0, Nat.zero_le _, rfl, j1, Chg.refl _ _⟩
 case round =>
  obtain ⟨k, hk, rfl, ho, hC⟩ := hrel
  have z1 := hC.size
  have hB := m0.trans (hC.below w.heap.size m0.size (fun q hq h => by omega))
  by_cases hlt : k < ts.length
  ·have f1 := Ow k0 hC (fun q hq h => by have := w0 q hq; omega)
   obtain ⟨g', c', b1⟩ := own_pos f1 (by omega)
   simp only [Value.slice.injEq, true_and] at b1
   obtain ⟨rfl, rfl⟩ := b1
   have s1 := w0 g' rfl
   have b0 := f1.cellAt k (by omega)
   rw [List.getElem?_eq_getElem (by rw [ints_length]; exact hlt), ints_get] at b0
   obtain ⟨k1, l1⟩ := HI.out _ (List.getElem_mem hlt)
   have e1 := fun q => aftF_succ L ts k hlt q
   generalize ts[k] = tk at *
   obtain ⟨nt, rfl⟩ : ∃ nt : Nat, tk = (nt : Int) := ⟨tk.toNat, by omega⟩
   have u0 : nt < L.length := by have := HL.out; omega
   have y0 := fun r h => bit_at L nt r u0 h
   have q0 := HR.out nt u0
   obtain ⟨bl, ol, ul, rfl, i1, n0, g1⟩ := HV.out.at nt u0
   rw [q0] at g1
   replace n0 := Kc hB n0
   generalize L[nt] = row at *
   obtain ⟨_, _, ar, cr, br, b2, rfl, r1, x0, d0⟩ := g1
   obtain ⟨rfl, n1⟩ := x0 (by omega)
   have s0 : ¬ br = w.heap.size + 1 := by omega
   have HG : Hid (∀ q, q < 14 → aftF L (ts.take (k + 1)) q = (aftF L (ts.take k) q || row.getD q false)) := Lib.hid (fun q hq => by rw [e1 q, y0 q (by omega), List.getD_eq_getElem?_getD, List.getElem?_eq_getElem (by omega)]; rfl)
   have HS := Lib.hid (fun j hj => Kc hB (d0 j hj))
   have p0 := Lib.hid q0
   have x1 : (nt : Int) < (L.length : Int) := by omega
   generalize aftF L (ts.take k) = F1 at *
   generalize hF2 : aftF L (ts.take (k + 1)) = F2 at *
   have h1 := Lib.hid hF2; clear hF2
   have HO := Lib.hid (And.intro k0 m0)
   clear e1 y0 q0 d0 x0 k1 l1 m0 k0 HI HV HR HL
   go_wp2_with fail
   go_loopw [26] (fun t wy => ∃ r : Nat, r ≤ 14 ∧ t = .int .i64 r ∧ wy.ownsRow (w.heap.size + 1) 4 1 (.slice (some ⟨w.heap.size + 1, 0, none⟩) 14 14) 14 (bools (tab (fun q => if q < r then F2 q else F1 q))) ∧ Chg (fun q => q = w.heap.size + 1) wr wy) (fun t _ => 14 - (intOf t).toNat)
   case atStart => exact ⟨0, Nat.zero_le _, rfl, by simpa using ho, Chg.refl _ _⟩
   case round =>
    obtain ⟨r, hr, rfl, j0, e0⟩ := hrel
    by_cases hlr : r < 14
    ·have v0 := own_tab_at j0 r hlr
     simp only [Nat.lt_irrefl, if_false] at v0
     have hf := j0.frozenAt r
     have g0 := HS.out r (by rw [bools_length, p0.out]; exact hlr)
     rw [bools_get] at g0
     have o1 := Gc e0 g0 s0
     have p1 := Gc e0 b0 (fun h => by omega)
     have q1 := Gc e0 n0 (fun h => by omega)
     have l0 := HG.out r hlr
     rw [List.getD_eq_getElem?_getD, List.getElem?_eq_getElem (by have := p0.out; omega)] at l0
     simp only [Option.getD_some] at l0
     generalize row[r]'(by have := p0.out; omega) = z at *
     have o0 := fun b (h : b = (F1 r || z)) => own_tab_set j0 r b (G := fun q => if q < r + 1 then F2 q else F1 q) (fun q hq => by
      by_cases e : q = r
      ·subst e; rw [if_pos rfl, if_pos (by omega), l0]; exact h
      rw [if_neg e]; by_cases e2 : q < r
      ·rw [if_pos e2, if_pos (by omega)]
      rw [if_neg e2, if_neg (by omega)])
     have i0 := fun b => e0.setCell (w.heap.size + 1) r (.bool b) (fun _ => rfl)
     generalize F1 r = y at *
     clear l0 g0 HG HS j0 e0 b0 n0 ho hC
     cases y with
     | true =>
      have h0 := o0 true rfl
      have r0 := i0 true
      clear o0 i0
      go_wp2
      go_roundw
      case rel => exact ⟨r + 1, by omega, by go_num, h0, r0⟩
      case measure => simp [intOf]; omega
     | false =>
      have h0 := o0 z rfl
      have r0 := i0 z
      clear o0 i0
      go_wp2
      go_roundw
      case rel => exact ⟨r + 1, by omega, by go_num, h0, r0⟩
      case measure => simp [intOf]; omega
    have e : r = 14 := by omega
    subst e
    rw [tab_congr (g := F2) (fun q hq => if_pos hq)] at j0
    have i0 := hC.trans ⟨e0.os, e0.tape, e0.output, e0.size, fun q hq hn => e0.block q hq hn⟩
    go_wp2
    go_roundw
    case rel => exact ⟨k + 1, by omega, by go_num, by rw [h1.out]; exact j0, i0⟩
    case measure => simp [intOf]; omega
  have e : k = ts.length := by omega
  subst e
  rw [List.take_length] at ho
  go_wp2
  go_ret
  exact ⟨_, rfl, Om ho (by omega), hB⟩
theorem l12After_any (va vb vc v : Value) (c : Cd) (L : List (List Bool)) (i : Nat) (w : World) (hr : ReadsC w va vb vc c) (hv : Reads2 bools w v L) (hL : L.length = c.list.length) (hrow : ∀ k (h : k < L.length), L[k].length = 14) (hok : codeOk c = true) (hi : i < c.list.length) :
  Calls Try.prog 87 #[.agg #[va, vb, vc], v, .int .i64 i] w fun e w' => ∃ g, e = .returned (.slice (some ⟨g, 0, none⟩) 14 14) ∧ w'.ownsRow w.heap.size 4 1 (.slice (some ⟨g, 0, none⟩) 14 14) 14 (bools (aft L (nxt c.list[i] i))) ∧ Below w.heap.size w w' := by
 obtain ⟨a0, c0, a1, c1, a2, c2, rfl, rfl, rfl⟩ := hr.shape
 obtain ⟨a3, c3, rfl⟩ := hv.shape
 obtain ⟨t1, u1⟩ := codeOk_len hok
 have v1 := fun u => mk_bool14 u
 have z0 := bal (Bs w) (.cells #[.slice a0 c.vars.length c0, .slice a1 c.arrays.length c1, .slice a2 c.list.length c2] 26)
 have f0 := own_made (w.alloc (.cells #[.slice a0 c.vars.length c0, .slice a1 c.arrays.length c1, .slice a2 c.list.length c2] 26)) (.bool false) 14 4 (by unfold maxLen; omega)
 rw [← bools_replicate, tab_false] at f0
 simp only [Sa] at f0
 have t0 := bal z0 (.cells (madeCells #[.bool false] 14) 4)
 have d1 := fun t ht => nxt_in hok hi t ht
 have HC := Lib.hid (fun W (hW : Below w.heap.size w W) => l8Next_any _ _ _ c i W (hr.below hW) hi (by omega))
 have y1 := nxt_len c.list[i] i
 generalize nxt c.list[i] i = ts at *
 have HI := Lib.hid d1
 have HV := Lib.hid hv
 have HR := Lib.hid hrow
 have HL := Lib.hid hL
 clear hr hv d1 hrow hL
 go_enter Try.func87, Try.ntmps87
 go_wp2_with fail
 refine (HC.out _ t0).mono ?_
 rintro e w1 ⟨u, rfl, k0, hb⟩
 have m1 := hb.size
 simp only [Sa] at m1
 have j1 := Ob f0 hb
 have m0 := btr t0 hb
 obtain ⟨ua, uc, rfl⟩ := Oh k0
 have w0 := k0.lt
 simp only [Sa] at w0
 clear f0 hb t0 z0 HC
 go_wp2_with fail
 go_loopw [9] (fun t wr => ∃ k : Nat, k ≤ ts.length ∧ t = .int .i64 k ∧ wr.ownsRow (w.heap.size + 1) 4 1 (.slice (some ⟨w.heap.size + 1, 0, none⟩) 14 14) 14 (bools (tab (aftF L (ts.take k)))) ∧ Chg (fun q => q = w.heap.size + 1) w1 wr) (fun t _ => ts.length - (intOf t).toNat)
 case atStart => exact ⟨0, Nat.zero_le _, rfl, j1, Chg.refl _ _⟩
 case round =>
  obtain ⟨k, hk, rfl, ho, hC⟩ := hrel
  have z1 := hC.size
  have hB := m0.trans (hC.below w.heap.size m0.size (fun q hq h => by omega))
  by_cases hlt : k < ts.length
  ·have f1 := Ow k0 hC (fun q hq h => by have := w0 q hq; omega)
   obtain ⟨g', c', b1⟩ := own_pos f1 (by omega)
   simp only [Value.slice.injEq, true_and] at b1
   obtain ⟨rfl, rfl⟩ := b1
   have s1 := w0 g' rfl
   have b0 := f1.cellAt k (by omega)
   rw [List.getElem?_eq_getElem (by rw [ints_length]; exact hlt), ints_get] at b0
   obtain ⟨k1, l1⟩ := HI.out _ (List.getElem_mem hlt)
   have e1 := fun q => aftF_succ L ts k hlt q
   generalize ts[k] = tk at *
   obtain ⟨nt, rfl⟩ : ∃ nt : Nat, tk = (nt : Int) := ⟨tk.toNat, by omega⟩
   have u0 : nt < L.length := by have := HL.out; omega
   have y0 := fun r h => bit_at L nt r u0 h
   have q0 := HR.out nt u0
   obtain ⟨bl, ol, ul, rfl, i1, n0, g1⟩ := HV.out.at nt u0
   rw [q0] at g1
   replace n0 := Kc hB n0
   generalize L[nt] = row at *
   obtain ⟨_, _, ar, cr, br, b2, rfl, r1, x0, d0⟩ := g1
   obtain ⟨rfl, n1⟩ := x0 (by omega)
   have s0 : ¬ br = w.heap.size + 1 := by omega
   have HG : Hid (∀ q, q < 14 → aftF L (ts.take (k + 1)) q = (aftF L (ts.take k) q || row.getD q false)) := Lib.hid (fun q hq => by rw [e1 q, y0 q (by omega), List.getD_eq_getElem?_getD, List.getElem?_eq_getElem (by omega)]; rfl)
   have HS := Lib.hid (fun j hj => Kc hB (d0 j hj))
   have p0 := Lib.hid q0
   have x1 : (nt : Int) < (L.length : Int) := by omega
   generalize aftF L (ts.take k) = F1 at *
   generalize hF2 : aftF L (ts.take (k + 1)) = F2 at *
   have h1 := Lib.hid hF2; clear hF2
   have HO := Lib.hid (And.intro k0 m0)
   clear e1 y0 q0 d0 x0 k1 l1 m0 k0 HI HV HR HL
   go_wp2_with fail
   go_loopw [10] (fun t wy => ∃ r : Nat, r ≤ 14 ∧ t = .int .i64 r ∧ wy.ownsRow (w.heap.size + 1) 4 1 (.slice (some ⟨w.heap.size + 1, 0, none⟩) 14 14) 14 (bools (tab (fun q => if q < r then F2 q else F1 q))) ∧ Chg (fun q => q = w.heap.size + 1) wr wy) (fun t _ => 14 - (intOf t).toNat)
   case atStart => exact ⟨0, Nat.zero_le _, rfl, by simpa using ho, Chg.refl _ _⟩
   case round =>
    obtain ⟨r, hr, rfl, j0, e0⟩ := hrel
    by_cases hlr : r < 14
    ·have v0 := own_tab_at j0 r hlr
     simp only [Nat.lt_irrefl, if_false] at v0
     have hf := j0.frozenAt r
     have g0 := HS.out r (by rw [bools_length, p0.out]; exact hlr)
     rw [bools_get] at g0
     have o1 := Gc e0 g0 s0
     have p1 := Gc e0 b0 (fun h => by omega)
     have q1 := Gc e0 n0 (fun h => by omega)
     have l0 := HG.out r hlr
     rw [List.getD_eq_getElem?_getD, List.getElem?_eq_getElem (by have := p0.out; omega)] at l0
     simp only [Option.getD_some] at l0
     generalize row[r]'(by have := p0.out; omega) = z at *
     have o0 := fun b (h : b = (F1 r || z)) => own_tab_set j0 r b (G := fun q => if q < r + 1 then F2 q else F1 q) (fun q hq => by
      by_cases e : q = r
      ·subst e; rw [if_pos rfl, if_pos (by omega), l0]; exact h
      rw [if_neg e]; by_cases e2 : q < r
      ·rw [if_pos e2, if_pos (by omega)]
      rw [if_neg e2, if_neg (by omega)])
     have i0 := fun b => e0.setCell (w.heap.size + 1) r (.bool b) (fun _ => rfl)
     generalize F1 r = y at *
     clear l0 g0 HG HS j0 e0 b0 n0 ho hC
     cases y with
     | true =>
      have h0 := o0 true rfl
      have r0 := i0 true
      clear o0 i0
      go_wp2
      go_roundw
      case rel => exact ⟨r + 1, by omega, by go_num, h0, r0⟩
      case measure => simp [intOf]; omega
     | false =>
      have h0 := o0 z rfl
      have r0 := i0 z
      clear o0 i0
      go_wp2
      go_roundw
      case rel => exact ⟨r + 1, by omega, by go_num, h0, r0⟩
      case measure => simp [intOf]; omega
    have e : r = 14 := by omega
    subst e
    rw [tab_congr (g := F2) (fun q hq => if_pos hq)] at j0
    have i0 := hC.trans ⟨e0.os, e0.tape, e0.output, e0.size, fun q hq hn => e0.block q hq hn⟩
    go_wp2
    go_roundw
    case rel => exact ⟨k + 1, by omega, by go_num, by rw [h1.out]; exact j0, i0⟩
    case measure => simp [intOf]; omega
  have e : k = ts.length := by omega
  subst e
  rw [List.take_length] at ho
  go_wp2
  go_ret
  exact ⟨_, rfl, Om ho (by omega), hB⟩
end Go.Proofs.Ytkjedgnepnbkpaa
