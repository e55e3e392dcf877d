/-
 Parts of the proof of the law FnSpecPath.
-/
import Derived.Laws.BitsLemmas
import Derived.Test.YtkjedgnepnbkpaaMS1
import Derived.Test.YtkjedgnepnbkpaaMS2
import Derived.Test.YtkjedgnepnbkpaaMT
import Derived.Test.YtkjedgnepnbkpaaVP
set_option linter.all false
namespace Go.Proofs.Ytkjedgnepnbkpaa
open Go.RowKit

theorem opr_range {k a b : Int} (ha : 0 ≤ a ∧ a ≤ 255) (hb : 0 ≤ b ∧ b ≤ 255) : 0 ≤ opr k a b ∧ opr k a b < 256 := by
 obtain ⟨m, rfl⟩ : ∃ m : Nat, a = m := ⟨a.toNat, by omega⟩
 obtain ⟨n, rfl⟩ : ∃ n : Nat, b = n := ⟨b.toNat, by omega⟩
 have hm : m < 2 ^ 8 := by omega
 have hn : n < 2 ^ 8 := by omega
 have hw : ∀ x : Int, 0 ≤ x → x < 2 ^ 8 → IntKind.i64.wrap x = x := fun x h0 h1 => by rw [IntKind.wrap_i64]; omega
 have hA := (bits_nat .i64 8 (by decide) hw m n hm hn).1
 have h1 : m &&& n < 2 ^ 8 := Nat.and_lt_two_pow m hn
 have h2 : m ^^^ n < 2 ^ 8 := Nat.xor_lt_two_pow hm hn
 have hX : bits .xor .i64 (m : Int) (n : Int) = ((m ^^^ n : Nat) : Int) := by
  have hm' : m % 2 ^ IntKind.i64.bits = m := Nat.mod_eq_of_lt (Nat.lt_of_lt_of_le hm (Nat.pow_le_pow_right (by decide) (by decide)))
  have hn' : n % 2 ^ IntKind.i64.bits = n := Nat.mod_eq_of_lt (Nat.lt_of_lt_of_le hn (Nat.pow_le_pow_right (by decide) (by decide)))
  simp only [bits, BitVec.ofInt_natCast, BitVec.toNat_xor, BitVec.toNat_ofNat, hm', hn']
  exact hw _ (Int.natCast_nonneg _) (by omega)
 have e6 : ((m : Int) * (n : Int)) % 256 < 256 ∧ 0 ≤ ((m : Int) * (n : Int)) % 256 := ⟨Int.emod_lt_of_pos _ (by decide), Int.emod_nonneg _ (by decide)⟩
 unfold opr tru
 rw [hA, hX]
 repeat (first | omega | split)

theorem mem_set_range {xs : List Int} (h : ∀ n ∈ xs, 0 ≤ n ∧ n < 256) (k : Nat) {v : Int} (hv : 0 ≤ v ∧ v < 256) : ∀ n ∈ xs.set k v, 0 ≤ n ∧ n < 256 := by
 intro n hn
 rcases List.mem_or_eq_of_mem_set hn with h1 | rfl
 ·exact h n h1
 ·exact hv
theorem gr_range {rs : List (List Int)} (h : ∀ a ∈ rs, a.length = 4 ∧ ∀ n ∈ a, 0 ≤ n ∧ n < 256) (i : Int) : ∀ n ∈ gr rs i, 0 ≤ n ∧ n < 256 := by
 intro n hn
 unfold gr at hn
 cases e : rs[i.toNat]? with
 | none => rw [e] at hn; simp at hn
 | some a => rw [e] at hn; exact (h a (List.mem_of_getElem? e)).2 n hn
theorem memOk_mk {nv na : Nat} {m : Mm} (h1 : m.vals.length = nv) (h2 : m.arrs.length = na) (h3 : ∀ n ∈ m.vals, 0 ≤ n ∧ n < 256) (h4 : ∀ a ∈ m.arrs, a.length = 4 ∧ ∀ n ∈ a, 0 ≤ n ∧ n < 256) : memOk nv na m = true := by
 have hv : ∀ xs : List Int, (∀ n ∈ xs, 0 ≤ n ∧ n < 256) → valsOk xs = true := fun xs hx => List.all_eq_true.2 (fun n hn => by
  have := hx n hn
  exact decide_eq_true (p := 0 ≤ n ∧ n ≤ 255) (by omega))
 unfold memOk
 rw [decide_eq_true h1, decide_eq_true h2, hv _ h3]
 simp only [Bool.true_and]
 refine List.all_eq_true.2 (fun a ha => ?_)
 rw [decide_eq_true (h4 a ha).1, hv _ (h4 a ha).2]; rfl
theorem stp_ok {c : Cd} {s : Ms} (hok : codeOk c = true) (h : MsOk c s) : MsOk c (stp (insAt c s.pc) s) := by
 obtain ⟨p0, p1, hr, hv, hm⟩ := h
 obtain ⟨pc, rs, m⟩ := s
 simp only at p0 p1 hr hv hm
 obtain ⟨k, rfl⟩ : ∃ k : Nat, pc = k := ⟨pc.toNat, by omega⟩
 have hk : k < c.list.length := by omega
 obtain ⟨hl, hlast⟩ := codeOk_last hok
 have hins := codeOk_all hok k hk
 have hat : insAt c (k : Int) = c.list[k] := by unfold insAt; rw [Int.toNat_natCast, List.getElem?_eq_getElem hk]; rfl
 simp only [hat]
 have hnext : ¬ c.list[k].op = 13 → ¬ c.list[k].op = 8 → (k : Int) + 1 < (c.list.length : Int) := by
  intro h1 h2
  by_cases e : k = c.list.length - 1
  ·subst e
   rcases hlast with h3 | h3
   ·exact absurd h3 h1
   ·exact absurd h3 h2
  ·omega
 generalize c.list[k] = x at *
 obtain ⟨op, a, b, d, f⟩ := x
 simp only at hnext
 obtain ⟨P1, P2, P3, P4, P5, P6, P7, P8, P9, P10, P11⟩ := ins_parts hins
 have hop := insOk_op hins
 simp only at hop
 obtain ⟨m1, m2, m3, m4⟩ := memOk_parts hm
 have hg := fun i => gi_range hv i
 have hgv := fun i => gi_range m3 i
 have hga := fun i j => gi_range (gr_range m4 i) j
 have hopc : op = 1 ∨ op = 2 ∨ op = 3 ∨ op = 4 ∨ op = 5 ∨ op = 6 ∨ op = 7 ∨ op = 8 ∨ op = 9 ∨ op = 10 ∨ op = 11 ∨ op = 12 ∨ op = 13 := by omega
 have lt1 : ∀ v : Int, 0 ≤ v ∧ v ≤ 255 → 0 ≤ v ∧ v < 256 := fun v h => by omega
 rcases hopc with rfl | rfl | rfl | rfl | rfl | rfl | rfl | rfl | rfl | rfl | rfl | rfl | rfl
 ·have hn := hnext (by decide) (by decide)
  have hp := P1 rfl
  exact ⟨by simp [stp, stPc]; omega, by simp [stp, stPc]; omega, by simp [stp, stRegs, hr], by simp only [stp, stRegs]; exact mem_set_range hv _ (lt1 _ hp.2), by simpa [stp, stMem] using hm⟩
 ·have hn := hnext (by decide) (by decide)
  exact ⟨by simp [stp, stPc]; omega, by simp [stp, stPc]; omega, by simp [stp, stRegs, hr], by simpa [stp, stRegs] using mem_set_range hv _ (lt1 _ (hgv b)), by simpa [stp, stMem] using hm⟩
 ·have hn := hnext (by decide) (by decide)
  refine ⟨by simp [stp, stPc]; omega, by simp [stp, stPc]; omega, by simp [stp, stRegs, hr], by simpa [stp, stRegs] using hv, ?_⟩
  have h9 : memOk c.vars.length c.arrays.length ⟨m.vals.set a.toNat (gi rs b), m.arrs⟩ = true := memOk_mk (by simp [m1]) m2 (mem_set_range m3 _ (lt1 _ (hg b))) m4
  simpa [stp, stMem] using h9
 ·have hn := hnext (by decide) (by decide)
  exact ⟨by simp [stp, stPc]; omega, by simp [stp, stPc]; omega, by simp [stp, stRegs, hr], by simpa [stp, stRegs] using mem_set_range hv _ (lt1 _ (hga b (gi rs d % 4))), by simpa [stp, stMem] using hm⟩
 ·have hn := hnext (by decide) (by decide)
  refine ⟨by simp [stp, stPc]; omega, by simp [stp, stPc]; omega, by simp [stp, stRegs, hr], by simpa [stp, stRegs] using hv, ?_⟩
  have hp := P5 rfl
  have h8 : (gr m.arrs a).length = 4 := by
   unfold gr; rw [List.getElem?_eq_getElem (by omega)]
   exact (m4 _ (List.getElem_mem _)).1
  have h9 : memOk c.vars.length c.arrays.length ⟨m.vals, m.arrs.set a.toNat ((gr m.arrs a).set (gi rs b % 4).toNat (gi rs d))⟩ = true := memOk_mk m1 (by simp [m2]) m3 (fun r hr' => by
   rcases List.mem_or_eq_of_mem_set hr' with h1 | rfl
   ·exact m4 r h1
   ·exact ⟨by simp [h8], mem_set_range (gr_range m4 a) _ (lt1 _ (hg d))⟩)
  simpa [stp, stMem] using h9
 ·have hn := hnext (by decide) (by decide)
  exact ⟨by simp [stp, stPc]; omega, by simp [stp, stPc]; omega, by simp [stp, stRegs, hr], by simpa [stp, stRegs] using mem_set_range hv _ (opr_range (k := b) (hg d) (hg f)), by simpa [stp, stMem] using hm⟩
 ·have hn := hnext (by decide) (by decide)
  refine ⟨by simp [stp, stPc]; omega, by simp [stp, stPc]; omega, by simp [stp, stRegs, hr], ?_, by simpa [stp, stMem] using hm⟩
  have h9 : ∀ n ∈ rs.set a.toNat (if gi rs b ≠ 0 then gi rs d else gi rs f), 0 ≤ n ∧ n < 256 := mem_set_range hv _ (by split; exact lt1 _ (hg d); exact lt1 _ (hg f))
  simpa [stp, stRegs] using h9
 ·have hp := P8 rfl
  exact ⟨by simp [stp, stPc]; omega, by simp [stp, stPc]; omega, by simp [stp, stRegs, hr], by simpa [stp, stRegs] using hv, by simpa [stp, stMem] using hm⟩
 ·have hn := hnext (by decide) (by decide)
  have hp := P9 rfl
  exact ⟨by simp [stp, stPc]; split <;> omega, by simp [stp, stPc]; split <;> omega, by simp [stp, stRegs, hr], by simpa [stp, stRegs] using hv, by simpa [stp, stMem] using hm⟩
 ·have hn := hnext (by decide) (by decide)
  have hp := P10 rfl
  exact ⟨by simp [stp, stPc]; split <;> omega, by simp [stp, stPc]; split <;> omega, by simp [stp, stRegs, hr], by simpa [stp, stRegs] using mem_set_range hv _ (by omega), by simpa [stp, stMem] using hm⟩
 ·have hn := hnext (by decide) (by decide)
  exact ⟨by simp [stp, stPc]; omega, by simp [stp, stPc]; omega, by simp [stp, stRegs, hr], by simpa [stp, stRegs] using hv, by simpa [stp, stMem] using hm⟩
 ·have hn := hnext (by decide) (by decide)
  exact ⟨by simp [stp, stPc]; omega, by simp [stp, stPc]; omega, by simp [stp, stRegs, hr], by simpa [stp, stRegs] using hv, by simpa [stp, stMem] using hm⟩
 ·exact ⟨by simp [stp, stPc], by simp [stp, stPc]; omega, by simp [stp, stRegs, hr], by simpa [stp, stRegs] using hv, by simpa [stp, stMem] using hm⟩

/-- the state, the events and the number of branches behind n steps -/
def stN (c : Cd) : Nat → Ms → Ms
 | 0, s => s
 | n + 1, s => stp (insAt c (stN c n s).pc) (stN c n s)
def evN (c : Cd) : Nat → Ms → List Ev
 | 0, _ => []
 | n + 1, s => evN c n s ++ stEvs (insAt c (stN c n s).pc) (stN c n s)
def opAt (c : Cd) (s : Ms) (n : Nat) : Int := (insAt c (stN c n s).pc).op
theorem stN_ok {c : Cd} {s : Ms} (hok : codeOk c = true) (h : MsOk c s) (n : Nat) : MsOk c (stN c n s) := by
 induction n with
 | zero => exact h
 | succ n ih => exact stp_ok hok ih
theorem stEvs_len (x : Ins) (s : Ms) : (stEvs x s).length ≤ 2 ∧ 1 ≤ (stEvs x s).length := by
 unfold stEvs
 by_cases h4 : x.op = 4
 ·simp [h4]
 ·by_cases h5 : x.op = 5
  ·simp [h5]
  ·by_cases h11 : x.op = 11
   ·simp [h11]
   ·simp [h4, h5, h11]
theorem evN_len (c : Cd) (s : Ms) (n : Nat) : (evN c n s).length ≤ 2 * n := by
 induction n with
 | zero => simp [evN]
 | succ n ih =>
  have := (stEvs_len (insAt c (stN c n s).pc) (stN c n s)).1
  simp only [evN, List.length_append]
  omega
/-- the first number from k on, f numbers at most, of which p holds -/
def fstH (p : Nat → Bool) : Nat → Nat → Option Nat
 | 0, _ => none
 | f + 1, k => if p k = true then some k else fstH p f (k + 1)
theorem fstH_some {p : Nat → Bool} : ∀ (f k n : Nat), n < f → (∀ j, j < n → p (k + j) = false) → p (k + n) = true → fstH p f k = some (k + n) := by
 intro f
 induction f with
 | zero => intro k n h; omega
 | succ f ih =>
  intro k n hn hno hp
  rw [fstH]
  cases n with
  | zero => rw [if_pos (by simpa using hp)]; rfl
  | succ n =>
   have h0 := hno 0 (by omega)
   rw [if_neg (by rw [Nat.add_zero] at h0; rw [h0]; exact Bool.false_ne_true), ih (k + 1) n (by omega) (fun j hj => by have := hno (j + 1) (by omega); rw [← this]; congr 1; omega) (by rw [← hp]; congr 1; omega)]
   congr 1; omega
theorem fstH_none {p : Nat → Bool} : ∀ (f k : Nat), (∀ j, j < f → p (k + j) = false) → fstH p f k = none := by
 intro f
 induction f with
 | zero => intro k _; rfl
 | succ f ih =>
  intro k h
  have h0 := h 0 (by omega)
  rw [fstH, if_neg (by rw [Nat.add_zero] at h0; rw [h0]; exact Bool.false_ne_true)]
  exact ih (k + 1) (fun j hj => by have := h (j + 1) (by omega); rw [← this]; congr 1; omega)
end Go.Proofs.Ytkjedgnepnbkpaa
namespace Go.Proofs.Ytkjedgnepnbkpaa
open Go.RowKit

theorem step_any (b base : Nat) (va vb vc vr vv vA : Value) (us : List Value) (c : Cd) (s : Ms) (w : World) (hr : ReadsC w va vb vc c) (hS : OwnS w base b vr vv vA us s) (hM : MsOk c s) (hok : codeOk c = true) :
  Calls Try.prog 68 #[.pointer (some ⟨b, 0, none⟩), .agg #[va, vb, vc]] w fun e w' => ∃ u, e = .returned u ∧ w'.ownsRow w.heap.size 47 2 u (stEvs (insAt c s.pc) s).length (evs (stEvs (insAt c s.pc) s)) ∧ OwnS w' base b vr vv vA us (stp (insAt c s.pc) s) ∧ Chg (fun q => q = b ∨ OwnMB vr vv vA us q) w w' := by
 have hop : 1 ≤ (insAt c s.pc).op ∧ (insAt c s.pc).op ≤ 13 := by
  have h0 := hM.pc0
  have h1 := hM.pc1
  unfold insAt
  rw [List.getElem?_eq_getElem (by omega)]
  exact insOk_op (codeOk_all hok _ (by omega))
 by_cases h : (insAt c s.pc).op ≤ 5
 ·exact step_1_5 b base va vb vc vr vv vA us c s w hr hS hM hok ⟨hop.1, h⟩
 ·exact step_6_13 b base va vb vc vr vv vA us c s w hr hS hM hok ⟨by omega, hop.2⟩


end Go.Proofs.Ytkjedgnepnbkpaa
