/-
 Parts of the proof of the law FnSpecPath.
-/
import Derived.Test.YtkjedgnepnbkpaaC
import Derived.Test.YtkjedgnepnbkpaaO
import Derived.Test.YtkjedgnepnbkpaaVP
set_option linter.all false
namespace Go.Proofs.Ytkjedgnepnbkpaa
open Go.RowKit

theorem num_any (v : Value) (xs : List Int) (w : World) (B g p : Nat) (hr : Rnd w B g p) (hx : Reads w 1 v xs.length (ints xs)) (hd : ∀ b o c, v = .slice (some ⟨b, o, none⟩) xs.length c → ¬ b = g) (h1 : 1 ≤ xs.length) (h2 : xs.length ≤ 1073741824) (hp : p ≤ 1099511627776) :
  Calls Try.prog 104 #[.pointer (some ⟨g, 0, none⟩), v] w fun e w' => ∃ r : Int, r ∈ xs ∧ e = .returned (.int .i64 r) ∧ Rnd w' B g (p + 1) ∧ Chg (fun k => k = g) w w' := by
 have hx0 := hx
 obtain ⟨_, hn, a, cap, b, off, rfl, hcap, ha, hca⟩ := hx
 obtain ⟨rfl, hb⟩ := ha h1
 have hbg := hd b off cap rfl
 clear hd
 go_enter Try.func104, Try.ntmps104
 go_wp2_with fail
 refine (pick_any _ w B g p hr (by omega) (by omega) hp).mono ?_
 rintro e w1 ⟨r, hr0, hr1, rfl, hr', hc⟩
 obtain ⟨k, rfl⟩ := Int.eq_ofNat_of_zero_le hr0
 have hk : k < xs.length := by omega
 have hc1 := (hc.cell (off + k) hb hbg).trans (hca k (by simpa [ints] using hk))
 rw [ints_get] at hc1
 have hmem : xs[k] ∈ xs := List.getElem_mem hk
 clear hca hx0
 go_wp2
 go_ret
 exact ⟨xs[k], hmem, rfl, hr', hc⟩

theorem rnd_new (w : World) (a : Option Addr) (b off L cap : Nat) (t : TypeId) (vs : List Int) (hl : L ≤ vs.length) (hL : L ≤ 1048576) (hv : ∀ x ∈ vs, 0 ≤ x ∧ x < 256) (ha : 0 < L → a = some ⟨b, off, none⟩ ∧ b < w.heap.size)
  (hc : ∀ j (h : j < vs.length), w.cell? ⟨b, off + j, none⟩ = some (.int .u8 vs[j])) : Rnd (w.alloc (.cells #[.slice a L cap, .int .i64 0] t)) w.heap.size w.heap.size 0 := by
 have hb := bal (Bs w) (.cells #[.slice a L cap, .int .i64 0] t)
 refine ⟨a, L, cap, ?_, ?_, froz_new _ _ _ _, hL, Nat.le_refl _, hb.size, fun h0 => ?_⟩
 ·rw [cell_of_row _ _ 0 _ t (0, 0) (heap_alloc_new w _)]; rfl
 ·rw [cell_of_row _ _ 1 _ t (0, 0) (heap_alloc_new w _)]; rfl
 ·obtain ⟨h1, h2⟩ := ha h0
  refine ⟨b, off, h1, h2, fun j hj => ⟨vs[j]'(by omega), (hv _ (List.getElem_mem _)).1, (hv _ (List.getElem_mem _)).2, ?_⟩⟩
  exact (hb.cell (p := ⟨b, off + j, none⟩) h2).trans (hc j (by omega))

theorem l17Open_any (v : Value) (n : Nat) (vs : List Int) (w : World) (hr : Reads w 1 v n (vs.map (Value.int .u8))) (hv : ∀ x ∈ vs, 0 ≤ x ∧ x < 256) (hn : n ≤ 1048576) :
  Calls Try.prog 47 #[v] w fun e w' => ∃ g, e = .returned (.pointer (some ⟨g, 0, none⟩)) ∧ Rnd w' w.heap.size g 0 ∧ Below w.heap.size w w' := by
 obtain ⟨hl, _, a, cap, b, off, rfl, ⟨hcap, hnil⟩, ha, hca⟩ := hr
 have hc : ∀ j (h : j < vs.length), w.cell? ⟨b, off + j, none⟩ = some (.int .u8 vs[j]) := fun j h => by
  rw [hca j (by simpa using h)]; simp
 clear hca
 by_cases h2 : 2000 < n
 ·obtain ⟨rfl, hb⟩ := ha (by omega)
  have h3 : (2000 : Int) < (n : Int) := by omega
  have hcc : 2000 ≤ cap := by omega
  go_enter Try.func47, Try.ntmps47
  go_wp2
  go_ret
  exact ⟨_, rfl, rnd_new w _ b off 2000 cap _ vs (by simp at hl; omega) (by omega) hv (fun _ => ⟨rfl, hb⟩) hc, bal (Bs w) _⟩
 ·have h3 : ¬ (2000 : Int) < (n : Int) := by omega
  go_enter Try.func47, Try.ntmps47
  go_wp2
  go_ret
  exact ⟨_, rfl, rnd_new w _ b off n cap _ vs (by simp at hl; omega) hn hv ha hc, bal (Bs w) _⟩

end Go.Proofs.Ytkjedgnepnbkpaa
namespace Go.Proofs.Ytkjedgnepnbkpaa
open Go.RowKit

theorem info_ev : (Try.prog.info? 47).map (fun i => (i.zero, i.size, i.bytes)) = some (some (.agg #[.int .i64 0, .int .i64 0]), 2, 16) := by kernel_rfl
theorem tEvs : SliceT Try.prog 42 47 (.agg #[.int .i64 0, .int .i64 0]) 2 16 := ⟨Try.underlying42, info_ev, rfl, by omega, by omega⟩

theorem one_ev (a b : Int) : ∀ u ∈ [Value.int .i64 a, Value.int .i64 b], u.oneCell' = true := one_evs [(a, b)]

end Go.Proofs.Ytkjedgnepnbkpaa
namespace Go.Proofs.Ytkjedgnepnbkpaa
open Go.RowKit

/-- a memory -/
structure Mm where
 vals : List Int
 arrs : List (List Int)
deriving DecidableEq
/-- a state of the machine -/
structure Ms where
 pc : Int
 regs : List Int
 mem : Mm
deriving DecidableEq

def valOk (n : Int) : Bool := wi n 0 255
def valsOk (xs : List Int) : Bool := xs.all valOk
/-- the memory is one for so many variables and arrays -/
def memOk (nv na : Nat) (m : Mm) : Bool := decide (m.vals.length = nv) && (decide (m.arrs.length = na) && (valsOk m.vals && m.arrs.all (fun a => decide (a.length = 4) && valsOk a)))

/-- element i of a row, 0 outside it -/
def gi (xs : List Int) (i : Int) : Int := (xs[i.toNat]?).getD 0
def gr (rs : List (List Int)) (i : Int) : List Int := (rs[i.toNat]?).getD []
def tru (b : Bool) : Int := if b then 1 else 0
def opr (k a b : Int) : Int :=
 if k = 4 then (a + b) % 256 else if k = 5 then (a - b + 256) % 256 else if k = 6 then (a * b) % 256 else if k = 7 then bits .and .i64 a b else if k = 8 then bits .xor .i64 a b
 else if k = 9 then tru (a == b) else tru (decide (a < b))
def adr (a i : Int) : Int := a * 4 + i % 4

/-- what an instruction does -/
def stRegs (x : Ins) (s : Ms) : List Int :=
 if x.op = 1 then s.regs.set x.a.toNat x.b
 else if x.op = 2 then s.regs.set x.a.toNat (gi s.mem.vals x.b)
 else if x.op = 4 then s.regs.set x.a.toNat (gi (gr s.mem.arrs x.b) (gi s.regs x.c % 4))
 else if x.op = 6 then s.regs.set x.a.toNat (opr x.b (gi s.regs x.c) (gi s.regs x.d))
 else if x.op = 7 then s.regs.set x.a.toNat (if gi s.regs x.b ≠ 0 then gi s.regs x.c else gi s.regs x.d)
 else if x.op = 10 then s.regs.set x.a.toNat ((gi s.regs x.a + 255) % 256)
 else s.regs
def stMem (x : Ins) (s : Ms) : Mm :=
 if x.op = 3 then ⟨s.mem.vals.set x.a.toNat (gi s.regs x.b), s.mem.arrs⟩
 else if x.op = 5 then ⟨s.mem.vals, s.mem.arrs.set x.a.toNat ((gr s.mem.arrs x.a).set (gi s.regs x.b % 4).toNat (gi s.regs x.c))⟩
 else s.mem
def stPc (x : Ins) (s : Ms) : Int :=
 if x.op = 8 then x.a
 else if x.op = 9 then (if gi s.regs x.a = 0 then x.b else s.pc + 1)
 else if x.op = 10 then (if (gi s.regs x.a + 255) % 256 ≠ 0 then x.b else s.pc + 1)
 else if x.op = 13 then s.pc
 else s.pc + 1
def stEvs (x : Ins) (s : Ms) : List Ev :=
 (5, s.pc) :: (if x.op = 4 then [(2, adr x.b (gi s.regs x.c))] else if x.op = 5 then [(3, adr x.a (gi s.regs x.b))] else if x.op = 11 then [(4, gi s.regs x.a)] else [])
def stp (x : Ins) (s : Ms) : Ms := ⟨stPc x s, stRegs x s, stMem x s⟩
def insAt (c : Cd) (pc : Int) : Ins := (c.list[pc.toNat]?).getD ⟨13, 0, 0, 0, 0⟩

/-- a state that code may be in -/
structure MsOk (c : Cd) (s : Ms) : Prop where
 pc0 : 0 ≤ s.pc
 pc1 : s.pc < c.list.length
 regs : s.regs.length = 14
 rv : ∀ n ∈ s.regs, 0 ≤ n ∧ n < 256
 mem : memOk c.vars.length c.arrays.length s.mem = true
end Go.Proofs.Ytkjedgnepnbkpaa
namespace Go.Proofs.Ytkjedgnepnbkpaa
open Go.RowKit

theorem l3Bool_any (b : Bool) (w : World) : Calls Try.prog 157 #[.bool b] w fun e w' => e = .returned (.int .i64 (tru b)) ∧ w' = w := by
 cases b
 all_goals
  go_enter Try.func157, Try.ntmps157
  go_wp2
  go_ret
  exact ⟨rfl, rfl⟩
theorem truthS_any (b : Bool) (w : World) : Calls Try.prog 53 #[.bool b] w fun e w' => e = .returned (.int .i64 (tru b)) ∧ w' = w := by
 cases b
 all_goals
  go_enter Try.func53, Try.ntmps53
  go_wp2
  go_ret
  exact ⟨rfl, rfl⟩
theorem opr_cases {k : Int} (h : 4 ≤ k ∧ k ≤ 10) : k = 4 ∨ k = 5 ∨ k = 6 ∨ k = 7 ∨ k = 8 ∨ k = 9 ∨ k = 10 := by omega
theorem mul_small {a b : Int} (ha : 0 ≤ a ∧ a ≤ 255) (hb : 0 ≤ b ∧ b ≤ 255) : 0 ≤ a * b ∧ a * b ≤ 65025 := by
 obtain ⟨m, rfl⟩ : ∃ m : Nat, a = m := ⟨a.toNat, by omega⟩
 obtain ⟨n, rfl⟩ : ∃ n : Nat, b = n := ⟨b.toNat, by omega⟩
 have h : m * n ≤ 255 * 255 := Nat.mul_le_mul (by omega) (by omega)
 have e : ((m : Int) * (n : Int)) = ((m * n : Nat) : Int) := by simp
 rw [e]; omega
theorem mul_rem {a b : Int} (ha : 0 ≤ a ∧ a ≤ 255) (hb : 0 ≤ b ∧ b ≤ 255) : (wrap64 (a * b)).tmod 256 = (a * b) % 256 := by
 obtain ⟨h0, h1⟩ := mul_small ha hb
 have hw : wrap64 (a * b) = a * b := by unfold wrap64; omega
 rw [hw, Int.tmod_eq_emod_of_nonneg h0]

theorem address_any (a i : Int) (w : World) (ha : 0 ≤ a ∧ a ≤ 1048576) (hi : 0 ≤ i ∧ i ≤ 255) :
  Calls Try.prog 118 #[.int .i64 a, .int .i64 i] w fun e w' => e = .returned (.int .i64 (adr a i)) ∧ w' = w := by
 go_enter Try.func118, Try.ntmps118
 go_wp2
 go_ret
 exact ⟨rfl, rfl⟩

theorem l3Address_any (a i : Int) (w : World) (ha : 0 ≤ a ∧ a ≤ 1048576) (hi : 0 ≤ i ∧ i ≤ 255) :
  Calls Try.prog 126 #[.int .i64 a, .int .i64 i] w fun e w' => e = .returned (.int .i64 (adr a i)) ∧ w' = w := by
 go_enter Try.func126, Try.ntmps126
 go_wp2
 go_ret
 exact ⟨rfl, rfl⟩

set_option maxHeartbeats 3200000 in
theorem operate_any (k a b : Int) (w : World) (hk : 4 ≤ k ∧ k ≤ 10) (ha : 0 ≤ a ∧ a ≤ 255) (hb : 0 ≤ b ∧ b ≤ 255) :
  Calls Try.prog 119 #[.int .i64 k, .int .i64 a, .int .i64 b] w fun e w' => e = .returned (.int .i64 (opr k a b)) ∧ w' = w := by
 have HM := Lib.hid (mul_rem ha hb)
 rcases opr_cases hk with rfl | rfl | rfl | rfl | rfl | rfl | rfl
 ·clear hk
  go_enter Try.func119, Try.ntmps119
  go_wp2
  go_ret
  exact ⟨rfl, rfl⟩
 ·clear hk
  go_enter Try.func119, Try.ntmps119
  go_wp2
  go_ret
  exact ⟨rfl, rfl⟩
 ·clear hk
  go_enter Try.func119, Try.ntmps119
  go_wp2
  go_ret
  exact ⟨ret_int HM.out, rfl⟩
 ·clear hk
  go_enter Try.func119, Try.ntmps119
  go_wp2
  go_ret
  exact ⟨rfl, rfl⟩
 ·clear hk
  go_enter Try.func119, Try.ntmps119
  go_wp2
  go_ret
  exact ⟨rfl, rfl⟩
 ·clear hk
  have HO : Hid (opr 9 a b = tru (a == b)) := Lib.hid rfl
  obtain ⟨q, hq⟩ : ∃ q : Bool, (a == b) = q := ⟨_, rfl⟩
  rw [hq] at HO
  go_enter Try.func119, Try.ntmps119
  go_wp2_with fail
  refine (truthS_any q _).mono ?_
  rintro e w1 ⟨rfl, rfl⟩
  clear hq
  cases q
  all_goals
   go_wp2
   go_ret
   exact ⟨ret_int HO.out.symm, rfl⟩
 ·clear hk
  have HO : Hid (opr 10 a b = tru (decide (a < b))) := Lib.hid rfl
  obtain ⟨q, hq⟩ : ∃ q : Bool, (decide (a < b)) = q := ⟨_, rfl⟩
  rw [hq] at HO
  go_enter Try.func119, Try.ntmps119
  go_wp2_with fail
  refine (truthS_any q _).mono ?_
  rintro e w1 ⟨rfl, rfl⟩
  clear hq
  cases q
  all_goals
   go_wp2
   go_ret
   exact ⟨ret_int HO.out.symm, rfl⟩

set_option maxHeartbeats 3200000 in
theorem l3Bin_any (k a b : Int) (w : World) (hk : 4 ≤ k ∧ k ≤ 10) (ha : 0 ≤ a ∧ a ≤ 255) (hb : 0 ≤ b ∧ b ≤ 255) :
  Calls Try.prog 127 #[.int .i64 k, .int .i64 a, .int .i64 b] w fun e w' => e = .returned (.int .i64 (opr k a b)) ∧ w' = w := by
 have HM := Lib.hid (mul_rem ha hb)
 rcases opr_cases hk with rfl | rfl | rfl | rfl | rfl | rfl | rfl
 ·clear hk
  go_enter Try.func127, Try.ntmps127
  go_wp2
  go_ret
  exact ⟨rfl, rfl⟩
 ·clear hk
  go_enter Try.func127, Try.ntmps127
  go_wp2
  go_ret
  exact ⟨rfl, rfl⟩
 ·clear hk
  go_enter Try.func127, Try.ntmps127
  go_wp2
  go_ret
  exact ⟨ret_int HM.out, rfl⟩
 ·clear hk
  go_enter Try.func127, Try.ntmps127
  go_wp2
  go_ret
  exact ⟨rfl, rfl⟩
 ·clear hk
  go_enter Try.func127, Try.ntmps127
  go_wp2
  go_ret
  exact ⟨rfl, rfl⟩
 ·clear hk
  have HO : Hid (opr 9 a b = tru (a == b)) := Lib.hid rfl
  obtain ⟨q, hq⟩ : ∃ q : Bool, (a == b) = q := ⟨_, rfl⟩
  rw [hq] at HO
  go_enter Try.func127, Try.ntmps127
  go_wp2_with fail
  refine (l3Bool_any q _).mono ?_
  rintro e w1 ⟨rfl, rfl⟩
  clear hq
  cases q
  all_goals
   go_wp2
   go_ret
   exact ⟨ret_int HO.out.symm, rfl⟩
 ·clear hk
  have HO : Hid (opr 10 a b = tru (decide (a < b))) := Lib.hid rfl
  obtain ⟨q, hq⟩ : ∃ q : Bool, (decide (a < b)) = q := ⟨_, rfl⟩
  rw [hq] at HO
  go_enter Try.func127, Try.ntmps127
  go_wp2_with fail
  refine (l3Bool_any q _).mono ?_
  rintro e w1 ⟨rfl, rfl⟩
  clear hq
  cases q
  all_goals
   go_wp2
   go_ret
   exact ⟨ret_int HO.out.symm, rfl⟩
end Go.Proofs.Ytkjedgnepnbkpaa
namespace Go.Proofs.Ytkjedgnepnbkpaa
open Go.RowKit

theorem ints_set (l : List Int) (k : Nat) (b : Int) : (ints l).set k (.int .i64 b) = ints (l.set k b) := by simp [ints, List.map_set]
theorem ints_at (l : List Int) (k : Nat) (h : k < l.length) : (ints l)[k]? = some (.int .i64 l[k]) := by simp [ints, h]
end Go.Proofs.Ytkjedgnepnbkpaa
namespace Go.Proofs.Ytkjedgnepnbkpaa
open Go.RowKit

/-- the block b holds these values, and none of its cells is frozen -/
def Bk (w : World) (b : Nat) (vs : List Value) : Prop := ∀ j (h : j < vs.length), w.cell? ⟨b, j, none⟩ = some vs[j] ∧ w.frozen? ⟨b, j, none⟩ = false
section
variable {w w' : World} {b : Nat} {vs : List Value}
theorem Bk.cell (h : Bk w b vs) (j : Nat) {v : Value} (hj : vs[j]? = some v) : w.cell? ⟨b, j, none⟩ = some v := by
 obtain ⟨h1, rfl⟩ := List.getElem?_eq_some_iff.1 hj; exact (h j h1).1
theorem Bk.froz (h : Bk w b vs) (j : Nat) (hj : j < vs.length) : w.frozen? ⟨b, j, none⟩ = false := (h j hj).2
theorem Bk.lt (h : Bk w b vs) (h0 : 0 < vs.length) : b < w.heap.size := Lc (h 0 h0).1
theorem Bk.al (h : Bk w b vs) (o : Obj) : Bk (w.alloc o) b vs := fun j hj => ⟨Ac (h j hj).1 o, Fa (Lc (h j hj).1) (h j hj).2 o⟩
theorem Bk.nw {cs : Array Value} {t : TypeId} (hb : b = w.heap.size) (hc : cs.toList = vs) : Bk (w.alloc (.cells cs t)) b vs := fun j hj => by
 subst hc
 exact ⟨Wc hb (by simp at hj; rw [Array.getElem?_eq_getElem hj]; simp), Fn hb⟩
theorem Bk.ne (h : Bk w b vs) {b' j' : Nat} (hn : ¬ b = b') (u : Value) : Bk (w.setCell ⟨b', j', none⟩ u) b vs := fun j hj => ⟨Nc (h j hj).1 (by omega) u, Fs (h j hj).2 u⟩
theorem Bk.at (h : Bk w b vs) (k : Nat) (u : Value) : Bk (w.setCell ⟨b, k, none⟩ u) b (vs.set k u) := fun j hj => by
 rw [List.length_set] at hj
 by_cases hk : k = j
 ·subst hk; rw [List.getElem_set_self]; exact ⟨Tc w b k u (h k hj).1, Fs (h k hj).2 u⟩
 ·rw [List.getElem_set_ne hk]; exact ⟨Nc (h j hj).1 (by omega) u, Fs (h j hj).2 u⟩
theorem Bk.below (h : Bk w b vs) (hb : Below w.heap.size w w') : Bk w' b vs := fun j hj => ⟨Kc hb (h j hj).1, Kf hb (Lc (h j hj).1) (h j hj).2⟩
theorem Bk.keep {S : Nat → Prop} (h : Bk w b vs) (hc : Chg S w w') (hs : ¬ S b) : Bk w' b vs := fun j hj => ⟨Gc hc (h j hj).1 hs, Gf hc (Lc (h j hj).1) (h j hj).2 hs⟩
end
end Go.Proofs.Ytkjedgnepnbkpaa
namespace Go.Proofs.Ytkjedgnepnbkpaa
open Go.RowKit

theorem take_d {P : Program} {ops : Array Oper} {Q : Exit → Act → World → Prop} {md : Region.Mode} {S : World → Prop} {i : Nat} {oi : Oper} {d : Nat} {v : Value} {fuel : Nat} {listed : Array Bool} {a : Act} {w : World} (hi : ops[i]? = some oi) (hd : oi.dst = some d)
  (hs : Region.noSelect ops = true) (hf : Region.free md ops listed i = true) (hr : (Region.ready md ops listed).contains i = true)
  (hQ : ∀ c a w, Q (.panic c) (a.put oi.dst v) w → Q (.panic c) a w) (hy : YieldsIf P ops S oi v a) (hS : S w)
  (h : wpAnyH P md ops Q S fuel (listed.setIfInBounds i true) (a.put (some d) v) w) : wpAnyH P md ops Q S (fuel + 1) listed a w :=
 wpAnyH_take hi hs hf hr hQ hy hS (by rw [hd]; exact h)

/-- a sure operation is carried out: number, slot, value -/
theorem tq {P : Program} {ops : Array Oper} {Q : Exit → Act → World → Prop} {md : Region.Mode} {S : World → Prop} {oi : Oper} {fuel : Nat} {listed : Array Bool} {a : Act} {w : World} (i d : Nat) (hi : ops[i]? = some oi) (hd : oi.dst = some d) (v : Value)
  (hy : ∀ w, S w → (execOp a.eval oi).run P w = .ok (.value v) w)
  (h : wpAnyH P md ops Q S fuel (listed.setIfInBounds i true) (a.put (some d) v) w)
  (hw : Region.wanted oi (yielded ops a.tmps) = true := by rfl)
  (hs : Region.noSelect ops = true := by kernel_rfl) (hf : Region.free md ops listed i = true := by kernel_rfl) (hr : (Region.ready md ops listed).contains i = true := by kernel_rfl)
  (hQ : ∀ c a w, Q (.panic c) (a.put oi.dst v) w → Q (.panic c) a w := by intro _ _ _ h; exact h) (hS : S w := by assumption) : wpAnyH P md ops Q S (fuel + 1) listed a w :=
 wpAnyH_take hi hs hf hr hQ (Or.inl ⟨hw, hy⟩) hS (by rw [hd]; exact h)
/-- an operation that is not wanted is passed by -/
theorem tu {P : Program} {ops : Array Oper} {Q : Exit → Act → World → Prop} {md : Region.Mode} {S : World → Prop} {oi : Oper} {fuel : Nat} {listed : Array Bool} {a : Act} {w : World} (i d : Nat) (hi : ops[i]? = some oi) (hd : oi.dst = some d)
  (h : wpAnyH P md ops Q S fuel (listed.setIfInBounds i true) (a.put (some d) undef) w)
  (hw : Region.wanted oi (yielded ops a.tmps) = false := by rfl)
  (hs : Region.noSelect ops = true := by kernel_rfl) (hf : Region.free md ops listed i = true := by kernel_rfl) (hr : (Region.ready md ops listed).contains i = true := by kernel_rfl)
  (hQ : ∀ c a w, Q (.panic c) (a.put oi.dst undef) w → Q (.panic c) a w := by intro _ _ _ h; exact h) (hS : S w := by assumption) : wpAnyH P md ops Q S (fuel + 1) listed a w :=
 wpAnyH_take hi hs hf hr hQ (Or.inr ⟨hw, rfl⟩) hS (by rw [hd]; exact h)
/-- one operation is ready -/
theorem Rdy {P : Program} {md : Region.Mode} {ops : Array Oper} {Q : Exit → Act → World → Prop} {S : World → Prop} {fuel : Nat} {listed : Array Bool} {a : Act} {w : World} {o : Oper} (i : Nat) (ho : ops[i]? = some o)
  (h : ∀ K' : Act → World → Prop, Shut (∀ a w, S w → (S w → wpAnyH P md ops Q S fuel (listed.setIfInBounds i true) a w) → K' a w) → if Region.wanted o (yielded ops a.tmps) = true then Oper.wp P o a w K' Q else K' (a.put o.dst undef) w)
  (hr : Region.ready md ops listed = [i] := by kernel_rfl) : wpAnyH P md ops Q S (fuel + 1) listed a w := wpAnyH_ready hr (by simp) (AllReadyH.cons ho h AllReadyH.nil)
/-- a world gets a name -/
theorem nmw (P : World) : ∃ X, X = P ∧ Below P.heap.size P X := ⟨P, rfl, Bs P⟩
/-- a box's cell -/
theorem Bk.cf {w : World} {b : Nat} {vs : List Value} (h : Bk w b vs) (j : Nat) {v : Value} (hv : vs[j]? = some v) : w.cell? ⟨b, j, none⟩ = some v ∧ w.frozen? ⟨b, j, none⟩ = false := ⟨h.cell j hv, h.froz j (List.getElem?_eq_some_iff.1 hv).1⟩
theorem Bk.lz {w : World} {b : Nat} {v : Value} {vs : List Value} (h : Bk w b (v :: vs)) : b < w.heap.size := h.lt (Nat.succ_pos _)
end Go.Proofs.Ytkjedgnepnbkpaa
