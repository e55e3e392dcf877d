/-
 Parts of the proofs of the laws FnCheckLive, FnCodeFenced, FnEraseCode, FnEraseSecret, FnFinalRegs, FnLiveRegister, FnLiveRegs, FnSpecPath.
-/
import Derived.Test.YtkjedgnepnbkpaaNB
import Derived.Test.YtkjedgnepnbkpaaYD
import Derived.Test.YtkjedgnepnbkpaaYC
set_option linter.all false
namespace Go.Proofs.Ytkjedgnepnbkpaa
open Go.RowKit
def CodeP (v a n d B g p : Nat) (w : World) (r : Ending) (w' : World) : Prop := ∃ (ua ub ul : Value) (nv na nl p' : Nat), r = .returned (.agg #[ua, ub, ul]) ∧ DrawC w' w.heap.size ua ub ul nv na nl ∧ nv ≤ v ∧ na ≤ a ∧ nl ≤ n ∧ Rnd w' B g p' ∧ p' ≤ p + d ∧ Chg (fun q => q = g) w w'
end Go.Proofs.Ytkjedgnepnbkpaa
namespace Go.Proofs.Ytkjedgnepnbkpaa
open Go.RowKit
structure RdC (w : World) (va vb vc : Value) (c : Cd) : Prop where
 r : ReadsC w va vb vc c
 l0 : c.vars.length ≤ 1000
 l1 : c.arrays.length ≤ 1000
 l2 : c.list.length ≤ 1000
structure RdM (w : World) (vx vy : Value) (m : Mm) : Prop where
 r : ReadsM w vx vy m
 l0 : m.vals.length ≤ 1010
 l1 : m.arrs.length ≤ 1010
 l2 : pre2 m.arrs m.arrs.length ≤ 5000
theorem RdC.of {w : World} {base : Nat} {va vb vl : Value} {nv na nl : Nat} (h : DrawC w base va vb vl nv na nl) (h0 : nv ≤ 1000) (h1 : na ≤ 1000) (h2 : nl ≤ 1000) : ∃ c : Cd, RdC w va vb vl c := by
 obtain ⟨c, e1, e2, e3, hr⟩ := h.reads (by omega) (by omega) (by omega)
 exact ⟨c, hr, by omega, by omega, by omega⟩
theorem RdC.below {w w' : World} {va vb vc : Value} {c : Cd} (h : RdC w va vb vc c) (hb : Below w.heap.size w w') : RdC w' va vb vc c := ⟨h.r.below hb, h.l0, h.l1, h.l2⟩
theorem RdM.below {w w' : World} {vx vy : Value} {m : Mm} (h : RdM w vx vy m) (hb : Below w.heap.size w w') : RdM w' vx vy m := ⟨h.r.below hb, h.l0, h.l1, h.l2⟩
theorem RdM.of {w : World} {base : Nat} {vx vy : Value} {m : Mm} (h : DrM w base vx vy m) : RdM w vx vy m := ⟨h.reads, h.l0, h.l1, by have := h.pre; have := h.l1; omega⟩
theorem l6Mutate_of (va vb vl : Value) (nv na nl base B g p : Nat) (w : World) (h : DrawC w base va vb vl nv na nl) (hg : g < base) (h0 : nv ≤ 1000) (h1 : na ≤ 1000) (h2 : nl ≤ 1000) (hR : Rnd w B g p) (hp : p + 5 ≤ 1000000000) :
  Calls Try.prog 48 #[.pointer (some ⟨g, 0, none⟩), .agg #[va, vb, vl]] w fun r w' => CodeP nv na nl 5 B g p w r w' := by
 obtain ⟨c, e1, e2, e3, hr⟩ := h.reads (by omega) (by omega) (by omega)
 have a0 := h.lt
 have hq : ∀ q, ReadB va vb vl c q → ¬ q = g := by
  intro q hq
  have : OwnB va vb vl q := by
   rcases hq with ⟨o, cp, _, e⟩ | ⟨o, cp, _, e⟩ | ⟨o, cp, _, e⟩
   ·exact Or.inl (by rw [e]; rfl)
   ·exact Or.inr (Or.inl (by rw [e]; rfl))
   exact Or.inr (Or.inr (by rw [e]; rfl))
  have := a0 q this; omega
 refine (l6Mutate_any va vb vl c B g p w hr hq (by omega) (by omega) (by omega) hR hp).mono ?_
 rintro r w' ⟨ua, ub, ul, nv', p', hr', hd, hv, hR', hp', hC⟩
 exact ⟨ua, ub, ul, nv', na, nl, p', hr', e2 ▸ e3 ▸ hd, by omega, Nat.le_refl _, Nat.le_refl _, hR', hp', hC⟩
end Go.Proofs.Ytkjedgnepnbkpaa
namespace Go.Proofs.Ytkjedgnepnbkpaa
open Go.RowKit
structure ReadsS (w : World) (vr vx vy : Value) (s : Ms) : Prop where
 r : Reads w 1 vr s.regs.length (ints s.regs)
 m : ReadsM w vx vy s.mem
theorem ReadsS.below {w w' : World} {vr vx vy : Value} {s : Ms} (h : ReadsS w vr vx vy s) (hb : Below w.heap.size w w') : ReadsS w' vr vx vy s := ⟨h.r.below hb, h.m.below hb⟩
end Go.Proofs.Ytkjedgnepnbkpaa
namespace Go.Proofs.Ytkjedgnepnbkpaa
open Go.RowKit
structure DrS (w : World) (base : Nat) (vr vx vy : Value) (s : Ms) : Prop where
 r : Reads w 1 vr s.regs.length (ints s.regs)
 rb : Abv base vr
 rl : s.regs.length ≤ 14
 m : DrM w base vx vy s.mem
section
variable {w w' : World} {base base' : Nat} {vr vx vy : Value} {s : Ms}
theorem DrS.keep (h : DrS w base vr vx vy s) {S : Nat → Prop} (hc : Chg S w w') (hs : ∀ q, base ≤ q → ¬ S q) : DrS w' base vr vx vy s :=
 ⟨h.r.keep hc (fun b o c _ hv => hs b (h.rb _ _ _ _ hv)), h.rb, h.rl, h.m.keep hc hs⟩
theorem DrS.below (h : DrS w base vr vx vy s) (hb : Below w.heap.size w w') : DrS w' base vr vx vy s := ⟨h.r.below hb, h.rb, h.rl, h.m.below hb⟩
theorem DrS.mono (h : DrS w base vr vx vy s) (hb : base' ≤ base) : DrS w base' vr vx vy s := ⟨h.r, h.rb.mono hb, h.rl, h.m.mono hb⟩
theorem DrS.reads (h : DrS w base vr vx vy s) : ReadsS w vr vx vy s := ⟨h.r, h.m.reads⟩
end
end Go.Proofs.Ytkjedgnepnbkpaa
namespace Go.Proofs.Ytkjedgnepnbkpaa
open Go.RowKit
structure AdjOk (c : Cd) (s : Ms) (X : List Int) : Prop where
 len : X.length = 14
 rng : ∀ n ∈ X, 0 ≤ n ∧ n < 256
 same : ∀ r : Nat, r < 14 → bit (liveOf c) s.pc r = true → gi s.regs (r : Int) = gi X (r : Int)
theorem AdjOk.set {c : Cd} {s : Ms} {X : List Int} (h : AdjOk c s X) {k : Nat} (hb : bit (liveOf c) s.pc k = false) {z : Int} (hz : 0 ≤ z ∧ z < 256) : AdjOk c s (X.set k z) := by
 refine ⟨by rw [List.length_set]; exact h.len, fun n hn => ?_, fun r hr hl => ?_⟩
 ·rcases List.mem_or_eq_of_mem_set hn with h1 | rfl
  ·exact h.rng n h1
  exact hz
 rw [gi_setN, if_neg (fun e => by rw [← e.1, hb] at hl; cases hl)]
 exact h.same r hr hl
structure RwI (w : World) (base g n c : Nat) (X : List Int) : Prop where
 own : w.ownsRow base 3 1 (.slice (some ⟨g, 0, none⟩) n c) n (ints X)
 len : X.length = n
section
variable {w w' : World} {base g n c : Nat} {X : List Int}
theorem RwI.keep (h : RwI w base g n c X) {S : Nat → Prop} (hc : Chg S w w') (hs : ¬ S g) : RwI w' base g n c X := ⟨Ow h.own hc (fun q hq => by have e : g = q := Option.some.inj hq; exact e ▸ hs), h.len⟩
theorem RwI.below (h : RwI w base g n c X) (hb : Below w.heap.size w w') : RwI w' base g n c X := h.keep (S := fun _ => False) (Chg.of_below hb) id
theorem RwI.put (h : RwI w base g n c X) (k : Nat) (z : Int) : RwI (w.setCell ⟨g, k, none⟩ (.int .i64 z)) base g n c (X.set k z) := by
 have h3 := (h.own.stored k (.int .i64 z)).1
 rw [ints_set] at h3
 exact ⟨h3, by rw [List.length_set]; exact h.len⟩
theorem RwI.ne (h : RwI w base g n c X) {b j : Nat} (hn : ¬ g = b) (u : Value) : RwI (w.setCell ⟨b, j, none⟩ u) base g n c X := ⟨Oe h.own b j (fun e => hn (Option.some.inj e)) u, h.len⟩
theorem RwI.cell (h : RwI w base g n c X) {k : Nat} {y : Int} (hy : X[k]? = some y) : w.cell? ⟨g, k, none⟩ = some (.int .i64 y) ∧ w.frozen? ⟨g, k, none⟩ = false := by
 obtain ⟨hk, rfl⟩ := List.getElem?_eq_some_iff.1 hy
 exact ⟨by rw [h.own.cellAt k (by have := h.len; omega), ints_at X k hk], h.own.frozenAt k⟩
theorem RwI.reads (h : RwI w base g n c X) (hn : n ≤ 1048576) : Reads w 1 (.slice (some ⟨g, 0, none⟩) n c) X.length (ints X) := by
 rw [h.len]; exact Ro h.own (by omega)
theorem RwI.lt (h : RwI w base g n c X) : base ≤ g ∧ g < w.heap.size := h.own.lt g rfl
end
end Go.Proofs.Ytkjedgnepnbkpaa
