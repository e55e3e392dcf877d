/-
 Parts of the proofs of the laws FnCheckLive, FnCodeFenced, FnEraseCode, FnEraseSecret, FnFinalRegs, FnLiveRegister, FnLiveRegs, FnSpecPath.
-/
import Derived.Test.YtkjedgnepnbkpaaNB
import Derived.Test.YtkjedgnepnbkpaaMW
import Derived.Test.YtkjedgnepnbkpaaMV
set_option maxHeartbeats 12800000
set_option maxRecDepth 100000
set_option linter.all false
namespace Go.Proofs.Ytkjedgnepnbkpaa
open Go.RowKit
def runR (c : Cd) (s : Ms) : Option Nat := fstH (fun n => opAt c s n == 13) 20000 0
theorem runR_some {c : Cd} {s : Ms} {n : Nat} (h1 : n < 20000) (h2 : ∀ j, j < n → ¬ opAt c s j = 13) (h3 : opAt c s n = 13) : runR c s = some n := by
 have := fstH_some (p := fun n => opAt c s n == 13) 20000 0 n h1 (fun j hj => by simpa using h2 j hj) (by simpa using h3)
 rwa [Nat.zero_add] at this
theorem runR_none {c : Cd} {s : Ms} (h : ∀ j, j < 20000 → ¬ opAt c s j = 13) : runR c s = none :=
 fstH_none (p := fun n => opAt c s n == 13) 20000 0 (fun j hj => by simpa using h j hj)
end Go.Proofs.Ytkjedgnepnbkpaa
namespace Go.Proofs.Ytkjedgnepnbkpaa
open Go.RowKit
theorem execute_any (F : FuncId) (caps : Array Value) (I : Nat → World → Prop) (B b base : Nat) (va vb vc vr vv vA : Value) (us : List Value) (c : Cd) (s : Ms) (w : World)
  (hF : ∀ (args : Array Value) (W : World), (callFunc F args).run Try.prog W = .ok (.enter F args) W) (hr : ReadsC w va vb vc c) (hS : OwnS w base b vr vv vA us s) (hM : MsOk c s) (hok : codeOk c = true) (hBb : ¬ B = b) (hBM : ¬ OwnMB vr vv vA us B) (hBl : B < w.heap.size)
  (hsep : ∀ q, ReadB va vb vc c q → ¬ q = b ∧ ¬ OwnMB vr vv vA us q ∧ ¬ q = B) (h0 : I 0 w)
  (hkeep : ∀ (n : Nat) (W W' : World), I n W → Chg (fun q => q = b ∨ OwnMB vr vv vA us q) W W' → I n W')
  (hcall : ∀ (n : Nat) (W : World) (u : Value), n < 20000 → I n W → w.heap.size + 1 ≤ W.heap.size → W.ownsRow (w.heap.size + 1) 47 2 u (stEvs (insAt c (stN c n s).pc) (stN c n s)).length (evs (stEvs (insAt c (stN c n s).pc) (stN c n s))) →
   Calls Try.prog F (#[.int .i64 (stN c n s).pc, u] ++ caps) W fun e W' => e = .returned (.tuple #[]) ∧ I (n + 1) W' ∧ Chg (fun q => q = B ∨ w.heap.size + 1 ≤ q) W W') :
  Calls Try.prog 98 #[.agg #[va, vb, vc], .pointer (some ⟨b, 0, none⟩), .func (.func F) #[] caps] w fun e w' => e = .returned (.bool (runR c s).isSome) ∧ (∀ n, runR c s = some n → n < 20000 ∧ OwnS w' base b vr vv vA us (stN c (n + 1) s) ∧ I (n + 1) w') ∧ Chg (fun q => q = b ∨ OwnMB vr vv vA us q ∨ q = B) w w' := by
 obtain ⟨a0, c0, a1, c1, a2, c2, rfl, rfl, rfl⟩ := hr.shape
 have s1 := Lib.hid (fun n h1 h2 h3 => runR_some (c := c) (s := s) (n := n) h1 h2 h3)
 have q1 := Lib.hid (fun h => runR_none (c := c) (s := s) h)
 generalize runR c s = R at *
 obtain ⟨l1, l2⟩ := codeOk_len hok
 have v1 := hr.l
 obtain ⟨_, hn, aa, b2, b', j0, hv, u1, ha, z0⟩ := v1
 simp only [Value.slice.injEq, true_and] at hv
 obtain ⟨rfl, rfl⟩ := hv
 obtain ⟨rfl, d2⟩ := ha (by omega)
 have HC := Lib.hid (reads_Instr z0)
 have t1 := Lib.hid hsep
 have hb'n := hsep b' (Or.inr (Or.inr ⟨j0, c2, by omega, rfl⟩))
 obtain ⟨w1, f0⟩ : ∃ X, X = w.alloc (.cells #[.slice a0 c.vars.length c0, .slice a1 c.arrays.length c1, .slice (some ⟨b', j0, none⟩) c.list.length c2] 26) := ⟨_, rfl⟩
 have b0 : Below w.heap.size w w1 := by rw [f0]; exact bal (Bs w) _
 have x1 : w1.heap.size = w.heap.size + 1 := by rw [f0]; simp
 have n0 : w1.cell? ⟨w.heap.size, 0, none⟩ = some (.slice a0 c.vars.length c0) := by rw [f0]; exact Wc rfl rfl
 have n1 : w1.cell? ⟨w.heap.size, 1, none⟩ = some (.slice a1 c.arrays.length c1) := by rw [f0]; exact Wc rfl rfl
 have n2 : w1.cell? ⟨w.heap.size, 2, none⟩ = some (.slice (some ⟨b', j0, none⟩) c.list.length c2) := by rw [f0]; exact Wc rfl rfl
 have hz1l : w.heap.size + 1 ≤ w1.heap.size := by omega
 have hz1r : w1.heap.size ≤ w.heap.size + 1 := by omega
 have HW := Lib.hid f0
 have lS := hS.lt
 have y1 := hr.lt
 have iS := hS.own.lt
 have r0 : ¬ (w.heap.size = b ∨ OwnMB vr vv vA us w.heap.size ∨ w.heap.size = B ∨ w1.heap.size ≤ w.heap.size) := by
  rintro (h | h | h | h)
  ·omega
  ·have := iS _ h; omega
  ·omega
  omega
 have b1 : ∀ q, ReadB (.slice a0 c.vars.length c0) (.slice a1 c.arrays.length c1) (.slice (some ⟨b', j0, none⟩) c.list.length c2) c q → ¬ (q = b ∨ OwnMB vr vv vA us q ∨ q = B ∨ w1.heap.size ≤ q) := by
  intro q hq
  obtain ⟨h1, h2, h3⟩ := hsep q hq
  have h4 := y1 q hq
  rintro (h | h | h | h)
  ·exact h1 h
  ·exact h2 h
  ·exact h3 h
  omega
 have g1 := Lib.hid b1
 have hb'c := b1 b' (Or.inr (Or.inr ⟨j0, c2, by omega, rfl⟩))
 have f1 := Lib.hid hBM
 have k1 := Lib.hid iS
 have S1 := hS.below b0
 have I1 := hkeep 0 w w1 h0 (Chg.of_below b0)
 have r1 := hr.below b0
 have HK := Lib.hid hkeep; have j1 := Lib.hid hcall
 have p1 := Lib.hid (fun n => stN_ok hok hM n)
 have o1 := Lib.hid hok
 clear f0 x1 z0 ha hr hS h0 hkeep hcall hM hsep
 go_enter Try.func98, Try.ntmps98
 go_upto_region 1 with (fail)
 rw [← HW.out]
 clear HW
 go_wp2_with fail
 go_loopw [8] (fun t wr => ∃ n : Nat, n ≤ 20000 ∧ t = .int .i64 n ∧ OwnS wr base b vr vv vA us (stN c n s) ∧ I n wr ∧ Hid (∀ j, j < n → ¬ opAt c s j = 13) ∧ Chg (fun q => q = b ∨ OwnMB vr vv vA us q ∨ q = B ∨ w1.heap.size ≤ q) w1 wr) (fun t _ => 20000 - (intOf t).toNat)
 case atStart => exact ⟨0, by omega, rfl, S1, I1, Lib.hid (fun j h => by omega), Chg.refl _ _⟩
 case round =>
  obtain ⟨n, e2, rfl, hS, hI, k0, hC⟩ := hrel
  clear S1 I1
  have j2 := hC.size
  have y0 : Chg (fun q => q = b ∨ OwnMB vr vv vA us q ∨ q = B) w wr := ⟨hC.os.trans b0.os, hC.tape.trans b0.tape, hC.output.trans b0.output, by omega, fun q hq hn => (hC.block q (by omega) (fun h => by
   rcases h with h | h | h | h
   ·exact hn (Or.inl h)
   ·exact hn (Or.inr (Or.inl h))
   ·exact hn (Or.inr (Or.inr h))
   omega)).trans (b0.block q hq)⟩
  by_cases hlt : n < 20000
  ·have p0 := p1.out n
   obtain ⟨k, hk⟩ : ∃ k : Nat, (stN c n s).pc = k := ⟨(stN c n s).pc.toNat, by have := p0.pc0; omega⟩
   have d1 : k < c.list.length := by have := p0.pc1; omega
   have c0' := hS.c0
   rw [hk] at c0'
   have kb := Lc c0'
   have m0 := Gc hC n0 r0
   have m1 := Gc hC n1 r0
   have m2 := Gc hC n2 r0
   have km := Lc m0
   have rc := r1.keep hC g1.out
   have w0 := Lib.hid (step_any b base _ _ _ vr vv vA us c (stN c n s) wr rc hS p0 o1.out)
   clear p0 rc
   go_wp2_with fail
   refine w0.out.mono ?_
   rintro e w4 ⟨u, rfl, oE, u0, l0⟩
   have I4 := HK.out n wr w4 hI l0
   have g2 := l0.size
   have e1 := Om oE (base' := w.heap.size + 1) (by omega)
   have s0 := Lib.hid (j1.out n w4 u hlt I4 (by omega) e1)
   rw [hk] at s0
   have g0 : opAt c s n = c.list[k].op := by unfold opAt insAt; rw [hk, Int.toNat_natCast, List.getElem?_eq_getElem d1]; rfl
   have i0 : stp (insAt c (stN c n s).pc) (stN c n s) = stN c (n + 1) s := rfl
   rw [i0] at u0
   have v0 := Lib.hid g0
   have z1 := Lib.hid hk
   have x0 := hC.trans (l0.mono (T := fun q => q = b ∨ OwnMB vr vv vA us q ∨ q = B ∨ w1.heap.size ≤ q) (fun q _ h => by rcases h with h | h; exact Or.inl h; exact Or.inr (Or.inl h)))
   clear g0 i0 oE e1 I4 w0 hS hI hC l0 c0' hk
   go_wp2_with fail
   refine s0.out.mono ?_
   rintro e w5 ⟨rfl, I5, o0⟩
   have i2 := o0.size
   have q0 := u0.keep o0 (fun h => by rcases h with h | h; exact hBb h.symm; omega) (fun q hq h => by rcases h with h | h; exact f1.out (h ▸ hq); have := k1.out q hq; omega)
   have d0 := x0.trans (o0.mono (T := fun q => q = b ∨ OwnMB vr vv vA us q ∨ q = B ∨ w1.heap.size ≤ q) (fun q _ h => by rcases h with h | h; exact Or.inr (Or.inr (Or.inl h)); exact Or.inr (Or.inr (Or.inr (by omega)))))
   have p2 := Gc d0 n2 r0
   have kp := Lc p2
   obtain ⟨e0, _⟩ := HC.out k d1
   replace e0 := Gc d0 (Kc b0 e0) hb'c
   have ke := Lc e0
   have f2 : (k : Int) < (c.list.length : Int) := by omega
   generalize c.list[k] = x at *
   have i1 : Hid (Chg (fun q => q = b ∨ OwnMB vr vv vA us q ∨ q = B) w w5) := Lib.hid ⟨d0.os.trans b0.os, d0.tape.trans b0.tape, d0.output.trans b0.output, by have := d0.size; omega, fun q hq hn => (d0.block q (by omega) (fun h => by
    rcases h with h | h | h | h
    ·exact hn (Or.inl h)
    ·exact hn (Or.inr (Or.inl h))
    ·exact hn (Or.inr (Or.inr h))
    omega)).trans (b0.block q hq)⟩
   clear u0 x0 o0 s0 m0 m1 m2 y0
   by_cases h13 : x.op = 13
   ·have HR : Hid (R = some n) := Lib.hid (s1.out n hlt k0.out (by rw [v0.out]; exact h13))
    rw [h13] at e0
    have HH := Lib.hid (And.intro q0 I5)
    clear h13 q0 I5 d0
    go_wp2
    go_ret
    exact ⟨ret_bool (by rw [HR.out]; rfl), fun n' hn' => by rw [HR.out] at hn'; obtain rfl := Option.some.inj hn'; exact ⟨hlt, HH.out.1, HH.out.2⟩, i1.out⟩
   have t0 : Hid (∀ j, j < n + 1 → ¬ opAt c s j = 13) := Lib.hid (fun j hj => by
    by_cases e : j = n
    ·subst e; rw [v0.out]; exact h13
    exact k0.out j (by omega))
   have hx : (x.op == 13) = false := by simp [h13]
   have HH := Lib.hid (And.intro q0 I5)
   clear h13 q0 I5
   go_wp2
   go_roundw
   case rel => exact ⟨n + 1, by omega, by go_num, HH.out.1, HH.out.2, t0, d0⟩
   case measure => simp [intOf]; omega
  have en : n = 20000 := by omega
  subst en
  have HR : Hid (R = none) := Lib.hid (q1.out k0.out)
  clear hS hI k0
  go_wp2
  go_ret
  exact ⟨ret_bool (by rw [HR.out]; rfl), (fun n' hn' => (by rw [HR.out] at hn'; cases hn')), y0⟩
end Go.Proofs.Ytkjedgnepnbkpaa
namespace Go.Proofs.Ytkjedgnepnbkpaa
open Go.RowKit
theorem ran1_any (B base : Nat) (v u : Value) (L E : List Ev) (pc : Int) (w : World) (hc : w.cell? ⟨B, 0, none⟩ = some v) (hf : w.frozen? ⟨B, 0, none⟩ = false) (ho : w.ownsRow base 47 2 v L.length (evs L))
  (hB : ¬ v.ownBlock = some B) (hu : Reads w 2 u E.length (evs E)) (hL : L.length + E.length ≤ 4294967296) (hbase : base ≤ w.heap.size) :
  Calls Try.prog 125 #[.int .i64 pc, u, .pointer (some ⟨B, 0, none⟩)] w fun e w' => e = .returned (.tuple #[]) ∧ ∃ v', w'.cell? ⟨B, 0, none⟩ = some v' ∧ w'.frozen? ⟨B, 0, none⟩ = false ∧ w'.ownsRow base 47 2 v' (L ++ E).length (evs (L ++ E)) ∧ (∀ q, v'.ownBlock = some q → v.ownBlock = some q ∨ w.heap.size ≤ q) ∧ ¬ v'.ownBlock = some B ∧ Chg (fun q => q = B ∨ v.ownBlock = some q) w w' := by
 obtain ⟨a, c, rfl⟩ := Oh ho
 obtain ⟨a2, c2, rfl⟩ := reads_shape hu
 have kB := Lc hc
 go_enter Try.func125, Try.ntmps125
 go_wp2_with (at_builtin; refine wpList_aps tEvs rfl _ _ rfl base _ L.length _ rfl ho _ E.length _ rfl hu (one_evs E) (by omega) (by omega) ?_)
 intro v' w1 ho' hC hN _
 obtain ⟨a', c', rfl⟩ := Oh ho'
 have g0 := Gc hC hc hB
 have h0 := Gf hC kB hf hB
 have a0 : ∀ q, (Value.slice a' (L.length + E.length) c').ownBlock = some q → (Value.slice a L.length c).ownBlock = some q ∨ w.heap.size ≤ q := fun q hq => by
  rcases hN with h | ⟨g, h, h2⟩
  ·exact Or.inl (h ▸ hq)
  have e := Option.some.inj (h.symm.trans hq); exact Or.inr (by omega)
 have hB' : ¬ (Value.slice a' (L.length + E.length) c').ownBlock = some B := fun h => by
  rcases a0 B h with h | h
  ·exact hB h
  omega
 have d0 := Tc w1 B 0 (.slice a' (L.length + E.length) c') g0
 have e0 := Fs (b := ⟨B, 0, none⟩) h0 (.slice a' (L.length + E.length) c')
 have f0 := Oe ho' B 0 hB' (.slice a' (L.length + E.length) c')
 have b0 : Chg (fun q => q = B ∨ (Value.slice a L.length c).ownBlock = some q) w w1 := hC.mono (fun _ _ h => Or.inr h)
 have c0 := b0.setCell B 0 (.slice a' (L.length + E.length) c') (fun _ => Or.inl rfl)
 have HE := Lib.hid (And.intro d0 (And.intro e0 (And.intro f0 (And.intro a0 (And.intro hB' c0)))))
 clear ho ho' hC b0 hN hc hf hu a0 c0 f0 d0 e0
 go_wp2
 go_end0
 exact ⟨rfl, _, HE.out.1, HE.out.2.1, by have h := HE.out.2.2.1; rw [List.length_append, evs_append]; exact h, HE.out.2.2.2.1, HE.out.2.2.2.2.1, HE.out.2.2.2.2.2⟩
def finN (c : Cd) (m : Mm) : Option Nat := if goOk c m = true then runR c (ini m) else none
theorem finN_no {c : Cd} {m : Mm} (h : goOk c m = false) : finN c m = none := by unfold finN; rw [h]; rfl
theorem finN_yes {c : Cd} {m : Mm} (h : goOk c m = true) : finN c m = runR c (ini m) := by unfold finN; rw [if_pos h]
theorem ran1_call (args : Array Value) (W : World) : (callFunc 125 args).run Try.prog W = .ok (.enter 125 args) W := by kernel_rfl
theorem ran_any (va vb vc vx vy : Value) (c : Cd) (m : Mm) (w : World) (hr : ReadsC w va vb vc c) (hx : Reads w 1 vx m.vals.length (ints m.vals)) (hy : Reads2 ints w vy m.arrs) (hl : m.vals.length ≤ 1048576) (hn : m.arrs.length ≤ 1048576) (hp : pre2 m.arrs m.arrs.length ≤ 1048576) :
  Calls Try.prog 73 #[.agg #[va, vb, vc], .agg #[vx, vy]] w fun e w' => (finN c m = none → e = .returned (.tuple #[.pointer none, .slice none 0 0, .bool false])) ∧
   (∀ n, finN c m = some n → ∃ b vr vv vA us pu tu, e = .returned (.tuple #[.pointer (some ⟨b, 0, none⟩), .slice pu (evN c (n + 1) (ini m)).length tu, .bool true]) ∧ n < 20000 ∧ OwnS w' w.heap.size b vr vv vA us (stN c (n + 1) (ini m)) ∧ w.heap.size ≤ b ∧ w'.ownsRow w.heap.size 47 2 (.slice pu (evN c (n + 1) (ini m)).length tu) (evN c (n + 1) (ini m)).length (evs (evN c (n + 1) (ini m)))) ∧ Below w.heap.size w w' := by
 obtain ⟨a0, c0, a1, c1, a2, c2, rfl, rfl, rfl⟩ := hr.shape
 obtain ⟨a3, c3, rfl⟩ := reads_shape hx
 obtain ⟨a4, c4, rfl⟩ := hy.shape
 have e1 := hr.lt
 obtain ⟨w1, h0⟩ : ∃ X, X = ((w.alloc (.cells #[.slice a0 c.vars.length c0, .slice a1 c.arrays.length c1, .slice a2 c.list.length c2] 26)).alloc (.cells #[.slice a3 m.vals.length c3, .slice a4 m.arrs.length c4] 37)) := ⟨_, rfl⟩
 have j0 : Below w.heap.size w w1 := by rw [h0]; exact bal (bal (Bs w) _) _
 have q1 : w.heap.size + 2 ≤ w1.heap.size := by rw [h0]; simp
 have n0 : w1.cell? ⟨w.heap.size, 0, none⟩ = some (.slice a0 c.vars.length c0) := by rw [h0]; exact Ac (Wc rfl rfl) _
 have n1 : w1.cell? ⟨w.heap.size, 1, none⟩ = some (.slice a1 c.arrays.length c1) := by rw [h0]; exact Ac (Wc rfl rfl) _
 have n2 : w1.cell? ⟨w.heap.size, 2, none⟩ = some (.slice a2 c.list.length c2) := by rw [h0]; exact Ac (Wc rfl rfl) _
 have mx : w1.cell? ⟨w.heap.size + 1, 0, none⟩ = some (.slice a3 m.vals.length c3) := by rw [h0]; exact Wc (by simp) rfl
 have my : w1.cell? ⟨w.heap.size + 1, 1, none⟩ = some (.slice a4 m.arrs.length c4) := by rw [h0]; exact Wc (by simp) rfl
 have HW := Lib.hid h0
 have kn := Lc n0; have km := Lc mx
 have i0 := iStart_any _ _ _ _ _ c m w1 (hr.below j0) (hx.below j0) (hy.below j0) hl hn hp
 have w0 := Lib.hid (fun W (hW : Below w1.heap.size w1 W) => hr.below (btr j0 hW))
 clear h0 hx hy hl hn hp hr
 cases hg : goOk c m with
 | false =>
  rw [hg] at i0
  have HF : Hid (finN c m = none) := Lib.hid (finN_no hg)
  have k0 := Lib.hid i0
  clear hg i0 e1 w0
  generalize finN c m = R at *
  go_enter Try.func73, Try.ntmps73
  go_upto_region 1 with (fail)
  rw [← HW.out]
  clear HW
  go_wp2_with fail
  refine k0.out.mono ?_
  rintro e w2 ⟨p0, n0', t0, p1, n1', t1, p2, n2', t2, rfl, _, l0⟩
  have hB := bal (btr j0 l0) (.cells #[.int .i64 0, .slice p0 n0' t0, .slice p1 n1' t1, .slice p2 n2' t2] 39)
  clear k0 n0 n1 n2 mx my
  go_wp2
  exact bodyPost_ret (v := .tuple #[.pointer none, .slice none 0 0, .bool false]) (by simp [results, Try.results73, go_sem]) rfl (by rw [HF.out]; exact ⟨fun _ => rfl, fun n h => (by cases h), hB⟩)
 | true =>
  rw [hg] at i0
  have HF : Hid (finN c m = runR c (ini m)) := Lib.hid (finN_yes hg)
  have f1 := Lib.hid (ini_ok hg); have i1 := Lib.hid (goOk_code hg)
  have k0 := Lib.hid i0
  clear hg i0
  generalize finN c m = R at *
  have q0 : Hid ((ini m).regs = reg0 ∧ (ini m).mem = m ∧ (ini m).pc = 0) := Lib.hid ⟨rfl, rfl, rfl⟩
  generalize ini m = s at *
  go_enter Try.func73, Try.ntmps73
  go_upto_region 1 with (fail)
  rw [← HW.out]
  clear HW
  go_wp2_with fail
  refine k0.out.mono ?_
  rintro e w2 ⟨p0, n0', t0, p1, n1', t1, p2, n2', t2, rfl, hO, l0⟩
  obtain ⟨us, OM⟩ := hO (by trivial)
  have iM := OM.lt
  have r1 := l0.size
  obtain ⟨w4, e0⟩ : ∃ X, X = ((w2.alloc (.cells #[.int .i64 0, .slice p0 n0' t0, .slice p1 n1' t1, .slice p2 n2' t2] 39)).alloc (.cells #[.slice none 0 0] 42)) := ⟨_, rfl⟩
  have u0 : Below w2.heap.size w2 w4 := by rw [e0]; exact bal (bal (Bs w2) _) _
  have k1 : w4.heap.size = w2.heap.size + 1 + 1 := by rw [e0]; simp
  have hz4l : w2.heap.size + 2 ≤ w4.heap.size := by omega
  have hz4r : w4.heap.size ≤ w2.heap.size + 2 := by omega
  have d0 : w4.cell? ⟨w2.heap.size, 0, none⟩ = some (.int .i64 0) := by rw [e0]; exact Ac (Wc rfl rfl) _
  have d1 : w4.cell? ⟨w2.heap.size, 1, none⟩ = some (.slice p0 n0' t0) := by rw [e0]; exact Ac (Wc rfl rfl) _
  have d2 : w4.cell? ⟨w2.heap.size, 2, none⟩ = some (.slice p1 n1' t1) := by rw [e0]; exact Ac (Wc rfl rfl) _
  have d3 : w4.cell? ⟨w2.heap.size, 3, none⟩ = some (.slice p2 n2' t2) := by rw [e0]; exact Ac (Wc rfl rfl) _
  have df : w4.frozen? ⟨w2.heap.size, 0, none⟩ = false := by rw [e0]; exact Fa (by simp) (Fn rfl) _
  have g0 : w4.cell? ⟨w2.heap.size + 1, 0, none⟩ = some (.slice none 0 0) := by rw [e0]; exact Wc (by simp) rfl
  have gf : w4.frozen? ⟨w2.heap.size + 1, 0, none⟩ = false := by rw [e0]; exact Fn (by simp)
  have x0 := Lib.hid e0
  have hS : OwnS w4 w1.heap.size w2.heap.size (.slice p0 n0' t0) (.slice p1 n1' t1) (.slice p2 n2' t2) us s := by
   refine ⟨?_, d1, d2, d3, df, ?_, fun h => by have := iM _ h; omega⟩
   ·rw [q0.out.2.2]; exact d0
   rw [q0.out.1, q0.out.2.1]; exact OM.below u0
  have b0 := btr l0 u0
  have rc := w0.out w4 b0
  have z0 := execute_any 125 #[.pointer (some ⟨w2.heap.size + 1, 0, none⟩)]
   (fun n W => ∃ v, W.cell? ⟨w2.heap.size + 1, 0, none⟩ = some v ∧ W.frozen? ⟨w2.heap.size + 1, 0, none⟩ = false ∧ W.ownsRow (w4.heap.size + 1) 47 2 v (evN c n s).length (evs (evN c n s)) ∧ ¬ v.ownBlock = some (w2.heap.size + 1))
   (w2.heap.size + 1) w2.heap.size w1.heap.size _ _ _ _ _ _ us c s w4 ran1_call rc hS f1.out i1.out (by omega) (fun h => by have := iM _ h; omega) (by omega)
   (fun q hq => by have := e1 q hq; exact ⟨by omega, fun h => by have := iM q h; omega, by omega⟩)
   ⟨_, g0, gf, World.ownsRow_nil _ _ _ _, by simp [Value.ownBlock]⟩
   (fun n W W' hI hC => by
    obtain ⟨v, h1, h2, h3, h4⟩ := hI
    have y0 : ¬ (w2.heap.size + 1 = w2.heap.size ∨ OwnMB (.slice p0 n0' t0) (.slice p1 n1' t1) (.slice p2 n2' t2) us (w2.heap.size + 1)) := by
     rintro (h | h)
     ·omega
     have := iM _ h; omega
    exact ⟨v, Gc hC h1 y0, Gf hC (Lc h1) h2 y0, Ow h3 hC (fun q hq h => by
     have h5 := h3.lt q hq
     rcases h with h | h
     ·omega
     have := iM _ h; omega), h4⟩)
   (fun n W u hn hI hN hE => by
    obtain ⟨v, h1, h2, h3, h4⟩ := hI
    have m1 := evN_len c s n
    have o1 := (stEvs_len (insAt c (stN c n s).pc) (stN c n s)).1
    refine (ran1_any (w2.heap.size + 1) (w4.heap.size + 1) v u (evN c n s) _ _ W h1 h2 h3 h4 (Ro hE (by omega)) (by omega) hN).mono ?_
    rintro e W' ⟨he, v', g1, g2, g3, g4, g5, g6⟩
    refine ⟨he, ⟨v', g1, g2, g3, g5⟩, g6.mono (fun q _ h => ?_)⟩
    rcases h with h | h
    ·exact Or.inl h
    exact Or.inr (h3.lt q h).1)
  have v0 := Lib.hid z0
  have l1 := Lib.hid (fun n => evN_len c s n)
  clear z0 e0 k1 k0 hS rc OM
  replace n0 := Kc b0 n0; replace n1 := Kc b0 n1; replace n2 := Kc b0 n2
  have u1 := Lc n0; have kg := Lc g0
  have m0 := btr j0 b0
  go_upto_region 5 with (fail)
  rw [← x0.out]
  clear x0 mx my d0 d1 d2 d3 df u0 l0
  go_wp2_with fail
  refine v0.out.mono ?_
  rintro e w5 ⟨rfl, s0, hC⟩
  have s1 := hC.size
  have o0 := m0.trans (hC.below w.heap.size m0.size (fun q hq h => by
   rcases h with h | h | h
   ·omega
   ·have := iM _ h; omega
   omega))
  clear v0 hC g0 gf n0 n1 n2
  cases hR : runR c s with
  | none =>
   have r0 : Hid (R = none) := Lib.hid (by rw [HF.out, hR])
   clear s0 hR
   go_wp2
   exact bodyPost_ret (v := .tuple #[.pointer none, .slice none 0 0, .bool false]) (by simp [results, Try.results73, go_sem]) rfl (by rw [r0.out]; exact ⟨fun _ => rfl, fun n h => (by cases h), o0⟩)
  | some n =>
   have r0 : Hid (R = some n) := Lib.hid (by rw [HF.out, hR])
   obtain ⟨j1, b1, v, h1, h2, h3, h4⟩ := s0 n hR
   obtain ⟨pu, tu, rfl⟩ := Oh h3
   have kh := Lc h1
   have HH := Lib.hid (And.intro j1 (And.intro b1 h3))
   clear hR s0 b1 h3 h4 h2
   go_upto_region 8 with (fail)
   go_quiet (fail)
   go_wp2
   exact bodyPost_ret (v := .tuple #[.pointer (some ⟨w2.heap.size, 0, none⟩), .slice pu (evN c (n + 1) s).length tu, .bool true]) (by simp [results, Try.results73, go_sem]) rfl (by
    rw [r0.out]
    refine ⟨fun h => (by cases h), fun n' h => ?_, btr o0 (below_drewN' _ _)⟩
    obtain rfl := Option.some.inj h
    refine ⟨w2.heap.size, .slice p0 n0' t0, .slice p1 n1' t1, .slice p2 n2' t2, us, pu, tu, rfl, HH.out.1, ?_, by omega, ?_⟩
    ·have h5 := HH.out.2.1.below (below_drewN' w5 nq)
     exact ⟨h5.c0, h5.c1, h5.c2, h5.c3, h5.f0, h5.own.mono (by omega), h5.ob⟩
    exact Om (Ob HH.out.2.2 (below_drewN' w5 nq)) (by omega))
end Go.Proofs.Ytkjedgnepnbkpaa
namespace Go.Proofs.Ytkjedgnepnbkpaa
open Go.RowKit
theorem runR_iff {c : Cd} {s : Ms} {n : Nat} (h : runR c s = some n) : n < 20000 ∧ (∀ j, j < n → ¬ opAt c s j = 13) ∧ opAt c s n = 13 := by
 have a0 : ∀ (f k : Nat), (∀ j, j < k → ¬ opAt c s j = 13) → fstH (fun n => opAt c s n == 13) f k = some n → n < k + f ∧ (∀ j, j < n → ¬ opAt c s j = 13) ∧ opAt c s n = 13 := by
  intro f
  induction f with
  | zero => intro k _ h; simp [fstH] at h
  | succ f ih =>
   intro k hk h
   rw [fstH] at h
   by_cases hp : (opAt c s k == 13) = true
   ·rw [if_pos hp] at h
    have := Option.some.inj h
    subst this
    exact ⟨by omega, hk, by simpa using hp⟩
   rw [if_neg hp] at h
   have := ih (k + 1) (fun j hj => by
    by_cases e : j = k
    ·subst e; simpa using hp
    exact hk j (by omega)) h
   exact ⟨by omega, this.2⟩
 have := a0 20000 0 (fun j hj => by omega) h
 exact ⟨by omega, this.2⟩
theorem finN_iff {c : Cd} {m : Mm} {n : Nat} : finN c m = some n ↔ goOk c m = true ∧ n < 20000 ∧ (∀ j, j < n → ¬ opAt c (ini m) j = 13) ∧ opAt c (ini m) n = 13 := by
 cases hg : goOk c m with
 | false => rw [finN_no hg]; simp
 | true =>
  rw [finN_yes hg]
  constructor
  ·intro h; exact ⟨rfl, runR_iff h⟩
  rintro ⟨_, h1, h2, h3⟩; exact runR_some h1 h2 h3
end Go.Proofs.Ytkjedgnepnbkpaa
namespace Go.Proofs.Ytkjedgnepnbkpaa
open Go.RowKit
def finR (c : Cd) (m : Mm) : List Int × Bool := match finN c m with | some n => ((stN c (n + 1) (ini m)).regs, true) | none => ([], false)
theorem finR_no {c : Cd} {m : Mm} (h : finN c m = none) : finR c m = ([], false) := by unfold finR; rw [h]
theorem finR_yes {c : Cd} {m : Mm} {n : Nat} (h : finN c m = some n) : finR c m = ((stN c (n + 1) (ini m)).regs, true) := by unfold finR; rw [h]
theorem finR_len (c : Cd) (m : Mm) : (finR c m).1.length ≤ 14 := by
 unfold finR
 cases h : finN c m with
 | none => simp
 | some n =>
  unfold finN at h
  by_cases hg : goOk c m = true
  ·have := (stN_ok (goOk_code hg) (ini_ok hg) (n + 1)).regs
   simp only; omega
  rw [if_neg hg] at h; cases h
theorem iFinal_any (va vb vc vx vy : Value) (c : Cd) (m : Mm) (w : World) (hr : ReadsC w va vb vc c) (hm : ReadsM w vx vy m) (hl : m.vals.length ≤ 1048576) (hn : m.arrs.length ≤ 1048576) (hp : pre2 m.arrs m.arrs.length ≤ 1048576) :
  Calls Try.prog 24 #[.agg #[va, vb, vc], .agg #[vx, vy]] w fun e w' => ∃ u, e = .returned (.tuple #[u, .bool (finR c m).2]) ∧ w'.ownsRow w.heap.size 3 1 u (finR c m).1.length (ints (finR c m).1) ∧ Below w.heap.size w w' := by
 obtain ⟨a0, c0, a1, c1, a2, c2, rfl, rfl, rfl⟩ := hr.shape
 obtain ⟨a3, c3, a4, c4, rfl, rfl⟩ := hm.shape
 have e0 := bal (bal (Bs w) (.cells #[.slice a0 c.vars.length c0, .slice a1 c.arrays.length c1, .slice a2 c.list.length c2] 26)) (.cells #[.slice a3 m.vals.length c3, .slice a4 m.arrs.length c4] 37)
 have f0 := hm.below e0
 have d0 := Lib.hid (ran_any _ _ _ _ _ c m _ (hr.below e0) f0.x f0.y hl hn hp)
 clear hr hm f0
 cases hf : finN c m with
 | none =>
  have HR := Lib.hid (finR_no hf)
  have b0 := Lib.hid (by have h := d0.out; rw [hf] at h; exact h)
  clear d0 hf
  generalize finR c m = R at *
  go_enter Try.func24, Try.ntmps24
  go_wp2_with fail
  refine b0.out.mono ?_
  rintro e w1 ⟨h1, _, hb⟩
  obtain rfl := h1 (by trivial)
  have hB := btr e0 hb
  clear hb h1
  go_wp2
  exact bodyPost_ret (v := .tuple #[.slice none 0 0, .bool false]) (by simp [results, Try.results24, go_sem]) rfl (by rw [HR.out]; exact ⟨_, rfl, World.ownsRow_nil _ _ _ _, hB⟩)
 | some n =>
  have HR := Lib.hid (finR_yes hf)
  have b0 := Lib.hid (by have h := d0.out; rw [hf] at h; exact h)
  clear d0 hf
  generalize finR c m = R at *
  go_enter Try.func24, Try.ntmps24
  go_wp2_with fail
  refine b0.out.mono ?_
  rintro e w1 ⟨_, h2, hb⟩
  obtain ⟨b, vr, vv, vA, us, pu, tu, rfl, _, hS, g0, _⟩ := h2 n rfl
  have hB := btr e0 hb
  have d1 := hS.c1
  have kd := Lc d1
  obtain ⟨pr, tr, rfl⟩ := Oh hS.own.r
  have HO := Lib.hid hS.own.r
  clear hb h2 hS
  go_wp2
  exact bodyPost_ret (v := .tuple #[.slice pr (stN c (n + 1) (ini m)).regs.length tr, .bool true]) (by simp [results, Try.results24, go_sem]) rfl (by rw [HR.out]; exact ⟨_, rfl, Om HO.out e0.size, hB⟩)
end Go.Proofs.Ytkjedgnepnbkpaa
