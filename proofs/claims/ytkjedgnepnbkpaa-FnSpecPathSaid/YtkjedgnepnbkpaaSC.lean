/-
 Parts of the proof of the law FnSpecPath.
-/
import Derived.Test.YtkjedgnepnbkpaaMW
import Derived.Test.YtkjedgnepnbkpaaMX
import Derived.Test.YtkjedgnepnbkpaaSB
set_option maxHeartbeats 12800000
set_option maxRecDepth 100000
set_option linter.all false
namespace Go.Proofs.Ytkjedgnepnbkpaa
open Go.RowKit

theorem chg_low {S T : Nat → Prop} {w w1 W : World} (hb : Below w.heap.size w w1) (h : Chg S w1 W) (hs : ∀ q, q < w.heap.size → S q → T q) : Chg T w W :=
 ⟨h.os.trans hb.os, h.tape.trans hb.tape, h.output.trans hb.output, Nat.le_trans hb.size h.size, fun k hk hn => (h.block k (Nat.lt_of_lt_of_le hk hb.size) (fun h2 => hn (hs k hk h2))).trans (hb.block k hk)⟩
/-- a step's contract, the trace behind it under a name of its own -/
theorem with_list {P : Program} {F : FuncId} {args : Array Value} {w : World} {tb base : Nat} {v1 vr vv vA : Value} {us : List Value} {rs : List Int} {m : Mm} {T : List Ev} {S : Nat → Prop} {D : Nat → Prop}
  (h : Calls P F args w fun e w' => ∃ u', e = .returned (.tuple #[.agg #[v1, vr, vv, vA], u']) ∧ OwnMv w' base vr vv vA us rs m ∧ w'.ownsRow tb 47 2 u' T.length (evs T) ∧ (∀ q, u'.ownBlock = some q → ¬ OwnMB vr vv vA us q ∧ D q) ∧ Chg S w w') :
  Calls P F args w fun e w' => ∃ u' T', Hid (T' = T) ∧ e = .returned (.tuple #[.agg #[v1, vr, vv, vA], u']) ∧ OwnMv w' base vr vv vA us rs m ∧ w'.ownsRow tb 47 2 u' T'.length (evs T') ∧ (∀ q, u'.ownBlock = some q → ¬ OwnMB vr vv vA us q ∧ D q) ∧ Chg S w w' :=
 h.mono (fun _ _ ⟨u', h1, h2, h3, h4, h5⟩ => ⟨u', T, Lib.hid rfl, h1, h2, h3, h4, h5⟩)
def stopAt (c : Cd) (s : Ms) (n : Nat) : Bool := opAt c s n == 12 || opAt c s n == 13
def pathN (c : Cd) (s : Ms) : Nat := match fstH (stopAt c s) 4 0 with | some n => n + 1 | none => 4
def pathE (c : Cd) (s : Ms) : List Ev := evN c (pathN c s) s
theorem path_some {c : Cd} {s : Ms} {n : Nat} (h1 : n < 4) (h2 : ∀ j, j < n → stopAt c s j = false) (h3 : stopAt c s n = true) : pathE c s = evN c (n + 1) s := by
 have h := fstH_some (p := stopAt c s) 4 0 n h1 (fun j hj => by rw [Nat.zero_add]; exact h2 j hj) (by rw [Nat.zero_add]; exact h3)
 unfold pathE pathN; rw [h, Nat.zero_add]
theorem path_none {c : Cd} {s : Ms} (h : ∀ j, j < 4 → stopAt c s j = false) : pathE c s = evN c 4 s := by
 have h := fstH_none (p := stopAt c s) 4 0 (fun j hj => by rw [Nat.zero_add]; exact h j hj)
 unfold pathE pathN; rw [h]
theorem pathE_len (c : Cd) (s : Ms) : (pathE c s).length ≤ 8 := by
 unfold pathE
 have h := evN_len c s (pathN c s)
 have h2 : pathN c s ≤ 4 := by
  unfold pathN
  have hf : ∀ (p : Nat → Bool) (f k n : Nat), fstH p f k = some n → n < k + f := by
   intro p f
   induction f with
   | zero => intro k n h; cases h
   | succ f ih =>
    intro k n h
    rw [fstH] at h
    split at h
    ·have := Option.some.inj h; omega
    ·have := ih _ _ h; omega
  cases e : fstH (stopAt c s) 4 0 with
  | none => exact Nat.le_refl _
  | some n => have := hf _ _ _ _ e; simp only; omega
 omega

theorem iPath_any (va vb vc vr vx vy : Value) (c : Cd) (s : Ms) (w : World) (hr : ReadsC w va vb vc c) (hs : ReadsS w vr vx vy s) (h0 : s.regs.length ≤ 1048576) (hl : s.mem.vals.length ≤ 1048576) (hn : s.mem.arrs.length ≤ 1048576) (hp : pre2 s.mem.arrs s.mem.arrs.length ≤ 1048576) (hM : MsOk c s) (hok : codeOk c = true) :
  Calls Try.prog 62 #[.agg #[va, vb, vc], .agg #[.int .i64 s.pc, vr, vx, vy]] w fun e w' => ∃ u, e = .returned u ∧ w'.ownsRow w.heap.size 47 2 u (pathE c s).length (evs (pathE c s)) ∧ Below w.heap.size w w' := by
 obtain ⟨a0, c0, a1, c1, a2, c2, rfl, rfl, rfl⟩ := hr.shape
 obtain ⟨a5, c5, rfl⟩ := reads_shape hs.r
 obtain ⟨a3, c3, a4, c4, rfl, rfl⟩ := hs.m.shape
 have HR := Lib.hid (fun W (hW : Below w.heap.size w W) => hr.below hW)
 have HOW := Lib.hid (fun W (hW : Below w.heap.size w W) => iMOwn_any _ _ _ s W (hs.below hW) h0 hl hn hp)
 have HSN := Lib.hid (fun n => stN_ok hok hM n)
 have HOC := Lib.hid hok
 have HPS := Lib.hid (fun n h1 h2 h3 => path_some (c := c) (s := s) (n := n) h1 h2 h3)
 have HPN := Lib.hid (fun h => path_none (c := c) (s := s) h)
 have hc1 := (codeOk_len hok).1
 clear hr hs h0 hl hn hp hM hok
 generalize pathE c s = PE at *
 go_enter Try.func62, Try.ntmps62
 go_wp2_with fail
 refine (HOW.out _ (bal (bal (Bs w) (.cells #[.slice a0 c.vars.length c0, .slice a1 c.arrays.length c1, .slice a2 c.list.length c2] 26)) (.cells #[.int .i64 s.pc, .slice a5 s.regs.length c5, .slice a3 s.mem.vals.length c3, .slice a4 s.mem.arrs.length c4] 39))).mono ?_
 rintro e w1 ⟨ur, ux, uy, us, rfl, OM, hb⟩
 obtain ⟨pr, tr, rfl⟩ := Oh OM.r
 obtain ⟨px, tx, rfl⟩ := Oh OM.v
 obtain ⟨py, ty, rfl⟩ := Oh OM.a.out
 have hsz1 := hb.size
 simp only [Sa] at hsz1
 have bx2 : w1.cell? ⟨w.heap.size, 0, none⟩ = some (.slice a0 c.vars.length c0) := Kc hb (Ac (Wc (by simp) (by rfl)) _)
 have bx3 : w1.cell? ⟨w.heap.size, 1, none⟩ = some (.slice a1 c.arrays.length c1) := Kc hb (Ac (Wc (by simp) (by rfl)) _)
 have bx4 : w1.cell? ⟨w.heap.size, 2, none⟩ = some (.slice a2 c.list.length c2) := Kc hb (Ac (Wc (by simp) (by rfl)) _)
 have bx5 : w1.cell? ⟨w.heap.size + 1, 0, none⟩ = some (.int .i64 s.pc) := Kc hb (Wc (by simp) (by rfl))
 have bx6 : w1.cell? ⟨w.heap.size + 1, 1, none⟩ = some (.slice a5 s.regs.length c5) := Kc hb (Wc (by simp) (by rfl))
 have bx7 : w1.cell? ⟨w.heap.size + 1, 2, none⟩ = some (.slice a3 s.mem.vals.length c3) := Kc hb (Wc (by simp) (by rfl))
 have bx8 : w1.cell? ⟨w.heap.size + 1, 3, none⟩ = some (.slice a4 s.mem.arrs.length c4) := Kc hb (Wc (by simp) (by rfl))
 have tot := btr (bal (bal (Bs w) (.cells #[.slice a0 c.vars.length c0, .slice a1 c.arrays.length c1, .slice a2 c.list.length c2] 26)) (.cells #[.int .i64 s.pc, .slice a5 s.regs.length c5, .slice a3 s.mem.vals.length c3, .slice a4 s.mem.arrs.length c4] 39)) hb
 clear hb
 clear bx5 bx6 bx7 bx8
 have lt9 := Lc bx2
 have iv10 := OM.lt
 try simp only [Sa] at iv10
 go_upto_region 2 with (fail)
 obtain ⟨w2, hnw, hb⟩ := nmw (World.alloc w1 (.cells #[.int .i64 s.pc, .slice pr s.regs.length tr, .slice px s.mem.vals.length tx, .slice py s.mem.arrs.length ty] 39))
 have hsz11 := hb.size
 simp only [Sa] at hsz11
 replace bx2 := Kc hb (Ac bx2 _)
 replace bx3 := Kc hb (Ac bx3 _)
 replace bx4 := Kc hb (Ac bx4 _)
 replace OM := (OM.below (bal (Bs _) _)).below hb
 have bx12 : w2.cell? ⟨w1.heap.size, 0, none⟩ = some (.int .i64 s.pc) := Kc hb (Wc (by simp) (by rfl))
 have bf13 : w2.frozen? ⟨w1.heap.size, 0, none⟩ = false := Kf hb (by simp <;> omega) (Fn (by simp))
 have bx14 : w2.cell? ⟨w1.heap.size, 1, none⟩ = some (.slice pr s.regs.length tr) := Kc hb (Wc (by simp) (by rfl))
 have bf15 : w2.frozen? ⟨w1.heap.size, 1, none⟩ = false := Kf hb (by simp <;> omega) (Fn (by simp))
 have bx16 : w2.cell? ⟨w1.heap.size, 2, none⟩ = some (.slice px s.mem.vals.length tx) := Kc hb (Wc (by simp) (by rfl))
 have bf17 : w2.frozen? ⟨w1.heap.size, 2, none⟩ = false := Kf hb (by simp <;> omega) (Fn (by simp))
 have bx18 : w2.cell? ⟨w1.heap.size, 3, none⟩ = some (.slice py s.mem.arrs.length ty) := Kc hb (Wc (by simp) (by rfl))
 have bf19 : w2.frozen? ⟨w1.heap.size, 3, none⟩ = false := Kf hb (by simp <;> omega) (Fn (by simp))
 replace tot := btr (bal tot _) hb
 clear hb
 rw [← hnw]
 clear hnw
 replace lt9 := Lc bx2
 have lt20 := Lc bx12
 have hS0 : OwnS w2 w.heap.size (w1.heap.size) (.slice pr s.regs.length tr) (.slice px s.mem.vals.length tx) (.slice py s.mem.arrs.length ty) us (stN c 0 s) := ⟨bx12, bx14, bx16, bx18, bf13, OM.mono (by simp only [Sa]; omega), fun h => by have := iv10 _ h; omega⟩
 have iM := iv10
 have HS0 := Lib.hid hS0; have HT := Lib.hid tot
 have hbz : w.heap.size + 2 ≤ w1.heap.size ∧ w1.heap.size < w2.heap.size := by omega
 have HIM := Lib.hid (fun q (h : OwnMB (.slice pr s.regs.length tr) (.slice px s.mem.vals.length tx) (.slice py s.mem.arrs.length ty) us q) => (show w.heap.size + 2 ≤ q ∧ q < w2.heap.size ∧ ¬ q = w1.heap.size from by have := iM q h; omega))
 clear iM
 clear hS0 tot OM bx12 bf13 bx14 bf15 bx16 bf17 bx18 bf19 lt9 lt20
 go_wp2_with fail
 go_loopw [6, 10] (fun u t wr => ∃ n : Nat, n ≤ 4 ∧ t = .int .i64 n ∧ OwnS wr w.heap.size (w1.heap.size) (.slice pr s.regs.length tr) (.slice px s.mem.vals.length tx) (.slice py s.mem.arrs.length ty) us (stN c n s) ∧ wr.ownsRow w.heap.size 47 2 u (evN c n s).length (evs (evN c n s)) ∧ (∀ q, u.ownBlock = some q → w.heap.size + 2 ≤ q ∧ ¬ q = w1.heap.size ∧ ¬ OwnMB (.slice pr s.regs.length tr) (.slice px s.mem.vals.length tx) (.slice py s.mem.arrs.length ty) us q) ∧ Hid (∀ j, j < n → stopAt c s j = false) ∧ Below (w.heap.size + 2) w2 wr) (fun _ t _ => 4 - (intOf t).toNat)
 case atStart => exact ⟨0, by omega, rfl, HS0.out, World.ownsRow_nil _ _ _ _, fun q h => by simp [Value.ownBlock] at h, Lib.hid (fun j h => by omega), Below.refl _ _⟩
 case round =>
  obtain ⟨n, hn4, rfl, hS, hE, hEd, HNO, hB⟩ := hrel
  clear HS0
  obtain ⟨pu, tu, rfl⟩ := Oh hE
  have hzr := hB.size
  have totr := HT.out.trans (hB.mono (by omega : w.heap.size ≤ w.heap.size + 2))
  have keepW : ∀ b0 j v, b0 < w.heap.size + 2 → w2.cell? ⟨b0, j, none⟩ = some v → wr.cell? ⟨b0, j, none⟩ = some v := fun b0 j v h h2 => (hB.cell (p := ⟨b0, j, none⟩) h).trans h2
  replace bx2 := keepW _ _ _ (by omega) bx2
  replace bx3 := keepW _ _ _ (by omega) bx3
  replace bx4 := keepW _ _ _ (by omega) bx4
  clear keepW
  by_cases hlt : n < 4
  ·have hMn := HSN.out n
   obtain ⟨k, hk⟩ : ∃ k : Nat, (stN c n s).pc = k := ⟨(stN c n s).pc.toNat, by have := hMn.pc0; omega⟩
   have hkl : k < c.list.length := by have := hMn.pc1; omega
   have HOP : Hid (opAt c s n = c.list[k].op) := Lib.hid (by unfold opAt insAt; rw [hk, Int.toNat_natCast, List.getElem?_eq_getElem hkl]; rfl)
   have hrl := (HR.out wr totr).l
   obtain ⟨_, hn, aa, cap, b0, off, hv, hcap, ha, hca⟩ := hrl
   simp only [Value.slice.injEq, true_and] at hv
   obtain ⟨rfl, rfl⟩ := hv
   obtain ⟨rfl, hbs⟩ := ha (by omega)
   obtain ⟨e0, _⟩ := reads_Instr hca k hkl
   have ke := Lc e0
   have hqk : (k : Int) < (c.list.length : Int) := by omega
   have hel := evN_len c s n
   clear hca ha hbs
   have d0 : wr.cell? ⟨w1.heap.size, 0, none⟩ = some (.int .i64 (k : Int)) := by rw [← hk]; exact hS.c0
   clear hk
   obtain ⟨x, HX⟩ : ∃ x : Ins, Hid (x = c.list[k]) := ⟨c.list[k], Lib.hid rfl⟩
   rw [← HX.out] at e0 HOP
   have HST := Lib.hid (step_any (w1.heap.size) w.heap.size _ _ _ _ _ _ us c (stN c n s) wr (HR.out wr totr) hS hMn HOC.out)
   have HEV := Lib.hid (evN_len c s n)
   have HSL := Lib.hid hS.lt
   clear hMn hS
   have lt21 := Lc bx2
   have lt22 := Lc d0
   go_upto_region 6 with (fail)
   replace lt21 := Lc bx2
   replace lt22 := Lc d0
   clear d0 e0
   have iS : ∀ q, (q = w1.heap.size ∨ OwnMB (.slice pr s.regs.length tr) (.slice px s.mem.vals.length tx) (.slice py s.mem.arrs.length ty) us q) → w.heap.size + 2 ≤ q ∧ q < wr.heap.size := by rintro q (h | h); omega; (have := HIM.out q h; have := hB.size; omega)
   have iE := hE.lt
   have hap : ∀ q, (Value.slice pu (evN c n s).length tu).ownBlock = some q → (q = w1.heap.size ∨ OwnMB (.slice pr s.regs.length tr) (.slice px s.mem.vals.length tx) (.slice py s.mem.arrs.length ty) us q) → False := fun q h h2 => by rcases h2 with h2 | h2; exact (hEd q h).2.1 h2; exact (hEd q h).2.2 h2
   go_wp2_with fail
   refine (HST.out).mono ?_
   rintro e w3 ⟨u2, rfl, oU, hS2, hC⟩
   obtain ⟨pv, tv, rfl⟩ := Oh oU
   have hB2 : Below (w.heap.size + 2) w2 w3 := hB.trans (hC.below (w.heap.size + 2) (by omega) (fun q hq h => by have := iS q h; omega))
   have hsz23 := hC.size
   replace bx2 := Gc hC bx2 (fun h => by have := iS _ h; omega)
   replace bx3 := Gc hC bx3 (fun h => by have := iS _ h; omega)
   replace bx4 := Gc hC bx4 (fun h => by have := iS _ h; omega)
   replace hE := Ow hE hC (fun gq h h2 => hap gq h h2)
   replace tot := totr.trans (hC.below w.heap.size (by have := totr.size; omega) (fun gq hgq h => by have := iS gq h; omega))
   clear hC
   clear bx2 bx3 bx4
   clear lt21 lt22
   have iv24 := oU.lt
   have hse := (stEvs_len (insAt c (stN c n s).pc) (stN c n s)).1
   have hS2b := hS2
   go_wp2_with (at_builtin; refine wpList_aps tEvs rfl _ _ rfl (w.heap.size) _ ((evN c n s).length) (evs (evN c n s)) rfl hE _ ((stEvs (insAt c (stN c n s).pc) (stN c n s)).length) (evs (stEvs (insAt c (stN c n s).pc) (stN c n s))) rfl (Ro oU (by omega)) (one_evs (stEvs (insAt c (stN c n s).pc) (stN c n s))) (by omega) (by first | omega | (simp only [Sa, Ss]; omega)) ?_)
   intro vA w4 oA25 hc hNw _
   obtain ⟨pA25, tA25, rfl⟩ := Oh oA25
   have hB3 : Below (w.heap.size + 2) w2 w4 := hB2.trans (hc.below (w.heap.size + 2) (by omega) (fun q hq h => by have := hEd q h; omega))
   have hS3 := hS2.keep hc (fun h => (hEd _ h).2.1 rfl) (fun q h h2 => (hEd q h2).2.2 h)
   have hN3 := hNw
   clear hS2 hS2b hB2
   have hsz26 := hc.size
   replace oU := Ow oU hc (fun gq h h2 => by have := iv24 gq h; have := iE gq h2; omega)
   replace tot := tot.trans (hc.below w.heap.size (by have := tot.size; omega) (fun gq hgq h => by have := iE gq h; omega))
   clear hc
   have iv27 := oA25.lt
   clear hNw hE
   rw [← evs_append] at oA25
   have hlA : (evN c n s ++ stEvs (insAt c (stN c n s).pc) (stN c n s)).length = (evN c n s).length + (stEvs (insAt c (stN c n s).pc) (stN c n s)).length := List.length_append
   have HE2 : Hid (w4.ownsRow w.heap.size 47 2 (.slice pA25 ((evN c n s).length + (stEvs (insAt c (stN c n s).pc) (stN c n s)).length) tA25) (evN c (n + 1) s).length (evs (evN c (n + 1) s))) := Lib.hid (by have h := oA25; rw [← hlA] at h; rw [← hlA]; exact h)
   have HED : Hid (∀ q, (Value.slice pA25 ((evN c n s).length + (stEvs (insAt c (stN c n s).pc) (stN c n s)).length) tA25).ownBlock = some q → w.heap.size + 2 ≤ q ∧ ¬ q = w1.heap.size ∧ ¬ OwnMB (.slice pr s.regs.length tr) (.slice px s.mem.vals.length tx) (.slice py s.mem.arrs.length ty) us q) := Lib.hid (fun q h => by rcases hN3 with e | ⟨g, hg1, hg2⟩; (rw [e] at h; exact hEd q h); (rw [hg1] at h; have e1 := Option.some.inj h; have := hB.size; exact ⟨by omega, by omega, fun h2 => by have := HIM.out q h2; omega⟩))
   clear hN3 hlA oA25 hEd iE hap iS
   have HS3 := Lib.hid hS3; clear hS3
   by_cases h12 : x.op = 12
   ·have h12 : (x.op == 12) = true := by simp [h12]
    have HPE := Lib.hid (HPS.out n hlt HNO.out (by unfold stopAt; rw [HOP.out, h12]; rfl))
    have tt := tot
    go_wp2
    exact bodyPost_ret (v := .slice pA25 ((evN c n s).length + (stEvs (insAt c (stN c n s).pc) (stN c n s)).length) tA25) (by simp [results, Try.results62, go_sem]) rfl (by exact by rw [HPE.out]; exact ⟨_, rfl, HE2.out, tt⟩)
   by_cases h13 : x.op = 13
   ·have h12 : (x.op == 12) = false := by simp [h12]
    have h13 : (x.op == 13) = true := by simp [h13]
    have HPE := Lib.hid (HPS.out n hlt HNO.out (by unfold stopAt; rw [HOP.out, h12, h13]; rfl))
    have tt := tot
    go_wp2
    exact bodyPost_ret (v := .slice pA25 ((evN c n s).length + (stEvs (insAt c (stN c n s).pc) (stN c n s)).length) tA25) (by simp [results, Try.results62, go_sem]) rfl (by exact by rw [HPE.out]; exact ⟨_, rfl, HE2.out, tt⟩)
   ·have h12 : (x.op == 12) = false := by simp [h12]
    have h13 : (x.op == 13) = false := by simp [h13]
    have HNO2 : Hid (∀ j, j < n + 1 → stopAt c s j = false) := Lib.hid (fun j hj => by by_cases e : j = n; (subst e; unfold stopAt; rw [HOP.out, h12, h13]; rfl); exact HNO.out j (by omega))
    have HB3 := Lib.hid hB3; clear hB3
    go_wp2
    go_roundw
    case rel => exact ⟨n + 1, by omega, by go_num, HS3.out, HE2.out, HED.out, HNO2, HB3.out⟩
    case measure => simp [intOf]; omega
  ·have en : n = 4 := by omega
   subst en
   have HPE := Lib.hid (HPN.out HNO.out); have HE2 := Lib.hid hE; clear hE hS hEd
   have lt28 := Lc bx2
   have tt := totr
   go_wp2
   exact bodyPost_ret (v := .slice pu ((evN c 4 s).length) tu) (by simp [results, Try.results62, go_sem]) rfl (by exact by rw [HPE.out]; exact ⟨_, rfl, HE2.out, tt⟩)
theorem sPath_any (va vb vc vr vx vy : Value) (us : List Value) (base : Nat) (c : Cd) (s : Ms) (tr : Value) (tb : Nat) (E : List Ev) (w : World) (hr : ReadsC w va vb vc c) (OM : OwnMv w base vr vx vy us s.regs s.mem) (hE : w.ownsRow tb 47 2 tr E.length (evs E)) (hd : ∀ q, tr.ownBlock = some q → ¬ OwnMB vr vx vy us q) (htb : tb ≤ w.heap.size) (hEl : E.length ≤ 1000000) (hRM : ∀ q, ReadB va vb vc c q → ¬ OwnMB vr vx vy us q ∧ ¬ tr.ownBlock = some q) (hM : MsOk c s) (hok : codeOk c = true) :
  Calls Try.prog 64 #[.agg #[va, vb, vc], .agg #[.int .i64 s.pc, vr, vx, vy], tr] w fun e w' => ∃ u, e = .returned u ∧ w'.ownsRow tb 47 2 u (E ++ pathE c s).length (evs (E ++ pathE c s)) ∧ (∀ q, u.ownBlock = some q → ¬ OwnMB vr vx vy us q ∧ (tr.ownBlock = some q ∨ w.heap.size ≤ q)) ∧ Chg (fun q => OwnMB vr vx vy us q ∨ tr.ownBlock = some q) w w' := by
 obtain ⟨a0, c0, a1, c1, a2, c2, rfl, rfl, rfl⟩ := hr.shape

 obtain ⟨pr, tr, rfl⟩ := Oh OM.r
 obtain ⟨px, tx, rfl⟩ := Oh OM.v
 obtain ⟨py, ty, rfl⟩ := Oh OM.a.out
 obtain ⟨pt, tt, rfl⟩ := Oh hE
 have ivr := hr.lt
 have HSN := Lib.hid (fun n => stN_ok hok hM n)
 have HOC := Lib.hid hok
 have HPS := Lib.hid (fun n h1 h2 h3 => path_some (c := c) (s := s) (n := n) h1 h2 h3)
 have HPN := Lib.hid (fun h => path_none (c := c) (s := s) h)
 have hc1 := (codeOk_len hok).1
 have HRM := Lib.hid hRM; have HR := Lib.hid hr; have HOM := Lib.hid OM; have HE := Lib.hid hE; have HIM := Lib.hid OM.lt; have HIE := Lib.hid hE.lt; have HD := Lib.hid hd
 clear hr OM hE hd hRM hM hok
 generalize pathE c s = PE at *
 go_enter Try.func64, Try.ntmps64
 go_upto_region 1 with (fail)
 obtain ⟨w1, hnw, hb⟩ := nmw (World.alloc (World.alloc w (.cells #[.slice a0 c.vars.length c0, .slice a1 c.arrays.length c1, .slice a2 c.list.length c2] 26)) (.cells #[.int .i64 s.pc, .slice pr s.regs.length tr, .slice px s.mem.vals.length tx, .slice py s.mem.arrs.length ty] 39))
 have hsz1 := hb.size
 simp only [Sa] at hsz1
 have bx2 : w1.cell? ⟨w.heap.size, 0, none⟩ = some (.slice a0 c.vars.length c0) := Kc hb (Ac (Wc (by simp) (by rfl)) _)
 have bx3 : w1.cell? ⟨w.heap.size, 1, none⟩ = some (.slice a1 c.arrays.length c1) := Kc hb (Ac (Wc (by simp) (by rfl)) _)
 have bx4 : w1.cell? ⟨w.heap.size, 2, none⟩ = some (.slice a2 c.list.length c2) := Kc hb (Ac (Wc (by simp) (by rfl)) _)
 have bx5 : w1.cell? ⟨w.heap.size + 1, 0, none⟩ = some (.int .i64 s.pc) := Kc hb (Wc (by simp) (by rfl))
 have bf6 : w1.frozen? ⟨w.heap.size + 1, 0, none⟩ = false := Kf hb (by simp <;> omega) (Fn (by simp))
 have bx7 : w1.cell? ⟨w.heap.size + 1, 1, none⟩ = some (.slice pr s.regs.length tr) := Kc hb (Wc (by simp) (by rfl))
 have bf8 : w1.frozen? ⟨w.heap.size + 1, 1, none⟩ = false := Kf hb (by simp <;> omega) (Fn (by simp))
 have bx9 : w1.cell? ⟨w.heap.size + 1, 2, none⟩ = some (.slice px s.mem.vals.length tx) := Kc hb (Wc (by simp) (by rfl))
 have bf10 : w1.frozen? ⟨w.heap.size + 1, 2, none⟩ = false := Kf hb (by simp <;> omega) (Fn (by simp))
 have bx11 : w1.cell? ⟨w.heap.size + 1, 3, none⟩ = some (.slice py s.mem.arrs.length ty) := Kc hb (Wc (by simp) (by rfl))
 have bf12 : w1.frozen? ⟨w.heap.size + 1, 3, none⟩ = false := Kf hb (by simp <;> omega) (Fn (by simp))
 have tot := btr (bal (bal (Bs w) (.cells #[.slice a0 c.vars.length c0, .slice a1 c.arrays.length c1, .slice a2 c.list.length c2] 26)) (.cells #[.int .i64 s.pc, .slice pr s.regs.length tr, .slice px s.mem.vals.length tx, .slice py s.mem.arrs.length ty] 39)) hb
 clear hb
 rw [← hnw]
 clear hnw
 have lt13 := Lc bx2
 have lt14 := Lc bx5
 have HINV := Lib.hid (show w1.cell? ⟨w.heap.size + 1, 0, none⟩ = some (.int .i64 (stN c 0 s).pc) ∧ w1.cell? ⟨w.heap.size + 1, 1, none⟩ = some (.slice pr s.regs.length tr) ∧ w1.cell? ⟨w.heap.size + 1, 2, none⟩ = some (.slice px s.mem.vals.length tx) ∧ w1.cell? ⟨w.heap.size + 1, 3, none⟩ = some (.slice py s.mem.arrs.length ty) ∧ w1.frozen? ⟨w.heap.size + 1, 0, none⟩ = false ∧ w1.frozen? ⟨w.heap.size + 1, 1, none⟩ = false ∧ w1.frozen? ⟨w.heap.size + 1, 2, none⟩ = false ∧ w1.frozen? ⟨w.heap.size + 1, 3, none⟩ = false ∧ OwnMv w1 base (.slice pr s.regs.length tr) (.slice px s.mem.vals.length tx) (.slice py s.mem.arrs.length ty) us (stN c 0 s).regs (stN c 0 s).mem ∧ w1.ownsRow tb 47 2 (Value.slice pt E.length tt) E.length (evs E) ∧ Hid (E = E ++ evN c 0 s) ∧ Hid (∀ q, (Value.slice pt E.length tt).ownBlock = some q → ¬ OwnMB (.slice pr s.regs.length tr) (.slice px s.mem.vals.length tx) (.slice py s.mem.arrs.length ty) us q ∧ ((Value.slice pt E.length tt).ownBlock = some q ∨ w1.heap.size ≤ q)) ∧ Hid (∀ j, j < 0 → stopAt c s j = false) ∧ Chg (fun q => q = w.heap.size + 1 ∨ OwnMB (.slice pr s.regs.length tr) (.slice px s.mem.vals.length tx) (.slice py s.mem.arrs.length ty) us q ∨ (Value.slice pt E.length tt).ownBlock = some q ∨ w1.heap.size ≤ q) w1 w1 from ⟨bx5, bx7, bx9, bx11, bf6, bf8, bf10, bf12, HOM.out.below tot, Ob HE.out tot, Lib.hid (by rw [show evN c 0 s = [] from rfl, List.append_nil]), Lib.hid (fun q h => ⟨HD.out q h, Or.inl h⟩), Lib.hid (fun j h => by omega), Chg.refl _ _⟩)
 have HT := Lib.hid tot
 have HW1S : Hid (w.heap.size + 1 < w1.heap.size) := Lib.hid (Lc bx5)
 clear tot bx5 bx7 bx9 bx11 bf6 bf8 bf10 bf12
 have hnx : ¬ (w.heap.size = w.heap.size + 1 ∨ OwnMB (.slice pr s.regs.length tr) (.slice px s.mem.vals.length tx) (.slice py s.mem.arrs.length ty) us w.heap.size ∨ (Value.slice pt E.length tt).ownBlock = some w.heap.size ∨ w1.heap.size ≤ w.heap.size) := fun h => by rcases h with h | h | h | h; omega; (have := HIM.out _ h; omega); (have := HIE.out _ h; omega); omega
 have HNX := Lib.hid hnx; clear hnx
 clear lt13 lt14
 go_wp2_with fail
 go_loopw [2, 7] (fun u t wr => ∃ (n : Nat) (Q : List Ev), n ≤ 4 ∧ t = .int .i64 n ∧ wr.cell? ⟨w.heap.size + 1, 0, none⟩ = some (.int .i64 (stN c n s).pc) ∧ wr.cell? ⟨w.heap.size + 1, 1, none⟩ = some (.slice pr s.regs.length tr) ∧ wr.cell? ⟨w.heap.size + 1, 2, none⟩ = some (.slice px s.mem.vals.length tx) ∧ wr.cell? ⟨w.heap.size + 1, 3, none⟩ = some (.slice py s.mem.arrs.length ty) ∧ wr.frozen? ⟨w.heap.size + 1, 0, none⟩ = false ∧ wr.frozen? ⟨w.heap.size + 1, 1, none⟩ = false ∧ wr.frozen? ⟨w.heap.size + 1, 2, none⟩ = false ∧ wr.frozen? ⟨w.heap.size + 1, 3, none⟩ = false ∧ OwnMv wr base (.slice pr s.regs.length tr) (.slice px s.mem.vals.length tx) (.slice py s.mem.arrs.length ty) us (stN c n s).regs (stN c n s).mem ∧ wr.ownsRow tb 47 2 u Q.length (evs Q) ∧ Hid (Q = E ++ evN c n s) ∧ Hid (∀ q, u.ownBlock = some q → ¬ OwnMB (.slice pr s.regs.length tr) (.slice px s.mem.vals.length tx) (.slice py s.mem.arrs.length ty) us q ∧ ((Value.slice pt E.length tt).ownBlock = some q ∨ w1.heap.size ≤ q)) ∧ Hid (∀ j, j < n → stopAt c s j = false) ∧ Chg (fun q => q = w.heap.size + 1 ∨ OwnMB (.slice pr s.regs.length tr) (.slice px s.mem.vals.length tx) (.slice py s.mem.arrs.length ty) us q ∨ (Value.slice pt E.length tt).ownBlock = some q ∨ w1.heap.size ≤ q) w1 wr) (fun _ t _ => 4 - (intOf t).toNat)
 case atStart => exact ⟨0, E, by omega, rfl, HINV.out⟩
 case round =>
  obtain ⟨n, Q, hn4, rfl, d0, d1, d2, d3, f0, f1, f2, f3, OM, hE, HQ, HEd, HNO, hC⟩ := hrel
  clear HINV
  obtain ⟨pu, tu, rfl⟩ := Oh hE
  have hzr := hC.size
  replace bx2 := Gc hC bx2 HNX.out; replace bx3 := Gc hC bx3 HNX.out; replace bx4 := Gc hC bx4 HNX.out
  have HRW := Lib.hid ((HR.out.below HT.out).keep hC (fun q h h2 => by have := ivr q h; rcases h2 with h2 | h2 | h2 | h2; omega; exact (HRM.out q h).1 h2; exact (HRM.out q h).2 h2; (have := HT.out.size; omega)))
  skip
  by_cases hlt : n < 4
  ·have hMn := HSN.out n
   obtain ⟨k, hk⟩ : ∃ k : Nat, (stN c n s).pc = k := ⟨(stN c n s).pc.toNat, by have := hMn.pc0; omega⟩
   have hkl : k < c.list.length := by have := hMn.pc1; omega
   have HOP : Hid (opAt c s n = c.list[k].op) := Lib.hid (by unfold opAt insAt; rw [hk, Int.toNat_natCast, List.getElem?_eq_getElem hkl]; rfl)
   have hrl := HRW.out.l
   obtain ⟨_, hn, aa, cap, b0, off, hv, hcap, ha, hca⟩ := hrl
   simp only [Value.slice.injEq, true_and] at hv
   obtain ⟨rfl, rfl⟩ := hv
   obtain ⟨rfl, hbs⟩ := ha (by omega)
   obtain ⟨e0, _⟩ := reads_Instr hca k hkl
   have ke := Lc e0
   have hqk : (k : Int) < (c.list.length : Int) := by omega
   have hel := evN_len c s n
   clear hca ha hbs
   have hvp : (Value.int .i64 (stN c n s).pc) = .int .i64 (k : Int) := by rw [hk]
   have hEl2 : Q.length ≤ 1048576 := by rw [HQ.out, List.length_append]; omega
   have HXE := Lib.hid (exec_any tb base _ _ _ _ _ _ _ us c (stN c n s) Q wr HRW.out OM hE (fun q h => (HEd.out q h).1) (by have := HT.out.size; omega) hEl2 hMn HOC.out)
   have HXE2 := Lib.hid (with_list (by have h := HXE.out; rw [hvp] at h; exact h))
   clear HXE hvp hMn hEl2
   have HIE2 := Lib.hid hE.lt
   have HDP := Lib.hid d0
   rw [hk] at d0
   clear hk
   obtain ⟨x, HX⟩ : ∃ x : Ins, Hid (x = c.list[k]) := ⟨c.list[k], Lib.hid rfl⟩
   rw [← HX.out] at e0 HOP
   clear OM hE
   have lt15 := Lc bx2
   have lt16 := Lc d0
   go_upto_region 5 with (fail)
   go_wp2_with fail
   refine HXE2.out.mono ?_
   rintro e w2 ⟨u', Q', HQ', rfl, O5, E5, hd5, hC5⟩
   obtain ⟨pu', tu', rfl⟩ := Oh E5
   have hz5 := hC5.size
   have hnS : ∀ q, q = w.heap.size ∨ q = w.heap.size + 1 → ¬ (OwnMB (.slice pr s.regs.length tr) (.slice px s.mem.vals.length tx) (.slice py s.mem.arrs.length ty) us q ∨ (Value.slice pu Q.length tu).ownBlock = some q) := fun q hq h => by rcases h with h | h; (have := HIM.out _ h; omega); (rcases (HEd.out q h).2 with h2 | h2; (have := HIE.out _ h2; omega); (have := HT.out.size; rcases hq with rfl | rfl <;> omega))
   have HNS := Lib.hid hnS; clear hnS
   replace f0 := Gf hC5 (Lc d0) f0 (HNS.out _ (Or.inr rfl)); replace d0 := Gc hC5 d0 (HNS.out _ (Or.inr rfl))
   replace f1 := Gf hC5 (Lc d1) f1 (HNS.out _ (Or.inr rfl)); replace d1 := Gc hC5 d1 (HNS.out _ (Or.inr rfl))
   replace f2 := Gf hC5 (Lc d2) f2 (HNS.out _ (Or.inr rfl)); replace d2 := Gc hC5 d2 (HNS.out _ (Or.inr rfl))
   replace f3 := Gf hC5 (Lc d3) f3 (HNS.out _ (Or.inr rfl)); replace d3 := Gc hC5 d3 (HNS.out _ (Or.inr rfl))
   clear bx2 bx3 bx4 e0
   have hEd5 : ∀ q, (Value.slice pu' Q'.length tu').ownBlock = some q → ¬ OwnMB (.slice pr s.regs.length tr) (.slice px s.mem.vals.length tx) (.slice py s.mem.arrs.length ty) us q ∧ ((Value.slice pt E.length tt).ownBlock = some q ∨ w1.heap.size ≤ q) := fun q h => ⟨(hd5 q h).1, by rcases (hd5 q h).2 with h2 | h2; exact (HEd.out q h2).2; (have := HT.out.size; exact Or.inr (by omega))⟩
   have hbT := HT.out.size
   have hw1s : w.heap.size + 1 < w1.heap.size := HW1S.out
   have iO5 : ∀ q, OwnMB (.slice pr s.regs.length tr) (.slice px s.mem.vals.length tx) (.slice py s.mem.arrs.length ty) us q → q < w.heap.size ∧ ¬ q = w.heap.size + 1 := fun q h => by have := HIM.out q h; omega
   have iE5 : ∀ q, (Value.slice pu' Q'.length tu').ownBlock = some q → ¬ q = w.heap.size + 1 := fun q h => by rcases (hEd5 q h).2 with h2 | h2; (have := HIE.out _ h2; omega); omega
   have hCa : Chg (fun q => q = w.heap.size + 1 ∨ OwnMB (.slice pr s.regs.length tr) (.slice px s.mem.vals.length tx) (.slice py s.mem.arrs.length ty) us q ∨ (Value.slice pt E.length tt).ownBlock = some q ∨ w1.heap.size ≤ q) w1 w2 := hC.trans (hC5.mono (fun q _ h => by rcases h with h | h; exact Or.inr (Or.inl h); (rcases (HEd.out q h).2 with h2 | h2; exact Or.inr (Or.inr (Or.inl h2)); exact Or.inr (Or.inr (Or.inr h2)))))
   have HED5 := Lib.hid hEd5
   clear hC5 HXE2 hd5 hEd5 hC
   clear lt15
   replace lt16 := Lc d0
   go_upto_region 6 with (fail)
   obtain ⟨w3, hnw, hb⟩ := nmw (World.setCell (World.setCell (World.setCell (World.setCell w2 ⟨w.heap.size + 1, 0, none⟩ (.int .i64 (stPc (insAt c (stN c n s).pc) (stN c n s)))) ⟨w.heap.size + 1, 1, none⟩ (.slice pr s.regs.length tr)) ⟨w.heap.size + 1, 2, none⟩ (.slice px s.mem.vals.length tx)) ⟨w.heap.size + 1, 3, none⟩ (.slice py s.mem.arrs.length ty))
   have hsz17 := hb.size
   simp only [Ss] at hsz17
   replace f0 := Kf hb (Lc (Nc (Nc (Nc (Tc _ (w.heap.size + 1) 0 (.int .i64 (stPc (insAt c (stN c n s).pc) (stN c n s))) d0) (by omega) _) (by omega) _) (by omega) _)) (Fs (Fs (Fs (Fs f0 _) _) _) _)
   replace f1 := Kf hb (Lc (Nc (Nc (Tc _ (w.heap.size + 1) 1 (.slice pr s.regs.length tr) (Nc d1 (by omega) _)) (by omega) _) (by omega) _)) (Fs (Fs (Fs (Fs f1 _) _) _) _)
   replace f2 := Kf hb (Lc (Nc (Tc _ (w.heap.size + 1) 2 (.slice px s.mem.vals.length tx) (Nc (Nc d2 (by omega) _) (by omega) _)) (by omega) _)) (Fs (Fs (Fs (Fs f2 _) _) _) _)
   replace f3 := Kf hb (Lc (Tc _ (w.heap.size + 1) 3 (.slice py s.mem.arrs.length ty) (Nc (Nc (Nc d3 (by omega) _) (by omega) _) (by omega) _))) (Fs (Fs (Fs (Fs f3 _) _) _) _)
   replace d0 : w3.cell? ⟨w.heap.size + 1, 0, none⟩ = some (.int .i64 (stPc (insAt c (stN c n s).pc) (stN c n s))) := Kc hb (Nc (Nc (Nc (Tc _ (w.heap.size + 1) 0 (.int .i64 (stPc (insAt c (stN c n s).pc) (stN c n s))) d0) (by omega) _) (by omega) _) (by omega) _)
   replace d1 : w3.cell? ⟨w.heap.size + 1, 1, none⟩ = some (.slice pr s.regs.length tr) := Kc hb (Nc (Nc (Tc _ (w.heap.size + 1) 1 (.slice pr s.regs.length tr) (Nc d1 (by omega) _)) (by omega) _) (by omega) _)
   replace d2 : w3.cell? ⟨w.heap.size + 1, 2, none⟩ = some (.slice px s.mem.vals.length tx) := Kc hb (Nc (Tc _ (w.heap.size + 1) 2 (.slice px s.mem.vals.length tx) (Nc (Nc d2 (by omega) _) (by omega) _)) (by omega) _)
   replace d3 : w3.cell? ⟨w.heap.size + 1, 3, none⟩ = some (.slice py s.mem.arrs.length ty) := Kc hb (Tc _ (w.heap.size + 1) 3 (.slice py s.mem.arrs.length ty) (Nc (Nc (Nc d3 (by omega) _) (by omega) _) (by omega) _))
   replace O5 := ((((O5.keep (C1 _ _ _) (fun gq h h2 => by have := iO5 gq h; omega)).keep (C1 _ _ _) (fun gq h h2 => by have := iO5 gq h; omega)).keep (C1 _ _ _) (fun gq h h2 => by have := iO5 gq h; omega)).keep (C1 _ _ _) (fun gq h h2 => by have := iO5 gq h; omega)).below hb
   replace E5 := Ob (Oe (Oe (Oe (Oe E5 _ _ (fun h => by have := iE5 _ h; omega) _) _ _ (fun h => by have := iE5 _ h; omega) _) _ _ (fun h => by have := iE5 _ h; omega) _) _ _ (fun h => by have := iE5 _ h; omega) _) hb
   replace hCa := ((((hCa.setCell (w.heap.size + 1) 0 (.int .i64 (stPc (insAt c (stN c n s).pc) (stN c n s))) (fun _ => Or.inl rfl)).setCell (w.heap.size + 1) 1 (.slice pr s.regs.length tr) (fun _ => Or.inl rfl)).setCell (w.heap.size + 1) 2 (.slice px s.mem.vals.length tx) (fun _ => Or.inl rfl)).setCell (w.heap.size + 1) 3 (.slice py s.mem.arrs.length ty) (fun _ => Or.inl rfl)).trans (Chg.of_below hb)
   clear hb
   rw [← hnw]
   clear hnw
   replace lt16 := Lc d0
   have HEA : Hid (Q' = E ++ evN c (n + 1) s) := Lib.hid (by rw [HQ'.out, HQ.out, List.append_assoc]; rfl)
   have L1 : Hid ((∀ j, j < n + 1 → stopAt c s j = false) → w3.cell? ⟨w.heap.size + 1, 0, none⟩ = some (.int .i64 (stN c (n + 1) s).pc) ∧ w3.cell? ⟨w.heap.size + 1, 1, none⟩ = some (.slice pr s.regs.length tr) ∧ w3.cell? ⟨w.heap.size + 1, 2, none⟩ = some (.slice px s.mem.vals.length tx) ∧ w3.cell? ⟨w.heap.size + 1, 3, none⟩ = some (.slice py s.mem.arrs.length ty) ∧ w3.frozen? ⟨w.heap.size + 1, 0, none⟩ = false ∧ w3.frozen? ⟨w.heap.size + 1, 1, none⟩ = false ∧ w3.frozen? ⟨w.heap.size + 1, 2, none⟩ = false ∧ w3.frozen? ⟨w.heap.size + 1, 3, none⟩ = false ∧ OwnMv w3 base (.slice pr s.regs.length tr) (.slice px s.mem.vals.length tx) (.slice py s.mem.arrs.length ty) us (stN c (n + 1) s).regs (stN c (n + 1) s).mem ∧ w3.ownsRow tb 47 2 (Value.slice pu' Q'.length tu') Q'.length (evs Q') ∧ Hid (Q' = E ++ evN c (n + 1) s) ∧ Hid (∀ q, (Value.slice pu' Q'.length tu').ownBlock = some q → ¬ OwnMB (.slice pr s.regs.length tr) (.slice px s.mem.vals.length tx) (.slice py s.mem.arrs.length ty) us q ∧ ((Value.slice pt E.length tt).ownBlock = some q ∨ w1.heap.size ≤ q)) ∧ Hid (∀ j, j < (n + 1) → stopAt c s j = false) ∧ Chg (fun q => q = w.heap.size + 1 ∨ OwnMB (.slice pr s.regs.length tr) (.slice px s.mem.vals.length tx) (.slice py s.mem.arrs.length ty) us q ∨ (Value.slice pt E.length tt).ownBlock = some q ∨ w1.heap.size ≤ q) w1 w3) := Lib.hid (fun hno => ⟨d0, d1, d2, d3, f0, f1, f2, f3, O5, E5, HEA, HED5, Lib.hid hno, hCa⟩)
   have HF : Hid (w3.ownsRow tb 47 2 (Value.slice pu' Q'.length tu') Q'.length (evs Q') ∧ (∀ q, (Value.slice pu' Q'.length tu').ownBlock = some q → ¬ OwnMB (.slice pr s.regs.length tr) (.slice px s.mem.vals.length tx) (.slice py s.mem.arrs.length ty) us q ∧ ((Value.slice pt E.length tt).ownBlock = some q ∨ w.heap.size ≤ q)) ∧ Chg (fun q => OwnMB (.slice pr s.regs.length tr) (.slice px s.mem.vals.length tx) (.slice py s.mem.arrs.length ty) us q ∨ (Value.slice pt E.length tt).ownBlock = some q) w w3) := Lib.hid ⟨E5, fun q h1 => ⟨(HED5.out q h1).1, by rcases (HED5.out q h1).2 with h2 | h2; exact Or.inl h2; exact Or.inr (by have := HT.out.size; omega)⟩, chg_low HT.out hCa (fun q hq h => by rcases h with h | h | h | h; omega; exact Or.inl h; exact Or.inr h; (have := HT.out.size; omega))⟩
   clear O5 E5 hCa f0 f1 f2 f3 d1 d2 d3 iO5 iE5
   by_cases h12 : x.op = 12
   ·have q12 : (x.op == 12) = true := by simp [h12]
    have HPE := Lib.hid (HPS.out n hlt HNO.out (by unfold stopAt; rw [HOP.out, q12]; rfl))
    clear L1 h12
    go_wp2
    exact bodyPost_ret (v := .slice pu' Q'.length tu') (by simp [results, Try.results64, go_sem]) rfl (by rw [HPE.out, ← HEA.out]; exact ⟨_, rfl, HF.out.1, HF.out.2.1, HF.out.2.2⟩)
   by_cases h13 : x.op = 13
   ·have q12 : (x.op == 12) = false := by simp [h12]
    have q13 : (x.op == 13) = true := by simp [h13]
    have HPE := Lib.hid (HPS.out n hlt HNO.out (by unfold stopAt; rw [HOP.out, q12, q13]; rfl))
    clear L1 h12 h13
    go_wp2
    exact bodyPost_ret (v := .slice pu' Q'.length tu') (by simp [results, Try.results64, go_sem]) rfl (by rw [HPE.out, ← HEA.out]; exact ⟨_, rfl, HF.out.1, HF.out.2.1, HF.out.2.2⟩)
   ·have q12 : (x.op == 12) = false := by simp [h12]
    have q13 : (x.op == 13) = false := by simp [h13]
    have L2 := Lib.hid (L1.out (fun j hj => by by_cases e : j = n; (subst e; unfold stopAt; rw [HOP.out, q12, q13]; rfl); exact HNO.out j (by omega)))
    clear L1 HF h12 h13
    go_wp2
    go_roundw
    case rel => exact ⟨n + 1, Q', by omega, by go_num, L2.out⟩
    case measure => simp [intOf]; omega
  ·have en : n = 4 := by omega
   subst en
   have HPE := Lib.hid (HPN.out HNO.out)
   have HF : Hid (wr.ownsRow tb 47 2 (.slice pu Q.length tu) Q.length (evs Q) ∧ (∀ q, (Value.slice pu Q.length tu).ownBlock = some q → ¬ OwnMB (.slice pr s.regs.length tr) (.slice px s.mem.vals.length tx) (.slice py s.mem.arrs.length ty) us q ∧ ((Value.slice pt E.length tt).ownBlock = some q ∨ w.heap.size ≤ q)) ∧ Chg (fun q => OwnMB (.slice pr s.regs.length tr) (.slice px s.mem.vals.length tx) (.slice py s.mem.arrs.length ty) us q ∨ (Value.slice pt E.length tt).ownBlock = some q) w wr) := Lib.hid ⟨hE, fun q h1 => ⟨(HEd.out q h1).1, by rcases (HEd.out q h1).2 with h2 | h2; exact Or.inl h2; exact Or.inr (by have := HT.out.size; omega)⟩, chg_low HT.out hC (fun q hq h => by rcases h with h | h | h | h; omega; exact Or.inl h; exact Or.inr h; (have := HT.out.size; omega))⟩
   clear OM hE hC d0 d1 d2 d3 f0 f1 f2 f3
   go_wp2
   exact bodyPost_ret (v := .slice pu Q.length tu) (by simp [results, Try.results64, go_sem]) rfl (by rw [HPE.out, ← HQ.out]; exact ⟨_, rfl, HF.out.1, HF.out.2.1, HF.out.2.2⟩)
end Go.Proofs.Ytkjedgnepnbkpaa
