/-
 Parts of the proofs of the laws FnCheckLive, FnCodeFenced, FnEraseCode, FnEraseSecret, FnFinalRegs, FnLiveRegister, FnLiveRegs, FnSpecPath.
-/
import Derived.Test.YtkjedgnepnbkpaaLY
set_option maxHeartbeats 12800000
set_option maxRecDepth 100000
set_option linter.all false
namespace Go.Proofs.Ytkjedgnepnbkpaa
open Go.RowKit
def zk (x : Ins) : List (UInt8 × Int) := (knl x.op).zip (flds x)
def rdK (x : Ins) (k : Nat) (r : Nat) : Bool := ((zk x).take k).any (fun p => (p.1 == 49 || p.1 == 51) && p.2 == (r : Int))
def wrK (x : Ins) (k : Nat) (r : Nat) : Bool := ((zk x).take k).any (fun p => (p.1 == 50 || p.1 == 51) && p.2 == (r : Int))
theorem knl_len (op : Int) : (knl op).length ≤ 4 := by unfold knl; repeat (first | split | simp)
theorem zk_len (x : Ins) : (zk x).length = (knl x.op).length := by unfold zk; rw [List.length_zip]; have := knl_len x.op; simp [flds]; omega
theorem knl_kinds (op : Int) : ∀ u ∈ knl op, u = 48 ∨ u = 49 ∨ u = 50 ∨ u = 51 := by
 intro u hu
 have h : (knl op).all (fun u => u == 48 || (u == 49 || (u == 50 || u == 51))) = true := by unfold knl; repeat (first | rfl | split)
 simpa using List.all_eq_true.1 h u hu
theorem zk_get (x : Ins) (k : Nat) (h : k < (zk x).length) (h1 : k < (knl x.op).length) (h2 : k < (flds x).length) : (zk x)[k] = ((knl x.op)[k], (flds x)[k]) := by simp [zk]
theorem zk_succ (x : Ins) (f : UInt8 × Int → Bool) (k : Nat) (h : k < (zk x).length) : ((zk x).take (k + 1)).any f = (((zk x).take k).any f || f (zk x)[k]) := by
 rw [List.take_succ_eq_append_getElem h, List.any_append]; simp
theorem rdK_all {x : Ins} (hop : ¬ (x.op < 1 ∨ 13 < x.op)) : rdK x (knl x.op).length = fun r : Nat => (use x).any (fun u => u == (r : Int)) := by
 funext r; unfold rdK; rw [List.take_of_length_le (by rw [zk_len]; omega)]; exact knl_reads hop r
theorem wrK_all {x : Ins} (hop : ¬ (x.op < 1 ∨ 13 < x.op)) : wrK x (knl x.op).length = fun r : Nat => wrt x == (r : Int) := by
 funext r; unfold wrK; rw [List.take_of_length_le (by rw [zk_len]; omega)]; exact knl_writes hop r (by omega)
theorem l12Regs_any (x : Ins) (w : World) (hop : ¬ (x.op < 1 ∨ 13 < x.op)) (hin : ∀ p ∈ zk x, p.1 ≠ 48 → 0 ≤ p.2 ∧ p.2 < 14) :
  Calls Try.prog 135 #[.agg #[.int .i64 x.op, .int .i64 x.a, .int .i64 x.b, .int .i64 x.c, .int .i64 x.d]] w fun e w' => ∃ g g2, e = .returned (.tuple #[.slice (some ⟨g, 0, none⟩) 14 14, .slice (some ⟨g2, 0, none⟩) 14 14]) ∧
   w'.ownsRow w.heap.size 4 1 (.slice (some ⟨g, 0, none⟩) 14 14) 14 (bools (tab (fun r : Nat => (use x).any (fun u => u == (r : Int))))) ∧ w'.ownsRow w.heap.size 4 1 (.slice (some ⟨g2, 0, none⟩) 14 14) 14 (bools (tab (fun r : Nat => wrt x == (r : Int)))) ∧ ¬ g = g2 ∧ Below w.heap.size w w' := by
 have hR := rdK_all hop
 have hW := wrK_all hop
 have n0 := Lib.hid (And.intro hR hW)
 clear hR hW
 have w0 := fun u => mk_bool14 u
 obtain ⟨B, hB⟩ : ∃ B : Obj, B = .cells #[.int .i64 x.op, .int .i64 x.a, .int .i64 x.b, .int .i64 x.c, .int .i64 x.d] 32 := ⟨_, rfl⟩
 have o1 := own_made (w.alloc B) (.bool false) 14 4 (by unfold maxLen; omega)
 have o2 := own_made ((w.alloc B).alloc (.cells (madeCells #[.bool false] 14) 4)) (.bool false) 14 4 (by unfold maxLen; omega)
 have h0 := bal (bal (bal (Bs w) B) (.cells (madeCells #[.bool false] 14) 4)) (.cells (madeCells #[.bool false] 14) 4)
 replace o1 := Ob o1 (bal (Bs _) (.cells (madeCells #[.bool false] 14) 4))
 rw [← bools_replicate, tab_false] at o1 o2
 simp only [Sa] at o1 o2
 subst hB
 obtain ⟨w3, g0⟩ : ∃ X, X = ((w.alloc (.cells #[.int .i64 x.op, .int .i64 x.a, .int .i64 x.b, .int .i64 x.c, .int .i64 x.d] 32)).alloc (.cells (madeCells #[.bool false] 14) 4)).alloc (.cells (madeCells #[.bool false] 14) 4) := ⟨_, rfl⟩
 have d0 : w3.cell? ⟨w.heap.size, 0, none⟩ = some (.int .i64 x.op) := by rw [g0]; exact Ac (Ac (Wc rfl rfl) _) _
 have d1 : w3.cell? ⟨w.heap.size, 1, none⟩ = some (.int .i64 x.a) := by rw [g0]; exact Ac (Ac (Wc rfl rfl) _) _
 have d2 : w3.cell? ⟨w.heap.size, 2, none⟩ = some (.int .i64 x.b) := by rw [g0]; exact Ac (Ac (Wc rfl rfl) _) _
 have d3 : w3.cell? ⟨w.heap.size, 3, none⟩ = some (.int .i64 x.c) := by rw [g0]; exact Ac (Ac (Wc rfl rfl) _) _
 have d4 : w3.cell? ⟨w.heap.size, 4, none⟩ = some (.int .i64 x.d) := by rw [g0]; exact Ac (Ac (Wc rfl rfl) _) _
 have q0 : w3.heap.size = w.heap.size + 1 + 1 + 1 := by rw [g0]; simp
 rw [← g0] at o1 o2 h0
 have y0 := Lib.hid q0
 have o0 := Lib.hid g0
 have hz3' : w.heap.size + 3 ≤ w3.heap.size := by omega
 clear g0 q0
 have k0 := Lc d0
 go_enter Try.func135, Try.ntmps135
 go_upto_region 3 with (fail)
 rw [← o0.out]
 clear o0 w0
 go_wp2_with fail
 refine (l12Kind_any x.op _ hop).mono ?_
 rintro e w4 ⟨rfl, hb⟩
 have c1 := hb.size
 replace o1 := Ob o1 hb; replace o2 := Ob o2 hb; replace h0 := btr h0 hb
 replace d0 := Kc hb d0; replace d1 := Kc hb d1; replace d2 := Kc hb d2; replace d3 := Kc hb d3; replace d4 := Kc hb d4
 clear hb
 have k0 := Lc d0
 obtain ⟨S, hS⟩ : ∃ S : ByteArray, S = ⟨(knl x.op).toArray⟩ := ⟨_, rfl⟩
 rw [← hS]
 have HZ : Hid (S.size = (knl x.op).length) := Lib.hid (by rw [hS]; simp [ByteArray.size])
 have HG : Hid (∀ (k : Nat) (h : k < (knl x.op).length) (h' : k < S.size), S[k]'h' = (knl x.op)[k]) := Lib.hid (by subst hS; exact str_get _)
 clear hS
 go_wp2_with fail
 refine (l6Parts_any x _).mono ?_
 rintro e w5 ⟨gp, rfl, hp, hb⟩
 have e1 := hb.size
 replace o1 := Ob o1 hb; replace o2 := Ob o2 hb; replace h0 := btr h0 hb
 have b1 := hp.lt gp rfl
 clear hb d0 d1 d2 d3 d4 k0
 have HI := Lib.hid hin
 have HL := Lib.hid (And.intro (knl_len x.op) (And.intro (zk_len x) (knl_kinds x.op)))
 have HP := Lib.hid hop
 clear hin hop
 go_wp2_with fail
 go_loopw [8] (fun t wr => ∃ k : Nat, k ≤ (knl x.op).length ∧ t = .int .i64 k ∧ wr.ownsRow (w.heap.size + 1) 4 1 (.slice (some ⟨w.heap.size + 1, 0, none⟩) 14 14) 14 (bools (tab (rdK x k))) ∧ wr.ownsRow (w.heap.size + 1 + 1) 4 1 (.slice (some ⟨w.heap.size + 1 + 1, 0, none⟩) 14 14) 14 (bools (tab (wrK x k))) ∧ Chg (fun q => q = w.heap.size + 1 ∨ q = w.heap.size + 1 + 1) w5 wr) (fun t _ => (knl x.op).length - (intOf t).toNat)
 case atStart => exact ⟨0, Nat.zero_le _, rfl, by rw [show tab (rdK x 0) = tab (fun _ => false) from tab_congr (fun q _ => by simp [rdK])]; exact o1, by rw [show tab (wrK x 0) = tab (fun _ => false) from tab_congr (fun q _ => by simp [wrK])]; exact o2, Chg.refl _ _⟩
 case round =>
  obtain ⟨k, hk, rfl, h1, h2, hC⟩ := hrel
  have f1 := hC.size
  clear o1 o2
  have z0 : k ≤ 4 := by have := HL.out.1; omega
  by_cases hlt : k < (knl x.op).length
  ·have x0 := Ow hp hC (fun q hq h => by have e : gp = q := Option.some.inj hq; omega)
   have p0 : k < (flds x).length := by have := HL.out.1; simp [flds]; omega
   have c0 := x0.cellAt k (by have := HL.out.1; omega)
   rw [List.getElem?_eq_getElem (by rw [ints_length]; exact p0), ints_get] at c0
   have hk4' : k < 4 := by have := HL.out.1; omega
   have l0 : k < (zk x).length := by rw [HL.out.2.1]; exact hlt
   have j0 := zk_get x k l0 hlt p0
   have hr := fun q => zk_succ x (fun p => (p.1 == 49 || p.1 == 51) && p.2 == (Nat.cast q : Int)) k l0
   have hw := fun q => zk_succ x (fun p => (p.1 == 50 || p.1 == 51) && p.2 == (Nat.cast q : Int)) k l0
   have b0 := HI.out _ (List.getElem_mem l0)
   have hS : ∀ h', S[k]'h' = (knl x.op)[k] := HG.out k hlt
   have a1 : k < S.size := by rw [HZ.out]; exact hlt
   have m0 : (k : Int) < (S.size : Int) := by omega
   have u0 : decide (S.size ≤ k) = false := decide_eq_false (by omega)
   have v0 : ¬ ((S.size : Int) ≤ (k : Int)) := by omega
   have t0 := HL.out.2.2 _ (List.getElem_mem hlt)
   rw [j0] at hr hw b0
   generalize (knl x.op)[k] = kd at *
   generalize (flds x)[k] = fd at *
   simp only at hr hw b0
   clear j0 hp
   rcases t0 with rfl | rfl | rfl | rfl
   ·replace h1 := (show tab (rdK x k) = tab (rdK x (k + 1)) from tab_congr (fun q hq => by unfold rdK; rw [hr q]; simp)) ▸ h1
    replace h2 := (show tab (wrK x k) = tab (wrK x (k + 1)) from tab_congr (fun q hq => by unfold wrK; rw [hw q]; simp)) ▸ h2
    clear hr hw b0
    go_wp2
    go_roundw
    case rel => exact ⟨k + 1, by omega, by go_num, h1, h2, hC⟩
    case measure => simp [intOf]; omega
   ·obtain ⟨nf, rfl⟩ : ∃ nf : Nat, fd = (nf : Int) := ⟨fd.toNat, by have := b0 (by decide); omega⟩
    have a0 : nf < 14 := by have := b0 (by decide); omega
    have e0 := own_tab_at h1 nf a0
    have r0 := h1.frozenAt nf
    replace h1 := own_tab_set h1 nf true (G := rdK x (k + 1)) (fun q hq => by
     unfold rdK; rw [hr q]
     by_cases e : q = nf
     ·subst e; simp
     rw [if_neg e]; have e2 : ((nf : Int) == (q : Int)) = false := by simp; omega
     simp only [e2]; simp)
    replace h2 := Oe h2 (w.heap.size + 1) nf (fun h => by have e : w.heap.size + 1 + 1 = w.heap.size + 1 := Option.some.inj h; omega) (.bool true)
    have i0 := Nc (b := w.heap.size + 1) (j := nf) c0 (by omega) (.bool true)
    replace hC := hC.setCell (w.heap.size + 1) nf (.bool true) (fun _ => Or.inl rfl)
    generalize rdK x k nf = y1 at e0
    replace h2 := (show tab (wrK x k) = tab (wrK x (k + 1)) from tab_congr (fun q hq => by unfold wrK; rw [hw q]; simp)) ▸ h2
    clear hr hw b0
    go_wp2
    go_roundw
    case rel => exact ⟨k + 1, by omega, by go_num, h1, h2, hC⟩
    case measure => simp [intOf]; omega
   ·obtain ⟨nf, rfl⟩ : ∃ nf : Nat, fd = (nf : Int) := ⟨fd.toNat, by have := b0 (by decide); omega⟩
    have a0 : nf < 14 := by have := b0 (by decide); omega
    replace h1 := (show tab (rdK x k) = tab (rdK x (k + 1)) from tab_congr (fun q hq => by unfold rdK; rw [hr q]; simp)) ▸ h1
    have f0 := own_tab_at h2 nf a0
    have s0 := h2.frozenAt nf
    replace h2 := own_tab_set h2 nf true (G := wrK x (k + 1)) (fun q hq => by
     unfold wrK; rw [hw q]
     by_cases e : q = nf
     ·subst e; simp
     rw [if_neg e]; have e2 : ((nf : Int) == (q : Int)) = false := by simp; omega
     simp only [e2]; simp)
    replace h1 := Oe h1 (w.heap.size + 1 + 1) nf (fun h => by have e : w.heap.size + 1 = w.heap.size + 1 + 1 := Option.some.inj h; omega) (.bool true)
    replace hC := hC.setCell (w.heap.size + 1 + 1) nf (.bool true) (fun _ => Or.inr rfl)
    generalize wrK x k nf = y2 at f0
    clear hr hw b0
    go_wp2
    go_roundw
    case rel => exact ⟨k + 1, by omega, by go_num, h1, h2, hC⟩
    case measure => simp [intOf]; omega
   obtain ⟨nf, rfl⟩ : ∃ nf : Nat, fd = (nf : Int) := ⟨fd.toNat, by have := b0 (by decide); omega⟩
   have a0 : nf < 14 := by have := b0 (by decide); omega
   have e0 := own_tab_at h1 nf a0
   have r0 := h1.frozenAt nf
   replace h1 := own_tab_set h1 nf true (G := rdK x (k + 1)) (fun q hq => by
    unfold rdK; rw [hr q]
    by_cases e : q = nf
    ·subst e; simp
    rw [if_neg e]; have e2 : ((nf : Int) == (q : Int)) = false := by simp; omega
    simp only [e2]; simp)
   replace h2 := Oe h2 (w.heap.size + 1) nf (fun h => by have e : w.heap.size + 1 + 1 = w.heap.size + 1 := Option.some.inj h; omega) (.bool true)
   have i0 := Nc (b := w.heap.size + 1) (j := nf) c0 (by omega) (.bool true)
   replace hC := hC.setCell (w.heap.size + 1) nf (.bool true) (fun _ => Or.inl rfl)
   generalize rdK x k nf = y1 at e0
   have f0 := own_tab_at h2 nf a0
   have s0 := h2.frozenAt nf
   replace h2 := own_tab_set h2 nf true (G := wrK x (k + 1)) (fun q hq => by
    unfold wrK; rw [hw q]
    by_cases e : q = nf
    ·subst e; simp
    rw [if_neg e]; have e2 : ((nf : Int) == (q : Int)) = false := by simp; omega
    simp only [e2]; simp)
   replace h1 := Oe h1 (w.heap.size + 1 + 1) nf (fun h => by have e : w.heap.size + 1 = w.heap.size + 1 + 1 := Option.some.inj h; omega) (.bool true)
   replace hC := hC.setCell (w.heap.size + 1 + 1) nf (.bool true) (fun _ => Or.inr rfl)
   generalize wrK x k nf = y2 at f0
   clear hr hw b0
   go_wp2
   go_roundw
   case rel => exact ⟨k + 1, by omega, by go_num, h1, h2, hC⟩
   case measure => simp [intOf]; omega
  have e : k = (knl x.op).length := by omega
  subst e
  have m0 : ¬ (((knl x.op).length : Int) < (S.size : Int)) := by rw [HZ.out]; omega
  rw [n0.out.1] at h1
  rw [n0.out.2] at h2
  go_wp2
  exact bodyPost_ret (v := .tuple #[.slice (some ⟨w.heap.size + 1, 0, none⟩) 14 14, .slice (some ⟨w.heap.size + 1 + 1, 0, none⟩) 14 14]) (by simp [results, Try.results135, go_sem]) rfl (by exact ⟨_, _, rfl, Om h1 (by omega), Om h2 (by omega), by omega, h0.trans (hC.below w.heap.size h0.size (fun q hq h => by omega))⟩)
theorem l12Before_any (x : Ins) (v : Value) (A : Nat → Bool) (w : World) (hop : ¬ (x.op < 1 ∨ 13 < x.op)) (hin : ∀ p ∈ zk x, p.1 ≠ 48 → 0 ≤ p.2 ∧ p.2 < 14) (hv : Reads w 1 v 14 (bools (tab A))) :
  Calls Try.prog 86 #[.agg #[.int .i64 x.op, .int .i64 x.a, .int .i64 x.b, .int .i64 x.c, .int .i64 x.d], v] w fun e w' => ∃ g c, e = .returned (.slice (some ⟨g, 0, none⟩) 14 c) ∧ w'.ownsRow w.heap.size 4 1 (.slice (some ⟨g, 0, none⟩) 14 c) 14 (bools (tab (befF x A))) ∧ Below w.heap.size w w' := by
 have d0 := bal (Bs w) (.cells #[.int .i64 x.op, .int .i64 x.a, .int .i64 x.b, .int .i64 x.c, .int .i64 x.d] 32)
 obtain ⟨_, _, a, cp, b, j0, rfl, h0, ha, e0⟩ := hv
 obtain ⟨rfl, l0⟩ := ha (by omega)
 have f0 : ∀ r, r < 14 → w.cell? ⟨b, j0 + r, none⟩ = some (.bool (A r)) := fun r hr => by
  have h := e0 r (by rw [bools_length, tab_len]; exact hr)
  rw [bools_get, tab_get] at h
  exact h
 have HE := Lib.hid f0
 clear f0 e0 ha
 go_enter Try.func86, Try.ntmps86
 go_wp2_with fail
 refine (l12Regs_any x _ hop hin).mono ?_
 rintro e w1 ⟨g1, g2, rfl, o1, o2, k0, hb⟩
 have i1 := o1.lt g1 rfl
 have i2 := o2.lt g2 rfl
 simp only [Sa] at i1 i2
 have hB := btr d0 hb
 clear hb d0
 have b0 := own_lit w1 #[] 0 4 rfl (by omega)
 go_wp2_with fail
 go_loopw [7, 8] (fun o t wr => ∃ r : Nat, r ≤ 14 ∧ t = .int .i64 r ∧ ∃ g c, o = .slice (some ⟨g, 0, none⟩) r c ∧ wr.ownsRow w1.heap.size 4 1 (.slice (some ⟨g, 0, none⟩) r c) r (bools ((List.range r).map (befF x A))) ∧ Below w1.heap.size w1 wr) (fun _ t _ => 14 - (intOf t).toNat)
 case atStart => exact ⟨0, Nat.zero_le _, rfl, _, _, rfl, by simpa [bools] using b0, bal (Bs w1) _⟩
 case round =>
  obtain ⟨r, hr, rfl, g, cc, rfl, ho, a0⟩ := hrel
  have i0 := a0.size
  have m0 := ho.lt g rfl
  by_cases hlr : r < 14
  ·have c1 := Kc a0 (own_tab_at o1 r hlr)
   have c2 := Kc a0 (own_tab_at o2 r hlr)
   have c3 := Kc (btr hB a0) (HE.out r hlr)
   have hF : Hid (((use x).any (fun u => u == (r : Int)) || (A r && !(wrt x == (r : Int)))) = befF x A r) := Lib.hid rfl
   have hS : Hid (∀ bb : Bool, bb = befF x A r → bools ((List.range r).map (befF x A)) ++ [.bool bb] = bools ((List.range (r + 1)).map (befF x A))) := Lib.hid (fun bb e => by subst e; rw [List.range_succ, List.map_append]; simp [bools])
   generalize ((use x).any (fun u => u == (r : Int))) = y1 at *
   generalize (wrt x == (r : Int)) = y2 at *
   generalize A r = y3 at *
   clear o1 o2 b0 HE
   have k1 := Lc c1
   cases y1 <;> cases y3 <;> cases y2
   all_goals
    (go_wp2_with (at_builtin; refine wpList_ap tBools rfl _ _ rfl w1.heap.size _ r _ rfl ho [.bool _] rfl rfl (by intro u hu; simp at hu; subst hu; rfl) (by omega) (by omega) ?_))
    intro g' c' wx ho' hc' hg'
    have g0 := a0.trans (hc'.below w1.heap.size i0 (fun q hq h => by have e : g = q := Option.some.inj h; omega))
    have c0 := hF.out
    simp only [Bool.true_or, Bool.false_or, Bool.true_and, Bool.false_and, Bool.not_true, Bool.not_false] at c0
    rw [hS.out _ c0] at ho'
    clear c0 hF hS ho hc' hg' a0
    go_wp2
    go_roundw
    case rel => exact ⟨r + 1, by omega, by go_num, _, _, rfl, ho', g0⟩
    case measure => simp [intOf]; omega
  have e : r = 14 := by omega
  subst e
  go_wp2
  go_ret
  exact ⟨_, _, rfl, Om ho (by have := hB.size; omega), btr hB a0⟩
end Go.Proofs.Ytkjedgnepnbkpaa
