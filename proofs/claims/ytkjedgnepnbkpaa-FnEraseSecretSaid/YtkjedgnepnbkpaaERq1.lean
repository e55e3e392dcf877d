/-
 Parts of the proofs of the laws FnCheckLive, FnCodeFenced, FnEraseCode, FnEraseSecret, FnFinalRegs, FnLiveRegister, FnLiveRegs, FnSpecPath.
-/
import Derived.Test.YtkjedgnepnbkpaaER
import Derived.Test.YtkjedgnepnbkpaaOY
set_option maxHeartbeats 12800000
set_option maxRecDepth 100000
set_option linter.all false
namespace Go.Proofs.Ytkjedgnepnbkpaa
open Go.RowKit
def eraseIns (n : Int) (x : Ins) : Ins := if (x.op == 13) = true then ⟨8, n, 0, 0, 0⟩ else x
def eraseTail (k : Nat) : List Ins := (List.range k).map (fun r : Nat => (⟨1, (r : Int), 0, 0, 0⟩ : Ins))
theorem eraseTail_len (k : Nat) : (eraseTail k).length = k := by simp [eraseTail]
theorem eraseTail_succ (k : Nat) : eraseTail (k + 1) = eraseTail k ++ [⟨1, (k : Int), 0, 0, 0⟩] := by simp [eraseTail, List.range_succ]
def eraseL (l : List Ins) : List Ins := (l.map (eraseIns l.length) ++ eraseTail 14) ++ [⟨13, 0, 0, 0, 0⟩]
theorem eraseL_len (l : List Ins) : (eraseL l).length = l.length + 15 := by simp [eraseL, eraseTail_len]
def eraseR (c : Cd) : Cd × Bool := if codeOk c = true ∧ c.list.length ≤ 385 then (⟨c.vars, c.arrays, eraseL c.list⟩, true) else (noCode, false)
theorem eraseR_no {c : Cd} (h : ¬ (codeOk c = true ∧ c.list.length ≤ 385)) : eraseR c = (noCode, false) := by unfold eraseR; rw [if_neg h]
theorem eraseR_yes {c : Cd} (h : codeOk c = true ∧ c.list.length ≤ 385) : eraseR c = (⟨c.vars, c.arrays, eraseL c.list⟩, true) := by unfold eraseR; rw [if_pos h]
theorem map_next {f : Ins → Ins} (l : List Ins) (k : Nat) (h : k < l.length) (x : Ins) (hx : x = f l[k]) : ((l.take k).map f ++ l.drop k).set k x = (l.take (k + 1)).map f ++ l.drop (k + 1) := by
 subst hx
 rw [set_dropped _ l _ k (by simp; omega) h, List.take_succ_eq_append_getElem h, List.map_append]
 rfl
theorem map_same {f : Ins → Ins} (l : List Ins) (k : Nat) (h : k < l.length) (hx : f l[k] = l[k]) : (l.take k).map f ++ l.drop k = (l.take (k + 1)).map f ++ l.drop (k + 1) := by
 rw [List.take_succ_eq_append_getElem h, List.map_append, List.drop_eq_getElem_cons h]
 simp [hx]
theorem map_get {f : Ins → Ins} (l : List Ins) (k : Nat) (h : k < l.length) (h2 : k < ((l.take k).map f ++ l.drop k).length) : ((l.take k).map f ++ l.drop k)[k]'h2 = l[k] := by
 rw [List.getElem_append_right (by simp; omega)]
 simp [Nat.min_eq_left (Nat.le_of_lt h)]
theorem iErase_any (va vb vc : Value) (c : Cd) (w : World) (hr : ReadsC w va vb vc c) :
  Calls Try.prog 37 #[.agg #[va, vb, vc]] w fun e w' => ∃ ua ub uc, e = .returned (.tuple #[.agg #[ua, ub, uc], .bool (eraseR c).2]) ∧ OwnC w' w.heap.size ua ub uc (eraseR c).1 ∧ Below w.heap.size w w' := by
 obtain ⟨a0, c0, a1, c1, a2, c2, rfl, rfl, rfl⟩ := hr.shape
 have p3 := fun h => eraseR_no (c := c) h
 have q3 := fun h => eraseR_yes (c := c) h
 generalize eraseR c = R at *
 have n3 := Lib.hid p3
 have z3 := Lib.hid q3
 clear p3 q3
 have z4 := hr.lt
 go_enter Try.func37, Try.ntmps37
 go_wp2_with fail
 refine (iCodeValid_any _ _ _ c _ ((hr.below (bal (Bs _) (.cells #[.slice a0 c.vars.length c0, .slice a1 c.arrays.length c1, .slice a2 c.list.length c2] 26))).below (bal (Bs _) (.cells #[.slice none 0 0, .slice none 0 0, .slice none 0 0] 26)))).mono ?_
 rintro e w1 ⟨rfl, hb⟩
 have s2 := hb.size
 simp only [Sa] at s2
 replace hr := ((hr.below (bal (Bs _) _)).below (bal (Bs _) _)).below hb
 have h1 : w1.cell? ⟨w.heap.size, 0, none⟩ = some (.slice a0 c.vars.length c0) := Kc hb (Ac (Wc (by simp) (by rfl)) _)
 have i1 : w1.cell? ⟨w.heap.size, 1, none⟩ = some (.slice a1 c.arrays.length c1) := Kc hb (Ac (Wc (by simp) (by rfl)) _)
 have b1 : w1.cell? ⟨w.heap.size, 2, none⟩ = some (.slice a2 c.list.length c2) := Kc hb (Ac (Wc (by simp) (by rfl)) _)
 have h0 : w1.cell? ⟨w.heap.size + 1, 0, none⟩ = some (.slice none 0 0) := Kc hb (Wc (by simp) (by rfl))
 have q1 : w1.frozen? ⟨w.heap.size + 1, 0, none⟩ = false := Kf hb (by simp) (Fn (by simp))
 have i0 : w1.cell? ⟨w.heap.size + 1, 1, none⟩ = some (.slice none 0 0) := Kc hb (Wc (by simp) (by rfl))
 have s1 : w1.frozen? ⟨w.heap.size + 1, 1, none⟩ = false := Kf hb (by simp) (Fn (by simp))
 have j0 : w1.cell? ⟨w.heap.size + 1, 2, none⟩ = some (.slice none 0 0) := Kc hb (Wc (by simp) (by rfl))
 have e0 : w1.frozen? ⟨w.heap.size + 1, 2, none⟩ = false := Kf hb (by simp) (Fn (by simp))
 have j1 := btr (bal (bal (Bs w) (.cells #[.slice a0 c.vars.length c0, .slice a1 c.arrays.length c1, .slice a2 c.list.length c2] 26)) (.cells #[.slice none 0 0, .slice none 0 0, .slice none 0 0] 26)) hb
 clear hb
 have a3 := Lc h1
 have b3 := Lc i1
 have e3 := Lc b1
 have h3 := Lc h0
 have i3 := Lc i0
 have j3 := Lc j0
 cases hok : codeOk c
 ·have HO := Lib.hid hok; clear hok hr
  have hR := n3.out (fun h => by have h2 := HO.out; rw [h.1] at h2; cases h2)
  have HR := Lib.hid hR; clear hR
  have x0 := (Nc (b := (w.heap.size + 1)) (j := 2) (Nc (b := (w.heap.size + 1)) (j := 1) (Tc _ (w.heap.size + 1) 0 (.slice none 0 0) h0) (by omega) (.slice none 0 0)) (by omega) (.slice none 0 0))
  have x1 := (Nc (b := (w.heap.size + 1)) (j := 2) (Tc _ (w.heap.size + 1) 1 (.slice none 0 0) (Nc (b := (w.heap.size + 1)) (j := 0) i0 (by omega) (.slice none 0 0))) (by omega) (.slice none 0 0))
  have x2 := (Tc _ (w.heap.size + 1) 2 (.slice none 0 0) (Nc (b := (w.heap.size + 1)) (j := 1) (Nc (b := (w.heap.size + 1)) (j := 0) j0 (by omega) (.slice none 0 0)) (by omega) (.slice none 0 0)))
  have tt := (bst (bst (bst j1 (w.heap.size + 1) 0 (by omega) (.slice none 0 0)) (w.heap.size + 1) 1 (by omega) (.slice none 0 0)) (w.heap.size + 1) 2 (by omega) (.slice none 0 0))
  go_wp2
  exact bodyPost_ret (v := .tuple #[.agg #[.slice none 0 0, .slice none 0 0, .slice none 0 0], .bool false]) (by simp [results, Try.results37, go_sem, x0, x1, x2]) rfl (by rw [HR.out]; exact ⟨_, _, _, rfl, noCode_own _ _, tt⟩)
 have HO := Lib.hid hok; clear hok
 have q2 := codeOk_len HO.out
 have h4 := declOk_len (codeOk_decl HO.out)
 obtain ⟨l1, l2⟩ := q2
 obtain ⟨l3, l4⟩ := h4
 go_wp2_with fail
 refine (own_any _ _ _ c _ hr (by omega) (by omega) (by omega)).mono ?_
 rintro e w2 ⟨u0, u1, u2, rfl, oc, hb⟩
 have y3 := hb.size
 replace q1 := Kf hb (Lc h0) q1
 replace s1 := Kf hb (Lc i0) s1
 replace e0 := Kf hb (Lc j0) e0
 replace hr := hr.below hb
 replace h1 := Kc hb h1
 replace i1 := Kc hb i1
 replace b1 := Kc hb b1
 replace h0 := Kc hb h0
 replace i0 := Kc hb i0
 replace j0 := Kc hb j0
 replace j1 := btr j1 hb
 clear hb
 have b2 := oc.lt
 obtain ⟨g2, t2, k4⟩ := own_pos oc.l (by omega)
 obtain ⟨p0, t0, o4⟩ := Oh oc.a
 obtain ⟨p1, t1, p4⟩ := Oh oc.b
 subst k4 o4 p4
 have z2 := oc.lt
 go_wp2
 obtain ⟨w3, v3, hb⟩ := nmw (World.alloc w2 (.cells #[.slice p0 c.vars.length t0, .slice p1 c.arrays.length t1, .slice (some ⟨g2, 0, none⟩) c.list.length t2] 26))
 have n2 := hb.size
 simp only [Sa] at n2
 replace q1 := Kf hb (Lc (Ac h0 _)) (Fa (Lc h0) q1 _)
 replace s1 := Kf hb (Lc (Ac i0 _)) (Fa (Lc i0) s1 _)
 replace e0 := Kf hb (Lc (Ac j0 _)) (Fa (Lc j0) e0 _)
 replace hr := (hr.below (bal (Bs _) _)).below hb
 replace h1 := Kc hb (Ac h1 _)
 replace i1 := Kc hb (Ac i1 _)
 replace b1 := Kc hb (Ac b1 _)
 replace h0 := Kc hb (Ac h0 _)
 replace i0 := Kc hb (Ac i0 _)
 replace j0 := Kc hb (Ac j0 _)
 replace oc := (oc.below (bal (Bs _) _)).below hb
 have w0 : w3.cell? ⟨w2.heap.size, 0, none⟩ = some (.slice p0 c.vars.length t0) := Kc hb (Wc (by simp) (by rfl))
 have v1 : w3.frozen? ⟨w2.heap.size, 0, none⟩ = false := Kf hb (by simp) (Fn (by simp))
 have z0 : w3.cell? ⟨w2.heap.size, 1, none⟩ = some (.slice p1 c.arrays.length t1) := Kc hb (Wc (by simp) (by rfl))
 have z1 : w3.frozen? ⟨w2.heap.size, 1, none⟩ = false := Kf hb (by simp) (Fn (by simp))
 have q0 : w3.cell? ⟨w2.heap.size, 2, none⟩ = some (.slice (some ⟨g2, 0, none⟩) c.list.length t2) := Kc hb (Wc (by simp) (by rfl))
 have o1 : w3.frozen? ⟨w2.heap.size, 2, none⟩ = false := Kf hb (by simp) (Fn (by simp))
 replace j1 := btr (bal j1 _) hb
 clear hb
 rw [← v3]
 clear v3
 have m4 := z2 _ (Or.inr (Or.inr rfl))
 try simp only [Sa] at m4
 have s3 := own_diff oc.a oc.l (by decide)
 have t3 := own_diff oc.b oc.l (by decide)
 replace a3 := Lc h1
 replace b3 := Lc i1
 replace e3 := Lc b1
 replace h3 := Lc h0
 replace i3 := Lc i0
 replace j3 := Lc j0
 have r4 := Lc w0
 have s4 := Lc z0
 have t4 := Lc q0
 clear hr
 go_loopw [17] (fun i wr => ∃ k : Nat, k ≤ c.list.length ∧ i = .int .i64 k ∧ wr.ownsRow w1.heap.size 32 5 (.slice (some ⟨g2, 0, none⟩) c.list.length t2) c.list.length (inss ((c.list.take k).map (eraseIns c.list.length) ++ c.list.drop k)) ∧ Chg (fun q => q = g2) w3 wr) (fun i _ => c.list.length - (intOf i).toNat)
 case atStart => exact ⟨0, Nat.zero_le _, rfl, by simpa using oc.l, Chg.refl _ _⟩
 case round =>
  obtain ⟨k, hk, rfl, ho, hC⟩ := hrel
  have x4 := hC.size
  have n0 := Gc hC b1 (by omega)
  have n1 := Gc hC q0 (by omega)
  have k0 := Lc n0
  have k1 := Lc n1
  by_cases hlt : k < c.list.length
  ·have o0 : k < ((c.list.take k).map (eraseIns c.list.length) ++ c.list.drop k).length := by simp; omega
   obtain ⟨x, HX, d0, d1, d2, d3, d4⟩ : ∃ x : Ins, Hid (x = c.list[k]) ∧ wr.cell? ⟨g2, k * 5, none⟩ = some (.int .i64 x.op) ∧ wr.cell? ⟨g2, k * 5 + 1, none⟩ = some (.int .i64 x.a) ∧ wr.cell? ⟨g2, k * 5 + 2, none⟩ = some (.int .i64 x.b) ∧ wr.cell? ⟨g2, k * 5 + 3, none⟩ = some (.int .i64 x.c) ∧ wr.cell? ⟨g2, k * 5 + 4, none⟩ = some (.int .i64 x.d) := ⟨c.list[k], Lib.hid rfl, by rw [← map_get (f := eraseIns c.list.length) c.list k hlt o0]; exact own_row insc_len ho k o0 0 (by omega), by rw [← map_get (f := eraseIns c.list.length) c.list k hlt o0]; exact own_row insc_len ho k o0 1 (by omega), by rw [← map_get (f := eraseIns c.list.length) c.list k hlt o0]; exact own_row insc_len ho k o0 2 (by omega), by rw [← map_get (f := eraseIns c.list.length) c.list k hlt o0]; exact own_row insc_len ho k o0 3 (by omega), by rw [← map_get (f := eraseIns c.list.length) c.list k hlt o0]; exact own_row insc_len ho k o0 4 (by omega)⟩
   have kg := Lc d0
   have f0 : wr.frozen? ⟨g2, k * 5, none⟩ = false := ho.frozenAt _
   have f1 : wr.frozen? ⟨g2, k * 5 + 1, none⟩ = false := ho.frozenAt _
   have f2 : wr.frozen? ⟨g2, k * 5 + 2, none⟩ = false := ho.frozenAt _
   have f3 : wr.frozen? ⟨g2, k * 5 + 3, none⟩ = false := ho.frozenAt _
   have f4 : wr.frozen? ⟨g2, k * 5 + 4, none⟩ = false := ho.frozenAt _
   by_cases h13 : (x.op == 13) = true
   ·have HN : Hid ((c.list.take k).map (eraseIns c.list.length) ++ c.list.drop k = (c.list.take k).map (eraseIns c.list.length) ++ c.list.drop k) := Lib.hid rfl
    have k2 := own_set5 ho k o0 (⟨8, c.list.length, 0, 0, 0⟩ : Ins)
    rw [map_next c.list k hlt _ (by unfold eraseIns; rw [← HX.out, if_pos h13])] at k2
    clear k2
    go_upto_region 8 with (fail)
    obtain ⟨w5, v2⟩ : ∃ X, X = World.alloc wr (.cells #[.int .i64 x.op, .int .i64 x.a, .int .i64 x.b, .int .i64 x.c, .int .i64 x.d] 32) := ⟨_, rfl⟩
    rw [← v2]
    have g0 : Below wr.heap.size wr w5 := by rw [v2]; exact bal (Bs wr) _
    clear v2
    replace d0 := Kc g0 d0; replace f0 := Kf g0 kg f0
    replace d1 := Kc g0 d1; replace f1 := Kf g0 kg f1
    replace d2 := Kc g0 d2; replace f2 := Kf g0 kg f2
    replace d3 := Kc g0 d3; replace f3 := Kf g0 kg f3
    replace d4 := Kc g0 d4; replace f4 := Kf g0 kg f4
    replace n0 := Kc g0 n0; replace n1 := Kc g0 n1; replace k0 := Lc n0; replace k1 := Lc n1
    have k2 := own_set5 (Ob ho g0) k o0 (⟨8, c.list.length, 0, 0, 0⟩ : Ins)
    rw [map_next c.list k hlt _ (by unfold eraseIns; rw [← HX.out, if_pos h13])] at k2
    have v0 := hC.trans (Chg.of_below (S := fun q => q = g2) g0)
    clear g0
    have l0 := (((((v0.setCell g2 (k * 5) (.int .i64 (8)) (fun _ => rfl)).setCell g2 (k * 5 + 1) (.int .i64 ((c.list.length : Int))) (fun _ => rfl)).setCell g2 (k * 5 + 2) (.int .i64 (0)) (fun _ => rfl)).setCell g2 (k * 5 + 3) (.int .i64 (0)) (fun _ => rfl)).setCell g2 (k * 5 + 4) (.int .i64 (0)) (fun _ => rfl))
    clear ho hC v0 HN HX
    go_wp2
    go_roundw
    case rel => exact ⟨k + 1, by omega, by go_num, k2, l0⟩
    case measure => simp [intOf]; omega
   have h13' : (x.op == 13) = false := by simpa using h13
   have u3 := map_same (f := eraseIns c.list.length) c.list k hlt (by unfold eraseIns; rw [← HX.out, if_neg h13])
   have a4 := Lib.hid u3; clear u3 h13
   have x3 := Ob ho (bal (Bs wr) (.cells #[.int .i64 x.op, .int .i64 x.a, .int .i64 x.b, .int .i64 x.c, .int .i64 x.d] 32))
   have v0 := hC.trans (Chg.of_below (S := fun q => q = g2) (bal (Bs wr) (.cells #[.int .i64 x.op, .int .i64 x.a, .int .i64 x.b, .int .i64 x.c, .int .i64 x.d] 32)))
   rw [a4.out] at x3
   clear ho hC HX
   go_wp2
   go_roundw
   case rel => exact ⟨k + 1, by omega, by go_num, x3, v0⟩
   case measure => simp [intOf]; omega
  have e : k = c.list.length := by omega
  subst e
  rw [List.take_length, List.drop_length, List.append_nil] at ho
  have oa := Ow oc.a hC (fun q h h2 => s3 q h (by rw [h2]; rfl))
  have ob := Ow oc.b hC (fun q h h2 => t3 q h (by rw [h2]; rfl))
  replace h1 := Gc hC h1 (by omega)
  replace i1 := Gc hC i1 (by omega)
  replace b1 := Gc hC b1 (by omega)
  replace h0 := Gc hC h0 (by omega)
  replace q1 := Gf hC (by omega) q1 (by omega)
  replace i0 := Gc hC i0 (by omega)
  replace s1 := Gf hC (by omega) s1 (by omega)
  replace j0 := Gc hC j0 (by omega)
  replace e0 := Gf hC (by omega) e0 (by omega)
  replace w0 := Gc hC w0 (by omega)
  replace v1 := Gf hC (by omega) v1 (by omega)
  replace z0 := Gc hC z0 (by omega)
  replace z1 := Gf hC (by omega) z1 (by omega)
  replace q0 := Gc hC q0 (by omega)
  replace o1 := Gf hC (by omega) o1 (by omega)
  have e1 := j1.trans (hC.below w.heap.size j1.size (fun q hq h => by omega))
  have b4 := oc.ab
  have ia := oc.a.lt
  have ib := oc.b.lt
  obtain ⟨w4, rfl⟩ : ∃ X, X = wr := ⟨_, rfl⟩
  generalize hM : c.list.map (eraseIns c.list.length) = M at *
  have r3 : M.length = c.list.length := by rw [← hM, List.length_map]
  have HM := Lib.hid hM; have u4 := Lib.hid r3; clear hM r3 oc hC j1
  go_wp2
  go_loopw [34] (fun i wr => ∃ (k : Nat) (g3 c3 : Nat), k ≤ 14 ∧ i = .int .i64 k ∧ wr.cell? ⟨w2.heap.size, 2, none⟩ = some (.slice (some ⟨g3, 0, none⟩) (c.list.length + k) c3) ∧ wr.frozen? ⟨w2.heap.size, 2, none⟩ = false ∧ wr.cell? ⟨w2.heap.size, 0, none⟩ = some (.slice p0 c.vars.length t0) ∧ wr.cell? ⟨w2.heap.size, 1, none⟩ = some (.slice p1 c.arrays.length t1) ∧
    wr.ownsRow w1.heap.size 32 5 (.slice (some ⟨g3, 0, none⟩) (c.list.length + k) c3) (c.list.length + k) (inss (M ++ eraseTail k)) ∧ Chg (fun q => q = w2.heap.size ∨ q = g2) w4 wr ∧ (g3 = g2 ∨ w4.heap.size ≤ g3)) (fun i _ => 14 - (intOf i).toNat)
  case atStart => exact ⟨0, g2, t2, by omega, rfl, q0, o1, w0, z0, by simpa [eraseTail] using ho, Chg.refl _ _, Or.inl rfl⟩
  case round =>
   obtain ⟨k, g3, c3, hk, rfl, m2, fm, m0, m1, i2, hC, v4⟩ := hrel
   have y4 := hC.size
   have kb := Lc m2
   have n4 := i2.lt _ rfl
   by_cases hlt : k < 14
   ·clear ho
    go_wp2_with (at_builtin; refine wpList_ap tInstrs rfl _ _ rfl w1.heap.size _ (c.list.length + k) _ rfl i2 [.int .i64 (1), .int .i64 ((k : Int)), .int .i64 (0), .int .i64 (0), .int .i64 (0)] rfl rfl (one_insc ⟨1, (k : Int), 0, 0, 0⟩) (by omega) (by omega) ?_)
    intro g4 c4 wy j2 b0 e2
    have q4 := b0.size
    have e4 : ∀ q, (Value.slice (some ⟨g3, 0, none⟩) (c.list.length + k) c3).ownBlock = some q → q = g3 := fun q h => (Option.some.inj h).symm
    have j4 : g4 = g3 ∨ wr.heap.size ≤ g4 := e2.elim (fun h => Or.inl (e4 _ h)) Or.inr
    have m2b := Gc b0 m2 (fun h => by have := e4 _ h; omega)
    have o2 := Gf b0 kb fm (fun h => by have := e4 _ h; omega)
    have m0b := Nc (b := w2.heap.size) (j := 2) (Gc b0 m0 (fun h => by have := e4 _ h; omega)) (by omega) (.slice (some ⟨g4, 0, none⟩) (c.list.length + k + 1) c4)
    have m1b := Nc (b := w2.heap.size) (j := 2) (Gc b0 m1 (fun h => by have := e4 _ h; omega)) (by omega) (.slice (some ⟨g4, 0, none⟩) (c.list.length + k + 1) c4)
    have m2c := Tc wy (w2.heap.size) 2 (.slice (some ⟨g4, 0, none⟩) (c.list.length + k + 1) c4) m2b
    have o3 := Fs (b := ⟨w2.heap.size, 2, none⟩) o2 (.slice (some ⟨g4, 0, none⟩) (c.list.length + k + 1) c4)
    have s0 := Oe j2 (w2.heap.size) 2 (fun h => by have : g4 = w2.heap.size := Option.some.inj h; omega) (.slice (some ⟨g4, 0, none⟩) (c.list.length + k + 1) c4)
    rw [show inss (M ++ eraseTail k) ++ [Value.int .i64 (1), Value.int .i64 ((k : Int)), Value.int .i64 (0), Value.int .i64 (0), Value.int .i64 (0)] = inss (M ++ eraseTail (k + 1)) from by rw [eraseTail_succ, ← List.append_assoc]; exact (rows_append insc (M ++ eraseTail k) [⟨1, (k : Int), 0, 0, 0⟩]).symm] at s0
    have v0 : Chg (fun q => q = w2.heap.size ∨ q = g2) w4 wy := ⟨b0.os.trans hC.os, b0.tape.trans hC.tape, b0.output.trans hC.output, by omega, fun q hq hn => (b0.block q (by omega) (fun h => by have := e4 _ h; omega)).trans (hC.block q hq hn)⟩
    have l0 := v0.setCell (w2.heap.size) 2 (.slice (some ⟨g4, 0, none⟩) (c.list.length + k + 1) c4) (fun _ => Or.inl rfl)
    have k5 := Lc m2b
    clear i2 j2 b0 e2 e4 hC v0 m0 m1 m2
    go_wp2
    go_roundw
    case rel => exact ⟨k + 1, g4, c4, by omega, by go_num, m2c, o3, m0b, m1b, s0, l0, by omega⟩
    case measure => simp [intOf]; omega
   have e : k = 14 := by omega
   subst e
   clear ho
   go_wp2_with (at_builtin; refine wpList_ap tInstrs rfl _ _ rfl w1.heap.size _ (c.list.length + 14) _ rfl i2 [.int .i64 (13), .int .i64 (0), .int .i64 (0), .int .i64 (0), .int .i64 (0)] rfl rfl (one_insc ⟨13, 0, 0, 0, 0⟩) (by omega) (by omega) ?_)
   intro g4 c4 wy j2 b0 e2
   have q4 := b0.size
   have e4 : ∀ q, (Value.slice (some ⟨g3, 0, none⟩) (c.list.length + 14) c3).ownBlock = some q → q = g3 := fun q h => (Option.some.inj h).symm
   have j4 : g4 = g3 ∨ wr.heap.size ≤ g4 := e2.elim (fun h => Or.inl (e4 _ h)) Or.inr
   have m2b := Gc b0 m2 (fun h => by have := e4 _ h; omega)
   have o2 := Gf b0 kb fm (fun h => by have := e4 _ h; omega)
   have m0b := Nc (b := w2.heap.size) (j := 2) (Gc b0 m0 (fun h => by have := e4 _ h; omega)) (by omega) (.slice (some ⟨g4, 0, none⟩) (c.list.length + 14 + 1) c4)
   have m1b := Nc (b := w2.heap.size) (j := 2) (Gc b0 m1 (fun h => by have := e4 _ h; omega)) (by omega) (.slice (some ⟨g4, 0, none⟩) (c.list.length + 14 + 1) c4)
   have m2c := Tc wy (w2.heap.size) 2 (.slice (some ⟨g4, 0, none⟩) (c.list.length + 14 + 1) c4) m2b
   have o3 := Fs (b := ⟨w2.heap.size, 2, none⟩) o2 (.slice (some ⟨g4, 0, none⟩) (c.list.length + 14 + 1) c4)
   have s0 := Oe j2 (w2.heap.size) 2 (fun h => by have : g4 = w2.heap.size := Option.some.inj h; omega) (.slice (some ⟨g4, 0, none⟩) (c.list.length + 14 + 1) c4)
   rw [show inss (M ++ eraseTail 14) ++ [Value.int .i64 (13), Value.int .i64 (0), Value.int .i64 (0), Value.int .i64 (0), Value.int .i64 (0)] = inss ((M ++ eraseTail 14) ++ [⟨13, 0, 0, 0, 0⟩]) from by exact (rows_append insc (M ++ eraseTail 14) [⟨13, 0, 0, 0, 0⟩]).symm] at s0
   rw [← HM.out] at s0
   have v0 : Chg (fun q => q = w2.heap.size ∨ q = g2) w4 wy := ⟨b0.os.trans hC.os, b0.tape.trans hC.tape, b0.output.trans hC.output, by omega, fun q hq hn => (b0.block q (by omega) (fun h => by have := e4 _ h; omega)).trans (hC.block q hq hn)⟩
   have l0 := v0.setCell (w2.heap.size) 2 (.slice (some ⟨g4, 0, none⟩) (c.list.length + 14 + 1) c4) (fun _ => Or.inl rfl)
   have k5 := Lc m2b
   have r0 := Gc l0 h0 (by omega)
   have a5 := Gf l0 (by omega) q1 (by omega)
   have r1 := Gc l0 i0 (by omega)
   have b5 := Gf l0 (by omega) s1 (by omega)
   have r2 := Gc l0 j0 (by omega)
   have c5 := Gf l0 (by omega) e0 (by omega)
   have k6 := Lc r0
   simp only [Ss] at k6
   have g1 := e1.trans (l0.below w.heap.size e1.size (fun q hq h => by omega))
   have k3 := Ow oa l0 (fun q h h2 => h2.elim (fun h2 => by have := b2 q (Or.inl h); omega) (fun h2 => s3 q h (by rw [h2]; rfl)))
   have m3 := Ow ob l0 (fun q h h2 => h2.elim (fun h2 => by have := b2 q (Or.inr (Or.inl h)); omega) (fun h2 => t3 q h (by rw [h2]; rfl)))
   clear i2 j2 b0 e2 hC v0 m0 m1 m2 e4
   by_cases h385 : c.list.length ≤ 385
   ·have hR := z3.out ⟨HO.out, h385⟩
    have HR := Lib.hid hR; clear hR
    have p2 : ¬ (400 : Int) < ((c.list.length : Int) + 14 + 1) := by omega
    have x0 := (Nc (b := (w.heap.size + 1)) (j := 2) (Nc (b := (w.heap.size + 1)) (j := 1) (Tc _ (w.heap.size + 1) 0 (.slice p0 c.vars.length t0) r0) (by omega) (.slice p1 c.arrays.length t1)) (by omega) (.slice (some ⟨g4, 0, none⟩) (c.list.length + 14 + 1) c4))
    have x1 := (Nc (b := (w.heap.size + 1)) (j := 2) (Tc _ (w.heap.size + 1) 1 (.slice p1 c.arrays.length t1) (Nc (b := (w.heap.size + 1)) (j := 0) r1 (by omega) (.slice p0 c.vars.length t0))) (by omega) (.slice (some ⟨g4, 0, none⟩) (c.list.length + 14 + 1) c4))
    have x2 := (Tc _ (w.heap.size + 1) 2 (.slice (some ⟨g4, 0, none⟩) (c.list.length + 14 + 1) c4) (Nc (b := (w.heap.size + 1)) (j := 1) (Nc (b := (w.heap.size + 1)) (j := 0) r2 (by omega) (.slice p0 c.vars.length t0)) (by omega) (.slice p1 c.arrays.length t1)))
    have y0 := (Oe (Oe (Oe k3 (w.heap.size + 1) 0 (fun h => by have := ia _ h; omega) (.slice p0 c.vars.length t0)) (w.heap.size + 1) 1 (fun h => by have := ia _ h; omega) (.slice p1 c.arrays.length t1)) (w.heap.size + 1) 2 (fun h => by have := ia _ h; omega) (.slice (some ⟨g4, 0, none⟩) (c.list.length + 14 + 1) c4))
    have y1 := (Oe (Oe (Oe m3 (w.heap.size + 1) 0 (fun h => by have := ib _ h; omega) (.slice p0 c.vars.length t0)) (w.heap.size + 1) 1 (fun h => by have := ib _ h; omega) (.slice p1 c.arrays.length t1)) (w.heap.size + 1) 2 (fun h => by have := ib _ h; omega) (.slice (some ⟨g4, 0, none⟩) (c.list.length + 14 + 1) c4))
    have y2 := (Oe (Oe (Oe s0 (w.heap.size + 1) 0 (fun h => by have := s0.lt _ h; omega) (.slice p0 c.vars.length t0)) (w.heap.size + 1) 1 (fun h => by have := s0.lt _ h; omega) (.slice p1 c.arrays.length t1)) (w.heap.size + 1) 2 (fun h => by have := s0.lt _ h; omega) (.slice (some ⟨g4, 0, none⟩) (c.list.length + 14 + 1) c4))
    have tt := (bst (bst (bst g1 (w.heap.size + 1) 0 (by omega) (.slice p0 c.vars.length t0)) (w.heap.size + 1) 1 (by omega) (.slice p1 c.arrays.length t1)) (w.heap.size + 1) 2 (by omega) (.slice (some ⟨g4, 0, none⟩) (c.list.length + 14 + 1) c4))
    have i4 := eraseL_len c.list
    clear k3 m3 s0 g1 e1
    go_wp2
    exact bodyPost_ret (v := .tuple #[.agg #[.slice p0 c.vars.length t0, .slice p1 c.arrays.length t1, .slice (some ⟨g4, 0, none⟩) (c.list.length + 14 + 1) c4], .bool true]) (by simp [results, Try.results37, go_sem, x0, x1, x2]) rfl (by rw [HR.out]; exact ⟨_, _, _, rfl, ⟨Om y0 (by omega), Om y1 (by omega), by show World.ownsRow _ _ _ _ _ (eraseL c.list).length (inss (eraseL c.list)); rw [i4]; exact Om y2 (by omega), b4⟩, tt⟩)
   have hR := n3.out (fun h => h385 h.2)
   have HR := Lib.hid hR; clear hR
   have p2 : (400 : Int) < ((c.list.length : Int) + 14 + 1) := by omega
   have x0 := (Nc (b := (w.heap.size + 1)) (j := 2) (Nc (b := (w.heap.size + 1)) (j := 1) (Tc _ (w.heap.size + 1) 0 (.slice none 0 0) r0) (by omega) (.slice none 0 0)) (by omega) (.slice none 0 0))
   have x1 := (Nc (b := (w.heap.size + 1)) (j := 2) (Tc _ (w.heap.size + 1) 1 (.slice none 0 0) (Nc (b := (w.heap.size + 1)) (j := 0) r1 (by omega) (.slice none 0 0))) (by omega) (.slice none 0 0))
   have x2 := (Tc _ (w.heap.size + 1) 2 (.slice none 0 0) (Nc (b := (w.heap.size + 1)) (j := 1) (Nc (b := (w.heap.size + 1)) (j := 0) r2 (by omega) (.slice none 0 0)) (by omega) (.slice none 0 0)))
   have tt := (bst (bst (bst g1 (w.heap.size + 1) 0 (by omega) (.slice none 0 0)) (w.heap.size + 1) 1 (by omega) (.slice none 0 0)) (w.heap.size + 1) 2 (by omega) (.slice none 0 0))
   clear k3 m3 s0 g1 e1 h385
   go_wp2
   exact bodyPost_ret (v := .tuple #[.agg #[.slice none 0 0, .slice none 0 0, .slice none 0 0], .bool false]) (by simp [results, Try.results37, go_sem, x0, x1, x2]) rfl (by rw [HR.out]; exact ⟨_, _, _, rfl, noCode_own _ _, tt⟩)
theorem sErase_any (va vb vc : Value) (c : Cd) (w : World) (hr : ReadsC w va vb vc c) :
  Calls Try.prog 38 #[.agg #[va, vb, vc]] w fun e w' => ∃ ua ub uc, e = .returned (.tuple #[.agg #[ua, ub, uc], .bool (eraseR c).2]) ∧ OwnC w' w.heap.size ua ub uc (eraseR c).1 ∧ Below w.heap.size w w' := by
 obtain ⟨a0, c0, a1, c1, a2, c2, rfl, rfl, rfl⟩ := hr.shape
 have e3 := fun h => eraseR_no (c := c) h
 have h3 := fun h => eraseR_yes (c := c) h
 generalize eraseR c = R at *
 have a3 := Lib.hid e3
 have s3 := Lib.hid h3
 clear e3 h3
 have n4 := hr.lt
 go_enter Try.func38, Try.ntmps38
 go_wp2_with fail
 refine (sCodeValid_any _ _ _ c _ ((hr.below (bal (Bs _) (.cells #[.slice a0 c.vars.length c0, .slice a1 c.arrays.length c1, .slice a2 c.list.length c2] 26))).below (bal (Bs _) (.cells #[.slice none 0 0, .slice none 0 0, .slice none 0 0] 26)))).mono ?_
 rintro e w1 ⟨rfl, hb⟩
 have q2 := hb.size
 simp only [Sa] at q2
 replace hr := ((hr.below (bal (Bs _) _)).below (bal (Bs _) _)).below hb
 have q1 : w1.cell? ⟨w.heap.size, 0, none⟩ = some (.slice a0 c.vars.length c0) := Kc hb (Ac (Wc (by simp) (by rfl)) _)
 have s1 : w1.cell? ⟨w.heap.size, 1, none⟩ = some (.slice a1 c.arrays.length c1) := Kc hb (Ac (Wc (by simp) (by rfl)) _)
 have g1 : w1.cell? ⟨w.heap.size, 2, none⟩ = some (.slice a2 c.list.length c2) := Kc hb (Ac (Wc (by simp) (by rfl)) _)
 have i0 : w1.cell? ⟨w.heap.size + 1, 0, none⟩ = some (.slice none 0 0) := Kc hb (Wc (by simp) (by rfl))
 have j1 : w1.frozen? ⟨w.heap.size + 1, 0, none⟩ = false := Kf hb (by simp) (Fn (by simp))
 have j0 : w1.cell? ⟨w.heap.size + 1, 1, none⟩ = some (.slice none 0 0) := Kc hb (Wc (by simp) (by rfl))
 have o1 : w1.frozen? ⟨w.heap.size + 1, 1, none⟩ = false := Kf hb (by simp) (Fn (by simp))
 have l0 : w1.cell? ⟨w.heap.size + 1, 2, none⟩ = some (.slice none 0 0) := Kc hb (Wc (by simp) (by rfl))
 have g0 : w1.frozen? ⟨w.heap.size + 1, 2, none⟩ = false := Kf hb (by simp) (Fn (by simp))
 have h1 := btr (bal (bal (Bs w) (.cells #[.slice a0 c.vars.length c0, .slice a1 c.arrays.length c1, .slice a2 c.list.length c2] 26)) (.cells #[.slice none 0 0, .slice none 0 0, .slice none 0 0] 26)) hb
 clear hb
 have o4 := Lc q1
 have p4 := Lc s1
 have q4 := Lc g1
 have r4 := Lc i0
 have s4 := Lc j0
 have t4 := Lc l0
 cases hok : codeOk c
 ·have HO := Lib.hid hok; clear hok hr
  have hR := a3.out (fun h => by have h2 := HO.out; rw [h.1] at h2; cases h2)
  have HR := Lib.hid hR; clear hR
  have x0 := (Nc (b := (w.heap.size + 1)) (j := 2) (Nc (b := (w.heap.size + 1)) (j := 1) (Tc _ (w.heap.size + 1) 0 (.slice none 0 0) i0) (by omega) (.slice none 0 0)) (by omega) (.slice none 0 0))
  have x1 := (Nc (b := (w.heap.size + 1)) (j := 2) (Tc _ (w.heap.size + 1) 1 (.slice none 0 0) (Nc (b := (w.heap.size + 1)) (j := 0) j0 (by omega) (.slice none 0 0))) (by omega) (.slice none 0 0))
  have x2 := (Tc _ (w.heap.size + 1) 2 (.slice none 0 0) (Nc (b := (w.heap.size + 1)) (j := 1) (Nc (b := (w.heap.size + 1)) (j := 0) l0 (by omega) (.slice none 0 0)) (by omega) (.slice none 0 0)))
  have tt := (bst (bst (bst h1 (w.heap.size + 1) 0 (by omega) (.slice none 0 0)) (w.heap.size + 1) 1 (by omega) (.slice none 0 0)) (w.heap.size + 1) 2 (by omega) (.slice none 0 0))
  go_wp2
  exact bodyPost_ret (v := .tuple #[.agg #[.slice none 0 0, .slice none 0 0, .slice none 0 0], .bool false]) (by simp [results, Try.results38, go_sem, x0, x1, x2]) rfl (by rw [HR.out]; exact ⟨_, _, _, rfl, noCode_own _ _, tt⟩)
 have HO := Lib.hid hok; clear hok
 have p2 := codeOk_len HO.out
 have x3 := declOk_len (codeOk_decl HO.out)
 obtain ⟨l1, l2⟩ := p2
 obtain ⟨l3, l4⟩ := x3
 go_wp2_with fail
 refine (l8Copy_any _ _ _ c _ hr (by omega) (by omega) (by omega)).mono ?_
 rintro e w2 ⟨u0, u1, u2, rfl, oc, hb⟩
 have r3 := hb.size
 replace j1 := Kf hb (Lc i0) j1
 replace o1 := Kf hb (Lc j0) o1
 replace g0 := Kf hb (Lc l0) g0
 replace hr := hr.below hb
 replace q1 := Kc hb q1
 replace s1 := Kc hb s1
 replace g1 := Kc hb g1
 replace i0 := Kc hb i0
 replace j0 := Kc hb j0
 replace l0 := Kc hb l0
 replace h1 := btr h1 hb
 clear hb
 have b2 := oc.lt
 obtain ⟨g2, t2, a4⟩ := own_pos oc.l (by omega)
 obtain ⟨p0, t0, i4⟩ := Oh oc.a
 obtain ⟨p1, t1, j4⟩ := Oh oc.b
 subst a4 i4 j4
 have s2 := oc.lt
 go_wp2
 obtain ⟨w3, o3, hb⟩ := nmw (World.alloc w2 (.cells #[.slice p0 c.vars.length t0, .slice p1 c.arrays.length t1, .slice (some ⟨g2, 0, none⟩) c.list.length t2] 26))
 have k2 := hb.size
 simp only [Sa] at k2
 replace j1 := Kf hb (Lc (Ac i0 _)) (Fa (Lc i0) j1 _)
 replace o1 := Kf hb (Lc (Ac j0 _)) (Fa (Lc j0) o1 _)
 replace g0 := Kf hb (Lc (Ac l0 _)) (Fa (Lc l0) g0 _)
 replace hr := (hr.below (bal (Bs _) _)).below hb
 replace q1 := Kc hb (Ac q1 _)
 replace s1 := Kc hb (Ac s1 _)
 replace g1 := Kc hb (Ac g1 _)
 replace i0 := Kc hb (Ac i0 _)
 replace j0 := Kc hb (Ac j0 _)
 replace l0 := Kc hb (Ac l0 _)
 replace oc := (oc.below (bal (Bs _) _)).below hb
 have w0 : w3.cell? ⟨w2.heap.size, 0, none⟩ = some (.slice p0 c.vars.length t0) := Kc hb (Wc (by simp) (by rfl))
 have v1 : w3.frozen? ⟨w2.heap.size, 0, none⟩ = false := Kf hb (by simp) (Fn (by simp))
 have z0 : w3.cell? ⟨w2.heap.size, 1, none⟩ = some (.slice p1 c.arrays.length t1) := Kc hb (Wc (by simp) (by rfl))
 have z1 : w3.frozen? ⟨w2.heap.size, 1, none⟩ = false := Kf hb (by simp) (Fn (by simp))
 have o0 : w3.cell? ⟨w2.heap.size, 2, none⟩ = some (.slice (some ⟨g2, 0, none⟩) c.list.length t2) := Kc hb (Wc (by simp) (by rfl))
 have i1 : w3.frozen? ⟨w2.heap.size, 2, none⟩ = false := Kf hb (by simp) (Fn (by simp))
 replace h1 := btr (bal h1 _) hb
 clear hb
 rw [← o3]
 clear o3
 have b4 := s2 _ (Or.inr (Or.inr rfl))
 try simp only [Sa] at b4
 have j3 := own_diff oc.a oc.l (by decide)
 have k3 := own_diff oc.b oc.l (by decide)
 have u4 := Lc w0
 have v4 := Lc z0
 have x4 := Lc o0
 have k4 := hr.l
 obtain ⟨_, hn, aa, a5, b, y4, hv, v3, ha, m3⟩ := k4
 simp only [Value.slice.injEq, true_and] at hv
 obtain ⟨rfl, rfl⟩ := hv
 obtain ⟨rfl, c5⟩ := ha (by omega)
 have HC := Lib.hid (reads_Instr m3)
 have b5 : ¬ b = g2 := fun e => by have := n4 b (Or.inr (Or.inr ⟨y4, c2, by omega, rfl⟩)); omega
 clear m3 ha
 clear hr
 go_loopw [6] (fun i wr => ∃ k : Nat, k ≤ c.list.length ∧ i = .int .i64 k ∧ wr.ownsRow w1.heap.size 32 5 (.slice (some ⟨g2, 0, none⟩) c.list.length t2) c.list.length (inss ((c.list.take k).map (eraseIns c.list.length) ++ c.list.drop k)) ∧ Chg (fun q => q = g2) w3 wr) (fun i _ => c.list.length - (intOf i).toNat)
 case atStart => exact ⟨0, Nat.zero_le _, rfl, by simpa using oc.l, Chg.refl _ _⟩
 case round =>
  obtain ⟨k, hk, rfl, ho, hC⟩ := hrel
  have e5 := hC.size
  have n0 := Gc hC g1 (by omega)
  have n1 := Gc hC o0 (by omega)
  have k0 := Lc n0
  have k1 := Lc n1
  by_cases hlt : k < c.list.length
  ·have q0 : k < ((c.list.take k).map (eraseIns c.list.length) ++ c.list.drop k).length := by simp; omega
   obtain ⟨x, HX, d0, d1, d2, d3, d4⟩ : ∃ x : Ins, Hid (x = c.list[k]) ∧ wr.cell? ⟨g2, k * 5, none⟩ = some (.int .i64 x.op) ∧ wr.cell? ⟨g2, k * 5 + 1, none⟩ = some (.int .i64 x.a) ∧ wr.cell? ⟨g2, k * 5 + 2, none⟩ = some (.int .i64 x.b) ∧ wr.cell? ⟨g2, k * 5 + 3, none⟩ = some (.int .i64 x.c) ∧ wr.cell? ⟨g2, k * 5 + 4, none⟩ = some (.int .i64 x.d) := ⟨c.list[k], Lib.hid rfl, by rw [← map_get (f := eraseIns c.list.length) c.list k hlt q0]; exact own_row insc_len ho k q0 0 (by omega), by rw [← map_get (f := eraseIns c.list.length) c.list k hlt q0]; exact own_row insc_len ho k q0 1 (by omega), by rw [← map_get (f := eraseIns c.list.length) c.list k hlt q0]; exact own_row insc_len ho k q0 2 (by omega), by rw [← map_get (f := eraseIns c.list.length) c.list k hlt q0]; exact own_row insc_len ho k q0 3 (by omega), by rw [← map_get (f := eraseIns c.list.length) c.list k hlt q0]; exact own_row insc_len ho k q0 4 (by omega)⟩
   have kg := Lc d0
   have f0 : wr.frozen? ⟨g2, k * 5, none⟩ = false := ho.frozenAt _
   have f1 : wr.frozen? ⟨g2, k * 5 + 1, none⟩ = false := ho.frozenAt _
   have f2 : wr.frozen? ⟨g2, k * 5 + 2, none⟩ = false := ho.frozenAt _
   have f3 : wr.frozen? ⟨g2, k * 5 + 3, none⟩ = false := ho.frozenAt _
   have f4 : wr.frozen? ⟨g2, k * 5 + 4, none⟩ = false := ho.frozenAt _
   obtain ⟨e0, _⟩ := HC.out k hlt
   have e0 := Gc hC e0 (by omega)
   rw [← HX.out] at e0
   clear HC
   by_cases h13 : (x.op == 13) = true
   ·have HN : Hid ((c.list.take k).map (eraseIns c.list.length) ++ c.list.drop k = (c.list.take k).map (eraseIns c.list.length) ++ c.list.drop k) := Lib.hid rfl
    have q3 := own_set5 ho k q0 (⟨8, c.list.length, 0, 0, 0⟩ : Ins)
    rw [map_next c.list k hlt _ (by unfold eraseIns; rw [← HX.out, if_pos h13])] at q3
    have v0 := hC
    have h0 := (((((v0.setCell g2 (k * 5) (.int .i64 (8)) (fun _ => rfl)).setCell g2 (k * 5 + 1) (.int .i64 ((c.list.length : Int))) (fun _ => rfl)).setCell g2 (k * 5 + 2) (.int .i64 (0)) (fun _ => rfl)).setCell g2 (k * 5 + 3) (.int .i64 (0)) (fun _ => rfl)).setCell g2 (k * 5 + 4) (.int .i64 (0)) (fun _ => rfl))
    clear ho hC v0 HN HX
    go_wp2
    go_roundw
    case rel => exact ⟨k + 1, by omega, by go_num, q3, h0⟩
    case measure => simp [intOf]; omega
   have h13' : (x.op == 13) = false := by simpa using h13
   have n3 := map_same (f := eraseIns c.list.length) c.list k hlt (by unfold eraseIns; rw [← HX.out, if_neg h13])
   have t3 := Lib.hid n3; clear n3 h13
   have p3 := ho
   have v0 := hC
   rw [t3.out] at p3
   clear ho hC HX
   go_wp2
   go_roundw
   case rel => exact ⟨k + 1, by omega, by go_num, p3, v0⟩
   case measure => simp [intOf]; omega
  have e : k = c.list.length := by omega
  subst e
  rw [List.take_length, List.drop_length, List.append_nil] at ho
  have oa := Ow oc.a hC (fun q h h2 => j3 q h (by rw [h2]; rfl))
  have ob := Ow oc.b hC (fun q h h2 => k3 q h (by rw [h2]; rfl))
  replace q1 := Gc hC q1 (by omega)
  replace s1 := Gc hC s1 (by omega)
  replace g1 := Gc hC g1 (by omega)
  replace i0 := Gc hC i0 (by omega)
  replace j1 := Gf hC (by omega) j1 (by omega)
  replace j0 := Gc hC j0 (by omega)
  replace o1 := Gf hC (by omega) o1 (by omega)
  replace l0 := Gc hC l0 (by omega)
  replace g0 := Gf hC (by omega) g0 (by omega)
  replace w0 := Gc hC w0 (by omega)
  replace v1 := Gf hC (by omega) v1 (by omega)
  replace z0 := Gc hC z0 (by omega)
  replace z1 := Gf hC (by omega) z1 (by omega)
  replace o0 := Gc hC o0 (by omega)
  replace i1 := Gf hC (by omega) i1 (by omega)
  have b1 := h1.trans (hC.below w.heap.size h1.size (fun q hq h => by omega))
  have u3 := oc.ab
  have ia := oc.a.lt
  have ib := oc.b.lt
  obtain ⟨w4, rfl⟩ : ∃ X, X = wr := ⟨_, rfl⟩
  generalize hM : c.list.map (eraseIns c.list.length) = M at *
  have i3 : M.length = c.list.length := by rw [← hM, List.length_map]
  have HM := Lib.hid hM; have z4 := Lib.hid i3; clear hM i3 oc hC h1 HC
  go_wp2
  go_loopw [7] (fun i wr => ∃ (k : Nat) (g3 c3 : Nat), k ≤ 14 ∧ i = .int .i64 k ∧ wr.cell? ⟨w2.heap.size, 2, none⟩ = some (.slice (some ⟨g3, 0, none⟩) (c.list.length + k) c3) ∧ wr.frozen? ⟨w2.heap.size, 2, none⟩ = false ∧ wr.cell? ⟨w2.heap.size, 0, none⟩ = some (.slice p0 c.vars.length t0) ∧ wr.cell? ⟨w2.heap.size, 1, none⟩ = some (.slice p1 c.arrays.length t1) ∧
    wr.ownsRow w1.heap.size 32 5 (.slice (some ⟨g3, 0, none⟩) (c.list.length + k) c3) (c.list.length + k) (inss (M ++ eraseTail k)) ∧ Chg (fun q => q = w2.heap.size ∨ q = g2) w4 wr ∧ (g3 = g2 ∨ w4.heap.size ≤ g3)) (fun i _ => 14 - (intOf i).toNat)
  case atStart => exact ⟨0, g2, t2, by omega, rfl, o0, i1, w0, z0, by simpa [eraseTail] using ho, Chg.refl _ _, Or.inl rfl⟩
  case round =>
   obtain ⟨k, g3, c3, hk, rfl, m2, fm, m0, m1, i2, hC, d5⟩ := hrel
   have f5 := hC.size
   have kb := Lc m2
   have h4 := i2.lt _ rfl
   by_cases hlt : k < 14
   ·clear ho
    go_wp2_with (at_builtin; refine wpList_ap tInstrs rfl _ _ rfl w1.heap.size _ (c.list.length + k) _ rfl i2 [.int .i64 (1), .int .i64 ((k : Int)), .int .i64 (0), .int .i64 (0), .int .i64 (0)] rfl rfl (one_insc ⟨1, (k : Int), 0, 0, 0⟩) (by omega) (by omega) ?_)
    intro g4 c4 wy j2 b0 e2
    have m4 := b0.size
    have e4 : ∀ q, (Value.slice (some ⟨g3, 0, none⟩) (c.list.length + k) c3).ownBlock = some q → q = g3 := fun q h => (Option.some.inj h).symm
    have z3 : g4 = g3 ∨ wr.heap.size ≤ g4 := e2.elim (fun h => Or.inl (e4 _ h)) Or.inr
    have m2b := Gc b0 m2 (fun h => by have := e4 _ h; omega)
    have n2 := Gf b0 kb fm (fun h => by have := e4 _ h; omega)
    have m0b := Nc (b := w2.heap.size) (j := 2) (Gc b0 m0 (fun h => by have := e4 _ h; omega)) (by omega) (.slice (some ⟨g4, 0, none⟩) (c.list.length + k + 1) c4)
    have m1b := Nc (b := w2.heap.size) (j := 2) (Gc b0 m1 (fun h => by have := e4 _ h; omega)) (by omega) (.slice (some ⟨g4, 0, none⟩) (c.list.length + k + 1) c4)
    have m2c := Tc wy (w2.heap.size) 2 (.slice (some ⟨g4, 0, none⟩) (c.list.length + k + 1) c4) m2b
    have b3 := Fs (b := ⟨w2.heap.size, 2, none⟩) n2 (.slice (some ⟨g4, 0, none⟩) (c.list.length + k + 1) c4)
    have s0 := Oe j2 (w2.heap.size) 2 (fun h => by have : g4 = w2.heap.size := Option.some.inj h; omega) (.slice (some ⟨g4, 0, none⟩) (c.list.length + k + 1) c4)
    rw [show inss (M ++ eraseTail k) ++ [Value.int .i64 (1), Value.int .i64 ((k : Int)), Value.int .i64 (0), Value.int .i64 (0), Value.int .i64 (0)] = inss (M ++ eraseTail (k + 1)) from by rw [eraseTail_succ, ← List.append_assoc]; exact (rows_append insc (M ++ eraseTail k) [⟨1, (k : Int), 0, 0, 0⟩]).symm] at s0
    have v0 : Chg (fun q => q = w2.heap.size ∨ q = g2) w4 wy := ⟨b0.os.trans hC.os, b0.tape.trans hC.tape, b0.output.trans hC.output, by omega, fun q hq hn => (b0.block q (by omega) (fun h => by have := e4 _ h; omega)).trans (hC.block q hq hn)⟩
    have h0 := v0.setCell (w2.heap.size) 2 (.slice (some ⟨g4, 0, none⟩) (c.list.length + k + 1) c4) (fun _ => Or.inl rfl)
    have k5 := Lc m2b
    clear i2 j2 b0 e2 e4 hC v0 m0 m1 m2
    go_wp2
    go_roundw
    case rel => exact ⟨k + 1, g4, c4, by omega, by go_num, m2c, b3, m0b, m1b, s0, h0, by omega⟩
    case measure => simp [intOf]; omega
   have e : k = 14 := by omega
   subst e
   clear ho
   go_wp2_with (at_builtin; refine wpList_ap tInstrs rfl _ _ rfl w1.heap.size _ (c.list.length + 14) _ rfl i2 [.int .i64 (13), .int .i64 (0), .int .i64 (0), .int .i64 (0), .int .i64 (0)] rfl rfl (one_insc ⟨13, 0, 0, 0, 0⟩) (by omega) (by omega) ?_)
   intro g4 c4 wy j2 b0 e2
   have m4 := b0.size
   have e4 : ∀ q, (Value.slice (some ⟨g3, 0, none⟩) (c.list.length + 14) c3).ownBlock = some q → q = g3 := fun q h => (Option.some.inj h).symm
   have z3 : g4 = g3 ∨ wr.heap.size ≤ g4 := e2.elim (fun h => Or.inl (e4 _ h)) Or.inr
   have m2b := Gc b0 m2 (fun h => by have := e4 _ h; omega)
   have n2 := Gf b0 kb fm (fun h => by have := e4 _ h; omega)
   have m0b := Nc (b := w2.heap.size) (j := 2) (Gc b0 m0 (fun h => by have := e4 _ h; omega)) (by omega) (.slice (some ⟨g4, 0, none⟩) (c.list.length + 14 + 1) c4)
   have m1b := Nc (b := w2.heap.size) (j := 2) (Gc b0 m1 (fun h => by have := e4 _ h; omega)) (by omega) (.slice (some ⟨g4, 0, none⟩) (c.list.length + 14 + 1) c4)
   have m2c := Tc wy (w2.heap.size) 2 (.slice (some ⟨g4, 0, none⟩) (c.list.length + 14 + 1) c4) m2b
   have b3 := Fs (b := ⟨w2.heap.size, 2, none⟩) n2 (.slice (some ⟨g4, 0, none⟩) (c.list.length + 14 + 1) c4)
   have s0 := Oe j2 (w2.heap.size) 2 (fun h => by have : g4 = w2.heap.size := Option.some.inj h; omega) (.slice (some ⟨g4, 0, none⟩) (c.list.length + 14 + 1) c4)
   rw [show inss (M ++ eraseTail 14) ++ [Value.int .i64 (13), Value.int .i64 (0), Value.int .i64 (0), Value.int .i64 (0), Value.int .i64 (0)] = inss ((M ++ eraseTail 14) ++ [⟨13, 0, 0, 0, 0⟩]) from by exact (rows_append insc (M ++ eraseTail 14) [⟨13, 0, 0, 0, 0⟩]).symm] at s0
   rw [← HM.out] at s0
   have v0 : Chg (fun q => q = w2.heap.size ∨ q = g2) w4 wy := ⟨b0.os.trans hC.os, b0.tape.trans hC.tape, b0.output.trans hC.output, by omega, fun q hq hn => (b0.block q (by omega) (fun h => by have := e4 _ h; omega)).trans (hC.block q hq hn)⟩
   have h0 := v0.setCell (w2.heap.size) 2 (.slice (some ⟨g4, 0, none⟩) (c.list.length + 14 + 1) c4) (fun _ => Or.inl rfl)
   have k5 := Lc m2b
   have r0 := Gc h0 i0 (by omega)
   have g5 := Gf h0 (by omega) j1 (by omega)
   have r1 := Gc h0 j0 (by omega)
   have h5 := Gf h0 (by omega) o1 (by omega)
   have r2 := Gc h0 l0 (by omega)
   have i5 := Gf h0 (by omega) g0 (by omega)
   have k6 := Lc r0
   simp only [Ss] at k6
   have e1 := b1.trans (h0.below w.heap.size b1.size (fun q hq h => by omega))
   have v2 := Ow oa h0 (fun q h h2 => h2.elim (fun h2 => by have := b2 q (Or.inl h); omega) (fun h2 => j3 q h (by rw [h2]; rfl)))
   have z2 := Ow ob h0 (fun q h h2 => h2.elim (fun h2 => by have := b2 q (Or.inr (Or.inl h)); omega) (fun h2 => k3 q h (by rw [h2]; rfl)))
   clear i2 j2 b0 e2 hC v0 m0 m1 m2 e4
   by_cases h385 : c.list.length ≤ 385
   ·have hR := s3.out ⟨HO.out, h385⟩
    have HR := Lib.hid hR; clear hR
    have o2 : ¬ (400 : Int) < ((c.list.length : Int) + 14 + 1) := by omega
    have x0 := (Nc (b := (w.heap.size + 1)) (j := 2) (Nc (b := (w.heap.size + 1)) (j := 1) (Tc _ (w.heap.size + 1) 0 (.slice p0 c.vars.length t0) r0) (by omega) (.slice p1 c.arrays.length t1)) (by omega) (.slice (some ⟨g4, 0, none⟩) (c.list.length + 14 + 1) c4))
    have x1 := (Nc (b := (w.heap.size + 1)) (j := 2) (Tc _ (w.heap.size + 1) 1 (.slice p1 c.arrays.length t1) (Nc (b := (w.heap.size + 1)) (j := 0) r1 (by omega) (.slice p0 c.vars.length t0))) (by omega) (.slice (some ⟨g4, 0, none⟩) (c.list.length + 14 + 1) c4))
    have x2 := (Tc _ (w.heap.size + 1) 2 (.slice (some ⟨g4, 0, none⟩) (c.list.length + 14 + 1) c4) (Nc (b := (w.heap.size + 1)) (j := 1) (Nc (b := (w.heap.size + 1)) (j := 0) r2 (by omega) (.slice p0 c.vars.length t0)) (by omega) (.slice p1 c.arrays.length t1)))
    have y0 := (Oe (Oe (Oe v2 (w.heap.size + 1) 0 (fun h => by have := ia _ h; omega) (.slice p0 c.vars.length t0)) (w.heap.size + 1) 1 (fun h => by have := ia _ h; omega) (.slice p1 c.arrays.length t1)) (w.heap.size + 1) 2 (fun h => by have := ia _ h; omega) (.slice (some ⟨g4, 0, none⟩) (c.list.length + 14 + 1) c4))
    have y1 := (Oe (Oe (Oe z2 (w.heap.size + 1) 0 (fun h => by have := ib _ h; omega) (.slice p0 c.vars.length t0)) (w.heap.size + 1) 1 (fun h => by have := ib _ h; omega) (.slice p1 c.arrays.length t1)) (w.heap.size + 1) 2 (fun h => by have := ib _ h; omega) (.slice (some ⟨g4, 0, none⟩) (c.list.length + 14 + 1) c4))
    have y2 := (Oe (Oe (Oe s0 (w.heap.size + 1) 0 (fun h => by have := s0.lt _ h; omega) (.slice p0 c.vars.length t0)) (w.heap.size + 1) 1 (fun h => by have := s0.lt _ h; omega) (.slice p1 c.arrays.length t1)) (w.heap.size + 1) 2 (fun h => by have := s0.lt _ h; omega) (.slice (some ⟨g4, 0, none⟩) (c.list.length + 14 + 1) c4))
    have tt := (bst (bst (bst e1 (w.heap.size + 1) 0 (by omega) (.slice p0 c.vars.length t0)) (w.heap.size + 1) 1 (by omega) (.slice p1 c.arrays.length t1)) (w.heap.size + 1) 2 (by omega) (.slice (some ⟨g4, 0, none⟩) (c.list.length + 14 + 1) c4))
    have y3 := eraseL_len c.list
    clear v2 z2 s0 e1 b1
    go_wp2
    exact bodyPost_ret (v := .tuple #[.agg #[.slice p0 c.vars.length t0, .slice p1 c.arrays.length t1, .slice (some ⟨g4, 0, none⟩) (c.list.length + 14 + 1) c4], .bool true]) (by simp [results, Try.results38, go_sem, x0, x1, x2]) rfl (by rw [HR.out]; exact ⟨_, _, _, rfl, ⟨Om y0 (by omega), Om y1 (by omega), by show World.ownsRow _ _ _ _ _ (eraseL c.list).length (inss (eraseL c.list)); rw [y3]; exact Om y2 (by omega), u3⟩, tt⟩)
   have hR := a3.out (fun h => h385 h.2)
   have HR := Lib.hid hR; clear hR
   have o2 : (400 : Int) < ((c.list.length : Int) + 14 + 1) := by omega
   have x0 := (Nc (b := (w.heap.size + 1)) (j := 2) (Nc (b := (w.heap.size + 1)) (j := 1) (Tc _ (w.heap.size + 1) 0 (.slice none 0 0) r0) (by omega) (.slice none 0 0)) (by omega) (.slice none 0 0))
   have x1 := (Nc (b := (w.heap.size + 1)) (j := 2) (Tc _ (w.heap.size + 1) 1 (.slice none 0 0) (Nc (b := (w.heap.size + 1)) (j := 0) r1 (by omega) (.slice none 0 0))) (by omega) (.slice none 0 0))
   have x2 := (Tc _ (w.heap.size + 1) 2 (.slice none 0 0) (Nc (b := (w.heap.size + 1)) (j := 1) (Nc (b := (w.heap.size + 1)) (j := 0) r2 (by omega) (.slice none 0 0)) (by omega) (.slice none 0 0)))
   have tt := (bst (bst (bst e1 (w.heap.size + 1) 0 (by omega) (.slice none 0 0)) (w.heap.size + 1) 1 (by omega) (.slice none 0 0)) (w.heap.size + 1) 2 (by omega) (.slice none 0 0))
   clear v2 z2 s0 e1 b1 h385
   go_wp2
   exact bodyPost_ret (v := .tuple #[.agg #[.slice none 0 0, .slice none 0 0, .slice none 0 0], .bool false]) (by simp [results, Try.results38, go_sem, x0, x1, x2]) rfl (by rw [HR.out]; exact ⟨_, _, _, rfl, noCode_own _ _, tt⟩)
end Go.Proofs.Ytkjedgnepnbkpaa
