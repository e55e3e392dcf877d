/-
 Parts of the proofs of the laws FnCheckLive, FnFinalRegs, FnLiveRegister, FnLiveRegs.
-/
import Derived.Test.YtkjedgnepnbkpaaVS
set_option linter.all false
namespace Go.Proofs.Ytkjedgnepnbkpaa
open Go.RowKit

theorem jOk_in {nv na nl : Nat} {x : Ins} {k : Nat} (h : k < (knd x.op).length) (h2 : k < (flds x).length) : jOk nv na nl x k = rOk nv na nl (knd x.op)[k].toNat (flds x)[k] := by
 unfold jOk; rw [List.getElem?_eq_getElem h, List.getElem?_eq_getElem h2]
theorem jOk_out {nv na nl : Nat} {x : Ins} {k : Nat} (h : (knd x.op).length ≤ k) (h2 : k < (flds x).length) : jOk nv na nl x k = ((flds x)[k] == 0) := by
 unfold jOk; rw [List.getElem?_eq_none h, List.getElem?_eq_getElem h2]

theorem take_h {P : Program} {ops : Array Oper} {Q : Exit → Act → World → Prop} {md : Region.Mode} {S : World → Prop} {i : Nat} {oi : Oper} {d : Nat} {v : Value} {fuel : Nat} {listed : Array Bool} {a : Act} {w : World} (hi : ops[i]? = some oi) (hd : oi.dst = some d)
  (hs : Region.noSelect ops = true) (hf : Region.free md ops listed i = true) (hr : (Region.ready md ops listed).contains i = true)
  (hQ : ∀ c a w, Q (.panic c) (a.put oi.dst v) w → Q (.panic c) a w) (hy : YieldsIf P ops S oi v a) (hS : S w)
  (h : wpAnyH P md ops Q S fuel (listed.setIfInBounds i true) (a.put (some d) v) w) : wpAnyH P md ops Q S (fuel + 1) listed a w :=
 wpAnyH_take hi hs hf hr hQ hy hS (by rw [hd]; exact h)

set_option maxHeartbeats 3200000 in
theorem l6Instr_any (a0 a1 a2 : Option Addr) (nv na nl c0 c1 c2 : Nat) (x : Ins) (w : World) :
  Calls Try.prog 112 #[.agg #[.slice a0 nv c0, .slice a1 na c1, .slice a2 nl c2], .agg #[.int .i64 x.op, .int .i64 x.a, .int .i64 x.b, .int .i64 x.c, .int .i64 x.d]] w fun e w' => e = .returned (.bool (insOk nv na nl x)) ∧ Below w.heap.size w w' := by
 have hbx := bal (bal (Bs w) (.cells #[.slice a0 nv c0, .slice a1 na c1, .slice a2 nl c2] 26)) (.cells #[.int .i64 x.op, .int .i64 x.a, .int .i64 x.b, .int .i64 x.c, .int .i64 x.d] 32)
 by_cases hop : x.op < 1 ∨ 13 < x.op
 ·have HF : Hid (insOk nv na nl x = false) := Lib.hid (by unfold insOk; rw [show wi x.op 1 13 = false from decide_eq_false (by omega)]; rfl)
  have hc : x.op < 1 ∨ (¬ x.op < 1 ∧ 13 < x.op) := by omega
  clear hop
  rcases hc with hc | ⟨hc, hc2⟩
  all_goals
   go_enter Try.func112, Try.ntmps112
   go_wp2
   go_ret
   exact ⟨ret_bool HF.out.symm, hbx⟩
 ·have hc1 : ¬ x.op < 1 := by omega
  have hc2 : ¬ 13 < x.op := by omega
  have HP := Lib.hid hop
  have HL := Lib.hid (knd_len hop)
  clear hop
  go_enter Try.func112, Try.ntmps112
  go_wp2_with fail
  refine (l6Fields_any _ _ HP.out).mono ?_
  rintro e w1 ⟨rfl, hb⟩
  have hz1 := hb.size
  simp only [Sa] at hz1
  have b0 : w1.cell? ⟨w.heap.size, 0, none⟩ = some (.slice a0 nv c0) := Kc hb (Ac (Wc (by simp) (by rfl)) _)
  have b1 : w1.cell? ⟨w.heap.size, 1, none⟩ = some (.slice a1 na c1) := Kc hb (Ac (Wc (by simp) (by rfl)) _)
  have b2 : w1.cell? ⟨w.heap.size, 2, none⟩ = some (.slice a2 nl c2) := Kc hb (Ac (Wc (by simp) (by rfl)) _)
  have d0 : w1.cell? ⟨w.heap.size + 1, 0, none⟩ = some (.int .i64 x.op) := Kc hb (Wc (by simp) (by rfl))
  have d1 : w1.cell? ⟨w.heap.size + 1, 1, none⟩ = some (.int .i64 x.a) := Kc hb (Wc (by simp) (by rfl))
  have d2 : w1.cell? ⟨w.heap.size + 1, 2, none⟩ = some (.int .i64 x.b) := Kc hb (Wc (by simp) (by rfl))
  have d3 : w1.cell? ⟨w.heap.size + 1, 3, none⟩ = some (.int .i64 x.c) := Kc hb (Wc (by simp) (by rfl))
  have d4 : w1.cell? ⟨w.heap.size + 1, 4, none⟩ = some (.int .i64 x.d) := Kc hb (Wc (by simp) (by rfl))
  replace hbx := btr hbx hb
  clear hb hc1 hc2
  obtain ⟨S, hS⟩ : ∃ S : ByteArray, S = ⟨(knd x.op).toArray⟩ := ⟨_, rfl⟩
  rw [← hS]
  have HZ : Hid (S.size = (knd x.op).length) := Lib.hid (by rw [hS]; simp [ByteArray.size])
  have HG : Hid (∀ (k : Nat) (h : k < (knd x.op).length) (h' : k < S.size), S[k]'h' = (knd x.op)[k]) := Lib.hid (by subst hS; exact str_get _)
  clear hS
  go_wp2_with fail
  refine (l6Parts_any x _).mono ?_
  rintro e w2 ⟨g, rfl, ho, hb⟩
  replace b0 := Kc hb b0
  replace b1 := Kc hb b1
  replace b2 := Kc hb b2
  replace hbx := btr hbx hb
  clear hb d0 d1 d2 d3 d4
  go_wp2_with fail
  go_loopw [7] (fun i wr => ∃ k : Nat, k ≤ 4 ∧ i = .int .i64 k ∧ (∀ j, j < k → jOk nv na nl x j = true) ∧ Below w2.heap.size w2 wr) (fun i _ => 4 - (intOf i).toNat)
  case atStart => exact ⟨0, by omega, rfl, fun j h => absurd h (by omega), Bs w2⟩
  case round =>
   obtain ⟨k, hk, rfl, hall, hbel⟩ := hrel
   have HA := Lib.hid hall; clear hall
   have hb0 := Kc hbel b0
   have hb1 := Kc hbel b1
   have hb2 := Kc hbel b2
   have hbw := btr hbx hbel
   by_cases hlt : k < 4
   ·have hc := (Ob ho hbel).cellAt k (by omega)
    rw [List.getElem?_eq_getElem (by simpa [ints, flds] using hlt), ints_get] at hc
    have HF4 : Hid (k < (flds x).length) := Lib.hid (by simpa [flds] using hlt)
    generalize hfx : (flds x)[k]'(by simpa [flds] using hlt) = f at hc
    have HX := Lib.hid hfx; clear hfx
    have hbx' := hbx
    clear b0 b1 b2 ho hbx
    go_upto_region 8 with (fail)
    have D := Below.drew (Bs wr)
    have HSS : Hid (∀ W', Below wr.heap.size wr W' → W'.cell? ⟨w.heap.size, 0, none⟩ = some (.slice a0 nv c0) ∧ W'.cell? ⟨w.heap.size, 1, none⟩ = some (.slice a1 na c1) ∧ W'.cell? ⟨w.heap.size, 2, none⟩ = some (.slice a2 nl c2) ∧ W'.cell? ⟨g, k, none⟩ = some (.int .i64 f)) := Lib.hid (fun W' h => ⟨Kc h hb0, Kc h hb1, Kc h hb2, Kc h hc⟩)
    go_cut [55] (fun s wx => s = .bool (!(jOk nv na nl x k)) ∧ Below wr.heap.size wr wx)
    case first =>
     by_cases hin : k < (knd x.op).length
     ·have hk2 : (k : Int) < (S.size : Int) := by rw [HZ.out]; omega
      have hk3 : ¬ (S.size ≤ k) := by omega
      have hk4 : decide (S.size ≤ k) = false := decide_eq_false hk3
      have hk5 : ¬ ((S.size : Int) ≤ (k : Int)) := by omega
      have HN := Lib.hid hin
      clear hin
      have HR := fun w h => l6Range_any a0 a1 a2 nv na nl c0 c1 c2 (S[k]'h).toNat f w
      have HJ : Hid (∀ h, jOk nv na nl x k = rOk nv na nl (S[k]'h).toNat f) := Lib.hid (fun h => by rw [jOk_in HN.out HF4.out, HG.out k HN.out h, HX.out])
      have hks : k < S.size := by omega
      cases hok : rOk nv na nl (S[k]'hks).toNat f with
      | true =>
       have HO := Lib.hid hok
       have HR2 := Lib.hid (fun w => by have h := HR w hks; rw [hok] at h; exact h)
       clear hok HR
       refine wp_region_noPanic ?_
       refine wp_region_held_drew (S := (fun W' => W'.cell? ⟨w.heap.size, 0, none⟩ = some (.slice a0 nv c0) ∧ W'.cell? ⟨w.heap.size, 1, none⟩ = some (.slice a1 na c1) ∧ W'.cell? ⟨w.heap.size, 2, none⟩ = some (.slice a2 nl c2) ∧ W'.cell? ⟨g, k, none⟩ = some (.int .i64 f))) (by kernel_rfl) (HSS.out _ D) (fun hHeld => ?_)
       refine take_h (i := 0) (d := 27) (v := ?_) rfl rfl (by kernel_rfl) (by kernel_rfl) (by kernel_rfl) (fun _ _ _ h => h) (Or.inl ⟨by rfl, ?_⟩) (by assumption) ?_
       rotate_left
       ·intro W' hSw; (try dsimp only at hSw); obtain ⟨s0, s1, s2, s3⟩ := hSw; go_simp; try with_reducible rfl
       try simp only [Act.put, sb, List.set_cons_zero, List.set_cons_succ]
       refine take_h (i := 1) (d := 28) (v := ?_) rfl rfl (by kernel_rfl) (by kernel_rfl) (by kernel_rfl) (fun _ _ _ h => h) (Or.inl ⟨by rfl, ?_⟩) (by assumption) ?_
       rotate_left
       ·intro W' hSw; (try dsimp only at hSw); obtain ⟨s0, s1, s2, s3⟩ := hSw; go_simp; try with_reducible rfl
       try simp only [Act.put, sb, List.set_cons_zero, List.set_cons_succ]
       refine take_h (i := 2) (d := 29) (v := ?_) rfl rfl (by kernel_rfl) (by kernel_rfl) (by kernel_rfl) (fun _ _ _ h => h) (Or.inl ⟨by rfl, ?_⟩) (by assumption) ?_
       rotate_left
       ·intro W' hSw; (try dsimp only at hSw); obtain ⟨s0, s1, s2, s3⟩ := hSw; go_simp; try with_reducible rfl
       try simp only [Act.put, sb, List.set_cons_zero, List.set_cons_succ]
       refine take_h (i := 3) (d := 30) (v := ?_) rfl rfl (by kernel_rfl) (by kernel_rfl) (by kernel_rfl) (fun _ _ _ h => h) (Or.inl ⟨by rfl, ?_⟩) (by assumption) ?_
       rotate_left
       ·intro W' hSw; (try dsimp only at hSw); obtain ⟨s0, s1, s2, s3⟩ := hSw; go_simp; try with_reducible rfl
       try simp only [Act.put, sb, List.set_cons_zero, List.set_cons_succ]
       refine take_h (i := 4) (d := 31) (v := ?_) rfl rfl (by kernel_rfl) (by kernel_rfl) (by kernel_rfl) (fun _ _ _ h => h) (Or.inl ⟨by rfl, ?_⟩) (by assumption) ?_
       rotate_left
       ·intro W' hSw; (try dsimp only at hSw); obtain ⟨s0, s1, s2, s3⟩ := hSw; go_simp; try with_reducible rfl
       try simp only [Act.put, sb, List.set_cons_zero, List.set_cons_succ]
       refine take_h (i := 5) (d := 32) (v := ?_) rfl rfl (by kernel_rfl) (by kernel_rfl) (by kernel_rfl) (fun _ _ _ h => h) (Or.inl ⟨by rfl, ?_⟩) (by assumption) ?_
       rotate_left
       ·intro W' hSw; (try dsimp only at hSw); obtain ⟨s0, s1, s2, s3⟩ := hSw; go_simp; try with_reducible rfl
       try simp only [Act.put, sb, List.set_cons_zero, List.set_cons_succ]
       refine take_h (i := 6) (d := 33) (v := ?_) rfl rfl (by kernel_rfl) (by kernel_rfl) (by kernel_rfl) (fun _ _ _ h => h) (Or.inl ⟨by rfl, ?_⟩) (by assumption) ?_
       rotate_left
       ·intro W' hSw; (try dsimp only at hSw); obtain ⟨s0, s1, s2, s3⟩ := hSw; go_simp; try with_reducible rfl
       try simp only [Act.put, sb, List.set_cons_zero, List.set_cons_succ]
       refine take_h (i := 7) (d := 34) (v := ?_) rfl rfl (by kernel_rfl) (by kernel_rfl) (by kernel_rfl) (fun _ _ _ h => h) (Or.inl ⟨by rfl, ?_⟩) (by assumption) ?_
       rotate_left
       ·intro W' hSw; (try dsimp only at hSw); obtain ⟨s0, s1, s2, s3⟩ := hSw; go_simp; try with_reducible rfl
       try simp only [Act.put, sb, List.set_cons_zero, List.set_cons_succ]
       refine take_h (i := 9) (d := 36) (v := ?_) rfl rfl (by kernel_rfl) (by kernel_rfl) (by kernel_rfl) (fun _ _ _ h => h) (Or.inl ⟨by rfl, ?_⟩) (by assumption) ?_
       rotate_left
       ·intro W' hSw; (try dsimp only at hSw); obtain ⟨s0, s1, s2, s3⟩ := hSw; go_simp; try with_reducible rfl
       try simp only [Act.put, sb, List.set_cons_zero, List.set_cons_succ]
       refine take_h (i := 10) (d := 37) (v := ?_) rfl rfl (by kernel_rfl) (by kernel_rfl) (by kernel_rfl) (fun _ _ _ h => h) (Or.inl ⟨by rfl, ?_⟩) (by assumption) ?_
       rotate_left
       ·intro W' hSw; (try dsimp only at hSw); obtain ⟨s0, s1, s2, s3⟩ := hSw; go_simp; try with_reducible rfl
       try simp only [Act.put, sb, List.set_cons_zero, List.set_cons_succ]
       refine take_h (i := 11) (d := 38) (v := ?_) rfl rfl (by kernel_rfl) (by kernel_rfl) (by kernel_rfl) (fun _ _ _ h => h) (Or.inl ⟨by rfl, ?_⟩) (by assumption) ?_
       rotate_left
       ·intro W' hSw; (try dsimp only at hSw); obtain ⟨s0, s1, s2, s3⟩ := hSw; go_simp; try with_reducible rfl
       try simp only [Act.put, sb, List.set_cons_zero, List.set_cons_succ]
       refine take_h (i := 12) (d := 39) (v := ?_) rfl rfl (by kernel_rfl) (by kernel_rfl) (by kernel_rfl) (fun _ _ _ h => h) (Or.inl ⟨by rfl, ?_⟩) (by assumption) ?_
       rotate_left
       ·intro W' hSw; (try dsimp only at hSw); obtain ⟨s0, s1, s2, s3⟩ := hSw; go_simp; try with_reducible rfl
       try simp only [Act.put, sb, List.set_cons_zero, List.set_cons_succ]
       refine wpAnyH_ready (rs := [8]) (by kernel_rfl) (by simp) ?_
       refine AllReadyH.cons rfl (fun K hK => ?_) AllReadyH.nil
       go_simp
       refine hK.out _ _ hHeld (fun hHeld => ?_)
       clear hK K
       try simp only [Act.put, sb, List.set_cons_zero, List.set_cons_succ]
       refine wpAnyH_ready (rs := [13]) (by kernel_rfl) (by simp) ?_
       refine AllReadyH.cons rfl (fun K hK => ?_) AllReadyH.nil
       go_simp
       go_at_call 152; refine (HR2.out _).mono ?_; rintro e wb ⟨rfl, bb⟩; go_wp2_with fail
       refine hK.out _ _ (HSS.out _ (btr D bb)) (fun hHeld => ?_)
       clear hK K
       try simp only [Act.put, sb, List.set_cons_zero, List.set_cons_succ]
       refine take_h (i := 14) (d := 41) (v := ?_) rfl rfl (by kernel_rfl) (by kernel_rfl) (by kernel_rfl) (fun _ _ _ h => h) (Or.inl ⟨by rfl, ?_⟩) (by assumption) ?_
       rotate_left
       ·intro W' hSw; (try dsimp only at hSw); obtain ⟨s0, s1, s2, s3⟩ := hSw; go_simp; try with_reducible rfl
       try simp only [Act.put, sb, List.set_cons_zero, List.set_cons_succ]
       refine take_h (i := 15) (d := 42) (v := ?_) rfl rfl (by kernel_rfl) (by kernel_rfl) (by kernel_rfl) (fun _ _ _ h => h) (Or.inl ⟨by rfl, ?_⟩) (by assumption) ?_
       rotate_left
       ·intro W' hSw; (try dsimp only at hSw); obtain ⟨s0, s1, s2, s3⟩ := hSw; go_simp; try with_reducible rfl
       try simp only [Act.put, sb, List.set_cons_zero, List.set_cons_succ]
       refine take_h (i := 16) (d := 43) (v := ?_) rfl rfl (by kernel_rfl) (by kernel_rfl) (by kernel_rfl) (fun _ _ _ h => h) (Or.inl ⟨by rfl, ?_⟩) (by assumption) ?_
       rotate_left
       ·intro W' hSw; (try dsimp only at hSw); obtain ⟨s0, s1, s2, s3⟩ := hSw; go_simp; try with_reducible rfl
       try simp only [Act.put, sb, List.set_cons_zero, List.set_cons_succ]
       refine take_h (i := 17) (d := 44) (v := ?_) rfl rfl (by kernel_rfl) (by kernel_rfl) (by kernel_rfl) (fun _ _ _ h => h) (Or.inl ⟨by rfl, ?_⟩) (by assumption) ?_
       rotate_left
       ·intro W' hSw; (try dsimp only at hSw); obtain ⟨s0, s1, s2, s3⟩ := hSw; go_simp; try with_reducible rfl
       try simp only [Act.put, sb, List.set_cons_zero, List.set_cons_succ]
       refine take_h (i := 18) (d := 45) (v := ?_) rfl rfl (by kernel_rfl) (by kernel_rfl) (by kernel_rfl) (fun _ _ _ h => h) (Or.inl ⟨by rfl, ?_⟩) (by assumption) ?_
       rotate_left
       ·intro W' hSw; (try dsimp only at hSw); obtain ⟨s0, s1, s2, s3⟩ := hSw; go_simp; try with_reducible rfl
       try simp only [Act.put, sb, List.set_cons_zero, List.set_cons_succ]
       refine take_h (i := 19) (d := 46) (v := ?_) rfl rfl (by kernel_rfl) (by kernel_rfl) (by kernel_rfl) (fun _ _ _ h => h) (Or.inl ⟨by rfl, ?_⟩) (by assumption) ?_
       rotate_left
       ·intro W' hSw; (try dsimp only at hSw); obtain ⟨s0, s1, s2, s3⟩ := hSw; go_simp; try with_reducible rfl
       try simp only [Act.put, sb, List.set_cons_zero, List.set_cons_succ]
       refine take_h (i := 20) (d := 47) (v := ?_) rfl rfl (by kernel_rfl) (by kernel_rfl) (by kernel_rfl) (fun _ _ _ h => h) (Or.inl ⟨by rfl, ?_⟩) (by assumption) ?_
       rotate_left
       ·intro W' hSw; (try dsimp only at hSw); obtain ⟨s0, s1, s2, s3⟩ := hSw; go_simp; try with_reducible rfl
       try simp only [Act.put, sb, List.set_cons_zero, List.set_cons_succ]
       refine take_h (i := 21) (d := 48) (v := ?_) rfl rfl (by kernel_rfl) (by kernel_rfl) (by kernel_rfl) (fun _ _ _ h => h) (Or.inl ⟨by rfl, ?_⟩) (by assumption) ?_
       rotate_left
       ·intro W' hSw; (try dsimp only at hSw); obtain ⟨s0, s1, s2, s3⟩ := hSw; go_simp; try with_reducible rfl
       try simp only [Act.put, sb, List.set_cons_zero, List.set_cons_succ]
       refine take_h (i := 22) (d := 49) rfl rfl (by kernel_rfl) (by kernel_rfl) (by kernel_rfl) (fun _ _ _ h => h) (Or.inr ⟨by rfl, rfl⟩) (by assumption) ?_
       try simp only [Act.put, sb, List.set_cons_zero, List.set_cons_succ]
       refine take_h (i := 23) (d := 50) rfl rfl (by kernel_rfl) (by kernel_rfl) (by kernel_rfl) (fun _ _ _ h => h) (Or.inr ⟨by rfl, rfl⟩) (by assumption) ?_
       try simp only [Act.put, sb, List.set_cons_zero, List.set_cons_succ]
       refine take_h (i := 24) (d := 51) rfl rfl (by kernel_rfl) (by kernel_rfl) (by kernel_rfl) (fun _ _ _ h => h) (Or.inr ⟨by rfl, rfl⟩) (by assumption) ?_
       try simp only [Act.put, sb, List.set_cons_zero, List.set_cons_succ]
       refine take_h (i := 25) (d := 52) rfl rfl (by kernel_rfl) (by kernel_rfl) (by kernel_rfl) (fun _ _ _ h => h) (Or.inr ⟨by rfl, rfl⟩) (by assumption) ?_
       try simp only [Act.put, sb, List.set_cons_zero, List.set_cons_succ]
       refine take_h (i := 26) (d := 53) rfl rfl (by kernel_rfl) (by kernel_rfl) (by kernel_rfl) (fun _ _ _ h => h) (Or.inr ⟨by rfl, rfl⟩) (by assumption) ?_
       try simp only [Act.put, sb, List.set_cons_zero, List.set_cons_succ]
       refine take_h (i := 27) (d := 54) (v := ?_) rfl rfl (by kernel_rfl) (by kernel_rfl) (by kernel_rfl) (fun _ _ _ h => h) (Or.inl ⟨by rfl, ?_⟩) (by assumption) ?_
       rotate_left
       ·intro W' hSw; (try dsimp only at hSw); obtain ⟨s0, s1, s2, s3⟩ := hSw; go_simp; try with_reducible rfl
       try simp only [Act.put, sb, List.set_cons_zero, List.set_cons_succ]
       refine take_h (i := 28) (d := 55) (v := ?_) rfl rfl (by kernel_rfl) (by kernel_rfl) (by kernel_rfl) (fun _ _ _ h => h) (Or.inl ⟨by rfl, ?_⟩) (by assumption) ?_
       rotate_left
       ·intro W' hSw; (try dsimp only at hSw); obtain ⟨s0, s1, s2, s3⟩ := hSw; go_simp; try with_reducible rfl
       try simp only [Act.put, sb, List.set_cons_zero, List.set_cons_succ]
       refine wpAnyH_done (by kernel_rfl) ?_ _
       refine NoPanic.normal ?_
       all_goals (go_wp2_with fail; go_meet; exact ⟨by rw [HJ.out hks, HO.out]; rfl, btr D bb⟩)
      | false =>
       have HO := Lib.hid hok
       have HR2 := Lib.hid (fun w => by have h := HR w hks; rw [hok] at h; exact h)
       clear hok HR
       refine wp_region_noPanic ?_
       refine wp_region_held_drew (S := (fun W' => W'.cell? ⟨w.heap.size, 0, none⟩ = some (.slice a0 nv c0) ∧ W'.cell? ⟨w.heap.size, 1, none⟩ = some (.slice a1 na c1) ∧ W'.cell? ⟨w.heap.size, 2, none⟩ = some (.slice a2 nl c2) ∧ W'.cell? ⟨g, k, none⟩ = some (.int .i64 f))) (by kernel_rfl) (HSS.out _ D) (fun hHeld => ?_)
       refine take_h (i := 0) (d := 27) (v := ?_) rfl rfl (by kernel_rfl) (by kernel_rfl) (by kernel_rfl) (fun _ _ _ h => h) (Or.inl ⟨by rfl, ?_⟩) (by assumption) ?_
       rotate_left
       ·intro W' hSw; (try dsimp only at hSw); obtain ⟨s0, s1, s2, s3⟩ := hSw; go_simp; try with_reducible rfl
       try simp only [Act.put, sb, List.set_cons_zero, List.set_cons_succ]
       refine take_h (i := 1) (d := 28) (v := ?_) rfl rfl (by kernel_rfl) (by kernel_rfl) (by kernel_rfl) (fun _ _ _ h => h) (Or.inl ⟨by rfl, ?_⟩) (by assumption) ?_
       rotate_left
       ·intro W' hSw; (try dsimp only at hSw); obtain ⟨s0, s1, s2, s3⟩ := hSw; go_simp; try with_reducible rfl
       try simp only [Act.put, sb, List.set_cons_zero, List.set_cons_succ]
       refine take_h (i := 2) (d := 29) (v := ?_) rfl rfl (by kernel_rfl) (by kernel_rfl) (by kernel_rfl) (fun _ _ _ h => h) (Or.inl ⟨by rfl, ?_⟩) (by assumption) ?_
       rotate_left
       ·intro W' hSw; (try dsimp only at hSw); obtain ⟨s0, s1, s2, s3⟩ := hSw; go_simp; try with_reducible rfl
       try simp only [Act.put, sb, List.set_cons_zero, List.set_cons_succ]
       refine take_h (i := 3) (d := 30) (v := ?_) rfl rfl (by kernel_rfl) (by kernel_rfl) (by kernel_rfl) (fun _ _ _ h => h) (Or.inl ⟨by rfl, ?_⟩) (by assumption) ?_
       rotate_left
       ·intro W' hSw; (try dsimp only at hSw); obtain ⟨s0, s1, s2, s3⟩ := hSw; go_simp; try with_reducible rfl
       try simp only [Act.put, sb, List.set_cons_zero, List.set_cons_succ]
       refine take_h (i := 4) (d := 31) (v := ?_) rfl rfl (by kernel_rfl) (by kernel_rfl) (by kernel_rfl) (fun _ _ _ h => h) (Or.inl ⟨by rfl, ?_⟩) (by assumption) ?_
       rotate_left
       ·intro W' hSw; (try dsimp only at hSw); obtain ⟨s0, s1, s2, s3⟩ := hSw; go_simp; try with_reducible rfl
       try simp only [Act.put, sb, List.set_cons_zero, List.set_cons_succ]
       refine take_h (i := 5) (d := 32) (v := ?_) rfl rfl (by kernel_rfl) (by kernel_rfl) (by kernel_rfl) (fun _ _ _ h => h) (Or.inl ⟨by rfl, ?_⟩) (by assumption) ?_
       rotate_left
       ·intro W' hSw; (try dsimp only at hSw); obtain ⟨s0, s1, s2, s3⟩ := hSw; go_simp; try with_reducible rfl
       try simp only [Act.put, sb, List.set_cons_zero, List.set_cons_succ]
       refine take_h (i := 6) (d := 33) (v := ?_) rfl rfl (by kernel_rfl) (by kernel_rfl) (by kernel_rfl) (fun _ _ _ h => h) (Or.inl ⟨by rfl, ?_⟩) (by assumption) ?_
       rotate_left
       ·intro W' hSw; (try dsimp only at hSw); obtain ⟨s0, s1, s2, s3⟩ := hSw; go_simp; try with_reducible rfl
       try simp only [Act.put, sb, List.set_cons_zero, List.set_cons_succ]
       refine take_h (i := 7) (d := 34) (v := ?_) rfl rfl (by kernel_rfl) (by kernel_rfl) (by kernel_rfl) (fun _ _ _ h => h) (Or.inl ⟨by rfl, ?_⟩) (by assumption) ?_
       rotate_left
       ·intro W' hSw; (try dsimp only at hSw); obtain ⟨s0, s1, s2, s3⟩ := hSw; go_simp; try with_reducible rfl
       try simp only [Act.put, sb, List.set_cons_zero, List.set_cons_succ]
       refine take_h (i := 9) (d := 36) (v := ?_) rfl rfl (by kernel_rfl) (by kernel_rfl) (by kernel_rfl) (fun _ _ _ h => h) (Or.inl ⟨by rfl, ?_⟩) (by assumption) ?_
       rotate_left
       ·intro W' hSw; (try dsimp only at hSw); obtain ⟨s0, s1, s2, s3⟩ := hSw; go_simp; try with_reducible rfl
       try simp only [Act.put, sb, List.set_cons_zero, List.set_cons_succ]
       refine take_h (i := 10) (d := 37) (v := ?_) rfl rfl (by kernel_rfl) (by kernel_rfl) (by kernel_rfl) (fun _ _ _ h => h) (Or.inl ⟨by rfl, ?_⟩) (by assumption) ?_
       rotate_left
       ·intro W' hSw; (try dsimp only at hSw); obtain ⟨s0, s1, s2, s3⟩ := hSw; go_simp; try with_reducible rfl
       try simp only [Act.put, sb, List.set_cons_zero, List.set_cons_succ]
       refine take_h (i := 11) (d := 38) (v := ?_) rfl rfl (by kernel_rfl) (by kernel_rfl) (by kernel_rfl) (fun _ _ _ h => h) (Or.inl ⟨by rfl, ?_⟩) (by assumption) ?_
       rotate_left
       ·intro W' hSw; (try dsimp only at hSw); obtain ⟨s0, s1, s2, s3⟩ := hSw; go_simp; try with_reducible rfl
       try simp only [Act.put, sb, List.set_cons_zero, List.set_cons_succ]
       refine take_h (i := 12) (d := 39) (v := ?_) rfl rfl (by kernel_rfl) (by kernel_rfl) (by kernel_rfl) (fun _ _ _ h => h) (Or.inl ⟨by rfl, ?_⟩) (by assumption) ?_
       rotate_left
       ·intro W' hSw; (try dsimp only at hSw); obtain ⟨s0, s1, s2, s3⟩ := hSw; go_simp; try with_reducible rfl
       try simp only [Act.put, sb, List.set_cons_zero, List.set_cons_succ]
       refine wpAnyH_ready (rs := [8]) (by kernel_rfl) (by simp) ?_
       refine AllReadyH.cons rfl (fun K hK => ?_) AllReadyH.nil
       go_simp
       refine hK.out _ _ hHeld (fun hHeld => ?_)
       clear hK K
       try simp only [Act.put, sb, List.set_cons_zero, List.set_cons_succ]
       refine wpAnyH_ready (rs := [13]) (by kernel_rfl) (by simp) ?_
       refine AllReadyH.cons rfl (fun K hK => ?_) AllReadyH.nil
       go_simp
       go_at_call 152; refine (HR2.out _).mono ?_; rintro e wb ⟨rfl, bb⟩; go_wp2_with fail
       refine hK.out _ _ (HSS.out _ (btr D bb)) (fun hHeld => ?_)
       clear hK K
       try simp only [Act.put, sb, List.set_cons_zero, List.set_cons_succ]
       refine take_h (i := 14) (d := 41) (v := ?_) rfl rfl (by kernel_rfl) (by kernel_rfl) (by kernel_rfl) (fun _ _ _ h => h) (Or.inl ⟨by rfl, ?_⟩) (by assumption) ?_
       rotate_left
       ·intro W' hSw; (try dsimp only at hSw); obtain ⟨s0, s1, s2, s3⟩ := hSw; go_simp; try with_reducible rfl
       try simp only [Act.put, sb, List.set_cons_zero, List.set_cons_succ]
       refine take_h (i := 15) (d := 42) (v := ?_) rfl rfl (by kernel_rfl) (by kernel_rfl) (by kernel_rfl) (fun _ _ _ h => h) (Or.inl ⟨by rfl, ?_⟩) (by assumption) ?_
       rotate_left
       ·intro W' hSw; (try dsimp only at hSw); obtain ⟨s0, s1, s2, s3⟩ := hSw; go_simp; try with_reducible rfl
       try simp only [Act.put, sb, List.set_cons_zero, List.set_cons_succ]
       refine take_h (i := 16) (d := 43) (v := ?_) rfl rfl (by kernel_rfl) (by kernel_rfl) (by kernel_rfl) (fun _ _ _ h => h) (Or.inl ⟨by rfl, ?_⟩) (by assumption) ?_
       rotate_left
       ·intro W' hSw; (try dsimp only at hSw); obtain ⟨s0, s1, s2, s3⟩ := hSw; go_simp; try with_reducible rfl
       try simp only [Act.put, sb, List.set_cons_zero, List.set_cons_succ]
       refine take_h (i := 17) (d := 44) rfl rfl (by kernel_rfl) (by kernel_rfl) (by kernel_rfl) (fun _ _ _ h => h) (Or.inr ⟨by rfl, rfl⟩) (by assumption) ?_
       try simp only [Act.put, sb, List.set_cons_zero, List.set_cons_succ]
       refine take_h (i := 18) (d := 45) rfl rfl (by kernel_rfl) (by kernel_rfl) (by kernel_rfl) (fun _ _ _ h => h) (Or.inr ⟨by rfl, rfl⟩) (by assumption) ?_
       try simp only [Act.put, sb, List.set_cons_zero, List.set_cons_succ]
       refine take_h (i := 19) (d := 46) rfl rfl (by kernel_rfl) (by kernel_rfl) (by kernel_rfl) (fun _ _ _ h => h) (Or.inr ⟨by rfl, rfl⟩) (by assumption) ?_
       try simp only [Act.put, sb, List.set_cons_zero, List.set_cons_succ]
       refine take_h (i := 20) (d := 47) rfl rfl (by kernel_rfl) (by kernel_rfl) (by kernel_rfl) (fun _ _ _ h => h) (Or.inr ⟨by rfl, rfl⟩) (by assumption) ?_
       try simp only [Act.put, sb, List.set_cons_zero, List.set_cons_succ]
       refine take_h (i := 21) (d := 48) rfl rfl (by kernel_rfl) (by kernel_rfl) (by kernel_rfl) (fun _ _ _ h => h) (Or.inr ⟨by rfl, rfl⟩) (by assumption) ?_
       try simp only [Act.put, sb, List.set_cons_zero, List.set_cons_succ]
       refine take_h (i := 22) (d := 49) rfl rfl (by kernel_rfl) (by kernel_rfl) (by kernel_rfl) (fun _ _ _ h => h) (Or.inr ⟨by rfl, rfl⟩) (by assumption) ?_
       try simp only [Act.put, sb, List.set_cons_zero, List.set_cons_succ]
       refine take_h (i := 23) (d := 50) rfl rfl (by kernel_rfl) (by kernel_rfl) (by kernel_rfl) (fun _ _ _ h => h) (Or.inr ⟨by rfl, rfl⟩) (by assumption) ?_
       try simp only [Act.put, sb, List.set_cons_zero, List.set_cons_succ]
       refine take_h (i := 24) (d := 51) rfl rfl (by kernel_rfl) (by kernel_rfl) (by kernel_rfl) (fun _ _ _ h => h) (Or.inr ⟨by rfl, rfl⟩) (by assumption) ?_
       try simp only [Act.put, sb, List.set_cons_zero, List.set_cons_succ]
       refine take_h (i := 25) (d := 52) rfl rfl (by kernel_rfl) (by kernel_rfl) (by kernel_rfl) (fun _ _ _ h => h) (Or.inr ⟨by rfl, rfl⟩) (by assumption) ?_
       try simp only [Act.put, sb, List.set_cons_zero, List.set_cons_succ]
       refine take_h (i := 26) (d := 53) rfl rfl (by kernel_rfl) (by kernel_rfl) (by kernel_rfl) (fun _ _ _ h => h) (Or.inr ⟨by rfl, rfl⟩) (by assumption) ?_
       try simp only [Act.put, sb, List.set_cons_zero, List.set_cons_succ]
       refine take_h (i := 27) (d := 54) rfl rfl (by kernel_rfl) (by kernel_rfl) (by kernel_rfl) (fun _ _ _ h => h) (Or.inr ⟨by rfl, rfl⟩) (by assumption) ?_
       try simp only [Act.put, sb, List.set_cons_zero, List.set_cons_succ]
       refine take_h (i := 28) (d := 55) (v := ?_) rfl rfl (by kernel_rfl) (by kernel_rfl) (by kernel_rfl) (fun _ _ _ h => h) (Or.inl ⟨by rfl, ?_⟩) (by assumption) ?_
       rotate_left
       ·intro W' hSw; (try dsimp only at hSw); obtain ⟨s0, s1, s2, s3⟩ := hSw; go_simp; try with_reducible rfl
       try simp only [Act.put, sb, List.set_cons_zero, List.set_cons_succ]
       refine wpAnyH_done (by kernel_rfl) ?_ _
       refine NoPanic.normal ?_
       all_goals (go_wp2_with fail; go_meet; exact ⟨by rw [HJ.out hks, HO.out]; rfl, btr D bb⟩)
     ·have hk2 : decide (k < S.size) = false := decide_eq_false (by rw [HZ.out]; omega)
      have hk3 : S.size ≤ k := by rw [HZ.out]; omega
      have HJ : Hid (jOk nv na nl x k = (f == 0)) := Lib.hid (by rw [jOk_out (by omega) HF4.out, HX.out])
      clear hin
      by_cases hz : f = 0
      ·have hz2 : (f != 0) = false := by simp [hz]
       have HO : Hid ((f == 0) = true) := Lib.hid (by simp [hz])
       clear hz
       go_quiet (fail)
       go_wp2_with fail
       go_meet
       exact ⟨by rw [HJ.out, HO.out]; rfl, below_drewN' _ _⟩
      ·have hz2 : (f != 0) = true := by simp [hz]
       have HO : Hid ((f == 0) = false) := Lib.hid (by simp [hz])
       clear hz
       go_quiet (fail)
       go_wp2_with fail
       go_meet
       exact ⟨by rw [HJ.out, HO.out]; rfl, below_drewN' _ _⟩
    obtain ⟨W5, rfl⟩ : ∃ W, W = wc := ⟨_, rfl⟩
    obtain ⟨rfl, hbc⟩ := hcut
    have hbe := btr hbel hbc
    have hbf := btr hbx' hbe
    cases hok : jOk nv na nl x k with
    | true =>
     have HO := Lib.hid hok; clear hok D hbc hbel hbw
     go_wp2
     go_roundw
     case rel =>
      refine ⟨k + 1, by omega, by go_num, ?_, hbe⟩
      intro j hj
      by_cases e : j = k
      ·subst e; exact HO.out
      ·exact HA.out j (by omega)
     case measure => simp [intOf]; omega
    | false =>
     have HO := Lib.hid hok; clear hok D hbc hbel hbw
     go_wp2
     go_ret
     exact ⟨ret_bool (insOk_kno HP.out hlt HO.out).symm, hbf⟩
   ·go_wp2
    go_ret
    exact ⟨ret_bool (insOk_kyes HP.out (fun j hj => HA.out j (by omega))).symm, hbw⟩
end Go.Proofs.Ytkjedgnepnbkpaa
