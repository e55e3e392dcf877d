/-
 Parts of the proofs of the laws FnCodeFenced,FnCountBranches.
-/
import Derived.Test.YtkjedgnepnbkpaaVS
set_option linter.all false
namespace Go.Proofs.Ytkjedgnepnbkpaa
open Go.RowKit
theorem jOk_in {nv na nl:Nat} {x:Ins} {k:Nat} (h:k < (knd x.op).length) (h2:k < (flds x).length):jOk nv na nl x k=rOk nv na nl (knd x.op)[k].toNat (flds x)[k]:=by
 unfold jOk;rw [List.getElem?_eq_getElem h,List.getElem?_eq_getElem h2]
theorem jOk_out {nv na nl:Nat} {x:Ins} {k:Nat} (h:(knd x.op).length≤k) (h2:k < (flds x).length):jOk nv na nl x k=((flds x)[k] == 0):=by
 unfold jOk;rw [List.getElem?_eq_none h,List.getElem?_eq_getElem h2]
set_option maxHeartbeats 3200000 in
theorem l6Instr_any (a0 a1 a2:Option Addr) (nv na nl c0 c1 c2:Nat) (x:Ins) (w:World) :
  Calls Try.prog 112 #[.agg #[.slice a0 nv c0,.slice a1 na c1,.slice a2 nl c2],.agg #[.int .i64 x.op,.int .i64 x.a,.int .i64 x.b,.int .i64 x.c,.int .i64 x.d]] w fun e w'=>e=.returned (.bool (insOk nv na nl x))∧Below w.heap.size w w':=by
 have f0:=bal (bal (Bs w) (.cells #[.slice a0 nv c0,.slice a1 na c1,.slice a2 nl c2] 26)) (.cells #[.int .i64 x.op,.int .i64 x.a,.int .i64 x.b,.int .i64 x.c,.int .i64 x.d] 32)
 by_cases hop:x.op < 1∨13 < x.op
 ·have HF:Hid (insOk nv na nl x=false):=Lib.hid (by unfold insOk;rw [show wi x.op 1 13=false from decide_eq_false (by omega)];rfl)
  have hc:x.op < 1∨(¬x.op < 1∧13 < x.op):=by omega
  clear hop
  rcases hc with hc | ⟨hc,o0⟩
  all_goals
   go_enter Try.func112,Try.ntmps112
   go_wp2
   go_ret
   exact ⟨ret_bool HF.out.symm,f0⟩
 have v0:¬x.op < 1:=by omega
 have o0:¬13 < x.op:=by omega
 have HP:=Lib.hid hop
 have HL:=Lib.hid (knd_len hop)
 clear hop
 go_enter Try.func112,Try.ntmps112
 go_wp2_with fail
 refine (l6Fields_any _ _ HP.out).mono ?_
 rintro e w1 ⟨rfl,hb⟩
 have x0:=hb.size
 simp only [Sa] at x0
 have b0:w1.cell? ⟨w.heap.size,0,none⟩=some (.slice a0 nv c0):=Kc hb (Ac (Wc (by simp) (by rfl)) _)
 have b1:w1.cell? ⟨w.heap.size,1,none⟩=some (.slice a1 na c1):=Kc hb (Ac (Wc (by simp) (by rfl)) _)
 have b2:w1.cell? ⟨w.heap.size,2,none⟩=some (.slice a2 nl c2):=Kc hb (Ac (Wc (by simp) (by rfl)) _)
 have d0:w1.cell? ⟨w.heap.size+1,0,none⟩=some (.int .i64 x.op):=Kc hb (Wc (by simp) (by rfl))
 have d1:w1.cell? ⟨w.heap.size+1,1,none⟩=some (.int .i64 x.a):=Kc hb (Wc (by simp) (by rfl))
 have d2:w1.cell? ⟨w.heap.size+1,2,none⟩=some (.int .i64 x.b):=Kc hb (Wc (by simp) (by rfl))
 have d3:w1.cell? ⟨w.heap.size+1,3,none⟩=some (.int .i64 x.c):=Kc hb (Wc (by simp) (by rfl))
 have d4:w1.cell? ⟨w.heap.size+1,4,none⟩=some (.int .i64 x.d):=Kc hb (Wc (by simp) (by rfl))
 replace f0:=btr f0 hb
 clear hb v0 o0
 obtain ⟨S,hS⟩:∃ S:ByteArray,S=⟨(knd x.op).toArray⟩:=⟨_,rfl⟩
 rw [← hS]
 have HZ:Hid (S.size=(knd x.op).length):=Lib.hid (by rw [hS];simp [ByteArray.size])
 have HG:Hid (∀ (k:Nat) (h:k < (knd x.op).length) (h':k < S.size),S[k]'h'=(knd x.op)[k]):=Lib.hid (by subst hS;exact str_get _)
 clear hS
 go_wp2_with fail
 refine (l6Parts_any x _).mono ?_
 rintro e w2 ⟨g,rfl,ho,hb⟩
 replace b0:=Kc hb b0
 replace b1:=Kc hb b1
 replace b2:=Kc hb b2
 replace f0:=btr f0 hb
 clear hb d0 d1 d2 d3 d4
 go_wp2_with fail
 go_loopw [7] (fun i wr=>∃ k:Nat,k≤4∧i=.int .i64 k∧(∀ j,j < k→jOk nv na nl x j=true)∧Below w2.heap.size w2 wr) (fun i _=>4-(intOf i).toNat)
 case atStart=>exact ⟨0,by omega,rfl,fun j h=>absurd h (by omega),Bs w2⟩
 case round =>
  obtain ⟨k,hk,rfl,g0,e0⟩:=hrel
  have HA:=Lib.hid g0;clear g0
  have q0:=Kc e0 b0
  have r0:=Kc e0 b1
  have t0:=Kc e0 b2
  have l0:=btr f0 e0
  by_cases hlt:k < 4
  ·have hc:=(Ob ho e0).cellAt k (by omega)
   rw [List.getElem?_eq_getElem (by simpa [ints,flds] using hlt),ints_get] at hc
   have m0:Hid (k < (flds x).length):=Lib.hid (by simpa [flds] using hlt)
   generalize hfx:(flds x)[k]'(by simpa [flds] using hlt)=f at hc
   have HX:=Lib.hid hfx;clear hfx
   have hbx':=f0
   clear b0 b1 b2 ho f0
   go_upto_region 8 with (fail)
   have D:=Below.drew (Bs wr)
   have i0:Hid (∀ W',Below wr.heap.size wr W'→W'.cell? ⟨w.heap.size,0,none⟩=some (.slice a0 nv c0)∧W'.cell? ⟨w.heap.size,1,none⟩=some (.slice a1 na c1)∧W'.cell? ⟨w.heap.size,2,none⟩=some (.slice a2 nl c2)∧W'.cell? ⟨g,k,none⟩=some (.int .i64 f)):=Lib.hid (fun W' h=>⟨Kc h q0,Kc h r0,Kc h t0,Kc h hc⟩)
   go_cut [55] (fun s wx=>s=.bool (!(jOk nv na nl x k))∧Below wr.heap.size wr wx)
   case first =>
    by_cases hin:k < (knd x.op).length
    ·have w0:(k:Int) < (S.size:Int):=by rw [HZ.out];omega
     have p0:¬(S.size≤k):=by omega
     have z0:decide (S.size≤k)=false:=decide_eq_false p0
     have e1:¬((S.size:Int)≤(k:Int)):=by omega
     have HN:=Lib.hid hin
     clear hin
     have HR:=fun w h=>l6Range_any a0 a1 a2 nv na nl c0 c1 c2 (S[k]'h).toNat f w
     have HJ:Hid (∀ h,jOk nv na nl x k=rOk nv na nl (S[k]'h).toNat f):=Lib.hid (fun h=>by rw [jOk_in HN.out m0.out,HG.out k HN.out h,HX.out])
     have h0:k < S.size:=by omega
     cases hok:rOk nv na nl (S[k]'h0).toNat f with
     | true =>
      have HO:=Lib.hid hok
      have j0:=Lib.hid (fun w=>by have h:=HR w h0;rw [hok] at h;exact h)
      clear hok HR
      refine wp_region_noPanic ?_
      refine wp_region_held_drew (S:=(fun W'=>W'.cell? ⟨w.heap.size,0,none⟩=some (.slice a0 nv c0)∧W'.cell? ⟨w.heap.size,1,none⟩=some (.slice a1 na c1)∧W'.cell? ⟨w.heap.size,2,none⟩=some (.slice a2 nl c2)∧W'.cell? ⟨g,k,none⟩=some (.int .i64 f))) (by kernel_rfl) (i0.out _ D) (fun hHeld=>?_)
      refine tq 0 27 rfl rfl ?_ ?_ ?_
      rotate_left
      ·intro W' hSw;obtain ⟨s0,s1,s2,s3⟩:=hSw;go_simp;try with_reducible rfl
      try simp only [Ep]
      refine tq 1 28 rfl rfl ?_ ?_ ?_
      rotate_left
      ·intro W' hSw;obtain ⟨s0,s1,s2,s3⟩:=hSw;go_simp;try with_reducible rfl
      try simp only [Ep]
      refine tq 2 29 rfl rfl ?_ ?_ ?_
      rotate_left
      ·intro W' hSw;obtain ⟨s0,s1,s2,s3⟩:=hSw;go_simp;try with_reducible rfl
      try simp only [Ep]
      refine tq 3 30 rfl rfl ?_ ?_ ?_
      rotate_left
      ·intro W' hSw;obtain ⟨s0,s1,s2,s3⟩:=hSw;go_simp;try with_reducible rfl
      try simp only [Ep]
      refine tq 4 31 rfl rfl ?_ ?_ ?_
      rotate_left
      ·intro W' hSw;obtain ⟨s0,s1,s2,s3⟩:=hSw;go_simp;try with_reducible rfl
      try simp only [Ep]
      refine tq 5 32 rfl rfl ?_ ?_ ?_
      rotate_left
      ·intro W' hSw;obtain ⟨s0,s1,s2,s3⟩:=hSw;go_simp;try with_reducible rfl
      try simp only [Ep]
      refine tq 6 33 rfl rfl ?_ ?_ ?_
      rotate_left
      ·intro W' hSw;obtain ⟨s0,s1,s2,s3⟩:=hSw;go_simp;try with_reducible rfl
      try simp only [Ep]
      refine tq 7 34 rfl rfl ?_ ?_ ?_
      rotate_left
      ·intro W' hSw;obtain ⟨s0,s1,s2,s3⟩:=hSw;go_simp;try with_reducible rfl
      try simp only [Ep]
      refine tq 9 36 rfl rfl ?_ ?_ ?_
      rotate_left
      ·intro W' hSw;obtain ⟨s0,s1,s2,s3⟩:=hSw;go_simp;try with_reducible rfl
      try simp only [Ep]
      refine tq 10 37 rfl rfl ?_ ?_ ?_
      rotate_left
      ·intro W' hSw;obtain ⟨s0,s1,s2,s3⟩:=hSw;go_simp;try with_reducible rfl
      try simp only [Ep]
      refine tq 11 38 rfl rfl ?_ ?_ ?_
      rotate_left
      ·intro W' hSw;obtain ⟨s0,s1,s2,s3⟩:=hSw;go_simp;try with_reducible rfl
      try simp only [Ep]
      refine tq 12 39 rfl rfl ?_ ?_ ?_
      rotate_left
      ·intro W' hSw;obtain ⟨s0,s1,s2,s3⟩:=hSw;go_simp;try with_reducible rfl
      try simp only [Ep]
      refine Rdy 8 rfl (fun K hK=>?_)
      go_simp
      refine hK.out _ _ hHeld (fun hHeld=>?_)
      clear hK K
      try simp only [Ep]
      refine Rdy 13 rfl (fun K hK=>?_)
      go_simp
      go_at_call 152;refine (j0.out _).mono ?_;rintro e wb ⟨rfl,bb⟩;go_wp2_with fail
      refine hK.out _ _ (i0.out _ (btr D bb)) (fun hHeld=>?_)
      clear hK K
      try simp only [Ep]
      refine tq 14 41 rfl rfl ?_ ?_ ?_
      rotate_left
      ·intro W' hSw;obtain ⟨s0,s1,s2,s3⟩:=hSw;go_simp;try with_reducible rfl
      try simp only [Ep]
      refine tq 15 42 rfl rfl ?_ ?_ ?_
      rotate_left
      ·intro W' hSw;obtain ⟨s0,s1,s2,s3⟩:=hSw;go_simp;try with_reducible rfl
      try simp only [Ep]
      refine tq 16 43 rfl rfl ?_ ?_ ?_
      rotate_left
      ·intro W' hSw;obtain ⟨s0,s1,s2,s3⟩:=hSw;go_simp;try with_reducible rfl
      try simp only [Ep]
      refine tq 17 44 rfl rfl ?_ ?_ ?_
      rotate_left
      ·intro W' hSw;obtain ⟨s0,s1,s2,s3⟩:=hSw;go_simp;try with_reducible rfl
      try simp only [Ep]
      refine tq 18 45 rfl rfl ?_ ?_ ?_
      rotate_left
      ·intro W' hSw;obtain ⟨s0,s1,s2,s3⟩:=hSw;go_simp;try with_reducible rfl
      try simp only [Ep]
      refine tq 19 46 rfl rfl ?_ ?_ ?_
      rotate_left
      ·intro W' hSw;obtain ⟨s0,s1,s2,s3⟩:=hSw;go_simp;try with_reducible rfl
      try simp only [Ep]
      refine tq 20 47 rfl rfl ?_ ?_ ?_
      rotate_left
      ·intro W' hSw;obtain ⟨s0,s1,s2,s3⟩:=hSw;go_simp;try with_reducible rfl
      try simp only [Ep]
      refine tq 21 48 rfl rfl ?_ ?_ ?_
      rotate_left
      ·intro W' hSw;obtain ⟨s0,s1,s2,s3⟩:=hSw;go_simp;try with_reducible rfl
      try simp only [Ep]
      refine tu 22 49 rfl rfl ?_
      try simp only [Ep]
      refine tu 23 50 rfl rfl ?_
      try simp only [Ep]
      refine tu 24 51 rfl rfl ?_
      try simp only [Ep]
      refine tu 25 52 rfl rfl ?_
      try simp only [Ep]
      refine tu 26 53 rfl rfl ?_
      try simp only [Ep]
      refine tq 27 54 rfl rfl ?_ ?_ ?_
      rotate_left
      ·intro W' hSw;obtain ⟨s0,s1,s2,s3⟩:=hSw;go_simp;try with_reducible rfl
      try simp only [Ep]
      refine tq 28 55 rfl rfl ?_ ?_ ?_
      rotate_left
      ·intro W' hSw;obtain ⟨s0,s1,s2,s3⟩:=hSw;go_simp;try with_reducible rfl
      try simp only [Ep]
      refine Dn ?_
      all_goals (go_wp2_with fail;go_meet;exact ⟨by rw [HJ.out h0,HO.out];rfl,btr D bb⟩)
     | false =>
      have HO:=Lib.hid hok
      have j0:=Lib.hid (fun w=>by have h:=HR w h0;rw [hok] at h;exact h)
      clear hok HR
      refine wp_region_noPanic ?_
      refine wp_region_held_drew (S:=(fun W'=>W'.cell? ⟨w.heap.size,0,none⟩=some (.slice a0 nv c0)∧W'.cell? ⟨w.heap.size,1,none⟩=some (.slice a1 na c1)∧W'.cell? ⟨w.heap.size,2,none⟩=some (.slice a2 nl c2)∧W'.cell? ⟨g,k,none⟩=some (.int .i64 f))) (by kernel_rfl) (i0.out _ D) (fun hHeld=>?_)
      refine tq 0 27 rfl rfl ?_ ?_ ?_
      rotate_left
      ·intro W' hSw;obtain ⟨s0,s1,s2,s3⟩:=hSw;go_simp;try with_reducible rfl
      try simp only [Ep]
      refine tq 1 28 rfl rfl ?_ ?_ ?_
      rotate_left
      ·intro W' hSw;obtain ⟨s0,s1,s2,s3⟩:=hSw;go_simp;try with_reducible rfl
      try simp only [Ep]
      refine tq 2 29 rfl rfl ?_ ?_ ?_
      rotate_left
      ·intro W' hSw;obtain ⟨s0,s1,s2,s3⟩:=hSw;go_simp;try with_reducible rfl
      try simp only [Ep]
      refine tq 3 30 rfl rfl ?_ ?_ ?_
      rotate_left
      ·intro W' hSw;obtain ⟨s0,s1,s2,s3⟩:=hSw;go_simp;try with_reducible rfl
      try simp only [Ep]
      refine tq 4 31 rfl rfl ?_ ?_ ?_
      rotate_left
      ·intro W' hSw;obtain ⟨s0,s1,s2,s3⟩:=hSw;go_simp;try with_reducible rfl
      try simp only [Ep]
      refine tq 5 32 rfl rfl ?_ ?_ ?_
      rotate_left
      ·intro W' hSw;obtain ⟨s0,s1,s2,s3⟩:=hSw;go_simp;try with_reducible rfl
      try simp only [Ep]
      refine tq 6 33 rfl rfl ?_ ?_ ?_
      rotate_left
      ·intro W' hSw;obtain ⟨s0,s1,s2,s3⟩:=hSw;go_simp;try with_reducible rfl
      try simp only [Ep]
      refine tq 7 34 rfl rfl ?_ ?_ ?_
      rotate_left
      ·intro W' hSw;obtain ⟨s0,s1,s2,s3⟩:=hSw;go_simp;try with_reducible rfl
      try simp only [Ep]
      refine tq 9 36 rfl rfl ?_ ?_ ?_
      rotate_left
      ·intro W' hSw;obtain ⟨s0,s1,s2,s3⟩:=hSw;go_simp;try with_reducible rfl
      try simp only [Ep]
      refine tq 10 37 rfl rfl ?_ ?_ ?_
      rotate_left
      ·intro W' hSw;obtain ⟨s0,s1,s2,s3⟩:=hSw;go_simp;try with_reducible rfl
      try simp only [Ep]
      refine tq 11 38 rfl rfl ?_ ?_ ?_
      rotate_left
      ·intro W' hSw;obtain ⟨s0,s1,s2,s3⟩:=hSw;go_simp;try with_reducible rfl
      try simp only [Ep]
      refine tq 12 39 rfl rfl ?_ ?_ ?_
      rotate_left
      ·intro W' hSw;obtain ⟨s0,s1,s2,s3⟩:=hSw;go_simp;try with_reducible rfl
      try simp only [Ep]
      refine Rdy 8 rfl (fun K hK=>?_)
      go_simp
      refine hK.out _ _ hHeld (fun hHeld=>?_)
      clear hK K
      try simp only [Ep]
      refine Rdy 13 rfl (fun K hK=>?_)
      go_simp
      go_at_call 152;refine (j0.out _).mono ?_;rintro e wb ⟨rfl,bb⟩;go_wp2_with fail
      refine hK.out _ _ (i0.out _ (btr D bb)) (fun hHeld=>?_)
      clear hK K
      try simp only [Ep]
      refine tq 14 41 rfl rfl ?_ ?_ ?_
      rotate_left
      ·intro W' hSw;obtain ⟨s0,s1,s2,s3⟩:=hSw;go_simp;try with_reducible rfl
      try simp only [Ep]
      refine tq 15 42 rfl rfl ?_ ?_ ?_
      rotate_left
      ·intro W' hSw;obtain ⟨s0,s1,s2,s3⟩:=hSw;go_simp;try with_reducible rfl
      try simp only [Ep]
      refine tq 16 43 rfl rfl ?_ ?_ ?_
      rotate_left
      ·intro W' hSw;obtain ⟨s0,s1,s2,s3⟩:=hSw;go_simp;try with_reducible rfl
      try simp only [Ep]
      refine tu 17 44 rfl rfl ?_
      try simp only [Ep]
      refine tu 18 45 rfl rfl ?_
      try simp only [Ep]
      refine tu 19 46 rfl rfl ?_
      try simp only [Ep]
      refine tu 20 47 rfl rfl ?_
      try simp only [Ep]
      refine tu 21 48 rfl rfl ?_
      try simp only [Ep]
      refine tu 22 49 rfl rfl ?_
      try simp only [Ep]
      refine tu 23 50 rfl rfl ?_
      try simp only [Ep]
      refine tu 24 51 rfl rfl ?_
      try simp only [Ep]
      refine tu 25 52 rfl rfl ?_
      try simp only [Ep]
      refine tu 26 53 rfl rfl ?_
      try simp only [Ep]
      refine tu 27 54 rfl rfl ?_
      try simp only [Ep]
      refine tq 28 55 rfl rfl ?_ ?_ ?_
      rotate_left
      ·intro W' hSw;obtain ⟨s0,s1,s2,s3⟩:=hSw;go_simp;try with_reducible rfl
      try simp only [Ep]
      refine Dn ?_
      all_goals (go_wp2_with fail;go_meet;exact ⟨by rw [HJ.out h0,HO.out];rfl,btr D bb⟩)
    have w0:decide (k < S.size)=false:=decide_eq_false (by rw [HZ.out];omega)
    have p0:S.size≤k:=by rw [HZ.out];omega
    have HJ:Hid (jOk nv na nl x k=(f == 0)):=Lib.hid (by rw [jOk_out (by omega) m0.out,HX.out])
    clear hin
    by_cases hz:f=0
    ·have y0:(f != 0)=false:=by simp [hz]
     have HO:Hid ((f == 0)=true):=Lib.hid (by simp [hz])
     clear hz
     go_quiet (fail)
     go_wp2_with fail
     go_meet
     exact ⟨by rw [HJ.out,HO.out];rfl,below_drewN' _ _⟩
    have y0:(f != 0)=true:=by simp [hz]
    have HO:Hid ((f == 0)=false):=Lib.hid (by simp [hz])
    clear hz
    go_quiet (fail)
    go_wp2_with fail
    go_meet
    exact ⟨by rw [HJ.out,HO.out];rfl,below_drewN' _ _⟩
   obtain ⟨W5,rfl⟩:∃ W,W=wc:=⟨_,rfl⟩
   obtain ⟨rfl,k0⟩:=hcut
   have n0:=btr e0 k0
   have u0:=btr hbx' n0
   cases hok:jOk nv na nl x k with
   | true =>
    have HO:=Lib.hid hok;clear hok D k0 e0 l0
    go_wp2
    go_roundw
    case rel =>
     refine ⟨k+1,by omega,by go_num,?_,n0⟩
     intro j hj
     by_cases e:j=k
     ·subst e;exact HO.out
     exact HA.out j (by omega)
    case measure=>simp [intOf];omega
   | false =>
    have HO:=Lib.hid hok;clear hok D k0 e0 l0
    go_wp2
    go_ret
    exact ⟨ret_bool (insOk_kno HP.out hlt HO.out).symm,u0⟩
  go_wp2
  go_ret
  exact ⟨ret_bool (insOk_kyes HP.out (fun j hj=>HA.out j (by omega))).symm,l0⟩
end Go.Proofs.Ytkjedgnepnbkpaa
