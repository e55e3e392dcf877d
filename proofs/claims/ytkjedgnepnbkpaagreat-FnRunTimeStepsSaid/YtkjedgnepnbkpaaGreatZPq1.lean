/-
 Parts of the proofs of the laws FnCompactRegs,FnFenceCode,FnRunTimeSteps.
-/
import Derived.Test.YtkjedgnepnbkpaaGreatJ
set_option linter.all false
namespace Go.Proofs.YtkjedgnepnbkpaaGreat
open Go.RowKit
def DrawCMP (w:World) (r:Ending) (w':World):Prop:=∃ (va vb vc vx vy:Value) (nv na nl:Nat) (m:Mm),r=.returned (.tuple #[.agg #[va,vb,vc],.agg #[vx,vy]])∧DrawC w' w.heap.size va vb vc nv na nl∧(nv≤1000∧na≤1000∧nl≤1000)∧DrM w' w.heap.size vx vy m∧Below w.heap.size w w'
theorem l3Values_any (v:Value) (xs:List Int) (w:World) (hr:Reads w 1 v xs.length (ints xs)) :
  Calls Tryz.prog 99 #[v] w fun e w'=>e=.returned (.bool (valsOk xs))∧w'=w:=by
 obtain ⟨_,hn,a,q0,b,p0,rfl,o0,ha,j0⟩:=hr
 go_enter Tryz.func99,Tryz.ntmps99
 go_wp2
 go_loop [3] (fun i=>∃ k:Nat,k≤xs.length∧i=.int .i64 k∧(∀ j (h:j < xs.length),j < k→valOk xs[j]=true)) (fun i=>xs.length-(intOf i).toNat)
 case atStart=>exact ⟨0,Nat.zero_le _,rfl,fun j _ h=>absurd h (by omega)⟩
 case round =>
  obtain ⟨k,hk,rfl,b0⟩:=hrel
  have HA:=Lib.hid b0;clear b0
  by_cases hlt:k < xs.length
  ·obtain ⟨rfl,r0⟩:=ha (by omega)
   have n0:=j0 k (by simpa [ints] using hlt)
   rw [ints_get] at n0
   have HN:=Lib.hid (fun h=>vals_no hlt h)
   have HY:Hid (valOk xs[k]=true→∀ j (h:j < xs.length),j < k+1→valOk xs[j]=true):=Lib.hid (fun h j hj hlt2=>by
    by_cases e:j=k
    ·subst e;exact h
    exact HA.out j hj (by omega))
   clear j0 ha
   generalize xs[k]=x at *
   by_cases h0:x < 0
   ·have HV:Hid (valOk x=false):=Lib.hid (decide_eq_false (p:=0≤x∧x≤255) (by omega))
    go_wp2
    go_ret
    exact ⟨ret_bool (HN.out HV.out).symm,rfl⟩
   by_cases h1:255 < x
   ·have HV:Hid (valOk x=false):=Lib.hid (decide_eq_false (p:=0≤x∧x≤255) (by omega))
    go_wp2
    go_ret
    exact ⟨ret_bool (HN.out HV.out).symm,rfl⟩
   have HV:Hid (valOk x=true):=Lib.hid (decide_eq_true (p:=0≤x∧x≤255) (by omega))
   go_wp2
   go_round
   case rel=>exact ⟨k+1,by omega,by go_num,HY.out HV.out⟩
   case measure=>simp [intOf];omega
  have HZ:=Lib.hid (vals_all (fun j h=>HA.out j h (by omega)))
  go_wp2
  go_ret
  exact ⟨ret_bool HZ.out.symm,rfl⟩
set_option maxHeartbeats 3200000 in
theorem l3Fits_any (a0 a1:Option Addr) (nv na c0 c1:Nat) (vx vy:Value) (m:Mm) (w:World) (_n0:nv≤9223372036854775807) (_n1:na≤9223372036854775807) (hx:Reads w 1 vx m.vals.length (ints m.vals)) (hy:Reads2 ints w vy m.arrs) :
  Calls Tryz.prog 66 #[.agg #[.slice a0 nv c0,.slice a1 na c1,.slice none 0 0],.agg #[vx,vy]] w fun e w'=>e=.returned (.bool (memOk nv na m))∧Below w.heap.size w w':=by
 have n2:=hx.2.1
 have n3:=hy.lenle
 have HX:=Lib.hid hx
 have HY:=Lib.hid hy
 obtain ⟨a2,c2,rfl⟩:=reads_shape hx
 obtain ⟨a3,c3,rfl⟩:=hy.shape
 clear hx hy
 have HD:=Lib.hid (memOk_eq nv na m)
 generalize memOk nv na m=D at *
 have e0:=bal (bal (Bs w) (.cells #[.slice a0 nv c0,.slice a1 na c1,.slice none 0 0] 83)) (.cells #[.slice a2 m.vals.length c2,.slice a3 m.arrs.length c3] 29)
 by_cases h1:m.vals.length=nv
 rotate_left
 ·have e1:((m.vals.length:Int) != (nv:Int))=true:=by simp;omega
  have H1:=Lib.hid h1;clear h1
  go_enter Tryz.func66,Tryz.ntmps66
  go_wp2
  go_ret
  exact ⟨ret_bool (by rw [HD.out,decide_eq_false H1.out];rfl),e0⟩
 have e1:((m.vals.length:Int) != (nv:Int))=false:=by simp;omega
 have H1:=Lib.hid h1;clear h1
 by_cases h2:m.arrs.length=na
 rotate_left
 ·have e2:((m.arrs.length:Int) != (na:Int))=true:=by simp;omega
  have H2:=Lib.hid h2;clear h2
  go_enter Tryz.func66,Tryz.ntmps66
  go_wp2
  go_ret
  exact ⟨ret_bool (by rw [HD.out,decide_eq_true H1.out,decide_eq_false H2.out];rfl),e0⟩
 have e2:((m.arrs.length:Int) != (na:Int))=false:=by simp;omega
 have H2:=Lib.hid h2;clear h2
 go_enter Tryz.func66,Tryz.ntmps66
 go_wp2_with fail
 refine (l3Values_any _ m.vals _ (HX.out.below e0)).mono ?_
 rintro e w1 ⟨rfl,rfl⟩
 obtain ⟨w1,i0⟩:∃ X,X=(w.alloc (.cells #[.slice a0 nv c0,.slice a1 na c1,.slice none 0 0] 83)).alloc (.cells #[.slice a2 m.vals.length c2,.slice a3 m.arrs.length c3] 29):=⟨_,rfl⟩
 have b1:w1.cell? ⟨w.heap.size+1,1,none⟩=some (.slice a3 m.arrs.length c3):=by rw [i0];exact Wc (by simp) rfl
 have kb:=Lc b1
 rw [← i0]
 rw [← i0] at e0
 clear i0
 cases hq:valsOk m.vals with
 | false =>
  have HQ:=Lib.hid hq;clear hq
  go_wp2
  go_ret
  exact ⟨ret_bool (by rw [HD.out,decide_eq_true H1.out,decide_eq_true H2.out,HQ.out];rfl),e0⟩
 | true =>
  have HQ:=Lib.hid hq;clear hq
  go_wp2_with fail
  go_loopw [5] (fun i wr=>∃ k:Nat,k≤m.arrs.length∧i=.int .i64 k∧(∀ j (h:j < m.arrs.length),j < k→arrOk m.arrs[j]=true)∧Below w1.heap.size w1 wr) (fun i _=>m.arrs.length-(intOf i).toNat)
  case atStart=>exact ⟨0,Nat.zero_le _,rfl,fun j _ h=>absurd h (by omega),Bs w1⟩
  case round =>
   obtain ⟨k,hk,rfl,b0,d0⟩:=hrel
   have HA:=Lib.hid b0;clear b0
   have g0:=btr e0 d0
   have b2:=Kc d0 b1
   have t0:=Lc b2
   by_cases hlt:k < m.arrs.length
   ·obtain ⟨b,p0,u,rfl,hb,hc,hu⟩:=(HY.out.below g0).at k hlt
    have HN:=Lib.hid (fun h=>arrs_no hlt h)
    have m0:Hid (arrOk m.arrs[k]=true→∀ j (h:j < m.arrs.length),j < k+1→arrOk m.arrs[j]=true):=Lib.hid (fun h j hj hlt2=>by
     by_cases e:j=k
     ·subst e;exact h
     exact HA.out j hj (by omega))
    have kc:=Lc hc
    obtain ⟨pa,pc,rfl⟩:=reads_shape hu
    have s0:=hu.2.1
    have HU:=Lib.hid (l3Values_any _ m.arrs[k] _ hu)
    have k0:=Lib.hid (fun (h:¬m.arrs[k].length=4)=>arrOk_len h)
    have l0:=Lib.hid (fun (h:m.arrs[k].length=4)=>arrOk_vals h)
    generalize arrOk m.arrs[k]=q at *
    generalize valsOk m.arrs[k]=q2 at *
    clear hu
    by_cases h4:m.arrs[k].length=4
    ·have hd:((m.arrs[k].length:Int) != 4)=false:=by simp;omega
     have f0:=Lib.hid (l0.out h4)
     clear h4
     go_wp2_with fail
     refine HU.out.mono ?_
     rintro e w3 ⟨rfl,rfl⟩
     clear HU
     cases q2 with
     | true =>
      go_wp2
      go_roundw
      case rel=>exact ⟨k+1,by omega,by go_num,m0.out f0.out,d0⟩
      case measure=>simp [intOf];omega
     | false =>
      go_wp2
      go_ret
      exact ⟨ret_bool (by rw [HD.out,decide_eq_true H1.out,decide_eq_true H2.out,HQ.out,HN.out f0.out];rfl),g0⟩
    have hd:((m.arrs[k].length:Int) != 4)=true:=by simp;omega
    have f0:=Lib.hid (k0.out h4)
    clear h4
    go_wp2
    go_ret
    exact ⟨ret_bool (by rw [HD.out,decide_eq_true H1.out,decide_eq_true H2.out,HQ.out,HN.out f0.out];rfl),g0⟩
   have HZ:=Lib.hid (arrs_yes (fun j h=>HA.out j h (by omega)))
   go_wp2
   go_ret
   exact ⟨ret_bool (by rw [HD.out,decide_eq_true H1.out,decide_eq_true H2.out,HQ.out,HZ.out];rfl),g0⟩
theorem l3Bool_any (b:Bool) (w:World):Calls Tryz.prog 137 #[.bool b] w fun e w'=>e=.returned (.int .i64 (tru b))∧w'=w:=by
 cases b
 all_goals
  go_enter Tryz.func137,Tryz.ntmps137
  go_wp2
  go_ret
  exact ⟨rfl,rfl⟩
theorem l3Address_any (a i:Int) (w:World) (ha:0≤a∧a≤1048576) (hi:0≤i∧i≤255) :
  Calls Tryz.prog 120 #[.int .i64 a,.int .i64 i] w fun e w'=>e=.returned (.int .i64 (adr a i))∧w'=w:=by
 go_enter Tryz.func120,Tryz.ntmps120
 go_wp2
 go_ret
 exact ⟨rfl,rfl⟩
set_option maxHeartbeats 3200000 in
theorem l3Bin_any (k a b:Int) (w:World) (hk:4≤k∧k≤10) (ha:0≤a∧a≤255) (hb:0≤b∧b≤255) :
  Calls Tryz.prog 121 #[.int .i64 k,.int .i64 a,.int .i64 b] w fun e w'=>e=.returned (.int .i64 (opr k a b))∧w'=w:=by
 have HM:=Lib.hid (mul_rem ha hb)
 rcases opr_cases hk with rfl | rfl | rfl | rfl | rfl | rfl | rfl
 ·clear hk
  go_enter Tryz.func121,Tryz.ntmps121
  go_wp2
  go_ret
  exact ⟨rfl,rfl⟩
 ·clear hk
  go_enter Tryz.func121,Tryz.ntmps121
  go_wp2
  go_ret
  exact ⟨rfl,rfl⟩
 ·clear hk
  go_enter Tryz.func121,Tryz.ntmps121
  go_wp2
  go_ret
  exact ⟨ret_int HM.out,rfl⟩
 ·clear hk
  go_enter Tryz.func121,Tryz.ntmps121
  go_wp2
  go_ret
  exact ⟨rfl,rfl⟩
 ·clear hk
  go_enter Tryz.func121,Tryz.ntmps121
  go_wp2
  go_ret
  exact ⟨rfl,rfl⟩
 ·clear hk
  have HO:Hid (opr 9 a b=tru (a == b)):=Lib.hid rfl
  obtain ⟨q,hq⟩:∃ q:Bool,(a == b)=q:=⟨_,rfl⟩
  rw [hq] at HO
  go_enter Tryz.func121,Tryz.ntmps121
  go_wp2_with fail
  refine (l3Bool_any q _).mono ?_
  rintro e w1 ⟨rfl,rfl⟩
  clear hq
  cases q
  all_goals
   go_wp2
   go_ret
   exact ⟨ret_int HO.out.symm,rfl⟩
 clear hk
 have HO:Hid (opr 10 a b=tru (decide (a < b))):=Lib.hid rfl
 obtain ⟨q,hq⟩:∃ q:Bool,(decide (a < b))=q:=⟨_,rfl⟩
 rw [hq] at HO
 go_enter Tryz.func121,Tryz.ntmps121
 go_wp2_with fail
 refine (l3Bool_any q _).mono ?_
 rintro e w1 ⟨rfl,rfl⟩
 clear hq
 cases q
 all_goals
  go_wp2
  go_ret
  exact ⟨ret_int HO.out.symm,rfl⟩
end Go.Proofs.YtkjedgnepnbkpaaGreat
