/-
 Parts of the proofs of the laws FnPairMemory,FnSplitMemory.
-/
import Derived.Test.YtlckklglbodgbaaGreatOW
set_option linter.all false
namespace Go.Proofs.YtlckklglbodgbaaGreat
open Go.RowKit
set_option maxHeartbeats 3200000 in
theorem l3Fits_u (a0 a1 au:Option Addr) (nv na nu c0 c1 cu:Nat) (vx vy:Value) (m:Mm) (w:World) (_n0:nv≤9223372036854775807) (_n1:na≤9223372036854775807) (hx:Reads w 1 vx m.vals.length (ints m.vals)) (hy:Reads2 ints w vy m.arrs) :
  Calls Tryz.prog 29 #[.agg #[.slice a0 nv c0,.slice a1 na c1,.slice au nu cu],.agg #[vx,vy]] w fun e w'=>e=.returned (.bool (memOk nv na m))∧Below w.heap.size w w':=by
 have n2:=hx.2.1;have n3:=hy.lenle;have HX:=Hi hx;have HY:=Hi hy;obtain ⟨a2,c2,rfl⟩:=reads_shape hx;obtain ⟨a3,c3,rfl⟩:=hy.shape;clear hx hy;have HD:=Hi (memOk_eq nv na m);generalize memOk nv na m=D at *
 have d0:=bal (bal (Bs w) (.cells #[.slice a0 nv c0,.slice a1 na c1,.slice au nu cu] 26)) (.cells #[.slice a2 m.vals.length c2,.slice a3 m.arrs.length c3] 29);by_cases h1:m.vals.length=nv
 rotate_left
 ·have e1:((m.vals.length:Int) != (nv:Int))=true:=by simp;omega
  have H1:=Hi h1;clear h1;go_enter Tryz.func29,Tryz.ntmps29
  go_wp2
  go_ret
  exact ⟨ret_bool (by rw [HD.out,decide_eq_false H1.out];rfl),d0⟩
 have e1:((m.vals.length:Int) != (nv:Int))=false:=by simp;omega
 have H1:=Hi h1;clear h1;by_cases h2:m.arrs.length=na
 rotate_left
 ·have e2:((m.arrs.length:Int) != (na:Int))=true:=by simp;omega
  have H2:=Hi h2;clear h2;go_enter Tryz.func29,Tryz.ntmps29
  go_wp2
  go_ret
  exact ⟨ret_bool (by rw [HD.out,decide_eq_true H1.out,decide_eq_false H2.out];rfl),d0⟩
 have e2:((m.arrs.length:Int) != (na:Int))=false:=by simp;omega
 have H2:=Hi h2;clear h2;go_enter Tryz.func29,Tryz.ntmps29
 go_wp2_with fail
 refine (l3Values_any _ m.vals _ (HX.out.below d0)).mono ?_;rintro e w1 ⟨rfl,rfl⟩;obtain ⟨w1,h0⟩:∃ X,X=(w.alloc (.cells #[.slice a0 nv c0,.slice a1 na c1,.slice au nu cu] 26)).alloc (.cells #[.slice a2 m.vals.length c2,.slice a3 m.arrs.length c3] 29):=⟨_,rfl⟩;have b1:w1.cell? ⟨w.heap.size+1,1,none⟩=some (.slice a3 m.arrs.length c3):=by rw [h0];exact Wc (by simp) rfl
 have kb:=Lc b1;rw [← h0];rw [← h0] at d0;clear h0
 cases hq:valsOk m.vals with
 | false =>
  have HQ:=Hi hq;clear hq;go_wp2
  go_ret
  exact ⟨ret_bool (by rw [HD.out,decide_eq_true H1.out,decide_eq_true H2.out,HQ.out];rfl),d0⟩
 | true =>
  have HQ:=Hi hq;clear hq;go_wp2_with fail
  go_loopw [5] (fun i wr=>∃ k:Nat,k≤m.arrs.length∧i=.int .i64 k∧(∀ j (h:j < m.arrs.length),j < k→arrOk m.arrs[j]=true)∧Below w1.heap.size w1 wr) (fun i _=>m.arrs.length-(intOf i).toNat)
  case atStart=>exact ⟨0,Nat.zero_le _,rfl,fun j _ h=>absurd h (by omega),Bs w1⟩
  case round =>
   obtain ⟨k,hk,rfl,e0,b0⟩:=hrel;have HA:=Hi e0;clear e0;have g0:=btr d0 b0;have b2:=Kc b0 b1;have m0:=Lc b2;by_cases hlt:k < m.arrs.length
   ·obtain ⟨b,n0,u,rfl,hb,hc,hu⟩:=(HY.out.below g0).at k hlt;have HN:=Hi (fun h=>arrs_no hlt h)
    have k0:Hid (arrOk m.arrs[k]=true→∀ j (h:j < m.arrs.length),j < k+1→arrOk m.arrs[j]=true):=Hi (fun h j hj hlt2=>by
     by_cases e:j=k
     ·subst e;exact h
     exact HA.out j hj (by omega))
    have kc:=Lc hc;obtain ⟨pa,pc,rfl⟩:=reads_shape hu;have l0:=hu.2.1;have HU:=Hi (l3Values_any _ m.arrs[k] _ hu);have i0:=Hi (fun (h:¬m.arrs[k].length=4)=>arrOk_len h);have j0:=Hi (fun (h:m.arrs[k].length=4)=>arrOk_vals h);generalize arrOk m.arrs[k]=q at *
    generalize valsOk m.arrs[k]=q2 at *
    clear hu;by_cases h4:m.arrs[k].length=4
    ·have hd:((m.arrs[k].length:Int) != 4)=false:=by simp;omega
     have f0:=Hi (j0.out h4);clear h4;go_wp2_with fail
     refine HU.out.mono ?_;rintro e w3 ⟨rfl,rfl⟩;clear HU
     cases q2 with
     | true =>
      go_wp2
      go_roundw
      case rel=>exact ⟨k+1,by omega,by go_num,k0.out f0.out,b0⟩
      case measure=>simp [intOf];omega
     | false =>
      go_wp2
      go_ret
      exact ⟨ret_bool (by rw [HD.out,decide_eq_true H1.out,decide_eq_true H2.out,HQ.out,HN.out f0.out];rfl),g0⟩
    have hd:((m.arrs[k].length:Int) != 4)=true:=by simp;omega
    have f0:=Hi (i0.out h4);clear h4;go_wp2
    go_ret
    exact ⟨ret_bool (by rw [HD.out,decide_eq_true H1.out,decide_eq_true H2.out,HQ.out,HN.out f0.out];rfl),g0⟩
   have HZ:=Hi (arrs_yes (fun j h=>HA.out j h (by omega)));go_wp2
   go_ret
   exact ⟨ret_bool (by rw [HD.out,decide_eq_true H1.out,decide_eq_true H2.out,HQ.out,HZ.out];rfl),g0⟩
end Go.Proofs.YtlckklglbodgbaaGreat
