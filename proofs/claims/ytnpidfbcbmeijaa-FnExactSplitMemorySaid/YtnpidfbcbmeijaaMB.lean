/-
 Parts of the proofs of the laws FnExactSplitMemory.
-/
import Derived.Test.YtnpidfbcbmeijaaGW
set_option linter.all false
namespace Go.Proofs.Ytnpidfbcbmeijaa
open Go.RowKit
def arrOk (a:List Int):Bool:=decide (a.length=4)&&valsOk a
def arrsOk (rs:List (List Int)):Bool:=rs.all arrOk
theorem memOk_eq (nv na:Nat) (m:Mm):memOk nv na m=(decide (m.vals.length=nv)&&(decide (m.arrs.length=na)&&(valsOk m.vals&&arrsOk m.arrs))):=rfl
theorem arrs_no {L:List (List Int)} {k:Nat} (h:k < L.length) (h2:arrOk L[k]=false):arrsOk L=false:=by
 unfold arrsOk;rw [List.all_eq_false]
 exact ⟨_,List.getElem_mem h,by simp [h2]⟩
theorem arrs_yes {L:List (List Int)} (h:∀ k (hk:k < L.length),arrOk L[k]=true):arrsOk L=true:=by
 unfold arrsOk;rw [List.all_eq_true]
 intro r hr;obtain ⟨k,hk,rfl⟩:=List.getElem_of_mem hr;exact h k hk
theorem arrOk_len {a:List Int} (h:¬a.length=4):arrOk a=false:=by unfold arrOk;rw [decide_eq_false h];rfl
theorem arrOk_vals {a:List Int} (h:a.length=4):arrOk a=valsOk a:=by unfold arrOk;rw [decide_eq_true h];rfl
theorem l3Values_any (v:Value) (xs:List Int) (w:World) (hr:Reads w 1 v xs.length (ints xs)) :
  Calls Try.prog 63 #[v] w fun e w'=>e=.returned (.bool (valsOk xs))∧w'=w:=by
 obtain ⟨_,hn,a,e0,b,g0,rfl,d0,ha,b0⟩:=hr;go_enter Try.func63,Try.ntmps63
 go_wp2
 go_loop [3] (fun i=>∃ k:Nat,k≤xs.length∧i=.int .i64 k∧(∀ j (h:j < xs.length),j < k→valOk xs[j]=true)) (fun i=>xs.length-(intOf i).toNat)
 case atStart=>exact ⟨0,Nat.zero_le _,rfl,fun j _ h=>absurd h (by omega)⟩
 case round =>
  obtain ⟨k,hk,rfl,a0⟩:=hrel;have HA:=Hi a0;clear a0;by_cases hlt:k < xs.length
  ·obtain ⟨rfl,f0⟩:=ha (by omega);have c0:=b0 k (by simpa [ints] using hlt);rw [ints_get] at c0;have HN:=Hi (fun h=>vals_no hlt h)
   have HY:Hid (valOk xs[k]=true→∀ j (h:j < xs.length),j < k+1→valOk xs[j]=true):=Hi (fun h j hj hlt2=>by
    by_cases e:j=k
    ·subst e;exact h
    exact HA.out j hj (by omega))
   clear b0 ha;generalize xs[k]=x at *
   by_cases h0:x < 0
   ·have HV:Hid (valOk x=false):=Hi (decide_eq_false (p:=0≤x∧x≤255) (by omega));go_wp2
    go_ret
    exact ⟨ret_bool (HN.out HV.out).symm,rfl⟩
   by_cases h1:255 < x
   ·have HV:Hid (valOk x=false):=Hi (decide_eq_false (p:=0≤x∧x≤255) (by omega));go_wp2
    go_ret
    exact ⟨ret_bool (HN.out HV.out).symm,rfl⟩
   have HV:Hid (valOk x=true):=Hi (decide_eq_true (p:=0≤x∧x≤255) (by omega));go_wp2
   go_round
   case rel=>exact ⟨k+1,by omega,by go_num,HY.out HV.out⟩
   case measure=>simp [intOf];omega
  have HZ:=Hi (vals_all (fun j h=>HA.out j h (by omega)));go_wp2
  go_ret
  exact ⟨ret_bool HZ.out.symm,rfl⟩
theorem notArr_any (u:Value) (xs:List Int) (w:World) (hu:Reads w 1 u xs.length (ints xs)) :
  Calls Try.prog 66 #[u] w fun e w'=>e=.returned (.bool (!arrOk xs))∧Below w.heap.size w w':=by
 have a0:=hu;obtain ⟨a,c,rfl⟩:=reads_shape hu;have hn:=hu.2.1;by_cases h:xs.length=4
 ·have hd:((xs.length:Int) != 4)=false:=by simp;omega
  have HA:=Hi (arrOk_vals h);have HR:=Hi a0;clear h hu a0;go_enter Try.func66,Try.ntmps66
  go_wp2_with fail
  refine (areValues_any _ xs _ HR.out).mono ?_;rintro e w1 ⟨rfl,hb⟩;go_wp2
  go_ret
  exact ⟨ret_bool (by rw [HA.out]),hb⟩
 have hd:((xs.length:Int) != 4)=true:=by simp;omega
 have HA:=Hi (arrOk_len h);clear h hu a0;go_enter Try.func66,Try.ntmps66
 go_wp2
 go_ret
 exact ⟨ret_bool (by rw [HA.out];rfl),Bs w⟩
theorem idxArr_any (v:Value) (L:List (List Int)) (w:World) (hr:Reads2 ints w v L) :
  Calls Try.prog 87 #[v,.func (.func 66) #[] #[]] w fun e w'=>∃ r:Int,e=.returned (.int .i64 r)∧decide (0≤r)=!arrsOk L∧Below w.heap.size w w':=by
 obtain ⟨a,c,rfl⟩:=hr.shape;have hn:=hr.lenle;have HR:=Hi hr;clear hr;go_enter Try.func87,Try.ntmps87
 go_wp2
 go_loopw [8] (fun i wr=>∃ k:Nat,k≤L.length∧i=.int .i64 k∧(∀ j (h:j < L.length),j < k→arrOk L[j]=true)∧Below w.heap.size w wr) (fun i _=>L.length-(intOf i).toNat)
 case atStart=>exact ⟨0,Nat.zero_le _,rfl,fun j _ h=>absurd h (by omega),Bs w⟩
 case round =>
  obtain ⟨k,hk,rfl,b0,a0⟩:=hrel;have HA:=Hi b0;clear b0;by_cases hlt:k < L.length
  ·obtain ⟨b,e0,u,rfl,hb,hc,hu⟩:=(HR.out.below a0).at k hlt;have HN:=Hi (fun h=>arrs_no hlt h)
   have HY:Hid (arrOk L[k]=true→∀ j (h:j < L.length),j < k+1→arrOk L[j]=true):=Hi (fun h j hj hlt2=>by
    by_cases e:j=k
    ·subst e;exact h
    exact HA.out j hj (by omega))
   have kc:=Lc hc;have HU:=Hi (notArr_any u L[k] _ hu);generalize arrOk L[k]=q at *
   clear hu;go_wp2_with fail
   refine HU.out.mono ?_;rintro e w1 ⟨rfl,c0⟩;have d0:=btr a0 c0;clear hc HU
   cases q with
   | true =>
    clear c0 a0;go_wp2
    go_roundw
    case rel=>exact ⟨k+1,by omega,by go_num,HY.out (by trivial),d0⟩
    case measure=>simp [intOf];omega
   | false =>
    clear c0 a0;go_wp2
    go_ret
    exact ⟨(k:Int),rfl,by rw [HN.out (by trivial)];simp,d0⟩
  go_wp2
  go_ret
  exact ⟨-1,rfl,by rw [arrs_yes (fun j h=>HA.out j h (by omega))];rfl,a0⟩
theorem hasArr_any (v:Value) (L:List (List Int)) (w:World) (hr:Reads2 ints w v L) :
  Calls Try.prog 65 #[v,.func (.func 66) #[] #[]] w fun e w'=>e=.returned (.bool (!arrsOk L))∧Below w.heap.size w w':=by
 go_enter Try.func65,Try.ntmps65
 go_wp2_with fail
 refine (idxArr_any _ L _ hr).mono ?_;rintro e w1 ⟨r,rfl,d0,hb⟩;clear hr;go_wp2
 go_ret
 exact ⟨rfl,hb⟩
set_option maxHeartbeats 1600000 in
theorem isMemory_any (va vb vx vy:Value) (xs ys:List Int) (m:Mm) (w:World) (ha:Reads w 1 va xs.length (ints xs)) (hb:Reads w 1 vb ys.length (ints ys)) (hx:Reads w 1 vx m.vals.length (ints m.vals)) (hy:Reads2 ints w vy m.arrs) :
  Calls Try.prog 42 #[va,vb,.agg #[vx,vy]] w fun e w'=>e=.returned (.bool (memOk xs.length ys.length m))∧Below w.heap.size w w':=by
 have n0:=ha.2.1;have n1:=hb.2.1;have n2:=hx.2.1;have n3:=hy.lenle;obtain ⟨a0,c0,rfl⟩:=reads_shape ha;obtain ⟨a1,c1,rfl⟩:=reads_shape hb;have HX:=Hi hx;have HY:=Hi hy;obtain ⟨a2,c2,rfl⟩:=reads_shape hx;obtain ⟨a3,c3,rfl⟩:=hy.shape;clear ha hb hx hy;have HD:=Hi (memOk_eq xs.length ys.length m);generalize memOk xs.length ys.length m=D at *
 have b0:=bal (Bs w) (.cells #[.slice a2 m.vals.length c2,.slice a3 m.arrs.length c3] 40);by_cases h1:m.vals.length=xs.length
 rotate_left
 ·have e1:((m.vals.length:Int) != (xs.length:Int))=true:=by simp;omega
  have H1:=Hi h1;clear h1;go_enter Try.func42,Try.ntmps42
  go_wp2
  go_ret
  exact ⟨ret_bool (by rw [HD.out,decide_eq_false H1.out];rfl),b0⟩
 have e1:((m.vals.length:Int) != (xs.length:Int))=false:=by simp;omega
 have H1:=Hi h1;clear h1;by_cases h2:m.arrs.length=ys.length
 rotate_left
 ·have e2:((m.arrs.length:Int) != (ys.length:Int))=true:=by simp;omega
  have H2:=Hi h2;clear h2;go_enter Try.func42,Try.ntmps42
  go_wp2
  go_ret
  exact ⟨ret_bool (by rw [HD.out,decide_eq_true H1.out,decide_eq_false H2.out];rfl),b0⟩
 have e2:((m.arrs.length:Int) != (ys.length:Int))=false:=by simp;omega
 have H2:=Hi h2;clear h2;go_enter Try.func42,Try.ntmps42
 go_wp2_with fail
 refine (areValues_any _ m.vals _ (HX.out.below b0)).mono ?_;rintro e w1 ⟨rfl,hb⟩;have b1:w1.cell? ⟨w.heap.size,1,none⟩=some (.slice a3 m.arrs.length c3):=Kc hb (Wc (by simp) (by rfl));have kb:=Lc b1;replace b0:=btr b0 hb;clear hb;generalize valsOk m.vals=q at *
 cases q with
 | false =>
  go_wp2
  go_ret
  exact ⟨ret_bool (by rw [HD.out,decide_eq_true H1.out,decide_eq_true H2.out];rfl),b0⟩
 | true =>
  go_wp2_with fail
  refine (hasArr_any _ m.arrs _ (HY.out.below b0)).mono ?_;rintro e w2 ⟨rfl,hb⟩;go_wp2
  go_ret
  exact ⟨ret_bool (by rw [HD.out,decide_eq_true H1.out,decide_eq_true H2.out];simp),btr b0 hb⟩
end Go.Proofs.Ytnpidfbcbmeijaa
