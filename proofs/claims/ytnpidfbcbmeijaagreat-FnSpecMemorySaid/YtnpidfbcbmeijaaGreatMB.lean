/-
 Parts of the proofs of the laws FnRemoveDead,FnRemoveDeadLeak,FnSpecFenced,FnSpecMemory.
-/
import Derived.Test.YtnpidfbcbmeijaaGreatY
import Derived.Test.YtnpidfbcbmeijaaGreatKq1
set_option maxHeartbeats 12800000
set_option maxRecDepth 100000
set_option linter.all false
namespace Go.Proofs.YtnpidfbcbmeijaaGreat
open Go.RowKit
theorem l3Values_any (v:Value) (xs:List Int) (w:World) (hr:Reads w 1 v xs.length (ints xs)) :
  Calls Tryz.prog 83 #[v] w fun e w'=>e=.returned (.bool (valsOk xs))∧w'=w:=by
 obtain ⟨_,hn,a,e0,b,g0,rfl,d0,ha,b0⟩:=hr;go_enter Tryz.func83,Tryz.ntmps83
 go_wp2
 go_loop [3] (fun i=>∃ k:Nat,k≤xs.length∧i=.int .i64 k∧(∀ j (h:j < xs.length),j < k→valOk xs[j]=true)) (fun i=>xs.length-(intOf i).toNat)
 case atStart=>exact ⟨0,Nat.zero_le _,rfl,fun j _ h=>absurd h (by omega)⟩
 case round =>
  obtain ⟨k,hk,rfl,a0⟩:=hrel;have HA:=Hi a0;clear a0;by_cases hlt:k < xs.length
  ·obtain ⟨rfl,f0⟩:=ha (by omega);have c0:=b0 k (by simpa [ints] using hlt);rw [ints_get] at c0;have HN:=Hi (fun h=>vals_no hlt h)
   have HY:Hid (valOk xs[k]=true→∀ j (h:j < xs.length),j < k+1→valOk xs[j]=true):=Hi (fun h j hj hlt2=>by
    by_cases e:j=k
    ·subst e;exact h
    exact HA.out j hj (by omega))
   clear b0 ha;generalize xs[k]=x at *
   by_cases h0:x < 0
   ·have HV:Hid (valOk x=false):=Hi (decide_eq_false (p:=0≤x∧x≤255) (by omega));go_wp2
    go_ret
    exact ⟨ret_bool (HN.out HV.out).symm,rfl⟩
   by_cases h1:255 < x
   ·have HV:Hid (valOk x=false):=Hi (decide_eq_false (p:=0≤x∧x≤255) (by omega));go_wp2
    go_ret
    exact ⟨ret_bool (HN.out HV.out).symm,rfl⟩
   have HV:Hid (valOk x=true):=Hi (decide_eq_true (p:=0≤x∧x≤255) (by omega));go_wp2
   go_round
   case rel=>exact ⟨k+1,by omega,by go_num,HY.out HV.out⟩
   case measure=>simp [intOf];omega
  have HZ:=Hi (vals_all (fun j h=>HA.out j h (by omega)));go_wp2
  go_ret
  exact ⟨ret_bool HZ.out.symm,rfl⟩
theorem l3Fits_any (a0 a1:Option Addr) (nv na c0 c1:Nat) (vx vy:Value) (m:Mm) (w:World) (_n0:nv≤9223372036854775807) (_n1:na≤9223372036854775807) (hx:Reads w 1 vx m.vals.length (ints m.vals)) (hy:Reads2 ints w vy m.arrs) :
  Calls Tryz.prog 49 #[.agg #[.slice a0 nv c0,.slice a1 na c1,.slice none 0 0],.agg #[vx,vy]] w fun e w'=>e=.returned (.bool (memOk nv na m))∧Below w.heap.size w w':=by
 have n2:=hx.2.1;have n3:=hy.lenle;have HX:=Hi hx;have HY:=Hi hy;obtain ⟨a2,c2,rfl⟩:=reads_shape hx;obtain ⟨a3,c3,rfl⟩:=hy.shape;clear hx hy;have HD:=Hi (memOk_eq nv na m);generalize memOk nv na m=D at *
 have d0:=bal (bal (Bs w) (.cells #[.slice a0 nv c0,.slice a1 na c1,.slice none 0 0] 57)) (.cells #[.slice a2 m.vals.length c2,.slice a3 m.arrs.length c3] 29);by_cases h1:m.vals.length=nv
 rotate_left
 ·have e1:((m.vals.length:Int) != (nv:Int))=true:=by simp;omega
  have H1:=Hi h1;clear h1;go_enter Tryz.func49,Tryz.ntmps49
  go_wp2
  go_ret
  exact ⟨ret_bool (by rw [HD.out,decide_eq_false H1.out];rfl),d0⟩
 have e1:((m.vals.length:Int) != (nv:Int))=false:=by simp;omega
 have H1:=Hi h1;clear h1;by_cases h2:m.arrs.length=na
 rotate_left
 ·have e2:((m.arrs.length:Int) != (na:Int))=true:=by simp;omega
  have H2:=Hi h2;clear h2;go_enter Tryz.func49,Tryz.ntmps49
  go_wp2
  go_ret
  exact ⟨ret_bool (by rw [HD.out,decide_eq_true H1.out,decide_eq_false H2.out];rfl),d0⟩
 have e2:((m.arrs.length:Int) != (na:Int))=false:=by simp;omega
 have H2:=Hi h2;clear h2;go_enter Tryz.func49,Tryz.ntmps49
 go_wp2_with fail
 refine (l3Values_any _ m.vals _ (HX.out.below d0)).mono ?_;rintro e w1 ⟨rfl,rfl⟩;obtain ⟨w1,h0⟩:∃ X,X=(w.alloc (.cells #[.slice a0 nv c0,.slice a1 na c1,.slice none 0 0] 57)).alloc (.cells #[.slice a2 m.vals.length c2,.slice a3 m.arrs.length c3] 29):=⟨_,rfl⟩;have b1:w1.cell? ⟨w.heap.size+1,1,none⟩=some (.slice a3 m.arrs.length c3):=by rw [h0];exact Wc (by simp) rfl
 have kb:=Lc b1;rw [← h0];rw [← h0] at d0;clear h0
 cases hq:valsOk m.vals with
 | false =>
  have HQ:=Hi hq;clear hq;go_wp2
  go_ret
  exact ⟨ret_bool (by rw [HD.out,decide_eq_true H1.out,decide_eq_true H2.out,HQ.out];rfl),d0⟩
 | true =>
  have HQ:=Hi hq;clear hq;go_wp2_with fail
  go_loopw [5] (fun i wr=>∃ k:Nat,k≤m.arrs.length∧i=.int .i64 k∧(∀ j (h:j < m.arrs.length),j < k→arrOk m.arrs[j]=true)∧Below w1.heap.size w1 wr) (fun i _=>m.arrs.length-(intOf i).toNat)
  case atStart=>exact ⟨0,Nat.zero_le _,rfl,fun j _ h=>absurd h (by omega),Bs w1⟩
  case round =>
   obtain ⟨k,hk,rfl,e0,b0⟩:=hrel;have HA:=Hi e0;clear e0;have g0:=btr d0 b0;have b2:=Kc b0 b1;have m0:=Lc b2;by_cases hlt:k < m.arrs.length
   ·obtain ⟨b,n0,u,rfl,hb,hc,hu⟩:=(HY.out.below g0).at k hlt;have HN:=Hi (fun h=>arrs_no hlt h)
    have k0:Hid (arrOk m.arrs[k]=true→∀ j (h:j < m.arrs.length),j < k+1→arrOk m.arrs[j]=true):=Hi (fun h j hj hlt2=>by
     by_cases e:j=k
     ·subst e;exact h
     exact HA.out j hj (by omega))
    have kc:=Lc hc;obtain ⟨pa,pc,rfl⟩:=reads_shape hu;have l0:=hu.2.1;have HU:=Hi (l3Values_any _ m.arrs[k] _ hu);have i0:=Hi (fun (h:¬m.arrs[k].length=4)=>arrOk_len h);have j0:=Hi (fun (h:m.arrs[k].length=4)=>arrOk_vals h);generalize arrOk m.arrs[k]=q at *
    generalize valsOk m.arrs[k]=q2 at *
    clear hu;by_cases h4:m.arrs[k].length=4
    ·have hd:((m.arrs[k].length:Int) != 4)=false:=by simp;omega
     have f0:=Hi (j0.out h4);clear h4;go_wp2_with fail
     refine HU.out.mono ?_;rintro e w3 ⟨rfl,rfl⟩;clear HU
     cases q2 with
     | true =>
      go_wp2
      go_roundw
      case rel=>exact ⟨k+1,by omega,by go_num,k0.out f0.out,b0⟩
      case measure=>simp [intOf];omega
     | false =>
      go_wp2
      go_ret
      exact ⟨ret_bool (by rw [HD.out,decide_eq_true H1.out,decide_eq_true H2.out,HQ.out,HN.out f0.out];rfl),g0⟩
    have hd:((m.arrs[k].length:Int) != 4)=true:=by simp;omega
    have f0:=Hi (i0.out h4);clear h4;go_wp2
    go_ret
    exact ⟨ret_bool (by rw [HD.out,decide_eq_true H1.out,decide_eq_true H2.out,HQ.out,HN.out f0.out];rfl),g0⟩
   have HZ:=Hi (arrs_yes (fun j h=>HA.out j h (by omega)));go_wp2
   go_ret
   exact ⟨ret_bool (by rw [HD.out,decide_eq_true H1.out,decide_eq_true H2.out,HQ.out,HZ.out];rfl),g0⟩
theorem l3Bool_any (b:Bool) (w:World):Calls Tryz.prog 132 #[.bool b] w fun e w'=>e=.returned (.int .i64 (tru b))∧w'=w:=by
 cases b
 all_goals
  go_enter Tryz.func132,Tryz.ntmps132
  go_wp2
  go_ret
  exact ⟨rfl,rfl⟩
theorem l3Address_any (a i:Int) (w:World) (ha:0≤a∧a≤1048576) (hi:0≤i∧i≤255) :
  Calls Tryz.prog 115 #[.int .i64 a,.int .i64 i] w fun e w'=>e=.returned (.int .i64 (adr a i))∧w'=w:=by
 go_enter Tryz.func115,Tryz.ntmps115
 go_wp2
 go_ret
 exact ⟨rfl,rfl⟩
theorem l3Bin_any (k a b:Int) (w:World) (hk:4≤k∧k≤10) (ha:0≤a∧a≤255) (hb:0≤b∧b≤255) :
  Calls Tryz.prog 116 #[.int .i64 k,.int .i64 a,.int .i64 b] w fun e w'=>e=.returned (.int .i64 (opr k a b))∧w'=w:=by
 have HM:=Hi (mul_rem ha hb);rcases opr_cases hk with rfl | rfl | rfl | rfl | rfl | rfl | rfl
 ·clear hk;go_enter Tryz.func116,Tryz.ntmps116
  go_wp2
  go_ret
  exact ⟨rfl,rfl⟩
 ·clear hk;go_enter Tryz.func116,Tryz.ntmps116
  go_wp2
  go_ret
  exact ⟨rfl,rfl⟩
 ·clear hk;go_enter Tryz.func116,Tryz.ntmps116
  go_wp2
  go_ret
  exact ⟨ret_int HM.out,rfl⟩
 ·clear hk;go_enter Tryz.func116,Tryz.ntmps116
  go_wp2
  go_ret
  exact ⟨rfl,rfl⟩
 ·clear hk;go_enter Tryz.func116,Tryz.ntmps116
  go_wp2
  go_ret
  exact ⟨rfl,rfl⟩
 ·clear hk;have HO:Hid (opr 9 a b=tru (a == b)):=Hi rfl;obtain ⟨q,hq⟩:∃ q:Bool,(a == b)=q:=⟨_,rfl⟩;rw [hq] at HO;go_enter Tryz.func116,Tryz.ntmps116
  go_wp2_with fail
  refine (l3Bool_any q _).mono ?_;rintro e w1 ⟨rfl,rfl⟩;clear hq;cases q
  all_goals
   go_wp2
   go_ret
   exact ⟨ret_int HO.out.symm,rfl⟩
 clear hk;have HO:Hid (opr 10 a b=tru (decide (a < b))):=Hi rfl;obtain ⟨q,hq⟩:∃ q:Bool,(decide (a < b))=q:=⟨_,rfl⟩;rw [hq] at HO;go_enter Tryz.func116,Tryz.ntmps116
 go_wp2_with fail
 refine (l3Bool_any q _).mono ?_;rintro e w1 ⟨rfl,rfl⟩;clear hq;cases q
 all_goals
  go_wp2
  go_ret
  exact ⟨ret_int HO.out.symm,rfl⟩
def mov (x:Ins) (rs:List Int) (k:Int):Int:=if x.op=8 then x.a else if x.op=9 then (if gi rs x.a=0 then x.b else k+1) else if x.op=10 then (if gi rs x.a≠0 then x.b else k+1) else if x.op=13 then k else k+1
theorem l6Move_any (op a b c d:Int) (v:Value) (rs:List Int) (k:Nat) (w:World) (hv:Reads w 1 v rs.length (ints rs)) (hk:(k:Int)≤1048576) (h9:op=9∨op=10→0≤a∧a < rs.length) :
  Calls Tryz.prog 117 #[.agg #[.int .i64 op,.int .i64 a,.int .i64 b,.int .i64 c,.int .i64 d],v,.int .i64 (k:Int)] w fun e w'=>e=.returned (.int .i64 (mov ⟨op,a,b,c,d⟩ rs k))∧Below w.heap.size w w':=by
 have a0:=bal (Bs w) (.cells #[.int .i64 op,.int .i64 a,.int .i64 b,.int .i64 c,.int .i64 d] 62);obtain ⟨_,hn,aa,f0,b',k0,rfl,e0,ha,b0⟩:=hv;by_cases h8:op=8
 ·have HM:Hid (mov ⟨op,a,b,c,d⟩ rs k=a):=Hi (by unfold mov;rw [if_pos h8]);subst h8;clear h9 ha b0;go_enter Tryz.func117,Tryz.ntmps117
  go_wp2
  go_ret
  exact ⟨ret_int HM.out.symm,a0⟩
 have e8:(op == 8)=false:=by simp [h8]
 by_cases h9':op=9∨op=10
 ·obtain ⟨p1,p2⟩:=h9 h9';obtain ⟨na,rfl⟩:∃ n:Nat,a=n:=⟨a.toNat,by omega⟩;obtain ⟨rfl,i0⟩:=ha (by omega);have d0:na < rs.length:=by omega
  have hc:=b0 na (by rw [ints_length];exact d0);rw [ints_get] at hc;have c0:gi rs na=rs[na]:=by unfold gi;rw [Int.toNat_natCast,List.getElem?_eq_getElem d0];rfl
  rw [← c0] at hc;have kc:=Lc hc;have j0:=Ac hc (.cells #[.int .i64 op,.int .i64 (na:Int),.int .i64 b,.int .i64 c,.int .i64 d] 62)
  have hM:mov ⟨op,(na:Int),b,c,d⟩ rs k=if op=9 then (if gi rs na=0 then b else (k:Int)+1) else (if gi rs na≠0 then b else (k:Int)+1):=by
   unfold mov;rw [if_neg h8];simp only
   rcases h9' with rfl | rfl <;> simp
  have HM:=Hi hM;generalize mov ⟨op,(na:Int),b,c,d⟩ rs k=z at *
  generalize gi rs na=y at *
  clear hM c0 b0 ha h9;rcases h9' with rfl | rfl
  ·by_cases hy:y=0
   ·have HZ:Hid (z=b):=Hi (by rw [HM.out,if_pos rfl,if_pos hy]);subst hy;clear HM;go_enter Tryz.func117,Tryz.ntmps117
    go_wp2
    go_ret
    exact ⟨ret_int HZ.out.symm,a0⟩
   have HZ:Hid (z=(k:Int)+1):=Hi (by rw [HM.out,if_pos rfl,if_neg hy]);have e9:(y == 0)=false:=by simp [hy]
   clear HM hy;go_enter Tryz.func117,Tryz.ntmps117
   go_wp2
   go_ret
   exact ⟨ret_int HZ.out.symm,a0⟩
  by_cases hy:y=0
  ·have HZ:Hid (z=(k:Int)+1):=Hi (by rw [HM.out,if_neg (by decide),if_neg (fun h=>h hy)]);subst hy;clear HM;go_enter Tryz.func117,Tryz.ntmps117
   go_wp2
   go_ret
   exact ⟨ret_int HZ.out.symm,a0⟩
  have HZ:Hid (z=b):=Hi (by rw [HM.out,if_neg (by decide),if_pos hy]);have e9:(y != 0)=true:=by simp [hy]
  clear HM hy;go_enter Tryz.func117,Tryz.ntmps117
  go_wp2
  go_ret
  exact ⟨ret_int HZ.out.symm,a0⟩
 have e9:(op == 9)=false:=by simp;omega
 have g0:(op == 10)=false:=by simp;omega
 by_cases h13:op=13
 ·have HM:Hid (mov ⟨op,a,b,c,d⟩ rs k=k):=Hi (by unfold mov;rw [if_neg h8,if_neg (by simp only;omega),if_neg (by simp only;omega),if_pos h13]);subst h13;clear h9 ha b0 h9';go_enter Tryz.func117,Tryz.ntmps117
  go_wp2
  go_ret
  exact ⟨ret_int HM.out.symm,a0⟩
 have HM:Hid (mov ⟨op,a,b,c,d⟩ rs k=(k:Int)+1):=Hi (by unfold mov;rw [if_neg h8,if_neg (by simp only;omega),if_neg (by simp only;omega),if_neg h13]);have h0:(op == 13)=false:=by simp [h13]
 clear h9 ha b0 h9' h13 h8;go_enter Tryz.func117,Tryz.ntmps117
 go_wp2
 go_ret
 exact ⟨ret_int HM.out.symm,a0⟩
section
variable {S:Nat→Prop} {w W:World} {base b tb:Nat} {vr vv va u:Value} {us:List Value} {rs:List Int} {m:Mm} {E:List Ev} {pc:Int}
theorem StepW.ret4 (h:StepW S w W base b vr vv va us rs m tb u E pc) (p:Int) (R:Nat) (hR:w.heap.size≤R) (hRm:¬OwnMB vr vv va us R) (hRe:¬u.ownBlock=some R) (x0 x1 x2 x3:Value) :
  OwnMv (((((W.setCell ⟨b,0,none⟩ (.int .i64 p)).setCell ⟨R,0,none⟩ x0).setCell ⟨R,1,none⟩ x1).setCell ⟨R,2,none⟩ x2).setCell ⟨R,3,none⟩ x3) base vr vv va us rs m ∧
  (((((W.setCell ⟨b,0,none⟩ (.int .i64 p)).setCell ⟨R,0,none⟩ x0).setCell ⟨R,1,none⟩ x1).setCell ⟨R,2,none⟩ x2).setCell ⟨R,3,none⟩ x3).ownsRow tb 84 2 u E.length (evs E) ∧
  Chg S w (((((W.setCell ⟨b,0,none⟩ (.int .i64 p)).setCell ⟨R,0,none⟩ x0).setCell ⟨R,1,none⟩ x1).setCell ⟨R,2,none⟩ x2).setCell ⟨R,3,none⟩ x3):=by
 obtain ⟨f1,f2,f3⟩:=h.fin p;refine ⟨(((f2.own.far R 0 x0 hRm).far R 1 x1 hRm).far R 2 x2 hRm).far R 3 x3 hRm,Oe (Oe (Oe (Oe f1 R 0 hRe x0) R 1 hRe x1) R 2 hRe x2) R 3 hRe x3,?_⟩;exact (((f3.setNew R 0 x0 (Or.inr hR)).setNew R 1 x1 (Or.inr hR)).setNew R 2 x2 (Or.inr hR)).setNew R 3 x3 (Or.inr hR)
theorem cells4 {W:World} {b R:Nat} {y z0 z1 z2 z3:Value} (hn:¬R=b) (h0:W.cell? ⟨R,0,none⟩=some z0) (h1:W.cell? ⟨R,1,none⟩=some z1) (h2:W.cell? ⟨R,2,none⟩=some z2) (h3:W.cell? ⟨R,3,none⟩=some z3) (x0 x1 x2 x3:Value) :
  (((((W.setCell ⟨b,0,none⟩ y).setCell ⟨R,0,none⟩ x0).setCell ⟨R,1,none⟩ x1).setCell ⟨R,2,none⟩ x2).setCell ⟨R,3,none⟩ x3).cell? ⟨R,0,none⟩=some x0 ∧
  (((((W.setCell ⟨b,0,none⟩ y).setCell ⟨R,0,none⟩ x0).setCell ⟨R,1,none⟩ x1).setCell ⟨R,2,none⟩ x2).setCell ⟨R,3,none⟩ x3).cell? ⟨R,1,none⟩=some x1 ∧
  (((((W.setCell ⟨b,0,none⟩ y).setCell ⟨R,0,none⟩ x0).setCell ⟨R,1,none⟩ x1).setCell ⟨R,2,none⟩ x2).setCell ⟨R,3,none⟩ x3).cell? ⟨R,2,none⟩=some x2 ∧
  (((((W.setCell ⟨b,0,none⟩ y).setCell ⟨R,0,none⟩ x0).setCell ⟨R,1,none⟩ x1).setCell ⟨R,2,none⟩ x2).setCell ⟨R,3,none⟩ x3).cell? ⟨R,3,none⟩=some x3:=by
 have g0:=Nc (b:=b) (j:=0) h0 (fun e=>hn e.1) y;have g1:=Nc (b:=b) (j:=0) h1 (fun e=>hn e.1) y;have g2:=Nc (b:=b) (j:=0) h2 (fun e=>hn e.1) y;have g3:=Nc (b:=b) (j:=0) h3 (fun e=>hn e.1) y;refine ⟨?_,?_,?_,?_⟩
 ·exact Nc (Nc (Nc (Tc _ R 0 x0 g0) (by simp) x1) (by simp) x2) (by simp) x3
 ·exact Nc (Nc (Tc _ R 1 x1 (Nc g1 (by simp) x0)) (by simp) x2) (by simp) x3
 ·exact Nc (Tc _ R 2 x2 (Nc (Nc g2 (by simp) x0) (by simp) x1)) (by simp) x3
 exact Tc _ R 3 x3 (Nc (Nc (Nc g3 (by simp) x0) (by simp) x1) (by simp) x2)
end
end Go.Proofs.YtnpidfbcbmeijaaGreat
