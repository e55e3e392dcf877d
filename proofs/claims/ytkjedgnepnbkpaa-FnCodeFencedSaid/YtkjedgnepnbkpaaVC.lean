/-
 Parts of the proofs of the laws FnCodeFenced,FnCountBranches.
-/
import Derived.Test.YtkjedgnepnbkpaaVA
set_option linter.all false
namespace Go.Proofs.Ytkjedgnepnbkpaa
open Go.RowKit
theorem notInstr_any (a0 a1 a2:Option Addr) (nv na nl c0 c1 c2 B:Nat) (x:Ins) (w:World) (b0:w.cell? ⟨B,0,none⟩=some (.slice a0 nv c0)) (b1:w.cell? ⟨B,1,none⟩=some (.slice a1 na c1)) (b2:w.cell? ⟨B,2,none⟩=some (.slice a2 nl c2))
  (h0:nv≤9223372036854775807) (h1:na≤9223372036854775807) (h2:nl≤9223372036854775807) :
  Calls Try.prog 95 #[.agg #[.int .i64 x.op,.int .i64 x.a,.int .i64 x.b,.int .i64 x.c,.int .i64 x.d],.pointer (some ⟨B,0,none⟩)] w fun e w'=>e=.returned (.bool (!insOk nv na nl x))∧Below w.heap.size w w':=by
 have d0:=bal (Bs w) (.cells #[.int .i64 x.op,.int .i64 x.a,.int .i64 x.b,.int .i64 x.c,.int .i64 x.d] 32)
 have k0:=Lc b0
 go_enter Try.func95,Try.ntmps95
 go_wp2_with fail
 refine (instrOk_any a0 a1 a2 nv na nl c0 c1 c2 x _ h0 h1 h2).mono ?_
 rintro e w1 ⟨rfl,hb⟩
 replace d0:=btr d0 hb
 clear hb
 go_wp2
 go_ret
 exact ⟨rfl,d0⟩
theorem all_succ_ins {l:List Ins} {P:Ins→Bool} {k:Nat} (hk:k < l.length) (h:∀ j (h:j < l.length),j < k→P l[j]=true) (hx:P l[k]=true):∀ j (h:j < l.length),j < k+1→P l[j]=true:=by
 intro j hj a0
 by_cases e:j=k
 ·subst e;exact hx
 exact h j hj (by omega)
theorem idxInstr_any (a0 a1 a2:Option Addr) (nv na nl c0 c1 c2 B:Nat) (v:Value) (l:List Ins) (w:World) (hr:Reads w 5 v l.length (inss l)) (b0:w.cell? ⟨B,0,none⟩=some (.slice a0 nv c0)) (b1:w.cell? ⟨B,1,none⟩=some (.slice a1 na c1)) (b2:w.cell? ⟨B,2,none⟩=some (.slice a2 nl c2))
  (h0:nv≤9223372036854775807) (h1:na≤9223372036854775807) (h2:nl≤9223372036854775807) :
  Calls Try.prog 140 #[v,.func (.func 95) #[] #[.pointer (some ⟨B,0,none⟩)]] w fun e w'=>∃ r:Int,e=.returned (.int .i64 r)∧decide (0≤r)=!l.all (insOk nv na nl)∧Below w.heap.size w w':=by
 obtain ⟨_,hn,a,n0,b,j0,rfl,m0,ha,l0⟩:=hr
 have HC:=Lib.hid (reads_Instr l0)
 clear l0
 go_enter Try.func140,Try.ntmps140
 go_wp2
 go_loopw [8] (fun i wr=>∃ k:Nat,k≤l.length∧i=.int .i64 k∧(∀ j (h:j < l.length),j < k→insOk nv na nl l[j]=true)∧Below w.heap.size w wr) (fun i _=>l.length-(intOf i).toNat)
 case atStart=>exact ⟨0,Nat.zero_le _,rfl,fun j _ h=>absurd h (by omega),Below.refl _ _⟩
 case round =>
  obtain ⟨k,hk,rfl,g0,d0⟩:=hrel
  have HA:=Lib.hid g0;clear g0
  by_cases hlt:k < l.length
  ·obtain ⟨rfl,i0⟩:=ha (by omega)
   obtain ⟨e0,e1,e2,e3,e4⟩:=HC.out k hlt
   have e0:=(d0.cell (p:=⟨b,j0+k*5,none⟩) i0).trans e0
   have e1:=(d0.cell (p:=⟨b,j0+k*5+1,none⟩) i0).trans e1
   have e2:=(d0.cell (p:=⟨b,j0+k*5+2,none⟩) i0).trans e2
   have e3:=(d0.cell (p:=⟨b,j0+k*5+3,none⟩) i0).trans e3
   have e4:=(d0.cell (p:=⟨b,j0+k*5+4,none⟩) i0).trans e4
   have f0:=Kc d0 b0
   have f1:=Kc d0 b1
   have f2:=Kc d0 b2
   clear HC ha
   have HN:=Lib.hid (fun (h:insOk nv na nl l[k]=false)=>show l.all (insOk nv na nl)=false by rw [List.all_eq_false];exact ⟨l[k],List.getElem_mem hlt,by simp [h]⟩)
   have HY:=Lib.hid (fun (h:insOk nv na nl l[k]=true)=>all_succ_ins (P:=insOk nv na nl) hlt HA.out h)
   generalize l[k]=x at *
   go_wp2_with fail
   refine (notInstr_any a0 a1 a2 nv na nl c0 c1 c2 B x _ f0 f1 f2 h0 h1 h2).mono ?_
   rintro e w1 ⟨rfl,hb⟩
   have k0:=btr d0 hb
   cases hok:insOk nv na nl x with
   | true =>
    have HO:=Lib.hid hok;clear hok hb d0
    go_wp2
    go_roundw
    case rel=>exact ⟨k+1,by omega,by go_num,HY.out HO.out,k0⟩
    case measure=>simp [intOf];omega
   | false =>
    have HO:=Lib.hid hok;clear hok hb d0
    go_wp2
    go_ret
    exact ⟨(k:Int),rfl,by rw [HN.out HO.out];simp,k0⟩
  go_wp2
  go_ret
  exact ⟨-1,rfl,by rw [show l.all (insOk nv na nl)=true from by rw [List.all_eq_true];intro x hx;obtain ⟨j,hj,rfl⟩:=List.getElem_of_mem hx;exact HA.out j hj (by omega)];rfl,d0⟩
theorem hasInstr_any (a0 a1 a2:Option Addr) (nv na nl c0 c1 c2 B:Nat) (v:Value) (l:List Ins) (w:World) (hr:Reads w 5 v l.length (inss l)) (b0:w.cell? ⟨B,0,none⟩=some (.slice a0 nv c0)) (b1:w.cell? ⟨B,1,none⟩=some (.slice a1 na c1)) (b2:w.cell? ⟨B,2,none⟩=some (.slice a2 nl c2))
  (h0:nv≤9223372036854775807) (h1:na≤9223372036854775807) (h2:nl≤9223372036854775807) :
  Calls Try.prog 94 #[v,.func (.func 95) #[] #[.pointer (some ⟨B,0,none⟩)]] w fun e w'=>e=.returned (.bool (!l.all (insOk nv na nl)))∧Below w.heap.size w w':=by
 go_enter Try.func94,Try.ntmps94
 go_wp2_with fail
 refine (idxInstr_any a0 a1 a2 nv na nl c0 c1 c2 B _ l _ hr b0 b1 b2 h0 h1 h2).mono ?_
 rintro e w1 ⟨r,rfl,p0,hb⟩
 clear hr b0 b1 b2
 go_wp2
 go_ret
 exact ⟨rfl,hb⟩
set_option maxHeartbeats 1600000 in
theorem iCodeValid_any (va vb vc:Value) (c:Cd) (w:World) (hr:ReadsC w va vb vc c) :
  Calls Try.prog 39 #[.agg #[va,vb,vc]] w fun e w'=>e=.returned (.bool (codeOk c))∧Below w.heap.size w w':=by
 obtain ⟨a0,c0,a1,c1,a2,c2,rfl,rfl,rfl⟩:=hr.shape
 have HD:Hid (codeOk c=(declOk c.vars c.arrays&&(wi c.list.length 1 400&&(c.list.all (insOk c.vars.length c.arrays.length c.list.length)&&lastOk c.list)))):=Lib.hid (by unfold codeOk wi;rw [show decide (1≤c.list.length∧c.list.length≤400)=decide ((1:Int)≤c.list.length∧(c.list.length:Int)≤400) from by rw [decide_eq_decide];omega])
 have n0:=hr.a.2.1
 have n1:=hr.b.2.1
 have n2:=hr.l.2.1
 generalize codeOk c=D at *
 have d0:=bal (Bs w) (.cells #[.slice a0 c.vars.length c0,.slice a1 c.arrays.length c1,.slice a2 c.list.length c2] 26)
 go_enter Try.func39,Try.ntmps39
 go_wp2_with fail
 refine (declared_any _ _ c.vars c.arrays _ (hr.below d0).a (hr.below d0).b).mono ?_
 rintro e w1 ⟨rfl,hb⟩
 have b0:w1.cell? ⟨w.heap.size,0,none⟩=some (.slice a0 c.vars.length c0):=Kc hb (Wc (by simp) (by rfl))
 have b1:w1.cell? ⟨w.heap.size,1,none⟩=some (.slice a1 c.arrays.length c1):=Kc hb (Wc (by simp) (by rfl))
 have b2:w1.cell? ⟨w.heap.size,2,none⟩=some (.slice a2 c.list.length c2):=Kc hb (Wc (by simp) (by rfl))
 replace d0:=btr d0 hb
 clear hb
 generalize declOk c.vars c.arrays=q1 at *
 cases q1 with
 | false =>
  clear hr
  go_wp2
  go_ret
  exact ⟨ret_bool (by rw [HD.out];rfl),d0⟩
 | true =>
  go_wp2_with fail
  refine (within_any _ 1 400 _).mono ?_
  rintro e w2 ⟨rfl,hb⟩
  replace b0:=Kc hb b0
  replace b1:=Kc hb b1
  replace b2:=Kc hb b2
  replace d0:=btr d0 hb
  clear hb
  cases hq2:wi c.list.length 1 400 with
  | false =>
   rw [hq2] at HD
   clear hr hq2
   go_wp2
   go_ret
   exact ⟨ret_bool (by rw [HD.out];rfl),d0⟩
  | true =>
   rw [hq2] at HD
   have g0:=of_decide_eq_true hq2
   obtain ⟨l1,l2⟩:=g0
   clear hq2
   go_wp2_with fail
   refine (hasInstr_any a0 a1 a2 _ _ _ c0 c1 c2 w.heap.size _ c.list _ (hr.below d0).l b0 b1 b2 n0 n1 n2).mono ?_
   rintro e w3 ⟨rfl,hb⟩
   replace b0:=Kc hb b0
   replace b1:=Kc hb b1
   replace b2:=Kc hb b2
   replace d0:=btr d0 hb
   clear hb
   generalize c.list.all (insOk c.vars.length c.arrays.length c.list.length)=q3 at *
   cases q3 with
   | false =>
    clear hr
    go_wp2
    go_ret
    exact ⟨ret_bool (by rw [HD.out];rfl),d0⟩
   | true =>
    obtain ⟨_,hn,aa,k0,b,q0,hv,j0,ha,i0⟩:=(hr.below d0).l
    simp only [Value.slice.injEq,true_and] at hv
    obtain ⟨rfl,rfl⟩:=hv
    obtain ⟨rfl,l0⟩:=ha (by omega)
    obtain ⟨e0,_⟩:=reads_Instr i0 (c.list.length-1) (by omega)
    have HL:Hid (lastOk c.list=((c.list[c.list.length-1]'(by omega)).op == 13||(c.list[c.list.length-1]'(by omega)).op == 8)):=Lib.hid (by unfold lastOk;rw [List.getLast?_eq_getElem?,List.getElem?_eq_getElem (by omega)])
    generalize lastOk c.list=q4 at *
    generalize (c.list[c.list.length-1]'(by omega))=x at *
    clear hr i0 ha
    have f0:((c.list.length:Int)-1).toNat=c.list.length-1:=by omega
    generalize hm:c.list.length-1=m at *
    have m0:((c.list.length:Int)-1)=(m:Int):=by omega
    have o0:m < c.list.length:=by omega
    clear f0 hm
    by_cases h13:(x.op == 13)=true
    ·have HO:=Lib.hid h13
     go_wp2
     go_ret
     exact ⟨ret_bool (by rw [HD.out,HL.out,HO.out];rfl),d0⟩
    have h13':(x.op == 13)=false:=by simpa using h13
    have HO:=Lib.hid h13'
    clear h13
    go_wp2
    go_ret
    exact ⟨ret_bool (by rw [HD.out,HL.out,HO.out];rfl),d0⟩
end Go.Proofs.Ytkjedgnepnbkpaa
