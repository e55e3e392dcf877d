/-
 Parts of the proofs of the laws FnCodeFenced,FnCountBranches.
-/
import Derived.Test.YtkjedgnepnbkpaaFI
import Derived.Test.YtkjedgnepnbkpaaFJ
import Derived.Test.YtkjedgnepnbkpaaUN
import Derived.Test.YtkjedgnepnbkpaaWA
import Derived.Test.YtkjedgnepnbkpaaZQ
set_option linter.all false
namespace Go.Proofs.Ytkjedgnepnbkpaa
open Go.RowKit
theorem fence_law {c D:Cd} (h:fenceR c=(D,true)):decide (c=D)=codeFenced c∧(brs c.list c.list.length=0→codeFenced c=true)∧D.list.length≤c.list.length+2*brs c.list c.list.length:=by
 by_cases hc:codeOk c=true∧cnt c.list c.list.length≤400
 ·rw [fenceR_yes hc] at h
  have hD:=(congrArg Prod.fst h).symm
  simp only at hD
  obtain ⟨h1,h2,h3⟩:=law_fenced hc
  subst hD
  exact ⟨h1.symm,h2,h3⟩
 rw [fenceR_no hc] at h
 cases congrArg Prod.snd h
theorem brs_lek (l:List Ins) (k:Nat):brs l k≤k:=by
 induction k with
 | zero=>exact Nat.le_refl _
 | succ k ih =>
  by_cases h:k < l.length
  ·rw [brs_succ l k h];split <;> omega
  simp only [brs];rw [List.getElem?_eq_none (by omega)];simp only;omega
set_option maxHeartbeats 12800000 in
set_option maxRecDepth 100000 in
theorem FnCodeFenced_walk (v:Value) (n:Nat) (vs:List Int) (w:World) (r0:Reads w 1 v n (vs.map (Value.int .u8))) (hv:∀ x ∈ vs,0≤x∧x < 256) :
  Calls Try.prog 3 #[v] w fun e w'=>e=.returned (.bool true)∧Below w.heap.size w w':=by
 obtain ⟨va,vc,rfl⟩:=reads_shape r0
 by_cases hn:n≤1048576
 case neg =>
  have p3:(1048576:Int) < (n:Int):=by omega
  clear r0
  go_enter Try.func3,Try.ntmps3
  go_wp2
  go_ret
  exact ⟨rfl,Below.refl _ _⟩
 have p3:¬(1048576:Int) < (n:Int):=by omega
 go_enter Try.func3,Try.ntmps3
 go_wp2_with fail
 refine (DrawCodeFenced_any _ n vs _ (r0.below (Bs w)) hv hn).mono ?_
 rintro e w1 ⟨g5,h5,i5,z4,x4,y4,rfl,z2,x0,hb⟩
 clear r0 hv
 obtain ⟨c,p0⟩:=RdC.of z2 x0.1 x0.2.1 x0.2.2
 clear z2 x0
 obtain ⟨a0,c0,a1,c1,a2,c2,rfl,rfl,rfl⟩:=p0.r.shape
 have s4:c.vars.length≤1000∧c.arrays.length≤1000∧c.list.length≤1000:=⟨p0.l0,p0.l1,p0.l2⟩
 have r3:=hb.size
 have n0:=btr (Bs w) hb
 clear hb
 have k0:=Bs w1
 have HC:=Lib.hid (fun W (hW:Below w1.heap.size w1 W)=>p0.r.below hW)
 clear p0
 obtain ⟨fb,x2⟩:∃ b,codeFenced c=b:=⟨_,rfl⟩
 obtain ⟨D,ok,b1⟩:∃ D ok,fenceR c=(D,ok):=⟨_,_,rfl⟩
 have t4:D.vars.length≤1048576∧D.arrays.length≤1048576∧D.list.length≤1048576:=by have:=fenceR_lens c;rw [b1] at this;exact this
 have v2:=Lib.hid b1;have w0:=Lib.hid x2;clear b1 x2
 go_wp2_with fail
 have i0:=iCodeFenced_any _ _ _ c _ (HC.out _ (bal k0 (.cells #[.slice a0 c.vars.length c0,.slice a1 c.arrays.length c1,.slice a2 c.list.length c2] 26)))
 rw [w0.out] at i0
 refine (i0).mono ?_
 rintro e w2 ⟨rfl,hb⟩
 clear i0
 replace k0:=btr (bal k0 _) hb
 have j1:=hb.size
 simp only [Sa] at j1
 have h0:Bk w2 (w1.heap.size) [.slice a0 c.vars.length c0,.slice a1 c.arrays.length c1,.slice a2 c.list.length c2]:=Bk.below (Bk.nw (by simp) rfl) hb
 replace n0:=btr (bal n0 _) hb
 clear hb
 have t3:=Bk.lz h0
 obtain ⟨f4,o4,g4,p4,k1,b2⟩:=Bk.f3 h0 0 1 2 rfl rfl rfl
 go_wp2_with fail
 have i0:=iFence_any _ _ _ c _ (HC.out _ k0)
 rw [v2.out] at i0;dsimp only at i0
 refine (i0).mono ?_
 rintro e w3 ⟨d5,e5,f5,rfl,o1,hb⟩
 obtain ⟨d0,g0,d1,g1,d2,g2,rfl,rfl,rfl⟩:=o1.shape
 clear i0
 replace k0:=btr k0 hb
 have b3:=hb.size
 clear o4 f4 p4 g4 b2 k1
 replace h0:=Bk.below h0 hb
 replace n0:=btr n0 hb
 clear hb
 have j0:=Bs w3
 have i3:=Lib.hid (fun W (hW:Below w3.heap.size w3 W)=>(o1.reads (by omega) (by omega) (by omega)).below hW)
 replace t3:=Bk.lz h0
 clear o1
 obtain ⟨m1,f2,n1,h2,p1,i2⟩:=Bk.f3 h0 0 1 2 rfl rfl rfl
 go_wp2_with fail
 have i0:=sCodeFenced_any _ _ _ c _ (HC.out _ (bal k0 (.cells #[.slice d0 D.vars.length g0,.slice d1 D.arrays.length g1,.slice d2 D.list.length g2] 26)))
 rw [w0.out] at i0
 refine (i0).mono ?_
 rintro e w4 ⟨rfl,hb⟩
 clear i0
 replace k0:=btr (bal k0 _) hb
 replace j0:=btr (bal j0 _) hb
 have v0:=hb.size
 simp only [Sa] at v0
 clear f2 m1 h2 n1 i2 p1
 replace h0:=Bk.below (Bk.al h0 _) hb
 have f0:Bk w4 (w3.heap.size) [.slice d0 D.vars.length g0,.slice d1 D.arrays.length g1,.slice d2 D.list.length g2]:=Bk.below (Bk.nw (by simp) rfl) hb
 replace n0:=btr (bal n0 _) hb
 clear hb
 have s3:=Bk.lz f0
 cases ok with
 | false =>
  obtain ⟨q1,j2,r1,k2,s1,m2⟩:=Bk.f3 h0 0 1 2 rfl rfl rfl
  go_wp2_with fail
  have i0:=sCodeFenced_any _ _ _ c _ (HC.out _ k0)
  rw [w0.out] at i0
  refine (i0).mono ?_
  rintro e w5 ⟨rfl,hb⟩
  clear i0
  replace k0:=btr k0 hb
  replace j0:=btr j0 hb
  have c3:=hb.size
  clear j2 q1 k2 r1 m2 s1
  replace h0:=Bk.below h0 hb
  replace f0:=Bk.below f0 hb
  replace n0:=btr n0 hb
  clear hb
  have tt:=n0
  go_wp2
  go_ret
  exact ⟨rfl,tt⟩
 | true =>
  obtain ⟨f1,h1,a3⟩:=fence_law v2.out
  rw [w0.out] at f1 h1
  have k3:=Lib.hid f1;have l3:=Lib.hid h1;have m3:=Lib.hid a3;clear f1 h1 a3
  have u2:=Lib.hid (brs_succ c.list)
  have m0:=Bs w4
  go_wp2_with fail
  go_loopw [7,8] (fun a i wr=>∃ (k j:Nat),a=.int .i64 j∧i=.int .i64 k∧k≤c.list.length∧Hid (j=brs c.list k)∧Below w4.heap.size w4 wr) (fun _ i _=>c.list.length-(intOf i).toNat)
  case atStart=>exact ⟨0,0,rfl,rfl,Nat.zero_le _,Lib.hid rfl,Bs _⟩
  case round =>
   obtain ⟨k,j,rfl,rfl,hk,HJ,o0⟩:=hrel
   obtain ⟨wl,rfl⟩:∃ X,X=wr:=⟨_,rfl⟩
   replace k0:=btr k0 o0
   replace j0:=btr j0 o0
   replace m0:=btr m0 o0
   have d3:=o0.size
   replace h0:=Bk.below h0 o0
   replace f0:=Bk.below f0 o0
   replace n0:=btr n0 o0
   clear o0
   have u4:j≤k:=by rw [HJ.out];exact brs_lek _ _
   by_cases hlt:k < c.list.length
   ·have hq:(k:Int) < (c.list.length:Int):=by omega
    obtain ⟨o3,q3,aa,q4,b0,a5,h3,u0,y2,t0⟩:=((HC.out _ k0)).l
    simp only [Value.slice.injEq,true_and] at h3
    obtain ⟨rfl,rfl⟩:=h3
    obtain ⟨rfl,n3⟩:=y2 (by omega)
    obtain ⟨e0,e1,e2,e3,e4⟩:=reads_Instr t0 k hlt
    clear t0 y2 q3 u0 o3 e1 e2 e3 e4
    have t2:=Lib.hid (u2.out k hlt)
    obtain ⟨op,i1⟩:∃ op,c.list[k].op=op:=⟨_,rfl⟩
    rw [i1] at e0
    have y0:Hid (brs c.list (k+1)=brs c.list k+(if isBr op=true then 1 else 0)):=Lib.hid (by rw [← i1];exact t2.out)
    clear i1 t2
    by_cases h9:op=9
    ·have q9:(op == 9)=true:=by simp [h9]
     have q0:Hid (j+1=brs c.list (k+1)):=Lib.hid (by rw [y0.out,← HJ.out];simp [isBr,h9])
     clear h9
     obtain ⟨x3,h4⟩:=Bk.cf h0 2 rfl
     have s0:=Lib.hid m0
     go_wp2
     go_roundw
     case rel=>exact ⟨k+1,j+1,by go_num,by go_num,by omega,q0,s0.out⟩
     case measure=>simp [intOf];omega
    have q9:(op == 9)=false:=by simp [h9]
    by_cases h10:op=10
    ·have u3:(op == 10)=true:=by simp [h10]
     have q0:Hid (j+1=brs c.list (k+1)):=Lib.hid (by rw [y0.out,← HJ.out];simp [isBr,h9,h10])
     clear h10
     obtain ⟨y3,i4⟩:=Bk.cf h0 2 rfl
     have s0:=Lib.hid m0
     go_wp2
     go_roundw
     case rel=>exact ⟨k+1,j+1,by go_num,by go_num,by omega,q0,s0.out⟩
     case measure=>simp [intOf];omega
    have u3:(op == 10)=false:=by simp [h10]
    have q0:Hid (j=brs c.list (k+1)):=Lib.hid (by rw [y0.out,← HJ.out];simp [isBr,h9,h10])
    clear h9 h10
    obtain ⟨z3,j4⟩:=Bk.cf h0 2 rfl
    have s0:=Lib.hid m0
    go_wp2
    go_roundw
    case rel=>exact ⟨k+1,j,by go_num,by go_num,by omega,q0,s0.out⟩
    case measure=>simp [intOf];omega
   have hq:decide ((k:Int) < (c.list.length:Int))=false:=decide_eq_false (by omega)
   have v4:¬(k:Int) < (c.list.length:Int):=by omega
   have z0:j=brs c.list c.list.length:=by rw [HJ.out,show k=c.list.length by omega]
   have r4:D.list.length≤c.list.length+2*j:=by rw [z0];exact m3.out
   have j3:Hid (j=0→fb=true):=Lib.hid (fun h=>l3.out (by rw [← z0];exact h))
   clear z0 u2
   obtain ⟨t1,n2,u1,o2,v1,p2⟩:=Bk.f3 h0 0 1 2 rfl rfl rfl
   obtain ⟨x1,q2,y1,r2,z1,s2⟩:=Bk.f3 f0 0 1 2 rfl rfl rfl
   go_wp2_with fail
   have i0:=CodeSame_any _ _ _ _ _ _ c D _ (HC.out _ k0) (i3.out _ j0)
   rw [k3.out] at i0
   refine (i0).mono ?_
   rintro e w5 ⟨rfl,hb⟩
   clear i0
   replace k0:=btr k0 hb
   replace j0:=btr j0 hb
   replace m0:=btr m0 hb
   have g3:=hb.size
   clear n2 t1 o2 u1 p2 v1 q2 x1 r2 y1 s2 z1
   replace h0:=Bk.below h0 hb
   replace f0:=Bk.below f0 hb
   replace n0:=btr n0 hb
   clear hb
   have c5:(D.list.length:Int)≤(c.list.length:Int)+2*(j:Int):=by omega
   by_cases hj:0 < j
   ·have v3:(0:Int) < (j:Int):=by omega
    obtain ⟨a4,k4⟩:=Bk.cf h0 2 rfl
    obtain ⟨b4,l4⟩:=Bk.cf f0 2 rfl
    have tt:=n0
    go_wp2
    go_ret
    exact ⟨rfl,tt⟩
   have v3:decide ((0:Int) < (j:Int))=false:=decide_eq_false (by omega)
   have b5:¬(0:Int) < (j:Int):=by omega
   obtain rfl:=j3.out (by omega)
   obtain ⟨c4,m4⟩:=Bk.cf h0 2 rfl
   obtain ⟨d4,n4⟩:=Bk.cf f0 2 rfl
   have tt:=n0
   go_wp2
   go_ret
   exact ⟨rfl,tt⟩
end Go.Proofs.Ytkjedgnepnbkpaa
