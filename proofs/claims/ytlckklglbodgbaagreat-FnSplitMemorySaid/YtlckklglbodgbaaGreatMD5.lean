/-
 Parts of the proofs of the laws FnPairMemory,FnSplitMemory.
-/
import Derived.Test.YtlckklglbodgbaaGreatLK5
import Derived.Test.YtlckklglbodgbaaGreatZM
set_option maxHeartbeats 12800000
set_option maxRecDepth 100000
set_option linter.all false
namespace Go.Proofs.YtlckklglbodgbaaGreat
open Go.RowKit
def LiQ (w:World) (r:Ending) (w':World):Prop:=∃ (p1 p2 p3:Option Addr) (n1 n2 n3 c1 c2 c3:Nat) (ok:Bool),r=.returned (.tuple #[.agg #[.slice p1 n1 c1,.slice p2 n2 c2,.slice p3 n3 c3],.bool ok]) ∧
 (ok=true→∃ (K:List St) (hi:Nat) (xs us:List Int) (D:Nat),n3=K.length∧(n1≤12∧n2≤2∧stNs K≤1048576)∧PdR w' w.heap.size hi (.slice p1 n1 c1) (.slice p2 n2 c2) (.slice p3 n3 c3) n1 n2 xs us D K)∧Below w.heap.size w w'
theorem lin_pd {w:World} {lo hi:Nat} {va vb vu:Value} {n m:Nat} {zs us:List Int} {D:Nat} {L:List St} (h:PdR w lo hi va vb vu n m zs us D L) (hn:stNs L≤1048576) :
  Calls Tryz.prog 46 #[.agg #[va,vb,vu]] w fun r w'=>LiQ w r w':=by
 have ha:=h.ra;have hb:=h.rb;obtain ⟨⟨rfl,rfl,_,_,_⟩,_,ht,_⟩:=h;refine (Linearize_any zs us _ D va vb vu L w ha hb ht hn).mono (fun r w' hc=>?_);obtain ⟨p1,p2,p3,n1,n2,n3,c1,c2,c3,ok,h1,h2,h3⟩:=hc;refine ⟨p1,p2,p3,n1,n2,n3,c1,c2,c3,ok,h1,fun hk=>?_,h3⟩;obtain ⟨_,xs,K,hi',_,e2,e3,hP⟩:=h2 hk;have hl:=pvR_labs e2;have hs:=(pvR_n e2).2.1;refine ⟨K,hi',xs,us,6,e3,⟨?_,?_,by omega⟩,hP⟩
 ·rw [← hP.lb.lx];exact hl.2.2.2.1
 rw [← hP.lb.ly];exact hl.2.2.2.2
theorem l13Program_any (B g p:Nat) (w:World) (hR:Rnd w B g p) (hp:p+19000001≤1000000000) :
  Calls Tryz.prog 22 #[.pointer (some ⟨g,0,none⟩)] w fun r w'=>TzP 19000001 B g p w r w':=by
 have hg:=hR.lt;have hC:Chg (fun k=>k=g) w w:=Chg.refl _ _;have s1:∀ q,(fun k=>k=g) q→q=g:=fun q h=>h
 go_enter Tryz.func22,Tryz.ntmps22
 go_wp2_with fail
 refine (l5Program_any B g (p) _ (hR.below (bal (Bs _) (.cells #[.slice none 0 0,.slice none 0 0,.slice none 0 0] 26))) (by omega)).mono ?_;rintro e w1 ⟨a0,a1,a2,c0,c1,c2,n,m,hi,zs,us,L,p1,rfl,hP,e3,y0,y7,hc⟩;try simp only [Sa] at hP
 have f1:=Hi e3;clear e3;replace hC:=((hC.trans (Cb (bal (Bs _) _)))).trans hc;replace hR:=y0;clear y0;have p2:=hc.size;simp only [Sa] at p2;have d0:Bk w1 (w.heap.size) [.slice none 0 0,.slice none 0 0,.slice none 0 0]:=Bk.kg (Bk.n3 (w.heap.size)) hc;clear hc;have f2:=hP.lt;try simp only [Sa] at f2
 have z7:=Bk.lz d0;by_cases hm:m=2
 ·have i5:((m:Int) == 2)=true:=by simp;omega
  clear hm;clear hP;go_wp2_with fail
  refine (program_ty B g (p1) _ (hR.below (bal (Bs _) (.cells #[.slice a0 n c0,.slice a1 m c1,.slice a2 L.length c2] 26))) (by omega)).mono ?_;rintro e w2 ⟨g1,h1,i1,j1,l1,m1,n5,m5,h5i,c8,b8,L5,g2,rfl,n0,v1,y0,d5,u1⟩;try simp only [Sa] at n0
  have e1:=Hi v1;clear v1;replace hC:=((hC.trans (Cb (bal (Bs _) _)))).trans u1;replace hR:=y0;clear y0;have s2:=u1.size;simp only [Sa] at s2;have x0:Bk w2 (w1.heap.size) [.slice a0 n c0,.slice a1 m c1,.slice a2 L.length c2]:=Bk.kg (Bk.n3 (w1.heap.size)) u1;have d1:=n0.lt;try simp only [Sa] at d1
  have a8:=Bk.lz x0;obtain ⟨v2,a3,x2,b3,y2,c3⟩:=Bk.h3 x0;go_wp2_with fail
  refine (lin_pd (((n0.keep (C1 (w1.heap.size) 0 (.slice g1 n5 j1)) (fun gq h h2=>by have:=d1 gq h;omega)).keep (C1 (w1.heap.size) 1 (.slice h1 m5 l1)) (fun gq h h2=>by have:=d1 gq h;omega)).keep (C1 (w1.heap.size) 2 (.slice i1 L5.length m1)) (fun gq h h2=>by have:=d1 gq h;omega)) e1.out.2.2.1).mono ?_;rintro e w3 ⟨q1,q2,q3,n1,n2,n3,k1,k2,k3,ok,rfl,hQ,k0⟩;try simp only [Sa,Ss] at hQ
  replace hC:=((((hC.sN _ _ _).sN _ _ _).sN _ _ _)).trans (Cb k0);replace hR:=(((hR.kC _ _ _).kC _ _ _).kC _ _ _).below k0;have x1:=k0.size;simp only [Ss] at x1;clear a3 v2 b3 x2 c3 y2;replace n0:=(((n0.keep (C1 _ _ _) (fun gq h h2=>by have:=d1 gq h;omega)).keep (C1 _ _ _) (fun gq h h2=>by have:=d1 gq h;omega)).keep (C1 _ _ _) (fun gq h h2=>by have:=d1 gq h;omega)).below k0
  cases ok with
  | false =>
   clear hQ;go_upto_region 5 with (fail)
   generalize hnw:World.alloc _ _=w4;have r0:=nmh hnw;clear hnw
   replace hC:=((hC.trans (Cb (bal (Bs _) _)))).trans (Cb r0);replace hR:=(hR.below (bal (Bs _) _)).below r0;have y1:=r0.size;simp only [Sa] at y1;replace n0:=(n0.below (bal (Bs _) _)).below r0;replace d0:=Bb (Bk.al (Bb (Bk.nn (Bk.nn (Bk.nn (Bk.kg (Bk.al d0 _) u1) _) _) _) k0) _) r0;have m2:=Bb (Bk.n3 (w3.heap.size)) r0;have e5:=Bk.lz m2;obtain ⟨k5,s6,l5,t6,o5,u6⟩:=Bk.h3 d0;replace x0:=Bb (Bk.al (Bb (Bk.t3 x0 (.slice g1 n5 j1) (.slice h1 m5 l1) (.slice i1 L5.length m1)) k0) _) r0;obtain ⟨p5,v6,q5,w6,r5,x6⟩:=Bk.h3 x0;obtain ⟨e0,t0,u0,v0⟩:=Bk.x3 d0 (.slice g1 n5 j1) (.slice h1 m5 l1) (.slice i1 L5.length m1);have q0:=Hi (n0.keep e0 (fun gq h h2=>by have:=d1 gq h;omega));clear n0;have g0:=Hi e0;clear e0;have h0:=Hi (Ai hC hR);clear hC hR;go_wp2
   exact bodyPost_ret (v:=.agg #[.slice g1 n5 j1,.slice h1 m5 l1,.slice i1 L5.length m1]) (by simp [results,Tryz.results22,go_sem,t0,u0,v0]) rfl (by exact (by unfold TzP;exact ⟨_,_,_,_,_,_,_,_,_,_,_,_,L5,g2,rfl,q0.out.mono (by omega),⟨e1.out.1,e1.out.2.1,e1.out.2.2.1⟩,h0.out.2.keep g0.out (fun h=>by omega) (fun k hk h=>by omega),by omega,chg_app h0.out.1 g0.out (fun q hq h=>by omega)⟩))
  | true =>
   obtain ⟨K,hj,x7,w7,D2,rfl,o1,o0⟩:=hQ rfl;have l2:=Hi o1;have c5:=o1.1;clear hQ o1;have t1:=o0.lt;try simp only [Ss] at t1
   go_upto_region 5 with (fail)
   generalize hnw:World.alloc _ _=w4;have l0:=nmh hnw;clear hnw
   replace hC:=((hC.trans (Cb (bal (Bs _) _)))).trans (Cb l0);replace hR:=(hR.below (bal (Bs _) _)).below l0;have b2:=l0.size;simp only [Sa] at b2;replace n0:=(n0.below (bal (Bs _) _)).below l0;replace o0:=(o0.below (bal (Bs _) _)).below l0;replace d0:=Bb (Bk.al (Bb (Bk.nn (Bk.nn (Bk.nn (Bk.kg (Bk.al d0 _) u1) _) _) _) k0) _) l0;have w0:=Bb (Bk.n3 (w3.heap.size)) l0;have f5:=Bk.lz w0;by_cases hc:n1≤6
   ·have t2:(2*(n1:Int))≤12:=by omega
    obtain ⟨z2,d3⟩:=Bk.cf w0 0 rfl;go_wp2_with fail
    refine (pick_any _ _ B g (g2) hR (by omega) (by omega) (by omega)).mono ?_;rintro e w5 ⟨z,z0,z1,rfl,y0,p0⟩;replace hC:=(hC).trans p0;replace hR:=y0;clear y0;have f3:=p0.size;clear d3 z2;replace n0:=n0.keep p0 (fun gq h h2=>by have:=d1 gq h;have:=s1 gq h2;omega);replace o0:=o0.keep p0 (fun gq h h2=>by have:=t1 gq h;have:=s1 gq h2;omega);by_cases hz:0 < z
    ·have u2:(0 < z):=hz;replace d0:=Bk.kg d0 p0;obtain ⟨s5,y6,t5,z6,u5,a7⟩:=Bk.h3 d0;replace w0:=Bk.kg w0 p0;obtain ⟨v5,b7,x5,c7,y5,d7⟩:=Bk.h3 w0;obtain ⟨e0,t0,u0,v0⟩:=Bk.x3 d0 (.slice q1 n1 k1) (.slice q2 n2 k2) (.slice q3 K.length k3);have q0:=Hi (o0.keep e0 (fun gq h h2=>by have:=t1 gq h;omega));clear o0;have g0:=Hi e0;clear e0;have h0:=Hi (Ai hC hR);clear hC hR;go_wp2
     exact bodyPost_ret (v:=.agg #[.slice q1 n1 k1,.slice q2 n2 k2,.slice q3 K.length k3]) (by simp [results,Tryz.results22,go_sem,t0,u0,v0]) rfl (by exact (by unfold TzP;exact ⟨_,_,_,_,_,_,_,_,_,_,_,_,K,g2+1,rfl,q0.out.mono (by omega),l2.out,h0.out.2.keep g0.out (fun h=>by omega) (fun k hk h=>by omega),by omega,chg_app h0.out.1 g0.out (fun q hq h=>by omega)⟩))
    have u2:decide (0 < z)=false:=decide_eq_false hz;replace d0:=Bk.kg d0 p0;obtain ⟨z5,e7,a6,f7,b6,g7⟩:=Bk.h3 d0;replace x0:=Bk.keep (Bb (Bk.al (Bb (Bk.t3 x0 (.slice g1 n5 j1) (.slice h1 m5 l1) (.slice i1 L5.length m1)) k0) _) l0) p0 (fun h=>by have:=s1 _ h;omega);obtain ⟨c6,h7,d6,i7,e6,j7⟩:=Bk.h3 x0;obtain ⟨e0,t0,u0,v0⟩:=Bk.x3 d0 (.slice g1 n5 j1) (.slice h1 m5 l1) (.slice i1 L5.length m1);have q0:=Hi (n0.keep e0 (fun gq h h2=>by have:=d1 gq h;omega));clear n0;have g0:=Hi e0;clear e0;have h0:=Hi (Ai hC hR);clear hC hR;go_wp2
    exact bodyPost_ret (v:=.agg #[.slice g1 n5 j1,.slice h1 m5 l1,.slice i1 L5.length m1]) (by simp [results,Tryz.results22,go_sem,t0,u0,v0]) rfl (by exact (by unfold TzP;exact ⟨_,_,_,_,_,_,_,_,_,_,_,_,L5,g2+1,rfl,q0.out.mono (by omega),⟨e1.out.1,e1.out.2.1,e1.out.2.2.1⟩,h0.out.2.keep g0.out (fun h=>by omega) (fun k hk h=>by omega),by omega,chg_app h0.out.1 g0.out (fun q hq h=>by omega)⟩))
   have t2:decide ((2*(n1:Int))≤12)=false:=decide_eq_false (by omega);have j5:¬(2*(n1:Int))≤12:=by omega
   clear o0;obtain ⟨f6,k7,g6,l7,h6,m7⟩:=Bk.h3 d0;replace x0:=Bb (Bk.al (Bb (Bk.t3 x0 (.slice g1 n5 j1) (.slice h1 m5 l1) (.slice i1 L5.length m1)) k0) _) l0;obtain ⟨i6,n7,j6,o7,k6,p7⟩:=Bk.h3 x0;obtain ⟨l6,q7⟩:=Bk.cf w0 0 rfl;obtain ⟨e0,t0,u0,v0⟩:=Bk.x3 d0 (.slice g1 n5 j1) (.slice h1 m5 l1) (.slice i1 L5.length m1);have q0:=Hi (n0.keep e0 (fun gq h h2=>by have:=d1 gq h;omega));clear n0;have g0:=Hi e0;clear e0;have h0:=Hi (Ai hC hR);clear hC hR;go_wp2
   exact bodyPost_ret (v:=.agg #[.slice g1 n5 j1,.slice h1 m5 l1,.slice i1 L5.length m1]) (by simp [results,Tryz.results22,go_sem,t0,u0,v0]) rfl (by exact (by unfold TzP;exact ⟨_,_,_,_,_,_,_,_,_,_,_,_,L5,g2,rfl,q0.out.mono (by omega),⟨e1.out.1,e1.out.2.1,e1.out.2.2.1⟩,h0.out.2.keep g0.out (fun h=>by omega) (fun k hk h=>by omega),by omega,chg_app h0.out.1 g0.out (fun q hq h=>by omega)⟩))
 have i5:((m:Int) == 2)=false:=by simp;omega
 go_wp2_with fail
 refine (lin_pd (hP.below (bal (Bs _) (.cells #[.slice a0 n c0,.slice a1 m c1,.slice a2 L.length c2] 26))) f1.out.2.2.1).mono ?_;rintro e w2 ⟨q1,q2,q3,n1,n2,n3,k1,k2,k3,ok,rfl,hQ,m0⟩;try simp only [Sa,Ss] at hQ
 replace hC:=((hC.trans (Cb (bal (Bs _) _)))).trans (Cb m0);replace hR:=(hR.below (bal (Bs _) _)).below m0;have d2:=m0.size;simp only [Sa] at d2;replace hP:=(hP.below (bal (Bs _) _)).below m0;have i0:=Bb (Bk.n3 (w1.heap.size)) m0;have g5:=Bk.lz i0
 cases ok with
 | false =>
  clear hQ;go_upto_region 5 with (fail)
  generalize hnw:World.alloc _ _=w3;have s0:=nmh hnw;clear hnw
  replace hC:=((hC.trans (Cb (bal (Bs _) _)))).trans (Cb s0);replace hR:=(hR.below (bal (Bs _) _)).below s0;have e2:=s0.size;simp only [Sa] at e2;replace hP:=(hP.below (bal (Bs _) _)).below s0;have o2:=Bb (Bk.n3 (w2.heap.size)) s0;have h5:=Bk.lz o2;replace d0:=Bb (Bk.al (Bb (Bk.al d0 _) m0) _) s0;obtain ⟨m6,r7,n6,s7,o6,t7⟩:=Bk.h3 d0;replace i0:=Bb (Bk.al i0 _) s0;obtain ⟨p6,u7,q6,v7,r6,h4⟩:=Bk.h3 i0;obtain ⟨e0,t0,u0,v0⟩:=Bk.x3 d0 (.slice a0 n c0) (.slice a1 m c1) (.slice a2 L.length c2);have q0:=Hi (hP.keep e0 (fun gq h h2=>by have:=f2 gq h;omega));clear hP;have g0:=Hi e0;clear e0;have h0:=Hi (Ai hC hR);clear hC hR;go_wp2
  exact bodyPost_ret (v:=.agg #[.slice a0 n c0,.slice a1 m c1,.slice a2 L.length c2]) (by simp [results,Tryz.results22,go_sem,t0,u0,v0]) rfl (by exact (by unfold TzP;exact ⟨_,_,_,_,_,_,_,_,_,_,_,_,L,p1,rfl,q0.out.mono (by omega),⟨f1.out.1,f1.out.2.1,f1.out.2.2.1⟩,h0.out.2.keep g0.out (fun h=>by omega) (fun k hk h=>by omega),by omega,chg_app h0.out.1 g0.out (fun q hq h=>by omega)⟩))
 | true =>
  obtain ⟨K,hj,x7,w7,D2,rfl,o1,o0⟩:=hQ rfl;have l2:=Hi o1;have c5:=o1.1;clear hQ o1;have b1:=o0.lt;try simp only [Sa] at b1
  go_upto_region 5 with (fail)
  generalize hnw:World.alloc _ _=w3;have b0:=nmh hnw;clear hnw
  replace hC:=((hC.trans (Cb (bal (Bs _) _)))).trans (Cb b0);replace hR:=(hR.below (bal (Bs _) _)).below b0;have r1:=b0.size;simp only [Sa] at r1;replace hP:=(hP.below (bal (Bs _) _)).below b0;replace o0:=(o0.below (bal (Bs _) _)).below b0;have j0:=Bb (Bk.n3 (w2.heap.size)) b0;have g3:=Bk.lz j0;by_cases hc:n1≤6
  ·have t2:(2*(n1:Int))≤12:=by omega
   obtain ⟨i2,j2⟩:=Bk.cf j0 0 rfl;go_wp2_with fail
   refine (pick_any _ _ B g (p1) hR (by omega) (by omega) (by omega)).mono ?_;rintro e w4 ⟨z,z0,z1,rfl,y0,f0⟩;replace hC:=(hC).trans f0;replace hR:=y0;clear y0;have r2:=f0.size;clear j2 i2;replace hP:=hP.keep f0 (fun gq h h2=>by have:=f2 gq h;have:=s1 gq h2;omega);replace o0:=o0.keep f0 (fun gq h h2=>by have:=b1 gq h;have:=s1 gq h2;omega);by_cases hz:0 < z
   ·have u2:(0 < z):=hz;replace d0:=Bk.keep (Bb (Bk.al (Bb (Bk.al d0 _) m0) _) b0) f0 (fun h=>by have:=s1 _ h;omega);obtain ⟨i3,i4,j3,j4,l3,k4⟩:=Bk.h3 d0;replace j0:=Bk.kg j0 f0;obtain ⟨m3,l4,o3,m4,p3,n4⟩:=Bk.h3 j0;obtain ⟨e0,t0,u0,v0⟩:=Bk.x3 d0 (.slice q1 n1 k1) (.slice q2 n2 k2) (.slice q3 K.length k3);have q0:=Hi (o0.keep e0 (fun gq h h2=>by have:=b1 gq h;omega));clear o0;have g0:=Hi e0;clear e0;have h0:=Hi (Ai hC hR);clear hC hR;go_wp2
    exact bodyPost_ret (v:=.agg #[.slice q1 n1 k1,.slice q2 n2 k2,.slice q3 K.length k3]) (by simp [results,Tryz.results22,go_sem,t0,u0,v0]) rfl (by exact (by unfold TzP;exact ⟨_,_,_,_,_,_,_,_,_,_,_,_,K,p1+1,rfl,q0.out.mono (by omega),l2.out,h0.out.2.keep g0.out (fun h=>by omega) (fun k hk h=>by omega),by omega,chg_app h0.out.1 g0.out (fun q hq h=>by omega)⟩))
   have u2:decide (0 < z)=false:=decide_eq_false hz;replace d0:=Bk.keep (Bb (Bk.al (Bb (Bk.al d0 _) m0) _) b0) f0 (fun h=>by have:=s1 _ h;omega);obtain ⟨r3,o4,s3,p4,u3,q4⟩:=Bk.h3 d0;replace i0:=Bk.kg (Bb (Bk.al i0 _) b0) f0;obtain ⟨v3,r4,y3,s4,z3,t4⟩:=Bk.h3 i0;obtain ⟨e0,t0,u0,v0⟩:=Bk.x3 d0 (.slice a0 n c0) (.slice a1 m c1) (.slice a2 L.length c2);have q0:=Hi (hP.keep e0 (fun gq h h2=>by have:=f2 gq h;omega));clear hP;have g0:=Hi e0;clear e0;have h0:=Hi (Ai hC hR);clear hC hR;go_wp2
   exact bodyPost_ret (v:=.agg #[.slice a0 n c0,.slice a1 m c1,.slice a2 L.length c2]) (by simp [results,Tryz.results22,go_sem,t0,u0,v0]) rfl (by exact (by unfold TzP;exact ⟨_,_,_,_,_,_,_,_,_,_,_,_,L,p1+1,rfl,q0.out.mono (by omega),⟨f1.out.1,f1.out.2.1,f1.out.2.2.1⟩,h0.out.2.keep g0.out (fun h=>by omega) (fun k hk h=>by omega),by omega,chg_app h0.out.1 g0.out (fun q hq h=>by omega)⟩))
  have t2:decide ((2*(n1:Int))≤12)=false:=decide_eq_false (by omega);have j5:¬(2*(n1:Int))≤12:=by omega
  clear o0;replace d0:=Bb (Bk.al (Bb (Bk.al d0 _) m0) _) b0;obtain ⟨a4,u4,b4,v4,c4,x4⟩:=Bk.h3 d0;replace i0:=Bb (Bk.al i0 _) b0;obtain ⟨d4,y4,e4,z4,f4,a5⟩:=Bk.h3 i0;obtain ⟨g4,b5⟩:=Bk.cf j0 0 rfl;obtain ⟨e0,t0,u0,v0⟩:=Bk.x3 d0 (.slice a0 n c0) (.slice a1 m c1) (.slice a2 L.length c2);have q0:=Hi (hP.keep e0 (fun gq h h2=>by have:=f2 gq h;omega));clear hP;have g0:=Hi e0;clear e0;have h0:=Hi (Ai hC hR);clear hC hR;go_wp2
  exact bodyPost_ret (v:=.agg #[.slice a0 n c0,.slice a1 m c1,.slice a2 L.length c2]) (by simp [results,Tryz.results22,go_sem,t0,u0,v0]) rfl (by exact (by unfold TzP;exact ⟨_,_,_,_,_,_,_,_,_,_,_,_,L,p1,rfl,q0.out.mono (by omega),⟨f1.out.1,f1.out.2.1,f1.out.2.2.1⟩,h0.out.2.keep g0.out (fun h=>by omega) (fun k hk h=>by omega),by omega,chg_app h0.out.1 g0.out (fun q hq h=>by omega)⟩))
def LdP (d B g p:Nat) (w:World) (r:Ending) (w':World):Prop:=∃ (y:Int) (p':Nat),r=.returned (.int .i64 y)∧Rnd w' B g p'∧p'≤p+d∧Chg (fun q=>q=g) w w'
theorem l1Draw_any (B g p:Nat) (w:World) (hR:Rnd w B g p) (hp:p+2≤1000000000) :
  Calls Tryz.prog 51 #[.pointer (some ⟨g,0,none⟩)] w fun r w'=>LdP 2 B g p w r w':=by
 have hg:=hR.lt;have hC:Chg (fun k=>k=g) w w:=Chg.refl _ _;have f0:∀ q,(fun k=>k=g) q→q=g:=fun q h=>h
 go_enter Tryz.func51,Tryz.ntmps51
 go_wp2_with fail
 refine (pick_any _ _ B g (p) hR (by omega) (by omega) (by omega)).mono ?_;rintro e w1 ⟨z,z0,z1,rfl,a0,hc⟩;replace hC:=(hC).trans hc;replace hR:=a0;clear a0;have d0:=hc.size;clear hc;by_cases hz:z=0
 ·have q5:(z == 0)=true:=by simp [hz]
  go_wp2_with fail
  refine (num_any _ [-1,4,9223372036854775807,-9223372036854775808] _ B g (p+1) (hR.below (bal (Bs _) (.cells #[.int .i64 (-1),.int .i64 4,.int .i64 9223372036854775807,.int .i64 (-9223372036854775808)] 3))) (Ro (World.ownsRow_lit (base:=(w1).heap.size) (e:=3) (size:=1) (w1) #[.int .i64 (-1),.int .i64 4,.int .i64 9223372036854775807,.int .i64 (-9223372036854775808)] 4 Lr (by unfold maxLen;omega) (by simp)) (by simp)) (fun b o c hb=>by simp at hb;omega) (by simp) (by simp) (by omega)).mono ?_;rintro e w2 ⟨y,ym,rfl,a0,hc⟩;replace hC:=((hC.trans (Cb (bal (Bs _) _)))).trans hc;replace hR:=a0;clear a0;have b0:=hc.size;simp only [Sa] at b0;have c0:Bk w2 (w1.heap.size) [.int .i64 (-1),.int .i64 4,.int .i64 9223372036854775807,.int .i64 (-9223372036854775808)]:=Bk.kg (Bk.n4 (w1.heap.size)) hc;clear hc;have g0:=Bk.lz c0;have tC:=hC;have tR:=hR;have tt:=True.intro;go_wp2
  exact bodyPost_ret (v:=.int .i64 y) (by simp [results,Tryz.results51,go_sem]) rfl (by exact by unfold LdP;exact ⟨_,_,rfl,tR,by omega,tC⟩)
 have q5:(z == 0)=false:=by simp [hz]
 go_wp2_with fail
 refine (pick_any _ _ B g (p+1) hR (by omega) (by omega) (by omega)).mono ?_;rintro e w2 ⟨y,y0,y1,rfl,a0,hc⟩;replace hC:=(hC).trans hc;replace hR:=a0;clear a0;have e0:=hc.size;clear hc;have tC:=hC;have tR:=hR;have tt:=True.intro;go_wp2
 exact bodyPost_ret (v:=.int .i64 y) (by simp [results,Tryz.results51,go_sem]) rfl (by exact by unfold LdP;exact ⟨_,_,rfl,tR,by omega,tC⟩)
end Go.Proofs.YtlckklglbodgbaaGreat
