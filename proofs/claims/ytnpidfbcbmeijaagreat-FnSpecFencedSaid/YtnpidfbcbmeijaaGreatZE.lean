/-
 Parts of the proofs of the laws FnRemoveDead,FnRemoveDeadLeak,FnSpecFenced,FnSpecMemory.
-/
import Derived.Test.YtnpidfbcbmeijaaGreatYD
import Derived.Test.YtnpidfbcbmeijaaGreatYC
import Derived.Test.YtnpidfbcbmeijaaGreatZD
set_option maxHeartbeats 12800000
set_option maxRecDepth 100000
set_option linter.all false
namespace Go.Proofs.YtnpidfbcbmeijaaGreat
open Go.RowKit
def CodeP (v a n d B g p:Nat) (w:World) (r:Ending) (w':World):Prop:=∃ (ua ub ul:Value) (nv na nl p':Nat),r=.returned (.agg #[ua,ub,ul])∧DrawC w' w.heap.size ua ub ul nv na nl∧nv≤v∧na≤a∧nl≤n∧Rnd w' B g p'∧p'≤p+d∧Chg (fun q=>q=g) w w'
theorem l8Jumps_any (B g p:Nat) (w:World) (hR:Rnd w B g p) (hp:p+7000000≤1000000000) :
  Calls Tryz.prog 24 #[.pointer (some ⟨g,0,none⟩)] w fun r w'=>CodeP 5 2 400 7000000 B g p w r w':=by
 have hg:=hR.lt;have hC:Chg (fun k=>k=g) w w:=Chg.refl _ _;have x1:∀ q,(fun k=>k=g) q→q=g:=fun q h=>h
 go_enter Tryz.func24,Tryz.ntmps24
 go_wp2_with fail
 refine (l6Code_any B g (p) _ (hR.below (bal (Bs _) (.cells #[.slice none 0 0,.slice none 0 0,.slice none 0 0] 26))) (by omega)).mono ?_;rintro e w1 ⟨va,vb,vl,nv,na,nl,p1,rfl,b0,v1,t1,u1,l0,t5,hc⟩;try simp only [Sa,Ss] at b0
 obtain ⟨a0,c0,a1,c1,a2,c2,rfl,rfl,rfl⟩:=b0.shape;obtain ⟨gl,rfl⟩:=b0.pos (by omega);replace hC:=((hC.trans (Cb (bal (Bs _) _)))).trans hc;replace hR:=l0;clear l0;have o2:=hc.size;simp only [Sa] at o2;have j0:Bk w1 (w.heap.size) [.slice none 0 0,.slice none 0 0,.slice none 0 0]:=Bk.kg (Bk.nw (by simp) rfl) hc;clear hc;have y1:=b0.lt;try simp only [Sa] at y1
 have m3:=Bk.lz j0;go_upto_region 2 with (fail)
 obtain ⟨w2,o1,hb⟩:=nmw (World.alloc w1 (.cells #[.slice a0 nv c0,.slice a1 na c1,.slice (some ⟨gl,0,none⟩) nl c2] 26));replace hC:=((hC.trans (Cb (bal (Bs _) _)))).trans (Cb hb);replace hR:=(hR.below (bal (Bs _) _)).below hb;have q2:=hb.size;simp only [Sa] at q2;replace b0:=(b0.below (bal (Bs _) _)).below hb;replace j0:=Bb (Bk.al j0 _) hb;have k0:Bk w2 (w1.heap.size) [.slice a0 nv c0,.slice a1 na c1,.slice (some ⟨gl,0,none⟩) nl c2]:=Bb (Bk.nw (by simp) rfl) hb;clear hb;rw [← o1];clear o1;have n3:=Bk.lz k0;have y5:w.heap.size≤w.heap.size∧w.heap.size < w2.heap.size∧w1.heap.size < w2.heap.size∧w.heap.size≤w1.heap.size:=by omega
 go_wp2_with fail
 refine (pick_any _ _ B g (p1) hR (by omega) (by omega) (by omega)).mono ?_;rintro e w3 ⟨z,z0,z1,rfl,l0,hc⟩;replace hC:=(hC).trans hc;replace hR:=l0;clear l0;have r3:=hc.size;replace b0:=b0.keep hc (fun gq h h2=>by have:=y1 gq h;have:=x1 gq h2;omega);replace j0:=Bk.kg j0 hc;replace k0:=Bk.kg k0 hc;clear hc;replace m3:=Bk.lz j0;replace n3:=Bk.lz k0;go_upto_if 12 with (fail)
 go_cut [] (fun wx=>∃ (a0 a1:Option Addr) (c0 c1 c2 gl nv na nl pk:Nat),Bk wx (w1.heap.size) [.slice a0 nv c0,.slice a1 na c1,.slice (some ⟨gl,0,none⟩) nl c2]∧Bk wx (w.heap.size) [.slice none 0 0,.slice none 0 0,.slice none 0 0]∧DrawC wx w.heap.size (.slice a0 nv c0) (.slice a1 na c1) (.slice (some ⟨gl,0,none⟩) nl c2) nv na nl∧(∀ q,OwnB (.slice a0 nv c0) (.slice a1 na c1) (.slice (some ⟨gl,0,none⟩) nl c2) q→¬q=w.heap.size∧¬q=w1.heap.size)∧nv≤5∧na≤2∧1≤nl∧nl≤400∧Rnd wx B g pk∧pk≤p+6005000∧Chg (fun q=>q=g) w wx∧w3.heap.size≤wx.heap.size)
 case first =>
  have n0:∀ q,OwnB (.slice a0 nv c0) (.slice a1 na c1) (.slice (some ⟨gl,0,none⟩) nl c2) q→¬q=w.heap.size∧¬q=w1.heap.size:=fun q h=>by have:=y1 q h;omega
  by_cases hz:z=0
  ·subst hz;go_wp2_with fail
   refine (l2Program_any B g (p1+1) _ hR (by omega)).mono ?_;rintro e w4 ⟨e0,e1,e2,f0,f1,f2,us,ys,L,p2,rfl,oV,oA,o3,p3,s5,z5,c3,d3,e3,l0,v5,hc⟩;have t3:=hc.size;clear o3;replace hC:=(hC).trans hc;replace hR:=l0;clear l0;have s3:=hc.size;replace b0:=b0.keep hc (fun gq h h2=>by have:=y1 gq h;have:=x1 gq h2;omega);replace j0:=Bk.kg j0 hc;replace k0:=Bk.kg k0 hc;clear hc;have l1:=BlAt.keep2 (S:=fun _=>False) (Chg.refl _ _) (fun _ _ _=>id) (fun q (hq:w3.heap.size≤q) hlt=>(show w3.heap.size≤q∧q < w4.heap.size from ⟨hq,hlt⟩)) Lr c3;go_wp2_with fail
   refine (CompileProgram_any _ _ _ us ys _ _ L _ (Ro oV (by omega)) (Ro oA (by omega)) l1 (fun q h=>h.2) d3 e3 (by omega) (by omega)).mono ?_;rintro e w5 ⟨e0,e1,e2,f0,f1,f2,m0,m1,m2,ok,rfl,n2,hb⟩;replace hC:=(hC).trans (Cb hb);replace hR:=hR.below hb;have h3:=hb.size;replace b0:=b0.below hb;replace j0:=Bb j0 hb;replace k0:=Bb k0 hb;clear hb;replace m3:=Bk.lz j0;replace n3:=Bk.lz k0;clear c3 l1 oV oA e3 d3
   cases ok with
   | false =>
    clear n2;have i0:=Hi (Ai (Bk.al k0 (.cells #[.slice e0 m0 f0,.slice e1 m1 f1,.slice e2 m2 f2] 26)) (Ai (Bk.al j0 (.cells #[.slice e0 m0 f0,.slice e1 m1 f1,.slice e2 m2 f2] 26)) (Ai (b0.below (bal (Bs _) (.cells #[.slice e0 m0 f0,.slice e1 m1 f1,.slice e2 m2 f2] 26))) (Ai (hR.below (bal (Bs _) (.cells #[.slice e0 m0 f0,.slice e1 m1 f1,.slice e2 m2 f2] 26))) (hC.trans (Cb (bal (Bs _) (.cells #[.slice e0 m0 f0,.slice e1 m1 f1,.slice e2 m2 f2] 26))))))));have k1:=Hi n0;clear hR hC b0;go_wp2_with fail
    go_meet
    exact ⟨_,_,_,_,_,_,_,_,_,p2,i0.out.1,i0.out.2.1,DrawC.mono i0.out.2.2.1 (by omega),k1.out,by omega,by omega,by omega,by omega,i0.out.2.2.2.1,by omega,i0.out.2.2.2.2,by (try simp only [Sa,Ss]);omega⟩
   | true =>
    obtain ⟨s1,o5,p5,q5,r5⟩:=n2 rfl;clear n2;obtain ⟨gn,rfl⟩:=s1.pos (by omega);have iN:∀ q,OwnB (.slice e0 m0 f0) (.slice e1 m1 f1) (.slice (some ⟨gn,0,none⟩) m2 f2) q→w4.heap.size≤q∧q < w5.heap.size:=s1.lt;have q1:∀ q,OwnB (.slice e0 m0 f0) (.slice e1 m1 f1) (.slice (some ⟨gn,0,none⟩) m2 f2) q→¬q=w.heap.size∧¬q=w1.heap.size:=fun q h=>by have:=iN q h;omega
    obtain ⟨b4,s4,c4,t4,d4,u4⟩:=Bk.f3 k0 0 1 2 rfl rfl rfl;have i0:=Hi (Ai (Bk.al (Bk.at (Bk.at (Bk.at k0 0 (.slice e0 m0 f0)) 1 (.slice e1 m1 f1)) 2 (.slice (some ⟨gn,0,none⟩) m2 f2)) (.cells #[.slice e0 m0 f0,.slice e1 m1 f1,.slice (some ⟨gn,0,none⟩) m2 f2] 26)) (Ai (Bk.al (Bk.nn (b':=(w1.heap.size)) (j':=2) (Bk.nn (b':=(w1.heap.size)) (j':=1) (Bk.nn (b':=(w1.heap.size)) (j':=0) j0 (.slice e0 m0 f0)) (.slice e1 m1 f1)) (.slice (some ⟨gn,0,none⟩) m2 f2)) (.cells #[.slice e0 m0 f0,.slice e1 m1 f1,.slice (some ⟨gn,0,none⟩) m2 f2] 26)) (Ai ((((s1.keep (C1 (w1.heap.size) 0 (.slice e0 m0 f0)) (fun gq h h2=>by have:=iN gq h;omega)).keep (C1 (w1.heap.size) 1 (.slice e1 m1 f1)) (fun gq h h2=>by have:=iN gq h;omega)).keep (C1 (w1.heap.size) 2 (.slice (some ⟨gn,0,none⟩) m2 f2)) (fun gq h h2=>by have:=iN gq h;omega)).below (bal (Bs _) (.cells #[.slice e0 m0 f0,.slice e1 m1 f1,.slice (some ⟨gn,0,none⟩) m2 f2] 26))) (Ai ((((hR.kC (w1.heap.size) (0) (.slice e0 m0 f0)).kC (w1.heap.size) (1) (.slice e1 m1 f1)).kC (w1.heap.size) (2) (.slice (some ⟨gn,0,none⟩) m2 f2)).below (bal (Bs _) (.cells #[.slice e0 m0 f0,.slice e1 m1 f1,.slice (some ⟨gn,0,none⟩) m2 f2] 26))) ((((hC.sN (w1.heap.size) (0) (.slice e0 m0 f0)).sN (w1.heap.size) (1) (.slice e1 m1 f1)).sN (w1.heap.size) (2) (.slice (some ⟨gn,0,none⟩) m2 f2)).trans (Cb (bal (Bs _) (.cells #[.slice e0 m0 f0,.slice e1 m1 f1,.slice (some ⟨gn,0,none⟩) m2 f2] 26))))))));have k1:=Hi q1;clear hR hC s1;go_wp2_with fail
    go_meet
    exact ⟨_,_,_,_,_,_,_,_,_,p2,i0.out.1,i0.out.2.1,DrawC.mono i0.out.2.2.1 (by omega),k1.out,by omega,by omega,by omega,by omega,i0.out.2.2.2.1,by omega,i0.out.2.2.2.2,by (try simp only [Sa,Ss]);omega⟩
  have c6:(z == 0)=false:=by simp [hz]
  have i0:=Hi (Ai k0 (Ai j0 (Ai b0 (Ai hR hC))));have k1:=Hi n0;clear hR hC b0;go_wp2_with fail
  go_meet
  exact ⟨_,_,_,_,_,_,_,_,_,p1+1,i0.out.1,i0.out.2.1,DrawC.mono i0.out.2.2.1 (by omega),k1.out,by omega,by omega,by omega,by omega,i0.out.2.2.2.1,by omega,i0.out.2.2.2.2,by (try simp only [Sa,Ss]);omega⟩
 clear hR hC j0 b0 k0;obtain ⟨wq,rfl⟩:∃ W,W=wc:=⟨_,rfl⟩;clear v1 t1 u1;obtain ⟨a0,a1,c0,c1,c2,gl,nv,na,nl,s2,d0,g0,b0,n0,v1,t1,p3,u1,hR,q3,hC,a6⟩:=hcut;have iD:∀ q,OwnB (.slice a0 nv c0) (.slice a1 na c1) (.slice (some ⟨gl,0,none⟩) nl c2) q→(w.heap.size≤q∧q < wq.heap.size)∧¬q=w.heap.size∧¬q=w1.heap.size:=fun q h=>⟨b0.lt q h,n0 q h⟩
 clear n0;have m5:=iD gl (Or.inr (Or.inr rfl));have u3:=Bk.lz d0;have v3:=Bk.lz g0;obtain ⟨t2,v2⟩:=Bk.cf d0 2 rfl;have b3:Hid (∃ (k pk:Nat),Value.int .i64 0=.int .i64 k∧k+1≤nl∧Bk wq (w1.heap.size) [.slice a0 nv c0,.slice a1 na c1,.slice (some ⟨gl,0,none⟩) nl c2]∧Bk wq (w.heap.size) [.slice none 0 0,.slice none 0 0,.slice none 0 0]∧DrawC wq w.heap.size (.slice a0 nv c0) (.slice a1 na c1) (.slice (some ⟨gl,0,none⟩) nl c2) nv na nl∧Rnd wq B g pk∧pk≤s2+2*k∧Chg (fun q=>q=g) w wq∧wq.heap.size≤wq.heap.size):=Hi ⟨0,s2,rfl,by omega,d0,g0,b0,hR,by omega,hC,Lr⟩;clear hR hC d0 g0 b0;go_wp2_with fail
 clear v2 t2;go_loopw [7] (fun i wr=>∃ (k pk:Nat),i=.int .i64 k∧k+1≤nl∧Bk wr (w1.heap.size) [.slice a0 nv c0,.slice a1 na c1,.slice (some ⟨gl,0,none⟩) nl c2]∧Bk wr (w.heap.size) [.slice none 0 0,.slice none 0 0,.slice none 0 0]∧DrawC wr w.heap.size (.slice a0 nv c0) (.slice a1 na c1) (.slice (some ⟨gl,0,none⟩) nl c2) nv na nl∧Rnd wr B g pk∧pk≤s2+2*k∧Chg (fun q=>q=g) w wr∧wq.heap.size≤wr.heap.size) (fun i _=>nl-(intOf i).toNat)
 case atStart=>exact b3.out
 case round =>
  obtain ⟨k,pk,rfl,hk,d0,g0,b0,hR,u5,hC,b6⟩:=hrel;clear b3;obtain ⟨wl,rfl⟩:∃ X,X=wr:=⟨_,rfl⟩;have x3:=Bk.lz d0;have y3:=Bk.lz g0;by_cases h1:k+1 < nl
  ·have z3:(k:Int)+1 < (nl:Int):=by omega
   by_cases h2:nl≤40
   ·have a4:(nl:Int)≤40:=by omega
    obtain ⟨⟨xo,l3⟩,l5⟩:=b0.at k 0 (by omega) (by omega);replace l3:wl.cell? ⟨gl,k*5,none⟩=some (.int .i64 xo):=l3;by_cases e1:xo=10
    ·subst e1;obtain ⟨e4,v4⟩:=Bk.cf d0 2 rfl;have HX:=Hi (Ai d0 (Ai g0 (Ai b0 (Ai hR hC))));have d1:=Hi (show wl.heap.size≤wl.heap.size by omega);clear hR hC b0;go_wp2
     go_roundw
     case rel=>exact ⟨k+1,pk,by go_num,by omega,HX.out.1,HX.out.2.1,HX.out.2.2.1,HX.out.2.2.2.1,by omega,HX.out.2.2.2.2,by have:=d1.out;(try simp only [Ss]);omega⟩
     case measure=>simp [intOf];omega
    have f6:(xo != 10)=true:=by simp [e1]
    by_cases e2:xo=1
    ·subst e2;obtain ⟨f4,x4⟩:=Bk.cf d0 2 rfl;have HX:=Hi (Ai d0 (Ai g0 (Ai b0 (Ai hR hC))));have d1:=Hi (show wl.heap.size≤wl.heap.size by omega);clear hR hC b0;go_wp2
     go_roundw
     case rel=>exact ⟨k+1,pk,by go_num,by omega,HX.out.1,HX.out.2.1,HX.out.2.2.1,HX.out.2.2.2.1,by omega,HX.out.2.2.2.2,by have:=d1.out;(try simp only [Ss]);omega⟩
     case measure=>simp [intOf];omega
    have g6:(xo != 1)=true:=by simp [e2]
    obtain ⟨⟨d2,u0⟩,o0⟩:=b0.at (k) 0 (by omega) (by omega);replace u0:wl.cell? ⟨gl,k*5,none⟩=some (.int .i64 d2):=u0;replace o0:wl.frozen? ⟨gl,k*5,none⟩=false:=o0;obtain ⟨u2,x2⟩:=Bk.cf d0 2 rfl;go_wp2_with fail
    refine (pick_any _ _ B g (pk) hR (by omega) (by omega) (by omega)).mono ?_;rintro e w5 ⟨z4,i6,j6,rfl,l0,hc⟩;replace hC:=(hC).trans hc;replace hR:=l0;clear l0;replace b0:=DrawC.keep b0 hc (fun q h h2=>by have:=iD q h;have:=x1 q h2;omega);have i3:=hc.size;clear x2 u2;replace d0:=Bk.kg d0 hc;replace g0:=Bk.kg g0 hc;clear hc;by_cases hz4:z4=0
    ·subst hz4;have x5:1≤IntKind.i64.wrap (IntKind.i64.wrap ((nl:Int)-(k:Int))-1)∧IntKind.i64.wrap (IntKind.i64.wrap ((nl:Int)-(k:Int))-1)≤1000:=by rw [IntWalk.i64_in ((nl:Int)-(k:Int)) (by omega),IntWalk.i64_in _ (by omega)];omega
     have n5:k < nl:=by omega
     go_upto_region 11 with (fail)
     have h0:=Bk.cell d0 2 (v:=.slice (some ⟨gl,0,none⟩) nl c2) rfl;refine wp_region_noPanic ?_;refine wp_region_held_drew (S:=(fun W'=>W'.cell? ⟨w1.heap.size,2,none⟩=some (.slice (some ⟨gl,0,none⟩) nl c2))) (by kernel_rfl) (Kc (Bd (Bs w5)) h0) (fun hHeld=>?_);obtain ⟨w6,r2⟩:∃ X,X=World.drew w5:=⟨_,rfl⟩;rw [← r2] at hHeld ⊢;have hb:Below w5.heap.size w5 w6:=by rw [r2];exact Bd (Bs _)
     clear r2;replace hC:=(hC).trans (Cb hb);replace hR:=hR.below hb;replace b0:=DrawC.below b0 hb;have j3:=hb.size;replace h0:=Kc hb h0;replace d0:=Bb d0 hb;replace g0:=Bb g0 hb;clear hb;refine (tq 0 55 rfl rfl ?_ ?_ (tq 1 56 rfl rfl ?_ ?_ (tq 2 57 rfl rfl ?_ ?_ (tq 3 58 rfl rfl ?_ ?_ (tq 4 59 rfl rfl ?_ ?_ (tq 5 60 rfl rfl ?_ ?_ (tq 6 61 rfl rfl ?_ ?_ (tq 7 62 rfl rfl ?_ ?_ (tq 8 63 rfl rfl ?_ ?_ (tq 9 64 rfl rfl ?_ ?_ ?_))))))))));iterate 10 (rotate_left;intro W' hSw;(try dsimp only at hSw);go_simp;try with_reducible rfl)
     try simp only [Ep]
     refine Rdy 10 rfl (fun K hK=>?_);go_simp
     refine (pick_any _ _ B g (pk+1) hR (by omega) (by omega) (by omega)).mono ?_;rintro e w7 ⟨z6,k6,l6,rfl,l0,hc⟩;replace hC:=(hC).trans hc;replace hR:=l0;clear l0;replace b0:=DrawC.keep b0 hc (fun q h h2=>by have:=iD q h;have:=x1 q h2;omega);have k3:=hc.size;replace h0:=Gg hc h0;replace d0:=Bk.kg d0 hc;replace g0:=Bk.kg g0 hc;clear hc;refine hK.out _ _ (h0) (fun hHeld=>?_);clear hK K;try simp only [Ep]
     refine (tq 11 66 rfl rfl ?_ ?_ (tq 12 67 rfl rfl (.agg #[.int .i64 8,.int .i64 (IntKind.i64.wrap (IntKind.i64.wrap ((k:Int)+1)+z6)),.int .i64 0,.int .i64 0,.int .i64 0]) (fun W' _=>by kernel_rfl) (tq 13 68 rfl rfl ?_ ?_ ?_)));iterate 2 (rotate_left;intro W' hSw;(try dsimp only at hSw);go_simp;try with_reducible rfl)
     try simp only [Ep]
     refine Rdy 14 rfl (fun K hK=>?_);obtain ⟨⟨g2,v0⟩,p0⟩:=b0.at (k) 0 (by omega) (by omega);replace v0:w7.cell? ⟨gl,k*5,none⟩=some (.int .i64 g2):=v0;replace p0:w7.frozen? ⟨gl,k*5,none⟩=false:=p0;obtain ⟨⟨i2,w0⟩,q0⟩:=b0.at (k) 1 (by omega) (by omega);replace w0:w7.cell? ⟨gl,k*5+1,none⟩=some (.int .i64 i2):=w0;replace q0:w7.frozen? ⟨gl,k*5+1,none⟩=false:=q0;obtain ⟨⟨j2,x0⟩,r0⟩:=b0.at (k) 2 (by omega) (by omega);replace x0:w7.cell? ⟨gl,k*5+2,none⟩=some (.int .i64 j2):=x0;replace r0:w7.frozen? ⟨gl,k*5+2,none⟩=false:=r0;obtain ⟨⟨k2,y0⟩,s0⟩:=b0.at (k) 3 (by omega) (by omega);replace y0:w7.cell? ⟨gl,k*5+3,none⟩=some (.int .i64 k2):=y0;replace s0:w7.frozen? ⟨gl,k*5+3,none⟩=false:=s0;obtain ⟨⟨l2,b1⟩,t0⟩:=b0.at (k) 4 (by omega) (by omega);replace b1:w7.cell? ⟨gl,k*5+4,none⟩=some (.int .i64 l2):=b1;replace t0:w7.frozen? ⟨gl,k*5+4,none⟩=false:=t0;go_simp
     obtain ⟨w8,o1,hb⟩:=nmw (World.setCell (World.setCell (World.setCell (World.setCell (World.setCell w7 ⟨gl,k*5,none⟩ (.int .i64 8)) ⟨gl,k*5+1,none⟩ (.int .i64 (IntKind.i64.wrap (IntKind.i64.wrap ((k:Int)+1)+z6)))) ⟨gl,k*5+2,none⟩ (.int .i64 0)) ⟨gl,k*5+3,none⟩ (.int .i64 0)) ⟨gl,k*5+4,none⟩ (.int .i64 0));replace hC:=((((((hC.sN _ _ _).sN _ _ _).sN _ _ _).sN _ _ _).sN _ _ _)).trans (Cb hb);replace hR:=(((((hR.kC _ _ _).kC _ _ _).kC _ _ _).kC _ _ _).kC _ _ _).below hb;replace b0:=DrawC.below (DrawC.put (DrawC.put (DrawC.put (DrawC.put (DrawC.put b0 (k) 0 (by omega) (by omega) (8)) (k) 1 (by omega) (by omega) ((IntKind.i64.wrap (IntKind.i64.wrap ((k:Int)+1)+z6)))) (k) 2 (by omega) (by omega) (0)) (k) 3 (by omega) (by omega) (0)) (k) 4 (by omega) (by omega) (0)) hb;have r1:=hb.size;simp only [Ss] at r1;replace h0:=Kc hb (Nn (Nn (Nn (Nn (Nn h0 _) _) _) _) _);replace d0:=Bb (Bk.nn (Bk.nn (Bk.nn (Bk.nn (Bk.nn d0 _) _) _) _) _) hb;replace g0:=Bb (Bk.nn (Bk.nn (Bk.nn (Bk.nn (Bk.nn g0 _) _) _) _) _) hb;clear hb;rw [← o1];clear o1;refine hK.out _ _ (h0) (fun hHeld=>?_);clear hK K;try simp only [Ep]
     refine Dn ?_;clear hHeld;have HX:=Hi (Ai d0 (Ai g0 (Ai b0 (Ai hR hC))));have d1:=Hi (show wl.heap.size≤w8.heap.size by omega);clear hR hC b0;go_wp2
     go_roundw
     case rel=>exact ⟨k+1,pk+1+1,by go_num,by omega,HX.out.1,HX.out.2.1,HX.out.2.2.1,HX.out.2.2.2.1,by omega,HX.out.2.2.2.2,by have:=d1.out;(try simp only [Ss]);omega⟩
     case measure=>simp [intOf];omega
    have h6:(z4 == 0)=false:=by simp [hz4]
    have HX:=Hi (Ai d0 (Ai g0 (Ai b0 (Ai hR hC))));have d1:=Hi (show wl.heap.size≤w5.heap.size by omega);clear hR hC b0;go_wp2
    go_roundw
    case rel=>exact ⟨k+1,pk+1,by go_num,by omega,HX.out.1,HX.out.2.1,HX.out.2.2.1,HX.out.2.2.2.1,by omega,HX.out.2.2.2.2,by have:=d1.out;(try simp only [Ss]);omega⟩
    case measure=>simp [intOf];omega
   have a4:decide ((nl:Int)≤40)=false:=decide_eq_false (by omega);have e6:¬(nl:Int)≤40:=by omega
   go_upto_region 12 with (fail)
   have b2:=Hi (DrawC.keep (DrawC.keep (DrawC.keep b0 (C1 (w.heap.size) (0) (.slice a0 nv c0)) (fun gq h h2=>by have:=iD gq h;omega)) (C1 (w.heap.size) (1) (.slice a1 na c1)) (fun gq h h2=>by have:=iD gq h;omega)) (C1 (w.heap.size) (2) (.slice (some ⟨gl,0,none⟩) nl c2)) (fun gq h h2=>by have:=iD gq h;omega));clear b0;obtain ⟨g4,y4,h4,a5,i4,b5⟩:=Bk.f3 d0 0 1 2 rfl rfl rfl;obtain ⟨j4,c5,k4,d5,l4,e5⟩:=Bk.f3 g0 0 1 2 rfl rfl rfl;have g1:=((((Chg.refl (fun q=>q=w.heap.size) wl).setCell (w.heap.size) 0 (.slice a0 nv c0) (fun _=>rfl)).setCell (w.heap.size) 1 (.slice a1 na c1) (fun _=>rfl)).setCell (w.heap.size) 2 (.slice (some ⟨gl,0,none⟩) nl c2) (fun _=>rfl));have n1:=(Bk.at (Bk.at (Bk.at g0 0 (.slice a0 nv c0)) 1 (.slice a1 na c1)) 2 (.slice (some ⟨gl,0,none⟩) nl c2));obtain ⟨y2,z2,a3⟩:=Bk.g3 n1;have i1:=Hi g1;clear g1 n1;have j1:=Hi (Ai hC hR);clear hC hR;go_wp2
   exact bodyPost_ret (v:=.agg #[.slice a0 nv c0,.slice a1 na c1,.slice (some ⟨gl,0,none⟩) nl c2]) (by simp [results,Tryz.results24,go_sem,y2,z2,a3]) rfl (by exact (by unfold CodeP;exact ⟨_,_,_,nv,na,nl,pk,rfl,b2.out,v1,t1,u1,j1.out.2.keep i1.out (fun h=>by omega) (fun k hk h=>by omega),by omega,chg_app j1.out.1 i1.out (fun q hq h=>by omega)⟩))
  have z3:decide ((k:Int)+1 < (nl:Int))=false:=decide_eq_false (by omega);have d6:¬(k:Int)+1 < (nl:Int):=by omega
  go_upto_region 12 with (fail)
  have b2:=Hi (DrawC.keep (DrawC.keep (DrawC.keep b0 (C1 (w.heap.size) (0) (.slice a0 nv c0)) (fun gq h h2=>by have:=iD gq h;omega)) (C1 (w.heap.size) (1) (.slice a1 na c1)) (fun gq h h2=>by have:=iD gq h;omega)) (C1 (w.heap.size) (2) (.slice (some ⟨gl,0,none⟩) nl c2)) (fun gq h h2=>by have:=iD gq h;omega));clear b0;obtain ⟨m4,f5,n4,g5,o4,h5⟩:=Bk.f3 d0 0 1 2 rfl rfl rfl;obtain ⟨p4,i5,q4,j5,r4,k5⟩:=Bk.f3 g0 0 1 2 rfl rfl rfl;have g1:=((((Chg.refl (fun q=>q=w.heap.size) wl).setCell (w.heap.size) 0 (.slice a0 nv c0) (fun _=>rfl)).setCell (w.heap.size) 1 (.slice a1 na c1) (fun _=>rfl)).setCell (w.heap.size) 2 (.slice (some ⟨gl,0,none⟩) nl c2) (fun _=>rfl));have n1:=(Bk.at (Bk.at (Bk.at g0 0 (.slice a0 nv c0)) 1 (.slice a1 na c1)) 2 (.slice (some ⟨gl,0,none⟩) nl c2));obtain ⟨y2,z2,a3⟩:=Bk.g3 n1;have i1:=Hi g1;clear g1 n1;have j1:=Hi (Ai hC hR);clear hC hR;go_wp2
  exact bodyPost_ret (v:=.agg #[.slice a0 nv c0,.slice a1 na c1,.slice (some ⟨gl,0,none⟩) nl c2]) (by simp [results,Tryz.results24,go_sem,y2,z2,a3]) rfl (by exact (by unfold CodeP;exact ⟨_,_,_,nv,na,nl,pk,rfl,b2.out,v1,t1,u1,j1.out.2.keep i1.out (fun h=>by omega) (fun k hk h=>by omega),by omega,chg_app j1.out.1 i1.out (fun q hq h=>by omega)⟩))
structure RdC (w:World) (va vb vc:Value) (c:Cd):Prop where
 r:ReadsC w va vb vc c
 l0:c.vars.length≤1000
 l1:c.arrays.length≤1000
 l2:c.list.length≤1000
structure RdM (w:World) (vx vy:Value) (m:Mm):Prop where
 r:ReadsM w vx vy m
 l0:m.vals.length≤1010
 l1:m.arrs.length≤1010
 l2:pre2 m.arrs m.arrs.length≤5000
theorem RdC.of {w:World} {base:Nat} {va vb vl:Value} {nv na nl:Nat} (h:DrawC w base va vb vl nv na nl) (h0:nv≤1000) (h1:na≤1000) (h2:nl≤1000):∃ c:Cd,RdC w va vb vl c:=by
 obtain ⟨c,e1,e2,e3,hr⟩:=h.reads (by omega) (by omega) (by omega);exact ⟨c,hr,by omega,by omega,by omega⟩
theorem RdC.below {w w':World} {va vb vc:Value} {c:Cd} (h:RdC w va vb vc c) (hb:Below w.heap.size w w'):RdC w' va vb vc c:=⟨h.r.below hb,h.l0,h.l1,h.l2⟩
theorem RdM.below {w w':World} {vx vy:Value} {m:Mm} (h:RdM w vx vy m) (hb:Below w.heap.size w w'):RdM w' vx vy m:=⟨h.r.below hb,h.l0,h.l1,h.l2⟩
theorem RdM.of {w:World} {base:Nat} {vx vy:Value} {m:Mm} (h:DrM w base vx vy m):RdM w vx vy m:=⟨h.reads,h.l0,h.l1,by have:=h.pre;have:=h.l1;omega⟩
theorem l6Mutate_of (va vb vl:Value) (nv na nl base B g p:Nat) (w:World) (h:DrawC w base va vb vl nv na nl) (hg:g < base) (h0:nv≤1000) (h1:na≤1000) (h2:nl≤1000) (hR:Rnd w B g p) (hp:p+5≤1000000000) :
  Calls Tryz.prog 23 #[.pointer (some ⟨g,0,none⟩),.agg #[va,vb,vl]] w fun r w'=>CodeP nv na nl 5 B g p w r w':=by
 obtain ⟨c,e1,e2,e3,hr⟩:=h.reads (by omega) (by omega) (by omega);have a0:=h.lt
 have hq:∀ q,ReadB va vb vl c q→¬q=g:=by
  intro q hq
  have:OwnB va vb vl q:=by
   rcases hq with ⟨o,cp,_,e⟩ | ⟨o,cp,_,e⟩ | ⟨o,cp,_,e⟩
   ·exact Or.inl (by rw [e];rfl)
   ·exact Or.inr (Or.inl (by rw [e];rfl))
   exact Or.inr (Or.inr (by rw [e];rfl))
  have:=a0 q this;omega
 refine (l6Mutate_any va vb vl c B g p w hr hq (by omega) (by omega) (by omega) hR hp).mono ?_;rintro r w' ⟨ua,ub,ul,nv',p',hr',hd,hv,hR',hp',hC⟩;exact ⟨ua,ub,ul,nv',na,nl,p',hr',e2 ▸ e3 ▸ hd,by omega,Lr,Lr,hR',hp',hC⟩
theorem equalI_any (va vb:Value) (xs ys:List Int) (w:World) (ha:Reads w 1 va xs.length (ints xs)) (hb:Reads w 1 vb ys.length (ints ys)) :
  Calls Tryz.prog 38 #[va,vb] w fun e w'=>e=.returned (.bool (decide (xs=ys)))∧Below w.heap.size w w':=by
 obtain ⟨_,hn,a,g0,b,i0,rfl,f0,ha,a0⟩:=ha;obtain ⟨_,hn',a',cap',b',off',rfl,hcap',ha',b0⟩:=hb;by_cases hl:xs.length=ys.length
 ·have e0:((xs.length:Int) != (ys.length:Int))=false:=by simp [hl]
  have HL:=Hi hl;clear hl;go_enter Tryz.func38,Tryz.ntmps38
  go_wp2
  go_loopw [13] (fun i wr=>∃ k:Nat,k≤xs.length∧i=.int .i64 k∧xs.take k=ys.take k∧∃ d,wr=w.drewN d) (fun i _=>xs.length-(intOf i).toNat)
  case atStart=>exact ⟨0,Nat.zero_le _,rfl,rfl,0,rfl⟩
  case round =>
   obtain ⟨k,hk,rfl,he,d,rfl⟩:=hrel;have HE:=Hi he;clear he;by_cases hlt:k < xs.length
   ·obtain ⟨rfl,h0⟩:=ha (by omega);obtain ⟨rfl,hbs'⟩:=ha' (by have:=HL.out;omega);have hlt':k < ys.length:=by have:=HL.out;omega
    have c0:=a0 k (by simpa [ints] using hlt);have d0:=b0 k (by simpa [ints] using hlt');rw [ints_get] at c0 d0;clear a0 b0 ha ha';by_cases hxy:xs[k]=ys[k]
    ·have e1:(xs[k] != ys[k])=false:=by simp [hxy]
     clear hxy;go_wp2
     go_quiet (fail)
     go_wp2
     go_roundw
     case rel=>exact ⟨k+1,by omega,by go_num,take_succ_eq hlt hlt' HE.out (by simpa using e1),_,rfl⟩
     case measure=>simp [intOf];omega
    have e1:(xs[k] != ys[k])=true:=by simp [hxy]
    have HX:=Hi hxy;clear hxy;go_wp2
    go_quiet (fail)
    go_wp2
    go_ret
    exact ⟨ret_bool (decide_eq_false (fun h=>HX.out (by subst h;rfl))).symm,by rw [World.drewN_drewN];exact below_drewN' w _⟩
   go_wp2
   go_ret
   exact ⟨ret_bool (decide_eq_true (by have h:=HE.out;rwa [List.take_of_length_le (by omega),List.take_of_length_le (by have:=HL.out;omega)] at h)).symm,below_drewN' w _⟩
 have e0:((xs.length:Int) != (ys.length:Int))=true:=by simp;omega
 have HL:=Hi hl;clear hl;go_enter Tryz.func38,Tryz.ntmps38
 go_wp2
 go_ret
 exact ⟨ret_bool (decide_eq_false (fun h=>HL.out (by rw [h]))).symm,Bs w⟩
theorem equalE_any_eq (d:Nat) (x0 x1 y0 y1:Int) (W:World):(Op.equalIn (d+2) 84 (.agg #[.int .i64 x0,.int .i64 x1]) (.agg #[.int .i64 y0,.int .i64 y1])).run Tryz.prog W=.ok (x0 == y0&&x1 == y1) W:=by
 have a0:∀ (d:Nat) (a b:Int) (W:World),(Op.equalIn (d+1) 3 (.int .i64 a) (.int .i64 b)).run Tryz.prog W=.ok (a == b) W:=fun d a b W=>by simp [Op.equalIn,run_underlying Tryz.underlying3]
 rw [Op.equalIn];simp only [Sem.run_bind,run_underlying Tryz.underlying84,Result.andThen_ok];simp [a0,part]
 by_cases h0:x0=y0 <;> by_cases h1:x1=y1 <;> simp [h0,h1]
theorem equalE_any_ne (x0 x1 y0 y1:Int) (W:World):(binOp .neq 84 (.agg #[.int .i64 x0,.int .i64 x1]) (.agg #[.int .i64 y0,.int .i64 y1])).run Tryz.prog W=.ok (.bool (!(x0 == y0&&x1 == y1))) W:=by
 have h:(Op.equal 84 (.agg #[.int .i64 x0,.int .i64 x1]) (.agg #[.int .i64 y0,.int .i64 y1])).run Tryz.prog W=.ok (x0 == y0&&x1 == y1) W:=equalE_any_eq 9998 x0 x1 y0 y1 W;simp only [binOp,Sem.run_bind,h,Result.andThen_ok];rfl
theorem equalE_any (va vb:Value) (xs ys:List Ev) (w:World) (ha:Reads w 2 va xs.length (evs xs)) (hb:Reads w 2 vb ys.length (evs ys)) :
  Calls Tryz.prog 47 #[va,vb] w fun e w'=>e=.returned (.bool (decide (xs=ys)))∧Below w.heap.size w w':=by
 simp only [evs_rows] at ha hb;obtain ⟨_,hn,a,l0,b,n0,rfl,j0,ha,f0⟩:=ha;obtain ⟨_,hn',a',cap',b',off',rfl,hcap',ha',g0⟩:=hb;have HC:=Hi (reads_Event f0);have HD:=Hi (reads_Event g0);clear f0 g0;by_cases hl:xs.length=ys.length
 ·have e0:((xs.length:Int) != (ys.length:Int))=false:=by simp [hl]
  have HL:=Hi hl;clear hl;go_enter Tryz.func47,Tryz.ntmps47
  go_wp2
  go_loopw [13] (fun i wr=>∃ k:Nat,k≤xs.length∧i=.int .i64 k∧xs.take k=ys.take k∧∃ d,wr=w.drewN d) (fun i _=>xs.length-(intOf i).toNat)
  case atStart=>exact ⟨0,Nat.zero_le _,rfl,rfl,0,rfl⟩
  case round =>
   obtain ⟨k,hk,rfl,he,d,rfl⟩:=hrel;have HE:=Hi he;clear he;by_cases hlt:k < xs.length
   ·obtain ⟨rfl,m0⟩:=ha (by omega);obtain ⟨rfl,hbs'⟩:=ha' (by have:=HL.out;omega);have hlt':k < ys.length:=by have:=HL.out;omega
    obtain ⟨c0,c1⟩:=HC.out k hlt;obtain ⟨d0,d1⟩:=HD.out k hlt';have b0:=Hi (fun h=>take_succ_eq hlt hlt' HE.out h);have i0:=Hi (fun (h:xs=ys)=>show xs[k]=ys[k] by subst h;rfl);generalize xs[k]=x at *
    generalize ys[k]=y at *
    clear HC HD ha ha';have a0:∀ W,(binOp .neq 84 (.agg #[.int .i64 x.1,.int .i64 x.2]) (.agg #[.int .i64 y.1,.int .i64 y.2])).run Tryz.prog W=.ok (.bool (!(x.1 == y.1&&x.2 == y.2))) W:=fun W=>equalE_any_ne x.1 x.2 y.1 y.2 W
    by_cases hxy:x=y
    ·have h0:=Hi (b0.out hxy);clear b0;subst hxy;clear a0;go_wp2
     go_quiet (fail)
     go_wp2
     go_roundw
     case rel=>exact ⟨k+1,by omega,by go_num,h0.out,_,rfl⟩
     case measure=>simp [intOf];omega
    have hq:(x.1 == y.1&&x.2 == y.2)=false:=by
     cases hz:(x.1 == y.1&&x.2 == y.2) with
     | false=>rfl
     | true =>
      simp only [Bool.and_eq_true,beq_iff_eq] at hz;exact absurd (by obtain ⟨x0,x1⟩:=x;obtain ⟨y0,y1⟩:=y;simp only at hz;simp [hz]) hxy
    have HX:=Hi hxy;clear hxy;have k0:∀ W,(binOp .neq 84 (.agg #[.int .i64 x.1,.int .i64 x.2]) (.agg #[.int .i64 y.1,.int .i64 y.2])).run Tryz.prog W=.ok (.bool true) W:=fun W=>by rw [a0 W,hq];rfl
    clear a0 hq;go_wp2
    go_quiet (fail)
    go_wp2
    go_ret
    exact ⟨ret_bool (decide_eq_false (fun h=>HX.out (i0.out h))).symm,by rw [World.drewN_drewN];exact below_drewN' w _⟩
   go_wp2
   go_ret
   exact ⟨ret_bool (decide_eq_true (by have h:=HE.out;rwa [List.take_of_length_le (by omega),List.take_of_length_le (by have:=HL.out;omega)] at h)).symm,below_drewN' w _⟩
 have e0:((xs.length:Int) != (ys.length:Int))=true:=by simp;omega
 have HL:=Hi hl;clear hl;go_enter Tryz.func47,Tryz.ntmps47
 go_wp2
 go_ret
 exact ⟨ret_bool (decide_eq_false (fun h=>HL.out (by rw [h]))).symm,Bs w⟩
theorem TraceSame_any (va vb:Value) (xs ys:List Ev) (w:World) (ha:Reads w 2 va xs.length (evs xs)) (hb:Reads w 2 vb ys.length (evs ys)) :
  Calls Tryz.prog 14 #[va,vb] w fun e w'=>e=.returned (.bool (decide (xs=ys)))∧Below w.heap.size w w':=by
 have HQ:=Hi (equalE_any va vb xs ys w ha hb);obtain ⟨a,c,rfl⟩:=reads_shape ha;obtain ⟨a',c',rfl⟩:=reads_shape hb;clear ha hb;go_enter Tryz.func14,Tryz.ntmps14
 go_wp2_with fail
 refine HQ.out.mono ?_;rintro e w1 ⟨rfl,a0⟩;go_wp2
 go_ret
 exact ⟨rfl,a0⟩
structure CI (W:World) (Bc X:Nat) (va vb vc:Value) (c:Cd) (s:Ms) (n:Nat):Prop where
 c0:W.cell? ⟨Bc,0,none⟩=some (.int .i64 (brN c n s))
 f0:W.frozen? ⟨Bc,0,none⟩=false
 x2:W.cell? ⟨X,2,none⟩=some vc
 rd:ReadsC W va vb vc c
theorem CI.keep {W W':World} {Bc X:Nat} {va vb vc:Value} {c:Cd} {s:Ms} {n:Nat} (h:CI W Bc X va vb vc c s n) {S:Nat→Prop} (hC:Chg S W W') (h1:¬S Bc) (h2:¬S X) (h3:∀ q,ReadB va vb vc c q→¬S q):CI W' Bc X va vb vc c s n:=
 ⟨Gc hC h.c0 h1,Gf hC (Lc h.c0) h.f0 h1,Gc hC h.x2 h2,h.rd.keep hC h3⟩
structure SI (W:World) (Bo Bc X Wb tb:Nat) (va vb vc:Value) (aw:Option Addr) (cw:Nat) (c:Cd) (ws:List Bool) (s:Ms) (n:Nat):Prop where
 o:∃ v,W.cell? ⟨Bo,0,none⟩=some v∧W.ownsRow tb 84 2 v (spN c ws n s).length (evs (spN c ws n s))
 of:W.frozen? ⟨Bo,0,none⟩=false
 c0:W.cell? ⟨Bc,0,none⟩=some (.int .i64 (brN c n s))
 cf:W.frozen? ⟨Bc,0,none⟩=false
 x:W.cell? ⟨X,0,none⟩=some va∧W.cell? ⟨X,1,none⟩=some vb∧W.cell? ⟨X,2,none⟩=some vc
 w0:W.cell? ⟨Wb,0,none⟩=some (.slice aw ws.length cw)
 ws:Reads W 1 (.slice aw ws.length cw) ws.length (bools ws)
theorem SI.keep {W W':World} {Bo Bc X Wb tb:Nat} {va vb vc:Value} {aw:Option Addr} {cw:Nat} {c:Cd} {ws:List Bool} {s:Ms} {n:Nat} (h:SI W Bo Bc X Wb tb va vb vc aw cw c ws s n) {S:Nat→Prop} (hC:Chg S W W')
  (h1:¬S Bo) (h2:¬S Bc) (h3:¬S X) (h4:¬S Wb) (h5:∀ q,tb≤q→¬S q) (h6:∀ g o cc,0 < ws.length→Value.slice aw ws.length cw=.slice (some ⟨g,o,none⟩) ws.length cc→¬S g):SI W' Bo Bc X Wb tb va vb vc aw cw c ws s n:=by
 obtain ⟨v,o1,o2⟩:=h.o;exact ⟨⟨v,Gc hC o1 h1,Ow o2 hC (fun q hq=>h5 q (o2.lt q hq).1)⟩,Gf hC (Lc o1) h.of h1,Gc hC h.c0 h2,Gf hC (Lc h.c0) h.cf h2,⟨Gc hC h.x.1 h3,Gc hC h.x.2.1 h3,Gc hC h.x.2.2 h3⟩,Gc hC h.w0 h4,h.ws.keep hC h6⟩
end Go.Proofs.YtnpidfbcbmeijaaGreat
