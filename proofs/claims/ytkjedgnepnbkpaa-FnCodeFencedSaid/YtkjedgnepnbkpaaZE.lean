/-
 Parts of the proofs of the laws FnCodeFenced,FnCountBranches.
-/
import Derived.Test.YtkjedgnepnbkpaaZD
set_option linter.all false
namespace Go.Proofs.Ytkjedgnepnbkpaa
open Go.RowKit
set_option maxHeartbeats 6400000 in
set_option maxRecDepth 100000 in
theorem l8Jumps_any (B g p:Nat) (w:World) (hR:Rnd w B g p) (hp:p+7000000≤1000000000) :
  Calls Try.prog 49 #[.pointer (some ⟨g,0,none⟩)] w fun r w'=>CodeP 5 2 400 7000000 B g p w r w':=by
 have hg:=hR.lt
 have hC:Chg (fun k=>k=g) w w:=Chg.refl _ _
 have x1:∀ q,(fun k=>k=g) q→q=g:=fun q h=>h
 go_enter Try.func49,Try.ntmps49
 go_wp2_with fail
 refine (l6Code_any B g (p) _ (hR.below (bal (Bs _) (.cells #[.slice none 0 0,.slice none 0 0,.slice none 0 0] 26))) (by omega)).mono ?_
 rintro e w1 ⟨va,vb,vl,nv,na,nl,p1,rfl,b0,v1,t1,u1,l0,t5,hc⟩
 try simp only [Sa,Ss] at b0
 obtain ⟨a0,c0,a1,c1,a2,c2,rfl,rfl,rfl⟩:=b0.shape
 obtain ⟨gl,rfl⟩:=b0.pos (by omega)
 replace hC:=((hC.trans (Chg.of_below (bal (Bs _) _)))).trans hc
 replace hR:=l0;clear l0
 have o2:=hc.size
 simp only [Sa] at o2
 have j0:Bk w1 (w.heap.size) [.slice none 0 0,.slice none 0 0,.slice none 0 0]:=Bk.kg (Bk.nw (by simp) rfl) hc
 clear hc
 have y1:=b0.lt
 try simp only [Sa] at y1
 have m3:=Bk.lz j0
 go_upto_region 2 with (fail)
 obtain ⟨w2,o1,hb⟩:=nmw (World.alloc w1 (.cells #[.slice a0 nv c0,.slice a1 na c1,.slice (some ⟨gl,0,none⟩) nl c2] 26))
 replace hC:=((hC.trans (Chg.of_below (bal (Bs _) _)))).trans (Chg.of_below hb)
 replace hR:=(hR.below (bal (Bs _) _)).below hb
 have q2:=hb.size
 simp only [Sa] at q2
 replace b0:=(b0.below (bal (Bs _) _)).below hb
 replace j0:=Bk.below (Bk.al j0 _) hb
 have k0:Bk w2 (w1.heap.size) [.slice a0 nv c0,.slice a1 na c1,.slice (some ⟨gl,0,none⟩) nl c2]:=Bk.below (Bk.nw (by simp) rfl) hb
 clear hb
 rw [← o1]
 clear o1
 have n3:=Bk.lz k0
 have y5:w.heap.size≤w.heap.size∧w.heap.size < w2.heap.size∧w1.heap.size < w2.heap.size∧w.heap.size≤w1.heap.size:=by omega
 go_wp2_with fail
 refine (pick_any _ _ B g (p1) hR (by omega) (by omega) (by omega)).mono ?_
 rintro e w3 ⟨z,z0,z1,rfl,l0,hc⟩
 replace hC:=(hC).trans hc
 replace hR:=l0;clear l0
 have r3:=hc.size
 replace b0:=b0.keep hc (fun gq h h2=>by have:=y1 gq h;have:=x1 gq h2;omega)
 replace j0:=Bk.kg j0 hc
 replace k0:=Bk.kg k0 hc
 clear hc
 replace m3:=Bk.lz j0
 replace n3:=Bk.lz k0
 go_upto_if 12 with (fail)
 go_cut [] (fun wx=>∃ (a0 a1:Option Addr) (c0 c1 c2 gl nv na nl pk:Nat),Bk wx (w1.heap.size) [.slice a0 nv c0,.slice a1 na c1,.slice (some ⟨gl,0,none⟩) nl c2]∧Bk wx (w.heap.size) [.slice none 0 0,.slice none 0 0,.slice none 0 0]∧DrawC wx w.heap.size (.slice a0 nv c0) (.slice a1 na c1) (.slice (some ⟨gl,0,none⟩) nl c2) nv na nl∧(∀ q,OwnB (.slice a0 nv c0) (.slice a1 na c1) (.slice (some ⟨gl,0,none⟩) nl c2) q→¬q=w.heap.size∧¬q=w1.heap.size)∧nv≤5∧na≤2∧1≤nl∧nl≤400∧Rnd wx B g pk∧pk≤p+6005000∧Chg (fun q=>q=g) w wx∧w3.heap.size≤wx.heap.size)
 case first =>
  have n0:∀ q,OwnB (.slice a0 nv c0) (.slice a1 na c1) (.slice (some ⟨gl,0,none⟩) nl c2) q→¬q=w.heap.size∧¬q=w1.heap.size:=fun q h=>by have:=y1 q h;omega
  by_cases hz:z=0
  ·subst hz
   go_wp2_with fail
   refine (l2Program_any B g (p1+1) _ hR (by omega)).mono ?_
   rintro e w4 ⟨e0,e1,e2,f0,f1,f2,us,ys,L,p2,rfl,oV,oA,o3,p3,s5,z5,c3,d3,e3,l0,v5,hc⟩
   have t3:=hc.size
   clear o3
   replace hC:=(hC).trans hc
   replace hR:=l0;clear l0
   have s3:=hc.size
   replace b0:=b0.keep hc (fun gq h h2=>by have:=y1 gq h;have:=x1 gq h2;omega)
   replace j0:=Bk.kg j0 hc
   replace k0:=Bk.kg k0 hc
   clear hc
   have l1:=BlAt.keep2 (S:=fun _=>False) (Chg.refl _ _) (fun _ _ _=>id) (fun q (hq:w3.heap.size≤q) hlt=>(show w3.heap.size≤q∧q < w4.heap.size from ⟨hq,hlt⟩)) (Nat.le_refl _) c3
   go_wp2_with fail
   refine (CompileProgram_any _ _ _ us ys _ _ L _ (Ro oV (by omega)) (Ro oA (by omega)) l1 (fun q h=>h.2) d3 e3 (by omega) (by omega)).mono ?_
   rintro e w5 ⟨e0,e1,e2,f0,f1,f2,m0,m1,m2,ok,rfl,n2,hb⟩
   replace hC:=(hC).trans (Chg.of_below hb)
   replace hR:=hR.below hb
   have h3:=hb.size
   replace b0:=b0.below hb
   replace j0:=Bk.below j0 hb
   replace k0:=Bk.below k0 hb
   clear hb
   replace m3:=Bk.lz j0
   replace n3:=Bk.lz k0
   clear c3 l1 oV oA e3 d3
   cases ok with
   | false =>
    clear n2
    have i0:=Lib.hid (And.intro (Bk.al k0 (.cells #[.slice e0 m0 f0,.slice e1 m1 f1,.slice e2 m2 f2] 26)) (And.intro (Bk.al j0 (.cells #[.slice e0 m0 f0,.slice e1 m1 f1,.slice e2 m2 f2] 26)) (And.intro (b0.below (bal (Bs _) (.cells #[.slice e0 m0 f0,.slice e1 m1 f1,.slice e2 m2 f2] 26))) (And.intro (hR.below (bal (Bs _) (.cells #[.slice e0 m0 f0,.slice e1 m1 f1,.slice e2 m2 f2] 26))) (hC.trans (Chg.of_below (bal (Bs _) (.cells #[.slice e0 m0 f0,.slice e1 m1 f1,.slice e2 m2 f2] 26))))))))
    have k1:=Lib.hid n0
    clear hR hC b0
    go_wp2_with fail
    go_meet
    exact ⟨_,_,_,_,_,_,_,_,_,p2,i0.out.1,i0.out.2.1,DrawC.mono i0.out.2.2.1 (by omega),k1.out,by omega,by omega,by omega,by omega,i0.out.2.2.2.1,by omega,i0.out.2.2.2.2,by (try simp only [Sa,Ss]);omega⟩
   | true =>
    obtain ⟨s1,o5,p5,q5,r5⟩:=n2 rfl
    clear n2
    obtain ⟨gn,rfl⟩:=s1.pos (by omega)
    have iN:∀ q,OwnB (.slice e0 m0 f0) (.slice e1 m1 f1) (.slice (some ⟨gn,0,none⟩) m2 f2) q→w4.heap.size≤q∧q < w5.heap.size:=s1.lt
    have q1:∀ q,OwnB (.slice e0 m0 f0) (.slice e1 m1 f1) (.slice (some ⟨gn,0,none⟩) m2 f2) q→¬q=w.heap.size∧¬q=w1.heap.size:=fun q h=>by have:=iN q h;omega
    obtain ⟨b4,s4,c4,t4,d4,u4⟩:=Bk.f3 k0 0 1 2 rfl rfl rfl
    have i0:=Lib.hid (And.intro (Bk.al (Bk.at (Bk.at (Bk.at k0 0 (.slice e0 m0 f0)) 1 (.slice e1 m1 f1)) 2 (.slice (some ⟨gn,0,none⟩) m2 f2)) (.cells #[.slice e0 m0 f0,.slice e1 m1 f1,.slice (some ⟨gn,0,none⟩) m2 f2] 26)) (And.intro (Bk.al (Bk.nn (b':=(w1.heap.size)) (j':=2) (Bk.nn (b':=(w1.heap.size)) (j':=1) (Bk.nn (b':=(w1.heap.size)) (j':=0) j0 (.slice e0 m0 f0)) (.slice e1 m1 f1)) (.slice (some ⟨gn,0,none⟩) m2 f2)) (.cells #[.slice e0 m0 f0,.slice e1 m1 f1,.slice (some ⟨gn,0,none⟩) m2 f2] 26)) (And.intro ((((s1.keep (C1 (w1.heap.size) 0 (.slice e0 m0 f0)) (fun gq h h2=>by have:=iN gq h;omega)).keep (C1 (w1.heap.size) 1 (.slice e1 m1 f1)) (fun gq h h2=>by have:=iN gq h;omega)).keep (C1 (w1.heap.size) 2 (.slice (some ⟨gn,0,none⟩) m2 f2)) (fun gq h h2=>by have:=iN gq h;omega)).below (bal (Bs _) (.cells #[.slice e0 m0 f0,.slice e1 m1 f1,.slice (some ⟨gn,0,none⟩) m2 f2] 26))) (And.intro ((((hR.kC (w1.heap.size) (0) (.slice e0 m0 f0)).kC (w1.heap.size) (1) (.slice e1 m1 f1)).kC (w1.heap.size) (2) (.slice (some ⟨gn,0,none⟩) m2 f2)).below (bal (Bs _) (.cells #[.slice e0 m0 f0,.slice e1 m1 f1,.slice (some ⟨gn,0,none⟩) m2 f2] 26))) ((((hC.sN (w1.heap.size) (0) (.slice e0 m0 f0)).sN (w1.heap.size) (1) (.slice e1 m1 f1)).sN (w1.heap.size) (2) (.slice (some ⟨gn,0,none⟩) m2 f2)).trans (Chg.of_below (bal (Bs _) (.cells #[.slice e0 m0 f0,.slice e1 m1 f1,.slice (some ⟨gn,0,none⟩) m2 f2] 26))))))))
    have k1:=Lib.hid q1
    clear hR hC s1
    go_wp2_with fail
    go_meet
    exact ⟨_,_,_,_,_,_,_,_,_,p2,i0.out.1,i0.out.2.1,DrawC.mono i0.out.2.2.1 (by omega),k1.out,by omega,by omega,by omega,by omega,i0.out.2.2.2.1,by omega,i0.out.2.2.2.2,by (try simp only [Sa,Ss]);omega⟩
  have c6:(z == 0)=false:=by simp [hz]
  have i0:=Lib.hid (And.intro k0 (And.intro j0 (And.intro b0 (And.intro hR hC))))
  have k1:=Lib.hid n0
  clear hR hC b0
  go_wp2_with fail
  go_meet
  exact ⟨_,_,_,_,_,_,_,_,_,p1+1,i0.out.1,i0.out.2.1,DrawC.mono i0.out.2.2.1 (by omega),k1.out,by omega,by omega,by omega,by omega,i0.out.2.2.2.1,by omega,i0.out.2.2.2.2,by (try simp only [Sa,Ss]);omega⟩
 clear hR hC j0 b0 k0
 obtain ⟨wq,rfl⟩:∃ W,W=wc:=⟨_,rfl⟩
 clear v1 t1 u1
 obtain ⟨a0,a1,c0,c1,c2,gl,nv,na,nl,s2,d0,g0,b0,n0,v1,t1,p3,u1,hR,q3,hC,a6⟩:=hcut
 have iD:∀ q,OwnB (.slice a0 nv c0) (.slice a1 na c1) (.slice (some ⟨gl,0,none⟩) nl c2) q→(w.heap.size≤q∧q < wq.heap.size)∧¬q=w.heap.size∧¬q=w1.heap.size:=fun q h=>⟨b0.lt q h,n0 q h⟩
 clear n0
 have m5:=iD gl (Or.inr (Or.inr rfl))
 have u3:=Bk.lz d0
 have v3:=Bk.lz g0
 obtain ⟨t2,v2⟩:=Bk.cf d0 2 rfl
 have b3:Hid (∃ (k pk:Nat),Value.int .i64 0=.int .i64 k∧k+1≤nl∧Bk wq (w1.heap.size) [.slice a0 nv c0,.slice a1 na c1,.slice (some ⟨gl,0,none⟩) nl c2]∧Bk wq (w.heap.size) [.slice none 0 0,.slice none 0 0,.slice none 0 0]∧DrawC wq w.heap.size (.slice a0 nv c0) (.slice a1 na c1) (.slice (some ⟨gl,0,none⟩) nl c2) nv na nl∧Rnd wq B g pk∧pk≤s2+2*k∧Chg (fun q=>q=g) w wq∧wq.heap.size≤wq.heap.size):=Lib.hid ⟨0,s2,rfl,by omega,d0,g0,b0,hR,by omega,hC,Nat.le_refl _⟩
 clear hR hC d0 g0 b0
 go_wp2_with fail
 clear v2 t2
 go_loopw [7] (fun i wr=>∃ (k pk:Nat),i=.int .i64 k∧k+1≤nl∧Bk wr (w1.heap.size) [.slice a0 nv c0,.slice a1 na c1,.slice (some ⟨gl,0,none⟩) nl c2]∧Bk wr (w.heap.size) [.slice none 0 0,.slice none 0 0,.slice none 0 0]∧DrawC wr w.heap.size (.slice a0 nv c0) (.slice a1 na c1) (.slice (some ⟨gl,0,none⟩) nl c2) nv na nl∧Rnd wr B g pk∧pk≤s2+2*k∧Chg (fun q=>q=g) w wr∧wq.heap.size≤wr.heap.size) (fun i _=>nl-(intOf i).toNat)
 case atStart=>exact b3.out
 case round =>
  obtain ⟨k,pk,rfl,hk,d0,g0,b0,hR,u5,hC,b6⟩:=hrel
  clear b3
  obtain ⟨wl,rfl⟩:∃ X,X=wr:=⟨_,rfl⟩
  have x3:=Bk.lz d0
  have y3:=Bk.lz g0
  by_cases h1:k+1 < nl
  ·have z3:(k:Int)+1 < (nl:Int):=by omega
   by_cases h2:nl≤40
   ·have a4:(nl:Int)≤40:=by omega
    obtain ⟨⟨xo,l3⟩,l5⟩:=b0.at k 0 (by omega) (by omega)
    replace l3:wl.cell? ⟨gl,k*5,none⟩=some (.int .i64 xo):=l3
    by_cases e1:xo=10
    ·subst e1
     obtain ⟨e4,v4⟩:=Bk.cf d0 2 rfl
     have HX:=Lib.hid (And.intro d0 (And.intro g0 (And.intro b0 (And.intro hR hC))));have d1:=Lib.hid (show wl.heap.size≤wl.heap.size by omega)
     clear hR hC b0
     go_wp2
     go_roundw
     case rel=>exact ⟨k+1,pk,by go_num,by omega,HX.out.1,HX.out.2.1,HX.out.2.2.1,HX.out.2.2.2.1,by omega,HX.out.2.2.2.2,by have:=d1.out;(try simp only [Ss]);omega⟩
     case measure=>simp [intOf];omega
    have f6:(xo != 10)=true:=by simp [e1]
    by_cases e2:xo=1
    ·subst e2
     obtain ⟨f4,x4⟩:=Bk.cf d0 2 rfl
     have HX:=Lib.hid (And.intro d0 (And.intro g0 (And.intro b0 (And.intro hR hC))));have d1:=Lib.hid (show wl.heap.size≤wl.heap.size by omega)
     clear hR hC b0
     go_wp2
     go_roundw
     case rel=>exact ⟨k+1,pk,by go_num,by omega,HX.out.1,HX.out.2.1,HX.out.2.2.1,HX.out.2.2.2.1,by omega,HX.out.2.2.2.2,by have:=d1.out;(try simp only [Ss]);omega⟩
     case measure=>simp [intOf];omega
    have g6:(xo != 1)=true:=by simp [e2]
    obtain ⟨⟨d2,u0⟩,o0⟩:=b0.at (k) 0 (by omega) (by omega)
    replace u0:wl.cell? ⟨gl,k*5,none⟩=some (.int .i64 d2):=u0;replace o0:wl.frozen? ⟨gl,k*5,none⟩=false:=o0
    obtain ⟨u2,x2⟩:=Bk.cf d0 2 rfl
    go_wp2_with fail
    refine (pick_any _ _ B g (pk) hR (by omega) (by omega) (by omega)).mono ?_
    rintro e w5 ⟨z4,i6,j6,rfl,l0,hc⟩
    replace hC:=(hC).trans hc
    replace hR:=l0;clear l0
    replace b0:=DrawC.keep b0 hc (fun q h h2=>by have:=iD q h;have:=x1 q h2;omega)
    have i3:=hc.size
    clear x2 u2
    replace d0:=Bk.kg d0 hc
    replace g0:=Bk.kg g0 hc
    clear hc
    by_cases hz4:z4=0
    ·subst hz4
     have x5:1≤IntKind.i64.wrap (IntKind.i64.wrap ((nl:Int)-(k:Int))-1)∧IntKind.i64.wrap (IntKind.i64.wrap ((nl:Int)-(k:Int))-1)≤1000:=by rw [IntWalk.i64_in ((nl:Int)-(k:Int)) (by omega),IntWalk.i64_in _ (by omega)];omega
     have n5:k < nl:=by omega
     go_upto_region 11 with (fail)
     have h0:=Bk.cell d0 2 (v:=.slice (some ⟨gl,0,none⟩) nl c2) rfl
     refine wp_region_noPanic ?_
     refine wp_region_held_drew (S:=(fun W'=>W'.cell? ⟨w1.heap.size,2,none⟩=some (.slice (some ⟨gl,0,none⟩) nl c2))) (by kernel_rfl) (Kc (Below.drew (Bs w5)) h0) (fun hHeld=>?_)
     obtain ⟨w6,r2⟩:∃ X,X=World.drew w5:=⟨_,rfl⟩
     rw [← r2] at hHeld ⊢
     have hb:Below w5.heap.size w5 w6:=by rw [r2];exact Below.drew (Bs _)
     clear r2
     replace hC:=(hC).trans (Chg.of_below hb)
     replace hR:=hR.below hb
     replace b0:=DrawC.below b0 hb
     have j3:=hb.size
     replace h0:=Kc hb h0
     replace d0:=Bk.below d0 hb
     replace g0:=Bk.below g0 hb
     clear hb
     refine (tq 0 55 rfl rfl ?_ ?_ (tq 1 56 rfl rfl ?_ ?_ (tq 2 57 rfl rfl ?_ ?_ (tq 3 58 rfl rfl ?_ ?_ (tq 4 59 rfl rfl ?_ ?_ (tq 5 60 rfl rfl ?_ ?_ (tq 6 61 rfl rfl ?_ ?_ (tq 7 62 rfl rfl ?_ ?_ (tq 8 63 rfl rfl ?_ ?_ (tq 9 64 rfl rfl ?_ ?_ ?_))))))))))
     iterate 10 (rotate_left;intro W' hSw;(try dsimp only at hSw);go_simp;try with_reducible rfl)
     try simp only [Ep]
     refine Rdy 10 rfl (fun K hK=>?_)
     go_simp
     refine (pick_any _ _ B g (pk+1) hR (by omega) (by omega) (by omega)).mono ?_
     rintro e w7 ⟨z6,k6,l6,rfl,l0,hc⟩
     replace hC:=(hC).trans hc
     replace hR:=l0;clear l0
     replace b0:=DrawC.keep b0 hc (fun q h h2=>by have:=iD q h;have:=x1 q h2;omega)
     have k3:=hc.size
     replace h0:=Gg hc h0
     replace d0:=Bk.kg d0 hc
     replace g0:=Bk.kg g0 hc
     clear hc
     refine hK.out _ _ (h0) (fun hHeld=>?_)
     clear hK K
     try simp only [Ep]
     refine (tq 11 66 rfl rfl ?_ ?_ (tq 12 67 rfl rfl (.agg #[.int .i64 8,.int .i64 (IntKind.i64.wrap (IntKind.i64.wrap ((k:Int)+1)+z6)),.int .i64 0,.int .i64 0,.int .i64 0]) (fun W' _=>by kernel_rfl) (tq 13 68 rfl rfl ?_ ?_ ?_)))
     iterate 2 (rotate_left;intro W' hSw;(try dsimp only at hSw);go_simp;try with_reducible rfl)
     try simp only [Ep]
     refine Rdy 14 rfl (fun K hK=>?_)
     obtain ⟨⟨g2,v0⟩,p0⟩:=b0.at (k) 0 (by omega) (by omega)
     replace v0:w7.cell? ⟨gl,k*5,none⟩=some (.int .i64 g2):=v0;replace p0:w7.frozen? ⟨gl,k*5,none⟩=false:=p0
     obtain ⟨⟨i2,w0⟩,q0⟩:=b0.at (k) 1 (by omega) (by omega)
     replace w0:w7.cell? ⟨gl,k*5+1,none⟩=some (.int .i64 i2):=w0;replace q0:w7.frozen? ⟨gl,k*5+1,none⟩=false:=q0
     obtain ⟨⟨j2,x0⟩,r0⟩:=b0.at (k) 2 (by omega) (by omega)
     replace x0:w7.cell? ⟨gl,k*5+2,none⟩=some (.int .i64 j2):=x0;replace r0:w7.frozen? ⟨gl,k*5+2,none⟩=false:=r0
     obtain ⟨⟨k2,y0⟩,s0⟩:=b0.at (k) 3 (by omega) (by omega)
     replace y0:w7.cell? ⟨gl,k*5+3,none⟩=some (.int .i64 k2):=y0;replace s0:w7.frozen? ⟨gl,k*5+3,none⟩=false:=s0
     obtain ⟨⟨l2,b1⟩,t0⟩:=b0.at (k) 4 (by omega) (by omega)
     replace b1:w7.cell? ⟨gl,k*5+4,none⟩=some (.int .i64 l2):=b1;replace t0:w7.frozen? ⟨gl,k*5+4,none⟩=false:=t0
     go_simp
     obtain ⟨w8,o1,hb⟩:=nmw (World.setCell (World.setCell (World.setCell (World.setCell (World.setCell w7 ⟨gl,k*5,none⟩ (.int .i64 8)) ⟨gl,k*5+1,none⟩ (.int .i64 (IntKind.i64.wrap (IntKind.i64.wrap ((k:Int)+1)+z6)))) ⟨gl,k*5+2,none⟩ (.int .i64 0)) ⟨gl,k*5+3,none⟩ (.int .i64 0)) ⟨gl,k*5+4,none⟩ (.int .i64 0))
     replace hC:=((((((hC.sN _ _ _).sN _ _ _).sN _ _ _).sN _ _ _).sN _ _ _)).trans (Chg.of_below hb)
     replace hR:=(((((hR.kC _ _ _).kC _ _ _).kC _ _ _).kC _ _ _).kC _ _ _).below hb
     replace b0:=DrawC.below (DrawC.put (DrawC.put (DrawC.put (DrawC.put (DrawC.put b0 (k) 0 (by omega) (by omega) (8)) (k) 1 (by omega) (by omega) ((IntKind.i64.wrap (IntKind.i64.wrap ((k:Int)+1)+z6)))) (k) 2 (by omega) (by omega) (0)) (k) 3 (by omega) (by omega) (0)) (k) 4 (by omega) (by omega) (0)) hb
     have r1:=hb.size
     simp only [Ss] at r1
     replace h0:=Kc hb (Nn (Nn (Nn (Nn (Nn h0 _) _) _) _) _)
     replace d0:=Bk.below (Bk.nn (Bk.nn (Bk.nn (Bk.nn (Bk.nn d0 _) _) _) _) _) hb
     replace g0:=Bk.below (Bk.nn (Bk.nn (Bk.nn (Bk.nn (Bk.nn g0 _) _) _) _) _) hb
     clear hb
     rw [← o1]
     clear o1
     refine hK.out _ _ (h0) (fun hHeld=>?_)
     clear hK K
     try simp only [Ep]
     refine Dn ?_
     clear hHeld
     have HX:=Lib.hid (And.intro d0 (And.intro g0 (And.intro b0 (And.intro hR hC))));have d1:=Lib.hid (show wl.heap.size≤w8.heap.size by omega)
     clear hR hC b0
     go_wp2
     go_roundw
     case rel=>exact ⟨k+1,pk+1+1,by go_num,by omega,HX.out.1,HX.out.2.1,HX.out.2.2.1,HX.out.2.2.2.1,by omega,HX.out.2.2.2.2,by have:=d1.out;(try simp only [Ss]);omega⟩
     case measure=>simp [intOf];omega
    have h6:(z4 == 0)=false:=by simp [hz4]
    have HX:=Lib.hid (And.intro d0 (And.intro g0 (And.intro b0 (And.intro hR hC))));have d1:=Lib.hid (show wl.heap.size≤w5.heap.size by omega)
    clear hR hC b0
    go_wp2
    go_roundw
    case rel=>exact ⟨k+1,pk+1,by go_num,by omega,HX.out.1,HX.out.2.1,HX.out.2.2.1,HX.out.2.2.2.1,by omega,HX.out.2.2.2.2,by have:=d1.out;(try simp only [Ss]);omega⟩
    case measure=>simp [intOf];omega
   have a4:decide ((nl:Int)≤40)=false:=decide_eq_false (by omega)
   have e6:¬(nl:Int)≤40:=by omega
   go_upto_region 12 with (fail)
   have b2:=Lib.hid (DrawC.keep (DrawC.keep (DrawC.keep b0 (C1 (w.heap.size) (0) (.slice a0 nv c0)) (fun gq h h2=>by have:=iD gq h;omega)) (C1 (w.heap.size) (1) (.slice a1 na c1)) (fun gq h h2=>by have:=iD gq h;omega)) (C1 (w.heap.size) (2) (.slice (some ⟨gl,0,none⟩) nl c2)) (fun gq h h2=>by have:=iD gq h;omega));clear b0
   obtain ⟨g4,y4,h4,a5,i4,b5⟩:=Bk.f3 d0 0 1 2 rfl rfl rfl
   obtain ⟨j4,c5,k4,d5,l4,e5⟩:=Bk.f3 g0 0 1 2 rfl rfl rfl
   have g1:=((((Chg.refl (fun q=>q=w.heap.size) wl).setCell (w.heap.size) 0 (.slice a0 nv c0) (fun _=>rfl)).setCell (w.heap.size) 1 (.slice a1 na c1) (fun _=>rfl)).setCell (w.heap.size) 2 (.slice (some ⟨gl,0,none⟩) nl c2) (fun _=>rfl))
   have n1:=(Bk.at (Bk.at (Bk.at g0 0 (.slice a0 nv c0)) 1 (.slice a1 na c1)) 2 (.slice (some ⟨gl,0,none⟩) nl c2))
   obtain ⟨y2,z2,a3⟩:=Bk.g3 n1
   have i1:=Lib.hid g1;clear g1 n1
   have j1:=Lib.hid (And.intro hC hR);clear hC hR
   go_wp2
   exact bodyPost_ret (v:=.agg #[.slice a0 nv c0,.slice a1 na c1,.slice (some ⟨gl,0,none⟩) nl c2]) (by simp [results,Try.results49,go_sem,y2,z2,a3]) rfl (by exact (by unfold CodeP;exact ⟨_,_,_,nv,na,nl,pk,rfl,b2.out,v1,t1,u1,j1.out.2.keep i1.out (fun h=>by omega) (fun k hk h=>by omega),by omega,chg_app j1.out.1 i1.out (fun q hq h=>by omega)⟩))
  have z3:decide ((k:Int)+1 < (nl:Int))=false:=decide_eq_false (by omega)
  have d6:¬(k:Int)+1 < (nl:Int):=by omega
  go_upto_region 12 with (fail)
  have b2:=Lib.hid (DrawC.keep (DrawC.keep (DrawC.keep b0 (C1 (w.heap.size) (0) (.slice a0 nv c0)) (fun gq h h2=>by have:=iD gq h;omega)) (C1 (w.heap.size) (1) (.slice a1 na c1)) (fun gq h h2=>by have:=iD gq h;omega)) (C1 (w.heap.size) (2) (.slice (some ⟨gl,0,none⟩) nl c2)) (fun gq h h2=>by have:=iD gq h;omega));clear b0
  obtain ⟨m4,f5,n4,g5,o4,h5⟩:=Bk.f3 d0 0 1 2 rfl rfl rfl
  obtain ⟨p4,i5,q4,j5,r4,k5⟩:=Bk.f3 g0 0 1 2 rfl rfl rfl
  have g1:=((((Chg.refl (fun q=>q=w.heap.size) wl).setCell (w.heap.size) 0 (.slice a0 nv c0) (fun _=>rfl)).setCell (w.heap.size) 1 (.slice a1 na c1) (fun _=>rfl)).setCell (w.heap.size) 2 (.slice (some ⟨gl,0,none⟩) nl c2) (fun _=>rfl))
  have n1:=(Bk.at (Bk.at (Bk.at g0 0 (.slice a0 nv c0)) 1 (.slice a1 na c1)) 2 (.slice (some ⟨gl,0,none⟩) nl c2))
  obtain ⟨y2,z2,a3⟩:=Bk.g3 n1
  have i1:=Lib.hid g1;clear g1 n1
  have j1:=Lib.hid (And.intro hC hR);clear hC hR
  go_wp2
  exact bodyPost_ret (v:=.agg #[.slice a0 nv c0,.slice a1 na c1,.slice (some ⟨gl,0,none⟩) nl c2]) (by simp [results,Try.results49,go_sem,y2,z2,a3]) rfl (by exact (by unfold CodeP;exact ⟨_,_,_,nv,na,nl,pk,rfl,b2.out,v1,t1,u1,j1.out.2.keep i1.out (fun h=>by omega) (fun k hk h=>by omega),by omega,chg_app j1.out.1 i1.out (fun q hq h=>by omega)⟩))
end Go.Proofs.Ytkjedgnepnbkpaa
