/-
 Parts of the proofs of the laws FnPairMemory,FnSplitMemory.
-/
import Derived.Test.YtlckklglbodgbaaGreatPX
set_option maxHeartbeats 12800000
set_option maxRecDepth 100000
set_option linter.all false
namespace Go.Proofs.YtlckklglbodgbaaGreat
open Go.RowKit
theorem l3Value_any (B g p:Nat) (w:World) (hR:Rnd w B g p) (hp:p+1≤1000000000) :
  Calls Tryz.prog 49 #[.pointer (some ⟨g,0,none⟩)] w fun r w'=>∃ v:Int,r=.returned (.int .i64 v)∧(0≤v∧v < 256)∧Rnd w' B g (p+1)∧Chg (fun q=>q=g) w w':=by
 have hg:=hR.lt;have hC:Chg (fun k=>k=g) w w:=Chg.refl _ _;have d0:∀ q,(fun k=>k=g) q→q=g:=fun q h=>h
 go_enter Tryz.func49,Tryz.ntmps49
 go_wp2_with fail
 refine (num_any _ [0,1,2,3,255,128,7,4,100] _ B g (p) (hR.below (bal (Bs _) (.cells #[.int .i64 0,.int .i64 1,.int .i64 2,.int .i64 3,.int .i64 255,.int .i64 128,.int .i64 7,.int .i64 4,.int .i64 100] 3))) (Ro (World.ownsRow_lit (base:=(w).heap.size) (e:=3) (size:=1) (w) #[.int .i64 0,.int .i64 1,.int .i64 2,.int .i64 3,.int .i64 255,.int .i64 128,.int .i64 7,.int .i64 4,.int .i64 100] 9 Lr (by unfold maxLen;omega) (by simp)) (by simp)) (fun b o c hb=>by simp at hb;omega) (by simp) (by simp) (by omega)).mono ?_;rintro e w1 ⟨v,vm,rfl,b0,hc⟩;replace hC:=((hC.trans (Cb (bal (Bs _) _)))).trans hc;replace hR:=b0;clear b0;have a0:=hc.size;simp only [Sa] at a0;have c0:Bk w1 (w.heap.size) [.int .i64 0,.int .i64 1,.int .i64 2,.int .i64 3,.int .i64 255,.int .i64 128,.int .i64 7,.int .i64 4,.int .i64 100]:=Bk.kg (Bk.n9 (w.heap.size)) hc;clear hc;clear c0;have HV:Hid (0≤v∧v < 256):=Hi (by simp only [List.mem_cons,List.not_mem_nil,or_false] at vm;omega);clear vm;have tC:=hC;have tR:=hR;have tt:=True.intro;go_wp2
 exact bodyPost_ret (v:=.int .i64 v) (by simp [results,Tryz.results49,go_sem]) rfl (by exact ⟨v,rfl,HV.out,tR,tC⟩)
theorem l2Small_any (pv pa:Option Addr) (nv cv na ca:Nat) (vb:Value) (B g p:Nat) (w:World) (hR:Rnd w B g p) (hp:p+10100≤1000000000) (hnv:1≤nv) (hnb:nv≤1000∧na≤1000) :
  Calls Tryz.prog 123 #[.pointer (some ⟨g,0,none⟩),.agg #[.slice pv nv cv,.slice pa na ca,vb]] w fun r w'=>∃ (n:En) (e:Ex) (p':Nat),r=.returned (.agg #[.int .i64 n.k,.int .i64 n.v,.slice n.p n.n n.c])∧ExAt w' (fun q=>w.heap.size≤q) 5 n e∧Thin 5 e∧Rnd w' B g p'∧p'≤p+10100∧Chg (fun q=>q=g) w w':=by
 have hg:=hR.lt;have hC:Chg (fun k=>k=g) w w:=Chg.refl _ _;have e1:∀ q,(fun k=>k=g) q→q=g:=fun q h=>h
 go_enter Tryz.func123,Tryz.ntmps123
 go_upto_region 1 with (fail)
 generalize hnw:World.alloc _ _=w1;have hb:=nmh hnw;clear hnw
 replace hC:=(((hC.trans (Cb (bal (Bs _) _))).trans (Cb (bal (Bs _) _)))).trans (Cb hb);replace hR:=((hR.below (bal (Bs _) _)).below (bal (Bs _) _)).below hb;have i3:=hb.size;simp only [Sa] at i3;have a0:=Bb (Bk.al (Bk.n3 (w.heap.size)) (.cells #[.int .i64 0,.int .i64 0,.slice none 0 0] 73)) hb;have a1:=Bb (Bk.n3 (w.heap.size+1)) hb;clear hb;have q7:=Bk.lz a0;have r7:=Bk.lz a1;go_cut [5] (fun s wx=>∃ (n:En) (e:Ex) (b5 pk lo hi:Nat),s=.pointer (some ⟨b5,0,none⟩)∧Bk wx b5 [.int .i64 n.k,.int .i64 n.v,.slice n.p n.n n.c]∧Bk wx (w.heap.size) [.slice pv nv cv,.slice pa na ca,vb]∧Bk wx (w.heap.size+1) [.int .i64 0,.int .i64 0,.slice none 0 0]∧ExAt wx (fun q=>lo≤q∧q < hi) 5 n e∧Thin 5 e∧(w1.heap.size≤lo∧hi≤wx.heap.size∧(b5 < lo∨hi≤b5)∧w1.heap.size≤b5)∧Rnd wx B g pk∧pk≤p+10050∧Chg (fun q=>q=g) w wx∧w1.heap.size≤wx.heap.size)
 case first =>
  refine Rgh (S:=fun W'=>W'.cell? ⟨w.heap.size,0,none⟩=some (.slice pv nv cv)∧W'.cell? ⟨w.heap.size,1,none⟩=some (.slice pa na ca)∧W'.cell? ⟨w.heap.size,2,none⟩=some (vb)) (fun W d=>Bk.d3 a0 d) (fun w2 j1 hHeld=>?_);replace hC:=(hC).trans (Cb j1);replace hR:=hR.below j1;have k6:=j1.size;refine (tq 0 6 rfl rfl ?_ ?_ (tq 1 7 rfl rfl ?_ ?_ (tq 2 8 rfl rfl ?_ ?_ ?_)));iterate 3 (rotate_left;intro W' hSw;(try dsimp only at hSw);go_simp;try with_reducible rfl)
  try simp only [Ep]
  refine Rdy2 3 6 rfl rfl (fun K hK=>?_) (fun K hK=>?_)
  ·replace a0:=Bb a0 j1;obtain ⟨z6,l7,o3,e4,p3,f4⟩:=Bk.h3 a0;go_simp
   generalize hnw:World.alloc _ _=w3;have j0:=nmh hnw;clear hnw
   replace hC:=((hC.trans (Cb (bal (Bs _) _)))).trans (Cb j0);replace hR:=(hR.below (bal (Bs _) _)).below j0;have b0:=Ob (World.ownsRow_lit (base:=(w2).heap.size) (e:=3) (size:=1) (w2) #[.int .i64 2,.int .i64 3,.int .i64 2,.int .i64 1,.int .i64 4] 5 Lr (by unfold maxLen;omega) (by simp)) j0;try simp only [Sa,Ss] at b0
   have o1:=j0.size;simp only [Sa] at o1;clear l7 z6 e4 o3 f4 p3;have w0:=Bb (Bk.n5 (w2.heap.size)) j0;have c0:=b0.lt;try simp only [Sa] at c0
   have l6:=Bk.lz w0;replace a0:=Bb (Bk.al a0 _) j0;refine hK.out _ _ (Bk.e3 a0) (fun hHeld=>?_);clear hK K;try simp only [Ep]
   refine Rdy2 4 6 rfl rfl (fun K hK=>?_) (fun K hK=>?_)
   ·go_simp
    refine (num_any _ [2,3,2,1,4] _ B g (p) hR (Ro b0 (by simp)) (fun b o c hb=>by simp at hb;omega) (by simp) (by simp) (by omega)).mono ?_;rintro e w4 ⟨d0,d0m,rfl,g0,s0⟩;replace hC:=(hC).trans s0;replace hR:=g0;clear g0;have a5:=s0.size;replace b0:=Ow b0 s0 (fun gq h h2=>by have:=c0 gq h;have:=e1 gq h2;omega);obtain ⟨d,hd,k1⟩:∃ d:Nat,d0=d∧d≤4:=⟨d0.toNat,by simp only [List.mem_cons,List.not_mem_nil,or_false] at d0m;omega,by simp only [List.mem_cons,List.not_mem_nil,or_false] at d0m;omega⟩;subst hd;clear d0m;have z4:=dcost_le k1;replace a0:=Bk.kg a0 s0;refine hK.out _ _ (Bk.e3 a0) (fun hHeld=>?_);clear hK K;try simp only [Ep]
    refine Rdy2 5 6 rfl rfl (fun K hK=>?_) (fun K hK=>?_)
    ·go_simp
     refine (l2Draw_any pv pa nv cv na ca vb B g hnv hnb d (p+1) _ k1 hR (by omega)).mono ?_;rintro e w5 ⟨n,e,p1,rfl,hE,h1,g0,f3,c1⟩;replace hC:=(hC).trans c1;replace hR:=g0;clear g0;have c5:=c1.size;replace b0:=Ow b0 c1 (fun gq h h2=>by have:=c0 gq h;have:=e1 gq h2;omega);replace hE:=ExAt.keep (S:=fun _=>False) (Chg.refl _ _) (fun _ _ _=>id) (fun q (hq:w4.heap.size≤q) hlt=>(show w4.heap.size≤q∧q < w5.heap.size from ⟨hq,hlt⟩)) Lr hE;replace a0:=Bk.kg a0 c1;refine hK.out _ _ (Bk.e3 a0) (fun hHeld=>?_);clear hK K;try simp only [Ep]
     refine Rdy 6 rfl (fun K hK=>?_);go_simp
     generalize hnw:World.alloc _ _=w6;have k0:=nmh hnw;clear hnw
     replace hC:=((hC.trans (Cb (bal (Bs _) _)))).trans (Cb k0);replace hR:=(hR.below (bal (Bs _) _)).below k0;replace hE:=((hE.below (bal (Bs _) _)).below k0);have q1:=k0.size;simp only [Sa] at q1;replace b0:=Ob (Ob b0 (bal (Bs _) _)) k0;have b1:=Bb (Bk.n3 (w5.heap.size)) k0;have m6:=Bk.lz b1;replace a0:=Bb (Bk.al a0 _) k0;refine hK.out _ _ (Bk.e3 a0) (fun hHeld=>?_);clear hK K;try simp only [Ep]
     refine Rdy 7 rfl (fun K hK=>?_);obtain ⟨q3,g4,r3,h4,s3,i4⟩:=Bk.h3 b1;go_simp
     generalize hnw:World.setCell _ _ _=w7;have l0:=nmh hnw;clear hnw
     replace hC:=((((hC.sN _ _ _).sN _ _ _).sN _ _ _)).trans (Cb l0);replace hR:=(((hR.kC _ _ _).kC _ _ _).kC _ _ _).below l0;replace hE:=((ExAt.kI (C1 _ _ _) (fun q _ _ h=>by omega) (ExAt.kI (C1 _ _ _) (fun q _ _ h=>by omega) (ExAt.kI (C1 _ _ _) (fun q _ _ h=>by omega) hE))).below l0);have r1:=l0.size;simp only [Ss] at r1;clear g4 q3 h4 r3 i4 s3;replace b0:=Ob (Oe (Oe (Oe b0 _ _ (fun h=>by have:=c0 _ h;omega) _) _ _ (fun h=>by have:=c0 _ h;omega) _) _ _ (fun h=>by have:=c0 _ h;omega) _) l0;replace a1:=Bb (Bk.nn (Bk.nn (Bk.nn (Bb (Bk.al (Bk.keep (Bk.kg (Bb (Bk.al (Bb a1 j1) _) j0) s0) c1 (fun h=>by have:=e1 _ h;omega)) _) k0) _) _) _) l0;replace w0:=Bb (Bk.nn (Bk.nn (Bk.nn (Bb (Bk.al (Bk.kg (Bk.kg w0 s0) c1) _) k0) _) _) _) l0;replace a0:=Bb (Bk.nn (Bk.nn (Bk.nn a0 _) _) _) l0;refine hK.out _ _ (Bk.e3 a0) (fun hHeld=>?_);clear hK K;try simp only [Ep]
     refine Dn ?_;clear hHeld;have m1:=ExAt.keep (S:=fun _=>False) (Chg.refl _ _) (fun _ _ _=>id) (fun _ h _=>h) (by omega:d+1≤5) hE;have i1:=Thin.mono (by omega:d+1≤5) h1;replace b1:=Bb (Bk.t3 b1 (.int .i64 n.k) (.int .i64 n.v) (.slice n.p n.n n.c)) l0;obtain ⟨r6,c7,s6,d7,t6,e7⟩:=Bk.h3 b1;go_wp2_with fail
     go_meet
     exact ⟨n,e,_,_,w4.heap.size,w5.heap.size,rfl,b1,a0,a1,m1,i1,by omega,hR,by omega,hC,by omega⟩
    go_simp
    generalize hnw:World.alloc _ _=w5;have t0:=nmh hnw;clear hnw
    replace hC:=((hC.trans (Cb (bal (Bs _) _)))).trans (Cb t0);replace hR:=(hR.below (bal (Bs _) _)).below t0;have s1:=t0.size;simp only [Sa] at s1;replace b0:=Ob (Ob b0 (bal (Bs _) _)) t0;have p0:=Bb (Bk.n3 (w4.heap.size)) t0;have n6:=Bk.lz p0;replace a0:=Bb (Bk.al a0 _) t0;refine hK.out _ _ (Bk.e3 a0) (fun hHeld=>?_);clear hK K;try simp only [Ep]
    refine Rdy 5 rfl (fun K hK=>?_);go_simp
    refine (l2Draw_any pv pa nv cv na ca vb B g hnv hnb d (p+1) _ k1 hR (by omega)).mono ?_;rintro e w6 ⟨n,e,p1,rfl,hE,h1,g0,f3,x0⟩;replace hC:=(hC).trans x0;replace hR:=g0;clear g0;have d5:=x0.size;replace b0:=Ow b0 x0 (fun gq h h2=>by have:=c0 gq h;have:=e1 gq h2;omega);replace hE:=ExAt.keep (S:=fun _=>False) (Chg.refl _ _) (fun _ _ _=>id) (fun q (hq:w5.heap.size≤q) hlt=>(show w5.heap.size≤q∧q < w6.heap.size from ⟨hq,hlt⟩)) Lr hE;replace a0:=Bk.kg a0 x0;refine hK.out _ _ (Bk.e3 a0) (fun hHeld=>?_);clear hK K;try simp only [Ep]
    refine Rdy 7 rfl (fun K hK=>?_);replace p0:=Bk.kg p0 x0;obtain ⟨u3,j4,v3,k4,x3,l4⟩:=Bk.h3 p0;go_simp
    generalize hnw:World.setCell _ _ _=w7;have m0:=nmh hnw;clear hnw
    replace hC:=((((hC.sN _ _ _).sN _ _ _).sN _ _ _)).trans (Cb m0);replace hR:=(((hR.kC _ _ _).kC _ _ _).kC _ _ _).below m0;replace hE:=((ExAt.kI (C1 _ _ _) (fun q _ _ h=>by omega) (ExAt.kI (C1 _ _ _) (fun q _ _ h=>by omega) (ExAt.kI (C1 _ _ _) (fun q _ _ h=>by omega) hE))).below m0);have t1:=m0.size;simp only [Ss] at t1;clear j4 u3 k4 v3 l4 x3;replace b0:=Ob (Oe (Oe (Oe b0 _ _ (fun h=>by have:=c0 _ h;omega) _) _ _ (fun h=>by have:=c0 _ h;omega) _) _ _ (fun h=>by have:=c0 _ h;omega) _) m0;replace a1:=Bb (Bk.nn (Bk.nn (Bk.nn (Bk.keep (Bb (Bk.al (Bk.kg (Bb (Bk.al (Bb a1 j1) _) j0) s0) _) t0) x0 (fun h=>by have:=e1 _ h;omega)) _) _) _) m0;replace w0:=Bb (Bk.nn (Bk.nn (Bk.nn (Bk.kg (Bb (Bk.al (Bk.kg w0 s0) _) t0) x0) _) _) _) m0;replace a0:=Bb (Bk.nn (Bk.nn (Bk.nn a0 _) _) _) m0;refine hK.out _ _ (Bk.e3 a0) (fun hHeld=>?_);clear hK K;try simp only [Ep]
    refine Dn ?_;clear hHeld;have m1:=ExAt.keep (S:=fun _=>False) (Chg.refl _ _) (fun _ _ _=>id) (fun _ h _=>h) (by omega:d+1≤5) hE;have i1:=Thin.mono (by omega:d+1≤5) h1;replace p0:=Bb (Bk.t3 p0 (.int .i64 n.k) (.int .i64 n.v) (.slice n.p n.n n.c)) m0;obtain ⟨u6,f7,v6,g7,x6,h7⟩:=Bk.h3 p0;go_wp2_with fail
    go_meet
    exact ⟨n,e,_,_,w5.heap.size,w6.heap.size,rfl,p0,a0,a1,m1,i1,by omega,hR,by omega,hC,by omega⟩
   go_simp
   generalize hnw:World.alloc _ _=w4;have u0:=nmh hnw;clear hnw
   replace hC:=((hC.trans (Cb (bal (Bs _) _)))).trans (Cb u0);replace hR:=(hR.below (bal (Bs _) _)).below u0;have u1:=u0.size;simp only [Sa] at u1;replace b0:=Ob (Ob b0 (bal (Bs _) _)) u0;have q0:=Bb (Bk.n3 (w3.heap.size)) u0;have o6:=Bk.lz q0;replace a0:=Bb (Bk.al a0 _) u0;refine hK.out _ _ (Bk.e3 a0) (fun hHeld=>?_);clear hK K;try simp only [Ep]
   refine Rdy 4 rfl (fun K hK=>?_);go_simp
   refine (num_any _ [2,3,2,1,4] _ B g (p) hR (Ro b0 (by simp)) (fun b o c hb=>by simp at hb;omega) (by simp) (by simp) (by omega)).mono ?_;rintro e w5 ⟨d0,d0m,rfl,g0,y0⟩;replace hC:=(hC).trans y0;replace hR:=g0;clear g0;have e5:=y0.size;replace b0:=Ow b0 y0 (fun gq h h2=>by have:=c0 gq h;have:=e1 gq h2;omega);obtain ⟨d,hd,k1⟩:∃ d:Nat,d0=d∧d≤4:=⟨d0.toNat,by simp only [List.mem_cons,List.not_mem_nil,or_false] at d0m;omega,by simp only [List.mem_cons,List.not_mem_nil,or_false] at d0m;omega⟩;subst hd;clear d0m;have z4:=dcost_le k1;replace a0:=Bk.kg a0 y0;refine hK.out _ _ (Bk.e3 a0) (fun hHeld=>?_);clear hK K;try simp only [Ep]
   refine Rdy 5 rfl (fun K hK=>?_);go_simp
   refine (l2Draw_any pv pa nv cv na ca vb B g hnv hnb d (p+1) _ k1 hR (by omega)).mono ?_;rintro e w6 ⟨n,e,p1,rfl,hE,h1,g0,f3,z0⟩;replace hC:=(hC).trans z0;replace hR:=g0;clear g0;have f5:=z0.size;replace b0:=Ow b0 z0 (fun gq h h2=>by have:=c0 gq h;have:=e1 gq h2;omega);replace hE:=ExAt.keep (S:=fun _=>False) (Chg.refl _ _) (fun _ _ _=>id) (fun q (hq:w5.heap.size≤q) hlt=>(show w5.heap.size≤q∧q < w6.heap.size from ⟨hq,hlt⟩)) Lr hE;replace a0:=Bk.kg a0 z0;refine hK.out _ _ (Bk.e3 a0) (fun hHeld=>?_);clear hK K;try simp only [Ep]
   refine Rdy 7 rfl (fun K hK=>?_);replace q0:=Bk.kg (Bk.kg q0 y0) z0;obtain ⟨y3,m4,z3,n4,a4,o4⟩:=Bk.h3 q0;go_simp
   generalize hnw:World.setCell _ _ _=w7;have n0:=nmh hnw;clear hnw
   replace hC:=((((hC.sN _ _ _).sN _ _ _).sN _ _ _)).trans (Cb n0);replace hR:=(((hR.kC _ _ _).kC _ _ _).kC _ _ _).below n0;replace hE:=((ExAt.kI (C1 _ _ _) (fun q _ _ h=>by omega) (ExAt.kI (C1 _ _ _) (fun q _ _ h=>by omega) (ExAt.kI (C1 _ _ _) (fun q _ _ h=>by omega) hE))).below n0);have v1:=n0.size;simp only [Ss] at v1;clear m4 y3 n4 z3 o4 a4;replace b0:=Ob (Oe (Oe (Oe b0 _ _ (fun h=>by have:=c0 _ h;omega) _) _ _ (fun h=>by have:=c0 _ h;omega) _) _ _ (fun h=>by have:=c0 _ h;omega) _) n0;replace a1:=Bb (Bk.nn (Bk.nn (Bk.nn (Bk.keep (Bk.keep (Bb (Bk.al (Bb (Bk.al (Bb a1 j1) _) j0) _) u0) y0 (fun h=>by have:=e1 _ h;omega)) z0 (fun h=>by have:=e1 _ h;omega)) _) _) _) n0;replace w0:=Bb (Bk.nn (Bk.nn (Bk.nn (Bk.kg (Bk.kg (Bb (Bk.al w0 _) u0) y0) z0) _) _) _) n0;replace a0:=Bb (Bk.nn (Bk.nn (Bk.nn a0 _) _) _) n0;refine hK.out _ _ (Bk.e3 a0) (fun hHeld=>?_);clear hK K;try simp only [Ep]
   refine Dn ?_;clear hHeld;have m1:=ExAt.keep (S:=fun _=>False) (Chg.refl _ _) (fun _ _ _=>id) (fun _ h _=>h) (by omega:d+1≤5) hE;have i1:=Thin.mono (by omega:d+1≤5) h1;replace q0:=Bb (Bk.t3 q0 (.int .i64 n.k) (.int .i64 n.v) (.slice n.p n.n n.c)) n0;obtain ⟨y6,i7,a7,j7,b7,k7⟩:=Bk.h3 q0;go_wp2_with fail
   go_meet
   exact ⟨n,e,_,_,w5.heap.size,w6.heap.size,rfl,q0,a0,a1,m1,i1,by omega,hR,by omega,hC,by omega⟩
  replace a0:=Bb a0 j1;obtain ⟨b4,p4,c4,q4,d4,r4⟩:=Bk.h3 a0;go_simp
  generalize hnw:World.alloc _ _=w3;have d1:=nmh hnw;clear hnw
  replace hC:=((hC.trans (Cb (bal (Bs _) _)))).trans (Cb d1);replace hR:=(hR.below (bal (Bs _) _)).below d1;have x1:=d1.size;simp only [Sa] at x1;clear p4 b4 q4 c4 r4 d4;have r0:=Bb (Bk.n3 (w2.heap.size)) d1;have p6:=Bk.lz r0;replace a0:=Bb (Bk.al a0 _) d1;refine hK.out _ _ (Bk.e3 a0) (fun hHeld=>?_);clear hK K;try simp only [Ep]
  refine Rdy 3 rfl (fun K hK=>?_);go_simp
  generalize hnw:World.alloc _ _=w4;have v0:=nmh hnw;clear hnw
  replace hC:=((hC.trans (Cb (bal (Bs _) _)))).trans (Cb v0);replace hR:=(hR.below (bal (Bs _) _)).below v0;have o0:=Ob (World.ownsRow_lit (base:=(w3).heap.size) (e:=3) (size:=1) (w3) #[.int .i64 2,.int .i64 3,.int .i64 2,.int .i64 1,.int .i64 4] 5 Lr (by unfold maxLen;omega) (by simp)) v0;try simp only [Sa,Ss] at o0
  have y1:=v0.size;simp only [Sa] at y1;have c3:=Bb (Bk.n5 (w3.heap.size)) v0;have f1:=o0.lt;try simp only [Sa] at f1
  have q6:=Bk.lz c3;replace a0:=Bb (Bk.al a0 _) v0;refine hK.out _ _ (Bk.e3 a0) (fun hHeld=>?_);clear hK K;try simp only [Ep]
  refine Rdy 4 rfl (fun K hK=>?_);go_simp
  refine (num_any _ [2,3,2,1,4] _ B g (p) hR (Ro o0 (by simp)) (fun b o c hb=>by simp at hb;omega) (by simp) (by simp) (by omega)).mono ?_;rintro e w5 ⟨d0,d0m,rfl,g0,h0⟩;replace hC:=(hC).trans h0;replace hR:=g0;clear g0;have j3:=h0.size;replace o0:=Ow o0 h0 (fun gq h h2=>by have:=f1 gq h;have:=e1 gq h2;omega);obtain ⟨d,hd,k1⟩:∃ d:Nat,d0=d∧d≤4:=⟨d0.toNat,by simp only [List.mem_cons,List.not_mem_nil,or_false] at d0m;omega,by simp only [List.mem_cons,List.not_mem_nil,or_false] at d0m;omega⟩;subst hd;clear d0m;have z4:=dcost_le k1;replace a0:=Bk.kg a0 h0;refine hK.out _ _ (Bk.e3 a0) (fun hHeld=>?_);clear hK K;try simp only [Ep]
  refine Rdy 5 rfl (fun K hK=>?_);go_simp
  refine (l2Draw_any pv pa nv cv na ca vb B g hnv hnb d (p+1) _ k1 hR (by omega)).mono ?_;rintro e w6 ⟨n,e,p1,rfl,hE,h1,g0,f3,i0⟩;replace hC:=(hC).trans i0;replace hR:=g0;clear g0;have k3:=i0.size;replace o0:=Ow o0 i0 (fun gq h h2=>by have:=f1 gq h;have:=e1 gq h2;omega);replace hE:=ExAt.keep (S:=fun _=>False) (Chg.refl _ _) (fun _ _ _=>id) (fun q (hq:w5.heap.size≤q) hlt=>(show w5.heap.size≤q∧q < w6.heap.size from ⟨hq,hlt⟩)) Lr hE;replace a0:=Bk.kg a0 i0;refine hK.out _ _ (Bk.e3 a0) (fun hHeld=>?_);clear hK K;try simp only [Ep]
  refine Rdy 7 rfl (fun K hK=>?_);replace r0:=Bk.kg (Bk.kg (Bb (Bk.al r0 _) v0) h0) i0;obtain ⟨b2,o2,c2,q2,d2,r2⟩:=Bk.h3 r0;go_simp
  generalize hnw:World.setCell _ _ _=w7;have e0:=nmh hnw;clear hnw
  replace hC:=((((hC.sN _ _ _).sN _ _ _).sN _ _ _)).trans (Cb e0);replace hR:=(((hR.kC _ _ _).kC _ _ _).kC _ _ _).below e0;replace hE:=((ExAt.kI (C1 _ _ _) (fun q _ _ h=>by omega) (ExAt.kI (C1 _ _ _) (fun q _ _ h=>by omega) (ExAt.kI (C1 _ _ _) (fun q _ _ h=>by omega) hE))).below e0);have n1:=e0.size;simp only [Ss] at n1;clear o2 b2 q2 c2 r2 d2;replace o0:=Ob (Oe (Oe (Oe o0 _ _ (fun h=>by have:=f1 _ h;omega) _) _ _ (fun h=>by have:=f1 _ h;omega) _) _ _ (fun h=>by have:=f1 _ h;omega) _) e0;replace a1:=Bb (Bk.nn (Bk.nn (Bk.nn (Bk.keep (Bk.keep (Bb (Bk.al (Bb (Bk.al (Bb a1 j1) _) d1) _) v0) h0 (fun h=>by have:=e1 _ h;omega)) i0 (fun h=>by have:=e1 _ h;omega)) _) _) _) e0;replace a0:=Bb (Bk.nn (Bk.nn (Bk.nn a0 _) _) _) e0;refine hK.out _ _ (Bk.e3 a0) (fun hHeld=>?_);clear hK K;try simp only [Ep]
  refine Dn ?_;clear hHeld;have m1:=ExAt.keep (S:=fun _=>False) (Chg.refl _ _) (fun _ _ _=>id) (fun _ h _=>h) (by omega:d+1≤5) hE;have i1:=Thin.mono (by omega:d+1≤5) h1;replace r0:=Bb (Bk.t3 r0 (.int .i64 n.k) (.int .i64 n.v) (.slice n.p n.n n.c)) e0;obtain ⟨j5,x5,k5,y5,l5,z5⟩:=Bk.h3 r0;go_wp2_with fail
  go_meet
  exact ⟨n,e,_,_,w5.heap.size,w6.heap.size,rfl,r0,a0,a1,m1,i1,by omega,hR,by omega,hC,by omega⟩
 obtain ⟨w3,rfl⟩:∃ W,W=wc:=⟨_,rfl⟩;clear hR hC a0 a1;obtain ⟨n,e,b5,pk,lo,hi,rfl,a2,z1,l1,hE,h1,m7,hR,o7,hC,p7⟩:=hcut;have i1:=Hi h1;clear h1;have g5:=Bk.lz a2;have h5:=Bk.lz z1;have i5:=Bk.lz l1;have j6:=Hi (l2Right_any pv pa nv cv na ca vb _ 5 n e _ hE);obtain ⟨e2,s2,f2,t2,g2,u2⟩:=Bk.h3 a2;obtain ⟨i2,v2,j2,x2,k2,y2⟩:=Bk.h3 z1;go_wp2_with fail
 refine (j6.out).mono ?_;rintro e w4 ⟨rfl,f0⟩;replace hC:=(hC).trans (Cb f0);replace hR:=hR.below f0;replace hE:=(hE.below f0);have l3:=f0.size;clear s2 e2 t2 f2 u2 g2 v2 i2 x2 j2 y2 k2
 cases hx:exRight nv na e with
 | true =>
  have tE:=Hi (ExAt.keep (C1 (w.heap.size+1) (2) (.slice n.p n.n n.c)) (fun q (hq:lo≤q∧q < hi) _ (h:q=(w.heap.size+1))=>by omega) (fun _ h _=>h) Lr (ExAt.keep (C1 (w.heap.size+1) (1) (.int .i64 n.v)) (fun q (hq:lo≤q∧q < hi) _ (h:q=(w.heap.size+1))=>by omega) (fun _ h _=>h) Lr (ExAt.keep (C1 (w.heap.size+1) (0) (.int .i64 n.k)) (fun q (hq:lo≤q∧q < hi) _ (h:q=(w.heap.size+1))=>by omega) (fun _ h _=>h) Lr hE)));clear hE;have tC:=(((hC.sN (w.heap.size+1) (0) (.int .i64 n.k)).sN (w.heap.size+1) (1) (.int .i64 n.v)).sN (w.heap.size+1) (2) (.slice n.p n.n n.c));have tR:=(((hR.kC (w.heap.size+1) (0) (.int .i64 n.k)).kC (w.heap.size+1) (1) (.int .i64 n.v)).kC (w.heap.size+1) (2) (.slice n.p n.n n.c));replace a2:=Bb a2 f0;obtain ⟨m5,a6,o5,b6,p5,c6⟩:=Bk.h3 a2;replace l1:=Bb l1 f0;obtain ⟨q5,d6,r5,e6,s5,f6⟩:=Bk.h3 l1;obtain ⟨s4,t4,u4⟩:=Bk.g3 (Bk.t3 l1 (.int .i64 n.k) (.int .i64 n.v) (.slice n.p n.n n.c));have tt:=True.intro;go_wp2
  exact bodyPost_ret (v:=.agg #[.int .i64 n.k,.int .i64 n.v,.slice n.p n.n n.c]) (by simp [results,Tryz.results123,go_sem,s4,t4,u4]) rfl (by exact ⟨n,e,_,rfl,ExAt.keep (S:=fun _=>False) (Chg.refl _ _) (fun _ _ _=>id) (fun q (hq:lo≤q∧q < hi) _=>by show w.heap.size≤q;omega) Lr tE.out,i1.out,tR,by omega,tC⟩)
 | false =>
  clear hE;replace z1:=Bb z1 f0;obtain ⟨l2,z2,m2,a3,n2,b3⟩:=Bk.h3 z1;go_wp2_with fail
  refine (l2DrawAtom_any pv pa nv cv na ca vb B g (pk) _ hR (by omega) hnv hnb).mono ?_;rintro e w5 ⟨k,v,p2,rfl,g0,n7,g1⟩;replace hC:=(hC).trans g1;replace hR:=g0;clear g0;have m3:=g1.size;clear z2 l2 a3 m2 b3 n2;have tC:=(((hC.sN (w.heap.size+1) (0) (.int .i64 k)).sN (w.heap.size+1) (1) (.int .i64 v)).sN (w.heap.size+1) (2) (.slice none 0 0));have tR:=(((hR.kC (w.heap.size+1) (0) (.int .i64 k)).kC (w.heap.size+1) (1) (.int .i64 v)).kC (w.heap.size+1) (2) (.slice none 0 0));replace l1:=Bk.kg (Bb l1 f0) g1;obtain ⟨t5,g6,u5,h6,v5,i6⟩:=Bk.h3 l1;obtain ⟨v4,x4,y4⟩:=Bk.g3 (Bk.t3 l1 (.int .i64 k) (.int .i64 v) (.slice none 0 0));have tt:=True.intro;go_wp2
  exact bodyPost_ret (v:=.agg #[.int .i64 k,.int .i64 v,.slice none 0 0]) (by simp [results,Tryz.results123,go_sem,v4,x4,y4]) rfl (by exact ⟨⟨k,v,none,0,0⟩,.mk k v [],_,rfl,ExAt.leaf k v,Thin.mono (by omega:1≤5) ⟨by simp [Ex.kids],fun x hx=>by simp [Ex.kids] at hx⟩,tR,by omega,tC⟩)
theorem info_stmt:(Tryz.prog.info? 75).map (fun i=>(i.zero,i.size,i.bytes))=some (some (.agg #[.int .i64 0,.int .i64 0,.int .i64 0,.int .i64 0,.slice none 0 0,.int .i64 0,.int .i64 0,.slice none 0 0,.int .i64 0,.slice none 0 0,.slice none 0 0]),11,152):=by kernel_rfl
theorem tStmts:SliceT Tryz.prog 24 75 (.agg #[.int .i64 0,.int .i64 0,.int .i64 0,.int .i64 0,.slice none 0 0,.int .i64 0,.int .i64 0,.slice none 0 0,.int .i64 0,.slice none 0 0,.slice none 0 0]) 11 152:=⟨Tryz.underlying24,info_stmt,rfl,by omega,by omega⟩
theorem BlAt.keep2 {w w':World} {B B':Nat→Prop} {d d':Nat} {u:Value} {l:List St} {S:Nat→Prop} (hc:Chg S w w') (hS:∀ q,B q→q < w.heap.size→¬S q) (hB:∀ q,B q→q < w.heap.size→B' q) (hd:d≤d') (h:BlAt w B d u l):BlAt w' B' d' u l:=h.keep hc hS hB hd
def SmS:Nat→St→Prop
 | 0,_=>False
 | d+1,.mk _ _ ix val _ body els=>Thin 5 ix∧Thin 5 val∧body.length≤2∧els.length≤2∧(∀ x ∈ body,SmS d x)∧(∀ x ∈ els,SmS d x)
def scost:Nat→Nat
 | 0=>0
 | d+1=>30000+4*scost d
theorem thin_leaf (k v:Int):Thin 5 (.mk k v []):=Thin.mono (by omega:1≤5) ⟨by simp [Ex.kids],fun x hx=>by simp [Ex.kids] at hx⟩
structure StsAt (W:World) (b8 d:Nat) (v:Value) (rs:List Sn) (l:List St):Prop where
 len:rs.length=l.length
 own:W.ownsRow (b8+1) 75 11 v l.length (rows snc rs)
 row:∀ j (h:j < rs.length) (h':j < l.length),StAt W (fun q=>b8 < q∧¬v.ownBlock=some q) d rs[j] l[j]
 small:∀ x ∈ l,SmS d x
theorem StsAt.keep {W W':World} {b8 d:Nat} {v:Value} {rs:List Sn} {l:List St} (h:StsAt W b8 d v rs l) {S:Nat→Prop} (hc:Chg S W W') (hS:∀ q,b8 < q→¬S q):StsAt W' b8 d v rs l:=
 ⟨h.len,Ow h.own hc (fun q hq=>hS q (by have:=h.own.lt q hq;omega)),fun j h1 h2=>StAt.keep hc (fun q hq _=>hS q hq.1) (fun _ hq _=>hq) Lr (h.row j h1 h2),h.small⟩
theorem StsAt.below {W W':World} {b8 d:Nat} {v:Value} {rs:List Sn} {l:List St} (h:StsAt W b8 d v rs l) (hb:Below W.heap.size W W'):StsAt W' b8 d v rs l:=⟨h.len,Ob h.own hb,fun j h1 h2=>StAt.keep (S:=fun _=>False) (Cb hb) (fun _ _ _=>id) (fun _ hq _=>hq) Lr (h.row j h1 h2),h.small⟩
theorem StsAt.nil {W:World} {b8 d:Nat} {v:Value} (h:W.ownsRow (b8+1) 75 11 v 0 []):StsAt W b8 d v [] []:=⟨rfl,h,fun j h=>by simp at h,fun x h=>by cases h⟩
theorem StsAt.push {W W':World} {b8 d:Nat} {v v':Value} {rs:List Sn} {l:List St} {n:Sn} {e:St} {b1:Nat} (h:StsAt W b8 d v rs l) (ho:W'.ownsRow (b8+1) 75 11 v' (l.length+1) (rows snc rs++snc n)) (hc:Chg (fun k=>v.ownBlock=some k) W W') (hN:NewOr W v v')
  (hn:StAt W (fun q=>b1≤q) d n e) (ht:SmS d e) (h8:b8 < b1) (hv:∀ q,v.ownBlock=some q→q < b1):StsAt W' b8 d v' (rs++[n]) (l++[e]):=by
 have hA:∀ q,q < W.heap.size→¬v.ownBlock=some q→¬v'.ownBlock=some q:=fun q hq h1 h2=>by
  rcases hN with e1 | ⟨g,e1,e2⟩
  ·exact h1 (e1 ▸ h2)
  rw [e1] at h2;have:=Si h2;omega
 refine ⟨by simp [h.len],?_,rows_push h.len (fun j h1 h2=>?_) ?_,fun x hx=>?_⟩
 ·rw [rows_append,rows_one,List.length_append];exact ho
 ·exact StAt.keep hc (fun q hq _=>hq.2) (fun q hq hlt=>⟨hq.1,hA q hlt hq.2⟩) Lr (h.row j h1 h2)
 ·exact StAt.keep hc (fun q (hq:b1≤q) _ h1=>by have:=hv q h1;omega) (fun q (hq:b1≤q) hlt=>⟨by omega,hA q hlt (fun h1=>by have:=hv q h1;omega)⟩) Lr hn
 rcases List.mem_append.1 hx with h1 | h1
 ·exact h.small x h1
 rw [List.mem_singleton.1 h1];exact ht
theorem StsAt.block {W:World} {b8 d:Nat} {v:Value} {rs:List Sn} {l:List St} (h:StsAt W b8 d v rs l) (hl:l.length≤9223372036854775807):BlAt W (fun q=>b8 < q) d v l:=
 RowOf.of_own h.len h.own hl (fun q hq _=>hq) (fun j h1 h2=>StAt.keep (S:=fun _=>False) (Chg.refl _ _) (fun _ _ _=>id) (fun q hq _=>hq.1) Lr (h.row j h1 h2))
theorem drawn_sk {kd:Int} (h:kd ∈ [1,1,2,3,4,1,3,5]):kd=1∨kd=2∨kd=3∨kd=4∨kd=5:=by
 simp only [List.mem_cons,List.not_mem_nil,or_false] at h;omega
end Go.Proofs.YtlckklglbodgbaaGreat
