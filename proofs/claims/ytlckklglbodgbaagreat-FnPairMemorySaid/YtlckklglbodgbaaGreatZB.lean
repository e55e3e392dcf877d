/-
 Parts of the proofs of the laws FnPairMemory,FnSplitMemory.
-/
import Derived.Test.YtlckklglbodgbaaGreatGZ
import Derived.Test.YtlckklglbodgbaaGreatZM
set_option maxHeartbeats 12800000
set_option maxRecDepth 100000
set_option linter.all false
namespace Go.Proofs.YtlckklglbodgbaaGreat
open Go.RowKit
theorem l3Bend_any (vx vy:Value) (m:Mm) (B g p:Nat) (w:World) (hm:ReadsM w vx vy m) (h0:m.vals.length≤1005) (h1:m.arrs.length≤1005) (h2:∀ r ∈ m.arrs,3≤r.length∧r.length≤4) (hR:Rnd w B g p) (hp:p+5≤1000000000) :
  Calls Tryz.prog 23 #[.pointer (some ⟨g,0,none⟩),.agg #[vx,vy]] w fun r w'=>∃ (ux uy:Value) (m':Mm) (p':Nat),r=.returned (.agg #[ux,uy])∧DrM w' w.heap.size ux uy m'∧m'.vals.length≤m.vals.length+1∧m'.arrs.length≤m.arrs.length∧Rnd w' B g p'∧p'≤p+5∧Chg (fun q=>q=g) w w':=by
 obtain ⟨a0,c0,a1,c1,rfl,rfl⟩:=hm.shape;have g3:pre2 m.arrs m.arrs.length≤4*m.arrs.length:=pre2_le m.arrs 4 (fun k r hr=>(h2 r (List.mem_of_getElem? hr)).2) _ Lr;have HM:=Hi (fun W (hW:Below w.heap.size w W)=>hm.below hW);have H2:=Hi h2;clear hm h2;obtain ⟨xs,L⟩:=m;simp only at h0 h1 g3 HM H2 ⊢
 have hg:=hR.lt;have hC:Chg (fun k=>k=g) w w:=Chg.refl _ _;have k1:∀ q,(fun k=>k=g) q→q=g:=fun q h=>h
 go_enter Tryz.func23,Tryz.ntmps23
 go_wp2_with fail
 refine (l3Copy_any _ _ ⟨xs,L⟩ _ (HM.out _ (bal (bal (Bs w) (.cells #[.slice a0 xs.length c0,.slice a1 L.length c1] 29)) (.cells #[.slice none 0 0,.slice none 0 0] 29))).x (HM.out _ (bal (bal (Bs w) (.cells #[.slice a0 xs.length c0,.slice a1 L.length c1] 29)) (.cells #[.slice none 0 0,.slice none 0 0] 29))).y (by simp only;omega) (by simp only;omega) (by simp only;omega)).mono ?_;rintro e w1 ⟨ux,uy,us,rfl,oX,u1,y1,hb⟩;simp only [Sa] at oX u1;obtain ⟨px,tx,rfl⟩:=Oh oX;obtain ⟨py,ty,rfl⟩:=Oh u1.out;have oY:OwnY w1 _ _ us L.length:=⟨L,rfl,H2.out,u1⟩;clear u1 H2 HM;replace hC:=(((hC.trans (Cb (bal (Bs _) _))).trans (Cb (bal (Bs _) _)))).trans (Cb hb);replace hR:=((hR.below (bal (Bs _) _)).below (bal (Bs _) _)).below hb;have b2:=hb.size;simp only [Sa] at b2;have f1:=Bb (Bk.al (Bk.n2 (w.heap.size)) (.cells #[.slice none 0 0,.slice none 0 0] 29)) hb;have g0:=Bb (Bk.n2 (w.heap.size+1)) hb;clear hb;have y5:=Bk.lz f1;have z5:=Bk.lz g0;have e1:=oX.lt;try simp only [Sa] at e1
 have s1:=oY.lt;try simp only [Sa] at s1
 go_wp2_with fail
 refine (pick_any _ _ B g (p) (hR.below (bal (Bs _) (.cells #[.slice px xs.length tx,.slice py L.length ty] 29))) (by omega) (by omega) (by omega)).mono ?_;rintro e w2 ⟨z,z0,z1,rfl,m1,u0⟩;replace hC:=((hC.trans (Cb (bal (Bs _) _)))).trans u0;replace hR:=m1;clear m1;have c2:=u0.size;simp only [Sa] at c2;replace oX:=Ow (Ob oX (bal (Bs _) _)) u0 (fun gq h h2=>by have:=e1 gq h;have:=k1 gq h2;omega);replace oY:=(oY.below (bal (Bs _) _)).keep u0 (fun gq h h2=>by have:=s1 gq h;have:=k1 gq h2;omega);have b0:Bk w2 (w1.heap.size) [.slice px xs.length tx,.slice py L.length ty]:=Bk.kg (Bk.n2 (w1.heap.size)) u0;have k3:=Bk.lz b0;by_cases hk0:z=0
 ·subst hk0;obtain ⟨i2,p2⟩:=Bk.cf b0 0 rfl;go_wp2_with (at_builtin;refine wpList_aps tInts rfl _ _ rfl (w.heap.size+1+1) _ xs.length (ints xs) rfl (Ob oX (bal (Bs _) (.cells #[.int .i64 0] 3))) _ 1 (ints [0]) rfl ((Ro (World.ownsRow_lit (base:=(w2).heap.size) (e:=3) (size:=1) (w2) #[.int .i64 0] 1 Lr (by unfold maxLen;omega) (by simp)) (by simp))) (one_ints [0]) (by omega) (by first | omega | (simp only [Sa,Ss];omega)) ?_)
  intro vA w3 t0 hc v2 _;obtain ⟨v0,w0,rfl⟩:=Oh t0;have e2:∀ q,(Value.slice v0 (xs.length+1) w0).ownBlock=some q→((w.heap.size+1+1≤q∧q < w1.heap.size)∨w2.heap.size≤q)∧q < w3.heap.size:=fun q h=>⟨by rcases v2 with e | ⟨g,e,hg⟩;(rw [e] at h;exact Or.inl (e1 q h));(rw [e] at h;have:=Si h;first | omega | (simp only [Sa] at hg;omega)),(t0.lt q h).2⟩
  replace hC:=chg_app (hC.trans (Cb (bal (Bs _) _))) hc (fun q hq h=>by have:=e1 q h;omega);replace hR:=(hR.below (bal (Bs _) _)).keep hc (fun h=>by have:=e1 _ h;omega) (fun k hk h=>by have:=e1 _ h;omega);have n1:=hc.size;simp only [Sa] at n1;clear p2 i2;replace oY:=(oY.below (bal (Bs _) _)).keep hc (fun gq h h2=>(fun a b c=>y1 a c b) gq h h2);replace f1:=Bk.kg (Bk.al f1 _) u0;replace f1:=Bk.keep (Bk.al f1 _) hc (fun h=>by have:=e1 _ h;omega);replace g0:=Bk.kg (Bk.al g0 _) u0;replace g0:=Bk.keep (Bk.al g0 _) hc (fun h=>by have:=e1 _ h;omega);replace b0:=Bk.keep (Bk.al b0 _) hc (fun h=>by have:=e1 _ h;omega);have g1:w3.cell? ⟨w2.heap.size,0,none⟩=some (.int .i64 0):=Gc hc (Wc (by simp) (by rfl)) (fun h=>by have:=e1 _ h;omega);have l1:w3.frozen? ⟨w2.heap.size,0,none⟩=false:=Gf hc (by simp <;> omega) (Fn (by simp)) (fun h=>by have:=e1 _ h;omega);clear hc;have f2:=t0.lt;try simp only [Sa] at f2
  clear v2 oX;have l3:=Lc g1;obtain ⟨j2,q2⟩:=Bk.cf b0 0 rfl;go_upto_region 13 with (fail)
  generalize d1:World.setCell _ _ _=w4;have l0:=nmh d1;clear d1
  replace hC:=((hC.sN _ _ _)).trans (Cb l0);replace hR:=(hR.kC _ _ _).below l0;have o1:=l0.size;simp only [Ss] at o1;clear q2 j2;replace l1:=Kf l0 (Lc (Nn g1 _)) (Fs l1 _);replace oY:=(oY.keep (C1 _ _ _) (fun gq h h2=>by have:=s1 gq h;omega)).below l0;replace g1:=Kc l0 (Nn g1 _);replace t0:=Ob (Oe t0 _ _ (fun h=>by have:=e2 _ h;omega) _) l0;obtain ⟨m2,k0,o0,p0⟩:=DrM.parts (xs:=xs++[0]) (show World.ownsRow _ _ _ _ _ _ _ from by rw [ints_append];exact t0) (by rw [List.length_append];rfl) oY (by omega) (by omega);clear oY;clear t0;have d0:=Hi (Ai (DrM.keep (DrM.keep k0 (C1 (w.heap.size+1) (0) (.slice v0 (xs.length+1) w0)) (fun q hq h=>by omega)) (C1 (w.heap.size+1) (1) (.slice py L.length ty)) (fun q hq h=>by omega)) (Ai o0 p0));clear k0 o0 p0;replace g0:=Bb (Bk.nn g0 _) l0;obtain ⟨o3,r4,p3,s4⟩:=Bk.h2 g0;replace b0:Bk w4 (w1.heap.size) [.slice v0 (xs.length+1) w0,.slice py L.length ty]:=Bb (Bk.at b0 0 (.slice v0 (xs.length+1) w0)) l0;obtain ⟨q3,u4,r3,v4⟩:=Bk.h2 b0;obtain ⟨j0,y0,b1⟩:=Bk.x2 g0 (.slice v0 (xs.length+1) w0) (.slice py L.length ty);have e0:=Hi j0;clear j0;have f0:=Hi (Ai hC hR);clear hC hR;go_wp2
  exact bodyPost_ret (v:=.agg #[.slice v0 (xs.length+1) w0,.slice py L.length ty]) (by simp [results,Tryz.results23,go_sem,y0,b1]) rfl (by exact (by first | exact ⟨_,_,m2,p+1,rfl,DrM.mono d0.out.1 (by omega),by have:=d0.out.2.1;omega,by have:=d0.out.2.2;omega,f0.out.2.keep e0.out (fun h=>by omega) (fun k hk h=>by omega),by omega,chg_app f0.out.1 e0.out (fun q hq h=>by omega)⟩ | exact ⟨_,_,rfl,m2,DrM.mono d0.out.1 (by omega),by have:=d0.out.2.1;omega,by have:=d0.out.2.2;omega,p+1,f0.out.2.keep e0.out (fun h=>by omega) (fun k hk h=>by omega),by omega,chg_app f0.out.1 e0.out (fun q hq h=>by omega)⟩ | exact ⟨⟨_,_,rfl⟩,m2,DrM.mono d0.out.1 (by omega),by have:=d0.out.2.1;omega,by have:=d0.out.2.2;omega,p+1,f0.out.2.keep e0.out (fun h=>by omega) (fun k hk h=>by omega),by omega,chg_app f0.out.1 e0.out (fun q hq h=>by omega)⟩))
 have a6:(z == 0)=false:=by simp [hk0]
 by_cases hk1:z=1
 ·subst hk1;by_cases hn0:xs.length < 1
  ·have hq:decide ((0:Int) < (xs.length:Int))=false:=decide_eq_false (by omega);have i3:¬(0:Int) < (xs.length:Int):=by omega
   obtain ⟨s3,x4⟩:=Bk.cf b0 0 rfl;go_upto_region 13 with (fail)
   obtain ⟨m2,k0,o0,p0⟩:=DrM.parts oX rfl oY (by omega) (by omega);clear oX;clear oY;have d0:=Hi (Ai (DrM.keep (DrM.keep k0 (C1 (w.heap.size+1) (0) (.slice px xs.length tx)) (fun q hq h=>by omega)) (C1 (w.heap.size+1) (1) (.slice py L.length ty)) (fun q hq h=>by omega)) (Ai o0 p0));clear k0 o0 p0;replace g0:=Bk.kg (Bk.al g0 _) u0;obtain ⟨t3,y4,u3,z4⟩:=Bk.h2 g0;obtain ⟨v3,a5⟩:=Bk.cf b0 1 rfl;obtain ⟨j0,y0,b1⟩:=Bk.x2 g0 (.slice px xs.length tx) (.slice py L.length ty);have e0:=Hi j0;clear j0;have f0:=Hi (Ai hC hR);clear hC hR;go_wp2
   exact bodyPost_ret (v:=.agg #[.slice px xs.length tx,.slice py L.length ty]) (by simp [results,Tryz.results23,go_sem,y0,b1]) rfl (by exact (by first | exact ⟨_,_,m2,p+1,rfl,DrM.mono d0.out.1 (by omega),by have:=d0.out.2.1;omega,by have:=d0.out.2.2;omega,f0.out.2.keep e0.out (fun h=>by omega) (fun k hk h=>by omega),by omega,chg_app f0.out.1 e0.out (fun q hq h=>by omega)⟩ | exact ⟨_,_,rfl,m2,DrM.mono d0.out.1 (by omega),by have:=d0.out.2.1;omega,by have:=d0.out.2.2;omega,p+1,f0.out.2.keep e0.out (fun h=>by omega) (fun k hk h=>by omega),by omega,chg_app f0.out.1 e0.out (fun q hq h=>by omega)⟩ | exact ⟨⟨_,_,rfl⟩,m2,DrM.mono d0.out.1 (by omega),by have:=d0.out.2.1;omega,by have:=d0.out.2.2;omega,p+1,f0.out.2.keep e0.out (fun h=>by omega) (fun k hk h=>by omega),by omega,chg_app f0.out.1 e0.out (fun q hq h=>by omega)⟩))
  have hq:(0:Int) < (xs.length:Int):=by omega
  obtain ⟨gx,cx,y2⟩:=own_pos oX (by omega);simp only [Value.slice.injEq,true_and] at y2;obtain ⟨rfl,rfl⟩:=y2;have oI:OwnI _ _ gx xs.length tx:=⟨xs,rfl,oX⟩;have v5:=e1 gx rfl;have t1:∀ q,OwnB2 (.slice py L.length ty) us q→¬q=gx:=fun q h e=>y1 q (by subst e;rfl) h
  have d3:∀ q,OwnB2 (.slice py L.length ty) us q→(w.heap.size≤q∧q < w2.heap.size)∧¬q=gx:=fun q h=>⟨by have:=s1 q h;omega,t1 q h⟩
  clear t1;clear oX;obtain ⟨⟨x0,c3⟩,u2⟩:=oI.at 0 (by omega);clear c3 u2;obtain ⟨k2,r2⟩:=Bk.cf b0 0 rfl;go_upto_region 7 with (fail)
  clear r2 k2;refine Rgh (S:=fun W'=>W'.cell? ⟨w1.heap.size,0,none⟩=some (.slice (some ⟨gx,0,none⟩) xs.length tx)) (fun W d=>(Bk.kc b0 d 0)) (fun w3 r0 hHeld=>?_);replace hC:=(hC).trans (Cb r0);replace hR:=hR.below r0;replace oI:=OwnI.below oI r0;have z2:=r0.size;replace oY:=oY.below r0;refine (tq 0 23 rfl rfl ?_ ?_ (tq 1 24 rfl rfl ?_ ?_ (tq 2 25 rfl rfl ?_ ?_ ?_)));iterate 3 (rotate_left;intro W' hSw;(try dsimp only at hSw);go_simp;try with_reducible rfl)
  try simp only [Ep]
  refine Rdy 3 rfl (fun K hK=>?_);replace b0:=Bb b0 r0;obtain ⟨l2,s2⟩:=Bk.cf b0 0 rfl;go_simp
  generalize d1:World.alloc _ _=w4;have m0:=nmh d1;clear d1
  replace hC:=((hC.trans (Cb (bal (Bs _) _)))).trans (Cb m0);replace hR:=(hR.below (bal (Bs _) _)).below m0;have q0:=Ob (World.ownsRow_lit (base:=(w3).heap.size) (e:=3) (size:=1) (w3) #[.int .i64 (-1),.int .i64 256,.int .i64 9223372036854775807] 3 Lr (by unfold maxLen;omega) (by simp)) m0;try simp only [Sa,Ss] at q0
  replace oI:=OwnI.below (OwnI.below oI (bal (Bs _) _)) m0;have p1:=m0.size;simp only [Sa] at p1;clear s2 l2;replace oY:=(oY.below (bal (Bs _) _)).below m0;have v1:=Bb (Bk.n3 (w3.heap.size)) m0;have i1:=q0.lt;try simp only [Sa] at i1
  have m3:=Bk.lz v1;replace b0:=Bb (Bk.al b0 _) m0;refine hK.out _ _ (Bk.ce b0 0) (fun hHeld=>?_);clear hK K;try simp only [Ep]
  refine Rdy 4 rfl (fun K hK=>?_);go_simp
  refine (num_any _ [(-1),256,9223372036854775807] _ B g (p+1) hR (Ro q0 (by simp)) (fun b o c hb=>by simp at hb;omega) (by simp) (by simp) (by omega)).mono ?_;rintro e w5 ⟨vv,t5,rfl,m1,s0⟩;replace hC:=(hC).trans s0;replace hR:=m1;clear m1;replace oI:=OwnI.keep oI s0 (fun h=>by have:=k1 _ h;omega);have a3:=s0.size;replace oY:=oY.keep s0 (fun gq h h2=>by have:=d3 gq h;have:=k1 gq h2;omega);replace q0:=Ow q0 s0 (fun gq h h2=>by have:=i1 gq h;have:=k1 gq h2;omega);clear t5;obtain ⟨⟨x0,c3⟩,u2⟩:=oI.at 0 (by omega);replace b0:=Bk.kg b0 s0;refine hK.out _ _ (Bk.ce b0 0) (fun hHeld=>?_);clear hK K;try simp only [Ep]
  refine (tq 5 28 rfl rfl ?_ ?_ ?_);(rotate_left;intro W' hSw;(try dsimp only at hSw);go_simp;try with_reducible rfl)
  try simp only [Ep]
  refine Rdy 6 rfl (fun K hK=>?_);go_simp
  generalize d1:World.setCell _ _ _=w6;have n0:=nmh d1;clear d1
  replace hC:=((hC.sN _ _ _)).trans (Cb n0);replace hR:=(hR.kC _ _ _).below n0;replace oI:=OwnI.below (OwnI.put oI (0) (vv)) n0;have q1:=n0.size;simp only [Ss] at q1;replace oY:=(oY.keep (C1 _ _ _) (fun gq h h2=>by have:=d3 gq h;omega)).below n0;replace q0:=Ob (Oe q0 _ _ (fun h=>by have:=i1 _ h;omega) _) n0;replace b0:=Bb (Bk.nn b0 _) n0;refine hK.out _ _ (Bk.ce b0 0) (fun hHeld=>?_);clear hK K;try simp only [Ep]
  refine Dn ?_;clear hHeld;go_upto_region 13 with (fail)
  obtain ⟨m2,k0,o0,p0⟩:=DrM.partsI oI oY (by omega) (by omega);clear oY;clear oI;clear q0;have d0:=Hi (Ai (DrM.keep (DrM.keep k0 (C1 (w.heap.size+1) (0) (.slice (some ⟨gx,0,none⟩) xs.length tx)) (fun q hq h=>by omega)) (C1 (w.heap.size+1) (1) (.slice py L.length ty)) (fun q hq h=>by omega)) (Ai o0 p0));clear k0 o0 p0;replace g0:=Bb (Bk.nn (Bk.keep (Bb (Bk.al (Bb (Bk.kg (Bk.al g0 _) u0) r0) _) m0) s0 (fun h=>by have:=k1 _ h;omega)) _) n0;obtain ⟨x3,b5,y3,c5⟩:=Bk.h2 g0;obtain ⟨z3,d5,a4,e5⟩:=Bk.h2 b0;obtain ⟨j0,y0,b1⟩:=Bk.x2 g0 (.slice (some ⟨gx,0,none⟩) xs.length tx) (.slice py L.length ty);have e0:=Hi j0;clear j0;have f0:=Hi (Ai hC hR);clear hC hR;go_wp2
  exact bodyPost_ret (v:=.agg #[.slice (some ⟨gx,0,none⟩) xs.length tx,.slice py L.length ty]) (by simp [results,Tryz.results23,go_sem,y0,b1]) rfl (by exact (by first | exact ⟨_,_,m2,p+1+1,rfl,DrM.mono d0.out.1 (by omega),by have:=d0.out.2.1;omega,by have:=d0.out.2.2;omega,f0.out.2.keep e0.out (fun h=>by omega) (fun k hk h=>by omega),by omega,chg_app f0.out.1 e0.out (fun q hq h=>by omega)⟩ | exact ⟨_,_,rfl,m2,DrM.mono d0.out.1 (by omega),by have:=d0.out.2.1;omega,by have:=d0.out.2.2;omega,p+1+1,f0.out.2.keep e0.out (fun h=>by omega) (fun k hk h=>by omega),by omega,chg_app f0.out.1 e0.out (fun q hq h=>by omega)⟩ | exact ⟨⟨_,_,rfl⟩,m2,DrM.mono d0.out.1 (by omega),by have:=d0.out.2.1;omega,by have:=d0.out.2.2;omega,p+1+1,f0.out.2.keep e0.out (fun h=>by omega) (fun k hk h=>by omega),by omega,chg_app f0.out.1 e0.out (fun q hq h=>by omega)⟩))
 have b6:(z == 1)=false:=by simp [hk1]
 by_cases hk2:z=2
 ·subst hk2;by_cases hn0:L.length < 1
  ·have hq:decide ((0:Int) < (L.length:Int))=false:=decide_eq_false (by omega);have i3:¬(0:Int) < (L.length:Int):=by omega
   obtain ⟨b4,f5⟩:=Bk.cf b0 1 rfl;go_upto_region 13 with (fail)
   obtain ⟨m2,k0,o0,p0⟩:=DrM.parts oX rfl oY (by omega) (by omega);clear oX;clear oY;have d0:=Hi (Ai (DrM.keep (DrM.keep k0 (C1 (w.heap.size+1) (0) (.slice px xs.length tx)) (fun q hq h=>by omega)) (C1 (w.heap.size+1) (1) (.slice py L.length ty)) (fun q hq h=>by omega)) (Ai o0 p0));clear k0 o0 p0;replace g0:=Bk.kg (Bk.al g0 _) u0;obtain ⟨c4,g5,d4,h5⟩:=Bk.h2 g0;obtain ⟨e4,i5⟩:=Bk.cf b0 0 rfl;obtain ⟨j0,y0,b1⟩:=Bk.x2 g0 (.slice px xs.length tx) (.slice py L.length ty);have e0:=Hi j0;clear j0;have f0:=Hi (Ai hC hR);clear hC hR;go_wp2
   exact bodyPost_ret (v:=.agg #[.slice px xs.length tx,.slice py L.length ty]) (by simp [results,Tryz.results23,go_sem,y0,b1]) rfl (by exact (by first | exact ⟨_,_,m2,p+1,rfl,DrM.mono d0.out.1 (by omega),by have:=d0.out.2.1;omega,by have:=d0.out.2.2;omega,f0.out.2.keep e0.out (fun h=>by omega) (fun k hk h=>by omega),by omega,chg_app f0.out.1 e0.out (fun q hq h=>by omega)⟩ | exact ⟨_,_,rfl,m2,DrM.mono d0.out.1 (by omega),by have:=d0.out.2.1;omega,by have:=d0.out.2.2;omega,p+1,f0.out.2.keep e0.out (fun h=>by omega) (fun k hk h=>by omega),by omega,chg_app f0.out.1 e0.out (fun q hq h=>by omega)⟩ | exact ⟨⟨_,_,rfl⟩,m2,DrM.mono d0.out.1 (by omega),by have:=d0.out.2.1;omega,by have:=d0.out.2.2;omega,p+1,f0.out.2.keep e0.out (fun h=>by omega) (fun k hk h=>by omega),by omega,chg_app f0.out.1 e0.out (fun q hq h=>by omega)⟩))
  have hq:(0:Int) < (L.length:Int):=by omega
  obtain ⟨gy,t1⟩:∃ gy,py=some ⟨gy,0,none⟩:=by obtain ⟨L,h1,h2,h3⟩:=oY.h;obtain ⟨b,c,i0⟩:=own_pos h3.out (by omega);simp only [Value.slice.injEq] at i0;exact ⟨b,i0.1⟩
  subst t1;obtain ⟨p4,k4,t4,j3,e3,f3,h4t,j1,x1⟩:=oY.first (by omega);have h3t:3≤t4:=by omega
  have u5:∀ W,(Instr.slice 23 (.slice p4 k4 t4) none (some (.int .i64 3)) none).run Tryz.prog W=.ok (.slice p4 3 t4) W:=fun W=>run_pre tInts p4 k4 t4 3 h3t W
  have x5:=s1 gy (Or.inl rfl);obtain ⟨o2,t2⟩:=Bk.cf b0 1 rfl;go_upto_region 10 with (fail)
  have g2:=Lc j1;have a2:True:=trivial;refine wp_region_still_tail 8 (by kernel_rfl) (by kernel_rfl) ?_;simp only [List.take_succ_cons,List.take_zero,List.drop_succ_cons,List.drop_zero];repeat still_step
  refine wpStill_nil ?_;change wpList _ _ _ _ _ (World.drew w2)
  obtain ⟨w3,d2⟩:∃ X,X=World.drew w2:=⟨_,rfl⟩;rw [← d2];have i0:Below w2.heap.size w2 w3:=by rw [d2];exact Bd (Bs _)
  clear d2 a2;replace hC:=(hC).trans (Cb i0);replace hR:=hR.below i0;have b3:=i0.size;clear t2 o2;replace x1:=Kf i0 (Lc j1) x1;replace oX:=Ob oX i0;replace oY:=oY.below i0;replace j1:=Kc i0 j1;replace g2:=Lc j1;obtain ⟨m2,k0,o0,p0⟩:=DrM.cut (p:=p4) (e:=k4) (t:=t4) oX rfl oY y1 j3 ⟨e3,f3⟩ (by omega) (by omega);clear oX oY;go_upto_region 13 with (fail)
  obtain ⟨w4,d1,hb⟩:=nmw (World.setCell w3 ⟨gy,0,none⟩ (.slice p4 3 t4));rw [← d1] at k0;replace hC:=((hC.sN _ _ _)).trans (Cb hb);replace hR:=(hR.kC _ _ _).below hb;have r1:=hb.size;simp only [Ss] at r1;replace f1:=Bb (Bk.kg (Bk.al f1 _) u0) i0;replace f1:=Bb (Bk.nn f1 _) hb;replace g0:=Bb (Bk.kg (Bk.al g0 _) u0) i0;replace g0:=Bb (Bk.nn g0 _) hb;replace b0:=Bb b0 i0;replace b0:=Bb (Bk.nn b0 _) hb;clear hb;rw [← d1];clear d1;clear j1 x1;have d0:=Hi (Ai (DrM.keep (DrM.keep k0 (C1 (w.heap.size+1) (0) (.slice px xs.length tx)) (fun q hq h=>by omega)) (C1 (w.heap.size+1) (1) (.slice (some ⟨gy,0,none⟩) L.length ty)) (fun q hq h=>by omega)) (Ai o0 p0));clear k0 o0 p0;obtain ⟨f4,j5,g4,k5⟩:=Bk.h2 g0;obtain ⟨h4,l5,i4,m5⟩:=Bk.h2 b0;obtain ⟨j0,y0,b1⟩:=Bk.x2 g0 (.slice px xs.length tx) (.slice (some ⟨gy,0,none⟩) L.length ty);have e0:=Hi j0;clear j0;have f0:=Hi (Ai hC hR);clear hC hR;go_wp2
  exact bodyPost_ret (v:=.agg #[.slice px xs.length tx,.slice (some ⟨gy,0,none⟩) L.length ty]) (by simp [results,Tryz.results23,go_sem,y0,b1]) rfl (by exact (by first | exact ⟨_,_,m2,p+1,rfl,DrM.mono d0.out.1 (by omega),by have:=d0.out.2.1;omega,by have:=d0.out.2.2;omega,f0.out.2.keep e0.out (fun h=>by omega) (fun k hk h=>by omega),by omega,chg_app f0.out.1 e0.out (fun q hq h=>by omega)⟩ | exact ⟨_,_,rfl,m2,DrM.mono d0.out.1 (by omega),by have:=d0.out.2.1;omega,by have:=d0.out.2.2;omega,p+1,f0.out.2.keep e0.out (fun h=>by omega) (fun k hk h=>by omega),by omega,chg_app f0.out.1 e0.out (fun q hq h=>by omega)⟩ | exact ⟨⟨_,_,rfl⟩,m2,DrM.mono d0.out.1 (by omega),by have:=d0.out.2.1;omega,by have:=d0.out.2.2;omega,p+1,f0.out.2.keep e0.out (fun h=>by omega) (fun k hk h=>by omega),by omega,chg_app f0.out.1 e0.out (fun q hq h=>by omega)⟩))
 have c6:(z == 2)=false:=by simp [hk2]
 by_cases hk3:z=3
 ·subst hk3;have k0:DrM w2 w.heap.size _ _ _:=DrM.nil _ _;have HN:Hid (∀ W:World,DrM W w.heap.size (.slice none 0 0) (.slice none 0 0) ⟨[],[]⟩):=Hi (fun W=>DrM.nil W _);clear k0;clear oX;clear oY;replace g0:=Bk.kg (Bk.al g0 _) u0;obtain ⟨j4,n5,l4,o5⟩:=Bk.h2 g0;obtain ⟨j0,y0,b1⟩:=Bk.x2 g0 (.slice none 0 0) (.slice none 0 0);have e0:=Hi j0;clear j0;have f0:=Hi (Ai hC hR);clear hC hR;go_wp2
  exact bodyPost_ret (v:=.agg #[.slice none 0 0,.slice none 0 0]) (by simp [results,Tryz.results23,go_sem,y0,b1]) rfl (by exact (by first | exact ⟨_,_,⟨[],[]⟩,p+1,rfl,HN.out _,by simp,by simp,f0.out.2.keep e0.out (fun h=>by omega) (fun k hk h=>by omega),by omega,chg_app f0.out.1 e0.out (fun q hq h=>by omega)⟩ | exact ⟨_,_,rfl,⟨[],[]⟩,HN.out _,by simp,by simp,p+1,f0.out.2.keep e0.out (fun h=>by omega) (fun k hk h=>by omega),by omega,chg_app f0.out.1 e0.out (fun q hq h=>by omega)⟩ | exact ⟨⟨_,_,rfl⟩,⟨[],[]⟩,HN.out _,by simp,by simp,p+1,f0.out.2.keep e0.out (fun h=>by omega) (fun k hk h=>by omega),by omega,chg_app f0.out.1 e0.out (fun q hq h=>by omega)⟩))
 have d6:(z == 3)=false:=by simp [hk3]
 go_upto_region 13 with (fail)
 obtain ⟨m2,k0,o0,p0⟩:=DrM.parts oX rfl oY (by omega) (by omega);clear oX;clear oY;have d0:=Hi (Ai (DrM.keep (DrM.keep k0 (C1 (w.heap.size+1) (0) (.slice px xs.length tx)) (fun q hq h=>by omega)) (C1 (w.heap.size+1) (1) (.slice py L.length ty)) (fun q hq h=>by omega)) (Ai o0 p0));clear k0 o0 p0;replace g0:=Bk.kg (Bk.al g0 _) u0;obtain ⟨m4,p5,n4,q5⟩:=Bk.h2 g0;obtain ⟨o4,r5,q4,s5⟩:=Bk.h2 b0;obtain ⟨j0,y0,b1⟩:=Bk.x2 g0 (.slice px xs.length tx) (.slice py L.length ty);have e0:=Hi j0;clear j0;have f0:=Hi (Ai hC hR);clear hC hR;go_wp2
 exact bodyPost_ret (v:=.agg #[.slice px xs.length tx,.slice py L.length ty]) (by simp [results,Tryz.results23,go_sem,y0,b1]) rfl (by exact (by first | exact ⟨_,_,m2,p+1,rfl,DrM.mono d0.out.1 (by omega),by have:=d0.out.2.1;omega,by have:=d0.out.2.2;omega,f0.out.2.keep e0.out (fun h=>by omega) (fun k hk h=>by omega),by omega,chg_app f0.out.1 e0.out (fun q hq h=>by omega)⟩ | exact ⟨_,_,rfl,m2,DrM.mono d0.out.1 (by omega),by have:=d0.out.2.1;omega,by have:=d0.out.2.2;omega,p+1,f0.out.2.keep e0.out (fun h=>by omega) (fun k hk h=>by omega),by omega,chg_app f0.out.1 e0.out (fun q hq h=>by omega)⟩ | exact ⟨⟨_,_,rfl⟩,m2,DrM.mono d0.out.1 (by omega),by have:=d0.out.2.1;omega,by have:=d0.out.2.2;omega,p+1,f0.out.2.keep e0.out (fun h=>by omega) (fun k hk h=>by omega),by omega,chg_app f0.out.1 e0.out (fun q hq h=>by omega)⟩))
theorem equalI_any (va vb:Value) (xs ys:List Int) (w:World) (ha:Reads w 1 va xs.length (ints xs)) (hb:Reads w 1 vb ys.length (ints ys)) :
  Calls Tryz.prog 31 #[va,vb] w fun e w'=>e=.returned (.bool (decide (xs=ys)))∧Below w.heap.size w w':=by
 obtain ⟨_,hn,a,g0,b,i0,rfl,f0,ha,a0⟩:=ha;obtain ⟨_,hn',a',cap',b',off',rfl,hcap',ha',b0⟩:=hb;by_cases hl:xs.length=ys.length
 ·have e0:((xs.length:Int) != (ys.length:Int))=false:=by simp [hl]
  have HL:=Hi hl;clear hl;go_enter Tryz.func31,Tryz.ntmps31
  go_wp2
  go_loopw [13] (fun i wr=>∃ k:Nat,k≤xs.length∧i=.int .i64 k∧xs.take k=ys.take k∧∃ d,wr=w.drewN d) (fun i _=>xs.length-(intOf i).toNat)
  case atStart=>exact ⟨0,Nat.zero_le _,rfl,rfl,0,rfl⟩
  case round =>
   obtain ⟨k,hk,rfl,he,d,rfl⟩:=hrel;have HE:=Hi he;clear he;by_cases hlt:k < xs.length
   ·obtain ⟨rfl,h0⟩:=ha (by omega);obtain ⟨rfl,hbs'⟩:=ha' (by have:=HL.out;omega);have hlt':k < ys.length:=by have:=HL.out;omega
    have c0:=a0 k (by simpa [ints] using hlt);have d0:=b0 k (by simpa [ints] using hlt');rw [ints_get] at c0 d0;clear a0 b0 ha ha';by_cases hxy:xs[k]=ys[k]
    ·have e1:(xs[k] != ys[k])=false:=by simp [hxy]
     clear hxy;go_wp2
     go_quiet (fail)
     go_wp2
     go_roundw
     case rel=>exact ⟨k+1,by omega,by go_num,take_succ_eq hlt hlt' HE.out (by simpa using e1),_,rfl⟩
     case measure=>simp [intOf];omega
    have e1:(xs[k] != ys[k])=true:=by simp [hxy]
    have HX:=Hi hxy;clear hxy;go_wp2
    go_quiet (fail)
    go_wp2
    go_ret
    exact ⟨ret_bool (decide_eq_false (fun h=>HX.out (by subst h;rfl))).symm,by rw [World.drewN_drewN];exact below_drewN' w _⟩
   go_wp2
   go_ret
   exact ⟨ret_bool (decide_eq_true (by have h:=HE.out;rwa [List.take_of_length_le (by omega),List.take_of_length_le (by have:=HL.out;omega)] at h)).symm,below_drewN' w _⟩
 have e0:((xs.length:Int) != (ys.length:Int))=true:=by simp;omega
 have HL:=Hi hl;clear hl;go_enter Tryz.func31,Tryz.ntmps31
 go_wp2
 go_ret
 exact ⟨ret_bool (decide_eq_false (fun h=>HL.out (by rw [h]))).symm,Bs w⟩
theorem equalF_any (va vb:Value) (xs ys:List (List Int)) (w:World) (hx:Reads2 ints w va xs) (hy:Reads2 ints w vb ys) :
  Calls Tryz.prog 32 #[va,vb,.func (.func 31) #[] #[]] w fun e w'=>e=.returned (.bool (decide (xs=ys)))∧Below w.heap.size w w':=by
 obtain ⟨a,c,rfl⟩:=hx.shape;obtain ⟨a',c',rfl⟩:=hy.shape;have hn:=hx.lenle;have hn':=hy.lenle;have HX:=Hi hx;have HY:=Hi hy;clear hx hy;by_cases hl:xs.length=ys.length
 ·have e0:((xs.length:Int) != (ys.length:Int))=false:=by simp [hl]
  have HL:=Hi hl;clear hl;go_enter Tryz.func32,Tryz.ntmps32
  go_wp2
  go_loopw [17] (fun i wr=>∃ k:Nat,k≤xs.length∧i=.int .i64 k∧xs.take k=ys.take k∧Below w.heap.size w wr) (fun i _=>xs.length-(intOf i).toNat)
  case atStart=>exact ⟨0,Nat.zero_le _,rfl,rfl,Bs w⟩
  case round =>
   obtain ⟨k,hk,rfl,he,a0⟩:=hrel;have HE:=Hi he;clear he;by_cases hlt:k < xs.length
   ·have hlt':k < ys.length:=by have:=HL.out;omega
    obtain ⟨b,h0,u,rfl,g0,hc,hu⟩:=(HX.out.below a0).at k hlt;obtain ⟨b',off',u',rfl,hbs',hc',hu'⟩:=(HY.out.below a0).at k hlt';have f0:=Hi (fun h=>take_succ_eq hlt hlt' HE.out h);have d0:=Hi (fun (h:xs=ys)=>show xs[k]=ys[k] by subst h;rfl);have HQ:=Hi (equalI_any u u' xs[k] ys[k] wr hu hu');generalize xs[k]=x at *
    generalize ys[k]=y at *
    clear hu hu';go_wp2_with fail
    refine HQ.out.mono ?_;rintro e w1 ⟨rfl,b0⟩;have c0:=btr a0 b0;by_cases hxy:x=y
    ·rw [decide_eq_true hxy];have HZ:=Hi hxy;clear hxy b0 a0;go_wp2
     go_roundw
     case rel=>exact ⟨k+1,by omega,by go_num,f0.out HZ.out,c0⟩
     case measure=>simp [intOf];omega
    rw [decide_eq_false hxy];have HZ:=Hi hxy;clear hxy b0 a0;go_wp2
    go_ret
    exact ⟨ret_bool (decide_eq_false (fun h=>HZ.out (d0.out h))).symm,c0⟩
   go_wp2
   go_ret
   exact ⟨ret_bool (decide_eq_true (by have h:=HE.out;rwa [List.take_of_length_le (by omega),List.take_of_length_le (by have:=HL.out;omega)] at h)).symm,a0⟩
 have e0:((xs.length:Int) != (ys.length:Int))=true:=by simp;omega
 have HL:=Hi hl;clear hl;go_enter Tryz.func32,Tryz.ntmps32
 go_wp2
 go_ret
 exact ⟨ret_bool (decide_eq_false (fun h=>HL.out (by rw [h]))).symm,Bs w⟩
theorem MemorySame_any (vx vy ux uy:Value) (m n:Mm) (w:World) (hr:ReadsM w vx vy m) (hs:ReadsM w ux uy n) :
  Calls Tryz.prog 9 #[.agg #[vx,vy],.agg #[ux,uy]] w fun e w'=>e=.returned (.bool (decide (m=n)))∧Below w.heap.size w w':=by
 obtain ⟨a0,c0,a1,c1,rfl,rfl⟩:=hr.shape;obtain ⟨e0,f0,e1,f1,rfl,rfl⟩:=hs.shape;obtain ⟨xs,ys⟩:=m;obtain ⟨us,ws⟩:=n;have HR:=Hi (fun W (hW:Below w.heap.size w W)=>hr.below hW);have HS:=Hi (fun W (hW:Below w.heap.size w W)=>hs.below hW);clear hr hs;simp only at HR HS ⊢
 go_enter Tryz.func9,Tryz.ntmps9
 go_wp2_with fail
 refine (equalI_any _ _ xs us _ (HR.out _ (bal (bal (Bs w) (.cells #[.slice a0 xs.length c0,.slice a1 ys.length c1] 29)) (.cells #[.slice e0 us.length f0,.slice e1 ws.length f1] 29))).x (HS.out _ (bal (bal (Bs w) (.cells #[.slice a0 xs.length c0,.slice a1 ys.length c1] 29)) (.cells #[.slice e0 us.length f0,.slice e1 ws.length f1] 29))).x).mono ?_;rintro e w1 ⟨rfl,hb⟩;have i0:=hb.size;simp only [Sa] at i0;have d0:Bk w1 (w.heap.size) [.slice a0 xs.length c0,.slice a1 ys.length c1]:=Bb (Bk.al (Bk.nw (by simp) rfl) (.cells #[.slice e0 us.length f0,.slice e1 ws.length f1] 29)) hb;have g0:Bk w1 (w.heap.size+1) [.slice e0 us.length f0,.slice e1 ws.length f1]:=Bb (Bk.nw (by simp) rfl) hb;have b0:=btr (bal (bal (Bs w) (.cells #[.slice a0 xs.length c0,.slice a1 ys.length c1] 29)) (.cells #[.slice e0 us.length f0,.slice e1 ws.length f1] 29)) hb;clear hb;have q0:=Bk.lt d0 (show 0 < 2 by decide);have r0:=Bk.lt g0 (show 0 < 2 by decide);by_cases h0:xs=us
 ·rw [decide_eq_true h0];have Z0:=Hi h0;clear h0;have m0:=Bk.cell d0 1 (v:=.slice a1 ys.length c1) rfl;have o0:=Bk.froz d0 1 (show 1 < 2 by decide);have n0:=Bk.cell g0 1 (v:=.slice e1 ws.length f1) rfl;have p0:=Bk.froz g0 1 (show 1 < 2 by decide);go_wp2_with fail
  refine (equalF_any _ _ ys ws _ (HR.out _ b0).y (HS.out _ b0).y).mono ?_;rintro e w2 ⟨rfl,hb⟩;have j0:=hb.size;clear o0 m0 p0 n0;replace d0:=Bb d0 hb;replace g0:=Bb g0 hb;replace b0:=btr b0 hb;clear hb;have k0:=Bk.lt d0 (show 0 < 2 by decide);have l0:=Bk.lt g0 (show 0 < 2 by decide);by_cases h1:ys=ws
  ·rw [decide_eq_true h1];have Z1:=Hi h1;clear h1;have tt:=b0;go_wp2
   exact bodyPost_ret (v:=.bool true) (by simp [results,Tryz.results9,go_sem]) rfl (by exact ⟨ret_bool (decide_eq_true (by rw [Z0.out,Z1.out])).symm,tt⟩)
  rw [decide_eq_false h1];have Z1:=Hi h1;clear h1;have tt:=b0;go_wp2
  exact bodyPost_ret (v:=.bool false) (by simp [results,Tryz.results9,go_sem]) rfl (by exact ⟨ret_bool (decide_eq_false (fun h=>Z1.out (by injection h))).symm,tt⟩)
 rw [decide_eq_false h0];have Z0:=Hi h0;clear h0;have tt:=b0;go_wp2
 exact bodyPost_ret (v:=.bool false) (by simp [results,Tryz.results9,go_sem]) rfl (by exact ⟨ret_bool (decide_eq_false (fun h=>Z0.out (by injection h))).symm,tt⟩)
end Go.Proofs.YtlckklglbodgbaaGreat
namespace Go.Proofs.YtlckklglbodgbaaGreat
open Go.RowKit Go.ChangeShapes Go.WideShapes
variable {H:Type} {enc:TypeId × Value→H} {P:Program} {w:World} {base:Nat} {spare:Nat→Bool} {held:Bool}
theorem rd_bytes {t e:TypeId} {fuel:Nat} {c:Value} {x:DataW H × List MemPlace} (ht:P.underlying t=some (.slice e)) (he:P.underlying e=some (.int .u8)) (hc:P.cellsOf e=1)
  (h:DataW.trod enc P w base spare held fuel t [c]=some x):∃ xs:List Int,Reads w 1 c xs.length (xs.map (Value.int .u8))∧∀ n ∈ xs,0≤n∧n < 256:=by
 rcases open_ints ht he hc h with ⟨hcs,_⟩ | ⟨a,len,cap,zs,hcs,_,hl,hm,hz,_,hcell,hwz⟩
 ·simp only [List.cons.injEq,and_true] at hcs;subst hcs;exact ⟨[],Ro (World.ownsRow_nil w 0 0 1) (by simp),fun n hn=>by cases hn⟩
 simp only [List.cons.injEq,and_true] at hcs;subst hcs;have g0:len≤zs.length:=by rw [hz];split <;> omega
 have d0:(zs.take len).length=len:=by rw [List.length_take];omega
 refine ⟨zs.take len,?_,fun n hn=>by have h:=hwz n (List.mem_of_mem_take hn);simp [Lit.wf,IntKind.min,IntKind.max,IntKind.bits,IntKind.signed] at h;omega⟩;rw [d0];obtain ⟨b,f0,b0⟩:=a;refine ⟨by rw [List.length_map,d0];omega,by unfold maxLen at hm;omega,some ⟨b,f0,b0⟩,cap,b,f0,rfl,⟨hl,fun h=>by cases h⟩,?_,?_⟩
 ·intro h0;have c0:=hcell 0 (by omega);have a0:b0=none:=by simpa [Addr.add] using World.cell?_spot c0
  subst a0;exact ⟨rfl,by have:=World.block_lt_of_cell? w _ c0;simpa [Addr.add] using this⟩
 intro j hj;have hj':j < len:=by rw [List.length_map,d0] at hj;exact hj
 have c0:=hcell 0 (by omega);have a0:b0=none:=by simpa [Addr.add] using World.cell?_spot c0
 subst a0;have e0:=hcell j (by omega);rw [addr_add] at e0;rw [e0,List.getElem_map,List.getElem_take];congr 2
 simp only [List.getD_eq_getElem?_getD];rw [List.getElem?_eq_getElem (by omega)];rfl
theorem op_bytes {r:Reach} {b0:Nat} {t e:TypeId} {v:Value} {d:DataW H} {p:List MemPlace} (ht:P.underlying t=some (.slice e)) (he:P.underlying e=some (.int .u8)) (hc:P.cellsOf e=1)
  (hv:Value.okWide P w r b0 t v) (h:DataW.Trod enc P w base spare held t v d p) :
  ∃ xs:List Int,Reads w 1 v xs.length (xs.map (Value.int .u8))∧∀ n ∈ xs,0≤n∧n < 256:=by
 obtain ⟨a,d0,a0,rfl⟩:=okWide_slice ht hv;obtain ⟨c0,hf⟩:=h;exact rd_bytes ht he hc (c:=.slice a d0 a0) (by simpa [Value.cells] using hf)
end Go.Proofs.YtlckklglbodgbaaGreat
