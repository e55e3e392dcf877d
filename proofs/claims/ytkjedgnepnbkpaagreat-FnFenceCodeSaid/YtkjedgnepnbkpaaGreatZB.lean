/-
 Parts of the proofs of the laws FnCompactRegs,FnFenceCode,FnRunTimeSteps.
-/
import Derived.Test.YtkjedgnepnbkpaaGreatQ
set_option linter.all false
namespace Go.Proofs.YtkjedgnepnbkpaaGreat
open Go.RowKit
set_option maxHeartbeats 6400000 in
set_option maxRecDepth 100000 in
theorem l3Bend_any (vx vy:Value) (m:Mm) (B g p:Nat) (w:World) (hm:ReadsM w vx vy m) (h0:m.vals.length≤1005) (h1:m.arrs.length≤1005) (h2:∀ r ∈ m.arrs,3≤r.length∧r.length≤4) (hR:Rnd w B g p) (hp:p+5≤1000000000) :
  Calls Tryz.prog 53 #[.pointer (some ⟨g,0,none⟩),.agg #[vx,vy]] w fun r w'=>∃ (ux uy:Value) (m':Mm) (p':Nat),r=.returned (.agg #[ux,uy])∧DrM w' w.heap.size ux uy m'∧m'.vals.length≤m.vals.length+1∧m'.arrs.length≤m.arrs.length∧Rnd w' B g p'∧p'≤p+5∧Chg (fun q=>q=g) w w':=by
 obtain ⟨a0,c0,a1,c1,rfl,rfl⟩:=hm.shape
 have b3:pre2 m.arrs m.arrs.length≤4*m.arrs.length:=pre2_le m.arrs 4 (fun k r hr=>(h2 r (List.mem_of_getElem? hr)).2) _ (Nat.le_refl _)
 have HM:=Lib.hid (fun W (hW:Below w.heap.size w W)=>hm.below hW)
 have H2:=Lib.hid h2;clear hm h2
 obtain ⟨xs,L⟩:=m
 simp only at h0 h1 b3 HM H2 ⊢
 have hg:=hR.lt
 have hC:Chg (fun k=>k=g) w w:=Chg.refl _ _
 have o1:∀ q,(fun k=>k=g) q→q=g:=fun q h=>h
 go_enter Tryz.func53,Tryz.ntmps53
 go_wp2_with fail
 refine (l3Copy_any _ _ ⟨xs,L⟩ _ (HM.out _ (bal (bal (Bs w) (.cells #[.slice a0 xs.length c0,.slice a1 L.length c1] 29)) (.cells #[.slice none 0 0,.slice none 0 0] 29))).x (HM.out _ (bal (bal (Bs w) (.cells #[.slice a0 xs.length c0,.slice a1 L.length c1] 29)) (.cells #[.slice none 0 0,.slice none 0 0] 29))).y (by simp only;omega) (by simp only;omega) (by simp only;omega)).mono ?_
 rintro e w1 ⟨ux,uy,us,rfl,oX,r1,t1,hb⟩
 simp only [Sa] at oX r1
 obtain ⟨px,tx,rfl⟩:=Oh oX
 obtain ⟨py,ty,rfl⟩:=Oh r1.out
 have oY:OwnY w1 _ _ us L.length:=⟨L,rfl,H2.out,r1⟩
 clear r1 H2 HM
 replace hC:=(((hC.trans (Chg.of_below (bal (Bs _) _))).trans (Chg.of_below (bal (Bs _) _)))).trans (Chg.of_below hb)
 replace hR:=((hR.below (bal (Bs _) _)).below (bal (Bs _) _)).below hb
 have v1:=hb.size
 simp only [Sa] at v1
 have j0:Bk w1 (w.heap.size) [.slice a0 xs.length c0,.slice a1 L.length c1]:=Bk.below (Bk.al (Bk.nw (by simp) rfl) (.cells #[.slice none 0 0,.slice none 0 0] 29)) hb
 have f0:Bk w1 (w.heap.size+1) [.slice none 0 0,.slice none 0 0]:=Bk.below (Bk.nw (by simp) rfl) hb
 clear hb
 have x2:=Bk.lz j0
 have y2:=Bk.lz f0
 have w0:=oX.lt
 try simp only [Sa] at w0
 have p1:=oY.lt
 try simp only [Sa] at p1
 go_wp2_with fail
 refine (pick_any _ _ B g (p) (hR.below (bal (Bs _) (.cells #[.slice px xs.length tx,.slice py L.length ty] 29))) (by omega) (by omega) (by omega)).mono ?_
 rintro e w2 ⟨z,z0,z1,rfl,g1,hc⟩
 replace hC:=((hC.trans (Chg.of_below (bal (Bs _) _)))).trans hc
 replace hR:=g1;clear g1
 have x1:=hc.size
 simp only [Sa] at x1
 replace oX:=Ow (Ob oX (bal (Bs _) _)) hc (fun gq h h2=>by have:=w0 gq h;have:=o1 gq h2;omega)
 replace oY:=(oY.below (bal (Bs _) _)).keep hc (fun gq h h2=>by have:=p1 gq h;have:=o1 gq h2;omega)
 replace j0:=Bk.kg (Bk.al j0 _) hc
 replace f0:=Bk.kg (Bk.al f0 _) hc
 have g0:Bk w2 (w1.heap.size) [.slice px xs.length tx,.slice py L.length ty]:=Bk.kg (Bk.nw (by simp) rfl) hc
 clear hc
 replace x2:=Bk.lz j0
 replace y2:=Bk.lz f0
 have b2:=Bk.lz g0
 by_cases hk0:z=0
 ·subst hk0
  obtain ⟨c2,j2⟩:=Bk.cf g0 0 rfl
  go_wp2_with (at_builtin;refine wpList_aps tInts rfl _ _ rfl (w.heap.size+1+1) _ xs.length (ints xs) rfl (Ob oX (bal (Bs _) (.cells #[.int .i64 0] 3))) _ 1 (ints [0]) rfl ((Ro (World.ownsRow_lit (base:=(w2).heap.size) (e:=3) (size:=1) (w2) #[.int .i64 0] 1 (Nat.le_refl _) (by unfold maxLen;omega) (by simp)) (by simp))) (one_ints [0]) (by omega) (by first | omega | (simp only [Sa,Ss];omega)) ?_)
  intro vA w3 s0 hc p2 _
  obtain ⟨q0,r0,rfl⟩:=Oh s0
  have y1:∀ q,(Value.slice q0 (xs.length+1) r0).ownBlock=some q→((w.heap.size+1+1≤q∧q < w1.heap.size)∨w2.heap.size≤q)∧q < w3.heap.size:=fun q h=>⟨by rcases p2 with e | ⟨g,e,hg⟩;(rw [e] at h;exact Or.inl (w0 q h));(rw [e] at h;have:=Option.some.inj h;first | omega | (simp only [Sa] at hg;omega)),(s0.lt q h).2⟩
  replace hC:=chg_app (hC.trans (Chg.of_below (bal (Bs _) _))) hc (fun q hq h=>by have:=w0 q h;omega)
  replace hR:=(hR.below (bal (Bs _) _)).keep hc (fun h=>by have:=w0 _ h;omega) (fun k hk h=>by have:=w0 _ h;omega)
  have i1:=hc.size
  simp only [Sa] at i1
  clear j2 c2
  replace oY:=(oY.below (bal (Bs _) _)).keep hc (fun gq h h2=>(fun a b c=>t1 a c b) gq h h2)
  replace j0:=Bk.keep (Bk.al j0 _) hc (fun h=>by have:=w0 _ h;omega)
  replace f0:=Bk.keep (Bk.al f0 _) hc (fun h=>by have:=w0 _ h;omega)
  replace g0:=Bk.keep (Bk.al g0 _) hc (fun h=>by have:=w0 _ h;omega)
  have b1:w3.cell? ⟨w2.heap.size,0,none⟩=some (.int .i64 0):=Gc hc (Wc (by simp) (by rfl)) (fun h=>by have:=w0 _ h;omega)
  have f1:w3.frozen? ⟨w2.heap.size,0,none⟩=false:=Gf hc (by simp <;> omega) (Fn (by simp)) (fun h=>by have:=w0 _ h;omega)
  clear hc
  have a2:=s0.lt
  try simp only [Sa] at a2
  clear p2 oX
  have e3:=Lc b1
  obtain ⟨d2,k2⟩:=Bk.cf g0 0 rfl
  go_upto_region 13 with (fail)
  obtain ⟨w4,v0,hb⟩:=nmw (World.setCell w3 ⟨w1.heap.size,0,none⟩ (.slice q0 (xs.length+1) r0))
  replace hC:=((hC.sN _ _ _)).trans (Chg.of_below hb)
  replace hR:=(hR.kC _ _ _).below hb
  have j1:=hb.size
  simp only [Ss] at j1
  clear k2 d2
  replace f1:=Kf hb (Lc (Nn b1 _)) (Fs f1 _)
  replace oY:=(oY.keep (C1 _ _ _) (fun gq h h2=>by have:=p1 gq h;omega)).below hb
  replace b1:=Kc hb (Nn b1 _)
  replace s0:=Ob (Oe s0 _ _ (fun h=>by have:=y1 _ h;omega) _) hb
  replace j0:=Bk.below (Bk.nn j0 _) hb
  replace f0:=Bk.below (Bk.nn f0 _) hb
  replace g0:Bk w4 (w1.heap.size) [.slice q0 (xs.length+1) r0,.slice py L.length ty]:=Bk.below (Bk.at g0 0 (.slice q0 (xs.length+1) r0)) hb
  clear hb
  rw [← v0]
  clear v0
  obtain ⟨m2,m0,n0,o0⟩:=DrM.parts (xs:=xs++[0]) (show World.ownsRow _ _ _ _ _ _ _ from by rw [ints_append];exact s0) (by rw [List.length_append];rfl) oY (by omega) (by omega)
  clear oY
  clear s0
  have b0:=Lib.hid (And.intro (DrM.keep (DrM.keep m0 (C1 (w.heap.size+1) (0) (.slice q0 (xs.length+1) r0)) (fun q hq h=>by omega)) (C1 (w.heap.size+1) (1) (.slice py L.length ty)) (fun q hq h=>by omega)) (And.intro n0 o0));clear m0 n0 o0
  obtain ⟨i3,i4,j3,j4⟩:=Bk.f2 f0 0 1 rfl rfl
  obtain ⟨k3,l4,l3,m4⟩:=Bk.f2 g0 0 1 rfl rfl
  have k0:=(((Chg.refl (fun q=>q=w.heap.size+1) w4).setCell (w.heap.size+1) 0 (.slice q0 (xs.length+1) r0) (fun _=>rfl)).setCell (w.heap.size+1) 1 (.slice py L.length ty) (fun _=>rfl))
  have l0:=(Bk.at (Bk.at f0 0 (.slice q0 (xs.length+1) r0)) 1 (.slice py L.length ty))
  obtain ⟨t0,u0⟩:=Bk.g2 l0
  have d0:=Lib.hid k0;clear k0 l0
  have e0:=Lib.hid (And.intro hC hR);clear hC hR
  go_wp2
  exact bodyPost_ret (v:=.agg #[.slice q0 (xs.length+1) r0,.slice py L.length ty]) (by simp [results,Tryz.results53,go_sem,t0,u0]) rfl (by exact (by first | exact ⟨_,_,m2,p+1,rfl,DrM.mono b0.out.1 (by omega),by have:=b0.out.2.1;omega,by have:=b0.out.2.2;omega,e0.out.2.keep d0.out (fun h=>by omega) (fun k hk h=>by omega),by omega,chg_app e0.out.1 d0.out (fun q hq h=>by omega)⟩ | exact ⟨_,_,rfl,m2,DrM.mono b0.out.1 (by omega),by have:=b0.out.2.1;omega,by have:=b0.out.2.2;omega,p+1,e0.out.2.keep d0.out (fun h=>by omega) (fun k hk h=>by omega),by omega,chg_app e0.out.1 d0.out (fun q hq h=>by omega)⟩ | exact ⟨⟨_,_,rfl⟩,m2,DrM.mono b0.out.1 (by omega),by have:=b0.out.2.1;omega,by have:=b0.out.2.2;omega,p+1,e0.out.2.keep d0.out (fun h=>by omega) (fun k hk h=>by omega),by omega,chg_app e0.out.1 d0.out (fun q hq h=>by omega)⟩))
 have p5:(z == 0)=false:=by simp [hk0]
 by_cases hk1:z=1
 ·subst hk1
  by_cases hn0:xs.length < 1
  ·have hq:decide ((0:Int) < (xs.length:Int))=false:=decide_eq_false (by omega)
   have c3:¬(0:Int) < (xs.length:Int):=by omega
   obtain ⟨m3,n4⟩:=Bk.cf g0 0 rfl
   go_upto_region 13 with (fail)
   obtain ⟨m2,m0,n0,o0⟩:=DrM.parts oX rfl oY (by omega) (by omega)
   clear oX
   clear oY
   have b0:=Lib.hid (And.intro (DrM.keep (DrM.keep m0 (C1 (w.heap.size+1) (0) (.slice px xs.length tx)) (fun q hq h=>by omega)) (C1 (w.heap.size+1) (1) (.slice py L.length ty)) (fun q hq h=>by omega)) (And.intro n0 o0));clear m0 n0 o0
   obtain ⟨n3,o4,o3,q4⟩:=Bk.f2 f0 0 1 rfl rfl
   obtain ⟨p3,r4⟩:=Bk.cf g0 1 rfl
   have k0:=(((Chg.refl (fun q=>q=w.heap.size+1) w2).setCell (w.heap.size+1) 0 (.slice px xs.length tx) (fun _=>rfl)).setCell (w.heap.size+1) 1 (.slice py L.length ty) (fun _=>rfl))
   have l0:=(Bk.at (Bk.at f0 0 (.slice px xs.length tx)) 1 (.slice py L.length ty))
   obtain ⟨t0,u0⟩:=Bk.g2 l0
   have d0:=Lib.hid k0;clear k0 l0
   have e0:=Lib.hid (And.intro hC hR);clear hC hR
   go_wp2
   exact bodyPost_ret (v:=.agg #[.slice px xs.length tx,.slice py L.length ty]) (by simp [results,Tryz.results53,go_sem,t0,u0]) rfl (by exact (by first | exact ⟨_,_,m2,p+1,rfl,DrM.mono b0.out.1 (by omega),by have:=b0.out.2.1;omega,by have:=b0.out.2.2;omega,e0.out.2.keep d0.out (fun h=>by omega) (fun k hk h=>by omega),by omega,chg_app e0.out.1 d0.out (fun q hq h=>by omega)⟩ | exact ⟨_,_,rfl,m2,DrM.mono b0.out.1 (by omega),by have:=b0.out.2.1;omega,by have:=b0.out.2.2;omega,p+1,e0.out.2.keep d0.out (fun h=>by omega) (fun k hk h=>by omega),by omega,chg_app e0.out.1 d0.out (fun q hq h=>by omega)⟩ | exact ⟨⟨_,_,rfl⟩,m2,DrM.mono b0.out.1 (by omega),by have:=b0.out.2.1;omega,by have:=b0.out.2.2;omega,p+1,e0.out.2.keep d0.out (fun h=>by omega) (fun k hk h=>by omega),by omega,chg_app e0.out.1 d0.out (fun q hq h=>by omega)⟩))
  have hq:(0:Int) < (xs.length:Int):=by omega
  obtain ⟨gx,cx,q2⟩:=own_pos oX (by omega)
  simp only [Value.slice.injEq,true_and] at q2
  obtain ⟨rfl,rfl⟩:=q2
  have oI:OwnI _ _ gx xs.length tx:=⟨xs,rfl,oX⟩
  have n5:=w0 gx rfl
  have q1:∀ q,OwnB2 (.slice py L.length ty) us q→¬q=gx:=fun q h e=>t1 q (by subst e;rfl) h
  have v2:∀ q,OwnB2 (.slice py L.length ty) us q→(w.heap.size≤q∧q < w2.heap.size)∧¬q=gx:=fun q h=>⟨by have:=p1 q h;omega,q1 q h⟩
  clear q1
  clear oX
  obtain ⟨⟨x0,u2⟩,o2⟩:=oI.at 0 (by omega)
  clear u2 o2
  obtain ⟨e2,l2⟩:=Bk.cf g0 0 rfl
  go_upto_region 7 with (fail)
  clear l2 e2
  have i0:=Bk.cell g0 0 (v:=.slice (some ⟨gx,0,none⟩) xs.length tx) rfl
  refine wp_region_noPanic ?_
  refine wp_region_held_drew (S:=(fun W'=>W'.cell? ⟨w1.heap.size,0,none⟩=some (.slice (some ⟨gx,0,none⟩) xs.length tx))) (by kernel_rfl) (Kc (Below.drew (Bs w2)) i0) (fun hHeld=>?_)
  obtain ⟨w3,d1⟩:∃ X,X=World.drew w2:=⟨_,rfl⟩
  rw [← d1] at hHeld ⊢
  have hb:Below w2.heap.size w2 w3:=by rw [d1];exact Below.drew (Bs _)
  clear d1
  replace hC:=(hC).trans (Chg.of_below hb)
  replace hR:=hR.below hb
  replace oI:=OwnI.below oI hb
  have r2:=hb.size
  replace oY:=oY.below hb
  replace i0:=Kc hb i0
  replace j0:=Bk.below j0 hb
  replace f0:=Bk.below f0 hb
  replace g0:=Bk.below g0 hb
  clear hb
  replace x2:=Bk.lz j0
  replace y2:=Bk.lz f0
  replace b2:=Bk.lz g0
  refine (tq 0 23 rfl rfl ?_ ?_ (tq 1 24 rfl rfl ?_ ?_ (tq 2 25 rfl rfl ?_ ?_ ?_)))
  iterate 3 (rotate_left;intro W' hSw;(try dsimp only at hSw);go_simp;try with_reducible rfl)
  try simp only [Ep]
  refine Rdy 3 rfl (fun K hK=>?_)
  go_simp
  obtain ⟨w4,v0,hb⟩:=nmw (World.alloc w3 (.cells #[.int .i64 (-1),.int .i64 256,.int .i64 9223372036854775807] 3))
  replace hC:=((hC.trans (Chg.of_below (bal (Bs _) _)))).trans (Chg.of_below hb)
  replace hR:=(hR.below (bal (Bs _) _)).below hb
  have p0:=Ob (World.ownsRow_lit (base:=(w3).heap.size) (e:=3) (size:=1) (w3) #[.int .i64 (-1),.int .i64 256,.int .i64 9223372036854775807] 3 (Nat.le_refl _) (by unfold maxLen;omega) (by simp)) hb
  try simp only [Sa,Ss] at p0
  replace oI:=OwnI.below (OwnI.below oI (bal (Bs _) _)) hb
  have k1:=hb.size
  simp only [Sa] at k1
  replace oY:=(oY.below (bal (Bs _) _)).below hb
  replace i0:=Kc hb (Ac i0 _)
  replace j0:=Bk.below (Bk.al j0 _) hb
  replace f0:=Bk.below (Bk.al f0 _) hb
  replace g0:=Bk.below (Bk.al g0 _) hb
  have y0:Bk w4 (w3.heap.size) [.int .i64 (-1),.int .i64 256,.int .i64 9223372036854775807]:=Bk.below (Bk.nw (by simp) rfl) hb
  clear hb
  have e1:=p0.lt
  try simp only [Sa] at e1
  rw [← v0]
  clear v0
  have f3:=Bk.lz y0
  refine hK.out _ _ (i0) (fun hHeld=>?_)
  clear hK K
  try simp only [Ep]
  refine Rdy 4 rfl (fun K hK=>?_)
  go_simp
  refine (num_any _ [(-1),256,9223372036854775807] _ B g (p+1) hR (Ro p0 (by simp)) (fun b o c hb=>by simp at hb;omega) (by simp) (by simp) (by omega)).mono ?_
  rintro e w5 ⟨vv,l5,rfl,g1,hc⟩
  replace hC:=(hC).trans hc
  replace hR:=g1;clear g1
  replace oI:=OwnI.keep oI hc (fun h=>by have:=o1 _ h;omega)
  have s2:=hc.size
  replace oY:=oY.keep hc (fun gq h h2=>by have:=v2 gq h;have:=o1 gq h2;omega)
  replace i0:=Gg hc i0
  replace p0:=Ow p0 hc (fun gq h h2=>by have:=e1 gq h;have:=o1 gq h2;omega)
  replace j0:=Bk.kg j0 hc
  replace f0:=Bk.kg f0 hc
  replace g0:=Bk.kg g0 hc
  replace y0:=Bk.kg y0 hc
  clear hc
  clear l5
  obtain ⟨⟨x0,u2⟩,o2⟩:=oI.at 0 (by omega)
  refine hK.out _ _ (i0) (fun hHeld=>?_)
  clear hK K
  try simp only [Ep]
  refine (tq 5 28 rfl rfl ?_ ?_ ?_)
  (rotate_left;intro W' hSw;(try dsimp only at hSw);go_simp;try with_reducible rfl)
  try simp only [Ep]
  refine Rdy 6 rfl (fun K hK=>?_)
  go_simp
  obtain ⟨w6,v0,hb⟩:=nmw (World.setCell w5 ⟨gx,0,none⟩ (.int .i64 vv))
  replace hC:=((hC.sN _ _ _)).trans (Chg.of_below hb)
  replace hR:=(hR.kC _ _ _).below hb
  replace oI:=OwnI.below (OwnI.put oI (0) (vv)) hb
  have l1:=hb.size
  simp only [Ss] at l1
  replace oY:=(oY.keep (C1 _ _ _) (fun gq h h2=>by have:=v2 gq h;omega)).below hb
  replace i0:=Kc hb (Nn i0 _)
  replace p0:=Ob (Oe p0 _ _ (fun h=>by have:=e1 _ h;omega) _) hb
  replace j0:=Bk.below (Bk.nn j0 _) hb
  replace f0:=Bk.below (Bk.nn f0 _) hb
  replace g0:=Bk.below (Bk.nn g0 _) hb
  replace y0:=Bk.below (Bk.nn y0 _) hb
  clear hb
  rw [← v0]
  clear v0
  refine hK.out _ _ (i0) (fun hHeld=>?_)
  clear hK K
  try simp only [Ep]
  refine Dn ?_
  clear hHeld
  go_upto_region 13 with (fail)
  obtain ⟨m2,m0,n0,o0⟩:=DrM.partsI oI oY (by omega) (by omega)
  clear oY
  clear oI
  clear p0
  have b0:=Lib.hid (And.intro (DrM.keep (DrM.keep m0 (C1 (w.heap.size+1) (0) (.slice (some ⟨gx,0,none⟩) xs.length tx)) (fun q hq h=>by omega)) (C1 (w.heap.size+1) (1) (.slice py L.length ty)) (fun q hq h=>by omega)) (And.intro n0 o0));clear m0 n0 o0
  obtain ⟨q3,s4,r3,u4⟩:=Bk.f2 f0 0 1 rfl rfl
  obtain ⟨s3,v4⟩:=Bk.cf g0 1 rfl
  have k0:=(((Chg.refl (fun q=>q=w.heap.size+1) w6).setCell (w.heap.size+1) 0 (.slice (some ⟨gx,0,none⟩) xs.length tx) (fun _=>rfl)).setCell (w.heap.size+1) 1 (.slice py L.length ty) (fun _=>rfl))
  have l0:=(Bk.at (Bk.at f0 0 (.slice (some ⟨gx,0,none⟩) xs.length tx)) 1 (.slice py L.length ty))
  obtain ⟨t0,u0⟩:=Bk.g2 l0
  have d0:=Lib.hid k0;clear k0 l0
  have e0:=Lib.hid (And.intro hC hR);clear hC hR
  go_wp2
  exact bodyPost_ret (v:=.agg #[.slice (some ⟨gx,0,none⟩) xs.length tx,.slice py L.length ty]) (by simp [results,Tryz.results53,go_sem,t0,u0]) rfl (by exact (by first | exact ⟨_,_,m2,p+1+1,rfl,DrM.mono b0.out.1 (by omega),by have:=b0.out.2.1;omega,by have:=b0.out.2.2;omega,e0.out.2.keep d0.out (fun h=>by omega) (fun k hk h=>by omega),by omega,chg_app e0.out.1 d0.out (fun q hq h=>by omega)⟩ | exact ⟨_,_,rfl,m2,DrM.mono b0.out.1 (by omega),by have:=b0.out.2.1;omega,by have:=b0.out.2.2;omega,p+1+1,e0.out.2.keep d0.out (fun h=>by omega) (fun k hk h=>by omega),by omega,chg_app e0.out.1 d0.out (fun q hq h=>by omega)⟩ | exact ⟨⟨_,_,rfl⟩,m2,DrM.mono b0.out.1 (by omega),by have:=b0.out.2.1;omega,by have:=b0.out.2.2;omega,p+1+1,e0.out.2.keep d0.out (fun h=>by omega) (fun k hk h=>by omega),by omega,chg_app e0.out.1 d0.out (fun q hq h=>by omega)⟩))
 have q5:(z == 1)=false:=by simp [hk1]
 by_cases hk2:z=2
 ·subst hk2
  by_cases hn0:L.length < 1
  ·have hq:decide ((0:Int) < (L.length:Int))=false:=decide_eq_false (by omega)
   have c3:¬(0:Int) < (L.length:Int):=by omega
   obtain ⟨t3,x4⟩:=Bk.cf g0 1 rfl
   go_upto_region 13 with (fail)
   obtain ⟨m2,m0,n0,o0⟩:=DrM.parts oX rfl oY (by omega) (by omega)
   clear oX
   clear oY
   have b0:=Lib.hid (And.intro (DrM.keep (DrM.keep m0 (C1 (w.heap.size+1) (0) (.slice px xs.length tx)) (fun q hq h=>by omega)) (C1 (w.heap.size+1) (1) (.slice py L.length ty)) (fun q hq h=>by omega)) (And.intro n0 o0));clear m0 n0 o0
   obtain ⟨u3,y4,v3,z4⟩:=Bk.f2 f0 0 1 rfl rfl
   obtain ⟨x3,a5⟩:=Bk.cf g0 0 rfl
   have k0:=(((Chg.refl (fun q=>q=w.heap.size+1) w2).setCell (w.heap.size+1) 0 (.slice px xs.length tx) (fun _=>rfl)).setCell (w.heap.size+1) 1 (.slice py L.length ty) (fun _=>rfl))
   have l0:=(Bk.at (Bk.at f0 0 (.slice px xs.length tx)) 1 (.slice py L.length ty))
   obtain ⟨t0,u0⟩:=Bk.g2 l0
   have d0:=Lib.hid k0;clear k0 l0
   have e0:=Lib.hid (And.intro hC hR);clear hC hR
   go_wp2
   exact bodyPost_ret (v:=.agg #[.slice px xs.length tx,.slice py L.length ty]) (by simp [results,Tryz.results53,go_sem,t0,u0]) rfl (by exact (by first | exact ⟨_,_,m2,p+1,rfl,DrM.mono b0.out.1 (by omega),by have:=b0.out.2.1;omega,by have:=b0.out.2.2;omega,e0.out.2.keep d0.out (fun h=>by omega) (fun k hk h=>by omega),by omega,chg_app e0.out.1 d0.out (fun q hq h=>by omega)⟩ | exact ⟨_,_,rfl,m2,DrM.mono b0.out.1 (by omega),by have:=b0.out.2.1;omega,by have:=b0.out.2.2;omega,p+1,e0.out.2.keep d0.out (fun h=>by omega) (fun k hk h=>by omega),by omega,chg_app e0.out.1 d0.out (fun q hq h=>by omega)⟩ | exact ⟨⟨_,_,rfl⟩,m2,DrM.mono b0.out.1 (by omega),by have:=b0.out.2.1;omega,by have:=b0.out.2.2;omega,p+1,e0.out.2.keep d0.out (fun h=>by omega) (fun k hk h=>by omega),by omega,chg_app e0.out.1 d0.out (fun q hq h=>by omega)⟩))
  have hq:(0:Int) < (L.length:Int):=by omega
  obtain ⟨gy,q1⟩:∃ gy,py=some ⟨gy,0,none⟩:=by obtain ⟨L,h1,h2,h3⟩:=oY.h;obtain ⟨b,c,hb⟩:=own_pos h3.out (by omega);simp only [Value.slice.injEq] at hb;exact ⟨b,hb.1⟩
  subst q1
  obtain ⟨p4,k4,t4,d3,z2,a3,h4t,n1,s1⟩:=oY.first (by omega)
  have h3t:3≤t4:=by omega
  have m5:∀ W,(Instr.slice 23 (.slice p4 k4 t4) none (some (.int .i64 3)) none).run Tryz.prog W=.ok (.slice p4 3 t4) W:=fun W=>run_pre tInts p4 k4 t4 3 h3t W
  have o5:=p1 gy (Or.inl rfl)
  obtain ⟨i2,n2⟩:=Bk.cf g0 1 rfl
  go_upto_region 10 with (fail)
  have g3:=Lc n1
  have u1:True:=trivial
  refine wp_region_still_tail 8 (by kernel_rfl) (by kernel_rfl) ?_
  simp only [List.take_succ_cons,List.take_zero,List.drop_succ_cons,List.drop_zero]
  repeat still_step
  refine wpStill_nil ?_
  change wpList _ _ _ _ _ (World.drew w2)
  obtain ⟨w3,d1⟩:∃ X,X=World.drew w2:=⟨_,rfl⟩
  rw [← d1]
  have hb:Below w2.heap.size w2 w3:=by rw [d1];exact Below.drew (Bs _)
  clear d1 u1
  replace hC:=(hC).trans (Chg.of_below hb)
  replace hR:=hR.below hb
  have t2:=hb.size
  clear n2 i2
  replace s1:=Kf hb (Lc n1) s1
  replace oX:=Ob oX hb
  replace oY:=oY.below hb
  replace n1:=Kc hb n1
  replace j0:=Bk.below j0 hb
  replace f0:=Bk.below f0 hb
  replace g0:=Bk.below g0 hb
  clear hb
  obtain ⟨m2,m0,n0,o0⟩:=DrM.cut (p:=p4) (e:=k4) (t:=t4) oX rfl oY t1 d3 ⟨z2,a3⟩ (by omega) (by omega)
  clear oX oY
  go_upto_region 13 with (fail)
  obtain ⟨w4,v0,hb⟩:=nmw (World.setCell w3 ⟨gy,0,none⟩ (.slice p4 3 t4))
  rw [← v0] at m0
  replace hC:=((hC.sN _ _ _)).trans (Chg.of_below hb)
  replace hR:=(hR.kC _ _ _).below hb
  have m1:=hb.size
  simp only [Ss] at m1
  replace j0:=Bk.below (Bk.nn j0 _) hb
  replace f0:=Bk.below (Bk.nn f0 _) hb
  replace g0:=Bk.below (Bk.nn g0 _) hb
  clear hb
  rw [← v0]
  clear v0
  clear n1 s1
  have b0:=Lib.hid (And.intro (DrM.keep (DrM.keep m0 (C1 (w.heap.size+1) (0) (.slice px xs.length tx)) (fun q hq h=>by omega)) (C1 (w.heap.size+1) (1) (.slice (some ⟨gy,0,none⟩) L.length ty)) (fun q hq h=>by omega)) (And.intro n0 o0));clear m0 n0 o0
  obtain ⟨y3,b5,z3,c5⟩:=Bk.f2 f0 0 1 rfl rfl
  obtain ⟨a4,d5,b4,e5⟩:=Bk.f2 g0 0 1 rfl rfl
  have k0:=(((Chg.refl (fun q=>q=w.heap.size+1) w4).setCell (w.heap.size+1) 0 (.slice px xs.length tx) (fun _=>rfl)).setCell (w.heap.size+1) 1 (.slice (some ⟨gy,0,none⟩) L.length ty) (fun _=>rfl))
  have l0:=(Bk.at (Bk.at f0 0 (.slice px xs.length tx)) 1 (.slice (some ⟨gy,0,none⟩) L.length ty))
  obtain ⟨t0,u0⟩:=Bk.g2 l0
  have d0:=Lib.hid k0;clear k0 l0
  have e0:=Lib.hid (And.intro hC hR);clear hC hR
  go_wp2
  exact bodyPost_ret (v:=.agg #[.slice px xs.length tx,.slice (some ⟨gy,0,none⟩) L.length ty]) (by simp [results,Tryz.results53,go_sem,t0,u0]) rfl (by exact (by first | exact ⟨_,_,m2,p+1,rfl,DrM.mono b0.out.1 (by omega),by have:=b0.out.2.1;omega,by have:=b0.out.2.2;omega,e0.out.2.keep d0.out (fun h=>by omega) (fun k hk h=>by omega),by omega,chg_app e0.out.1 d0.out (fun q hq h=>by omega)⟩ | exact ⟨_,_,rfl,m2,DrM.mono b0.out.1 (by omega),by have:=b0.out.2.1;omega,by have:=b0.out.2.2;omega,p+1,e0.out.2.keep d0.out (fun h=>by omega) (fun k hk h=>by omega),by omega,chg_app e0.out.1 d0.out (fun q hq h=>by omega)⟩ | exact ⟨⟨_,_,rfl⟩,m2,DrM.mono b0.out.1 (by omega),by have:=b0.out.2.1;omega,by have:=b0.out.2.2;omega,p+1,e0.out.2.keep d0.out (fun h=>by omega) (fun k hk h=>by omega),by omega,chg_app e0.out.1 d0.out (fun q hq h=>by omega)⟩))
 have r5:(z == 2)=false:=by simp [hk2]
 by_cases hk3:z=3
 ·subst hk3
  have m0:DrM w2 w.heap.size _ _ _:=DrM.nil _ _
  have HN:Hid (∀ W:World,DrM W w.heap.size (.slice none 0 0) (.slice none 0 0) ⟨[],[]⟩):=Lib.hid (fun W=>DrM.nil W _);clear m0
  clear oX
  clear oY
  obtain ⟨c4,f5,d4,g5⟩:=Bk.f2 f0 0 1 rfl rfl
  have k0:=(((Chg.refl (fun q=>q=w.heap.size+1) w2).setCell (w.heap.size+1) 0 (.slice none 0 0) (fun _=>rfl)).setCell (w.heap.size+1) 1 (.slice none 0 0) (fun _=>rfl))
  have l0:=(Bk.at (Bk.at f0 0 (.slice none 0 0)) 1 (.slice none 0 0))
  obtain ⟨t0,u0⟩:=Bk.g2 l0
  have d0:=Lib.hid k0;clear k0 l0
  have e0:=Lib.hid (And.intro hC hR);clear hC hR
  go_wp2
  exact bodyPost_ret (v:=.agg #[.slice none 0 0,.slice none 0 0]) (by simp [results,Tryz.results53,go_sem,t0,u0]) rfl (by exact (by first | exact ⟨_,_,⟨[],[]⟩,p+1,rfl,HN.out _,by simp,by simp,e0.out.2.keep d0.out (fun h=>by omega) (fun k hk h=>by omega),by omega,chg_app e0.out.1 d0.out (fun q hq h=>by omega)⟩ | exact ⟨_,_,rfl,⟨[],[]⟩,HN.out _,by simp,by simp,p+1,e0.out.2.keep d0.out (fun h=>by omega) (fun k hk h=>by omega),by omega,chg_app e0.out.1 d0.out (fun q hq h=>by omega)⟩ | exact ⟨⟨_,_,rfl⟩,⟨[],[]⟩,HN.out _,by simp,by simp,p+1,e0.out.2.keep d0.out (fun h=>by omega) (fun k hk h=>by omega),by omega,chg_app e0.out.1 d0.out (fun q hq h=>by omega)⟩))
 have s5:(z == 3)=false:=by simp [hk3]
 go_upto_region 13 with (fail)
 obtain ⟨m2,m0,n0,o0⟩:=DrM.parts oX rfl oY (by omega) (by omega)
 clear oX
 clear oY
 have b0:=Lib.hid (And.intro (DrM.keep (DrM.keep m0 (C1 (w.heap.size+1) (0) (.slice px xs.length tx)) (fun q hq h=>by omega)) (C1 (w.heap.size+1) (1) (.slice py L.length ty)) (fun q hq h=>by omega)) (And.intro n0 o0));clear m0 n0 o0
 obtain ⟨e4,h5,f4,i5⟩:=Bk.f2 f0 0 1 rfl rfl
 obtain ⟨g4,j5,h4,k5⟩:=Bk.f2 g0 0 1 rfl rfl
 have k0:=(((Chg.refl (fun q=>q=w.heap.size+1) w2).setCell (w.heap.size+1) 0 (.slice px xs.length tx) (fun _=>rfl)).setCell (w.heap.size+1) 1 (.slice py L.length ty) (fun _=>rfl))
 have l0:=(Bk.at (Bk.at f0 0 (.slice px xs.length tx)) 1 (.slice py L.length ty))
 obtain ⟨t0,u0⟩:=Bk.g2 l0
 have d0:=Lib.hid k0;clear k0 l0
 have e0:=Lib.hid (And.intro hC hR);clear hC hR
 go_wp2
 exact bodyPost_ret (v:=.agg #[.slice px xs.length tx,.slice py L.length ty]) (by simp [results,Tryz.results53,go_sem,t0,u0]) rfl (by exact (by first | exact ⟨_,_,m2,p+1,rfl,DrM.mono b0.out.1 (by omega),by have:=b0.out.2.1;omega,by have:=b0.out.2.2;omega,e0.out.2.keep d0.out (fun h=>by omega) (fun k hk h=>by omega),by omega,chg_app e0.out.1 d0.out (fun q hq h=>by omega)⟩ | exact ⟨_,_,rfl,m2,DrM.mono b0.out.1 (by omega),by have:=b0.out.2.1;omega,by have:=b0.out.2.2;omega,p+1,e0.out.2.keep d0.out (fun h=>by omega) (fun k hk h=>by omega),by omega,chg_app e0.out.1 d0.out (fun q hq h=>by omega)⟩ | exact ⟨⟨_,_,rfl⟩,m2,DrM.mono b0.out.1 (by omega),by have:=b0.out.2.1;omega,by have:=b0.out.2.2;omega,p+1,e0.out.2.keep d0.out (fun h=>by omega) (fun k hk h=>by omega),by omega,chg_app e0.out.1 d0.out (fun q hq h=>by omega)⟩))
end Go.Proofs.YtkjedgnepnbkpaaGreat
