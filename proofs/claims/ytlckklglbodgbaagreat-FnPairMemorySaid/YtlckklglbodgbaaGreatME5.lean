/-
 Parts of the proofs of the laws FnPairMemory,FnSplitMemory.
-/
import Derived.Test.YtlckklglbodgbaaGreatMD5
set_option linter.all false
namespace Go.Proofs.YtlckklglbodgbaaGreat
open Go.RowKit
set_option maxHeartbeats 6400000 in
set_option maxRecDepth 100000 in
theorem l2Mutate_any {lo hi:Nat} {a0 a1 a2:Option Addr} {c0 c1 c2 n m:Nat} {zs us:List Int} {D:Nat} {L:List St} (B g p:Nat) (w:World) (hP:PdR w lo hi (.slice a0 n c0) (.slice a1 m c1) (.slice a2 L.length c2) n m zs us D L) (hbn:n≤12∧m≤2∧stNs L≤1048576) (hR:Rnd w B g p) (hp:p+4≤1000000000) :
  Calls Tryz.prog 25 #[.pointer (some ⟨g,0,none⟩),.agg #[.slice a0 n c0,.slice a1 m c1,.slice a2 L.length c2]] w fun r w'=>TmP 4 B g p w r w':=by
 have m9:Hid (L.length≤1048576):=Hi (Nat.le_trans (stNs_len L) hbn.2.2);have h0:=Hi hbn;have r9:=hbn.1;clear hbn;have r4:=Hi (fun W (hW:Below w.heap.size w W)=>copy_mu (hP.below hW) h0.out.2.2 (by have:=h0.out;omega) (by have:=h0.out;omega));clear hP;have hg:=hR.lt;have hC:Chg (fun k=>k=g) w w:=Chg.refl _ _;have n1:∀ q,(fun k=>k=g) q→q=g:=fun q h=>h
 go_enter Tryz.func25,Tryz.ntmps25
 go_wp2_with fail
 refine (r4.out _ (bal (bal (Bs w) (.cells #[.slice a0 n c0,.slice a1 m c1,.slice a2 L.length c2] 26)) (.cells #[.slice none 0 0,.slice none 0 0,.slice none 0 0] 26))).mono ?_;rintro e w1 ⟨p1,p2,p3,d1,d2,d3,hi,rfl,s9,s3,hM,hb⟩;try simp only [Sa] at hM
 have v9:=hM.t.top;clear r4;have x4:=btr (bal (bal (Bs w) (.cells #[.slice a0 n c0,.slice a1 m c1,.slice a2 L.length c2] 26)) (.cells #[.slice none 0 0,.slice none 0 0,.slice none 0 0] 26)) hb;replace hC:=(((hC.trans (Cb (bal (Bs _) _))).trans (Cb (bal (Bs _) _)))).trans (Cb hb);replace hR:=((hR.below (bal (Bs _) _)).below (bal (Bs _) _)).below hb;have a4:=hb.size;simp only [Sa] at a4;have k2:=Bb (Bk.al (Bk.n3 (w.heap.size)) (.cells #[.slice none 0 0,.slice none 0 0,.slice none 0 0] 26)) hb;have e0:=Bb (Bk.n3 (w.heap.size+1)) hb;clear hb;have o9:=x4;clear x4;have pC:=Bk.lz k2;have qC:=Bk.lz e0;clear o9;obtain ⟨bs,z3⟩:∃ x,x=w.heap.size+1+1:=⟨_,rfl⟩;rw [← z3] at hM;have p9:w.heap.size+1+1≤bs:=Nat.le_of_eq z3.symm;have q9:bs≤w1.heap.size:=(by omega);clear z3;have iM:∀ q,MuB bs hi q→bs≤q∧q < hi:=fun q h=>h
 go_upto_region 3 with (fail)
 generalize hnw:World.alloc _ _=w2;have i1:=nmh hnw;clear hnw
 replace hC:=((hC.trans (Cb (bal (Bs _) _)))).trans (Cb i1);replace hR:=(hR.below (bal (Bs _) _)).below i1;replace hM:=(hM.below (bal (Bs _) _)).below i1;have h4:=i1.size;simp only [Sa] at h4;have b0:=Bb (Bk.n3 (w1.heap.size)) i1;have rC:=Bk.lz b0;go_wp2_with fail
 refine (pick_any _ _ B g (p) hR (by omega) (by omega) (by omega)).mono ?_;rintro e w3 ⟨z,z0,z1,rfl,o1,d0⟩;replace hC:=(hC).trans d0;replace hR:=o1;clear o1;replace hM:=hM.keep d0 (fun gq h h2=>by have:=iM gq h;have:=n1 gq h2;omega);have a5:=d0.size;by_cases hz0:z=0
 ·have aA:(z == 0)=true:=by simp [hz0]
  by_cases hn:0 < n
  ·have hq:(0:Int) < (n:Int):=by omega
   obtain ⟨ga,rfl⟩:=s9 (by omega);have ig:bs≤ga∧ga < hi:=⟨(hM.v.lt _ rfl).1,hM.vt _ rfl⟩;replace b0:=Bk.kg b0 d0;obtain ⟨i4,m4⟩:=Bk.cf b0 0 rfl;go_upto_region 6 with (fail)
   clear m4 i4;refine Rgh (S:=fun W'=>W'.cell? ⟨w1.heap.size,0,none⟩=some (.slice (some ⟨ga,0,none⟩) n d1)) (fun W d=>(Bk.kc b0 d 0)) (fun w4 y1 hHeld=>?_);replace hC:=(hC).trans (Cb y1);replace hR:=hR.below y1;replace hM:=hM.below y1;have b5:=y1.size;refine (tq 0 20 rfl rfl ?_ ?_ (tq 1 21 rfl rfl ?_ ?_ (tq 2 22 rfl rfl ?_ ?_ ?_)));iterate 3 (rotate_left;intro W' hSw;(try dsimp only at hSw);go_simp;try with_reducible rfl)
   try simp only [Ep]
   refine Rdy 3 rfl (fun K hK=>?_);replace b0:=Bb b0 y1;obtain ⟨j4,o4⟩:=Bk.cf b0 0 rfl;go_simp
   refine (l1Draw_any B g (p+1) _ hR (by omega)).mono ?_;rintro e w5 ⟨y,pq,rfl,o1,mC,e2⟩;replace hC:=(hC).trans e2;replace hR:=o1;clear o1;replace hM:=hM.keep e2 (fun gq h h2=>by have:=iM gq h;have:=n1 gq h2;omega);have c5:=e2.size;clear o4 j4;obtain ⟨⟨x0,v2⟩,r3⟩:=hM.atV 0 hn;replace b0:=Bk.kg b0 e2;refine hK.out _ _ (Bk.ce b0 0) (fun hHeld=>?_);clear hK K;try simp only [Ep]
   refine (tq 4 24 rfl rfl ?_ ?_ ?_);(rotate_left;intro W' hSw;(try dsimp only at hSw);go_simp;try with_reducible rfl)
   try simp only [Ep]
   refine Rdy 5 rfl (fun K hK=>?_);go_simp
   generalize hnw:World.setCell _ _ _=w6;have b2:=nmh hnw;clear hnw
   replace hC:=((hC.sN _ _ _)).trans (Cb b2);replace hR:=(hR.kC _ _ _).below b2;replace hM:=(hM.putV (0) (y)).below b2;have c3:=b2.size;simp only [Ss] at c3;replace b0:=Bb (Bk.nn b0 _) b2;refine hK.out _ _ (Bk.ce b0 0) (fun hHeld=>?_);clear hK K;try simp only [Ep]
   refine Dn ?_;clear hHeld;replace e0:=Bb (Bk.nn (Bk.keep (Bb (Bk.kg (Bb (Bk.al e0 _) i1) d0) y1) e2 (fun h=>by have:=n1 _ h;omega)) _) b2;obtain ⟨hA,jB,iA,kB,jA,lB⟩:=Bk.h3 e0;obtain ⟨kA,mB,lA,nB,mA,oB⟩:=Bk.h3 b0;obtain ⟨g0,q0,r0,s0⟩:=Bk.x3 e0 (.slice (some ⟨ga,0,none⟩) n d1) (.slice p2 m d2) (.slice p3 L.length d3);have t0:=Hi (MuS.end (b:=w.heap.size) (hM.keep g0 (fun gq h h2=>by have:=iM gq h;omega)) (by omega) h0.out.1 h0.out.2.1 h0.out.2.2);clear hM;have i0:=Hi g0;clear g0;have j0:=Hi (Ai hC hR);clear hC hR;go_wp2
   exact bodyPost_ret (v:=.agg #[.slice (some ⟨ga,0,none⟩) n d1,.slice p2 m d2,.slice p3 L.length d3]) (by simp [results,Tryz.results25,go_sem,q0,r0,s0]) rfl (by exact (by unfold TmP;obtain ⟨zz,uu,LL,hr,f0,p0⟩:=t0.out;exact ⟨_,_,_,zz,uu,_,LL,pq,rfl,hr,f0,p0,j0.out.2.keep i0.out (fun h=>by omega) (fun k hk h=>by omega),by omega,chg_app j0.out.1 i0.out (fun q hq h=>by omega)⟩))
  have hq:decide ((0:Int) < (n:Int))=false:=decide_eq_false (by omega);have b3:¬(0:Int) < (n:Int):=by omega
  replace e0:=Bk.kg (Bb (Bk.al e0 _) i1) d0;obtain ⟨nA,pB,oA,qB,pA,rB⟩:=Bk.h3 e0;replace b0:=Bk.kg b0 d0;obtain ⟨qA,sB,rA,tB,sA,uB⟩:=Bk.h3 b0;obtain ⟨g0,q0,r0,s0⟩:=Bk.x3 e0 (.slice p1 n d1) (.slice p2 m d2) (.slice p3 L.length d3);have t0:=Hi (MuS.end (b:=w.heap.size) (hM.keep g0 (fun gq h h2=>by have:=iM gq h;omega)) (by omega) h0.out.1 h0.out.2.1 h0.out.2.2);clear hM;have i0:=Hi g0;clear g0;have j0:=Hi (Ai hC hR);clear hC hR;go_wp2
  exact bodyPost_ret (v:=.agg #[.slice p1 n d1,.slice p2 m d2,.slice p3 L.length d3]) (by simp [results,Tryz.results25,go_sem,q0,r0,s0]) rfl (by exact (by unfold TmP;obtain ⟨zz,uu,LL,hr,f0,p0⟩:=t0.out;exact ⟨_,_,_,zz,uu,_,LL,p+1,rfl,hr,f0,p0,j0.out.2.keep i0.out (fun h=>by omega) (fun k hk h=>by omega),by omega,chg_app j0.out.1 i0.out (fun q hq h=>by omega)⟩))
 have aA:(z == 0)=false:=by simp [hz0]
 by_cases hz1:z=1
 ·have bA:(z == 1)=true:=by simp [hz1]
  replace e0:=Bk.kg (Bb (Bk.al e0 _) i1) d0;replace b0:=Bk.kg b0 d0;have s4:Hid (∃ (j:Nat) (xs:List Int) (a:Option Addr) (c:Nat),j≤13∧Hid (13-j≤13)∧Hid (xs.length=j)∧w3.ownsRow bs 3 1 (.slice a j c) j (ints xs)∧Hid (∀ q,(Value.slice a j c).ownBlock=some q→¬MuTB (.slice p1 n d1) bs hi q∧¬q=(w1.heap.size))∧MuT D m L.length (stNs L) bs hi (.slice p1 n d1) w3 (.slice p2 m d2) (.slice p3 L.length d3)∧Bk w3 (w1.heap.size) [.slice a j c,.slice p2 m d2,.slice p3 L.length d3]∧Bk w3 (w.heap.size+1) [.slice none 0 0,.slice none 0 0,.slice none 0 0]∧Rnd w3 B g (p+1)∧Chg (fun q=>q=g) w w3∧w3.heap.size≤w3.heap.size):=Hi (by obtain ⟨xs0,v2,ho0⟩:=hM.v.h;exact ⟨n,xs0,p1,d1,by omega,Hi (Nat.sub_le _ _),Hi v2,ho0,Hi (fun q h=>⟨fun h2=>h2.2 h,by have:=hM.vt q h;omega⟩),hM.t,b0,e0,hR,hC,Lr⟩);have t9:w.heap.size+1 < w3.heap.size∧w1.heap.size < w3.heap.size∧w.heap.size+1 < bs∧bs≤w3.heap.size∧hi≤w1.heap.size∧g < w.heap.size∧w.heap.size≤w.heap.size+1∧w.heap.size≤w1.heap.size:=by omega
  clear hR hC hM k2 e0 b0;go_wp2_with fail
  go_loopg [] 13 (fun gk wr=>∃ (j:Nat) (xs:List Int) (a:Option Addr) (c:Nat),j≤13∧Hid (13-j≤gk)∧Hid (xs.length=j)∧wr.ownsRow bs 3 1 (.slice a j c) j (ints xs)∧Hid (∀ q,(Value.slice a j c).ownBlock=some q→¬MuTB (.slice p1 n d1) bs hi q∧¬q=(w1.heap.size))∧MuT D m L.length (stNs L) bs hi (.slice p1 n d1) wr (.slice p2 m d2) (.slice p3 L.length d3)∧Bk wr (w1.heap.size) [.slice a j c,.slice p2 m d2,.slice p3 L.length d3]∧Bk wr (w.heap.size+1) [.slice none 0 0,.slice none 0 0,.slice none 0 0]∧Rnd wr B g (p+1)∧Chg (fun q=>q=g) w wr∧w3.heap.size≤wr.heap.size)
  case atStart=>exact s4.out
  case round =>
   obtain ⟨j,xs,a,c,hj,l9,v4,oX,HN,hT,t2,x2,hR,hC,oC⟩:=hrel;clear s4;obtain ⟨wl,rfl⟩:∃ X,X=wr:=⟨_,rfl⟩;have iX:=oX.lt;replace iX:=fun q h=>Ai (iX q h) (HN.out q h).2
   have w9:=Bk.lz t2;have x9:=Bk.lz x2;by_cases hlt:j≤12
   ·have hq:(j:Int)≤12:=by omega
    obtain ⟨k4,p4⟩:=Bk.cf t2 0 rfl;go_wp2_with (at_builtin;refine wpList_aps tInts rfl _ _ rfl (bs) _ j (ints xs) rfl (Ob oX (bal (Bs _) (.cells #[.int .i64 1] 3))) _ 1 (ints [1]) rfl ((Ro (World.ownsRow_lit (base:=(wl).heap.size) (e:=3) (size:=1) (wl) #[.int .i64 1] 1 Lr (by unfold maxLen;omega) (by simp)) (by simp))) (one_ints [1]) (by omega) (by first | omega | (simp only [Sa,Ss];omega)) ?_)
    intro vA w4 j2 hc y4 _;obtain ⟨r1,s1,rfl⟩:=Oh j2;replace hC:=chg_app (hC.trans (Cb (bal (Bs _) _))) hc (fun q hq h=>by have:=iX q h;omega);replace hR:=(hR.below (bal (Bs _) _)).keep hc (fun h=>by have:=iX _ h;omega) (fun k hk h=>by have:=iX _ h;omega);replace hT:=(hT.below (bal (Bs _) _)).keep hc (fun gq h h2=>(HN.out gq h2).1 h);have t4:Hid (∀ q,(Value.slice r1 (j+1) s1).ownBlock=some q→¬MuTB (.slice p1 n d1) bs hi q∧¬q=(w1.heap.size)):=Hi (fun q h=>(newOr_blk y4 q h).elim (fun h=>HN.out q h) (fun h=>by (try simp only [Sa] at h);exact ⟨fun h2=>by have:=h2.1;omega,by omega⟩));have e3:=hc.size;simp only [Sa] at e3;clear p4 k4;replace t2:=Bk.keep (Bk.al t2 _) hc (fun h=>by have:=iX _ h;omega);replace x2:=Bk.keep (Bk.al x2 _) hc (fun h=>by have:=iX _ h;omega);have y3:w4.cell? ⟨wl.heap.size,0,none⟩=some (.int .i64 1):=Gc hc (Wc (by simp) (by rfl)) (fun h=>by have:=iX _ h;omega);have n9:w4.frozen? ⟨wl.heap.size,0,none⟩=false:=Gf hc (by simp <;> omega) (Fn (by simp)) (fun h=>by have:=iX _ h;omega);clear hc;have i3:=j2.lt;try simp only [Sa] at i3
    clear y4 oX;have iZ:=fun q h=>Ai (i3 q h) (t4.out q h).2
    have y9:=Lc y3;obtain ⟨tA,vB⟩:=Bk.cf t2 0 rfl;have HO:=Hi (show World.ownsRow (World.setCell w4 ⟨w1.heap.size,0,none⟩ (.slice r1 (j+1) s1)) bs 3 1 _ (j+1) (ints (xs++[1])) from by rw [ints_append];exact (Oe j2 (w1.heap.size) 0 (fun h=>by have:=iZ _ h;omega) (.slice r1 (j+1) s1)));have t3:Hid ((xs++([1]:List Int)).length=j+1):=Hi (by rw [List.length_append,v4.out];rfl);have HX:=Hi (Ai (Bk.at t2 0 (.slice r1 (j+1) s1)) (Ai (Bk.nn (b':=(w1.heap.size)) (j':=0) x2 (.slice r1 (j+1) s1)) (Ai (hT.keep (C1 (w1.heap.size) (0) (.slice r1 (j+1) s1)) (fun gq h h2=>by have:=h.1;omega)) (Ai (hR.kC (w1.heap.size) (0) (.slice r1 (j+1) s1)) (hC.sN (w1.heap.size) (0) (.slice r1 (j+1) s1))))));clear hR hC j2 hT;go_wp2
    go_roundg (13-(j+1))
    case measure=>have:=l9.out;omega
    case rel=>exact ⟨j+1,xs++[1],_,_,by omega,Hi Lr,t3,HO.out,t4,HX.out.2.2.1,HX.out.1,HX.out.2.1,HX.out.2.2.2.1,HX.out.2.2.2.2,by (try simp only [Ss]);omega⟩
   have hq:decide ((j:Int)≤12)=false:=decide_eq_false (by omega);have b3:¬(j:Int)≤12:=by omega
   have t0:=Hi (tm_end (b:=w.heap.size) ⟨xs,v4.out,(Oe (Oe (Oe oX (w.heap.size+1) (0) (fun h=>by have:=iX _ h;omega) (.slice a j c)) (w.heap.size+1) (1) (fun h=>by have:=iX _ h;omega) (.slice p2 m d2)) (w.heap.size+1) (2) (fun h=>by have:=iX _ h;omega) (.slice p3 L.length d3))⟩ (((hT.keep (C1 (w.heap.size+1) (0) (.slice a j c)) (fun gq h h2=>by have:=h.1;omega)).keep (C1 (w.heap.size+1) (1) (.slice p2 m d2)) (fun gq h h2=>by have:=h.1;omega)).keep (C1 (w.heap.size+1) (2) (.slice p3 L.length d3)) (fun gq h h2=>by have:=h.1;omega)) (by omega) (by omega) h0.out.2.1 h0.out.2.2);clear hT oX;obtain ⟨uA,wB,wA,xB,xA,yB⟩:=Bk.h3 t2;obtain ⟨yA,zB,zA,aC,aB,bC⟩:=Bk.h3 x2;obtain ⟨g0,q0,r0,s0⟩:=Bk.x3 x2 (.slice a j c) (.slice p2 m d2) (.slice p3 L.length d3);have i0:=Hi g0;clear g0;have j0:=Hi (Ai hC hR);clear hC hR;go_wp2
   exact bodyPost_ret (v:=.agg #[.slice a j c,.slice p2 m d2,.slice p3 L.length d3]) (by simp [results,Tryz.results25,go_sem,q0,r0,s0]) rfl (by exact (by unfold TmP;obtain ⟨zz,uu,LL,hr,f0,p0⟩:=t0.out;exact ⟨_,_,_,zz,uu,_,LL,p+1,rfl,hr,f0,p0,j0.out.2.keep i0.out (fun h=>by omega) (fun k hk h=>by omega),by omega,chg_app j0.out.1 i0.out (fun q hq h=>by omega)⟩))
 have bA:(z == 1)=false:=by simp [hz1]
 by_cases hz2:z=2
 ·have cA:(z == 2)=true:=by simp [hz2]
  by_cases hn:0 < L.length
  ·have hq:(0:Int) < (L.length:Int):=by omega
   obtain ⟨gs,rfl⟩:=s3 (by omega);have ig:bs≤gs∧gs < hi:=(hM.t.sb _ rfl).1.1;go_upto_region 12 with (fail)
   replace b0:=Bk.kg b0 d0;refine Rgh (S:=fun W'=>W'.cell? ⟨w1.heap.size,2,none⟩=some (.slice (some ⟨gs,0,none⟩) L.length d3)) (fun W d=>(Bk.kc b0 d 2)) (fun w4 t1 hHeld=>?_);replace hC:=(hC).trans (Cb t1);replace hR:=hR.below t1;replace hM:=hM.below t1;have d5:=t1.size;refine (tq 0 40 rfl rfl ?_ ?_ (tq 1 41 rfl rfl ?_ ?_ (tq 2 42 rfl rfl ?_ ?_ ?_)));iterate 3 (rotate_left;intro W' hSw;(try dsimp only at hSw);go_simp;try with_reducible rfl)
   try simp only [Ep]
   refine Rdy 3 rfl (fun K hK=>?_);replace b0:=Bb b0 t1;obtain ⟨l4,q4⟩:=Bk.cf b0 2 rfl;go_simp
   generalize hnw:World.alloc _ _=w5;have m1:=nmh hnw;clear hnw
   replace hC:=((hC.trans (Cb (bal (Bs _) _)))).trans (Cb m1);replace hR:=(hR.below (bal (Bs _) _)).below m1;have x1:=Ob (World.ownsRow_lit (base:=(w4).heap.size) (e:=3) (size:=1) (w4) #[.int .i64 0,.int .i64 6,.int .i64 1,.int .i64 5,.int .i64 2] 5 Lr (by unfold maxLen;omega) (by simp)) m1;try simp only [Sa,Ss] at x1
   replace hM:=(hM.below (bal (Bs _) _)).below m1;have f3:=m1.size;simp only [Sa] at f3;clear q4 l4;have v3:=Bb (Bk.n5 (w4.heap.size)) m1;have s2:=x1.lt;try simp only [Sa] at s2
   have z9:=Bk.lz v3;replace b0:=Bb (Bk.al b0 _) m1;refine hK.out _ _ (Bk.ce b0 2) (fun hHeld=>?_);clear hK K;try simp only [Ep]
   refine Rdy 4 rfl (fun K hK=>?_);go_simp
   refine (num_any _ [0,6,1,5,2] _ B g (p+1) hR (Ro x1 (by simp)) (fun b o c hb=>by simp at hb;omega) (by simp) (by simp) (by omega)).mono ?_;rintro e w6 ⟨y,ym,rfl,o1,v1⟩;replace hC:=(hC).trans v1;replace hR:=o1;clear o1;replace hM:=hM.keep v1 (fun gq h h2=>by have:=iM gq h;have:=n1 gq h2;omega);have e5:=v1.size;replace x1:=Ow x1 v1 (fun gq h h2=>by have:=s2 gq h;have:=n1 gq h2;omega);obtain ⟨⟨x0,v2⟩,r3⟩:(∃ u,w6.cell? ⟨gs,0,none⟩=some u)∧w6.frozen? ⟨gs,0,none⟩=false:=hM.atS 0 hn 0 (by decide);replace b0:=Bk.kg b0 v1;refine hK.out _ _ (Bk.ce b0 2) (fun hHeld=>?_);clear hK K;try simp only [Ep]
   refine (tq 5 45 rfl rfl ?_ ?_ (tq 6 46 rfl rfl ?_ ?_ ?_));iterate 2 (rotate_left;intro W' hSw;(try dsimp only at hSw);go_simp;try with_reducible rfl)
   try simp only [Ep]
   refine Rdy 7 rfl (fun K hK=>?_);go_simp
   generalize hnw:World.setCell _ _ _=w7;have q1:=nmh hnw;clear hnw
   replace hC:=((hC.sN _ _ _)).trans (Cb q1);replace hR:=(hR.kC _ _ _).below q1;replace hM:=(hM.putS 0 hn 0 (by decide) (y)).below q1;have g3:=q1.size;simp only [Ss] at g3;replace x1:=Ob (Oe x1 _ _ (fun h=>by have:=s2 _ h;omega) _) q1;replace k2:=Bb (Bk.nn (Bk.keep (Bb (Bk.al (Bb (Bk.kg (Bb (Bk.al k2 _) i1) d0) t1) _) m1) v1 (fun h=>by have:=n1 _ h;omega)) _) q1;replace e0:=Bb (Bk.nn (Bk.keep (Bb (Bk.al (Bb (Bk.kg (Bb (Bk.al e0 _) i1) d0) t1) _) m1) v1 (fun h=>by have:=n1 _ h;omega)) _) q1;replace b0:=Bb (Bk.nn b0 _) q1;refine hK.out _ _ (Bk.ce b0 2) (fun hHeld=>?_);clear hK K;try simp only [Ep]
   refine Dn ?_;clear hHeld;obtain ⟨bB,cC,cB,dC,dB,eC⟩:=Bk.h3 e0;obtain ⟨eB,fC,fB,gC,gB,iC⟩:=Bk.h3 b0;obtain ⟨g0,q0,r0,s0⟩:=Bk.x3 e0 (.slice p1 n d1) (.slice p2 m d2) (.slice (some ⟨gs,0,none⟩) L.length d3);have t0:=Hi (MuS.end (b:=w.heap.size) (hM.keep g0 (fun gq h h2=>by have:=iM gq h;omega)) (by omega) h0.out.1 h0.out.2.1 h0.out.2.2);clear hM;have i0:=Hi g0;clear g0;have j0:=Hi (Ai hC hR);clear hC hR;go_wp2
   exact bodyPost_ret (v:=.agg #[.slice p1 n d1,.slice p2 m d2,.slice (some ⟨gs,0,none⟩) L.length d3]) (by simp [results,Tryz.results25,go_sem,q0,r0,s0]) rfl (by exact (by unfold TmP;obtain ⟨zz,uu,LL,hr,f0,p0⟩:=t0.out;exact ⟨_,_,_,zz,uu,_,LL,p+1+1,rfl,hr,f0,p0,j0.out.2.keep i0.out (fun h=>by omega) (fun k hk h=>by omega),by omega,chg_app j0.out.1 i0.out (fun q hq h=>by omega)⟩))
  have hq:decide ((0:Int) < (L.length:Int))=false:=decide_eq_false (by omega);have b3:¬(0:Int) < (L.length:Int):=by omega
  replace e0:=Bk.kg (Bb (Bk.al e0 _) i1) d0;obtain ⟨hB,jC,iB,k7,i5,l7⟩:=Bk.h3 e0;replace b0:=Bk.kg b0 d0;obtain ⟨j5,m7,k5,n7,l5,o7⟩:=Bk.h3 b0;obtain ⟨g0,q0,r0,s0⟩:=Bk.x3 e0 (.slice p1 n d1) (.slice p2 m d2) (.slice p3 L.length d3);have t0:=Hi (MuS.end (b:=w.heap.size) (hM.keep g0 (fun gq h h2=>by have:=iM gq h;omega)) (by omega) h0.out.1 h0.out.2.1 h0.out.2.2);clear hM;have i0:=Hi g0;clear g0;have j0:=Hi (Ai hC hR);clear hC hR;go_wp2
  exact bodyPost_ret (v:=.agg #[.slice p1 n d1,.slice p2 m d2,.slice p3 L.length d3]) (by simp [results,Tryz.results25,go_sem,q0,r0,s0]) rfl (by exact (by unfold TmP;obtain ⟨zz,uu,LL,hr,f0,p0⟩:=t0.out;exact ⟨_,_,_,zz,uu,_,LL,p+1,rfl,hr,f0,p0,j0.out.2.keep i0.out (fun h=>by omega) (fun k hk h=>by omega),by omega,chg_app j0.out.1 i0.out (fun q hq h=>by omega)⟩))
 have cA:(z == 2)=false:=by simp [hz2]
 by_cases hz3:z=3
 ·have dA:(z == 3)=true:=by simp [hz3]
  by_cases hn:0 < L.length
  ·have hq:(0:Int) < (L.length:Int):=by omega
   obtain ⟨gs,rfl⟩:=s3 (by omega);have ig:bs≤gs∧gs < hi:=(hM.t.sb _ rfl).1.1;obtain ⟨k1,z4,nC⟩:∃ k1:Nat,k1 < L.length∧IntKind.i64.wrap ((L.length:Int)-1)=(k1:Int):=⟨L.length-1,by omega,by have:=m9.out;rw [IntWalk.i64_in _ (by omega)];omega⟩;have lC:(k1:Int) < (L.length:Int):=by omega
   go_upto_region 15 with (fail)
   replace b0:=Bk.kg b0 d0;refine Rgh (S:=fun W'=>W'.cell? ⟨w1.heap.size,2,none⟩=some (.slice (some ⟨gs,0,none⟩) L.length d3)) (fun W d=>(Bk.kc b0 d 2)) (fun w4 v0 hHeld=>?_);replace hC:=(hC).trans (Cb v0);replace hR:=hR.below v0;replace hM:=hM.below v0;have b4:=v0.size;refine (tq 0 51 rfl rfl ?_ ?_ (tq 1 52 rfl rfl ?_ ?_ (tq 2 53 rfl rfl ?_ ?_ (tq 3 54 rfl rfl ?_ ?_ (tq 4 55 rfl rfl ?_ ?_ ?_)))));iterate 5 (rotate_left;intro W' hSw;(try dsimp only at hSw);go_simp;try with_reducible rfl)
   try simp only [Ep]
   refine Rdy 5 rfl (fun K hK=>?_);replace b0:=Bb b0 v0;obtain ⟨j3,m3⟩:=Bk.cf b0 2 rfl;go_simp
   generalize hnw:World.alloc _ _=w5;have k0:=nmh hnw;clear hnw
   replace hC:=((hC.trans (Cb (bal (Bs _) _)))).trans (Cb k0);replace hR:=(hR.below (bal (Bs _) _)).below k0;have f1:=Ob (World.ownsRow_lit (base:=(w4).heap.size) (e:=3) (size:=1) (w4) #[.int .i64 (-1),.int .i64 12,.int .i64 1,.int .i64 9223372036854775807] 4 Lr (by unfold maxLen;omega) (by simp)) k0;try simp only [Sa,Ss] at f1
   replace hM:=(hM.below (bal (Bs _) _)).below k0;have l2:=k0.size;simp only [Sa] at l2;clear m3 j3;have y2:=Bb (Bk.n4 (w4.heap.size)) k0;have f2:=f1.lt;try simp only [Sa] at f2
   have f5:=Bk.lz y2;replace b0:=Bb (Bk.al b0 _) k0;refine hK.out _ _ (Bk.ce b0 2) (fun hHeld=>?_);clear hK K;try simp only [Ep]
   refine Rdy 6 rfl (fun K hK=>?_);go_simp
   refine (num_any _ [-1,12,1,9223372036854775807] _ B g (p+1) hR (Ro f1 (by simp)) (fun b o c hb=>by simp at hb;omega) (by simp) (by simp) (by omega)).mono ?_;rintro e w6 ⟨y,ym,rfl,o1,w0⟩;replace hC:=(hC).trans w0;replace hR:=o1;clear o1;replace hM:=hM.keep w0 (fun gq h h2=>by have:=iM gq h;have:=n1 gq h2;omega);have c4:=w0.size;replace f1:=Ow f1 w0 (fun gq h h2=>by have:=f2 gq h;have:=n1 gq h2;omega);obtain ⟨⟨x0,v2⟩,r3⟩:(∃ u,w6.cell? ⟨gs,k1*11+1,none⟩=some u)∧w6.frozen? ⟨gs,k1*11+1,none⟩=false:=hM.atS k1 z4 1 (by decide);replace b0:=Bk.kg b0 w0;refine hK.out _ _ (Bk.ce b0 2) (fun hHeld=>?_);clear hK K;try simp only [Ep]
   refine (tq 7 58 rfl rfl ?_ ?_ (tq 8 59 rfl rfl ?_ ?_ ?_));iterate 2 (rotate_left;intro W' hSw;(try dsimp only at hSw);go_simp;try with_reducible rfl)
   try simp only [Ep]
   refine Rdy 9 rfl (fun K hK=>?_);go_simp
   generalize hnw:World.setCell _ _ _=w7;have m0:=nmh hnw;clear hnw
   replace hC:=((hC.sN _ _ _)).trans (Cb m0);replace hR:=(hR.kC _ _ _).below m0;replace hM:=(hM.putS k1 z4 1 (by decide) (y)).below m0;have m2:=m0.size;simp only [Ss] at m2;replace f1:=Ob (Oe f1 _ _ (fun h=>by have:=f2 _ h;omega) _) m0;replace k2:=Bb (Bk.nn (Bk.keep (Bb (Bk.al (Bb (Bk.kg (Bb (Bk.al k2 _) i1) d0) v0) _) k0) w0 (fun h=>by have:=n1 _ h;omega)) _) m0;replace e0:=Bb (Bk.nn (Bk.keep (Bb (Bk.al (Bb (Bk.kg (Bb (Bk.al e0 _) i1) d0) v0) _) k0) w0 (fun h=>by have:=n1 _ h;omega)) _) m0;replace b0:=Bb (Bk.nn b0 _) m0;refine hK.out _ _ (Bk.ce b0 2) (fun hHeld=>?_);clear hK K;try simp only [Ep]
   refine Dn ?_;clear hHeld;obtain ⟨m5,p7,o5,q7,p5,r7⟩:=Bk.h3 e0;obtain ⟨q5,s7,r5,t7,s5,v7⟩:=Bk.h3 b0;obtain ⟨g0,q0,r0,s0⟩:=Bk.x3 e0 (.slice p1 n d1) (.slice p2 m d2) (.slice (some ⟨gs,0,none⟩) L.length d3);have t0:=Hi (MuS.end (b:=w.heap.size) (hM.keep g0 (fun gq h h2=>by have:=iM gq h;omega)) (by omega) h0.out.1 h0.out.2.1 h0.out.2.2);clear hM;have i0:=Hi g0;clear g0;have j0:=Hi (Ai hC hR);clear hC hR;go_wp2
   exact bodyPost_ret (v:=.agg #[.slice p1 n d1,.slice p2 m d2,.slice (some ⟨gs,0,none⟩) L.length d3]) (by simp [results,Tryz.results25,go_sem,q0,r0,s0]) rfl (by exact (by unfold TmP;obtain ⟨zz,uu,LL,hr,f0,p0⟩:=t0.out;exact ⟨_,_,_,zz,uu,_,LL,p+1+1,rfl,hr,f0,p0,j0.out.2.keep i0.out (fun h=>by omega) (fun k hk h=>by omega),by omega,chg_app j0.out.1 i0.out (fun q hq h=>by omega)⟩))
  have hq:decide ((0:Int) < (L.length:Int))=false:=decide_eq_false (by omega);have b3:¬(0:Int) < (L.length:Int):=by omega
  replace e0:=Bk.kg (Bb (Bk.al e0 _) i1) d0;obtain ⟨t5,x7,v5,y7,x5,z7⟩:=Bk.h3 e0;replace b0:=Bk.kg b0 d0;obtain ⟨y5,a8,z5,b8,a6,c8⟩:=Bk.h3 b0;obtain ⟨g0,q0,r0,s0⟩:=Bk.x3 e0 (.slice p1 n d1) (.slice p2 m d2) (.slice p3 L.length d3);have t0:=Hi (MuS.end (b:=w.heap.size) (hM.keep g0 (fun gq h h2=>by have:=iM gq h;omega)) (by omega) h0.out.1 h0.out.2.1 h0.out.2.2);clear hM;have i0:=Hi g0;clear g0;have j0:=Hi (Ai hC hR);clear hC hR;go_wp2
  exact bodyPost_ret (v:=.agg #[.slice p1 n d1,.slice p2 m d2,.slice p3 L.length d3]) (by simp [results,Tryz.results25,go_sem,q0,r0,s0]) rfl (by exact (by unfold TmP;obtain ⟨zz,uu,LL,hr,f0,p0⟩:=t0.out;exact ⟨_,_,_,zz,uu,_,LL,p+1,rfl,hr,f0,p0,j0.out.2.keep i0.out (fun h=>by omega) (fun k hk h=>by omega),by omega,chg_app j0.out.1 i0.out (fun q hq h=>by omega)⟩))
 have dA:(z == 3)=false:=by simp [hz3]
 by_cases hz4:z=4
 ·have eA:(z == 4)=true:=by simp [hz4]
  by_cases hn:0 < L.length
  ·have hq:(0:Int) < (L.length:Int):=by omega
   obtain ⟨gs,rfl⟩:=s3 (by omega);have ig:bs≤gs∧gs < hi:=(hM.t.sb _ rfl).1.1;go_upto_region 18 with (fail)
   replace b0:=Bk.kg b0 d0;refine Rgh (S:=fun W'=>W'.cell? ⟨w1.heap.size,2,none⟩=some (.slice (some ⟨gs,0,none⟩) L.length d3)) (fun W d=>(Bk.kc b0 d 2)) (fun w4 y0 hHeld=>?_);replace hC:=(hC).trans (Cb y0);replace hR:=hR.below y0;replace hM:=hM.below y0;have d4:=y0.size;refine (tq 0 64 rfl rfl ?_ ?_ (tq 1 65 rfl rfl ?_ ?_ (tq 2 66 rfl rfl ?_ ?_ ?_)));iterate 3 (rotate_left;intro W' hSw;(try dsimp only at hSw);go_simp;try with_reducible rfl)
   try simp only [Ep]
   refine Rdy 3 rfl (fun K hK=>?_);replace b0:=Bb b0 y0;obtain ⟨k3,o3⟩:=Bk.cf b0 2 rfl;go_simp
   generalize hnw:World.alloc _ _=w5;have l0:=nmh hnw;clear hnw
   replace hC:=((hC.trans (Cb (bal (Bs _) _)))).trans (Cb l0);replace hR:=(hR.below (bal (Bs _) _)).below l0;have g1:=Ob (World.ownsRow_lit (base:=(w4).heap.size) (e:=3) (size:=1) (w4) #[.int .i64 (-1),.int .i64 256,.int .i64 12,.int .i64 1] 4 Lr (by unfold maxLen;omega) (by simp)) l0;try simp only [Sa,Ss] at g1
   replace hM:=(hM.below (bal (Bs _) _)).below l0;have n2:=l0.size;simp only [Sa] at n2;clear o3 k3;have z2:=Bb (Bk.n4 (w4.heap.size)) l0;have g2:=g1.lt;try simp only [Sa] at g2
   have g5:=Bk.lz z2;replace b0:=Bb (Bk.al b0 _) l0;refine hK.out _ _ (Bk.ce b0 2) (fun hHeld=>?_);clear hK K;try simp only [Ep]
   refine Rdy 4 rfl (fun K hK=>?_);go_simp
   refine (num_any _ [-1,256,12,1] _ B g (p+1) hR (Ro g1 (by simp)) (fun b o c hb=>by simp at hb;omega) (by simp) (by simp) (by omega)).mono ?_;rintro e w6 ⟨y,ym,rfl,o1,b1⟩;replace hC:=(hC).trans b1;replace hR:=o1;clear o1;replace hM:=hM.keep b1 (fun gq h h2=>by have:=iM gq h;have:=n1 gq h2;omega);have e4:=b1.size;replace g1:=Ow g1 b1 (fun gq h h2=>by have:=g2 gq h;have:=n1 gq h2;omega);obtain ⟨⟨x0,v2⟩,r3⟩:(∃ u,w6.cell? ⟨gs,6,none⟩=some u)∧w6.frozen? ⟨gs,6,none⟩=false:=hM.atS 0 hn 6 (by decide);replace b0:=Bk.kg b0 b1;refine hK.out _ _ (Bk.ce b0 2) (fun hHeld=>?_);clear hK K;try simp only [Ep]
   refine (tq 5 69 rfl rfl ?_ ?_ (tq 6 70 rfl rfl ?_ ?_ (tq 7 71 rfl rfl ?_ ?_ ?_)));iterate 3 (rotate_left;intro W' hSw;(try dsimp only at hSw);go_simp;try with_reducible rfl)
   try simp only [Ep]
   refine Rdy 8 rfl (fun K hK=>?_);go_simp
   generalize hnw:World.setCell _ _ _=w7;have n0:=nmh hnw;clear hnw
   replace hC:=((hC.sN _ _ _)).trans (Cb n0);replace hR:=(hR.kC _ _ _).below n0;replace hM:=(hM.putS 0 hn 6 (by decide) (y)).below n0;have o2:=n0.size;simp only [Ss] at o2;replace g1:=Ob (Oe g1 _ _ (fun h=>by have:=g2 _ h;omega) _) n0;replace k2:=Bb (Bk.nn (Bk.keep (Bb (Bk.al (Bb (Bk.kg (Bb (Bk.al k2 _) i1) d0) y0) _) l0) b1 (fun h=>by have:=n1 _ h;omega)) _) n0;replace e0:=Bb (Bk.nn (Bk.keep (Bb (Bk.al (Bb (Bk.kg (Bb (Bk.al e0 _) i1) d0) y0) _) l0) b1 (fun h=>by have:=n1 _ h;omega)) _) n0;replace b0:=Bb (Bk.nn b0 _) n0;refine hK.out _ _ (Bk.ce b0 2) (fun hHeld=>?_);clear hK K;try simp only [Ep]
   refine Dn ?_;clear hHeld;obtain ⟨b6,d8,c6,e8,d6,f8⟩:=Bk.h3 e0;obtain ⟨e6,g8,f6,h8,g6,i8⟩:=Bk.h3 b0;obtain ⟨g0,q0,r0,s0⟩:=Bk.x3 e0 (.slice p1 n d1) (.slice p2 m d2) (.slice (some ⟨gs,0,none⟩) L.length d3);have t0:=Hi (MuS.end (b:=w.heap.size) (hM.keep g0 (fun gq h h2=>by have:=iM gq h;omega)) (by omega) h0.out.1 h0.out.2.1 h0.out.2.2);clear hM;have i0:=Hi g0;clear g0;have j0:=Hi (Ai hC hR);clear hC hR;go_wp2
   exact bodyPost_ret (v:=.agg #[.slice p1 n d1,.slice p2 m d2,.slice (some ⟨gs,0,none⟩) L.length d3]) (by simp [results,Tryz.results25,go_sem,q0,r0,s0]) rfl (by exact (by unfold TmP;obtain ⟨zz,uu,LL,hr,f0,p0⟩:=t0.out;exact ⟨_,_,_,zz,uu,_,LL,p+1+1,rfl,hr,f0,p0,j0.out.2.keep i0.out (fun h=>by omega) (fun k hk h=>by omega),by omega,chg_app j0.out.1 i0.out (fun q hq h=>by omega)⟩))
  have hq:decide ((0:Int) < (L.length:Int))=false:=decide_eq_false (by omega);have b3:¬(0:Int) < (L.length:Int):=by omega
  replace e0:=Bk.kg (Bb (Bk.al e0 _) i1) d0;obtain ⟨h6,j8,i6,k8,j6,l8⟩:=Bk.h3 e0;replace b0:=Bk.kg b0 d0;obtain ⟨k6,m8,l6,n8,m6,o8⟩:=Bk.h3 b0;obtain ⟨g0,q0,r0,s0⟩:=Bk.x3 e0 (.slice p1 n d1) (.slice p2 m d2) (.slice p3 L.length d3);have t0:=Hi (MuS.end (b:=w.heap.size) (hM.keep g0 (fun gq h h2=>by have:=iM gq h;omega)) (by omega) h0.out.1 h0.out.2.1 h0.out.2.2);clear hM;have i0:=Hi g0;clear g0;have j0:=Hi (Ai hC hR);clear hC hR;go_wp2
  exact bodyPost_ret (v:=.agg #[.slice p1 n d1,.slice p2 m d2,.slice p3 L.length d3]) (by simp [results,Tryz.results25,go_sem,q0,r0,s0]) rfl (by exact (by unfold TmP;obtain ⟨zz,uu,LL,hr,f0,p0⟩:=t0.out;exact ⟨_,_,_,zz,uu,_,LL,p+1,rfl,hr,f0,p0,j0.out.2.keep i0.out (fun h=>by omega) (fun k hk h=>by omega),by omega,chg_app j0.out.1 i0.out (fun q hq h=>by omega)⟩))
 have eA:(z == 4)=false:=by simp [hz4]
 by_cases hz5:z=5
 ·have fA:(z == 5)=true:=by simp [hz5]
  by_cases hn:0 < L.length
  ·have hq:(0:Int) < (L.length:Int):=by omega
   obtain ⟨gs,rfl⟩:=s3 (by omega);have ig:bs≤gs∧gs < hi:=(hM.t.sb _ rfl).1.1;go_upto_region 21 with (fail)
   replace b0:=Bk.kg b0 d0;refine Rgh (S:=fun W'=>W'.cell? ⟨w1.heap.size,2,none⟩=some (.slice (some ⟨gs,0,none⟩) L.length d3)) (fun W d=>(Bk.kc b0 d 2)) (fun w4 j1 hHeld=>?_);replace hC:=(hC).trans (Cb j1);replace hR:=hR.below j1;replace hM:=hM.below j1;have f4:=j1.size;refine (tq 0 76 rfl rfl ?_ ?_ (tq 1 77 rfl rfl ?_ ?_ (tq 2 78 rfl rfl ?_ ?_ ?_)));iterate 3 (rotate_left;intro W' hSw;(try dsimp only at hSw);go_simp;try with_reducible rfl)
   try simp only [Ep]
   refine Rdy 3 rfl (fun K hK=>?_);replace b0:=Bb b0 j1;obtain ⟨l3,q3⟩:=Bk.cf b0 2 rfl;go_simp
   generalize hnw:World.alloc _ _=w5;have o0:=nmh hnw;clear hnw
   replace hC:=((hC.trans (Cb (bal (Bs _) _)))).trans (Cb o0);replace hR:=(hR.below (bal (Bs _) _)).below o0;have h1:=Ob (World.ownsRow_lit (base:=(w4).heap.size) (e:=3) (size:=1) (w4) #[.int .i64 1,.int .i64 4,.int .i64 (-1),.int .i64 2] 4 Lr (by unfold maxLen;omega) (by simp)) o0;try simp only [Sa,Ss] at h1
   replace hM:=(hM.below (bal (Bs _) _)).below o0;have q2:=o0.size;simp only [Sa] at q2;clear q3 l3;have a3:=Bb (Bk.n4 (w4.heap.size)) o0;have i2:=h1.lt;try simp only [Sa] at i2
   have h5:=Bk.lz a3;replace b0:=Bb (Bk.al b0 _) o0;refine hK.out _ _ (Bk.ce b0 2) (fun hHeld=>?_);clear hK K;try simp only [Ep]
   refine Rdy 4 rfl (fun K hK=>?_);go_simp
   refine (num_any _ [1,4,-1,2] _ B g (p+1) hR (Ro h1 (by simp)) (fun b o c hb=>by simp at hb;omega) (by simp) (by simp) (by omega)).mono ?_;rintro e w6 ⟨y,ym,rfl,o1,l1⟩;replace hC:=(hC).trans l1;replace hR:=o1;clear o1;replace hM:=hM.keep l1 (fun gq h h2=>by have:=iM gq h;have:=n1 gq h2;omega);have g4:=l1.size;replace h1:=Ow h1 l1 (fun gq h h2=>by have:=i2 gq h;have:=n1 gq h2;omega);obtain ⟨⟨x0,v2⟩,r3⟩:(∃ u,w6.cell? ⟨gs,8,none⟩=some u)∧w6.frozen? ⟨gs,8,none⟩=false:=hM.atS 0 hn 8 (by decide);replace b0:=Bk.kg b0 l1;refine hK.out _ _ (Bk.ce b0 2) (fun hHeld=>?_);clear hK K;try simp only [Ep]
   refine (tq 5 81 rfl rfl ?_ ?_ (tq 6 82 rfl rfl ?_ ?_ ?_));iterate 2 (rotate_left;intro W' hSw;(try dsimp only at hSw);go_simp;try with_reducible rfl)
   try simp only [Ep]
   refine Rdy 7 rfl (fun K hK=>?_);go_simp
   generalize hnw:World.setCell _ _ _=w7;have e1:=nmh hnw;clear hnw
   replace hC:=((hC.sN _ _ _)).trans (Cb e1);replace hR:=(hR.kC _ _ _).below e1;replace hM:=(hM.putS 0 hn 8 (by decide) (y)).below e1;have r2:=e1.size;simp only [Ss] at r2;replace h1:=Ob (Oe h1 _ _ (fun h=>by have:=i2 _ h;omega) _) e1;replace b0:=Bb (Bk.nn b0 _) e1;refine hK.out _ _ (Bk.ce b0 2) (fun hHeld=>?_);clear hK K;try simp only [Ep]
   refine Dn ?_;clear hHeld;replace e0:=Bb (Bk.nn (Bk.keep (Bb (Bk.al (Bb (Bk.kg (Bb (Bk.al e0 _) i1) d0) j1) _) o0) l1 (fun h=>by have:=n1 _ h;omega)) _) e1;obtain ⟨n6,p8,o6,q8,p6,r8⟩:=Bk.h3 e0;obtain ⟨q6,s8,r6,t8,s6,v8⟩:=Bk.h3 b0;obtain ⟨g0,q0,r0,s0⟩:=Bk.x3 e0 (.slice p1 n d1) (.slice p2 m d2) (.slice (some ⟨gs,0,none⟩) L.length d3);have t0:=Hi (MuS.end (b:=w.heap.size) (hM.keep g0 (fun gq h h2=>by have:=iM gq h;omega)) (by omega) h0.out.1 h0.out.2.1 h0.out.2.2);clear hM;have i0:=Hi g0;clear g0;have j0:=Hi (Ai hC hR);clear hC hR;go_wp2
   exact bodyPost_ret (v:=.agg #[.slice p1 n d1,.slice p2 m d2,.slice (some ⟨gs,0,none⟩) L.length d3]) (by simp [results,Tryz.results25,go_sem,q0,r0,s0]) rfl (by exact (by unfold TmP;obtain ⟨zz,uu,LL,hr,f0,p0⟩:=t0.out;exact ⟨_,_,_,zz,uu,_,LL,p+1+1,rfl,hr,f0,p0,j0.out.2.keep i0.out (fun h=>by omega) (fun k hk h=>by omega),by omega,chg_app j0.out.1 i0.out (fun q hq h=>by omega)⟩))
  have hq:decide ((0:Int) < (L.length:Int))=false:=decide_eq_false (by omega);have b3:¬(0:Int) < (L.length:Int):=by omega
  replace e0:=Bk.kg (Bb (Bk.al e0 _) i1) d0;obtain ⟨t6,w8,v6,x8,x6,y8⟩:=Bk.h3 e0;replace b0:=Bk.kg b0 d0;obtain ⟨y6,z8,z6,a9,a7,b9⟩:=Bk.h3 b0;obtain ⟨g0,q0,r0,s0⟩:=Bk.x3 e0 (.slice p1 n d1) (.slice p2 m d2) (.slice p3 L.length d3);have t0:=Hi (MuS.end (b:=w.heap.size) (hM.keep g0 (fun gq h h2=>by have:=iM gq h;omega)) (by omega) h0.out.1 h0.out.2.1 h0.out.2.2);clear hM;have i0:=Hi g0;clear g0;have j0:=Hi (Ai hC hR);clear hC hR;go_wp2
  exact bodyPost_ret (v:=.agg #[.slice p1 n d1,.slice p2 m d2,.slice p3 L.length d3]) (by simp [results,Tryz.results25,go_sem,q0,r0,s0]) rfl (by exact (by unfold TmP;obtain ⟨zz,uu,LL,hr,f0,p0⟩:=t0.out;exact ⟨_,_,_,zz,uu,_,LL,p+1,rfl,hr,f0,p0,j0.out.2.keep i0.out (fun h=>by omega) (fun k hk h=>by omega),by omega,chg_app j0.out.1 i0.out (fun q hq h=>by omega)⟩))
 have fA:(z == 5)=false:=by simp [hz5]
 by_cases hz6:z=6
 ·have gA:(z == 6)=true:=by simp [hz6]
  clear hM;replace e0:=Bk.kg (Bb (Bk.al e0 _) i1) d0;obtain ⟨b7,c9,c7,d9,d7,e9⟩:=Bk.h3 e0;obtain ⟨g0,q0,r0,s0⟩:=Bk.x3 e0 (.slice none 0 0) (.slice none 0 0) (.slice none 0 0);have i0:=Hi g0;clear g0;have j0:=Hi (Ai hC hR);clear hC hR;go_wp2
  exact bodyPost_ret (v:=.agg #[.slice none 0 0,.slice none 0 0,.slice none 0 0]) (by simp [results,Tryz.results25,go_sem,q0,r0,s0]) rfl (by exact (by unfold TmP;obtain ⟨hr,f0,p0⟩:=tm_nil _ w.heap.size;exact ⟨_,_,_,[],[],_,[],p+1,rfl,hr,f0,p0,j0.out.2.keep i0.out (fun h=>by omega) (fun k hk h=>by omega),by omega,chg_app j0.out.1 i0.out (fun q hq h=>by omega)⟩))
 have gA:(z == 6)=false:=by simp [hz6]
 replace e0:=Bk.kg (Bb (Bk.al e0 _) i1) d0;obtain ⟨e7,f9,f7,g9,g7,h9⟩:=Bk.h3 e0;replace b0:=Bk.kg b0 d0;obtain ⟨h7,i9,i7,j9,j7,k9⟩:=Bk.h3 b0;obtain ⟨g0,q0,r0,s0⟩:=Bk.x3 e0 (.slice p1 n d1) (.slice p2 m d2) (.slice p3 L.length d3);have t0:=Hi (MuS.end (b:=w.heap.size) (hM.keep g0 (fun gq h h2=>by have:=iM gq h;omega)) (by omega) h0.out.1 h0.out.2.1 h0.out.2.2);clear hM;have i0:=Hi g0;clear g0;have j0:=Hi (Ai hC hR);clear hC hR;go_wp2
 exact bodyPost_ret (v:=.agg #[.slice p1 n d1,.slice p2 m d2,.slice p3 L.length d3]) (by simp [results,Tryz.results25,go_sem,q0,r0,s0]) rfl (by exact (by unfold TmP;obtain ⟨zz,uu,LL,hr,f0,p0⟩:=t0.out;exact ⟨_,_,_,zz,uu,_,LL,p+1,rfl,hr,f0,p0,j0.out.2.keep i0.out (fun h=>by omega) (fun k hk h=>by omega),by omega,chg_app j0.out.1 i0.out (fun q hq h=>by omega)⟩))
end Go.Proofs.YtlckklglbodgbaaGreat
