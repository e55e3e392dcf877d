/-
 Parts of the proofs of the laws FnPairMemory,FnSplitMemory.
-/
import Derived.Test.YtlckklglbodgbaaGreatKH
set_option linter.all false
namespace Go.Proofs.YtlckklglbodgbaaGreat
open Go.RowKit
def CpP (D:Nat) (xs ys:List Int) (L:List St) (w:World) (r:Ending) (w':World):Prop:=∃ (pv pa a:Option Addr) (cv ca c:Nat) (rs:List Sn),r=.returned (.agg #[.slice pv xs.length cv,.slice pa ys.length ca,.slice a L.length c]) ∧
 w'.ownsRow w.heap.size 3 1 (.slice pv xs.length cv) xs.length (ints xs)∧w'.ownsRow w.heap.size 3 1 (.slice pa ys.length ca) ys.length (ints ys)∧(∀ q,(Value.slice pv xs.length cv).ownBlock=some q→(Value.slice pa ys.length ca).ownBlock=some q→False) ∧
 GrAt snc 11 75 (fun W A n x=>StAt W A D n x) (fun q=>w.heap.size≤q∧¬(Value.slice pv xs.length cv).ownBlock=some q∧¬(Value.slice pa ys.length ca).ownBlock=some q) w' w.heap.size (.slice a L.length c) rs L∧Below w.heap.size w w'
set_option maxHeartbeats 6400000 in
set_option maxRecDepth 100000 in
theorem l2Copy_any (xs ys:List Int) (A:Nat→Prop) (D:Nat) (va vb u:Value) (L:List St) (w:World) (hr:Reads w 1 va xs.length (ints xs)) (hs:Reads w 1 vb ys.length (ints ys)) (hx:BlAt w A D u L) (hn:stNs L≤1048576) (hn1:xs.length≤1048576) (hn2:ys.length≤1048576) :
  Calls Tryz.prog 50 #[.agg #[va,vb,u]] w fun r w'=>CpP D xs ys L w r w':=by
 obtain ⟨pv,cv,rfl⟩:=reads_shape hr;obtain ⟨pa,ca,rfl⟩:=reads_shape hs;obtain ⟨pu,cu,rfl⟩:=RowOf.shape hx;have z1:=Hi (fun W (hW:Below w.heap.size w W)=>Ai (hr.below hW) (hs.below hW));have HB:=Hi (fun W (hW:Below w.heap.size w W)=>l2CopyBlock_any A D _ L W (hx.below hW) hn);clear hr hs hx hn;go_enter Tryz.func50,Tryz.ntmps50
 go_upto_region 1 with (fail)
 generalize hnw:World.alloc _ _=w1;have hb:=nmh hnw;clear hnw
 have p2:=hb.size;simp only [Sa] at p2;have a0:=Bb (Bk.al (Bk.n3 (w.heap.size)) (.cells #[.slice none 0 0,.slice none 0 0,.slice none 0 0] 26)) hb;have c0:=Bb (Bk.n3 (w.heap.size+1)) hb;have b0:=btr (bal (bal (Bs w) (.cells #[.slice pv xs.length cv,.slice pa ys.length ca,.slice pu L.length cu] 26)) (.cells #[.slice none 0 0,.slice none 0 0,.slice none 0 0] 26)) hb;clear hb;have o5:=Bk.lz a0;have p5:=Bk.lz c0;refine Rgh (S:=fun W'=>W'.cell? ⟨w.heap.size,0,none⟩=some (.slice pv xs.length cv)∧W'.cell? ⟨w.heap.size,1,none⟩=some (.slice pa ys.length ca)∧W'.cell? ⟨w.heap.size,2,none⟩=some (.slice pu L.length cu)) (fun W d=>Bk.d3 a0 d) (fun w2 x1 hHeld=>?_);have s4:=x1.size;replace b0:=btr b0 x1;refine (tq 1 4 rfl rfl ?_ ?_ (tq 2 5 rfl rfl ?_ ?_ (tq 5 8 rfl rfl ?_ ?_ (tq 6 9 rfl rfl ?_ ?_ (tq 8 11 rfl rfl ?_ ?_ (tq 9 12 rfl rfl ?_ ?_ ?_))))));iterate 6 (rotate_left;intro W' hSw;(try dsimp only at hSw);go_simp;try with_reducible rfl)
 try simp only [Ep]
 refine Rdy2 0 4 rfl rfl (fun K hK=>?_) (fun K hK=>?_)
 ·replace a0:=Bb a0 x1;obtain ⟨a5,h5,t2,k3,u2,l3⟩:=Bk.h3 a0;go_simp
  generalize hnw:World.alloc _ _=w3;have c1:=nmh hnw;clear hnw
  have m0:=Ob (World.ownsRow_lit (base:=(w2).heap.size) (e:=3) (size:=1) (w2) #[] 0 Lr (by unfold maxLen;omega) (by simp)) c1;try simp only [Sa,Ss] at m0
  have b2:=c1.size;simp only [Sa] at b2;clear h5 a5 k3 t2 l3 u2;replace b0:=btr (bal b0 _) c1;have q2:=m0.lt;try simp only [Sa] at q2
  replace a0:=Bb (Bk.al a0 _) c1;refine hK.out _ _ (Bk.e3 a0) (fun hHeld=>?_);clear hK K;try simp only [Ep]
  refine Rdy2 3 4 rfl rfl (fun K hK=>?_) (fun K hK=>?_)
  ·refine step_aps tInts rfl _ _ rfl (w2.heap.size) _ 0 [] rfl m0 _ xs.length (ints xs) rfl ((z1.out _ b0).1) (one_ints xs) (by omega) (by omega) ?_;intro vA w4 e0 hc l0 _;try simp only [Nat.zero_add,List.nil_append] at e0
   obtain ⟨o0,u0,rfl⟩:=Oh e0
   have j1:∀ q,(Value.slice o0 xs.length u0).ownBlock=some q→q=w2.heap.size∨(w3.heap.size≤q∧q < w4.heap.size):=fun q hq=>by
    rcases newOr_blk l0 q hq with h | h
    ·have h9:w2.heap.size=q:=Si h;omega
    have:=(e0.lt q hq).2;omega
   have d0:∀ q,(Value.slice (some ⟨w2.heap.size,0,none⟩) 0 0).ownBlock=some q→q=w2.heap.size:=fun q h=>(Si h).symm
   have d4:=hc.size;replace a0:=Bk.keep a0 hc (fun h=>by have:=d0 _ h;omega);replace c0:=Bb (Bk.al (Bb c0 x1) _) c1;replace c0:=Bk.keep c0 hc (fun h=>by have:=d0 _ h;omega);replace b0:=b0.trans (hc.below w.heap.size (by have:=b0.size;omega) (fun gq hgq h=>by have:=d0 gq h;omega));clear hc;clear l0 d0 m0;refine hK.out _ _ (Bk.e3 a0) (fun hHeld=>?_);clear hK K;try simp only [Ep]
   refine Rdy 4 rfl (fun K hK=>?_);go_simp
   generalize hnw:World.alloc _ _=w5;have d1:=nmh hnw;clear hnw
   have s1:=Ob (World.ownsRow_lit (base:=(w4).heap.size) (e:=3) (size:=1) (w4) #[] 0 Lr (by unfold maxLen;omega) (by simp)) d1;try simp only [Sa,Ss] at s1
   have c2:=d1.size;simp only [Sa] at c2;replace e0:=Ob (Ob e0 (bal (Bs _) _)) d1;replace b0:=btr (bal b0 _) d1;have r2:=s1.lt;try simp only [Sa] at r2
   replace a0:=Bb (Bk.al a0 _) d1;refine hK.out _ _ (Bk.e3 a0) (fun hHeld=>?_);clear hK K;try simp only [Ep]
   refine Rdy 7 rfl (fun K hK=>?_);refine step_aps tInts rfl _ _ rfl (w4.heap.size) _ 0 [] rfl s1 _ ys.length (ints ys) rfl ((z1.out _ b0).2) (one_ints ys) (by omega) (by omega) ?_;intro vA w6 i0 hc l0 _;try simp only [Nat.zero_add,List.nil_append] at i0
   obtain ⟨p0,v0,rfl⟩:=Oh i0
   have p1:∀ q,(Value.slice p0 ys.length v0).ownBlock=some q→q=w4.heap.size∨(w5.heap.size≤q∧q < w6.heap.size):=fun q hq=>by
    rcases newOr_blk l0 q hq with h | h
    ·have h9:w4.heap.size=q:=Si h;omega
    have:=(i0.lt q hq).2;omega
   have d0:∀ q,(Value.slice (some ⟨w4.heap.size,0,none⟩) 0 0).ownBlock=some q→q=w4.heap.size:=fun q h=>(Si h).symm
   have e4:=hc.size;replace e0:=Ow e0 hc (fun gq h h2=>by have:=j1 gq h;have:=d0 gq h2;omega);replace a0:=Bk.keep a0 hc (fun h=>by have:=d0 _ h;omega);replace c0:=Bb (Bk.al c0 _) d1;replace c0:=Bk.keep c0 hc (fun h=>by have:=d0 _ h;omega);replace b0:=b0.trans (hc.below w.heap.size (by have:=b0.size;omega) (fun gq hgq h=>by have:=d0 gq h;omega));clear hc;clear l0 d0 s1;refine hK.out _ _ (Bk.e3 a0) (fun hHeld=>?_);clear hK K;try simp only [Ep]
   refine Rdy 10 rfl (fun K hK=>?_);go_simp
   refine (HB.out _ b0).mono ?_;rintro e w7 ⟨ga,gc,c4,rfl,hG,e1⟩;have f4:=e1.size;replace e0:=Ob e0 e1;replace i0:=Ob i0 e1;replace b0:=btr b0 e1;replace hG:=hG.mono (P':=fun q=>w6.heap.size≤q∧q < w7.heap.size) (kpS D) (fun q h hl=>⟨h,hl⟩);have iG:=hG.own.lt;replace a0:=Bb a0 e1;refine hK.out _ _ (Bk.e3 a0) (fun hHeld=>?_);clear hK K;try simp only [Ep]
   refine (tq 11 14 rfl rfl (.agg #[.slice o0 xs.length u0,.slice p0 ys.length v0,.slice ga L.length gc]) (fun W' _=>by kernel_rfl) ?_);try simp only [Ep]
   refine Rdy 12 rfl (fun K hK=>?_);replace c0:=Bb c0 e1;obtain ⟨v2,m3,x2,o3,y2,p3⟩:=Bk.h3 c0;go_simp
   generalize hnw:World.setCell _ _ _=w8;have a1:=nmh hnw;clear hnw
   have u1:=(((hG.keep (kpS D) (C1 (w.heap.size+1) 0 (.slice o0 xs.length u0)) (fun q hq (h:q=(w.heap.size+1))=>by have:=iG q hq;omega) (fun q hq _ (h:q=(w.heap.size+1))=>by omega)).keep (kpS D) (C1 (w.heap.size+1) 1 (.slice p0 ys.length v0)) (fun q hq (h:q=(w.heap.size+1))=>by have:=iG q hq;omega) (fun q hq _ (h:q=(w.heap.size+1))=>by omega)).keep (kpS D) (C1 (w.heap.size+1) 2 (.slice ga L.length gc)) (fun q hq (h:q=(w.heap.size+1))=>by have:=iG q hq;omega) (fun q hq _ (h:q=(w.heap.size+1))=>by omega)).below (kpS D) a1;have d2:=a1.size;simp only [Ss] at d2;clear m3 v2 o3 x2 p3 y2;replace e0:=Ob (Oe (Oe (Oe e0 _ _ (fun h=>by have:=j1 _ h;omega) _) _ _ (fun h=>by have:=j1 _ h;omega) _) _ _ (fun h=>by have:=j1 _ h;omega) _) a1;replace i0:=Ob (Oe (Oe (Oe i0 _ _ (fun h=>by have:=p1 _ h;omega) _) _ _ (fun h=>by have:=p1 _ h;omega) _) _ _ (fun h=>by have:=p1 _ h;omega) _) a1;replace b0:=btr (bst (bst (bst b0 (w.heap.size+1) 0 (by omega) (.slice o0 xs.length u0)) (w.heap.size+1) 1 (by omega) (.slice p0 ys.length v0)) (w.heap.size+1) 2 (by omega) (.slice ga L.length gc)) a1;clear hG;have hG:=u1;clear u1;replace a0:=Bb (Bk.nn (Bk.nn (Bk.nn a0 _) _) _) a1;refine hK.out _ _ (Bk.e3 a0) (fun hHeld=>?_);clear hK K;try simp only [Ep]
   refine Dn ?_;clear hHeld;have v1:∀ q,(Value.slice o0 xs.length u0).ownBlock=some q→(Value.slice p0 ys.length v0).ownBlock=some q→False:=fun q h h2=>by have:=j1 q h;have:=p1 q h2;omega
   have a2:=Hi ((GrAt.base (b':=w.heap.size) hG (by omega)).mono (P':=fun q=>w.heap.size≤q∧¬(Value.slice o0 xs.length u0).ownBlock=some q∧¬(Value.slice p0 ys.length v0).ownBlock=some q) (kpS D) (fun q h _=>⟨by omega,fun h2=>by have:=j1 q h2;omega,fun h2=>by have:=p1 q h2;omega⟩));have n1:=Hi (Ai (Om (base':=w.heap.size) e0 (by omega)) (Ai (Om (base':=w.heap.size) i0 (by omega)) v1));clear hG e0 i0 v1;replace c0:=Bb (Bk.t3 c0 (.slice o0 xs.length u0) (.slice p0 ys.length v0) (.slice ga L.length gc)) a1;obtain ⟨t4,b5,u4,c5,v4,d5⟩:=Bk.h3 c0;obtain ⟨i5,j5,k5⟩:=Bk.g3 c0;have tt:=b0;go_wp2
   exact bodyPost_ret (v:=.agg #[.slice o0 xs.length u0,.slice p0 ys.length v0,.slice ga L.length gc]) (by simp [results,Tryz.results50,go_sem,i5,j5,k5]) rfl (by exact (by unfold CpP;exact ⟨_,_,_,_,_,_,_,rfl,n1.out.1,n1.out.2.1,n1.out.2.2,a2.out,tt⟩))
  go_simp
  generalize hnw:World.alloc _ _=w4;have f1:=nmh hnw;clear hnw
  have m1:=Ob (World.ownsRow_lit (base:=(w3).heap.size) (e:=3) (size:=1) (w3) #[] 0 Lr (by unfold maxLen;omega) (by simp)) f1;try simp only [Sa,Ss] at m1
  have e2:=f1.size;simp only [Sa] at e2;replace m0:=Ob (Ob m0 (bal (Bs _) _)) f1;replace b0:=btr (bal b0 _) f1;have j2:=m1.lt;try simp only [Sa] at j2
  replace a0:=Bb (Bk.al a0 _) f1;refine hK.out _ _ (Bk.e3 a0) (fun hHeld=>?_);clear hK K;try simp only [Ep]
  refine Rdy 3 rfl (fun K hK=>?_);refine step_aps tInts rfl _ _ rfl (w2.heap.size) _ 0 [] rfl m0 _ xs.length (ints xs) rfl ((z1.out _ b0).1) (one_ints xs) (by omega) (by omega) ?_;intro vA w5 g0 hc l0 _;try simp only [Nat.zero_add,List.nil_append] at g0
  obtain ⟨q0,w0,rfl⟩:=Oh g0
  have k1:∀ q,(Value.slice q0 xs.length w0).ownBlock=some q→q=w2.heap.size∨(w4.heap.size≤q∧q < w5.heap.size):=fun q hq=>by
   rcases newOr_blk l0 q hq with h | h
   ·have h9:w2.heap.size=q:=Si h;omega
   have:=(g0.lt q hq).2;omega
  have d0:∀ q,(Value.slice (some ⟨w2.heap.size,0,none⟩) 0 0).ownBlock=some q→q=w2.heap.size:=fun q h=>(Si h).symm
  have g4:=hc.size;replace m1:=Ow m1 hc (fun gq h h2=>by have:=j2 gq h;have:=d0 gq h2;omega);replace a0:=Bk.keep a0 hc (fun h=>by have:=d0 _ h;omega);replace c0:=Bb (Bk.al (Bb (Bk.al (Bb c0 x1) _) c1) _) f1;replace c0:=Bk.keep c0 hc (fun h=>by have:=d0 _ h;omega);replace b0:=b0.trans (hc.below w.heap.size (by have:=b0.size;omega) (fun gq hgq h=>by have:=d0 gq h;omega));clear hc;clear l0 d0 m0;refine hK.out _ _ (Bk.e3 a0) (fun hHeld=>?_);clear hK K;try simp only [Ep]
  refine Rdy 7 rfl (fun K hK=>?_);refine step_aps tInts rfl _ _ rfl (w3.heap.size) _ 0 [] rfl m1 _ ys.length (ints ys) rfl ((z1.out _ b0).2) (one_ints ys) (by omega) (by omega) ?_;intro vA w6 j0 hc l0 _;try simp only [Nat.zero_add,List.nil_append] at j0
  obtain ⟨r0,x0,rfl⟩:=Oh j0
  have q1:∀ q,(Value.slice r0 ys.length x0).ownBlock=some q→q=w3.heap.size∨(w5.heap.size≤q∧q < w6.heap.size):=fun q hq=>by
   rcases newOr_blk l0 q hq with h | h
   ·have h9:w3.heap.size=q:=Si h;omega
   have:=(j0.lt q hq).2;omega
  have d0:∀ q,(Value.slice (some ⟨w3.heap.size,0,none⟩) 0 0).ownBlock=some q→q=w3.heap.size:=fun q h=>(Si h).symm
  have h4:=hc.size;replace g0:=Ow g0 hc (fun gq h h2=>by have:=k1 gq h;have:=d0 gq h2;omega);replace a0:=Bk.keep a0 hc (fun h=>by have:=d0 _ h;omega);replace c0:=Bk.keep c0 hc (fun h=>by have:=d0 _ h;omega);replace b0:=b0.trans (hc.below w.heap.size (by have:=b0.size;omega) (fun gq hgq h=>by have:=d0 gq h;omega));clear hc;clear l0 d0 m1;refine hK.out _ _ (Bk.e3 a0) (fun hHeld=>?_);clear hK K;try simp only [Ep]
  refine Rdy 10 rfl (fun K hK=>?_);go_simp
  refine (HB.out _ b0).mono ?_;rintro e w7 ⟨ga,gc,c4,rfl,hG,g1⟩;have i4:=g1.size;replace g0:=Ob g0 g1;replace j0:=Ob j0 g1;replace b0:=btr b0 g1;replace hG:=hG.mono (P':=fun q=>w6.heap.size≤q∧q < w7.heap.size) (kpS D) (fun q h hl=>⟨h,hl⟩);have iG:=hG.own.lt;replace a0:=Bb a0 g1;refine hK.out _ _ (Bk.e3 a0) (fun hHeld=>?_);clear hK K;try simp only [Ep]
  refine (tq 11 14 rfl rfl (.agg #[.slice q0 xs.length w0,.slice r0 ys.length x0,.slice ga L.length gc]) (fun W' _=>by kernel_rfl) ?_);try simp only [Ep]
  refine Rdy 12 rfl (fun K hK=>?_);replace c0:=Bb c0 g1;obtain ⟨z2,q3,a3,r3,b3,s3⟩:=Bk.h3 c0;go_simp
  generalize hnw:World.setCell _ _ _=w8;have b1:=nmh hnw;clear hnw
  have u1:=(((hG.keep (kpS D) (C1 (w.heap.size+1) 0 (.slice q0 xs.length w0)) (fun q hq (h:q=(w.heap.size+1))=>by have:=iG q hq;omega) (fun q hq _ (h:q=(w.heap.size+1))=>by omega)).keep (kpS D) (C1 (w.heap.size+1) 1 (.slice r0 ys.length x0)) (fun q hq (h:q=(w.heap.size+1))=>by have:=iG q hq;omega) (fun q hq _ (h:q=(w.heap.size+1))=>by omega)).keep (kpS D) (C1 (w.heap.size+1) 2 (.slice ga L.length gc)) (fun q hq (h:q=(w.heap.size+1))=>by have:=iG q hq;omega) (fun q hq _ (h:q=(w.heap.size+1))=>by omega)).below (kpS D) b1;have f2:=b1.size;simp only [Ss] at f2;clear q3 z2 r3 a3 s3 b3;replace g0:=Ob (Oe (Oe (Oe g0 _ _ (fun h=>by have:=k1 _ h;omega) _) _ _ (fun h=>by have:=k1 _ h;omega) _) _ _ (fun h=>by have:=k1 _ h;omega) _) b1;replace j0:=Ob (Oe (Oe (Oe j0 _ _ (fun h=>by have:=q1 _ h;omega) _) _ _ (fun h=>by have:=q1 _ h;omega) _) _ _ (fun h=>by have:=q1 _ h;omega) _) b1;replace b0:=btr (bst (bst (bst b0 (w.heap.size+1) 0 (by omega) (.slice q0 xs.length w0)) (w.heap.size+1) 1 (by omega) (.slice r0 ys.length x0)) (w.heap.size+1) 2 (by omega) (.slice ga L.length gc)) b1;clear hG;have hG:=u1;clear u1;replace a0:=Bb (Bk.nn (Bk.nn (Bk.nn a0 _) _) _) b1;refine hK.out _ _ (Bk.e3 a0) (fun hHeld=>?_);clear hK K;try simp only [Ep]
  refine Dn ?_;clear hHeld;have v1:∀ q,(Value.slice q0 xs.length w0).ownBlock=some q→(Value.slice r0 ys.length x0).ownBlock=some q→False:=fun q h h2=>by have:=k1 q h;have:=q1 q h2;omega
  have a2:=Hi ((GrAt.base (b':=w.heap.size) hG (by omega)).mono (P':=fun q=>w.heap.size≤q∧¬(Value.slice q0 xs.length w0).ownBlock=some q∧¬(Value.slice r0 ys.length x0).ownBlock=some q) (kpS D) (fun q h _=>⟨by omega,fun h2=>by have:=k1 q h2;omega,fun h2=>by have:=q1 q h2;omega⟩));have n1:=Hi (Ai (Om (base':=w.heap.size) g0 (by omega)) (Ai (Om (base':=w.heap.size) j0 (by omega)) v1));clear hG g0 j0 v1;replace c0:=Bb (Bk.t3 c0 (.slice q0 xs.length w0) (.slice r0 ys.length x0) (.slice ga L.length gc)) b1;obtain ⟨x4,e5,y4,f5,z4,g5⟩:=Bk.h3 c0;obtain ⟨l5,m5,n5⟩:=Bk.g3 c0;have tt:=b0;go_wp2
  exact bodyPost_ret (v:=.agg #[.slice q0 xs.length w0,.slice r0 ys.length x0,.slice ga L.length gc]) (by simp [results,Tryz.results50,go_sem,l5,m5,n5]) rfl (by exact (by unfold CpP;exact ⟨_,_,_,_,_,_,_,rfl,n1.out.1,n1.out.2.1,n1.out.2.2,a2.out,tt⟩))
 replace a0:=Bb a0 x1;obtain ⟨c3,u3,f3,v3,i3,x3⟩:=Bk.h3 a0;go_simp
 generalize hnw:World.alloc _ _=w3;have o1:=nmh hnw;clear hnw
 have n0:=Ob (World.ownsRow_lit (base:=(w2).heap.size) (e:=3) (size:=1) (w2) #[] 0 Lr (by unfold maxLen;omega) (by simp)) o1;try simp only [Sa,Ss] at n0
 have g2:=o1.size;simp only [Sa] at g2;clear u3 c3 v3 f3 x3 i3;replace b0:=btr (bal b0 _) o1;have k2:=n0.lt;try simp only [Sa] at k2
 replace a0:=Bb (Bk.al a0 _) o1;refine hK.out _ _ (Bk.e3 a0) (fun hHeld=>?_);clear hK K;try simp only [Ep]
 refine Rdy 0 rfl (fun K hK=>?_);go_simp
 generalize hnw:World.alloc _ _=w4;have h1:=nmh hnw;clear hnw
 have t1:=Ob (World.ownsRow_lit (base:=(w3).heap.size) (e:=3) (size:=1) (w3) #[] 0 Lr (by unfold maxLen;omega) (by simp)) h1;try simp only [Sa,Ss] at t1
 have i2:=h1.size;simp only [Sa] at i2;replace n0:=Ob (Ob n0 (bal (Bs _) _)) h1;replace b0:=btr (bal b0 _) h1;have s2:=t1.lt;try simp only [Sa] at s2
 replace a0:=Bb (Bk.al a0 _) h1;refine hK.out _ _ (Bk.e3 a0) (fun hHeld=>?_);clear hK K;try simp only [Ep]
 refine Rdy 3 rfl (fun K hK=>?_);refine step_aps tInts rfl _ _ rfl (w3.heap.size) _ 0 [] rfl t1 _ xs.length (ints xs) rfl ((z1.out _ b0).1) (one_ints xs) (by omega) (by omega) ?_;intro vA w5 h0 hc l0 _;try simp only [Nat.zero_add,List.nil_append] at h0
 obtain ⟨s0,y0,rfl⟩:=Oh h0
 have l1:∀ q,(Value.slice s0 xs.length y0).ownBlock=some q→q=w3.heap.size∨(w4.heap.size≤q∧q < w5.heap.size):=fun q hq=>by
  rcases newOr_blk l0 q hq with h | h
  ·have h9:w3.heap.size=q:=Si h;omega
  have:=(h0.lt q hq).2;omega
 have d0:∀ q,(Value.slice (some ⟨w3.heap.size,0,none⟩) 0 0).ownBlock=some q→q=w3.heap.size:=fun q h=>(Si h).symm
 have j4:=hc.size;replace n0:=Ow n0 hc (fun gq h h2=>by have:=k2 gq h;have:=d0 gq h2;omega);replace a0:=Bk.keep a0 hc (fun h=>by have:=d0 _ h;omega);replace c0:=Bb (Bk.al (Bb (Bk.al (Bb c0 x1) _) o1) _) h1;replace c0:=Bk.keep c0 hc (fun h=>by have:=d0 _ h;omega);replace b0:=b0.trans (hc.below w.heap.size (by have:=b0.size;omega) (fun gq hgq h=>by have:=d0 gq h;omega));clear hc;clear l0 d0 t1;refine hK.out _ _ (Bk.e3 a0) (fun hHeld=>?_);clear hK K;try simp only [Ep]
 refine Rdy 7 rfl (fun K hK=>?_);refine step_aps tInts rfl _ _ rfl (w2.heap.size) _ 0 [] rfl n0 _ ys.length (ints ys) rfl ((z1.out _ b0).2) (one_ints ys) (by omega) (by omega) ?_;intro vA w6 k0 hc l0 _;try simp only [Nat.zero_add,List.nil_append] at k0
 obtain ⟨t0,z0,rfl⟩:=Oh k0
 have r1:∀ q,(Value.slice t0 ys.length z0).ownBlock=some q→q=w2.heap.size∨(w5.heap.size≤q∧q < w6.heap.size):=fun q hq=>by
  rcases newOr_blk l0 q hq with h | h
  ·have h9:w2.heap.size=q:=Si h;omega
  have:=(k0.lt q hq).2;omega
 have d0:∀ q,(Value.slice (some ⟨w2.heap.size,0,none⟩) 0 0).ownBlock=some q→q=w2.heap.size:=fun q h=>(Si h).symm
 have k4:=hc.size;replace h0:=Ow h0 hc (fun gq h h2=>by have:=l1 gq h;have:=d0 gq h2;omega);replace a0:=Bk.keep a0 hc (fun h=>by have:=d0 _ h;omega);replace c0:=Bk.keep c0 hc (fun h=>by have:=d0 _ h;omega);replace b0:=b0.trans (hc.below w.heap.size (by have:=b0.size;omega) (fun gq hgq h=>by have:=d0 gq h;omega));clear hc;clear l0 d0 n0;refine hK.out _ _ (Bk.e3 a0) (fun hHeld=>?_);clear hK K;try simp only [Ep]
 refine Rdy 10 rfl (fun K hK=>?_);go_simp
 refine (HB.out _ b0).mono ?_;rintro e w7 ⟨ga,gc,c4,rfl,hG,i1⟩;have l4:=i1.size;replace h0:=Ob h0 i1;replace k0:=Ob k0 i1;replace b0:=btr b0 i1;replace hG:=hG.mono (P':=fun q=>w6.heap.size≤q∧q < w7.heap.size) (kpS D) (fun q h hl=>⟨h,hl⟩);have iG:=hG.own.lt;replace a0:=Bb a0 i1;refine hK.out _ _ (Bk.e3 a0) (fun hHeld=>?_);clear hK K;try simp only [Ep]
 refine (tq 11 14 rfl rfl (.agg #[.slice s0 xs.length y0,.slice t0 ys.length z0,.slice ga L.length gc]) (fun W' _=>by kernel_rfl) ?_);try simp only [Ep]
 refine Rdy 12 rfl (fun K hK=>?_);replace c0:=Bb c0 i1;obtain ⟨j3,y3,l2,n2,m2,o2⟩:=Bk.h3 c0;go_simp
 generalize hnw:World.setCell _ _ _=w8;have f0:=nmh hnw;clear hnw
 have u1:=(((hG.keep (kpS D) (C1 (w.heap.size+1) 0 (.slice s0 xs.length y0)) (fun q hq (h:q=(w.heap.size+1))=>by have:=iG q hq;omega) (fun q hq _ (h:q=(w.heap.size+1))=>by omega)).keep (kpS D) (C1 (w.heap.size+1) 1 (.slice t0 ys.length z0)) (fun q hq (h:q=(w.heap.size+1))=>by have:=iG q hq;omega) (fun q hq _ (h:q=(w.heap.size+1))=>by omega)).keep (kpS D) (C1 (w.heap.size+1) 2 (.slice ga L.length gc)) (fun q hq (h:q=(w.heap.size+1))=>by have:=iG q hq;omega) (fun q hq _ (h:q=(w.heap.size+1))=>by omega)).below (kpS D) f0;have y1:=f0.size;simp only [Ss] at y1;clear y3 j3 n2 l2 o2 m2;replace h0:=Ob (Oe (Oe (Oe h0 _ _ (fun h=>by have:=l1 _ h;omega) _) _ _ (fun h=>by have:=l1 _ h;omega) _) _ _ (fun h=>by have:=l1 _ h;omega) _) f0;replace k0:=Ob (Oe (Oe (Oe k0 _ _ (fun h=>by have:=r1 _ h;omega) _) _ _ (fun h=>by have:=r1 _ h;omega) _) _ _ (fun h=>by have:=r1 _ h;omega) _) f0;replace b0:=btr (bst (bst (bst b0 (w.heap.size+1) 0 (by omega) (.slice s0 xs.length y0)) (w.heap.size+1) 1 (by omega) (.slice t0 ys.length z0)) (w.heap.size+1) 2 (by omega) (.slice ga L.length gc)) f0;clear hG;have hG:=u1;clear u1;replace a0:=Bb (Bk.nn (Bk.nn (Bk.nn a0 _) _) _) f0;refine hK.out _ _ (Bk.e3 a0) (fun hHeld=>?_);clear hK K;try simp only [Ep]
 refine Dn ?_;clear hHeld;have v1:∀ q,(Value.slice s0 xs.length y0).ownBlock=some q→(Value.slice t0 ys.length z0).ownBlock=some q→False:=fun q h h2=>by have:=l1 q h;have:=r1 q h2;omega
 have a2:=Hi ((GrAt.base (b':=w.heap.size) hG (by omega)).mono (P':=fun q=>w.heap.size≤q∧¬(Value.slice s0 xs.length y0).ownBlock=some q∧¬(Value.slice t0 ys.length z0).ownBlock=some q) (kpS D) (fun q h _=>⟨by omega,fun h2=>by have:=l1 q h2;omega,fun h2=>by have:=r1 q h2;omega⟩));have n1:=Hi (Ai (Om (base':=w.heap.size) h0 (by omega)) (Ai (Om (base':=w.heap.size) k0 (by omega)) v1));clear hG h0 k0 v1;replace c0:=Bb (Bk.t3 c0 (.slice s0 xs.length y0) (.slice t0 ys.length z0) (.slice ga L.length gc)) f0;obtain ⟨m4,p4,n4,q4,o4,r4⟩:=Bk.h3 c0;obtain ⟨z3,a4,b4⟩:=Bk.g3 c0;have tt:=b0;go_wp2
 exact bodyPost_ret (v:=.agg #[.slice s0 xs.length y0,.slice t0 ys.length z0,.slice ga L.length gc]) (by simp [results,Tryz.results50,go_sem,z3,a4,b4]) rfl (by exact (by unfold CpP;exact ⟨_,_,_,_,_,_,_,rfl,n1.out.1,n1.out.2.1,n1.out.2.2,a2.out,tt⟩))
end Go.Proofs.YtlckklglbodgbaaGreat
