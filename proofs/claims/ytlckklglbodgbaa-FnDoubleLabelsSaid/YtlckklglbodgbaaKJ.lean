/-
 Parts of the proofs of the laws FnDoubleLabels.
-/
import Derived.Test.YtlckklglbodgbaaKI
set_option linter.all false
namespace Go.Proofs.Ytlckklglbodgbaa
open Go.RowKit
def CpP (D:Nat) (xs ys:List Int) (L:List St) (w:World) (r:Ending) (w':World):Prop:=∃ (pv pa a:Option Addr) (cv ca c:Nat) (rs:List Sn),r=.returned (.agg #[.slice pv xs.length cv,.slice pa ys.length ca,.slice a L.length c]) ∧
 w'.ownsRow w.heap.size 3 1 (.slice pv xs.length cv) xs.length (ints xs)∧w'.ownsRow w.heap.size 3 1 (.slice pa ys.length ca) ys.length (ints ys)∧(∀ q,(Value.slice pv xs.length cv).ownBlock=some q→(Value.slice pa ys.length ca).ownBlock=some q→False) ∧
 GrAt snc 11 51 (fun W A n x=>StAt W A D n x) (fun q=>w.heap.size≤q∧¬(Value.slice pv xs.length cv).ownBlock=some q∧¬(Value.slice pa ys.length ca).ownBlock=some q) w' w.heap.size (.slice a L.length c) rs L∧Below w.heap.size w w'
set_option maxHeartbeats 6400000 in
set_option maxRecDepth 100000 in
theorem l2Copy_any (xs ys:List Int) (A:Nat→Prop) (D:Nat) (va vb u:Value) (L:List St) (w:World) (hr:Reads w 1 va xs.length (ints xs)) (hs:Reads w 1 vb ys.length (ints ys)) (hx:BlAt w A D u L) (hn:stNs L≤1048576) (hn1:xs.length≤1048576) (hn2:ys.length≤1048576) :
  Calls Try.prog 69 #[.agg #[va,vb,u]] w fun r w'=>CpP D xs ys L w r w':=by
 obtain ⟨pv,cv,rfl⟩:=reads_shape hr;obtain ⟨pa,ca,rfl⟩:=reads_shape hs;obtain ⟨pu,cu,rfl⟩:=RowOf.shape hx;have l1:=Hi (fun W (hW:Below w.heap.size w W)=>Ai (hr.below hW) (hs.below hW));have HB:=Hi (fun W (hW:Below w.heap.size w W)=>l2CopyBlock_any A D _ L W (hx.below hW) hn);clear hr hs hx hn;go_enter Try.func69,Try.ntmps69
 go_upto_region 1 with (fail)
 generalize hnw:World.alloc _ _=w1;have hb:=nmh hnw;clear hnw
 have a2:=hb.size;simp only [Sa] at a2;have a0:Bk w1 (w.heap.size) [.slice pv xs.length cv,.slice pa ys.length ca,.slice pu L.length cu]:=Bb (Bk.al (Bk.nw (by simp) rfl) (.cells #[.slice none 0 0,.slice none 0 0,.slice none 0 0] 26)) hb;have c0:Bk w1 (w.heap.size+1) [.slice none 0 0,.slice none 0 0,.slice none 0 0]:=Bb (Bk.nw (by simp) rfl) hb;have b0:=btr (bal (bal (Bs w) (.cells #[.slice pv xs.length cv,.slice pa ys.length ca,.slice pu L.length cu] 26)) (.cells #[.slice none 0 0,.slice none 0 0,.slice none 0 0] 26)) hb;clear hb;have y1:=Bk.lz a0;have z1:=Bk.lz c0;refine Rgh (S:=fun W'=>W'.cell? ⟨w.heap.size,0,none⟩=some (.slice pv xs.length cv)∧W'.cell? ⟨w.heap.size,1,none⟩=some (.slice pa ys.length ca)∧W'.cell? ⟨w.heap.size,2,none⟩=some (.slice pu L.length cu)) (fun W d=>⟨Bk.kc a0 d 0,Bk.kc a0 d 1,Bk.kc a0 d 2⟩) (fun w2 hb hHeld=>?_);have f4:=hb.size;replace a0:=Bb a0 hb;replace c0:=Bb c0 hb;replace b0:=btr b0 hb;clear hb;replace y1:=Bk.lz a0;replace z1:=Bk.lz c0;refine (tq 1 4 rfl rfl ?_ ?_ (tq 2 5 rfl rfl ?_ ?_ (tq 5 8 rfl rfl ?_ ?_ (tq 6 9 rfl rfl ?_ ?_ (tq 8 11 rfl rfl ?_ ?_ (tq 9 12 rfl rfl ?_ ?_ ?_))))));iterate 6 (rotate_left;intro W' hSw;(try dsimp only at hSw);go_simp;try with_reducible rfl)
 try simp only [Ep]
 refine Rdy2 0 4 rfl rfl (fun K hK=>?_) (fun K hK=>?_)
 ·obtain ⟨g4,o4,h4,c3,e2,d3⟩:=Bk.f3 a0 0 1 2 rfl rfl rfl;go_simp
  generalize hnw:World.alloc _ _=w3;have hb:=nmh hnw;clear hnw
  have x0:=Ob (World.ownsRow_lit (base:=(w2).heap.size) (e:=3) (size:=1) (w2) #[] 0 Lr (by unfold maxLen;omega) (by simp)) hb;try simp only [Sa,Ss] at x0
  have n1:=hb.size;simp only [Sa] at n1;clear o4 g4 c3 h4 d3 e2;replace a0:=Bb (Bk.al a0 _) hb;replace c0:=Bb (Bk.al c0 _) hb;replace b0:=btr (bal b0 _) hb;clear hb;have b2:=x0.lt;try simp only [Sa] at b2
  replace y1:=Bk.lz a0;replace z1:=Bk.lz c0;refine hK.out _ _ ⟨Bk.ce a0 0,Bk.ce a0 1,Bk.ce a0 2⟩ (fun hHeld=>?_);clear hK K;try simp only [Ep]
  refine Rdy2 3 4 rfl rfl (fun K hK=>?_) (fun K hK=>?_)
  ·refine step_aps tInts rfl _ _ rfl (w2.heap.size) _ 0 [] rfl x0 _ xs.length (ints xs) rfl ((l1.out _ b0).1) (one_ints xs) (by omega) (by omega) ?_;intro vA w4 e0 hc w0 _;try simp only [Nat.zero_add,List.nil_append] at e0
   obtain ⟨k0,q0,rfl⟩:=Oh e0
   have z0:∀ q,(Value.slice k0 xs.length q0).ownBlock=some q→q=w2.heap.size∨(w3.heap.size≤q∧q < w4.heap.size):=fun q hq=>by
    rcases newOr_blk w0 q hq with h | h
    ·have h9:w2.heap.size=q:=Si h;omega
    have:=(e0.lt q hq).2;omega
   have d0:∀ q,(Value.slice (some ⟨w2.heap.size,0,none⟩) 0 0).ownBlock=some q→q=w2.heap.size:=fun q h=>(Si h).symm
   have v3:=hc.size;replace a0:=Bk.keep a0 hc (fun h=>by have:=d0 _ h;omega);replace c0:=Bk.keep c0 hc (fun h=>by have:=d0 _ h;omega);replace b0:=b0.trans (hc.below w.heap.size (by have:=b0.size;omega) (fun gq hgq h=>by have:=d0 gq h;omega));clear hc;clear w0 d0 x0;replace y1:=Bk.lz a0;replace z1:=Bk.lz c0;refine hK.out _ _ ⟨Bk.ce a0 0,Bk.ce a0 1,Bk.ce a0 2⟩ (fun hHeld=>?_);clear hK K;try simp only [Ep]
   refine Rdy 4 rfl (fun K hK=>?_);go_simp
   generalize hnw:World.alloc _ _=w5;have hb:=nmh hnw;clear hnw
   have h1:=Ob (World.ownsRow_lit (base:=(w4).heap.size) (e:=3) (size:=1) (w4) #[] 0 Lr (by unfold maxLen;omega) (by simp)) hb;try simp only [Sa,Ss] at h1
   have o1:=hb.size;simp only [Sa] at o1;replace e0:=Ob (Ob e0 (bal (Bs _) _)) hb;replace a0:=Bb (Bk.al a0 _) hb;replace c0:=Bb (Bk.al c0 _) hb;replace b0:=btr (bal b0 _) hb;clear hb;have c2:=h1.lt;try simp only [Sa] at c2
   refine hK.out _ _ ⟨Bk.ce a0 0,Bk.ce a0 1,Bk.ce a0 2⟩ (fun hHeld=>?_);clear hK K;try simp only [Ep]
   refine Rdy 7 rfl (fun K hK=>?_);refine step_aps tInts rfl _ _ rfl (w4.heap.size) _ 0 [] rfl h1 _ ys.length (ints ys) rfl ((l1.out _ b0).2) (one_ints ys) (by omega) (by omega) ?_;intro vA w6 h0 hc w0 _;try simp only [Nat.zero_add,List.nil_append] at h0
   obtain ⟨l0,r0,rfl⟩:=Oh h0
   have e1:∀ q,(Value.slice l0 ys.length r0).ownBlock=some q→q=w4.heap.size∨(w5.heap.size≤q∧q < w6.heap.size):=fun q hq=>by
    rcases newOr_blk w0 q hq with h | h
    ·have h9:w4.heap.size=q:=Si h;omega
    have:=(h0.lt q hq).2;omega
   have d0:∀ q,(Value.slice (some ⟨w4.heap.size,0,none⟩) 0 0).ownBlock=some q→q=w4.heap.size:=fun q h=>(Si h).symm
   have x3:=hc.size;replace e0:=Ow e0 hc (fun gq h h2=>by have:=z0 gq h;have:=d0 gq h2;omega);replace a0:=Bk.keep a0 hc (fun h=>by have:=d0 _ h;omega);replace c0:=Bk.keep c0 hc (fun h=>by have:=d0 _ h;omega);replace b0:=b0.trans (hc.below w.heap.size (by have:=b0.size;omega) (fun gq hgq h=>by have:=d0 gq h;omega));clear hc;clear w0 d0 h1;refine hK.out _ _ ⟨Bk.ce a0 0,Bk.ce a0 1,Bk.ce a0 2⟩ (fun hHeld=>?_);clear hK K;try simp only [Ep]
   refine Rdy 10 rfl (fun K hK=>?_);go_simp
   refine (HB.out _ b0).mono ?_;rintro e w7 ⟨ga,gc,u3,rfl,hG,hb⟩;have y3:=hb.size;replace e0:=Ob e0 hb;replace h0:=Ob h0 hb;replace a0:=Bb a0 hb;replace c0:=Bb c0 hb;replace b0:=btr b0 hb;clear hb;replace hG:=hG.mono (P':=fun q=>w6.heap.size≤q∧q < w7.heap.size) (kpS D) (fun q h hl=>⟨h,hl⟩);have iG:=hG.own.lt;refine hK.out _ _ ⟨Bk.ce a0 0,Bk.ce a0 1,Bk.ce a0 2⟩ (fun hHeld=>?_);clear hK K;try simp only [Ep]
   refine (tq 11 14 rfl rfl (.agg #[.slice k0 xs.length q0,.slice l0 ys.length r0,.slice ga L.length gc]) (fun W' _=>by kernel_rfl) ?_);try simp only [Ep]
   refine Rdy 12 rfl (fun K hK=>?_);obtain ⟨f2,e3,g2,g3,i2,h3⟩:=Bk.f3 c0 0 1 2 rfl rfl rfl;go_simp
   generalize hnw:World.setCell _ _ _=w8;have hb:=nmh hnw;clear hnw
   have j1:=(((hG.keep (kpS D) (C1 (w.heap.size+1) 0 (.slice k0 xs.length q0)) (fun q hq (h:q=(w.heap.size+1))=>by have:=iG q hq;omega) (fun q hq _ (h:q=(w.heap.size+1))=>by omega)).keep (kpS D) (C1 (w.heap.size+1) 1 (.slice l0 ys.length r0)) (fun q hq (h:q=(w.heap.size+1))=>by have:=iG q hq;omega) (fun q hq _ (h:q=(w.heap.size+1))=>by omega)).keep (kpS D) (C1 (w.heap.size+1) 2 (.slice ga L.length gc)) (fun q hq (h:q=(w.heap.size+1))=>by have:=iG q hq;omega) (fun q hq _ (h:q=(w.heap.size+1))=>by omega)).below (kpS D) hb;have p1:=hb.size;simp only [Ss] at p1;clear e3 f2 g3 g2 h3 i2;replace e0:=Ob (Oe (Oe (Oe e0 _ _ (fun h=>by have:=z0 _ h;omega) _) _ _ (fun h=>by have:=z0 _ h;omega) _) _ _ (fun h=>by have:=z0 _ h;omega) _) hb;replace h0:=Ob (Oe (Oe (Oe h0 _ _ (fun h=>by have:=e1 _ h;omega) _) _ _ (fun h=>by have:=e1 _ h;omega) _) _ _ (fun h=>by have:=e1 _ h;omega) _) hb;replace a0:=Bb (Bk.nn (Bk.nn (Bk.nn a0 _) _) _) hb;replace c0:Bk w8 (w.heap.size+1) [.slice k0 xs.length q0,.slice l0 ys.length r0,.slice ga L.length gc]:=Bb (Bk.at (Bk.at (Bk.at c0 0 (.slice k0 xs.length q0)) 1 (.slice l0 ys.length r0)) 2 (.slice ga L.length gc)) hb;replace b0:=btr (bst (bst (bst b0 (w.heap.size+1) 0 (by omega) (.slice k0 xs.length q0)) (w.heap.size+1) 1 (by omega) (.slice l0 ys.length r0)) (w.heap.size+1) 2 (by omega) (.slice ga L.length gc)) hb;clear hb;clear hG;have hG:=j1;clear j1;refine hK.out _ _ ⟨Bk.ce a0 0,Bk.ce a0 1,Bk.ce a0 2⟩ (fun hHeld=>?_);clear hK K;try simp only [Ep]
   refine Dn ?_;clear hHeld;have k1:∀ q,(Value.slice k0 xs.length q0).ownBlock=some q→(Value.slice l0 ys.length r0).ownBlock=some q→False:=fun q h h2=>by have:=z0 q h;have:=e1 q h2;omega
   have m1:=Hi ((GrAt.base (b':=w.heap.size) hG (by omega)).mono (P':=fun q=>w.heap.size≤q∧¬(Value.slice k0 xs.length q0).ownBlock=some q∧¬(Value.slice l0 ys.length r0).ownBlock=some q) (kpS D) (fun q h _=>⟨by omega,fun h2=>by have:=z0 q h2;omega,fun h2=>by have:=e1 q h2;omega⟩));have d1:=Hi (Ai (Om (base':=w.heap.size) e0 (by omega)) (Ai (Om (base':=w.heap.size) h0 (by omega)) k1));clear hG e0 h0 k1;obtain ⟨j2,i4,k2,j4,l2,k4⟩:=Bk.f3 c0 0 1 2 rfl rfl rfl;have s4:=j2;have t4:=k2;have u4:=l2;have tt:=b0;go_wp2
   exact bodyPost_ret (v:=.agg #[.slice k0 xs.length q0,.slice l0 ys.length r0,.slice ga L.length gc]) (by simp [results,Try.results69,go_sem,s4,t4,u4]) rfl (by exact (by unfold CpP;exact ⟨_,_,_,_,_,_,_,rfl,d1.out.1,d1.out.2.1,d1.out.2.2,m1.out,tt⟩))
  go_simp
  generalize hnw:World.alloc _ _=w4;have hb:=nmh hnw;clear hnw
  have c1:=Ob (World.ownsRow_lit (base:=(w3).heap.size) (e:=3) (size:=1) (w3) #[] 0 Lr (by unfold maxLen;omega) (by simp)) hb;try simp only [Sa,Ss] at c1
  have q1:=hb.size;simp only [Sa] at q1;replace x0:=Ob (Ob x0 (bal (Bs _) _)) hb;replace a0:=Bb (Bk.al a0 _) hb;replace c0:=Bb (Bk.al c0 _) hb;replace b0:=btr (bal b0 _) hb;clear hb;have v1:=c1.lt;try simp only [Sa] at v1
  refine hK.out _ _ ⟨Bk.ce a0 0,Bk.ce a0 1,Bk.ce a0 2⟩ (fun hHeld=>?_);clear hK K;try simp only [Ep]
  refine Rdy 3 rfl (fun K hK=>?_);refine step_aps tInts rfl _ _ rfl (w2.heap.size) _ 0 [] rfl x0 _ xs.length (ints xs) rfl ((l1.out _ b0).1) (one_ints xs) (by omega) (by omega) ?_;intro vA w5 f0 hc w0 _;try simp only [Nat.zero_add,List.nil_append] at f0
  obtain ⟨m0,s0,rfl⟩:=Oh f0
  have a1:∀ q,(Value.slice m0 xs.length s0).ownBlock=some q→q=w2.heap.size∨(w4.heap.size≤q∧q < w5.heap.size):=fun q hq=>by
   rcases newOr_blk w0 q hq with h | h
   ·have h9:w2.heap.size=q:=Si h;omega
   have:=(f0.lt q hq).2;omega
  have d0:∀ q,(Value.slice (some ⟨w2.heap.size,0,none⟩) 0 0).ownBlock=some q→q=w2.heap.size:=fun q h=>(Si h).symm
  have z3:=hc.size;replace c1:=Ow c1 hc (fun gq h h2=>by have:=v1 gq h;have:=d0 gq h2;omega);replace a0:=Bk.keep a0 hc (fun h=>by have:=d0 _ h;omega);replace c0:=Bk.keep c0 hc (fun h=>by have:=d0 _ h;omega);replace b0:=b0.trans (hc.below w.heap.size (by have:=b0.size;omega) (fun gq hgq h=>by have:=d0 gq h;omega));clear hc;clear w0 d0 x0;refine hK.out _ _ ⟨Bk.ce a0 0,Bk.ce a0 1,Bk.ce a0 2⟩ (fun hHeld=>?_);clear hK K;try simp only [Ep]
  refine Rdy 7 rfl (fun K hK=>?_);refine step_aps tInts rfl _ _ rfl (w3.heap.size) _ 0 [] rfl c1 _ ys.length (ints ys) rfl ((l1.out _ b0).2) (one_ints ys) (by omega) (by omega) ?_;intro vA w6 i0 hc w0 _;try simp only [Nat.zero_add,List.nil_append] at i0
  obtain ⟨n0,t0,rfl⟩:=Oh i0
  have f1:∀ q,(Value.slice n0 ys.length t0).ownBlock=some q→q=w3.heap.size∨(w5.heap.size≤q∧q < w6.heap.size):=fun q hq=>by
   rcases newOr_blk w0 q hq with h | h
   ·have h9:w3.heap.size=q:=Si h;omega
   have:=(i0.lt q hq).2;omega
  have d0:∀ q,(Value.slice (some ⟨w3.heap.size,0,none⟩) 0 0).ownBlock=some q→q=w3.heap.size:=fun q h=>(Si h).symm
  have a4:=hc.size;replace f0:=Ow f0 hc (fun gq h h2=>by have:=a1 gq h;have:=d0 gq h2;omega);replace a0:=Bk.keep a0 hc (fun h=>by have:=d0 _ h;omega);replace c0:=Bk.keep c0 hc (fun h=>by have:=d0 _ h;omega);replace b0:=b0.trans (hc.below w.heap.size (by have:=b0.size;omega) (fun gq hgq h=>by have:=d0 gq h;omega));clear hc;clear w0 d0 c1;refine hK.out _ _ ⟨Bk.ce a0 0,Bk.ce a0 1,Bk.ce a0 2⟩ (fun hHeld=>?_);clear hK K;try simp only [Ep]
  refine Rdy 10 rfl (fun K hK=>?_);go_simp
  refine (HB.out _ b0).mono ?_;rintro e w7 ⟨ga,gc,u3,rfl,hG,hb⟩;have b4:=hb.size;replace f0:=Ob f0 hb;replace i0:=Ob i0 hb;replace a0:=Bb a0 hb;replace c0:=Bb c0 hb;replace b0:=btr b0 hb;clear hb;replace hG:=hG.mono (P':=fun q=>w6.heap.size≤q∧q < w7.heap.size) (kpS D) (fun q h hl=>⟨h,hl⟩);have iG:=hG.own.lt;refine hK.out _ _ ⟨Bk.ce a0 0,Bk.ce a0 1,Bk.ce a0 2⟩ (fun hHeld=>?_);clear hK K;try simp only [Ep]
  refine (tq 11 14 rfl rfl (.agg #[.slice m0 xs.length s0,.slice n0 ys.length t0,.slice ga L.length gc]) (fun W' _=>by kernel_rfl) ?_);try simp only [Ep]
  refine Rdy 12 rfl (fun K hK=>?_);obtain ⟨m2,i3,n2,j3,o2,k3⟩:=Bk.f3 c0 0 1 2 rfl rfl rfl;go_simp
  generalize hnw:World.setCell _ _ _=w8;have hb:=nmh hnw;clear hnw
  have j1:=(((hG.keep (kpS D) (C1 (w.heap.size+1) 0 (.slice m0 xs.length s0)) (fun q hq (h:q=(w.heap.size+1))=>by have:=iG q hq;omega) (fun q hq _ (h:q=(w.heap.size+1))=>by omega)).keep (kpS D) (C1 (w.heap.size+1) 1 (.slice n0 ys.length t0)) (fun q hq (h:q=(w.heap.size+1))=>by have:=iG q hq;omega) (fun q hq _ (h:q=(w.heap.size+1))=>by omega)).keep (kpS D) (C1 (w.heap.size+1) 2 (.slice ga L.length gc)) (fun q hq (h:q=(w.heap.size+1))=>by have:=iG q hq;omega) (fun q hq _ (h:q=(w.heap.size+1))=>by omega)).below (kpS D) hb;have r1:=hb.size;simp only [Ss] at r1;clear i3 m2 j3 n2 k3 o2;replace f0:=Ob (Oe (Oe (Oe f0 _ _ (fun h=>by have:=a1 _ h;omega) _) _ _ (fun h=>by have:=a1 _ h;omega) _) _ _ (fun h=>by have:=a1 _ h;omega) _) hb;replace i0:=Ob (Oe (Oe (Oe i0 _ _ (fun h=>by have:=f1 _ h;omega) _) _ _ (fun h=>by have:=f1 _ h;omega) _) _ _ (fun h=>by have:=f1 _ h;omega) _) hb;replace a0:=Bb (Bk.nn (Bk.nn (Bk.nn a0 _) _) _) hb;replace c0:Bk w8 (w.heap.size+1) [.slice m0 xs.length s0,.slice n0 ys.length t0,.slice ga L.length gc]:=Bb (Bk.at (Bk.at (Bk.at c0 0 (.slice m0 xs.length s0)) 1 (.slice n0 ys.length t0)) 2 (.slice ga L.length gc)) hb;replace b0:=btr (bst (bst (bst b0 (w.heap.size+1) 0 (by omega) (.slice m0 xs.length s0)) (w.heap.size+1) 1 (by omega) (.slice n0 ys.length t0)) (w.heap.size+1) 2 (by omega) (.slice ga L.length gc)) hb;clear hb;clear hG;have hG:=j1;clear j1;refine hK.out _ _ ⟨Bk.ce a0 0,Bk.ce a0 1,Bk.ce a0 2⟩ (fun hHeld=>?_);clear hK K;try simp only [Ep]
  refine Dn ?_;clear hHeld;have k1:∀ q,(Value.slice m0 xs.length s0).ownBlock=some q→(Value.slice n0 ys.length t0).ownBlock=some q→False:=fun q h h2=>by have:=a1 q h;have:=f1 q h2;omega
  have m1:=Hi ((GrAt.base (b':=w.heap.size) hG (by omega)).mono (P':=fun q=>w.heap.size≤q∧¬(Value.slice m0 xs.length s0).ownBlock=some q∧¬(Value.slice n0 ys.length t0).ownBlock=some q) (kpS D) (fun q h _=>⟨by omega,fun h2=>by have:=a1 q h2;omega,fun h2=>by have:=f1 q h2;omega⟩));have d1:=Hi (Ai (Om (base':=w.heap.size) f0 (by omega)) (Ai (Om (base':=w.heap.size) i0 (by omega)) k1));clear hG f0 i0 k1;obtain ⟨p2,l4,q2,m4,r2,n4⟩:=Bk.f3 c0 0 1 2 rfl rfl rfl;have v4:=p2;have x4:=q2;have y4:=r2;have tt:=b0;go_wp2
  exact bodyPost_ret (v:=.agg #[.slice m0 xs.length s0,.slice n0 ys.length t0,.slice ga L.length gc]) (by simp [results,Try.results69,go_sem,v4,x4,y4]) rfl (by exact (by unfold CpP;exact ⟨_,_,_,_,_,_,_,rfl,d1.out.1,d1.out.2.1,d1.out.2.2,m1.out,tt⟩))
 obtain ⟨s2,l3,t2,m3,u2,n3⟩:=Bk.f3 a0 0 1 2 rfl rfl rfl;go_simp
 generalize hnw:World.alloc _ _=w3;have hb:=nmh hnw;clear hnw
 have y0:=Ob (World.ownsRow_lit (base:=(w2).heap.size) (e:=3) (size:=1) (w2) #[] 0 Lr (by unfold maxLen;omega) (by simp)) hb;try simp only [Sa,Ss] at y0
 have s1:=hb.size;simp only [Sa] at s1;clear l3 s2 m3 t2 n3 u2;replace a0:=Bb (Bk.al a0 _) hb;replace c0:=Bb (Bk.al c0 _) hb;replace b0:=btr (bal b0 _) hb;clear hb;have x1:=y0.lt;try simp only [Sa] at x1
 replace y1:=Bk.lz a0;replace z1:=Bk.lz c0;refine hK.out _ _ ⟨Bk.ce a0 0,Bk.ce a0 1,Bk.ce a0 2⟩ (fun hHeld=>?_);clear hK K;try simp only [Ep]
 refine Rdy 0 rfl (fun K hK=>?_);go_simp
 generalize hnw:World.alloc _ _=w4;have hb:=nmh hnw;clear hnw
 have i1:=Ob (World.ownsRow_lit (base:=(w3).heap.size) (e:=3) (size:=1) (w3) #[] 0 Lr (by unfold maxLen;omega) (by simp)) hb;try simp only [Sa,Ss] at i1
 have t1:=hb.size;simp only [Sa] at t1;replace y0:=Ob (Ob y0 (bal (Bs _) _)) hb;replace a0:=Bb (Bk.al a0 _) hb;replace c0:=Bb (Bk.al c0 _) hb;replace b0:=btr (bal b0 _) hb;clear hb;have d2:=i1.lt;try simp only [Sa] at d2
 refine hK.out _ _ ⟨Bk.ce a0 0,Bk.ce a0 1,Bk.ce a0 2⟩ (fun hHeld=>?_);clear hK K;try simp only [Ep]
 refine Rdy 3 rfl (fun K hK=>?_);refine step_aps tInts rfl _ _ rfl (w3.heap.size) _ 0 [] rfl i1 _ xs.length (ints xs) rfl ((l1.out _ b0).1) (one_ints xs) (by omega) (by omega) ?_;intro vA w5 g0 hc w0 _;try simp only [Nat.zero_add,List.nil_append] at g0
 obtain ⟨o0,u0,rfl⟩:=Oh g0
 have b1:∀ q,(Value.slice o0 xs.length u0).ownBlock=some q→q=w3.heap.size∨(w4.heap.size≤q∧q < w5.heap.size):=fun q hq=>by
  rcases newOr_blk w0 q hq with h | h
  ·have h9:w3.heap.size=q:=Si h;omega
  have:=(g0.lt q hq).2;omega
 have d0:∀ q,(Value.slice (some ⟨w3.heap.size,0,none⟩) 0 0).ownBlock=some q→q=w3.heap.size:=fun q h=>(Si h).symm
 have c4:=hc.size;replace y0:=Ow y0 hc (fun gq h h2=>by have:=x1 gq h;have:=d0 gq h2;omega);replace a0:=Bk.keep a0 hc (fun h=>by have:=d0 _ h;omega);replace c0:=Bk.keep c0 hc (fun h=>by have:=d0 _ h;omega);replace b0:=b0.trans (hc.below w.heap.size (by have:=b0.size;omega) (fun gq hgq h=>by have:=d0 gq h;omega));clear hc;clear w0 d0 i1;refine hK.out _ _ ⟨Bk.ce a0 0,Bk.ce a0 1,Bk.ce a0 2⟩ (fun hHeld=>?_);clear hK K;try simp only [Ep]
 refine Rdy 7 rfl (fun K hK=>?_);refine step_aps tInts rfl _ _ rfl (w2.heap.size) _ 0 [] rfl y0 _ ys.length (ints ys) rfl ((l1.out _ b0).2) (one_ints ys) (by omega) (by omega) ?_;intro vA w6 j0 hc w0 _;try simp only [Nat.zero_add,List.nil_append] at j0
 obtain ⟨p0,v0,rfl⟩:=Oh j0
 have g1:∀ q,(Value.slice p0 ys.length v0).ownBlock=some q→q=w2.heap.size∨(w5.heap.size≤q∧q < w6.heap.size):=fun q hq=>by
  rcases newOr_blk w0 q hq with h | h
  ·have h9:w2.heap.size=q:=Si h;omega
  have:=(j0.lt q hq).2;omega
 have d0:∀ q,(Value.slice (some ⟨w2.heap.size,0,none⟩) 0 0).ownBlock=some q→q=w2.heap.size:=fun q h=>(Si h).symm
 have d4:=hc.size;replace g0:=Ow g0 hc (fun gq h h2=>by have:=b1 gq h;have:=d0 gq h2;omega);replace a0:=Bk.keep a0 hc (fun h=>by have:=d0 _ h;omega);replace c0:=Bk.keep c0 hc (fun h=>by have:=d0 _ h;omega);replace b0:=b0.trans (hc.below w.heap.size (by have:=b0.size;omega) (fun gq hgq h=>by have:=d0 gq h;omega));clear hc;clear w0 d0 y0;refine hK.out _ _ ⟨Bk.ce a0 0,Bk.ce a0 1,Bk.ce a0 2⟩ (fun hHeld=>?_);clear hK K;try simp only [Ep]
 refine Rdy 10 rfl (fun K hK=>?_);go_simp
 refine (HB.out _ b0).mono ?_;rintro e w7 ⟨ga,gc,u3,rfl,hG,hb⟩;have e4:=hb.size;replace g0:=Ob g0 hb;replace j0:=Ob j0 hb;replace a0:=Bb a0 hb;replace c0:=Bb c0 hb;replace b0:=btr b0 hb;clear hb;replace hG:=hG.mono (P':=fun q=>w6.heap.size≤q∧q < w7.heap.size) (kpS D) (fun q h hl=>⟨h,hl⟩);have iG:=hG.own.lt;refine hK.out _ _ ⟨Bk.ce a0 0,Bk.ce a0 1,Bk.ce a0 2⟩ (fun hHeld=>?_);clear hK K;try simp only [Ep]
 refine (tq 11 14 rfl rfl (.agg #[.slice o0 xs.length u0,.slice p0 ys.length v0,.slice ga L.length gc]) (fun W' _=>by kernel_rfl) ?_);try simp only [Ep]
 refine Rdy 12 rfl (fun K hK=>?_);obtain ⟨v2,o3,x2,p3,y2,q3⟩:=Bk.f3 c0 0 1 2 rfl rfl rfl;go_simp
 generalize hnw:World.setCell _ _ _=w8;have hb:=nmh hnw;clear hnw
 have j1:=(((hG.keep (kpS D) (C1 (w.heap.size+1) 0 (.slice o0 xs.length u0)) (fun q hq (h:q=(w.heap.size+1))=>by have:=iG q hq;omega) (fun q hq _ (h:q=(w.heap.size+1))=>by omega)).keep (kpS D) (C1 (w.heap.size+1) 1 (.slice p0 ys.length v0)) (fun q hq (h:q=(w.heap.size+1))=>by have:=iG q hq;omega) (fun q hq _ (h:q=(w.heap.size+1))=>by omega)).keep (kpS D) (C1 (w.heap.size+1) 2 (.slice ga L.length gc)) (fun q hq (h:q=(w.heap.size+1))=>by have:=iG q hq;omega) (fun q hq _ (h:q=(w.heap.size+1))=>by omega)).below (kpS D) hb;have u1:=hb.size;simp only [Ss] at u1;clear o3 v2 p3 x2 q3 y2;replace g0:=Ob (Oe (Oe (Oe g0 _ _ (fun h=>by have:=b1 _ h;omega) _) _ _ (fun h=>by have:=b1 _ h;omega) _) _ _ (fun h=>by have:=b1 _ h;omega) _) hb;replace j0:=Ob (Oe (Oe (Oe j0 _ _ (fun h=>by have:=g1 _ h;omega) _) _ _ (fun h=>by have:=g1 _ h;omega) _) _ _ (fun h=>by have:=g1 _ h;omega) _) hb;replace a0:=Bb (Bk.nn (Bk.nn (Bk.nn a0 _) _) _) hb;replace c0:Bk w8 (w.heap.size+1) [.slice o0 xs.length u0,.slice p0 ys.length v0,.slice ga L.length gc]:=Bb (Bk.at (Bk.at (Bk.at c0 0 (.slice o0 xs.length u0)) 1 (.slice p0 ys.length v0)) 2 (.slice ga L.length gc)) hb;replace b0:=btr (bst (bst (bst b0 (w.heap.size+1) 0 (by omega) (.slice o0 xs.length u0)) (w.heap.size+1) 1 (by omega) (.slice p0 ys.length v0)) (w.heap.size+1) 2 (by omega) (.slice ga L.length gc)) hb;clear hb;clear hG;have hG:=j1;clear j1;refine hK.out _ _ ⟨Bk.ce a0 0,Bk.ce a0 1,Bk.ce a0 2⟩ (fun hHeld=>?_);clear hK K;try simp only [Ep]
 refine Dn ?_;clear hHeld;have k1:∀ q,(Value.slice o0 xs.length u0).ownBlock=some q→(Value.slice p0 ys.length v0).ownBlock=some q→False:=fun q h h2=>by have:=b1 q h;have:=g1 q h2;omega
 have m1:=Hi ((GrAt.base (b':=w.heap.size) hG (by omega)).mono (P':=fun q=>w.heap.size≤q∧¬(Value.slice o0 xs.length u0).ownBlock=some q∧¬(Value.slice p0 ys.length v0).ownBlock=some q) (kpS D) (fun q h _=>⟨by omega,fun h2=>by have:=b1 q h2;omega,fun h2=>by have:=g1 q h2;omega⟩));have d1:=Hi (Ai (Om (base':=w.heap.size) g0 (by omega)) (Ai (Om (base':=w.heap.size) j0 (by omega)) k1));clear hG g0 j0 k1;obtain ⟨z2,p4,a3,q4,b3,r4⟩:=Bk.f3 c0 0 1 2 rfl rfl rfl;have r3:=z2;have s3:=a3;have t3:=b3;have tt:=b0;go_wp2
 exact bodyPost_ret (v:=.agg #[.slice o0 xs.length u0,.slice p0 ys.length v0,.slice ga L.length gc]) (by simp [results,Try.results69,go_sem,r3,s3,t3]) rfl (by exact (by unfold CpP;exact ⟨_,_,_,_,_,_,_,rfl,d1.out.1,d1.out.2.1,d1.out.2.2,m1.out,tt⟩))
end Go.Proofs.Ytlckklglbodgbaa
