/-
 Parts of the proofs of the laws FnExactProductProgram.
-/
import Derived.Deep.CutBlock
import Derived.Test.YtlckklglbodgbaaNR5
set_option linter.all false
namespace Go.Proofs.Ytlckklglbodgbaa
open Go.RowKit
set_option maxHeartbeats 6400000 in
set_option maxRecDepth 100000 in
theorem copied_any (pv pa pu:Option Addr) (cv ca nu cu:Nat) (nv na:Nat) (hnv:nv≤1000000000∧na≤1000000000) (A:Nat→Prop):∀ (D d:Nat) (n:En) (e:Ex) (w:World),ExAt w A D n e→(exOk nv na d e=true∨noneE e=true)→exN e≤1048576→Calls Try.prog 65 #[.agg #[.slice pv nv cv,.slice pa na ca,.slice pu nu cu],.agg #[.int .i64 n.k,.int .i64 n.v,.slice n.p n.n n.c]] w fun r w'=>CpE D (shE nv na e) w r w':=by
 intro D
 induction D with
 | zero=>intro d n e w h;cases h
 | succ D IH0 =>
  intro d n e w hx v0 o3
  replace v0:∃ d,exOk nv na (d+1) e=true∨noneE e=true:=by
   cases d with
   | zero=>exact ⟨0,Or.inr (by rcases v0 with h | h;cases h;exact h)⟩
   | succ d=>exact ⟨d,v0⟩
  obtain ⟨d,v0⟩:=v0;obtain ⟨ek,ev,L⟩:=e;obtain ⟨p3,i1,j1,t2⟩:=shift_ok v0;have hn:=hx.shape;have HK:=Hi (fun W (hW:Below w.heap.size w W) j hj=>(hx.below hW).kidm j hj);have l3:L.length≤1048576:=by have:=exNs_len L;have h2:=exN_kids (.mk ek ev L);simp only [Ex.kids] at h2;omega
  have n1:Hid (∀ k (h:k < L.length),exN L[k]≤1048576∧exOk nv na d L[k]=true):=Hi (fun k h=>⟨by have:=exNs_at h;have h2:=exN_kids (.mk ek ev L);simp only [Ex.kids] at h2;omega,t2 _ (List.getElem_mem h)⟩);have IH:=Hi IH0;clear IH0 hx o3 v0 t2;obtain ⟨nk,f0,np,s5,nc⟩:=n;simp only [Ex.k,Ex.v,Ex.kids] at hn;obtain ⟨rfl,rfl,rfl⟩:=hn;obtain ⟨v1,hv1e⟩:∃ X,X=(if nk=2 then f0+nv else f0):=⟨_,rfl⟩;obtain ⟨v2,hv2e⟩:∃ X,X=(if nk=3 then v1+na else v1):=⟨_,rfl⟩;have f3:Hid (shE nv na (.mk nk f0 L)=.mk nk v2 (shL nv na L)):=Hi (by rw [shE_mk,hv2e,hv1e]);replace i1:=Hi i1;replace j1:Hid (nk=3→f0 < na∧v1=f0):=Hi (fun h=>⟨j1 h,by subst h;rw [hv1e,if_neg (by decide)]⟩);have o1:=Hi hv1e;have k1:=Hi hv2e;clear hv1e hv2e;rw [f3.out];go_enter Try.func65,Try.ntmps65
  go_upto_region 2 with (fail)
  generalize hnw:World.alloc _ _=w1;have hb:=nmh hnw;clear hnw
  have q1:=hb.size;simp only [Sa] at q1;have r0:=Bb (Bk.al (Bk.al (Bk.al (Bk.n3 (w.heap.size)) (.cells #[.int .i64 nk,.int .i64 f0,.slice np L.length nc] 49)) (.cells #[.int .i64 0,.int .i64 0,.slice none 0 0] 49)) (.cells #[.int .i64 nk,.int .i64 f0,.slice none 0 0] 49)) hb;have y0:=Bb (Bk.al (Bk.al (Bk.n3 (w.heap.size+1)) (.cells #[.int .i64 0,.int .i64 0,.slice none 0 0] 49)) (.cells #[.int .i64 nk,.int .i64 f0,.slice none 0 0] 49)) hb;have a1:=Bb (Bk.al (Bk.n3 (w.heap.size+1+1)) (.cells #[.int .i64 nk,.int .i64 f0,.slice none 0 0] 49)) hb;have s0:=Bb (Bk.n3 (w.heap.size+1+1+1)) hb;have k0:=btr (bal (bal (bal (bal (Bs w) (.cells #[.slice pv nv cv,.slice pa na ca,.slice pu nu cu] 26)) (.cells #[.int .i64 nk,.int .i64 f0,.slice np L.length nc] 49)) (.cells #[.int .i64 0,.int .i64 0,.slice none 0 0] 49)) (.cells #[.int .i64 nk,.int .i64 f0,.slice none 0 0] 49)) hb;clear hb;have o5:=Bk.lz r0;have p5:=Bk.lz y0;have q5:=Bk.lz a1;have r5:=Bk.lz s0;have j5:w.heap.size≤w.heap.size+1∧w.heap.size+1+1+1 < w1.heap.size∧w.heap.size+1+1 < w1.heap.size∧w.heap.size+1 < w.heap.size+1+1∧w.heap.size+1+1 < w.heap.size+1+1+1:=by omega
  obtain ⟨s1,g2⟩:=Bk.cf y0 0 rfl;go_upto_block 0 with (fail)
  go_cut [] (fun wx=>Bk wx (w.heap.size+1+1+1) [.int .i64 nk,.int .i64 v2,.slice none 0 0]∧Bk wx (w.heap.size+1+1) [.int .i64 0,.int .i64 0,.slice none 0 0]∧Bk wx (w.heap.size+1) [.int .i64 nk,.int .i64 f0,.slice np L.length nc]∧Bk wx (w.heap.size) [.slice pv nv cv,.slice pa na ca,.slice pu nu cu]∧Below w.heap.size w wx∧w1.heap.size≤wx.heap.size)
  case first =>
   by_cases h:nk=2
   ·have c4:(nk == 2)=true:=by simp [h]
    have HH:=Hi h;clear h;have h5:=i1.out HH.out;obtain ⟨e4,p4⟩:=Bk.cf r0 0 rfl;obtain ⟨f4,q4⟩:=Bk.cf s0 1 rfl;have q0:=(Bk.at s0 1 (.int .i64 (f0+(nv:Int))));have HX:=Hi (Ai q0 (Ai (Bk.nn (b':=(w.heap.size+1+1+1)) (j':=1) a1 (.int .i64 (f0+(nv:Int)))) (Ai (Bk.nn (b':=(w.heap.size+1+1+1)) (j':=1) y0 (.int .i64 (f0+(nv:Int)))) (Ai (Bk.nn (b':=(w.heap.size+1+1+1)) (j':=1) r0 (.int .i64 (f0+(nv:Int)))) (bst k0 (w.heap.size+1+1+1) 1 (by omega) (.int .i64 (f0+(nv:Int))))))));clear q0;go_wp2_with fail
    go_meet
    exact ⟨(congrArg (fun X=>Bk _ (w.heap.size+1+1+1) [.int .i64 nk,.int .i64 X,.slice none 0 0]) (show f0+(nv:Int)=v2 by rw [k1.out,if_neg (by have:=HH.out;omega),o1.out,if_pos HH.out])).mp HX.out.1,HX.out.2.1,HX.out.2.2.1,HX.out.2.2.2.1,HX.out.2.2.2.2,by (try simp only [Ss]);omega⟩
   have c4:(nk == 2)=false:=by simp [h]
   have HH:=Hi h;clear h;by_cases h3:nk=3
   ·have d4:(nk == 3)=true:=by simp [h3]
    have h1:=Hi h3;clear h3;have p1:=j1.out h1.out;have i5:=p1.1;have H5:=Hi p1.2;clear p1;obtain ⟨g4,r4⟩:=Bk.cf r0 1 rfl;obtain ⟨h4,s4⟩:=Bk.cf s0 1 rfl;have q0:=(Bk.at s0 1 (.int .i64 (f0+(na:Int))));have HX:=Hi (Ai q0 (Ai (Bk.nn (b':=(w.heap.size+1+1+1)) (j':=1) a1 (.int .i64 (f0+(na:Int)))) (Ai (Bk.nn (b':=(w.heap.size+1+1+1)) (j':=1) y0 (.int .i64 (f0+(na:Int)))) (Ai (Bk.nn (b':=(w.heap.size+1+1+1)) (j':=1) r0 (.int .i64 (f0+(na:Int)))) (bst k0 (w.heap.size+1+1+1) 1 (by omega) (.int .i64 (f0+(na:Int))))))));clear q0;go_wp2_with fail
    go_meet
    exact ⟨(congrArg (fun X=>Bk _ (w.heap.size+1+1+1) [.int .i64 nk,.int .i64 X,.slice none 0 0]) (show f0+(na:Int)=v2 by rw [k1.out,if_pos h1.out,H5.out])).mp HX.out.1,HX.out.2.1,HX.out.2.2.1,HX.out.2.2.2.1,HX.out.2.2.2.2,by (try simp only [Ss]);omega⟩
   have d4:(nk == 3)=false:=by simp [h3]
   have h1:=Hi h3;clear h3;have q0:=s0;have HX:=Hi (Ai q0 (Ai a1 (Ai y0 (Ai r0 k0))));clear q0;go_wp2_with fail
   go_meet
   exact ⟨(congrArg (fun X=>Bk _ (w.heap.size+1+1+1) [.int .i64 nk,.int .i64 X,.slice none 0 0]) (show f0=v2 by rw [k1.out,if_neg h1.out,o1.out,if_neg HH.out])).mp HX.out.1,HX.out.2.1,HX.out.2.2.1,HX.out.2.2.2.1,HX.out.2.2.2.2,by (try simp only [Ss]);omega⟩
  obtain ⟨w6,rfl⟩:∃ X,X=wc:=⟨_,rfl⟩;clear k0 r0 y0 a1 s0 s1 g2;obtain ⟨d0,l0,r1,b0,k0,q3⟩:=hcut;have r3:=Bk.lz d0;have s3:=Bk.lz l0;have v3:=Bk.lz r1;have w3:=Bk.lz b0;clear o1 k1 i1 j1 p3;obtain ⟨t1,i2⟩:=Bk.cf r1 2 rfl;go_wp2_with fail
  have z0:=Hi (Ai d0 (Ai l0 (Ai b0 k0)));clear k0 d0 l0 r1 b0 t1 i2;go_loopw [36] (fun i wr=>∃ (k:Nat) (rs:List En) (a:Option Addr) (c:Nat),k≤L.length∧i=.int .i64 k∧GrAt enc 3 49 (fun W A n x=>ExAt W A D n x) (fun q=>w.heap.size+1+1+1 < q) wr (w.heap.size+1+1+1+1) (.slice a k c) rs (shL nv na (L.take k))∧Bk wr (w.heap.size+1+1+1) [.int .i64 nk,.int .i64 v2,.slice a k c]∧Bk wr (w.heap.size+1+1) [.int .i64 0,.int .i64 0,.slice none 0 0]∧Bk wr (w.heap.size) [.slice pv nv cv,.slice pa na ca,.slice pu nu cu]∧Below w.heap.size w wr∧w6.heap.size≤wr.heap.size) (fun i _=>L.length-(intOf i).toNat)
  case atStart=>exact ⟨0,[],none,0,Nat.zero_le _,rfl,GrAt.nil,z0.out.1,z0.out.2.1,z0.out.2.2.1,z0.out.2.2.2,Lr⟩
  case round =>
   obtain ⟨k,rs,a,c,hk,rfl,hG,d0,l0,b0,x0,k5⟩:=hrel;clear z0;have m5:=Bk.lz d0;have l5:=Bk.lz l0;have n5:=Bk.lz b0;by_cases hlt:k < L.length
   ·have m3:(k:Int) < (L.length:Int):=by omega
    obtain ⟨kb,ko,m,hp,_,f5,hm,e0,e1,e2⟩:=HK.out wr x0 k hlt;try simp only at hp
    subst hp;have g5:kb < w.heap.size:=by obtain ⟨l0,ko2,m2,hp2,_,h2,_⟩:=HK.out w (Bs w) k hlt;simp at hp2;omega
    have HM:=Hi hm;have w2:Hid ((shL nv na (L.take k)).length=k):=Hi (by rw [shL_len,List.length_take];omega);have i3:Hid (shL nv na (L.take (k+1))=shL nv na (L.take k)++[shE nv na L[k]]):=Hi (shL_take nv na hlt);have HS:=Hi (n1.out k hlt);clear hm n1;generalize L[k]=y at *
    have ke:=Lc e0;have x2:=fun q hq=>hG.own.lt q hq
    have e3:=Hi (fun W (hW:Below wr.heap.size wr W)=>IH.out d m y W (HM.out.below hW) (Or.inl HS.out.2) HS.out.1);clear HM HK;go_upto_region 10 with (fail)
    generalize hnw:World.alloc _ _=w7;have g0:=nmh hnw;clear hnw
    have m0:=(hG.below (kpE D) (bal (Bs _) (.cells #[.int .i64 m.k,.int .i64 m.v,.slice m.p m.n m.c] 49))).below (kpE D) g0;have p0:=btr (bal (Bs wr) (.cells #[.int .i64 m.k,.int .i64 m.v,.slice m.p m.n m.c] 49)) g0;have c1:=g0.size;simp only [Sa] at c1;replace e0:=Kc g0 (Ac e0 _);replace e1:=Kc g0 (Ac e1 _);replace e2:=Kc g0 (Ac e2 _);have a0:=Bb (Bk.n3 (wr.heap.size)) g0;replace k0:=btr (bal x0 _) g0;have o0:=p0;clear p0;clear hG;have hG:=m0;clear m0;replace b0:=Bb (Bk.al b0 _) g0;have x3:=Bk.lz b0;replace d0:=Bb (Bk.al d0 _) g0;have y3:=Bk.lz d0;replace l0:=Bb (Bk.al l0 _) g0;have z3:=Bk.lz l0;have g1:=Lc e0;have a4:=Bk.lz a0;refine Rgl (S:=fun W'=>W'.cell? ⟨w.heap.size+1+1+1,2,none⟩=some (.slice a k c)∧W'.cell? ⟨w.heap.size,0,none⟩=some (.slice pv nv cv)∧W'.cell? ⟨w.heap.size,1,none⟩=some (.slice pa na ca)∧W'.cell? ⟨w.heap.size,2,none⟩=some (.slice pu nu cu)∧W'.cell? ⟨wr.heap.size,0,none⟩=some (.int .i64 m.k)∧W'.cell? ⟨wr.heap.size,1,none⟩=some (.int .i64 m.v)∧W'.cell? ⟨wr.heap.size,2,none⟩=some (.slice m.p m.n m.c)) 8 (fun W d=>⟨Bk.kc d0 d 2,Bk.kc b0 d 0,Bk.kc b0 d 1,Bk.kc b0 d 2,Bk.kc a0 d 0,Bk.kc a0 d 1,Bk.kc a0 d 2⟩) (fun w8 h0 hHeld=>?_);have m0:=hG.below (kpE D) h0;have p0:=btr o0 h0;have z2:=h0.size;replace e0:=Kc h0 e0;replace e1:=Kc h0 e1;replace e2:=Kc h0 e2;replace k0:=btr k0 h0;clear o0;have o0:=p0;clear p0;clear hG;have hG:=m0;clear m0;refine (Lq1 0 40 rfl rfl ?_ ?_ (Lq1 1 41 rfl rfl ?_ ?_ (Lq1 2 42 rfl rfl ?_ ?_ (Lq1 3 43 rfl rfl ?_ ?_ ?_))));iterate 4 (rotate_left;intro W' hSw;(try dsimp only at hSw);go_simp;try with_reducible rfl)
    try simp only [Ep]
    refine Lrdy 4 rfl (fun K hK=>?_);replace b0:=Bb b0 h0;obtain ⟨x1,j2,y1,k2,z1,l2⟩:=Bk.h3 b0;replace d0:=Bb d0 h0;obtain ⟨a2,n2⟩:=Bk.cf d0 2 rfl;replace a0:=Bb a0 h0;obtain ⟨b2,o2,c2,p2,d2,q2⟩:=Bk.h3 a0;go_simp
    refine (e3.out _ o0).mono ?_;rintro e w9 ⟨x,rfl,m1,i0⟩;have m0:=hG.below (kpE D) i0;have p0:=btr o0 i0;have a3:=i0.size;clear j2 x1 k2 y1 l2 z1 n2 a2 o2 b2 p2 c2 q2 d2;replace e0:=Kc i0 e0;replace e1:=Kc i0 e1;replace e2:=Kc i0 e2;replace k0:=btr k0 i0;clear o0;have o0:=p0;clear p0;clear hG;have hG:=m0;clear m0;replace g1:=Lc e0;replace b0:=Bb b0 i0;replace d0:=Bb d0 i0;replace a0:=Bb a0 i0;refine hK.out _ _ ⟨Bk.ce d0 2,Bk.ce b0 0,Bk.ce b0 1,Bk.ce b0 2,Bk.ce a0 0,Bk.ce a0 1,Bk.ce a0 2⟩ (fun hHeld=>?_);clear hK K;try simp only [Ep]
    refine Lrdy 5 rfl (fun K hK=>?_);go_simp
    generalize hnw:World.alloc _ _=w10;have c0:=nmh hnw;clear hnw
    have m0:=(hG.below (kpE D) (bal (Bs _) (.cells #[.int .i64 x.k,.int .i64 x.v,.slice x.p x.n x.c] 49))).below (kpE D) c0;replace m1:=ExAt.below (ExAt.below m1 (bal (Bs _) _)) c0;have p0:=btr (bal o0 (.cells #[.int .i64 x.k,.int .i64 x.v,.slice x.p x.n x.c] 49)) c0;have n0:=Ob (World.ownsRow_lit (base:=(w9).heap.size) (e:=49) (size:=3) (w9) #[.int .i64 x.k,.int .i64 x.v,.slice x.p x.n x.c] 1 Lr (by unfold maxLen;omega) (by simp)) c0;try simp only [Sa,Ss] at n0
    have d1:=c0.size;simp only [Sa] at d1;replace e0:=Kc c0 (Ac e0 _);replace e1:=Kc c0 (Ac e1 _);replace e2:=Kc c0 (Ac e2 _);have t0:=Bb (Bk.n3 (w9.heap.size)) c0;replace k0:=btr (bal k0 _) c0;have w0:=n0.lt;try simp only [Sa] at w0
    clear o0;have o0:=p0;clear p0;clear hG;have hG:=m0;clear m0;replace g1:=Lc e0;have b4:=Bk.lz t0;replace b0:=Bb (Bk.al b0 _) c0;replace d0:=Bb (Bk.al d0 _) c0;replace a0:=Bb (Bk.al a0 _) c0;refine hK.out _ _ ⟨Bk.ce d0 2,Bk.ce b0 0,Bk.ce b0 1,Bk.ce b0 2,Bk.ce a0 0,Bk.ce a0 1,Bk.ce a0 2⟩ (fun hHeld=>?_);clear hK K;try simp only [Ep]
    refine Lrdy 6 rfl (fun K hK=>?_);have b1:w10.ownsRow (w.heap.size+1+1+1+1) 49 3 (.slice a k c) k (rows enc rs):=by have h:=hG.own;rw [w2.out] at h;exact h
    have iK:∀ q,(Value.slice a k c).ownBlock=some q→w.heap.size+1+1+1 < q∧q < wr.heap.size:=fun q hq=>by have h2:=x2 q hq;omega
    refine step_aps tExprs rfl _ _ rfl (w.heap.size+1+1+1+1) _ k (rows enc rs) rfl b1 _ 1 (enc x) rfl (Ro n0 (by simp)) (one_enc x) (by omega) (by omega) ?_;intro vA t5 oA hc y2 _;obtain ⟨pA,tA,rfl⟩:=Oh oA;clear o0;have m0:=GrAt.push hG (kpE D) (by rw [w2.out];exact oA) hc y2 m1 (fun q (hq:w8.heap.size≤q) hl=>⟨by omega,fun h=>by have:=iK q h;omega⟩);have b3:=hc.size;replace e0:=Gc hc e0 (fun h=>by have:=iK _ h;omega);replace e1:=Gc hc e1 (fun h=>by have:=iK _ h;omega);replace e2:=Gc hc e2 (fun h=>by have:=iK _ h;omega);replace n0:=Ow n0 hc (fun gq h h2=>by have:=w0 gq h;have:=iK gq h2;omega);replace b0:=Bk.keep b0 hc (fun h=>by have:=iK _ h;omega);replace d0:=Bk.keep d0 hc (fun h=>by have:=iK _ h;omega);replace l0:=Bb (Bk.al (Bb (Bb l0 h0) i0) _) c0;replace l0:=Bk.keep l0 hc (fun h=>by have:=iK _ h;omega);replace a0:=Bk.keep a0 hc (fun h=>by have:=iK _ h;omega);replace t0:=Bk.keep t0 hc (fun h=>by have:=iK _ h;omega);replace k0:=k0.trans (hc.below w.heap.size (by have:=k0.size;omega) (fun gq hgq h=>by have:=iK gq h;omega));clear hc;clear hG;have hG:=m0;clear m0;clear y2 oA b1 iK m1 x2;refine hK.out _ _ ⟨Bk.ce d0 2,Bk.ce b0 0,Bk.ce b0 1,Bk.ce b0 2,Bk.ce a0 0,Bk.ce a0 1,Bk.ce a0 2⟩ (fun hHeld=>?_);clear hK K;try simp only [Ep]
    refine (Lq1 7 47 rfl rfl ?_ ?_ ?_);(rotate_left;intro W' hSw;(try dsimp only at hSw);go_simp;try with_reducible rfl)
    try simp only [Ep]
    refine Lend 8 rfl (fun K hK=>?_);obtain ⟨f2,r2⟩:=Bk.cf d0 2 rfl;go_simp
    generalize hnw:World.setCell _ _ _=w12;have j0:=nmh hnw;clear hnw
    have m0:=(hG.keep (kpE D) (C1 (w.heap.size+1+1+1) 2 (.slice pA (k+1) tA)) (fun q hq (h:q=(w.heap.size+1+1+1))=>by have:=hG.own.lt q hq;omega) (fun q hq _ (h:q=(w.heap.size+1+1+1))=>by omega)).below (kpE D) j0;have f1:=j0.size;simp only [Ss] at f1;clear r2 f2;replace e0:=Kc j0 (Nn e0 _);replace e1:=Kc j0 (Nn e1 _);replace e2:=Kc j0 (Nn e2 _);replace n0:=Ob (Oe n0 _ _ (fun h=>by have:=w0 _ h;omega) _) j0;replace k0:=btr (bst k0 (w.heap.size+1+1+1) 2 (by omega) (.slice pA (k+1) tA)) j0;clear hG;have hG:=m0;clear m0;refine hK.out _ _ trivial (fun hHeld=>?_);clear hK K;try simp only [Ep]
    refine Dn ?_;clear hHeld;have HG:=Hi hG;clear hG;replace d0:Bk w12 (w.heap.size+1+1+1) [.int .i64 nk,.int .i64 v2,.slice pA (k+1) tA]:=Bb (Bk.at d0 2 (.slice pA (k+1) tA)) j0;replace l0:=Bb (Bk.nn l0 _) j0;have s2:=Hi (Ai d0 l0);have j3:=Hi k0;replace b0:=Bb (Bk.nn b0 _) j0;have c3:=Hi b0;rw [← i3.out] at HG;obtain ⟨i4,t4⟩:=Bk.cf d0 2 rfl;go_wp2
    go_roundw
    case rel=>exact ⟨k+1,rs++[x],pA,tA,by omega,by go_num,HG.out,s2.out.1,s2.out.2,c3.out,j3.out,by omega⟩
    case measure=>simp [intOf];omega
   have k3:k=L.length:=by omega
   subst k3;have m3:decide (((L.length:Nat):Int) < (L.length:Int))=false:=decide_eq_false (by omega);rw [List.take_of_length_le Lr] at hG;have l1:=fun q hq=>hG.own.lt q hq
   have e5:Hid ((shL nv na L).length=L.length):=Hi (shL_len _ _ _);clear n1 IH HK;have d3:=Hi (((hG.keep (kpE D) (C1 (w.heap.size+1+1) 0 (.int .i64 nk)) (fun q hq (h:q=(w.heap.size+1+1))=>by have:=l1 q hq;omega) (fun q hq _ (h:q=(w.heap.size+1+1))=>by omega)).keep (kpE D) (C1 (w.heap.size+1+1) 1 (.int .i64 v2)) (fun q hq (h:q=(w.heap.size+1+1))=>by have:=l1 q hq;omega) (fun q hq _ (h:q=(w.heap.size+1+1))=>by omega)).keep (kpE D) (C1 (w.heap.size+1+1) 2 (.slice a L.length c)) (fun q hq (h:q=(w.heap.size+1+1))=>by have:=l1 q hq;omega) (fun q hq _ (h:q=(w.heap.size+1+1))=>by omega));clear hG l1;obtain ⟨j4,v4,k4,w4,l4,x4⟩:=Bk.h3 d0;obtain ⟨m4,y4,n4,z4,o4,a5⟩:=Bk.h3 l0;obtain ⟨b5,c5,d5⟩:=Bk.g3 (Bk.t3 l0 (.int .i64 nk) (.int .i64 v2) (.slice a L.length c));have tt:=(bst (bst (bst x0 (w.heap.size+1+1) 0 (by omega) (.int .i64 nk)) (w.heap.size+1+1) 1 (by omega) (.int .i64 v2)) (w.heap.size+1+1) 2 (by omega) (.slice a L.length c));go_wp2
   exact bodyPost_ret (v:=.agg #[.int .i64 nk,.int .i64 v2,.slice a L.length c]) (by simp [results,Try.results65,go_sem,b5,c5,d5]) rfl (by exact (by unfold CpE;exact ⟨⟨nk,v2,a,L.length,c⟩,rfl,⟨rfl,rfl,d3.out.row (kpE D) (fun q hq _=>by omega) (fun q hq _=>by omega)⟩,tt⟩))
end Go.Proofs.Ytlckklglbodgbaa
