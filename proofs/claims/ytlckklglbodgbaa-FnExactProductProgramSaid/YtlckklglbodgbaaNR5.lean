/-
 Parts of the proofs of the laws FnExactProductProgram.
-/
import Derived.Test.YtlckklglbodgbaaKM
set_option linter.all false
namespace Go.Proofs.Ytlckklglbodgbaa
open Go.RowKit
theorem shL_app (nv na:Int) (a b:List Ex):shL nv na (a++b)=shL nv na a++shL nv na b:=by
 induction a with
 | nil=>rfl
 | cons e a ih=>simp only [List.cons_append,shL,ih]
theorem shL_len (nv na:Int) (a:List Ex):(shL nv na a).length=a.length:=by
 induction a with
 | nil=>rfl
 | cons e a ih=>simp only [shL,List.length_cons,ih]
theorem shL_take (nv na:Int) {L:List Ex} {k:Nat} (h:k < L.length):shL nv na (L.take (k+1))=shL nv na (L.take k)++[shE nv na L[k]]:=by
 rw [List.take_succ_eq_append_getElem h,shL_app];simp only [shL]
theorem shift_ok {nv na d:Nat} {k v:Int} {l:List Ex} (h:exOk nv na (d+1) (.mk k v l)=true∨noneE (.mk k v l)=true):0≤v∧(k=2→v < nv)∧(k=3→v < na)∧∀ y ∈ l,exOk nv na d y=true:=by
 rcases h with h | h
 ·have h1:=exOk_lim h;exact ⟨h1.1,fun e=>by subst e;simpa [limitOf] using h1.2,fun e=>by subst e;simpa [limitOf] using h1.2,exOk_kids h⟩
 simp only [noneE,Ex.k,Ex.v,Ex.kids,Bool.and_eq_true,beq_iff_eq] at h;obtain ⟨rfl,rfl,h3⟩:=h;rw [List.eq_nil_of_length_eq_zero (of_decide_eq_true h3)];exact ⟨by omega,by omega,by omega,by simp⟩
theorem shE_mk (nv na k v:Int) (l:List Ex):shE nv na (.mk k v l)=.mk k (if k=3 then (if k=2 then v+nv else v)+na else if k=2 then v+nv else v) (shL nv na l):=by
 by_cases h2:k=2
 ·subst h2;simp [shE]
 simp [shE,h2]
set_option maxHeartbeats 6400000 in
set_option maxRecDepth 100000 in
theorem l13Shift_any (nv na:Nat) (hnv:nv≤1000000000∧na≤1000000000) (A:Nat→Prop):∀ (D d:Nat) (n:En) (e:Ex) (w:World),ExAt w A D n e→(exOk nv na d e=true∨noneE e=true)→exN e≤1048576→Calls Try.prog 59 #[.agg #[.int .i64 n.k,.int .i64 n.v,.slice n.p n.n n.c],.int .i64 (nv:Int),.int .i64 (na:Int)] w fun r w'=>CpE D (shE nv na e) w r w':=by
 intro D
 induction D with
 | zero=>intro d n e w h;cases h
 | succ D IH0 =>
  intro d n e w hx q0 x2
  replace q0:∃ d,exOk nv na (d+1) e=true∨noneE e=true:=by
   cases d with
   | zero=>exact ⟨0,Or.inr (by rcases q0 with h | h;cases h;exact h)⟩
   | succ d=>exact ⟨d,q0⟩
  obtain ⟨d,q0⟩:=q0;obtain ⟨ek,ev,L⟩:=e;obtain ⟨y2,f1,g1,c2⟩:=shift_ok q0;have hn:=hx.shape;have HK:=Hi (fun W (hW:Below w.heap.size w W) j hj=>(hx.below hW).kidm j hj);have t2:L.length≤1048576:=by have:=exNs_len L;have h2:=exN_kids (.mk ek ev L);simp only [Ex.kids] at h2;omega
  have k1:Hid (∀ k (h:k < L.length),exN L[k]≤1048576∧exOk nv na d L[k]=true):=Hi (fun k h=>⟨by have:=exNs_at h;have h2:=exN_kids (.mk ek ev L);simp only [Ex.kids] at h2;omega,c2 _ (List.getElem_mem h)⟩);have IH:=Hi IH0;clear IH0 hx x2 q0 c2;obtain ⟨nk,c0,np,f5,nc⟩:=n;simp only [Ex.k,Ex.v,Ex.kids] at hn;obtain ⟨rfl,rfl,rfl⟩:=hn;obtain ⟨v1,hv1e⟩:∃ X,X=(if nk=2 then c0+nv else c0):=⟨_,rfl⟩;obtain ⟨v2,hv2e⟩:∃ X,X=(if nk=3 then v1+na else v1):=⟨_,rfl⟩;have p2:Hid (shE nv na (.mk nk c0 L)=.mk nk v2 (shL nv na L)):=Hi (by rw [shE_mk,hv2e,hv1e]);replace f1:=Hi f1;replace g1:Hid (nk=3→c0 < na∧v1=c0):=Hi (fun h=>⟨g1 h,by subst h;rw [hv1e,if_neg (by decide)]⟩);have l1:=Hi hv1e;have m1:=Hi hv2e;clear hv1e hv2e;rw [p2.out];go_enter Try.func59,Try.ntmps59
  go_upto_region 2 with (fail)
  generalize hnw:World.alloc _ _=w1;have hb:=nmh hnw;clear hnw
  have o1:=hb.size;simp only [Sa] at o1;have v0:=Bb (Bk.al (Bk.al (Bk.n3 (w.heap.size)) (.cells #[.int .i64 0,.int .i64 0,.slice none 0 0] 49)) (.cells #[.int .i64 nk,.int .i64 c0,.slice none 0 0] 49)) hb;have h1:=Bb (Bk.al (Bk.n3 (w.heap.size+1)) (.cells #[.int .i64 nk,.int .i64 c0,.slice none 0 0] 49)) hb;have x0:=Bb (Bk.n3 (w.heap.size+1+1)) hb;have i0:=btr (bal (bal (bal (Bs w) (.cells #[.int .i64 nk,.int .i64 c0,.slice np L.length nc] 49)) (.cells #[.int .i64 0,.int .i64 0,.slice none 0 0] 49)) (.cells #[.int .i64 nk,.int .i64 c0,.slice none 0 0] 49)) hb;clear hb;have c5:=Bk.lz v0;have d5:=Bk.lz h1;have e5:=Bk.lz x0;have x4:w.heap.size≤w.heap.size∧w.heap.size+1+1 < w1.heap.size∧w.heap.size+1 < w1.heap.size∧w.heap.size < w.heap.size+1∧w.heap.size+1 < w.heap.size+1+1:=by omega
  obtain ⟨b4,n4⟩:=Bk.cf v0 0 rfl;go_upto_if 16 with (fail)
  go_cut [] (fun wx=>Bk wx (w.heap.size+1+1) [.int .i64 nk,.int .i64 v1,.slice none 0 0]∧Bk wx (w.heap.size+1) [.int .i64 0,.int .i64 0,.slice none 0 0]∧Bk wx (w.heap.size) [.int .i64 nk,.int .i64 c0,.slice np L.length nc]∧Below w.heap.size w wx∧w1.heap.size≤wx.heap.size)
  case first =>
   by_cases h:nk=2
   ·have l3:(nk == 2)=true:=by simp [h]
    have HH:=Hi h;clear h;have v4:=f1.out HH.out;obtain ⟨o3,c4⟩:=Bk.cf v0 1 rfl;obtain ⟨p3,d4⟩:=Bk.cf x0 1 rfl;have l0:=(Bk.at x0 1 (.int .i64 (c0+(nv:Int))));have HX:=Hi (Ai l0 (Ai (Bk.nn (b':=(w.heap.size+1+1)) (j':=1) h1 (.int .i64 (c0+(nv:Int)))) (Ai (Bk.nn (b':=(w.heap.size+1+1)) (j':=1) v0 (.int .i64 (c0+(nv:Int)))) (bst i0 (w.heap.size+1+1) 1 (by omega) (.int .i64 (c0+(nv:Int)))))));clear l0;go_wp2_with fail
    go_meet
    exact ⟨(congrArg (fun X=>Bk _ (w.heap.size+1+1) [.int .i64 nk,.int .i64 X,.slice none 0 0]) (show c0+(nv:Int)=v1 by rw [l1.out,if_pos HH.out])).mp HX.out.1,HX.out.2.1,HX.out.2.2.1,HX.out.2.2.2,by (try simp only [Ss]);omega⟩
   have l3:(nk == 2)=false:=by simp [h]
   have HH:=Hi h;clear h;have l0:=x0;have HX:=Hi (Ai l0 (Ai h1 (Ai v0 i0)));clear l0;go_wp2_with fail
   go_meet
   exact ⟨(congrArg (fun X=>Bk _ (w.heap.size+1+1) [.int .i64 nk,.int .i64 X,.slice none 0 0]) (show c0=v1 by rw [l1.out,if_neg HH.out])).mp HX.out.1,HX.out.2.1,HX.out.2.2.1,HX.out.2.2.2,by (try simp only [Ss]);omega⟩
  obtain ⟨w6,rfl⟩:∃ X,X=wc:=⟨_,rfl⟩;clear i0 v0 h1 x0 b4 n4;obtain ⟨a0,h0,m0,i0,z2⟩:=hcut;have a3:=Bk.lz a0;have b3:=Bk.lz h0;have c3:=Bk.lz m0;obtain ⟨p1,s1⟩:=Bk.cf m0 0 rfl;go_upto_if 24 with (fail)
  go_cut [] (fun wx=>Bk wx (w.heap.size+1+1) [.int .i64 nk,.int .i64 v2,.slice none 0 0]∧Bk wx (w.heap.size+1) [.int .i64 0,.int .i64 0,.slice none 0 0]∧Bk wx (w.heap.size) [.int .i64 nk,.int .i64 c0,.slice np L.length nc]∧Below w.heap.size w wx∧w1.heap.size≤wx.heap.size)
  case first =>
   by_cases h:nk=3
   ·have m3:(nk == 3)=true:=by simp [h]
    have HH:=Hi h;clear h;have n1:=g1.out HH.out;have w4:=n1.1;have H5:=Hi n1.2;clear n1;obtain ⟨q3,e4⟩:=Bk.cf a0 1 rfl;obtain ⟨r3,f4⟩:=Bk.cf m0 1 rfl;have l0:=(Bk.at a0 1 (.int .i64 (c0+(na:Int))));have HX:=Hi (Ai l0 (Ai (Bk.nn (b':=(w.heap.size+1+1)) (j':=1) h0 (.int .i64 (c0+(na:Int)))) (Ai (Bk.nn (b':=(w.heap.size+1+1)) (j':=1) m0 (.int .i64 (c0+(na:Int)))) (bst i0 (w.heap.size+1+1) 1 (by omega) (.int .i64 (c0+(na:Int)))))));clear l0;go_wp2_with fail
    go_meet
    exact ⟨(congrArg (fun X=>Bk _ (w.heap.size+1+1) [.int .i64 nk,.int .i64 X,.slice none 0 0]) (show c0+(na:Int)=v2 by rw [m1.out,if_pos HH.out,H5.out])).mp HX.out.1,HX.out.2.1,HX.out.2.2.1,HX.out.2.2.2,by (try simp only [Ss]);omega⟩
   have m3:(nk == 3)=false:=by simp [h]
   have HH:=Hi h;clear h;have l0:=a0;have HX:=Hi (Ai l0 (Ai h0 (Ai m0 i0)));clear l0;go_wp2_with fail
   go_meet
   exact ⟨(congrArg (fun X=>Bk _ (w.heap.size+1+1) [.int .i64 nk,.int .i64 X,.slice none 0 0]) (show v1=v2 by rw [m1.out,if_neg HH.out])).mp HX.out.1,HX.out.2.1,HX.out.2.2.1,HX.out.2.2.2,by (try simp only [Ss]);omega⟩
  obtain ⟨z1,rfl⟩:∃ X,X=wc:=⟨_,rfl⟩;clear i0 a0 h0 m0 p1 s1;obtain ⟨a0,h0,m0,i0,l2⟩:=hcut;have d3:=Bk.lz a0;have e3:=Bk.lz h0;have f3:=Bk.lz m0;clear l1 m1 f1 g1 y2;obtain ⟨s0,t1⟩:=Bk.cf m0 2 rfl;have HC:=Hi (fun W (hW:Below z1.heap.size z1 W)=>Kc hW s0);have w0:=Hi (Ai a0 (Ai h0 (Ai s0 i0)));clear i0 a0 h0 m0 s0 t1;go_wp2_with fail
  go_loopw [8] (fun i wr=>∃ (k:Nat) (rs:List En) (a:Option Addr) (c:Nat),k≤L.length∧i=.int .i64 k∧GrAt enc 3 49 (fun W A n x=>ExAt W A D n x) (fun q=>w.heap.size+1+1 < q) wr (w.heap.size+1+1+1) (.slice a k c) rs (shL nv na (L.take k))∧Bk wr (w.heap.size+1+1) [.int .i64 nk,.int .i64 v2,.slice a k c]∧Bk wr (w.heap.size+1) [.int .i64 0,.int .i64 0,.slice none 0 0]∧wr.cell? ⟨w.heap.size,2,none⟩=some (.slice np L.length nc)∧Below w.heap.size w wr∧z1.heap.size≤wr.heap.size) (fun i _=>L.length-(intOf i).toNat)
  case atStart=>exact ⟨0,[],none,0,Nat.zero_le _,rfl,GrAt.nil,w0.out.1,w0.out.2.1,w0.out.2.2.1,w0.out.2.2.2,Lr⟩
  case round =>
   obtain ⟨k,rs,a,c,hk,rfl,hG,a0,h0,c1,t0,y4⟩:=hrel;clear w0 HC;have b5:=Bk.lz a0;have a5:=Bk.lz h0;have z4:=Lc c1;by_cases hlt:k < L.length
   ·have w2:(k:Int) < (L.length:Int):=by omega
    obtain ⟨kb,ko,m,hp,_,s4,hm,e0,e1,e2⟩:=HK.out wr t0 k hlt;try simp only at hp
    subst hp;have t4:kb < w.heap.size:=by obtain ⟨h0,ko2,m2,hp2,_,h2,_⟩:=HK.out w (Bs w) k hlt;simp at hp2;omega
    have HM:=Hi hm;have d2:Hid ((shL nv na (L.take k)).length=k):=Hi (by rw [shL_len,List.length_take];omega);have q2:Hid (shL nv na (L.take (k+1))=shL nv na (L.take k)++[shE nv na L[k]]):=Hi (shL_take nv na hlt);have HS:=Hi (k1.out k hlt);clear hm k1;generalize L[k]=y at *
    have ke:=Lc e0;have f2:=fun q hq=>hG.own.lt q hq
    have o2:=Hi (fun W (hW:Below wr.heap.size wr W)=>IH.out d m y W (HM.out.below hW) (Or.inl HS.out.2) HS.out.1);clear HM HK;go_upto_region 9 with (fail)
    have b1:=Lc c1;have i3:=Bk.lz a0;have j3:=Bk.lz h0;have d1:=Lc e0;refine Rgl (S:=fun W'=>W'.cell? ⟨w.heap.size+1+1,2,none⟩=some (.slice a k c)∧W'.cell? ⟨w.heap.size,2,none⟩=some (.slice (some ⟨kb,ko,none⟩) L.length nc)∧W'.cell? ⟨kb,ko+k*3,none⟩=some (.int .i64 m.k)∧W'.cell? ⟨kb,ko+k*3+1,none⟩=some (.int .i64 m.v)∧W'.cell? ⟨kb,ko+k*3+2,none⟩=some (.slice m.p m.n m.c)) 13 (fun W d=>⟨Bk.kc a0 d 2,Kc d c1,Kc d e0,Kc d e1,Kc d e2⟩) (fun w12 d0 hHeld=>?_);have k0:=hG.below (kpE D) d0;have o0:=btr (Bs wr) d0;have i2:=d0.size;replace c1:=Kc d0 c1;replace e0:=Kc d0 e0;replace e1:=Kc d0 e1;replace e2:=Kc d0 e2;replace i0:=btr t0 d0;have n0:=o0;clear o0;clear hG;have hG:=k0;clear k0;refine (Lq1 0 37 rfl rfl ?_ ?_ (Lq1 1 38 rfl rfl ?_ ?_ (Lq1 2 39 rfl rfl ?_ ?_ (Lq1 3 40 rfl rfl ?_ ?_ (Lq1 4 41 rfl rfl ?_ ?_ (Lq1 5 42 rfl rfl ?_ ?_ (Lq1 6 43 rfl rfl ?_ ?_ (Lq1 7 44 rfl rfl ?_ ?_ (Lq1 8 45 rfl rfl ?_ ?_ ?_)))))))));iterate 9 (rotate_left;intro W' hSw;(try dsimp only at hSw);go_simp;try with_reducible rfl)
    try simp only [Ep]
    refine Lrdy 9 rfl (fun K hK=>?_);replace a0:=Bb a0 d0;obtain ⟨q1,x1⟩:=Bk.cf a0 2 rfl;go_simp
    refine (o2.out _ n0).mono ?_;rintro e a2 ⟨x,rfl,j1,f0⟩;have k0:=hG.below (kpE D) f0;have o0:=btr n0 f0;have j2:=f0.size;clear x1 q1;replace c1:=Kc f0 c1;replace e0:=Kc f0 e0;replace e1:=Kc f0 e1;replace e2:=Kc f0 e2;replace i0:=btr i0 f0;clear n0;have n0:=o0;clear o0;clear hG;have hG:=k0;clear k0;replace b1:=Lc c1;replace d1:=Lc e0;replace a0:=Bb a0 f0;refine hK.out _ _ ⟨Bk.ce a0 2,c1,e0,e1,e2⟩ (fun hHeld=>?_);clear hK K;try simp only [Ep]
    refine Lrdy 10 rfl (fun K hK=>?_);go_simp
    generalize hnw:World.alloc _ _=w14;have b0:=nmh hnw;clear hnw
    have k0:=(hG.below (kpE D) (bal (Bs _) (.cells #[.int .i64 x.k,.int .i64 x.v,.slice x.p x.n x.c] 49))).below (kpE D) b0;replace j1:=ExAt.below (ExAt.below j1 (bal (Bs _) _)) b0;have o0:=btr (bal n0 (.cells #[.int .i64 x.k,.int .i64 x.v,.slice x.p x.n x.c] 49)) b0;have j0:=Ob (World.ownsRow_lit (base:=(a2).heap.size) (e:=49) (size:=3) (a2) #[.int .i64 x.k,.int .i64 x.v,.slice x.p x.n x.c] 1 Lr (by unfold maxLen;omega) (by simp)) b0;try simp only [Sa,Ss] at j0
    have z0:=b0.size;simp only [Sa] at z0;replace c1:=Kc b0 (Ac c1 _);replace e0:=Kc b0 (Ac e0 _);replace e1:=Kc b0 (Ac e1 _);replace e2:=Kc b0 (Ac e2 _);have p0:=Bb (Bk.n3 (a2.heap.size)) b0;replace i0:=btr (bal i0 _) b0;have r0:=j0.lt;try simp only [Sa] at r0
    clear n0;have n0:=o0;clear o0;clear hG;have hG:=k0;clear k0;replace b1:=Lc c1;replace d1:=Lc e0;have k3:=Bk.lz p0;replace a0:=Bb (Bk.al a0 _) b0;refine hK.out _ _ ⟨Bk.ce a0 2,c1,e0,e1,e2⟩ (fun hHeld=>?_);clear hK K;try simp only [Ep]
    refine Lrdy 11 rfl (fun K hK=>?_);have y0:w14.ownsRow (w.heap.size+1+1+1) 49 3 (.slice a k c) k (rows enc rs):=by have h:=hG.own;rw [d2.out] at h;exact h
    have iK:∀ q,(Value.slice a k c).ownBlock=some q→w.heap.size+1+1 < q∧q < wr.heap.size:=fun q hq=>by have h2:=f2 q hq;omega
    refine step_aps tExprs rfl _ _ rfl (w.heap.size+1+1+1) _ k (rows enc rs) rfl y0 _ 1 (enc x) rfl (Ro j0 (by simp)) (one_enc x) (by omega) (by omega) ?_;intro vA g5 oA hc g2 _;obtain ⟨pA,tA,rfl⟩:=Oh oA;clear n0;have k0:=GrAt.push hG (kpE D) (by rw [d2.out];exact oA) hc g2 j1 (fun q (hq:w12.heap.size≤q) hl=>⟨by omega,fun h=>by have:=iK q h;omega⟩);have k2:=hc.size;replace c1:=Gc hc c1 (fun h=>by have:=iK _ h;omega);replace e0:=Gc hc e0 (fun h=>by have:=iK _ h;omega);replace e1:=Gc hc e1 (fun h=>by have:=iK _ h;omega);replace e2:=Gc hc e2 (fun h=>by have:=iK _ h;omega);replace j0:=Ow j0 hc (fun gq h h2=>by have:=r0 gq h;have:=iK gq h2;omega);replace a0:=Bk.keep a0 hc (fun h=>by have:=iK _ h;omega);replace h0:=Bb (Bk.al (Bb (Bb h0 d0) f0) _) b0;replace h0:=Bk.keep h0 hc (fun h=>by have:=iK _ h;omega);replace p0:=Bk.keep p0 hc (fun h=>by have:=iK _ h;omega);replace i0:=i0.trans (hc.below w.heap.size (by have:=i0.size;omega) (fun gq hgq h=>by have:=iK gq h;omega));clear hc;clear hG;have hG:=k0;clear k0;clear g2 oA y0 iK j1 f2;refine hK.out _ _ ⟨Bk.ce a0 2,c1,e0,e1,e2⟩ (fun hHeld=>?_);clear hK K;try simp only [Ep]
    refine (Lq1 12 49 rfl rfl ?_ ?_ ?_);(rotate_left;intro W' hSw;(try dsimp only at hSw);go_simp;try with_reducible rfl)
    try simp only [Ep]
    refine Lend 13 rfl (fun K hK=>?_);obtain ⟨r1,y1⟩:=Bk.cf a0 2 rfl;go_simp
    generalize hnw:World.setCell _ _ _=w16;have g0:=nmh hnw;clear hnw
    have k0:=(hG.keep (kpE D) (C1 (w.heap.size+1+1) 2 (.slice pA (k+1) tA)) (fun q hq (h:q=(w.heap.size+1+1))=>by have:=hG.own.lt q hq;omega) (fun q hq _ (h:q=(w.heap.size+1+1))=>by omega)).below (kpE D) g0;have a1:=g0.size;simp only [Ss] at a1;clear y1 r1;replace c1:=Kc g0 (Nn c1 _);replace e0:=Kc g0 (Nn e0 _);replace e1:=Kc g0 (Nn e1 _);replace e2:=Kc g0 (Nn e2 _);replace j0:=Ob (Oe j0 _ _ (fun h=>by have:=r0 _ h;omega) _) g0;replace i0:=btr (bst i0 (w.heap.size+1+1) 2 (by omega) (.slice pA (k+1) tA)) g0;clear hG;have hG:=k0;clear k0;refine hK.out _ _ trivial (fun hHeld=>?_);clear hK K;try simp only [Ep]
    refine Dn ?_;clear hHeld;have HG:=Hi hG;clear hG;replace a0:Bk w16 (w.heap.size+1+1) [.int .i64 nk,.int .i64 v2,.slice pA (k+1) tA]:=Bb (Bk.at a0 2 (.slice pA (k+1) tA)) g0;replace h0:=Bb (Bk.nn h0 _) g0;have b2:=Hi (Ai a0 h0);have r2:=Hi i0;rw [← q2.out] at HG;obtain ⟨s3,g4⟩:=Bk.cf a0 2 rfl;go_wp2
    go_roundw
    case rel=>exact ⟨k+1,rs++[x],pA,tA,by omega,by go_num,HG.out,b2.out.1,b2.out.2,c1,r2.out,by omega⟩
    case measure=>simp [intOf];omega
   have s2:k=L.length:=by omega
   subst s2;have w2:decide (((L.length:Nat):Int) < (L.length:Int))=false:=decide_eq_false (by omega);rw [List.take_of_length_le Lr] at hG;have i1:=fun q hq=>hG.own.lt q hq
   have r4:Hid ((shL nv na L).length=L.length):=Hi (shL_len _ _ _);clear k1 IH HK;have n2:=Hi (((hG.keep (kpE D) (C1 (w.heap.size+1) 0 (.int .i64 nk)) (fun q hq (h:q=(w.heap.size+1))=>by have:=i1 q hq;omega) (fun q hq _ (h:q=(w.heap.size+1))=>by omega)).keep (kpE D) (C1 (w.heap.size+1) 1 (.int .i64 v2)) (fun q hq (h:q=(w.heap.size+1))=>by have:=i1 q hq;omega) (fun q hq _ (h:q=(w.heap.size+1))=>by omega)).keep (kpE D) (C1 (w.heap.size+1) 2 (.slice a L.length c)) (fun q hq (h:q=(w.heap.size+1))=>by have:=i1 q hq;omega) (fun q hq _ (h:q=(w.heap.size+1))=>by omega));clear hG i1;obtain ⟨v3,h4,w3,i4,x3,j4⟩:=Bk.h3 a0;obtain ⟨y3,k4,z3,l4,a4,m4⟩:=Bk.h3 h0;obtain ⟨o4,p4,q4⟩:=Bk.g3 (Bk.t3 h0 (.int .i64 nk) (.int .i64 v2) (.slice a L.length c));have tt:=(bst (bst (bst t0 (w.heap.size+1) 0 (by omega) (.int .i64 nk)) (w.heap.size+1) 1 (by omega) (.int .i64 v2)) (w.heap.size+1) 2 (by omega) (.slice a L.length c));go_wp2
   exact bodyPost_ret (v:=.agg #[.int .i64 nk,.int .i64 v2,.slice a L.length c]) (by simp [results,Try.results59,go_sem,o4,p4,q4]) rfl (by exact (by unfold CpE;exact ⟨⟨nk,v2,a,L.length,c⟩,rfl,⟨rfl,rfl,n2.out.row (kpE D) (fun q hq _=>by omega) (fun q hq _=>by omega)⟩,tt⟩))
end Go.Proofs.Ytlckklglbodgbaa
