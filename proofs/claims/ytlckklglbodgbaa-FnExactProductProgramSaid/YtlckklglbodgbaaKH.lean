/-
 Parts of the proofs of the laws FnExactProductProgram.
-/
import Derived.Test.YtlckklglbodgbaaKC
set_option linter.all false
namespace Go.Proofs.Ytlckklglbodgbaa
open Go.RowKit
def CpE (D:Nat) (e:Ex) (w:World) (r:Ending) (w':World):Prop:=∃ m:En,r=.returned (.agg #[.int .i64 m.k,.int .i64 m.v,.slice m.p m.n m.c])∧ExAt w' (fun q=>w.heap.size≤q) D m e∧Below w.heap.size w w'
set_option maxHeartbeats 6400000 in
set_option maxRecDepth 100000 in
theorem l2CopyExpr_any (A:Nat→Prop):∀ (D:Nat) (n:En) (e:Ex) (w:World),ExAt w A D n e→exN e≤1048576→Calls Try.prog 58 #[.agg #[.int .i64 n.k,.int .i64 n.v,.slice n.p n.n n.c]] w fun r w'=>CpE D e w r w':=by
 intro D
 induction D with
 | zero=>intro n e w h;cases h
 | succ D IH0 =>
  intro n e w hx n2;obtain ⟨ek,ev,L⟩:=e;have hn:=hx.shape;have HK:=Hi (fun W (hW:Below w.heap.size w W) j hj=>(hx.below hW).kidm j hj);have k2:L.length≤1048576:=by have:=exNs_len L;have h2:=exN_kids (.mk ek ev L);simp only [Ex.kids] at h2;omega
  have b1:Hid (∀ k (h:k < L.length),exN L[k]≤1048576):=Hi (fun k h=>by have:=exNs_at h;have h2:=exN_kids (.mk ek ev L);simp only [Ex.kids] at h2;omega);have IH:=Hi IH0;clear IH0 hx n2;obtain ⟨nk,k0,np,c4,nc⟩:=n;simp only [Ex.k,Ex.v,Ex.kids] at hn;obtain ⟨rfl,rfl,rfl⟩:=hn;go_enter Try.func58,Try.ntmps58
  go_upto_region 2 with (fail)
  generalize hnw:World.alloc _ _=w1;have hb:=nmh hnw;clear hnw
  have g1:=hb.size;simp only [Sa] at g1;have d1:=Bb (Bk.al (Bk.al (Bk.n3 (w.heap.size)) (.cells #[.int .i64 0,.int .i64 0,.slice none 0 0] 49)) (.cells #[.int .i64 nk,.int .i64 k0,.slice none 0 0] 49)) hb;have f1:=Bb (Bk.al (Bk.n3 (w.heap.size+1)) (.cells #[.int .i64 nk,.int .i64 k0,.slice none 0 0] 49)) hb;have y0:=Bb (Bk.n3 (w.heap.size+1+1)) hb;have i0:=btr (bal (bal (bal (Bs w) (.cells #[.int .i64 nk,.int .i64 k0,.slice np L.length nc] 49)) (.cells #[.int .i64 0,.int .i64 0,.slice none 0 0] 49)) (.cells #[.int .i64 nk,.int .i64 k0,.slice none 0 0] 49)) hb;clear hb;have z3:=Bk.lz d1;have a4:=Bk.lz f1;have b4:=Bk.lz y0;obtain ⟨a3,k3,h1,n1,p0,o1⟩:=Bk.h3 d1;obtain ⟨i1,p1,j1,q1,k1,r1⟩:=Bk.h3 y0;have HC:=Hi (fun W (hW:Below w1.heap.size w1 W)=>Kc hW p0);have r3:w.heap.size≤w.heap.size∧w.heap.size < w1.heap.size∧w.heap.size+1 < w1.heap.size∧w.heap.size < w.heap.size+1∧w.heap.size+1 < w.heap.size+1+1:=by omega
  have r0:=Hi (Ai y0 (Ai f1 (Ai p0 i0)));clear i0 d1 f1 y0 a3 k3 h1 n1 p0 o1 i1 p1 j1 q1 k1 r1;go_wp2_with fail
  go_loopw [4] (fun i wr=>∃ (k:Nat) (rs:List En) (a:Option Addr) (c:Nat),k≤L.length∧i=.int .i64 k∧GrAt enc 3 49 (fun W A n x=>ExAt W A D n x) (fun q=>w.heap.size+1+1 < q) wr (w.heap.size+1+1+1) (.slice a k c) rs (L.take k)∧Bk wr (w.heap.size+1+1) [.int .i64 nk,.int .i64 k0,.slice a k c]∧Bk wr (w.heap.size+1) [.int .i64 0,.int .i64 0,.slice none 0 0]∧wr.cell? ⟨w.heap.size,2,none⟩=some (.slice np L.length nc)∧Below w.heap.size w wr∧w1.heap.size≤wr.heap.size) (fun i _=>L.length-(intOf i).toNat)
  case atStart=>exact ⟨0,[],none,0,Nat.zero_le _,rfl,GrAt.nil,r0.out.1,r0.out.2.1,r0.out.2.2.1,r0.out.2.2.2,Lr⟩
  case round =>
   obtain ⟨k,rs,a,c,hk,rfl,hG,f0,j0,c1,q0,s3⟩:=hrel;clear r0 HC;have v3:=Lc c1;have y3:=Bk.lz f0;have x3:=Bk.lz j0;by_cases hlt:k < L.length
   ·have l2:(k:Int) < (L.length:Int):=by omega
    obtain ⟨kb,ko,m,hp,_,p3,hm,e0,e1,e2⟩:=HK.out wr q0 k hlt;try simp only at hp
    subst hp;have q3:kb < w.heap.size:=by obtain ⟨j0,ko2,m2,hp2,_,h2,_⟩:=HK.out w (Bs w) k hlt;simp at hp2;omega
    have HM:=Hi hm;have x1:Hid ((L.take k).length=k):=Hi (by rw [List.length_take];omega);have g2:Hid (L.take (k+1)=L.take k++[L[k]]):=Hi (List.take_succ_eq_append_getElem hlt);have HS:=Hi (b1.out k hlt);clear hm b1;generalize L[k]=y at *
    have ke:=Lc e0;have y1:=fun q hq=>hG.own.lt q hq
    have f2:=Hi (fun W (hW:Below wr.heap.size wr W)=>IH.out m y W (HM.out.below hW) HS.out);clear HM HK;go_upto_region 5 with (fail)
    have w0:=Lc c1;have o2:=Bk.lz f0;have p2:=Bk.lz j0;have x0:=Lc e0;refine Rgl (S:=fun W'=>W'.cell? ⟨w.heap.size+1+1,2,none⟩=some (.slice a k c)∧W'.cell? ⟨w.heap.size,2,none⟩=some (.slice (some ⟨kb,ko,none⟩) L.length nc)∧W'.cell? ⟨kb,ko+k*3,none⟩=some (.int .i64 m.k)∧W'.cell? ⟨kb,ko+k*3+1,none⟩=some (.int .i64 m.v)∧W'.cell? ⟨kb,ko+k*3+2,none⟩=some (.slice m.p m.n m.c)) 11 (fun W d=>⟨Bk.kc f0 d 2,Kc d c1,Kc d e0,Kc d e1,Kc d e2⟩) (fun w2 b0 hHeld=>?_);have h0:=hG.below (kpE D) b0;have m0:=btr (Bs wr) b0;have a2:=b0.size;replace c1:=Kc b0 c1;replace e0:=Kc b0 e0;replace e1:=Kc b0 e1;replace e2:=Kc b0 e2;replace i0:=btr q0 b0;have l0:=m0;clear m0;clear hG;have hG:=h0;clear h0;refine (Lq1 0 17 rfl rfl ?_ ?_ (Lq1 1 18 rfl rfl ?_ ?_ (Lq1 2 19 rfl rfl ?_ ?_ (Lq1 3 20 rfl rfl ?_ ?_ (Lq1 4 21 rfl rfl ?_ ?_ (Lq1 5 22 rfl rfl ?_ ?_ (Lq1 6 23 rfl rfl ?_ ?_ ?_)))))));iterate 7 (rotate_left;intro W' hSw;(try dsimp only at hSw);go_simp;try with_reducible rfl)
    try simp only [Ep]
    refine Lrdy 7 rfl (fun K hK=>?_);replace f0:=Bb f0 b0;obtain ⟨l1,s1⟩:=Bk.cf f0 2 rfl;go_simp
    refine (f2.out _ l0).mono ?_;rintro e w3 ⟨x,rfl,a1,c0⟩;have h0:=hG.below (kpE D) c0;have m0:=btr l0 c0;have b2:=c0.size;clear s1 l1;replace c1:=Kc c0 c1;replace e0:=Kc c0 e0;replace e1:=Kc c0 e1;replace e2:=Kc c0 e2;replace i0:=btr i0 c0;clear l0;have l0:=m0;clear m0;clear hG;have hG:=h0;clear h0;replace w0:=Lc c1;replace x0:=Lc e0;replace f0:=Bb f0 c0;refine hK.out _ _ ⟨Bk.ce f0 2,c1,e0,e1,e2⟩ (fun hHeld=>?_);clear hK K;try simp only [Ep]
    refine Lrdy 8 rfl (fun K hK=>?_);go_simp
    generalize hnw:World.alloc _ _=w4;have a0:=nmh hnw;clear hnw
    have h0:=(hG.below (kpE D) (bal (Bs _) (.cells #[.int .i64 x.k,.int .i64 x.v,.slice x.p x.n x.c] 49))).below (kpE D) a0;replace a1:=ExAt.below (ExAt.below a1 (bal (Bs _) _)) a0;have m0:=btr (bal l0 (.cells #[.int .i64 x.k,.int .i64 x.v,.slice x.p x.n x.c] 49)) a0;have g0:=Ob (World.ownsRow_lit (base:=(w3).heap.size) (e:=49) (size:=3) (w3) #[.int .i64 x.k,.int .i64 x.v,.slice x.p x.n x.c] 1 Lr (by unfold maxLen;omega) (by simp)) a0;try simp only [Sa,Ss] at g0
    have t0:=a0.size;simp only [Sa] at t0;replace c1:=Kc a0 (Ac c1 _);replace e0:=Kc a0 (Ac e0 _);replace e1:=Kc a0 (Ac e1 _);replace e2:=Kc a0 (Ac e2 _);have n0:=Bb (Bk.n3 (w3.heap.size)) a0;replace i0:=btr (bal i0 _) a0;have o0:=g0.lt;try simp only [Sa] at o0
    clear l0;have l0:=m0;clear m0;clear hG;have hG:=h0;clear h0;replace w0:=Lc c1;replace x0:=Lc e0;have q2:=Bk.lz n0;replace f0:=Bb (Bk.al f0 _) a0;refine hK.out _ _ ⟨Bk.ce f0 2,c1,e0,e1,e2⟩ (fun hHeld=>?_);clear hK K;try simp only [Ep]
    refine Lrdy 9 rfl (fun K hK=>?_);have s0:w4.ownsRow (w.heap.size+1+1+1) 49 3 (.slice a k c) k (rows enc rs):=by have h:=hG.own;rw [x1.out] at h;exact h
    have iK:∀ q,(Value.slice a k c).ownBlock=some q→w.heap.size+1+1 < q∧q < wr.heap.size:=fun q hq=>by have h2:=y1 q hq;omega
    refine step_aps tExprs rfl _ _ rfl (w.heap.size+1+1+1) _ k (rows enc rs) rfl s0 _ 1 (enc x) rfl (Ro g0 (by simp)) (one_enc x) (by omega) (by omega) ?_;intro vA w5 oA hc z1 _;obtain ⟨pA,tA,rfl⟩:=Oh oA;clear l0;have h0:=GrAt.push hG (kpE D) (by rw [x1.out];exact oA) hc z1 a1 (fun q (hq:w2.heap.size≤q) hl=>⟨by omega,fun h=>by have:=iK q h;omega⟩);have c2:=hc.size;replace c1:=Gc hc c1 (fun h=>by have:=iK _ h;omega);replace e0:=Gc hc e0 (fun h=>by have:=iK _ h;omega);replace e1:=Gc hc e1 (fun h=>by have:=iK _ h;omega);replace e2:=Gc hc e2 (fun h=>by have:=iK _ h;omega);replace g0:=Ow g0 hc (fun gq h h2=>by have:=o0 gq h;have:=iK gq h2;omega);replace f0:=Bk.keep f0 hc (fun h=>by have:=iK _ h;omega);replace j0:=Bb (Bk.al (Bb (Bb j0 b0) c0) _) a0;replace j0:=Bk.keep j0 hc (fun h=>by have:=iK _ h;omega);replace n0:=Bk.keep n0 hc (fun h=>by have:=iK _ h;omega);replace i0:=i0.trans (hc.below w.heap.size (by have:=i0.size;omega) (fun gq hgq h=>by have:=iK gq h;omega));clear hc;clear hG;have hG:=h0;clear h0;clear z1 oA s0 iK a1 y1;refine hK.out _ _ ⟨Bk.ce f0 2,c1,e0,e1,e2⟩ (fun hHeld=>?_);clear hK K;try simp only [Ep]
    refine (Lq1 10 27 rfl rfl ?_ ?_ ?_);(rotate_left;intro W' hSw;(try dsimp only at hSw);go_simp;try with_reducible rfl)
    try simp only [Ep]
    refine Lend 11 rfl (fun K hK=>?_);obtain ⟨m1,t1⟩:=Bk.cf f0 2 rfl;go_simp
    generalize hnw:World.setCell _ _ _=w6;have d0:=nmh hnw;clear hnw
    have h0:=(hG.keep (kpE D) (C1 (w.heap.size+1+1) 2 (.slice pA (k+1) tA)) (fun q hq (h:q=(w.heap.size+1+1))=>by have:=hG.own.lt q hq;omega) (fun q hq _ (h:q=(w.heap.size+1+1))=>by omega)).below (kpE D) d0;have v0:=d0.size;simp only [Ss] at v0;clear t1 m1;replace c1:=Kc d0 (Nn c1 _);replace e0:=Kc d0 (Nn e0 _);replace e1:=Kc d0 (Nn e1 _);replace e2:=Kc d0 (Nn e2 _);replace g0:=Ob (Oe g0 _ _ (fun h=>by have:=o0 _ h;omega) _) d0;replace i0:=btr (bst i0 (w.heap.size+1+1) 2 (by omega) (.slice pA (k+1) tA)) d0;clear hG;have hG:=h0;clear h0;refine hK.out _ _ trivial (fun hHeld=>?_);clear hK K;try simp only [Ep]
    refine Dn ?_;clear hHeld;have HG:=Hi hG;clear hG;replace f0:Bk w6 (w.heap.size+1+1) [.int .i64 nk,.int .i64 k0,.slice pA (k+1) tA]:=Bb (Bk.at f0 2 (.slice pA (k+1) tA)) d0;replace j0:=Bb (Bk.nn j0 _) d0;have v1:=Hi (Ai f0 j0);have i2:=Hi i0;rw [← g2.out] at HG;obtain ⟨r2,b3⟩:=Bk.cf f0 2 rfl;go_wp2
    go_roundw
    case rel=>exact ⟨k+1,rs++[x],pA,tA,by omega,by go_num,HG.out,v1.out.1,v1.out.2,c1,i2.out,by omega⟩
    case measure=>simp [intOf];omega
   have j2:k=L.length:=by omega
   subst j2;have l2:decide (((L.length:Nat):Int) < (L.length:Int))=false:=decide_eq_false (by omega);rw [List.take_of_length_le Lr] at hG;have z0:=fun q hq=>hG.own.lt q hq
   clear b1 IH HK;have d2:=Hi (((hG.keep (kpE D) (C1 (w.heap.size+1) 0 (.int .i64 nk)) (fun q hq (h:q=(w.heap.size+1))=>by have:=z0 q hq;omega) (fun q hq _ (h:q=(w.heap.size+1))=>by omega)).keep (kpE D) (C1 (w.heap.size+1) 1 (.int .i64 k0)) (fun q hq (h:q=(w.heap.size+1))=>by have:=z0 q hq;omega) (fun q hq _ (h:q=(w.heap.size+1))=>by omega)).keep (kpE D) (C1 (w.heap.size+1) 2 (.slice a L.length c)) (fun q hq (h:q=(w.heap.size+1))=>by have:=z0 q hq;omega) (fun q hq _ (h:q=(w.heap.size+1))=>by omega));clear hG z0;obtain ⟨s2,c3,t2,d3,v2,e3⟩:=Bk.h3 f0;obtain ⟨x2,f3,y2,i3,z2,j3⟩:=Bk.h3 j0;obtain ⟨l3,m3,o3⟩:=Bk.g3 (Bk.t3 j0 (.int .i64 nk) (.int .i64 k0) (.slice a L.length c));have tt:=(bst (bst (bst q0 (w.heap.size+1) 0 (by omega) (.int .i64 nk)) (w.heap.size+1) 1 (by omega) (.int .i64 k0)) (w.heap.size+1) 2 (by omega) (.slice a L.length c));go_wp2
   exact bodyPost_ret (v:=.agg #[.int .i64 nk,.int .i64 k0,.slice a L.length c]) (by simp [results,Try.results58,go_sem,l3,m3,o3]) rfl (by exact (by unfold CpE;exact ⟨⟨nk,k0,a,L.length,c⟩,rfl,⟨rfl,rfl,d2.out.row (kpE D) (fun q hq _=>by omega) (fun q hq _=>by omega)⟩,tt⟩))
end Go.Proofs.Ytlckklglbodgbaa
