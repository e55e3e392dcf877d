/-
 Parts of the proofs of the laws FnDoubleLabels.
-/
import Derived.Test.YtlckklglbodgbaaKF
import Derived.Test.YtlckklglbodgbaaPX
set_option linter.all false
namespace Go.Proofs.Ytlckklglbodgbaa
open Go.RowKit
def CpE (D:Nat) (e:Ex) (w:World) (r:Ending) (w':World):Prop:=∃ m:En,r=.returned (.agg #[.int .i64 m.k,.int .i64 m.v,.slice m.p m.n m.c])∧ExAt w' (fun q=>w.heap.size≤q) D m e∧Below w.heap.size w w'
set_option maxHeartbeats 6400000 in
set_option maxRecDepth 100000 in
theorem l2CopyExpr_any (A:Nat→Prop):∀ (D:Nat) (n:En) (e:Ex) (w:World),ExAt w A D n e→exN e≤1048576→Calls Try.prog 58 #[.agg #[.int .i64 n.k,.int .i64 n.v,.slice n.p n.n n.c]] w fun r w'=>CpE D e w r w':=by
 intro D
 induction D with
 | zero=>intro n e w h;cases h
 | succ D IH0 =>
  intro n e w hx l2;obtain ⟨ek,ev,L⟩:=e;have hn:=hx.shape;have HK:=Hi (fun W (hW:Below w.heap.size w W) j hj=>(hx.below hW).kidm j hj);have j2:L.length≤1048576:=by have:=exNs_len L;have h2:=exN_kids (.mk ek ev L);simp only [Ex.kids] at h2;omega
  have u0:Hid (∀ k (h:k < L.length),exN L[k]≤1048576):=Hi (fun k h=>by have:=exNs_at h;have h2:=exN_kids (.mk ek ev L);simp only [Ex.kids] at h2;omega);have IH:=Hi IH0;clear IH0 hx l2;obtain ⟨nk,c0,np,q3,nc⟩:=n;simp only [Ex.k,Ex.v,Ex.kids] at hn;obtain ⟨rfl,rfl,rfl⟩:=hn;go_enter Try.func58,Try.ntmps58
  go_upto_region 2 with (fail)
  generalize hnw:World.alloc _ _=w1;have hb:=nmh hnw;clear hnw
  have x0:=hb.size;simp only [Sa] at x0;have v0:Bk w1 (w.heap.size) [.int .i64 nk,.int .i64 c0,.slice np L.length nc]:=Bb (Bk.al (Bk.al (Bk.nw (by simp) rfl) (.cells #[.int .i64 0,.int .i64 0,.slice none 0 0] 49)) (.cells #[.int .i64 nk,.int .i64 c0,.slice none 0 0] 49)) hb;have w0:Bk w1 (w.heap.size+1) [.int .i64 0,.int .i64 0,.slice none 0 0]:=Bb (Bk.al (Bk.nw (by simp) rfl) (.cells #[.int .i64 nk,.int .i64 c0,.slice none 0 0] 49)) hb;have r0:Bk w1 (w.heap.size+1+1) [.int .i64 nk,.int .i64 c0,.slice none 0 0]:=Bb (Bk.nw (by simp) rfl) hb;have g0:=btr (bal (bal (bal (Bs w) (.cells #[.int .i64 nk,.int .i64 c0,.slice np L.length nc] 49)) (.cells #[.int .i64 0,.int .i64 0,.slice none 0 0] 49)) (.cells #[.int .i64 nk,.int .i64 c0,.slice none 0 0] 49)) hb;clear hb;have n3:=Bk.lz v0;have o3:=Bk.lz w0;have p3:=Bk.lz r0;obtain ⟨s2,b3,d1,n1,l0,o1⟩:=Bk.f3 v0 0 1 2 rfl rfl rfl;obtain ⟨f1,p1,g1,q1,h1,r1⟩:=Bk.f3 r0 0 1 2 rfl rfl rfl;have HC:=Hi (fun W (hW:Below w1.heap.size w1 W)=>Kc hW l0);have i3:w.heap.size≤w.heap.size∧w.heap.size < w1.heap.size∧w.heap.size+1 < w1.heap.size∧w.heap.size < w.heap.size+1∧w.heap.size+1 < w.heap.size+1+1:=by omega
  have n0:=Hi (Ai r0 (Ai w0 (Ai l0 g0)));clear g0 v0 w0 r0 s2 b3 d1 n1 l0 o1 f1 p1 g1 q1 h1 r1;go_wp2_with fail
  go_loopw [4] (fun i wr=>∃ (k:Nat) (rs:List En) (a:Option Addr) (c:Nat),k≤L.length∧i=.int .i64 k∧GrAt enc 3 49 (fun W A n x=>ExAt W A D n x) (fun q=>w.heap.size+1+1 < q) wr (w.heap.size+1+1+1) (.slice a k c) rs (L.take k)∧Bk wr (w.heap.size+1+1) [.int .i64 nk,.int .i64 c0,.slice a k c]∧Bk wr (w.heap.size+1) [.int .i64 0,.int .i64 0,.slice none 0 0]∧wr.cell? ⟨w.heap.size,2,none⟩=some (.slice np L.length nc)∧Below w.heap.size w wr∧w1.heap.size≤wr.heap.size) (fun i _=>L.length-(intOf i).toNat)
  case atStart=>exact ⟨0,[],none,0,Nat.zero_le _,rfl,GrAt.nil,n0.out.1,n0.out.2.1,n0.out.2.2.1,n0.out.2.2.2,Lr⟩
  case round =>
   obtain ⟨k,rs,a,c,hk,rfl,hG,a0,b0,c1,m0,j3⟩:=hrel;clear n0 HC;have k3:=Lc c1;have m3:=Bk.lz a0;have l3:=Bk.lz b0;by_cases hlt:k < L.length
   ·have k2:(k:Int) < (L.length:Int):=by omega
    obtain ⟨kb,ko,m,hp,_,g3,hm,e0,e1,e2⟩:=HK.out wr m0 k hlt;try simp only at hp
    subst hp;have h3:kb < w.heap.size:=by obtain ⟨b0,ko2,m2,hp2,_,h2,_⟩:=HK.out w (Bs w) k hlt;simp at hp2;omega
    have HM:=Hi hm;have v1:Hid ((L.take k).length=k):=Hi (by rw [List.length_take];omega);have f2:Hid (L.take (k+1)=L.take k++[L[k]]):=Hi (List.take_succ_eq_append_getElem hlt);have HS:=Hi (u0.out k hlt);clear hm u0;generalize L[k]=y at *
    have ke:=Lc e0;have x1:=fun q hq=>hG.own.lt q hq
    have d2:=Hi (fun W (hW:Below wr.heap.size wr W)=>IH.out m y W (HM.out.below hW) HS.out);clear HM HK;go_upto_region 5 with (fail)
    have y0:=Lc c1;have z0:=Bk.lz a0;have a1:=Bk.lz b0;have b1:=Lc e0;refine Rgl (S:=fun W'=>W'.cell? ⟨w.heap.size+1+1,2,none⟩=some (.slice a k c)∧W'.cell? ⟨w.heap.size,2,none⟩=some (.slice (some ⟨kb,ko,none⟩) L.length nc)∧W'.cell? ⟨kb,ko+k*3,none⟩=some (.int .i64 m.k)∧W'.cell? ⟨kb,ko+k*3+1,none⟩=some (.int .i64 m.v)∧W'.cell? ⟨kb,ko+k*3+2,none⟩=some (.slice m.p m.n m.c)) 11 (fun W d=>⟨Bk.kc a0 d 2,Kc d c1,Kc d e0,Kc d e1,Kc d e2⟩) (fun w2 hb hHeld=>?_);have f0:=hG.below (kpE D) hb;have j0:=btr (Bs wr) hb;have z1:=hb.size;replace c1:=Kc hb c1;replace e0:=Kc hb e0;replace e1:=Kc hb e1;replace e2:=Kc hb e2;replace a0:=Bb a0 hb;replace b0:=Bb b0 hb;replace g0:=btr m0 hb;clear hb;have i0:=j0;clear j0;clear hG;have hG:=f0;clear f0;refine (Lq1 0 17 rfl rfl ?_ ?_ (Lq1 1 18 rfl rfl ?_ ?_ (Lq1 2 19 rfl rfl ?_ ?_ (Lq1 3 20 rfl rfl ?_ ?_ (Lq1 4 21 rfl rfl ?_ ?_ (Lq1 5 22 rfl rfl ?_ ?_ (Lq1 6 23 rfl rfl ?_ ?_ ?_)))))));iterate 7 (rotate_left;intro W' hSw;(try dsimp only at hSw);go_simp;try with_reducible rfl)
    try simp only [Ep]
    refine Lrdy 7 rfl (fun K hK=>?_);obtain ⟨i1,s1⟩:=Bk.cf a0 2 rfl;go_simp
    refine (d2.out _ i0).mono ?_;rintro e w3 ⟨x,rfl,t0,hb⟩;have f0:=hG.below (kpE D) hb;have j0:=btr i0 hb;have a2:=hb.size;clear s1 i1;replace c1:=Kc hb c1;replace e0:=Kc hb e0;replace e1:=Kc hb e1;replace e2:=Kc hb e2;replace a0:=Bb a0 hb;replace b0:=Bb b0 hb;replace g0:=btr g0 hb;clear hb;clear i0;have i0:=j0;clear j0;clear hG;have hG:=f0;clear f0;replace y0:=Lc c1;replace z0:=Bk.lz a0;replace a1:=Bk.lz b0;replace b1:=Lc e0;refine hK.out _ _ ⟨Bk.ce a0 2,c1,e0,e1,e2⟩ (fun hHeld=>?_);clear hK K;try simp only [Ep]
    refine Lrdy 8 rfl (fun K hK=>?_);go_simp
    generalize hnw:World.alloc _ _=w4;have hb:=nmh hnw;clear hnw
    have f0:=(hG.below (kpE D) (bal (Bs _) (.cells #[.int .i64 x.k,.int .i64 x.v,.slice x.p x.n x.c] 49))).below (kpE D) hb;replace t0:=ExAt.below (ExAt.below t0 (bal (Bs _) _)) hb;have j0:=btr (bal i0 (.cells #[.int .i64 x.k,.int .i64 x.v,.slice x.p x.n x.c] 49)) hb;have d0:=Ob (World.ownsRow_lit (base:=(w3).heap.size) (e:=49) (size:=3) (w3) #[.int .i64 x.k,.int .i64 x.v,.slice x.p x.n x.c] 1 Lr (by unfold maxLen;omega) (by simp)) hb;try simp only [Sa,Ss] at d0
    have p0:=hb.size;simp only [Sa] at p0;replace c1:=Kc hb (Ac c1 _);replace e0:=Kc hb (Ac e0 _);replace e1:=Kc hb (Ac e1 _);replace e2:=Kc hb (Ac e2 _);replace a0:=Bb (Bk.al a0 _) hb;replace b0:=Bb (Bk.al b0 _) hb;have h0:Bk w4 (w3.heap.size) [.int .i64 x.k,.int .i64 x.v,.slice x.p x.n x.c]:=Bb (Bk.nw (by simp) rfl) hb;replace g0:=btr (bal g0 _) hb;clear hb;have k0:=d0.lt;try simp only [Sa] at k0
    clear i0;have i0:=j0;clear j0;clear hG;have hG:=f0;clear f0;have n2:=Bk.lz h0;refine hK.out _ _ ⟨Bk.ce a0 2,c1,e0,e1,e2⟩ (fun hHeld=>?_);clear hK K;try simp only [Ep]
    refine Lrdy 9 rfl (fun K hK=>?_);have o0:w4.ownsRow (w.heap.size+1+1+1) 49 3 (.slice a k c) k (rows enc rs):=by have h:=hG.own;rw [v1.out] at h;exact h
    have iK:∀ q,(Value.slice a k c).ownBlock=some q→w.heap.size+1+1 < q∧q < wr.heap.size:=fun q hq=>by have h2:=x1 q hq;omega
    refine step_aps tExprs rfl _ _ rfl (w.heap.size+1+1+1) _ k (rows enc rs) rfl o0 _ 1 (enc x) rfl (Ro d0 (by simp)) (one_enc x) (by omega) (by omega) ?_;intro vA w5 oA hc y1 _;obtain ⟨pA,tA,rfl⟩:=Oh oA;clear i0;have f0:=GrAt.push hG (kpE D) (by rw [v1.out];exact oA) hc y1 t0 (fun q (hq:w2.heap.size≤q) hl=>⟨by omega,fun h=>by have:=iK q h;omega⟩);have b2:=hc.size;replace c1:=Gc hc c1 (fun h=>by have:=iK _ h;omega);replace e0:=Gc hc e0 (fun h=>by have:=iK _ h;omega);replace e1:=Gc hc e1 (fun h=>by have:=iK _ h;omega);replace e2:=Gc hc e2 (fun h=>by have:=iK _ h;omega);replace d0:=Ow d0 hc (fun gq h h2=>by have:=k0 gq h;have:=iK gq h2;omega);replace a0:=Bk.keep a0 hc (fun h=>by have:=iK _ h;omega);replace b0:=Bk.keep b0 hc (fun h=>by have:=iK _ h;omega);replace h0:=Bk.keep h0 hc (fun h=>by have:=iK _ h;omega);replace g0:=g0.trans (hc.below w.heap.size (by have:=g0.size;omega) (fun gq hgq h=>by have:=iK gq h;omega));clear hc;clear hG;have hG:=f0;clear f0;clear y1 oA o0 iK t0 x1;refine hK.out _ _ ⟨Bk.ce a0 2,c1,e0,e1,e2⟩ (fun hHeld=>?_);clear hK K;try simp only [Ep]
    refine (Lq1 10 27 rfl rfl ?_ ?_ ?_);(rotate_left;intro W' hSw;(try dsimp only at hSw);go_simp;try with_reducible rfl)
    try simp only [Ep]
    refine Lend 11 rfl (fun K hK=>?_);obtain ⟨j1,t1⟩:=Bk.cf a0 2 rfl;go_simp
    generalize hnw:World.setCell _ _ _=w6;have hb:=nmh hnw;clear hnw
    have f0:=(hG.keep (kpE D) (C1 (w.heap.size+1+1) 2 (.slice pA (k+1) tA)) (fun q hq (h:q=(w.heap.size+1+1))=>by have:=hG.own.lt q hq;omega) (fun q hq _ (h:q=(w.heap.size+1+1))=>by omega)).below (kpE D) hb;have q0:=hb.size;simp only [Ss] at q0;clear t1 j1;replace c1:=Kc hb (Nn c1 _);replace e0:=Kc hb (Nn e0 _);replace e1:=Kc hb (Nn e1 _);replace e2:=Kc hb (Nn e2 _);replace d0:=Ob (Oe d0 _ _ (fun h=>by have:=k0 _ h;omega) _) hb;replace a0:Bk w6 (w.heap.size+1+1) [.int .i64 nk,.int .i64 c0,.slice pA (k+1) tA]:=Bb (Bk.at a0 2 (.slice pA (k+1) tA)) hb;replace b0:=Bb (Bk.nn b0 _) hb;replace h0:=Bb (Bk.nn h0 _) hb;replace g0:=btr (bst g0 (w.heap.size+1+1) 2 (by omega) (.slice pA (k+1) tA)) hb;clear hb;clear hG;have hG:=f0;clear f0;refine hK.out _ _ trivial (fun hHeld=>?_);clear hK K;try simp only [Ep]
    refine Dn ?_;clear hHeld;have HG:=Hi hG;clear hG;have u1:=Hi (Ai a0 b0);have g2:=Hi g0;rw [← f2.out] at HG;obtain ⟨o2,t2⟩:=Bk.cf a0 2 rfl;go_wp2
    go_roundw
    case rel=>exact ⟨k+1,rs++[x],pA,tA,by omega,by go_num,HG.out,u1.out.1,u1.out.2,c1,g2.out,by omega⟩
    case measure=>simp [intOf];omega
   have i2:k=L.length:=by omega
   subst i2;have k2:decide (((L.length:Nat):Int) < (L.length:Int))=false:=decide_eq_false (by omega);rw [List.take_of_length_le Lr] at hG;have s0:=fun q hq=>hG.own.lt q hq
   clear u0 IH HK;have c2:=Hi (((hG.keep (kpE D) (C1 (w.heap.size+1) 0 (.int .i64 nk)) (fun q hq (h:q=(w.heap.size+1))=>by have:=s0 q hq;omega) (fun q hq _ (h:q=(w.heap.size+1))=>by omega)).keep (kpE D) (C1 (w.heap.size+1) 1 (.int .i64 c0)) (fun q hq (h:q=(w.heap.size+1))=>by have:=s0 q hq;omega) (fun q hq _ (h:q=(w.heap.size+1))=>by omega)).keep (kpE D) (C1 (w.heap.size+1) 2 (.slice a L.length c)) (fun q hq (h:q=(w.heap.size+1))=>by have:=s0 q hq;omega) (fun q hq _ (h:q=(w.heap.size+1))=>by omega));clear hG s0;obtain ⟨p2,u2,q2,v2,r2,x2⟩:=Bk.f3 a0 0 1 2 rfl rfl rfl;obtain ⟨k1,y2,l1,z2,m1,a3⟩:=Bk.f3 b0 0 1 2 rfl rfl rfl;have c3:=(Nn (b:=(w.heap.size+1)) (j:=2) (Nn (b:=(w.heap.size+1)) (j:=1) (Tc _ (w.heap.size+1) 0 (.int .i64 nk) k1) (.int .i64 c0)) (.slice a L.length c));have d3:=(Nn (b:=(w.heap.size+1)) (j:=2) (Tc _ (w.heap.size+1) 1 (.int .i64 c0) (Nn (b:=(w.heap.size+1)) (j:=0) l1 (.int .i64 nk))) (.slice a L.length c));have e3:=(Tc _ (w.heap.size+1) 2 (.slice a L.length c) (Nn (b:=(w.heap.size+1)) (j:=1) (Nn (b:=(w.heap.size+1)) (j:=0) m1 (.int .i64 nk)) (.int .i64 c0)));have tt:=(bst (bst (bst m0 (w.heap.size+1) 0 (by omega) (.int .i64 nk)) (w.heap.size+1) 1 (by omega) (.int .i64 c0)) (w.heap.size+1) 2 (by omega) (.slice a L.length c));go_wp2
   exact bodyPost_ret (v:=.agg #[.int .i64 nk,.int .i64 c0,.slice a L.length c]) (by simp [results,Try.results58,go_sem,c3,d3,e3]) rfl (by exact (by unfold CpE;exact ⟨⟨nk,c0,a,L.length,c⟩,rfl,⟨rfl,rfl,c2.out.row (kpE D) (fun q hq _=>by omega) (fun q hq _=>by omega)⟩,tt⟩))
end Go.Proofs.Ytlckklglbodgbaa
