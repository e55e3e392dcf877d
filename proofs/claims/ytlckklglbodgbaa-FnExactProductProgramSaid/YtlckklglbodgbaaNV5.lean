/-
 Parts of the proofs of the laws FnExactProductProgram.
-/
import Derived.Test.YtlckklglbodgbaaKI
set_option linter.all false
namespace Go.Proofs.Ytlckklglbodgbaa
open Go.RowKit
def OwE (D:Nat) (e:Ex) (w:World) (r:Ending) (w':World):Prop:=∃ m:En,r=.returned (.agg #[.int .i64 m.k,.int .i64 m.v,.slice m.p m.n m.c])∧ExX D w' (fun q=>w.heap.size≤q) m e∧Below w.heap.size w w'
set_option maxHeartbeats 6400000 in
set_option maxRecDepth 100000 in
theorem ownExpr_any (A:Nat→Prop):∀ (D:Nat) (n:En) (e:Ex) (w:World),ExAt w A D n e→exN e≤1048576→Calls Try.prog 64 #[.agg #[.int .i64 n.k,.int .i64 n.v,.slice n.p n.n n.c]] w fun r w'=>OwE D e w r w':=by
 intro D
 induction D with
 | zero=>intro n e w h;cases h
 | succ D IH0 =>
  intro n e w hx i2;obtain ⟨ek,ev,L⟩:=e;have hn:=hx.shape;have HK:=Hi (fun W (hW:Below w.heap.size w W) j hj=>(hx.below hW).kidm j hj);have f2:L.length≤1048576:=by have:=exNs_len L;have h2:=exN_kids (.mk ek ev L);simp only [Ex.kids] at h2;omega
  have a1:Hid (∀ k (h:k < L.length),exN L[k]≤1048576):=Hi (fun k h=>by have:=exNs_at h;have h2:=exN_kids (.mk ek ev L);simp only [Ex.kids] at h2;omega);have IH:=Hi IH0;clear IH0 hx i2;obtain ⟨nk,o0,np,y3,nc⟩:=n;simp only [Ex.k,Ex.v,Ex.kids] at hn;obtain ⟨rfl,rfl,rfl⟩:=hn;go_enter Try.func64,Try.ntmps64
  go_upto_region 2 with (fail)
  generalize hnw:World.alloc _ _=w1;have hb:=nmh hnw;clear hnw
  have f1:=hb.size;simp only [Sa] at f1;have b1:=Bb (Bk.al (Bk.al (Bk.n3 (w.heap.size)) (.cells #[.int .i64 0,.int .i64 0,.slice none 0 0] 49)) (.cells #[.int .i64 nk,.int .i64 o0,.slice none 0 0] 49)) hb;have c1:=Bb (Bk.al (Bk.n3 (w.heap.size+1)) (.cells #[.int .i64 nk,.int .i64 o0,.slice none 0 0] 49)) hb;have d1:=Bb (Bk.n3 (w.heap.size+1+1)) hb;have k0:=btr (bal (bal (bal (Bs w) (.cells #[.int .i64 nk,.int .i64 o0,.slice np L.length nc] 49)) (.cells #[.int .i64 0,.int .i64 0,.slice none 0 0] 49)) (.cells #[.int .i64 nk,.int .i64 o0,.slice none 0 0] 49)) hb;clear hb;have s3:=Bk.lz b1;have v3:=Bk.lz c1;have x3:=Bk.lz d1;have o3:w.heap.size≤w.heap.size∧w.heap.size < w1.heap.size∧w.heap.size+1 < w1.heap.size∧w.heap.size < w.heap.size+1∧w.heap.size+1 < w.heap.size+1+1:=by omega
  obtain ⟨x2,f3⟩:=Bk.cf b1 2 rfl;go_wp2_with fail
  have y0:=Hi (Ai d1 (Ai c1 k0));clear k0 b1 c1 d1 x2 f3;go_loopw [14] (fun i wr=>∃ (k:Nat) (rs:List En) (a:Option Addr) (c:Nat),k≤L.length∧i=.int .i64 k∧GrD enc 3 49 (ExX D) wr (w.heap.size+1+1+1) wr.heap.size (.slice a k c) rs (L.take k)∧Bk wr (w.heap.size+1+1) [.int .i64 nk,.int .i64 o0,.slice a k c]∧Bk wr (w.heap.size+1) [.int .i64 0,.int .i64 0,.slice none 0 0]∧Below w.heap.size w wr∧w1.heap.size≤wr.heap.size) (fun i _=>L.length-(intOf i).toNat)
  case atStart=>exact ⟨0,[],none,0,Nat.zero_le _,rfl,grd_nil,y0.out.1,y0.out.2.1,y0.out.2.2,Lr⟩
  case round =>
   obtain ⟨k,rs,a,c,hk,rfl,hG,c0,l0,r0,p3⟩:=hrel;clear y0;have r3:=Bk.lz c0;have q3:=Bk.lz l0;by_cases hlt:k < L.length
   ·have g2:(k:Int) < (L.length:Int):=by omega
    obtain ⟨kb,ko,m,hp,_,l3,hm,e0,e1,e2⟩:=HK.out wr r0 k hlt;try simp only at hp
    subst hp;have m3:kb < w.heap.size:=by obtain ⟨l0,ko2,m2,hp2,_,h2,_⟩:=HK.out w (Bs w) k hlt;simp at hp2;omega
    have HM:=Hi hm;have r1:Hid ((L.take k).length=k):=Hi (by rw [List.length_take];omega);have b2:Hid (L.take (k+1)=L.take k++[L[k]]):=Hi (List.take_succ_eq_append_getElem hlt);have HS:=Hi (a1.out k hlt);clear hm a1;generalize L[k]=y at *
    have ke:=Lc e0;have s1:=fun q hq=>hG.own.lt q hq
    have a2:=Hi (fun W (hW:Below wr.heap.size wr W)=>IH.out m y W (HM.out.below hW) HS.out);clear HM HK;go_upto_region 5 with (fail)
    generalize hnw:World.alloc _ _=w2;have d0:=nmh hnw;clear hnw
    have i0:=grd_below (grd_below hG (kpX D) (bal (Bs _) (.cells #[.int .i64 m.k,.int .i64 m.v,.slice m.p m.n m.c] 49))) (kpX D) d0;have n0:=btr (bal (Bs wr) (.cells #[.int .i64 m.k,.int .i64 m.v,.slice m.p m.n m.c] 49)) d0;have t0:=d0.size;simp only [Sa] at t0;replace e0:=Kc d0 (Ac e0 _);replace e1:=Kc d0 (Ac e1 _);replace e2:=Kc d0 (Ac e2 _);have a0:=Bb (Bk.n3 (wr.heap.size)) d0;replace k0:=btr (bal r0 _) d0;have m0:=n0;clear n0;clear hG;have hG:=i0;clear i0;replace c0:=Bb (Bk.al c0 _) d0;have j2:=Bk.lz c0;replace l0:=Bb (Bk.al l0 _) d0;have k2:=Bk.lz l0;have x0:=Lc e0;have l2:=Bk.lz a0;refine Rgl (S:=fun W'=>W'.cell? ⟨w.heap.size+1+1,2,none⟩=some (.slice a k c)∧W'.cell? ⟨wr.heap.size,0,none⟩=some (.int .i64 m.k)∧W'.cell? ⟨wr.heap.size,1,none⟩=some (.int .i64 m.v)∧W'.cell? ⟨wr.heap.size,2,none⟩=some (.slice m.p m.n m.c)) 7 (fun W d=>⟨Bk.kc c0 d 2,Bk.kc a0 d 0,Bk.kc a0 d 1,Bk.kc a0 d 2⟩) (fun w3 f0 hHeld=>?_);have i0:=grd_below hG (kpX D) f0;have n0:=btr m0 f0;have v1:=f0.size;replace e0:=Kc f0 e0;replace e1:=Kc f0 e1;replace e2:=Kc f0 e2;replace k0:=btr k0 f0;clear m0;have m0:=n0;clear n0;clear hG;have hG:=i0;clear i0;refine (Lq1 0 18 rfl rfl ?_ ?_ (Lq1 1 19 rfl rfl ?_ ?_ (Lq1 2 20 rfl rfl ?_ ?_ ?_)));iterate 3 (rotate_left;intro W' hSw;(try dsimp only at hSw);go_simp;try with_reducible rfl)
    try simp only [Ep]
    refine Lrdy 3 rfl (fun K hK=>?_);replace c0:=Bb c0 f0;obtain ⟨g1,l1⟩:=Bk.cf c0 2 rfl;replace a0:=Bb a0 f0;obtain ⟨h1,m1,i1,n1,j1,o1⟩:=Bk.h3 a0;go_simp
    refine (a2.out _ m0).mono ?_;rintro e w4 ⟨x,rfl,z0,g0⟩;have i0:=grd_below hG (kpX D) g0;have n0:=btr m0 g0;have x1:=g0.size;clear l1 g1 m1 h1 n1 i1 o1 j1;replace e0:=Kc g0 e0;replace e1:=Kc g0 e1;replace e2:=Kc g0 e2;replace k0:=btr k0 g0;clear m0;have m0:=n0;clear n0;clear hG;have hG:=i0;clear i0;replace x0:=Lc e0;replace c0:=Bb c0 g0;replace a0:=Bb a0 g0;refine hK.out _ _ ⟨Bk.ce c0 2,Bk.ce a0 0,Bk.ce a0 1,Bk.ce a0 2⟩ (fun hHeld=>?_);clear hK K;try simp only [Ep]
    refine Lrdy 4 rfl (fun K hK=>?_);go_simp
    generalize hnw:World.alloc _ _=w5;have b0:=nmh hnw;clear hnw
    replace z0:=kp_below (kpX _) (kp_below (kpX _) z0 (bal (Bs _) _)) b0;have i0:=grd_below (grd_below hG (kpX D) (bal (Bs _) (.cells #[.int .i64 x.k,.int .i64 x.v,.slice x.p x.n x.c] 49))) (kpX D) b0;have n0:=btr (bal m0 (.cells #[.int .i64 x.k,.int .i64 x.v,.slice x.p x.n x.c] 49)) b0;have j0:=Ob (World.ownsRow_lit (base:=(w4).heap.size) (e:=49) (size:=3) (w4) #[.int .i64 x.k,.int .i64 x.v,.slice x.p x.n x.c] 1 Lr (by unfold maxLen;omega) (by simp)) b0;try simp only [Sa,Ss] at j0
    have v0:=b0.size;simp only [Sa] at v0;replace e0:=Kc b0 (Ac e0 _);replace e1:=Kc b0 (Ac e1 _);replace e2:=Kc b0 (Ac e2 _);have p0:=Bb (Bk.n3 (w4.heap.size)) b0;replace k0:=btr (bal k0 _) b0;have q0:=j0.lt;try simp only [Sa] at q0
    clear m0;have m0:=n0;clear n0;clear hG;have hG:=i0;clear i0;replace x0:=Lc e0;have n2:=Bk.lz p0;replace c0:=Bb (Bk.al c0 _) b0;replace a0:=Bb (Bk.al a0 _) b0;refine hK.out _ _ ⟨Bk.ce c0 2,Bk.ce a0 0,Bk.ce a0 1,Bk.ce a0 2⟩ (fun hHeld=>?_);clear hK K;try simp only [Ep]
    refine Lrdy 5 rfl (fun K hK=>?_);have s0:w5.ownsRow (w.heap.size+1+1+1) 49 3 (.slice a k c) k (rows enc rs):=by have h:=hG.own;rw [r1.out] at h;exact h
    have iK:∀ q,(Value.slice a k c).ownBlock=some q→w.heap.size+1+1 < q∧q < wr.heap.size:=fun q hq=>by have h2:=s1 q hq;omega
    refine step_aps tExprs rfl _ _ rfl (w.heap.size+1+1+1) _ k (rows enc rs) rfl s0 _ 1 (enc x) rfl (Ro j0 (by simp)) (one_enc x) (by omega) (by omega) ?_;intro vA w6 oA hc t1 _;obtain ⟨pA,tA,rfl⟩:=Oh oA;clear m0;have i0:=grd_push hG (kpX D) (by rw [r1.out];exact oA) hc t1 z0 (fun q (hq:w3.heap.size≤q) hl=>⟨by omega,by omega,fun h=>by have:=iK q h;omega⟩) (by omega);have y1:=hc.size;replace e0:=Gc hc e0 (fun h=>by have:=iK _ h;omega);replace e1:=Gc hc e1 (fun h=>by have:=iK _ h;omega);replace e2:=Gc hc e2 (fun h=>by have:=iK _ h;omega);replace j0:=Ow j0 hc (fun gq h h2=>by have:=q0 gq h;have:=iK gq h2;omega);replace c0:=Bk.keep c0 hc (fun h=>by have:=iK _ h;omega);replace l0:=Bb (Bk.al (Bb (Bb l0 f0) g0) _) b0;replace l0:=Bk.keep l0 hc (fun h=>by have:=iK _ h;omega);replace a0:=Bk.keep a0 hc (fun h=>by have:=iK _ h;omega);replace p0:=Bk.keep p0 hc (fun h=>by have:=iK _ h;omega);replace k0:=k0.trans (hc.below w.heap.size (by have:=k0.size;omega) (fun gq hgq h=>by have:=iK gq h;omega));clear hc;clear hG;have hG:=i0;clear i0;clear t1 oA s0 iK z0 s1;refine hK.out _ _ ⟨Bk.ce c0 2,Bk.ce a0 0,Bk.ce a0 1,Bk.ce a0 2⟩ (fun hHeld=>?_);clear hK K;try simp only [Ep]
    refine (Lq1 6 24 rfl rfl ?_ ?_ ?_);(rotate_left;intro W' hSw;(try dsimp only at hSw);go_simp;try with_reducible rfl)
    try simp only [Ep]
    refine Lend 7 rfl (fun K hK=>?_);obtain ⟨k1,p1⟩:=Bk.cf c0 2 rfl;go_simp
    generalize hnw:World.setCell _ _ _=w7;have h0:=nmh hnw;clear hnw
    have i0:=grd_below (grd_keep hG (kpX D) (C1 (w.heap.size+1+1) 2 (.slice pA (k+1) tA)) (fun q hq _ (h:q=(w.heap.size+1+1))=>by omega)) (kpX D) h0;have w0:=h0.size;simp only [Ss] at w0;clear p1 k1;replace e0:=Kc h0 (Nn e0 _);replace e1:=Kc h0 (Nn e1 _);replace e2:=Kc h0 (Nn e2 _);replace j0:=Ob (Oe j0 _ _ (fun h=>by have:=q0 _ h;omega) _) h0;replace k0:=btr (bst k0 (w.heap.size+1+1) 2 (by omega) (.slice pA (k+1) tA)) h0;clear hG;have hG:=i0;clear i0;refine hK.out _ _ trivial (fun hHeld=>?_);clear hK K;try simp only [Ep]
    refine Dn ?_;clear hHeld;have HG:=Hi hG;clear hG;replace c0:Bk w7 (w.heap.size+1+1) [.int .i64 nk,.int .i64 o0,.slice pA (k+1) tA]:=Bb (Bk.at c0 2 (.slice pA (k+1) tA)) h0;replace l0:=Bb (Bk.nn l0 _) h0;have q1:=Hi (Ai c0 l0);have c2:=Hi k0;rw [← b2.out] at HG;obtain ⟨o2,y2⟩:=Bk.cf c0 2 rfl;go_wp2
    go_roundw
    case rel=>exact ⟨k+1,rs++[x],pA,tA,by omega,by go_num,grd_hi HG.out (by omega),q1.out.1,q1.out.2,c2.out,by omega⟩
    case measure=>simp [intOf];omega
   have d2:k=L.length:=by omega
   subst d2;have g2:decide (((L.length:Nat):Int) < (L.length:Int))=false:=decide_eq_false (by omega);rw [List.take_of_length_le Lr] at hG;clear a1 IH HK;have z1:=Hi (grd_keep (grd_keep (grd_keep hG (kpX D) (C1 (w.heap.size+1) 0 (.int .i64 nk)) (fun q hq _ (h:q=(w.heap.size+1))=>by omega)) (kpX D) (C1 (w.heap.size+1) 1 (.int .i64 o0)) (fun q hq _ (h:q=(w.heap.size+1))=>by omega)) (kpX D) (C1 (w.heap.size+1) 2 (.slice a L.length c)) (fun q hq _ (h:q=(w.heap.size+1))=>by omega));clear hG;obtain ⟨p2,z2,q2,a3,r2,b3⟩:=Bk.h3 c0;obtain ⟨s2,c3,t2,d3,v2,e3⟩:=Bk.h3 l0;obtain ⟨i3,j3,k3⟩:=Bk.g3 (Bk.t3 l0 (.int .i64 nk) (.int .i64 o0) (.slice a L.length c));have tt:=(bst (bst (bst r0 (w.heap.size+1) 0 (by omega) (.int .i64 nk)) (w.heap.size+1) 1 (by omega) (.int .i64 o0)) (w.heap.size+1) 2 (by omega) (.slice a L.length c));go_wp2
   exact bodyPost_ret (v:=.agg #[.int .i64 nk,.int .i64 o0,.slice a L.length c]) (by simp [results,Try.results64,go_sem,i3,j3,k3]) rfl (by exact (by unfold OwE;exact ⟨⟨nk,o0,a,L.length,c⟩,rfl,⟨rfl,rfl,grd_row z1.out (kpX D) (fun q hq _=>by omega)⟩,tt⟩))
end Go.Proofs.Ytlckklglbodgbaa
