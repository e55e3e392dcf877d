/-
 Parts of the proofs of the laws FnExactProductProgram.
-/
import Derived.Test.YtlckklglbodgbaaNV5
set_option linter.all false
namespace Go.Proofs.Ytlckklglbodgbaa
open Go.RowKit
def OwB (D:Nat) (L:List St) (w:World) (r:Ending) (w':World):Prop:=∃ (a:Option Addr) (c:Nat),r=.returned (.slice a L.length c)∧BlX D w' (fun q=>w.heap.size≤q) (.slice a L.length c) L∧Below w.heap.size w w'
set_option maxHeartbeats 6400000 in
set_option maxRecDepth 100000 in
theorem ownStmts_of (A:Nat→Prop) (D:Nat) (IH0:∀ D',D=D'+1→∀ (u:Value) (L:List St) (w:World),BlAt w A D' u L→stNs L≤1048576→Calls Try.prog 34 #[u] w fun r w'=>OwB D' L w r w') (u:Value) (L:List St) (w:World) (hx:BlAt w A D u L) (hsz:stNs L≤1048576):Calls Try.prog 34 #[u] w fun r w'=>OwB D L w r w':=by
 obtain ⟨pl,cl,rfl⟩:=RowOf.shape hx;have HX:=Hi (fun W (hW:Below w.heap.size w W)=>szSt_at (hx.below hW));have b3:L.length≤1048576:=by have:=stNs_len L;omega
 have b1:Hid (∀ k (h:k < L.length),stN1 L[k]≤1048576):=Hi (fun k h=>by have:=stNs_at h;omega);have IH:=Hi IH0;clear IH0 hx hsz;go_enter Try.func34,Try.ntmps34
 go_wp2
 go_loopw [3,8] (fun m i wr=>∃ (k:Nat) (rs:List Sn) (a:Option Addr) (c:Nat),k≤L.length∧i=.int .i64 k∧m=.slice a k c∧GrD snc 11 51 (StX D) wr w.heap.size wr.heap.size (.slice a k c) rs (L.take k)∧Below w.heap.size w wr) (fun _ i _=>L.length-(intOf i).toNat)
 case atStart=>exact ⟨0,[],none,0,Nat.zero_le _,rfl,rfl,grd_nil,Bs _⟩
 case round =>
  obtain ⟨k,rs,a,c,hk,rfl,rfl,hG,o0⟩:=hrel;have n3:=o0.size;by_cases hlt:k < L.length
  ·have c3:(k:Int) < (L.length:Int):=by omega
   obtain ⟨kb,ko,m,hp,l3,hm,e0,e1,e2,e3,e4,e5,e6,e7,e8,e9,d1⟩:=HX.out wr o0 k hlt;subst hp;have m3:kb < w.heap.size:=by obtain ⟨kb2,ko2,m2,hp2,h2,_⟩:=HX.out w (Bs w) k hlt;simp at hp2;omega
   have d2:Hid ((L.take k).length=k):=Hi (by rw [List.length_take];omega);have x2:Hid (L.take (k+1)=L.take k++[L[k]]):=Hi (List.take_succ_eq_append_getElem hlt);have d3:=b1.out k hlt;clear HX b1;generalize L[k]=y at *
   obtain ⟨E,hE⟩:=stAt_pos hm;have c1:=Hi (IH.out E hE);clear IH;obtain ⟨y1,y2,yx,yv,y3,yb,ye⟩:=y;have k2:=stN_parts (.mk y1 y2 yx yv y3 yb ye);simp only [St.ix,St.val,St.body,St.els] at k2;have j2:=hm;rw [hE] at j2;obtain ⟨q1,q2,q3,⟨D1,hi⟩,⟨D2,hv⟩,p0,i2⟩:=j2;have HQ:=Hi (Ai q1 (Ai q2 q3));clear q1 q2 q3 hm;have HI:=Hi (fun W (hW:Below wr.heap.size wr W)=>ownExpr_any A D1 m.ix yx W (hi.below hW) (by omega));have HV:=Hi (fun W (hW:Below wr.heap.size wr W)=>ownExpr_any A D2 m.val yv W (hv.below hW) (by omega));have HB:=Hi (fun W (hW:Below wr.heap.size wr W)=>c1.out _ yb W (BlAt.below p0 hW) (by omega));have HE:=Hi (fun W (hW:Below wr.heap.size wr W)=>c1.out _ ye W (BlAt.below i2 hW) (by omega));have t2:=Hi hE;clear hE hi hv p0 i2 d3 k2 c1;have ke:=Lc e0;have f2:=fun q hq=>hG.own.lt q hq
   go_upto_region 5 with (fail)
   generalize hnw:World.alloc _ _=w1;have hb:=nmh hnw;clear hnw
   have c0:=grd_below (grd_below hG (kpT D) (bal (Bs _) (.cells #[.int .i64 m.k,.int .i64 m.t,.int .i64 m.ix.k,.int .i64 m.ix.v,.slice m.ix.p m.ix.n m.ix.c,.int .i64 m.val.k,.int .i64 m.val.v,.slice m.val.p m.val.n m.val.c,.int .i64 m.c,.slice m.bp m.bn m.bc,.slice m.ep m.en m.ec] 51))) (kpT D) hb;have f0:=btr (bal (Bs wr) (.cells #[.int .i64 m.k,.int .i64 m.t,.int .i64 m.ix.k,.int .i64 m.ix.v,.slice m.ix.p m.ix.n m.ix.c,.int .i64 m.val.k,.int .i64 m.val.v,.slice m.val.p m.val.n m.val.c,.int .i64 m.c,.slice m.bp m.bn m.bc,.slice m.ep m.en m.ec] 51)) hb;have f1:=hb.size;simp only [Sa] at f1;replace e0:=Kc hb (Ac e0 _);replace e1:=Kc hb (Ac e1 _);replace e2:=Kc hb (Ac e2 _);replace e3:=Kc hb (Ac e3 _);replace e4:=Kc hb (Ac e4 _);replace e5:=Kc hb (Ac e5 _);replace e6:=Kc hb (Ac e6 _);replace e7:=Kc hb (Ac e7 _);replace e8:=Kc hb (Ac e8 _);replace e9:=Kc hb (Ac e9 _);replace d1:=Kc hb (Ac d1 _);have a0:=Bb (Bk.n11 (wr.heap.size)) hb;replace h0:=btr (bal o0 _) hb;clear hb;have b0:=f0;clear f0;clear hG;have hG:=c0;clear c0;have o3:=Lc e0;have p3:=Bk.lz a0;clear e0 e1 e2 e3 e4 e5 e6 e7 e8 e9 d1;go_upto_region 5 with (fail)
   refine Rgh (S:=fun W'=>W'.cell? ⟨wr.heap.size,0,none⟩=some (.int .i64 m.k)∧W'.cell? ⟨wr.heap.size,1,none⟩=some (.int .i64 m.t)∧W'.cell? ⟨wr.heap.size,2,none⟩=some (.int .i64 m.ix.k)∧W'.cell? ⟨wr.heap.size,3,none⟩=some (.int .i64 m.ix.v)∧W'.cell? ⟨wr.heap.size,4,none⟩=some (.slice m.ix.p m.ix.n m.ix.c)∧W'.cell? ⟨wr.heap.size,5,none⟩=some (.int .i64 m.val.k)∧W'.cell? ⟨wr.heap.size,6,none⟩=some (.int .i64 m.val.v)∧W'.cell? ⟨wr.heap.size,7,none⟩=some (.slice m.val.p m.val.n m.val.c)∧W'.cell? ⟨wr.heap.size,8,none⟩=some (.int .i64 m.c)∧W'.cell? ⟨wr.heap.size,9,none⟩=some (.slice m.bp m.bn m.bc)∧W'.cell? ⟨wr.heap.size,10,none⟩=some (.slice m.ep m.en m.ec)) (fun W d=>⟨Bk.kc a0 d 0,Bk.kc a0 d 1,Bk.kc a0 d 2,Bk.kc a0 d 3,Bk.kc a0 d 4,Bk.kc a0 d 5,Bk.kc a0 d 6,Bk.kc a0 d 7,Bk.kc a0 d 8,Bk.kc a0 d 9,Bk.kc a0 d 10⟩) (fun w2 p0 hHeld=>?_);have c0:=grd_below hG (kpT D) p0;have f0:=btr b0 p0;have g3:=p0.size;replace h0:=btr h0 p0;clear b0;have b0:=f0;clear f0;clear hG;have hG:=c0;clear c0;refine (tq 0 12 rfl rfl ?_ ?_ (tq 1 13 rfl rfl ?_ ?_ (tq 2 14 rfl rfl ?_ ?_ (tq 3 15 rfl rfl ?_ ?_ (tq 4 16 rfl rfl ?_ ?_ (tq 5 17 rfl rfl ?_ ?_ (tq 6 18 rfl rfl ?_ ?_ (tq 8 20 rfl rfl ?_ ?_ (tq 9 21 rfl rfl ?_ ?_ (tq 11 23 rfl rfl ?_ ?_ (tq 12 24 rfl rfl ?_ ?_ (tq 13 25 rfl rfl ?_ ?_ (tq 14 26 rfl rfl ?_ ?_ (tq 16 28 rfl rfl ?_ ?_ (tq 17 29 rfl rfl ?_ ?_ ?_)))))))))))))));iterate 15 (rotate_left;intro W' hSw;(try dsimp only at hSw);go_simp;try with_reducible rfl)
   try simp only [Ep]
   refine Rdy 7 rfl (fun K hK=>?_);replace a0:=Bb a0 p0;obtain ⟨i3,k3,j3,p1,g1,r1,h1,s1,i1,t1,j1,v1,k1,x1,l1,z1⟩:=Bk.h8 a0;obtain ⟨m1,a2,n1,b2,o1,c2⟩:=Bk.f3 a0 8 9 10 rfl rfl rfl;go_simp
   refine (HI.out _ b0).mono ?_;rintro e w3 ⟨xi,rfl,k0,l0⟩;replace k0:=kp_cut (kpX _) k0;have c0:=grd_below hG (kpT D) l0;have f0:=btr b0 l0;have n2:=l0.size;clear k3 i3 p1 j3 r1 g1 s1 h1 t1 i1 v1 j1 x1 k1 z1 l1 a2 m1 b2 n1 c2 o1;replace h0:=btr h0 l0;clear b0;have b0:=f0;clear f0;clear hG;have hG:=c0;clear c0;replace a0:=Bb a0 l0;refine hK.out _ _ ⟨Bk.ce a0 0,Bk.ce a0 1,Bk.ce a0 2,Bk.ce a0 3,Bk.ce a0 4,Bk.ce a0 5,Bk.ce a0 6,Bk.ce a0 7,Bk.ce a0 8,Bk.ce a0 9,Bk.ce a0 10⟩ (fun hHeld=>?_);clear hK K;try simp only [Ep]
   refine Rdy 10 rfl (fun K hK=>?_);go_simp
   refine (HV.out _ b0).mono ?_;rintro e w4 ⟨xv,rfl,n0,j0⟩;replace n0:=kp_cut (kpX _) n0;replace k0:=kp_below (kpX _) k0 j0;have c0:=grd_below hG (kpT D) j0;have f0:=btr b0 j0;have o2:=j0.size;replace h0:=btr h0 j0;clear b0;have b0:=f0;clear f0;clear hG;have hG:=c0;clear c0;replace a0:=Bb a0 j0;refine hK.out _ _ ⟨Bk.ce a0 0,Bk.ce a0 1,Bk.ce a0 2,Bk.ce a0 3,Bk.ce a0 4,Bk.ce a0 5,Bk.ce a0 6,Bk.ce a0 7,Bk.ce a0 8,Bk.ce a0 9,Bk.ce a0 10⟩ (fun hHeld=>?_);clear hK K;try simp only [Ep]
   refine Rdy 15 rfl (fun K hK=>?_);go_simp
   refine (HB.out _ b0).mono ?_;rintro e w5 ⟨w0,s0,rfl,q0,i0⟩;replace q0:=blX_cut q0;replace k0:=kp_below (kpX _) k0 i0;replace n0:=kp_below (kpX _) n0 i0;have c0:=grd_below hG (kpT D) i0;have f0:=btr b0 i0;have p2:=i0.size;replace h0:=btr h0 i0;clear b0;have b0:=f0;clear f0;clear hG;have hG:=c0;clear c0;replace a0:=Bb a0 i0;refine hK.out _ _ ⟨Bk.ce a0 0,Bk.ce a0 1,Bk.ce a0 2,Bk.ce a0 3,Bk.ce a0 4,Bk.ce a0 5,Bk.ce a0 6,Bk.ce a0 7,Bk.ce a0 8,Bk.ce a0 9,Bk.ce a0 10⟩ (fun hHeld=>?_);clear hK K;try simp only [Ep]
   refine Rdy 18 rfl (fun K hK=>?_);go_simp
   refine (HE.out _ b0).mono ?_;rintro e w6 ⟨x0,t0,rfl,v0,g0⟩;replace v0:=blX_cut v0;replace k0:=kp_below (kpX _) k0 g0;replace n0:=kp_below (kpX _) n0 g0;replace q0:=blX_below q0 g0;have c0:=grd_below hG (kpT D) g0;have f0:=btr b0 g0;have r2:=g0.size;replace h0:=btr h0 g0;clear b0;have b0:=f0;clear f0;clear hG;have hG:=c0;clear c0;replace a0:=Bb a0 g0;refine hK.out _ _ ⟨Bk.ce a0 0,Bk.ce a0 1,Bk.ce a0 2,Bk.ce a0 3,Bk.ce a0 4,Bk.ce a0 5,Bk.ce a0 6,Bk.ce a0 7,Bk.ce a0 8,Bk.ce a0 9,Bk.ce a0 10⟩ (fun hHeld=>?_);clear hK K;try simp only [Ep]
   refine (tq 19 31 rfl rfl (.agg #[.int .i64 m.k,.int .i64 m.t,.int .i64 xi.k,.int .i64 xi.v,.slice xi.p xi.n xi.c,.int .i64 xv.k,.int .i64 xv.v,.slice xv.p xv.n xv.c,.int .i64 m.c,.slice w0 yb.length s0,.slice x0 ye.length t0]) (fun W' _=>by kernel_rfl) ?_);try simp only [Ep]
   refine Rdy 20 rfl (fun K hK=>?_);go_simp
   generalize hnw:World.alloc _ _=w7;have d0:=nmh hnw;clear hnw
   replace k0:=kp_below (kpX _) (kp_below (kpX _) k0 (bal (Bs _) _)) d0;replace n0:=kp_below (kpX _) (kp_below (kpX _) n0 (bal (Bs _) _)) d0;replace q0:=blX_below (blX_below q0 (bal (Bs _) _)) d0;replace v0:=blX_below (blX_below v0 (bal (Bs _) _)) d0;have c0:=grd_below (grd_below hG (kpT D) (bal (Bs _) (.cells #[.int .i64 m.k,.int .i64 m.t,.int .i64 xi.k,.int .i64 xi.v,.slice xi.p xi.n xi.c,.int .i64 xv.k,.int .i64 xv.v,.slice xv.p xv.n xv.c,.int .i64 m.c,.slice w0 yb.length s0,.slice x0 ye.length t0] 51))) (kpT D) d0;have f0:=btr (bal b0 (.cells #[.int .i64 m.k,.int .i64 m.t,.int .i64 xi.k,.int .i64 xi.v,.slice xi.p xi.n xi.c,.int .i64 xv.k,.int .i64 xv.v,.slice xv.p xv.n xv.c,.int .i64 m.c,.slice w0 yb.length s0,.slice x0 ye.length t0] 51)) d0;have m0:=Ob (World.ownsRow_lit (base:=(w6).heap.size) (e:=51) (size:=11) (w6) #[.int .i64 m.k,.int .i64 m.t,.int .i64 xi.k,.int .i64 xi.v,.slice xi.p xi.n xi.c,.int .i64 xv.k,.int .i64 xv.v,.slice xv.p xv.n xv.c,.int .i64 m.c,.slice w0 yb.length s0,.slice x0 ye.length t0] 1 Lr (by unfold maxLen;omega) (by simp)) d0;try simp only [Sa,Ss] at m0
   have z0:=d0.size;simp only [Sa] at z0;have r0:=Bb (Bk.n11 (w6.heap.size)) d0;replace h0:=btr (bal h0 _) d0;have a1:=m0.lt;try simp only [Sa] at a1
   clear b0;have b0:=f0;clear f0;clear hG;have hG:=c0;clear c0;have h3:=Bk.lz r0;replace a0:=Bb (Bk.al a0 _) d0;refine hK.out _ _ ⟨Bk.ce a0 0,Bk.ce a0 1,Bk.ce a0 2,Bk.ce a0 3,Bk.ce a0 4,Bk.ce a0 5,Bk.ce a0 6,Bk.ce a0 7,Bk.ce a0 8,Bk.ce a0 9,Bk.ce a0 10⟩ (fun hHeld=>?_);clear hK K;try simp only [Ep]
   refine Rdy 21 rfl (fun K hK=>?_);have y0:w7.ownsRow w.heap.size 51 11 (.slice a k c) k (rows snc rs):=by have h:=hG.own;rw [d2.out] at h;exact h
   have iK:∀ q,(Value.slice a k c).ownBlock=some q→w.heap.size≤q∧q < wr.heap.size:=fun q hq=>by have h2:=f2 q hq;omega
   have l2:StX D w7 (fun q=>wr.heap.size≤q) ⟨m.k,m.t,xi,xv,m.c,w0,yb.length,s0,x0,ye.length,t0⟩ (.mk y1 y2 yx yv y3 yb ye):=by rw [t2.out];exact stX_mk ⟨HQ.out.1,HQ.out.2.1,HQ.out.2.2⟩ k0 n0 q0 v0 (by omega) (fun q h=>by show wr.heap.size≤q;omega)
   refine step_aps tStmts2 rfl _ _ rfl w.heap.size _ k (rows snc rs) rfl y0 _ 1 (snc ⟨m.k,m.t,xi,xv,m.c,w0,yb.length,s0,x0,ye.length,t0⟩) rfl (Ro m0 (by simp)) (one_snc _) (by omega) (by omega) ?_;intro vA w8 oA hc g2 _;obtain ⟨pA,tA,rfl⟩:=Oh oA;clear b0;clear k0 n0 q0 v0;have c0:=grd_push hG (kpT D) (by rw [d2.out];exact oA) hc g2 l2 (fun q (hq:wr.heap.size≤q) hl=>⟨hq,by omega,fun h=>by have:=iK q h;omega⟩) (by omega);have s2:=hc.size;replace m0:=Ow m0 hc (fun gq h h2=>by have:=a1 gq h;have:=iK gq h2;omega);replace a0:=Bk.keep a0 hc (fun h=>by have:=iK _ h;omega);replace r0:=Bk.keep r0 hc (fun h=>by have:=iK _ h;omega);replace h0:=h0.trans (hc.below w.heap.size (by have:=h0.size;omega) (fun gq hgq h=>by have:=iK gq h;omega));clear hc;clear hG;have hG:=c0;clear c0;clear g2 oA y0 iK l2 f2;refine hK.out _ _ ⟨Bk.ce a0 0,Bk.ce a0 1,Bk.ce a0 2,Bk.ce a0 3,Bk.ce a0 4,Bk.ce a0 5,Bk.ce a0 6,Bk.ce a0 7,Bk.ce a0 8,Bk.ce a0 9,Bk.ce a0 10⟩ (fun hHeld=>?_);clear hK K;try simp only [Ep]
   refine (tq 22 3 rfl rfl ?_ ?_ ?_);(rotate_left;intro W' hSw;(try dsimp only at hSw);go_simp;try with_reducible rfl)
   try simp only [Ep]
   refine Dn ?_;clear hHeld;have HG:=Hi hG;clear hG;have z2:=Hi h0;rw [← x2.out] at HG;go_wp2
   go_roundw
   case rel=>exact ⟨k+1,_,pA,tA,by omega,by go_num,rfl,grd_hi HG.out (by omega),z2.out⟩
   case measure=>simp [intOf];omega
  have a3:k=L.length:=by omega
  subst a3;have c3:decide (((L.length:Nat):Int) < (L.length:Int))=false:=decide_eq_false (by omega);rw [List.take_of_length_le Lr] at hG;have v2:=Hi hG;clear hG b1 IH HX;go_wp2
  go_ret
  exact (by unfold OwB;exact ⟨a,c,rfl,grd_row v2.out (kpT D) (fun q hq _=>hq),o0⟩)
theorem ownStmts_any (A:Nat→Prop):∀ (D:Nat) (u:Value) (L:List St) (w:World),BlAt w A D u L→stNs L≤1048576→Calls Try.prog 34 #[u] w fun r w'=>OwB D L w r w':=by
 intro D
 induction D with
 | zero=>exact ownStmts_of A 0 (fun D' h=>by omega)
 | succ D ih =>
  refine ownStmts_of A (D+1) (fun D' h=>?_);obtain rfl:D=D':=by omega
  exact ih
end Go.Proofs.Ytlckklglbodgbaa
