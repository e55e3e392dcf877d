/-
 Parts of the proofs of the laws FnPairMemory,FnSplitMemory.
-/
import Derived.Test.YtlckklglbodgbaaGreatQB
import Derived.Test.YtlckklglbodgbaaGreatQD
set_option maxHeartbeats 12800000
set_option maxRecDepth 100000
set_option linter.all false
namespace Go.Proofs.YtlckklglbodgbaaGreat
open Go.RowKit
theorem l2DrawBlock_of (pv pa:Option Addr) (nv cv na ca:Nat) (vb:Value) (B g:Nat) (d:Nat) (hd:d≤3) (Hs:∀ (p:Nat) (w:World),Rnd w B g p→p+scost (d+1)≤1000000000→Calls Tryz.prog 99 #[.pointer (some ⟨g,0,none⟩),.agg #[.slice pv nv cv,.slice pa na ca,vb],.int .i64 ((d+1:Nat):Int)] w fun r w'=>∃ (n:Sn) (s:St) (p':Nat),r=.returned (.agg #[.int .i64 n.k,.int .i64 n.t,.int .i64 n.ix.k,.int .i64 n.ix.v,.slice n.ix.p n.ix.n n.ix.c,.int .i64 n.val.k,.int .i64 n.val.v,.slice n.val.p n.val.n n.val.c,.int .i64 n.c,.slice n.bp n.bn n.bc,.slice n.ep n.en n.ec])∧StAt w' (fun q=>w.heap.size≤q) (d+1) n s∧SmS (d+1) s∧Rnd w' B g p'∧p'≤p+scost (d+1)∧Chg (fun q=>q=g) w w')
  (n p:Nat) (w:World) (hn:n≤4) (hR:Rnd w B g p) (hp:p+n*scost (d+1)≤1000000000) :
  Calls Tryz.prog 80 #[.pointer (some ⟨g,0,none⟩),.agg #[.slice pv nv cv,.slice pa na ca,vb],.int .i64 ((d+1:Nat):Int),.int .i64 (n:Int)] w fun r w'=>∃ (a:Option Addr) (c:Nat) (L:List St) (p':Nat),r=.returned (.slice a L.length c)∧BlAt w' (fun q=>w.heap.size≤q) (d+1) (.slice a L.length c) L∧L.length=n∧(∀ x ∈ L,SmS (d+1) x)∧Rnd w' B g p'∧p'≤p+n*scost (d+1)∧Chg (fun q=>q=g) w w':=by
 have f1:=Hi hp;clear hp;have i1:=Hi Hs;clear Hs;have k0:=Hi (fun k (hk:k < n)=>(Nat.mul_le_mul_right (scost (d+1)) (by omega:k+1≤n)));have q0:=Hi (fun k=>show (k+1)*scost (d+1)=k*scost (d+1)+scost (d+1) from Nat.succ_mul k _);generalize scost (d+1)=SC at *
 have hg:=hR.lt;have hC:Chg (fun k=>k=g) w w:=Chg.refl _ _;have a2:∀ q,(fun k=>k=g) q→q=g:=fun q h=>h
 go_enter Tryz.func80,Tryz.ntmps80
 go_upto_region 2 with (fail)
 generalize hnw:World.alloc _ _=w1;have hb:=nmh hnw;clear hnw
 replace hC:=(((hC.trans (Cb (bal (Bs _) _))).trans (Cb (bal (Bs _) _)))).trans (Cb hb);replace hR:=((hR.below (bal (Bs _) _)).below (bal (Bs _) _)).below hb;have j0:=Ob (World.ownsRow_lit (base:=((World.alloc w (.cells #[.slice pv nv cv,.slice pa na ca,vb] 26))).heap.size) (e:=75) (size:=11) ((World.alloc w (.cells #[.slice pv nv cv,.slice pa na ca,vb] 26))) #[] 0 Lr (by unfold maxLen;omega) (by simp)) hb;try simp only [Sa,Ss] at j0
 have n0:=hb.size;simp only [Sa] at n0;have m0:=Bb (Bk.al (Bk.n3 (w.heap.size)) (.cells #[] 75)) hb;clear hb;have o1:=j0.lt;try simp only [Sa] at o1
 have b2:=Bk.lz m0;obtain ⟨z0,r1,a1,s1,h0,o0⟩:=Bk.h3 m0;have x0:StsAt w1 w.heap.size (d+1) (.slice (some ⟨w.heap.size+1,0,none⟩) 0 0) [] []:=StsAt.nil (Om j0 (by omega));have p0:Hid (∃ (k:Nat) (rs:List Sn) (l:List St) (a:Option Addr) (c pk:Nat),k≤n∧Value.int .i64 0=.int .i64 k∧Value.slice (some ⟨w.heap.size+1,0,none⟩) 0 0=.slice a k c∧l.length=k∧StsAt w1 w.heap.size (d+1) (.slice a k c) rs l∧w1.cell? ⟨w.heap.size,0,none⟩=some (.slice pv nv cv)∧w1.cell? ⟨w.heap.size,1,none⟩=some (.slice pa na ca)∧w1.cell? ⟨w.heap.size,2,none⟩=some (vb)∧Rnd w1 B g pk∧pk≤p+k*SC∧Chg (fun q=>q=g) w w1∧w1.heap.size≤w1.heap.size):=Hi ⟨0,[],[],_,0,p,Nat.zero_le _,rfl,rfl,rfl,x0,z0,a1,h0,hR,by omega,hC,Lr⟩;clear x0 hR hC m0 j0 z0 r1 a1 s1 h0 o0;go_wp2_with fail
 go_loopw [9,10] (fun o i wr=>∃ (k:Nat) (rs:List Sn) (l:List St) (a:Option Addr) (c pk:Nat),k≤n∧i=.int .i64 k∧o=.slice a k c∧l.length=k∧StsAt wr w.heap.size (d+1) (.slice a k c) rs l∧wr.cell? ⟨w.heap.size,0,none⟩=some (.slice pv nv cv)∧wr.cell? ⟨w.heap.size,1,none⟩=some (.slice pa na ca)∧wr.cell? ⟨w.heap.size,2,none⟩=some (vb)∧Rnd wr B g pk∧pk≤p+k*SC∧Chg (fun q=>q=g) w wr∧w1.heap.size≤wr.heap.size) (fun _ i _=>n-(intOf i).toNat)
 case atStart=>exact p0.out
 case round =>
  clear p0;obtain ⟨k,rs,l,a,c,pk,hk,rfl,rfl,i0,a0,c0,c1,c2,hR,x1,hC,z1⟩:=hrel;have d0:=Hi i0;clear i0;have k5:=Lc c0;by_cases hlt:k < n
  ·have y1:(k:Int) < (n:Int):=by omega
   have m1:=k0.out k hlt;have w0:=q0.out k;have n1:pk+SC≤1000000000:=by have:=f1.out;omega
   have e1:=Hi w0;clear m1 w0;have f0:∀ q,(Value.slice a k c).ownBlock=some q→q < wr.heap.size:=fun q hq=>(a0.own.lt q hq).2
   go_wp2_with fail
   refine (i1.out pk _ hR n1).mono ?_;rintro e w2 ⟨nd,e,p1,rfl,hE,k1,t0,v1,hc⟩;have b0:=a0.keep hc (fun q hq (h:q=g)=>by omega);replace hC:=(hC).trans hc;replace hR:=t0;clear t0;have y0:=hc.size;replace c0:=Gg hc c0;replace c1:=Gg hc c1;replace c2:=Gg hc c2;clear hc;clear a0;have a0:=b0;clear b0;replace hE:=StAt.keep (S:=fun _=>False) (Chg.refl _ _) (fun _ _ _=>id) (fun q (hq:wr.heap.size≤q) hlt=>(show wr.heap.size≤q∧q < w2.heap.size from ⟨hq,hlt⟩)) Lr hE;have q1:=Lc c0;have r0:=a0.own.lt;have iK:∀ q,(Value.slice a k c).ownBlock=some q→w.heap.size+1≤q∧q < wr.heap.size:=fun q hq=>by have h1:=f0 q hq;have h2:=r0 q hq;omega
   have e0:w2.ownsRow (w.heap.size+1) 75 11 (.slice a k c) k (rows snc rs):=by have h:=a0.own;rw [d0.out] at h;exact h
   go_wp2_with (at_builtin;go_must (refine wpList_aps tStmts rfl _ _ rfl (w.heap.size+1) _ k (rows snc rs) rfl (Ob e0 (bal (Bs _) (.cells #[.int .i64 nd.k,.int .i64 nd.t,.int .i64 nd.ix.k,.int .i64 nd.ix.v,.slice nd.ix.p nd.ix.n nd.ix.c,.int .i64 nd.val.k,.int .i64 nd.val.v,.slice nd.val.p nd.val.n nd.val.c,.int .i64 nd.c,.slice nd.bp nd.bn nd.bc,.slice nd.ep nd.en nd.ec] 75))) _ 1 (snc nd) rfl (Ro (World.ownsRow_lit (base:=(w2).heap.size) (e:=75) (size:=11) (w2) #[.int .i64 nd.k,.int .i64 nd.t,.int .i64 nd.ix.k,.int .i64 nd.ix.v,.slice nd.ix.p nd.ix.n nd.ix.c,.int .i64 nd.val.k,.int .i64 nd.val.v,.slice nd.val.p nd.val.n nd.val.c,.int .i64 nd.c,.slice nd.bp nd.bn nd.bc,.slice nd.ep nd.en nd.ec] 1 Lr (by unfold maxLen;omega) (by simp)) (by simp)) (one_snc nd) (by first | omega | (simp only [Sa];omega)) (by first | omega | (simp only [Sa];omega)) ?_))
   intro vA w3 oA hc s0 _;obtain ⟨pA,tA,rfl⟩:=Oh oA;have b0:=StsAt.push (a0.below (bal (Bs _) (.cells #[.int .i64 nd.k,.int .i64 nd.t,.int .i64 nd.ix.k,.int .i64 nd.ix.v,.slice nd.ix.p nd.ix.n nd.ix.c,.int .i64 nd.val.k,.int .i64 nd.val.v,.slice nd.val.p nd.val.n nd.val.c,.int .i64 nd.c,.slice nd.bp nd.bn nd.bc,.slice nd.ep nd.en nd.ec] 75))) (by rw [d0.out];exact oA) hc s0 (StAt.keep (S:=fun _=>False) (Chg.refl _ _) (fun _ _ _=>id) (fun q (hq:wr.heap.size≤q∧q < w2.heap.size) _=>hq.1) Lr (StAt.keep (S:=fun _=>False) (Cb (bal (Bs _) (.cells #[.int .i64 nd.k,.int .i64 nd.t,.int .i64 nd.ix.k,.int .i64 nd.ix.v,.slice nd.ix.p nd.ix.n nd.ix.c,.int .i64 nd.val.k,.int .i64 nd.val.v,.slice nd.val.p nd.val.n nd.val.c,.int .i64 nd.c,.slice nd.bp nd.bn nd.bc,.slice nd.ep nd.en nd.ec] 75))) (fun _ _ _=>id) (fun _ h _=>h) Lr hE)) k1 (by omega) (fun q hq=>by have:=f0 q hq;omega);replace hC:=chg_app (hC.trans (Cb (bal (Bs _) _))) hc (fun q hq h=>by have:=iK q h;omega);replace hR:=(hR.below (bal (Bs _) _)).keep hc (fun h=>by have:=iK _ h;omega) (fun k hk h=>by have:=iK _ h;omega);replace hE:=StAt.keep hc (fun q (hq:wr.heap.size≤q∧q < w2.heap.size) _ h=>by have:=iK q h;omega) (fun _ h _=>h) Lr (StAt.keep (S:=fun _=>False) (Cb (bal (Bs _) _)) (fun _ _ _=>id) (fun _ h _=>h) Lr hE);have g0:=hc.size;simp only [Sa] at g0;replace c0:=Gc hc (Ac c0 _) (fun h=>by have:=iK _ h;omega);replace c1:=Gc hc (Ac c1 _) (fun h=>by have:=iK _ h;omega);replace c2:=Gc hc (Ac c2 _) (fun h=>by have:=iK _ h;omega);have j1:Bk w3 (w2.heap.size) [.int .i64 nd.k,.int .i64 nd.t,.int .i64 nd.ix.k,.int .i64 nd.ix.v,.slice nd.ix.p nd.ix.n nd.ix.c,.int .i64 nd.val.k,.int .i64 nd.val.v,.slice nd.val.p nd.val.n nd.val.c,.int .i64 nd.c,.slice nd.bp nd.bn nd.bc,.slice nd.ep nd.en nd.ec]:=Bk.keep (Bk.n11 (w2.heap.size)) hc (fun h=>by have:=iK _ h;omega);clear hc;clear a0;have a0:=b0;clear b0;have l0:=Hi a0;have HH:=Hi (Ai hR hC);clear a0 hR hC s0 oA e0 iK r0;have v0:(l++[e]).length=k+1:=by rw [List.length_append,d0.out];rfl
   have d1:=Hi v0;clear v0;go_wp2
   go_roundw
   case rel=>exact ⟨k+1,rs++[nd],l++[e],pA,tA,p1,by omega,by go_num,rfl,d1.out,l0.out,c0,c1,c2,HH.out.1,by have:=e1.out;omega,HH.out.2,by omega⟩
   case measure=>simp [intOf];omega
  have l1:k=n:=by omega
  subst l1;obtain ⟨i0⟩:Nonempty (l.length=k):=⟨d0.out⟩;have t1:=k0;clear k0 q0 d0;subst i0;have b1:=Hi (a0.block (by omega));have g1:=Hi a0.small;clear a0;have tC:=hC;have tR:=hR;have tt:=True.intro;go_wp2
  exact bodyPost_ret (v:=.slice a l.length c) (by simp [results,Tryz.results80,go_sem]) rfl (by exact ⟨_,_,l,pk,rfl,BlAt.keep2 (S:=fun _=>False) (Chg.refl _ _) (fun _ _ _=>id) (fun q (hq:w.heap.size < q) _=>by show w.heap.size≤q;omega) Lr b1.out,rfl,g1.out,tR,by omega,tC⟩)
theorem l2DrawBoth (pv pa:Option Addr) (nv cv na ca:Nat) (vb:Value) (B g:Nat) (hnv:1≤nv) (hnb:nv≤1000∧na≤1000):∀ (d:Nat),d≤3 →
  (∀ (p:Nat) (w:World),Rnd w B g p→p+scost (d+1)≤1000000000→Calls Tryz.prog 99 #[.pointer (some ⟨g,0,none⟩),.agg #[.slice pv nv cv,.slice pa na ca,vb],.int .i64 ((d+1:Nat):Int)] w fun r w'=>∃ (n:Sn) (s:St) (p':Nat),r=.returned (.agg #[.int .i64 n.k,.int .i64 n.t,.int .i64 n.ix.k,.int .i64 n.ix.v,.slice n.ix.p n.ix.n n.ix.c,.int .i64 n.val.k,.int .i64 n.val.v,.slice n.val.p n.val.n n.val.c,.int .i64 n.c,.slice n.bp n.bn n.bc,.slice n.ep n.en n.ec])∧StAt w' (fun q=>w.heap.size≤q) (d+1) n s∧SmS (d+1) s∧Rnd w' B g p'∧p'≤p+scost (d+1)∧Chg (fun q=>q=g) w w') ∧
  (∀ (n p:Nat) (w:World),n≤4→Rnd w B g p→p+n*scost (d+1)≤1000000000→Calls Tryz.prog 80 #[.pointer (some ⟨g,0,none⟩),.agg #[.slice pv nv cv,.slice pa na ca,vb],.int .i64 ((d+1:Nat):Int),.int .i64 (n:Int)] w fun r w'=>∃ (a:Option Addr) (c:Nat) (L:List St) (p':Nat),r=.returned (.slice a L.length c)∧BlAt w' (fun q=>w.heap.size≤q) (d+1) (.slice a L.length c) L∧L.length=n∧(∀ x ∈ L,SmS (d+1) x)∧Rnd w' B g p'∧p'≤p+n*scost (d+1)∧Chg (fun q=>q=g) w w'):=by
 intro d
 induction d with
 | zero =>
  intro hd;have hs:=fun p w hR hp=>l2DrawStmt_of pv pa nv cv na ca vb B g hnv hnb 0 hd (fun h=>by omega) p w hR hp
  exact ⟨hs,fun n p w hn hR hp=>l2DrawBlock_of pv pa nv cv na ca vb B g 0 hd hs n p w hn hR hp⟩
 | succ d ih =>
  intro hd;have hb:=(ih (by omega)).2;have hs:=fun p w hR hp=>l2DrawStmt_of pv pa nv cv na ca vb B g hnv hnb (d+1) hd (fun _ n p w hn hR hp=>hb n p w (by omega) hR hp) p w hR hp
  exact ⟨hs,fun n p w hn hR hp=>l2DrawBlock_of pv pa nv cv na ca vb B g (d+1) hd hs n p w hn hR hp⟩
theorem StAt.bodies {w:World} {B:Nat→Prop} {D:Nat} {n:Sn} {s:St} (h:StAt w B D n s):∃ D' body els,D=D'+1∧BlAt w B D' (.slice n.bp n.bn n.bc) body∧BlAt w B D' (.slice n.ep n.en n.ec) els:=by
 cases D with
 | zero=>cases h
 | succ D=>obtain ⟨k,t,ix,val,c,body,els⟩:=s;obtain ⟨_,_,_,_,_,h6,h7⟩:=h;exact ⟨D,body,els,rfl,h6,h7⟩
theorem l2Size_any (A:Nat→Prop):∀ (D:Nat) (d:Int) (u:Value) (L:List St) (w:World),BlAt w A D u L →
  Calls Tryz.prog 67 #[u,.int .i64 d] w fun r w'=>∃ z:Int,r=.returned (.int .i64 z)∧Below w.heap.size w w':=by
 intro D
 induction D with
 | zero =>
  intro d u L w hx;obtain ⟨pu,cu,rfl⟩:=hx.shape
  have hL:L=[]:=by
   cases L with
   | nil=>rfl
   | cons x L=>obtain ⟨_,_,_,_,_,_,_,h,_⟩:=hx.stmt 0 (by simp);cases h
  subst hL;have o0:=Bs w;clear hx;go_enter Tryz.func67,Tryz.ntmps67
  go_wp2_with fail
  go_loopw [5,6] (fun z i wr=>z=.int .i64 0∧i=.int .i64 0∧wr=w) (fun _ _ _=>0)
  case atStart=>exact ⟨rfl,rfl,rfl⟩
  case round =>
   obtain ⟨rfl,rfl,rfl⟩:=hrel;go_wp2
   go_ret
   exact ⟨_,rfl,o0⟩
 | succ D IH =>
  intro d u L w hx;obtain ⟨pu,cu,rfl⟩:=hx.shape;have p0:L.length≤9223372036854775807:=by obtain ⟨_,_,h,_⟩:=hx;exact h.2.1
  have HX:=Hi (fun W (hW:Below w.heap.size w W)=>hx.below hW);have HI:=Hi IH;clear hx IH;by_cases hd1:1 < d
  ·skip
   have qd:decide ((1:Int) < d)=true:=decide_eq_true (by omega);go_enter Tryz.func67,Tryz.ntmps67
   go_wp2_with fail
   go_loopw [5,6] (fun z i wr=>∃ (k:Nat) (y:Int),k≤L.length∧i=.int .i64 k∧z=.int .i64 y∧Below w.heap.size w wr) (fun _ i _=>L.length-(intOf i).toNat)
   case atStart=>exact ⟨0,_,Nat.zero_le _,rfl,rfl,Bs _⟩
   case round =>
    obtain ⟨k,y,hk,rfl,rfl,hB⟩:=hrel;have c0:=Hi hB;clear hB;by_cases hlt:k < L.length
    ·have f0:(k:Int) < (L.length:Int):=by omega
     obtain ⟨kb,ko,w0,m,hp,_,x0,hm,e0⟩:=(HX.out wr c0.out).stmt k hlt;simp only [Value.slice.injEq,true_and] at hp;obtain ⟨rfl,rfl⟩:=hp;have e9:wr.cell? ⟨kb,ko+k*11+9,none⟩=some (.slice m.bp m.bn m.bc):=by have h:=e0 9 (by omega);rw [← Nat.add_assoc] at h;exact h
     have a0:wr.cell? ⟨kb,ko+k*11+10,none⟩=some (.slice m.ep m.en m.ec):=by have h:=e0 10 (by omega);rw [← Nat.add_assoc] at h;exact h
     clear e0;obtain ⟨D2,d0,m0,hD,i0,j0⟩:=hm.bodies;have n0:D2=D:=by omega
     subst n0;clear hD hm;have k0:=Hi (fun W (hW:Below wr.heap.size wr W) x=>HI.out x _ d0 W (i0.below hW));have l0:=Hi (fun W (hW:Below wr.heap.size wr W) x=>HI.out x _ m0 W (j0.below hW));clear i0 j0;go_upto_region 5 with (fail)
     have y0:=Lc e9;refine wp_region_noPanic ?_;refine wp_region_held_drew (S:=(fun W'=>W'.cell? ⟨kb,ko+k*11+9,none⟩=some (.slice m.bp m.bn m.bc)∧W'.cell? ⟨kb,ko+k*11+10,none⟩=some (.slice m.ep m.en m.ec))) (by kernel_rfl) ⟨Kc (Bd (Bs wr)) e9,Kc (Bd (Bs wr)) a0⟩ (fun hHeld=>?_);obtain ⟨w1,h0⟩:∃ X,X=World.drew wr:=⟨_,rfl⟩;rw [← h0] at hHeld ⊢;have hb:Below wr.heap.size wr w1:=by rw [h0];exact Bd (Bs _)
     clear h0;have q0:=hb.size;replace e9:=Kc hb e9;replace a0:=Kc hb a0;have b0:=btr (Bs wr) hb;clear hb;refine (tq 0 19 rfl rfl ?_ ?_ (tq 1 20 rfl rfl ?_ ?_ (tq 2 21 rfl rfl ?_ ?_ (tq 3 22 rfl rfl ?_ ?_ (tq 4 23 rfl rfl ?_ ?_ (tq 5 24 rfl rfl ?_ ?_ (tq 6 25 rfl rfl ?_ ?_ (tq 7 26 rfl rfl ?_ ?_ (tq 10 29 rfl rfl ?_ ?_ (tq 11 30 rfl rfl ?_ ?_ (tq 12 31 rfl rfl ?_ ?_ (tq 13 32 rfl rfl ?_ ?_ (tq 14 33 rfl rfl ?_ ?_ (tq 15 34 rfl rfl ?_ ?_ (tq 16 35 rfl rfl ?_ ?_ ?_)))))))))))))));iterate 15 (rotate_left;intro W' hSw;(try dsimp only at hSw);go_simp;try with_reducible rfl)
     try simp only [Ep]
     refine Rdy 8 rfl (fun K hK=>?_);go_simp
     refine (k0.out _ b0 _).mono ?_;rintro e w2 ⟨t0,rfl,hb⟩;have r0:=hb.size;replace e9:=Kc hb e9;replace a0:=Kc hb a0;replace b0:=btr b0 hb;clear hb;refine hK.out _ _ ⟨e9,a0⟩ (fun hHeld=>?_);clear hK K;try simp only [Ep]
     refine (tq 9 28 rfl rfl ?_ ?_ ?_);(rotate_left;intro W' hSw;(try dsimp only at hSw);go_simp;try with_reducible rfl)
     try simp only [Ep]
     refine Rdy 17 rfl (fun K hK=>?_);go_simp
     refine (l0.out _ b0 _).mono ?_;rintro e w3 ⟨v0,rfl,hb⟩;have s0:=hb.size;replace e9:=Kc hb e9;replace a0:=Kc hb a0;replace b0:=btr b0 hb;clear hb;refine hK.out _ _ ⟨e9,a0⟩ (fun hHeld=>?_);clear hK K;try simp only [Ep]
     refine (tq 18 37 rfl rfl ?_ ?_ (tq 19 5 rfl rfl ?_ ?_ ?_));iterate 2 (rotate_left;intro W' hSw;(try dsimp only at hSw);go_simp;try with_reducible rfl)
     try simp only [Ep]
     refine Dn ?_;clear hHeld;go_wp2
     go_roundw
     case rel=>exact ⟨k+1,_,by omega,by go_num,rfl,btr c0.out b0⟩
     case measure=>simp [intOf];omega
    have f0:decide ((k:Int) < (L.length:Int))=false:=decide_eq_false (by omega);have g0:decide (k < L.length)=false:=decide_eq_false hlt;have tt:=c0.out;go_wp2
    go_ret
    exact ⟨_,rfl,tt⟩
  skip
  have qd:decide ((1:Int) < d)=false:=decide_eq_false (by omega);go_enter Tryz.func67,Tryz.ntmps67
  go_wp2_with fail
  go_loopw [5,6] (fun z i wr=>∃ (k:Nat) (y:Int),k≤L.length∧i=.int .i64 k∧z=.int .i64 y∧Below w.heap.size w wr) (fun _ i _=>L.length-(intOf i).toNat)
  case atStart=>exact ⟨0,_,Nat.zero_le _,rfl,rfl,Bs _⟩
  case round =>
   obtain ⟨k,y,hk,rfl,rfl,hB⟩:=hrel;have c0:=Hi hB;clear hB;by_cases hlt:k < L.length
   ·have f0:(k:Int) < (L.length:Int):=by omega
    have tt:=c0.out;go_wp2
    go_ret
    exact ⟨_,rfl,tt⟩
   have f0:decide ((k:Int) < (L.length:Int))=false:=decide_eq_false (by omega);have g0:decide (k < L.length)=false:=decide_eq_false hlt;have tt:=c0.out;go_wp2
   go_ret
   exact ⟨_,rfl,tt⟩
theorem ProgramValid_b (va vb:Value) (xs ys:List Int) (A:Nat→Prop) (D:Nat) (u:Value) (L:List St) (w:World) (hr:Reads w 1 va xs.length (ints xs)) (hs:Reads w 1 vb ys.length (ints ys)) (hx:BlAt w A D u L) :
  Calls Tryz.prog 38 #[.agg #[va,vb,u]] w fun r w'=>∃ b:Bool,r=.returned (.bool b)∧Below w.heap.size w w':=by
 obtain ⟨pv,cv,rfl⟩:=reads_shape hr;obtain ⟨pa,ca,rfl⟩:=reads_shape hs;obtain ⟨pu,cu,rfl⟩:=hx.shape;have HH:=Hi (fun W (hW:Below w.heap.size w W)=>l2Heads_any _ _ xs ys pu L.length cu W (hr.below hW) (hs.below hW));have HB:=Hi (fun W (hW:Below w.heap.size w W)=>(l2Both pv pa xs.length cv ys.length ca (.slice pu L.length cu) A 5 Lr).2 D _ L W (hx.below hW));have HS:=Hi (fun W (hW:Below w.heap.size w W)=>l2Size_any A D 5 _ L W (hx.below hW));clear hr hs hx;generalize declOk xs ys=X at *
 generalize L.all (stOk xs.length ys.length 5)=Y at *
 go_enter Tryz.func38,Tryz.ntmps38
 go_wp2_with fail
 refine (HH.out _ (bal (Bs w) (.cells #[.slice pv xs.length cv,.slice pa ys.length ca,.slice pu L.length cu] 26))).mono ?_;rintro e w1 ⟨rfl,hb⟩;have c0:=hb.size;simp only [Sa] at c0;have b0:Bk w1 (w.heap.size) [.slice pv xs.length cv,.slice pa ys.length ca,.slice pu L.length cu]:=Bb (Bk.nw (by simp) rfl) hb;have a0:=btr (bal (Bs w) (.cells #[.slice pv xs.length cv,.slice pa ys.length ca,.slice pu L.length cu] 26)) hb;clear hb;have n0:=Bk.lz b0
 cases X with
 | false =>
  have tt:=a0;go_wp2
  exact bodyPost_ret (v:=.bool false) (by simp [results,Tryz.results38,go_sem]) rfl (by exact ⟨_,rfl,tt⟩)
 | true =>
  obtain ⟨h0,k0,i0,l0,j0,m0⟩:=Bk.h3 b0;go_wp2_with fail
  refine (HB.out _ a0).mono ?_;rintro e w2 ⟨rfl,hb⟩;have f0:=hb.size;clear k0 h0 l0 i0 m0 j0;replace b0:=Bb b0 hb;replace a0:=btr a0 hb;clear hb
  cases Y with
  | false =>
   have tt:=a0;go_wp2
   exact bodyPost_ret (v:=.bool false) (by simp [results,Tryz.results38,go_sem]) rfl (by exact ⟨_,rfl,tt⟩)
  | true =>
   obtain ⟨d0,e0⟩:=Bk.cf b0 2 rfl;go_wp2_with fail
   refine (HS.out _ a0).mono ?_;rintro e w3 ⟨z,rfl,hb⟩;have g0:=hb.size;clear e0 d0;replace b0:=Bb b0 hb;replace a0:=btr a0 hb;clear hb;clear b0;have tt:=a0;go_wp2
   exact bodyPost_ret (v:=.bool (decide (z≤60))) (by simp [results,Tryz.results38,go_sem]) rfl (by exact ⟨_,rfl,tt⟩)
end Go.Proofs.YtlckklglbodgbaaGreat
