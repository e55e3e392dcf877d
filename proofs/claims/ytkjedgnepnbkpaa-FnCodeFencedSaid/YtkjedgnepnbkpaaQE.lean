/-
 Parts of the proofs of the laws FnCodeFenced,FnCountBranches.
-/
import Derived.Test.YtkjedgnepnbkpaaQD
set_option linter.all false
namespace Go.Proofs.Ytkjedgnepnbkpaa
open Go.RowKit
set_option maxHeartbeats 6400000 in
set_option maxRecDepth 100000 in
theorem l2DrawBlock_of (pv pa:Option Addr) (nv cv na ca:Nat) (vb:Value) (B g:Nat) (d:Nat) (hd:d≤3) (Hs:∀ (p:Nat) (w:World),Rnd w B g p→p+scost (d+1)≤1000000000→Calls Try.prog 164 #[.pointer (some ⟨g,0,none⟩),.agg #[.slice pv nv cv,.slice pa na ca,vb],.int .i64 ((d+1:Nat):Int)] w fun r w'=>∃ (n:Sn) (s:St) (p':Nat),r=.returned (.agg #[.int .i64 n.k,.int .i64 n.t,.int .i64 n.ix.k,.int .i64 n.ix.v,.slice n.ix.p n.ix.n n.ix.c,.int .i64 n.val.k,.int .i64 n.val.v,.slice n.val.p n.val.n n.val.c,.int .i64 n.c,.slice n.bp n.bn n.bc,.slice n.ep n.en n.ec])∧StAt w' (fun q=>w.heap.size≤q) (d+1) n s∧SmS (d+1) s∧Rnd w' B g p'∧p'≤p+scost (d+1)∧Chg (fun q=>q=g) w w')
  (n p:Nat) (w:World) (hn:n≤4) (hR:Rnd w B g p) (hp:p+n*scost (d+1)≤1000000000) :
  Calls Try.prog 147 #[.pointer (some ⟨g,0,none⟩),.agg #[.slice pv nv cv,.slice pa na ca,vb],.int .i64 ((d+1:Nat):Int),.int .i64 (n:Int)] w fun r w'=>∃ (a:Option Addr) (c:Nat) (L:List St) (p':Nat),r=.returned (.slice a L.length c)∧BlAt w' (fun q=>w.heap.size≤q) (d+1) (.slice a L.length c) L∧L.length=n∧(∀ x ∈ L,SmS (d+1) x)∧Rnd w' B g p'∧p'≤p+n*scost (d+1)∧Chg (fun q=>q=g) w w':=by
 have f1:=Lib.hid hp;clear hp
 have i1:=Lib.hid Hs;clear Hs
 have k0:=Lib.hid (fun k (hk:k < n)=>(Nat.mul_le_mul_right (scost (d+1)) (by omega:k+1≤n)))
 have q0:=Lib.hid (fun k=>show (k+1)*scost (d+1)=k*scost (d+1)+scost (d+1) from Nat.succ_mul k _)
 generalize scost (d+1)=SC at *
 have hg:=hR.lt
 have hC:Chg (fun k=>k=g) w w:=Chg.refl _ _
 have z1:∀ q,(fun k=>k=g) q→q=g:=fun q h=>h
 go_enter Try.func147,Try.ntmps147
 go_upto_region 2 with (fail)
 obtain ⟨w1,w0,hb⟩:=nmw (World.alloc (World.alloc w (.cells #[.slice pv nv cv,.slice pa na ca,vb] 110)) (.cells #[] 163))
 replace hC:=(((hC.trans (Chg.of_below (bal (Bs _) _))).trans (Chg.of_below (bal (Bs _) _)))).trans (Chg.of_below hb)
 replace hR:=((hR.below (bal (Bs _) _)).below (bal (Bs _) _)).below hb
 have j0:=Ob (World.ownsRow_lit (base:=((World.alloc w (.cells #[.slice pv nv cv,.slice pa na ca,vb] 110))).heap.size) (e:=163) (size:=11) ((World.alloc w (.cells #[.slice pv nv cv,.slice pa na ca,vb] 110))) #[] 0 (Nat.le_refl _) (by unfold maxLen;omega) (by simp)) hb
 try simp only [Sa,Ss] at j0
 have n0:=hb.size
 simp only [Sa] at n0
 have m0:Bk w1 (w.heap.size) [.slice pv nv cv,.slice pa na ca,vb]:=Bk.below (Bk.al (Bk.nw (by simp) rfl) (.cells #[] 163)) hb
 clear hb
 have o1:=j0.lt
 try simp only [Sa] at o1
 rw [← w0]
 clear w0
 have a2:=Bk.lz m0
 obtain ⟨z0,r1,a1,s1,h0,o0⟩:=Bk.f3 m0 0 1 2 rfl rfl rfl
 have x0:StsAt w1 w.heap.size (d+1) (.slice (some ⟨w.heap.size+1,0,none⟩) 0 0) [] []:=StsAt.nil (Om j0 (by omega))
 have p0:Hid (∃ (k:Nat) (rs:List Sn) (l:List St) (a:Option Addr) (c pk:Nat),k≤n∧Value.int .i64 0=.int .i64 k∧Value.slice (some ⟨w.heap.size+1,0,none⟩) 0 0=.slice a k c∧l.length=k∧StsAt w1 w.heap.size (d+1) (.slice a k c) rs l∧w1.cell? ⟨w.heap.size,0,none⟩=some (.slice pv nv cv)∧w1.cell? ⟨w.heap.size,1,none⟩=some (.slice pa na ca)∧w1.cell? ⟨w.heap.size,2,none⟩=some (vb)∧Rnd w1 B g pk∧pk≤p+k*SC∧Chg (fun q=>q=g) w w1∧w1.heap.size≤w1.heap.size):=Lib.hid ⟨0,[],[],_,0,p,Nat.zero_le _,rfl,rfl,rfl,x0,z0,a1,h0,hR,by omega,hC,Nat.le_refl _⟩
 clear x0 hR hC m0 j0 z0 r1 a1 s1 h0 o0
 go_wp2_with fail
 go_loopw [9,10] (fun o i wr=>∃ (k:Nat) (rs:List Sn) (l:List St) (a:Option Addr) (c pk:Nat),k≤n∧i=.int .i64 k∧o=.slice a k c∧l.length=k∧StsAt wr w.heap.size (d+1) (.slice a k c) rs l∧wr.cell? ⟨w.heap.size,0,none⟩=some (.slice pv nv cv)∧wr.cell? ⟨w.heap.size,1,none⟩=some (.slice pa na ca)∧wr.cell? ⟨w.heap.size,2,none⟩=some (vb)∧Rnd wr B g pk∧pk≤p+k*SC∧Chg (fun q=>q=g) w wr∧w1.heap.size≤wr.heap.size) (fun _ i _=>n-(intOf i).toNat)
 case atStart=>exact p0.out
 case round =>
  clear p0
  obtain ⟨k,rs,l,a,c,pk,hk,rfl,rfl,i0,a0,c0,c1,c2,hR,v1,hC,y1⟩:=hrel
  have d0:=Lib.hid i0;clear i0
  have k5:=Lc c0
  by_cases hlt:k < n
  ·have x1:(k:Int) < (n:Int):=by omega
   have m1:=k0.out k hlt;have v0:=q0.out k;have n1:pk+SC≤1000000000:=by have:=f1.out;omega
   have e1:=Lib.hid v0;clear m1 v0
   have f0:∀ q,(Value.slice a k c).ownBlock=some q→q < wr.heap.size:=fun q hq=>(a0.own.lt q hq).2
   go_wp2_with fail
   refine (i1.out pk _ hR n1).mono ?_
   rintro e w2 ⟨nd,e,p1,rfl,hE,k1,t0,u1,hc⟩
   have b0:=a0.keep hc (fun q hq (h:q=g)=>by omega)
   replace hC:=(hC).trans hc
   replace hR:=t0;clear t0
   have y0:=hc.size
   replace c0:=Gg hc c0
   replace c1:=Gg hc c1
   replace c2:=Gg hc c2
   clear hc
   clear a0;have a0:=b0;clear b0
   replace hE:=StAt.keep (S:=fun _=>False) (Chg.refl _ _) (fun _ _ _=>id) (fun q (hq:wr.heap.size≤q) hlt=>(show wr.heap.size≤q∧q < w2.heap.size from ⟨hq,hlt⟩)) (Nat.le_refl _) hE
   have q1:=Lc c0
   have r0:=a0.own.lt
   have iK:∀ q,(Value.slice a k c).ownBlock=some q→w.heap.size+1≤q∧q < wr.heap.size:=fun q hq=>by have h1:=f0 q hq;have h2:=r0 q hq;omega
   have e0:w2.ownsRow (w.heap.size+1) 163 11 (.slice a k c) k (rows snc rs):=by have h:=a0.own;rw [d0.out] at h;exact h
   go_wp2_with (at_builtin;go_must (refine wpList_aps tStmts rfl _ _ rfl (w.heap.size+1) _ k (rows snc rs) rfl (Ob e0 (bal (Bs _) (.cells #[.int .i64 nd.k,.int .i64 nd.t,.int .i64 nd.ix.k,.int .i64 nd.ix.v,.slice nd.ix.p nd.ix.n nd.ix.c,.int .i64 nd.val.k,.int .i64 nd.val.v,.slice nd.val.p nd.val.n nd.val.c,.int .i64 nd.c,.slice nd.bp nd.bn nd.bc,.slice nd.ep nd.en nd.ec] 163))) _ 1 (snc nd) rfl (Ro (World.ownsRow_lit (base:=(w2).heap.size) (e:=163) (size:=11) (w2) #[.int .i64 nd.k,.int .i64 nd.t,.int .i64 nd.ix.k,.int .i64 nd.ix.v,.slice nd.ix.p nd.ix.n nd.ix.c,.int .i64 nd.val.k,.int .i64 nd.val.v,.slice nd.val.p nd.val.n nd.val.c,.int .i64 nd.c,.slice nd.bp nd.bn nd.bc,.slice nd.ep nd.en nd.ec] 1 (Nat.le_refl _) (by unfold maxLen;omega) (by simp)) (by simp)) (one_snc nd) (by first | omega | (simp only [Sa];omega)) (by first | omega | (simp only [Sa];omega)) ?_))
   intro vA w3 oA hc s0 _
   obtain ⟨pA,tA,rfl⟩:=Oh oA
   have b0:=StsAt.push (a0.below (bal (Bs _) (.cells #[.int .i64 nd.k,.int .i64 nd.t,.int .i64 nd.ix.k,.int .i64 nd.ix.v,.slice nd.ix.p nd.ix.n nd.ix.c,.int .i64 nd.val.k,.int .i64 nd.val.v,.slice nd.val.p nd.val.n nd.val.c,.int .i64 nd.c,.slice nd.bp nd.bn nd.bc,.slice nd.ep nd.en nd.ec] 163))) (by rw [d0.out];exact oA) hc s0 (StAt.keep (S:=fun _=>False) (Chg.refl _ _) (fun _ _ _=>id) (fun q (hq:wr.heap.size≤q∧q < w2.heap.size) _=>hq.1) (Nat.le_refl _) (StAt.keep (S:=fun _=>False) (Chg.of_below (bal (Bs _) (.cells #[.int .i64 nd.k,.int .i64 nd.t,.int .i64 nd.ix.k,.int .i64 nd.ix.v,.slice nd.ix.p nd.ix.n nd.ix.c,.int .i64 nd.val.k,.int .i64 nd.val.v,.slice nd.val.p nd.val.n nd.val.c,.int .i64 nd.c,.slice nd.bp nd.bn nd.bc,.slice nd.ep nd.en nd.ec] 163))) (fun _ _ _=>id) (fun _ h _=>h) (Nat.le_refl _) hE)) k1 (by omega) (fun q hq=>by have:=f0 q hq;omega)
   replace hC:=chg_app (hC.trans (Chg.of_below (bal (Bs _) _))) hc (fun q hq h=>by have:=iK q h;omega)
   replace hR:=(hR.below (bal (Bs _) _)).keep hc (fun h=>by have:=iK _ h;omega) (fun k hk h=>by have:=iK _ h;omega)
   replace hE:=StAt.keep hc (fun q (hq:wr.heap.size≤q∧q < w2.heap.size) _ h=>by have:=iK q h;omega) (fun _ h _=>h) (Nat.le_refl _) (StAt.keep (S:=fun _=>False) (Chg.of_below (bal (Bs _) _)) (fun _ _ _=>id) (fun _ h _=>h) (Nat.le_refl _) hE)
   have g0:=hc.size
   simp only [Sa] at g0
   replace c0:=Gc hc (Ac c0 _) (fun h=>by have:=iK _ h;omega)
   replace c1:=Gc hc (Ac c1 _) (fun h=>by have:=iK _ h;omega)
   replace c2:=Gc hc (Ac c2 _) (fun h=>by have:=iK _ h;omega)
   have j1:Bk w3 (w2.heap.size) [.int .i64 nd.k,.int .i64 nd.t,.int .i64 nd.ix.k,.int .i64 nd.ix.v,.slice nd.ix.p nd.ix.n nd.ix.c,.int .i64 nd.val.k,.int .i64 nd.val.v,.slice nd.val.p nd.val.n nd.val.c,.int .i64 nd.c,.slice nd.bp nd.bn nd.bc,.slice nd.ep nd.en nd.ec]:=Bk.keep (Bk.nw (by simp) rfl) hc (fun h=>by have:=iK _ h;omega)
   clear hc
   clear a0;have a0:=b0;clear b0
   have l0:=Lib.hid a0;have HH:=Lib.hid (And.intro hR hC);clear a0 hR hC s0 oA e0 iK r0
   have u0:(l++[e]).length=k+1:=by rw [List.length_append,d0.out];rfl
   have d1:=Lib.hid u0;clear u0
   go_wp2
   go_roundw
   case rel=>exact ⟨k+1,rs++[nd],l++[e],pA,tA,p1,by omega,by go_num,rfl,d1.out,l0.out,c0,c1,c2,HH.out.1,by have:=e1.out;omega,HH.out.2,by omega⟩
   case measure=>simp [intOf];omega
  have l1:k=n:=by omega
  subst l1
  obtain ⟨i0⟩:Nonempty (l.length=k):=⟨d0.out⟩
  have t1:=k0;clear k0 q0 d0
  subst i0
  have b1:=Lib.hid (a0.block (by omega));have g1:=Lib.hid a0.small;clear a0
  have tC:=hC;have tR:=hR
  have tt:=True.intro
  go_wp2
  exact bodyPost_ret (v:=.slice a l.length c) (by simp [results,Try.results147,go_sem]) rfl (by exact ⟨_,_,l,pk,rfl,BlAt.keep2 (S:=fun _=>False) (Chg.refl _ _) (fun _ _ _=>id) (fun q (hq:w.heap.size < q) _=>by show w.heap.size≤q;omega) (Nat.le_refl _) b1.out,rfl,g1.out,tR,by omega,tC⟩)
theorem l2DrawBoth (pv pa:Option Addr) (nv cv na ca:Nat) (vb:Value) (B g:Nat) (hnv:1≤nv) (hnb:nv≤1000∧na≤1000):∀ (d:Nat),d≤3 →
  (∀ (p:Nat) (w:World),Rnd w B g p→p+scost (d+1)≤1000000000→Calls Try.prog 164 #[.pointer (some ⟨g,0,none⟩),.agg #[.slice pv nv cv,.slice pa na ca,vb],.int .i64 ((d+1:Nat):Int)] w fun r w'=>∃ (n:Sn) (s:St) (p':Nat),r=.returned (.agg #[.int .i64 n.k,.int .i64 n.t,.int .i64 n.ix.k,.int .i64 n.ix.v,.slice n.ix.p n.ix.n n.ix.c,.int .i64 n.val.k,.int .i64 n.val.v,.slice n.val.p n.val.n n.val.c,.int .i64 n.c,.slice n.bp n.bn n.bc,.slice n.ep n.en n.ec])∧StAt w' (fun q=>w.heap.size≤q) (d+1) n s∧SmS (d+1) s∧Rnd w' B g p'∧p'≤p+scost (d+1)∧Chg (fun q=>q=g) w w') ∧
  (∀ (n p:Nat) (w:World),n≤4→Rnd w B g p→p+n*scost (d+1)≤1000000000→Calls Try.prog 147 #[.pointer (some ⟨g,0,none⟩),.agg #[.slice pv nv cv,.slice pa na ca,vb],.int .i64 ((d+1:Nat):Int),.int .i64 (n:Int)] w fun r w'=>∃ (a:Option Addr) (c:Nat) (L:List St) (p':Nat),r=.returned (.slice a L.length c)∧BlAt w' (fun q=>w.heap.size≤q) (d+1) (.slice a L.length c) L∧L.length=n∧(∀ x ∈ L,SmS (d+1) x)∧Rnd w' B g p'∧p'≤p+n*scost (d+1)∧Chg (fun q=>q=g) w w'):=by
 intro d
 induction d with
 | zero =>
  intro hd
  have hs:=fun p w hR hp=>l2DrawStmt_of pv pa nv cv na ca vb B g hnv hnb 0 hd (fun h=>by omega) p w hR hp
  exact ⟨hs,fun n p w hn hR hp=>l2DrawBlock_of pv pa nv cv na ca vb B g 0 hd hs n p w hn hR hp⟩
 | succ d ih =>
  intro hd
  have hb:=(ih (by omega)).2
  have hs:=fun p w hR hp=>l2DrawStmt_of pv pa nv cv na ca vb B g hnv hnb (d+1) hd (fun _ n p w hn hR hp=>hb n p w (by omega) hR hp) p w hR hp
  exact ⟨hs,fun n p w hn hR hp=>l2DrawBlock_of pv pa nv cv na ca vb B g (d+1) hd hs n p w hn hR hp⟩
end Go.Proofs.Ytkjedgnepnbkpaa
