/-
 Parts of the proofs of the laws FnPairMemory,FnSplitMemory.
-/
import Derived.Test.YtlckklglbodgbaaGreatKO
import Derived.Test.YtlckklglbodgbaaGreatQI
set_option maxHeartbeats 12800000
set_option maxRecDepth 100000
set_option linter.all false
namespace Go.Proofs.YtlckklglbodgbaaGreat
open Go.RowKit
structure PdR (w:World) (lo hi:Nat) (va vb vu:Value) (n m:Nat) (zs us:List Int) (D:Nat) (L:List St):Prop where
 lb:LbR w lo va vb n m zs us
 rh:∀ q,OwnRB va vb q→q < hi
 t:BlAt w (fun q=>lo≤q∧q < hi) D vu L
 top:hi≤w.heap.size
section
variable {w w':World} {lo hi:Nat} {va vb vu:Value} {n m:Nat} {zs us:List Int} {D:Nat} {L:List St}
theorem PdR.lt (h:PdR w lo hi va vb vu n m zs us D L):∀ q,PgB lo hi q→lo≤q∧q < w.heap.size:=fun q hq=>⟨hq.1,Nat.lt_of_lt_of_le hq.2 h.top⟩
theorem PdR.rows (h:PdR w lo hi va vb vu n m zs us D L):∀ q,OwnRB va vb q→PgB lo hi q:=fun q hq=>⟨(h.lb.lt q hq).1,h.rh q hq⟩
theorem PdR.keep (h:PdR w lo hi va vb vu n m zs us D L) {S:Nat→Prop} (hc:Chg S w w') (hs:∀ q,PgB lo hi q→¬S q):PdR w' lo hi va vb vu n m zs us D L:=
 ⟨h.lb.keep hc (fun q hq=>hs q (h.rows q hq)),h.rh,h.t.keep hc (fun q hq _=>hs q hq) (fun _ hq _=>hq) Lr,Nat.le_trans h.top hc.size⟩
theorem PdR.below (h:PdR w lo hi va vb vu n m zs us D L) (hb:Below w.heap.size w w'):PdR w' lo hi va vb vu n m zs us D L:=h.keep (S:=fun _=>False) (Cb hb) (fun _ _=>id)
theorem PdR.mono {lo':Nat} (h:PdR w lo hi va vb vu n m zs us D L) (hl:lo'≤lo):PdR w lo' hi va vb vu n m zs us D L:=
 ⟨⟨h.lb.lx,h.lb.ly,Om h.lb.a hl,Om h.lb.b hl,h.lb.ab⟩,h.rh,h.t.keep2 (S:=fun _=>False) (Chg.refl _ _) (fun _ _ _=>id) (fun q hq _=>⟨Nat.le_trans hl hq.1,hq.2⟩) Lr,h.top⟩
theorem PgR.pd (h:PgR w lo hi va vb vu n m zs us D L):PdR w lo hi va vb vu n m zs us D L:=
 ⟨h.lb,h.rh,h.t.keep2 (S:=fun _=>False) (Chg.refl _ _) (fun _ _ _=>id) (fun q hq _=>hq.1) Lr,h.top⟩
theorem PdR.ra (h:PdR w lo hi va vb vu n m zs us D L):Reads w 1 va n (ints zs):=by
 have:=h.lb.a;exact Ro this (own_len this)
theorem PdR.rb (h:PdR w lo hi va vb vu n m zs us D L):Reads w 1 vb m (ints us):=by
 have:=h.lb.b;exact Ro this (own_len this)
end
theorem exNs_sum {l:List Ex} {k:Nat} (h:∀ x ∈ l,exN x≤k):exNs l≤l.length*(1+k):=by
 induction l with
 | nil=>simp [exNs]
 | cons e l ih =>
  have h1:=h e (by simp);have h2:=ih (fun x hx=>h x (by simp [hx]));simp only [exNs,List.length_cons,Nat.add_mul,Nat.one_mul];omega
theorem stNs_sum {l:List St} {k:Nat} (h:∀ x ∈ l,stN1 x≤k):stNs l≤l.length*(1+k):=by
 induction l with
 | nil=>simp [stNs]
 | cons e l ih =>
  have h1:=h e (by simp);have h2:=ih (fun x hx=>h x (by simp [hx]));simp only [stNs,List.length_cons,Nat.add_mul,Nat.one_mul];omega
def enB:Nat→Nat
 | 0=>0
 | d+1=>3*(1+enB d)
def snB:Nat→Nat
 | 0=>0
 | d+1=>726+4*(1+snB d)
theorem exN_thin:∀ {d:Nat} {e:Ex},Thin d e→exN e≤enB d:=by
 intro d
 induction d with
 | zero=>intro e h;cases h
 | succ d ih =>
  intro e h;rw [exN_kids];obtain ⟨h1,h2⟩:=h;have h3:=exNs_sum (fun x hx=>ih (h2 x hx));have h4:=Nat.mul_le_mul_right (1+enB d) h1;simp only [enB];omega
theorem stN_sm:∀ {d:Nat} {s:St},SmS d s→stN1 s≤snB d:=by
 intro d
 induction d with
 | zero=>intro e h;cases h
 | succ d ih =>
  intro s h
  cases s with
  | mk k dst ix val ar body els =>
   obtain ⟨h1,h2,h3,h4,h5,h6⟩:=h;have e5:enB 5=363:=rfl;have a1:=exN_thin h1;have a2:=exN_thin h2;rw [e5] at a1 a2;have a3:=stNs_sum (fun x hx=>ih (h5 x hx));have a4:=stNs_sum (fun x hx=>ih (h6 x hx));have a5:=Nat.mul_le_mul_right (1+snB d) h3;have a6:=Nat.mul_le_mul_right (1+snB d) h4;simp only [stN1,snB];omega
theorem stNs_sm {L:List St} (h4:L.length≤4) (h:∀ x ∈ L,SmS 3 x):stNs L≤1048576:=by
 have h1:=stNs_sum (fun x hx=>stN_sm (h x hx));have h2:=Nat.mul_le_mul_right (1+snB 3) h4;have e:snB 3=15330:=rfl;rw [e] at h1 h2;omega
def TyP (d B g p:Nat) (w:World) (r:Ending) (w':World):Prop:=∃ (a0 a1 a2:Option Addr) (c0 c1 c2 n m hi:Nat) (zs us:List Int) (L:List St) (p':Nat),r=.returned (.agg #[.slice a0 n c0,.slice a1 m c1,.slice a2 L.length c2])∧PdR w' w.heap.size hi (.slice a0 n c0) (.slice a1 m c1) (.slice a2 L.length c2) n m zs us 3 L∧(n≤12∧m≤2∧stNs L≤1048576∧L.length≤4)∧Rnd w' B g p'∧p'≤p+d∧Chg (fun q=>q=g) w w'
theorem program_ty (B g p:Nat) (w:World) (hR:Rnd w B g p) (hp:p+3000000≤1000000000) :
  Calls Tryz.prog 45 #[.pointer (some ⟨g,0,none⟩)] w fun r w'=>TyP 3000000 B g p w r w':=by
 refine (l2Program_any B g p w hR hp).mono (fun r w' h=>?_);obtain ⟨a0,a1,a2,c0,c1,c2,xs,ys,L,p',h1,h2,h3,h4,h5,h6,h7,h8,h9,b0,d0,e0,f0⟩:=h;refine ⟨a0,a1,a2,c0,c1,c2,xs.length,ys.length,w'.heap.size,xs,ys,L,p',h1,⟨⟨rfl,rfl,h2,h3,fun q ha hb=>h4 q ha hb⟩,fun q hq=>?_,?_,Lr⟩,⟨by omega,h7,stNs_sm h9 b0,h9⟩,d0,e0,f0⟩
 ·rcases hq with hq | hq
  ·exact (h2.lt q hq).2
  exact (h3.lt q hq).2
 exact h8.keep2 (S:=fun _=>False) (Chg.refl _ _) (fun _ _ _=>id) (fun q hq hlt=>⟨hq,hlt⟩) Lr
def InfQ (n m D:Nat) (L:List St) (w:World) (r:Ending) (w':World):Prop:=∃ (p1 p2 p3:Option Addr) (n1 n2 n3 c1 c2 c3:Nat) (ok:Bool),r=.returned (.tuple #[.agg #[.slice p1 n1 c1,.slice p2 n2 c2,.slice p3 n3 c3],.bool ok]) ∧
 (ok=true→n1=n∧n2=m∧n3=L.length∧∃ hi zs us,PdR w' w.heap.size hi (.slice p1 n1 c1) (.slice p2 n2 c2) (.slice p3 n3 c3) n1 n2 zs us D L)∧Below w.heap.size w w'
theorem infer_pd {w:World} {lo hi:Nat} {va vb vu:Value} {n m:Nat} {zs us:List Int} {D:Nat} {L:List St} (h:PdR w lo hi va vb vu n m zs us D L) (hn:stNs L≤1048576) :
  Calls Tryz.prog 98 #[.agg #[va,vb,vu]] w fun r w'=>InfQ n m D L w r w':=by
 have ha:=h.ra;have hb:=h.rb;obtain ⟨⟨rfl,rfl,_,_,_⟩,_,ht,_⟩:=h;refine (InferLabels_any zs us _ D va vb vu L w ha hb ht hn).mono (fun r w' hc=>?_);obtain ⟨p1,p2,p3,n1,n2,n3,c1,c2,c3,ok,h1,h2,h3⟩:=hc;refine ⟨p1,p2,p3,n1,n2,n3,c1,c2,c3,ok,h1,fun hk=>?_,h3⟩;obtain ⟨e1,e2,e3,lo',hi',zs',us',hl,hP,_⟩:=h2 hk;exact ⟨e1,e2,e3,hi',zs',us',hP.pd.mono hl⟩
theorem check_pd {w:World} {lo hi:Nat} {va vb vu:Value} {n m:Nat} {zs us:List Int} {D:Nat} {L:List St} (h:PdR w lo hi va vb vu n m zs us D L) (hn:stNs L≤1048576) :
  Calls Tryz.prog 79 #[.agg #[va,vb,vu]] w fun r w'=>CkP zs us L w r w':=by
 have ha:=h.ra;have hb:=h.rb;obtain ⟨⟨rfl,rfl,_,_,_⟩,_,ht,_⟩:=h;exact CheckFlow_any zs us _ D va vb vu L w ha hb ht hn
end Go.Proofs.YtlckklglbodgbaaGreat
namespace Go.Proofs.YtlckklglbodgbaaGreat
open Go.RowKit
theorem l4Typed_any (B g p:Nat) (w:World) (hR:Rnd w B g p) (hp:p+3000001≤1000000000) :
  Calls Tryz.prog 78 #[.pointer (some ⟨g,0,none⟩)] w fun r w'=>TyP 3000001 B g p w r w':=by
 have hg:=hR.lt;have hC:Chg (fun k=>k=g) w w:=Chg.refl _ _;have r1:∀ q,(fun k=>k=g) q→q=g:=fun q h=>h
 go_enter Tryz.func78,Tryz.ntmps78
 go_wp2_with fail
 refine (program_ty B g (p) _ (hR.below (bal (Bs _) (.cells #[.slice none 0 0,.slice none 0 0,.slice none 0 0] 26))) (by omega)).mono ?_;rintro e w1 ⟨a0,a1,a2,c0,c1,c2,n,m,hi,zs,us,L,p1,rfl,hP,l1,p0,s3,hc⟩;simp only [Sa] at hP;have k0:=Hi l1;clear l1;replace hC:=((hC.trans (Cb (bal (Bs _) _)))).trans hc;replace hR:=p0;clear p0;have x0:=hc.size;simp only [Sa] at x0;have e0:Bk w1 (w.heap.size) [.slice none 0 0,.slice none 0 0,.slice none 0 0]:=Bk.kg (Bk.n3 (w.heap.size)) hc;clear hc;have v0:=hP.lt;try simp only [Sa] at v0
 have t3:=Bk.lz e0;go_wp2_with fail
 refine (pick_any _ _ B g (p1) (hR.below (bal (Bs _) (.cells #[.slice a0 n c0,.slice a1 m c1,.slice a2 L.length c2] 26))) (by omega) (by omega) (by omega)).mono ?_;rintro e w2 ⟨z,z0,z1,rfl,p0,j0⟩;replace hC:=((hC.trans (Cb (bal (Bs _) _)))).trans j0;replace hR:=p0;clear p0;have y0:=j0.size;simp only [Sa] at y0;replace hP:=(hP.below (bal (Bs _) _)).keep j0 (fun gq h h2=>by have:=v0 gq h;have:=r1 gq h2;omega);have l0:Bk w2 (w1.heap.size) [.slice a0 n c0,.slice a1 m c1,.slice a2 L.length c2]:=Bk.kg (Bk.n3 (w1.heap.size)) j0;have u3:=Bk.lz l0;by_cases hz:z=0
 ·have u1:(z == 0)=true:=by simp [hz]
  replace e0:=Bk.kg (Bk.al e0 _) j0;obtain ⟨v3,v2,v1,x2,x1,y2⟩:=Bk.h3 e0;obtain ⟨y1,z2,b2,a3,d2,b3⟩:=Bk.h3 l0;obtain ⟨g0,s0,t0,u0⟩:=Bk.x3 e0 (.slice a0 n c0) (.slice a1 m c1) (.slice a2 L.length c2);have m0:=Hi (hP.keep g0 (fun gq h h2=>by have:=v0 gq h;omega));clear hP;have h0:=Hi g0;clear g0;have i0:=Hi (Ai hC hR);clear hC hR;go_wp2
  exact bodyPost_ret (v:=.agg #[.slice a0 n c0,.slice a1 m c1,.slice a2 L.length c2]) (by simp [results,Tryz.results78,go_sem,s0,t0,u0]) rfl (by exact (by unfold TyP;exact ⟨_,_,_,_,_,_,_,_,_,_,_,L,p1+1,rfl,m0.out.mono (by omega),k0.out,i0.out.2.keep h0.out (fun h=>by omega) (fun k hk h=>by omega),by omega,chg_app i0.out.1 h0.out (fun q hq h=>by omega)⟩))
 have u1:(z == 0)=false:=by simp [hz]
 obtain ⟨d1,h1,f1,i1,g1,j1⟩:=Bk.h3 l0;go_wp2_with fail
 refine (infer_pd hP k0.out.2.2.1).mono ?_;rintro e w3 ⟨q1,q2,q3,n1,n2,n3,k1,k2,k3,ok,rfl,hQ,b0⟩;replace hC:=(hC).trans (Cb b0);replace hR:=hR.below b0;have m1:=b0.size;clear h1 d1 i1 f1 j1 g1;replace hP:=hP.below b0
 cases ok with
 | false =>
  clear hQ;go_upto_region 5 with (fail)
  generalize hnw:World.alloc _ _=w4;have d0:=nmh hnw;clear hnw
  replace hC:=((hC.trans (Cb (bal (Bs _) _)))).trans (Cb d0);replace hR:=(hR.below (bal (Bs _) _)).below d0;have q0:=d0.size;simp only [Sa] at q0;replace hP:=(hP.below (bal (Bs _) _)).below d0;have w0:=Bb (Bk.n3 (w3.heap.size)) d0;have s1:=Bk.lz w0;replace e0:=Bb (Bk.al (Bb (Bk.kg (Bk.al e0 _) j0) b0) _) d0;obtain ⟨f2,c3,g2,d3,i2,e3⟩:=Bk.h3 e0;replace l0:=Bb (Bk.al (Bb l0 b0) _) d0;obtain ⟨j2,f3,l2,g3,m2,i3⟩:=Bk.h3 l0;obtain ⟨g0,s0,t0,u0⟩:=Bk.x3 e0 (.slice a0 n c0) (.slice a1 m c1) (.slice a2 L.length c2);have m0:=Hi (hP.keep g0 (fun gq h h2=>by have:=v0 gq h;omega));clear hP;have h0:=Hi g0;clear g0;have i0:=Hi (Ai hC hR);clear hC hR;go_wp2
  exact bodyPost_ret (v:=.agg #[.slice a0 n c0,.slice a1 m c1,.slice a2 L.length c2]) (by simp [results,Tryz.results78,go_sem,s0,t0,u0]) rfl (by exact (by unfold TyP;exact ⟨_,_,_,_,_,_,_,_,_,_,_,L,p1+1,rfl,m0.out.mono (by omega),k0.out,i0.out.2.keep h0.out (fun h=>by omega) (fun k hk h=>by omega),by omega,chg_app i0.out.1 h0.out (fun q hq h=>by omega)⟩))
 | true =>
  obtain ⟨e1,e2,rfl,hj,z3,y3,o0⟩:=hQ rfl;have o1:=Hi (Ai (e1 ▸ k0.out.1) (Ai (e2 ▸ k0.out.2.1) k0.out.2.2));clear hQ e1 e2;clear hP;have b1:=o0.lt;go_upto_region 5 with (fail)
  generalize hnw:World.alloc _ _=w4;have f0:=nmh hnw;clear hnw
  replace hC:=((hC.trans (Cb (bal (Bs _) _)))).trans (Cb f0);replace hR:=(hR.below (bal (Bs _) _)).below f0;have r0:=f0.size;simp only [Sa] at r0;replace o0:=(o0.below (bal (Bs _) _)).below f0;have n0:=Bb (Bk.n3 (w3.heap.size)) f0;have t1:=Bk.lz n0;replace e0:=Bb (Bk.al (Bb (Bk.kg (Bk.al e0 _) j0) b0) _) f0;obtain ⟨o2,j3,p2,l3,r2,m3⟩:=Bk.h3 e0;obtain ⟨s2,o3,t2,p3,u2,r3⟩:=Bk.h3 n0;obtain ⟨g0,s0,t0,u0⟩:=Bk.x3 e0 (.slice q1 n1 k1) (.slice q2 n2 k2) (.slice q3 L.length k3);have m0:=Hi (o0.keep g0 (fun gq h h2=>by have:=b1 gq h;omega));clear o0;have h0:=Hi g0;clear g0;have i0:=Hi (Ai hC hR);clear hC hR;go_wp2
  exact bodyPost_ret (v:=.agg #[.slice q1 n1 k1,.slice q2 n2 k2,.slice q3 L.length k3]) (by simp [results,Tryz.results78,go_sem,s0,t0,u0]) rfl (by exact (by unfold TyP;exact ⟨_,_,_,_,_,_,_,_,_,_,_,L,p1+1,rfl,m0.out.mono (by omega),o1.out,i0.out.2.keep h0.out (fun h=>by omega) (fun k hk h=>by omega),by omega,chg_app i0.out.1 h0.out (fun q hq h=>by omega)⟩))
theorem l5Program_any (B g p:Nat) (w:World) (hR:Rnd w B g p) (hp:p+16000000≤1000000000) :
  Calls Tryz.prog 44 #[.pointer (some ⟨g,0,none⟩)] w fun r w'=>TyP 16000000 B g p w r w':=by
 have hg:=hR.lt;have hC:Chg (fun k=>k=g) w w:=Chg.refl _ _;have l2:∀ q,(fun k=>k=g) q→q=g:=fun q h=>h
 go_enter Tryz.func44,Tryz.ntmps44
 go_upto_region 1 with (fail)
 generalize hnw:World.alloc _ _=w1;have hb:=nmh hnw;clear hnw
 replace hC:=((hC.trans (Cb (bal (Bs _) _)))).trans (Cb hb);replace hR:=(hR.below (bal (Bs _) _)).below hb;have r0:=hb.size;simp only [Sa] at r0;have b0:=Bb (Bk.n3 (w.heap.size)) hb;clear hb;have m2:=Bk.lz b0;have y0:Hid (∃ k pk:Nat,Value.int .i64 0=.int .i64 k∧k≤3∧Bk w1 (w.heap.size) [.slice none 0 0,.slice none 0 0,.slice none 0 0]∧Rnd w1 B g pk∧pk≤p+3000001*k∧Chg (fun q=>q=g) w w1∧w.heap.size+1≤w1.heap.size):=Hi ⟨0,p,rfl,by omega,b0,hR,by omega,hC,by omega⟩;clear hR hC b0;go_wp2_with fail
 go_loopw [3] (fun i wr=>∃ k pk:Nat,i=.int .i64 k∧k≤3∧Bk wr (w.heap.size) [.slice none 0 0,.slice none 0 0,.slice none 0 0]∧Rnd wr B g pk∧pk≤p+3000001*k∧Chg (fun q=>q=g) w wr∧w.heap.size+1≤wr.heap.size) (fun i _=>3-(intOf i).toNat)
 case atStart=>exact y0.out
 case round =>
  obtain ⟨k,pk,rfl,hk,b0,hR,z0,hC,k2⟩:=hrel;clear y0;obtain ⟨wl,rfl⟩:∃ X,X=wr:=⟨_,rfl⟩;have n2:=Bk.lz b0;by_cases hlt:k < 3
  ·have hq:(k:Int) < 3:=by omega
   go_wp2_with fail
   refine (l4Typed_any B g (pk) _ hR (by omega)).mono ?_;rintro e w2 ⟨a0,a1,a2,c0,c1,c2,n,m,hi,zs,us,L,p1,rfl,hP,m0,k0,q0,l0⟩;try simp only [Sa] at hP
   have n0:=Hi m0;clear m0;replace hC:=(hC).trans l0;replace hR:=k0;clear k0;have e1:=l0.size;have f1:=hP.lt;go_wp2_with fail
   refine (check_pd (hP.below (bal (Bs _) (.cells #[.slice a0 n c0,.slice a1 m c1,.slice a2 L.length c2] 26))) n0.out.2.2.1).mono ?_;rintro e w3 ⟨c,a,rfl,d1,d0⟩;clear d1;replace hC:=((hC.trans (Cb (bal (Bs _) _)))).trans (Cb d0);replace hR:=(hR.below (bal (Bs _) _)).below d0;have s0:=d0.size;simp only [Sa] at s0;replace hP:=(hP.below (bal (Bs _) _)).below d0;have f0:=Bb (Bk.n3 (w2.heap.size)) d0;have g1:=Bk.lz f0;by_cases hc:c=0
   ·have h1:(c == 0)=true:=by simp [hc]
    by_cases hl:0 < L.length
    ·have i1:(0:Int) < (L.length:Int):=by omega
     replace b0:=Bb (Bk.al (Bk.kg b0 l0) _) d0;obtain ⟨j1,v1,k1,x1,l1,y1⟩:=Bk.h3 b0;obtain ⟨m1,z1,n1,b2,o1,d2⟩:=Bk.h3 f0;obtain ⟨e0,v0,w0,x0⟩:=Bk.x3 b0 (.slice a0 n c0) (.slice a1 m c1) (.slice a2 L.length c2);have o0:=Hi (hP.keep e0 (fun gq h h2=>by have:=f1 gq h;omega));clear hP;have i0:=Hi e0;clear e0;have j0:=Hi (Ai hC hR);clear hC hR;go_wp2
     exact bodyPost_ret (v:=.agg #[.slice a0 n c0,.slice a1 m c1,.slice a2 L.length c2]) (by simp [results,Tryz.results44,go_sem,v0,w0,x0]) rfl (by exact (by unfold TyP;exact ⟨_,_,_,_,_,_,_,_,_,_,_,L,p1,rfl,o0.out.mono (by omega),n0.out,j0.out.2.keep i0.out (fun h=>by omega) (fun k hk h=>by omega),by omega,chg_app j0.out.1 i0.out (fun q hq h=>by omega)⟩))
    have i1:decide ((0:Int) < (L.length:Int))=false:=decide_eq_false (by omega);have o2:¬(0:Int) < (L.length:Int):=by omega
    clear hP;obtain ⟨q1,e2⟩:=Bk.cf f0 2 rfl;replace b0:=Bb (Bk.al (Bk.kg b0 l0) _) d0;have HX:=Hi (Ai b0 (Ai hR hC));have p0:=Hi (show w.heap.size+1≤w3.heap.size by omega);clear hR hC;have h0:p1≤p+3000001*(k+1):=Nat.le_trans q0 (by rw [Nat.mul_add,Nat.mul_one,← Nat.add_assoc];exact Nat.add_le_add_right z0 3000001);go_wp2
    go_roundw
    case rel=>exact ⟨k+1,p1,by go_num,by omega,HX.out.1,HX.out.2.1,h0,HX.out.2.2,by have:=p0.out;(try simp only [Ss,Sa]);omega⟩
    case measure=>simp [intOf];omega
   have h1:(c == 0)=false:=by simp [hc]
   clear hP;replace b0:=Bb (Bk.al (Bk.kg b0 l0) _) d0;have HX:=Hi (Ai b0 (Ai hR hC));have p0:=Hi (show w.heap.size+1≤w3.heap.size by omega);clear hR hC;have h0:p1≤p+3000001*(k+1):=Nat.le_trans q0 (by rw [Nat.mul_add,Nat.mul_one,← Nat.add_assoc];exact Nat.add_le_add_right z0 3000001);go_wp2
   go_roundw
   case rel=>exact ⟨k+1,p1,by go_num,by omega,HX.out.1,HX.out.2.1,h0,HX.out.2.2,by have:=p0.out;(try simp only [Ss,Sa]);omega⟩
   case measure=>simp [intOf];omega
  have hq:decide ((k:Int) < 3)=false:=decide_eq_false (by omega);have j2:¬(k:Int) < 3:=by omega
  go_wp2_with fail
  refine (l4Typed_any B g (pk) _ hR (by omega)).mono ?_;rintro e w2 ⟨a0,a1,a2,c0,c1,c2,n,m,hi,zs,us,L,p1,rfl,hP,m0,k0,q0,g0⟩;try simp only [Sa] at hP
  have n0:=Hi m0;clear m0;replace hC:=(hC).trans g0;replace hR:=k0;clear k0;have b1:=g0.size;have t0:=hP.lt;replace b0:=Bk.kg b0 g0;obtain ⟨r1,f2,s1,g2,t1,i2⟩:=Bk.h3 b0;obtain ⟨e0,v0,w0,x0⟩:=Bk.x3 b0 (.slice a0 n c0) (.slice a1 m c1) (.slice a2 L.length c2);have o0:=Hi (hP.keep e0 (fun gq h h2=>by have:=t0 gq h;omega));clear hP;have i0:=Hi e0;clear e0;have j0:=Hi (Ai hC hR);clear hC hR;go_wp2
  exact bodyPost_ret (v:=.agg #[.slice a0 n c0,.slice a1 m c1,.slice a2 L.length c2]) (by simp [results,Tryz.results44,go_sem,v0,w0,x0]) rfl (by exact (by unfold TyP;exact ⟨_,_,_,_,_,_,_,_,_,_,_,L,p1,rfl,o0.out.mono (by omega),n0.out,j0.out.2.keep i0.out (fun h=>by omega) (fun k hk h=>by omega),by omega,chg_app j0.out.1 i0.out (fun q hq h=>by omega)⟩))
theorem reads_bk {w:World} {g n sz:Nat} {vs:List Value} (h:Bk w g vs) (hl:vs.length=n*sz) (hn:n≤9223372036854775807) (h0:0 < vs.length):Reads w sz (.slice (some ⟨g,0,none⟩) n n) n vs:=
 ⟨hl,hn,some ⟨g,0,none⟩,n,g,0,rfl,⟨Lr,fun h=>by cases h⟩,fun _=>⟨rfl,h.lt h0⟩,fun j hj=>by rw [Nat.zero_add];exact (h j hj).1⟩
theorem blk_of {g b o:Nat} {n c m d:Nat} {A:Nat→Prop} (hA:A g) (h:Value.slice (some ⟨g,0,none⟩) n c=.slice (some ⟨b,o,none⟩) m d):A b:=by
 have h1:=congrArg Value.ownBlock h;have h2:(some g:Option Nat)=some b:=h1;exact Si h2 ▸ hA
section
variable {w:World} {A:Nat→Prop} {D:Nat}
theorem exAt_leaf (k v:Int):ExAt w A (D+1) ⟨k,v,none,0,0⟩ (.mk k v []):=⟨rfl,rfl,RowOf.nil⟩
theorem exAt_one {g:Nat} {n:En} {e:Ex} (k v:Int) (h:Bk w g (enc n)) (hA:A g) (h1:ExAt w A D n e):ExAt w A (D+1) ⟨k,v,some ⟨g,0,none⟩,1,1⟩ (.mk k v [e]):=
 ⟨rfl,rfl,[n],rfl,reads_bk h rfl (show (1:Nat)≤9223372036854775807 by omega) (Nat.succ_pos _),fun b o c _ hv=>blk_of hA hv,fun j hj _=>by
  have e0:j=0:=by simp at hj;omega
  subst e0;exact h1⟩
theorem exAt_two {g:Nat} {n m:En} {e f:Ex} (k v:Int) (h:Bk w g (enc n++enc m)) (hA:A g) (h1:ExAt w A D n e) (h2:ExAt w A D m f):ExAt w A (D+1) ⟨k,v,some ⟨g,0,none⟩,2,2⟩ (.mk k v [e,f]):=
 ⟨rfl,rfl,[n,m],rfl,reads_bk h rfl (show (2:Nat)≤9223372036854775807 by omega) (Nat.succ_pos _),fun b o c _ hv=>blk_of hA hv,fun j hj _=>by
  have e0:j=0∨j=1:=by simp at hj;omega
  rcases e0 with rfl | rfl
  ·exact h1
  exact h2⟩
theorem exAt_three {g:Nat} {n m q:En} {e f x:Ex} (k v:Int) (h:Bk w g (enc n++(enc m++enc q))) (hA:A g) (h1:ExAt w A D n e) (h2:ExAt w A D m f) (h3:ExAt w A D q x):ExAt w A (D+1) ⟨k,v,some ⟨g,0,none⟩,3,3⟩ (.mk k v [e,f,x]):=
 ⟨rfl,rfl,[n,m,q],rfl,reads_bk h rfl (show (3:Nat)≤9223372036854775807 by omega) (Nat.succ_pos _),fun b o c _ hv=>blk_of hA hv,fun j hj _=>by
  have e0:j=0∨j=1∨j=2:=by simp at hj;omega
  rcases e0 with rfl | rfl | rfl
  ·exact h1
  ·exact h2
  exact h3⟩
theorem exAt_two2 {g b:Nat} {t:TypeId} {n m:En} {e f:Ex} (k v:Int) (h:w.ownsRow b t 3 (.slice (some ⟨g,0,none⟩) 2 2) 2 (enc n++enc m)) (hA:A g) (h1:ExAt w A D n e) (h2:ExAt w A D m f):ExAt w A (D+1) ⟨k,v,some ⟨g,0,none⟩,2,2⟩ (.mk k v [e,f]):=
 ⟨rfl,rfl,[n,m],rfl,Ro h (show (2:Nat)≤9223372036854775807 by omega),fun b o c _ hv=>blk_of hA hv,fun j hj _=>by
  have e0:j=0∨j=1:=by simp at hj;omega
  rcases e0 with rfl | rfl
  ·exact h1
  exact h2⟩
theorem exAt_three2 {g b:Nat} {t:TypeId} {n m q:En} {e f x:Ex} (k v:Int) (h:w.ownsRow b t 3 (.slice (some ⟨g,0,none⟩) 3 3) 3 (enc n++(enc m++enc q))) (hA:A g) (h1:ExAt w A D n e) (h2:ExAt w A D m f) (h3:ExAt w A D q x):ExAt w A (D+1) ⟨k,v,some ⟨g,0,none⟩,3,3⟩ (.mk k v [e,f,x]):=
 ⟨rfl,rfl,[n,m,q],rfl,Ro h (show (3:Nat)≤9223372036854775807 by omega),fun b o c _ hv=>blk_of hA hv,fun j hj _=>by
  have e0:j=0∨j=1∨j=2:=by simp at hj;omega
  rcases e0 with rfl | rfl | rfl
  ·exact h1
  ·exact h2
  exact h3⟩
end
def ExP (A:Nat→Prop) (D:Nat) (e:Ex) (w:World) (r:Ending) (w':World):Prop:=∃ n:En,r=.returned (.agg #[.int .i64 n.k,.int .i64 n.v,.slice n.p n.n n.c])∧ExAt w' (fun q=>A q∨w.heap.size≤q) D n e∧Below w.heap.size w w'
end Go.Proofs.YtlckklglbodgbaaGreat
