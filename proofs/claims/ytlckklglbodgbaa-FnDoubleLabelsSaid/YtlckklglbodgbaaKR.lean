/-
 Parts of the proofs of the laws FnDoubleLabels.
-/
import Derived.Test.YtlckklglbodgbaaKO
import Derived.Test.YtlckklglbodgbaaQI
set_option linter.all false
namespace Go.Proofs.Ytlckklglbodgbaa
open Go.RowKit
structure PdR (w:World) (lo hi:Nat) (va vb vu:Value) (n m:Nat) (zs us:List Int) (D:Nat) (L:List St):Prop where
 lb:LbR w lo va vb n m zs us
 rh:∀ q,OwnRB va vb q→q < hi
 t:BlAt w (fun q=>lo≤q∧q < hi) D vu L
 top:hi≤w.heap.size
section
variable {w w':World} {lo hi:Nat} {va vb vu:Value} {n m:Nat} {zs us:List Int} {D:Nat} {L:List St}
theorem PdR.lt (h:PdR w lo hi va vb vu n m zs us D L):∀ q,PgB lo hi q→lo≤q∧q < w.heap.size:=fun q hq=>⟨hq.1,Nat.lt_of_lt_of_le hq.2 h.top⟩
theorem PdR.rows (h:PdR w lo hi va vb vu n m zs us D L):∀ q,OwnRB va vb q→PgB lo hi q:=fun q hq=>⟨(h.lb.lt q hq).1,h.rh q hq⟩
theorem PdR.keep (h:PdR w lo hi va vb vu n m zs us D L) {S:Nat→Prop} (hc:Chg S w w') (hs:∀ q,PgB lo hi q→¬S q):PdR w' lo hi va vb vu n m zs us D L:=
 ⟨h.lb.keep hc (fun q hq=>hs q (h.rows q hq)),h.rh,h.t.keep hc (fun q hq _=>hs q hq) (fun _ hq _=>hq) Lr,Nat.le_trans h.top hc.size⟩
theorem PdR.below (h:PdR w lo hi va vb vu n m zs us D L) (hb:Below w.heap.size w w'):PdR w' lo hi va vb vu n m zs us D L:=h.keep (S:=fun _=>False) (Cb hb) (fun _ _=>id)
theorem PdR.mono {lo':Nat} (h:PdR w lo hi va vb vu n m zs us D L) (hl:lo'≤lo):PdR w lo' hi va vb vu n m zs us D L:=
 ⟨⟨h.lb.lx,h.lb.ly,Om h.lb.a hl,Om h.lb.b hl,h.lb.ab⟩,h.rh,h.t.keep2 (S:=fun _=>False) (Chg.refl _ _) (fun _ _ _=>id) (fun q hq _=>⟨Nat.le_trans hl hq.1,hq.2⟩) Lr,h.top⟩
theorem PgR.pd (h:PgR w lo hi va vb vu n m zs us D L):PdR w lo hi va vb vu n m zs us D L:=
 ⟨h.lb,h.rh,h.t.keep2 (S:=fun _=>False) (Chg.refl _ _) (fun _ _ _=>id) (fun q hq _=>hq.1) Lr,h.top⟩
theorem PdR.ra (h:PdR w lo hi va vb vu n m zs us D L):Reads w 1 va n (ints zs):=by
 have:=h.lb.a;exact Ro this (own_len this)
theorem PdR.rb (h:PdR w lo hi va vb vu n m zs us D L):Reads w 1 vb m (ints us):=by
 have:=h.lb.b;exact Ro this (own_len this)
end
theorem exNs_sum {l:List Ex} {k:Nat} (h:∀ x ∈ l,exN x≤k):exNs l≤l.length*(1+k):=by
 induction l with
 | nil=>simp [exNs]
 | cons e l ih =>
  have h1:=h e (by simp);have h2:=ih (fun x hx=>h x (by simp [hx]));simp only [exNs,List.length_cons,Nat.add_mul,Nat.one_mul];omega
theorem stNs_sum {l:List St} {k:Nat} (h:∀ x ∈ l,stN1 x≤k):stNs l≤l.length*(1+k):=by
 induction l with
 | nil=>simp [stNs]
 | cons e l ih =>
  have h1:=h e (by simp);have h2:=ih (fun x hx=>h x (by simp [hx]));simp only [stNs,List.length_cons,Nat.add_mul,Nat.one_mul];omega
def enB:Nat→Nat
 | 0=>0
 | d+1=>3*(1+enB d)
def snB:Nat→Nat
 | 0=>0
 | d+1=>726+4*(1+snB d)
theorem exN_thin:∀ {d:Nat} {e:Ex},Thin d e→exN e≤enB d:=by
 intro d
 induction d with
 | zero=>intro e h;cases h
 | succ d ih =>
  intro e h;rw [exN_kids];obtain ⟨h1,h2⟩:=h;have h3:=exNs_sum (fun x hx=>ih (h2 x hx));have h4:=Nat.mul_le_mul_right (1+enB d) h1;simp only [enB];omega
theorem stN_sm:∀ {d:Nat} {s:St},SmS d s→stN1 s≤snB d:=by
 intro d
 induction d with
 | zero=>intro e h;cases h
 | succ d ih =>
  intro s h
  cases s with
  | mk k dst ix val ar body els =>
   obtain ⟨h1,h2,h3,h4,h5,h6⟩:=h;have e5:enB 5=363:=rfl;have a1:=exN_thin h1;have a2:=exN_thin h2;rw [e5] at a1 a2;have a3:=stNs_sum (fun x hx=>ih (h5 x hx));have a4:=stNs_sum (fun x hx=>ih (h6 x hx));have a5:=Nat.mul_le_mul_right (1+snB d) h3;have a6:=Nat.mul_le_mul_right (1+snB d) h4;simp only [stN1,snB];omega
theorem stNs_sm {L:List St} (h4:L.length≤4) (h:∀ x ∈ L,SmS 3 x):stNs L≤1048576:=by
 have h1:=stNs_sum (fun x hx=>stN_sm (h x hx));have h2:=Nat.mul_le_mul_right (1+snB 3) h4;have e:snB 3=15330:=rfl;rw [e] at h1 h2;omega
def TyP (d B g p:Nat) (w:World) (r:Ending) (w':World):Prop:=∃ (a0 a1 a2:Option Addr) (c0 c1 c2 n m hi:Nat) (zs us:List Int) (L:List St) (p':Nat),r=.returned (.agg #[.slice a0 n c0,.slice a1 m c1,.slice a2 L.length c2])∧PdR w' w.heap.size hi (.slice a0 n c0) (.slice a1 m c1) (.slice a2 L.length c2) n m zs us 3 L∧(n≤12∧m≤2∧stNs L≤1048576∧L.length≤4)∧Rnd w' B g p'∧p'≤p+d∧Chg (fun q=>q=g) w w'
theorem program_ty (B g p:Nat) (w:World) (hR:Rnd w B g p) (hp:p+3000000≤1000000000) :
  Calls Try.prog 74 #[.pointer (some ⟨g,0,none⟩)] w fun r w'=>TyP 3000000 B g p w r w':=by
 refine (l2Program_any B g p w hR hp).mono (fun r w' h=>?_);obtain ⟨a0,a1,a2,c0,c1,c2,xs,ys,L,p',h1,h2,h3,h4,h5,h6,h7,h8,h9,b0,d0,e0,f0⟩:=h;refine ⟨a0,a1,a2,c0,c1,c2,xs.length,ys.length,w'.heap.size,xs,ys,L,p',h1,⟨⟨rfl,rfl,h2,h3,fun q ha hb=>h4 q ha hb⟩,fun q hq=>?_,?_,Lr⟩,⟨by omega,h7,stNs_sm h9 b0,h9⟩,d0,e0,f0⟩
 ·rcases hq with hq | hq
  ·exact (h2.lt q hq).2
  exact (h3.lt q hq).2
 exact h8.keep2 (S:=fun _=>False) (Chg.refl _ _) (fun _ _ _=>id) (fun q hq hlt=>⟨hq,hlt⟩) Lr
def InfQ (n m D:Nat) (L:List St) (w:World) (r:Ending) (w':World):Prop:=∃ (p1 p2 p3:Option Addr) (n1 n2 n3 c1 c2 c3:Nat) (ok:Bool),r=.returned (.tuple #[.agg #[.slice p1 n1 c1,.slice p2 n2 c2,.slice p3 n3 c3],.bool ok]) ∧
 (ok=true→n1=n∧n2=m∧n3=L.length∧∃ hi zs us,PdR w' w.heap.size hi (.slice p1 n1 c1) (.slice p2 n2 c2) (.slice p3 n3 c3) n1 n2 zs us D L)∧Below w.heap.size w w'
theorem infer_pd {w:World} {lo hi:Nat} {va vb vu:Value} {n m:Nat} {zs us:List Int} {D:Nat} {L:List St} (h:PdR w lo hi va vb vu n m zs us D L) (hn:stNs L≤1048576) :
  Calls Try.prog 112 #[.agg #[va,vb,vu]] w fun r w'=>InfQ n m D L w r w':=by
 have ha:=h.ra;have hb:=h.rb;obtain ⟨⟨rfl,rfl,_,_,_⟩,_,ht,_⟩:=h;refine (InferLabels_any zs us _ D va vb vu L w ha hb ht hn).mono (fun r w' hc=>?_);obtain ⟨p1,p2,p3,n1,n2,n3,c1,c2,c3,ok,h1,h2,h3⟩:=hc;refine ⟨p1,p2,p3,n1,n2,n3,c1,c2,c3,ok,h1,fun hk=>?_,h3⟩;obtain ⟨e1,e2,e3,lo',hi',zs',us',hl,hP,_⟩:=h2 hk;exact ⟨e1,e2,e3,hi',zs',us',hP.pd.mono hl⟩
theorem check_pd {w:World} {lo hi:Nat} {va vb vu:Value} {n m:Nat} {zs us:List Int} {D:Nat} {L:List St} (h:PdR w lo hi va vb vu n m zs us D L) (hn:stNs L≤1048576) :
  Calls Try.prog 95 #[.agg #[va,vb,vu]] w fun r w'=>CkP zs us L w r w':=by
 have ha:=h.ra;have hb:=h.rb;obtain ⟨⟨rfl,rfl,_,_,_⟩,_,ht,_⟩:=h;exact CheckFlow_any zs us _ D va vb vu L w ha hb ht hn
end Go.Proofs.Ytlckklglbodgbaa
namespace Go.Proofs.Ytlckklglbodgbaa
open Go.RowKit
set_option maxHeartbeats 6400000 in
set_option maxRecDepth 100000 in
theorem l4Typed_any (B g p:Nat) (w:World) (hR:Rnd w B g p) (hp:p+3000001≤1000000000) :
  Calls Try.prog 94 #[.pointer (some ⟨g,0,none⟩)] w fun r w'=>TyP 3000001 B g p w r w':=by
 have hg:=hR.lt;have hC:Chg (fun k=>k=g) w w:=Chg.refl _ _;have m1:∀ q,(fun k=>k=g) q→q=g:=fun q h=>h
 go_enter Try.func94,Try.ntmps94
 go_wp2_with fail
 refine (program_ty B g (p) _ (hR.below (bal (Bs _) (.cells #[.slice none 0 0,.slice none 0 0,.slice none 0 0] 26))) (by omega)).mono ?_;rintro e w1 ⟨a0,a1,a2,c0,c1,c2,n,m,hi,zs,us,L,p1,rfl,hP,h1,o0,r3,hc⟩;simp only [Sa] at hP;have k0:=Hi h1;clear h1;replace hC:=((hC.trans (Cb (bal (Bs _) _)))).trans hc;replace hR:=o0;clear o0;have v0:=hc.size;simp only [Sa] at v0;have b0:Bk w1 (w.heap.size) [.slice none 0 0,.slice none 0 0,.slice none 0 0]:=Bk.kg (Bk.nw (by simp) rfl) hc;clear hc;have i0:=hP.lt;try simp only [Sa] at i0
 have j1:=Bk.lz b0;go_wp2_with fail
 refine (pick_any _ _ B g (p1) (hR.below (bal (Bs _) (.cells #[.slice a0 n c0,.slice a1 m c1,.slice a2 L.length c2] 26))) (by omega) (by omega) (by omega)).mono ?_;rintro e w2 ⟨z,z0,z1,rfl,o0,hc⟩;replace hC:=((hC.trans (Cb (bal (Bs _) _)))).trans hc;replace hR:=o0;clear o0;have w0:=hc.size;simp only [Sa] at w0;replace hP:=(hP.below (bal (Bs _) _)).keep hc (fun gq h h2=>by have:=i0 gq h;have:=m1 gq h2;omega);replace b0:=Bk.kg (Bk.al b0 _) hc;have d0:Bk w2 (w1.heap.size) [.slice a0 n c0,.slice a1 m c1,.slice a2 L.length c2]:=Bk.kg (Bk.nw (by simp) rfl) hc;clear hc;replace j1:=Bk.lz b0;have s1:=Bk.lz d0;by_cases hz:z=0
 ·have t1:(z == 0)=true:=by simp [hz]
  have l0:=Hi (((hP.keep (C1 (w.heap.size) 0 (.slice a0 n c0)) (fun gq h h2=>by have:=i0 gq h;omega)).keep (C1 (w.heap.size) 1 (.slice a1 m c1)) (fun gq h h2=>by have:=i0 gq h;omega)).keep (C1 (w.heap.size) 2 (.slice a2 L.length c2)) (fun gq h h2=>by have:=i0 gq h;omega));clear hP;obtain ⟨s3,t3,u1,u2,v1,v2⟩:=Bk.f3 b0 0 1 2 rfl rfl rfl;obtain ⟨x1,x2,y1,y2,b2,z2⟩:=Bk.f3 d0 0 1 2 rfl rfl rfl;have e0:=((((Chg.refl (fun q=>q=w.heap.size) w2).setCell (w.heap.size) 0 (.slice a0 n c0) (fun _=>rfl)).setCell (w.heap.size) 1 (.slice a1 m c1) (fun _=>rfl)).setCell (w.heap.size) 2 (.slice a2 L.length c2) (fun _=>rfl));have h0:=(Bk.at (Bk.at (Bk.at b0 0 (.slice a0 n c0)) 1 (.slice a1 m c1)) 2 (.slice a2 L.length c2));obtain ⟨r0,s0,t0⟩:=Bk.g3 h0;have f0:=Hi e0;clear e0 h0;have g0:=Hi (Ai hC hR);clear hC hR;go_wp2
  exact bodyPost_ret (v:=.agg #[.slice a0 n c0,.slice a1 m c1,.slice a2 L.length c2]) (by simp [results,Try.results94,go_sem,r0,s0,t0]) rfl (by exact (by unfold TyP;exact ⟨_,_,_,_,_,_,_,_,_,_,_,L,p1+1,rfl,l0.out.mono (by omega),k0.out,g0.out.2.keep f0.out (fun h=>by omega) (fun k hk h=>by omega),by omega,chg_app g0.out.1 f0.out (fun q hq h=>by omega)⟩))
 have t1:(z == 0)=false:=by simp [hz]
 obtain ⟨x0,d1,y0,f1,b1,g1⟩:=Bk.f3 d0 0 1 2 rfl rfl rfl;go_wp2_with fail
 refine (infer_pd hP k0.out.2.2.1).mono ?_;rintro e w3 ⟨q1,q2,q3,n1,n2,n3,k1,k2,k3,ok,rfl,hQ,hb⟩;replace hC:=(hC).trans (Cb hb);replace hR:=hR.below hb;have i1:=hb.size;clear d1 x0 f1 y0 g1 b1;replace hP:=hP.below hb;replace b0:=Bb b0 hb;replace d0:=Bb d0 hb;clear hb;replace j1:=Bk.lz b0;replace s1:=Bk.lz d0
 cases ok with
 | false =>
  clear hQ;go_upto_region 5 with (fail)
  generalize hnw:World.alloc _ _=w4;have hb:=nmh hnw;clear hnw
  replace hC:=((hC.trans (Cb (bal (Bs _) _)))).trans (Cb hb);replace hR:=(hR.below (bal (Bs _) _)).below hb;have p0:=hb.size;simp only [Sa] at p0;replace hP:=(hP.below (bal (Bs _) _)).below hb;replace b0:=Bb (Bk.al b0 _) hb;replace d0:=Bb (Bk.al d0 _) hb;have u0:Bk w4 (w3.heap.size) [.slice q1 n1 k1,.slice q2 n2 k2,.slice q3 n3 k3]:=Bb (Bk.nw (by simp) rfl) hb;clear hb;have o1:=Bk.lz u0;have l0:=Hi (((hP.keep (C1 (w.heap.size) 0 (.slice a0 n c0)) (fun gq h h2=>by have:=i0 gq h;omega)).keep (C1 (w.heap.size) 1 (.slice a1 m c1)) (fun gq h h2=>by have:=i0 gq h;omega)).keep (C1 (w.heap.size) 2 (.slice a2 L.length c2)) (fun gq h h2=>by have:=i0 gq h;omega));clear hP;obtain ⟨d2,a3,f2,b3,g2,c3⟩:=Bk.f3 b0 0 1 2 rfl rfl rfl;obtain ⟨i2,d3,j2,e3,l2,h3⟩:=Bk.f3 d0 0 1 2 rfl rfl rfl;have e0:=((((Chg.refl (fun q=>q=w.heap.size) w4).setCell (w.heap.size) 0 (.slice a0 n c0) (fun _=>rfl)).setCell (w.heap.size) 1 (.slice a1 m c1) (fun _=>rfl)).setCell (w.heap.size) 2 (.slice a2 L.length c2) (fun _=>rfl));have h0:=(Bk.at (Bk.at (Bk.at b0 0 (.slice a0 n c0)) 1 (.slice a1 m c1)) 2 (.slice a2 L.length c2));obtain ⟨r0,s0,t0⟩:=Bk.g3 h0;have f0:=Hi e0;clear e0 h0;have g0:=Hi (Ai hC hR);clear hC hR;go_wp2
  exact bodyPost_ret (v:=.agg #[.slice a0 n c0,.slice a1 m c1,.slice a2 L.length c2]) (by simp [results,Try.results94,go_sem,r0,s0,t0]) rfl (by exact (by unfold TyP;exact ⟨_,_,_,_,_,_,_,_,_,_,_,L,p1+1,rfl,l0.out.mono (by omega),k0.out,g0.out.2.keep f0.out (fun h=>by omega) (fun k hk h=>by omega),by omega,chg_app g0.out.1 f0.out (fun q hq h=>by omega)⟩))
 | true =>
  obtain ⟨e1,e2,rfl,hj,v3,u3,n0⟩:=hQ rfl;have l1:=Hi (Ai (e1 ▸ k0.out.1) (Ai (e2 ▸ k0.out.2.1) k0.out.2.2));clear hQ e1 e2;clear hP;have j0:=n0.lt;go_upto_region 5 with (fail)
  generalize hnw:World.alloc _ _=w4;have hb:=nmh hnw;clear hnw
  replace hC:=((hC.trans (Cb (bal (Bs _) _)))).trans (Cb hb);replace hR:=(hR.below (bal (Bs _) _)).below hb;have q0:=hb.size;simp only [Sa] at q0;replace n0:=(n0.below (bal (Bs _) _)).below hb;replace b0:=Bb (Bk.al b0 _) hb;replace d0:=Bb (Bk.al d0 _) hb;have m0:Bk w4 (w3.heap.size) [.slice q1 n1 k1,.slice q2 n2 k2,.slice q3 L.length k3]:=Bb (Bk.nw (by simp) rfl) hb;clear hb;have r1:=Bk.lz m0;have l0:=Hi (((n0.keep (C1 (w.heap.size) 0 (.slice q1 n1 k1)) (fun gq h h2=>by have:=j0 gq h;omega)).keep (C1 (w.heap.size) 1 (.slice q2 n2 k2)) (fun gq h h2=>by have:=j0 gq h;omega)).keep (C1 (w.heap.size) 2 (.slice q3 L.length k3)) (fun gq h h2=>by have:=j0 gq h;omega));clear n0;obtain ⟨m2,i3,o2,j3,p2,l3⟩:=Bk.f3 b0 0 1 2 rfl rfl rfl;obtain ⟨r2,m3,s2,o3,t2,p3⟩:=Bk.f3 m0 0 1 2 rfl rfl rfl;have e0:=((((Chg.refl (fun q=>q=w.heap.size) w4).setCell (w.heap.size) 0 (.slice q1 n1 k1) (fun _=>rfl)).setCell (w.heap.size) 1 (.slice q2 n2 k2) (fun _=>rfl)).setCell (w.heap.size) 2 (.slice q3 L.length k3) (fun _=>rfl));have h0:=(Bk.at (Bk.at (Bk.at b0 0 (.slice q1 n1 k1)) 1 (.slice q2 n2 k2)) 2 (.slice q3 L.length k3));obtain ⟨r0,s0,t0⟩:=Bk.g3 h0;have f0:=Hi e0;clear e0 h0;have g0:=Hi (Ai hC hR);clear hC hR;go_wp2
  exact bodyPost_ret (v:=.agg #[.slice q1 n1 k1,.slice q2 n2 k2,.slice q3 L.length k3]) (by simp [results,Try.results94,go_sem,r0,s0,t0]) rfl (by exact (by unfold TyP;exact ⟨_,_,_,_,_,_,_,_,_,_,_,L,p1+1,rfl,l0.out.mono (by omega),l1.out,g0.out.2.keep f0.out (fun h=>by omega) (fun k hk h=>by omega),by omega,chg_app g0.out.1 f0.out (fun q hq h=>by omega)⟩))
end Go.Proofs.Ytlckklglbodgbaa
