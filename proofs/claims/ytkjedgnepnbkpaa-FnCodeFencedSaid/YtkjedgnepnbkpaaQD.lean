/-
 Parts of the proofs of the laws FnCodeFenced,FnCountBranches.
-/
import Derived.Test.YtkjedgnepnbkpaaPY
import Derived.Test.YtkjedgnepnbkpaaQC
set_option linter.all false
namespace Go.Proofs.Ytkjedgnepnbkpaa
open Go.RowKit
set_option maxHeartbeats 6400000 in
set_option maxRecDepth 100000 in
theorem l2DrawStmt_of (pv pa:Option Addr) (nv cv na ca:Nat) (vb:Value) (B g:Nat) (hnv:1≤nv) (hnb:nv≤1000∧na≤1000) (d:Nat) (hd:d≤3) (Hb:1≤d→∀ (n p:Nat) (w:World),n≤2→Rnd w B g p→p+n*scost d≤1000000000→Calls Try.prog 147 #[.pointer (some ⟨g,0,none⟩),.agg #[.slice pv nv cv,.slice pa na ca,vb],.int .i64 (d:Int),.int .i64 (n:Int)] w fun r w'=>∃ (a:Option Addr) (c:Nat) (L:List St) (p':Nat),r=.returned (.slice a L.length c)∧BlAt w' (fun q=>w.heap.size≤q) d (.slice a L.length c) L∧L.length=n∧(∀ x ∈ L,SmS d x)∧Rnd w' B g p'∧p'≤p+n*scost d∧Chg (fun q=>q=g) w w')
  (p:Nat) (w:World) (hR:Rnd w B g p) (hp:p+scost (d+1)≤1000000000) :
  Calls Try.prog 164 #[.pointer (some ⟨g,0,none⟩),.agg #[.slice pv nv cv,.slice pa na ca,vb],.int .i64 ((d+1:Nat):Int)] w fun r w'=>∃ (n:Sn) (s:St) (p':Nat),r=.returned (.agg #[.int .i64 n.k,.int .i64 n.t,.int .i64 n.ix.k,.int .i64 n.ix.v,.slice n.ix.p n.ix.n n.ix.c,.int .i64 n.val.k,.int .i64 n.val.v,.slice n.val.p n.val.n n.val.c,.int .i64 n.c,.slice n.bp n.bn n.bc,.slice n.ep n.en n.ec])∧StAt w' (fun q=>w.heap.size≤q) (d+1) n s∧SmS (d+1) s∧Rnd w' B g p'∧p'≤p+scost (d+1)∧Chg (fun q=>q=g) w w':=by
 have qA:scost (d+1)=30000+4*scost d:=rfl
 have m2:=Lib.hid qA;clear qA
 have hP:p+30000≤1000000000:=by have:=m2.out;omega
 have x3:Hid (p+30000+4*scost d≤1000000000):=Lib.hid (by have:=m2.out;omega)
 have fP:=Lib.hid hp;clear hp
 have pA:=Lib.hid Hb;clear Hb
 have p8:Hid (IntKind.i64.wrap (d:Int)=d):=Lib.hid (IntWalk.i64_in _ (by omega))
 have hg:=hR.lt
 have hC:Chg (fun k=>k=g) w w:=Chg.refl _ _
 have y0:∀ q,(fun k=>k=g) q→q=g:=fun q h=>h
 go_enter Try.func164,Try.ntmps164
 go_wp2_with fail
 have t2:=num_any _ [1,1,2,3,4,1,3,5] _ B g (p) (((hR.below (bal (Bs _) (.cells #[.slice pv nv cv,.slice pa na ca,vb] 110))).below (bal (Bs _) (.cells #[.int .i64 0,.int .i64 0,.int .i64 0,.int .i64 0,.slice none 0 0,.int .i64 0,.int .i64 0,.slice none 0 0,.int .i64 0,.slice none 0 0,.slice none 0 0] 163))).below (bal (Bs _) (.cells #[.int .i64 1,.int .i64 1,.int .i64 2,.int .i64 3,.int .i64 4,.int .i64 1,.int .i64 3,.int .i64 5] 3))) (Ro (World.ownsRow_lit (base:=((World.alloc (World.alloc w (.cells #[.slice pv nv cv,.slice pa na ca,vb] 110)) (.cells #[.int .i64 0,.int .i64 0,.int .i64 0,.int .i64 0,.slice none 0 0,.int .i64 0,.int .i64 0,.slice none 0 0,.int .i64 0,.slice none 0 0,.slice none 0 0] 163))).heap.size) (e:=3) (size:=1) ((World.alloc (World.alloc w (.cells #[.slice pv nv cv,.slice pa na ca,vb] 110)) (.cells #[.int .i64 0,.int .i64 0,.int .i64 0,.int .i64 0,.slice none 0 0,.int .i64 0,.int .i64 0,.slice none 0 0,.int .i64 0,.slice none 0 0,.slice none 0 0] 163))) #[.int .i64 1,.int .i64 1,.int .i64 2,.int .i64 3,.int .i64 4,.int .i64 1,.int .i64 3,.int .i64 5] 8 (Nat.le_refl _) (by unfold maxLen;omega) (by simp)) (by simp)) (fun b o c hb=>by simp at hb;omega) (by simp) (by simp) (by omega)
 simp only [Sa] at t2
 refine (t2).mono ?_
 rintro e w1 ⟨kd,sA,rfl,k0,hc⟩
 clear t2
 replace hC:=((((hC.trans (Chg.of_below (bal (Bs _) _))).trans (Chg.of_below (bal (Bs _) _))).trans (Chg.of_below (bal (Bs _) _)))).trans hc
 replace hR:=k0;clear k0
 have x8:=hc.size
 simp only [Sa] at x8
 have e0:Bk w1 (w.heap.size) [.slice pv nv cv,.slice pa na ca,vb]:=Bk.keep (Bk.al (Bk.al (Bk.nw (by simp) rfl) (.cells #[.int .i64 0,.int .i64 0,.int .i64 0,.int .i64 0,.slice none 0 0,.int .i64 0,.int .i64 0,.slice none 0 0,.int .i64 0,.slice none 0 0,.slice none 0 0] 163)) (.cells #[.int .i64 1,.int .i64 1,.int .i64 2,.int .i64 3,.int .i64 4,.int .i64 1,.int .i64 3,.int .i64 5] 3)) hc (fun h=>by have:=y0 _ h;omega)
 have d0:Bk w1 (w.heap.size+1) [.int .i64 0,.int .i64 0,.int .i64 0,.int .i64 0,.slice none 0 0,.int .i64 0,.int .i64 0,.slice none 0 0,.int .i64 0,.slice none 0 0,.slice none 0 0]:=Bk.kg (Bk.al (Bk.nw (by simp) rfl) (.cells #[.int .i64 1,.int .i64 1,.int .i64 2,.int .i64 3,.int .i64 4,.int .i64 1,.int .i64 3,.int .i64 5] 3)) hc
 have wM:Bk w1 (w.heap.size+1+1) [.int .i64 1,.int .i64 1,.int .i64 2,.int .i64 3,.int .i64 4,.int .i64 1,.int .i64 3,.int .i64 5]:=Bk.kg (Bk.nw (by simp) rfl) hc
 clear hc
 clear wM
 have j2:=Bk.lz e0
 have o2:=Bk.lz d0
 have xM:=drawn_sk sA;clear sA
 rcases xM with rfl | rfl | rfl | rfl | rfl
 ·skip
  have n2:True:=trivial
  obtain ⟨cO,bP⟩:=Bk.cf e0 0 rfl
  go_wp2_with fail
  refine (pick_any _ _ B g (p+1) (hR.below (bal (Bs _) (.cells #[.int .i64 1,.int .i64 0,.int .i64 0,.int .i64 0,.slice none 0 0,.int .i64 0,.int .i64 0,.slice none 0 0,.int .i64 0,.slice none 0 0,.slice none 0 0] 163))) (by omega) (by omega) (by omega)).mono ?_
  rintro e w2 ⟨tg,k8,l8,rfl,k0,hc⟩
  replace hC:=((hC.trans (Chg.of_below (bal (Bs _) _)))).trans hc
  replace hR:=k0;clear k0
  have c4:=hc.size
  simp only [Sa] at c4
  clear bP cO
  replace e0:=Bk.kg (Bk.al e0 _) hc
  replace d0:=Bk.kg (Bk.al d0 _) hc
  have q1:Bk w2 (w1.heap.size) [.int .i64 1,.int .i64 0,.int .i64 0,.int .i64 0,.slice none 0 0,.int .i64 0,.int .i64 0,.slice none 0 0,.int .i64 0,.slice none 0 0,.slice none 0 0]:=Bk.kg (Bk.nw (by simp) rfl) hc
  clear hc
  replace j2:=Bk.lz e0
  replace o2:=Bk.lz d0
  have cN:=Bk.lz q1
  obtain ⟨i9,z9,j9,aA,k9,bA⟩:=Bk.f3 e0 0 1 2 rfl rfl rfl
  obtain ⟨l9,cA⟩:=Bk.cf q1 1 rfl
  go_wp2_with fail
  refine (l2Small_any pv pa nv cv na ca vb B g (p+1+1) _ (hR.kC (w1.heap.size) (1) (.int .i64 tg)) (by omega) hnv hnb).mono ?_
  rintro e w3 ⟨n1,e1,p1,rfl,g0,i2,k0,z3,hc⟩
  replace hC:=((hC.sN _ _ _)).trans hc
  replace hR:=k0;clear k0
  have d4:=hc.size
  simp only [Ss] at d4
  clear z9 i9 aA j9 bA k9 cA l9
  replace e0:=Bk.kg (Bk.nn e0 _) hc
  replace d0:=Bk.kg (Bk.nn d0 _) hc
  replace q1:Bk w3 (w1.heap.size) [.int .i64 1,.int .i64 tg,.int .i64 0,.int .i64 0,.slice none 0 0,.int .i64 0,.int .i64 0,.slice none 0 0,.int .i64 0,.slice none 0 0,.slice none 0 0]:=Bk.kg (Bk.at q1 1 (.int .i64 tg)) hc
  clear hc
  clear e0
  try simp only [Sa,Ss] at g0
  replace g0:=ExAt.keep (S:=fun _=>False) (Chg.refl _ _) (fun _ _ _=>id) (fun q (hq:w2.heap.size≤q) hlt=>(show w2.heap.size≤q∧q < w3.heap.size from ⟨hq,hlt⟩)) (Nat.le_refl _) g0
  obtain ⟨m9,dA,n9,eA,o9,fA⟩:=Bk.f3 q1 5 6 7 rfl rfl rfl
  go_upto_region 18 with (fail)
  obtain ⟨w4,s0,hb⟩:=nmw (World.setCell (World.setCell (World.setCell w3 ⟨w1.heap.size,5,none⟩ (.int .i64 n1.k)) ⟨w1.heap.size,6,none⟩ (.int .i64 n1.v)) ⟨w1.heap.size,7,none⟩ (.slice n1.p n1.n n1.c))
  replace hC:=((((hC.sN _ _ _).sN _ _ _).sN _ _ _)).trans (Chg.of_below hb)
  replace hR:=(((hR.kC _ _ _).kC _ _ _).kC _ _ _).below hb
  replace g0:=((ExAt.kI (C1 _ _ _) (fun q _ _ h=>by omega) (ExAt.kI (C1 _ _ _) (fun q _ _ h=>by omega) (ExAt.kI (C1 _ _ _) (fun q _ _ h=>by omega) g0))).below hb)
  have e4:=hb.size
  simp only [Ss] at e4
  clear dA m9 eA n9 fA o9
  replace d0:=Bk.below (Bk.nn (Bk.nn (Bk.nn d0 _) _) _) hb
  replace q1:Bk w4 (w1.heap.size) [.int .i64 1,.int .i64 tg,.int .i64 0,.int .i64 0,.slice none 0 0,.int .i64 n1.k,.int .i64 n1.v,.slice n1.p n1.n n1.c,.int .i64 0,.slice none 0 0,.slice none 0 0]:=Bk.below (Bk.at (Bk.at (Bk.at q1 5 (.int .i64 n1.k)) 6 (.int .i64 n1.v)) 7 (.slice n1.p n1.n n1.c)) hb
  clear hb
  rw [← s0]
  clear s0
  obtain ⟨fN,fO,gN,gO,hN,hO,iN,iO,jN,jO,kN,kO,lN,lO,mN,mO⟩:=Bk.f8 d0 0 1 2 3 4 5 6 7 rfl rfl rfl rfl rfl rfl rfl rfl
  obtain ⟨nN,nO,oN,oO,pN,pO⟩:=Bk.f3 d0 8 9 10 rfl rfl rfl
  obtain ⟨qN,qO,rN,rO,tN,sO,uN,tO,vN,uO,wN,vO,xN,wO,yN,xO⟩:=Bk.f8 q1 0 1 2 3 4 5 6 7 rfl rfl rfl rfl rfl rfl rfl rfl
  obtain ⟨zN,yO,aO,zO,bO,aP⟩:=Bk.f3 q1 8 9 10 rfl rfl rfl
  have j1:=((((((((((((Chg.refl (fun q=>q=w.heap.size+1) w4).setCell (w.heap.size+1) 0 (.int .i64 1) (fun _=>rfl)).setCell (w.heap.size+1) 1 (.int .i64 tg) (fun _=>rfl)).setCell (w.heap.size+1) 2 (.int .i64 0) (fun _=>rfl)).setCell (w.heap.size+1) 3 (.int .i64 0) (fun _=>rfl)).setCell (w.heap.size+1) 4 (.slice none 0 0) (fun _=>rfl)).setCell (w.heap.size+1) 5 (.int .i64 n1.k) (fun _=>rfl)).setCell (w.heap.size+1) 6 (.int .i64 n1.v) (fun _=>rfl)).setCell (w.heap.size+1) 7 (.slice n1.p n1.n n1.c) (fun _=>rfl)).setCell (w.heap.size+1) 8 (.int .i64 0) (fun _=>rfl)).setCell (w.heap.size+1) 9 (.slice none 0 0) (fun _=>rfl)).setCell (w.heap.size+1) 10 (.slice none 0 0) (fun _=>rfl))
  have m1:=(Bk.at (Bk.at (Bk.at (Bk.at (Bk.at (Bk.at (Bk.at (Bk.at (Bk.at (Bk.at (Bk.at d0 0 (.int .i64 1)) 1 (.int .i64 tg)) 2 (.int .i64 0)) 3 (.int .i64 0)) 4 (.slice none 0 0)) 5 (.int .i64 n1.k)) 6 (.int .i64 n1.v)) 7 (.slice n1.p n1.n n1.c)) 8 (.int .i64 0)) 9 (.slice none 0 0)) 10 (.slice none 0 0))
  obtain ⟨s1,t1,u1,v1,x1,y1,z1,a2,b2,c2,x0⟩:=Bk.g11 m1
  have w0:=Lib.hid j1;clear j1 m1
  have k1:=Lib.hid (And.intro hC hR);clear hC hR
  have f1:=Lib.hid g0;clear g0
  go_wp2
  exact bodyPost_ret (v:=.agg #[.int .i64 1,.int .i64 tg,.int .i64 0,.int .i64 0,.slice none 0 0,.int .i64 n1.k,.int .i64 n1.v,.slice n1.p n1.n n1.c,.int .i64 0,.slice none 0 0,.slice none 0 0]) (by simp [results,Try.results164,go_sem,s1,t1,u1,v1,x1,y1,z1,a2,b2,c2,x0]) rfl (by exact ⟨⟨1,tg,⟨0,0,none,0,0⟩,n1,0,none,0,0,none,0,0⟩,.mk 1 tg (.mk 0 0 []) e1 0 [] [],_,rfl,⟨rfl,rfl,rfl,⟨_,ExAt.leaf (d:=0) 0 0⟩,⟨_,ExAt.keep w0.out (fun q (hq:w2.heap.size≤q∧q < w3.heap.size) _ (h:q=w.heap.size+1)=>by omega) (fun q (hq:w2.heap.size≤q∧q < w3.heap.size) _=>by show w.heap.size≤q;omega) (Nat.le_refl _) f1.out⟩,RowOf.nil,RowOf.nil⟩,⟨thin_leaf 0 0,i2,by simp,by simp,(fun x hx=>by cases hx),(fun x hx=>by cases hx)⟩,k1.out.2.keep w0.out (fun h=>by omega) (fun k hk h=>by omega),by have:=m2.out;omega,chg_app k1.out.1 w0.out (fun q hq h=>by omega)⟩)
 ·skip
  by_cases hna:na=0
  ·have g1:decide (0 < na)=false:=by simp [hna]
   have g2:decide ((0:Int) < (na:Int))=false:=by simp [hna]
   clear hna
   have n2:True:=trivial
   obtain ⟨p9,gA,q9,hA⟩:=Bk.f2 e0 0 1 rfl rfl
   go_wp2_with fail
   refine (pick_any _ _ B g (p+1) (hR.below (bal (Bs _) (.cells #[.int .i64 1,.int .i64 0,.int .i64 0,.int .i64 0,.slice none 0 0,.int .i64 0,.int .i64 0,.slice none 0 0,.int .i64 0,.slice none 0 0,.slice none 0 0] 163))) (by omega) (by omega) (by omega)).mono ?_
   rintro e w2 ⟨tg,k8,l8,rfl,k0,hc⟩
   replace hC:=((hC.trans (Chg.of_below (bal (Bs _) _)))).trans hc
   replace hR:=k0;clear k0
   have f4:=hc.size
   simp only [Sa] at f4
   clear gA p9 hA q9
   replace e0:=Bk.kg (Bk.al e0 _) hc
   replace d0:=Bk.kg (Bk.al d0 _) hc
   have r1:Bk w2 (w1.heap.size) [.int .i64 1,.int .i64 0,.int .i64 0,.int .i64 0,.slice none 0 0,.int .i64 0,.int .i64 0,.slice none 0 0,.int .i64 0,.slice none 0 0,.slice none 0 0]:=Bk.kg (Bk.nw (by simp) rfl) hc
   clear hc
   replace j2:=Bk.lz e0
   replace o2:=Bk.lz d0
   have dN:=Bk.lz r1
   obtain ⟨r9,iA,s9,jA,t9,kA⟩:=Bk.f3 e0 0 1 2 rfl rfl rfl
   obtain ⟨u9,lA⟩:=Bk.cf r1 1 rfl
   go_wp2_with fail
   refine (l2Small_any pv pa nv cv na ca vb B g (p+1+1) _ (hR.kC (w1.heap.size) (1) (.int .i64 tg)) (by omega) hnv hnb).mono ?_
   rintro e w3 ⟨n1,e1,p1,rfl,g0,i2,k0,z3,hc⟩
   replace hC:=((hC.sN _ _ _)).trans hc
   replace hR:=k0;clear k0
   have g4:=hc.size
   simp only [Ss] at g4
   clear iA r9 jA s9 kA t9 lA u9
   replace e0:=Bk.kg (Bk.nn e0 _) hc
   replace d0:=Bk.kg (Bk.nn d0 _) hc
   replace r1:Bk w3 (w1.heap.size) [.int .i64 1,.int .i64 tg,.int .i64 0,.int .i64 0,.slice none 0 0,.int .i64 0,.int .i64 0,.slice none 0 0,.int .i64 0,.slice none 0 0,.slice none 0 0]:=Bk.kg (Bk.at r1 1 (.int .i64 tg)) hc
   clear hc
   clear e0
   try simp only [Sa,Ss] at g0
   replace g0:=ExAt.keep (S:=fun _=>False) (Chg.refl _ _) (fun _ _ _=>id) (fun q (hq:w2.heap.size≤q) hlt=>(show w2.heap.size≤q∧q < w3.heap.size from ⟨hq,hlt⟩)) (Nat.le_refl _) g0
   obtain ⟨v9,mA,x9,nA,y9,oA⟩:=Bk.f3 r1 5 6 7 rfl rfl rfl
   go_upto_region 18 with (fail)
   obtain ⟨w4,s0,hb⟩:=nmw (World.setCell (World.setCell (World.setCell w3 ⟨w1.heap.size,5,none⟩ (.int .i64 n1.k)) ⟨w1.heap.size,6,none⟩ (.int .i64 n1.v)) ⟨w1.heap.size,7,none⟩ (.slice n1.p n1.n n1.c))
   replace hC:=((((hC.sN _ _ _).sN _ _ _).sN _ _ _)).trans (Chg.of_below hb)
   replace hR:=(((hR.kC _ _ _).kC _ _ _).kC _ _ _).below hb
   replace g0:=((ExAt.kI (C1 _ _ _) (fun q _ _ h=>by omega) (ExAt.kI (C1 _ _ _) (fun q _ _ h=>by omega) (ExAt.kI (C1 _ _ _) (fun q _ _ h=>by omega) g0))).below hb)
   have h4:=hb.size
   simp only [Ss] at h4
   clear mA v9 nA x9 oA y9
   replace d0:=Bk.below (Bk.nn (Bk.nn (Bk.nn d0 _) _) _) hb
   replace r1:Bk w4 (w1.heap.size) [.int .i64 1,.int .i64 tg,.int .i64 0,.int .i64 0,.slice none 0 0,.int .i64 n1.k,.int .i64 n1.v,.slice n1.p n1.n n1.c,.int .i64 0,.slice none 0 0,.slice none 0 0]:=Bk.below (Bk.at (Bk.at (Bk.at r1 5 (.int .i64 n1.k)) 6 (.int .i64 n1.v)) 7 (.slice n1.p n1.n n1.c)) hb
   clear hb
   rw [← s0]
   clear s0
   obtain ⟨dO,cP,eO,dP,yA,wG,zA,xG,aB,yG,bB,zG,cB,aH,dB,bH⟩:=Bk.f8 d0 0 1 2 3 4 5 6 7 rfl rfl rfl rfl rfl rfl rfl rfl
   obtain ⟨eB,cH,fB,dH,gB,eH⟩:=Bk.f3 d0 8 9 10 rfl rfl rfl
   obtain ⟨hB,fH,iB,gH,jB,hH,kB,iH,lB,jH,mB,kH,nB,lH,oB,mH⟩:=Bk.f8 r1 0 1 2 3 4 5 6 7 rfl rfl rfl rfl rfl rfl rfl rfl
   obtain ⟨pB,nH,qB,oH,rB,pH⟩:=Bk.f3 r1 8 9 10 rfl rfl rfl
   have j1:=((((((((((((Chg.refl (fun q=>q=w.heap.size+1) w4).setCell (w.heap.size+1) 0 (.int .i64 1) (fun _=>rfl)).setCell (w.heap.size+1) 1 (.int .i64 tg) (fun _=>rfl)).setCell (w.heap.size+1) 2 (.int .i64 0) (fun _=>rfl)).setCell (w.heap.size+1) 3 (.int .i64 0) (fun _=>rfl)).setCell (w.heap.size+1) 4 (.slice none 0 0) (fun _=>rfl)).setCell (w.heap.size+1) 5 (.int .i64 n1.k) (fun _=>rfl)).setCell (w.heap.size+1) 6 (.int .i64 n1.v) (fun _=>rfl)).setCell (w.heap.size+1) 7 (.slice n1.p n1.n n1.c) (fun _=>rfl)).setCell (w.heap.size+1) 8 (.int .i64 0) (fun _=>rfl)).setCell (w.heap.size+1) 9 (.slice none 0 0) (fun _=>rfl)).setCell (w.heap.size+1) 10 (.slice none 0 0) (fun _=>rfl))
   have m1:=(Bk.at (Bk.at (Bk.at (Bk.at (Bk.at (Bk.at (Bk.at (Bk.at (Bk.at (Bk.at (Bk.at d0 0 (.int .i64 1)) 1 (.int .i64 tg)) 2 (.int .i64 0)) 3 (.int .i64 0)) 4 (.slice none 0 0)) 5 (.int .i64 n1.k)) 6 (.int .i64 n1.v)) 7 (.slice n1.p n1.n n1.c)) 8 (.int .i64 0)) 9 (.slice none 0 0)) 10 (.slice none 0 0))
   obtain ⟨s1,t1,u1,v1,x1,y1,z1,a2,b2,c2,x0⟩:=Bk.g11 m1
   have w0:=Lib.hid j1;clear j1 m1
   have k1:=Lib.hid (And.intro hC hR);clear hC hR
   have f1:=Lib.hid g0;clear g0
   go_wp2
   exact bodyPost_ret (v:=.agg #[.int .i64 1,.int .i64 tg,.int .i64 0,.int .i64 0,.slice none 0 0,.int .i64 n1.k,.int .i64 n1.v,.slice n1.p n1.n n1.c,.int .i64 0,.slice none 0 0,.slice none 0 0]) (by simp [results,Try.results164,go_sem,s1,t1,u1,v1,x1,y1,z1,a2,b2,c2,x0]) rfl (by exact ⟨⟨1,tg,⟨0,0,none,0,0⟩,n1,0,none,0,0,none,0,0⟩,.mk 1 tg (.mk 0 0 []) e1 0 [] [],_,rfl,⟨rfl,rfl,rfl,⟨_,ExAt.leaf (d:=0) 0 0⟩,⟨_,ExAt.keep w0.out (fun q (hq:w2.heap.size≤q∧q < w3.heap.size) _ (h:q=w.heap.size+1)=>by omega) (fun q (hq:w2.heap.size≤q∧q < w3.heap.size) _=>by show w.heap.size≤q;omega) (Nat.le_refl _) f1.out⟩,RowOf.nil,RowOf.nil⟩,⟨thin_leaf 0 0,i2,by simp,by simp,(fun x hx=>by cases hx),(fun x hx=>by cases hx)⟩,k1.out.2.keep w0.out (fun h=>by omega) (fun k hk h=>by omega),by have:=m2.out;omega,chg_app k1.out.1 w0.out (fun q hq h=>by omega)⟩)
  have g1:0 < na:=by omega
  obtain ⟨l4,k6⟩:=Bk.cf e0 1 rfl
  go_wp2_with fail
  refine (pick_any _ _ B g (p+1) (hR.below (bal (Bs _) (.cells #[.int .i64 2,.int .i64 0,.int .i64 0,.int .i64 0,.slice none 0 0,.int .i64 0,.int .i64 0,.slice none 0 0,.int .i64 0,.slice none 0 0,.slice none 0 0] 163))) (by omega) (by omega) (by omega)).mono ?_
  rintro e w2 ⟨tg,k8,l8,rfl,k0,hc⟩
  replace hC:=((hC.trans (Chg.of_below (bal (Bs _) _)))).trans hc
  replace hR:=k0;clear k0
  have x2:=hc.size
  simp only [Sa] at x2
  clear k6 l4
  replace e0:=Bk.kg (Bk.al e0 _) hc
  replace d0:=Bk.kg (Bk.al d0 _) hc
  have r0:Bk w2 (w1.heap.size) [.int .i64 2,.int .i64 0,.int .i64 0,.int .i64 0,.slice none 0 0,.int .i64 0,.int .i64 0,.slice none 0 0,.int .i64 0,.slice none 0 0,.slice none 0 0]:=Bk.kg (Bk.nw (by simp) rfl) hc
  clear hc
  replace j2:=Bk.lz e0
  have i4:=Bk.lz r0
  obtain ⟨m4,l6,n4,m6,o4,n6⟩:=Bk.f3 e0 0 1 2 rfl rfl rfl
  obtain ⟨p4,o6⟩:=Bk.cf r0 1 rfl
  go_wp2_with fail
  refine (l2DrawAtom_any pv pa nv cv na ca vb B g (p+1+1) _ (hR.kC (w1.heap.size) (1) (.int .i64 tg)) (by omega) hnv hnb).mono ?_
  rintro e w3 ⟨k2,v2,p2,rfl,k0,iP,hc⟩
  replace hC:=((hC.sN _ _ _)).trans hc
  replace hR:=k0;clear k0
  have y2:=hc.size
  simp only [Ss] at y2
  clear l6 m4 m6 n4 n6 o4 o6 p4
  replace e0:=Bk.kg (Bk.nn e0 _) hc
  replace d0:=Bk.kg (Bk.nn d0 _) hc
  replace r0:Bk w3 (w1.heap.size) [.int .i64 2,.int .i64 tg,.int .i64 0,.int .i64 0,.slice none 0 0,.int .i64 0,.int .i64 0,.slice none 0 0,.int .i64 0,.slice none 0 0,.slice none 0 0]:=Bk.kg (Bk.at r0 1 (.int .i64 tg)) hc
  clear hc
  replace j2:=Bk.lz e0
  replace o2:=Bk.lz d0
  replace i4:=Bk.lz r0
  obtain ⟨q4,p6,r4,q6,s4,r6⟩:=Bk.f3 e0 0 1 2 rfl rfl rfl
  obtain ⟨t4,s6,u4,t6,v4,u6⟩:=Bk.f3 r0 2 3 4 rfl rfl rfl
  go_wp2_with fail
  refine (l2Small_any pv pa nv cv na ca vb B g (p2) _ (((hR.kC (w1.heap.size) (2) (.int .i64 k2)).kC (w1.heap.size) (3) (.int .i64 v2)).kC (w1.heap.size) (4) (.slice none 0 0)) (by omega) hnv hnb).mono ?_
  rintro e w4 ⟨n1,e1,p1,rfl,g0,i2,k0,z3,hc⟩
  replace hC:=((((hC.sN _ _ _).sN _ _ _).sN _ _ _)).trans hc
  replace hR:=k0;clear k0
  have z2:=hc.size
  simp only [Ss] at z2
  clear p6 q4 q6 r4 r6 s4 s6 t4 t6 u4 u6 v4
  replace e0:=Bk.keep (Bk.nn (Bk.nn (Bk.nn e0 _) _) _) hc (fun h=>by have:=y0 _ h;omega)
  replace d0:=Bk.keep (Bk.nn (Bk.nn (Bk.nn d0 _) _) _) hc (fun h=>by have:=y0 _ h;omega)
  replace r0:Bk w4 (w1.heap.size) [.int .i64 2,.int .i64 tg,.int .i64 k2,.int .i64 v2,.slice none 0 0,.int .i64 0,.int .i64 0,.slice none 0 0,.int .i64 0,.slice none 0 0,.slice none 0 0]:=Bk.keep (Bk.at (Bk.at (Bk.at r0 2 (.int .i64 k2)) 3 (.int .i64 v2)) 4 (.slice none 0 0)) hc (fun h=>by have:=y0 _ h;omega)
  clear hc
  clear e0
  try simp only [Sa,Ss] at g0
  replace g0:=ExAt.keep (S:=fun _=>False) (Chg.refl _ _) (fun _ _ _=>id) (fun q (hq:w3.heap.size≤q) hlt=>(show w3.heap.size≤q∧q < w4.heap.size from ⟨hq,hlt⟩)) (Nat.le_refl _) g0
  obtain ⟨x4,v6,y4,x6,z4,y6⟩:=Bk.f3 r0 5 6 7 rfl rfl rfl
  go_upto_region 18 with (fail)
  obtain ⟨w5,s0,hb⟩:=nmw (World.setCell (World.setCell (World.setCell w4 ⟨w1.heap.size,5,none⟩ (.int .i64 n1.k)) ⟨w1.heap.size,6,none⟩ (.int .i64 n1.v)) ⟨w1.heap.size,7,none⟩ (.slice n1.p n1.n n1.c))
  replace hC:=((((hC.sN _ _ _).sN _ _ _).sN _ _ _)).trans (Chg.of_below hb)
  replace hR:=(((hR.kC _ _ _).kC _ _ _).kC _ _ _).below hb
  replace g0:=((ExAt.kI (C1 _ _ _) (fun q _ _ h=>by omega) (ExAt.kI (C1 _ _ _) (fun q _ _ h=>by omega) (ExAt.kI (C1 _ _ _) (fun q _ _ h=>by omega) g0))).below hb)
  have a3:=hb.size
  simp only [Ss] at a3
  clear v6 x4 x6 y4 y6 z4
  replace d0:=Bk.below (Bk.nn (Bk.nn (Bk.nn d0 _) _) _) hb
  replace r0:Bk w5 (w1.heap.size) [.int .i64 2,.int .i64 tg,.int .i64 k2,.int .i64 v2,.slice none 0 0,.int .i64 n1.k,.int .i64 n1.v,.slice n1.p n1.n n1.c,.int .i64 0,.slice none 0 0,.slice none 0 0]:=Bk.below (Bk.at (Bk.at (Bk.at r0 5 (.int .i64 n1.k)) 6 (.int .i64 n1.v)) 7 (.slice n1.p n1.n n1.c)) hb
  clear hb
  rw [← s0]
  clear s0
  obtain ⟨sB,qH,tB,rH,uB,sH,vB,tH,wB,uH,xB,vH,yB,wH,zB,xH⟩:=Bk.f8 d0 0 1 2 3 4 5 6 7 rfl rfl rfl rfl rfl rfl rfl rfl
  obtain ⟨aC,yH,bC,zH,cC,aI⟩:=Bk.f3 d0 8 9 10 rfl rfl rfl
  obtain ⟨dC,bI,eC,cI,fC,dI,gC,eI,iC,fI,jC,gI,lC,hI,mC,iI⟩:=Bk.f8 r0 0 1 2 3 4 5 6 7 rfl rfl rfl rfl rfl rfl rfl rfl
  obtain ⟨nC,jI,oC,lI,pC,mI⟩:=Bk.f3 r0 8 9 10 rfl rfl rfl
  have j1:=((((((((((((Chg.refl (fun q=>q=w.heap.size+1) w5).setCell (w.heap.size+1) 0 (.int .i64 2) (fun _=>rfl)).setCell (w.heap.size+1) 1 (.int .i64 tg) (fun _=>rfl)).setCell (w.heap.size+1) 2 (.int .i64 k2) (fun _=>rfl)).setCell (w.heap.size+1) 3 (.int .i64 v2) (fun _=>rfl)).setCell (w.heap.size+1) 4 (.slice none 0 0) (fun _=>rfl)).setCell (w.heap.size+1) 5 (.int .i64 n1.k) (fun _=>rfl)).setCell (w.heap.size+1) 6 (.int .i64 n1.v) (fun _=>rfl)).setCell (w.heap.size+1) 7 (.slice n1.p n1.n n1.c) (fun _=>rfl)).setCell (w.heap.size+1) 8 (.int .i64 0) (fun _=>rfl)).setCell (w.heap.size+1) 9 (.slice none 0 0) (fun _=>rfl)).setCell (w.heap.size+1) 10 (.slice none 0 0) (fun _=>rfl))
  have m1:=(Bk.at (Bk.at (Bk.at (Bk.at (Bk.at (Bk.at (Bk.at (Bk.at (Bk.at (Bk.at (Bk.at d0 0 (.int .i64 2)) 1 (.int .i64 tg)) 2 (.int .i64 k2)) 3 (.int .i64 v2)) 4 (.slice none 0 0)) 5 (.int .i64 n1.k)) 6 (.int .i64 n1.v)) 7 (.slice n1.p n1.n n1.c)) 8 (.int .i64 0)) 9 (.slice none 0 0)) 10 (.slice none 0 0))
  obtain ⟨s1,t1,u1,v1,x1,y1,z1,a2,b2,c2,x0⟩:=Bk.g11 m1
  have w0:=Lib.hid j1;clear j1 m1
  have k1:=Lib.hid (And.intro hC hR);clear hC hR
  have f1:=Lib.hid g0;clear g0
  go_wp2
  exact bodyPost_ret (v:=.agg #[.int .i64 2,.int .i64 tg,.int .i64 k2,.int .i64 v2,.slice none 0 0,.int .i64 n1.k,.int .i64 n1.v,.slice n1.p n1.n n1.c,.int .i64 0,.slice none 0 0,.slice none 0 0]) (by simp [results,Try.results164,go_sem,s1,t1,u1,v1,x1,y1,z1,a2,b2,c2,x0]) rfl (by exact ⟨⟨2,tg,⟨k2,v2,none,0,0⟩,n1,0,none,0,0,none,0,0⟩,.mk 2 tg (.mk k2 v2 []) e1 0 [] [],_,rfl,⟨rfl,rfl,rfl,⟨_,ExAt.leaf (d:=0) k2 v2⟩,⟨_,ExAt.keep w0.out (fun q (hq:w3.heap.size≤q∧q < w4.heap.size) _ (h:q=w.heap.size+1)=>by omega) (fun q (hq:w3.heap.size≤q∧q < w4.heap.size) _=>by show w.heap.size≤q;omega) (Nat.le_refl _) f1.out⟩,RowOf.nil,RowOf.nil⟩,⟨thin_leaf k2 v2,i2,by simp,by simp,(fun x hx=>by cases hx),(fun x hx=>by cases hx)⟩,k1.out.2.keep w0.out (fun h=>by omega) (fun k hk h=>by omega),by have:=m2.out;omega,chg_app k1.out.1 w0.out (fun q hq h=>by omega)⟩)
 ·skip
  by_cases hd0:d=0
  ·have g1:decide ((1:Int) < (d:Int)+1)=false:=by simp [hd0]
   have g3:decide (0 < d)=false:=by simp [hd0]
   have vM:=Lib.hid hd0;clear hd0
   have n2:True:=trivial
   obtain ⟨a5,z6⟩:=Bk.cf e0 0 rfl
   go_wp2_with fail
   refine (pick_any _ _ B g (p+1) (hR.below (bal (Bs _) (.cells #[.int .i64 1,.int .i64 0,.int .i64 0,.int .i64 0,.slice none 0 0,.int .i64 0,.int .i64 0,.slice none 0 0,.int .i64 0,.slice none 0 0,.slice none 0 0] 163))) (by omega) (by omega) (by omega)).mono ?_
   rintro e w2 ⟨tg,k8,l8,rfl,k0,hc⟩
   replace hC:=((hC.trans (Chg.of_below (bal (Bs _) _)))).trans hc
   replace hR:=k0;clear k0
   have b3:=hc.size
   simp only [Sa] at b3
   clear z6 a5
   replace e0:=Bk.kg (Bk.al e0 _) hc
   replace d0:=Bk.kg (Bk.al d0 _) hc
   have z0:Bk w2 (w1.heap.size) [.int .i64 1,.int .i64 0,.int .i64 0,.int .i64 0,.slice none 0 0,.int .i64 0,.int .i64 0,.slice none 0 0,.int .i64 0,.slice none 0 0,.slice none 0 0]:=Bk.kg (Bk.nw (by simp) rfl) hc
   clear hc
   replace j2:=Bk.lz e0
   replace o2:=Bk.lz d0
   have tA:=Bk.lz z0
   obtain ⟨b5,a7,c5,b7,d5,c7⟩:=Bk.f3 e0 0 1 2 rfl rfl rfl
   obtain ⟨e5,d7⟩:=Bk.cf z0 1 rfl
   go_wp2_with fail
   refine (l2Small_any pv pa nv cv na ca vb B g (p+1+1) _ (hR.kC (w1.heap.size) (1) (.int .i64 tg)) (by omega) hnv hnb).mono ?_
   rintro e w3 ⟨n1,e1,p1,rfl,g0,i2,k0,z3,hc⟩
   replace hC:=((hC.sN _ _ _)).trans hc
   replace hR:=k0;clear k0
   have c3:=hc.size
   simp only [Ss] at c3
   clear a7 b5 b7 c5 c7 d5 d7 e5
   replace e0:=Bk.kg (Bk.nn e0 _) hc
   replace d0:=Bk.kg (Bk.nn d0 _) hc
   replace z0:Bk w3 (w1.heap.size) [.int .i64 1,.int .i64 tg,.int .i64 0,.int .i64 0,.slice none 0 0,.int .i64 0,.int .i64 0,.slice none 0 0,.int .i64 0,.slice none 0 0,.slice none 0 0]:=Bk.kg (Bk.at z0 1 (.int .i64 tg)) hc
   clear hc
   clear e0
   try simp only [Sa,Ss] at g0
   replace g0:=ExAt.keep (S:=fun _=>False) (Chg.refl _ _) (fun _ _ _=>id) (fun q (hq:w2.heap.size≤q) hlt=>(show w2.heap.size≤q∧q < w3.heap.size from ⟨hq,hlt⟩)) (Nat.le_refl _) g0
   obtain ⟨f5,e7,g5,f7,h5,g7⟩:=Bk.f3 z0 5 6 7 rfl rfl rfl
   go_upto_region 18 with (fail)
   obtain ⟨w4,s0,hb⟩:=nmw (World.setCell (World.setCell (World.setCell w3 ⟨w1.heap.size,5,none⟩ (.int .i64 n1.k)) ⟨w1.heap.size,6,none⟩ (.int .i64 n1.v)) ⟨w1.heap.size,7,none⟩ (.slice n1.p n1.n n1.c))
   replace hC:=((((hC.sN _ _ _).sN _ _ _).sN _ _ _)).trans (Chg.of_below hb)
   replace hR:=(((hR.kC _ _ _).kC _ _ _).kC _ _ _).below hb
   replace g0:=((ExAt.kI (C1 _ _ _) (fun q _ _ h=>by omega) (ExAt.kI (C1 _ _ _) (fun q _ _ h=>by omega) (ExAt.kI (C1 _ _ _) (fun q _ _ h=>by omega) g0))).below hb)
   have d3:=hb.size
   simp only [Ss] at d3
   clear e7 f5 f7 g5 g7 h5
   replace d0:=Bk.below (Bk.nn (Bk.nn (Bk.nn d0 _) _) _) hb
   replace z0:Bk w4 (w1.heap.size) [.int .i64 1,.int .i64 tg,.int .i64 0,.int .i64 0,.slice none 0 0,.int .i64 n1.k,.int .i64 n1.v,.slice n1.p n1.n n1.c,.int .i64 0,.slice none 0 0,.slice none 0 0]:=Bk.below (Bk.at (Bk.at (Bk.at z0 5 (.int .i64 n1.k)) 6 (.int .i64 n1.v)) 7 (.slice n1.p n1.n n1.c)) hb
   clear hb
   rw [← s0]
   clear s0
   obtain ⟨qC,nI,rC,oI,sC,pI,tC,qI,uC,rI,vC,sI,wC,tI,xC,uI⟩:=Bk.f8 d0 0 1 2 3 4 5 6 7 rfl rfl rfl rfl rfl rfl rfl rfl
   obtain ⟨yC,vI,zC,wI,aD,xI⟩:=Bk.f3 d0 8 9 10 rfl rfl rfl
   obtain ⟨bD,yI,cD,zI,dD,aJ,eD,bJ,fD,cJ,gD,dJ,hD,eJ,iD,fJ⟩:=Bk.f8 z0 0 1 2 3 4 5 6 7 rfl rfl rfl rfl rfl rfl rfl rfl
   obtain ⟨jD,gJ,kD,hJ,lD,iJ⟩:=Bk.f3 z0 8 9 10 rfl rfl rfl
   have j1:=((((((((((((Chg.refl (fun q=>q=w.heap.size+1) w4).setCell (w.heap.size+1) 0 (.int .i64 1) (fun _=>rfl)).setCell (w.heap.size+1) 1 (.int .i64 tg) (fun _=>rfl)).setCell (w.heap.size+1) 2 (.int .i64 0) (fun _=>rfl)).setCell (w.heap.size+1) 3 (.int .i64 0) (fun _=>rfl)).setCell (w.heap.size+1) 4 (.slice none 0 0) (fun _=>rfl)).setCell (w.heap.size+1) 5 (.int .i64 n1.k) (fun _=>rfl)).setCell (w.heap.size+1) 6 (.int .i64 n1.v) (fun _=>rfl)).setCell (w.heap.size+1) 7 (.slice n1.p n1.n n1.c) (fun _=>rfl)).setCell (w.heap.size+1) 8 (.int .i64 0) (fun _=>rfl)).setCell (w.heap.size+1) 9 (.slice none 0 0) (fun _=>rfl)).setCell (w.heap.size+1) 10 (.slice none 0 0) (fun _=>rfl))
   have m1:=(Bk.at (Bk.at (Bk.at (Bk.at (Bk.at (Bk.at (Bk.at (Bk.at (Bk.at (Bk.at (Bk.at d0 0 (.int .i64 1)) 1 (.int .i64 tg)) 2 (.int .i64 0)) 3 (.int .i64 0)) 4 (.slice none 0 0)) 5 (.int .i64 n1.k)) 6 (.int .i64 n1.v)) 7 (.slice n1.p n1.n n1.c)) 8 (.int .i64 0)) 9 (.slice none 0 0)) 10 (.slice none 0 0))
   obtain ⟨s1,t1,u1,v1,x1,y1,z1,a2,b2,c2,x0⟩:=Bk.g11 m1
   have w0:=Lib.hid j1;clear j1 m1
   have k1:=Lib.hid (And.intro hC hR);clear hC hR
   have f1:=Lib.hid g0;clear g0
   go_wp2
   exact bodyPost_ret (v:=.agg #[.int .i64 1,.int .i64 tg,.int .i64 0,.int .i64 0,.slice none 0 0,.int .i64 n1.k,.int .i64 n1.v,.slice n1.p n1.n n1.c,.int .i64 0,.slice none 0 0,.slice none 0 0]) (by simp [results,Try.results164,go_sem,s1,t1,u1,v1,x1,y1,z1,a2,b2,c2,x0]) rfl (by exact ⟨⟨1,tg,⟨0,0,none,0,0⟩,n1,0,none,0,0,none,0,0⟩,.mk 1 tg (.mk 0 0 []) e1 0 [] [],_,rfl,⟨rfl,rfl,rfl,⟨_,ExAt.leaf (d:=0) 0 0⟩,⟨_,ExAt.keep w0.out (fun q (hq:w2.heap.size≤q∧q < w3.heap.size) _ (h:q=w.heap.size+1)=>by omega) (fun q (hq:w2.heap.size≤q∧q < w3.heap.size) _=>by show w.heap.size≤q;omega) (Nat.le_refl _) f1.out⟩,RowOf.nil,RowOf.nil⟩,⟨thin_leaf 0 0,i2,by simp,by simp,(fun x hx=>by cases hx),(fun x hx=>by cases hx)⟩,k1.out.2.keep w0.out (fun h=>by omega) (fun k hk h=>by omega),by have:=m2.out;omega,chg_app k1.out.1 w0.out (fun q hq h=>by omega)⟩)
  have g1:(1:Int) < (d:Int)+1:=by omega
  have g3:0 < d:=by omega
  have o8:=Lib.hid (pA.out (by omega))
  obtain ⟨i5,h7,j5,i7,k5,j7⟩:=Bk.f3 e0 0 1 2 rfl rfl rfl
  go_wp2_with fail
  refine (l2Small_any pv pa nv cv na ca vb B g (p+1) _ (hR.below (bal (Bs _) (.cells #[.int .i64 3,.int .i64 0,.int .i64 0,.int .i64 0,.slice none 0 0,.int .i64 0,.int .i64 0,.slice none 0 0,.int .i64 0,.slice none 0 0,.slice none 0 0] 163))) (by omega) hnv hnb).mono ?_
  rintro e w2 ⟨n1,e1,p1,rfl,g0,i2,k0,z3,hc⟩
  replace hC:=((hC.trans (Chg.of_below (bal (Bs _) _)))).trans hc
  replace hR:=k0;clear k0
  have e3:=hc.size
  simp only [Sa] at e3
  clear h7 i5 i7 j5 j7 k5
  replace e0:=Bk.kg (Bk.al e0 _) hc
  replace d0:=Bk.kg (Bk.al d0 _) hc
  have f0:Bk w2 (w1.heap.size) [.int .i64 3,.int .i64 0,.int .i64 0,.int .i64 0,.slice none 0 0,.int .i64 0,.int .i64 0,.slice none 0 0,.int .i64 0,.slice none 0 0,.slice none 0 0]:=Bk.kg (Bk.nw (by simp) rfl) hc
  clear hc
  try simp only [Sa,Ss] at g0
  replace g0:=ExAt.keep (S:=fun _=>False) (Chg.refl _ _) (fun _ _ _=>id) (fun q (hq:w1.heap.size+1≤q) hlt=>(show w1.heap.size+1≤q∧q < w2.heap.size from ⟨hq,hlt⟩)) (Nat.le_refl _) g0
  replace j2:=Bk.lz e0
  have q2:=Bk.lz f0
  obtain ⟨l5,k7,m5,l7,n5,m7⟩:=Bk.f3 f0 5 6 7 rfl rfl rfl
  go_upto_region 13 with (fail)
  obtain ⟨w3,s0,hb⟩:=nmw (World.setCell (World.setCell (World.setCell w2 ⟨w1.heap.size,5,none⟩ (.int .i64 n1.k)) ⟨w1.heap.size,6,none⟩ (.int .i64 n1.v)) ⟨w1.heap.size,7,none⟩ (.slice n1.p n1.n n1.c))
  replace hC:=((((hC.sN _ _ _).sN _ _ _).sN _ _ _)).trans (Chg.of_below hb)
  replace hR:=(((hR.kC _ _ _).kC _ _ _).kC _ _ _).below hb
  replace g0:=((ExAt.kI (C1 _ _ _) (fun q _ _ h=>by omega) (ExAt.kI (C1 _ _ _) (fun q _ _ h=>by omega) (ExAt.kI (C1 _ _ _) (fun q _ _ h=>by omega) g0))).below hb)
  have h3:=hb.size
  simp only [Ss] at h3
  clear k7 l5 l7 m5 m7 n5
  replace e0:=Bk.below (Bk.nn (Bk.nn (Bk.nn e0 _) _) _) hb
  replace d0:=Bk.below (Bk.nn (Bk.nn (Bk.nn d0 _) _) _) hb
  replace f0:Bk w3 (w1.heap.size) [.int .i64 3,.int .i64 0,.int .i64 0,.int .i64 0,.slice none 0 0,.int .i64 n1.k,.int .i64 n1.v,.slice n1.p n1.n n1.c,.int .i64 0,.slice none 0 0,.slice none 0 0]:=Bk.below (Bk.at (Bk.at (Bk.at f0 5 (.int .i64 n1.k)) 6 (.int .i64 n1.v)) 7 (.slice n1.p n1.n n1.c)) hb
  clear hb
  rw [← s0]
  clear s0
  obtain ⟨a0,l0,b0,m0,c0,n0⟩:=Bk.f3 e0 0 1 2 rfl rfl rfl
  refine wp_region_noPanic ?_
  refine wp_region_held_drew (S:=(fun W'=>W'.cell? ⟨w.heap.size,0,none⟩=some (.slice pv nv cv)∧W'.cell? ⟨w.heap.size,1,none⟩=some (.slice pa na ca)∧W'.cell? ⟨w.heap.size,2,none⟩=some (vb))) (by kernel_rfl) ⟨Kc (Below.drew (Bs w3)) a0,Kc (Below.drew (Bs w3)) b0,Kc (Below.drew (Bs w3)) c0⟩ (fun hHeld=>?_)
  obtain ⟨w4,l2⟩:∃ X,X=World.drew w3:=⟨_,rfl⟩
  rw [← l2] at hHeld ⊢
  have hb:Below w3.heap.size w3 w4:=by rw [l2];exact Below.drew (Bs _)
  clear l2
  replace hC:=(hC).trans (Chg.of_below hb)
  replace hR:=hR.below hb
  replace g0:=(g0.below hb)
  have y8:=hb.size
  replace l0:=Kf hb (Lc a0) l0
  replace m0:=Kf hb (Lc b0) m0
  replace n0:=Kf hb (Lc c0) n0
  replace a0:=Kc hb a0
  replace b0:=Kc hb b0
  replace c0:=Kc hb c0
  replace e0:=Bk.below e0 hb
  replace d0:=Bk.below d0 hb
  replace f0:=Bk.below f0 hb
  clear hb
  replace j2:=Bk.lz e0
  replace o2:=Bk.lz d0
  replace q2:=Bk.lz f0
  refine (tq 0 61 rfl rfl ?_ ?_ (tq 1 62 rfl rfl ?_ ?_ (tq 2 63 rfl rfl ?_ ?_ (tq 3 64 rfl rfl ?_ ?_ (tq 4 65 rfl rfl ?_ ?_ ?_)))))
  iterate 5 (rotate_left;intro W' hSw;(try dsimp only at hSw);go_simp;try with_reducible rfl)
  try simp only [Ep]
  refine Rdy 5 rfl (fun K hK=>?_)
  go_simp
  obtain ⟨w5,s0,hb⟩:=nmw (World.alloc w4 (.cells #[.int .i64 1,.int .i64 2,.int .i64 1,.int .i64 0] 3))
  replace hC:=((hC.trans (Chg.of_below (bal (Bs _) _)))).trans (Chg.of_below hb)
  replace hR:=(hR.below (bal (Bs _) _)).below hb
  have q0:=Ob (World.ownsRow_lit (base:=(w4).heap.size) (e:=3) (size:=1) (w4) #[.int .i64 1,.int .i64 2,.int .i64 1,.int .i64 0] 4 (Nat.le_refl _) (by unfold maxLen;omega) (by simp)) hb
  try simp only [Sa,Ss] at q0
  replace g0:=((g0.below (bal (Bs _) _)).below hb)
  have i3:=hb.size
  simp only [Sa] at i3
  replace l0:=Kf hb (Lc (Ac a0 _)) (Fa (Lc a0) l0 _)
  replace m0:=Kf hb (Lc (Ac b0 _)) (Fa (Lc b0) m0 _)
  replace n0:=Kf hb (Lc (Ac c0 _)) (Fa (Lc c0) n0 _)
  replace a0:=Kc hb (Ac a0 _)
  replace b0:=Kc hb (Ac b0 _)
  replace c0:=Kc hb (Ac c0 _)
  replace e0:=Bk.below (Bk.al e0 _) hb
  replace d0:=Bk.below (Bk.al d0 _) hb
  replace f0:=Bk.below (Bk.al f0 _) hb
  have o0:Bk w5 (w4.heap.size) [.int .i64 1,.int .i64 2,.int .i64 1,.int .i64 0]:=Bk.below (Bk.nw (by simp) rfl) hb
  clear hb
  have o1:=q0.lt
  try simp only [Sa] at o1
  rw [← s0]
  clear s0
  have j4:=Bk.lz o0
  refine hK.out _ _ ⟨a0,b0,c0⟩ (fun hHeld=>?_)
  clear hK K
  try simp only [Ep]
  refine Rdy 6 rfl (fun K hK=>?_)
  go_simp
  refine (num_any _ [1,2,1,0] _ B g (p1) hR (Ro q0 (by simp)) (fun b o c hb=>by simp at hb;omega) (by simp) (by simp) (by omega)).mono ?_
  rintro e w6 ⟨mb,h9,rfl,k0,hc⟩
  replace hC:=(hC).trans hc
  replace hR:=k0;clear k0
  replace g0:=ExAt.kI hc (fun q _ _ h=>by omega) g0
  have z8:=hc.size
  replace l0:=Gf hc (Lc a0) l0 (fun h=>by have:=y0 _ h;omega)
  replace m0:=Gf hc (Lc b0) m0 (fun h=>by have:=y0 _ h;omega)
  replace n0:=Gf hc (Lc c0) n0 (fun h=>by have:=y0 _ h;omega)
  replace a0:=Gg hc a0
  replace b0:=Gg hc b0
  replace c0:=Gg hc c0
  replace q0:=Ow q0 hc (fun gq h h2=>by have:=o1 gq h;have:=y0 gq h2;omega)
  replace e0:=Bk.kg e0 hc
  replace d0:=Bk.kg d0 hc
  replace f0:=Bk.kg f0 hc
  replace o0:=Bk.kg o0 hc
  clear hc
  obtain ⟨bb,rfl,hb4b⟩:∃ b:Nat,mb=b∧b≤2:=by simp only [List.mem_cons,List.not_mem_nil,or_false] at h9;exact ⟨mb.toNat,by omega,by omega⟩
  have t8:bb*scost d≤2*scost d:=Nat.mul_le_mul_right _ hb4b
  have u8:=x3.out
  refine hK.out _ _ ⟨a0,b0,c0⟩ (fun hHeld=>?_)
  clear hK K
  try simp only [Ep]
  refine Rdy 7 rfl (fun K hK=>?_)
  go_simp
  rw [p8.out]
  refine (o8.out bb (p1+1) _ hb4b hR (by have:=x3.out;omega)).mono ?_
  rintro e w7 ⟨ab,cb,Lb,pb,rfl,l1,r8,b4,k0,bN,hc⟩
  replace hC:=(hC).trans hc
  replace hR:=k0;clear k0
  replace g0:=ExAt.kI hc (fun q _ _ h=>by omega) g0
  have a9:=hc.size
  replace l0:=Gf hc (Lc a0) l0 (fun h=>by have:=y0 _ h;omega)
  replace m0:=Gf hc (Lc b0) m0 (fun h=>by have:=y0 _ h;omega)
  replace n0:=Gf hc (Lc c0) n0 (fun h=>by have:=y0 _ h;omega)
  replace a0:=Gg hc a0
  replace b0:=Gg hc b0
  replace c0:=Gg hc c0
  replace q0:=Ow q0 hc (fun gq h h2=>by have:=o1 gq h;have:=y0 gq h2;omega)
  replace e0:=Bk.kg e0 hc
  replace d0:=Bk.kg d0 hc
  replace f0:=Bk.kg f0 hc
  replace o0:=Bk.kg o0 hc
  clear hc
  have u2:=Lib.hid b4;have s2:Lb.length≤2:=by omega
  clear r8 b4
  replace l1:=BlAt.keep2 (S:=fun _=>False) (Chg.refl _ _) (fun _ _ _=>id) (fun q (hq:w6.heap.size≤q) hlt=>(show w6.heap.size≤q∧q < w7.heap.size from ⟨hq,hlt⟩)) (Nat.le_refl _) l1
  refine hK.out _ _ ⟨a0,b0,c0⟩ (fun hHeld=>?_)
  clear hK K
  try simp only [Ep]
  refine (tq 8 69 rfl rfl ?_ ?_ ?_)
  (rotate_left;intro W' hSw;(try dsimp only at hSw);go_simp;try with_reducible rfl)
  try simp only [Ep]
  refine Rdy 9 rfl (fun K hK=>?_)
  obtain ⟨o5,n7⟩:=Bk.cf f0 9 rfl
  go_simp
  obtain ⟨w8,s0,hb⟩:=nmw (World.setCell w7 ⟨w1.heap.size,9,none⟩ (.slice ab Lb.length cb))
  replace hC:=((hC.sN _ _ _)).trans (Chg.of_below hb)
  replace hR:=(hR.kC _ _ _).below hb
  replace g0:=((ExAt.kI (C1 _ _ _) (fun q _ _ h=>by omega) g0).below hb)
  replace l1:=((BlAt.keep2 (C1 _ _ _) (fun q (hq:w6.heap.size≤q∧q < w7.heap.size) _ (h:q=(w1.heap.size))=>by omega) (fun _ h _=>h) (Nat.le_refl _) l1).below hb)
  have j3:=hb.size
  simp only [Ss] at j3
  clear n7 o5
  replace l0:=Kf hb (Lc (Nn a0 _)) (Fs l0 _)
  replace m0:=Kf hb (Lc (Nn b0 _)) (Fs m0 _)
  replace n0:=Kf hb (Lc (Nn c0 _)) (Fs n0 _)
  replace a0:=Kc hb (Nn a0 _)
  replace b0:=Kc hb (Nn b0 _)
  replace c0:=Kc hb (Nn c0 _)
  replace q0:=Ob (Oe q0 _ _ (fun h=>by have:=o1 _ h;omega) _) hb
  replace e0:=Bk.below (Bk.nn e0 _) hb
  replace d0:=Bk.below (Bk.nn d0 _) hb
  replace f0:Bk w8 (w1.heap.size) [.int .i64 3,.int .i64 0,.int .i64 0,.int .i64 0,.slice none 0 0,.int .i64 n1.k,.int .i64 n1.v,.slice n1.p n1.n n1.c,.int .i64 0,.slice ab Lb.length cb,.slice none 0 0]:=Bk.below (Bk.at f0 9 (.slice ab Lb.length cb)) hb
  replace o0:=Bk.below (Bk.nn o0 _) hb
  clear hb
  rw [← s0]
  clear s0
  refine hK.out _ _ ⟨a0,b0,c0⟩ (fun hHeld=>?_)
  clear hK K
  try simp only [Ep]
  refine Dn ?_
  clear hHeld
  obtain ⟨p5,o7⟩:=Bk.cf f0 9 rfl
  go_upto_region 14 with (fail)
  clear o7 p5
  refine wp_region_noPanic ?_
  refine wp_region_held_drew (S:=(fun W'=>W'.cell? ⟨w.heap.size,0,none⟩=some (.slice pv nv cv)∧W'.cell? ⟨w.heap.size,1,none⟩=some (.slice pa na ca)∧W'.cell? ⟨w.heap.size,2,none⟩=some (vb))) (by kernel_rfl) ⟨Kc (Below.drew (Bs w8)) a0,Kc (Below.drew (Bs w8)) b0,Kc (Below.drew (Bs w8)) c0⟩ (fun hHeld=>?_)
  obtain ⟨w9,l2⟩:∃ X,X=World.drew w8:=⟨_,rfl⟩
  rw [← l2] at hHeld ⊢
  have hb:Below w8.heap.size w8 w9:=by rw [l2];exact Below.drew (Bs _)
  clear l2
  replace hC:=(hC).trans (Chg.of_below hb)
  replace hR:=hR.below hb
  replace g0:=(g0.below hb)
  replace l1:=(l1.below hb)
  have b9:=hb.size
  replace l0:=Kf hb (Lc a0) l0
  replace m0:=Kf hb (Lc b0) m0
  replace n0:=Kf hb (Lc c0) n0
  replace a0:=Kc hb a0
  replace b0:=Kc hb b0
  replace c0:=Kc hb c0
  replace q0:=Ob q0 hb
  replace e0:=Bk.below e0 hb
  replace d0:=Bk.below d0 hb
  replace f0:=Bk.below f0 hb
  replace o0:=Bk.below o0 hb
  clear hb
  replace j2:=Bk.lz e0
  replace o2:=Bk.lz d0
  replace q2:=Bk.lz f0
  replace j4:=Bk.lz o0
  refine (tq 0 70 rfl rfl ?_ ?_ (tq 1 71 rfl rfl ?_ ?_ (tq 2 72 rfl rfl ?_ ?_ (tq 3 73 rfl rfl ?_ ?_ (tq 4 74 rfl rfl ?_ ?_ ?_)))))
  iterate 5 (rotate_left;intro W' hSw;(try dsimp only at hSw);go_simp;try with_reducible rfl)
  try simp only [Ep]
  refine Rdy 5 rfl (fun K hK=>?_)
  go_simp
  obtain ⟨eP,s0,hb⟩:=nmw (World.alloc w9 (.cells #[.int .i64 0,.int .i64 1,.int .i64 0,.int .i64 2] 3))
  replace hC:=((hC.trans (Chg.of_below (bal (Bs _) _)))).trans (Chg.of_below hb)
  replace hR:=(hR.below (bal (Bs _) _)).below hb
  have c1:=Ob (World.ownsRow_lit (base:=(w9).heap.size) (e:=3) (size:=1) (w9) #[.int .i64 0,.int .i64 1,.int .i64 0,.int .i64 2] 4 (Nat.le_refl _) (by unfold maxLen;omega) (by simp)) hb
  try simp only [Sa,Ss] at c1
  replace g0:=((g0.below (bal (Bs _) _)).below hb)
  replace l1:=((l1.below (bal (Bs _) _)).below hb)
  have k3:=hb.size
  simp only [Sa] at k3
  replace l0:=Kf hb (Lc (Ac a0 _)) (Fa (Lc a0) l0 _)
  replace m0:=Kf hb (Lc (Ac b0 _)) (Fa (Lc b0) m0 _)
  replace n0:=Kf hb (Lc (Ac c0 _)) (Fa (Lc c0) n0 _)
  replace a0:=Kc hb (Ac a0 _)
  replace b0:=Kc hb (Ac b0 _)
  replace c0:=Kc hb (Ac c0 _)
  replace q0:=Ob (Ob q0 (bal (Bs _) _)) hb
  replace e0:=Bk.below (Bk.al e0 _) hb
  replace d0:=Bk.below (Bk.al d0 _) hb
  replace f0:=Bk.below (Bk.al f0 _) hb
  replace o0:=Bk.below (Bk.al o0 _) hb
  have h1:Bk eP (w9.heap.size) [.int .i64 0,.int .i64 1,.int .i64 0,.int .i64 2]:=Bk.below (Bk.nw (by simp) rfl) hb
  clear hb
  have d2:=c1.lt
  try simp only [Sa] at d2
  rw [← s0]
  clear s0
  have uA:=Bk.lz h1
  refine hK.out _ _ ⟨a0,b0,c0⟩ (fun hHeld=>?_)
  clear hK K
  try simp only [Ep]
  refine Rdy 6 rfl (fun K hK=>?_)
  go_simp
  refine (num_any _ [0,1,0,2] _ B g (pb) hR (Ro c1 (by simp)) (fun b o c hb=>by simp at hb;omega) (by simp) (by simp) (by omega)).mono ?_
  rintro e m8 ⟨me,eN,rfl,k0,hc⟩
  replace hC:=(hC).trans hc
  replace hR:=k0;clear k0
  replace g0:=ExAt.kI hc (fun q _ _ h=>by omega) g0
  replace l1:=BlAt.keep2 hc (fun q (hq:w6.heap.size≤q∧q < w7.heap.size) _ (h:q=g)=>by omega) (fun _ h _=>h) (Nat.le_refl _) l1
  have c9:=hc.size
  replace l0:=Gf hc (Lc a0) l0 (fun h=>by have:=y0 _ h;omega)
  replace m0:=Gf hc (Lc b0) m0 (fun h=>by have:=y0 _ h;omega)
  replace n0:=Gf hc (Lc c0) n0 (fun h=>by have:=y0 _ h;omega)
  replace a0:=Gg hc a0
  replace b0:=Gg hc b0
  replace c0:=Gg hc c0
  replace q0:=Ow q0 hc (fun gq h h2=>by have:=o1 gq h;have:=y0 gq h2;omega)
  replace c1:=Ow c1 hc (fun gq h h2=>by have:=d2 gq h;have:=y0 gq h2;omega)
  replace e0:=Bk.kg e0 hc
  replace d0:=Bk.kg d0 hc
  replace f0:=Bk.kg f0 hc
  replace o0:=Bk.kg o0 hc
  replace h1:=Bk.kg h1 hc
  clear hc
  obtain ⟨be,rfl,hb4e⟩:∃ b:Nat,me=b∧b≤2:=by simp only [List.mem_cons,List.not_mem_nil,or_false] at eN;exact ⟨me.toNat,by omega,by omega⟩
  have zM:be*scost d≤2*scost d:=Nat.mul_le_mul_right _ hb4e
  have aN:=x3.out
  refine hK.out _ _ ⟨a0,b0,c0⟩ (fun hHeld=>?_)
  clear hK K
  try simp only [Ep]
  refine Rdy 7 rfl (fun K hK=>?_)
  go_simp
  rw [p8.out]
  refine (o8.out be (pb+1) _ hb4e hR (by have:=x3.out;omega)).mono ?_
  rintro e n8 ⟨ae,ce,Le,pe,rfl,y3,yM,rA,k0,jP,hc⟩
  replace hC:=(hC).trans hc
  replace hR:=k0;clear k0
  replace g0:=ExAt.kI hc (fun q _ _ h=>by omega) g0
  replace l1:=BlAt.keep2 hc (fun q (hq:w6.heap.size≤q∧q < w7.heap.size) _ (h:q=g)=>by omega) (fun _ h _=>h) (Nat.le_refl _) l1
  have d9:=hc.size
  replace l0:=Gf hc (Lc a0) l0 (fun h=>by have:=y0 _ h;omega)
  replace m0:=Gf hc (Lc b0) m0 (fun h=>by have:=y0 _ h;omega)
  replace n0:=Gf hc (Lc c0) n0 (fun h=>by have:=y0 _ h;omega)
  replace a0:=Gg hc a0
  replace b0:=Gg hc b0
  replace c0:=Gg hc c0
  replace q0:=Ow q0 hc (fun gq h h2=>by have:=o1 gq h;have:=y0 gq h2;omega)
  replace c1:=Ow c1 hc (fun gq h h2=>by have:=d2 gq h;have:=y0 gq h2;omega)
  replace e0:=Bk.kg e0 hc
  replace d0:=Bk.kg d0 hc
  replace f0:=Bk.kg f0 hc
  replace o0:=Bk.kg o0 hc
  replace h1:=Bk.kg h1 hc
  clear hc
  have v8:=Lib.hid rA;have s8:Le.length≤2:=by omega
  clear yM rA
  replace y3:=BlAt.keep2 (S:=fun _=>False) (Chg.refl _ _) (fun _ _ _=>id) (fun q (hq:m8.heap.size≤q) hlt=>(show m8.heap.size≤q∧q < n8.heap.size from ⟨hq,hlt⟩)) (Nat.le_refl _) y3
  refine hK.out _ _ ⟨a0,b0,c0⟩ (fun hHeld=>?_)
  clear hK K
  try simp only [Ep]
  refine (tq 8 78 rfl rfl ?_ ?_ ?_)
  (rotate_left;intro W' hSw;(try dsimp only at hSw);go_simp;try with_reducible rfl)
  try simp only [Ep]
  refine Rdy 9 rfl (fun K hK=>?_)
  obtain ⟨q5,p7⟩:=Bk.cf f0 10 rfl
  go_simp
  obtain ⟨uM,s0,hb⟩:=nmw (World.setCell n8 ⟨w1.heap.size,10,none⟩ (.slice ae Le.length ce))
  replace hC:=((hC.sN _ _ _)).trans (Chg.of_below hb)
  replace hR:=(hR.kC _ _ _).below hb
  replace g0:=((ExAt.kI (C1 _ _ _) (fun q _ _ h=>by omega) g0).below hb)
  replace l1:=((BlAt.keep2 (C1 _ _ _) (fun q (hq:w6.heap.size≤q∧q < w7.heap.size) _ (h:q=(w1.heap.size))=>by omega) (fun _ h _=>h) (Nat.le_refl _) l1).below hb)
  replace y3:=((BlAt.keep2 (C1 _ _ _) (fun q (hq:m8.heap.size≤q∧q < n8.heap.size) _ (h:q=(w1.heap.size))=>by omega) (fun _ h _=>h) (Nat.le_refl _) y3).below hb)
  have l3:=hb.size
  simp only [Ss] at l3
  clear p7 q5
  replace l0:=Kf hb (Lc (Nn a0 _)) (Fs l0 _)
  replace m0:=Kf hb (Lc (Nn b0 _)) (Fs m0 _)
  replace n0:=Kf hb (Lc (Nn c0 _)) (Fs n0 _)
  replace a0:=Kc hb (Nn a0 _)
  replace b0:=Kc hb (Nn b0 _)
  replace c0:=Kc hb (Nn c0 _)
  replace q0:=Ob (Oe q0 _ _ (fun h=>by have:=o1 _ h;omega) _) hb
  replace c1:=Ob (Oe c1 _ _ (fun h=>by have:=d2 _ h;omega) _) hb
  replace e0:=Bk.below (Bk.nn e0 _) hb
  replace d0:=Bk.below (Bk.nn d0 _) hb
  replace f0:Bk uM (w1.heap.size) [.int .i64 3,.int .i64 0,.int .i64 0,.int .i64 0,.slice none 0 0,.int .i64 n1.k,.int .i64 n1.v,.slice n1.p n1.n n1.c,.int .i64 0,.slice ab Lb.length cb,.slice ae Le.length ce]:=Bk.below (Bk.at f0 10 (.slice ae Le.length ce)) hb
  replace o0:=Bk.below (Bk.nn o0 _) hb
  replace h1:=Bk.below (Bk.nn h1 _) hb
  clear hb
  rw [← s0]
  clear s0
  refine hK.out _ _ ⟨a0,b0,c0⟩ (fun hHeld=>?_)
  clear hK K
  try simp only [Ep]
  refine Dn ?_
  clear hHeld
  obtain ⟨mD,jJ⟩:=Bk.cf f0 10 rfl
  go_upto_region 18 with (fail)
  clear e0 a0 l0 b0 m0 c0 n0 o0 h1
  obtain ⟨nD,kJ,oD,lJ,pD,mJ,qD,nJ,rD,oJ,sD,pJ,tD,qJ,uD,rJ⟩:=Bk.f8 d0 0 1 2 3 4 5 6 7 rfl rfl rfl rfl rfl rfl rfl rfl
  obtain ⟨vD,sJ,wD,tJ,xD,uJ⟩:=Bk.f3 d0 8 9 10 rfl rfl rfl
  obtain ⟨yD,vJ,zD,wJ,aE,xJ,bE,yJ,cE,zJ,dE,aK,eE,bK,fE,cK⟩:=Bk.f8 f0 0 1 2 3 4 5 6 7 rfl rfl rfl rfl rfl rfl rfl rfl
  obtain ⟨gE,dK,hE,eK⟩:=Bk.f2 f0 8 9 rfl rfl
  have j1:=((((((((((((Chg.refl (fun q=>q=w.heap.size+1) uM).setCell (w.heap.size+1) 0 (.int .i64 3) (fun _=>rfl)).setCell (w.heap.size+1) 1 (.int .i64 0) (fun _=>rfl)).setCell (w.heap.size+1) 2 (.int .i64 0) (fun _=>rfl)).setCell (w.heap.size+1) 3 (.int .i64 0) (fun _=>rfl)).setCell (w.heap.size+1) 4 (.slice none 0 0) (fun _=>rfl)).setCell (w.heap.size+1) 5 (.int .i64 n1.k) (fun _=>rfl)).setCell (w.heap.size+1) 6 (.int .i64 n1.v) (fun _=>rfl)).setCell (w.heap.size+1) 7 (.slice n1.p n1.n n1.c) (fun _=>rfl)).setCell (w.heap.size+1) 8 (.int .i64 0) (fun _=>rfl)).setCell (w.heap.size+1) 9 (.slice ab Lb.length cb) (fun _=>rfl)).setCell (w.heap.size+1) 10 (.slice ae Le.length ce) (fun _=>rfl))
  have m1:=(Bk.at (Bk.at (Bk.at (Bk.at (Bk.at (Bk.at (Bk.at (Bk.at (Bk.at (Bk.at (Bk.at d0 0 (.int .i64 3)) 1 (.int .i64 0)) 2 (.int .i64 0)) 3 (.int .i64 0)) 4 (.slice none 0 0)) 5 (.int .i64 n1.k)) 6 (.int .i64 n1.v)) 7 (.slice n1.p n1.n n1.c)) 8 (.int .i64 0)) 9 (.slice ab Lb.length cb)) 10 (.slice ae Le.length ce))
  obtain ⟨s1,t1,u1,v1,x1,y1,z1,a2,b2,c2,x0⟩:=Bk.g11 m1
  have w0:=Lib.hid j1;clear j1 m1
  have k1:=Lib.hid (And.intro hC hR);clear hC hR
  have f1:=Lib.hid g0;clear g0
  have r2:=Lib.hid l1;clear l1
  have q8:=Lib.hid y3;clear y3
  go_wp2
  exact bodyPost_ret (v:=.agg #[.int .i64 3,.int .i64 0,.int .i64 0,.int .i64 0,.slice none 0 0,.int .i64 n1.k,.int .i64 n1.v,.slice n1.p n1.n n1.c,.int .i64 0,.slice ab Lb.length cb,.slice ae Le.length ce]) (by simp [results,Try.results164,go_sem,s1,t1,u1,v1,x1,y1,z1,a2,b2,c2,x0]) rfl (by exact ⟨⟨3,0,⟨0,0,none,0,0⟩,n1,0,ab,Lb.length,cb,ae,Le.length,ce⟩,.mk 3 0 (.mk 0 0 []) e1 0 Lb Le,_,rfl,⟨rfl,rfl,rfl,⟨_,ExAt.leaf (d:=0) 0 0⟩,⟨_,ExAt.keep w0.out (fun q (hq:w1.heap.size+1≤q∧q < w2.heap.size) _ (h:q=w.heap.size+1)=>by omega) (fun q (hq:w1.heap.size+1≤q∧q < w2.heap.size) _=>by show w.heap.size≤q;omega) (Nat.le_refl _) f1.out⟩,BlAt.keep2 w0.out (fun q (hq:w6.heap.size≤q∧q < w7.heap.size) _ (h:q=w.heap.size+1)=>by omega) (fun q (hq:w6.heap.size≤q∧q < w7.heap.size) _=>by show w.heap.size≤q;omega) (Nat.le_refl _) r2.out,BlAt.keep2 w0.out (fun q (hq:m8.heap.size≤q∧q < n8.heap.size) _ (h:q=w.heap.size+1)=>by omega) (fun q (hq:m8.heap.size≤q∧q < n8.heap.size) _=>by show w.heap.size≤q;omega) (Nat.le_refl _) q8.out⟩,⟨thin_leaf 0 0,i2,s2,s8,u2.out,v8.out⟩,k1.out.2.keep w0.out (fun h=>by omega) (fun k hk h=>by omega),by have:=m2.out;omega,chg_app k1.out.1 w0.out (fun q hq h=>by omega)⟩)
 ·skip
  by_cases hd0:d=0
  ·have g1:decide ((1:Int) < (d:Int)+1)=false:=by simp [hd0]
   have g3:decide (0 < d)=false:=by simp [hd0]
   have vM:=Lib.hid hd0;clear hd0
   have n2:True:=trivial
   obtain ⟨r5,q7⟩:=Bk.cf e0 0 rfl
   go_wp2_with fail
   refine (pick_any _ _ B g (p+1) (hR.below (bal (Bs _) (.cells #[.int .i64 1,.int .i64 0,.int .i64 0,.int .i64 0,.slice none 0 0,.int .i64 0,.int .i64 0,.slice none 0 0,.int .i64 0,.slice none 0 0,.slice none 0 0] 163))) (by omega) (by omega) (by omega)).mono ?_
   rintro e w2 ⟨tg,k8,l8,rfl,k0,hc⟩
   replace hC:=((hC.trans (Chg.of_below (bal (Bs _) _)))).trans hc
   replace hR:=k0;clear k0
   have m3:=hc.size
   simp only [Sa] at m3
   clear q7 r5
   replace e0:=Bk.kg (Bk.al e0 _) hc
   replace d0:=Bk.kg (Bk.al d0 _) hc
   have a1:Bk w2 (w1.heap.size) [.int .i64 1,.int .i64 0,.int .i64 0,.int .i64 0,.slice none 0 0,.int .i64 0,.int .i64 0,.slice none 0 0,.int .i64 0,.slice none 0 0,.slice none 0 0]:=Bk.kg (Bk.nw (by simp) rfl) hc
   clear hc
   replace j2:=Bk.lz e0
   replace o2:=Bk.lz d0
   have vA:=Bk.lz a1
   obtain ⟨s5,r7,t5,s7,u5,t7⟩:=Bk.f3 e0 0 1 2 rfl rfl rfl
   obtain ⟨v5,u7⟩:=Bk.cf a1 1 rfl
   go_wp2_with fail
   refine (l2Small_any pv pa nv cv na ca vb B g (p+1+1) _ (hR.kC (w1.heap.size) (1) (.int .i64 tg)) (by omega) hnv hnb).mono ?_
   rintro e w3 ⟨n1,e1,p1,rfl,g0,i2,k0,z3,hc⟩
   replace hC:=((hC.sN _ _ _)).trans hc
   replace hR:=k0;clear k0
   have n3:=hc.size
   simp only [Ss] at n3
   clear r7 s5 s7 t5 t7 u5 u7 v5
   replace e0:=Bk.kg (Bk.nn e0 _) hc
   replace d0:=Bk.kg (Bk.nn d0 _) hc
   replace a1:Bk w3 (w1.heap.size) [.int .i64 1,.int .i64 tg,.int .i64 0,.int .i64 0,.slice none 0 0,.int .i64 0,.int .i64 0,.slice none 0 0,.int .i64 0,.slice none 0 0,.slice none 0 0]:=Bk.kg (Bk.at a1 1 (.int .i64 tg)) hc
   clear hc
   clear e0
   try simp only [Sa,Ss] at g0
   replace g0:=ExAt.keep (S:=fun _=>False) (Chg.refl _ _) (fun _ _ _=>id) (fun q (hq:w2.heap.size≤q) hlt=>(show w2.heap.size≤q∧q < w3.heap.size from ⟨hq,hlt⟩)) (Nat.le_refl _) g0
   obtain ⟨x5,v7,y5,x7,z5,y7⟩:=Bk.f3 a1 5 6 7 rfl rfl rfl
   go_upto_region 18 with (fail)
   obtain ⟨w4,s0,hb⟩:=nmw (World.setCell (World.setCell (World.setCell w3 ⟨w1.heap.size,5,none⟩ (.int .i64 n1.k)) ⟨w1.heap.size,6,none⟩ (.int .i64 n1.v)) ⟨w1.heap.size,7,none⟩ (.slice n1.p n1.n n1.c))
   replace hC:=((((hC.sN _ _ _).sN _ _ _).sN _ _ _)).trans (Chg.of_below hb)
   replace hR:=(((hR.kC _ _ _).kC _ _ _).kC _ _ _).below hb
   replace g0:=((ExAt.kI (C1 _ _ _) (fun q _ _ h=>by omega) (ExAt.kI (C1 _ _ _) (fun q _ _ h=>by omega) (ExAt.kI (C1 _ _ _) (fun q _ _ h=>by omega) g0))).below hb)
   have o3:=hb.size
   simp only [Ss] at o3
   clear v7 x5 x7 y5 y7 z5
   replace d0:=Bk.below (Bk.nn (Bk.nn (Bk.nn d0 _) _) _) hb
   replace a1:Bk w4 (w1.heap.size) [.int .i64 1,.int .i64 tg,.int .i64 0,.int .i64 0,.slice none 0 0,.int .i64 n1.k,.int .i64 n1.v,.slice n1.p n1.n n1.c,.int .i64 0,.slice none 0 0,.slice none 0 0]:=Bk.below (Bk.at (Bk.at (Bk.at a1 5 (.int .i64 n1.k)) 6 (.int .i64 n1.v)) 7 (.slice n1.p n1.n n1.c)) hb
   clear hb
   rw [← s0]
   clear s0
   obtain ⟨iE,fK,jE,gK,kE,iK,lE,jK,mE,kK,nE,lK,oE,mK,pE,nK⟩:=Bk.f8 d0 0 1 2 3 4 5 6 7 rfl rfl rfl rfl rfl rfl rfl rfl
   obtain ⟨qE,oK,rE,pK,sE,qK⟩:=Bk.f3 d0 8 9 10 rfl rfl rfl
   obtain ⟨tE,rK,uE,sK,vE,tK,wE,uK,xE,vK,yE,wK,zE,xK,aF,yK⟩:=Bk.f8 a1 0 1 2 3 4 5 6 7 rfl rfl rfl rfl rfl rfl rfl rfl
   obtain ⟨bF,zK,cF,aL,dF,bL⟩:=Bk.f3 a1 8 9 10 rfl rfl rfl
   have j1:=((((((((((((Chg.refl (fun q=>q=w.heap.size+1) w4).setCell (w.heap.size+1) 0 (.int .i64 1) (fun _=>rfl)).setCell (w.heap.size+1) 1 (.int .i64 tg) (fun _=>rfl)).setCell (w.heap.size+1) 2 (.int .i64 0) (fun _=>rfl)).setCell (w.heap.size+1) 3 (.int .i64 0) (fun _=>rfl)).setCell (w.heap.size+1) 4 (.slice none 0 0) (fun _=>rfl)).setCell (w.heap.size+1) 5 (.int .i64 n1.k) (fun _=>rfl)).setCell (w.heap.size+1) 6 (.int .i64 n1.v) (fun _=>rfl)).setCell (w.heap.size+1) 7 (.slice n1.p n1.n n1.c) (fun _=>rfl)).setCell (w.heap.size+1) 8 (.int .i64 0) (fun _=>rfl)).setCell (w.heap.size+1) 9 (.slice none 0 0) (fun _=>rfl)).setCell (w.heap.size+1) 10 (.slice none 0 0) (fun _=>rfl))
   have m1:=(Bk.at (Bk.at (Bk.at (Bk.at (Bk.at (Bk.at (Bk.at (Bk.at (Bk.at (Bk.at (Bk.at d0 0 (.int .i64 1)) 1 (.int .i64 tg)) 2 (.int .i64 0)) 3 (.int .i64 0)) 4 (.slice none 0 0)) 5 (.int .i64 n1.k)) 6 (.int .i64 n1.v)) 7 (.slice n1.p n1.n n1.c)) 8 (.int .i64 0)) 9 (.slice none 0 0)) 10 (.slice none 0 0))
   obtain ⟨s1,t1,u1,v1,x1,y1,z1,a2,b2,c2,x0⟩:=Bk.g11 m1
   have w0:=Lib.hid j1;clear j1 m1
   have k1:=Lib.hid (And.intro hC hR);clear hC hR
   have f1:=Lib.hid g0;clear g0
   go_wp2
   exact bodyPost_ret (v:=.agg #[.int .i64 1,.int .i64 tg,.int .i64 0,.int .i64 0,.slice none 0 0,.int .i64 n1.k,.int .i64 n1.v,.slice n1.p n1.n n1.c,.int .i64 0,.slice none 0 0,.slice none 0 0]) (by simp [results,Try.results164,go_sem,s1,t1,u1,v1,x1,y1,z1,a2,b2,c2,x0]) rfl (by exact ⟨⟨1,tg,⟨0,0,none,0,0⟩,n1,0,none,0,0,none,0,0⟩,.mk 1 tg (.mk 0 0 []) e1 0 [] [],_,rfl,⟨rfl,rfl,rfl,⟨_,ExAt.leaf (d:=0) 0 0⟩,⟨_,ExAt.keep w0.out (fun q (hq:w2.heap.size≤q∧q < w3.heap.size) _ (h:q=w.heap.size+1)=>by omega) (fun q (hq:w2.heap.size≤q∧q < w3.heap.size) _=>by show w.heap.size≤q;omega) (Nat.le_refl _) f1.out⟩,RowOf.nil,RowOf.nil⟩,⟨thin_leaf 0 0,i2,by simp,by simp,(fun x hx=>by cases hx),(fun x hx=>by cases hx)⟩,k1.out.2.keep w0.out (fun h=>by omega) (fun k hk h=>by omega),by have:=m2.out;omega,chg_app k1.out.1 w0.out (fun q hq h=>by omega)⟩)
  have g1:(1:Int) < (d:Int)+1:=by omega
  have g3:0 < d:=by omega
  have o8:=Lib.hid (pA.out (by omega))
  go_wp2_with fail
  have t2:=num_any _ [2,1,3] _ B g (p+1) ((hR.below (bal (Bs _) (.cells #[.int .i64 4,.int .i64 0,.int .i64 0,.int .i64 0,.slice none 0 0,.int .i64 0,.int .i64 0,.slice none 0 0,.int .i64 0,.slice none 0 0,.slice none 0 0] 163))).below (bal (Bs _) (.cells #[.int .i64 2,.int .i64 1,.int .i64 3] 3))) (Ro (World.ownsRow_lit (base:=((World.alloc w1 (.cells #[.int .i64 4,.int .i64 0,.int .i64 0,.int .i64 0,.slice none 0 0,.int .i64 0,.int .i64 0,.slice none 0 0,.int .i64 0,.slice none 0 0,.slice none 0 0] 163))).heap.size) (e:=3) (size:=1) ((World.alloc w1 (.cells #[.int .i64 4,.int .i64 0,.int .i64 0,.int .i64 0,.slice none 0 0,.int .i64 0,.int .i64 0,.slice none 0 0,.int .i64 0,.slice none 0 0,.slice none 0 0] 163))) #[.int .i64 2,.int .i64 1,.int .i64 3] 3 (Nat.le_refl _) (by unfold maxLen;omega) (by simp)) (by simp)) (fun b o c hb=>by simp at hb;omega) (by simp) (by simp) (by omega)
  simp only [Sa] at t2
  refine (t2).mono ?_
  rintro e w2 ⟨ct,gP,rfl,k0,hc⟩
  clear t2
  replace hC:=(((hC.trans (Chg.of_below (bal (Bs _) _))).trans (Chg.of_below (bal (Bs _) _)))).trans hc
  replace hR:=k0;clear k0
  have p3:=hc.size
  simp only [Sa] at p3
  replace e0:=Bk.kg (Bk.al (Bk.al e0 _) _) hc
  replace d0:=Bk.kg (Bk.al (Bk.al d0 _) _) hc
  have p0:Bk w2 (w1.heap.size) [.int .i64 4,.int .i64 0,.int .i64 0,.int .i64 0,.slice none 0 0,.int .i64 0,.int .i64 0,.slice none 0 0,.int .i64 0,.slice none 0 0,.slice none 0 0]:=Bk.kg (Bk.al (Bk.nw (by simp) rfl) (.cells #[.int .i64 2,.int .i64 1,.int .i64 3] 3)) hc
  have a4:Bk w2 (w1.heap.size+1) [.int .i64 2,.int .i64 1,.int .i64 3]:=Bk.kg (Bk.nw (by simp) rfl) hc
  clear hc
  clear a4
  replace j2:=Bk.lz e0
  have k4:=Bk.lz p0
  obtain ⟨a6,z7⟩:=Bk.cf p0 8 rfl
  go_upto_region 17 with (fail)
  obtain ⟨w3,s0,hb⟩:=nmw (World.setCell w2 ⟨w1.heap.size,8,none⟩ (.int .i64 ct))
  replace hC:=((hC.sN _ _ _)).trans (Chg.of_below hb)
  replace hR:=(hR.kC _ _ _).below hb
  have q3:=hb.size
  simp only [Ss] at q3
  clear z7 a6
  replace e0:=Bk.below (Bk.nn e0 _) hb
  replace d0:=Bk.below (Bk.nn d0 _) hb
  replace p0:Bk w3 (w1.heap.size) [.int .i64 4,.int .i64 0,.int .i64 0,.int .i64 0,.slice none 0 0,.int .i64 0,.int .i64 0,.slice none 0 0,.int .i64 ct,.slice none 0 0,.slice none 0 0]:=Bk.below (Bk.at p0 8 (.int .i64 ct)) hb
  clear hb
  rw [← s0]
  clear s0
  obtain ⟨h0,t0,i0,u0,j0,v0⟩:=Bk.f3 e0 0 1 2 rfl rfl rfl
  refine wp_region_noPanic ?_
  refine wp_region_held_drew (S:=(fun W'=>W'.cell? ⟨w.heap.size,0,none⟩=some (.slice pv nv cv)∧W'.cell? ⟨w.heap.size,1,none⟩=some (.slice pa na ca)∧W'.cell? ⟨w.heap.size,2,none⟩=some (vb))) (by kernel_rfl) ⟨Kc (Below.drew (Bs w3)) h0,Kc (Below.drew (Bs w3)) i0,Kc (Below.drew (Bs w3)) j0⟩ (fun hHeld=>?_)
  obtain ⟨w4,l2⟩:∃ X,X=World.drew w3:=⟨_,rfl⟩
  rw [← l2] at hHeld ⊢
  have hb:Below w3.heap.size w3 w4:=by rw [l2];exact Below.drew (Bs _)
  clear l2
  replace hC:=(hC).trans (Chg.of_below hb)
  replace hR:=hR.below hb
  have e9:=hb.size
  replace t0:=Kf hb (Lc h0) t0
  replace u0:=Kf hb (Lc i0) u0
  replace v0:=Kf hb (Lc j0) v0
  replace h0:=Kc hb h0
  replace i0:=Kc hb i0
  replace j0:=Kc hb j0
  replace e0:=Bk.below e0 hb
  replace d0:=Bk.below d0 hb
  replace p0:=Bk.below p0 hb
  clear hb
  replace j2:=Bk.lz e0
  replace o2:=Bk.lz d0
  replace k4:=Bk.lz p0
  refine (tq 0 90 rfl rfl ?_ ?_ (tq 1 91 rfl rfl ?_ ?_ (tq 2 92 rfl rfl ?_ ?_ (tq 3 93 rfl rfl ?_ ?_ (tq 4 94 rfl rfl ?_ ?_ ?_)))))
  iterate 5 (rotate_left;intro W' hSw;(try dsimp only at hSw);go_simp;try with_reducible rfl)
  try simp only [Ep]
  refine Rdy 5 rfl (fun K hK=>?_)
  go_simp
  obtain ⟨w5,s0,hb⟩:=nmw (World.alloc w4 (.cells #[.int .i64 1,.int .i64 2,.int .i64 1] 3))
  replace hC:=((hC.trans (Chg.of_below (bal (Bs _) _)))).trans (Chg.of_below hb)
  replace hR:=(hR.below (bal (Bs _) _)).below hb
  have d1:=Ob (World.ownsRow_lit (base:=(w4).heap.size) (e:=3) (size:=1) (w4) #[.int .i64 1,.int .i64 2,.int .i64 1] 3 (Nat.le_refl _) (by unfold maxLen;omega) (by simp)) hb
  try simp only [Sa,Ss] at d1
  have r3:=hb.size
  simp only [Sa] at r3
  replace t0:=Kf hb (Lc (Ac h0 _)) (Fa (Lc h0) t0 _)
  replace u0:=Kf hb (Lc (Ac i0 _)) (Fa (Lc i0) u0 _)
  replace v0:=Kf hb (Lc (Ac j0 _)) (Fa (Lc j0) v0 _)
  replace h0:=Kc hb (Ac h0 _)
  replace i0:=Kc hb (Ac i0 _)
  replace j0:=Kc hb (Ac j0 _)
  replace e0:=Bk.below (Bk.al e0 _) hb
  replace d0:=Bk.below (Bk.al d0 _) hb
  replace p0:=Bk.below (Bk.al p0 _) hb
  have i1:Bk w5 (w4.heap.size) [.int .i64 1,.int .i64 2,.int .i64 1]:=Bk.below (Bk.nw (by simp) rfl) hb
  clear hb
  have e2:=d1.lt
  try simp only [Sa] at e2
  rw [← s0]
  clear s0
  have wA:=Bk.lz i1
  refine hK.out _ _ ⟨h0,i0,j0⟩ (fun hHeld=>?_)
  clear hK K
  try simp only [Ep]
  refine Rdy 6 rfl (fun K hK=>?_)
  go_simp
  refine (num_any _ [1,2,1] _ B g (p+1+1) hR (Ro d1 (by simp)) (fun b o c hb=>by simp at hb;omega) (by simp) (by simp) (by omega)).mono ?_
  rintro e w6 ⟨mb,h9,rfl,k0,hc⟩
  replace hC:=(hC).trans hc
  replace hR:=k0;clear k0
  have f9:=hc.size
  replace t0:=Gf hc (Lc h0) t0 (fun h=>by have:=y0 _ h;omega)
  replace u0:=Gf hc (Lc i0) u0 (fun h=>by have:=y0 _ h;omega)
  replace v0:=Gf hc (Lc j0) v0 (fun h=>by have:=y0 _ h;omega)
  replace h0:=Gg hc h0
  replace i0:=Gg hc i0
  replace j0:=Gg hc j0
  replace d1:=Ow d1 hc (fun gq h h2=>by have:=e2 gq h;have:=y0 gq h2;omega)
  replace e0:=Bk.kg e0 hc
  replace d0:=Bk.kg d0 hc
  replace p0:=Bk.kg p0 hc
  replace i1:=Bk.kg i1 hc
  clear hc
  obtain ⟨bb,rfl,hb4b⟩:∃ b:Nat,mb=b∧b≤2:=by simp only [List.mem_cons,List.not_mem_nil,or_false] at h9;exact ⟨mb.toNat,by omega,by omega⟩
  have t8:bb*scost d≤2*scost d:=Nat.mul_le_mul_right _ hb4b
  have u8:=x3.out
  refine hK.out _ _ ⟨h0,i0,j0⟩ (fun hHeld=>?_)
  clear hK K
  try simp only [Ep]
  refine Rdy 7 rfl (fun K hK=>?_)
  go_simp
  rw [p8.out]
  refine (o8.out bb (p+1+1+1) _ hb4b hR (by have:=x3.out;omega)).mono ?_
  rintro e w7 ⟨ab,cb,Lb,pb,rfl,l1,r8,b4,k0,bN,hc⟩
  replace hC:=(hC).trans hc
  replace hR:=k0;clear k0
  have g9:=hc.size
  replace t0:=Gf hc (Lc h0) t0 (fun h=>by have:=y0 _ h;omega)
  replace u0:=Gf hc (Lc i0) u0 (fun h=>by have:=y0 _ h;omega)
  replace v0:=Gf hc (Lc j0) v0 (fun h=>by have:=y0 _ h;omega)
  replace h0:=Gg hc h0
  replace i0:=Gg hc i0
  replace j0:=Gg hc j0
  replace d1:=Ow d1 hc (fun gq h h2=>by have:=e2 gq h;have:=y0 gq h2;omega)
  replace e0:=Bk.kg e0 hc
  replace d0:=Bk.kg d0 hc
  replace p0:=Bk.kg p0 hc
  replace i1:=Bk.kg i1 hc
  clear hc
  have u2:=Lib.hid b4;have s2:Lb.length≤2:=by omega
  clear r8 b4
  replace l1:=BlAt.keep2 (S:=fun _=>False) (Chg.refl _ _) (fun _ _ _=>id) (fun q (hq:w6.heap.size≤q) hlt=>(show w6.heap.size≤q∧q < w7.heap.size from ⟨hq,hlt⟩)) (Nat.le_refl _) l1
  refine hK.out _ _ ⟨h0,i0,j0⟩ (fun hHeld=>?_)
  clear hK K
  try simp only [Ep]
  refine (tq 8 98 rfl rfl ?_ ?_ ?_)
  (rotate_left;intro W' hSw;(try dsimp only at hSw);go_simp;try with_reducible rfl)
  try simp only [Ep]
  refine Rdy 9 rfl (fun K hK=>?_)
  obtain ⟨b6,a8⟩:=Bk.cf p0 9 rfl
  go_simp
  obtain ⟨w8,s0,hb⟩:=nmw (World.setCell w7 ⟨w1.heap.size,9,none⟩ (.slice ab Lb.length cb))
  replace hC:=((hC.sN _ _ _)).trans (Chg.of_below hb)
  replace hR:=(hR.kC _ _ _).below hb
  replace l1:=((BlAt.keep2 (C1 _ _ _) (fun q (hq:w6.heap.size≤q∧q < w7.heap.size) _ (h:q=(w1.heap.size))=>by omega) (fun _ h _=>h) (Nat.le_refl _) l1).below hb)
  have s3:=hb.size
  simp only [Ss] at s3
  clear a8 b6
  replace t0:=Kf hb (Lc (Nn h0 _)) (Fs t0 _)
  replace u0:=Kf hb (Lc (Nn i0 _)) (Fs u0 _)
  replace v0:=Kf hb (Lc (Nn j0 _)) (Fs v0 _)
  replace h0:=Kc hb (Nn h0 _)
  replace i0:=Kc hb (Nn i0 _)
  replace j0:=Kc hb (Nn j0 _)
  replace d1:=Ob (Oe d1 _ _ (fun h=>by have:=e2 _ h;omega) _) hb
  replace e0:=Bk.below (Bk.nn e0 _) hb
  replace d0:=Bk.below (Bk.nn d0 _) hb
  replace p0:Bk w8 (w1.heap.size) [.int .i64 4,.int .i64 0,.int .i64 0,.int .i64 0,.slice none 0 0,.int .i64 0,.int .i64 0,.slice none 0 0,.int .i64 ct,.slice ab Lb.length cb,.slice none 0 0]:=Bk.below (Bk.at p0 9 (.slice ab Lb.length cb)) hb
  replace i1:=Bk.below (Bk.nn i1 _) hb
  clear hb
  rw [← s0]
  clear s0
  refine hK.out _ _ ⟨h0,i0,j0⟩ (fun hHeld=>?_)
  clear hK K
  try simp only [Ep]
  refine Dn ?_
  clear hHeld
  obtain ⟨eF,cL⟩:=Bk.cf p0 9 rfl
  go_upto_region 18 with (fail)
  clear e0 h0 t0 i0 u0 j0 v0 i1
  obtain ⟨fF,dL,gF,eL,hF,fL,iF,gL,jF,hL,kF,iL,lF,jL,mF,kL⟩:=Bk.f8 d0 0 1 2 3 4 5 6 7 rfl rfl rfl rfl rfl rfl rfl rfl
  obtain ⟨nF,lL,oF,mL,pF,nL⟩:=Bk.f3 d0 8 9 10 rfl rfl rfl
  obtain ⟨qF,oL,rF,pL,sF,qL,tF,rL,uF,sL,vF,tL,wF,uL,xF,vL⟩:=Bk.f8 p0 0 1 2 3 4 5 6 7 rfl rfl rfl rfl rfl rfl rfl rfl
  obtain ⟨yF,wL,zF,xL⟩:=Bk.f2 p0 8 10 rfl rfl
  have j1:=((((((((((((Chg.refl (fun q=>q=w.heap.size+1) w8).setCell (w.heap.size+1) 0 (.int .i64 4) (fun _=>rfl)).setCell (w.heap.size+1) 1 (.int .i64 0) (fun _=>rfl)).setCell (w.heap.size+1) 2 (.int .i64 0) (fun _=>rfl)).setCell (w.heap.size+1) 3 (.int .i64 0) (fun _=>rfl)).setCell (w.heap.size+1) 4 (.slice none 0 0) (fun _=>rfl)).setCell (w.heap.size+1) 5 (.int .i64 0) (fun _=>rfl)).setCell (w.heap.size+1) 6 (.int .i64 0) (fun _=>rfl)).setCell (w.heap.size+1) 7 (.slice none 0 0) (fun _=>rfl)).setCell (w.heap.size+1) 8 (.int .i64 ct) (fun _=>rfl)).setCell (w.heap.size+1) 9 (.slice ab Lb.length cb) (fun _=>rfl)).setCell (w.heap.size+1) 10 (.slice none 0 0) (fun _=>rfl))
  have m1:=(Bk.at (Bk.at (Bk.at (Bk.at (Bk.at (Bk.at (Bk.at (Bk.at (Bk.at (Bk.at (Bk.at d0 0 (.int .i64 4)) 1 (.int .i64 0)) 2 (.int .i64 0)) 3 (.int .i64 0)) 4 (.slice none 0 0)) 5 (.int .i64 0)) 6 (.int .i64 0)) 7 (.slice none 0 0)) 8 (.int .i64 ct)) 9 (.slice ab Lb.length cb)) 10 (.slice none 0 0))
  obtain ⟨s1,t1,u1,v1,x1,y1,z1,a2,b2,c2,x0⟩:=Bk.g11 m1
  have w0:=Lib.hid j1;clear j1 m1
  have k1:=Lib.hid (And.intro hC hR);clear hC hR
  have r2:=Lib.hid l1;clear l1
  go_wp2
  exact bodyPost_ret (v:=.agg #[.int .i64 4,.int .i64 0,.int .i64 0,.int .i64 0,.slice none 0 0,.int .i64 0,.int .i64 0,.slice none 0 0,.int .i64 ct,.slice ab Lb.length cb,.slice none 0 0]) (by simp [results,Try.results164,go_sem,s1,t1,u1,v1,x1,y1,z1,a2,b2,c2,x0]) rfl (by exact ⟨⟨4,0,⟨0,0,none,0,0⟩,⟨0,0,none,0,0⟩,ct,ab,Lb.length,cb,none,0,0⟩,.mk 4 0 (.mk 0 0 []) (.mk 0 0 []) ct Lb [],_,rfl,⟨rfl,rfl,rfl,⟨_,ExAt.leaf (d:=0) 0 0⟩,⟨_,ExAt.leaf (d:=0) 0 0⟩,BlAt.keep2 w0.out (fun q (hq:w6.heap.size≤q∧q < w7.heap.size) _ (h:q=w.heap.size+1)=>by omega) (fun q (hq:w6.heap.size≤q∧q < w7.heap.size) _=>by show w.heap.size≤q;omega) (Nat.le_refl _) r2.out,RowOf.nil⟩,⟨thin_leaf 0 0,thin_leaf 0 0,s2,by simp,u2.out,(fun x hx=>by cases hx)⟩,k1.out.2.keep w0.out (fun h=>by omega) (fun k hk h=>by omega),by have:=m2.out;omega,chg_app k1.out.1 w0.out (fun q hq h=>by omega)⟩)
 skip
 have n2:True:=trivial
 obtain ⟨c6,b8⟩:=Bk.cf e0 0 rfl
 go_wp2_with fail
 refine (pick_any _ _ B g (p+1) (hR.below (bal (Bs _) (.cells #[.int .i64 5,.int .i64 0,.int .i64 0,.int .i64 0,.slice none 0 0,.int .i64 0,.int .i64 0,.slice none 0 0,.int .i64 0,.slice none 0 0,.slice none 0 0] 163))) (by omega) (by omega) (by omega)).mono ?_
 rintro e w2 ⟨tg,k8,l8,rfl,k0,hc⟩
 replace hC:=((hC.trans (Chg.of_below (bal (Bs _) _)))).trans hc
 replace hR:=k0;clear k0
 have t3:=hc.size
 simp only [Sa] at t3
 clear b8 c6
 replace e0:=Bk.kg (Bk.al e0 _) hc
 replace d0:=Bk.kg (Bk.al d0 _) hc
 have b1:Bk w2 (w1.heap.size) [.int .i64 5,.int .i64 0,.int .i64 0,.int .i64 0,.slice none 0 0,.int .i64 0,.int .i64 0,.slice none 0 0,.int .i64 0,.slice none 0 0,.slice none 0 0]:=Bk.kg (Bk.nw (by simp) rfl) hc
 clear hc
 replace j2:=Bk.lz e0
 replace o2:=Bk.lz d0
 have xA:=Bk.lz b1
 obtain ⟨d6,c8,e6,d8,f6,e8⟩:=Bk.f3 e0 0 1 2 rfl rfl rfl
 obtain ⟨g6,g8⟩:=Bk.cf b1 1 rfl
 go_wp2_with fail
 refine (l2Small_any pv pa nv cv na ca vb B g (p+1+1) _ (hR.kC (w1.heap.size) (1) (.int .i64 tg)) (by omega) hnv hnb).mono ?_
 rintro e w3 ⟨n1,e1,p1,rfl,g0,i2,k0,z3,hc⟩
 replace hC:=((hC.sN _ _ _)).trans hc
 replace hR:=k0;clear k0
 have u3:=hc.size
 simp only [Ss] at u3
 clear c8 d6 d8 e6 e8 f6 g8 g6
 replace e0:=Bk.kg (Bk.nn e0 _) hc
 replace d0:=Bk.kg (Bk.nn d0 _) hc
 replace b1:Bk w3 (w1.heap.size) [.int .i64 5,.int .i64 tg,.int .i64 0,.int .i64 0,.slice none 0 0,.int .i64 0,.int .i64 0,.slice none 0 0,.int .i64 0,.slice none 0 0,.slice none 0 0]:=Bk.kg (Bk.at b1 1 (.int .i64 tg)) hc
 clear hc
 clear e0
 try simp only [Sa,Ss] at g0
 replace g0:=ExAt.keep (S:=fun _=>False) (Chg.refl _ _) (fun _ _ _=>id) (fun q (hq:w2.heap.size≤q) hlt=>(show w2.heap.size≤q∧q < w3.heap.size from ⟨hq,hlt⟩)) (Nat.le_refl _) g0
 obtain ⟨h6,h8,i6,i8,j6,j8⟩:=Bk.f3 b1 5 6 7 rfl rfl rfl
 go_upto_region 18 with (fail)
 obtain ⟨w4,s0,hb⟩:=nmw (World.setCell (World.setCell (World.setCell w3 ⟨w1.heap.size,5,none⟩ (.int .i64 n1.k)) ⟨w1.heap.size,6,none⟩ (.int .i64 n1.v)) ⟨w1.heap.size,7,none⟩ (.slice n1.p n1.n n1.c))
 replace hC:=((((hC.sN _ _ _).sN _ _ _).sN _ _ _)).trans (Chg.of_below hb)
 replace hR:=(((hR.kC _ _ _).kC _ _ _).kC _ _ _).below hb
 replace g0:=((ExAt.kI (C1 _ _ _) (fun q _ _ h=>by omega) (ExAt.kI (C1 _ _ _) (fun q _ _ h=>by omega) (ExAt.kI (C1 _ _ _) (fun q _ _ h=>by omega) g0))).below hb)
 have v3:=hb.size
 simp only [Ss] at v3
 clear h8 h6 i8 i6 j8 j6
 replace d0:=Bk.below (Bk.nn (Bk.nn (Bk.nn d0 _) _) _) hb
 replace b1:Bk w4 (w1.heap.size) [.int .i64 5,.int .i64 tg,.int .i64 0,.int .i64 0,.slice none 0 0,.int .i64 n1.k,.int .i64 n1.v,.slice n1.p n1.n n1.c,.int .i64 0,.slice none 0 0,.slice none 0 0]:=Bk.below (Bk.at (Bk.at (Bk.at b1 5 (.int .i64 n1.k)) 6 (.int .i64 n1.v)) 7 (.slice n1.p n1.n n1.c)) hb
 clear hb
 rw [← s0]
 clear s0
 obtain ⟨aG,yL,bG,zL,cG,aM,dG,bM,eG,cM,fG,dM,gG,eM,hG,fM⟩:=Bk.f8 d0 0 1 2 3 4 5 6 7 rfl rfl rfl rfl rfl rfl rfl rfl
 obtain ⟨iG,gM,jG,hM,kG,iM⟩:=Bk.f3 d0 8 9 10 rfl rfl rfl
 obtain ⟨lG,jM,mG,kM,nG,lM,oG,mM,pG,nM,qG,oM,rG,pM,sG,qM⟩:=Bk.f8 b1 0 1 2 3 4 5 6 7 rfl rfl rfl rfl rfl rfl rfl rfl
 obtain ⟨tG,rM,uG,sM,vG,tM⟩:=Bk.f3 b1 8 9 10 rfl rfl rfl
 have j1:=((((((((((((Chg.refl (fun q=>q=w.heap.size+1) w4).setCell (w.heap.size+1) 0 (.int .i64 5) (fun _=>rfl)).setCell (w.heap.size+1) 1 (.int .i64 tg) (fun _=>rfl)).setCell (w.heap.size+1) 2 (.int .i64 0) (fun _=>rfl)).setCell (w.heap.size+1) 3 (.int .i64 0) (fun _=>rfl)).setCell (w.heap.size+1) 4 (.slice none 0 0) (fun _=>rfl)).setCell (w.heap.size+1) 5 (.int .i64 n1.k) (fun _=>rfl)).setCell (w.heap.size+1) 6 (.int .i64 n1.v) (fun _=>rfl)).setCell (w.heap.size+1) 7 (.slice n1.p n1.n n1.c) (fun _=>rfl)).setCell (w.heap.size+1) 8 (.int .i64 0) (fun _=>rfl)).setCell (w.heap.size+1) 9 (.slice none 0 0) (fun _=>rfl)).setCell (w.heap.size+1) 10 (.slice none 0 0) (fun _=>rfl))
 have m1:=(Bk.at (Bk.at (Bk.at (Bk.at (Bk.at (Bk.at (Bk.at (Bk.at (Bk.at (Bk.at (Bk.at d0 0 (.int .i64 5)) 1 (.int .i64 tg)) 2 (.int .i64 0)) 3 (.int .i64 0)) 4 (.slice none 0 0)) 5 (.int .i64 n1.k)) 6 (.int .i64 n1.v)) 7 (.slice n1.p n1.n n1.c)) 8 (.int .i64 0)) 9 (.slice none 0 0)) 10 (.slice none 0 0))
 obtain ⟨s1,t1,u1,v1,x1,y1,z1,a2,b2,c2,x0⟩:=Bk.g11 m1
 have w0:=Lib.hid j1;clear j1 m1
 have k1:=Lib.hid (And.intro hC hR);clear hC hR
 have f1:=Lib.hid g0;clear g0
 go_wp2
 exact bodyPost_ret (v:=.agg #[.int .i64 5,.int .i64 tg,.int .i64 0,.int .i64 0,.slice none 0 0,.int .i64 n1.k,.int .i64 n1.v,.slice n1.p n1.n n1.c,.int .i64 0,.slice none 0 0,.slice none 0 0]) (by simp [results,Try.results164,go_sem,s1,t1,u1,v1,x1,y1,z1,a2,b2,c2,x0]) rfl (by exact ⟨⟨5,tg,⟨0,0,none,0,0⟩,n1,0,none,0,0,none,0,0⟩,.mk 5 tg (.mk 0 0 []) e1 0 [] [],_,rfl,⟨rfl,rfl,rfl,⟨_,ExAt.leaf (d:=0) 0 0⟩,⟨_,ExAt.keep w0.out (fun q (hq:w2.heap.size≤q∧q < w3.heap.size) _ (h:q=w.heap.size+1)=>by omega) (fun q (hq:w2.heap.size≤q∧q < w3.heap.size) _=>by show w.heap.size≤q;omega) (Nat.le_refl _) f1.out⟩,RowOf.nil,RowOf.nil⟩,⟨thin_leaf 0 0,i2,by simp,by simp,(fun x hx=>by cases hx),(fun x hx=>by cases hx)⟩,k1.out.2.keep w0.out (fun h=>by omega) (fun k hk h=>by omega),by have:=m2.out;omega,chg_app k1.out.1 w0.out (fun q hq h=>by omega)⟩)
end Go.Proofs.Ytkjedgnepnbkpaa
