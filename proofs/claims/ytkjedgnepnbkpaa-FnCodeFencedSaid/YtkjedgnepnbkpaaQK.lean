/-
 Parts of the proofs of the laws FnCodeFenced,FnCountBranches.
-/
import Derived.Test.YtkjedgnepnbkpaaPU
set_option linter.all false
namespace Go.Proofs.Ytkjedgnepnbkpaa
open Go.RowKit
set_option maxHeartbeats 6400000 in
set_option maxRecDepth 100000 in
theorem l7Expr_any (base:Nat) (A:Nat→Prop) (hA:∀ q,A q→q < base):∀ (d D:Nat) (n:En) (e:Ex) (la fa:Option Addr) (lc fc k:Nat) (ap stmt reg:Int) (w:World),L7 w base la fa k lc fc→base≤w.heap.size→k+bnd3 d≤1000000→ExAt w A D n e→Thin d e →
  Calls Try.prog 171 #[.agg #[.slice la k lc,.slice fa k fc,.int .i64 ap],.int .i64 stmt,.agg #[.int .i64 n.k,.int .i64 n.v,.slice n.p n.n n.c],.int .i64 reg] w fun r w'=>∃ (la' fa':Option Addr) (lc' fc' k':Nat),r=.returned (.agg #[.slice la' k' lc',.slice fa' k' fc',.int .i64 ap])∧L7 w' base la' fa' k' lc' fc'∧(∀ q,L7B la' fa' q→L7B la fa q∨w.heap.size≤q)∧k≤k'∧k'≤k+bnd3 d∧Chg (fun q=>L7B la fa q) w w':=by
 intro d
 induction d with
 | zero=>intro D n e la fa lc fc k ap stmt reg w hL hb hk hx ht;cases ht
 | succ d IH =>
  intro D n e la fa lc fc k ap stmt reg w hL hb hk hx ht
  cases D with
  | zero=>cases hx
  | succ D =>
   have i1:Hid (bnd3 (d+1)=1+3*bnd3 d):=Lib.hid rfl
   obtain ⟨ek,ev,kids⟩:=e
   obtain ⟨nk,nv,np,nn,nc⟩:=n
   have hs:=hx.shape
   simp only [Ex.k,Ex.v,Ex.kids] at hs
   obtain ⟨rfl,rfl,rfl⟩:=hs
   have HX:=Lib.hid (fun W (hD:Chg (fun q=>L7B la fa q) w W) j (hj:j < kids.length)=>(ExAt.keep hD (fun q hq _ h=>by have:=hA q hq;have:=hL.lt q h;omega) (fun _ h _=>h) (Nat.le_refl _) hx).kidm j hj)
   obtain ⟨y3,h4⟩:=ht
   have HT:=Lib.hid h4;clear h4 hx
   have g6:k+1+3*bnd3 d≤1000000:=by have:=i1.out;omega
   clear hk
   have j4:=Lib.hid IH;clear IH
   have hl3':kids.length≤3:=y3;clear y3
   generalize bnd3 (d+1)=BD1 at *
   generalize bnd3 d=BD at *
   have q0:∀ q,L7B la fa q→(q < w.heap.size∨w.heap.size+3≤q)∧q < w.heap.size∧base≤q:=fun q h=>by have:=hL.lt q h;omega
   have f1:∀ q,L7B la fa q→L7B la fa q∨w.heap.size≤q:=fun q h=>Or.inl h
   have hD:Chg (fun q=>L7B la fa q) w w:=Chg.refl _ _
   have oL:=hL;clear hL
   go_enter Try.func171,Try.ntmps171
   go_upto_region 1 with (fail)
   obtain ⟨w1,n1,hb⟩:=nmw (World.alloc (World.alloc (World.alloc w (.cells #[.slice la k lc,.slice fa k fc,.int .i64 ap] 155)) (.cells #[.int .i64 nk,.int .i64 nv,.slice np kids.length nc] 161)) (.cells #[.slice none 0 0,.slice none 0 0,.int .i64 0] 155))
   have g0:=(((hD.trans (Chg.of_below (bal (Bs _) (.cells #[.slice la k lc,.slice fa k fc,.int .i64 ap] 155)))).trans (Chg.of_below (bal (Bs _) (.cells #[.int .i64 nk,.int .i64 nv,.slice np kids.length nc] 161)))).trans (Chg.of_below (bal (Bs _) (.cells #[.slice none 0 0,.slice none 0 0,.int .i64 0] 155)))).trans (Chg.of_below hb)
   have p1:=hb.size
   simp only [Sa] at p1
   replace oL:=(((oL.below (bal (Bs _) _)).below (bal (Bs _) _)).below (bal (Bs _) _)).below hb
   have v0:Bk w1 (w.heap.size) [.slice la k lc,.slice fa k fc,.int .i64 ap]:=Bk.below (Bk.al (Bk.al (Bk.nw (by simp) rfl) (.cells #[.int .i64 nk,.int .i64 nv,.slice np kids.length nc] 161)) (.cells #[.slice none 0 0,.slice none 0 0,.int .i64 0] 155)) hb
   have c1:w1.cell? ⟨w.heap.size+1,0,none⟩=some (.int .i64 nk):=Kc hb (Ac (Wc (by simp) (by rfl)) _)
   have j1:w1.cell? ⟨w.heap.size+1,1,none⟩=some (.int .i64 nv):=Kc hb (Ac (Wc (by simp) (by rfl)) _)
   have l1:w1.cell? ⟨w.heap.size+1,2,none⟩=some (.slice np kids.length nc):=Kc hb (Ac (Wc (by simp) (by rfl)) _)
   have t0:Bk w1 (w.heap.size+1+1) [.slice none 0 0,.slice none 0 0,.int .i64 0]:=Bk.below (Bk.nw (by simp) rfl) hb
   clear hb
   clear hD
   have hD:=g0;clear g0
   rw [← n1]
   clear n1
   have r4:=Bk.lz v0
   have s4:=Lc c1
   have t4:=Bk.lz t0
   by_cases hq1:(nk == 1)=true
   ·skip
    obtain ⟨v1,v2,x1,x2,y1,y2⟩:=Bk.f3 v0 0 1 2 rfl rfl rfl
    go_wp2_with fail
    refine (l7Add_any base _ _ _ _ k _ _ _ _ _ _ _ _ oL (by first | omega | (simp only [Sa,Ss];omega)) (by omega)).mono ?_
    rintro e w2 ⟨h0,f0,o0,n0,k1,rfl,m1,y0,rfl,hb⟩
    have g0:=chg_app hD hb (fun q hq h=>by rcases f1 q h with h1 | h1;exact h1;omega)
    have z3:=hb.size
    clear v2 v1 x2 x1 y2 y1
    replace c1:=Gc hb c1 (fun h=>by have:=q0 _ h;omega)
    replace j1:=Gc hb j1 (fun h=>by have:=q0 _ h;omega)
    replace l1:=Gc hb l1 (fun h=>by have:=q0 _ h;omega)
    replace v0:=Bk.keep v0 hb (fun h=>by have:=q0 _ h;omega)
    replace t0:=Bk.keep t0 hb (fun h=>by have:=q0 _ h;omega)
    clear hb
    clear hD
    have hD:=g0;clear g0
    try simp only [Sa,Ss] at y0
    clear oL
    have oL:=m1;clear m1
    have p0:∀ q,L7B h0 f0 q→L7B la fa q∨w.heap.size≤q:=fun q h=>by rcases y0 q h with h1 | h1;exact f1 q h1;exact Or.inr (by omega)
    have a0:∀ q,L7B h0 f0 q→(q < w.heap.size∨w.heap.size+3≤q)∧q < w2.heap.size∧base≤q:=fun q h=>by have h2:=oL.lt q h;rcases y0 q h with h1 | h1;(have:=q0 q h1;omega);omega
    clear y0 q0 f1
    obtain ⟨u4,n5,v4,o5,x4,p5⟩:=Bk.f3 t0 0 1 2 rfl rfl rfl
    have s0:=(Bk.at (Bk.at (Bk.at t0 0 (.slice h0 (k+1) o0)) 1 (.slice f0 (k+1) n0)) 2 (.int .i64 ap))
    obtain ⟨z0,a1,b1⟩:=Bk.g3 s0
    clear s0
    have w0:=Lib.hid (((hD.sN (w.heap.size+1+1) 0 (.slice h0 (k+1) o0)).sN (w.heap.size+1+1) 1 (.slice f0 (k+1) n0)).sN (w.heap.size+1+1) 2 (.int .i64 ap))
    have x0:=Lib.hid (((oL.keep (C1 (w.heap.size+1+1) 0 (.slice h0 (k+1) o0)) (fun gq h h2=>by have:=a0 gq h;omega)).keep (C1 (w.heap.size+1+1) 1 (.slice f0 (k+1) n0)) (fun gq h h2=>by have:=a0 gq h;omega)).keep (C1 (w.heap.size+1+1) 2 (.int .i64 ap)) (fun gq h h2=>by have:=a0 gq h;omega))
    clear hD oL
    go_wp2
    exact bodyPost_ret (v:=.agg #[.slice h0 (k+1) o0,.slice f0 (k+1) n0,.int .i64 ap]) (by simp [results,Try.results171,go_sem,z0,a1,b1]) rfl (by exact ⟨h0,f0,o0,n0,k+1,rfl,x0.out,p0,by omega,by have:=i1.out;omega,w0.out⟩)
   skip
   by_cases hq2:(nk == 2)=true
   ·skip
    obtain ⟨z1,z2,a2,a3,b2,b3⟩:=Bk.f3 v0 0 1 2 rfl rfl rfl
    go_wp2_with fail
    refine (l7Add_any base _ _ _ _ k _ _ _ _ _ _ _ _ oL (by first | omega | (simp only [Sa,Ss];omega)) (by omega)).mono ?_
    rintro e w2 ⟨h0,f0,o0,n0,k1,rfl,m1,y0,rfl,hb⟩
    have g0:=chg_app hD hb (fun q hq h=>by rcases f1 q h with h1 | h1;exact h1;omega)
    have a4:=hb.size
    clear z2 z1 a3 a2 b3 b2
    replace c1:=Gc hb c1 (fun h=>by have:=q0 _ h;omega)
    replace j1:=Gc hb j1 (fun h=>by have:=q0 _ h;omega)
    replace l1:=Gc hb l1 (fun h=>by have:=q0 _ h;omega)
    replace v0:=Bk.keep v0 hb (fun h=>by have:=q0 _ h;omega)
    replace t0:=Bk.keep t0 hb (fun h=>by have:=q0 _ h;omega)
    clear hb
    clear hD
    have hD:=g0;clear g0
    try simp only [Sa,Ss] at y0
    clear oL
    have oL:=m1;clear m1
    have p0:∀ q,L7B h0 f0 q→L7B la fa q∨w.heap.size≤q:=fun q h=>by rcases y0 q h with h1 | h1;exact f1 q h1;exact Or.inr (by omega)
    have a0:∀ q,L7B h0 f0 q→(q < w.heap.size∨w.heap.size+3≤q)∧q < w2.heap.size∧base≤q:=fun q h=>by have h2:=oL.lt q h;rcases y0 q h with h1 | h1;(have:=q0 q h1;omega);omega
    clear y0 q0 f1
    obtain ⟨y4,q5,z4,r5,a5,s5⟩:=Bk.f3 t0 0 1 2 rfl rfl rfl
    have s0:=(Bk.at (Bk.at (Bk.at t0 0 (.slice h0 (k+1) o0)) 1 (.slice f0 (k+1) n0)) 2 (.int .i64 ap))
    obtain ⟨z0,a1,b1⟩:=Bk.g3 s0
    clear s0
    have w0:=Lib.hid (((hD.sN (w.heap.size+1+1) 0 (.slice h0 (k+1) o0)).sN (w.heap.size+1+1) 1 (.slice f0 (k+1) n0)).sN (w.heap.size+1+1) 2 (.int .i64 ap))
    have x0:=Lib.hid (((oL.keep (C1 (w.heap.size+1+1) 0 (.slice h0 (k+1) o0)) (fun gq h h2=>by have:=a0 gq h;omega)).keep (C1 (w.heap.size+1+1) 1 (.slice f0 (k+1) n0)) (fun gq h h2=>by have:=a0 gq h;omega)).keep (C1 (w.heap.size+1+1) 2 (.int .i64 ap)) (fun gq h h2=>by have:=a0 gq h;omega))
    clear hD oL
    go_wp2
    exact bodyPost_ret (v:=.agg #[.slice h0 (k+1) o0,.slice f0 (k+1) n0,.int .i64 ap]) (by simp [results,Try.results171,go_sem,z0,a1,b1]) rfl (by exact ⟨h0,f0,o0,n0,k+1,rfl,x0.out,p0,by omega,by have:=i1.out;omega,w0.out⟩)
   skip
   go_upto_region 6 with (fail)
   replace r4:=Bk.lz v0
   replace s4:=Lc c1
   replace t4:=Bk.lz t0
   have u3:Hid (∃ (j:Nat) (h0 f0:Option Addr) (o0 n0 k1:Nat),j≤kids.length∧Value.int .i64 0=.int .i64 j∧Bk w1 (w.heap.size) [.slice h0 k1 o0,.slice f0 k1 n0,.int .i64 ap]∧Bk w1 (w.heap.size+1+1) [.slice none 0 0,.slice none 0 0,.int .i64 0]∧w1.cell? ⟨w.heap.size+1,0,none⟩=some (.int .i64 nk)∧w1.cell? ⟨w.heap.size+1,1,none⟩=some (.int .i64 nv)∧w1.cell? ⟨w.heap.size+1,2,none⟩=some (.slice np kids.length nc)∧L7 w1 base h0 f0 k1 o0 n0∧(∀ q,L7B h0 f0 q→L7B la fa q∨w.heap.size≤q)∧(∀ q,L7B h0 f0 q→(q < w.heap.size∨w.heap.size+3≤q)∧q < w1.heap.size∧base≤q)∧k≤k1∧k1≤k+j*BD∧Chg (fun q=>L7B la fa q) w w1∧w1.heap.size≤w1.heap.size):=Lib.hid ⟨0,la,fa,lc,fc,k,Nat.zero_le _,rfl,v0,t0,c1,j1,l1,oL,f1,fun q h=>by have:=q0 q h;omega,Nat.le_refl _,by omega,hD,Nat.le_refl _⟩
   have q4:w.heap.size+3≤w1.heap.size:=by omega
   clear hD q0 f1 oL v0 c1 j1 l1 t0
   go_wp2_with fail
   go_loopw [9] (fun i wr=>∃ (j:Nat) (h0 f0:Option Addr) (o0 n0 k1:Nat),j≤kids.length∧i=.int .i64 j∧Bk wr (w.heap.size) [.slice h0 k1 o0,.slice f0 k1 n0,.int .i64 ap]∧Bk wr (w.heap.size+1+1) [.slice none 0 0,.slice none 0 0,.int .i64 0]∧wr.cell? ⟨w.heap.size+1,0,none⟩=some (.int .i64 nk)∧wr.cell? ⟨w.heap.size+1,1,none⟩=some (.int .i64 nv)∧wr.cell? ⟨w.heap.size+1,2,none⟩=some (.slice np kids.length nc)∧L7 wr base h0 f0 k1 o0 n0∧(∀ q,L7B h0 f0 q→L7B la fa q∨w.heap.size≤q)∧(∀ q,L7B h0 f0 q→(q < w.heap.size∨w.heap.size+3≤q)∧q < wr.heap.size∧base≤q)∧k≤k1∧k1≤k+j*BD∧Chg (fun q=>L7B la fa q) w wr∧w1.heap.size≤wr.heap.size) (fun i _=>kids.length-(intOf i).toNat)
   case atStart=>exact u3.out
   case round =>
    obtain ⟨j,h0,f0,o0,n0,k1,hj,rfl,k0,l0,d0,d1,d2,oL,p0,a0,h6,o4,hD,q6⟩:=hrel
    clear u3
    have r1:=Bk.lz k0
    have s1:=Bk.lz l0
    have t1:=Lc d0
    by_cases hlt:j < kids.length
    ·have o6:(j:Int) < (kids.length:Int):=by omega
     obtain ⟨kb,ko,m,hp,v3,n6,hm,e0,e1,e2⟩:=HX.out wr hD j hlt
     have m6:=hA kb v3;clear v3
     have g4:=HT.out _ (List.getElem_mem hlt)
     have l4:=Lib.hid g4;clear g4
     generalize kids[j]=y at *
     have f6:j*BD≤2*BD:=Nat.mul_le_mul_right _ (by omega)
     have k4:=Lib.hid (show (j+1)*BD=j*BD+BD from Nat.succ_mul j BD)
     have i4:=Lib.hid (fun W (hW:Below wr.heap.size wr W) la fa lc fc k reg h1 h2 h3=>j4.out D m y la fa lc fc k ap stmt reg W h1 h2 h3 (hm.below hW) l4.out)
     have p4:k1+BD≤1000000:=by omega
     clear hm
     subst hp
     go_upto_region 9 with (fail)
     have u1:=Lc e0
     refine wp_region_noPanic ?_
     refine wp_region_held_drew (S:=(fun W'=>W'.cell? ⟨w.heap.size+1,2,none⟩=some (.slice (some ⟨kb,ko,none⟩) kids.length nc)∧W'.cell? ⟨kb,ko+j*3,none⟩=some (.int .i64 m.k)∧W'.cell? ⟨kb,ko+j*3+1,none⟩=some (.int .i64 m.v)∧W'.cell? ⟨kb,ko+j*3+2,none⟩=some (.slice m.p m.n m.c))) (by kernel_rfl) ⟨Kc (Below.drew (Bs wr)) d2,Kc (Below.drew (Bs wr)) e0,Kc (Below.drew (Bs wr)) e1,Kc (Below.drew (Bs wr)) e2⟩ (fun hHeld=>?_)
     obtain ⟨w2,q1⟩:∃ X,X=World.drew wr:=⟨_,rfl⟩
     rw [← q1] at hHeld ⊢
     have hb:Below wr.heap.size wr w2:=by rw [q1];exact Below.drew (Bs _)
     clear q1
     have x3:=btr (Bs wr) hb
     have g0:=hD.trans (Chg.of_below hb)
     have b4:=hb.size
     replace oL:=oL.below hb
     replace d0:=Kc hb d0
     replace d1:=Kc hb d1
     replace d2:=Kc hb d2
     replace e0:=Kc hb e0
     replace e1:=Kc hb e1
     replace e2:=Kc hb e2
     replace k0:=Bk.below k0 hb
     replace l0:=Bk.below l0 hb
     clear hb
     clear hD
     have hD:=g0;clear g0
     have m4:=x3;clear x3
     refine (tq 1 38 rfl rfl ?_ ?_ (tq 2 39 rfl rfl ?_ ?_ (tq 3 40 rfl rfl ?_ ?_ (tq 4 41 rfl rfl ?_ ?_ (tq 5 42 rfl rfl ?_ ?_ (tq 6 43 rfl rfl ?_ ?_ (tq 7 44 rfl rfl ?_ ?_ (tq 8 45 rfl rfl ?_ ?_ (tq 9 46 rfl rfl ?_ ?_ ?_)))))))))
     iterate 9 (rotate_left;intro W' hSw;(try dsimp only at hSw);go_simp;try with_reducible rfl)
     try simp only [Ep]
     refine Rdy 0 rfl (fun K hK=>?_)
     obtain ⟨c2,c3,f2,d3,g2,e3⟩:=Bk.f3 k0 0 1 2 rfl rfl rfl
     go_simp
     replace r1:=Bk.lz k0
     replace s1:=Bk.lz l0
     replace t1:=Lc d0
     replace u1:=Lc e0
     refine hK.out _ _ ⟨d2,e0,e1,e2⟩ (fun hHeld=>?_)
     clear hK K
     try simp only [Ep]
     refine Rdy 10 rfl (fun K hK=>?_)
     go_simp
     refine (i4.out _ m4 _ _ _ _ k1 _ oL (by omega) p4).mono ?_
     rintro e w3 ⟨c0,b0,j0,i0,k2,rfl,u0,m0,i6,j6,hb⟩
     have g0:=chg_app hD hb (fun q hq h=>by rcases p0 q h with h1 | h1;exact h1;omega)
     have c4:=hb.size
     clear c3 c2 d3 f2 e3 g2
     replace d0:=Gc hb d0 (fun h=>by have:=a0 _ h;omega)
     replace d1:=Gc hb d1 (fun h=>by have:=a0 _ h;omega)
     replace d2:=Gc hb d2 (fun h=>by have:=a0 _ h;omega)
     replace e0:=Gc hb e0 (fun h=>by have:=a0 _ h;omega)
     replace e1:=Gc hb e1 (fun h=>by have:=a0 _ h;omega)
     replace e2:=Gc hb e2 (fun h=>by have:=a0 _ h;omega)
     replace k0:=Bk.keep k0 hb (fun h=>by have:=a0 _ h;omega)
     replace l0:=Bk.keep l0 hb (fun h=>by have:=a0 _ h;omega)
     clear hb
     clear hD
     have hD:=g0;clear g0
     try simp only [Sa,Ss] at m0
     clear oL
     have oL:=u0;clear u0
     have g1:∀ q,L7B c0 b0 q→L7B la fa q∨w.heap.size≤q:=fun q h=>by rcases m0 q h with h1 | h1;exact p0 q h1;exact Or.inr (by omega)
     have r0:∀ q,L7B c0 b0 q→(q < w.heap.size∨w.heap.size+3≤q)∧q < w3.heap.size∧base≤q:=fun q h=>by have h2:=oL.lt q h;rcases m0 q h with h1 | h1;(have:=a0 q h1;omega);omega
     clear m0 a0 p0
     refine hK.out _ _ ⟨d2,e0,e1,e2⟩ (fun hHeld=>?_)
     clear hK K
     try simp only [Ep]
     refine Rdy 11 rfl (fun K hK=>?_)
     obtain ⟨i2,i3,j2,j3,l2,k3⟩:=Bk.f3 k0 0 1 2 rfl rfl rfl
     go_simp
     obtain ⟨w4,n1,hb⟩:=nmw (World.setCell (World.setCell (World.setCell w3 ⟨w.heap.size,0,none⟩ (.slice c0 k2 j0)) ⟨w.heap.size,1,none⟩ (.slice b0 k2 i0)) ⟨w.heap.size,2,none⟩ (.int .i64 ap))
     have g0:=(((hD.sN (w.heap.size) 0 (.slice c0 k2 j0)).sN (w.heap.size) 1 (.slice b0 k2 i0)).sN (w.heap.size) 2 (.int .i64 ap)).trans (Chg.of_below hb)
     have o1:=hb.size
     simp only [Ss] at o1
     clear i3 i2 j3 j2 k3 l2
     replace oL:=(((oL.keep (C1 _ _ _) (fun gq h h2=>by have:=r0 gq h;omega)).keep (C1 _ _ _) (fun gq h h2=>by have:=r0 gq h;omega)).keep (C1 _ _ _) (fun gq h h2=>by have:=r0 gq h;omega)).below hb
     replace d0:=Kc hb (Nn (Nn (Nn d0 _) _) _)
     replace d1:=Kc hb (Nn (Nn (Nn d1 _) _) _)
     replace d2:=Kc hb (Nn (Nn (Nn d2 _) _) _)
     replace e0:=Kc hb (Nn (Nn (Nn e0 _) _) _)
     replace e1:=Kc hb (Nn (Nn (Nn e1 _) _) _)
     replace e2:=Kc hb (Nn (Nn (Nn e2 _) _) _)
     replace k0:Bk w4 (w.heap.size) [.slice c0 k2 j0,.slice b0 k2 i0,.int .i64 ap]:=Bk.below (Bk.at (Bk.at (Bk.at k0 0 (.slice c0 k2 j0)) 1 (.slice b0 k2 i0)) 2 (.int .i64 ap)) hb
     replace l0:=Bk.below (Bk.nn (Bk.nn (Bk.nn l0 _) _) _) hb
     clear hb
     clear hD
     have hD:=g0;clear g0
     rw [← n1]
     clear n1
     refine hK.out _ _ ⟨d2,e0,e1,e2⟩ (fun hHeld=>?_)
     clear hK K
     try simp only [Ep]
     refine Dn ?_
     clear hHeld
     have HH:=Lib.hid (And.intro oL hD);clear oL hD
     obtain ⟨b5,t5,c5,u5,d5,v5⟩:=Bk.f3 k0 0 1 2 rfl rfl rfl
     go_wp2
     go_roundw
     case rel=>exact ⟨j+1,c0,b0,j0,i0,k2,by omega,by go_num,k0,l0,d0,d1,d2,HH.out.1,g1,fun q h=>by have:=r0 q h;omega,by omega,by have:=k4.out;omega,HH.out.2,by omega⟩
     case measure=>simp [intOf];omega
    have n4:j=kids.length:=by omega
    have k6:k1≤k+3*BD:=by have:j*BD≤3*BD:=Nat.mul_le_mul_right _ (by omega);omega
    have l6:k1≤1000000:=by omega
    have p6:¬(j:Int) < (kids.length:Int):=by omega
    clear o4 n4
    by_cases hq3:(nk == 3)=true
    ·skip
     obtain ⟨m2,l3,n2,m3,o2,n3⟩:=Bk.f3 k0 0 1 2 rfl rfl rfl
     go_wp2_with fail
     refine (l7Add_any base _ _ _ _ k1 _ _ _ _ _ _ _ _ oL (by first | omega | (simp only [Sa,Ss];omega)) (by omega)).mono ?_
     rintro e w2 ⟨c0,b0,j0,i0,k2,rfl,u0,m0,rfl,hb⟩
     have g0:=chg_app hD hb (fun q hq h=>by rcases p0 q h with h1 | h1;exact h1;omega)
     have d4:=hb.size
     clear l3 m2 m3 n2 n3 o2
     replace d0:=Gc hb d0 (fun h=>by have:=a0 _ h;omega)
     replace d1:=Gc hb d1 (fun h=>by have:=a0 _ h;omega)
     replace d2:=Gc hb d2 (fun h=>by have:=a0 _ h;omega)
     replace k0:=Bk.keep k0 hb (fun h=>by have:=a0 _ h;omega)
     replace l0:=Bk.keep l0 hb (fun h=>by have:=a0 _ h;omega)
     clear hb
     clear hD
     have hD:=g0;clear g0
     try simp only [Sa,Ss] at m0
     clear oL
     have oL:=u0;clear u0
     have g1:∀ q,L7B c0 b0 q→L7B la fa q∨w.heap.size≤q:=fun q h=>by rcases m0 q h with h1 | h1;exact p0 q h1;exact Or.inr (by omega)
     have r0:∀ q,L7B c0 b0 q→(q < w.heap.size∨w.heap.size+3≤q)∧q < w2.heap.size∧base≤q:=fun q h=>by have h2:=oL.lt q h;rcases m0 q h with h1 | h1;(have:=a0 q h1;omega);omega
     clear m0 a0 p0
     obtain ⟨e5,w5,f5,x5,g5,y5⟩:=Bk.f3 l0 0 1 2 rfl rfl rfl
     have s0:=(Bk.at (Bk.at (Bk.at l0 0 (.slice c0 (k1+1) j0)) 1 (.slice b0 (k1+1) i0)) 2 (.int .i64 ap))
     obtain ⟨z0,a1,b1⟩:=Bk.g3 s0
     clear s0
     have w0:=Lib.hid (((hD.sN (w.heap.size+1+1) 0 (.slice c0 (k1+1) j0)).sN (w.heap.size+1+1) 1 (.slice b0 (k1+1) i0)).sN (w.heap.size+1+1) 2 (.int .i64 ap))
     have x0:=Lib.hid (((oL.keep (C1 (w.heap.size+1+1) 0 (.slice c0 (k1+1) j0)) (fun gq h h2=>by have:=r0 gq h;omega)).keep (C1 (w.heap.size+1+1) 1 (.slice b0 (k1+1) i0)) (fun gq h h2=>by have:=r0 gq h;omega)).keep (C1 (w.heap.size+1+1) 2 (.int .i64 ap)) (fun gq h h2=>by have:=r0 gq h;omega))
     clear hD oL
     go_wp2
     exact bodyPost_ret (v:=.agg #[.slice c0 (k1+1) j0,.slice b0 (k1+1) i0,.int .i64 ap]) (by simp [results,Try.results171,go_sem,z0,a1,b1]) rfl (by exact ⟨c0,b0,j0,i0,k1+1,rfl,x0.out,g1,by omega,by have:=i1.out;omega,w0.out⟩)
    skip
    by_cases hq11:(nk == 11)=true
    ·skip
     obtain ⟨p2,o3,q2,p3,r2,q3⟩:=Bk.f3 k0 0 1 2 rfl rfl rfl
     go_wp2_with fail
     refine (l7Add_any base _ _ _ _ k1 _ _ _ _ _ _ _ _ oL (by first | omega | (simp only [Sa,Ss];omega)) (by omega)).mono ?_
     rintro e w2 ⟨c0,b0,j0,i0,k2,rfl,u0,m0,rfl,hb⟩
     have g0:=chg_app hD hb (fun q hq h=>by rcases p0 q h with h1 | h1;exact h1;omega)
     have e4:=hb.size
     clear o3 p2 p3 q2 q3 r2
     replace d0:=Gc hb d0 (fun h=>by have:=a0 _ h;omega)
     replace d1:=Gc hb d1 (fun h=>by have:=a0 _ h;omega)
     replace d2:=Gc hb d2 (fun h=>by have:=a0 _ h;omega)
     replace k0:=Bk.keep k0 hb (fun h=>by have:=a0 _ h;omega)
     replace l0:=Bk.keep l0 hb (fun h=>by have:=a0 _ h;omega)
     clear hb
     clear hD
     have hD:=g0;clear g0
     try simp only [Sa,Ss] at m0
     clear oL
     have oL:=u0;clear u0
     have g1:∀ q,L7B c0 b0 q→L7B la fa q∨w.heap.size≤q:=fun q h=>by rcases m0 q h with h1 | h1;exact p0 q h1;exact Or.inr (by omega)
     have r0:∀ q,L7B c0 b0 q→(q < w.heap.size∨w.heap.size+3≤q)∧q < w2.heap.size∧base≤q:=fun q h=>by have h2:=oL.lt q h;rcases m0 q h with h1 | h1;(have:=a0 q h1;omega);omega
     clear m0 a0 p0
     obtain ⟨h5,z5,i5,a6,j5,b6⟩:=Bk.f3 l0 0 1 2 rfl rfl rfl
     have s0:=(Bk.at (Bk.at (Bk.at l0 0 (.slice c0 (k1+1) j0)) 1 (.slice b0 (k1+1) i0)) 2 (.int .i64 ap))
     obtain ⟨z0,a1,b1⟩:=Bk.g3 s0
     clear s0
     have w0:=Lib.hid (((hD.sN (w.heap.size+1+1) 0 (.slice c0 (k1+1) j0)).sN (w.heap.size+1+1) 1 (.slice b0 (k1+1) i0)).sN (w.heap.size+1+1) 2 (.int .i64 ap))
     have x0:=Lib.hid (((oL.keep (C1 (w.heap.size+1+1) 0 (.slice c0 (k1+1) j0)) (fun gq h h2=>by have:=r0 gq h;omega)).keep (C1 (w.heap.size+1+1) 1 (.slice b0 (k1+1) i0)) (fun gq h h2=>by have:=r0 gq h;omega)).keep (C1 (w.heap.size+1+1) 2 (.int .i64 ap)) (fun gq h h2=>by have:=r0 gq h;omega))
     clear hD oL
     go_wp2
     exact bodyPost_ret (v:=.agg #[.slice c0 (k1+1) j0,.slice b0 (k1+1) i0,.int .i64 ap]) (by simp [results,Try.results171,go_sem,z0,a1,b1]) rfl (by exact ⟨c0,b0,j0,i0,k1+1,rfl,x0.out,g1,by omega,by have:=i1.out;omega,w0.out⟩)
    skip
    obtain ⟨s2,r3,t2,s3,u2,t3⟩:=Bk.f3 k0 0 1 2 rfl rfl rfl
    go_wp2_with fail
    refine (l7Add_any base _ _ _ _ k1 _ _ _ _ _ _ _ _ oL (by first | omega | (simp only [Sa,Ss];omega)) (by omega)).mono ?_
    rintro e w2 ⟨c0,b0,j0,i0,k2,rfl,u0,m0,rfl,hb⟩
    have g0:=chg_app hD hb (fun q hq h=>by rcases p0 q h with h1 | h1;exact h1;omega)
    have f4:=hb.size
    clear r3 s2 s3 t2 t3 u2
    replace d0:=Gc hb d0 (fun h=>by have:=a0 _ h;omega)
    replace d1:=Gc hb d1 (fun h=>by have:=a0 _ h;omega)
    replace d2:=Gc hb d2 (fun h=>by have:=a0 _ h;omega)
    replace k0:=Bk.keep k0 hb (fun h=>by have:=a0 _ h;omega)
    replace l0:=Bk.keep l0 hb (fun h=>by have:=a0 _ h;omega)
    clear hb
    clear hD
    have hD:=g0;clear g0
    try simp only [Sa,Ss] at m0
    clear oL
    have oL:=u0;clear u0
    have g1:∀ q,L7B c0 b0 q→L7B la fa q∨w.heap.size≤q:=fun q h=>by rcases m0 q h with h1 | h1;exact p0 q h1;exact Or.inr (by omega)
    have r0:∀ q,L7B c0 b0 q→(q < w.heap.size∨w.heap.size+3≤q)∧q < w2.heap.size∧base≤q:=fun q h=>by have h2:=oL.lt q h;rcases m0 q h with h1 | h1;(have:=a0 q h1;omega);omega
    clear m0 a0 p0
    obtain ⟨k5,c6,l5,d6,m5,e6⟩:=Bk.f3 l0 0 1 2 rfl rfl rfl
    have s0:=(Bk.at (Bk.at (Bk.at l0 0 (.slice c0 (k1+1) j0)) 1 (.slice b0 (k1+1) i0)) 2 (.int .i64 ap))
    obtain ⟨z0,a1,b1⟩:=Bk.g3 s0
    clear s0
    have w0:=Lib.hid (((hD.sN (w.heap.size+1+1) 0 (.slice c0 (k1+1) j0)).sN (w.heap.size+1+1) 1 (.slice b0 (k1+1) i0)).sN (w.heap.size+1+1) 2 (.int .i64 ap))
    have x0:=Lib.hid (((oL.keep (C1 (w.heap.size+1+1) 0 (.slice c0 (k1+1) j0)) (fun gq h h2=>by have:=r0 gq h;omega)).keep (C1 (w.heap.size+1+1) 1 (.slice b0 (k1+1) i0)) (fun gq h h2=>by have:=r0 gq h;omega)).keep (C1 (w.heap.size+1+1) 2 (.int .i64 ap)) (fun gq h h2=>by have:=r0 gq h;omega))
    clear hD oL
    go_wp2
    exact bodyPost_ret (v:=.agg #[.slice c0 (k1+1) j0,.slice b0 (k1+1) i0,.int .i64 ap]) (by simp [results,Try.results171,go_sem,z0,a1,b1]) rfl (by exact ⟨c0,b0,j0,i0,k1+1,rfl,x0.out,g1,by omega,by have:=i1.out;omega,w0.out⟩)
end Go.Proofs.Ytkjedgnepnbkpaa
