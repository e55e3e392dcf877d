/-
  Parts of the proofs of the laws FnCodeFenced,FnCountBranches.
-/
import Derived.Test.YtkjedgnepnbkpaaQC
import Derived.Test.YtkjedgnepnbkpaaQK
set_option linter.all false
namespace Go.Proofs.Ytkjedgnepnbkpaa
open Go.RowKit
set_option maxHeartbeats 6400000 in
set_option maxRecDepth 100000 in
theorem l7Stmt_of (base : Nat) (A : Nat → Prop) (hA : ∀ q, A q → q < base) (d : Nat) (Hb : ∀ (D : Nat) (a : Option Addr) (c : Nat) (L : List St) (la fa : Option Addr) (lc fc k : Nat) (ap dep : Int) (w : World), L7 w base la fa k lc fc → base ≤ w.heap.size → k + L.length * sbd d ≤ 1000000 → BlAt w A D (.slice a L.length c) L → (∀ x ∈ L, SmS d x) →
      Calls Try.prog 162 #[.agg #[.slice la k lc,.slice fa k fc,.int .i64 ap],.slice a L.length c,.int .i64 dep] w fun r w'=>∃ (la' fa':Option Addr) (lc' fc' k':Nat) (ap':Int),r=.returned (.agg #[.slice la' k' lc',.slice fa' k' fc',.int .i64 ap'])∧L7 w' base la' fa' k' lc' fc'∧(∀ q,L7B la' fa' q→L7B la fa q∨w.heap.size≤q)∧k≤k'∧k'≤k+L.length*sbd d∧Chg (fun q=>L7B la fa q) w w')
    (D:Nat) (n:Sn) (s:St) (la fa:Option Addr) (lc fc k:Nat) (ap dep:Int) (w:World) (hL:L7 w base la fa k lc fc) (hb:base≤w.heap.size) (hk:k+sbd (d+1)≤1000000) (hx:StAt w A D n s) (hs:SmS (d+1) s) :
    Calls Try.prog 167 #[.agg #[.slice la k lc,.slice fa k fc,.int .i64 ap],.agg #[.int .i64 n.k,.int .i64 n.t,.int .i64 n.ix.k,.int .i64 n.ix.v,.slice n.ix.p n.ix.n n.ix.c,.int .i64 n.val.k,.int .i64 n.val.v,.slice n.val.p n.val.n n.val.c,.int .i64 n.c,.slice n.bp n.bn n.bc,.slice n.ep n.en n.ec],.int .i64 dep] w fun r w'=>∃ (la' fa':Option Addr) (lc' fc' k':Nat) (ap':Int),r=.returned (.agg #[.slice la' k' lc',.slice fa' k' fc',.int .i64 ap'])∧L7 w' base la' fa' k' lc' fc'∧(∀ q,L7B la' fa' q→L7B la fa q∨w.heap.size≤q)∧k≤k'∧k'≤k+sbd (d+1)∧Chg (fun q=>L7B la fa q) w w':=by
  cases D with
  | zero=>cases hx
  | succ D =>
    have p2:Hid (sbd (d+1)=250+4*sbd d):=Lib.hid rfl
    obtain ⟨k0,t0,ix,val,c0,z0,i2⟩:=s
    obtain ⟨cB,dB,pC,qC,gB,hB⟩:=hs
    obtain ⟨h1,h2,h3,⟨D1,h4⟩,⟨D2,h5⟩,h6,h7⟩:=hx
    have i1:∀ q,A q→q < w.heap.size→¬L7B la fa q:=fun q hq _ h=>by have:=hA q hq;have:=hL.lt q h;omega
    have jC:=Lib.hid (fun W (hD:Chg (fun q=>L7B la fa q) w W) la fa lc fc k ap stmt reg g1 g2 g3=>l7Expr_any base A hA 5 D1 n.ix ix la fa lc fc k ap stmt reg W g1 g2 g3 (ExAt.keep hD i1 (fun _ h _=>h) (Nat.le_refl _) h4) cB)
    have kC:=Lib.hid (fun W (hD:Chg (fun q=>L7B la fa q) w W) la fa lc fc k ap stmt reg g1 g2 g3=>l7Expr_any base A hA 5 D2 n.val val la fa lc fc k ap stmt reg W g1 g2 g3 (ExAt.keep hD i1 (fun _ h _=>h) (Nat.le_refl _) h5) dB)
    have z7:=Lib.hid (fun W (hD:Chg (fun q=>L7B la fa q) w W) a c (hv:Value.slice n.bp n.bn n.bc=.slice a z0.length c) la fa lc fc k ap dep g1 g2 g3=>Hb D a c z0 la fa lc fc k ap dep W g1 g2 g3 (by rw [← hv];exact BlAt.keep2 hD i1 (fun _ h _=>h) (Nat.le_refl _) h6) gB)
    have iC:=Lib.hid (fun W (hD:Chg (fun q=>L7B la fa q) w W) a c (hv:Value.slice n.ep n.en n.ec=.slice a i2.length c) la fa lc fc k ap dep g1 g2 g3=>Hb D a c i2 la fa lc fc k ap dep W g1 g2 g3 (by rw [← hv];exact BlAt.keep2 hD i1 (fun _ h _=>h) (Nat.le_refl _) h7) hB)
    obtain ⟨_,_,s6⟩:=h6.shape;obtain ⟨_,_,s7⟩:=h7.shape
    clear h4 h5 h6 h7 cB dB gB hB i1 Hb
    obtain ⟨nk,nt,tC,j8,nc,bp,bn,bc,ep,en,ec⟩:=n
    obtain ⟨ik,iv,ip,im,ic⟩:=tC
    obtain ⟨jk,jv,jp,jm,jc⟩:=j8
    simp only [Value.slice.injEq] at *
    obtain ⟨rfl,rfl,rfl⟩:=s6;obtain ⟨rfl,rfl,rfl⟩:=s7
    subst h1 h2 h3
    have rD:bnd3 5=121:=rfl
    have sD:k+250+4*sbd d≤1000000:=by have:=p2.out;omega
    have tD:z0.length*sbd d≤2*sbd d:=Nat.mul_le_mul_right _ pC
    have uD:i2.length*sbd d≤2*sbd d:=Nat.mul_le_mul_right _ qC
    clear hk
    generalize sbd (d+1)=SB1 at *
    generalize sbd d=SB at *
    have r1:∀ q,L7B la fa q→(q < w.heap.size∨w.heap.size+3≤q)∧q < w.heap.size∧base≤q:=fun q h=>by have:=hL.lt q h;omega
    have b3:∀ q,L7B la fa q→L7B la fa q∨w.heap.size≤q:=fun q h=>Or.inl h
    have hD:Chg (fun q=>L7B la fa q) w w:=Chg.refl _ _
    have oL:=hL;clear hL
    go_enter Try.func167,Try.ntmps167
    go_upto_region 1 with (fail)
    obtain ⟨w1,d1,hb⟩:=nmw (World.alloc (World.alloc (World.alloc w (.cells #[.slice la k lc,.slice fa k fc,.int .i64 ap] 155)) (.cells #[.int .i64 nk,.int .i64 nt,.int .i64 ik,.int .i64 iv,.slice ip im ic,.int .i64 jk,.int .i64 jv,.slice jp jm jc,.int .i64 nc,.slice bp z0.length bc,.slice ep i2.length ec] 163)) (.cells #[.slice none 0 0,.slice none 0 0,.int .i64 0] 155))
    have d0:=(((hD.trans (Chg.of_below (bal (Bs _) (.cells #[.slice la k lc,.slice fa k fc,.int .i64 ap] 155)))).trans (Chg.of_below (bal (Bs _) (.cells #[.int .i64 nk,.int .i64 nt,.int .i64 ik,.int .i64 iv,.slice ip im ic,.int .i64 jk,.int .i64 jv,.slice jp jm jc,.int .i64 nc,.slice bp z0.length bc,.slice ep i2.length ec] 163)))).trans (Chg.of_below (bal (Bs _) (.cells #[.slice none 0 0,.slice none 0 0,.int .i64 0] 155)))).trans (Chg.of_below hb)
    have f8:=hb.size
    simp only [Sa] at f8
    replace oL:=(((oL.below (bal (Bs _) _)).below (bal (Bs _) _)).below (bal (Bs _) _)).below hb
    have a0:Bk w1 (w.heap.size) [.slice la k lc,.slice fa k fc,.int .i64 ap]:=Bk.below (Bk.al (Bk.al (Bk.nw (by simp) rfl) (.cells #[.int .i64 nk,.int .i64 nt,.int .i64 ik,.int .i64 iv,.slice ip im ic,.int .i64 jk,.int .i64 jv,.slice jp jm jc,.int .i64 nc,.slice bp z0.length bc,.slice ep i2.length ec] 163)) (.cells #[.slice none 0 0,.slice none 0 0,.int .i64 0] 155)) hb
    have e0:Bk w1 (w.heap.size+1) [.int .i64 nk,.int .i64 nt,.int .i64 ik,.int .i64 iv,.slice ip im ic,.int .i64 jk,.int .i64 jv,.slice jp jm jc,.int .i64 nc,.slice bp z0.length bc,.slice ep i2.length ec]:=Bk.below (Bk.al (Bk.nw (by simp) rfl) (.cells #[.slice none 0 0,.slice none 0 0,.int .i64 0] 155)) hb
    have b0:Bk w1 (w.heap.size+1+1) [.slice none 0 0,.slice none 0 0,.int .i64 0]:=Bk.below (Bk.nw (by simp) rfl) hb
    clear hb
    clear hD
    have hD:=d0;clear d0
    rw [← d1]
    clear d1
    have c2:=Bk.lz a0
    have o2:=Bk.lz e0
    have d2:=Bk.lz b0
    by_cases hq4:(nk == 4)=true
    · skip
      have e8:(nk != 4)=false:=by rw [bne];rw [hq4];rfl
      have u7:¬(nk == 1)=true:=by have:nk=4:=(by simpa using hq4);subst this;decide
      have v7:¬(nk == 2)=true:=by have:nk=4:=(by simpa using hq4);subst this;decide
      have x7:¬(nk == 3)=true:=by have:nk=4:=(by simpa using hq4);subst this;decide
      have y7:¬(nk == 5)=true:=by have:nk=4:=(by simpa using hq4);subst this;decide
      obtain ⟨aD,lD,k8,s9,l8,t9⟩:=Bk.f3 a0 0 1 2 rfl rfl rfl
      obtain ⟨m8,u9,n8,v9⟩:=Bk.f2 e0 0 8 rfl rfl
      go_wp2_with fail
      refine (l7Add_any base _ _ _ _ k _ _ _ _ _ _ _ _ (oL.keep (C1 (w.heap.size) 2 (.int .i64 (wrap64 (ap+1)))) (fun gq h h2=>by have:=r1 gq h;omega)) (by first | omega | (simp only [Sa,Ss];omega)) (by omega)).mono ?_
      rintro e w2 ⟨p0,o0,v0,s0,k1,rfl,i3,j2,rfl,hb⟩
      have d0:=chg_app (hD.sN (w.heap.size) 2 (.int .i64 (wrap64 (ap+1)))) hb (fun q hq h=>by rcases b3 q h with h1 | h1;exact h1;omega)
      have m3:=hb.size
      simp only [Ss] at m3
      clear lD aD s9 k8 t9 l8 u9 m8 v9 n8
      replace a0:Bk w2 (w.heap.size) [.slice la k lc,.slice fa k fc,.int .i64 (wrap64 (ap+1))]:=Bk.keep (Bk.at a0 2 (.int .i64 (wrap64 (ap+1)))) hb (fun h=>by have:=r1 _ h;omega)
      replace e0:=Bk.keep (Bk.nn e0 _) hb (fun h=>by have:=r1 _ h;omega)
      replace b0:=Bk.keep (Bk.nn b0 _) hb (fun h=>by have:=r1 _ h;omega)
      clear hb
      clear hD
      have hD:=d0;clear d0
      try simp only [Sa,Ss] at j2
      clear oL
      have oL:=i3;clear i3
      have a1:∀ q,L7B p0 o0 q→L7B la fa q∨w.heap.size≤q:=fun q h=>by rcases j2 q h with h1 | h1;exact b3 q h1;exact Or.inr (by omega)
      have f0:∀ q,L7B p0 o0 q→(q < w.heap.size∨w.heap.size+3≤q)∧q < w2.heap.size∧base≤q:=fun q h=>by have h2:=oL.lt q h;rcases j2 q h with h1 | h1;(have:=r1 q h1;omega);omega
      clear j2 r1 b3
      replace c2:=Bk.lz a0
      replace o2:=Bk.lz e0
      replace d2:=Bk.lz b0
      have t1:=Lib.hid (fun W hD la fa lc fc k ap dep g1 g2 g3=>z7.out W hD bp bc (by simp) la fa lc fc k ap dep g1 g2 g3)
      obtain ⟨o8,x9,p8,y9,q8,z9⟩:=Bk.f3 a0 0 1 2 rfl rfl rfl
      obtain ⟨r8,aA⟩:=Bk.cf e0 9 rfl
      go_wp2_with fail
      refine (t1.out _ (((hD.sN (w.heap.size) 0 (.slice p0 (k+1) v0)).sN (w.heap.size) 1 (.slice o0 (k+1) s0)).sN (w.heap.size) 2 (.int .i64 (wrap64 (ap+1)))) _ _ _ _ (k+1) _ _ (((oL.keep (C1 (w.heap.size) 0 (.slice p0 (k+1) v0)) (fun gq h h2=>by have:=f0 gq h;omega)).keep (C1 (w.heap.size) 1 (.slice o0 (k+1) s0)) (fun gq h h2=>by have:=f0 gq h;omega)).keep (C1 (w.heap.size) 2 (.int .i64 (wrap64 (ap+1)))) (fun gq h h2=>by have:=f0 gq h;omega)) (by first | omega | (simp only [Sa,Ss];omega)) (by omega)).mono ?_
      rintro e w3 ⟨i0,h0,n0,m0,k2,n2,rfl,f1,q0,lC,rC,hb⟩
      have d0:=chg_app (((hD.sN (w.heap.size) 0 (.slice p0 (k+1) v0)).sN (w.heap.size) 1 (.slice o0 (k+1) s0)).sN (w.heap.size) 2 (.int .i64 (wrap64 (ap+1)))) hb (fun q hq h=>by rcases a1 q h with h1 | h1;exact h1;omega)
      have n3:=hb.size
      simp only [Ss] at n3
      clear x9 o8 y9 p8 z9 q8 aA r8
      replace a0:Bk w3 (w.heap.size) [.slice p0 (k+1) v0,.slice o0 (k+1) s0,.int .i64 (wrap64 (ap+1))]:=Bk.keep (Bk.at (Bk.at (Bk.at a0 0 (.slice p0 (k+1) v0)) 1 (.slice o0 (k+1) s0)) 2 (.int .i64 (wrap64 (ap+1)))) hb (fun h=>by have:=f0 _ h;omega)
      replace e0:=Bk.keep (Bk.nn (Bk.nn (Bk.nn e0 _) _) _) hb (fun h=>by have:=f0 _ h;omega)
      replace b0:=Bk.keep (Bk.nn (Bk.nn (Bk.nn b0 _) _) _) hb (fun h=>by have:=f0 _ h;omega)
      clear hb
      clear hD
      have hD:=d0;clear d0
      try simp only [Sa,Ss] at q0
      clear oL
      have oL:=f1;clear f1
      have y0:∀ q,L7B i0 h0 q→L7B la fa q∨w.heap.size≤q:=fun q h=>by rcases q0 q h with h1 | h1;exact a1 q h1;exact Or.inr (by omega)
      have g0:∀ q,L7B i0 h0 q→(q < w.heap.size∨w.heap.size+3≤q)∧q < w3.heap.size∧base≤q:=fun q h=>by have h2:=oL.lt q h;rcases q0 q h with h1 | h1;(have:=f0 q h1;omega);omega
      clear q0 f0 a1
      clear e0
      clear t1
      replace c2:=Bk.lz a0
      replace d2:=Bk.lz b0
      obtain ⟨s8,bA,t8,cA,u8,dA⟩:=Bk.f3 a0 0 1 2 rfl rfl rfl
      go_wp2_with fail
      refine (l7Add_any base _ _ _ _ k2 _ _ _ _ _ _ _ _ (((oL.keep (C1 (w.heap.size) 0 (.slice i0 k2 n0)) (fun gq h h2=>by have:=g0 gq h;omega)).keep (C1 (w.heap.size) 1 (.slice h0 k2 m0)) (fun gq h h2=>by have:=g0 gq h;omega)).keep (C1 (w.heap.size) 2 (.int .i64 n2)) (fun gq h h2=>by have:=g0 gq h;omega)) (by first | omega | (simp only [Sa,Ss];omega)) (by omega)).mono ?_
      rintro e w4 ⟨l0,j0,w0,u0,k3,rfl,l1,x0,rfl,hb⟩
      have d0:=chg_app (((hD.sN (w.heap.size) 0 (.slice i0 k2 n0)).sN (w.heap.size) 1 (.slice h0 k2 m0)).sN (w.heap.size) 2 (.int .i64 n2)) hb (fun q hq h=>by rcases y0 q h with h1 | h1;exact h1;omega)
      have o3:=hb.size
      simp only [Ss] at o3
      clear bA s8 cA t8 dA u8
      replace a0:Bk w4 (w.heap.size) [.slice i0 k2 n0,.slice h0 k2 m0,.int .i64 n2]:=Bk.keep (Bk.at (Bk.at (Bk.at a0 0 (.slice i0 k2 n0)) 1 (.slice h0 k2 m0)) 2 (.int .i64 n2)) hb (fun h=>by have:=g0 _ h;omega)
      replace b0:=Bk.keep (Bk.nn (Bk.nn (Bk.nn b0 _) _) _) hb (fun h=>by have:=g0 _ h;omega)
      clear hb
      clear hD
      have hD:=d0;clear d0
      try simp only [Sa,Ss] at x0
      clear oL
      have oL:=l1;clear l1
      have n1:∀ q,L7B l0 j0 q→L7B la fa q∨w.heap.size≤q:=fun q h=>by rcases x0 q h with h1 | h1;exact y0 q h1;exact Or.inr (by omega)
      have r0:∀ q,L7B l0 j0 q→(q < w.heap.size∨w.heap.size+3≤q)∧q < w4.heap.size∧base≤q:=fun q h=>by have h2:=oL.lt q h;rcases x0 q h with h1 | h1;(have:=g0 q h1;omega);omega
      clear x0 g0 y0
      clear a0
      obtain ⟨uC,eD,vC,fD,wC,gD⟩:=Bk.f3 b0 0 1 2 rfl rfl rfl
      have e1:=(Bk.at (Bk.at (Bk.at b0 0 (.slice l0 (k2+1) w0)) 1 (.slice j0 (k2+1) u0)) 2 (.int .i64 n2))
      obtain ⟨z1,a2,b2⟩:=Bk.g3 e1
      clear e1
      have u1:=Lib.hid (((hD.sN (w.heap.size+1+1) 0 (.slice l0 (k2+1) w0)).sN (w.heap.size+1+1) 1 (.slice j0 (k2+1) u0)).sN (w.heap.size+1+1) 2 (.int .i64 n2))
      have v1:=Lib.hid (((oL.keep (C1 (w.heap.size+1+1) 0 (.slice l0 (k2+1) w0)) (fun gq h h2=>by have:=r0 gq h;omega)).keep (C1 (w.heap.size+1+1) 1 (.slice j0 (k2+1) u0)) (fun gq h h2=>by have:=r0 gq h;omega)).keep (C1 (w.heap.size+1+1) 2 (.int .i64 n2)) (fun gq h h2=>by have:=r0 gq h;omega))
      clear hD oL
      go_wp2
      exact bodyPost_ret (v:=.agg #[.slice l0 (k2+1) w0,.slice j0 (k2+1) u0,.int .i64 n2]) (by simp [results,Try.results167,go_sem,z1,a2,b2]) rfl (by exact ⟨l0,j0,w0,u0,k2+1,_,rfl,v1.out,n1,by omega,by have:=p2.out;omega,u1.out⟩)
    skip
    have e8:(nk != 4)=true:=by rw [bne];simpa using hq4
    obtain ⟨v8,eA,x8,fA,y8,gA⟩:=Bk.f3 a0 0 1 2 rfl rfl rfl
    obtain ⟨z8,iA,a9,jA,b9,kA,c9,lA⟩:=Bk.f4 e0 0 5 6 7 rfl rfl rfl rfl
    go_wp2_with fail
    refine (kC.out _ (hD.sN (w.heap.size) 2 (.int .i64 (wrap64 (ap+1)))) _ _ _ _ k _ _ _ (oL.keep (C1 (w.heap.size) 2 (.int .i64 (wrap64 (ap+1)))) (fun gq h h2=>by have:=r1 gq h;omega)) (by first | omega | (simp only [Sa,Ss];omega)) (by omega)).mono ?_
    rintro e w2 ⟨p0,o0,v0,s0,k1,rfl,i3,j2,pD,vD,hb⟩
    have d0:=chg_app (hD.sN (w.heap.size) 2 (.int .i64 (wrap64 (ap+1)))) hb (fun q hq h=>by rcases b3 q h with h1 | h1;exact h1;omega)
    have p3:=hb.size
    simp only [Ss] at p3
    clear eA v8 fA x8 gA y8 iA z8 jA a9 kA b9 lA c9
    replace a0:Bk w2 (w.heap.size) [.slice la k lc,.slice fa k fc,.int .i64 (wrap64 (ap+1))]:=Bk.keep (Bk.at a0 2 (.int .i64 (wrap64 (ap+1)))) hb (fun h=>by have:=r1 _ h;omega)
    replace e0:=Bk.keep (Bk.nn e0 _) hb (fun h=>by have:=r1 _ h;omega)
    replace b0:=Bk.keep (Bk.nn b0 _) hb (fun h=>by have:=r1 _ h;omega)
    clear hb
    clear hD
    have hD:=d0;clear d0
    try simp only [Sa,Ss] at j2
    clear oL
    have oL:=i3;clear i3
    have a1:∀ q,L7B p0 o0 q→L7B la fa q∨w.heap.size≤q:=fun q h=>by rcases j2 q h with h1 | h1;exact b3 q h1;exact Or.inr (by omega)
    have f0:∀ q,L7B p0 o0 q→(q < w.heap.size∨w.heap.size+3≤q)∧q < w2.heap.size∧base≤q:=fun q h=>by have h2:=oL.lt q h;rcases j2 q h with h1 | h1;(have:=r1 q h1;omega);omega
    clear j2 r1 b3
    replace c2:=Bk.lz a0
    replace o2:=Bk.lz e0
    replace d2:=Bk.lz b0
    by_cases u7:(nk == 1)=true
    · skip
      have v7:¬(nk == 2)=true:=by have:nk=1:=(by simpa using u7);subst this;decide
      have x7:¬(nk == 3)=true:=by have:nk=1:=(by simpa using u7);subst this;decide
      have y7:¬(nk == 5)=true:=by have:nk=1:=(by simpa using u7);subst this;decide
      obtain ⟨d9,mA,e9,nA,f9,oA⟩:=Bk.f3 a0 0 1 2 rfl rfl rfl
      obtain ⟨g9,pA,h9,qA⟩:=Bk.f2 e0 0 1 rfl rfl
      go_wp2_with fail
      refine (l7Add_any base _ _ _ _ k1 _ _ _ _ _ _ _ _ (((oL.keep (C1 (w.heap.size) 0 (.slice p0 k1 v0)) (fun gq h h2=>by have:=f0 gq h;omega)).keep (C1 (w.heap.size) 1 (.slice o0 k1 s0)) (fun gq h h2=>by have:=f0 gq h;omega)).keep (C1 (w.heap.size) 2 (.int .i64 (wrap64 (ap+1)))) (fun gq h h2=>by have:=f0 gq h;omega)) (by first | omega | (simp only [Sa,Ss];omega)) (by omega)).mono ?_
      rintro e w3 ⟨i0,h0,n0,m0,k2,rfl,f1,q0,rfl,hb⟩
      have d0:=chg_app (((hD.sN (w.heap.size) 0 (.slice p0 k1 v0)).sN (w.heap.size) 1 (.slice o0 k1 s0)).sN (w.heap.size) 2 (.int .i64 (wrap64 (ap+1)))) hb (fun q hq h=>by rcases a1 q h with h1 | h1;exact h1;omega)
      have q3:=hb.size
      simp only [Ss] at q3
      clear mA d9 nA e9 oA f9 pA g9 qA h9
      replace a0:Bk w3 (w.heap.size) [.slice p0 k1 v0,.slice o0 k1 s0,.int .i64 (wrap64 (ap+1))]:=Bk.keep (Bk.at (Bk.at (Bk.at a0 0 (.slice p0 k1 v0)) 1 (.slice o0 k1 s0)) 2 (.int .i64 (wrap64 (ap+1)))) hb (fun h=>by have:=f0 _ h;omega)
      replace e0:=Bk.keep (Bk.nn (Bk.nn (Bk.nn e0 _) _) _) hb (fun h=>by have:=f0 _ h;omega)
      replace b0:=Bk.keep (Bk.nn (Bk.nn (Bk.nn b0 _) _) _) hb (fun h=>by have:=f0 _ h;omega)
      clear hb
      clear hD
      have hD:=d0;clear d0
      try simp only [Sa,Ss] at q0
      clear oL
      have oL:=f1;clear f1
      have y0:∀ q,L7B i0 h0 q→L7B la fa q∨w.heap.size≤q:=fun q h=>by rcases q0 q h with h1 | h1;exact a1 q h1;exact Or.inr (by omega)
      have g0:∀ q,L7B i0 h0 q→(q < w.heap.size∨w.heap.size+3≤q)∧q < w3.heap.size∧base≤q:=fun q h=>by have h2:=oL.lt q h;rcases q0 q h with h1 | h1;(have:=f0 q h1;omega);omega
      clear q0 f0 a1
      obtain ⟨xC,iD,yC,jD,zC,kD⟩:=Bk.f3 b0 0 1 2 rfl rfl rfl
      have e1:=(Bk.at (Bk.at (Bk.at b0 0 (.slice i0 (k1+1) n0)) 1 (.slice h0 (k1+1) m0)) 2 (.int .i64 (wrap64 (ap+1))))
      obtain ⟨z1,a2,b2⟩:=Bk.g3 e1
      clear e1
      have u1:=Lib.hid (((hD.sN (w.heap.size+1+1) 0 (.slice i0 (k1+1) n0)).sN (w.heap.size+1+1) 1 (.slice h0 (k1+1) m0)).sN (w.heap.size+1+1) 2 (.int .i64 (wrap64 (ap+1))))
      have v1:=Lib.hid (((oL.keep (C1 (w.heap.size+1+1) 0 (.slice i0 (k1+1) n0)) (fun gq h h2=>by have:=g0 gq h;omega)).keep (C1 (w.heap.size+1+1) 1 (.slice h0 (k1+1) m0)) (fun gq h h2=>by have:=g0 gq h;omega)).keep (C1 (w.heap.size+1+1) 2 (.int .i64 (wrap64 (ap+1)))) (fun gq h h2=>by have:=g0 gq h;omega))
      clear hD oL
      go_wp2
      exact bodyPost_ret (v:=.agg #[.slice i0 (k1+1) n0,.slice h0 (k1+1) m0,.int .i64 (wrap64 (ap+1))]) (by simp [results,Try.results167,go_sem,z1,a2,b2]) rfl (by exact ⟨i0,h0,n0,m0,k1+1,_,rfl,v1.out,y0,by omega,by have:=p2.out;omega,u1.out⟩)
    skip
    by_cases y7:(nk == 5)=true
    · skip
      have v7:¬(nk == 2)=true:=by have:nk=5:=(by simpa using y7);subst this;decide
      have x7:¬(nk == 3)=true:=by have:nk=5:=(by simpa using y7);subst this;decide
      obtain ⟨i9,rA,j9,sA,k9,tA⟩:=Bk.f3 a0 0 1 2 rfl rfl rfl
      obtain ⟨l9,uA⟩:=Bk.cf e0 0 rfl
      go_wp2_with fail
      refine (l7Add_any base _ _ _ _ k1 _ _ _ _ _ _ _ _ (((oL.keep (C1 (w.heap.size) 0 (.slice p0 k1 v0)) (fun gq h h2=>by have:=f0 gq h;omega)).keep (C1 (w.heap.size) 1 (.slice o0 k1 s0)) (fun gq h h2=>by have:=f0 gq h;omega)).keep (C1 (w.heap.size) 2 (.int .i64 (wrap64 (ap+1)))) (fun gq h h2=>by have:=f0 gq h;omega)) (by first | omega | (simp only [Sa,Ss];omega)) (by omega)).mono ?_
      rintro e w3 ⟨i0,h0,n0,m0,k2,rfl,f1,q0,rfl,hb⟩
      have d0:=chg_app (((hD.sN (w.heap.size) 0 (.slice p0 k1 v0)).sN (w.heap.size) 1 (.slice o0 k1 s0)).sN (w.heap.size) 2 (.int .i64 (wrap64 (ap+1)))) hb (fun q hq h=>by rcases a1 q h with h1 | h1;exact h1;omega)
      have r3:=hb.size
      simp only [Ss] at r3
      clear rA i9 sA j9 tA k9 uA l9
      replace a0:Bk w3 (w.heap.size) [.slice p0 k1 v0,.slice o0 k1 s0,.int .i64 (wrap64 (ap+1))]:=Bk.keep (Bk.at (Bk.at (Bk.at a0 0 (.slice p0 k1 v0)) 1 (.slice o0 k1 s0)) 2 (.int .i64 (wrap64 (ap+1)))) hb (fun h=>by have:=f0 _ h;omega)
      replace e0:=Bk.keep (Bk.nn (Bk.nn (Bk.nn e0 _) _) _) hb (fun h=>by have:=f0 _ h;omega)
      replace b0:=Bk.keep (Bk.nn (Bk.nn (Bk.nn b0 _) _) _) hb (fun h=>by have:=f0 _ h;omega)
      clear hb
      clear hD
      have hD:=d0;clear d0
      try simp only [Sa,Ss] at q0
      clear oL
      have oL:=f1;clear f1
      have y0:∀ q,L7B i0 h0 q→L7B la fa q∨w.heap.size≤q:=fun q h=>by rcases q0 q h with h1 | h1;exact a1 q h1;exact Or.inr (by omega)
      have g0:∀ q,L7B i0 h0 q→(q < w.heap.size∨w.heap.size+3≤q)∧q < w3.heap.size∧base≤q:=fun q h=>by have h2:=oL.lt q h;rcases q0 q h with h1 | h1;(have:=f0 q h1;omega);omega
      clear q0 f0 a1
      replace c2:=Bk.lz a0
      replace o2:=Bk.lz e0
      replace d2:=Bk.lz b0
      obtain ⟨m9,vA,n9,wA,o9,xA⟩:=Bk.f3 a0 0 1 2 rfl rfl rfl
      obtain ⟨p9,yA⟩:=Bk.cf e0 1 rfl
      go_wp2_with fail
      refine (l7Add_any base _ _ _ _ (k1+1) _ _ _ _ _ _ _ _ (((oL.keep (C1 (w.heap.size) 0 (.slice i0 (k1+1) n0)) (fun gq h h2=>by have:=g0 gq h;omega)).keep (C1 (w.heap.size) 1 (.slice h0 (k1+1) m0)) (fun gq h h2=>by have:=g0 gq h;omega)).keep (C1 (w.heap.size) 2 (.int .i64 (wrap64 (ap+1)))) (fun gq h h2=>by have:=g0 gq h;omega)) (by first | omega | (simp only [Sa,Ss];omega)) (by omega)).mono ?_
      rintro e w4 ⟨l0,j0,w0,u0,k3,rfl,l1,x0,rfl,hb⟩
      have d0:=chg_app (((hD.sN (w.heap.size) 0 (.slice i0 (k1+1) n0)).sN (w.heap.size) 1 (.slice h0 (k1+1) m0)).sN (w.heap.size) 2 (.int .i64 (wrap64 (ap+1)))) hb (fun q hq h=>by rcases y0 q h with h1 | h1;exact h1;omega)
      have s3:=hb.size
      simp only [Ss] at s3
      clear vA m9 wA n9 xA o9 yA p9
      replace a0:Bk w4 (w.heap.size) [.slice i0 (k1+1) n0,.slice h0 (k1+1) m0,.int .i64 (wrap64 (ap+1))]:=Bk.keep (Bk.at (Bk.at (Bk.at a0 0 (.slice i0 (k1+1) n0)) 1 (.slice h0 (k1+1) m0)) 2 (.int .i64 (wrap64 (ap+1)))) hb (fun h=>by have:=g0 _ h;omega)
      replace e0:=Bk.keep (Bk.nn (Bk.nn (Bk.nn e0 _) _) _) hb (fun h=>by have:=g0 _ h;omega)
      replace b0:=Bk.keep (Bk.nn (Bk.nn (Bk.nn b0 _) _) _) hb (fun h=>by have:=g0 _ h;omega)
      clear hb
      clear hD
      have hD:=d0;clear d0
      try simp only [Sa,Ss] at x0
      clear oL
      have oL:=l1;clear l1
      have n1:∀ q,L7B l0 j0 q→L7B la fa q∨w.heap.size≤q:=fun q h=>by rcases x0 q h with h1 | h1;exact y0 q h1;exact Or.inr (by omega)
      have r0:∀ q,L7B l0 j0 q→(q < w.heap.size∨w.heap.size+3≤q)∧q < w4.heap.size∧base≤q:=fun q h=>by have h2:=oL.lt q h;rcases x0 q h with h1 | h1;(have:=g0 q h1;omega);omega
      clear x0 g0 y0
      obtain ⟨bD,mD,cD,nD,dD,oD⟩:=Bk.f3 b0 0 1 2 rfl rfl rfl
      have e1:=(Bk.at (Bk.at (Bk.at b0 0 (.slice l0 (k1+1+1) w0)) 1 (.slice j0 (k1+1+1) u0)) 2 (.int .i64 (wrap64 (ap+1))))
      obtain ⟨z1,a2,b2⟩:=Bk.g3 e1
      clear e1
      have u1:=Lib.hid (((hD.sN (w.heap.size+1+1) 0 (.slice l0 (k1+1+1) w0)).sN (w.heap.size+1+1) 1 (.slice j0 (k1+1+1) u0)).sN (w.heap.size+1+1) 2 (.int .i64 (wrap64 (ap+1))))
      have v1:=Lib.hid (((oL.keep (C1 (w.heap.size+1+1) 0 (.slice l0 (k1+1+1) w0)) (fun gq h h2=>by have:=r0 gq h;omega)).keep (C1 (w.heap.size+1+1) 1 (.slice j0 (k1+1+1) u0)) (fun gq h h2=>by have:=r0 gq h;omega)).keep (C1 (w.heap.size+1+1) 2 (.int .i64 (wrap64 (ap+1)))) (fun gq h h2=>by have:=r0 gq h;omega))
      clear hD oL
      go_wp2
      exact bodyPost_ret (v:=.agg #[.slice l0 (k1+1+1) w0,.slice j0 (k1+1+1) u0,.int .i64 (wrap64 (ap+1))]) (by simp [results,Try.results167,go_sem,z1,a2,b2]) rfl (by exact ⟨l0,j0,w0,u0,k1+1+1,_,rfl,v1.out,n1,by omega,by have:=p2.out;omega,u1.out⟩)
    skip
    by_cases v7:(nk == 2)=true
    · skip
      have x7:¬(nk == 3)=true:=by have:nk=2:=(by simpa using v7);subst this;decide
      obtain ⟨q9,zA,r9,u5,t3,v5⟩:=Bk.f3 a0 0 1 2 rfl rfl rfl
      obtain ⟨u3,x5,v3,y5,x3,z5,y3,a6⟩:=Bk.f4 e0 0 2 3 4 rfl rfl rfl rfl
      go_wp2_with fail
      refine (jC.out _ (((hD.sN (w.heap.size) 0 (.slice p0 k1 v0)).sN (w.heap.size) 1 (.slice o0 k1 s0)).sN (w.heap.size) 2 (.int .i64 (wrap64 (ap+1)))) _ _ _ _ k1 _ _ _ (((oL.keep (C1 (w.heap.size) 0 (.slice p0 k1 v0)) (fun gq h h2=>by have:=f0 gq h;omega)).keep (C1 (w.heap.size) 1 (.slice o0 k1 s0)) (fun gq h h2=>by have:=f0 gq h;omega)).keep (C1 (w.heap.size) 2 (.int .i64 (wrap64 (ap+1)))) (fun gq h h2=>by have:=f0 gq h;omega)) (by first | omega | (simp only [Sa,Ss];omega)) (by omega)).mono ?_
      rintro e w3 ⟨i0,h0,n0,m0,k2,rfl,f1,q0,lC,rC,hb⟩
      have d0:=chg_app (((hD.sN (w.heap.size) 0 (.slice p0 k1 v0)).sN (w.heap.size) 1 (.slice o0 k1 s0)).sN (w.heap.size) 2 (.int .i64 (wrap64 (ap+1)))) hb (fun q hq h=>by rcases a1 q h with h1 | h1;exact h1;omega)
      have q2:=hb.size
      simp only [Ss] at q2
      clear zA q9 u5 r9 v5 t3 x5 u3 y5 v3 z5 x3 a6 y3
      replace a0:Bk w3 (w.heap.size) [.slice p0 k1 v0,.slice o0 k1 s0,.int .i64 (wrap64 (ap+1))]:=Bk.keep (Bk.at (Bk.at (Bk.at a0 0 (.slice p0 k1 v0)) 1 (.slice o0 k1 s0)) 2 (.int .i64 (wrap64 (ap+1)))) hb (fun h=>by have:=f0 _ h;omega)
      replace e0:=Bk.keep (Bk.nn (Bk.nn (Bk.nn e0 _) _) _) hb (fun h=>by have:=f0 _ h;omega)
      replace b0:=Bk.keep (Bk.nn (Bk.nn (Bk.nn b0 _) _) _) hb (fun h=>by have:=f0 _ h;omega)
      clear hb
      clear hD
      have hD:=d0;clear d0
      try simp only [Sa,Ss] at q0
      clear oL
      have oL:=f1;clear f1
      have y0:∀ q,L7B i0 h0 q→L7B la fa q∨w.heap.size≤q:=fun q h=>by rcases q0 q h with h1 | h1;exact a1 q h1;exact Or.inr (by omega)
      have g0:∀ q,L7B i0 h0 q→(q < w.heap.size∨w.heap.size+3≤q)∧q < w3.heap.size∧base≤q:=fun q h=>by have h2:=oL.lt q h;rcases q0 q h with h1 | h1;(have:=f0 q h1;omega);omega
      clear q0 f0 a1
      replace c2:=Bk.lz a0
      replace o2:=Bk.lz e0
      replace d2:=Bk.lz b0
      obtain ⟨z3,b6,a4,c6,b4,d6⟩:=Bk.f3 a0 0 1 2 rfl rfl rfl
      obtain ⟨c4,e6⟩:=Bk.cf e0 1 rfl
      go_wp2_with fail
      refine (l7Add_any base _ _ _ _ k2 _ _ _ _ _ _ _ _ (((oL.keep (C1 (w.heap.size) 0 (.slice i0 k2 n0)) (fun gq h h2=>by have:=g0 gq h;omega)).keep (C1 (w.heap.size) 1 (.slice h0 k2 m0)) (fun gq h h2=>by have:=g0 gq h;omega)).keep (C1 (w.heap.size) 2 (.int .i64 (wrap64 (ap+1)))) (fun gq h h2=>by have:=g0 gq h;omega)) (by first | omega | (simp only [Sa,Ss];omega)) (by omega)).mono ?_
      rintro e w4 ⟨l0,j0,w0,u0,k3,rfl,l1,x0,rfl,hb⟩
      have d0:=chg_app (((hD.sN (w.heap.size) 0 (.slice i0 k2 n0)).sN (w.heap.size) 1 (.slice h0 k2 m0)).sN (w.heap.size) 2 (.int .i64 (wrap64 (ap+1)))) hb (fun q hq h=>by rcases y0 q h with h1 | h1;exact h1;omega)
      have r2:=hb.size
      simp only [Ss] at r2
      clear b6 z3 c6 a4 d6 b4 e6 c4
      replace a0:Bk w4 (w.heap.size) [.slice i0 k2 n0,.slice h0 k2 m0,.int .i64 (wrap64 (ap+1))]:=Bk.keep (Bk.at (Bk.at (Bk.at a0 0 (.slice i0 k2 n0)) 1 (.slice h0 k2 m0)) 2 (.int .i64 (wrap64 (ap+1)))) hb (fun h=>by have:=g0 _ h;omega)
      replace e0:=Bk.keep (Bk.nn (Bk.nn (Bk.nn e0 _) _) _) hb (fun h=>by have:=g0 _ h;omega)
      replace b0:=Bk.keep (Bk.nn (Bk.nn (Bk.nn b0 _) _) _) hb (fun h=>by have:=g0 _ h;omega)
      clear hb
      clear hD
      have hD:=d0;clear d0
      try simp only [Sa,Ss] at x0
      clear oL
      have oL:=l1;clear l1
      have n1:∀ q,L7B l0 j0 q→L7B la fa q∨w.heap.size≤q:=fun q h=>by rcases x0 q h with h1 | h1;exact y0 q h1;exact Or.inr (by omega)
      have r0:∀ q,L7B l0 j0 q→(q < w.heap.size∨w.heap.size+3≤q)∧q < w4.heap.size∧base≤q:=fun q h=>by have h2:=oL.lt q h;rcases x0 q h with h1 | h1;(have:=g0 q h1;omega);omega
      clear x0 g0 y0
      obtain ⟨kB,wB,lB,xB,mB,yB⟩:=Bk.f3 b0 0 1 2 rfl rfl rfl
      have e1:=(Bk.at (Bk.at (Bk.at b0 0 (.slice l0 (k2+1) w0)) 1 (.slice j0 (k2+1) u0)) 2 (.int .i64 (wrap64 (ap+1))))
      obtain ⟨z1,a2,b2⟩:=Bk.g3 e1
      clear e1
      have u1:=Lib.hid (((hD.sN (w.heap.size+1+1) 0 (.slice l0 (k2+1) w0)).sN (w.heap.size+1+1) 1 (.slice j0 (k2+1) u0)).sN (w.heap.size+1+1) 2 (.int .i64 (wrap64 (ap+1))))
      have v1:=Lib.hid (((oL.keep (C1 (w.heap.size+1+1) 0 (.slice l0 (k2+1) w0)) (fun gq h h2=>by have:=r0 gq h;omega)).keep (C1 (w.heap.size+1+1) 1 (.slice j0 (k2+1) u0)) (fun gq h h2=>by have:=r0 gq h;omega)).keep (C1 (w.heap.size+1+1) 2 (.int .i64 (wrap64 (ap+1)))) (fun gq h h2=>by have:=r0 gq h;omega))
      clear hD oL
      go_wp2
      exact bodyPost_ret (v:=.agg #[.slice l0 (k2+1) w0,.slice j0 (k2+1) u0,.int .i64 (wrap64 (ap+1))]) (by simp [results,Try.results167,go_sem,z1,a2,b2]) rfl (by exact ⟨l0,j0,w0,u0,k2+1,_,rfl,v1.out,n1,by omega,by have:=p2.out;omega,u1.out⟩)
    skip
    by_cases x7:(nk == 3)=true
    · skip
      obtain ⟨d4,f6,e4,g6,i4,i6⟩:=Bk.f3 a0 0 1 2 rfl rfl rfl
      obtain ⟨j4,j6⟩:=Bk.cf e0 0 rfl
      go_wp2_with fail
      refine (l7Add_any base _ _ _ _ k1 _ _ _ _ _ _ _ _ (((oL.keep (C1 (w.heap.size) 0 (.slice p0 k1 v0)) (fun gq h h2=>by have:=f0 gq h;omega)).keep (C1 (w.heap.size) 1 (.slice o0 k1 s0)) (fun gq h h2=>by have:=f0 gq h;omega)).keep (C1 (w.heap.size) 2 (.int .i64 (wrap64 (ap+1)))) (fun gq h h2=>by have:=f0 gq h;omega)) (by first | omega | (simp only [Sa,Ss];omega)) (by omega)).mono ?_
      rintro e w3 ⟨i0,h0,n0,m0,k2,rfl,f1,q0,rfl,hb⟩
      have d0:=chg_app (((hD.sN (w.heap.size) 0 (.slice p0 k1 v0)).sN (w.heap.size) 1 (.slice o0 k1 s0)).sN (w.heap.size) 2 (.int .i64 (wrap64 (ap+1)))) hb (fun q hq h=>by rcases a1 q h with h1 | h1;exact h1;omega)
      have s2:=hb.size
      simp only [Ss] at s2
      clear f6 d4 g6 e4 i6 i4 j6 j4
      replace a0:Bk w3 (w.heap.size) [.slice p0 k1 v0,.slice o0 k1 s0,.int .i64 (wrap64 (ap+1))]:=Bk.keep (Bk.at (Bk.at (Bk.at a0 0 (.slice p0 k1 v0)) 1 (.slice o0 k1 s0)) 2 (.int .i64 (wrap64 (ap+1)))) hb (fun h=>by have:=f0 _ h;omega)
      replace e0:=Bk.keep (Bk.nn (Bk.nn (Bk.nn e0 _) _) _) hb (fun h=>by have:=f0 _ h;omega)
      replace b0:=Bk.keep (Bk.nn (Bk.nn (Bk.nn b0 _) _) _) hb (fun h=>by have:=f0 _ h;omega)
      clear hb
      clear hD
      have hD:=d0;clear d0
      try simp only [Sa,Ss] at q0
      clear oL
      have oL:=f1;clear f1
      have y0:∀ q,L7B i0 h0 q→L7B la fa q∨w.heap.size≤q:=fun q h=>by rcases q0 q h with h1 | h1;exact a1 q h1;exact Or.inr (by omega)
      have g0:∀ q,L7B i0 h0 q→(q < w.heap.size∨w.heap.size+3≤q)∧q < w3.heap.size∧base≤q:=fun q h=>by have h2:=oL.lt q h;rcases q0 q h with h1 | h1;(have:=f0 q h1;omega);omega
      clear q0 f0 a1
      replace c2:=Bk.lz a0
      replace o2:=Bk.lz e0
      replace d2:=Bk.lz b0
      have t1:=Lib.hid (fun W hD la fa lc fc k ap dep g1 g2 g3=>z7.out W hD bp bc (by simp) la fa lc fc k ap dep g1 g2 g3)
      obtain ⟨l4,k6,m4,l6,n4,m6⟩:=Bk.f3 a0 0 1 2 rfl rfl rfl
      obtain ⟨o4,n6⟩:=Bk.cf e0 9 rfl
      go_wp2_with fail
      refine (t1.out _ (((hD.sN (w.heap.size) 0 (.slice i0 (k1+1) n0)).sN (w.heap.size) 1 (.slice h0 (k1+1) m0)).sN (w.heap.size) 2 (.int .i64 (wrap64 (ap+1)))) _ _ _ _ (k1+1) _ _ (((oL.keep (C1 (w.heap.size) 0 (.slice i0 (k1+1) n0)) (fun gq h h2=>by have:=g0 gq h;omega)).keep (C1 (w.heap.size) 1 (.slice h0 (k1+1) m0)) (fun gq h h2=>by have:=g0 gq h;omega)).keep (C1 (w.heap.size) 2 (.int .i64 (wrap64 (ap+1)))) (fun gq h h2=>by have:=g0 gq h;omega)) (by first | omega | (simp only [Sa,Ss];omega)) (by omega)).mono ?_
      rintro e w4 ⟨l0,j0,w0,u0,k3,b1,rfl,l1,x0,mC,sC,hb⟩
      have d0:=chg_app (((hD.sN (w.heap.size) 0 (.slice i0 (k1+1) n0)).sN (w.heap.size) 1 (.slice h0 (k1+1) m0)).sN (w.heap.size) 2 (.int .i64 (wrap64 (ap+1)))) hb (fun q hq h=>by rcases y0 q h with h1 | h1;exact h1;omega)
      have t2:=hb.size
      simp only [Ss] at t2
      clear k6 l4 l6 m4 m6 n4 n6 o4
      replace a0:Bk w4 (w.heap.size) [.slice i0 (k1+1) n0,.slice h0 (k1+1) m0,.int .i64 (wrap64 (ap+1))]:=Bk.keep (Bk.at (Bk.at (Bk.at a0 0 (.slice i0 (k1+1) n0)) 1 (.slice h0 (k1+1) m0)) 2 (.int .i64 (wrap64 (ap+1)))) hb (fun h=>by have:=g0 _ h;omega)
      replace e0:=Bk.keep (Bk.nn (Bk.nn (Bk.nn e0 _) _) _) hb (fun h=>by have:=g0 _ h;omega)
      replace b0:=Bk.keep (Bk.nn (Bk.nn (Bk.nn b0 _) _) _) hb (fun h=>by have:=g0 _ h;omega)
      clear hb
      clear hD
      have hD:=d0;clear d0
      try simp only [Sa,Ss] at x0
      clear oL
      have oL:=l1;clear l1
      have n1:∀ q,L7B l0 j0 q→L7B la fa q∨w.heap.size≤q:=fun q h=>by rcases x0 q h with h1 | h1;exact y0 q h1;exact Or.inr (by omega)
      have r0:∀ q,L7B l0 j0 q→(q < w.heap.size∨w.heap.size+3≤q)∧q < w4.heap.size∧base≤q:=fun q h=>by have h2:=oL.lt q h;rcases x0 q h with h1 | h1;(have:=g0 q h1;omega);omega
      clear x0 g0 y0
      clear t1
      replace c2:=Bk.lz a0
      replace o2:=Bk.lz e0
      replace d2:=Bk.lz b0
      obtain ⟨p4,o6,q4,p6,r4,q6⟩:=Bk.f3 a0 0 1 2 rfl rfl rfl
      go_wp2_with fail
      refine (l7Add_any base _ _ _ _ k3 _ _ _ _ _ _ _ _ (((oL.keep (C1 (w.heap.size) 0 (.slice l0 k3 w0)) (fun gq h h2=>by have:=r0 gq h;omega)).keep (C1 (w.heap.size) 1 (.slice j0 k3 u0)) (fun gq h h2=>by have:=r0 gq h;omega)).keep (C1 (w.heap.size) 2 (.int .i64 b1)) (fun gq h h2=>by have:=r0 gq h;omega)) (by first | omega | (simp only [Sa,Ss];omega)) (by omega)).mono ?_
      rintro e w5 ⟨m1,c1,s1,q1,k4,rfl,j3,l2,rfl,hb⟩
      have d0:=chg_app (((hD.sN (w.heap.size) 0 (.slice l0 k3 w0)).sN (w.heap.size) 1 (.slice j0 k3 u0)).sN (w.heap.size) 2 (.int .i64 b1)) hb (fun q hq h=>by rcases n1 q h with h1 | h1;exact h1;omega)
      have u2:=hb.size
      simp only [Ss] at u2
      clear o6 p4 p6 q4 q6 r4
      replace a0:Bk w5 (w.heap.size) [.slice l0 k3 w0,.slice j0 k3 u0,.int .i64 b1]:=Bk.keep (Bk.at (Bk.at (Bk.at a0 0 (.slice l0 k3 w0)) 1 (.slice j0 k3 u0)) 2 (.int .i64 b1)) hb (fun h=>by have:=r0 _ h;omega)
      replace e0:=Bk.keep (Bk.nn (Bk.nn (Bk.nn e0 _) _) _) hb (fun h=>by have:=r0 _ h;omega)
      replace b0:=Bk.keep (Bk.nn (Bk.nn (Bk.nn b0 _) _) _) hb (fun h=>by have:=r0 _ h;omega)
      clear hb
      clear hD
      have hD:=d0;clear d0
      try simp only [Sa,Ss] at l2
      clear oL
      have oL:=j3;clear j3
      have c3:∀ q,L7B m1 c1 q→L7B la fa q∨w.heap.size≤q:=fun q h=>by rcases l2 q h with h1 | h1;exact n1 q h1;exact Or.inr (by omega)
      have p1:∀ q,L7B m1 c1 q→(q < w.heap.size∨w.heap.size+3≤q)∧q < w5.heap.size∧base≤q:=fun q h=>by have h2:=oL.lt q h;rcases l2 q h with h1 | h1;(have:=r0 q h1;omega);omega
      clear l2 r0 n1
      obtain ⟨s4,r6,t4,t6,u4,u6⟩:=Bk.f3 a0 0 1 2 rfl rfl rfl
      go_upto_region 20 with (fail)
      obtain ⟨w6,d1,hb⟩:=nmw (World.setCell (World.setCell (World.setCell w5 ⟨w.heap.size,0,none⟩ (.slice m1 (k3+1) s1)) ⟨w.heap.size,1,none⟩ (.slice c1 (k3+1) q1)) ⟨w.heap.size,2,none⟩ (.int .i64 b1))
      have d0:=(((hD.sN (w.heap.size) 0 (.slice m1 (k3+1) s1)).sN (w.heap.size) 1 (.slice c1 (k3+1) q1)).sN (w.heap.size) 2 (.int .i64 b1)).trans (Chg.of_below hb)
      have v2:=hb.size
      simp only [Ss] at v2
      clear r6 s4 t6 t4 u6 u4
      replace oL:=(((oL.keep (C1 _ _ _) (fun gq h h2=>by have:=p1 gq h;omega)).keep (C1 _ _ _) (fun gq h h2=>by have:=p1 gq h;omega)).keep (C1 _ _ _) (fun gq h h2=>by have:=p1 gq h;omega)).below hb
      replace a0:Bk w6 (w.heap.size) [.slice m1 (k3+1) s1,.slice c1 (k3+1) q1,.int .i64 b1]:=Bk.below (Bk.at (Bk.at (Bk.at a0 0 (.slice m1 (k3+1) s1)) 1 (.slice c1 (k3+1) q1)) 2 (.int .i64 b1)) hb
      replace e0:=Bk.below (Bk.nn (Bk.nn (Bk.nn e0 _) _) _) hb
      replace b0:=Bk.below (Bk.nn (Bk.nn (Bk.nn b0 _) _) _) hb
      clear hb
      clear hD
      have hD:=d0;clear d0
      rw [← d1]
      clear d1
      obtain ⟨g4,nC⟩:=oL.pos (by omega)
      subst nC
      obtain ⟨⟨xD,a8⟩,c8⟩:=oL.at k1 2 (by omega) (by omega)
      have eB:=(oL.lt g4 (Or.inl rfl));have iB:=p1 g4 (Or.inl rfl)
      obtain ⟨v4,v6⟩:=Bk.cf a0 0 rfl
      go_upto_region 21 with (fail)
      obtain ⟨w7,d1⟩:∃ X,X=(World.setCell w6 ⟨g4,k1*5+2,none⟩ (.int .i64 (k3+1))):=⟨_,rfl⟩
      have o1:Chg (fun q=>L7B (some ⟨g4,0,none⟩) c1 q) w6 w7:=by rw [d1];exact (Chg.refl _ _).setCell _ _ _ (fun _=>Or.inl rfl)
      have l3:L7 w7 base (some ⟨g4,0,none⟩) c1 (k3+1) s1 q1:=by rw [d1];exact oL.put k1 2 (by omega) (by omega) _
      rw [← d1]
      clear d1
      have d0:=chg_app hD o1 (fun q hq h=>by rcases c3 q h with h1 | h1;exact h1;omega)
      have g8:=o1.size
      clear v6 v4
      replace a0:Bk w7 (w.heap.size) [.slice (some ⟨g4,0,none⟩) (k3+1) s1,.slice c1 (k3+1) q1,.int .i64 b1]:=Bk.keep a0 o1 (fun h=>by have:=p1 _ h;omega)
      replace e0:Bk w7 (w.heap.size+1) [.int .i64 nk,.int .i64 nt,.int .i64 ik,.int .i64 iv,.slice ip im ic,.int .i64 jk,.int .i64 jv,.slice jp jm jc,.int .i64 nc,.slice bp z0.length bc,.slice ep i2.length ec]:=Bk.keep e0 o1 (fun h=>by have:=p1 _ h;omega)
      replace b0:Bk w7 (w.heap.size+1+1) [.slice none 0 0,.slice none 0 0,.int .i64 0]:=Bk.keep b0 o1 (fun h=>by have:=p1 _ h;omega)
      clear o1
      clear hD
      have hD:=d0;clear d0
      clear oL a8 c8;have oL:=l3;clear l3
      have iv4p:∀ q,L7B (some ⟨g4,0,none⟩) c1 q→(q < w.heap.size∨w.heap.size+3≤q)∧q < w7.heap.size∧base≤q:=fun q h=>by have h2:=oL.lt q h;have:=p1 q h;omega
      clear p1
      replace c2:=Bk.lz a0
      replace o2:=Bk.lz e0
      replace d2:=Bk.lz b0
      have t1:=Lib.hid (fun W hD la fa lc fc k ap dep g1 g2 g3=>iC.out W hD ep ec (by simp) la fa lc fc k ap dep g1 g2 g3)
      obtain ⟨x4,x6,y4,y6,z4,z6⟩:=Bk.f3 a0 0 1 2 rfl rfl rfl
      obtain ⟨a5,a7⟩:=Bk.cf e0 10 rfl
      go_wp2_with fail
      refine (t1.out _ hD _ _ _ _ (k3+1) _ _ oL (by first | omega | (simp only [Sa,Ss];omega)) (by omega)).mono ?_
      rintro e w8 ⟨d3,j1,y1,x1,k5,e2,rfl,aB,t7,qD,wD,hb⟩
      have d0:=chg_app hD hb (fun q hq h=>by rcases c3 q h with h1 | h1;exact h1;omega)
      have h8:=hb.size
      clear x6 x4 y6 y4 z6 z4 a7 a5
      replace a0:=Bk.keep a0 hb (fun h=>by have:=iv4p _ h;omega)
      replace e0:=Bk.keep e0 hb (fun h=>by have:=iv4p _ h;omega)
      replace b0:=Bk.keep b0 hb (fun h=>by have:=iv4p _ h;omega)
      clear hb
      clear hD
      have hD:=d0;clear d0
      try simp only [Sa,Ss] at t7
      clear oL
      have oL:=aB;clear aB
      have bB:∀ q,L7B d3 j1 q→L7B la fa q∨w.heap.size≤q:=fun q h=>by rcases t7 q h with h1 | h1;exact c3 q h1;exact Or.inr (by omega)
      have m2:∀ q,L7B d3 j1 q→(q < w.heap.size∨w.heap.size+3≤q)∧q < w8.heap.size∧base≤q:=fun q h=>by have h2:=oL.lt q h;rcases t7 q h with h1 | h1;(have:=iv4p q h1;omega);omega
      clear t7 iv4p c3
      clear t1
      obtain ⟨b5,b7,c5,c7,d5,d7⟩:=Bk.f3 a0 0 1 2 rfl rfl rfl
      go_upto_region 22 with (fail)
      obtain ⟨w9,d1,hb⟩:=nmw (World.setCell (World.setCell (World.setCell w8 ⟨w.heap.size,0,none⟩ (.slice d3 k5 y1)) ⟨w.heap.size,1,none⟩ (.slice j1 k5 x1)) ⟨w.heap.size,2,none⟩ (.int .i64 e2))
      have d0:=(((hD.sN (w.heap.size) 0 (.slice d3 k5 y1)).sN (w.heap.size) 1 (.slice j1 k5 x1)).sN (w.heap.size) 2 (.int .i64 e2)).trans (Chg.of_below hb)
      have x2:=hb.size
      simp only [Ss] at x2
      clear b7 b5 c7 c5 d7 d5
      replace oL:=(((oL.keep (C1 _ _ _) (fun gq h h2=>by have:=m2 gq h;omega)).keep (C1 _ _ _) (fun gq h h2=>by have:=m2 gq h;omega)).keep (C1 _ _ _) (fun gq h h2=>by have:=m2 gq h;omega)).below hb
      replace a0:Bk w9 (w.heap.size) [.slice d3 k5 y1,.slice j1 k5 x1,.int .i64 e2]:=Bk.below (Bk.at (Bk.at (Bk.at a0 0 (.slice d3 k5 y1)) 1 (.slice j1 k5 x1)) 2 (.int .i64 e2)) hb
      replace e0:=Bk.below (Bk.nn (Bk.nn (Bk.nn e0 _) _) _) hb
      replace b0:=Bk.below (Bk.nn (Bk.nn (Bk.nn b0 _) _) _) hb
      clear hb
      clear hD
      have hD:=d0;clear d0
      rw [← d1]
      clear d1
      obtain ⟨g5,oC⟩:=oL.pos (by omega)
      subst oC
      obtain ⟨⟨yD,b8⟩,d8⟩:=oL.at k3 1 (by omega) (by omega)
      have fB:=(oL.lt g5 (Or.inl rfl));have jB:=m2 g5 (Or.inl rfl)
      obtain ⟨e5,e7⟩:=Bk.cf a0 0 rfl
      go_upto_region 23 with (fail)
      obtain ⟨e3,d1⟩:∃ X,X=(World.setCell w9 ⟨g5,k3*5+1,none⟩ (.int .i64 k5)):=⟨_,rfl⟩
      have o1:Chg (fun q=>L7B (some ⟨g5,0,none⟩) j1 q) w9 e3:=by rw [d1];exact (Chg.refl _ _).setCell _ _ _ (fun _=>Or.inl rfl)
      have l3:L7 e3 base (some ⟨g5,0,none⟩) j1 k5 y1 x1:=by rw [d1];exact oL.put k3 1 (by omega) (by omega) _
      rw [← d1]
      clear d1
      have d0:=chg_app hD o1 (fun q hq h=>by rcases bB q h with h1 | h1;exact h1;omega)
      have i8:=o1.size
      clear e7 e5
      replace a0:Bk e3 (w.heap.size) [.slice (some ⟨g5,0,none⟩) k5 y1,.slice j1 k5 x1,.int .i64 e2]:=Bk.keep a0 o1 (fun h=>by have:=m2 _ h;omega)
      replace e0:Bk e3 (w.heap.size+1) [.int .i64 nk,.int .i64 nt,.int .i64 ik,.int .i64 iv,.slice ip im ic,.int .i64 jk,.int .i64 jv,.slice jp jm jc,.int .i64 nc,.slice bp z0.length bc,.slice ep i2.length ec]:=Bk.keep e0 o1 (fun h=>by have:=m2 _ h;omega)
      replace b0:Bk e3 (w.heap.size+1+1) [.slice none 0 0,.slice none 0 0,.int .i64 0]:=Bk.keep b0 o1 (fun h=>by have:=m2 _ h;omega)
      clear o1
      clear hD
      have hD:=d0;clear d0
      clear oL b8 d8;have oL:=l3;clear l3
      have iv5p:∀ q,L7B (some ⟨g5,0,none⟩) j1 q→(q < w.heap.size∨w.heap.size+3≤q)∧q < e3.heap.size∧base≤q:=fun q h=>by have h2:=oL.lt q h;have:=m2 q h;omega
      clear m2
      obtain ⟨nB,zB,oB,aC,pB,bC⟩:=Bk.f3 a0 0 1 2 rfl rfl rfl
      obtain ⟨qB,cC,rB,dC,sB,eC⟩:=Bk.f3 b0 0 1 2 rfl rfl rfl
      have e1:=(Bk.at (Bk.at (Bk.at b0 0 (.slice (some ⟨g5,0,none⟩) k5 y1)) 1 (.slice j1 k5 x1)) 2 (.int .i64 e2))
      obtain ⟨z1,a2,b2⟩:=Bk.g3 e1
      clear e1
      have u1:=Lib.hid (((hD.sN (w.heap.size+1+1) 0 (.slice (some ⟨g5,0,none⟩) k5 y1)).sN (w.heap.size+1+1) 1 (.slice j1 k5 x1)).sN (w.heap.size+1+1) 2 (.int .i64 e2))
      have v1:=Lib.hid (((oL.keep (C1 (w.heap.size+1+1) 0 (.slice (some ⟨g5,0,none⟩) k5 y1)) (fun gq h h2=>by have:=iv5p gq h;omega)).keep (C1 (w.heap.size+1+1) 1 (.slice j1 k5 x1)) (fun gq h h2=>by have:=iv5p gq h;omega)).keep (C1 (w.heap.size+1+1) 2 (.int .i64 e2)) (fun gq h h2=>by have:=iv5p gq h;omega))
      clear hD oL
      go_wp2
      exact bodyPost_ret (v:=.agg #[.slice (some ⟨g5,0,none⟩) k5 y1,.slice j1 k5 x1,.int .i64 e2]) (by simp [results,Try.results167,go_sem,z1,a2,b2]) rfl (by exact ⟨(some ⟨g5,0,none⟩),j1,y1,x1,k5,_,rfl,v1.out,bB,by omega,by have:=p2.out;omega,u1.out⟩)
    skip
    obtain ⟨f5,f7,i5,g7,j5,i7⟩:=Bk.f3 a0 0 1 2 rfl rfl rfl
    obtain ⟨l5,j7,m5,k7⟩:=Bk.f2 e0 0 8 rfl rfl
    go_wp2_with fail
    refine (l7Add_any base _ _ _ _ k1 _ _ _ _ _ _ _ _ (((oL.keep (C1 (w.heap.size) 0 (.slice p0 k1 v0)) (fun gq h h2=>by have:=f0 gq h;omega)).keep (C1 (w.heap.size) 1 (.slice o0 k1 s0)) (fun gq h h2=>by have:=f0 gq h;omega)).keep (C1 (w.heap.size) 2 (.int .i64 (wrap64 (ap+1)))) (fun gq h h2=>by have:=f0 gq h;omega)) (by first | omega | (simp only [Sa,Ss];omega)) (by omega)).mono ?_
    rintro e w3 ⟨i0,h0,n0,m0,k2,rfl,f1,q0,rfl,hb⟩
    have d0:=chg_app (((hD.sN (w.heap.size) 0 (.slice p0 k1 v0)).sN (w.heap.size) 1 (.slice o0 k1 s0)).sN (w.heap.size) 2 (.int .i64 (wrap64 (ap+1)))) hb (fun q hq h=>by rcases a1 q h with h1 | h1;exact h1;omega)
    have y2:=hb.size
    simp only [Ss] at y2
    clear f7 f5 g7 i5 i7 j5 j7 l5 k7 m5
    replace a0:Bk w3 (w.heap.size) [.slice p0 k1 v0,.slice o0 k1 s0,.int .i64 (wrap64 (ap+1))]:=Bk.keep (Bk.at (Bk.at (Bk.at a0 0 (.slice p0 k1 v0)) 1 (.slice o0 k1 s0)) 2 (.int .i64 (wrap64 (ap+1)))) hb (fun h=>by have:=f0 _ h;omega)
    replace e0:=Bk.keep (Bk.nn (Bk.nn (Bk.nn e0 _) _) _) hb (fun h=>by have:=f0 _ h;omega)
    replace b0:=Bk.keep (Bk.nn (Bk.nn (Bk.nn b0 _) _) _) hb (fun h=>by have:=f0 _ h;omega)
    clear hb
    clear hD
    have hD:=d0;clear d0
    try simp only [Sa,Ss] at q0
    clear oL
    have oL:=f1;clear f1
    have y0:∀ q,L7B i0 h0 q→L7B la fa q∨w.heap.size≤q:=fun q h=>by rcases q0 q h with h1 | h1;exact a1 q h1;exact Or.inr (by omega)
    have g0:∀ q,L7B i0 h0 q→(q < w.heap.size∨w.heap.size+3≤q)∧q < w3.heap.size∧base≤q:=fun q h=>by have h2:=oL.lt q h;rcases q0 q h with h1 | h1;(have:=f0 q h1;omega);omega
    clear q0 f0 a1
    replace c2:=Bk.lz a0
    replace o2:=Bk.lz e0
    replace d2:=Bk.lz b0
    have t1:=Lib.hid (fun W hD la fa lc fc k ap dep g1 g2 g3=>z7.out W hD bp bc (by simp) la fa lc fc k ap dep g1 g2 g3)
    obtain ⟨n5,l7,o5,m7,p5,n7⟩:=Bk.f3 a0 0 1 2 rfl rfl rfl
    obtain ⟨q5,o7⟩:=Bk.cf e0 9 rfl
    go_wp2_with fail
    refine (t1.out _ (((hD.sN (w.heap.size) 0 (.slice i0 (k1+1) n0)).sN (w.heap.size) 1 (.slice h0 (k1+1) m0)).sN (w.heap.size) 2 (.int .i64 (wrap64 (ap+1)))) _ _ _ _ (k1+1) _ _ (((oL.keep (C1 (w.heap.size) 0 (.slice i0 (k1+1) n0)) (fun gq h h2=>by have:=g0 gq h;omega)).keep (C1 (w.heap.size) 1 (.slice h0 (k1+1) m0)) (fun gq h h2=>by have:=g0 gq h;omega)).keep (C1 (w.heap.size) 2 (.int .i64 (wrap64 (ap+1)))) (fun gq h h2=>by have:=g0 gq h;omega)) (by first | omega | (simp only [Sa,Ss];omega)) (by omega)).mono ?_
    rintro e w4 ⟨l0,j0,w0,u0,k3,b1,rfl,l1,x0,mC,sC,hb⟩
    have d0:=chg_app (((hD.sN (w.heap.size) 0 (.slice i0 (k1+1) n0)).sN (w.heap.size) 1 (.slice h0 (k1+1) m0)).sN (w.heap.size) 2 (.int .i64 (wrap64 (ap+1)))) hb (fun q hq h=>by rcases y0 q h with h1 | h1;exact h1;omega)
    have z2:=hb.size
    simp only [Ss] at z2
    clear l7 n5 m7 o5 n7 p5 o7 q5
    replace a0:Bk w4 (w.heap.size) [.slice i0 (k1+1) n0,.slice h0 (k1+1) m0,.int .i64 (wrap64 (ap+1))]:=Bk.keep (Bk.at (Bk.at (Bk.at a0 0 (.slice i0 (k1+1) n0)) 1 (.slice h0 (k1+1) m0)) 2 (.int .i64 (wrap64 (ap+1)))) hb (fun h=>by have:=g0 _ h;omega)
    replace e0:=Bk.keep (Bk.nn (Bk.nn (Bk.nn e0 _) _) _) hb (fun h=>by have:=g0 _ h;omega)
    replace b0:=Bk.keep (Bk.nn (Bk.nn (Bk.nn b0 _) _) _) hb (fun h=>by have:=g0 _ h;omega)
    clear hb
    clear hD
    have hD:=d0;clear d0
    try simp only [Sa,Ss] at x0
    clear oL
    have oL:=l1;clear l1
    have n1:∀ q,L7B l0 j0 q→L7B la fa q∨w.heap.size≤q:=fun q h=>by rcases x0 q h with h1 | h1;exact y0 q h1;exact Or.inr (by omega)
    have r0:∀ q,L7B l0 j0 q→(q < w.heap.size∨w.heap.size+3≤q)∧q < w4.heap.size∧base≤q:=fun q h=>by have h2:=oL.lt q h;rcases x0 q h with h1 | h1;(have:=g0 q h1;omega);omega
    clear x0 g0 y0
    clear e0
    clear t1
    replace c2:=Bk.lz a0
    replace d2:=Bk.lz b0
    obtain ⟨r5,p7,s5,q7,t5,r7⟩:=Bk.f3 a0 0 1 2 rfl rfl rfl
    go_wp2_with fail
    refine (l7Add_any base _ _ _ _ k3 _ _ _ _ _ _ _ _ (((oL.keep (C1 (w.heap.size) 0 (.slice l0 k3 w0)) (fun gq h h2=>by have:=r0 gq h;omega)).keep (C1 (w.heap.size) 1 (.slice j0 k3 u0)) (fun gq h h2=>by have:=r0 gq h;omega)).keep (C1 (w.heap.size) 2 (.int .i64 b1)) (fun gq h h2=>by have:=r0 gq h;omega)) (by first | omega | (simp only [Sa,Ss];omega)) (by omega)).mono ?_
    rintro e w5 ⟨m1,c1,s1,q1,k4,rfl,j3,l2,rfl,hb⟩
    have d0:=chg_app (((hD.sN (w.heap.size) 0 (.slice l0 k3 w0)).sN (w.heap.size) 1 (.slice j0 k3 u0)).sN (w.heap.size) 2 (.int .i64 b1)) hb (fun q hq h=>by rcases n1 q h with h1 | h1;exact h1;omega)
    have a3:=hb.size
    simp only [Ss] at a3
    clear p7 r5 q7 s5 r7 t5
    replace a0:Bk w5 (w.heap.size) [.slice l0 k3 w0,.slice j0 k3 u0,.int .i64 b1]:=Bk.keep (Bk.at (Bk.at (Bk.at a0 0 (.slice l0 k3 w0)) 1 (.slice j0 k3 u0)) 2 (.int .i64 b1)) hb (fun h=>by have:=r0 _ h;omega)
    replace b0:=Bk.keep (Bk.nn (Bk.nn (Bk.nn b0 _) _) _) hb (fun h=>by have:=r0 _ h;omega)
    clear hb
    clear hD
    have hD:=d0;clear d0
    try simp only [Sa,Ss] at l2
    clear oL
    have oL:=j3;clear j3
    have c3:∀ q,L7B m1 c1 q→L7B la fa q∨w.heap.size≤q:=fun q h=>by rcases l2 q h with h1 | h1;exact n1 q h1;exact Or.inr (by omega)
    have p1:∀ q,L7B m1 c1 q→(q < w.heap.size∨w.heap.size+3≤q)∧q < w5.heap.size∧base≤q:=fun q h=>by have h2:=oL.lt q h;rcases l2 q h with h1 | h1;(have:=r0 q h1;omega);omega
    clear l2 r0 n1
    clear a0
    obtain ⟨tB,fC,uB,gC,vB,hC⟩:=Bk.f3 b0 0 1 2 rfl rfl rfl
    have e1:=(Bk.at (Bk.at (Bk.at b0 0 (.slice m1 (k3+1) s1)) 1 (.slice c1 (k3+1) q1)) 2 (.int .i64 b1))
    obtain ⟨z1,a2,b2⟩:=Bk.g3 e1
    clear e1
    have u1:=Lib.hid (((hD.sN (w.heap.size+1+1) 0 (.slice m1 (k3+1) s1)).sN (w.heap.size+1+1) 1 (.slice c1 (k3+1) q1)).sN (w.heap.size+1+1) 2 (.int .i64 b1))
    have v1:=Lib.hid (((oL.keep (C1 (w.heap.size+1+1) 0 (.slice m1 (k3+1) s1)) (fun gq h h2=>by have:=p1 gq h;omega)).keep (C1 (w.heap.size+1+1) 1 (.slice c1 (k3+1) q1)) (fun gq h h2=>by have:=p1 gq h;omega)).keep (C1 (w.heap.size+1+1) 2 (.int .i64 b1)) (fun gq h h2=>by have:=p1 gq h;omega))
    clear hD oL
    go_wp2
    exact bodyPost_ret (v:=.agg #[.slice m1 (k3+1) s1,.slice c1 (k3+1) q1,.int .i64 b1]) (by simp [results,Try.results167,go_sem,z1,a2,b2]) rfl (by exact ⟨m1,c1,s1,q1,k3+1,_,rfl,v1.out,c3,by omega,by have:=p2.out;omega,u1.out⟩)
end Go.Proofs.Ytkjedgnepnbkpaa
