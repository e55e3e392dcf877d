/-
 Parts of the proofs of the laws FnCodeFenced,FnCountBranches.
-/
import Derived.Test.YtkjedgnepnbkpaaFS
import Derived.Test.YtkjedgnepnbkpaaZP
set_option linter.all false
namespace Go.Proofs.Ytkjedgnepnbkpaa
open Go.RowKit
theorem fence_small {c D:Cd} {ok:Bool} (h:fenceR c=(D,ok)) (h0:c.vars.length≤1000) (h1:c.arrays.length≤1000):D.vars.length≤1000∧D.arrays.length≤1000∧D.list.length≤400∧(ok=true→1≤D.list.length):=by
 by_cases hc:codeOk c=true∧cnt c.list c.list.length≤400
 ·rw [fenceR_yes hc] at h
  obtain ⟨rfl,rfl⟩:=Prod.mk.inj h
  have h2:=fenceTo_len c.list c.list.length (Nat.le_refl _)
  have h3:=(codeOk_len hc.1).1
  have h4:c.list.length≤cnt c.list c.list.length:=by
   have r2:∀ k,k≤cnt c.list k:=fun k=>by
    induction k with
    | zero=>simp
    | succ k ih=>simp only [cnt];split <;> omega
   exact r2 _
  simp only at h2 ⊢
  have h5:=hc.2
  refine ⟨h0,h1,?_,fun _=>?_⟩ <;> omega
 rw [fenceR_no hc] at h
 obtain ⟨rfl,rfl⟩:=Prod.mk.inj h
 simp [noCode]
set_option maxHeartbeats 6400000 in
set_option maxRecDepth 100000 in
theorem DrawCodeFenced_any (v:Value) (n:Nat) (vs:List Int) (w:World) (hr:Reads w 1 v n (vs.map (Value.int .u8))) (hv:∀ x ∈ vs,0≤x∧x < 256) (hn:n≤1048576) :
  Calls Try.prog 12 #[v] w fun r w'=>DrawCP w r w':=by
 go_enter Try.func12,Try.ntmps12
 go_wp2_with fail
 refine (l17Open_any v n vs _ (hr.below (bal (Bs w) (.cells #[.slice none 0 0,.slice none 0 0,.slice none 0 0] 26))) hv hn).mono ?_
 rintro e w1 ⟨g,rfl,hR,hb⟩
 try simp only [Sa] at hR
 have n1:=hb.size
 simp only [Sa] at n1
 have b0:Bk w1 (w.heap.size) [.slice none 0 0,.slice none 0 0,.slice none 0 0]:=Bk.below (Bk.nw (by simp) rfl) hb
 have p2:=btr (bal (Bs w) (.cells #[.slice none 0 0,.slice none 0 0,.slice none 0 0] 26)) hb
 clear hb
 have r1:=Bk.lz b0
 obtain ⟨B,hB⟩:∃ B,w.heap.size+1=B:=⟨_,rfl⟩;rw [hB] at hR;have b6:w.heap.size+1≤B:=(by omega);clear hB hr hv
 have hg:=hR.lt
 have hC:Chg (fun k=>k=g) w w1:=Chg.of_below p2
 have x0:∀ q,(fun k=>k=g) q→q=g:=fun q h=>h
 clear p2
 have t5:w.heap.size≤g:=by omega
 go_wp2_with fail
 refine (l8Jumps_any B g (0) _ hR (by omega)).mono ?_
 rintro e w2 ⟨c6,e6,g6,b3,z2,a3,q1,rfl,d1,z5,p5,u5,r0,x5,hc⟩
 try simp only [Sa,Ss] at d1
 obtain ⟨f5,j5,g5,k5,i5,l5,rfl,rfl,rfl⟩:=d1.shape
 replace hC:=(hC).trans hc
 replace hR:=r0;clear r0
 have s2:=hc.size
 replace b0:=Bk.kg b0 hc
 clear hc
 have v2:=d1.lt
 replace r1:=Bk.lz b0
 go_wp2_with fail
 refine (l6Mutate_of _ _ _ b3 z2 a3 _ B g (q1) _ d1 (by omega) (by omega) (by omega) (by omega) hR (by omega)).mono ?_
 rintro e w3 ⟨d6,f6,h6,u0,s0,t0,q2,rfl,c0,a6,q5,v5,r0,y5,hc⟩
 try simp only [Sa,Ss] at c0
 obtain ⟨k0,o0,m0,p0,n0,q0,rfl,rfl,rfl⟩:=c0.shape
 replace hC:=(hC).trans hc
 replace hR:=r0;clear r0
 have t2:=hc.size
 replace d1:=d1.keep hc (fun gq h h2=>by have:=v2 gq h;have:=x0 gq h2;omega)
 replace b0:=Bk.kg b0 hc
 clear hc
 have y0:=c0.lt
 replace r1:=Bk.lz b0
 clear d1
 obtain ⟨c,i1⟩:=RdC.of c0 (by omega) (by omega) (by omega)
 obtain ⟨D,ok,m1⟩:∃ D ok,fenceR c=(D,ok):=⟨_,_,rfl⟩
 obtain ⟨m5,n5,o5,j2⟩:=fence_small m1 i1.l0 i1.l1
 have i2:=Lib.hid m1;have j1:=Lib.hid j2;clear m1 j2
 have g1:=sFence_any _ _ _ c _ (i1.r.below (bal (Bs w3) (.cells #[.slice k0 u0 o0,.slice m0 s0 p0,.slice n0 t0 q0] 26)))
 rw [i2.out] at g1;dsimp only at g1
 go_wp2_with fail
 refine (g1).mono ?_
 rintro e w4 ⟨fa,fb,fc,rfl,oF,hb⟩
 clear g1 i1 i2
 have hd:=DrawC.of oF;clear oF
 try simp only [Sa,Ss] at hd
 clear c
 generalize D.vars.length=dv at *;generalize D.arrays.length=da at *;generalize D.list.length=dl at *
 clear D
 obtain ⟨e0,g0,f0,i0,v0,d0,rfl,rfl,rfl⟩:=hd.shape
 replace hC:=((hC.trans (Chg.of_below (bal (Bs _) _)))).trans (Chg.of_below hb)
 replace hR:=(hR.below (bal (Bs _) _)).below hb
 have o1:=hb.size
 simp only [Sa] at o1
 replace c0:=(c0.below (bal (Bs _) _)).below hb
 replace b0:=Bk.below (Bk.al b0 _) hb
 have w0:Bk w4 (w3.heap.size) [.slice k0 u0 o0,.slice m0 s0 p0,.slice n0 t0 q0]:=Bk.below (Bk.nw (by simp) rfl) hb
 clear hb
 replace r1:=Bk.lz b0
 have x2:=Bk.lz w0
 have iD:=hd.lt
 try simp only [Sa,Ss] at iD
 cases ok with
 | false =>
  clear j1
  clear hd
  have tC:=((((hC.sN (w.heap.size) (0) (.slice k0 u0 o0)).sN (w.heap.size) (1) (.slice m0 s0 p0)).sN (w.heap.size) (2) (.slice n0 t0 q0)).trans (Chg.of_below (bal (Bs _) (.cells #[.slice e0 dv g0,.slice f0 da i0,.slice v0 dl d0] 26))))
  have tb:=tC.below w.heap.size (Nat.le_refl _) (fun k hk h=>by have:=x0 k h;omega)
  have TB:=Lib.hid tb;clear tC tb hC
  clear hR
  have c1:=Lib.hid (DrawC.mono ((((c0.keep (C1 (w.heap.size) 0 (.slice k0 u0 o0)) (fun gq h h2=>by have:=y0 gq h;omega)).keep (C1 (w.heap.size) 1 (.slice m0 s0 p0)) (fun gq h h2=>by have:=y0 gq h;omega)).keep (C1 (w.heap.size) 2 (.slice n0 t0 q0)) (fun gq h h2=>by have:=y0 gq h;omega)).below (bal (Bs _) (.cells #[.slice e0 dv g0,.slice f0 da i0,.slice v0 dl d0] 26))) (show w.heap.size≤_ by omega))
  clear c0
  obtain ⟨s1,r3,t1,s3,u1,t3⟩:=Bk.f3 b0 0 1 2 rfl rfl rfl
  obtain ⟨e3,u3,g3,v3,i3,x3⟩:=Bk.f3 w0 0 1 2 rfl rfl rfl
  have q4:=(Ac (Nn (b:=(w.heap.size)) (j:=2) (Nn (b:=(w.heap.size)) (j:=1) (Tc _ (w.heap.size) 0 (.slice k0 u0 o0) s1) (.slice m0 s0 p0)) (.slice n0 t0 q0)) (.cells #[.slice e0 dv g0,.slice f0 da i0,.slice v0 dl d0] 26))
  have r4:=(Ac (Nn (b:=(w.heap.size)) (j:=2) (Tc _ (w.heap.size) 1 (.slice m0 s0 p0) (Nn (b:=(w.heap.size)) (j:=0) t1 (.slice k0 u0 o0))) (.slice n0 t0 q0)) (.cells #[.slice e0 dv g0,.slice f0 da i0,.slice v0 dl d0] 26))
  have s4:=(Ac (Tc _ (w.heap.size) 2 (.slice n0 t0 q0) (Nn (b:=(w.heap.size)) (j:=1) (Nn (b:=(w.heap.size)) (j:=0) u1 (.slice k0 u0 o0)) (.slice m0 s0 p0))) (.cells #[.slice e0 dv g0,.slice f0 da i0,.slice v0 dl d0] 26))
  have tt:=True.intro
  go_wp2
  exact bodyPost_ret (v:=.agg #[.slice k0 u0 o0,.slice m0 s0 p0,.slice n0 t0 q0]) (by simp [results,Try.results12,go_sem,q4,r4,s4]) rfl (by exact by unfold DrawCP;exact ⟨_,_,_,_,_,_,rfl,c1.out,⟨by omega,by omega,by omega⟩,TB.out⟩)
 | true =>
  have r5:1≤dl:=j1.out rfl;clear j1
  go_wp2_with fail
  refine (pick_any _ _ B g (q2) (hR.below (bal (Bs _) (.cells #[.slice e0 dv g0,.slice f0 da i0,.slice v0 dl d0] 26))) (by omega) (by omega) (by omega)).mono ?_
  rintro e w5 ⟨z0,i6,j6,rfl,r0,hc⟩
  replace hC:=((hC.trans (Chg.of_below (bal (Bs _) _)))).trans hc
  replace hR:=r0;clear r0
  have e1:=hc.size
  simp only [Sa] at e1
  replace c0:=(c0.below (bal (Bs _) _)).keep hc (fun gq h h2=>by have:=y0 gq h;have:=x0 gq h2;omega)
  replace hd:=(hd.below (bal (Bs _) _)).keep hc (fun gq h h2=>by have:=iD gq h;have:=x0 gq h2;omega)
  replace b0:=Bk.kg (Bk.al b0 _) hc
  replace w0:=Bk.kg (Bk.al w0 _) hc
  have a0:Bk w5 (w4.heap.size) [.slice e0 dv g0,.slice f0 da i0,.slice v0 dl d0]:=Bk.kg (Bk.nw (by simp) rfl) hc
  clear hc
  have y2:=Bk.lz a0
  by_cases hk0:z0=0
  ·have c3:(z0 == 0)=true:=by simp [hk0]
   go_wp2_with fail
   refine (pick_any _ _ B g (q2+1) hR (by omega) (by omega) (by omega)).mono ?_
   rintro e w6 ⟨z1,k6,l6,rfl,r0,hc⟩
   replace hC:=(hC).trans hc
   replace hR:=r0;clear r0
   have l2:=hc.size
   replace c0:=c0.keep hc (fun gq h h2=>by have:=y0 gq h;have:=x0 gq h2;omega)
   replace hd:=hd.keep hc (fun gq h h2=>by have:=iD gq h;have:=x0 gq h2;omega)
   replace b0:=Bk.kg b0 hc
   replace w0:=Bk.kg w0 hc
   replace a0:=Bk.kg a0 hc
   clear hc
   by_cases hk1:z1=0
   ·have d3:(z1 == 0)=true:=by simp [hk1]
    obtain ⟨gl,rfl⟩:=hd.pos (by omega)
    have s5:=iD gl (Or.inr (Or.inr rfl))
    go_upto_region 6 with (fail)
    have j0:=Bk.cell a0 2 (v:=.slice (some ⟨gl,0,none⟩) dl d0) rfl
    refine wp_region_noPanic ?_
    refine wp_region_held_drew (S:=(fun W'=>W'.cell? ⟨w4.heap.size,2,none⟩=some (.slice (some ⟨gl,0,none⟩) dl d0))) (by kernel_rfl) (Kc (Below.drew (Bs w6)) j0) (fun hHeld=>?_)
    obtain ⟨w7,p1⟩:∃ X,X=World.drew w6:=⟨_,rfl⟩
    rw [← p1] at hHeld ⊢
    have hb:Below w6.heap.size w6 w7:=by rw [p1];exact Below.drew (Bs _)
    clear p1
    replace hC:=(hC).trans (Chg.of_below hb)
    replace hR:=hR.below hb
    replace hd:=DrawC.below hd hb
    have m2:=hb.size
    replace c0:=c0.below hb
    replace j0:=Kc hb j0
    replace b0:=Bk.below b0 hb
    replace w0:=Bk.below w0 hb
    replace a0:=Bk.below a0 hb
    clear hb
    refine (tq 0 27 rfl rfl ?_ ?_ (tq 1 28 rfl rfl ?_ ?_ (tq 2 29 rfl rfl ?_ ?_ (tq 3 30 rfl rfl ?_ ?_ (tq 4 31 rfl rfl ?_ ?_ (tq 5 32 rfl rfl ?_ ?_ ?_))))))
    iterate 6 (rotate_left;intro W' hSw;(try dsimp only at hSw);go_simp;try with_reducible rfl)
    try simp only [Ep]
    refine Rdy 6 rfl (fun K hK=>?_)
    go_simp
    refine (pick_any _ _ B g (q2+1+1) hR (by omega) (by omega) (by omega)).mono ?_
    rintro e w8 ⟨zi,d5,e5,rfl,r0,hc⟩
    replace hC:=(hC).trans hc
    replace hR:=r0;clear r0
    replace hd:=DrawC.keep hd hc (fun q h h2=>by have:=iD q h;have:=x0 q h2;omega)
    have n2:=hc.size
    replace c0:=c0.keep hc (fun gq h h2=>by have:=y0 gq h;have:=x0 gq h2;omega)
    replace j0:=Gg hc j0
    replace b0:=Bk.kg b0 hc
    replace w0:=Bk.kg w0 hc
    replace a0:=Bk.kg a0 hc
    clear hc
    obtain ⟨ti,o2⟩:∃ ti:Nat,zi=ti:=⟨zi.toNat,by omega⟩
    subst o2
    have o2:ti < dl:=by omega
    have u2:(ti:Int) < (dl:Int):=by omega
    clear d5 e5
    refine hK.out _ _ (j0) (fun hHeld=>?_)
    clear hK K
    try simp only [Ep]
    refine (tq 7 34 rfl rfl ?_ ?_ (tq 8 35 rfl rfl ?_ ?_ ?_))
    iterate 2 (rotate_left;intro W' hSw;(try dsimp only at hSw);go_simp;try with_reducible rfl)
    try simp only [Ep]
    refine Rdy 9 rfl (fun K hK=>?_)
    obtain ⟨⟨k1,b1⟩,a1⟩:=hd.at (ti) 0 (by omega) (by omega)
    replace b1:w8.cell? ⟨gl,ti*5,none⟩=some (.int .i64 k1):=b1;replace a1:w8.frozen? ⟨gl,ti*5,none⟩=false:=a1
    go_simp
    obtain ⟨w9,k2,hb⟩:=nmw (World.setCell w8 ⟨gl,ti*5,none⟩ (.int .i64 13))
    replace hC:=((hC.sN _ _ _)).trans (Chg.of_below hb)
    replace hR:=(hR.kC _ _ _).below hb
    replace hd:=DrawC.below (DrawC.put hd (ti) 0 (by omega) (by omega) (13)) hb
    have f1:=hb.size
    simp only [Ss] at f1
    replace c0:=(c0.keep (C1 _ _ _) (fun gq h h2=>by have:=y0 gq h;omega)).below hb
    replace j0:=Kc hb (Nn j0 _)
    replace b0:=Bk.below (Bk.nn b0 _) hb
    replace w0:=Bk.below (Bk.nn w0 _) hb
    replace a0:=Bk.below (Bk.nn a0 _) hb
    clear hb
    rw [← k2]
    clear k2
    refine hK.out _ _ (j0) (fun hHeld=>?_)
    clear hK K
    try simp only [Ep]
    refine Dn ?_
    clear hHeld
    clear c0
    have tC:=(((hC.sN (w.heap.size) (0) (.slice e0 dv g0)).sN (w.heap.size) (1) (.slice f0 da i0)).sN (w.heap.size) (2) (.slice (some ⟨gl,0,none⟩) dl d0))
    have tb:=tC.below w.heap.size (Nat.le_refl _) (fun k hk h=>by have:=x0 k h;omega)
    have TB:=Lib.hid tb;clear tC tb hC
    clear hR
    have c1:=Lib.hid (DrawC.mono (((hd.keep (C1 (w.heap.size) 0 (.slice e0 dv g0)) (fun gq h h2=>by have:=iD gq h;omega)).keep (C1 (w.heap.size) 1 (.slice f0 da i0)) (fun gq h h2=>by have:=iD gq h;omega)).keep (C1 (w.heap.size) 2 (.slice (some ⟨gl,0,none⟩) dl d0)) (fun gq h h2=>by have:=iD gq h;omega)) (show w.heap.size≤_ by omega))
    clear hd
    obtain ⟨v1,y3,x1,z3,y1,a4⟩:=Bk.f3 b0 0 1 2 rfl rfl rfl
    obtain ⟨j3,b4,k3,c4⟩:=Bk.f2 a0 0 1 rfl rfl
    have t4:=(Nn (b:=(w.heap.size)) (j:=2) (Nn (b:=(w.heap.size)) (j:=1) (Tc _ (w.heap.size) 0 (.slice e0 dv g0) v1) (.slice f0 da i0)) (.slice (some ⟨gl,0,none⟩) dl d0))
    have u4:=(Nn (b:=(w.heap.size)) (j:=2) (Tc _ (w.heap.size) 1 (.slice f0 da i0) (Nn (b:=(w.heap.size)) (j:=0) x1 (.slice e0 dv g0))) (.slice (some ⟨gl,0,none⟩) dl d0))
    have v4:=(Tc _ (w.heap.size) 2 (.slice (some ⟨gl,0,none⟩) dl d0) (Nn (b:=(w.heap.size)) (j:=1) (Nn (b:=(w.heap.size)) (j:=0) y1 (.slice e0 dv g0)) (.slice f0 da i0)))
    have tt:=True.intro
    go_wp2
    exact bodyPost_ret (v:=.agg #[.slice e0 dv g0,.slice f0 da i0,.slice (some ⟨gl,0,none⟩) dl d0]) (by simp [results,Try.results12,go_sem,t4,u4,v4]) rfl (by exact by unfold DrawCP;exact ⟨_,_,_,_,_,_,rfl,c1.out,⟨by omega,by omega,by omega⟩,TB.out⟩)
   have d3:(z1 == 0)=false:=by simp [hk1]
   clear c0
   have tC:=(((hC.sN (w.heap.size) (0) (.slice e0 dv g0)).sN (w.heap.size) (1) (.slice f0 da i0)).sN (w.heap.size) (2) (.slice v0 dl d0))
   have tb:=tC.below w.heap.size (Nat.le_refl _) (fun k hk h=>by have:=x0 k h;omega)
   have TB:=Lib.hid tb;clear tC tb hC
   clear hR
   have c1:=Lib.hid (DrawC.mono (((hd.keep (C1 (w.heap.size) 0 (.slice e0 dv g0)) (fun gq h h2=>by have:=iD gq h;omega)).keep (C1 (w.heap.size) 1 (.slice f0 da i0)) (fun gq h h2=>by have:=iD gq h;omega)).keep (C1 (w.heap.size) 2 (.slice v0 dl d0)) (fun gq h h2=>by have:=iD gq h;omega)) (show w.heap.size≤_ by omega))
   clear hd
   obtain ⟨a2,d4,b2,e4,c2,f4⟩:=Bk.f3 b0 0 1 2 rfl rfl rfl
   obtain ⟨l3,g4,m3,i4,n3,j4⟩:=Bk.f3 a0 0 1 2 rfl rfl rfl
   have x4:=(Nn (b:=(w.heap.size)) (j:=2) (Nn (b:=(w.heap.size)) (j:=1) (Tc _ (w.heap.size) 0 (.slice e0 dv g0) a2) (.slice f0 da i0)) (.slice v0 dl d0))
   have y4:=(Nn (b:=(w.heap.size)) (j:=2) (Tc _ (w.heap.size) 1 (.slice f0 da i0) (Nn (b:=(w.heap.size)) (j:=0) b2 (.slice e0 dv g0))) (.slice v0 dl d0))
   have z4:=(Tc _ (w.heap.size) 2 (.slice v0 dl d0) (Nn (b:=(w.heap.size)) (j:=1) (Nn (b:=(w.heap.size)) (j:=0) c2 (.slice e0 dv g0)) (.slice f0 da i0)))
   have tt:=True.intro
   go_wp2
   exact bodyPost_ret (v:=.agg #[.slice e0 dv g0,.slice f0 da i0,.slice v0 dl d0]) (by simp [results,Try.results12,go_sem,x4,y4,z4]) rfl (by exact by unfold DrawCP;exact ⟨_,_,_,_,_,_,rfl,c1.out,⟨by omega,by omega,by omega⟩,TB.out⟩)
  have c3:(z0 == 0)=false:=by simp [hk0]
  clear hd
  have tC:=(((hC.sN (w.heap.size) (0) (.slice k0 u0 o0)).sN (w.heap.size) (1) (.slice m0 s0 p0)).sN (w.heap.size) (2) (.slice n0 t0 q0))
  have tb:=tC.below w.heap.size (Nat.le_refl _) (fun k hk h=>by have:=x0 k h;omega)
  have TB:=Lib.hid tb;clear tC tb hC
  clear hR
  have c1:=Lib.hid (DrawC.mono (((c0.keep (C1 (w.heap.size) 0 (.slice k0 u0 o0)) (fun gq h h2=>by have:=y0 gq h;omega)).keep (C1 (w.heap.size) 1 (.slice m0 s0 p0)) (fun gq h h2=>by have:=y0 gq h;omega)).keep (C1 (w.heap.size) 2 (.slice n0 t0 q0)) (fun gq h h2=>by have:=y0 gq h;omega)) (show w.heap.size≤_ by omega))
  clear c0
  obtain ⟨d2,k4,e2,l4,g2,m4⟩:=Bk.f3 b0 0 1 2 rfl rfl rfl
  obtain ⟨o3,n4,p3,o4,q3,p4⟩:=Bk.f3 w0 0 1 2 rfl rfl rfl
  have a5:=(Nn (b:=(w.heap.size)) (j:=2) (Nn (b:=(w.heap.size)) (j:=1) (Tc _ (w.heap.size) 0 (.slice k0 u0 o0) d2) (.slice m0 s0 p0)) (.slice n0 t0 q0))
  have b5:=(Nn (b:=(w.heap.size)) (j:=2) (Tc _ (w.heap.size) 1 (.slice m0 s0 p0) (Nn (b:=(w.heap.size)) (j:=0) e2 (.slice k0 u0 o0))) (.slice n0 t0 q0))
  have c5:=(Tc _ (w.heap.size) 2 (.slice n0 t0 q0) (Nn (b:=(w.heap.size)) (j:=1) (Nn (b:=(w.heap.size)) (j:=0) g2 (.slice k0 u0 o0)) (.slice m0 s0 p0)))
  have tt:=True.intro
  go_wp2
  exact bodyPost_ret (v:=.agg #[.slice k0 u0 o0,.slice m0 s0 p0,.slice n0 t0 q0]) (by simp [results,Try.results12,go_sem,a5,b5,c5]) rfl (by exact by unfold DrawCP;exact ⟨_,_,_,_,_,_,rfl,c1.out,⟨by omega,by omega,by omega⟩,TB.out⟩)
end Go.Proofs.Ytkjedgnepnbkpaa
