/-
 Parts of the proofs of the laws FnCompactRegs,FnFenceCode,FnRunTimeSteps.
-/
import Derived.Test.YtkjedgnepnbkpaaGreatZA
import Derived.Test.YtkjedgnepnbkpaaGreatZB
import Derived.Test.YtkjedgnepnbkpaaGreatZPq1
set_option maxHeartbeats 12800000
set_option maxRecDepth 100000
set_option linter.all false
namespace Go.Proofs.YtkjedgnepnbkpaaGreat
open Go.RowKit
theorem DrawStartMachine_any (v:Value) (n:Nat) (vs:List Int) (w:World) (hr:Reads w 1 v n (vs.map (Value.int .u8))) (hv:∀ x ∈ vs,0≤x∧x < 256) (hn:n≤1048576) :
  Calls Tryz.prog 63 #[v] w fun r w'=>DrawCMP w r w':=by
 go_enter Tryz.func63,Tryz.ntmps63
 go_wp2_with fail
 refine (l17Open_any v n vs _ (hr.below (bal (bal (Bs w) (.cells #[.slice none 0 0,.slice none 0 0,.slice none 0 0] 26)) (.cells #[.slice none 0 0,.slice none 0 0] 29))) hv hn).mono ?_
 rintro e w1 ⟨g,rfl,hR,hb⟩
 try simp only [Sa] at hR
 have v1:=hb.size
 simp only [Sa] at v1
 have a0:Bk w1 (w.heap.size) [.slice none 0 0,.slice none 0 0,.slice none 0 0]:=Bk.below (Bk.al (Bk.nw (by simp) rfl) (.cells #[.slice none 0 0,.slice none 0 0] 29)) hb
 have b0:Bk w1 (w.heap.size+1) [.slice none 0 0,.slice none 0 0]:=Bk.below (Bk.nw (by simp) rfl) hb
 have i3:=btr (bal (bal (Bs w) (.cells #[.slice none 0 0,.slice none 0 0,.slice none 0 0] 26)) (.cells #[.slice none 0 0,.slice none 0 0] 29)) hb
 clear hb
 have f1:=Bk.lz a0
 have g1:=Bk.lz b0
 obtain ⟨B,hB⟩:∃ B,w.heap.size+1+1=B:=⟨_,rfl⟩;rw [hB] at hR;have p4:w.heap.size+1+1≤B:=(by omega);clear hB hr hv
 have hg:=hR.lt
 have hC:Chg (fun k=>k=g) w w1:=Chg.of_below i3
 have v0:∀ q,(fun k=>k=g) q→q=g:=fun q h=>h
 clear i3
 have e4:w.heap.size≤g:=by omega
 go_wp2_with fail
 refine (l6Code_any B g (0) _ hR (by omega)).mono ?_
 rintro e w2 ⟨va,vb,vl,x0,w0,h1,q1,rfl,j0,n4,c4,f4,l0,l4,hc⟩
 try simp only [Sa,Ss] at j0
 obtain ⟨y0,a1,z0,b1,i1,m1,rfl,rfl,rfl⟩:=j0.shape
 replace hC:=(hC).trans hc
 replace hR:=l0;clear l0
 have p3:=hc.size
 replace a0:=Bk.kg a0 hc
 replace b0:=Bk.kg b0 hc
 clear hc
 have p0:=j0.lt
 replace f1:=Bk.lz a0
 replace g1:=Bk.lz b0
 go_wp2_with fail
 refine (l6Heads_any y0 z0 i1 x0 w0 h1 a1 b1 m1 _).mono ?_
 rintro e w3 ⟨rfl,hb⟩
 replace hC:=((hC.trans (Chg.of_below (bal (Bs _) _)))).trans (Chg.of_below hb)
 replace hR:=(hR.below (bal (Bs _) _)).below hb
 have x1:=hb.size
 simp only [Sa] at x1
 replace j0:=(j0.below (bal (Bs _) _)).below hb
 replace a0:=Bk.below (Bk.al a0 _) hb
 replace b0:=Bk.below (Bk.al b0 _) hb
 have i0:Bk w3 (w2.heap.size) [.slice y0 x0 a1,.slice z0 w0 b1,.slice i1 h1 m1]:=Bk.below (Bk.nw (by simp) rfl) hb
 clear hb
 replace f1:=Bk.lz a0
 replace g1:=Bk.lz b0
 have u0:=Bk.lz i0
 go_wp2_with fail
 refine (l3Memory_any y0 z0 x0 a1 w0 b1 (.slice none 0 0) B g (q1) _ hR (by omega) (by omega) (by omega)).mono ?_
 rintro e w4 ⟨ux,uy,us,m,p1,rfl,oM,l3,m3,c3,l0,j4,hc⟩
 try simp only [Sa,Ss] at oM
 obtain ⟨px,tx,py,ty,rfl,rfl⟩:=oM.shape
 have b3:Hid (∀ r ∈ m.arrs,3≤r.length∧r.length≤4):=Lib.hid (fun r hr=>by have:=c3 r hr;omega)
 clear c3
 have n3:m.vals.length≤1000:=by omega
 have o3:m.arrs.length≤1000:=by omega
 clear l3 m3
 replace hC:=(hC).trans hc
 replace hR:=l0;clear l0
 have d3:=hc.size
 replace j0:=j0.keep hc (fun gq h h2=>by have:=p0 gq h;have:=v0 gq h2;omega)
 replace a0:=Bk.kg a0 hc
 replace b0:=Bk.kg b0 hc
 replace i0:=Bk.kg i0 hc
 clear hc
 have z1:=oM.lt
 replace f1:=Bk.lz a0
 replace g1:=Bk.lz b0
 replace u0:=Bk.lz i0
 go_wp2_with fail
 refine (l3Bend_any _ _ m B g (p1) _ (DrM.of oM (by omega) (by omega) b3.out).reads (by omega) (by omega) b3.out hR (by omega)).mono ?_
 rintro e w5 ⟨ua,ub,m2,p8,rfl,k0,h4,i4,l0,k4,hc⟩
 try simp only [Sa,Ss] at k0
 obtain ⟨q0,s0,r0,t0,rfl,rfl⟩:=k0.reads.shape
 replace hC:=(hC).trans hc
 replace hR:=l0;clear l0
 have e3:=hc.size
 replace j0:=j0.keep hc (fun gq h h2=>by have:=p0 gq h;have:=v0 gq h2;omega)
 replace oM:=oM.keep hc (fun gq h h2=>by have:=z1 gq h;have:=v0 gq h2;omega)
 replace a0:=Bk.kg a0 hc
 replace b0:=Bk.kg b0 hc
 replace i0:=Bk.kg i0 hc
 clear hc
 replace f1:=Bk.lz a0
 replace g1:=Bk.lz b0
 replace u0:=Bk.lz i0
 clear oM
 go_upto_region 4 with (fail)
 obtain ⟨w6,o0,hb⟩:=nmw (World.alloc w5 (.cells #[.slice q0 m2.vals.length s0,.slice r0 m2.arrs.length t0] 29))
 replace hC:=((hC.trans (Chg.of_below (bal (Bs _) _)))).trans (Chg.of_below hb)
 replace hR:=(hR.below (bal (Bs _) _)).below hb
 have c1:=hb.size
 simp only [Sa] at c1
 replace j0:=(j0.below (bal (Bs _) _)).below hb
 replace k0:=(k0.below (bal (Bs _) _)).below hb
 replace a0:=Bk.below (Bk.al a0 _) hb
 replace b0:=Bk.below (Bk.al b0 _) hb
 replace i0:=Bk.below (Bk.al i0 _) hb
 have c0:Bk w6 (w5.heap.size) [.slice q0 m2.vals.length s0,.slice r0 m2.arrs.length t0]:=Bk.below (Bk.nw (by simp) rfl) hb
 clear hb
 rw [← o0]
 clear o0
 have d0:=Bk.cell i0 0 (v:=.slice y0 x0 a1) rfl
 have e0:=Bk.cell i0 1 (v:=.slice z0 w0 b1) rfl
 have f0:=Bk.cell i0 2 (v:=.slice i1 h1 m1) rfl
 have g0:=Bk.cell c0 0 (v:=.slice q0 m2.vals.length s0) rfl
 have h0:=Bk.cell c0 1 (v:=.slice r0 m2.arrs.length t0) rfl
 have a2:=Bk.lz c0
 refine wp_region_noPanic ?_
 refine wp_region_held_drew (S:=(fun W'=>W'.cell? ⟨w2.heap.size,0,none⟩=some (.slice y0 x0 a1)∧W'.cell? ⟨w2.heap.size,1,none⟩=some (.slice z0 w0 b1)∧W'.cell? ⟨w2.heap.size,2,none⟩=some (.slice i1 h1 m1)∧W'.cell? ⟨w5.heap.size,0,none⟩=some (.slice q0 m2.vals.length s0)∧W'.cell? ⟨w5.heap.size,1,none⟩=some (.slice r0 m2.arrs.length t0))) (by kernel_rfl) ⟨Kc (Below.drew (Bs w6)) d0,Kc (Below.drew (Bs w6)) e0,Kc (Below.drew (Bs w6)) f0,Kc (Below.drew (Bs w6)) g0,Kc (Below.drew (Bs w6)) h0⟩ (fun hHeld=>?_)
 obtain ⟨w7,y1⟩:∃ X,X=World.drew w6:=⟨_,rfl⟩
 rw [← y1] at hHeld ⊢
 have hb:Below w6.heap.size w6 w7:=by rw [y1];exact Below.drew (Bs _)
 clear y1
 replace hC:=(hC).trans (Chg.of_below hb)
 replace hR:=hR.below hb
 have g3:=hb.size
 replace j0:=j0.below hb
 replace k0:=k0.below hb
 replace d0:=Kc hb d0
 replace e0:=Kc hb e0
 replace f0:=Kc hb f0
 replace g0:=Kc hb g0
 replace h0:=Kc hb h0
 replace a0:=Bk.below a0 hb
 replace b0:=Bk.below b0 hb
 replace i0:=Bk.below i0 hb
 replace c0:=Bk.below c0 hb
 clear hb
 replace f1:=Bk.lz a0
 replace g1:=Bk.lz b0
 replace u0:=Bk.lz i0
 replace a2:=Bk.lz c0
 refine (tq 0 17 rfl rfl ?_ ?_ (tq 1 18 rfl rfl ?_ ?_ (tq 3 20 rfl rfl ?_ ?_ ?_)))
 iterate 3 (rotate_left;intro W' hSw;(try dsimp only at hSw);go_simp;try with_reducible rfl)
 try simp only [Ep]
 refine Rdy 2 rfl (fun K hK=>?_)
 go_simp
 refine (l6Mutate_of _ _ _ x0 w0 h1 _ B g (p8) _ j0 (by omega) (by omega) (by omega) (by omega) hR (by omega)).mono ?_
 rintro e w8 ⟨q4,r4,s4,u1,s1,t1,q2,rfl,n0,o4,d4,g4,l0,m4,hc⟩
 try simp only [Sa,Ss] at n0
 obtain ⟨j1,n1,k1,o1,l1,r1,rfl,rfl,rfl⟩:=n0.shape
 replace hC:=(hC).trans hc
 replace hR:=l0;clear l0
 have h3:=hc.size
 replace j0:=j0.keep hc (fun gq h h2=>by have:=p0 gq h;have:=v0 gq h2;omega)
 replace k0:=k0.keep hc (fun gq h h2=>by have:=(fun q (h:w4.heap.size≤q)=>h) gq h;have:=v0 gq h2;omega)
 replace d0:=Gg hc d0
 replace e0:=Gg hc e0
 replace f0:=Gg hc f0
 replace g0:=Gg hc g0
 replace h0:=Gg hc h0
 replace a0:=Bk.kg a0 hc
 replace b0:=Bk.kg b0 hc
 replace i0:=Bk.kg i0 hc
 replace c0:=Bk.kg c0 hc
 clear hc
 have m0:=n0.lt
 clear hR
 refine hK.out _ _ ⟨d0,e0,f0,g0,h0⟩ (fun hHeld=>?_)
 clear hK K
 try simp only [Ep]
 refine Rdy 4 rfl (fun K hK=>?_)
 obtain ⟨b2,s2,c2,t2,d2,u2⟩:=Bk.f3 a0 0 1 2 rfl rfl rfl
 go_simp
 obtain ⟨w9,o0,hb⟩:=nmw (World.setCell (World.setCell (World.setCell w8 ⟨w.heap.size,0,none⟩ (.slice j1 u1 n1)) ⟨w.heap.size,1,none⟩ (.slice k1 s1 o1)) ⟨w.heap.size,2,none⟩ (.slice l1 t1 r1))
 replace hC:=((((hC.sN _ _ _).sN _ _ _).sN _ _ _)).trans (Chg.of_below hb)
 have d1:=hb.size
 simp only [Ss] at d1
 clear s2 b2 t2 c2 u2 d2
 replace j0:=(((j0.keep (C1 _ _ _) (fun gq h h2=>by have:=p0 gq h;omega)).keep (C1 _ _ _) (fun gq h h2=>by have:=p0 gq h;omega)).keep (C1 _ _ _) (fun gq h h2=>by have:=p0 gq h;omega)).below hb
 replace k0:=(((k0.keep (C1 _ _ _) (fun gq h h2=>by have:=(fun q (h:w4.heap.size≤q)=>h) gq h;omega)).keep (C1 _ _ _) (fun gq h h2=>by have:=(fun q (h:w4.heap.size≤q)=>h) gq h;omega)).keep (C1 _ _ _) (fun gq h h2=>by have:=(fun q (h:w4.heap.size≤q)=>h) gq h;omega)).below hb
 replace d0:=Kc hb (Nn (Nn (Nn d0 _) _) _)
 replace e0:=Kc hb (Nn (Nn (Nn e0 _) _) _)
 replace f0:=Kc hb (Nn (Nn (Nn f0 _) _) _)
 replace g0:=Kc hb (Nn (Nn (Nn g0 _) _) _)
 replace h0:=Kc hb (Nn (Nn (Nn h0 _) _) _)
 replace n0:=(((n0.keep (C1 _ _ _) (fun gq h h2=>by have:=m0 gq h;omega)).keep (C1 _ _ _) (fun gq h h2=>by have:=m0 gq h;omega)).keep (C1 _ _ _) (fun gq h h2=>by have:=m0 gq h;omega)).below hb
 replace a0:Bk w9 (w.heap.size) [.slice j1 u1 n1,.slice k1 s1 o1,.slice l1 t1 r1]:=Bk.below (Bk.at (Bk.at (Bk.at a0 0 (.slice j1 u1 n1)) 1 (.slice k1 s1 o1)) 2 (.slice l1 t1 r1)) hb
 replace b0:=Bk.below (Bk.nn (Bk.nn (Bk.nn b0 _) _) _) hb
 replace i0:=Bk.below (Bk.nn (Bk.nn (Bk.nn i0 _) _) _) hb
 replace c0:=Bk.below (Bk.nn (Bk.nn (Bk.nn c0 _) _) _) hb
 clear hb
 rw [← o0]
 clear o0
 refine hK.out _ _ ⟨d0,e0,f0,g0,h0⟩ (fun hHeld=>?_)
 clear hK K
 try simp only [Ep]
 refine Rdy 5 rfl (fun K hK=>?_)
 obtain ⟨e2,v2,g2,x2,i2,y2⟩:=Bk.f3 a0 0 1 2 rfl rfl rfl
 obtain ⟨j2,z2,k2,a3⟩:=Bk.f2 b0 0 1 rfl rfl
 go_simp
 obtain ⟨v3,o0,hb⟩:=nmw (World.setCell (World.setCell w9 ⟨w.heap.size+1,0,none⟩ (.slice q0 m2.vals.length s0)) ⟨w.heap.size+1,1,none⟩ (.slice r0 m2.arrs.length t0))
 replace hC:=(((hC.sN _ _ _).sN _ _ _)).trans (Chg.of_below hb)
 have e1:=hb.size
 simp only [Ss] at e1
 clear v2 e2 x2 g2 y2 i2 z2 j2 a3 k2
 replace j0:=((j0.keep (C1 _ _ _) (fun gq h h2=>by have:=p0 gq h;omega)).keep (C1 _ _ _) (fun gq h h2=>by have:=p0 gq h;omega)).below hb
 replace k0:=((k0.keep (C1 _ _ _) (fun gq h h2=>by have:=(fun q (h:w4.heap.size≤q)=>h) gq h;omega)).keep (C1 _ _ _) (fun gq h h2=>by have:=(fun q (h:w4.heap.size≤q)=>h) gq h;omega)).below hb
 replace d0:=Kc hb (Nn (Nn d0 _) _)
 replace e0:=Kc hb (Nn (Nn e0 _) _)
 replace f0:=Kc hb (Nn (Nn f0 _) _)
 replace g0:=Kc hb (Nn (Nn g0 _) _)
 replace h0:=Kc hb (Nn (Nn h0 _) _)
 replace n0:=((n0.keep (C1 _ _ _) (fun gq h h2=>by have:=m0 gq h;omega)).keep (C1 _ _ _) (fun gq h h2=>by have:=m0 gq h;omega)).below hb
 replace a0:=Bk.below (Bk.nn (Bk.nn a0 _) _) hb
 replace b0:Bk v3 (w.heap.size+1) [.slice q0 m2.vals.length s0,.slice r0 m2.arrs.length t0]:=Bk.below (Bk.at (Bk.at b0 0 (.slice q0 m2.vals.length s0)) 1 (.slice r0 m2.arrs.length t0)) hb
 replace i0:=Bk.below (Bk.nn (Bk.nn i0 _) _) hb
 replace c0:=Bk.below (Bk.nn (Bk.nn c0 _) _) hb
 clear hb
 rw [← o0]
 clear o0
 refine hK.out _ _ ⟨d0,e0,f0,g0,h0⟩ (fun hHeld=>?_)
 clear hK K
 try simp only [Ep]
 refine Dn ?_
 clear hHeld
 clear j0
 have tC:=hC
 have tb:=tC.below w.heap.size (Nat.le_refl _) (fun k hk h=>by have:=v0 k h;omega)
 have TB:=Lib.hid tb;clear tC tb hC
 have j3:=Lib.hid (DrawC.mono n0 (show w.heap.size≤_ by omega))
 have k3:=Lib.hid (DrM.mono k0 (show w.heap.size≤_ by omega))
 clear n0 k0
 obtain ⟨l2,q3,n2,r3,o2,s3⟩:=Bk.f3 a0 0 1 2 rfl rfl rfl
 obtain ⟨p2,t3,r2,u3⟩:=Bk.f2 b0 0 1 rfl rfl
 have x3:=l2
 have y3:=n2
 have z3:=o2
 have a4:=p2
 have b4:=r2
 have tt:=True.intro
 go_wp2
 exact bodyPost_ret (v:=.tuple #[.agg #[.slice j1 u1 n1,.slice k1 s1 o1,.slice l1 t1 r1],.agg #[.slice q0 m2.vals.length s0,.slice r0 m2.arrs.length t0]]) (by simp [results,Tryz.results63,go_sem,x3,y3,z3,a4,b4]) rfl (by exact by unfold DrawCMP;exact ⟨_,_,_,_,_,_,_,_,m2,rfl,j3.out,⟨by omega,by omega,by omega⟩,k3.out,TB.out⟩)
theorem DrawRunCode_any (v:Value) (n:Nat) (vs:List Int) (w:World) (hr:Reads w 1 v n (vs.map (Value.int .u8))) (hv:∀ x ∈ vs,0≤x∧x < 256) (hn:n≤1048576) :
  Calls Tryz.prog 24 #[v] w fun r w'=>DrawCMP w r w':=by
 go_enter Tryz.func24,Tryz.ntmps24
 go_wp2_with fail
 refine (DrawStartMachine_any v n vs _ (hr.below (bal (bal (Bs w) (.cells #[.slice none 0 0,.slice none 0 0,.slice none 0 0] 26)) (.cells #[.slice none 0 0,.slice none 0 0] 29))) hv hn).mono ?_
 rintro e w1 ⟨va,vb,vc,vx,vy,nv,na,nl,m,rfl,d0,m0,hm,hb⟩
 obtain ⟨a0,c0,a1,c1,a2,c2,rfl,rfl,rfl⟩:=d0.shape
 obtain ⟨a3,c3,a4,c4,rfl,rfl⟩:=hm.reads.shape
 simp only [Sa] at d0 hm
 clear hr hv
 have e0:=hb.size
 simp only [Sa] at e0
 have i0:Bk w1 (w.heap.size) [.slice none 0 0,.slice none 0 0,.slice none 0 0]:=Bk.below (Bk.al (Bk.nw (by simp) rfl) (.cells #[.slice none 0 0,.slice none 0 0] 29)) hb
 have j0:Bk w1 (w.heap.size+1) [.slice none 0 0,.slice none 0 0]:=Bk.below (Bk.nw (by simp) rfl) hb
 have t0:=btr (bal (bal (Bs w) (.cells #[.slice none 0 0,.slice none 0 0,.slice none 0 0] 26)) (.cells #[.slice none 0 0,.slice none 0 0] 29)) hb
 clear hb
 have z0:=Bk.lz i0
 have b1:=Bk.lz j0
 have b0:=d0.lt
 try simp only [Sa] at b0
 have k0:=Lib.hid (DrawC.mono (((((d0.keep (C1 (w.heap.size) 0 (.slice a0 nv c0)) (fun gq h h2=>by have:=b0 gq h;omega)).keep (C1 (w.heap.size) 1 (.slice a1 na c1)) (fun gq h h2=>by have:=b0 gq h;omega)).keep (C1 (w.heap.size) 2 (.slice a2 nl c2)) (fun gq h h2=>by have:=b0 gq h;omega)).keep (C1 (w.heap.size+1) 0 (.slice a3 m.vals.length c3)) (fun gq h h2=>by have:=b0 gq h;omega)).keep (C1 (w.heap.size+1) 1 (.slice a4 m.arrs.length c4)) (fun gq h h2=>by have:=b0 gq h;omega)) (show w.heap.size≤w.heap.size+1+1 by omega))
 have l0:=Lib.hid (DrM.mono (((((hm.keep (C1 (w.heap.size) 0 (.slice a0 nv c0)) (fun gq h h2=>by have:=(fun q (h:w.heap.size+1+1≤q)=>h) gq h;omega)).keep (C1 (w.heap.size) 1 (.slice a1 na c1)) (fun gq h h2=>by have:=(fun q (h:w.heap.size+1+1≤q)=>h) gq h;omega)).keep (C1 (w.heap.size) 2 (.slice a2 nl c2)) (fun gq h h2=>by have:=(fun q (h:w.heap.size+1+1≤q)=>h) gq h;omega)).keep (C1 (w.heap.size+1) 0 (.slice a3 m.vals.length c3)) (fun gq h h2=>by have:=(fun q (h:w.heap.size+1+1≤q)=>h) gq h;omega)).keep (C1 (w.heap.size+1) 1 (.slice a4 m.arrs.length c4)) (fun gq h h2=>by have:=(fun q (h:w.heap.size+1+1≤q)=>h) gq h;omega)) (show w.heap.size≤w.heap.size+1+1 by omega))
 clear hm
 clear d0
 obtain ⟨n0,d1,o0,p0,f0,q0⟩:=Bk.f3 i0 0 1 2 rfl rfl rfl
 obtain ⟨g0,r0,h0,s0⟩:=Bk.f2 j0 0 1 rfl rfl
 have u0:=(Nn (b:=(w.heap.size+1)) (j:=1) (Nn (b:=(w.heap.size+1)) (j:=0) (Nn (b:=(w.heap.size)) (j:=2) (Nn (b:=(w.heap.size)) (j:=1) (Tc _ (w.heap.size) 0 (.slice a0 nv c0) n0) (.slice a1 na c1)) (.slice a2 nl c2)) (.slice a3 m.vals.length c3)) (.slice a4 m.arrs.length c4))
 have v0:=(Nn (b:=(w.heap.size+1)) (j:=1) (Nn (b:=(w.heap.size+1)) (j:=0) (Nn (b:=(w.heap.size)) (j:=2) (Tc _ (w.heap.size) 1 (.slice a1 na c1) (Nn (b:=(w.heap.size)) (j:=0) o0 (.slice a0 nv c0))) (.slice a2 nl c2)) (.slice a3 m.vals.length c3)) (.slice a4 m.arrs.length c4))
 have w0:=(Nn (b:=(w.heap.size+1)) (j:=1) (Nn (b:=(w.heap.size+1)) (j:=0) (Tc _ (w.heap.size) 2 (.slice a2 nl c2) (Nn (b:=(w.heap.size)) (j:=1) (Nn (b:=(w.heap.size)) (j:=0) f0 (.slice a0 nv c0)) (.slice a1 na c1))) (.slice a3 m.vals.length c3)) (.slice a4 m.arrs.length c4))
 have x0:=(Nn (b:=(w.heap.size+1)) (j:=1) (Tc _ (w.heap.size+1) 0 (.slice a3 m.vals.length c3) (Nn (b:=(w.heap.size)) (j:=2) (Nn (b:=(w.heap.size)) (j:=1) (Nn (b:=(w.heap.size)) (j:=0) g0 (.slice a0 nv c0)) (.slice a1 na c1)) (.slice a2 nl c2))) (.slice a4 m.arrs.length c4))
 have y0:=(Tc _ (w.heap.size+1) 1 (.slice a4 m.arrs.length c4) (Nn (b:=(w.heap.size+1)) (j:=0) (Nn (b:=(w.heap.size)) (j:=2) (Nn (b:=(w.heap.size)) (j:=1) (Nn (b:=(w.heap.size)) (j:=0) h0 (.slice a0 nv c0)) (.slice a1 na c1)) (.slice a2 nl c2)) (.slice a3 m.vals.length c3)))
 have tt:=(bst (bst (bst (bst (bst t0 (w.heap.size) 0 (by omega) (.slice a0 nv c0)) (w.heap.size) 1 (by omega) (.slice a1 na c1)) (w.heap.size) 2 (by omega) (.slice a2 nl c2)) (w.heap.size+1) 0 (by omega) (.slice a3 m.vals.length c3)) (w.heap.size+1) 1 (by omega) (.slice a4 m.arrs.length c4))
 go_wp2
 exact bodyPost_ret (v:=.tuple #[.agg #[.slice a0 nv c0,.slice a1 na c1,.slice a2 nl c2],.agg #[.slice a3 m.vals.length c3,.slice a4 m.arrs.length c4]]) (by simp [results,Tryz.results24,go_sem,u0,v0,w0,x0,y0]) rfl (by exact (by unfold DrawCMP;exact ⟨_,_,_,_,_,_,_,_,m,rfl,k0.out,m0,l0.out,tt⟩))
end Go.Proofs.YtkjedgnepnbkpaaGreat
