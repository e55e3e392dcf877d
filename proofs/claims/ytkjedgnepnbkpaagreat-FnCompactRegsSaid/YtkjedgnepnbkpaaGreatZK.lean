/-
 Parts of the proofs of the laws FnCompactRegs,FnFenceCode,FnRunTimeSteps.
-/
import Derived.Test.YtkjedgnepnbkpaaGreatZA
import Derived.Test.YtkjedgnepnbkpaaGreatZP
set_option linter.all false
namespace Go.Proofs.YtkjedgnepnbkpaaGreat
open Go.RowKit
set_option maxHeartbeats 6400000 in
set_option maxRecDepth 100000 in
theorem DrawCodeRuns_any (v:Value) (n:Nat) (vs:List Int) (w:World) (hr:Reads w 1 v n (vs.map (Value.int .u8))) (hv:∀ x ∈ vs,0≤x∧x < 256) (hn:n≤1048576) :
  Calls Tryz.prog 17 #[v] w fun r w'=>DrawCMMP w r w':=by
 go_enter Tryz.func17,Tryz.ntmps17
 go_wp2_with fail
 refine (l17Open_any v n vs _ (hr.below (bal (bal (bal (Bs w) (.cells #[.slice none 0 0,.slice none 0 0,.slice none 0 0] 26)) (.cells #[.slice none 0 0,.slice none 0 0] 29)) (.cells #[.slice none 0 0,.slice none 0 0] 29))) hv hn).mono ?_
 rintro e w1 ⟨g,rfl,hR,hb⟩
 try simp only [Sa] at hR
 have x1:=hb.size
 simp only [Sa] at x1
 have k0:Bk w1 (w.heap.size) [.slice none 0 0,.slice none 0 0,.slice none 0 0]:=Bk.below (Bk.al (Bk.al (Bk.nw (by simp) rfl) (.cells #[.slice none 0 0,.slice none 0 0] 29)) (.cells #[.slice none 0 0,.slice none 0 0] 29)) hb
 have l0:Bk w1 (w.heap.size+1) [.slice none 0 0,.slice none 0 0]:=Bk.below (Bk.al (Bk.nw (by simp) rfl) (.cells #[.slice none 0 0,.slice none 0 0] 29)) hb
 have n0:Bk w1 (w.heap.size+1+1) [.slice none 0 0,.slice none 0 0]:=Bk.below (Bk.nw (by simp) rfl) hb
 have r3:=btr (bal (bal (bal (Bs w) (.cells #[.slice none 0 0,.slice none 0 0,.slice none 0 0] 26)) (.cells #[.slice none 0 0,.slice none 0 0] 29)) (.cells #[.slice none 0 0,.slice none 0 0] 29)) hb
 clear hb
 have l1:=Bk.lz k0
 have m1:=Bk.lz l0
 have n1:=Bk.lz n0
 obtain ⟨B,hB⟩:∃ B,w.heap.size+1+1+1=B:=⟨_,rfl⟩;rw [hB] at hR;have q5:w.heap.size+1+1+1≤B:=(by omega);clear hB hr hv
 have hg:=hR.lt
 have hC:Chg (fun k=>k=g) w w1:=Chg.of_below r3
 have k1:∀ q,(fun k=>k=g) q→q=g:=fun q h=>h
 clear r3
 have f5:w.heap.size≤g:=by omega
 go_wp2_with fail
 refine (l8Jumps_any B g (0) _ hR (by omega)).mono ?_
 rintro e w2 ⟨t5,v5,y5,g4,e4,f4,q1,rfl,d1,o5,d5,g5,x0,m5,hc⟩
 try simp only [Sa,Ss] at d1
 obtain ⟨x4,a5,y4,b5,z4,c5,rfl,rfl,rfl⟩:=d1.shape
 replace hC:=(hC).trans hc
 replace hR:=x0;clear x0
 have a4:=hc.size
 replace k0:=Bk.kg k0 hc
 replace l0:=Bk.kg l0 hc
 replace n0:=Bk.kg n0 hc
 clear hc
 have b4:=d1.lt
 replace l1:=Bk.lz k0
 replace m1:=Bk.lz l0
 replace n1:=Bk.lz n0
 go_wp2_with fail
 refine (l6Mutate_of _ _ _ g4 e4 f4 _ B g (q1) _ d1 (by omega) (by omega) (by omega) (by omega) hR (by omega)).mono ?_
 rintro e w3 ⟨u5,x5,z5,w0,v0,c1,q2,rfl,p0,p5,e5,h5,x0,n5,hc⟩
 try simp only [Sa,Ss] at p0
 obtain ⟨r0,t0,s0,u0,a1,b1,rfl,rfl,rfl⟩:=p0.shape
 replace hC:=(hC).trans hc
 replace hR:=x0;clear x0
 have o3:=hc.size
 replace d1:=d1.keep hc (fun gq h h2=>by have:=b4 gq h;have:=k1 gq h2;omega)
 replace k0:=Bk.kg k0 hc
 replace l0:=Bk.kg l0 hc
 replace n0:=Bk.kg n0 hc
 clear hc
 have o0:=p0.lt
 replace l1:=Bk.lz k0
 replace m1:=Bk.lz l0
 replace n1:=Bk.lz n0
 clear d1
 go_wp2_with fail
 refine (l6Heads_any r0 s0 a1 w0 v0 c1 t0 u0 b1 _).mono ?_
 rintro e w4 ⟨rfl,hb⟩
 replace hC:=((hC.trans (Chg.of_below (bal (Bs _) _)))).trans (Chg.of_below hb)
 replace hR:=(hR.below (bal (Bs _) _)).below hb
 have e1:=hb.size
 simp only [Sa] at e1
 replace p0:=(p0.below (bal (Bs _) _)).below hb
 replace k0:=Bk.below (Bk.al k0 _) hb
 replace l0:=Bk.below (Bk.al l0 _) hb
 replace n0:=Bk.below (Bk.al n0 _) hb
 have a0:Bk w4 (w3.heap.size) [.slice r0 w0 t0,.slice s0 v0 u0,.slice a1 c1 b1]:=Bk.below (Bk.nw (by simp) rfl) hb
 clear hb
 replace l1:=Bk.lz k0
 replace m1:=Bk.lz l0
 replace n1:=Bk.lz n0
 have z1:=Bk.lz a0
 go_wp2_with fail
 refine (l3Memory_any r0 s0 w0 t0 v0 u0 (.slice none 0 0) B g (q2) _ (hR.below (bal (Bs _) (.cells #[.slice r0 w0 t0,.slice s0 v0 u0,.slice none 0 0] 83))) (by omega) (by omega) (by omega)).mono ?_
 rintro e w5 ⟨ux,uy,us,m,p1,rfl,oM,x3,y0,n3,x0,k5,hc⟩
 try simp only [Sa,Ss] at oM
 obtain ⟨px,tx,py,ty,rfl,rfl⟩:=oM.shape
 have u1:Hid (∀ r ∈ m.arrs,3≤r.length∧r.length≤4):=Lib.hid (fun r hr=>by have:=n3 r hr;omega)
 clear n3
 have y3:m.vals.length≤1000:=by omega
 have z3:m.arrs.length≤1000:=by omega
 clear x3 y0
 replace hC:=((hC.trans (Chg.of_below (bal (Bs _) _)))).trans hc
 replace hR:=x0;clear x0
 have f1:=hc.size
 simp only [Sa] at f1
 replace p0:=(p0.below (bal (Bs _) _)).keep hc (fun gq h h2=>by have:=o0 gq h;have:=k1 gq h2;omega)
 replace k0:=Bk.kg (Bk.al k0 _) hc
 replace l0:=Bk.kg (Bk.al l0 _) hc
 replace n0:=Bk.kg (Bk.al n0 _) hc
 replace a0:=Bk.kg (Bk.al a0 _) hc
 have b0:Bk w5 (w4.heap.size) [.slice r0 w0 t0,.slice s0 v0 u0,.slice none 0 0]:=Bk.kg (Bk.nw (by simp) rfl) hc
 clear hc
 have q0:=oM.lt
 try simp only [Sa] at q0
 replace l1:=Bk.lz k0
 replace m1:=Bk.lz l0
 replace n1:=Bk.lz n0
 replace z1:=Bk.lz a0
 have c4:=Bk.lz b0
 go_upto_region 5 with (fail)
 obtain ⟨w6,z0,hb⟩:=nmw (World.alloc w5 (.cells #[.slice px m.vals.length tx,.slice py m.arrs.length ty] 29))
 replace hC:=((hC.trans (Chg.of_below (bal (Bs _) _)))).trans (Chg.of_below hb)
 replace hR:=(hR.below (bal (Bs _) _)).below hb
 have g1:=hb.size
 simp only [Sa] at g1
 replace p0:=(p0.below (bal (Bs _) _)).below hb
 replace oM:=(oM.below (bal (Bs _) _)).below hb
 replace k0:=Bk.below (Bk.al k0 _) hb
 replace l0:=Bk.below (Bk.al l0 _) hb
 replace n0:=Bk.below (Bk.al n0 _) hb
 replace a0:=Bk.below (Bk.al a0 _) hb
 replace b0:=Bk.below (Bk.al b0 _) hb
 have m0:Bk w6 (w5.heap.size) [.slice px m.vals.length tx,.slice py m.arrs.length ty]:=Bk.below (Bk.nw (by simp) rfl) hb
 clear hb
 rw [← z0]
 clear z0
 have c0:=Bk.cell a0 0 (v:=.slice r0 w0 t0) rfl
 have d0:=Bk.cell a0 1 (v:=.slice s0 v0 u0) rfl
 have e0:=Bk.cell a0 2 (v:=.slice a1 c1 b1) rfl
 have f0:=Bk.cell m0 0 (v:=.slice px m.vals.length tx) rfl
 have g0:=Bk.cell m0 1 (v:=.slice py m.arrs.length ty) rfl
 have h0:=Bk.cell b0 0 (v:=.slice r0 w0 t0) rfl
 have i0:=Bk.cell b0 1 (v:=.slice s0 v0 u0) rfl
 have j0:=Bk.cell b0 2 (v:=.slice none 0 0) rfl
 have d4:=Bk.lz m0
 refine wp_region_noPanic ?_
 refine wp_region_held_drew (S:=(fun W'=>W'.cell? ⟨w3.heap.size,0,none⟩=some (.slice r0 w0 t0)∧W'.cell? ⟨w3.heap.size,1,none⟩=some (.slice s0 v0 u0)∧W'.cell? ⟨w3.heap.size,2,none⟩=some (.slice a1 c1 b1)∧W'.cell? ⟨w5.heap.size,0,none⟩=some (.slice px m.vals.length tx)∧W'.cell? ⟨w5.heap.size,1,none⟩=some (.slice py m.arrs.length ty)∧W'.cell? ⟨w4.heap.size,0,none⟩=some (.slice r0 w0 t0)∧W'.cell? ⟨w4.heap.size,1,none⟩=some (.slice s0 v0 u0)∧W'.cell? ⟨w4.heap.size,2,none⟩=some (.slice none 0 0))) (by kernel_rfl) ⟨Kc (Below.drew (Bs w6)) c0,Kc (Below.drew (Bs w6)) d0,Kc (Below.drew (Bs w6)) e0,Kc (Below.drew (Bs w6)) f0,Kc (Below.drew (Bs w6)) g0,Kc (Below.drew (Bs w6)) h0,Kc (Below.drew (Bs w6)) i0,Kc (Below.drew (Bs w6)) j0⟩ (fun hHeld=>?_)
 obtain ⟨w7,y1⟩:∃ X,X=World.drew w6:=⟨_,rfl⟩
 rw [← y1] at hHeld ⊢
 have hb:Below w6.heap.size w6 w7:=by rw [y1];exact Below.drew (Bs _)
 clear y1
 replace hC:=(hC).trans (Chg.of_below hb)
 replace hR:=hR.below hb
 have p3:=hb.size
 replace p0:=p0.below hb
 replace oM:=oM.below hb
 replace c0:=Kc hb c0
 replace d0:=Kc hb d0
 replace e0:=Kc hb e0
 replace f0:=Kc hb f0
 replace g0:=Kc hb g0
 replace h0:=Kc hb h0
 replace i0:=Kc hb i0
 replace j0:=Kc hb j0
 replace k0:=Bk.below k0 hb
 replace l0:=Bk.below l0 hb
 replace n0:=Bk.below n0 hb
 replace a0:=Bk.below a0 hb
 replace b0:=Bk.below b0 hb
 replace m0:=Bk.below m0 hb
 clear hb
 refine (tq 0 20 rfl rfl ?_ ?_ (tq 1 21 rfl rfl ?_ ?_ (tq 2 22 rfl rfl ?_ ?_ (tq 3 23 rfl rfl ?_ ?_ (tq 4 24 rfl rfl ?_ ?_ ?_)))))
 iterate 5 (rotate_left;intro W' hSw;(try dsimp only at hSw);go_simp;try with_reducible rfl)
 try simp only [Ep]
 refine Rdy 5 rfl (fun K hK=>?_)
 go_simp
 obtain ⟨c,v1⟩:=RdC.of p0 (by omega) (by omega) (by omega)
 have l3:∀ b o cc,Value.slice r0 w0 t0=.slice (some ⟨b,o,none⟩) c.vars.length cc→¬b=g:=fun b o cc e=>by have:=o0 b (Or.inl (by rw [e];rfl));omega
 have m3:∀ b o cc,Value.slice s0 v0 u0=.slice (some ⟨b,o,none⟩) c.arrays.length cc→¬b=g:=fun b o cc e=>by have:=o0 b (Or.inr (Or.inl (by rw [e];rfl)));omega
 refine (l3Secrets_any _ _ (.slice none 0 0) c.vars c.arrays _ _ m 1 B g (p1) _ v1.r.a v1.r.b l3 m3 (DrM.of oM (by omega) (by omega) u1.out).reads (by omega) (by omega) u1.out hR (by omega)).mono ?_
 rintro e w8 ⟨r5,s5,m2,p9,rfl,y0,i5,j5,x0,l5,hc⟩
 obtain ⟨o1,s1,r1,t1,rfl,rfl⟩:=y0.reads.shape
 clear v1 l3 m3
 replace hC:=(hC).trans hc
 replace hR:=x0;clear x0
 have q3:=hc.size
 replace p0:=p0.keep hc (fun gq h h2=>by have:=o0 gq h;have:=k1 gq h2;omega)
 replace oM:=oM.keep hc (fun gq h h2=>by have:=q0 gq h;have:=k1 gq h2;omega)
 replace c0:=Gg hc c0
 replace d0:=Gg hc d0
 replace e0:=Gg hc e0
 replace f0:=Gg hc f0
 replace g0:=Gg hc g0
 replace h0:=Gg hc h0
 replace i0:=Gg hc i0
 replace j0:=Gg hc j0
 replace k0:=Bk.kg k0 hc
 replace l0:=Bk.kg l0 hc
 replace n0:=Bk.kg n0 hc
 replace a0:=Bk.kg a0 hc
 replace b0:=Bk.kg b0 hc
 replace m0:=Bk.kg m0 hc
 clear hc
 clear hR
 refine hK.out _ _ ⟨c0,d0,e0,f0,g0,h0,i0,j0⟩ (fun hHeld=>?_)
 clear hK K
 try simp only [Ep]
 refine Rdy 6 rfl (fun K hK=>?_)
 obtain ⟨a2,y2,b2,z2,c2,a3⟩:=Bk.f3 k0 0 1 2 rfl rfl rfl
 go_simp
 obtain ⟨w9,z0,hb⟩:=nmw (World.setCell (World.setCell (World.setCell w8 ⟨w.heap.size,0,none⟩ (.slice r0 w0 t0)) ⟨w.heap.size,1,none⟩ (.slice s0 v0 u0)) ⟨w.heap.size,2,none⟩ (.slice a1 c1 b1))
 replace hC:=((((hC.sN _ _ _).sN _ _ _).sN _ _ _)).trans (Chg.of_below hb)
 have h1:=hb.size
 simp only [Ss] at h1
 clear y2 a2 z2 b2 a3 c2
 replace p0:=(((p0.keep (C1 _ _ _) (fun gq h h2=>by have:=o0 gq h;omega)).keep (C1 _ _ _) (fun gq h h2=>by have:=o0 gq h;omega)).keep (C1 _ _ _) (fun gq h h2=>by have:=o0 gq h;omega)).below hb
 replace oM:=(((oM.keep (C1 _ _ _) (fun gq h h2=>by have:=q0 gq h;omega)).keep (C1 _ _ _) (fun gq h h2=>by have:=q0 gq h;omega)).keep (C1 _ _ _) (fun gq h h2=>by have:=q0 gq h;omega)).below hb
 replace c0:=Kc hb (Nn (Nn (Nn c0 _) _) _)
 replace d0:=Kc hb (Nn (Nn (Nn d0 _) _) _)
 replace e0:=Kc hb (Nn (Nn (Nn e0 _) _) _)
 replace f0:=Kc hb (Nn (Nn (Nn f0 _) _) _)
 replace g0:=Kc hb (Nn (Nn (Nn g0 _) _) _)
 replace h0:=Kc hb (Nn (Nn (Nn h0 _) _) _)
 replace i0:=Kc hb (Nn (Nn (Nn i0 _) _) _)
 replace j0:=Kc hb (Nn (Nn (Nn j0 _) _) _)
 replace y0:=(((y0.keep (C1 _ _ _) (fun gq h h2=>by have:=(fun q (h:w7.heap.size≤q)=>h) gq h;omega)).keep (C1 _ _ _) (fun gq h h2=>by have:=(fun q (h:w7.heap.size≤q)=>h) gq h;omega)).keep (C1 _ _ _) (fun gq h h2=>by have:=(fun q (h:w7.heap.size≤q)=>h) gq h;omega)).below hb
 replace k0:Bk w9 (w.heap.size) [.slice r0 w0 t0,.slice s0 v0 u0,.slice a1 c1 b1]:=Bk.below (Bk.at (Bk.at (Bk.at k0 0 (.slice r0 w0 t0)) 1 (.slice s0 v0 u0)) 2 (.slice a1 c1 b1)) hb
 replace l0:=Bk.below (Bk.nn (Bk.nn (Bk.nn l0 _) _) _) hb
 replace n0:=Bk.below (Bk.nn (Bk.nn (Bk.nn n0 _) _) _) hb
 replace a0:=Bk.below (Bk.nn (Bk.nn (Bk.nn a0 _) _) _) hb
 replace b0:=Bk.below (Bk.nn (Bk.nn (Bk.nn b0 _) _) _) hb
 replace m0:=Bk.below (Bk.nn (Bk.nn (Bk.nn m0 _) _) _) hb
 clear hb
 rw [← z0]
 clear z0
 refine hK.out _ _ ⟨c0,d0,e0,f0,g0,h0,i0,j0⟩ (fun hHeld=>?_)
 clear hK K
 try simp only [Ep]
 refine Rdy 7 rfl (fun K hK=>?_)
 obtain ⟨d2,b3,e2,c3,g2,d3⟩:=Bk.f3 k0 0 1 2 rfl rfl rfl
 obtain ⟨i2,e3,j2,g3⟩:=Bk.f2 l0 0 1 rfl rfl
 go_simp
 obtain ⟨s3,z0,hb⟩:=nmw (World.setCell (World.setCell w9 ⟨w.heap.size+1,0,none⟩ (.slice px m.vals.length tx)) ⟨w.heap.size+1,1,none⟩ (.slice py m.arrs.length ty))
 replace hC:=(((hC.sN _ _ _).sN _ _ _)).trans (Chg.of_below hb)
 have i1:=hb.size
 simp only [Ss] at i1
 clear b3 d2 c3 e2 d3 g2 e3 i2 g3 j2
 replace p0:=((p0.keep (C1 _ _ _) (fun gq h h2=>by have:=o0 gq h;omega)).keep (C1 _ _ _) (fun gq h h2=>by have:=o0 gq h;omega)).below hb
 replace oM:=((oM.keep (C1 _ _ _) (fun gq h h2=>by have:=q0 gq h;omega)).keep (C1 _ _ _) (fun gq h h2=>by have:=q0 gq h;omega)).below hb
 replace c0:=Kc hb (Nn (Nn c0 _) _)
 replace d0:=Kc hb (Nn (Nn d0 _) _)
 replace e0:=Kc hb (Nn (Nn e0 _) _)
 replace f0:=Kc hb (Nn (Nn f0 _) _)
 replace g0:=Kc hb (Nn (Nn g0 _) _)
 replace h0:=Kc hb (Nn (Nn h0 _) _)
 replace i0:=Kc hb (Nn (Nn i0 _) _)
 replace j0:=Kc hb (Nn (Nn j0 _) _)
 replace y0:=((y0.keep (C1 _ _ _) (fun gq h h2=>by have:=(fun q (h:w7.heap.size≤q)=>h) gq h;omega)).keep (C1 _ _ _) (fun gq h h2=>by have:=(fun q (h:w7.heap.size≤q)=>h) gq h;omega)).below hb
 replace k0:=Bk.below (Bk.nn (Bk.nn k0 _) _) hb
 replace l0:Bk s3 (w.heap.size+1) [.slice px m.vals.length tx,.slice py m.arrs.length ty]:=Bk.below (Bk.at (Bk.at l0 0 (.slice px m.vals.length tx)) 1 (.slice py m.arrs.length ty)) hb
 replace n0:=Bk.below (Bk.nn (Bk.nn n0 _) _) hb
 replace a0:=Bk.below (Bk.nn (Bk.nn a0 _) _) hb
 replace b0:=Bk.below (Bk.nn (Bk.nn b0 _) _) hb
 replace m0:=Bk.below (Bk.nn (Bk.nn m0 _) _) hb
 clear hb
 rw [← z0]
 clear z0
 refine hK.out _ _ ⟨c0,d0,e0,f0,g0,h0,i0,j0⟩ (fun hHeld=>?_)
 clear hK K
 try simp only [Ep]
 refine Rdy 8 rfl (fun K hK=>?_)
 obtain ⟨k2,h3,l2,i3⟩:=Bk.f2 l0 0 1 rfl rfl
 obtain ⟨n2,j3,o2,k3⟩:=Bk.f2 n0 0 1 rfl rfl
 go_simp
 obtain ⟨o4,z0,hb⟩:=nmw (World.setCell (World.setCell s3 ⟨w.heap.size+1+1,0,none⟩ (.slice o1 m2.vals.length s1)) ⟨w.heap.size+1+1,1,none⟩ (.slice r1 m2.arrs.length t1))
 replace hC:=(((hC.sN _ _ _).sN _ _ _)).trans (Chg.of_below hb)
 have j1:=hb.size
 simp only [Ss] at j1
 clear h3 k2 i3 l2 j3 n2 k3 o2
 replace p0:=((p0.keep (C1 _ _ _) (fun gq h h2=>by have:=o0 gq h;omega)).keep (C1 _ _ _) (fun gq h h2=>by have:=o0 gq h;omega)).below hb
 replace oM:=((oM.keep (C1 _ _ _) (fun gq h h2=>by have:=q0 gq h;omega)).keep (C1 _ _ _) (fun gq h h2=>by have:=q0 gq h;omega)).below hb
 replace c0:=Kc hb (Nn (Nn c0 _) _)
 replace d0:=Kc hb (Nn (Nn d0 _) _)
 replace e0:=Kc hb (Nn (Nn e0 _) _)
 replace f0:=Kc hb (Nn (Nn f0 _) _)
 replace g0:=Kc hb (Nn (Nn g0 _) _)
 replace h0:=Kc hb (Nn (Nn h0 _) _)
 replace i0:=Kc hb (Nn (Nn i0 _) _)
 replace j0:=Kc hb (Nn (Nn j0 _) _)
 replace y0:=((y0.keep (C1 _ _ _) (fun gq h h2=>by have:=(fun q (h:w7.heap.size≤q)=>h) gq h;omega)).keep (C1 _ _ _) (fun gq h h2=>by have:=(fun q (h:w7.heap.size≤q)=>h) gq h;omega)).below hb
 replace k0:=Bk.below (Bk.nn (Bk.nn k0 _) _) hb
 replace l0:=Bk.below (Bk.nn (Bk.nn l0 _) _) hb
 replace n0:Bk o4 (w.heap.size+1+1) [.slice o1 m2.vals.length s1,.slice r1 m2.arrs.length t1]:=Bk.below (Bk.at (Bk.at n0 0 (.slice o1 m2.vals.length s1)) 1 (.slice r1 m2.arrs.length t1)) hb
 replace a0:=Bk.below (Bk.nn (Bk.nn a0 _) _) hb
 replace b0:=Bk.below (Bk.nn (Bk.nn b0 _) _) hb
 replace m0:=Bk.below (Bk.nn (Bk.nn m0 _) _) hb
 clear hb
 rw [← z0]
 clear z0
 refine hK.out _ _ ⟨c0,d0,e0,f0,g0,h0,i0,j0⟩ (fun hHeld=>?_)
 clear hK K
 try simp only [Ep]
 refine Dn ?_
 clear hHeld
 have tC:=hC
 have tb:=tC.below w.heap.size (Nat.le_refl _) (fun k hk h=>by have:=k1 k h;omega)
 have TB:=Lib.hid tb;clear tC tb hC
 have t3:=Lib.hid (DrawC.mono p0 (show w.heap.size≤_ by omega))
 have v3:=Lib.hid (DrM.mono (DrM.of oM (by omega) (by omega) u1.out) (show w.heap.size≤_ by omega))
 have u3:=Lib.hid (DrM.mono y0 (show w.heap.size≤_ by omega))
 clear p0 oM y0
 obtain ⟨p2,h4,r2,i4,s2,j4⟩:=Bk.f3 k0 0 1 2 rfl rfl rfl
 obtain ⟨t2,k4,u2,l4⟩:=Bk.f2 l0 0 1 rfl rfl
 obtain ⟨v2,m4,x2,n4⟩:=Bk.f2 n0 0 1 rfl rfl
 have p4:=p2
 have q4:=r2
 have r4:=s2
 have s4:=t2
 have t4:=u2
 have u4:=v2
 have v4:=x2
 have tt:=True.intro
 go_wp2
 exact bodyPost_ret (v:=.tuple #[.agg #[.slice r0 w0 t0,.slice s0 v0 u0,.slice a1 c1 b1],.agg #[.slice px m.vals.length tx,.slice py m.arrs.length ty],.agg #[.slice o1 m2.vals.length s1,.slice r1 m2.arrs.length t1]]) (by simp [results,Tryz.results17,go_sem,p4,q4,r4,s4,t4,u4,v4]) rfl (by exact by unfold DrawCMMP;exact ⟨_,_,_,_,_,_,_,_,_,_,m,m2,rfl,t3.out,⟨by omega,by omega,by omega⟩,v3.out,u3.out,TB.out⟩)
end Go.Proofs.YtkjedgnepnbkpaaGreat
