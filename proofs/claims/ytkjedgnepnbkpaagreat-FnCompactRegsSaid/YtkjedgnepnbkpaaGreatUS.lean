/-
 Parts of the proofs of the laws FnCompactRegs,FnFenceCode,FnRunTimeSteps.
-/
import Derived.Test.YtkjedgnepnbkpaaGreatXA
import Derived.Test.YtkjedgnepnbkpaaGreatRX2
import Derived.Test.YtkjedgnepnbkpaaGreatZK
set_option linter.all false
namespace Go.Proofs.YtkjedgnepnbkpaaGreat
open Go.RowKit
theorem compact_of {c D:Cd} (h:compactR c=(D,true)) (m:Mm):regsUsed D=regsUsed c∧compactR D=(D,true)∧runB D m=runB c m∧runM D m=runM c m∧runE D m=runE c m:=by
 cases hc:codeOk c with
 | false=>rw [compactR_no hc] at h;cases congrArg Prod.snd h
 | true =>
  have hD:D=compC c:=by rw [compactR_yes hc] at h;exact (congrArg Prod.fst h).symm
  rw [hD]
  exact law_compact hc m
theorem runM_sn (c:Cd) (m:Mm):(runM c m).vals.length≤1048576∧(runM c m).arrs.length≤1048576∧pre2 (runM c m).arrs (runM c m).arrs.length≤1048576:=by
 cases h:finN c m with
 | none=>rw [(run_no h).2.1];simp [pre2]
 | some n =>
  rw [(run_yes h).2.1]
  have hg:=(finN_iff.1 h).1
  exact (mem_small (goOk_code hg) (stN_ok (goOk_code hg) (ini_ok hg) (n+1))).2
set_option maxHeartbeats 12800000 in
set_option maxRecDepth 100000 in
theorem FnCompactRegs_walk (v:Value) (n:Nat) (vs:List Int) (w:World) (r0:Reads w 1 v n (vs.map (Value.int .u8))) (hv:∀ x ∈ vs,0≤x∧x < 256) :
  Calls Tryz.prog 4 #[v] w fun e w'=>e=.returned (.bool true)∧Below w.heap.size w w':=by
 obtain ⟨va,vc,rfl⟩:=reads_shape r0
 by_cases hn:n≤1048576
 case neg =>
  have fA:(1048576:Int) < (n:Int):=by omega
  clear r0
  go_enter Tryz.func4,Tryz.ntmps4
  go_wp2
  go_ret
  exact ⟨rfl,Below.refl _ _⟩
 have fA:¬(1048576:Int) < (n:Int):=by omega
 go_enter Tryz.func4,Tryz.ntmps4
 have n8:=Lib.hid (fun W (hW:Below w.heap.size w W)=>r0.below hW);have p8:=Lib.hid hv
 go_wp2_with fail
 refine (DrawCompactRegs_any _ n vs _ (r0.below (Bs w)) hv hn).mono ?_
 rintro e w1 ⟨vB,xB,zB,tA,rA,sA,rfl,q2,j2,hb⟩
 clear r0 hv
 obtain ⟨c,n2⟩:=RdC.of q2 j2.1 j2.2.1 j2.2.2
 clear q2 j2
 obtain ⟨a0,c0,a1,c1,a2,c2,rfl,rfl,rfl⟩:=n2.r.shape
 have pA:c.vars.length≤1000∧c.arrays.length≤1000∧c.list.length≤1000:=⟨n2.l0,n2.l1,n2.l2⟩
 have hA:=hb.size
 have z0:=btr (Bs w) hb
 clear hb
 have t0:=Bs w1
 have HC:=Lib.hid (fun W (hW:Below w1.heap.size w1 W)=>n2.r.below hW)
 clear n2
 obtain ⟨D,ok,i5⟩:∃ D ok,compactR c=(D,ok):=⟨_,_,rfl⟩
 have qA:D.vars.length≤1048576∧D.arrays.length≤1048576∧D.list.length≤1048576:=by have:=compactR_lens c;rw [i5] at this;exact this
 obtain ⟨N,hN⟩:∃ N,regsUsed c=N:=⟨_,rfl⟩
 have g5:=Lib.hid i5;have HN:=Lib.hid hN;clear i5 hN
 go_wp2_with fail
 have j0:=iCompact_any _ _ _ c _ (HC.out _ (bal t0 (.cells #[.slice a0 c.vars.length c0,.slice a1 c.arrays.length c1,.slice a2 c.list.length c2] 26)))
 rw [g5.out] at j0;dsimp only at j0
 refine (j0).mono ?_
 rintro e w2 ⟨eB,iB,lB,rfl,o1,hb⟩
 obtain ⟨d0,g0,d1,g1,d2,g2,rfl,rfl,rfl⟩:=o1.shape
 clear j0
 replace t0:=btr (bal t0 _) hb
 have r5:=hb.size
 simp only [Sa] at r5
 have n0:Bk w2 (w1.heap.size) [.slice a0 c.vars.length c0,.slice a1 c.arrays.length c1,.slice a2 c.list.length c2]:=Bk.below (Bk.nw (by simp) rfl) hb
 replace z0:=btr (bal z0 _) hb
 clear hb
 have w0:=Bs w2
 have q1:=Lib.hid (fun W (hW:Below w2.heap.size w2 W)=>(o1.reads (by omega) (by omega) (by omega)).below hW)
 have p2:=Bk.lz n0
 clear o1
 obtain ⟨iA,kA,jA,e7,s5,f7⟩:=Bk.f3 n0 0 1 2 rfl rfl rfl
 go_wp2_with fail
 have j0:=sCompact_any _ _ _ c _ (HC.out _ (bal t0 (.cells #[.slice d0 D.vars.length g0,.slice d1 D.arrays.length g1,.slice d2 D.list.length g2] 26)))
 rw [g5.out] at j0;dsimp only at j0
 refine (j0).mono ?_
 rintro e w3 ⟨fB,jB,mB,rfl,o2,hb⟩
 obtain ⟨e0,f0,e1,f1,e2,f2,rfl,rfl,rfl⟩:=o2.shape
 clear j0
 replace t0:=btr (bal t0 _) hb
 replace w0:=btr (bal w0 _) hb
 have r2:=hb.size
 simp only [Sa] at r2
 clear kA iA e7 jA f7 s5
 replace n0:=Bk.below (Bk.al n0 _) hb
 have b0:Bk w3 (w2.heap.size) [.slice d0 D.vars.length g0,.slice d1 D.arrays.length g1,.slice d2 D.list.length g2]:=Bk.below (Bk.nw (by simp) rfl) hb
 replace z0:=btr (bal z0 _) hb
 clear hb
 have i0:=Bs w3
 have f5:=Lib.hid (fun W (hW:Below w3.heap.size w3 W)=>(o2.reads (by omega) (by omega) (by omega)).below hW)
 replace p2:=Bk.lz n0
 have m1:=Bk.lz b0
 clear o2
 obtain ⟨t5,g7,u5,h7,v5,i7⟩:=Bk.f3 n0 0 1 2 rfl rfl rfl
 go_wp2_with fail
 have j0:=iRegsUsed_any _ _ _ c _ (HC.out _ (bal t0 (.cells #[.slice e0 D.vars.length f0,.slice e1 D.arrays.length f1,.slice e2 D.list.length f2] 26)))
 rw [HN.out] at j0
 refine (j0).mono ?_
 rintro e w4 ⟨rfl,hb⟩
 clear j0
 replace t0:=btr (bal t0 _) hb
 replace w0:=btr (bal w0 _) hb
 replace i0:=btr (bal i0 _) hb
 have s2:=hb.size
 simp only [Sa] at s2
 clear g7 t5 h7 u5 i7 v5
 replace n0:=Bk.below (Bk.al n0 _) hb
 replace b0:=Bk.below (Bk.al b0 _) hb
 have h0:Bk w4 (w3.heap.size) [.slice e0 D.vars.length f0,.slice e1 D.arrays.length f1,.slice e2 D.list.length f2]:=Bk.below (Bk.nw (by simp) rfl) hb
 replace z0:=btr (bal z0 _) hb
 clear hb
 replace p2:=Bk.lz n0
 replace m1:=Bk.lz b0
 have n1:=Bk.lz h0
 cases ok with
 | false =>
  obtain ⟨x5,j7,y5,k7,z5,l7⟩:=Bk.f3 b0 0 1 2 rfl rfl rfl
  obtain ⟨b6,m7,d6,n7,e6,o7⟩:=Bk.f3 h0 0 1 2 rfl rfl rfl
  go_wp2_with fail
  have j0:=CodeSame_any _ _ _ _ _ _ D D _ (q1.out _ w0) (f5.out _ i0)
  rw [decide_eq_true (Eq.refl D)] at j0
  refine (j0).mono ?_
  rintro e w5 ⟨rfl,hb⟩
  clear j0
  replace t0:=btr t0 hb
  replace w0:=btr w0 hb
  replace i0:=btr i0 hb
  have y8:=hb.size
  clear j7 x5 k7 y5 l7 z5 m7 b6 n7 d6 o7 e6
  replace n0:=Bk.below n0 hb
  replace b0:=Bk.below b0 hb
  replace h0:=Bk.below h0 hb
  replace z0:=btr z0 hb
  clear hb
  obtain ⟨f6,p7,g6,q7,h6,r7⟩:=Bk.f3 n0 0 1 2 rfl rfl rfl
  go_wp2_with fail
  have j0:=sRegsUsed_any _ _ _ c _ (HC.out _ t0)
  rw [HN.out] at j0
  refine (j0).mono ?_
  rintro e w6 ⟨rfl,hb⟩
  clear j0
  replace t0:=btr t0 hb
  replace w0:=btr w0 hb
  replace i0:=btr i0 hb
  have z8:=hb.size
  clear p7 f6 q7 g6 r7 h6
  replace n0:=Bk.below n0 hb
  replace b0:=Bk.below b0 hb
  replace h0:=Bk.below h0 hb
  replace z0:=btr z0 hb
  clear hb
  obtain ⟨i6,s7,j6,t7,k6,u7⟩:=Bk.f3 b0 0 1 2 rfl rfl rfl
  obtain ⟨l6,v7,m6,x7,n6,y7⟩:=Bk.f3 h0 0 1 2 rfl rfl rfl
  go_wp2_with fail
  have j0:=CodeSame_any _ _ _ _ _ _ D D _ (q1.out _ w0) (f5.out _ i0)
  rw [decide_eq_true (Eq.refl D)] at j0
  refine (j0).mono ?_
  rintro e w7 ⟨rfl,hb⟩
  clear j0
  replace t0:=btr t0 hb
  replace w0:=btr w0 hb
  replace i0:=btr i0 hb
  have a9:=hb.size
  clear s7 i6 t7 j6 u7 k6 v7 l6 x7 m6 y7 n6
  replace n0:=Bk.below n0 hb
  replace b0:=Bk.below b0 hb
  replace h0:=Bk.below h0 hb
  replace z0:=btr z0 hb
  clear hb
  obtain ⟨o6,z7,p6,a8,q6,b8⟩:=Bk.f3 n0 0 1 2 rfl rfl rfl
  go_wp2_with fail
  have j0:=sRegsUsed_any _ _ _ c _ (HC.out _ t0)
  rw [HN.out] at j0
  refine (j0).mono ?_
  rintro e w8 ⟨rfl,hb⟩
  clear j0
  replace t0:=btr t0 hb
  replace w0:=btr w0 hb
  replace i0:=btr i0 hb
  have b9:=hb.size
  clear z7 o6 a8 p6 b8 q6
  replace n0:=Bk.below n0 hb
  replace b0:=Bk.below b0 hb
  replace h0:=Bk.below h0 hb
  replace z0:=btr z0 hb
  clear hb
  have tt:=z0
  go_wp2
  go_ret
  exact ⟨rfl,tt⟩
 | true =>
  obtain ⟨r6,c8,s6,d8,t6,e8⟩:=Bk.f3 b0 0 1 2 rfl rfl rfl
  obtain ⟨u6,f8,v6,g8,x6,h8⟩:=Bk.f3 h0 0 1 2 rfl rfl rfl
  go_wp2_with fail
  have j0:=CodeSame_any _ _ _ _ _ _ D D _ (q1.out _ w0) (f5.out _ i0)
  rw [decide_eq_true (Eq.refl D)] at j0
  refine (j0).mono ?_
  rintro e w5 ⟨rfl,hb⟩
  clear j0
  replace t0:=btr t0 hb
  replace w0:=btr w0 hb
  replace i0:=btr i0 hb
  have c9:=hb.size
  clear c8 r6 d8 s6 e8 t6 f8 u6 g8 v6 h8 x6
  replace n0:=Bk.below n0 hb
  replace b0:=Bk.below b0 hb
  replace h0:=Bk.below h0 hb
  replace z0:=btr z0 hb
  clear hb
  obtain ⟨y6,i8,z6,j8,a7,k8⟩:=Bk.f3 n0 0 1 2 rfl rfl rfl
  go_wp2_with fail
  have j0:=sRegsUsed_any _ _ _ c _ (HC.out _ t0)
  rw [HN.out] at j0
  refine (j0).mono ?_
  rintro e w6 ⟨rfl,hb⟩
  clear j0
  replace t0:=btr t0 hb
  replace w0:=btr w0 hb
  replace i0:=btr i0 hb
  have d9:=hb.size
  clear i8 y6 j8 z6 k8 a7
  replace n0:=Bk.below n0 hb
  replace b0:=Bk.below b0 hb
  replace h0:=Bk.below h0 hb
  replace z0:=btr z0 hb
  clear hb
  go_wp2_with fail
  refine (DrawCodeRuns_any _ n vs _ (n8.out _ z0) p8.out hn).mono ?_
  rintro e w7 ⟨uB,wB,yB,sB,tB,cB,dB,i9,g9,h9,m,m2,rfl,q2,j2,hm,k2,hb⟩
  obtain ⟨q8,t8,r8,v8,s8,x8,rfl,rfl,rfl⟩:=q2.shape
  clear q2 j2 n8 p8
  obtain ⟨a3,c3,a4,c4,rfl,rfl⟩:=hm.reads.shape
  obtain ⟨a5,c5,a6,c6,rfl,rfl⟩:=k2.reads.shape
  have i2:m2.vals.length≤1048576∧m2.arrs.length≤1048576∧pre2 m2.arrs m2.arrs.length≤1048576:=by have h2:=k2.l0;have h3:=k2.l1;have h4:=k2.pre;omega
  replace t0:=btr t0 hb
  replace w0:=btr w0 hb
  replace i0:=btr i0 hb
  have e9:=hb.size
  replace n0:=Bk.below n0 hb
  replace b0:=Bk.below b0 hb
  replace h0:=Bk.below h0 hb
  replace z0:=btr z0 hb
  clear hb
  replace p2:=Bk.lz n0
  replace m1:=Bk.lz b0
  replace n1:=Bk.lz h0
  have u0:=Bs w7
  have o8:=Lib.hid (fun W (hW:Below w7.heap.size w7 W)=>k2.reads.below hW)
  clear hm k2
  obtain ⟨h1,h2,h3,h4,h5⟩:=compact_of g5.out m2
  rw [HN.out] at h1
  obtain ⟨E,hE⟩:∃ E,runE c m2=E:=⟨_,rfl⟩
  obtain ⟨M,hM⟩:∃ M,runM c m2=M:=⟨_,rfl⟩
  obtain ⟨b1,hB⟩:∃ b,runB c m2=b:=⟨_,rfl⟩
  have oA:E.length≤40002:=by rw [← hE];have:=runE_len c m2;omega
  have gA:=runM_sn c m2
  rw [hM] at gA
  rw [hB] at h3;rw [hM] at h4;rw [hE] at h5
  have bA:=Lib.hid h1;have eA:=Lib.hid h2;have s9:=Lib.hid h3;have aA:=Lib.hid h4;have v9:=Lib.hid h5;have u9:=Lib.hid hE;have z9:=Lib.hid hM;have r9:=Lib.hid hB;clear h1 h2 h3 h4 h5 hE hM hB
  go_upto_region 10 with (fail)
  obtain ⟨w8,k1,hb⟩:=nmw (World.alloc (World.alloc (World.alloc w7 (.cells #[.slice q8 i9 t8,.slice r8 g9 v8,.slice s8 h9 x8] 26)) (.cells #[.slice a3 m.vals.length c3,.slice a4 m.arrs.length c4] 29)) (.cells #[.slice a5 m2.vals.length c5,.slice a6 m2.arrs.length c6] 29))
  replace t0:=btr (bal (bal (bal t0 _) _) _) hb
  replace w0:=btr (bal (bal (bal w0 _) _) _) hb
  replace i0:=btr (bal (bal (bal i0 _) _) _) hb
  replace u0:=btr (bal (bal (bal u0 _) _) _) hb
  have t2:=hb.size
  simp only [Sa] at t2
  replace n0:=Bk.below (Bk.al (Bk.al (Bk.al n0 _) _) _) hb
  replace b0:=Bk.below (Bk.al (Bk.al (Bk.al b0 _) _) _) hb
  replace h0:=Bk.below (Bk.al (Bk.al (Bk.al h0 _) _) _) hb
  have q0:Bk w8 (w7.heap.size) [.slice q8 i9 t8,.slice r8 g9 v8,.slice s8 h9 x8]:=Bk.below (Bk.al (Bk.al (Bk.nw (by simp) rfl) (.cells #[.slice a3 m.vals.length c3,.slice a4 m.arrs.length c4] 29)) (.cells #[.slice a5 m2.vals.length c5,.slice a6 m2.arrs.length c6] 29)) hb
  have s0:Bk w8 (w7.heap.size+1) [.slice a3 m.vals.length c3,.slice a4 m.arrs.length c4]:=Bk.below (Bk.al (Bk.nw (by simp) rfl) (.cells #[.slice a5 m2.vals.length c5,.slice a6 m2.arrs.length c6] 29)) hb
  have o0:Bk w8 (w7.heap.size+1+1) [.slice a5 m2.vals.length c5,.slice a6 m2.arrs.length c6]:=Bk.below (Bk.nw (by simp) rfl) hb
  replace z0:=btr (bal (bal (bal z0 _) _) _) hb
  clear hb
  rw [← k1]
  clear k1
  have u1:=Bk.lz q0
  have v1:=Bk.lz s0
  have z1:=Bk.lz o0
  obtain ⟨b7,l8,c7,m8,d7,b4⟩:=Bk.f3 n0 0 1 2 rfl rfl rfl
  obtain ⟨v2,d4,z2,e4⟩:=Bk.f2 o0 0 1 rfl rfl
  go_wp2_with fail
  have j0:=iRunCode_any _ _ _ _ _ c m2 _ (HC.out _ t0) (o8.out _ u0) i2.1 i2.2.1 i2.2.2
  rw [r9.out,u9.out,z9.out] at j0
  refine (j0).mono ?_
  rintro e w9 ⟨yA,aB,qB,oB,rfl,oM,oE,hb⟩
  obtain ⟨j9,n9,l9,p9,rfl,rfl⟩:=oM.shape
  obtain ⟨uA,wA,rfl⟩:=Oh oE
  clear j0
  replace t0:=btr t0 hb
  replace w0:=btr w0 hb
  replace i0:=btr i0 hb
  replace u0:=btr u0 hb
  have j5:=hb.size
  clear l8 b7 m8 c7 b4 d7 d4 v2 e4 z2
  replace n0:=Bk.below n0 hb
  replace b0:=Bk.below b0 hb
  replace h0:=Bk.below h0 hb
  replace q0:=Bk.below q0 hb
  replace s0:=Bk.below s0 hb
  replace o0:=Bk.below o0 hb
  replace z0:=btr z0 hb
  clear hb
  have m0:=Bs w9
  have cA:=Lib.hid (fun W (hW:Below w9.heap.size w9 W)=>(oM.reads (by omega) (by omega) (by omega)).below hW)
  have x9:=Lib.hid (fun W (hW:Below w9.heap.size w9 W)=>(Ro oE (by omega)).below hW)
  replace p2:=Bk.lz n0
  replace m1:=Bk.lz b0
  replace n1:=Bk.lz h0
  replace u1:=Bk.lz q0
  replace v1:=Bk.lz s0
  replace z1:=Bk.lz o0
  clear oM oE
  go_upto_region 11 with (fail)
  obtain ⟨lA,k1,hb⟩:=nmw (World.alloc w9 (.cells #[.slice j9 M.vals.length n9,.slice l9 M.arrs.length p9] 29))
  replace t0:=btr (bal t0 _) hb
  replace w0:=btr (bal w0 _) hb
  replace i0:=btr (bal i0 _) hb
  replace u0:=btr (bal u0 _) hb
  replace m0:=btr (bal m0 _) hb
  have r1:=hb.size
  simp only [Sa] at r1
  replace n0:=Bk.below (Bk.al n0 _) hb
  replace b0:=Bk.below (Bk.al b0 _) hb
  replace h0:=Bk.below (Bk.al h0 _) hb
  replace q0:=Bk.below (Bk.al q0 _) hb
  replace s0:=Bk.below (Bk.al s0 _) hb
  replace o0:=Bk.below (Bk.al o0 _) hb
  have k0:Bk lA (w9.heap.size) [.slice j9 M.vals.length n9,.slice l9 M.arrs.length p9]:=Bk.below (Bk.nw (by simp) rfl) hb
  replace z0:=btr (bal z0 _) hb
  clear hb
  rw [← k1]
  clear k1
  have p1:=Bk.lz k0
  obtain ⟨b3,f4,d3,g4,e3,i4⟩:=Bk.f3 b0 0 1 2 rfl rfl rfl
  obtain ⟨g3,j4,i3,k4⟩:=Bk.f2 o0 0 1 rfl rfl
  go_wp2_with fail
  have j0:=iRunCode_any _ _ _ _ _ D m2 _ (q1.out _ w0) (o8.out _ u0) i2.1 i2.2.1 i2.2.2
  rw [s9.out,v9.out,aA.out] at j0
  refine (j0).mono ?_
  rintro e b2 ⟨zA,bB,rB,pB,rfl,oM,oE,hb⟩
  obtain ⟨k9,o9,m9,q9,rfl,rfl⟩:=oM.shape
  obtain ⟨vA,xA,rfl⟩:=Oh oE
  clear j0
  replace t0:=btr t0 hb
  replace w0:=btr w0 hb
  replace i0:=btr i0 hb
  replace u0:=btr u0 hb
  replace m0:=btr m0 hb
  have k5:=hb.size
  clear f4 b3 g4 d3 i4 e3 j4 g3 k4 i3
  replace n0:=Bk.below n0 hb
  replace b0:=Bk.below b0 hb
  replace h0:=Bk.below h0 hb
  replace q0:=Bk.below q0 hb
  replace s0:=Bk.below s0 hb
  replace o0:=Bk.below o0 hb
  replace k0:=Bk.below k0 hb
  replace z0:=btr z0 hb
  clear hb
  have p0:=Bs b2
  have dA:=Lib.hid (fun W (hW:Below b2.heap.size b2 W)=>(oM.reads (by omega) (by omega) (by omega)).below hW)
  have y9:=Lib.hid (fun W (hW:Below b2.heap.size b2 W)=>(Ro oE (by omega)).below hW)
  replace p2:=Bk.lz n0
  replace m1:=Bk.lz b0
  replace n1:=Bk.lz h0
  replace u1:=Bk.lz q0
  replace v1:=Bk.lz s0
  replace z1:=Bk.lz o0
  replace p1:=Bk.lz k0
  clear oM oE
  go_upto_region 12 with (fail)
  obtain ⟨mA,k1,hb⟩:=nmw (World.alloc b2 (.cells #[.slice k9 M.vals.length o9,.slice m9 M.arrs.length q9] 29))
  replace t0:=btr (bal t0 _) hb
  replace w0:=btr (bal w0 _) hb
  replace i0:=btr (bal i0 _) hb
  replace u0:=btr (bal u0 _) hb
  replace m0:=btr (bal m0 _) hb
  replace p0:=btr (bal p0 _) hb
  have s1:=hb.size
  simp only [Sa] at s1
  replace n0:=Bk.below (Bk.al n0 _) hb
  replace b0:=Bk.below (Bk.al b0 _) hb
  replace h0:=Bk.below (Bk.al h0 _) hb
  replace q0:=Bk.below (Bk.al q0 _) hb
  replace s0:=Bk.below (Bk.al s0 _) hb
  replace o0:=Bk.below (Bk.al o0 _) hb
  replace k0:=Bk.below (Bk.al k0 _) hb
  have v0:Bk mA (b2.heap.size) [.slice k9 M.vals.length o9,.slice m9 M.arrs.length q9]:=Bk.below (Bk.nw (by simp) rfl) hb
  replace z0:=btr (bal z0 _) hb
  clear hb
  rw [← k1]
  clear k1
  have u2:=Bk.lz v0
  obtain ⟨j3,l4,k3,m4,l3,n4⟩:=Bk.f3 b0 0 1 2 rfl rfl rfl
  go_wp2_with fail
  have j0:=iCompact_any _ _ _ D _ (q1.out _ w0)
  rw [eA.out] at j0;dsimp only at j0
  refine (j0).mono ?_
  rintro e e5 ⟨gB,kB,nB,rfl,o5,hb⟩
  obtain ⟨x0,y0,x1,y1,x2,y2,rfl,rfl,rfl⟩:=o5.shape
  clear j0
  replace t0:=btr t0 hb
  replace w0:=btr w0 hb
  replace i0:=btr i0 hb
  replace u0:=btr u0 hb
  replace m0:=btr m0 hb
  replace p0:=btr p0 hb
  have l5:=hb.size
  clear l4 j3 m4 k3 n4 l3
  replace n0:=Bk.below n0 hb
  replace b0:=Bk.below b0 hb
  replace h0:=Bk.below h0 hb
  replace q0:=Bk.below q0 hb
  replace s0:=Bk.below s0 hb
  replace o0:=Bk.below o0 hb
  replace k0:=Bk.below k0 hb
  replace v0:=Bk.below v0 hb
  replace z0:=btr z0 hb
  clear hb
  have i1:=Bs e5
  have t9:=Lib.hid (fun W (hW:Below e5.heap.size e5 W)=>(o5.reads (by omega) (by omega) (by omega)).below hW)
  replace p2:=Bk.lz n0
  replace m1:=Bk.lz b0
  replace n1:=Bk.lz h0
  replace u1:=Bk.lz q0
  replace v1:=Bk.lz s0
  replace z1:=Bk.lz o0
  replace p1:=Bk.lz k0
  replace u2:=Bk.lz v0
  clear o5
  go_upto_region 13 with (fail)
  obtain ⟨nA,k1,hb⟩:=nmw (World.alloc e5 (.cells #[.slice x0 D.vars.length y0,.slice x1 D.arrays.length y1,.slice x2 D.list.length y2] 26))
  replace t0:=btr (bal t0 _) hb
  replace w0:=btr (bal w0 _) hb
  replace i0:=btr (bal i0 _) hb
  replace u0:=btr (bal u0 _) hb
  replace m0:=btr (bal m0 _) hb
  replace p0:=btr (bal p0 _) hb
  replace i1:=btr (bal i1 _) hb
  have t1:=hb.size
  simp only [Sa] at t1
  replace n0:=Bk.below (Bk.al n0 _) hb
  replace b0:=Bk.below (Bk.al b0 _) hb
  replace h0:=Bk.below (Bk.al h0 _) hb
  replace q0:=Bk.below (Bk.al q0 _) hb
  replace s0:=Bk.below (Bk.al s0 _) hb
  replace o0:=Bk.below (Bk.al o0 _) hb
  replace k0:=Bk.below (Bk.al k0 _) hb
  replace v0:=Bk.below (Bk.al v0 _) hb
  have j1:Bk nA (e5.heap.size) [.slice x0 D.vars.length y0,.slice x1 D.arrays.length y1,.slice x2 D.list.length y2]:=Bk.below (Bk.nw (by simp) rfl) hb
  replace z0:=btr (bal z0 _) hb
  clear hb
  rw [← k1]
  clear k1
  have f9:=Bk.lz j1
  obtain ⟨m3,o4,n3,p4,o3,q4⟩:=Bk.f3 b0 0 1 2 rfl rfl rfl
  go_wp2_with fail
  have j0:=iRegsUsed_any _ _ _ D _ (q1.out _ w0)
  rw [bA.out] at j0
  refine (j0).mono ?_
  rintro e aC ⟨rfl,hb⟩
  clear j0
  replace t0:=btr t0 hb
  replace w0:=btr w0 hb
  replace i0:=btr i0 hb
  replace u0:=btr u0 hb
  replace m0:=btr m0 hb
  replace p0:=btr p0 hb
  replace i1:=btr i1 hb
  have m5:=hb.size
  clear o4 m3 p4 n3 q4 o3
  replace n0:=Bk.below n0 hb
  replace b0:=Bk.below b0 hb
  replace h0:=Bk.below h0 hb
  replace q0:=Bk.below q0 hb
  replace s0:=Bk.below s0 hb
  replace o0:=Bk.below o0 hb
  replace k0:=Bk.below k0 hb
  replace v0:=Bk.below v0 hb
  replace j1:=Bk.below j1 hb
  replace z0:=btr z0 hb
  clear hb
  obtain ⟨p3,r4,q3,s4,r3,t4⟩:=Bk.f3 b0 0 1 2 rfl rfl rfl
  obtain ⟨s3,u4,t3,v4,u3,x4⟩:=Bk.f3 j1 0 1 2 rfl rfl rfl
  go_wp2_with fail
  have j0:=CodeSame_any _ _ _ _ _ _ D D _ (t9.out _ i1) (q1.out _ w0)
  rw [decide_eq_true (Eq.refl D)] at j0
  refine (j0).mono ?_
  rintro e bC ⟨rfl,hb⟩
  clear j0
  replace t0:=btr t0 hb
  replace w0:=btr w0 hb
  replace i0:=btr i0 hb
  replace u0:=btr u0 hb
  replace m0:=btr m0 hb
  replace p0:=btr p0 hb
  replace i1:=btr i1 hb
  have n5:=hb.size
  clear r4 p3 s4 q3 t4 r3 u4 s3 v4 t3 x4 u3
  replace n0:=Bk.below n0 hb
  replace b0:=Bk.below b0 hb
  replace h0:=Bk.below h0 hb
  replace q0:=Bk.below q0 hb
  replace s0:=Bk.below s0 hb
  replace o0:=Bk.below o0 hb
  replace k0:=Bk.below k0 hb
  replace v0:=Bk.below v0 hb
  replace j1:=Bk.below j1 hb
  replace z0:=btr z0 hb
  clear hb
  obtain ⟨v3,y4,x3,z4⟩:=Bk.f2 k0 0 1 rfl rfl
  obtain ⟨y3,b5,z3,d5⟩:=Bk.f2 v0 0 1 rfl rfl
  go_wp2_with fail
  have j0:=MemorySame_any _ _ _ _ M M _ (cA.out _ m0) (dA.out _ p0)
  rw [decide_eq_true (Eq.refl M)] at j0
  refine (j0).mono ?_
  rintro e cC ⟨rfl,hb⟩
  clear j0
  replace t0:=btr t0 hb
  replace w0:=btr w0 hb
  replace i0:=btr i0 hb
  replace u0:=btr u0 hb
  replace m0:=btr m0 hb
  replace p0:=btr p0 hb
  replace i1:=btr i1 hb
  have p5:=hb.size
  clear y4 v3 z4 x3 b5 y3 d5 z3
  replace n0:=Bk.below n0 hb
  replace b0:=Bk.below b0 hb
  replace h0:=Bk.below h0 hb
  replace q0:=Bk.below q0 hb
  replace s0:=Bk.below s0 hb
  replace o0:=Bk.below o0 hb
  replace k0:=Bk.below k0 hb
  replace v0:=Bk.below v0 hb
  replace j1:=Bk.below j1 hb
  replace z0:=btr z0 hb
  clear hb
  go_wp2_with fail
  have j0:=TraceSame_any _ _ E E _ (x9.out _ m0) (y9.out _ p0)
  rw [decide_eq_true (Eq.refl E)] at j0
  refine (j0).mono ?_
  rintro e dC ⟨rfl,hb⟩
  clear j0
  replace t0:=btr t0 hb
  replace w0:=btr w0 hb
  replace i0:=btr i0 hb
  replace u0:=btr u0 hb
  replace m0:=btr m0 hb
  replace p0:=btr p0 hb
  replace i1:=btr i1 hb
  have q5:=hb.size
  replace n0:=Bk.below n0 hb
  replace b0:=Bk.below b0 hb
  replace h0:=Bk.below h0 hb
  replace q0:=Bk.below q0 hb
  replace s0:=Bk.below s0 hb
  replace o0:=Bk.below o0 hb
  replace k0:=Bk.below k0 hb
  replace v0:=Bk.below v0 hb
  replace j1:=Bk.below j1 hb
  replace z0:=btr z0 hb
  clear hb
  have tt:=z0
  go_wp2
  go_ret
  exact ⟨rfl,tt⟩
end Go.Proofs.YtkjedgnepnbkpaaGreat
