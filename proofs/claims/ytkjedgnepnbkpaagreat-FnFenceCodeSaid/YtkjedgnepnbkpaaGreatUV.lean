/-
 Parts of the proofs of the laws FnCompactRegs,FnFenceCode,FnRunTimeSteps.
-/
import Derived.Test.YtkjedgnepnbkpaaGreatXA
import Derived.Test.YtkjedgnepnbkpaaGreatZU
import Derived.Test.YtkjedgnepnbkpaaGreatFI
import Derived.Test.YtkjedgnepnbkpaaGreatFS
import Derived.Test.YtkjedgnepnbkpaaGreatUR
import Derived.Test.YtkjedgnepnbkpaaGreatWA
set_option linter.all false
namespace Go.Proofs.YtkjedgnepnbkpaaGreat
open Go.RowKit
theorem fence_fo {c D:Cd} (h:fenceR c=(D,true)) (m:Mm):codeFenced D=true∧fenceR D=(D,true)∧(runB c m=true→runB D m=true→runM c m=runM D m∧prj (runE c m)=prj (runE D m)):=by
 by_cases hc:codeOk c=true∧cnt c.list c.list.length≤400
 ·have hD:D=fenceC c:=by rw [fenceR_yes hc] at h;exact (congrArg Prod.fst h).symm
  rw [hD]
  exact law_fence hc m
 rw [fenceR_no hc] at h;cases congrArg Prod.snd h
theorem runM_so (c:Cd) (m:Mm):(runM c m).vals.length≤1048576∧(runM c m).arrs.length≤1048576∧pre2 (runM c m).arrs (runM c m).arrs.length≤1048576:=by
 cases h:finN c m with
 | none=>rw [(run_no h).2.1];simp [pre2]
 | some n =>
  rw [(run_yes h).2.1]
  have hg:=(finN_iff.1 h).1
  exact (mem_small (goOk_code hg) (stN_ok (goOk_code hg) (ini_ok hg) (n+1))).2
set_option maxHeartbeats 12800000 in
set_option maxRecDepth 100000 in
theorem FnFenceCode_walk (v:Value) (n:Nat) (vs:List Int) (w:World) (r0:Reads w 1 v n (vs.map (Value.int .u8))) (hv:∀ x ∈ vs,0≤x∧x < 256) :
  Calls Tryz.prog 5 #[v] w fun e w'=>e=.returned (.bool true)∧Below w.heap.size w w':=by
 obtain ⟨va,vc,rfl⟩:=reads_shape r0
 by_cases hn:n≤1048576
 case neg =>
  have l8:(1048576:Int) < (n:Int):=by omega
  clear r0
  go_enter Tryz.func5,Tryz.ntmps5
  go_wp2
  go_ret
  exact ⟨rfl,Below.refl _ _⟩
 have l8:¬(1048576:Int) < (n:Int):=by omega
 go_enter Tryz.func5,Tryz.ntmps5
 go_wp2_with fail
 refine (DrawSpecRun_any _ n vs _ (r0.below (Bs w)) hv hn).mono ?_
 rintro e w1 ⟨eA,fA,gA,cA,dA,hA,b9,z8,a9,m,ws,rfl,d7,o3,hm,l7,hb⟩
 clear r0 hv
 obtain ⟨c,q1⟩:=RdC.of d7 o3.1 o3.2.1 o3.2.2
 clear d7 o3
 obtain ⟨a0,c0,a1,c1,a2,c2,rfl,rfl,rfl⟩:=q1.r.shape
 obtain ⟨a3,c3,a4,c4,rfl,rfl⟩:=hm.reads.shape
 obtain ⟨a5,c5,rfl⟩:=reads_shape l7.1
 clear l7
 have x8:c.vars.length≤1000∧c.arrays.length≤1000∧c.list.length≤1000:=⟨q1.l0,q1.l1,q1.l2⟩
 have p1:m.vals.length≤1048576∧m.arrs.length≤1048576∧pre2 m.arrs m.arrs.length≤1048576:=by have h2:=hm.l0;have h3:=hm.l1;have h4:=hm.pre;omega
 have o8:=hb.size
 have u0:=btr (Bs w) hb
 clear hb
 have s0:=Bs w1
 have HC:=Lib.hid (fun W (hW:Below w1.heap.size w1 W)=>q1.r.below hW)
 have HM:=Lib.hid (fun W (hW:Below w1.heap.size w1 W)=>hm.reads.below hW)
 clear q1 hm
 obtain ⟨D,ok,v3⟩:∃ D ok,fenceR c=(D,ok):=⟨_,_,rfl⟩
 have y8:D.vars.length≤1048576∧D.arrays.length≤1048576∧D.list.length≤1048576:=by have:=fenceR_lens c;rw [v3] at this;exact this
 have s3:=Lib.hid v3;clear v3
 go_wp2_with fail
 have j0:=iFence_any _ _ _ c _ (HC.out _ (bal (bal s0 (.cells #[.slice a0 c.vars.length c0,.slice a1 c.arrays.length c1,.slice a2 c.list.length c2] 26)) (.cells #[.slice a3 m.vals.length c3,.slice a4 m.arrs.length c4] 29)))
 rw [s3.out] at j0;dsimp only at j0
 refine (j0).mono ?_
 rintro e w2 ⟨o9,r9,u9,rfl,o1,hb⟩
 obtain ⟨d0,g0,d1,g1,d2,g2,rfl,rfl,rfl⟩:=o1.shape
 clear j0
 replace s0:=btr (bal (bal s0 _) _) hb
 have f4:=hb.size
 simp only [Sa] at f4
 have o0:Bk w2 (w1.heap.size) [.slice a0 c.vars.length c0,.slice a1 c.arrays.length c1,.slice a2 c.list.length c2]:=Bk.below (Bk.al (Bk.nw (by simp) rfl) (.cells #[.slice a3 m.vals.length c3,.slice a4 m.arrs.length c4] 29)) hb
 have p0:Bk w2 (w1.heap.size+1) [.slice a3 m.vals.length c3,.slice a4 m.arrs.length c4]:=Bk.below (Bk.nw (by simp) rfl) hb
 replace u0:=btr (bal (bal u0 _) _) hb
 clear hb
 have t0:=Bs w2
 have k1:=Lib.hid (fun W (hW:Below w2.heap.size w2 W)=>(o1.reads (by omega) (by omega) (by omega)).below hW)
 have p3:=Bk.lz o0
 have q3:=Bk.lz p0
 clear o1
 obtain ⟨r8,r5,i4,s5,j4,t5⟩:=Bk.f3 o0 0 1 2 rfl rfl rfl
 go_wp2_with fail
 have j0:=sFence_any _ _ _ c _ (HC.out _ (bal s0 (.cells #[.slice d0 D.vars.length g0,.slice d1 D.arrays.length g1,.slice d2 D.list.length g2] 26)))
 rw [s3.out] at j0;dsimp only at j0
 refine (j0).mono ?_
 rintro e w3 ⟨p9,s9,v9,rfl,o2,hb⟩
 obtain ⟨e0,f0,e1,f1,e2,f2,rfl,rfl,rfl⟩:=o2.shape
 clear j0
 replace s0:=btr (bal s0 _) hb
 replace t0:=btr (bal t0 _) hb
 have r1:=hb.size
 simp only [Sa] at r1
 clear r5 r8 s5 i4 t5 j4
 replace o0:=Bk.below (Bk.al o0 _) hb
 replace p0:=Bk.below (Bk.al p0 _) hb
 have b0:Bk w3 (w2.heap.size) [.slice d0 D.vars.length g0,.slice d1 D.arrays.length g1,.slice d2 D.list.length g2]:=Bk.below (Bk.nw (by simp) rfl) hb
 replace u0:=btr (bal u0 _) hb
 clear hb
 have h0:=Bs w3
 have r3:=Lib.hid (fun W (hW:Below w3.heap.size w3 W)=>(o2.reads (by omega) (by omega) (by omega)).below hW)
 replace p3:=Bk.lz o0
 replace q3:=Bk.lz p0
 have m1:=Bk.lz b0
 clear o2
 cases ok with
 | false =>
  obtain ⟨k4,u5,l4,v5,m4,x5⟩:=Bk.f3 b0 0 1 2 rfl rfl rfl
  go_wp2_with fail
  have j0:=CodeSame_any _ _ _ _ _ _ D D _ (k1.out _ (bal t0 (.cells #[.slice e0 D.vars.length f0,.slice e1 D.arrays.length f1,.slice e2 D.list.length f2] 26))) (r3.out _ (bal h0 (.cells #[.slice e0 D.vars.length f0,.slice e1 D.arrays.length f1,.slice e2 D.list.length f2] 26)))
  rw [decide_eq_true (Eq.refl D)] at j0
  refine (j0).mono ?_
  rintro e w4 ⟨rfl,hb⟩
  clear j0
  replace s0:=btr (bal s0 _) hb
  replace t0:=btr (bal t0 _) hb
  replace h0:=btr (bal h0 _) hb
  have s1:=hb.size
  simp only [Sa] at s1
  clear u5 k4 v5 l4 x5 m4
  replace o0:=Bk.below (Bk.al o0 _) hb
  replace p0:=Bk.below (Bk.al p0 _) hb
  replace b0:=Bk.below (Bk.al b0 _) hb
  have i1:Bk w4 (w3.heap.size) [.slice e0 D.vars.length f0,.slice e1 D.arrays.length f1,.slice e2 D.list.length f2]:=Bk.below (Bk.nw (by simp) rfl) hb
  replace u0:=btr (bal u0 _) hb
  clear hb
  have p8:=Bk.lz i1
  obtain ⟨n4,y5,o4,z5,p4,a6⟩:=Bk.f3 b0 0 1 2 rfl rfl rfl
  obtain ⟨q4,b6,r4,c6,s4,d6⟩:=Bk.f3 i1 0 1 2 rfl rfl rfl
  go_wp2_with fail
  have j0:=CodeSame_any _ _ _ _ _ _ D D _ (k1.out _ t0) (r3.out _ h0)
  rw [decide_eq_true (Eq.refl D)] at j0
  refine (j0).mono ?_
  rintro e w5 ⟨rfl,hb⟩
  clear j0
  replace s0:=btr s0 hb
  replace t0:=btr t0 hb
  replace h0:=btr h0 hb
  have g7:=hb.size
  clear y5 n4 z5 o4 a6 p4 b6 q4 c6 r4 d6 s4
  replace o0:=Bk.below o0 hb
  replace p0:=Bk.below p0 hb
  replace b0:=Bk.below b0 hb
  replace i1:=Bk.below i1 hb
  replace u0:=btr u0 hb
  clear hb
  have tt:=u0
  go_wp2
  go_ret
  exact ⟨rfl,tt⟩
 | true =>
  obtain ⟨t4,e6,u4,f6,v4,g6⟩:=Bk.f3 b0 0 1 2 rfl rfl rfl
  go_wp2_with fail
  have j0:=CodeSame_any _ _ _ _ _ _ D D _ (k1.out _ (bal t0 (.cells #[.slice e0 D.vars.length f0,.slice e1 D.arrays.length f1,.slice e2 D.list.length f2] 26))) (r3.out _ (bal h0 (.cells #[.slice e0 D.vars.length f0,.slice e1 D.arrays.length f1,.slice e2 D.list.length f2] 26)))
  rw [decide_eq_true (Eq.refl D)] at j0
  refine (j0).mono ?_
  rintro e w4 ⟨rfl,hb⟩
  clear j0
  replace s0:=btr (bal s0 _) hb
  replace t0:=btr (bal t0 _) hb
  replace h0:=btr (bal h0 _) hb
  have t1:=hb.size
  simp only [Sa] at t1
  clear e6 t4 f6 u4 g6 v4
  replace o0:=Bk.below (Bk.al o0 _) hb
  replace p0:=Bk.below (Bk.al p0 _) hb
  replace b0:=Bk.below (Bk.al b0 _) hb
  have i0:Bk w4 (w3.heap.size) [.slice e0 D.vars.length f0,.slice e1 D.arrays.length f1,.slice e2 D.list.length f2]:=Bk.below (Bk.nw (by simp) rfl) hb
  replace u0:=btr (bal u0 _) hb
  clear hb
  have n1:=Bk.lz i0
  obtain ⟨c7,b7,x3⟩:=fence_fo s3.out m
  obtain ⟨E1,k3⟩:∃ E,runE c m=E:=⟨_,rfl⟩
  obtain ⟨E2,l3⟩:∃ E,runE D m=E:=⟨_,rfl⟩
  obtain ⟨N1,m3⟩:∃ N,runM c m=N:=⟨_,rfl⟩
  obtain ⟨N2,n3⟩:∃ N,runM D m=N:=⟨_,rfl⟩
  obtain ⟨b1,t3⟩:∃ b,runB c m=b:=⟨_,rfl⟩
  obtain ⟨b2,u3⟩:∃ b,runB D m=b:=⟨_,rfl⟩
  have t8:E1.length≤40002:=by rw [← k3];have:=runE_len c m;omega
  have v8:E2.length≤40002:=by rw [← l3];have:=runE_len D m;omega
  have m8:=runM_so c m
  rw [m3] at m8
  have n8:=runM_so D m
  rw [n3] at n8
  rw [t3,u3,k3,l3,m3,n3] at x3
  have y7:=Lib.hid c7;have u7:=Lib.hid b7;have k8:=Lib.hid x3;have a8:=Lib.hid k3;have b8:=Lib.hid l3;have e8:=Lib.hid m3;have f8:=Lib.hid n3;have v7:=Lib.hid t3;have x7:=Lib.hid u3
  clear c7 b7 x3 k3 l3 m3 n3 t3 u3
  go_upto_region 8 with (fail)
  obtain ⟨x4,h6,y4,i6,z4,j6⟩:=Bk.f3 o0 0 1 2 rfl rfl rfl
  obtain ⟨b5,k6,d5,l6⟩:=Bk.f2 p0 0 1 rfl rfl
  go_wp2_with fail
  have j0:=iRunCode_any _ _ _ _ _ c m _ (HC.out _ s0) (HM.out _ s0) p1.1 p1.2.1 p1.2.2
  rw [v7.out,a8.out,e8.out] at j0
  refine (j0).mono ?_
  rintro e w5 ⟨k9,m9,aA,y9,rfl,oM,oE,hb⟩
  obtain ⟨m7,q7,o7,s7,rfl,rfl⟩:=oM.shape
  obtain ⟨c9,g9,rfl⟩:=Oh oE
  clear j0
  replace s0:=btr s0 hb
  replace t0:=btr t0 hb
  replace h0:=btr h0 hb
  have h7:=hb.size
  clear h6 x4 i6 y4 j6 z4 k6 b5 l6 d5
  replace o0:=Bk.below o0 hb
  replace p0:=Bk.below p0 hb
  replace b0:=Bk.below b0 hb
  replace i0:=Bk.below i0 hb
  replace u0:=btr u0 hb
  clear hb
  have m0:=Bs w5
  have i8:=Lib.hid (fun W (hW:Below w5.heap.size w5 W)=>(oM.reads (by omega) (by omega) (by omega)).below hW)
  have c8:=Lib.hid (fun W (hW:Below w5.heap.size w5 W)=>(Ro oE (by omega)).below hW)
  replace p3:=Bk.lz o0
  replace q3:=Bk.lz p0
  replace m1:=Bk.lz b0
  replace n1:=Bk.lz i0
  clear oM oE
  go_upto_region 9 with (fail)
  obtain ⟨w6,j1,hb⟩:=nmw (World.alloc w5 (.cells #[.slice m7 N1.vals.length q7,.slice o7 N1.arrs.length s7] 29))
  replace s0:=btr (bal s0 _) hb
  replace t0:=btr (bal t0 _) hb
  replace h0:=btr (bal h0 _) hb
  replace m0:=btr (bal m0 _) hb
  have u1:=hb.size
  simp only [Sa] at u1
  replace o0:=Bk.below (Bk.al o0 _) hb
  replace p0:=Bk.below (Bk.al p0 _) hb
  replace b0:=Bk.below (Bk.al b0 _) hb
  replace i0:=Bk.below (Bk.al i0 _) hb
  have k0:Bk w6 (w5.heap.size) [.slice m7 N1.vals.length q7,.slice o7 N1.arrs.length s7]:=Bk.below (Bk.nw (by simp) rfl) hb
  replace u0:=btr (bal u0 _) hb
  clear hb
  rw [← j1]
  clear j1
  have i2:=Bk.lz k0
  obtain ⟨e5,m6,f5,n6⟩:=Bk.f2 p0 0 1 rfl rfl
  obtain ⟨g5,o6,h5,p6,i5,q6⟩:=Bk.f3 b0 0 1 2 rfl rfl rfl
  go_wp2_with fail
  have j0:=iRunCode_any _ _ _ _ _ D m _ (k1.out _ t0) (HM.out _ s0) p1.1 p1.2.1 p1.2.2
  rw [x7.out,b8.out,f8.out] at j0
  refine (j0).mono ?_
  rintro e w7 ⟨l9,n9,bA,z9,rfl,oM,oE,hb⟩
  obtain ⟨n7,r7,p7,t7,rfl,rfl⟩:=oM.shape
  obtain ⟨d9,h9,rfl⟩:=Oh oE
  clear j0
  replace s0:=btr s0 hb
  replace t0:=btr t0 hb
  replace h0:=btr h0 hb
  replace m0:=btr m0 hb
  have i7:=hb.size
  clear m6 e5 n6 f5 o6 g5 p6 h5 q6 i5
  replace o0:=Bk.below o0 hb
  replace p0:=Bk.below p0 hb
  replace b0:=Bk.below b0 hb
  replace i0:=Bk.below i0 hb
  replace k0:=Bk.below k0 hb
  replace u0:=btr u0 hb
  clear hb
  have n0:=Bs w7
  have j8:=Lib.hid (fun W (hW:Below w7.heap.size w7 W)=>(oM.reads (by omega) (by omega) (by omega)).below hW)
  have d8:=Lib.hid (fun W (hW:Below w7.heap.size w7 W)=>(Ro oE (by omega)).below hW)
  replace p3:=Bk.lz o0
  replace q3:=Bk.lz p0
  replace m1:=Bk.lz b0
  replace n1:=Bk.lz i0
  replace i2:=Bk.lz k0
  clear oM oE
  go_upto_region 10 with (fail)
  obtain ⟨w8,j1,hb⟩:=nmw (World.alloc w7 (.cells #[.slice n7 N2.vals.length r7,.slice p7 N2.arrs.length t7] 29))
  replace s0:=btr (bal s0 _) hb
  replace t0:=btr (bal t0 _) hb
  replace h0:=btr (bal h0 _) hb
  replace m0:=btr (bal m0 _) hb
  replace n0:=btr (bal n0 _) hb
  have v1:=hb.size
  simp only [Sa] at v1
  replace o0:=Bk.below (Bk.al o0 _) hb
  replace p0:=Bk.below (Bk.al p0 _) hb
  replace b0:=Bk.below (Bk.al b0 _) hb
  replace i0:=Bk.below (Bk.al i0 _) hb
  replace k0:=Bk.below (Bk.al k0 _) hb
  have q0:Bk w8 (w7.heap.size) [.slice n7 N2.vals.length r7,.slice p7 N2.arrs.length t7]:=Bk.below (Bk.nw (by simp) rfl) hb
  replace u0:=btr (bal u0 _) hb
  clear hb
  rw [← j1]
  clear j1
  have g4:=Bk.lz q0
  obtain ⟨j5,r6,k5,s6,l5,t6⟩:=Bk.f3 b0 0 1 2 rfl rfl rfl
  go_wp2_with fail
  have j0:=iFence_any _ _ _ D _ (k1.out _ t0)
  rw [u7.out] at j0;dsimp only at j0
  refine (j0).mono ?_
  rintro e w9 ⟨q9,t9,x9,rfl,o5,hb⟩
  obtain ⟨x0,y0,x1,y1,x2,y2,rfl,rfl,rfl⟩:=o5.shape
  clear j0
  replace s0:=btr s0 hb
  replace t0:=btr t0 hb
  replace h0:=btr h0 hb
  replace m0:=btr m0 hb
  replace n0:=btr n0 hb
  have j7:=hb.size
  clear r6 j5 s6 k5 t6 l5
  replace o0:=Bk.below o0 hb
  replace p0:=Bk.below p0 hb
  replace b0:=Bk.below b0 hb
  replace i0:=Bk.below i0 hb
  replace k0:=Bk.below k0 hb
  replace q0:=Bk.below q0 hb
  replace u0:=btr u0 hb
  clear hb
  have v0:=Bs w9
  have z7:=Lib.hid (fun W (hW:Below w9.heap.size w9 W)=>(o5.reads (by omega) (by omega) (by omega)).below hW)
  replace p3:=Bk.lz o0
  replace q3:=Bk.lz p0
  replace m1:=Bk.lz b0
  replace n1:=Bk.lz i0
  replace i2:=Bk.lz k0
  replace g4:=Bk.lz q0
  clear o5
  go_upto_region 11 with (fail)
  obtain ⟨s8,j1,hb⟩:=nmw (World.alloc w9 (.cells #[.slice x0 D.vars.length y0,.slice x1 D.arrays.length y1,.slice x2 D.list.length y2] 26))
  replace s0:=btr (bal s0 _) hb
  replace t0:=btr (bal t0 _) hb
  replace h0:=btr (bal h0 _) hb
  replace m0:=btr (bal m0 _) hb
  replace n0:=btr (bal n0 _) hb
  replace v0:=btr (bal v0 _) hb
  have z1:=hb.size
  simp only [Sa] at z1
  replace o0:=Bk.below (Bk.al o0 _) hb
  replace p0:=Bk.below (Bk.al p0 _) hb
  replace b0:=Bk.below (Bk.al b0 _) hb
  replace i0:=Bk.below (Bk.al i0 _) hb
  replace k0:=Bk.below (Bk.al k0 _) hb
  replace q0:=Bk.below (Bk.al q0 _) hb
  have w0:Bk s8 (w9.heap.size) [.slice x0 D.vars.length y0,.slice x1 D.arrays.length y1,.slice x2 D.list.length y2]:=Bk.below (Bk.nw (by simp) rfl) hb
  replace u0:=btr (bal u0 _) hb
  clear hb
  rw [← j1]
  clear j1
  have q8:=Bk.lz w0
  obtain ⟨m5,u6,n5,v6,p5,x6⟩:=Bk.f3 b0 0 1 2 rfl rfl rfl
  go_wp2_with fail
  have j0:=iCodeFenced_any _ _ _ D _ (k1.out _ t0)
  rw [y7.out] at j0
  refine (j0).mono ?_
  rintro e iA ⟨rfl,hb⟩
  clear j0
  replace s0:=btr s0 hb
  replace t0:=btr t0 hb
  replace h0:=btr h0 hb
  replace m0:=btr m0 hb
  replace n0:=btr n0 hb
  replace v0:=btr v0 hb
  have k7:=hb.size
  clear u6 m5 v6 n5 x6 p5
  replace o0:=Bk.below o0 hb
  replace p0:=Bk.below p0 hb
  replace b0:=Bk.below b0 hb
  replace i0:=Bk.below i0 hb
  replace k0:=Bk.below k0 hb
  replace q0:=Bk.below q0 hb
  replace w0:=Bk.below w0 hb
  replace u0:=btr u0 hb
  clear hb
  obtain ⟨q5,y6,j2,u2,k2,v2⟩:=Bk.f3 b0 0 1 2 rfl rfl rfl
  obtain ⟨m2,z2,n2,b3,p2,d3⟩:=Bk.f3 w0 0 1 2 rfl rfl rfl
  go_wp2_with fail
  have j0:=CodeSame_any _ _ _ _ _ _ D D _ (z7.out _ v0) (k1.out _ t0)
  rw [decide_eq_true (Eq.refl D)] at j0
  refine (j0).mono ?_
  rintro e jA ⟨rfl,hb⟩
  clear j0
  replace s0:=btr s0 hb
  replace t0:=btr t0 hb
  replace h0:=btr h0 hb
  replace m0:=btr m0 hb
  replace n0:=btr n0 hb
  replace v0:=btr v0 hb
  have y3:=hb.size
  clear y6 q5 u2 j2 v2 k2 z2 m2 b3 n2 d3 p2
  replace o0:=Bk.below o0 hb
  replace p0:=Bk.below p0 hb
  replace b0:=Bk.below b0 hb
  replace i0:=Bk.below i0 hb
  replace k0:=Bk.below k0 hb
  replace q0:=Bk.below q0 hb
  replace w0:=Bk.below w0 hb
  replace u0:=btr u0 hb
  clear hb
  cases b1 with
  | false =>
   cases b2 with
   | false =>
    have tt:=u0
    go_wp2
    go_ret
    exact ⟨rfl,tt⟩
   | true =>
    have tt:=u0
    go_wp2
    go_ret
    exact ⟨rfl,tt⟩
  | true =>
   cases b2 with
   | false =>
    have tt:=u0
    go_wp2
    go_ret
    exact ⟨rfl,tt⟩
   | true =>
    obtain ⟨e7,f7⟩:=k8.out rfl rfl
    have HN:=Lib.hid e7;have HP:=Lib.hid f7;clear e7 f7
    obtain ⟨q2,e3,r2,g3⟩:=Bk.f2 k0 0 1 rfl rfl
    obtain ⟨s2,i3,t2,j3⟩:=Bk.f2 q0 0 1 rfl rfl
    go_wp2_with fail
    have j0:=MemorySame_any _ _ _ _ N1 N2 _ (i8.out _ m0) (j8.out _ n0)
    rw [decide_eq_true HN.out] at j0
    refine (j0).mono ?_
    rintro e kA ⟨rfl,hb⟩
    clear j0
    replace s0:=btr s0 hb
    replace t0:=btr t0 hb
    replace h0:=btr h0 hb
    replace m0:=btr m0 hb
    replace n0:=btr n0 hb
    replace v0:=btr v0 hb
    have z3:=hb.size
    clear e3 q2 g3 r2 i3 s2 j3 t2
    replace o0:=Bk.below o0 hb
    replace p0:=Bk.below p0 hb
    replace b0:=Bk.below b0 hb
    replace i0:=Bk.below i0 hb
    replace k0:=Bk.below k0 hb
    replace q0:=Bk.below q0 hb
    replace w0:=Bk.below w0 hb
    replace u0:=btr u0 hb
    clear hb
    go_wp2_with fail
    have j0:=Project_any _ E1 _ (c8.out _ m0) (by omega)
    refine (j0).mono ?_
    rintro e z6 ⟨e9,i9,rfl,oP,hb⟩
    clear j0
    replace s0:=btr s0 hb
    replace t0:=btr t0 hb
    replace h0:=btr h0 hb
    replace m0:=btr m0 hb
    replace n0:=btr n0 hb
    replace v0:=btr v0 hb
    have b4:=hb.size
    replace o0:=Bk.below o0 hb
    replace p0:=Bk.below p0 hb
    replace b0:=Bk.below b0 hb
    replace i0:=Bk.below i0 hb
    replace k0:=Bk.below k0 hb
    replace q0:=Bk.below q0 hb
    replace w0:=Bk.below w0 hb
    replace u0:=btr u0 hb
    clear hb
    have z0:=Bs z6
    have g8:=Lib.hid (fun W (hW:Below z6.heap.size z6 W)=>(Ro oP (by have:=prj_len E1;omega)).below hW)
    clear oP
    go_wp2_with fail
    have j0:=Project_any _ E2 _ (d8.out _ n0) (by omega)
    refine (j0).mono ?_
    rintro e a7 ⟨f9,j9,rfl,oP,hb⟩
    clear j0
    replace s0:=btr s0 hb
    replace t0:=btr t0 hb
    replace h0:=btr h0 hb
    replace m0:=btr m0 hb
    replace n0:=btr n0 hb
    replace v0:=btr v0 hb
    replace z0:=btr z0 hb
    have d4:=hb.size
    replace o0:=Bk.below o0 hb
    replace p0:=Bk.below p0 hb
    replace b0:=Bk.below b0 hb
    replace i0:=Bk.below i0 hb
    replace k0:=Bk.below k0 hb
    replace q0:=Bk.below q0 hb
    replace w0:=Bk.below w0 hb
    replace u0:=btr u0 hb
    clear hb
    have h1:=Bs a7
    have h8:=Lib.hid (fun W (hW:Below a7.heap.size a7 W)=>(Ro oP (by have:=prj_len E2;omega)).below hW)
    clear oP
    go_wp2_with fail
    have j0:=TraceSame_any _ _ (prj E1) (prj E2) _ (g8.out _ z0) (h8.out _ h1)
    rw [decide_eq_true HP.out] at j0
    refine (j0).mono ?_
    rintro e lA ⟨rfl,hb⟩
    clear j0
    replace s0:=btr s0 hb
    replace t0:=btr t0 hb
    replace h0:=btr h0 hb
    replace m0:=btr m0 hb
    replace n0:=btr n0 hb
    replace v0:=btr v0 hb
    replace z0:=btr z0 hb
    replace h1:=btr h1 hb
    have e4:=hb.size
    replace o0:=Bk.below o0 hb
    replace p0:=Bk.below p0 hb
    replace b0:=Bk.below b0 hb
    replace i0:=Bk.below i0 hb
    replace k0:=Bk.below k0 hb
    replace q0:=Bk.below q0 hb
    replace w0:=Bk.below w0 hb
    replace u0:=btr u0 hb
    clear hb
    have tt:=u0
    go_wp2
    go_ret
    exact ⟨rfl,tt⟩
end Go.Proofs.YtkjedgnepnbkpaaGreat
