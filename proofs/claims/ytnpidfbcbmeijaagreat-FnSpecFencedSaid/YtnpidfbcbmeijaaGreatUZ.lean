/-
 Parts of the proofs of the laws FnRemoveDead,FnRemoveDeadLeak,FnSpecFenced,FnSpecMemory.
-/
import Derived.Test.YtnpidfbcbmeijaaGreatZU
import Derived.Test.YtnpidfbcbmeijaaGreatXH
import Derived.Test.YtnpidfbcbmeijaaGreatFS
import Derived.Test.YtnpidfbcbmeijaaGreatFI
import Derived.Test.YtnpidfbcbmeijaaGreatNF
set_option linter.all false
namespace Go.Proofs.YtnpidfbcbmeijaaGreat
open Go.RowKit
theorem trw_big (ws:List Bool) {a b:Nat} (ha:ws.length≤a) (hb:ws.length≤b):trw ws a=trw ws b:=by
 unfold trw;rw [List.take_of_length_le ha,List.take_of_length_le hb]
theorem trw_le (ws:List Bool) (k:Nat):trw ws k≤k:=by
 unfold trw
 have h1:=List.count_le_length (a:=true) (l:=ws.take k);have h2:=List.length_take_le k ws;omega
theorem runM_st (c:Cd) (m:Mm):(runM c m).vals.length≤1048576∧(runM c m).arrs.length≤1048576∧pre2 (runM c m).arrs (runM c m).arrs.length≤1048576:=by
 cases h:finN c m with
 | none=>rw [(run_no h).2.1];simp [pre2]
 | some n =>
  rw [(run_yes h).2.1];have hg:=(finN_iff.1 h).1;exact (mem_small (goOk_code hg) (stN_ok (goOk_code hg) (ini_ok hg) (n+1))).2
set_option maxHeartbeats 12800000 in
set_option maxRecDepth 100000 in
theorem FnSpecFenced_walk (v:Value) (n:Nat) (vs:List Int) (w:World) (r0:Reads w 1 v n (vs.map (Value.int .u8))) (hv:∀ x ∈ vs,0≤x∧x < 256) :
  Calls Tryz.prog 3 #[v] w fun e w'=>e=.returned (.bool true)∧Below w.heap.size w w':=by
 obtain ⟨va,vc,rfl⟩:=reads_shape r0;by_cases hn:n≤1048576
 case neg =>
  have g7:(1048576:Int) < (n:Int):=by omega
  clear r0;go_enter Tryz.func3,Tryz.ntmps3
  go_wp2
  go_ret
  exact ⟨rfl,Below.refl _ _⟩
 have g7:¬(1048576:Int) < (n:Int):=by omega
 go_enter Tryz.func3,Tryz.ntmps3
 go_wp2_with fail
 refine (DrawSpecRun_any _ n vs _ (r0.below (Bs w)) hv hn).mono ?_;rintro e w1 ⟨c9,d9,e9,a9,b9,f9,h8,f8,g8,m,ws,rfl,l6,r2,hm,s2,hb⟩;clear r0 hv;obtain ⟨c,p1⟩:=RdC.of l6 r2.1 r2.2.1 r2.2.2;clear l6 r2;obtain ⟨a0,c0,a1,c1,a2,c2,rfl,rfl,rfl⟩:=p1.r.shape;obtain ⟨a3,c3,a4,c4,rfl,rfl⟩:=hm.reads.shape;obtain ⟨a5,c5,rfl⟩:=reads_shape s2.1;have e8:=s2.2;have y7:c.vars.length≤1000∧c.arrays.length≤1000∧c.list.length≤1000:=⟨p1.l0,p1.l1,p1.l2⟩;have i1:m.vals.length≤1048576∧m.arrs.length≤1048576∧pre2 m.arrs m.arrs.length≤1048576:=by have h2:=hm.l0;have h3:=hm.l1;have h4:=hm.pre;omega
 have k7:=hb.size;have q0:=btr (Bs w) hb;clear hb;have n0:=Bs w1;have HC:=Hi (fun W (hW:Below w1.heap.size w1 W)=>p1.r.below hW);have HM:=Hi (fun W (hW:Below w1.heap.size w1 W)=>hm.reads.below hW);have HW:=Hi (fun W (hW:Below w1.heap.size w1 W)=>s2.1.below hW);clear p1 hm s2;obtain ⟨D,ok,e3⟩:∃ D ok,fenceR c=(D,ok):=⟨_,_,rfl⟩;have a8:D.vars.length≤1048576∧D.arrays.length≤1048576∧D.list.length≤1048576:=by have:=fenceR_lens c;rw [e3] at this;exact this
 have z2:=Hi e3;clear e3;go_wp2_with fail
 have j0:=iFence_any _ _ _ c _ (HC.out _ (bal (bal n0 (.cells #[.slice a0 c.vars.length c0,.slice a1 c.arrays.length c1,.slice a2 c.list.length c2] 26)) (.cells #[.slice a3 m.vals.length c3,.slice a4 m.arrs.length c4] 29)));rw [z2.out] at j0;dsimp only at j0;refine (j0).mono ?_;rintro e w2 ⟨o8,q8,s8,rfl,o1,hb⟩;obtain ⟨d0,g0,d1,g1,d2,g2,rfl,rfl,rfl⟩:=o1.shape;clear j0;replace n0:=btr (bal (bal n0 _) _) hb;have m3:=hb.size;simp only [Sa] at m3;have t0:Bk w2 (w1.heap.size) [.slice a0 c.vars.length c0,.slice a1 c.arrays.length c1,.slice a2 c.list.length c2]:=Bb (Bk.al (Bk.nw (by simp) rfl) (.cells #[.slice a3 m.vals.length c3,.slice a4 m.arrs.length c4] 29)) hb;have p0:Bk w2 (w1.heap.size+1) [.slice a3 m.vals.length c3,.slice a4 m.arrs.length c4]:=Bb (Bk.nw (by simp) rfl) hb;replace q0:=btr (bal (bal q0 _) _) hb;clear hb;have s0:=Bs w2;have n1:=Hi (fun W (hW:Below w2.heap.size w2 W)=>(o1.reads (by omega) (by omega) (by omega)).below hW);have o3:=Bk.lz t0;have p3:=Bk.lz p0;clear o1;obtain ⟨r7,b5,s3,d5,t3,e5⟩:=Bk.f3 t0 0 1 2 rfl rfl rfl;go_wp2_with fail
 have j0:=sFence_any _ _ _ c _ (HC.out _ (bal n0 (.cells #[.slice d0 D.vars.length g0,.slice d1 D.arrays.length g1,.slice d2 D.list.length g2] 26)));rw [z2.out] at j0;dsimp only at j0;refine (j0).mono ?_;rintro e w3 ⟨p8,r8,t8,rfl,o2,hb⟩;obtain ⟨e0,f0,e1,f1,e2,f2,rfl,rfl,rfl⟩:=o2.shape;clear j0;replace n0:=btr (bal n0 _) hb;replace s0:=btr (bal s0 _) hb;have x1:=hb.size;simp only [Sa] at x1;clear b5 r7 d5 s3 e5 t3;replace t0:=Bb (Bk.al t0 _) hb;replace p0:=Bb (Bk.al p0 _) hb;have b0:Bk w3 (w2.heap.size) [.slice d0 D.vars.length g0,.slice d1 D.arrays.length g1,.slice d2 D.list.length g2]:=Bb (Bk.nw (by simp) rfl) hb;replace q0:=btr (bal q0 _) hb;clear hb;have h0:=Bs w3;have t2:=Hi (fun W (hW:Below w3.heap.size w3 W)=>(o2.reads (by omega) (by omega) (by omega)).below hW);replace o3:=Bk.lz t0;replace p3:=Bk.lz p0;have j2:=Bk.lz b0;clear o2
 cases ok with
 | false =>
  obtain ⟨u3,f5,v3,g5,x3,h5⟩:=Bk.f3 b0 0 1 2 rfl rfl rfl;go_wp2_with fail
  have j0:=CodeSame_any _ _ _ _ _ _ D D _ (n1.out _ (bal s0 (.cells #[.slice e0 D.vars.length f0,.slice e1 D.arrays.length f1,.slice e2 D.list.length f2] 26))) (t2.out _ (bal h0 (.cells #[.slice e0 D.vars.length f0,.slice e1 D.arrays.length f1,.slice e2 D.list.length f2] 26)));rw [decide_eq_true (Eq.refl D)] at j0;refine (j0).mono ?_;rintro e w4 ⟨rfl,hb⟩;clear j0;replace n0:=btr (bal n0 _) hb;replace s0:=btr (bal s0 _) hb;replace h0:=btr (bal h0 _) hb;have y1:=hb.size;simp only [Sa] at y1;clear f5 u3 g5 v3 h5 x3;replace t0:=Bb (Bk.al t0 _) hb;replace p0:=Bb (Bk.al p0 _) hb;replace b0:=Bb (Bk.al b0 _) hb;have h1:Bk w4 (w3.heap.size) [.slice e0 D.vars.length f0,.slice e1 D.arrays.length f1,.slice e2 D.list.length f2]:=Bb (Bk.nw (by simp) rfl) hb;replace q0:=btr (bal q0 _) hb;clear hb;have l7:=Bk.lz h1;obtain ⟨y3,i5,z3,j5,b4,k5⟩:=Bk.f3 b0 0 1 2 rfl rfl rfl;obtain ⟨d4,l5,e4,m5,f4,n5⟩:=Bk.f3 h1 0 1 2 rfl rfl rfl;go_wp2_with fail
  have j0:=CodeSame_any _ _ _ _ _ _ D D _ (n1.out _ s0) (t2.out _ h0);rw [decide_eq_true (Eq.refl D)] at j0;refine (j0).mono ?_;rintro e w5 ⟨rfl,hb⟩;clear j0;replace n0:=btr n0 hb;replace s0:=btr s0 hb;replace h0:=btr h0 hb;have m6:=hb.size;clear i5 y3 j5 z3 k5 b4 l5 d4 m5 e4 n5 f4;replace t0:=Bb t0 hb;replace p0:=Bb p0 hb;replace b0:=Bb b0 hb;replace h1:=Bb h1 hb;replace q0:=btr q0 hb;clear hb;have tt:=q0;go_wp2
  go_ret
  exact ⟨rfl,tt⟩
 | true =>
  obtain ⟨g4,o5,i4,p5,j4,q5⟩:=Bk.f3 b0 0 1 2 rfl rfl rfl;go_wp2_with fail
  have j0:=CodeSame_any _ _ _ _ _ _ D D _ (n1.out _ (bal s0 (.cells #[.slice e0 D.vars.length f0,.slice e1 D.arrays.length f1,.slice e2 D.list.length f2] 26))) (t2.out _ (bal h0 (.cells #[.slice e0 D.vars.length f0,.slice e1 D.arrays.length f1,.slice e2 D.list.length f2] 26)));rw [decide_eq_true (Eq.refl D)] at j0;refine (j0).mono ?_;rintro e w4 ⟨rfl,hb⟩;clear j0;replace n0:=btr (bal n0 _) hb;replace s0:=btr (bal s0 _) hb;replace h0:=btr (bal h0 _) hb;have z1:=hb.size;simp only [Sa] at z1;clear o5 g4 p5 i4 q5 j4;replace t0:=Bb (Bk.al t0 _) hb;replace p0:=Bb (Bk.al p0 _) hb;replace b0:=Bb (Bk.al b0 _) hb;have i0:Bk w4 (w3.heap.size) [.slice e0 D.vars.length f0,.slice e1 D.arrays.length f1,.slice e2 D.list.length f2]:=Bb (Bk.nw (by simp) rfl) hb;replace q0:=btr (bal q0 _) hb;clear hb;have k2:=Bk.lz i0;obtain ⟨Kb,g3,d8,j3⟩:=law_specfenced z2.out m ws;obtain ⟨E1,q2⟩:∃ E,runE D m=E:=⟨_,rfl⟩;obtain ⟨N1,d3⟩:∃ N,runM D m=N:=⟨_,rfl⟩;obtain ⟨b1,p2⟩:∃ b,runB D m=b:=⟨_,rfl⟩;have v7:E1.length≤40002:=by rw [← q2];have:=runE_len D m;omega
  have j7:=runM_st D m;rw [d3] at j7;obtain ⟨Z,hZ⟩:∃ Z,srE D m ws=Z:=⟨_,rfl⟩;have x7:Z.length≤200000:=by rw [← hZ];exact srE_len D m ws
  rw [q2,hZ,p2] at j3;rw [p2] at g3;have HZ:=Hi hZ;have m2:=Hi j3;have c7:=Hi g3;clear hZ j3 g3;have d7:=Hi q2;have j6:=Hi d3;have h6:=Hi p2;clear q2 d3 p2;go_upto_region 8 with (fail)
  obtain ⟨k4,r5,l4,s5⟩:=Bk.f2 p0 0 1 rfl rfl;obtain ⟨m4,t5,n4,u5,o4,v5⟩:=Bk.f3 b0 0 1 2 rfl rfl rfl;go_wp2_with fail
  have j0:=iRunCode_any _ _ _ _ _ D m _ (n1.out _ s0) (HM.out _ n0) i1.1 i1.2.1 i1.2.2;rw [h6.out,d7.out,j6.out] at j0;refine (j0).mono ?_;rintro e w5 ⟨l8,m8,y8,v8,rfl,oM,oE,hb⟩;obtain ⟨v6,a7,x6,b7,rfl,rfl⟩:=oM.shape;obtain ⟨i8,j8,rfl⟩:=Oh oE;clear j0;replace n0:=btr n0 hb;replace s0:=btr s0 hb;replace h0:=btr h0 hb;have n6:=hb.size;clear r5 k4 s5 l4 t5 m4 u5 n4 v5 o4;replace t0:=Bb t0 hb;replace p0:=Bb p0 hb;replace b0:=Bb b0 hb;replace i0:=Bb i0 hb;replace q0:=btr q0 hb;clear hb;have k0:=Bs w5;have t7:=Hi (fun W (hW:Below w5.heap.size w5 W)=>(oM.reads (by omega) (by omega) (by omega)).below hW);have i6:=Hi (fun W (hW:Below w5.heap.size w5 W)=>(Ro oE (by omega)).below hW);replace o3:=Bk.lz t0;replace p3:=Bk.lz p0;replace j2:=Bk.lz b0;replace k2:=Bk.lz i0;clear oM oE;go_upto_region 9 with (fail)
  obtain ⟨w6,t1,hb⟩:=nmw (World.alloc w5 (.cells #[.slice v6 N1.vals.length a7,.slice x6 N1.arrs.length b7] 29));replace n0:=btr (bal n0 _) hb;replace s0:=btr (bal s0 _) hb;replace h0:=btr (bal h0 _) hb;replace k0:=btr (bal k0 _) hb;have b2:=hb.size;simp only [Sa] at b2;replace t0:=Bb (Bk.al t0 _) hb;replace p0:=Bb (Bk.al p0 _) hb;replace b0:=Bb (Bk.al b0 _) hb;replace i0:=Bb (Bk.al i0 _) hb;have m0:Bk w6 (w5.heap.size) [.slice v6 N1.vals.length a7,.slice x6 N1.arrs.length b7]:=Bb (Bk.nw (by simp) rfl) hb;replace q0:=btr (bal q0 _) hb;clear hb;rw [← t1];clear t1;have n3:=Bk.lz m0;obtain ⟨p4,x5,q4,y5⟩:=Bk.f2 p0 0 1 rfl rfl;obtain ⟨r4,z5,s4,a6,t4,b6⟩:=Bk.f3 b0 0 1 2 rfl rfl rfl;go_wp2_with fail
  have j0:=iSpecRun_any _ _ _ _ _ D m _ (n1.out _ s0) (HM.out _ n0) i1.1 i1.2.1 i1.2.2 _ _ ws (HW.out _ n0);rw [h6.out,j6.out,HZ.out] at j0;refine (j0).mono ?_;rintro e w7 ⟨q3,r3,z8,x8,rfl,oM,oE,hb⟩;obtain ⟨y6,q3,z6,r3,rfl,rfl⟩:=oM.shape;obtain ⟨k8,n8,rfl⟩:=Oh oE;clear j0;replace n0:=btr n0 hb;replace s0:=btr s0 hb;replace h0:=btr h0 hb;replace k0:=btr k0 hb;have o6:=hb.size;clear x5 p4 y5 q4 z5 r4 a6 s4 b6 t4;replace t0:=Bb t0 hb;replace p0:=Bb p0 hb;replace b0:=Bb b0 hb;replace i0:=Bb i0 hb;replace m0:=Bb m0 hb;replace q0:=btr q0 hb;clear hb;have o0:=Bs w7;have u7:=Hi (fun W (hW:Below w7.heap.size w7 W)=>(oM.reads (by omega) (by omega) (by omega)).below hW);have k6:=Hi (fun W (hW:Below w7.heap.size w7 W)=>(Ro oE (by omega)).below hW);replace o3:=Bk.lz t0;replace p3:=Bk.lz p0;replace j2:=Bk.lz b0;replace k2:=Bk.lz i0;replace n3:=Bk.lz m0;clear oM oE;go_upto_region 10 with (fail)
  obtain ⟨w8,t1,hb⟩:=nmw (World.alloc w7 (.cells #[.slice y6 N1.vals.length q3,.slice z6 N1.arrs.length r3] 29));replace n0:=btr (bal n0 _) hb;replace s0:=btr (bal s0 _) hb;replace h0:=btr (bal h0 _) hb;replace k0:=btr (bal k0 _) hb;replace o0:=btr (bal o0 _) hb;have i2:=hb.size;simp only [Sa] at i2;replace t0:=Bb (Bk.al t0 _) hb;replace p0:=Bb (Bk.al p0 _) hb;replace b0:=Bb (Bk.al b0 _) hb;replace i0:=Bb (Bk.al i0 _) hb;replace m0:=Bb (Bk.al m0 _) hb;have u0:Bk w8 (w7.heap.size) [.slice y6 N1.vals.length q3,.slice z6 N1.arrs.length r3]:=Bb (Bk.nw (by simp) rfl) hb;replace q0:=btr (bal q0 _) hb;clear hb;rw [← t1];clear t1;have m7:=Bk.lz u0;obtain ⟨u4,c6,v4,d6⟩:=Bk.f2 p0 0 1 rfl rfl;obtain ⟨x4,e6,y4,f6,z4,g6⟩:=Bk.f3 b0 0 1 2 rfl rfl rfl;go_wp2_with fail
  have j0:=iCount_any _ _ _ _ _ D m _ (n1.out _ s0) (HM.out _ n0) i1.1 i1.2.1 i1.2.2;rw [c7.out] at j0;dsimp only at j0;refine (j0).mono ?_;rintro e w9 ⟨rfl,hb⟩;clear j0;replace n0:=btr n0 hb;replace s0:=btr s0 hb;replace h0:=btr h0 hb;replace k0:=btr k0 hb;replace o0:=btr o0 hb;have p6:=hb.size;clear c6 u4 d6 v4 e6 x4 f6 y4 g6 z4;replace t0:=Bb t0 hb;replace p0:=Bb p0 hb;replace b0:=Bb b0 hb;replace i0:=Bb i0 hb;replace m0:=Bb m0 hb;replace u0:=Bb u0 hb;replace q0:=btr q0 hb;clear hb;have v0:=Bs w9;have s1:=Hi (trw_succ ws);have r1:=Hi (trw_le ws);have q1:=Hi (fun a b ha hb=>trw_big ws (a:=a) (b:=b) ha hb);go_wp2_with fail
  go_loopw [18,19] (fun a i wr=>∃ (k j:Nat),a=.int .i64 j∧i=.int .i64 k∧k≤ws.length∧k≤Kb∧Hid (j=trw ws k)∧Below w9.heap.size w9 wr) (fun _ i _=>ws.length-(intOf i).toNat)
  case atStart=>exact ⟨0,0,rfl,rfl,Nat.zero_le _,Nat.zero_le _,Hi rfl,Bs _⟩
  case round =>
   obtain ⟨k,j,rfl,rfl,hk,c8,HJ,w0⟩:=hrel;obtain ⟨wl,rfl⟩:∃ X,X=wr:=⟨_,rfl⟩;replace n0:=btr n0 w0;replace s0:=btr s0 w0;replace h0:=btr h0 w0;replace k0:=btr k0 w0;replace o0:=btr o0 w0;replace v0:=btr v0 w0;have q6:=w0.size;replace t0:=Bb t0 w0;replace p0:=Bb p0 w0;replace b0:=Bb b0 w0;replace i0:=Bb i0 w0;replace m0:=Bb m0 w0;replace u0:=Bb u0 w0;replace q0:=btr q0 w0;clear w0;have b8:j≤k:=by have:=r1.out k;have:=HJ.out;omega
   by_cases hlt:k < ws.length
   ·have hq:(k:Int) < (ws.length:Int):=by omega
    by_cases hlt2:k < Kb
    ·have h7:(k:Int) < (Kb:Int):=by omega
     obtain ⟨bw,ow,e7,ew⟩:=reads_wr (HW.out _ n0) hlt;subst e7;have z7:bw < wl.heap.size:=Lc ew;have n2:=Hi (s1.out k)
     cases hx:wrAt ws k with
     | false =>
      rw [hx] at ew;have u2:Hid (j=trw ws (k+1)):=Hi (by rw [n2.out,hx,HJ.out];rfl);have b3:=Hi v0;clear hx n2 s1 r1 q1 m2 HW;go_wp2
      go_roundw
      case rel=>exact ⟨k+1,j,by go_num,by go_num,by omega,by omega,u2,b3.out⟩
      case measure=>simp [intOf];omega
     | true =>
      rw [hx] at ew;have u2:Hid (j+1=trw ws (k+1)):=Hi (by rw [n2.out,hx,HJ.out];rfl);have b3:=Hi v0;clear hx n2 s1 r1 q1 m2 HW;go_wp2
      go_roundw
      case rel=>exact ⟨k+1,j+1,by go_num,by go_num,by omega,by omega,u2,b3.out⟩
      case measure=>simp [intOf];omega
    have h7:decide ((k:Int) < (Kb:Int))=false:=decide_eq_false (by omega);have i7:¬(k:Int) < (Kb:Int):=by omega
    have v2:Hid (j=trw ws Kb):=Hi (by rw [HJ.out];rw [show k=Kb by omega]);have f7:(b1 == b1)=true:=by simp
    clear s1 r1 q1 HJ
    cases b1 with
    | false =>
     have tt:=q0;go_wp2
     go_ret
     exact ⟨rfl,tt⟩
    | true =>
     obtain ⟨i3,u1⟩:=m2.out rfl;have v1:((Z.length:Int) == (E1.length:Int)+(j:Int))=true:=by rw [beq_iff_eq];have:=v2.out;omega
     have HP:=Hi u1;clear u1 i3;go_wp2_with fail
     have j0:=Project_any _ Z _ (k6.out _ o0) (by omega);refine (j0).mono ?_;rintro e k1 ⟨o7,q7,rfl,oP,hb⟩;clear j0;replace n0:=btr n0 hb;replace s0:=btr s0 hb;replace h0:=btr h0 hb;replace k0:=btr k0 hb;replace o0:=btr o0 hb;replace v0:=btr v0 hb;have r6:=hb.size;replace t0:=Bb t0 hb;replace p0:=Bb p0 hb;replace b0:=Bb b0 hb;replace i0:=Bb i0 hb;replace m0:=Bb m0 hb;replace u0:=Bb u0 hb;replace q0:=btr q0 hb;clear hb;have y0:=Bs k1;have y2:=Hi (fun W (hW:Below k1.heap.size k1 W)=>(Ro oP (by have:=prj_len Z;omega)).below hW);clear oP;go_wp2_with fail
     have j0:=Project_any _ E1 _ (i6.out _ k0) (by omega);refine (j0).mono ?_;rintro e m1 ⟨n7,p7,rfl,oP,hb⟩;clear j0;replace n0:=btr n0 hb;replace s0:=btr s0 hb;replace h0:=btr h0 hb;replace k0:=btr k0 hb;replace o0:=btr o0 hb;replace v0:=btr v0 hb;replace y0:=btr y0 hb;have s6:=hb.size;replace t0:=Bb t0 hb;replace p0:=Bb p0 hb;replace b0:=Bb b0 hb;replace i0:=Bb i0 hb;replace m0:=Bb m0 hb;replace u0:=Bb u0 hb;replace q0:=btr q0 hb;clear hb;have j1:=Bs m1;have x2:=Hi (fun W (hW:Below m1.heap.size m1 W)=>(Ro oP (by have:=prj_len E1;omega)).below hW);clear oP;go_wp2_with fail
     have j0:=TraceSame_any _ _ (prj Z) (prj E1) _ (y2.out _ y0) (x2.out _ j1);rw [decide_eq_true HP.out] at j0;refine (j0).mono ?_;rintro e s7 ⟨rfl,hb⟩;clear j0;replace n0:=btr n0 hb;replace s0:=btr s0 hb;replace h0:=btr h0 hb;replace k0:=btr k0 hb;replace o0:=btr o0 hb;replace v0:=btr v0 hb;replace y0:=btr y0 hb;replace j1:=btr j1 hb;have t6:=hb.size;replace t0:=Bb t0 hb;replace p0:=Bb p0 hb;replace b0:=Bb b0 hb;replace i0:=Bb i0 hb;replace m0:=Bb m0 hb;replace u0:=Bb u0 hb;replace q0:=btr q0 hb;clear hb;have tt:=q0;go_wp2
     go_ret
     exact ⟨rfl,tt⟩
   have hq:decide ((k:Int) < (ws.length:Int))=false:=decide_eq_false (by omega);have i7:¬(k:Int) < (ws.length:Int):=by omega
   have v2:Hid (j=trw ws Kb):=Hi (by rw [HJ.out];exact q1.out _ _ (by omega) (by omega));have f7:(b1 == b1)=true:=by simp
   clear s1 r1 q1 HJ
   cases b1 with
   | false =>
    have tt:=q0;go_wp2
    go_ret
    exact ⟨rfl,tt⟩
   | true =>
    obtain ⟨i3,u1⟩:=m2.out rfl;have v1:((Z.length:Int) == (E1.length:Int)+(j:Int))=true:=by rw [beq_iff_eq];have:=v2.out;omega
    have HP:=Hi u1;clear u1 i3;go_wp2_with fail
    have j0:=Project_any _ Z _ (k6.out _ o0) (by omega);refine (j0).mono ?_;rintro e k1 ⟨o7,q7,rfl,oP,hb⟩;clear j0;replace n0:=btr n0 hb;replace s0:=btr s0 hb;replace h0:=btr h0 hb;replace k0:=btr k0 hb;replace o0:=btr o0 hb;replace v0:=btr v0 hb;have u6:=hb.size;replace t0:=Bb t0 hb;replace p0:=Bb p0 hb;replace b0:=Bb b0 hb;replace i0:=Bb i0 hb;replace m0:=Bb m0 hb;replace u0:=Bb u0 hb;replace q0:=btr q0 hb;clear hb;have z0:=Bs k1;have y2:=Hi (fun W (hW:Below k1.heap.size k1 W)=>(Ro oP (by have:=prj_len Z;omega)).below hW);clear oP;go_wp2_with fail
    have j0:=Project_any _ E1 _ (i6.out _ k0) (by omega);refine (j0).mono ?_;rintro e m1 ⟨n7,p7,rfl,oP,hb⟩;clear j0;replace n0:=btr n0 hb;replace s0:=btr s0 hb;replace h0:=btr h0 hb;replace k0:=btr k0 hb;replace o0:=btr o0 hb;replace v0:=btr v0 hb;replace z0:=btr z0 hb;have k3:=hb.size;replace t0:=Bb t0 hb;replace p0:=Bb p0 hb;replace b0:=Bb b0 hb;replace i0:=Bb i0 hb;replace m0:=Bb m0 hb;replace u0:=Bb u0 hb;replace q0:=btr q0 hb;clear hb;have x0:=Bs m1;have x2:=Hi (fun W (hW:Below m1.heap.size m1 W)=>(Ro oP (by have:=prj_len E1;omega)).below hW);clear oP;go_wp2_with fail
    have j0:=TraceSame_any _ _ (prj Z) (prj E1) _ (y2.out _ z0) (x2.out _ x0);rw [decide_eq_true HP.out] at j0;refine (j0).mono ?_;rintro e s7 ⟨rfl,hb⟩;clear j0;replace n0:=btr n0 hb;replace s0:=btr s0 hb;replace h0:=btr h0 hb;replace k0:=btr k0 hb;replace o0:=btr o0 hb;replace v0:=btr v0 hb;replace z0:=btr z0 hb;replace x0:=btr x0 hb;have l3:=hb.size;replace t0:=Bb t0 hb;replace p0:=Bb p0 hb;replace b0:=Bb b0 hb;replace i0:=Bb i0 hb;replace m0:=Bb m0 hb;replace u0:=Bb u0 hb;replace q0:=btr q0 hb;clear hb;have tt:=q0;go_wp2
    go_ret
    exact ⟨rfl,tt⟩
end Go.Proofs.YtnpidfbcbmeijaaGreat
