/-
 Parts of the proofs of the laws FnRemoveDead,FnRemoveDeadLeak,FnSpecFenced,FnSpecMemory.
-/
import Derived.Test.YtnpidfbcbmeijaaGreatLB
set_option linter.all false
namespace Go.Proofs.YtnpidfbcbmeijaaGreat
open Go.RowKit
set_option maxHeartbeats 25600000 in
set_option maxRecDepth 100000 in
theorem iRemove_any (va vb vc:Value) (c:Cd) (w:World) (hr:ReadsC w va vb vc c) :
  Calls Tryz.prog 19 #[.agg #[va,vb,vc]] w fun e w'=>∃ ua ub uc,e=.returned (.tuple #[.agg #[ua,ub,uc],.bool (remR c).2])∧OwnC w' w.heap.size ua ub uc (remR c).1∧Below w.heap.size w w':=by
 obtain ⟨a0,c0,a1,c1,a2,c2,rfl,rfl,rfl⟩:=hr.shape;have k4:=Hi (fun h=>remR_no (c:=c) h);have m4:=Hi (fun h=>remR_yes (c:=c) h);generalize remR c=R at *
 have p5:=hr.lt;go_enter Tryz.func19,Tryz.ntmps19
 go_wp2_with fail
 refine (iCodeValid_any _ _ _ c _ ((hr.below (bal (Bs _) (.cells #[.slice a0 c.vars.length c0,.slice a1 c.arrays.length c1,.slice a2 c.list.length c2] 26))).below (bal (Bs _) (.cells #[.slice none 0 0,.slice none 0 0,.slice none 0 0] 26)))).mono ?_;rintro e w1 ⟨rfl,hb⟩;have c4:=hb.size;simp only [Sa] at c4;replace hr:=((hr.below (bal (Bs _) _)).below (bal (Bs _) _)).below hb;have m0:w1.cell? ⟨w.heap.size,0,none⟩=some (.slice a0 c.vars.length c0):=Kc hb (Ac (Wc (by simp) (by rfl)) _);have a3:w1.frozen? ⟨w.heap.size,0,none⟩=false:=Kf hb (by simp;omega) (Fa (by simp) (Fn (by simp)) _);have r0:w1.cell? ⟨w.heap.size+1,0,none⟩=some (.slice none 0 0):=Kc hb (Wc (by simp) (by rfl));have q0:w1.frozen? ⟨w.heap.size+1,0,none⟩=false:=Kf hb (by simp) (Fn (by simp));have m1:w1.cell? ⟨w.heap.size,1,none⟩=some (.slice a1 c.arrays.length c1):=Kc hb (Ac (Wc (by simp) (by rfl)) _);have b3:w1.frozen? ⟨w.heap.size,1,none⟩=false:=Kf hb (by simp;omega) (Fa (by simp) (Fn (by simp)) _);have r1:w1.cell? ⟨w.heap.size+1,1,none⟩=some (.slice none 0 0):=Kc hb (Wc (by simp) (by rfl));have q1:w1.frozen? ⟨w.heap.size+1,1,none⟩=false:=Kf hb (by simp) (Fn (by simp));have m2:w1.cell? ⟨w.heap.size,2,none⟩=some (.slice a2 c.list.length c2):=Kc hb (Ac (Wc (by simp) (by rfl)) _);have c3:w1.frozen? ⟨w.heap.size,2,none⟩=false:=Kf hb (by simp;omega) (Fa (by simp) (Fn (by simp)) _);have r2:w1.cell? ⟨w.heap.size+1,2,none⟩=some (.slice none 0 0):=Kc hb (Wc (by simp) (by rfl));have q2:w1.frozen? ⟨w.heap.size+1,2,none⟩=false:=Kf hb (by simp) (Fn (by simp));have o1:=btr (bal (bal (Bs w) (.cells #[.slice a0 c.vars.length c0,.slice a1 c.arrays.length c1,.slice a2 c.list.length c2] 26)) (.cells #[.slice none 0 0,.slice none 0 0,.slice none 0 0] 26)) hb;clear hb;have lm:=Lc m0;have lr:=Lc r0
 cases hok:codeOk c with
 | false =>
  have HO:=Hi hok;clear hok hr;have x0:=(Nn (b:=(w.heap.size+1)) (j:=2) (Nn (b:=(w.heap.size+1)) (j:=1) (Tc _ (w.heap.size+1) 0 (.slice none 0 0) r0) (.slice none 0 0)) (.slice none 0 0));have x1:=(Nn (b:=(w.heap.size+1)) (j:=2) (Tc _ (w.heap.size+1) 1 (.slice none 0 0) (Nn (b:=(w.heap.size+1)) (j:=0) r1 (.slice none 0 0))) (.slice none 0 0));have x2:=(Tc _ (w.heap.size+1) 2 (.slice none 0 0) (Nn (b:=(w.heap.size+1)) (j:=1) (Nn (b:=(w.heap.size+1)) (j:=0) r2 (.slice none 0 0)) (.slice none 0 0)));have tt:=(bst (bst (bst o1 (w.heap.size+1) 0 (by omega) (.slice none 0 0)) (w.heap.size+1) 1 (by omega) (.slice none 0 0)) (w.heap.size+1) 2 (by omega) (.slice none 0 0));have HR:=Hi (k4.out HO.out);go_wp2
  exact bodyPost_ret (v:=.tuple #[.agg #[.slice none 0 0,.slice none 0 0,.slice none 0 0],.bool false]) (by simp [results,Tryz.results19,go_sem,x0,x1,x2]) rfl (by rw [HR.out];exact ⟨_,_,_,rfl,noCode_own _ _,tt⟩)
 | true =>
  have HO:=Hi hok;clear hok;have HR:=Hi (m4.out HO.out);clear k4 m4;obtain ⟨l1,l2⟩:=codeOk_len HO.out;obtain ⟨l3,l4⟩:=declOk_len (codeOk_decl HO.out);go_wp2_with fail
  refine (own_any _ _ _ c _ hr (by omega) (by omega) (by omega)).mono ?_;rintro e w2 ⟨u0,u1,u2,rfl,oc,hb⟩;obtain ⟨p0,t0,p1,t1,p2,t2,rfl,rfl,rfl⟩:=oc.shape;have io:=oc.lt;replace q0:=Kf hb (by omega) q0;replace r0:=Kc hb r0;replace q1:=Kf hb (by omega) q1;replace r1:=Kc hb r1;replace q2:=Kf hb (by omega) q2;replace r2:=Kc hb r2;have h6:=hb.size;replace o1:=btr o1 hb;clear hb m0 m1 m2 a3 b3 c3;obtain ⟨w3,l0⟩:∃ X,X=World.alloc w2 (.cells #[.slice p0 c.vars.length t0,.slice p1 c.arrays.length t1,.slice p2 c.list.length t2] 26):=⟨_,rfl⟩;have o0:Below w2.heap.size w2 w3:=by rw [l0];exact bal (Bs _) _
  have j6:w2.heap.size+1≤w3.heap.size:=by rw [l0];simp
  have m0:w3.cell? ⟨w2.heap.size,0,none⟩=some (.slice p0 c.vars.length t0):=by rw [l0];exact Wc rfl rfl
  have a3:w3.frozen? ⟨w2.heap.size,0,none⟩=false:=by rw [l0];exact Fn rfl
  replace q0:=Kf o0 (by omega) q0;replace r0:=Kc o0 r0;have m1:w3.cell? ⟨w2.heap.size,1,none⟩=some (.slice p1 c.arrays.length t1):=by rw [l0];exact Wc rfl rfl
  have b3:w3.frozen? ⟨w2.heap.size,1,none⟩=false:=by rw [l0];exact Fn rfl
  replace q1:=Kf o0 (by omega) q1;replace r1:=Kc o0 r1;have m2:w3.cell? ⟨w2.heap.size,2,none⟩=some (.slice p2 c.list.length t2):=by rw [l0];exact Wc rfl rfl
  have c3:w3.frozen? ⟨w2.heap.size,2,none⟩=false:=by rw [l0];exact Fn rfl
  replace q2:=Kf o0 (by omega) q2;replace r2:=Kc o0 r2;replace oc:=oc.below o0;replace o1:=btr o1 o0;have i2:=Hi o1;have a5:∀ q,OwnB (.slice p0 c.vars.length t0) (.slice p1 c.arrays.length t1) (.slice p2 c.list.length t2) q→¬q=w2.heap.size:=fun q h e=>by have:=io q h;omega
  go_upto_region 4 with (fail)
  rw [← l0];clear l0 o0 hr p5 o1;have g6:w1.heap.size≤w2.heap.size:=by omega
  go_loopg [5] c.list.length (fun gk lv wr=>∃ (cc:Cd) (p0:Option Addr) (t0:Nat) (p1:Option Addr) (t1:Nat) (p2:Option Addr) (t2:Nat),Hid (codeOk cc=true)∧Hid (remOf cc=remOf c)∧cc.list.length≤gk∧wr.cell? ⟨w2.heap.size,0,none⟩=some (.slice p0 cc.vars.length t0)∧wr.cell? ⟨w2.heap.size,1,none⟩=some (.slice p1 cc.arrays.length t1)∧wr.cell? ⟨w2.heap.size,2,none⟩=some (.slice p2 cc.list.length t2)∧wr.frozen? ⟨w2.heap.size,0,none⟩=false∧wr.frozen? ⟨w2.heap.size,1,none⟩=false∧wr.frozen? ⟨w2.heap.size,2,none⟩=false∧OwnC wr w1.heap.size (.slice p0 cc.vars.length t0) (.slice p1 cc.arrays.length t1) (.slice p2 cc.list.length t2) cc∧(∀ q,OwnB (.slice p0 cc.vars.length t0) (.slice p1 cc.arrays.length t1) (.slice p2 cc.list.length t2) q→¬q=w2.heap.size)∧Chg (fun q=>q=w2.heap.size) w3 wr)
  case atStart=>exact ⟨c,p0,t0,p1,t1,p2,t2,HO,Hi rfl,Lr,m0,m1,m2,a3,b3,c3,oc.mono (by omega),a5,Chg.refl _ _⟩
  case round =>
   obtain ⟨cc,p0,t0,p1,t1,p2,t2,i1,r4,d6,m0,m1,m2,a3,b3,c3,oc,a5,hC⟩:=hrel;obtain ⟨wO,rfl⟩:∃ X,X=wr:=⟨_,rfl⟩;have o6:=hC.size;obtain ⟨l1,l2⟩:=codeOk_len i1.out;obtain ⟨l3,l4⟩:=declOk_len (codeOk_decl i1.out);have rc:=oc.reads (by omega) (by omega) (by omega);have io:=oc.lt;have km:=Lc m0;have f4:=Gc hC r0 (by omega);have t5:=Gf hC (by omega) q0 (by omega);have h4:=Gc hC r1 (by omega);have u5:=Gf hC (by omega) q1 (by omega);have i4:=Gc hC r2 (by omega);have v5:=Gf hC (by omega) q2 (by omega);have u3:=Hi (i2.out.trans (hC.below w.heap.size i2.out.size (fun q hq h=>by omega)));go_wp2_with fail
   refine (live_any _ _ _ cc _ rc i1.out).mono ?_;rintro e w4 ⟨u,us,rfl,oL,j2⟩;have k6:=j2.size;obtain ⟨pL,tL,rfl⟩:=oL.shape;have hI:InvL cc (liveOf cc):=swps_inv cc _;have y4:=hI.len;have z4:=hI.rows;have iL:=oL.lt;have iR:=rc.lt;have p4:=Hi y4;have q4:=Hi z4;clear y4 z4 hI;have n0:=Kc j2 m0;have n1:=Kc j2 m1;have n2:=Kc j2 m2;have kn:=Lc n0;have l5:=mk_boolF cc.list.length (by omega);have oD:=own_made w4 (.bool false) cc.list.length 4 (by unfold maxLen;omega);rw [← bools_replicate] at oD;obtain ⟨w5,z2⟩:∃ X,X=World.alloc w4 (.cells (madeCells #[.bool false] cc.list.length) 4):=⟨_,rfl⟩;rw [← z2] at oD;have k2:Below w4.heap.size w4 w5:=by rw [z2];exact bal (Bs _) _
   have l6:w4.heap.size+1≤w5.heap.size:=by rw [z2];simp
   go_upto_region 6 with (fail)
   rw [← z2];clear z2 l5;replace oL:=oL.below k2;have f0:=btr j2 k2;replace n0:=Kc k2 n0;replace n1:=Kc k2 n1;replace n2:=Kc k2 n2;have r5:=rc.below f0;have n5:=r5.l;obtain ⟨_,hn,aa,a6,b,k1,hv,k5,ha,u4⟩:=n5;simp only [Value.slice.injEq,true_and] at hv;obtain ⟨rfl,rfl⟩:=hv;obtain ⟨rfl,c6⟩:=ha (by omega);have b6:=io b (Or.inr (Or.inr rfl));have HC:=Hi (reads_Instr u4);have n4:=Hi (fun k hk=>codeOk_all i1.out k hk);have h2:=Hi (fun (i:Nat) (hi:i < cc.list.length) W V (hV:Chg (fun q=>q=w4.heap.size) w5 V) (hW:Below V.heap.size V W)=>liveAfter_any _ _ _ _ cc (liveOf cc) i W ((r5.keep hV (fun q h e=>by have:=iR q h;omega)).below hW) (((oL.keep hV (fun q h e=>by have:=iL q h;omega)).below hW).reads (by have:=p4.out;omega) (fun k r h=>by obtain ⟨h1,rfl⟩:=List.getElem?_eq_some_iff.1 h;have:=q4.out k h1;omega)) p4.out q4.out i1.out hi);have p6:=Lc n0;clear u4 ha rc r5 oL iL iR;go_wp2_with fail
   go_loopw [24] (fun t wr=>∃ k:Nat,k≤cc.list.length∧t=.int .i64 k∧wr.ownsRow w4.heap.size 4 1 (.slice (some ⟨w4.heap.size,0,none⟩) cc.list.length cc.list.length) cc.list.length (bools (deds cc k++(List.replicate cc.list.length false).drop k))∧Chg (fun q=>q=w4.heap.size) w5 wr) (fun t _=>cc.list.length-(intOf t).toNat)
   case atStart=>exact ⟨0,Nat.zero_le _,rfl,by simpa [deds] using oD,Chg.refl _ _⟩
   case round =>
    obtain ⟨k,hk,rfl,o2,g0⟩:=hrel;have m6:=g0.size;clear oD;by_cases hlt:k < cc.list.length
    ·obtain ⟨e0,e1,e2,e3,e4⟩:=HC.out k hlt;replace e0:=Gc g0 e0 (by omega);replace e1:=Gc g0 e1 (by omega);replace e2:=Gc g0 e2 (by omega);replace e3:=Gc g0 e3 (by omega);replace e4:=Gc g0 e4 (by omega);have i0:=Gc g0 n0 (by omega);have j0:=Gc g0 n1 (by omega);have k0:=Gc g0 n2 (by omega);have y1:=o2.cellAt k (by omega);rw [bools_at _ _ (by rw [List.length_append,deds_len,List.length_drop,List.length_replicate];omega)] at y1;have f1:=o2.frozenAt k;have v4:=dedAt_at cc k hlt;have x4:=n4.out k hlt;have z0:=Hi (fun W (hW:Below wr.heap.size wr W)=>h2.out k hlt W wr g0 hW);generalize ((deds cc k++(List.replicate cc.list.length false).drop k)[k]'(by rw [List.length_append,deds_len,List.length_drop,List.length_replicate];omega))=z1 at *
     have b5:=fun z (hz:z=dedAt cc k)=>set_ded cc k hlt z hz
     generalize hxx:cc.list[k]=x at *
     have j3:=Hi v4;have p3:=Hi x4;have r3:=Hi b5;clear v4 x4 b5 hxx;have ke:=Lc e0;have ky:=Lc y1;have r6:=Lc i0;go_upto_region 9 with (fail)
     obtain ⟨w7,d2⟩:∃ X,X=World.alloc wr (.cells #[.int .i64 x.op,.int .i64 x.a,.int .i64 x.b,.int .i64 x.c,.int .i64 x.d] 62):=⟨_,rfl⟩;rw [← d2];have h0:Below wr.heap.size wr w7:=by rw [d2];exact bal (Bs wr) _
     have o5:wr.heap.size+1≤w7.heap.size:=by rw [d2];simp
     have d0:w7.cell? ⟨wr.heap.size,0,none⟩=some (.int .i64 x.op):=by rw [d2];exact Wc rfl rfl
     have d1:w7.cell? ⟨wr.heap.size,1,none⟩=some (.int .i64 x.a):=by rw [d2];exact Wc rfl rfl
     clear d2 e0 e1 e2 e3 e4;replace y1:=Kc h0 y1;replace f1:=Kf h0 ky f1;replace i0:=Kc h0 i0;replace j0:=Kc h0 j0;replace k0:=Kc h0 k0;have kd:=Lc d0;have s5:=Lc i0;have o3:=Ob o2 h0;have v3:=g0.trans (Cb (S:=fun q=>q=w4.heap.size) h0);replace z0:=Hi (fun W (hW:Below w7.heap.size w7 W)=>z0.out W (btr h0 hW));clear o2 g0 h0;by_cases hop:x.op=1∨x.op=2∨x.op=6∨x.op=7
     ·obtain ⟨p1',p2'⟩:=ded_in p3.out hop;obtain ⟨na,a4⟩:∃ n:Nat,x.a=n:=⟨x.a.toNat,by omega⟩
      have k3:Hid (dedAt cc k=!(aftF (liveOf cc) (flw x k) na)):=Hi (by
       rw [j3.out];unfold ded;rw [a4,Int.toNat_natCast];rcases hop with h | h | h | h <;> rw [h] <;> simp)
      rw [a4] at d1;have z3:na < 14:=by omega
      have m5:(na:Int) < (14:Int):=by omega
      have f6:(k:Int) < (cc.list.length:Int):=by omega
      have t3:=Hi (fun z (hz:z=dedAt cc k)=>r3.out z hz);have i5:=Hi p1';clear j3 r3 p1' p2' a4 p3 i5;obtain ⟨A,hA⟩:∃ A,aftF (liveOf cc) (flw x k)=A:=⟨_,rfl⟩;have g5:Hid (aft (liveOf cc) (flw x k)=tab A):=Hi (by rw [← hA];rfl);rw [hA] at k3;clear hA;have q5:∀ (HKK:True),True:=fun _=>trivial
      clear q5
      have b4:((x.op == 1)=true)∨((x.op == 1)=false∧(x.op == 2)=true)∨((x.op == 1)=false∧(x.op == 2)=false∧(x.op == 6)=true)∨((x.op == 1)=false∧(x.op == 2)=false∧(x.op == 6)=false∧(x.op == 7)=true):=by
       rcases hop with h | h | h | h <;> rw [h] <;> simp
      clear hop;rcases b4 with g1 | ⟨g1,g2⟩ | ⟨g1,g2,g3⟩ | ⟨g1,g2,g3,g4⟩
      all_goals
       go_upto_region 14 with (fail)
       refine wp_region_noPanic ?_;refine wp_region_held_drew (S:=(fun W'=>W'.cell? ⟨w2.heap.size,0,none⟩=some (.slice p0 cc.vars.length t0)∧W'.cell? ⟨w2.heap.size,1,none⟩=some (.slice p1 cc.arrays.length t1)∧W'.cell? ⟨w2.heap.size,2,none⟩=some (.slice (some ⟨b,k1,none⟩) cc.list.length t2)∧W'.cell? ⟨wr.heap.size,1,none⟩=some (.int .i64 (na:Int)))) (by kernel_rfl) ⟨Kc (Bd (Bs w7)) i0,Kc (Bd (Bs w7)) j0,Kc (Bd (Bs w7)) k0,Kc (Bd (Bs w7)) d1⟩ (fun hHeld=>?_);obtain ⟨wd,d4⟩:∃ X,X=World.drew w7:=⟨_,rfl⟩;rw [← d4] at hHeld ⊢;have HB:Below w7.heap.size w7 wd:=by rw [d4];exact Bd (Bs _)
       clear d4;refine tq 0 36 rfl rfl ?_ ?_ ?_;rotate_left
       ·intro W' hSw;obtain ⟨s0,s1,s2,s3⟩:=hSw;go_simp;try with_reducible rfl
       simp only [Ep];refine tq 1 37 rfl rfl ?_ ?_ ?_;rotate_left
       ·intro W' hSw;obtain ⟨s0,s1,s2,s3⟩:=hSw;go_simp;try with_reducible rfl
       simp only [Ep];refine tq 2 38 rfl rfl ?_ ?_ ?_;rotate_left
       ·intro W' hSw;obtain ⟨s0,s1,s2,s3⟩:=hSw;go_simp;try with_reducible rfl
       simp only [Ep];refine tq 3 39 rfl rfl ?_ ?_ ?_;rotate_left
       ·intro W' hSw;obtain ⟨s0,s1,s2,s3⟩:=hSw;go_simp;try with_reducible rfl
       simp only [Ep];refine tq 4 40 rfl rfl ?_ ?_ ?_;rotate_left
       ·intro W' hSw;obtain ⟨s0,s1,s2,s3⟩:=hSw;go_simp;try with_reducible rfl
       simp only [Ep];refine tq 6 42 rfl rfl ?_ ?_ ?_;rotate_left
       ·intro W' hSw;obtain ⟨s0,s1,s2,s3⟩:=hSw;go_simp;try with_reducible rfl
       simp only [Ep];refine tq 7 43 rfl rfl ?_ ?_ ?_;rotate_left
       ·intro W' hSw;obtain ⟨s0,s1,s2,s3⟩:=hSw;go_simp;try with_reducible rfl
       simp only [Ep];refine Rdy 5 rfl (fun K hK=>?_);go_simp
       refine (z0.out _ HB).mono ?_;rintro e w8 ⟨ga,rfl,oa,ba⟩;rw [g5.out] at oa;have y0:=btr HB ba;replace i0:=Kc y0 i0;replace j0:=Kc y0 j0;replace k0:=Kc y0 k0;replace d1:=Kc y0 d1;have ca:=own_tab_at oa na z3;have y8:=Kc y0 y1;have f8:=Kf y0 (by have:=Lc y1;omega) f1;have ka:=Lc ca;have t6:=Lc y8;have o8:=Ob o3 y0;have s4:=v3.trans (Cb (S:=fun q=>q=w4.heap.size) y0);clear oa ba o3 v3 y1 f1;refine hK.out _ _ ⟨i0,j0,k0,d1⟩ (fun hHeld=>?_);clear hK K;try simp only [Ep]
       refine Rdy 8 rfl (fun K hK=>?_);go_simp
       refine hK.out _ _ hHeld (fun hHeld=>?_);clear hK K;try simp only [Ep]
       refine Rdy 9 rfl (fun K hK=>?_);go_simp
       refine hK.out _ _ hHeld (fun hHeld=>?_);clear hK K;try simp only [Ep]
       refine Rdy 10 rfl (fun K hK=>?_);go_simp
       refine hK.out _ _ hHeld (fun hHeld=>?_);clear hK K;try simp only [Ep]
       refine Rdy 11 rfl (fun K hK=>?_);go_simp
       refine hK.out _ _ hHeld (fun hHeld=>?_);clear hK K;try simp only [Ep]
       have hs:=t3.out (!(A na)) k3.out.symm;have sN:=(o8.stored k (.bool (!(A na)))).1;rw [bools_set,hs] at sN;have j5:=s4.setCell w4.heap.size k (.bool (!(A na))) (fun _=>rfl);clear hs o8 s4;refine Rdy 12 rfl (fun K hK=>?_);go_simp
       refine hK.out _ _ ⟨Nn (b:=w4.heap.size) (j:=k) i0 _,Nn (b:=w4.heap.size) (j:=k) j0 _,Nn (b:=w4.heap.size) (j:=k) k0 _,Nn (b:=w4.heap.size) (j:=k) d1 _⟩ (fun hHeld=>?_);clear hK K;try simp only [Ep]
       refine Dn ?_;clear hHeld i0 j0 k0 d1 y8 f8 ca;go_wp2
       go_roundw
       case rel=>exact ⟨k+1,by omega,by go_num,sN,j5⟩
       case measure=>simp [intOf];omega
     have k3:Hid (dedAt cc k=false):=Hi (by
      rw [j3.out];unfold ded;have e1:(x.op == 1)=false:=by simp;omega
      have e2:(x.op == 2)=false:=by simp;omega
      have e6:(x.op == 6)=false:=by simp;omega
      have e7:(x.op == 7)=false:=by simp;omega
      simp only [e1,e2,e6,e7];rfl)
     have e1:(x.op == 1)=false:=by simp;omega
     have e2:(x.op == 2)=false:=by simp;omega
     have e6:(x.op == 6)=false:=by simp;omega
     have e7:(x.op == 7)=false:=by simp;omega
     have hs:=skip_ded cc k hlt k3.out;have sN:=o3;rw [hs] at sN;clear hs o3 hop r3 j3 p3 y1 f1;go_wp2
     go_roundw
     case rel=>exact ⟨k+1,by omega,by go_num,sN,v3⟩
     case measure=>simp [intOf];omega
    have ek:k=cc.list.length:=by omega
    subst ek;rw [List.drop_eq_nil_of_le (by simp),List.append_nil] at o2;obtain ⟨w6,rfl⟩:∃ X,X=wr:=⟨_,rfl⟩;have i0:=Gc g0 n0 (by omega);have d3:=Gf g0 (by omega) (Kf f0 (by omega) a3) (by omega);have i3:=Gc g0 (Kc f0 f4) (by omega);have c5:=Gf g0 (by have:=Lc (Kc f0 f4);omega) (Kf f0 (Lc f4) t5) (by omega);have j0:=Gc g0 n1 (by omega);have f3:=Gf g0 (by omega) (Kf f0 (by omega) b3) (by omega);have m3:=Gc g0 (Kc f0 h4) (by omega);have d5:=Gf g0 (by have:=Lc (Kc f0 h4);omega) (Kf f0 (Lc h4) u5) (by omega);have k0:=Gc g0 n2 (by omega);have h3:=Gf g0 (by omega) (Kf f0 (by omega) c3) (by omega);have n3:=Gc g0 (Kc f0 i4) (by omega);have e5:=Gf g0 (by have:=Lc (Kc f0 i4);omega) (Kf f0 (Lc i4) v5) (by omega);have j1:=(oc.below f0).keep g0 (fun q h e=>by have:=io q h;omega);have T6:=(btr u3.out f0).trans (g0.below w.heap.size (by have:=u3.out.size;omega) (fun q hq h=>by have:=u3.out.size;omega));have hA:=hC.trans (Cb (S:=fun q=>q=w2.heap.size) f0);have t4:Chg (fun q=>q=w2.heap.size) w3 w6:=⟨g0.os.trans hA.os,g0.tape.trans hA.tape,g0.output.trans hA.output,by omega,fun q hq hn=>(g0.block q (by omega) (by omega)).trans (hA.block q hq hn)⟩;clear hA;have q6:=Lc i0;have rD:=Ro o2 (by omega);have j4:Hid ((deds cc cc.list.length).length=cc.list.length):=Hi (deds_len _ _);have f2:Reads w6 1 (.slice (some ⟨w4.heap.size,0,none⟩) cc.list.length cc.list.length) (deds cc cc.list.length).length (bools (deds cc cc.list.length)):=by rw [j4.out];exact rD
    clear rD HC n4 h2 hC g0 n0 n1 n2 o2;go_wp2_with fail
    refine (containsB_any _ _ _ f2).mono ?_;rintro e w7 ⟨rfl,h0⟩;have o5:=h0.size;rw [← anyDed_eq cc];replace d3:=Kf h0 (by omega) d3;replace i0:=Kc h0 i0;replace c5:=Kf h0 (Lc i3) c5;replace i3:=Kc h0 i3;replace f3:=Kf h0 (by omega) f3;replace j0:=Kc h0 j0;replace d5:=Kf h0 (Lc m3) d5;replace m3:=Kc h0 m3;replace h3:=Kf h0 (by omega) h3;replace k0:=Kc h0 k0;replace e5:=Kf h0 (Lc n3) e5;replace n3:=Kc h0 n3;replace j1:=j1.below h0;replace T6:=btr T6 h0;replace f2:=f2.below h0;have x3:=t4.trans (Cb (S:=fun q=>q=w2.heap.size) h0);have s5:=Lc i0;have s6:=Lc i3;clear h0 t4
    cases had:anyDed cc with
    | false =>
     have HF:Hid (R=(cc,true)):=Hi (by rw [HR.out,← r4.out,remOf_no had]);clear had f2 x3;have x0:=(Nn (b:=(w.heap.size+1)) (j:=2) (Nn (b:=(w.heap.size+1)) (j:=1) (Tc _ (w.heap.size+1) 0 (.slice p0 cc.vars.length t0) i3) (.slice p1 cc.arrays.length t1)) (.slice (some ⟨b,k1,none⟩) cc.list.length t2));have x1:=(Nn (b:=(w.heap.size+1)) (j:=2) (Tc _ (w.heap.size+1) 1 (.slice p1 cc.arrays.length t1) (Nn (b:=(w.heap.size+1)) (j:=0) m3 (.slice p0 cc.vars.length t0))) (.slice (some ⟨b,k1,none⟩) cc.list.length t2));have x2:=(Tc _ (w.heap.size+1) 2 (.slice (some ⟨b,k1,none⟩) cc.list.length t2) (Nn (b:=(w.heap.size+1)) (j:=1) (Nn (b:=(w.heap.size+1)) (j:=0) n3 (.slice p0 cc.vars.length t0)) (.slice p1 cc.arrays.length t1)));have i6:=j1.lt;have tz:=(bst (bst (bst T6 (w.heap.size+1) 0 (by omega) (.slice p0 cc.vars.length t0)) (w.heap.size+1) 1 (by omega) (.slice p1 cc.arrays.length t1)) (w.heap.size+1) 2 (by omega) (.slice (some ⟨b,k1,none⟩) cc.list.length t2));have yo:=j1.keep ((((Chg.refl (fun q=>q=(w.heap.size+1)) w7).setCell (w.heap.size+1) 0 (.slice p0 cc.vars.length t0) (fun _=>rfl)).setCell (w.heap.size+1) 1 (.slice p1 cc.arrays.length t1) (fun _=>rfl)).setCell (w.heap.size+1) 2 (.slice (some ⟨b,k1,none⟩) cc.list.length t2) (fun _=>rfl)) (fun q h e=>by have:=i6 q h;omega);clear j1 T6;go_wp2
     exact bodyPost_ret (v:=.tuple #[.agg #[.slice p0 cc.vars.length t0,.slice p1 cc.arrays.length t1,.slice (some ⟨b,k1,none⟩) cc.list.length t2],.bool true]) (by simp [results,Tryz.results19,go_sem,x0,x1,x2]) rfl (by rw [HF.out];exact ⟨_,_,_,rfl,yo.mono (by omega),tz⟩)
    | true =>
     have h5:Hid (remOf (rem1 cc)=remOf c):=Hi (by rw [← remOf_yes had];exact r4.out);have y3:=rem1_len had;have q3:=Hi (rem1_ok i1.out);have o4:=Hi y3;clear had;have f5:=j1.reads (by omega) (by omega) (by omega);go_wp2_with fail
     refine (without_any _ _ _ _ cc _ _ f5 f2 j4.out i1.out).mono ?_;rintro e w8 ⟨v0,v1,v2,rfl,o8,w0⟩;rw [dOf_deds cc] at o8;obtain ⟨b0,s0,b1,s1,b2,s2,rfl,rfl,rfl⟩:=o8.shape;have i8:=o8.lt;have n6:=w0.size;replace d3:=Kf w0 (by omega) d3;replace i0:=Kc w0 i0;replace f3:=Kf w0 (by omega) f3;replace j0:=Kc w0 j0;replace h3:=Kf w0 (by omega) h3;replace k0:=Kc w0 k0;have x0:=(Nn (b:=w2.heap.size) (j:=2) (Nn (b:=w2.heap.size) (j:=1) (Tc _ w2.heap.size 0 (.slice b0 (rem1 cc).vars.length s0) i0) (.slice b1 (rem1 cc).arrays.length s1)) (.slice b2 (rem1 cc).list.length s2));have x1:=(Nn (b:=w2.heap.size) (j:=2) (Tc _ w2.heap.size 1 (.slice b1 (rem1 cc).arrays.length s1) (Nn (b:=w2.heap.size) (j:=0) j0 (.slice b0 (rem1 cc).vars.length s0))) (.slice b2 (rem1 cc).list.length s2));have x2:=(Tc _ w2.heap.size 2 (.slice b2 (rem1 cc).list.length s2) (Nn (b:=w2.heap.size) (j:=1) (Nn (b:=w2.heap.size) (j:=0) k0 (.slice b0 (rem1 cc).vars.length s0)) (.slice b1 (rem1 cc).arrays.length s1)));have x5:=(Fs (b:=⟨w2.heap.size,2,none⟩) (Fs (b:=⟨w2.heap.size,1,none⟩) (Fs (b:=⟨w2.heap.size,0,none⟩) d3 (.slice b0 (rem1 cc).vars.length s0)) (.slice b1 (rem1 cc).arrays.length s1)) (.slice b2 (rem1 cc).list.length s2));have y5:=(Fs (b:=⟨w2.heap.size,2,none⟩) (Fs (b:=⟨w2.heap.size,1,none⟩) (Fs (b:=⟨w2.heap.size,0,none⟩) f3 (.slice b0 (rem1 cc).vars.length s0)) (.slice b1 (rem1 cc).arrays.length s1)) (.slice b2 (rem1 cc).list.length s2));have z5:=(Fs (b:=⟨w2.heap.size,2,none⟩) (Fs (b:=⟨w2.heap.size,1,none⟩) (Fs (b:=⟨w2.heap.size,0,none⟩) h3 (.slice b0 (rem1 cc).vars.length s0)) (.slice b1 (rem1 cc).arrays.length s1)) (.slice b2 (rem1 cc).list.length s2));have y2:∀ q,OwnB (.slice b0 (rem1 cc).vars.length s0) (.slice b1 (rem1 cc).arrays.length s1) (.slice b2 (rem1 cc).list.length s2) q→¬q=w2.heap.size:=fun q h e=>by have:=i8 q h;omega
     have yo:=o8.keep ((((Chg.refl (fun q=>q=w2.heap.size) w8).setCell w2.heap.size 0 (.slice b0 (rem1 cc).vars.length s0) (fun _=>rfl)).setCell w2.heap.size 1 (.slice b1 (rem1 cc).arrays.length s1) (fun _=>rfl)).setCell w2.heap.size 2 (.slice b2 (rem1 cc).list.length s2) (fun _=>rfl)) (fun q h e=>y2 q h e);have yc:=(((x3.trans (Cb (S:=fun q=>q=w2.heap.size) w0)).setCell w2.heap.size 0 (.slice b0 (rem1 cc).vars.length s0) (fun _=>rfl)).setCell w2.heap.size 1 (.slice b1 (rem1 cc).arrays.length s1) (fun _=>rfl)).setCell w2.heap.size 2 (.slice b2 (rem1 cc).list.length s2) (fun _=>rfl);have kk:=Lc i0;clear o8 j1 x3 T6 w0 f5 f2;go_wp2
     go_roundg (gk-1)
     case measure=>have:=o4.out;omega
     case rel=>exact ⟨rem1 cc,b0,s0,b1,s1,b2,s2,q3,h5,by have:=o4.out;omega,x0,x1,x2,x5,y5,z5,yo.mono (by omega),y2,yc⟩
end Go.Proofs.YtnpidfbcbmeijaaGreat
