/-
 Parts of the proofs of the laws FnRemoveDead,FnRemoveDeadLeak,FnSpecFenced,FnSpecMemory.
-/
import Derived.Test.YtnpidfbcbmeijaaGreatY
set_option linter.all false
namespace Go.Proofs.YtnpidfbcbmeijaaGreat
open Go.RowKit
set_option maxHeartbeats 25600000 in
set_option maxRecDepth 100000 in
theorem step_6_13 (b base:Nat) (va vb vc vr vv vA:Value) (us:List Value) (c:Cd) (s:Ms) (w:World) (hr:ReadsC w va vb vc c) (hS:OwnS w base b vr vv vA us s) (hM:MsOk c s) (hok:codeOk c=true) (hlo:6≤(insAt c s.pc).op∧(insAt c s.pc).op≤13) :
  Calls Tryz.prog 81 #[.pointer (some ⟨b,0,none⟩),.agg #[va,vb,vc]] w fun e w'=>∃ u,e=.returned u∧w'.ownsRow w.heap.size 84 2 u (stEvs (insAt c s.pc) s).length (evs (stEvs (insAt c s.pc) s))∧OwnS w' base b vr vv vA us (stp (insAt c s.pc) s)∧Chg (fun q=>q=b∨OwnMB vr vv vA us q) w w':=by
 obtain ⟨a0,c0,a1,c1,a2,c2,rfl,rfl,rfl⟩:=hr.shape;obtain ⟨pc,rs,g0,b0⟩:=s;obtain ⟨y2,z2,f2,j1,h1⟩:=hM;simp only at y2 z2 f2 j1 h1
 obtain ⟨k,rfl⟩:∃ k:Nat,pc=k:=⟨pc.toNat,by omega⟩;have hk:k < c.list.length:=by omega
 obtain ⟨l1,l2⟩:=codeOk_len hok;obtain ⟨l3,l4⟩:=declOk_len (codeOk_decl hok);have x0:=codeOk_all hok k hk;have s1:insAt c (k:Int)=c.list[k]:=by unfold insAt;rw [Int.toNat_natCast,List.getElem?_eq_getElem hk];rfl
 simp only at hlo ⊢
 rw [s1] at hlo ⊢;clear s1;obtain ⟨m1,m2,m3,m4⟩:=memOk_parts h1;simp only at m1 m2 m3 m4
 obtain ⟨C0,C1,C2,C3,F0,own,ob⟩:=hS;simp only at C0
 obtain ⟨g,cr,rfl⟩:=own_pos own.r (by simp only;omega);obtain ⟨pv,cv,rfl⟩:=Oh own.v;obtain ⟨pA,cA,rfl⟩:=Oh own.a.out;simp only at own C1 C2 C3 ob
 have f1:=Hi (fun i=>gi_range j1 i);have a3:=Hi m1;have b3:=Hi m2;have c3:=Hi m4;have s2:=hr.l;obtain ⟨_,hn,aa,j3,b',n2,hv,g1,ha,t1⟩:=s2;simp only [Value.slice.injEq,true_and] at hv;obtain ⟨rfl,rfl⟩:=hv;obtain ⟨rfl,q2⟩:=ha (by omega);obtain ⟨e0,e1,e2,e3,e4⟩:=reads_Instr t1 k hk;have hq:(k:Int) < (c.list.length:Int):=by omega
 have t2:14≤rs.length:=by omega
 have u2:rs.length≤14:=by omega
 have r3:c.vars.length≤g0.length:=by omega
 have s3:g0.length≤12:=by omega
 have k3:c.arrays.length≤b0.length:=by omega
 have n3:b0.length≤2:=by omega
 generalize c.list[k]=x at *
 have o1:=Hi x0;generalize hT:stp x ⟨(k:Int),rs,⟨g0,b0⟩⟩=T
 generalize hE:stEvs x ⟨(k:Int),rs,⟨g0,b0⟩⟩=EE
 have HT:=Hi hT;have HE:=Hi hE;clear hT hE x0 h1 f2 j1 m1 m2 m3 m4 t1 ha hr g1 hn;obtain ⟨w1,z0⟩:∃ X,X=w.alloc (.cells #[.slice a0 c.vars.length c0,.slice a1 c.arrays.length c1,.slice (some ⟨b',n2,none⟩) c.list.length c2] 26):=⟨_,rfl⟩;have j0:Below w.heap.size w w1:=by rw [z0];exact bal (Bs w) _
 have r2:w1.cell? ⟨w.heap.size,2,none⟩=some (.slice (some ⟨b',n2,none⟩) c.list.length c2):=by rw [z0];exact Wc rfl rfl
 have HW:=Hi z0;clear z0;replace e0:=Kc j0 e0;replace e1:=Kc j0 e1;replace e2:=Kc j0 e2;replace e3:=Kc j0 e3;replace e4:=Kc j0 e4;have lC:=Lc C0;replace F0:=Kf j0 lC F0;replace C0:=Kc j0 C0;replace C1:=Kc j0 C1;replace C2:=Kc j0 C2;replace C3:=Kc j0 C3;have n1:=own.lt;replace own:=own.below j0;have k0:=Lc r2;have k1:=Lc e0;have k2:=Lc C0;go_enter Tryz.func81,Tryz.ntmps81
 go_upto_region 1 with (fail)
 rw [← HW.out];clear HW;go_region
 go_upto_region 4 with (fail)
 obtain ⟨op,a,i2,i3,d⟩:=x;simp only at e0 e1 e2 e3 e4 hlo ⊢
 obtain ⟨w5,m0⟩:∃ X,X=(World.drew ((w1.alloc (.cells #[.int .i64 op,.int .i64 a,.int .i64 i2,.int .i64 i3,.int .i64 d] 62)).alloc (.cells #[.int .i64 5,.int .i64 k] 84))):=⟨_,rfl⟩;rw [← m0];have w2:w1.heap.size+2=w5.heap.size:=by rw [m0];simp
 have r0:Below w1.heap.size w1 w5:=by rw [m0];exact Bd (bal (bal (Bs w1) _) _)
 have d0:w5.cell? ⟨w1.heap.size,0,none⟩=some (.int .i64 op):=by rw [m0];exact Kc (Bd (Bs _)) (Ac (Wc rfl rfl) _)
 have d1:w5.cell? ⟨w1.heap.size,1,none⟩=some (.int .i64 a):=by rw [m0];exact Kc (Bd (Bs _)) (Ac (Wc rfl rfl) _)
 have d2:w5.cell? ⟨w1.heap.size,2,none⟩=some (.int .i64 i2):=by rw [m0];exact Kc (Bd (Bs _)) (Ac (Wc rfl rfl) _)
 have d3:w5.cell? ⟨w1.heap.size,3,none⟩=some (.int .i64 i3):=by rw [m0];exact Kc (Bd (Bs _)) (Ac (Wc rfl rfl) _)
 have d4:w5.cell? ⟨w1.heap.size,4,none⟩=some (.int .i64 d):=by rw [m0];exact Kc (Bd (Bs _)) (Ac (Wc rfl rfl) _)
 have oE:w5.ownsRow w.heap.size 84 2 (.slice (some ⟨w1.heap.size+1,0,none⟩) 1 1) 1 (evs [(5,(k:Int))]):=by
  rw [m0];have h:=own_evt (w1.alloc (.cells #[.int .i64 op,.int .i64 a,.int .i64 i2,.int .i64 i3,.int .i64 d] 62)) 5 k;simp only [Sa] at h;exact Om (Ob h (Bd (Bs _))) (by omega)
 have H:StepW (fun q=>q=b∨OwnMB (.slice (some ⟨g,0,none⟩) rs.length cr) (.slice pv g0.length cv) (.slice pA b0.length cA) us q) w w5 base b (.slice (some ⟨g,0,none⟩) rs.length cr) (.slice pv g0.length cv) (.slice pA b0.length cA) us rs ⟨g0,b0⟩ w.heap.size (.slice (some ⟨w1.heap.size+1,0,none⟩) 1 1) [(5,(k:Int))] k:=
  ⟨Kc r0 C0,Kc r0 C1,Kc r0 C2,Kc r0 C3,Kf r0 k2 F0,own.below r0,ob,oE,fun q e=>by
   have e2:w1.heap.size+1=q:=Si e;refine ⟨by omega,fun h2=>by have:=n1 q h2;omega,Or.inr (by omega)⟩,Or.inl (Or.inl rfl),fun q h=>Or.inr h,(Cb (btr j0 r0))⟩
 clear m0 e0 e1 e2 e3 e4 C0 C1 C2 C3 F0 own oE r0 j0 w2 r2;have kX:=Lc d0;obtain ⟨P1,P2,P3,P4,P5,P6,P7,P8,P9,n0,o0⟩:=ins_parts o1.out;have x1:=insOk_op o1.out;simp only at x1
 have q3:¬g=b:=fun e=>ob (e ▸ Or.inl rfl)
 have lX:∀ q,OwnMB (.slice (some ⟨g,0,none⟩) rs.length cr) (.slice pv g0.length cv) (.slice pA b0.length cA) us q→q < w1.heap.size:=fun q h=>by have:=n1 q h;omega
 have o3:=lX g (Or.inl rfl);have f3:=Hi lX;have i1:op=6∨op=7∨op=8∨op=9∨op=10∨op=11∨op=12∨op=13:=by omega
 clear x1 hlo lX ob q2 lC n1 k0 k1;rcases i1 with rfl | rfl | rfl | rfl | rfl | rfl | rfl | rfl
 ·obtain ⟨⟨p1,p2⟩,⟨p3,p4⟩,⟨p5,p6⟩,p7,p8⟩:=P6 rfl;clear P1 P2 P3 P4 P5 P6 P7 P8 P9 n0 o0;obtain ⟨na,rfl⟩:∃ n:Nat,a=n:=⟨a.toNat,by omega⟩;obtain ⟨nc,rfl⟩:∃ n:Nat,i3=n:=⟨i3.toNat,by omega⟩;obtain ⟨nd,rfl⟩:∃ n:Nat,d=n:=⟨d.toNat,by omega⟩;have yR:=H.own.regAt na (by omega);have l0:=H.own.r.frozenAt na;have b1:=Lc yR;have y0:(na:Int) < (rs.length:Int):=by omega
  have yC:=H.own.regAt nc (by omega);have v0:=H.own.r.frozenAt nc;have j2:=Lc yC;have q1:(nc:Int) < (rs.length:Int):=by omega
  have yD:=H.own.regAt nd (by omega);have o2:=H.own.r.frozenAt nd;have v3:=Lc yD;have h3:(nd:Int) < (rs.length:Int):=by omega
  have y1:=f1.out (nc:Int);have z1:=f1.out (nd:Int);have i0:Hid (T=⟨(k:Int)+1,rs.set na (opr i2 (gi rs nc) (gi rs nd)),⟨g0,b0⟩⟩):=Hi (by rw [← HT.out];simp [stp,stPc,stRegs,stMem]);have h0:Hid (EE=[(5,(k:Int))]):=Hi (by rw [← HE.out];simp [stEvs]);clear HT HE;generalize gi rs nc=v1 at *;generalize gi rs nd=v2 at *
  go_upto_region 20 with (fail)
  refine wp_region_still_tail 17 (by kernel_rfl) (by kernel_rfl) ?_;simp only [List.take_succ_cons,List.take_zero,List.drop_succ_cons,List.drop_zero];repeat still_step
  still_call (operate_any i2 v1 v2 _ ⟨p3,p4⟩ y1 z1)
  repeat still_step
  refine wpStill_nil ?_;change wpList _ _ _ _ _ (World.drew w5)
  have HD:=H.drew;clear H;obtain ⟨wd,s0⟩:∃ X,X=World.drew w5:=⟨_,rfl⟩;rw [← s0] at HD ⊢;have yQ:=HD.own.regAt na (by omega);have fQ:=HD.own.r.frozenAt na;have kQ:=Lc yQ;have H2:=HD.reg na (opr i2 v1 v2);clear HD s0 yR l0 yC v0 yD o2 y1 z1;generalize opr i2 v1 v2=z at *
  have FI:=Hi (H2.fin ((k:Int)+1));have C0:=H2.c0;have F0:=H2.f0;have K0:=Lc C0;clear H2;go_wp2
  go_ret
  exact ⟨_,rfl,by rw [h0.out];exact FI.out.1,by rw [i0.out];exact FI.out.2.1,FI.out.2.2⟩
 ·obtain ⟨⟨p1,p2⟩,⟨p3,p4⟩,⟨p5,p6⟩,p7,p8⟩:=P7 rfl;clear P1 P2 P3 P4 P5 P6 P7 P8 P9 n0 o0;obtain ⟨na,rfl⟩:∃ n:Nat,a=n:=⟨a.toNat,by omega⟩;obtain ⟨nb,rfl⟩:∃ n:Nat,i2=n:=⟨i2.toNat,by omega⟩;obtain ⟨nc,rfl⟩:∃ n:Nat,i3=n:=⟨i3.toNat,by omega⟩;obtain ⟨nd,rfl⟩:∃ n:Nat,d=n:=⟨d.toNat,by omega⟩;have yR:=H.own.regAt na (by omega);have l0:=H.own.r.frozenAt na;have b1:=Lc yR;have y0:(na:Int) < (rs.length:Int):=by omega
  have yB:=H.own.regAt nb (by omega);have r1:=H.own.r.frozenAt nb;have u3:=Lc yB;have g3:(nb:Int) < (rs.length:Int):=by omega
  by_cases hz:gi rs nb=0
  ·skip
   have i0:Hid (T=⟨(k:Int)+1,rs.set na (gi rs nd),⟨g0,b0⟩⟩):=Hi (by rw [← HT.out];simp [stp,stPc,stRegs,stMem,hz]);have h0:Hid (EE=[(5,(k:Int))]):=Hi (by rw [← HE.out];simp [stEvs]);clear HT HE;have yC:=H.own.regAt nd (by omega);have v0:=H.own.r.frozenAt nd;have j2:=Lc yC;have q1:(nd:Int) < (rs.length:Int):=by omega
   rw [hz] at yB;generalize gi rs nd=z at *
   clear hz;go_upto_region 24 with (fail)
   refine wp_region_still_tail 9 (by kernel_rfl) (by kernel_rfl) ?_;simp only [List.take_succ_cons,List.take_zero,List.drop_succ_cons,List.drop_zero];repeat still_step
   refine wpStill_nil ?_;change wpList _ _ _ _ _ (World.drew w5)
   have HD:=H.drew;clear H;obtain ⟨wd,s0⟩:∃ X,X=World.drew w5:=⟨_,rfl⟩;rw [← s0] at HD ⊢;have yQ:=HD.own.regAt na (by omega);have fQ:=HD.own.r.frozenAt na;have kQ:=Lc yQ;have H2:=HD.reg na z;clear HD s0 yR l0 yB r1 yC v0;have FI:=Hi (H2.fin ((k:Int)+1));have C0:=H2.c0;have F0:=H2.f0;have K0:=Lc C0;clear H2;go_wp2
   go_ret
   exact ⟨_,rfl,by rw [h0.out];exact FI.out.1,by rw [i0.out];exact FI.out.2.1,FI.out.2.2⟩
  skip
  have i0:Hid (T=⟨(k:Int)+1,rs.set na (gi rs nc),⟨g0,b0⟩⟩):=Hi (by rw [← HT.out];simp [stp,stPc,stRegs,stMem,hz]);have h0:Hid (EE=[(5,(k:Int))]):=Hi (by rw [← HE.out];simp [stEvs]);clear HT HE;have yC:=H.own.regAt nc (by omega);have v0:=H.own.r.frozenAt nc;have j2:=Lc yC;have q1:(nc:Int) < (rs.length:Int):=by omega
  have g2:(gi rs nb != 0)=true:=by simp [hz]
  generalize gi rs nc=z at *
  generalize gi rs nb=y at *
  clear hz;go_upto_region 23 with (fail)
  refine wp_region_still_tail 9 (by kernel_rfl) (by kernel_rfl) ?_;simp only [List.take_succ_cons,List.take_zero,List.drop_succ_cons,List.drop_zero];repeat still_step
  refine wpStill_nil ?_;change wpList _ _ _ _ _ (World.drew w5)
  have HD:=H.drew;clear H;obtain ⟨wd,s0⟩:∃ X,X=World.drew w5:=⟨_,rfl⟩;rw [← s0] at HD ⊢;have yQ:=HD.own.regAt na (by omega);have fQ:=HD.own.r.frozenAt na;have kQ:=Lc yQ;have H2:=HD.reg na z;clear HD s0 yR l0 yB r1 yC v0;have FI:=Hi (H2.fin ((k:Int)+1));have C0:=H2.c0;have F0:=H2.f0;have K0:=Lc C0;clear H2;go_wp2
  go_ret
  exact ⟨_,rfl,by rw [h0.out];exact FI.out.1,by rw [i0.out];exact FI.out.2.1,FI.out.2.2⟩
 ·obtain ⟨p1,p2⟩:=P8 rfl;clear P1 P2 P3 P4 P5 P6 P7 P8 P9 n0 o0;have i0:Hid (T=⟨a,rs,⟨g0,b0⟩⟩):=Hi (by rw [← HT.out];simp [stp,stPc,stRegs,stMem]);have h0:Hid (EE=[(5,(k:Int))]):=Hi (by rw [← HE.out];simp [stEvs]);clear HT HE;have FI:=Hi (H.fin a);have C0:=H.c0;have F0:=H.f0;have K0:=Lc C0;clear H;go_wp2
  go_ret
  exact ⟨_,rfl,by rw [h0.out];exact FI.out.1,by rw [i0.out];exact FI.out.2.1,FI.out.2.2⟩
 ·obtain ⟨⟨p1,p2⟩,p3,p4⟩:=P9 rfl;clear P1 P2 P3 P4 P5 P6 P7 P8 P9 n0 o0;obtain ⟨na,rfl⟩:∃ n:Nat,a=n:=⟨a.toNat,by omega⟩;have yR:=H.own.regAt na (by omega);have l0:=H.own.r.frozenAt na;have b1:=Lc yR;have y0:(na:Int) < (rs.length:Int):=by omega
  by_cases hz:gi rs na=0
  ·skip
   have i0:Hid (T=⟨i2,rs,⟨g0,b0⟩⟩):=Hi (by rw [← HT.out];simp [stp,stPc,stRegs,stMem,hz]);have h0:Hid (EE=[(5,(k:Int))]):=Hi (by rw [← HE.out];simp [stEvs]);clear HT HE;rw [hz] at yR;clear hz;have FI:=Hi (H.fin i2);have C0:=H.c0;have F0:=H.f0;have K0:=Lc C0;clear H;go_wp2
   go_ret
   exact ⟨_,rfl,by rw [h0.out];exact FI.out.1,by rw [i0.out];exact FI.out.2.1,FI.out.2.2⟩
  skip
  have i0:Hid (T=⟨(k:Int)+1,rs,⟨g0,b0⟩⟩):=Hi (by rw [← HT.out];simp [stp,stPc,stRegs,stMem,hz]);have h0:Hid (EE=[(5,(k:Int))]):=Hi (by rw [← HE.out];simp [stEvs]);clear HT HE;have g2:(gi rs na == 0)=false:=by simp [hz]
  generalize gi rs na=y at *
  clear hz;have FI:=Hi (H.fin ((k:Int)+1));have C0:=H.c0;have F0:=H.f0;have K0:=Lc C0;clear H;go_wp2
  go_ret
  exact ⟨_,rfl,by rw [h0.out];exact FI.out.1,by rw [i0.out];exact FI.out.2.1,FI.out.2.2⟩
 ·obtain ⟨⟨p1,p2⟩,p3,p4⟩:=n0 rfl;clear P1 P2 P3 P4 P5 P6 P7 P8 P9 n0 o0;obtain ⟨na,rfl⟩:∃ n:Nat,a=n:=⟨a.toNat,by omega⟩;have yR:=H.own.regAt na (by omega);have l0:=H.own.r.frozenAt na;have b1:=Lc yR;have y0:(na:Int) < (rs.length:Int):=by omega
  have b2:=f1.out (na:Int);have w0:(gi rs na+255) % 256 < 256:=by omega
  by_cases hz:(gi rs na+255) % 256=0
  ·skip
   have i0:Hid (T=⟨(k:Int)+1,rs.set na ((gi rs na+255) % 256),⟨g0,b0⟩⟩):=Hi (by rw [← HT.out];simp [stp,stPc,stRegs,stMem,hz]);have h0:Hid (EE=[(5,(k:Int))]):=Hi (by rw [← HE.out];simp [stEvs]);clear HT HE;have HZ:=Hi hz;clear hz;go_upto_region 31 with (fail)
   have t0:=H.reg na ((gi rs na+255) % 256);have yN:=t0.own.regAt na (by rw [List.length_set];omega);rw [gi_set rs na (by omega)] at yN;go_region
   have H2:=t0.drew;clear H yR l0;have u0:=Kc (Bd (Bs _)) yN;clear t0 yN;generalize gi rs na=y at *
   obtain ⟨w6,p0⟩:∃ X,X=World.drew (World.setCell w5 ⟨g,na,none⟩ (.int .i64 ((y+255) % 256))):=⟨_,rfl⟩;rw [← p0] at H2 u0 ⊢;have d0:w6.cell? ⟨w1.heap.size,1,none⟩=some (.int .i64 na):=by rw [p0];exact Kc (Bd (Bs _)) (Nn d1 _)
   have d2:w6.cell? ⟨w1.heap.size,2,none⟩=some (.int .i64 i2):=by rw [p0];exact Kc (Bd (Bs _)) (Nn d2 _)
   have kN:=Lc u0;have x2:=Lc d0;clear p0;rw [HZ.out] at u0;clear HZ b2 w0;have FI:=Hi (H2.fin ((k:Int)+1));have C0:=H2.c0;have F0:=H2.f0;have K0:=Lc C0;clear H2;go_wp2
   go_ret
   exact ⟨_,rfl,by rw [h0.out];exact FI.out.1,by rw [i0.out];exact FI.out.2.1,FI.out.2.2⟩
  skip
  have i0:Hid (T=⟨i2,rs.set na ((gi rs na+255) % 256),⟨g0,b0⟩⟩):=Hi (by rw [← HT.out];simp [stp,stPc,stRegs,stMem,hz]);have h0:Hid (EE=[(5,(k:Int))]):=Hi (by rw [← HE.out];simp [stEvs]);clear HT HE;have HZ:=Hi hz;clear hz;go_upto_region 31 with (fail)
  have t0:=H.reg na ((gi rs na+255) % 256);have yN:=t0.own.regAt na (by rw [List.length_set];omega);rw [gi_set rs na (by omega)] at yN;go_region
  have H2:=t0.drew;clear H yR l0;have u0:=Kc (Bd (Bs _)) yN;clear t0 yN;generalize gi rs na=y at *
  obtain ⟨w6,p0⟩:∃ X,X=World.drew (World.setCell w5 ⟨g,na,none⟩ (.int .i64 ((y+255) % 256))):=⟨_,rfl⟩;rw [← p0] at H2 u0 ⊢;have d0:w6.cell? ⟨w1.heap.size,1,none⟩=some (.int .i64 na):=by rw [p0];exact Kc (Bd (Bs _)) (Nn d1 _)
  have d2:w6.cell? ⟨w1.heap.size,2,none⟩=some (.int .i64 i2):=by rw [p0];exact Kc (Bd (Bs _)) (Nn d2 _)
  have kN:=Lc u0;have x2:=Lc d0;clear p0;have g2:((y+255) % 256 != 0)=true:=by simp [HZ.out]
  generalize (y+255) % 256=z at *
  clear HZ b2 w0;have FI:=Hi (H2.fin i2);have C0:=H2.c0;have F0:=H2.f0;have K0:=Lc C0;clear H2;go_wp2
  go_ret
  exact ⟨_,rfl,by rw [h0.out];exact FI.out.1,by rw [i0.out];exact FI.out.2.1,FI.out.2.2⟩
 ·obtain ⟨p1,p2⟩:=o0 rfl;clear P1 P2 P3 P4 P5 P6 P7 P8 P9 n0 o0;obtain ⟨na,rfl⟩:∃ n:Nat,a=n:=⟨a.toNat,by omega⟩;have i0:Hid (T=⟨(k:Int)+1,rs,⟨g0,b0⟩⟩):=Hi (by rw [← HT.out];simp [stp,stPc,stRegs,stMem]);have h0:Hid (EE=[(5,(k:Int)),(4,gi rs na)]):=Hi (by rw [← HE.out];simp [stEvs]);clear HT HE;have yR:=H.own.regAt na (by omega);have l0:=H.own.r.frozenAt na;have b1:=Lc yR;have y0:(na:Int) < (rs.length:Int):=by omega
  generalize gi rs na=z at *
  obtain ⟨w6,rfl⟩:∃ X,X=w5:=⟨_,rfl⟩;go_wp2_with (at_builtin;refine wpList_ap tEvs rfl _ _ rfl w.heap.size _ 1 _ rfl H.ev [.int .i64 4,.int .i64 (z)] rfl rfl (one_ev _ _) (by omega) H.chg.size ?_)
  intro ge ce w7 oe q0 u1;have H7:=H.event (e:=(4,z)) oe q0 (fun q hq=>by have e3:ge=q:=Si hq;subst e3;exact u1);have HN:=Hi (fun q (h:q < w1.heap.size+1) (e:(Value.slice (some ⟨w1.heap.size+1,0,none⟩) 1 1).ownBlock=some q)=>show False from by have e2:w1.heap.size+1=q:=Si e;omega);replace d0:=Gc q0 d0 (HN.out _ (by omega));replace d1:=Gc q0 d1 (HN.out _ (by omega));replace d2:=Gc q0 d2 (HN.out _ (by omega));replace d3:=Gc q0 d3 (HN.out _ (by omega));replace d4:=Gc q0 d4 (HN.out _ (by omega));have t3:=q0.size;clear H q0 u1 oe HN;clear yR l0;have FI:=Hi (H7.fin ((k:Int)+1));have C0:=H7.c0;have F0:=H7.f0;have K0:=Lc C0;clear H7;go_wp2
  go_ret
  exact ⟨_,rfl,by rw [h0.out];exact FI.out.1,by rw [i0.out];exact FI.out.2.1,FI.out.2.2⟩
 ·clear P1 P2 P3 P4 P5 P6 P7 P8 P9 n0 o0;have i0:Hid (T=⟨(k:Int)+1,rs,⟨g0,b0⟩⟩):=Hi (by rw [← HT.out];simp [stp,stPc,stRegs,stMem]);have h0:Hid (EE=[(5,(k:Int))]):=Hi (by rw [← HE.out];simp [stEvs]);clear HT HE;have FI:=Hi (H.fin ((k:Int)+1));have C0:=H.c0;have F0:=H.f0;have K0:=Lc C0;clear H;go_wp2
  go_ret
  exact ⟨_,rfl,by rw [h0.out];exact FI.out.1,by rw [i0.out];exact FI.out.2.1,FI.out.2.2⟩
 clear P1 P2 P3 P4 P5 P6 P7 P8 P9 n0 o0;have i0:Hid (T=⟨(k:Int),rs,⟨g0,b0⟩⟩):=Hi (by rw [← HT.out];simp [stp,stPc,stRegs,stMem]);have h0:Hid (EE=[(5,(k:Int))]):=Hi (by rw [← HE.out];simp [stEvs]);clear HT HE;have FI:=Hi (H.fin (k:Int));have C0:=H.c0;have F0:=H.f0;have K0:=Lc C0;clear H;go_wp2
 go_ret
 exact ⟨_,rfl,by rw [h0.out];exact FI.out.1,by rw [i0.out];exact FI.out.2.1,FI.out.2.2⟩
end Go.Proofs.YtnpidfbcbmeijaaGreat
