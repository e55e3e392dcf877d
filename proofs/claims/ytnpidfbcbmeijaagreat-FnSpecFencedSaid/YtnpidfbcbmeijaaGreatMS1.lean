/-
 Parts of the proofs of the laws FnRemoveDead,FnRemoveDeadLeak,FnSpecFenced,FnSpecMemory.
-/
import Derived.Test.YtnpidfbcbmeijaaGreatY
set_option linter.all false
namespace Go.Proofs.YtnpidfbcbmeijaaGreat
open Go.RowKit
set_option maxHeartbeats 25600000 in
set_option maxRecDepth 100000 in
theorem step_1_5 (b base:Nat) (va vb vc vr vv vA:Value) (us:List Value) (c:Cd) (s:Ms) (w:World) (hr:ReadsC w va vb vc c) (hS:OwnS w base b vr vv vA us s) (hM:MsOk c s) (hok:codeOk c=true) (hlo:1≤(insAt c s.pc).op∧(insAt c s.pc).op≤5) :
  Calls Tryz.prog 81 #[.pointer (some ⟨b,0,none⟩),.agg #[va,vb,vc]] w fun e w'=>∃ u,e=.returned u∧w'.ownsRow w.heap.size 84 2 u (stEvs (insAt c s.pc) s).length (evs (stEvs (insAt c s.pc) s))∧OwnS w' base b vr vv vA us (stp (insAt c s.pc) s)∧Chg (fun q=>q=b∨OwnMB vr vv vA us q) w w':=by
 obtain ⟨a0,c0,a1,c1,a2,c2,rfl,rfl,rfl⟩:=hr.shape;obtain ⟨pc,rs,g0,b0⟩:=s;obtain ⟨f3,g3,z1,o1,i1⟩:=hM;simp only at f3 g3 z1 o1 i1
 obtain ⟨k,rfl⟩:∃ k:Nat,pc=k:=⟨pc.toNat,by omega⟩;have hk:k < c.list.length:=by omega
 obtain ⟨l1,l2⟩:=codeOk_len hok;obtain ⟨l3,l4⟩:=declOk_len (codeOk_decl hok);have u0:=codeOk_all hok k hk;have v1:insAt c (k:Int)=c.list[k]:=by unfold insAt;rw [Int.toNat_natCast,List.getElem?_eq_getElem hk];rfl
 simp only at hlo ⊢
 rw [v1] at hlo ⊢;clear v1;obtain ⟨m1,m2,m3,m4⟩:=memOk_parts i1;simp only at m1 m2 m3 m4
 obtain ⟨C0,C1,C2,C3,F0,own,ob⟩:=hS;simp only at C0
 obtain ⟨g,cr,rfl⟩:=own_pos own.r (by simp only;omega);obtain ⟨pv,cv,rfl⟩:=Oh own.v;obtain ⟨pA,cA,rfl⟩:=Oh own.a.out;simp only at own C1 C2 C3 ob
 have t1:=Hi (fun i=>gi_range o1 i);have h3:=Hi m1;have j3:=Hi m2;have s1:=Hi m4;have u2:=hr.l;obtain ⟨_,hn,aa,k3,b',b2,hv,g1,ha,x1⟩:=u2;simp only [Value.slice.injEq,true_and] at hv;obtain ⟨rfl,rfl⟩:=hv;obtain ⟨rfl,q2⟩:=ha (by omega);obtain ⟨e0,e1,e2,e3,e4⟩:=reads_Instr x1 k hk;have hq:(k:Int) < (c.list.length:Int):=by omega
 have v2:14≤rs.length:=by omega
 have w2:rs.length≤14:=by omega
 have s3:c.vars.length≤g0.length:=by omega
 have t3:g0.length≤12:=by omega
 have n3:c.arrays.length≤b0.length:=by omega
 have o3:b0.length≤2:=by omega
 generalize c.list[k]=x at *
 have r1:=Hi u0;generalize hT:stp x ⟨(k:Int),rs,⟨g0,b0⟩⟩=T
 generalize hE:stEvs x ⟨(k:Int),rs,⟨g0,b0⟩⟩=EE
 have HT:=Hi hT;have HE:=Hi hE;clear hT hE u0 i1 z1 o1 m1 m2 m3 m4 x1 ha hr g1 hn;obtain ⟨w1,y0⟩:∃ X,X=w.alloc (.cells #[.slice a0 c.vars.length c0,.slice a1 c.arrays.length c1,.slice (some ⟨b',b2,none⟩) c.list.length c2] 26):=⟨_,rfl⟩;have i0:Below w.heap.size w w1:=by rw [y0];exact bal (Bs w) _
 have r2:w1.cell? ⟨w.heap.size,2,none⟩=some (.slice (some ⟨b',b2,none⟩) c.list.length c2):=by rw [y0];exact Wc rfl rfl
 have HW:=Hi y0;clear y0;replace e0:=Kc i0 e0;replace e1:=Kc i0 e1;replace e2:=Kc i0 e2;replace e3:=Kc i0 e3;replace e4:=Kc i0 e4;have lC:=Lc C0;replace F0:=Kf i0 lC F0;replace C0:=Kc i0 C0;replace C1:=Kc i0 C1;replace C2:=Kc i0 C2;replace C3:=Kc i0 C3;have q1:=own.lt;replace own:=own.below i0;have k0:=Lc r2;have k1:=Lc e0;have k2:=Lc C0;go_enter Tryz.func81,Tryz.ntmps81
 go_upto_region 1 with (fail)
 rw [← HW.out];clear HW;go_region
 go_upto_region 4 with (fail)
 obtain ⟨op,a,i2,i3,d⟩:=x;simp only at e0 e1 e2 e3 e4 hlo ⊢
 obtain ⟨w5,m0⟩:∃ X,X=(World.drew ((w1.alloc (.cells #[.int .i64 op,.int .i64 a,.int .i64 i2,.int .i64 i3,.int .i64 d] 62)).alloc (.cells #[.int .i64 5,.int .i64 k] 84))):=⟨_,rfl⟩;rw [← m0];have x2:w1.heap.size+2=w5.heap.size:=by rw [m0];simp
 have p0:Below w1.heap.size w1 w5:=by rw [m0];exact Bd (bal (bal (Bs w1) _) _)
 have d0:w5.cell? ⟨w1.heap.size,0,none⟩=some (.int .i64 op):=by rw [m0];exact Kc (Bd (Bs _)) (Ac (Wc rfl rfl) _)
 have d1:w5.cell? ⟨w1.heap.size,1,none⟩=some (.int .i64 a):=by rw [m0];exact Kc (Bd (Bs _)) (Ac (Wc rfl rfl) _)
 have d2:w5.cell? ⟨w1.heap.size,2,none⟩=some (.int .i64 i2):=by rw [m0];exact Kc (Bd (Bs _)) (Ac (Wc rfl rfl) _)
 have d3:w5.cell? ⟨w1.heap.size,3,none⟩=some (.int .i64 i3):=by rw [m0];exact Kc (Bd (Bs _)) (Ac (Wc rfl rfl) _)
 have d4:w5.cell? ⟨w1.heap.size,4,none⟩=some (.int .i64 d):=by rw [m0];exact Kc (Bd (Bs _)) (Ac (Wc rfl rfl) _)
 have oE:w5.ownsRow w.heap.size 84 2 (.slice (some ⟨w1.heap.size+1,0,none⟩) 1 1) 1 (evs [(5,(k:Int))]):=by
  rw [m0];have h:=own_evt (w1.alloc (.cells #[.int .i64 op,.int .i64 a,.int .i64 i2,.int .i64 i3,.int .i64 d] 62)) 5 k;simp only [Sa] at h;exact Om (Ob h (Bd (Bs _))) (by omega)
 have H:StepW (fun q=>q=b∨OwnMB (.slice (some ⟨g,0,none⟩) rs.length cr) (.slice pv g0.length cv) (.slice pA b0.length cA) us q) w w5 base b (.slice (some ⟨g,0,none⟩) rs.length cr) (.slice pv g0.length cv) (.slice pA b0.length cA) us rs ⟨g0,b0⟩ w.heap.size (.slice (some ⟨w1.heap.size+1,0,none⟩) 1 1) [(5,(k:Int))] k:=
  ⟨Kc p0 C0,Kc p0 C1,Kc p0 C2,Kc p0 C3,Kf p0 k2 F0,own.below p0,ob,oE,fun q e=>by
   have e2:w1.heap.size+1=q:=Si e;refine ⟨by omega,fun h2=>by have:=q1 q h2;omega,Or.inr (by omega)⟩,Or.inl (Or.inl rfl),fun q h=>Or.inr h,(Cb (btr i0 p0))⟩
 clear m0 e0 e1 e2 e3 e4 C0 C1 C2 C3 F0 own oE p0 i0 x2 r2;have kX:=Lc d0;obtain ⟨P1,P2,P3,P4,P5,P6,P7,P8,P9,q0,r0⟩:=ins_parts r1.out;have y1:=insOk_op r1.out;simp only at y1
 have r3:¬g=b:=fun e=>ob (e ▸ Or.inl rfl)
 have lX:∀ q,OwnMB (.slice (some ⟨g,0,none⟩) rs.length cr) (.slice pv g0.length cv) (.slice pA b0.length cA) us q→q < w1.heap.size:=fun q h=>by have:=q1 q h;omega
 have q3:=lX g (Or.inl rfl);have w0:=Hi lX;have j1:op=1∨op=2∨op=3∨op=4∨op=5:=by omega
 clear y1 hlo lX ob q2 lC q1 k0 k1;rcases j1 with rfl | rfl | rfl | rfl | rfl
 ·obtain ⟨⟨p1,p2⟩,p3,p4⟩:=P1 rfl;clear P1 P2 P3 P4 P5 P6 P7 P8 P9 q0 r0;obtain ⟨na,rfl⟩:∃ n:Nat,a=n:=⟨a.toNat,by omega⟩;have l0:Hid (T=⟨(k:Int)+1,rs.set na i2,⟨g0,b0⟩⟩):=Hi (by rw [← HT.out];simp [stp,stPc,stRegs,stMem]);have n0:Hid (EE=[(5,(k:Int))]):=Hi (by rw [← HE.out];simp [stEvs]);clear HT HE;have yR:=H.own.regAt na (by omega);have o0:=H.own.r.frozenAt na;have b1:=Lc yR;have x0:(na:Int) < (rs.length:Int):=by omega
  have H2:=H.reg na i2;clear H;have FI:=Hi (H2.fin ((k:Int)+1));have C0:=H2.c0;have F0:=H2.f0;have K0:=Lc C0;clear H2;go_wp2
  go_ret
  exact ⟨_,rfl,by rw [n0.out];exact FI.out.1,by rw [l0.out];exact FI.out.2.1,FI.out.2.2⟩
 ·obtain ⟨⟨p1,p2⟩,p3,p4⟩:=P2 rfl;clear P1 P2 P3 P4 P5 P6 P7 P8 P9 q0 r0;obtain ⟨na,rfl⟩:∃ n:Nat,a=n:=⟨a.toNat,by omega⟩;obtain ⟨nb,rfl⟩:∃ n:Nat,i2=n:=⟨i2.toNat,by omega⟩;have l0:Hid (T=⟨(k:Int)+1,rs.set na (gi g0 nb),⟨g0,b0⟩⟩):=Hi (by rw [← HT.out];simp [stp,stPc,stRegs,stMem]);have n0:Hid (EE=[(5,(k:Int))]):=Hi (by rw [← HE.out];simp [stEvs]);clear HT HE;obtain ⟨gv,o2,hv⟩:=own_pos H.own.v (by simp only;omega);simp only [Value.slice.injEq,true_and] at hv;obtain ⟨rfl,rfl⟩:=hv;have yR:=H.own.regAt na (by omega);have o0:=H.own.r.frozenAt na;have b1:=Lc yR;have x0:(na:Int) < (rs.length:Int):=by omega
  have yV:=H.own.valAt nb (by simp only;omega);have kV:=Lc yV;have bV:(nb:Int) < (g0.length:Int):=by omega
  simp only at yV
  generalize gi g0 nb=z at *
  have D2:=H.c2;go_upto_region 8 with (fail)
  refine wp_region_still_tail 13 (by kernel_rfl) (by kernel_rfl) ?_;simp only [List.take_succ_cons,List.take_zero,List.drop_succ_cons,List.drop_zero];repeat still_step
  refine wpStill_nil ?_;change wpList _ _ _ _ _ (World.drew w5)
  have HD:=H.drew;clear H;obtain ⟨wd,j0⟩:∃ X,X=World.drew w5:=⟨_,rfl⟩;rw [← j0] at HD ⊢;have yQ:=HD.own.regAt na (by omega);have fQ:=HD.own.r.frozenAt na;have kQ:=Lc yQ;have H2:=HD.reg na z;clear HD j0 D2 yR o0 yV;have FI:=Hi (H2.fin ((k:Int)+1));have C0:=H2.c0;have F0:=H2.f0;have K0:=Lc C0;clear H2;go_wp2
  go_ret
  exact ⟨_,rfl,by rw [n0.out];exact FI.out.1,by rw [l0.out];exact FI.out.2.1,FI.out.2.2⟩
 ·obtain ⟨⟨p1,p2⟩,p3,p4⟩:=P3 rfl;clear P1 P2 P3 P4 P5 P6 P7 P8 P9 q0 r0;obtain ⟨na,rfl⟩:∃ n:Nat,a=n:=⟨a.toNat,by omega⟩;obtain ⟨nb,rfl⟩:∃ n:Nat,i2=n:=⟨i2.toNat,by omega⟩;have l0:Hid (T=⟨(k:Int)+1,rs,⟨g0.set na (gi rs nb),b0⟩⟩):=Hi (by rw [← HT.out];simp [stp,stPc,stRegs,stMem]);have n0:Hid (EE=[(5,(k:Int))]):=Hi (by rw [← HE.out];simp [stEvs]);clear HT HE;obtain ⟨gv,o2,hv⟩:=own_pos H.own.v (by simp only;omega);simp only [Value.slice.injEq,true_and] at hv;obtain ⟨rfl,rfl⟩:=hv;have yR:=H.own.regAt nb (by omega);have o0:=H.own.r.frozenAt nb;have b1:=Lc yR;have x0:(nb:Int) < (rs.length:Int):=by omega
  have yV:=H.own.valAt na (by simp only;omega);have fV:=H.own.v.frozenAt na;have kV:=Lc yV;have bV:(na:Int) < (g0.length:Int):=by omega
  generalize gi rs nb=z at *
  have D2:=H.c2;go_upto_region 10 with (fail)
  refine wp_region_still_tail 13 (by kernel_rfl) (by kernel_rfl) ?_;simp only [List.take_succ_cons,List.take_zero,List.drop_succ_cons,List.drop_zero];repeat still_step
  refine wpStill_nil ?_;change wpList _ _ _ _ _ (World.drew w5)
  have HD:=H.drew;clear H;obtain ⟨wd,j0⟩:∃ X,X=World.drew w5:=⟨_,rfl⟩;rw [← j0] at HD ⊢;have yQ:=HD.own.valAt na (by simp only;omega);have fQ:=HD.own.v.frozenAt na;have kQ:=Lc yQ;have H2:=HD.val na z;clear HD j0 D2 yR o0 yV fV;have FI:=Hi (H2.fin ((k:Int)+1));have C0:=H2.c0;have F0:=H2.f0;have K0:=Lc C0;clear H2;go_wp2
  go_ret
  exact ⟨_,rfl,by rw [n0.out];exact FI.out.1,by rw [l0.out];exact FI.out.2.1,FI.out.2.2⟩
 ·obtain ⟨⟨p1,p2⟩,⟨p3,p4⟩,p5,p6⟩:=P4 rfl;clear P1 P2 P3 P4 P5 P6 P7 P8 P9 q0 r0;obtain ⟨na,rfl⟩:∃ n:Nat,a=n:=⟨a.toNat,by omega⟩;obtain ⟨nb,rfl⟩:∃ n:Nat,i2=n:=⟨i2.toNat,by omega⟩;obtain ⟨nc,rfl⟩:∃ n:Nat,i3=n:=⟨i3.toNat,by omega⟩;have s0:(gr b0 nb).length=4:=by unfold gr;rw [Int.toNat_natCast,List.getElem?_eq_getElem (by omega)];exact (s1.out _ (List.getElem_mem _)).1
  obtain ⟨gA,n2,hv⟩:=own_pos H.own.a.out (by simp only;omega);simp only [Value.slice.injEq,true_and] at hv;obtain ⟨rfl,rfl⟩:=hv;obtain ⟨ga,ca,A1,A2,A3⟩:=H.own.arrAt nb (by simp only;omega) s0;clear s0;have n1:=t1.out (nc:Int);have yC:=H.own.regAt nc (by omega);have f1:=H.own.r.frozenAt nc;have b3:=Lc yC;have j2:(nc:Int) < (rs.length:Int):=by omega
  obtain ⟨v,hv⟩:∃ v:Nat,gi rs nc=v:=⟨(gi rs nc).toNat,by omega⟩;have l0:Hid (T=⟨(k:Int)+1,rs.set na (gi (gr b0 nb) ((v % 4:Nat):Int)),⟨g0,b0⟩⟩):=Hi (by rw [← HT.out];simp [stp,stPc,stRegs,stMem,hv]);have n0:Hid (EE=[(5,(k:Int)),(2,adr nb v)]):=Hi (by rw [← HE.out];simp [stEvs,hv]);clear HT HE;rw [hv] at yC n1;obtain ⟨j,hj⟩:∃ j:Nat,v % 4=j:=⟨_,rfl⟩;have h1:j < 4:=by omega
  have t2:(v:Int).tmod 4=(j:Int):=by rw [Int.tmod_eq_emod_of_nonneg (by omega)];omega
  have s2:(j:Int) < 4:=by omega
  rw [hj] at l0;obtain ⟨A4,A5⟩:=A3 j h1;clear hj;generalize gi (gr b0 nb) (j:Int)=z at *
  have a3:=w0.out ga (Or.inr (Or.inr (Or.inr ⟨nb,_,A2,rfl⟩)));clear A3 A2 hv;go_wp2_with fail
  refine (address_any nb v _ (by omega) (by omega)).mono ?_;rintro e w6 ⟨rfl,rfl⟩;clear yC f1;have z2:=w0.out gA (Or.inr (Or.inr (Or.inl rfl)));go_wp2_with (at_builtin;refine wpList_ap tEvs rfl _ _ rfl w.heap.size _ 1 _ rfl H.ev [.int .i64 2,.int .i64 (adr nb v)] rfl rfl (one_ev _ _) (by omega) H.chg.size ?_)
  intro ge ce w7 oe h0 t0;have H7:=H.event (e:=(2,adr nb v)) oe h0 (fun q hq=>by have e3:ge=q:=Si hq;subst e3;exact t0);have HN:=Hi (fun q (h:q < w1.heap.size+1) (e:(Value.slice (some ⟨w1.heap.size+1,0,none⟩) 1 1).ownBlock=some q)=>show False from by have e2:w1.heap.size+1=q:=Si e;omega);replace d0:=Gc h0 d0 (HN.out _ (by omega));replace d1:=Gc h0 d1 (HN.out _ (by omega));replace d2:=Gc h0 d2 (HN.out _ (by omega));replace d3:=Gc h0 d3 (HN.out _ (by omega));replace d4:=Gc h0 d4 (HN.out _ (by omega));replace A1:=Gc h0 A1 (HN.out _ (by omega));replace A4:=Gc h0 A4 (HN.out _ (by omega));have y2:=h0.size;clear H h0 t0 oe HN;have yR:=H7.own.regAt na (by omega);have o0:=H7.own.r.frozenAt na;have b1:=Lc yR;have x0:(na:Int) < (rs.length:Int):=by omega
  have D3:=H7.c3;have K3:=Lc D3;have g2:=Lc A1;have u1:=Lc A4;have bA:(nb:Int) < (b0.length:Int):=by omega
  go_upto_region 14 with (fail)
  refine wp_region_still_tail 17 (by kernel_rfl) (by kernel_rfl) ?_;simp only [List.take_succ_cons,List.take_zero,List.drop_succ_cons,List.drop_zero];repeat still_step
  refine wpStill_nil ?_;change wpList _ _ _ _ _ (World.drew w7)
  have HD:=H7.drew;clear H7;obtain ⟨wd,j0⟩:∃ X,X=World.drew w7:=⟨_,rfl⟩;rw [← j0] at HD ⊢;have yQ:=HD.own.regAt na (by omega);have fQ:=HD.own.r.frozenAt na;have kQ:=Lc yQ;have H2:=HD.reg na z;clear HD j0 D3 yR o0 A1 A4;have FI:=Hi (H2.fin ((k:Int)+1));have C0:=H2.c0;have F0:=H2.f0;have K0:=Lc C0;clear H2;go_wp2
  go_ret
  exact ⟨_,rfl,by rw [n0.out];exact FI.out.1,by rw [l0.out];exact FI.out.2.1,FI.out.2.2⟩
 obtain ⟨⟨p1,p2⟩,⟨p3,p4⟩,p5,p6⟩:=P5 rfl;clear P1 P2 P3 P4 P5 P6 P7 P8 P9 q0 r0;obtain ⟨na,rfl⟩:∃ n:Nat,a=n:=⟨a.toNat,by omega⟩;obtain ⟨nb,rfl⟩:∃ n:Nat,i2=n:=⟨i2.toNat,by omega⟩;obtain ⟨nc,rfl⟩:∃ n:Nat,i3=n:=⟨i3.toNat,by omega⟩;have s0:(gr b0 na).length=4:=by unfold gr;rw [Int.toNat_natCast,List.getElem?_eq_getElem (by omega)];exact (s1.out _ (List.getElem_mem _)).1
 obtain ⟨gA,n2,hv⟩:=own_pos H.own.a.out (by simp only;omega);simp only [Value.slice.injEq,true_and] at hv;obtain ⟨rfl,rfl⟩:=hv;obtain ⟨ga,ca,A1,A2,A3⟩:=H.own.arrAt na (by simp only;omega) s0;clear s0;have n1:=t1.out (nb:Int);have yC:=H.own.regAt nb (by omega);have f1:=H.own.r.frozenAt nb;have b3:=Lc yC;have j2:(nb:Int) < (rs.length:Int):=by omega
 obtain ⟨v,hv⟩:∃ v:Nat,gi rs nb=v:=⟨(gi rs nb).toNat,by omega⟩;have v0:((v:Int) % 4).toNat=v % 4:=by omega
 have l0:Hid (T=⟨(k:Int)+1,rs,⟨g0,b0.set na ((gr b0 na).set (v % 4) (gi rs nc))⟩⟩):=Hi (by rw [← HT.out];simp [stp,stPc,stRegs,stMem,hv,v0]);have n0:Hid (EE=[(5,(k:Int)),(3,adr na v)]):=Hi (by rw [← HE.out];simp [stEvs,hv]);clear HT HE;rw [hv] at yC n1;obtain ⟨j,hj⟩:∃ j:Nat,v % 4=j:=⟨_,rfl⟩;have h1:j < 4:=by omega
 have t2:(v:Int).tmod 4=(j:Int):=by rw [Int.tmod_eq_emod_of_nonneg (by omega)];omega
 have s2:(j:Int) < 4:=by omega
 rw [hj] at l0;obtain ⟨A4,A5⟩:=A3 j h1;clear hj;generalize gi (gr b0 na) (j:Int)=z0 at *
 have a3:=w0.out ga (Or.inr (Or.inr (Or.inr ⟨na,_,A2,rfl⟩)));have f2:=Hi A2;clear A3 A2 hv v0;go_wp2_with fail
 refine (address_any na v _ (by omega) (by omega)).mono ?_;rintro e w6 ⟨rfl,rfl⟩;clear yC f1;have z2:=w0.out gA (Or.inr (Or.inr (Or.inl rfl)));go_wp2_with (at_builtin;refine wpList_ap tEvs rfl _ _ rfl w.heap.size _ 1 _ rfl H.ev [.int .i64 3,.int .i64 (adr na v)] rfl rfl (one_ev _ _) (by omega) H.chg.size ?_)
 intro ge ce w7 oe h0 t0;have H7:=H.event (e:=(3,adr na v)) oe h0 (fun q hq=>by have e3:ge=q:=Si hq;subst e3;exact t0);have HN:=Hi (fun q (h:q < w1.heap.size+1) (e:(Value.slice (some ⟨w1.heap.size+1,0,none⟩) 1 1).ownBlock=some q)=>show False from by have e2:w1.heap.size+1=q:=Si e;omega);replace d0:=Gc h0 d0 (HN.out _ (by omega));replace d1:=Gc h0 d1 (HN.out _ (by omega));replace d2:=Gc h0 d2 (HN.out _ (by omega));replace d3:=Gc h0 d3 (HN.out _ (by omega));replace d4:=Gc h0 d4 (HN.out _ (by omega));replace A5:=Gf h0 (by omega) A5 (HN.out _ (by omega));replace A1:=Gc h0 A1 (HN.out _ (by omega));replace A4:=Gc h0 A4 (HN.out _ (by omega));have y2:=h0.size;clear H h0 t0 oe HN;have yR:=H7.own.regAt nc (by omega);have o0:=H7.own.r.frozenAt nc;have b1:=Lc yR;have x0:(nc:Int) < (rs.length:Int):=by omega
 have D3:=H7.c3;have K3:=Lc D3;have g2:=Lc A1;have u1:=Lc A4;have bA:(na:Int) < (b0.length:Int):=by omega
 generalize gi rs nc=z at *
 go_upto_region 18 with (fail)
 refine wp_region_still_tail 17 (by kernel_rfl) (by kernel_rfl) ?_;simp only [List.take_succ_cons,List.take_zero,List.drop_succ_cons,List.drop_zero];repeat still_step
 refine wpStill_nil ?_;change wpList _ _ _ _ _ (World.drew w7)
 have HD:=H7.drew;clear H7;obtain ⟨wd,j0⟩:∃ X,X=World.drew w7:=⟨_,rfl⟩;rw [← j0] at HD ⊢;have yQ:=Kc (show Below w7.heap.size w7 wd from by rw [j0];exact Bd (Bs _)) A4;have fQ:=Kf (show Below w7.heap.size w7 wd from by rw [j0];exact Bd (Bs _)) u1 A5;have kQ:=Lc yQ;have H2:=HD.arr f2.out j z;clear HD j0 D3 yR o0 A1 A4 A5;have FI:=Hi (H2.fin ((k:Int)+1));have C0:=H2.c0;have F0:=H2.f0;have K0:=Lc C0;clear H2;go_wp2
 go_ret
 exact ⟨_,rfl,by rw [n0.out];exact FI.out.1,by rw [l0.out];exact FI.out.2.1,FI.out.2.2⟩
end Go.Proofs.YtnpidfbcbmeijaaGreat
