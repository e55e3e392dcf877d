/-
 Parts of the proofs of the laws FnCompactRegs,FnFenceCode,FnRunTimeSteps.
-/
import Derived.Test.YtkjedgnepnbkpaaGreatZPq1
set_option linter.all false
namespace Go.Proofs.YtkjedgnepnbkpaaGreat
open Go.RowKit
set_option maxHeartbeats 25600000 in
set_option maxRecDepth 100000 in
theorem exec_6_13 (tb base:Nat) (va vb vc vr vv vA u:Value) (us:List Value) (c:Cd) (s:Ms) (E:List Ev) (w:World) (hr:ReadsC w va vb vc c) (hO:OwnMv w base vr vv vA us s.regs s.mem) (hE:w.ownsRow tb 38 2 u E.length (evs E)) (hd:∀ q,u.ownBlock=some q→¬OwnMB vr vv vA us q) (htb:tb≤w.heap.size) (hEl:E.length≤1048576) (hM:MsOk c s) (hok:codeOk c=true) (hlo:6≤(insAt c s.pc).op∧(insAt c s.pc).op≤13) :
  Calls Tryz.prog 100 #[.agg #[va,vb,vc],.agg #[.int .i64 s.pc,vr,vv,vA],u] w fun e w'=>∃ u',e=.returned (.tuple #[.agg #[.int .i64 (stPc (insAt c s.pc) s),vr,vv,vA],u'])∧OwnMv w' base vr vv vA us (stRegs (insAt c s.pc) s) (stMem (insAt c s.pc) s)∧w'.ownsRow tb 38 2 u' (E++stEvs (insAt c s.pc) s).length (evs (E++stEvs (insAt c s.pc) s))∧(∀ q,u'.ownBlock=some q→¬OwnMB vr vv vA us q∧(u.ownBlock=some q∨w.heap.size≤q))∧Chg (fun q=>OwnMB vr vv vA us q∨u.ownBlock=some q) w w':=by
 obtain ⟨a0,c0,a1,c1,a2,c2,rfl,rfl,rfl⟩:=hr.shape
 obtain ⟨pc,rs,i0,h0⟩:=s
 obtain ⟨h5,i5,k4,q3,n3⟩:=hM
 simp only at h5 i5 k4 q3 n3
 obtain ⟨k,rfl⟩:∃ k:Nat,pc=k:=⟨pc.toNat,by omega⟩
 have hk:k < c.list.length:=by omega
 obtain ⟨l1,l2⟩:=codeOk_len hok
 obtain ⟨l3,l4⟩:=declOk_len (codeOk_decl hok)
 have q2:=codeOk_all hok k hk
 have f4:insAt c (k:Int)=c.list[k]:=by unfold insAt;rw [Int.toNat_natCast,List.getElem?_eq_getElem hk];rfl
 simp only at hlo ⊢
 rw [f4] at hlo ⊢
 clear f4
 obtain ⟨m1,m2,m3,m4⟩:=memOk_parts n3
 simp only at m1 m2 m3 m4
 have own:=hO
 clear hO
 obtain ⟨g,cr,rfl⟩:=own_pos own.r (by simp only;omega)
 obtain ⟨pv,cv,rfl⟩:=Oh own.v
 obtain ⟨pA,cA,rfl⟩:=Oh own.a.out
 simp only at own hd
 have g3:=Lib.hid (fun i=>gi_range q3 i)
 have j5:=Lib.hid m1;have k5:=Lib.hid m2;have l5:=Lib.hid m4
 have a5:=hr.l
 obtain ⟨_,hn,aa,o5,b',o4,hv,j3,ha,g4⟩:=a5
 simp only [Value.slice.injEq,true_and] at hv
 obtain ⟨rfl,rfl⟩:=hv
 obtain ⟨rfl,z4⟩:=ha (by omega)
 obtain ⟨e0,e1,e2,e3,e4⟩:=reads_Instr g4 k hk
 have hq:(k:Int) < (c.list.length:Int):=by omega
 have b5:14≤rs.length:=by omega
 have c5:rs.length≤14:=by omega
 have v5:c.vars.length≤i0.length:=by omega
 have x5:i0.length≤12:=by omega
 have r5:c.arrays.length≤h0.length:=by omega
 have s5:h0.length≤2:=by omega
 generalize c.list[k]=x at *
 have w3:=Lib.hid q2
 generalize hT:stp x ⟨(k:Int),rs,⟨i0,h0⟩⟩=T
 have b4:stPc x ⟨(k:Int),rs,⟨i0,h0⟩⟩=T.pc:=by rw [← hT];rfl
 have c4:stRegs x ⟨(k:Int),rs,⟨i0,h0⟩⟩=T.regs:=by rw [← hT];rfl
 have a4:stMem x ⟨(k:Int),rs,⟨i0,h0⟩⟩=T.mem:=by rw [← hT];rfl
 rw [b4,c4,a4]
 generalize hE2:stEvs x ⟨(k:Int),rs,⟨i0,h0⟩⟩=EE
 have HT:=Lib.hid hT;have HE:=Lib.hid hE2
 have iE:=hE.lt
 clear hT b4 c4 a4 hE2 q2 n3 k4 q3 m1 m2 m3 m4 g4 ha hr j3 hn
 obtain ⟨w1,w0⟩:∃ X,X=((w.alloc (.cells #[.slice a0 c.vars.length c0,.slice a1 c.arrays.length c1,.slice (some ⟨b',o4,none⟩) c.list.length c2] 26)).alloc (.cells #[.int .i64 k,(.slice (some ⟨g,0,none⟩) rs.length cr),(.slice pv i0.length cv),(.slice pA h0.length cA)] 62)).alloc (.cells #[.int .i64 0,.slice none 0 0,.slice none 0 0,.slice none 0 0] 62):=⟨_,rfl⟩
 have y1:Below w.heap.size w w1:=by rw [w0];exact bal (bal (bal (Bs w) _) _) _
 have u3:w1.heap.size=w.heap.size+1+1+1:=by rw [w0];simp
 have r2:w1.cell? ⟨w.heap.size,2,none⟩=some (.slice (some ⟨b',o4,none⟩) c.list.length c2):=by rw [w0];exact Ac (Ac (Wc rfl rfl) _) _
 have C0:w1.cell? ⟨w.heap.size+1,0,none⟩=some (.int .i64 k):=by rw [w0];exact Ac (Wc (by simp) rfl) _
 have C1:w1.cell? ⟨w.heap.size+1,1,none⟩=some ((.slice (some ⟨g,0,none⟩) rs.length cr)):=by rw [w0];exact Ac (Wc (by simp) rfl) _
 have C2:w1.cell? ⟨w.heap.size+1,2,none⟩=some ((.slice pv i0.length cv)):=by rw [w0];exact Ac (Wc (by simp) rfl) _
 have C3:w1.cell? ⟨w.heap.size+1,3,none⟩=some ((.slice pA h0.length cA)):=by rw [w0];exact Ac (Wc (by simp) rfl) _
 have Z0:w1.cell? ⟨w.heap.size+1+1,0,none⟩=some (.int .i64 0):=by rw [w0];exact Wc (by simp) rfl
 have Y0:w1.frozen? ⟨w.heap.size+1+1,0,none⟩=false:=by rw [w0];exact Fn (by simp)
 have Z1:w1.cell? ⟨w.heap.size+1+1,1,none⟩=some (.slice none 0 0):=by rw [w0];exact Wc (by simp) rfl
 have Y1:w1.frozen? ⟨w.heap.size+1+1,1,none⟩=false:=by rw [w0];exact Fn (by simp)
 have Z2:w1.cell? ⟨w.heap.size+1+1,2,none⟩=some (.slice none 0 0):=by rw [w0];exact Wc (by simp) rfl
 have Y2:w1.frozen? ⟨w.heap.size+1+1,2,none⟩=false:=by rw [w0];exact Fn (by simp)
 have Z3:w1.cell? ⟨w.heap.size+1+1,3,none⟩=some (.slice none 0 0):=by rw [w0];exact Wc (by simp) rfl
 have Y3:w1.frozen? ⟨w.heap.size+1+1,3,none⟩=false:=by rw [w0];exact Fn (by simp)
 have F0:w1.frozen? ⟨w.heap.size+1,0,none⟩=false:=by rw [w0];exact Fa (by simp) (Fn (by simp)) _
 have HW:=Lib.hid w0
 have m5:=Lib.hid u3
 have hz1':w.heap.size+3≤w1.heap.size:=by omega
 clear w0 u3
 replace e0:=Kc y1 e0
 replace e1:=Kc y1 e1
 replace e2:=Kc y1 e2
 replace e3:=Kc y1 e3
 replace e4:=Kc y1 e4
 have b3:=own.lt
 replace own:=own.below y1
 replace hE:=Ob hE y1
 have k0:=Lc r2
 have k1:=Lc e0
 have k2:=Lc C0
 go_enter Tryz.func100,Tryz.ntmps100
 go_upto_region 1 with (fail)
 rw [← HW.out]
 clear HW
 go_upto_region 3 with (fail)
 obtain ⟨op,a,i2,i3,d⟩:=x
 simp only at e0 e1 e2 e3 e4 hlo ⊢
 obtain ⟨w2,z1⟩:∃ X,X=(w1.alloc (.cells #[.int .i64 op,.int .i64 a,.int .i64 i2,.int .i64 i3,.int .i64 d] 71)):=⟨_,rfl⟩
 rw [← z1]
 have y0:Below w1.heap.size w1 w2:=by rw [z1];exact bal (Bs w1) _
 have y5:w1.heap.size+1≤w2.heap.size:=by rw [z1];simp
 have d0:w2.cell? ⟨w1.heap.size,0,none⟩=some (.int .i64 op):=by rw [z1];exact Wc rfl rfl
 have d1:w2.cell? ⟨w1.heap.size,1,none⟩=some (.int .i64 a):=by rw [z1];exact Wc rfl rfl
 have d2:w2.cell? ⟨w1.heap.size,2,none⟩=some (.int .i64 i2):=by rw [z1];exact Wc rfl rfl
 have d3:w2.cell? ⟨w1.heap.size,3,none⟩=some (.int .i64 i3):=by rw [z1];exact Wc rfl rfl
 have d4:w2.cell? ⟨w1.heap.size,4,none⟩=some (.int .i64 d):=by rw [z1];exact Wc rfl rfl
 clear z1 e0 e1 e2 e3 e4
 replace C0:=Kc y0 C0;have t4:=Lc Z0;replace Z0:=Kc y0 Z0;replace Y0:=Kf y0 t4 Y0
 replace C1:=Kc y0 C1;have u4:=Lc Z1;replace Z1:=Kc y0 Z1;replace Y1:=Kf y0 u4 Y1
 replace C2:=Kc y0 C2;have v4:=Lc Z2;replace Z2:=Kc y0 Z2;replace Y2:=Kf y0 v4 Y2
 replace C3:=Kc y0 C3;have w4:=Lc Z3;replace Z3:=Kc y0 Z3;replace Y3:=Kf y0 w4 Y3
 replace F0:=Kf y0 k2 F0
 replace own:=own.below y0
 replace hE:=Ob hE y0
 have j2:=btr y1 y0
 have H0:StepW (fun q=>OwnMB (.slice (some ⟨g,0,none⟩) rs.length cr) (.slice pv i0.length cv) (.slice pA h0.length cA) us q∨u.ownBlock=some q) w w2 base (w.heap.size+1) (.slice (some ⟨g,0,none⟩) rs.length cr) (.slice pv i0.length cv) (.slice pA h0.length cA) us rs ⟨i0,h0⟩ tb u E k:=
  ⟨C0,C1,C2,C3,F0,own,fun h=>by have:=b3 _ h;omega,hE,fun q e=>⟨by have:=iE q e;omega,hd q e,Or.inl (Or.inr e)⟩,Or.inr (by omega),fun q h=>Or.inl h,Chg.of_below j2⟩
 clear C1 C2 C3 F0 own hE y0 y1 j2 z4 r2
 have e5:=Lc C0
 go_wp2_with (at_builtin;refine wpList_ap tEvs rfl _ _ rfl tb _ E.length _ rfl H0.ev [.int .i64 5,.int .i64 k] rfl rfl (one_ev _ _) (by omega) (by omega) ?_)
 clear C0 e5
 intro g0 f1 w5 oe l0 f2
 have H:=H0.event (e:=(5,(k:Int))) oe l0 (fun q hq=>by have e3:g0=q:=Option.some.inj hq;subst e3;exact f2)
 have HN:=Lib.hid (fun q (h:w.heap.size≤q) (e:u.ownBlock=some q)=>show False from by have:=iE q e;omega)
 replace d0:=Gc l0 d0 (HN.out _ (by omega))
 replace d1:=Gc l0 d1 (HN.out _ (by omega))
 replace d2:=Gc l0 d2 (HN.out _ (by omega))
 replace d3:=Gc l0 d3 (HN.out _ (by omega))
 replace d4:=Gc l0 d4 (HN.out _ (by omega))
 replace Y0:=Gf l0 (by omega) Y0 (HN.out _ (by omega));replace Z0:=Gc l0 Z0 (HN.out _ (by omega))
 replace Y1:=Gf l0 (by omega) Y1 (HN.out _ (by omega));replace Z1:=Gc l0 Z1 (HN.out _ (by omega))
 replace Y2:=Gf l0 (by omega) Y2 (HN.out _ (by omega));replace Z2:=Gc l0 Z2 (HN.out _ (by omega))
 replace Y3:=Gf l0 (by omega) Y3 (HN.out _ (by omega));replace Z3:=Gc l0 Z3 (HN.out _ (by omega))
 have d5:=l0.size
 have u2:(E++[((5:Int),(k:Int))]).length=E.length+1:=by simp
 have g2:=Lib.hid u2
 have k3:=H.eb
 have hg0n:∀ q,w.heap.size≤q→q < w2.heap.size→¬g0=q:=fun q h1 h2 e=>by
  rcases f2 with h | h
  ·exact HN.out q h1 (e ▸ h)
  omega
 have g1:=Lib.hid hg0n
 clear H0 l0 oe f2 u2 hg0n
 have kX:=Lc d0
 obtain ⟨P1,P2,P3,P4,P5,P6,P7,P8,P9,r1,u1⟩:=ins_parts w3.out
 have h4:=insOk_op w3.out
 simp only at h4
 have lX:∀ q,OwnMB (.slice (some ⟨g,0,none⟩) rs.length cr) (.slice pv i0.length cv) (.slice pA h0.length cA) us q→q < w.heap.size:=fun q h=>(b3 q h).2
 have t5:=lX g (Or.inl rfl)
 have i1:=Lib.hid lX
 have r4:=Lib.hid b3
 have o3:op=6∨op=7∨op=8∨op=9∨op=10∨op=11∨op=12∨op=13:=by omega
 clear h4 hlo lX k0 k1 k3 b3 hd
 rcases o3 with rfl | rfl | rfl | rfl | rfl | rfl | rfl | rfl
 ·obtain ⟨⟨p1,p2⟩,⟨p3,p4⟩,⟨p5,p6⟩,p7,p8⟩:=P6 rfl
  clear P1 P2 P3 P4 P5 P6 P7 P8 P9 r1 u1
  obtain ⟨na,rfl⟩:∃ n:Nat,a=n:=⟨a.toNat,by omega⟩
  obtain ⟨nc,rfl⟩:∃ n:Nat,i3=n:=⟨i3.toNat,by omega⟩
  obtain ⟨nd,rfl⟩:∃ n:Nat,d=n:=⟨d.toNat,by omega⟩
  have yR:=H.own.regAt na (by omega);have b2:=H.own.r.frozenAt na;have v3:=Lc yR;have h3:(na:Int) < (rs.length:Int):=by omega
  have yC:=H.own.regAt nc (by omega);have y3:=H.own.r.frozenAt nc;have f5:=Lc yC;have x4:(nc:Int) < (rs.length:Int):=by omega
  have yD:=H.own.regAt nd (by omega);have z3:=H.own.r.frozenAt nd;have g5:=Lc yD;have y4:(nd:Int) < (rs.length:Int):=by omega
  have i4:=g3.out (nc:Int);have j4:=g3.out (nd:Int)
  have p0:Hid (T=⟨(k:Int)+1,rs.set na (opr i2 (gi rs nc) (gi rs nd)),⟨i0,h0⟩⟩):=Lib.hid (by rw [← HT.out];simp [stp,stPc,stRegs,stMem])
  have o0:Hid (EE=[((5:Int),(k:Int))]):=Lib.hid (by rw [← HE.out];simp [stEvs])
  clear HT HE
  generalize gi rs nc=v1 at *;generalize gi rs nd=v2 at *
  go_upto_region 18 with (fail)
  refine wp_region_still_tail 17 (by kernel_rfl) (by kernel_rfl) ?_
  simp only [List.take_succ_cons,List.take_zero,List.drop_succ_cons,List.drop_zero]
  repeat still_step
  still_call (l3Bin_any i2 v1 v2 _ ⟨p3,p4⟩ i4 j4)
  repeat still_step
  refine wpStill_nil ?_
  change wpList _ _ _ _ _ (World.drew w5)
  have HD:=H.drew;clear H
  obtain ⟨wd,r3⟩:∃ X,X=World.drew w5:=⟨_,rfl⟩
  rw [← r3] at HD ⊢
  have HB:=(show Below w5.heap.size w5 wd from by rw [r3];exact Below.drew (Bs _))
  clear r3
  have yQ:=HD.own.regAt na (by omega)
  have fQ:=HD.own.r.frozenAt na
  have kQ:=Lc yQ
  have H2:=HD.reg na (opr i2 v1 v2)
  clear yR b2 yC y3 yD z3 i4 j4
  generalize opr i2 v1 v2=z at *
  replace Y0:=Kf HB (Lc Z0) Y0;replace Z0:=Kc HB Z0
  replace Y1:=Kf HB (Lc Z1) Y1;replace Z1:=Kc HB Z1
  replace Y2:=Kf HB (Lc Z2) Y2;replace Z2:=Kc HB Z2
  replace Y3:=Kf HB (Lc Z3) Y3;replace Z3:=Kc HB Z3
  replace d0:=Kc HB d0
  replace d1:=Kc HB d1
  replace d2:=Kc HB d2
  replace d3:=Kc HB d3
  replace d4:=Kc HB d4
  go_upto_region 28 with (fail)
  replace Y0:=Fs (b:=⟨g,na,none⟩) Y0 (.int .i64 z);replace Z0:=Nn (b:=g) (j:=na) Z0 (.int .i64 z)
  replace Y1:=Fs (b:=⟨g,na,none⟩) Y1 (.int .i64 z);replace Z1:=Nn (b:=g) (j:=na) Z1 (.int .i64 z)
  replace Y2:=Fs (b:=⟨g,na,none⟩) Y2 (.int .i64 z);replace Z2:=Nn (b:=g) (j:=na) Z2 (.int .i64 z)
  replace Y3:=Fs (b:=⟨g,na,none⟩) Y3 (.int .i64 z);replace Z3:=Nn (b:=g) (j:=na) Z3 (.int .i64 z)
  replace d0:=Nn (b:=g) (j:=na) d0 (.int .i64 z)
  replace d1:=Nn (b:=g) (j:=na) d1 (.int .i64 z)
  replace d2:=Nn (b:=g) (j:=na) d2 (.int .i64 z)
  replace d3:=Nn (b:=g) (j:=na) d3 (.int .i64 z)
  replace d4:=Nn (b:=g) (j:=na) d4 (.int .i64 z)
  clear HD HB
  have m0:Hid (mov ⟨6,(na:Int),i2,(nc:Int),(nd:Int)⟩ (rs.set na z) k=(k:Int)+1):=Lib.hid (by simp [mov])
  have n0:=Lib.hid (Ro H2.own.r (by first | omega | (simp;omega)))
  have qc:=H2.c0;have v0:=Lc qc
  have u0:¬g0=(w.heap.size+1+1):=g1.out _ (by omega) (by have:=Lc Z0;omega)
  go_wp2_with fail
  refine (l6Move_any (6) ((na:Int)) (i2) ((nc:Int)) ((nd:Int)) _ (rs.set na z) k _ n0.out (by omega) (by first | omega | (simp;done) | (simp;omega))).mono ?_
  rintro e w9 ⟨rfl,b0⟩
  rw [m0.out]
  have H9:=H2.keep b0;have b1:=b0.size
  replace Y0:=Kf b0 (Lc Z0) Y0;replace Z0:=Kc b0 Z0
  replace Y1:=Kf b0 (Lc Z1) Y1;replace Z1:=Kc b0 Z1
  replace Y2:=Kf b0 (Lc Z2) Y2;replace Z2:=Kc b0 Z2
  replace Y3:=Kf b0 (Lc Z3) Y3;replace Z3:=Kc b0 Z3
  have r0:¬(w.heap.size+1+1)=(w.heap.size+1):=by omega
  have FR:=Lib.hid (H9.ret4 ((k:Int)+1) (w.heap.size+1+1) (by omega) (fun h=>by have:=i1.out _ h;omega) (fun h=>u0 (Option.some.inj h)) (.int .i64 ((k:Int)+1)) (.slice (some ⟨g,0,none⟩) rs.length cr) (.slice pv i0.length cv) (.slice pA h0.length cA))
  obtain ⟨x0,x1,x2,x3⟩:=cells4 (y:=.int .i64 ((k:Int)+1)) r0 Z0 Z1 Z2 Z3 (.int .i64 ((k:Int)+1)) (.slice (some ⟨g,0,none⟩) rs.length cr) (.slice pv i0.length cv) (.slice pA h0.length cA)
  have q0:=H9.c0;have qf:=H9.f0;have kq:=Lc q0
  have FO:=(H9.fin ((k:Int)+1)).2.1
  have t0:=FO.c0;have t1:=FO.c1;have t2:=FO.c2;have t3:=FO.c3
  have j0:=Lib.hid H9.eb
  have s0:=Nn (b:=(w.heap.size+1)) (j:=0) Z0 (.int .i64 ((k:Int)+1));have j1:=Fs (b:=⟨(w.heap.size+1),0,none⟩) Y0 (.int .i64 ((k:Int)+1))
  have s1:=Nn (b:=(w.heap.size+1)) (j:=0) Z1 (.int .i64 ((k:Int)+1));have n1:=Fs (b:=⟨(w.heap.size+1),0,none⟩) Y1 (.int .i64 ((k:Int)+1))
  have s2:=Nn (b:=(w.heap.size+1)) (j:=0) Z2 (.int .i64 ((k:Int)+1));have o1:=Fs (b:=⟨(w.heap.size+1),0,none⟩) Y2 (.int .i64 ((k:Int)+1))
  have s3:=Nn (b:=(w.heap.size+1)) (j:=0) Z3 (.int .i64 ((k:Int)+1));have q1:=Fs (b:=⟨(w.heap.size+1),0,none⟩) Y3 (.int .i64 ((k:Int)+1))
  have kR:=Lc Z0
  clear H2 H9 FO Z0 Z1 Z2 Z3 Y0 Y1 Y2 Y3 b0 n0 m0 qc v0
  go_wp2
  exact bodyPost_ret (v:=.tuple #[.agg #[.int .i64 ((k:Int)+1),(.slice (some ⟨g,0,none⟩) rs.length cr),(.slice pv i0.length cv),(.slice pA h0.length cA)],.slice (some ⟨g0,0,none⟩) (E.length+1) f1]) (by simp [results,Tryz.results100,go_sem,x0,x1,x2,x3]) rfl (by rw [p0.out,o0.out];exact ⟨_,rfl,FR.out.1,by have h:=FR.out.2.1;simpa [List.append_assoc] using h,fun q hq=>⟨(j0.out q hq).2.1,by rcases (j0.out q hq).2.2 with h | h;exact h.elim (fun h=>absurd h (j0.out q hq).2.1) Or.inl;exact Or.inr h⟩,FR.out.2.2⟩)
 ·obtain ⟨⟨p1,p2⟩,⟨p3,p4⟩,⟨p5,p6⟩,p7,p8⟩:=P7 rfl
  clear P1 P2 P3 P4 P5 P6 P7 P8 P9 r1 u1
  obtain ⟨na,rfl⟩:∃ n:Nat,a=n:=⟨a.toNat,by omega⟩
  obtain ⟨nb,rfl⟩:∃ n:Nat,i2=n:=⟨i2.toNat,by omega⟩
  obtain ⟨nc,rfl⟩:∃ n:Nat,i3=n:=⟨i3.toNat,by omega⟩
  obtain ⟨nd,rfl⟩:∃ n:Nat,d=n:=⟨d.toNat,by omega⟩
  have yR:=H.own.regAt na (by omega);have b2:=H.own.r.frozenAt na;have v3:=Lc yR;have h3:(na:Int) < (rs.length:Int):=by omega
  have yB:=H.own.regAt nb (by omega);have q5:=H.own.r.frozenAt nb;have z5:=Lc yB;have n5:(nb:Int) < (rs.length:Int):=by omega
  have yC:=H.own.regAt nc (by omega);have y3:=H.own.r.frozenAt nc;have f5:=Lc yC;have x4:(nc:Int) < (rs.length:Int):=by omega
  have yD:=H.own.regAt nd (by omega);have z3:=H.own.r.frozenAt nd;have g5:=Lc yD;have y4:(nd:Int) < (rs.length:Int):=by omega
  by_cases hz:gi rs nb=0
  ·skip
   have p0:Hid (T=⟨(k:Int)+1,rs.set na (gi rs nd),⟨i0,h0⟩⟩):=Lib.hid (by rw [← HT.out];simp [stp,stPc,stRegs,stMem,hz])
   have o0:Hid (EE=[((5:Int),(k:Int))]):=Lib.hid (by rw [← HE.out];simp [stEvs])
   clear HT HE
   rw [hz] at yB
   have H2:=H.reg na (gi rs nd)
   generalize gi rs nd=z at *
   clear hz H
   go_upto_region 28 with (fail)
   replace Y0:=Fs (b:=⟨g,na,none⟩) Y0 (.int .i64 z);replace Z0:=Nn (b:=g) (j:=na) Z0 (.int .i64 z)
   replace Y1:=Fs (b:=⟨g,na,none⟩) Y1 (.int .i64 z);replace Z1:=Nn (b:=g) (j:=na) Z1 (.int .i64 z)
   replace Y2:=Fs (b:=⟨g,na,none⟩) Y2 (.int .i64 z);replace Z2:=Nn (b:=g) (j:=na) Z2 (.int .i64 z)
   replace Y3:=Fs (b:=⟨g,na,none⟩) Y3 (.int .i64 z);replace Z3:=Nn (b:=g) (j:=na) Z3 (.int .i64 z)
   replace d0:=Nn (b:=g) (j:=na) d0 (.int .i64 z)
   replace d1:=Nn (b:=g) (j:=na) d1 (.int .i64 z)
   replace d2:=Nn (b:=g) (j:=na) d2 (.int .i64 z)
   replace d3:=Nn (b:=g) (j:=na) d3 (.int .i64 z)
   replace d4:=Nn (b:=g) (j:=na) d4 (.int .i64 z)
   have m0:Hid (mov ⟨7,(na:Int),(nb:Int),(nc:Int),(nd:Int)⟩ (rs.set na z) k=(k:Int)+1):=Lib.hid (by simp [mov])
   have n0:=Lib.hid (Ro H2.own.r (by first | omega | (simp;omega)))
   have qc:=H2.c0;have v0:=Lc qc
   have u0:¬g0=(w.heap.size+1+1):=g1.out _ (by omega) (by have:=Lc Z0;omega)
   go_wp2_with fail
   refine (l6Move_any (7) ((na:Int)) ((nb:Int)) ((nc:Int)) ((nd:Int)) _ (rs.set na z) k _ n0.out (by omega) (by first | omega | (simp;done) | (simp;omega))).mono ?_
   rintro e w9 ⟨rfl,b0⟩
   rw [m0.out]
   have H9:=H2.keep b0;have b1:=b0.size
   replace Y0:=Kf b0 (Lc Z0) Y0;replace Z0:=Kc b0 Z0
   replace Y1:=Kf b0 (Lc Z1) Y1;replace Z1:=Kc b0 Z1
   replace Y2:=Kf b0 (Lc Z2) Y2;replace Z2:=Kc b0 Z2
   replace Y3:=Kf b0 (Lc Z3) Y3;replace Z3:=Kc b0 Z3
   have r0:¬(w.heap.size+1+1)=(w.heap.size+1):=by omega
   have FR:=Lib.hid (H9.ret4 ((k:Int)+1) (w.heap.size+1+1) (by omega) (fun h=>by have:=i1.out _ h;omega) (fun h=>u0 (Option.some.inj h)) (.int .i64 ((k:Int)+1)) (.slice (some ⟨g,0,none⟩) rs.length cr) (.slice pv i0.length cv) (.slice pA h0.length cA))
   obtain ⟨x0,x1,x2,x3⟩:=cells4 (y:=.int .i64 ((k:Int)+1)) r0 Z0 Z1 Z2 Z3 (.int .i64 ((k:Int)+1)) (.slice (some ⟨g,0,none⟩) rs.length cr) (.slice pv i0.length cv) (.slice pA h0.length cA)
   have q0:=H9.c0;have qf:=H9.f0;have kq:=Lc q0
   have FO:=(H9.fin ((k:Int)+1)).2.1
   have t0:=FO.c0;have t1:=FO.c1;have t2:=FO.c2;have t3:=FO.c3
   have j0:=Lib.hid H9.eb
   have s0:=Nn (b:=(w.heap.size+1)) (j:=0) Z0 (.int .i64 ((k:Int)+1));have j1:=Fs (b:=⟨(w.heap.size+1),0,none⟩) Y0 (.int .i64 ((k:Int)+1))
   have s1:=Nn (b:=(w.heap.size+1)) (j:=0) Z1 (.int .i64 ((k:Int)+1));have n1:=Fs (b:=⟨(w.heap.size+1),0,none⟩) Y1 (.int .i64 ((k:Int)+1))
   have s2:=Nn (b:=(w.heap.size+1)) (j:=0) Z2 (.int .i64 ((k:Int)+1));have o1:=Fs (b:=⟨(w.heap.size+1),0,none⟩) Y2 (.int .i64 ((k:Int)+1))
   have s3:=Nn (b:=(w.heap.size+1)) (j:=0) Z3 (.int .i64 ((k:Int)+1));have q1:=Fs (b:=⟨(w.heap.size+1),0,none⟩) Y3 (.int .i64 ((k:Int)+1))
   have kR:=Lc Z0
   clear H2 H9 FO Z0 Z1 Z2 Z3 Y0 Y1 Y2 Y3 b0 n0 m0 qc v0
   go_wp2
   exact bodyPost_ret (v:=.tuple #[.agg #[.int .i64 ((k:Int)+1),(.slice (some ⟨g,0,none⟩) rs.length cr),(.slice pv i0.length cv),(.slice pA h0.length cA)],.slice (some ⟨g0,0,none⟩) (E.length+1) f1]) (by simp [results,Tryz.results100,go_sem,x0,x1,x2,x3]) rfl (by rw [p0.out,o0.out];exact ⟨_,rfl,FR.out.1,by have h:=FR.out.2.1;simpa [List.append_assoc] using h,fun q hq=>⟨(j0.out q hq).2.1,by rcases (j0.out q hq).2.2 with h | h;exact h.elim (fun h=>absurd h (j0.out q hq).2.1) Or.inl;exact Or.inr h⟩,FR.out.2.2⟩)
  skip
  have p0:Hid (T=⟨(k:Int)+1,rs.set na (gi rs nc),⟨i0,h0⟩⟩):=Lib.hid (by rw [← HT.out];simp [stp,stPc,stRegs,stMem,hz])
  have o0:Hid (EE=[((5:Int),(k:Int))]):=Lib.hid (by rw [← HE.out];simp [stEvs])
  clear HT HE
  have u3:(gi rs nb != 0)=true:=by simp [hz]
  have H2:=H.reg na (gi rs nc)
  generalize gi rs nc=z at *
  generalize gi rs nb=y at *
  clear hz H
  go_upto_region 28 with (fail)
  replace Y0:=Fs (b:=⟨g,na,none⟩) Y0 (.int .i64 z);replace Z0:=Nn (b:=g) (j:=na) Z0 (.int .i64 z)
  replace Y1:=Fs (b:=⟨g,na,none⟩) Y1 (.int .i64 z);replace Z1:=Nn (b:=g) (j:=na) Z1 (.int .i64 z)
  replace Y2:=Fs (b:=⟨g,na,none⟩) Y2 (.int .i64 z);replace Z2:=Nn (b:=g) (j:=na) Z2 (.int .i64 z)
  replace Y3:=Fs (b:=⟨g,na,none⟩) Y3 (.int .i64 z);replace Z3:=Nn (b:=g) (j:=na) Z3 (.int .i64 z)
  replace d0:=Nn (b:=g) (j:=na) d0 (.int .i64 z)
  replace d1:=Nn (b:=g) (j:=na) d1 (.int .i64 z)
  replace d2:=Nn (b:=g) (j:=na) d2 (.int .i64 z)
  replace d3:=Nn (b:=g) (j:=na) d3 (.int .i64 z)
  replace d4:=Nn (b:=g) (j:=na) d4 (.int .i64 z)
  have m0:Hid (mov ⟨7,(na:Int),(nb:Int),(nc:Int),(nd:Int)⟩ (rs.set na z) k=(k:Int)+1):=Lib.hid (by simp [mov])
  have n0:=Lib.hid (Ro H2.own.r (by first | omega | (simp;omega)))
  have qc:=H2.c0;have v0:=Lc qc
  have u0:¬g0=(w.heap.size+1+1):=g1.out _ (by omega) (by have:=Lc Z0;omega)
  go_wp2_with fail
  refine (l6Move_any (7) ((na:Int)) ((nb:Int)) ((nc:Int)) ((nd:Int)) _ (rs.set na z) k _ n0.out (by omega) (by first | omega | (simp;done) | (simp;omega))).mono ?_
  rintro e w9 ⟨rfl,b0⟩
  rw [m0.out]
  have H9:=H2.keep b0;have b1:=b0.size
  replace Y0:=Kf b0 (Lc Z0) Y0;replace Z0:=Kc b0 Z0
  replace Y1:=Kf b0 (Lc Z1) Y1;replace Z1:=Kc b0 Z1
  replace Y2:=Kf b0 (Lc Z2) Y2;replace Z2:=Kc b0 Z2
  replace Y3:=Kf b0 (Lc Z3) Y3;replace Z3:=Kc b0 Z3
  have r0:¬(w.heap.size+1+1)=(w.heap.size+1):=by omega
  have FR:=Lib.hid (H9.ret4 ((k:Int)+1) (w.heap.size+1+1) (by omega) (fun h=>by have:=i1.out _ h;omega) (fun h=>u0 (Option.some.inj h)) (.int .i64 ((k:Int)+1)) (.slice (some ⟨g,0,none⟩) rs.length cr) (.slice pv i0.length cv) (.slice pA h0.length cA))
  obtain ⟨x0,x1,x2,x3⟩:=cells4 (y:=.int .i64 ((k:Int)+1)) r0 Z0 Z1 Z2 Z3 (.int .i64 ((k:Int)+1)) (.slice (some ⟨g,0,none⟩) rs.length cr) (.slice pv i0.length cv) (.slice pA h0.length cA)
  have q0:=H9.c0;have qf:=H9.f0;have kq:=Lc q0
  have FO:=(H9.fin ((k:Int)+1)).2.1
  have t0:=FO.c0;have t1:=FO.c1;have t2:=FO.c2;have t3:=FO.c3
  have j0:=Lib.hid H9.eb
  have s0:=Nn (b:=(w.heap.size+1)) (j:=0) Z0 (.int .i64 ((k:Int)+1));have j1:=Fs (b:=⟨(w.heap.size+1),0,none⟩) Y0 (.int .i64 ((k:Int)+1))
  have s1:=Nn (b:=(w.heap.size+1)) (j:=0) Z1 (.int .i64 ((k:Int)+1));have n1:=Fs (b:=⟨(w.heap.size+1),0,none⟩) Y1 (.int .i64 ((k:Int)+1))
  have s2:=Nn (b:=(w.heap.size+1)) (j:=0) Z2 (.int .i64 ((k:Int)+1));have o1:=Fs (b:=⟨(w.heap.size+1),0,none⟩) Y2 (.int .i64 ((k:Int)+1))
  have s3:=Nn (b:=(w.heap.size+1)) (j:=0) Z3 (.int .i64 ((k:Int)+1));have q1:=Fs (b:=⟨(w.heap.size+1),0,none⟩) Y3 (.int .i64 ((k:Int)+1))
  have kR:=Lc Z0
  clear H2 H9 FO Z0 Z1 Z2 Z3 Y0 Y1 Y2 Y3 b0 n0 m0 qc v0
  go_wp2
  exact bodyPost_ret (v:=.tuple #[.agg #[.int .i64 ((k:Int)+1),(.slice (some ⟨g,0,none⟩) rs.length cr),(.slice pv i0.length cv),(.slice pA h0.length cA)],.slice (some ⟨g0,0,none⟩) (E.length+1) f1]) (by simp [results,Tryz.results100,go_sem,x0,x1,x2,x3]) rfl (by rw [p0.out,o0.out];exact ⟨_,rfl,FR.out.1,by have h:=FR.out.2.1;simpa [List.append_assoc] using h,fun q hq=>⟨(j0.out q hq).2.1,by rcases (j0.out q hq).2.2 with h | h;exact h.elim (fun h=>absurd h (j0.out q hq).2.1) Or.inl;exact Or.inr h⟩,FR.out.2.2⟩)
 ·obtain ⟨p1,p2⟩:=P8 rfl
  clear P1 P2 P3 P4 P5 P6 P7 P8 P9 r1 u1
  have p0:Hid (T=⟨a,rs,⟨i0,h0⟩⟩):=Lib.hid (by rw [← HT.out];simp [stp,stPc,stRegs,stMem])
  have o0:Hid (EE=[((5:Int),(k:Int))]):=Lib.hid (by rw [← HE.out];simp [stEvs])
  clear HT HE
  have m0:Hid (mov ⟨8,a,i2,i3,d⟩ (rs) k=a):=Lib.hid (by simp [mov])
  have n0:=Lib.hid (Ro H.own.r (by first | omega | (simp;omega)))
  have qc:=H.c0;have v0:=Lc qc
  have u0:¬g0=(w.heap.size+1+1):=g1.out _ (by omega) (by have:=Lc Z0;omega)
  go_wp2_with fail
  refine (l6Move_any (8) (a) (i2) (i3) (d) _ (rs) k _ n0.out (by omega) (by first | omega | (simp;done) | (simp;omega))).mono ?_
  rintro e w9 ⟨rfl,b0⟩
  rw [m0.out]
  have H9:=H.keep b0;have b1:=b0.size
  replace Y0:=Kf b0 (Lc Z0) Y0;replace Z0:=Kc b0 Z0
  replace Y1:=Kf b0 (Lc Z1) Y1;replace Z1:=Kc b0 Z1
  replace Y2:=Kf b0 (Lc Z2) Y2;replace Z2:=Kc b0 Z2
  replace Y3:=Kf b0 (Lc Z3) Y3;replace Z3:=Kc b0 Z3
  have r0:¬(w.heap.size+1+1)=(w.heap.size+1):=by omega
  have FR:=Lib.hid (H9.ret4 (a) (w.heap.size+1+1) (by omega) (fun h=>by have:=i1.out _ h;omega) (fun h=>u0 (Option.some.inj h)) (.int .i64 (a)) (.slice (some ⟨g,0,none⟩) rs.length cr) (.slice pv i0.length cv) (.slice pA h0.length cA))
  obtain ⟨x0,x1,x2,x3⟩:=cells4 (y:=.int .i64 (a)) r0 Z0 Z1 Z2 Z3 (.int .i64 (a)) (.slice (some ⟨g,0,none⟩) rs.length cr) (.slice pv i0.length cv) (.slice pA h0.length cA)
  have q0:=H9.c0;have qf:=H9.f0;have kq:=Lc q0
  have FO:=(H9.fin (a)).2.1
  have t0:=FO.c0;have t1:=FO.c1;have t2:=FO.c2;have t3:=FO.c3
  have j0:=Lib.hid H9.eb
  have s0:=Nn (b:=(w.heap.size+1)) (j:=0) Z0 (.int .i64 (a));have j1:=Fs (b:=⟨(w.heap.size+1),0,none⟩) Y0 (.int .i64 (a))
  have s1:=Nn (b:=(w.heap.size+1)) (j:=0) Z1 (.int .i64 (a));have n1:=Fs (b:=⟨(w.heap.size+1),0,none⟩) Y1 (.int .i64 (a))
  have s2:=Nn (b:=(w.heap.size+1)) (j:=0) Z2 (.int .i64 (a));have o1:=Fs (b:=⟨(w.heap.size+1),0,none⟩) Y2 (.int .i64 (a))
  have s3:=Nn (b:=(w.heap.size+1)) (j:=0) Z3 (.int .i64 (a));have q1:=Fs (b:=⟨(w.heap.size+1),0,none⟩) Y3 (.int .i64 (a))
  have kR:=Lc Z0
  clear H H9 FO Z0 Z1 Z2 Z3 Y0 Y1 Y2 Y3 b0 n0 m0 qc v0
  go_wp2
  exact bodyPost_ret (v:=.tuple #[.agg #[.int .i64 (a),(.slice (some ⟨g,0,none⟩) rs.length cr),(.slice pv i0.length cv),(.slice pA h0.length cA)],.slice (some ⟨g0,0,none⟩) (E.length+1) f1]) (by simp [results,Tryz.results100,go_sem,x0,x1,x2,x3]) rfl (by rw [p0.out,o0.out];exact ⟨_,rfl,FR.out.1,by have h:=FR.out.2.1;simpa [List.append_assoc] using h,fun q hq=>⟨(j0.out q hq).2.1,by rcases (j0.out q hq).2.2 with h | h;exact h.elim (fun h=>absurd h (j0.out q hq).2.1) Or.inl;exact Or.inr h⟩,FR.out.2.2⟩)
 ·obtain ⟨⟨p1,p2⟩,p3,p4⟩:=P9 rfl
  clear P1 P2 P3 P4 P5 P6 P7 P8 P9 r1 u1
  obtain ⟨na,rfl⟩:∃ n:Nat,a=n:=⟨a.toNat,by omega⟩
  by_cases hz:gi rs na=0
  ·skip
   have p0:Hid (T=⟨i2,rs,⟨i0,h0⟩⟩):=Lib.hid (by rw [← HT.out];simp [stp,stPc,stRegs,stMem,hz])
   have o0:Hid (EE=[((5:Int),(k:Int))]):=Lib.hid (by rw [← HE.out];simp [stEvs])
   clear HT HE
   have HZ:=Lib.hid hz;clear hz
   have m0:Hid (mov ⟨9,(na:Int),i2,i3,d⟩ (rs) k=i2):=Lib.hid (by simp [mov,HZ.out])
   have n0:=Lib.hid (Ro H.own.r (by first | omega | (simp;omega)))
   have qc:=H.c0;have v0:=Lc qc
   have u0:¬g0=(w.heap.size+1+1):=g1.out _ (by omega) (by have:=Lc Z0;omega)
   go_wp2_with fail
   refine (l6Move_any (9) ((na:Int)) (i2) (i3) (d) _ (rs) k _ n0.out (by omega) (by first | omega | (simp;done) | (simp;omega))).mono ?_
   rintro e w9 ⟨rfl,b0⟩
   rw [m0.out]
   have H9:=H.keep b0;have b1:=b0.size
   replace Y0:=Kf b0 (Lc Z0) Y0;replace Z0:=Kc b0 Z0
   replace Y1:=Kf b0 (Lc Z1) Y1;replace Z1:=Kc b0 Z1
   replace Y2:=Kf b0 (Lc Z2) Y2;replace Z2:=Kc b0 Z2
   replace Y3:=Kf b0 (Lc Z3) Y3;replace Z3:=Kc b0 Z3
   have r0:¬(w.heap.size+1+1)=(w.heap.size+1):=by omega
   have FR:=Lib.hid (H9.ret4 (i2) (w.heap.size+1+1) (by omega) (fun h=>by have:=i1.out _ h;omega) (fun h=>u0 (Option.some.inj h)) (.int .i64 (i2)) (.slice (some ⟨g,0,none⟩) rs.length cr) (.slice pv i0.length cv) (.slice pA h0.length cA))
   obtain ⟨x0,x1,x2,x3⟩:=cells4 (y:=.int .i64 (i2)) r0 Z0 Z1 Z2 Z3 (.int .i64 (i2)) (.slice (some ⟨g,0,none⟩) rs.length cr) (.slice pv i0.length cv) (.slice pA h0.length cA)
   have q0:=H9.c0;have qf:=H9.f0;have kq:=Lc q0
   have FO:=(H9.fin (i2)).2.1
   have t0:=FO.c0;have t1:=FO.c1;have t2:=FO.c2;have t3:=FO.c3
   have j0:=Lib.hid H9.eb
   have s0:=Nn (b:=(w.heap.size+1)) (j:=0) Z0 (.int .i64 (i2));have j1:=Fs (b:=⟨(w.heap.size+1),0,none⟩) Y0 (.int .i64 (i2))
   have s1:=Nn (b:=(w.heap.size+1)) (j:=0) Z1 (.int .i64 (i2));have n1:=Fs (b:=⟨(w.heap.size+1),0,none⟩) Y1 (.int .i64 (i2))
   have s2:=Nn (b:=(w.heap.size+1)) (j:=0) Z2 (.int .i64 (i2));have o1:=Fs (b:=⟨(w.heap.size+1),0,none⟩) Y2 (.int .i64 (i2))
   have s3:=Nn (b:=(w.heap.size+1)) (j:=0) Z3 (.int .i64 (i2));have q1:=Fs (b:=⟨(w.heap.size+1),0,none⟩) Y3 (.int .i64 (i2))
   have kR:=Lc Z0
   clear H H9 FO Z0 Z1 Z2 Z3 Y0 Y1 Y2 Y3 b0 n0 m0 qc v0
   go_wp2
   exact bodyPost_ret (v:=.tuple #[.agg #[.int .i64 (i2),(.slice (some ⟨g,0,none⟩) rs.length cr),(.slice pv i0.length cv),(.slice pA h0.length cA)],.slice (some ⟨g0,0,none⟩) (E.length+1) f1]) (by simp [results,Tryz.results100,go_sem,x0,x1,x2,x3]) rfl (by rw [p0.out,o0.out];exact ⟨_,rfl,FR.out.1,by have h:=FR.out.2.1;simpa [List.append_assoc] using h,fun q hq=>⟨(j0.out q hq).2.1,by rcases (j0.out q hq).2.2 with h | h;exact h.elim (fun h=>absurd h (j0.out q hq).2.1) Or.inl;exact Or.inr h⟩,FR.out.2.2⟩)
  skip
  have p0:Hid (T=⟨(k:Int)+1,rs,⟨i0,h0⟩⟩):=Lib.hid (by rw [← HT.out];simp [stp,stPc,stRegs,stMem,hz])
  have o0:Hid (EE=[((5:Int),(k:Int))]):=Lib.hid (by rw [← HE.out];simp [stEvs])
  clear HT HE
  have HZ:=Lib.hid hz;clear hz
  have m0:Hid (mov ⟨9,(na:Int),i2,i3,d⟩ (rs) k=(k:Int)+1):=Lib.hid (by simp [mov,HZ.out])
  have n0:=Lib.hid (Ro H.own.r (by first | omega | (simp;omega)))
  have qc:=H.c0;have v0:=Lc qc
  have u0:¬g0=(w.heap.size+1+1):=g1.out _ (by omega) (by have:=Lc Z0;omega)
  go_wp2_with fail
  refine (l6Move_any (9) ((na:Int)) (i2) (i3) (d) _ (rs) k _ n0.out (by omega) (by first | omega | (simp;done) | (simp;omega))).mono ?_
  rintro e w9 ⟨rfl,b0⟩
  rw [m0.out]
  have H9:=H.keep b0;have b1:=b0.size
  replace Y0:=Kf b0 (Lc Z0) Y0;replace Z0:=Kc b0 Z0
  replace Y1:=Kf b0 (Lc Z1) Y1;replace Z1:=Kc b0 Z1
  replace Y2:=Kf b0 (Lc Z2) Y2;replace Z2:=Kc b0 Z2
  replace Y3:=Kf b0 (Lc Z3) Y3;replace Z3:=Kc b0 Z3
  have r0:¬(w.heap.size+1+1)=(w.heap.size+1):=by omega
  have FR:=Lib.hid (H9.ret4 ((k:Int)+1) (w.heap.size+1+1) (by omega) (fun h=>by have:=i1.out _ h;omega) (fun h=>u0 (Option.some.inj h)) (.int .i64 ((k:Int)+1)) (.slice (some ⟨g,0,none⟩) rs.length cr) (.slice pv i0.length cv) (.slice pA h0.length cA))
  obtain ⟨x0,x1,x2,x3⟩:=cells4 (y:=.int .i64 ((k:Int)+1)) r0 Z0 Z1 Z2 Z3 (.int .i64 ((k:Int)+1)) (.slice (some ⟨g,0,none⟩) rs.length cr) (.slice pv i0.length cv) (.slice pA h0.length cA)
  have q0:=H9.c0;have qf:=H9.f0;have kq:=Lc q0
  have FO:=(H9.fin ((k:Int)+1)).2.1
  have t0:=FO.c0;have t1:=FO.c1;have t2:=FO.c2;have t3:=FO.c3
  have j0:=Lib.hid H9.eb
  have s0:=Nn (b:=(w.heap.size+1)) (j:=0) Z0 (.int .i64 ((k:Int)+1));have j1:=Fs (b:=⟨(w.heap.size+1),0,none⟩) Y0 (.int .i64 ((k:Int)+1))
  have s1:=Nn (b:=(w.heap.size+1)) (j:=0) Z1 (.int .i64 ((k:Int)+1));have n1:=Fs (b:=⟨(w.heap.size+1),0,none⟩) Y1 (.int .i64 ((k:Int)+1))
  have s2:=Nn (b:=(w.heap.size+1)) (j:=0) Z2 (.int .i64 ((k:Int)+1));have o1:=Fs (b:=⟨(w.heap.size+1),0,none⟩) Y2 (.int .i64 ((k:Int)+1))
  have s3:=Nn (b:=(w.heap.size+1)) (j:=0) Z3 (.int .i64 ((k:Int)+1));have q1:=Fs (b:=⟨(w.heap.size+1),0,none⟩) Y3 (.int .i64 ((k:Int)+1))
  have kR:=Lc Z0
  clear H H9 FO Z0 Z1 Z2 Z3 Y0 Y1 Y2 Y3 b0 n0 m0 qc v0
  go_wp2
  exact bodyPost_ret (v:=.tuple #[.agg #[.int .i64 ((k:Int)+1),(.slice (some ⟨g,0,none⟩) rs.length cr),(.slice pv i0.length cv),(.slice pA h0.length cA)],.slice (some ⟨g0,0,none⟩) (E.length+1) f1]) (by simp [results,Tryz.results100,go_sem,x0,x1,x2,x3]) rfl (by rw [p0.out,o0.out];exact ⟨_,rfl,FR.out.1,by have h:=FR.out.2.1;simpa [List.append_assoc] using h,fun q hq=>⟨(j0.out q hq).2.1,by rcases (j0.out q hq).2.2 with h | h;exact h.elim (fun h=>absurd h (j0.out q hq).2.1) Or.inl;exact Or.inr h⟩,FR.out.2.2⟩)
 ·obtain ⟨⟨p1,p2⟩,p3,p4⟩:=r1 rfl
  clear P1 P2 P3 P4 P5 P6 P7 P8 P9 r1 u1
  obtain ⟨na,rfl⟩:∃ n:Nat,a=n:=⟨a.toNat,by omega⟩
  have yR:=H.own.regAt na (by omega);have b2:=H.own.r.frozenAt na;have v3:=Lc yR;have h3:(na:Int) < (rs.length:Int):=by omega
  have u5:=g3.out (na:Int)
  have a3:=Lib.hid (gi_set rs na (by omega) ((gi rs na+255) % 256))
  by_cases hz:(gi rs na+255) % 256=0
  ·skip
   have p0:Hid (T=⟨(k:Int)+1,rs.set na ((gi rs na+255) % 256),⟨i0,h0⟩⟩):=Lib.hid (by rw [← HT.out];simp [stp,stPc,stRegs,stMem,hz])
   have o0:Hid (EE=[((5:Int),(k:Int))]):=Lib.hid (by rw [← HE.out];simp [stEvs])
   clear HT HE
   have HZ:=Lib.hid hz;clear hz
   have H2:=(H.reg na ((gi rs na+255) % 256)).drew
   have o2:=a3.out
   generalize gi rs na=y at *
   have f3:=Lib.hid o2;clear o2 a3
   go_upto_region 25 with (fail)
   go_region
   clear H
   go_upto_region 28 with (fail)
   replace Y0:=Fs (b:=⟨g,na,none⟩) Y0 (.int .i64 ((y+255) % 256));replace Z0:=Nn (b:=g) (j:=na) Z0 (.int .i64 ((y+255) % 256))
   replace Y1:=Fs (b:=⟨g,na,none⟩) Y1 (.int .i64 ((y+255) % 256));replace Z1:=Nn (b:=g) (j:=na) Z1 (.int .i64 ((y+255) % 256))
   replace Y2:=Fs (b:=⟨g,na,none⟩) Y2 (.int .i64 ((y+255) % 256));replace Z2:=Nn (b:=g) (j:=na) Z2 (.int .i64 ((y+255) % 256))
   replace Y3:=Fs (b:=⟨g,na,none⟩) Y3 (.int .i64 ((y+255) % 256));replace Z3:=Nn (b:=g) (j:=na) Z3 (.int .i64 ((y+255) % 256))
   replace d0:=Nn (b:=g) (j:=na) d0 (.int .i64 ((y+255) % 256))
   replace d1:=Nn (b:=g) (j:=na) d1 (.int .i64 ((y+255) % 256))
   replace d2:=Nn (b:=g) (j:=na) d2 (.int .i64 ((y+255) % 256))
   replace d3:=Nn (b:=g) (j:=na) d3 (.int .i64 ((y+255) % 256))
   replace d4:=Nn (b:=g) (j:=na) d4 (.int .i64 ((y+255) % 256))
   have HB:=Below.drew (Bs (World.setCell w5 ⟨g,na,none⟩ (.int .i64 ((y+255) % 256))))
   replace Y0:=Kf HB (Lc Z0) Y0;replace Z0:=Kc HB Z0
   replace Y1:=Kf HB (Lc Z1) Y1;replace Z1:=Kc HB Z1
   replace Y2:=Kf HB (Lc Z2) Y2;replace Z2:=Kc HB Z2
   replace Y3:=Kf HB (Lc Z3) Y3;replace Z3:=Kc HB Z3
   replace d0:=Kc HB d0
   replace d1:=Kc HB d1
   replace d2:=Kc HB d2
   replace d3:=Kc HB d3
   replace d4:=Kc HB d4
   have z2:=HB.size
   obtain ⟨w8,y2⟩:∃ X,X=World.drew (World.setCell w5 ⟨g,na,none⟩ (.int .i64 ((y+255) % 256))):=⟨_,rfl⟩
   rw [← y2] at H2 z2 d0 d1 d2 d3 d4 Z0 Z1 Z2 Z3 Y0 Y1 Y2 Y3 ⊢
   simp only [Ss] at z2
   clear y2 HB yR b2
   generalize b1:(y+255) % 256=z at *
   clear b1
   have m0:Hid (mov ⟨10,(na:Int),i2,i3,d⟩ (rs.set na z) k=(k:Int)+1):=Lib.hid (by unfold mov;simp only;rw [f3.out];simp [HZ.out])
   have n0:=Lib.hid (Ro H2.own.r (by first | omega | (simp;omega)))
   have qc:=H2.c0;have v0:=Lc qc
   have u0:¬g0=(w.heap.size+1+1):=g1.out _ (by omega) (by have:=Lc Z0;omega)
   go_wp2_with fail
   refine (l6Move_any (10) ((na:Int)) (i2) (i3) (d) _ (rs.set na z) k _ n0.out (by omega) (by first | omega | (simp;done) | (simp;omega))).mono ?_
   rintro e w9 ⟨rfl,b0⟩
   rw [m0.out]
   have H9:=H2.keep b0;have b1:=b0.size
   replace Y0:=Kf b0 (Lc Z0) Y0;replace Z0:=Kc b0 Z0
   replace Y1:=Kf b0 (Lc Z1) Y1;replace Z1:=Kc b0 Z1
   replace Y2:=Kf b0 (Lc Z2) Y2;replace Z2:=Kc b0 Z2
   replace Y3:=Kf b0 (Lc Z3) Y3;replace Z3:=Kc b0 Z3
   have r0:¬(w.heap.size+1+1)=(w.heap.size+1):=by omega
   have FR:=Lib.hid (H9.ret4 ((k:Int)+1) (w.heap.size+1+1) (by omega) (fun h=>by have:=i1.out _ h;omega) (fun h=>u0 (Option.some.inj h)) (.int .i64 ((k:Int)+1)) (.slice (some ⟨g,0,none⟩) rs.length cr) (.slice pv i0.length cv) (.slice pA h0.length cA))
   obtain ⟨x0,x1,x2,x3⟩:=cells4 (y:=.int .i64 ((k:Int)+1)) r0 Z0 Z1 Z2 Z3 (.int .i64 ((k:Int)+1)) (.slice (some ⟨g,0,none⟩) rs.length cr) (.slice pv i0.length cv) (.slice pA h0.length cA)
   have q0:=H9.c0;have qf:=H9.f0;have kq:=Lc q0
   have FO:=(H9.fin ((k:Int)+1)).2.1
   have t0:=FO.c0;have t1:=FO.c1;have t2:=FO.c2;have t3:=FO.c3
   have j0:=Lib.hid H9.eb
   have s0:=Nn (b:=(w.heap.size+1)) (j:=0) Z0 (.int .i64 ((k:Int)+1));have j1:=Fs (b:=⟨(w.heap.size+1),0,none⟩) Y0 (.int .i64 ((k:Int)+1))
   have s1:=Nn (b:=(w.heap.size+1)) (j:=0) Z1 (.int .i64 ((k:Int)+1));have n1:=Fs (b:=⟨(w.heap.size+1),0,none⟩) Y1 (.int .i64 ((k:Int)+1))
   have s2:=Nn (b:=(w.heap.size+1)) (j:=0) Z2 (.int .i64 ((k:Int)+1));have o1:=Fs (b:=⟨(w.heap.size+1),0,none⟩) Y2 (.int .i64 ((k:Int)+1))
   have s3:=Nn (b:=(w.heap.size+1)) (j:=0) Z3 (.int .i64 ((k:Int)+1));have q1:=Fs (b:=⟨(w.heap.size+1),0,none⟩) Y3 (.int .i64 ((k:Int)+1))
   have kR:=Lc Z0
   clear H2 H9 FO Z0 Z1 Z2 Z3 Y0 Y1 Y2 Y3 b0 n0 m0 qc v0
   go_wp2
   exact bodyPost_ret (v:=.tuple #[.agg #[.int .i64 ((k:Int)+1),(.slice (some ⟨g,0,none⟩) rs.length cr),(.slice pv i0.length cv),(.slice pA h0.length cA)],.slice (some ⟨g0,0,none⟩) (E.length+1) f1]) (by simp [results,Tryz.results100,go_sem,x0,x1,x2,x3]) rfl (by rw [p0.out,o0.out];exact ⟨_,rfl,FR.out.1,by have h:=FR.out.2.1;simpa [List.append_assoc] using h,fun q hq=>⟨(j0.out q hq).2.1,by rcases (j0.out q hq).2.2 with h | h;exact h.elim (fun h=>absurd h (j0.out q hq).2.1) Or.inl;exact Or.inr h⟩,FR.out.2.2⟩)
  skip
  have p0:Hid (T=⟨i2,rs.set na ((gi rs na+255) % 256),⟨i0,h0⟩⟩):=Lib.hid (by rw [← HT.out];simp [stp,stPc,stRegs,stMem,hz])
  have o0:Hid (EE=[((5:Int),(k:Int))]):=Lib.hid (by rw [← HE.out];simp [stEvs])
  clear HT HE
  have HZ:=Lib.hid hz;clear hz
  have H2:=(H.reg na ((gi rs na+255) % 256)).drew
  have o2:=a3.out
  generalize gi rs na=y at *
  have f3:=Lib.hid o2;clear o2 a3
  go_upto_region 25 with (fail)
  go_region
  clear H
  go_upto_region 28 with (fail)
  replace Y0:=Fs (b:=⟨g,na,none⟩) Y0 (.int .i64 ((y+255) % 256));replace Z0:=Nn (b:=g) (j:=na) Z0 (.int .i64 ((y+255) % 256))
  replace Y1:=Fs (b:=⟨g,na,none⟩) Y1 (.int .i64 ((y+255) % 256));replace Z1:=Nn (b:=g) (j:=na) Z1 (.int .i64 ((y+255) % 256))
  replace Y2:=Fs (b:=⟨g,na,none⟩) Y2 (.int .i64 ((y+255) % 256));replace Z2:=Nn (b:=g) (j:=na) Z2 (.int .i64 ((y+255) % 256))
  replace Y3:=Fs (b:=⟨g,na,none⟩) Y3 (.int .i64 ((y+255) % 256));replace Z3:=Nn (b:=g) (j:=na) Z3 (.int .i64 ((y+255) % 256))
  replace d0:=Nn (b:=g) (j:=na) d0 (.int .i64 ((y+255) % 256))
  replace d1:=Nn (b:=g) (j:=na) d1 (.int .i64 ((y+255) % 256))
  replace d2:=Nn (b:=g) (j:=na) d2 (.int .i64 ((y+255) % 256))
  replace d3:=Nn (b:=g) (j:=na) d3 (.int .i64 ((y+255) % 256))
  replace d4:=Nn (b:=g) (j:=na) d4 (.int .i64 ((y+255) % 256))
  have HB:=Below.drew (Bs (World.setCell w5 ⟨g,na,none⟩ (.int .i64 ((y+255) % 256))))
  replace Y0:=Kf HB (Lc Z0) Y0;replace Z0:=Kc HB Z0
  replace Y1:=Kf HB (Lc Z1) Y1;replace Z1:=Kc HB Z1
  replace Y2:=Kf HB (Lc Z2) Y2;replace Z2:=Kc HB Z2
  replace Y3:=Kf HB (Lc Z3) Y3;replace Z3:=Kc HB Z3
  replace d0:=Kc HB d0
  replace d1:=Kc HB d1
  replace d2:=Kc HB d2
  replace d3:=Kc HB d3
  replace d4:=Kc HB d4
  have z2:=HB.size
  obtain ⟨w8,y2⟩:∃ X,X=World.drew (World.setCell w5 ⟨g,na,none⟩ (.int .i64 ((y+255) % 256))):=⟨_,rfl⟩
  rw [← y2] at H2 z2 d0 d1 d2 d3 d4 Z0 Z1 Z2 Z3 Y0 Y1 Y2 Y3 ⊢
  simp only [Ss] at z2
  clear y2 HB yR b2
  generalize b1:(y+255) % 256=z at *
  clear b1
  have m0:Hid (mov ⟨10,(na:Int),i2,i3,d⟩ (rs.set na z) k=i2):=Lib.hid (by unfold mov;simp only;rw [f3.out];simp [HZ.out])
  have n0:=Lib.hid (Ro H2.own.r (by first | omega | (simp;omega)))
  have qc:=H2.c0;have v0:=Lc qc
  have u0:¬g0=(w.heap.size+1+1):=g1.out _ (by omega) (by have:=Lc Z0;omega)
  go_wp2_with fail
  refine (l6Move_any (10) ((na:Int)) (i2) (i3) (d) _ (rs.set na z) k _ n0.out (by omega) (by first | omega | (simp;done) | (simp;omega))).mono ?_
  rintro e w9 ⟨rfl,b0⟩
  rw [m0.out]
  have H9:=H2.keep b0;have b1:=b0.size
  replace Y0:=Kf b0 (Lc Z0) Y0;replace Z0:=Kc b0 Z0
  replace Y1:=Kf b0 (Lc Z1) Y1;replace Z1:=Kc b0 Z1
  replace Y2:=Kf b0 (Lc Z2) Y2;replace Z2:=Kc b0 Z2
  replace Y3:=Kf b0 (Lc Z3) Y3;replace Z3:=Kc b0 Z3
  have r0:¬(w.heap.size+1+1)=(w.heap.size+1):=by omega
  have FR:=Lib.hid (H9.ret4 (i2) (w.heap.size+1+1) (by omega) (fun h=>by have:=i1.out _ h;omega) (fun h=>u0 (Option.some.inj h)) (.int .i64 (i2)) (.slice (some ⟨g,0,none⟩) rs.length cr) (.slice pv i0.length cv) (.slice pA h0.length cA))
  obtain ⟨x0,x1,x2,x3⟩:=cells4 (y:=.int .i64 (i2)) r0 Z0 Z1 Z2 Z3 (.int .i64 (i2)) (.slice (some ⟨g,0,none⟩) rs.length cr) (.slice pv i0.length cv) (.slice pA h0.length cA)
  have q0:=H9.c0;have qf:=H9.f0;have kq:=Lc q0
  have FO:=(H9.fin (i2)).2.1
  have t0:=FO.c0;have t1:=FO.c1;have t2:=FO.c2;have t3:=FO.c3
  have j0:=Lib.hid H9.eb
  have s0:=Nn (b:=(w.heap.size+1)) (j:=0) Z0 (.int .i64 (i2));have j1:=Fs (b:=⟨(w.heap.size+1),0,none⟩) Y0 (.int .i64 (i2))
  have s1:=Nn (b:=(w.heap.size+1)) (j:=0) Z1 (.int .i64 (i2));have n1:=Fs (b:=⟨(w.heap.size+1),0,none⟩) Y1 (.int .i64 (i2))
  have s2:=Nn (b:=(w.heap.size+1)) (j:=0) Z2 (.int .i64 (i2));have o1:=Fs (b:=⟨(w.heap.size+1),0,none⟩) Y2 (.int .i64 (i2))
  have s3:=Nn (b:=(w.heap.size+1)) (j:=0) Z3 (.int .i64 (i2));have q1:=Fs (b:=⟨(w.heap.size+1),0,none⟩) Y3 (.int .i64 (i2))
  have kR:=Lc Z0
  clear H2 H9 FO Z0 Z1 Z2 Z3 Y0 Y1 Y2 Y3 b0 n0 m0 qc v0
  go_wp2
  exact bodyPost_ret (v:=.tuple #[.agg #[.int .i64 (i2),(.slice (some ⟨g,0,none⟩) rs.length cr),(.slice pv i0.length cv),(.slice pA h0.length cA)],.slice (some ⟨g0,0,none⟩) (E.length+1) f1]) (by simp [results,Tryz.results100,go_sem,x0,x1,x2,x3]) rfl (by rw [p0.out,o0.out];exact ⟨_,rfl,FR.out.1,by have h:=FR.out.2.1;simpa [List.append_assoc] using h,fun q hq=>⟨(j0.out q hq).2.1,by rcases (j0.out q hq).2.2 with h | h;exact h.elim (fun h=>absurd h (j0.out q hq).2.1) Or.inl;exact Or.inr h⟩,FR.out.2.2⟩)
 ·obtain ⟨p1,p2⟩:=u1 rfl
  clear P1 P2 P3 P4 P5 P6 P7 P8 P9 r1 u1
  obtain ⟨na,rfl⟩:∃ n:Nat,a=n:=⟨a.toNat,by omega⟩
  have p0:Hid (T=⟨(k:Int)+1,rs,⟨i0,h0⟩⟩):=Lib.hid (by rw [← HT.out];simp [stp,stPc,stRegs,stMem])
  have o0:Hid (EE=[((5:Int),(k:Int)),(4,gi rs na)]):=Lib.hid (by rw [← HE.out];simp [stEvs])
  clear HT HE
  have yR:=H.own.regAt na (by omega);have b2:=H.own.r.frozenAt na;have v3:=Lc yR;have h3:(na:Int) < (rs.length:Int):=by omega
  generalize gi rs na=z at *
  go_wp2_with (at_builtin;refine wpList_ap tEvs rfl _ _ rfl tb _ (E++[((5:Int),(k:Int))]).length _ rfl H.ev [.int .i64 4,.int .i64 (z)] rfl rfl (one_ev _ _) (by have:=g2.out;omega) (by have:=H.chg.size;omega) ?_)
  intro ge ce w7 oe l0 f2
  have n4:w7.ownsRow tb 38 2 (.slice (some ⟨ge,0,none⟩) (E.length+1+1) ce) ((E++[((5:Int),(k:Int))]).length+1) (evs (E++[((5:Int),(k:Int))])++[.int .i64 4,.int .i64 (z)]):=by rw [g2.out];exact oe
  have H7:=H.event (e:=(4,z)) n4 l0 (fun q hq=>by have e3:ge=q:=Option.some.inj hq;subst e3;exact f2)
  have z0:=Lib.hid (fun q (h1:w.heap.size≤q) (h2:q < w2.heap.size) (e:(Value.slice (some ⟨g0,0,none⟩) (E.length+1) f1).ownBlock=some q)=>show False from g1.out q h1 h2 (Option.some.inj e))
  have s4:=Lib.hid (fun q (h:OwnMB (.slice (some ⟨g,0,none⟩) rs.length cr) (.slice pv i0.length cv) (.slice pA h0.length cA) us q) (e:(Value.slice (some ⟨g0,0,none⟩) (E.length+1) f1).ownBlock=some q)=>show False from (H.eb q e).2.1 h)
  have n2:∀ q,w.heap.size≤q→q < w2.heap.size→¬ge=q:=fun q h1 h2 e=>by
   rcases f2 with h | h
   ·exact z0.out q h1 h2 (e ▸ h)
   omega
  have q4:=Lib.hid n2;clear n2
  replace d0:=Gc l0 d0 (z0.out _ (by omega) (by omega))
  replace d1:=Gc l0 d1 (z0.out _ (by omega) (by omega))
  replace d2:=Gc l0 d2 (z0.out _ (by omega) (by omega))
  replace d3:=Gc l0 d3 (z0.out _ (by omega) (by omega))
  replace d4:=Gc l0 d4 (z0.out _ (by omega) (by omega))
  replace Y0:=Gf l0 (Lc Z0) Y0 (z0.out _ (by omega) (by omega));replace Z0:=Gc l0 Z0 (z0.out _ (by omega) (by omega))
  replace Y1:=Gf l0 (Lc Z1) Y1 (z0.out _ (by omega) (by omega));replace Z1:=Gc l0 Z1 (z0.out _ (by omega) (by omega))
  replace Y2:=Gf l0 (Lc Z2) Y2 (z0.out _ (by omega) (by omega));replace Z2:=Gc l0 Z2 (z0.out _ (by omega) (by omega))
  replace Y3:=Gf l0 (Lc Z3) Y3 (z0.out _ (by omega) (by omega));replace Z3:=Gc l0 Z3 (z0.out _ (by omega) (by omega))
  have d5:=l0.size
  clear H l0 f2 oe n4
  clear yR b2 z0 s4
  have m0:Hid (mov ⟨11,(na:Int),i2,i3,d⟩ (rs) k=(k:Int)+1):=Lib.hid (by simp [mov])
  have n0:=Lib.hid (Ro H7.own.r (by first | omega | (simp;omega)))
  have qc:=H7.c0;have v0:=Lc qc
  have u0:¬ge=(w.heap.size+1+1):=q4.out _ (by omega) (by have:=Lc Z0;omega)
  go_wp2_with fail
  refine (l6Move_any (11) ((na:Int)) (i2) (i3) (d) _ (rs) k _ n0.out (by omega) (by first | omega | (simp;done) | (simp;omega))).mono ?_
  rintro e w9 ⟨rfl,b0⟩
  rw [m0.out]
  have H9:=H7.keep b0;have b1:=b0.size
  replace Y0:=Kf b0 (Lc Z0) Y0;replace Z0:=Kc b0 Z0
  replace Y1:=Kf b0 (Lc Z1) Y1;replace Z1:=Kc b0 Z1
  replace Y2:=Kf b0 (Lc Z2) Y2;replace Z2:=Kc b0 Z2
  replace Y3:=Kf b0 (Lc Z3) Y3;replace Z3:=Kc b0 Z3
  have r0:¬(w.heap.size+1+1)=(w.heap.size+1):=by omega
  have FR:=Lib.hid (H9.ret4 ((k:Int)+1) (w.heap.size+1+1) (by omega) (fun h=>by have:=i1.out _ h;omega) (fun h=>u0 (Option.some.inj h)) (.int .i64 ((k:Int)+1)) (.slice (some ⟨g,0,none⟩) rs.length cr) (.slice pv i0.length cv) (.slice pA h0.length cA))
  obtain ⟨x0,x1,x2,x3⟩:=cells4 (y:=.int .i64 ((k:Int)+1)) r0 Z0 Z1 Z2 Z3 (.int .i64 ((k:Int)+1)) (.slice (some ⟨g,0,none⟩) rs.length cr) (.slice pv i0.length cv) (.slice pA h0.length cA)
  have q0:=H9.c0;have qf:=H9.f0;have kq:=Lc q0
  have FO:=(H9.fin ((k:Int)+1)).2.1
  have t0:=FO.c0;have t1:=FO.c1;have t2:=FO.c2;have t3:=FO.c3
  have j0:=Lib.hid H9.eb
  have s0:=Nn (b:=(w.heap.size+1)) (j:=0) Z0 (.int .i64 ((k:Int)+1));have j1:=Fs (b:=⟨(w.heap.size+1),0,none⟩) Y0 (.int .i64 ((k:Int)+1))
  have s1:=Nn (b:=(w.heap.size+1)) (j:=0) Z1 (.int .i64 ((k:Int)+1));have n1:=Fs (b:=⟨(w.heap.size+1),0,none⟩) Y1 (.int .i64 ((k:Int)+1))
  have s2:=Nn (b:=(w.heap.size+1)) (j:=0) Z2 (.int .i64 ((k:Int)+1));have o1:=Fs (b:=⟨(w.heap.size+1),0,none⟩) Y2 (.int .i64 ((k:Int)+1))
  have s3:=Nn (b:=(w.heap.size+1)) (j:=0) Z3 (.int .i64 ((k:Int)+1));have q1:=Fs (b:=⟨(w.heap.size+1),0,none⟩) Y3 (.int .i64 ((k:Int)+1))
  have kR:=Lc Z0
  clear H7 H9 FO Z0 Z1 Z2 Z3 Y0 Y1 Y2 Y3 b0 n0 m0 qc v0
  go_wp2
  exact bodyPost_ret (v:=.tuple #[.agg #[.int .i64 ((k:Int)+1),(.slice (some ⟨g,0,none⟩) rs.length cr),(.slice pv i0.length cv),(.slice pA h0.length cA)],.slice (some ⟨ge,0,none⟩) (E.length+1+1) ce]) (by simp [results,Tryz.results100,go_sem,x0,x1,x2,x3]) rfl (by rw [p0.out,o0.out];exact ⟨_,rfl,FR.out.1,by have h:=FR.out.2.1;simpa [List.append_assoc] using h,fun q hq=>⟨(j0.out q hq).2.1,by rcases (j0.out q hq).2.2 with h | h;exact h.elim (fun h=>absurd h (j0.out q hq).2.1) Or.inl;exact Or.inr h⟩,FR.out.2.2⟩)
 ·clear P1 P2 P3 P4 P5 P6 P7 P8 P9 r1 u1
  have p0:Hid (T=⟨(k:Int)+1,rs,⟨i0,h0⟩⟩):=Lib.hid (by rw [← HT.out];simp [stp,stPc,stRegs,stMem])
  have o0:Hid (EE=[((5:Int),(k:Int))]):=Lib.hid (by rw [← HE.out];simp [stEvs])
  clear HT HE
  have m0:Hid (mov ⟨12,a,i2,i3,d⟩ (rs) k=(k:Int)+1):=Lib.hid (by simp [mov])
  have n0:=Lib.hid (Ro H.own.r (by first | omega | (simp;omega)))
  have qc:=H.c0;have v0:=Lc qc
  have u0:¬g0=(w.heap.size+1+1):=g1.out _ (by omega) (by have:=Lc Z0;omega)
  go_wp2_with fail
  refine (l6Move_any (12) (a) (i2) (i3) (d) _ (rs) k _ n0.out (by omega) (by first | omega | (simp;done) | (simp;omega))).mono ?_
  rintro e w9 ⟨rfl,b0⟩
  rw [m0.out]
  have H9:=H.keep b0;have b1:=b0.size
  replace Y0:=Kf b0 (Lc Z0) Y0;replace Z0:=Kc b0 Z0
  replace Y1:=Kf b0 (Lc Z1) Y1;replace Z1:=Kc b0 Z1
  replace Y2:=Kf b0 (Lc Z2) Y2;replace Z2:=Kc b0 Z2
  replace Y3:=Kf b0 (Lc Z3) Y3;replace Z3:=Kc b0 Z3
  have r0:¬(w.heap.size+1+1)=(w.heap.size+1):=by omega
  have FR:=Lib.hid (H9.ret4 ((k:Int)+1) (w.heap.size+1+1) (by omega) (fun h=>by have:=i1.out _ h;omega) (fun h=>u0 (Option.some.inj h)) (.int .i64 ((k:Int)+1)) (.slice (some ⟨g,0,none⟩) rs.length cr) (.slice pv i0.length cv) (.slice pA h0.length cA))
  obtain ⟨x0,x1,x2,x3⟩:=cells4 (y:=.int .i64 ((k:Int)+1)) r0 Z0 Z1 Z2 Z3 (.int .i64 ((k:Int)+1)) (.slice (some ⟨g,0,none⟩) rs.length cr) (.slice pv i0.length cv) (.slice pA h0.length cA)
  have q0:=H9.c0;have qf:=H9.f0;have kq:=Lc q0
  have FO:=(H9.fin ((k:Int)+1)).2.1
  have t0:=FO.c0;have t1:=FO.c1;have t2:=FO.c2;have t3:=FO.c3
  have j0:=Lib.hid H9.eb
  have s0:=Nn (b:=(w.heap.size+1)) (j:=0) Z0 (.int .i64 ((k:Int)+1));have j1:=Fs (b:=⟨(w.heap.size+1),0,none⟩) Y0 (.int .i64 ((k:Int)+1))
  have s1:=Nn (b:=(w.heap.size+1)) (j:=0) Z1 (.int .i64 ((k:Int)+1));have n1:=Fs (b:=⟨(w.heap.size+1),0,none⟩) Y1 (.int .i64 ((k:Int)+1))
  have s2:=Nn (b:=(w.heap.size+1)) (j:=0) Z2 (.int .i64 ((k:Int)+1));have o1:=Fs (b:=⟨(w.heap.size+1),0,none⟩) Y2 (.int .i64 ((k:Int)+1))
  have s3:=Nn (b:=(w.heap.size+1)) (j:=0) Z3 (.int .i64 ((k:Int)+1));have q1:=Fs (b:=⟨(w.heap.size+1),0,none⟩) Y3 (.int .i64 ((k:Int)+1))
  have kR:=Lc Z0
  clear H H9 FO Z0 Z1 Z2 Z3 Y0 Y1 Y2 Y3 b0 n0 m0 qc v0
  go_wp2
  exact bodyPost_ret (v:=.tuple #[.agg #[.int .i64 ((k:Int)+1),(.slice (some ⟨g,0,none⟩) rs.length cr),(.slice pv i0.length cv),(.slice pA h0.length cA)],.slice (some ⟨g0,0,none⟩) (E.length+1) f1]) (by simp [results,Tryz.results100,go_sem,x0,x1,x2,x3]) rfl (by rw [p0.out,o0.out];exact ⟨_,rfl,FR.out.1,by have h:=FR.out.2.1;simpa [List.append_assoc] using h,fun q hq=>⟨(j0.out q hq).2.1,by rcases (j0.out q hq).2.2 with h | h;exact h.elim (fun h=>absurd h (j0.out q hq).2.1) Or.inl;exact Or.inr h⟩,FR.out.2.2⟩)
 clear P1 P2 P3 P4 P5 P6 P7 P8 P9 r1 u1
 have p0:Hid (T=⟨(k:Int),rs,⟨i0,h0⟩⟩):=Lib.hid (by rw [← HT.out];simp [stp,stPc,stRegs,stMem])
 have o0:Hid (EE=[((5:Int),(k:Int))]):=Lib.hid (by rw [← HE.out];simp [stEvs])
 clear HT HE
 have m0:Hid (mov ⟨13,a,i2,i3,d⟩ (rs) k=(k:Int)):=Lib.hid (by simp [mov])
 have n0:=Lib.hid (Ro H.own.r (by first | omega | (simp;omega)))
 have qc:=H.c0;have v0:=Lc qc
 have u0:¬g0=(w.heap.size+1+1):=g1.out _ (by omega) (by have:=Lc Z0;omega)
 go_wp2_with fail
 refine (l6Move_any (13) (a) (i2) (i3) (d) _ (rs) k _ n0.out (by omega) (by first | omega | (simp;done) | (simp;omega))).mono ?_
 rintro e w9 ⟨rfl,b0⟩
 rw [m0.out]
 have H9:=H.keep b0;have b1:=b0.size
 replace Y0:=Kf b0 (Lc Z0) Y0;replace Z0:=Kc b0 Z0
 replace Y1:=Kf b0 (Lc Z1) Y1;replace Z1:=Kc b0 Z1
 replace Y2:=Kf b0 (Lc Z2) Y2;replace Z2:=Kc b0 Z2
 replace Y3:=Kf b0 (Lc Z3) Y3;replace Z3:=Kc b0 Z3
 have r0:¬(w.heap.size+1+1)=(w.heap.size+1):=by omega
 have FR:=Lib.hid (H9.ret4 ((k:Int)) (w.heap.size+1+1) (by omega) (fun h=>by have:=i1.out _ h;omega) (fun h=>u0 (Option.some.inj h)) (.int .i64 ((k:Int))) (.slice (some ⟨g,0,none⟩) rs.length cr) (.slice pv i0.length cv) (.slice pA h0.length cA))
 obtain ⟨x0,x1,x2,x3⟩:=cells4 (y:=.int .i64 ((k:Int))) r0 Z0 Z1 Z2 Z3 (.int .i64 ((k:Int))) (.slice (some ⟨g,0,none⟩) rs.length cr) (.slice pv i0.length cv) (.slice pA h0.length cA)
 have q0:=H9.c0;have qf:=H9.f0;have kq:=Lc q0
 have FO:=(H9.fin ((k:Int))).2.1
 have t0:=FO.c0;have t1:=FO.c1;have t2:=FO.c2;have t3:=FO.c3
 have j0:=Lib.hid H9.eb
 have s0:=Nn (b:=(w.heap.size+1)) (j:=0) Z0 (.int .i64 ((k:Int)));have j1:=Fs (b:=⟨(w.heap.size+1),0,none⟩) Y0 (.int .i64 ((k:Int)))
 have s1:=Nn (b:=(w.heap.size+1)) (j:=0) Z1 (.int .i64 ((k:Int)));have n1:=Fs (b:=⟨(w.heap.size+1),0,none⟩) Y1 (.int .i64 ((k:Int)))
 have s2:=Nn (b:=(w.heap.size+1)) (j:=0) Z2 (.int .i64 ((k:Int)));have o1:=Fs (b:=⟨(w.heap.size+1),0,none⟩) Y2 (.int .i64 ((k:Int)))
 have s3:=Nn (b:=(w.heap.size+1)) (j:=0) Z3 (.int .i64 ((k:Int)));have q1:=Fs (b:=⟨(w.heap.size+1),0,none⟩) Y3 (.int .i64 ((k:Int)))
 have kR:=Lc Z0
 clear H H9 FO Z0 Z1 Z2 Z3 Y0 Y1 Y2 Y3 b0 n0 m0 qc v0
 go_wp2
 exact bodyPost_ret (v:=.tuple #[.agg #[.int .i64 ((k:Int)),(.slice (some ⟨g,0,none⟩) rs.length cr),(.slice pv i0.length cv),(.slice pA h0.length cA)],.slice (some ⟨g0,0,none⟩) (E.length+1) f1]) (by simp [results,Tryz.results100,go_sem,x0,x1,x2,x3]) rfl (by rw [p0.out,o0.out];exact ⟨_,rfl,FR.out.1,by have h:=FR.out.2.1;simpa [List.append_assoc] using h,fun q hq=>⟨(j0.out q hq).2.1,by rcases (j0.out q hq).2.2 with h | h;exact h.elim (fun h=>absurd h (j0.out q hq).2.1) Or.inl;exact Or.inr h⟩,FR.out.2.2⟩)
end Go.Proofs.YtkjedgnepnbkpaaGreat
