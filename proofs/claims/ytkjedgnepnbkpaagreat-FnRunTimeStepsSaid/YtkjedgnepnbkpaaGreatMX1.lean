/-
 Parts of the proofs of the laws FnCompactRegs,FnFenceCode,FnRunTimeSteps.
-/
import Derived.Test.YtkjedgnepnbkpaaGreatZPq1
set_option linter.all false
namespace Go.Proofs.YtkjedgnepnbkpaaGreat
open Go.RowKit
set_option maxHeartbeats 25600000 in
set_option maxRecDepth 100000 in
theorem exec_1_5 (tb base:Nat) (va vb vc vr vv vA u:Value) (us:List Value) (c:Cd) (s:Ms) (E:List Ev) (w:World) (hr:ReadsC w va vb vc c) (hO:OwnMv w base vr vv vA us s.regs s.mem) (hE:w.ownsRow tb 38 2 u E.length (evs E)) (hd:∀ q,u.ownBlock=some q→¬OwnMB vr vv vA us q) (htb:tb≤w.heap.size) (hEl:E.length≤1048576) (hM:MsOk c s) (hok:codeOk c=true) (hlo:1≤(insAt c s.pc).op∧(insAt c s.pc).op≤5) :
  Calls Tryz.prog 100 #[.agg #[va,vb,vc],.agg #[.int .i64 s.pc,vr,vv,vA],u] w fun e w'=>∃ u',e=.returned (.tuple #[.agg #[.int .i64 (stPc (insAt c s.pc) s),vr,vv,vA],u'])∧OwnMv w' base vr vv vA us (stRegs (insAt c s.pc) s) (stMem (insAt c s.pc) s)∧w'.ownsRow tb 38 2 u' (E++stEvs (insAt c s.pc) s).length (evs (E++stEvs (insAt c s.pc) s))∧(∀ q,u'.ownBlock=some q→¬OwnMB vr vv vA us q∧(u.ownBlock=some q∨w.heap.size≤q))∧Chg (fun q=>OwnMB vr vv vA us q∨u.ownBlock=some q) w w':=by
 obtain ⟨a0,c0,a1,c1,a2,c2,rfl,rfl,rfl⟩:=hr.shape
 obtain ⟨pc,rs,h0,b0⟩:=s
 obtain ⟨t5,u5,w4,g4,b4⟩:=hM
 simp only at t5 u5 w4 g4 b4
 obtain ⟨k,rfl⟩:∃ k:Nat,pc=k:=⟨pc.toNat,by omega⟩
 have hk:k < c.list.length:=by omega
 obtain ⟨l1,l2⟩:=codeOk_len hok
 obtain ⟨l3,l4⟩:=declOk_len (codeOk_decl hok)
 have u2:=codeOk_all hok k hk
 have t4:insAt c (k:Int)=c.list[k]:=by unfold insAt;rw [Int.toNat_natCast,List.getElem?_eq_getElem hk];rfl
 simp only at hlo ⊢
 rw [t4] at hlo ⊢
 clear t4
 obtain ⟨m1,m2,m3,m4⟩:=memOk_parts b4
 simp only at m1 m2 m3 m4
 have own:=hO
 clear hO
 obtain ⟨g,cr,rfl⟩:=own_pos own.r (by simp only;omega)
 obtain ⟨pv,cv,rfl⟩:=Oh own.v
 obtain ⟨pA,cA,rfl⟩:=Oh own.a.out
 simp only at own hd
 have n4:=Lib.hid (fun i=>gi_range g4 i)
 have v5:=Lib.hid m1;have x5:=Lib.hid m2;have k4:=Lib.hid m4
 have l5:=hr.l
 obtain ⟨_,hn,aa,z5,b',z4,hv,w3,ha,u4⟩:=l5
 simp only [Value.slice.injEq,true_and] at hv
 obtain ⟨rfl,rfl⟩:=hv
 obtain ⟨rfl,i5⟩:=ha (by omega)
 obtain ⟨e0,e1,e2,e3,e4⟩:=reads_Instr u4 k hk
 have hq:(k:Int) < (c.list.length:Int):=by omega
 have m5:14≤rs.length:=by omega
 have n5:rs.length≤14:=by omega
 have e6:c.vars.length≤h0.length:=by omega
 have f6:h0.length≤12:=by omega
 have a6:c.arrays.length≤b0.length:=by omega
 have b6:b0.length≤2:=by omega
 generalize c.list[k]=x at *
 have j4:=Lib.hid u2
 generalize hT:stp x ⟨(k:Int),rs,⟨h0,b0⟩⟩=T
 have r4:stPc x ⟨(k:Int),rs,⟨h0,b0⟩⟩=T.pc:=by rw [← hT];rfl
 have s4:stRegs x ⟨(k:Int),rs,⟨h0,b0⟩⟩=T.regs:=by rw [← hT];rfl
 have q4:stMem x ⟨(k:Int),rs,⟨h0,b0⟩⟩=T.mem:=by rw [← hT];rfl
 rw [r4,s4,q4]
 generalize hE2:stEvs x ⟨(k:Int),rs,⟨h0,b0⟩⟩=EE
 have HT:=Lib.hid hT;have HE:=Lib.hid hE2
 have iE:=hE.lt
 clear hT r4 s4 q4 hE2 u2 b4 w4 g4 m1 m2 m3 m4 u4 ha hr w3 hn
 obtain ⟨w1,o0⟩:∃ X,X=((w.alloc (.cells #[.slice a0 c.vars.length c0,.slice a1 c.arrays.length c1,.slice (some ⟨b',z4,none⟩) c.list.length c2] 26)).alloc (.cells #[.int .i64 k,(.slice (some ⟨g,0,none⟩) rs.length cr),(.slice pv h0.length cv),(.slice pA b0.length cA)] 62)).alloc (.cells #[.int .i64 0,.slice none 0 0,.slice none 0 0,.slice none 0 0] 62):=⟨_,rfl⟩
 have n1:Below w.heap.size w w1:=by rw [o0];exact bal (bal (bal (Bs w) _) _) _
 have x4:w1.heap.size=w.heap.size+1+1+1:=by rw [o0];simp
 have r2:w1.cell? ⟨w.heap.size,2,none⟩=some (.slice (some ⟨b',z4,none⟩) c.list.length c2):=by rw [o0];exact Ac (Ac (Wc rfl rfl) _) _
 have C0:w1.cell? ⟨w.heap.size+1,0,none⟩=some (.int .i64 k):=by rw [o0];exact Ac (Wc (by simp) rfl) _
 have C1:w1.cell? ⟨w.heap.size+1,1,none⟩=some ((.slice (some ⟨g,0,none⟩) rs.length cr)):=by rw [o0];exact Ac (Wc (by simp) rfl) _
 have C2:w1.cell? ⟨w.heap.size+1,2,none⟩=some ((.slice pv h0.length cv)):=by rw [o0];exact Ac (Wc (by simp) rfl) _
 have C3:w1.cell? ⟨w.heap.size+1,3,none⟩=some ((.slice pA b0.length cA)):=by rw [o0];exact Ac (Wc (by simp) rfl) _
 have Z0:w1.cell? ⟨w.heap.size+1+1,0,none⟩=some (.int .i64 0):=by rw [o0];exact Wc (by simp) rfl
 have Y0:w1.frozen? ⟨w.heap.size+1+1,0,none⟩=false:=by rw [o0];exact Fn (by simp)
 have Z1:w1.cell? ⟨w.heap.size+1+1,1,none⟩=some (.slice none 0 0):=by rw [o0];exact Wc (by simp) rfl
 have Y1:w1.frozen? ⟨w.heap.size+1+1,1,none⟩=false:=by rw [o0];exact Fn (by simp)
 have Z2:w1.cell? ⟨w.heap.size+1+1,2,none⟩=some (.slice none 0 0):=by rw [o0];exact Wc (by simp) rfl
 have Y2:w1.frozen? ⟨w.heap.size+1+1,2,none⟩=false:=by rw [o0];exact Fn (by simp)
 have Z3:w1.cell? ⟨w.heap.size+1+1,3,none⟩=some (.slice none 0 0):=by rw [o0];exact Wc (by simp) rfl
 have Y3:w1.frozen? ⟨w.heap.size+1+1,3,none⟩=false:=by rw [o0];exact Fn (by simp)
 have F0:w1.frozen? ⟨w.heap.size+1,0,none⟩=false:=by rw [o0];exact Fa (by simp) (Fn (by simp)) _
 have HW:=Lib.hid o0
 have y5:=Lib.hid x4
 have hz1':w.heap.size+3≤w1.heap.size:=by omega
 clear o0 x4
 replace e0:=Kc n1 e0
 replace e1:=Kc n1 e1
 replace e2:=Kc n1 e2
 replace e3:=Kc n1 e3
 replace e4:=Kc n1 e4
 have h3:=own.lt
 replace own:=own.below n1
 replace hE:=Ob hE n1
 have k0:=Lc r2
 have k1:=Lc e0
 have k2:=Lc C0
 go_enter Tryz.func100,Tryz.ntmps100
 go_upto_region 1 with (fail)
 rw [← HW.out]
 clear HW
 go_upto_region 3 with (fail)
 obtain ⟨op,a,i2,i3,d⟩:=x
 simp only at e0 e1 e2 e3 e4 hlo ⊢
 obtain ⟨w2,q1⟩:∃ X,X=(w1.alloc (.cells #[.int .i64 op,.int .i64 a,.int .i64 i2,.int .i64 i3,.int .i64 d] 71)):=⟨_,rfl⟩
 rw [← q1]
 have p0:Below w1.heap.size w1 w2:=by rw [q1];exact bal (Bs w1) _
 have g6:w1.heap.size+1≤w2.heap.size:=by rw [q1];simp
 have d0:w2.cell? ⟨w1.heap.size,0,none⟩=some (.int .i64 op):=by rw [q1];exact Wc rfl rfl
 have d1:w2.cell? ⟨w1.heap.size,1,none⟩=some (.int .i64 a):=by rw [q1];exact Wc rfl rfl
 have d2:w2.cell? ⟨w1.heap.size,2,none⟩=some (.int .i64 i2):=by rw [q1];exact Wc rfl rfl
 have d3:w2.cell? ⟨w1.heap.size,3,none⟩=some (.int .i64 i3):=by rw [q1];exact Wc rfl rfl
 have d4:w2.cell? ⟨w1.heap.size,4,none⟩=some (.int .i64 d):=by rw [q1];exact Wc rfl rfl
 clear q1 e0 e1 e2 e3 e4
 replace C0:=Kc p0 C0;have c5:=Lc Z0;replace Z0:=Kc p0 Z0;replace Y0:=Kf p0 c5 Y0
 replace C1:=Kc p0 C1;have d5:=Lc Z1;replace Z1:=Kc p0 Z1;replace Y1:=Kf p0 d5 Y1
 replace C2:=Kc p0 C2;have e5:=Lc Z2;replace Z2:=Kc p0 Z2;replace Y2:=Kf p0 e5 Y2
 replace C3:=Kc p0 C3;have f5:=Lc Z3;replace Z3:=Kc p0 Z3;replace Y3:=Kf p0 f5 Y3
 replace F0:=Kf p0 k2 F0
 replace own:=own.below p0
 replace hE:=Ob hE p0
 have n2:=btr n1 p0
 have H0:StepW (fun q=>OwnMB (.slice (some ⟨g,0,none⟩) rs.length cr) (.slice pv h0.length cv) (.slice pA b0.length cA) us q∨u.ownBlock=some q) w w2 base (w.heap.size+1) (.slice (some ⟨g,0,none⟩) rs.length cr) (.slice pv h0.length cv) (.slice pA b0.length cA) us rs ⟨h0,b0⟩ tb u E k:=
  ⟨C0,C1,C2,C3,F0,own,fun h=>by have:=h3 _ h;omega,hE,fun q e=>⟨by have:=iE q e;omega,hd q e,Or.inl (Or.inr e)⟩,Or.inr (by omega),fun q h=>Or.inl h,Chg.of_below n2⟩
 clear C1 C2 C3 F0 own hE p0 n1 n2 i5 r2
 have s5:=Lc C0
 go_wp2_with (at_builtin;refine wpList_ap tEvs rfl _ _ rfl tb _ E.length _ rfl H0.ev [.int .i64 5,.int .i64 k] rfl rfl (one_ev _ _) (by omega) (by omega) ?_)
 clear C0 s5
 intro g0 b1 w5 oe j0 z3
 have H:=H0.event (e:=(5,(k:Int))) oe j0 (fun q hq=>by have e3:g0=q:=Option.some.inj hq;subst e3;exact z3)
 have HN:=Lib.hid (fun q (h:w.heap.size≤q) (e:u.ownBlock=some q)=>show False from by have:=iE q e;omega)
 replace d0:=Gc j0 d0 (HN.out _ (by omega))
 replace d1:=Gc j0 d1 (HN.out _ (by omega))
 replace d2:=Gc j0 d2 (HN.out _ (by omega))
 replace d3:=Gc j0 d3 (HN.out _ (by omega))
 replace d4:=Gc j0 d4 (HN.out _ (by omega))
 replace Y0:=Gf j0 (by omega) Y0 (HN.out _ (by omega));replace Z0:=Gc j0 Z0 (HN.out _ (by omega))
 replace Y1:=Gf j0 (by omega) Y1 (HN.out _ (by omega));replace Z1:=Gc j0 Z1 (HN.out _ (by omega))
 replace Y2:=Gf j0 (by omega) Y2 (HN.out _ (by omega));replace Z2:=Gc j0 Z2 (HN.out _ (by omega))
 replace Y3:=Gf j0 (by omega) Y3 (HN.out _ (by omega));replace Z3:=Gc j0 Z3 (HN.out _ (by omega))
 have y4:=j0.size
 have v2:(E++[((5:Int),(k:Int))]).length=E.length+1:=by simp
 have v0:=Lib.hid v2
 have y3:=H.eb
 have hg0n:∀ q,w.heap.size≤q→q < w2.heap.size→¬g0=q:=fun q h1 h2 e=>by
  rcases z3 with h | h
  ·exact HN.out q h1 (e ▸ h)
  omega
 have b2:=Lib.hid hg0n
 clear H0 j0 oe z3 v2 hg0n
 have kX:=Lc d0
 obtain ⟨P1,P2,P3,P4,P5,P6,P7,P8,P9,f2,g2⟩:=ins_parts j4.out
 have v4:=insOk_op j4.out
 simp only at v4
 have lX:∀ q,OwnMB (.slice (some ⟨g,0,none⟩) rs.length cr) (.slice pv h0.length cv) (.slice pA b0.length cA) us q→q < w.heap.size:=fun q h=>(h3 q h).2
 have c6:=lX g (Or.inl rfl)
 have g1:=Lib.hid lX
 have a5:=Lib.hid h3
 have c4:op=1∨op=2∨op=3∨op=4∨op=5:=by omega
 clear v4 hlo lX k0 k1 y3 h3 hd
 rcases c4 with rfl | rfl | rfl | rfl | rfl
 ·obtain ⟨⟨p1,p2⟩,p3,p4⟩:=P1 rfl
  clear P1 P2 P3 P4 P5 P6 P7 P8 P9 f2 g2
  obtain ⟨na,rfl⟩:∃ n:Nat,a=n:=⟨a.toNat,by omega⟩
  have y0:Hid (T=⟨(k:Int)+1,rs.set na i2,⟨h0,b0⟩⟩):=Lib.hid (by rw [← HT.out];simp [stp,stPc,stRegs,stMem])
  have i1:Hid (EE=[((5:Int),(k:Int))]):=Lib.hid (by rw [← HE.out];simp [stEvs])
  clear HT HE
  have yR:=H.own.regAt na (by omega);have u1:=H.own.r.frozenAt na;have j3:=Lc yR;have f3:(na:Int) < (rs.length:Int):=by omega
  go_upto_region 28 with (fail)
  have H2:=H.reg na i2
  clear H
  replace Y0:=Fs (b:=⟨g,na,none⟩) Y0 (.int .i64 i2);replace Z0:=Nn (b:=g) (j:=na) Z0 (.int .i64 i2)
  replace Y1:=Fs (b:=⟨g,na,none⟩) Y1 (.int .i64 i2);replace Z1:=Nn (b:=g) (j:=na) Z1 (.int .i64 i2)
  replace Y2:=Fs (b:=⟨g,na,none⟩) Y2 (.int .i64 i2);replace Z2:=Nn (b:=g) (j:=na) Z2 (.int .i64 i2)
  replace Y3:=Fs (b:=⟨g,na,none⟩) Y3 (.int .i64 i2);replace Z3:=Nn (b:=g) (j:=na) Z3 (.int .i64 i2)
  replace d0:=Nn (b:=g) (j:=na) d0 (.int .i64 i2)
  replace d1:=Nn (b:=g) (j:=na) d1 (.int .i64 i2)
  replace d2:=Nn (b:=g) (j:=na) d2 (.int .i64 i2)
  replace d3:=Nn (b:=g) (j:=na) d3 (.int .i64 i2)
  replace d4:=Nn (b:=g) (j:=na) d4 (.int .i64 i2)
  have r0:Hid (mov ⟨1,(na:Int),i2,i3,d⟩ (rs.set na i2) k=(k:Int)+1):=Lib.hid (by simp [mov])
  have u0:=Lib.hid (Ro H2.own.r (by first | omega | (simp;omega)))
  have qc:=H2.c0;have r1:=Lc qc
  have o1:¬g0=(w.heap.size+1+1):=b2.out _ (by omega) (by have:=Lc Z0;omega)
  go_wp2_with fail
  refine (l6Move_any (1) ((na:Int)) (i2) (i3) (d) _ (rs.set na i2) k _ u0.out (by omega) (by first | omega | (simp;done) | (simp;omega))).mono ?_
  rintro e w9 ⟨rfl,i0⟩
  rw [r0.out]
  have H9:=H2.keep i0;have g3:=i0.size
  replace Y0:=Kf i0 (Lc Z0) Y0;replace Z0:=Kc i0 Z0
  replace Y1:=Kf i0 (Lc Z1) Y1;replace Z1:=Kc i0 Z1
  replace Y2:=Kf i0 (Lc Z2) Y2;replace Z2:=Kc i0 Z2
  replace Y3:=Kf i0 (Lc Z3) Y3;replace Z3:=Kc i0 Z3
  have j1:¬(w.heap.size+1+1)=(w.heap.size+1):=by omega
  have FR:=Lib.hid (H9.ret4 ((k:Int)+1) (w.heap.size+1+1) (by omega) (fun h=>by have:=g1.out _ h;omega) (fun h=>o1 (Option.some.inj h)) (.int .i64 ((k:Int)+1)) (.slice (some ⟨g,0,none⟩) rs.length cr) (.slice pv h0.length cv) (.slice pA b0.length cA))
  obtain ⟨x0,x1,x2,x3⟩:=cells4 (y:=.int .i64 ((k:Int)+1)) j1 Z0 Z1 Z2 Z3 (.int .i64 ((k:Int)+1)) (.slice (some ⟨g,0,none⟩) rs.length cr) (.slice pv h0.length cv) (.slice pA b0.length cA)
  have q0:=H9.c0;have qf:=H9.f0;have kq:=Lc q0
  have FO:=(H9.fin ((k:Int)+1)).2.1
  have t0:=FO.c0;have t1:=FO.c1;have t2:=FO.c2;have t3:=FO.c3
  have n0:=Lib.hid H9.eb
  have s0:=Nn (b:=(w.heap.size+1)) (j:=0) Z0 (.int .i64 ((k:Int)+1));have k3:=Fs (b:=⟨(w.heap.size+1),0,none⟩) Y0 (.int .i64 ((k:Int)+1))
  have s1:=Nn (b:=(w.heap.size+1)) (j:=0) Z1 (.int .i64 ((k:Int)+1));have n3:=Fs (b:=⟨(w.heap.size+1),0,none⟩) Y1 (.int .i64 ((k:Int)+1))
  have s2:=Nn (b:=(w.heap.size+1)) (j:=0) Z2 (.int .i64 ((k:Int)+1));have o3:=Fs (b:=⟨(w.heap.size+1),0,none⟩) Y2 (.int .i64 ((k:Int)+1))
  have s3:=Nn (b:=(w.heap.size+1)) (j:=0) Z3 (.int .i64 ((k:Int)+1));have q3:=Fs (b:=⟨(w.heap.size+1),0,none⟩) Y3 (.int .i64 ((k:Int)+1))
  have kR:=Lc Z0
  clear H2 H9 FO Z0 Z1 Z2 Z3 Y0 Y1 Y2 Y3 i0 u0 r0 qc r1
  go_wp2
  exact bodyPost_ret (v:=.tuple #[.agg #[.int .i64 ((k:Int)+1),(.slice (some ⟨g,0,none⟩) rs.length cr),(.slice pv h0.length cv),(.slice pA b0.length cA)],.slice (some ⟨g0,0,none⟩) (E.length+1) b1]) (by simp [results,Tryz.results100,go_sem,x0,x1,x2,x3]) rfl (by rw [y0.out,i1.out];exact ⟨_,rfl,FR.out.1,by have h:=FR.out.2.1;simpa [List.append_assoc] using h,fun q hq=>⟨(n0.out q hq).2.1,by rcases (n0.out q hq).2.2 with h | h;exact h.elim (fun h=>absurd h (n0.out q hq).2.1) Or.inl;exact Or.inr h⟩,FR.out.2.2⟩)
 ·obtain ⟨⟨p1,p2⟩,p3,p4⟩:=P2 rfl
  clear P1 P2 P3 P4 P5 P6 P7 P8 P9 f2 g2
  obtain ⟨na,rfl⟩:∃ n:Nat,a=n:=⟨a.toNat,by omega⟩
  obtain ⟨nb,rfl⟩:∃ n:Nat,i2=n:=⟨i2.toNat,by omega⟩
  have y0:Hid (T=⟨(k:Int)+1,rs.set na (gi h0 nb),⟨h0,b0⟩⟩):=Lib.hid (by rw [← HT.out];simp [stp,stPc,stRegs,stMem])
  have i1:Hid (EE=[((5:Int),(k:Int))]):=Lib.hid (by rw [← HE.out];simp [stEvs])
  clear HT HE
  obtain ⟨gv,h5,hv⟩:=own_pos H.own.v (by simp only;omega)
  simp only [Value.slice.injEq,true_and] at hv
  obtain ⟨rfl,rfl⟩:=hv
  have yR:=H.own.regAt na (by omega);have u1:=H.own.r.frozenAt na;have j3:=Lc yR;have f3:(na:Int) < (rs.length:Int):=by omega
  have yV:=H.own.valAt nb (by simp only;omega);have kV:=Lc yV;have bV:(nb:Int) < (h0.length:Int):=by omega
  simp only at yV
  generalize gi h0 nb=z at *
  have D2:=H.c2
  go_upto_region 8 with (fail)
  refine wp_region_still_tail 11 (by kernel_rfl) (by kernel_rfl) ?_
  simp only [List.take_succ_cons,List.take_zero,List.drop_succ_cons,List.drop_zero]
  repeat still_step
  refine wpStill_nil ?_
  change wpList _ _ _ _ _ (World.drew w5)
  have HD:=H.drew;clear H
  obtain ⟨wd,m0⟩:∃ X,X=World.drew w5:=⟨_,rfl⟩
  rw [← m0] at HD ⊢
  have HB:=(show Below w5.heap.size w5 wd from by rw [m0];exact Below.drew (Bs _))
  clear m0
  have yQ:=HD.own.regAt na (by omega)
  have fQ:=HD.own.r.frozenAt na
  have kQ:=Lc yQ
  have H2:=HD.reg na z
  clear D2 yR u1 yV
  replace Y0:=Kf HB (Lc Z0) Y0;replace Z0:=Kc HB Z0
  replace Y1:=Kf HB (Lc Z1) Y1;replace Z1:=Kc HB Z1
  replace Y2:=Kf HB (Lc Z2) Y2;replace Z2:=Kc HB Z2
  replace Y3:=Kf HB (Lc Z3) Y3;replace Z3:=Kc HB Z3
  replace d0:=Kc HB d0
  replace d1:=Kc HB d1
  replace d2:=Kc HB d2
  replace d3:=Kc HB d3
  replace d4:=Kc HB d4
  go_upto_region 28 with (fail)
  replace Y0:=Fs (b:=⟨g,na,none⟩) Y0 (.int .i64 z);replace Z0:=Nn (b:=g) (j:=na) Z0 (.int .i64 z)
  replace Y1:=Fs (b:=⟨g,na,none⟩) Y1 (.int .i64 z);replace Z1:=Nn (b:=g) (j:=na) Z1 (.int .i64 z)
  replace Y2:=Fs (b:=⟨g,na,none⟩) Y2 (.int .i64 z);replace Z2:=Nn (b:=g) (j:=na) Z2 (.int .i64 z)
  replace Y3:=Fs (b:=⟨g,na,none⟩) Y3 (.int .i64 z);replace Z3:=Nn (b:=g) (j:=na) Z3 (.int .i64 z)
  replace d0:=Nn (b:=g) (j:=na) d0 (.int .i64 z)
  replace d1:=Nn (b:=g) (j:=na) d1 (.int .i64 z)
  replace d2:=Nn (b:=g) (j:=na) d2 (.int .i64 z)
  replace d3:=Nn (b:=g) (j:=na) d3 (.int .i64 z)
  replace d4:=Nn (b:=g) (j:=na) d4 (.int .i64 z)
  clear HD HB
  have r0:Hid (mov ⟨2,(na:Int),(nb:Int),i3,d⟩ (rs.set na z) k=(k:Int)+1):=Lib.hid (by simp [mov])
  have u0:=Lib.hid (Ro H2.own.r (by first | omega | (simp;omega)))
  have qc:=H2.c0;have r1:=Lc qc
  have o1:¬g0=(w.heap.size+1+1):=b2.out _ (by omega) (by have:=Lc Z0;omega)
  go_wp2_with fail
  refine (l6Move_any (2) ((na:Int)) ((nb:Int)) (i3) (d) _ (rs.set na z) k _ u0.out (by omega) (by first | omega | (simp;done) | (simp;omega))).mono ?_
  rintro e w9 ⟨rfl,i0⟩
  rw [r0.out]
  have H9:=H2.keep i0;have g3:=i0.size
  replace Y0:=Kf i0 (Lc Z0) Y0;replace Z0:=Kc i0 Z0
  replace Y1:=Kf i0 (Lc Z1) Y1;replace Z1:=Kc i0 Z1
  replace Y2:=Kf i0 (Lc Z2) Y2;replace Z2:=Kc i0 Z2
  replace Y3:=Kf i0 (Lc Z3) Y3;replace Z3:=Kc i0 Z3
  have j1:¬(w.heap.size+1+1)=(w.heap.size+1):=by omega
  have FR:=Lib.hid (H9.ret4 ((k:Int)+1) (w.heap.size+1+1) (by omega) (fun h=>by have:=g1.out _ h;omega) (fun h=>o1 (Option.some.inj h)) (.int .i64 ((k:Int)+1)) (.slice (some ⟨g,0,none⟩) rs.length cr) (.slice (some ⟨gv,0,none⟩) h0.length cv) (.slice pA b0.length cA))
  obtain ⟨x0,x1,x2,x3⟩:=cells4 (y:=.int .i64 ((k:Int)+1)) j1 Z0 Z1 Z2 Z3 (.int .i64 ((k:Int)+1)) (.slice (some ⟨g,0,none⟩) rs.length cr) (.slice (some ⟨gv,0,none⟩) h0.length cv) (.slice pA b0.length cA)
  have q0:=H9.c0;have qf:=H9.f0;have kq:=Lc q0
  have FO:=(H9.fin ((k:Int)+1)).2.1
  have t0:=FO.c0;have t1:=FO.c1;have t2:=FO.c2;have t3:=FO.c3
  have n0:=Lib.hid H9.eb
  have s0:=Nn (b:=(w.heap.size+1)) (j:=0) Z0 (.int .i64 ((k:Int)+1));have k3:=Fs (b:=⟨(w.heap.size+1),0,none⟩) Y0 (.int .i64 ((k:Int)+1))
  have s1:=Nn (b:=(w.heap.size+1)) (j:=0) Z1 (.int .i64 ((k:Int)+1));have n3:=Fs (b:=⟨(w.heap.size+1),0,none⟩) Y1 (.int .i64 ((k:Int)+1))
  have s2:=Nn (b:=(w.heap.size+1)) (j:=0) Z2 (.int .i64 ((k:Int)+1));have o3:=Fs (b:=⟨(w.heap.size+1),0,none⟩) Y2 (.int .i64 ((k:Int)+1))
  have s3:=Nn (b:=(w.heap.size+1)) (j:=0) Z3 (.int .i64 ((k:Int)+1));have q3:=Fs (b:=⟨(w.heap.size+1),0,none⟩) Y3 (.int .i64 ((k:Int)+1))
  have kR:=Lc Z0
  clear H2 H9 FO Z0 Z1 Z2 Z3 Y0 Y1 Y2 Y3 i0 u0 r0 qc r1
  go_wp2
  exact bodyPost_ret (v:=.tuple #[.agg #[.int .i64 ((k:Int)+1),(.slice (some ⟨g,0,none⟩) rs.length cr),(.slice (some ⟨gv,0,none⟩) h0.length cv),(.slice pA b0.length cA)],.slice (some ⟨g0,0,none⟩) (E.length+1) b1]) (by simp [results,Tryz.results100,go_sem,x0,x1,x2,x3]) rfl (by rw [y0.out,i1.out];exact ⟨_,rfl,FR.out.1,by have h:=FR.out.2.1;simpa [List.append_assoc] using h,fun q hq=>⟨(n0.out q hq).2.1,by rcases (n0.out q hq).2.2 with h | h;exact h.elim (fun h=>absurd h (n0.out q hq).2.1) Or.inl;exact Or.inr h⟩,FR.out.2.2⟩)
 ·obtain ⟨⟨p1,p2⟩,p3,p4⟩:=P3 rfl
  clear P1 P2 P3 P4 P5 P6 P7 P8 P9 f2 g2
  obtain ⟨na,rfl⟩:∃ n:Nat,a=n:=⟨a.toNat,by omega⟩
  obtain ⟨nb,rfl⟩:∃ n:Nat,i2=n:=⟨i2.toNat,by omega⟩
  have y0:Hid (T=⟨(k:Int)+1,rs,⟨h0.set na (gi rs nb),b0⟩⟩):=Lib.hid (by rw [← HT.out];simp [stp,stPc,stRegs,stMem])
  have i1:Hid (EE=[((5:Int),(k:Int))]):=Lib.hid (by rw [← HE.out];simp [stEvs])
  clear HT HE
  obtain ⟨gv,h5,hv⟩:=own_pos H.own.v (by simp only;omega)
  simp only [Value.slice.injEq,true_and] at hv
  obtain ⟨rfl,rfl⟩:=hv
  have yR:=H.own.regAt nb (by omega);have u1:=H.own.r.frozenAt nb;have j3:=Lc yR;have f3:(nb:Int) < (rs.length:Int):=by omega
  have yV:=H.own.valAt na (by simp only;omega);have fV:=H.own.v.frozenAt na;have kV:=Lc yV;have bV:(na:Int) < (h0.length:Int):=by omega
  have d6:=g1.out gv (Or.inr (Or.inl rfl))
  generalize gi rs nb=z at *
  have D2:=H.c2
  go_upto_region 10 with (fail)
  refine wp_region_still_tail 11 (by kernel_rfl) (by kernel_rfl) ?_
  simp only [List.take_succ_cons,List.take_zero,List.drop_succ_cons,List.drop_zero]
  repeat still_step
  refine wpStill_nil ?_
  change wpList _ _ _ _ _ (World.drew w5)
  have HD:=H.drew;clear H
  obtain ⟨wd,m0⟩:∃ X,X=World.drew w5:=⟨_,rfl⟩
  rw [← m0] at HD ⊢
  have HB:=(show Below w5.heap.size w5 wd from by rw [m0];exact Below.drew (Bs _))
  clear m0
  have yQ:=HD.own.valAt na (by simp only;omega)
  have fQ:=HD.own.v.frozenAt na
  have kQ:=Lc yQ
  have H2:=HD.val na z
  clear D2 yR u1 yV fV
  replace Y0:=Kf HB (Lc Z0) Y0;replace Z0:=Kc HB Z0
  replace Y1:=Kf HB (Lc Z1) Y1;replace Z1:=Kc HB Z1
  replace Y2:=Kf HB (Lc Z2) Y2;replace Z2:=Kc HB Z2
  replace Y3:=Kf HB (Lc Z3) Y3;replace Z3:=Kc HB Z3
  replace d0:=Kc HB d0
  replace d1:=Kc HB d1
  replace d2:=Kc HB d2
  replace d3:=Kc HB d3
  replace d4:=Kc HB d4
  go_upto_region 28 with (fail)
  replace Y0:=Fs (b:=⟨gv,na,none⟩) Y0 (.int .i64 z);replace Z0:=Nn (b:=gv) (j:=na) Z0 (.int .i64 z)
  replace Y1:=Fs (b:=⟨gv,na,none⟩) Y1 (.int .i64 z);replace Z1:=Nn (b:=gv) (j:=na) Z1 (.int .i64 z)
  replace Y2:=Fs (b:=⟨gv,na,none⟩) Y2 (.int .i64 z);replace Z2:=Nn (b:=gv) (j:=na) Z2 (.int .i64 z)
  replace Y3:=Fs (b:=⟨gv,na,none⟩) Y3 (.int .i64 z);replace Z3:=Nn (b:=gv) (j:=na) Z3 (.int .i64 z)
  replace d0:=Nn (b:=gv) (j:=na) d0 (.int .i64 z)
  replace d1:=Nn (b:=gv) (j:=na) d1 (.int .i64 z)
  replace d2:=Nn (b:=gv) (j:=na) d2 (.int .i64 z)
  replace d3:=Nn (b:=gv) (j:=na) d3 (.int .i64 z)
  replace d4:=Nn (b:=gv) (j:=na) d4 (.int .i64 z)
  clear HD HB
  have r0:Hid (mov ⟨3,(na:Int),(nb:Int),i3,d⟩ (rs) k=(k:Int)+1):=Lib.hid (by simp [mov])
  have u0:=Lib.hid (Ro H2.own.r (by first | omega | (simp;omega)))
  have qc:=H2.c0;have r1:=Lc qc
  have o1:¬g0=(w.heap.size+1+1):=b2.out _ (by omega) (by have:=Lc Z0;omega)
  go_wp2_with fail
  refine (l6Move_any (3) ((na:Int)) ((nb:Int)) (i3) (d) _ (rs) k _ u0.out (by omega) (by first | omega | (simp;done) | (simp;omega))).mono ?_
  rintro e w9 ⟨rfl,i0⟩
  rw [r0.out]
  have H9:=H2.keep i0;have g3:=i0.size
  replace Y0:=Kf i0 (Lc Z0) Y0;replace Z0:=Kc i0 Z0
  replace Y1:=Kf i0 (Lc Z1) Y1;replace Z1:=Kc i0 Z1
  replace Y2:=Kf i0 (Lc Z2) Y2;replace Z2:=Kc i0 Z2
  replace Y3:=Kf i0 (Lc Z3) Y3;replace Z3:=Kc i0 Z3
  have j1:¬(w.heap.size+1+1)=(w.heap.size+1):=by omega
  have FR:=Lib.hid (H9.ret4 ((k:Int)+1) (w.heap.size+1+1) (by omega) (fun h=>by have:=g1.out _ h;omega) (fun h=>o1 (Option.some.inj h)) (.int .i64 ((k:Int)+1)) (.slice (some ⟨g,0,none⟩) rs.length cr) (.slice (some ⟨gv,0,none⟩) h0.length cv) (.slice pA b0.length cA))
  obtain ⟨x0,x1,x2,x3⟩:=cells4 (y:=.int .i64 ((k:Int)+1)) j1 Z0 Z1 Z2 Z3 (.int .i64 ((k:Int)+1)) (.slice (some ⟨g,0,none⟩) rs.length cr) (.slice (some ⟨gv,0,none⟩) h0.length cv) (.slice pA b0.length cA)
  have q0:=H9.c0;have qf:=H9.f0;have kq:=Lc q0
  have FO:=(H9.fin ((k:Int)+1)).2.1
  have t0:=FO.c0;have t1:=FO.c1;have t2:=FO.c2;have t3:=FO.c3
  have n0:=Lib.hid H9.eb
  have s0:=Nn (b:=(w.heap.size+1)) (j:=0) Z0 (.int .i64 ((k:Int)+1));have k3:=Fs (b:=⟨(w.heap.size+1),0,none⟩) Y0 (.int .i64 ((k:Int)+1))
  have s1:=Nn (b:=(w.heap.size+1)) (j:=0) Z1 (.int .i64 ((k:Int)+1));have n3:=Fs (b:=⟨(w.heap.size+1),0,none⟩) Y1 (.int .i64 ((k:Int)+1))
  have s2:=Nn (b:=(w.heap.size+1)) (j:=0) Z2 (.int .i64 ((k:Int)+1));have o3:=Fs (b:=⟨(w.heap.size+1),0,none⟩) Y2 (.int .i64 ((k:Int)+1))
  have s3:=Nn (b:=(w.heap.size+1)) (j:=0) Z3 (.int .i64 ((k:Int)+1));have q3:=Fs (b:=⟨(w.heap.size+1),0,none⟩) Y3 (.int .i64 ((k:Int)+1))
  have kR:=Lc Z0
  clear H2 H9 FO Z0 Z1 Z2 Z3 Y0 Y1 Y2 Y3 i0 u0 r0 qc r1
  go_wp2
  exact bodyPost_ret (v:=.tuple #[.agg #[.int .i64 ((k:Int)+1),(.slice (some ⟨g,0,none⟩) rs.length cr),(.slice (some ⟨gv,0,none⟩) h0.length cv),(.slice pA b0.length cA)],.slice (some ⟨g0,0,none⟩) (E.length+1) b1]) (by simp [results,Tryz.results100,go_sem,x0,x1,x2,x3]) rfl (by rw [y0.out,i1.out];exact ⟨_,rfl,FR.out.1,by have h:=FR.out.2.1;simpa [List.append_assoc] using h,fun q hq=>⟨(n0.out q hq).2.1,by rcases (n0.out q hq).2.2 with h | h;exact h.elim (fun h=>absurd h (n0.out q hq).2.1) Or.inl;exact Or.inr h⟩,FR.out.2.2⟩)
 ·obtain ⟨⟨p1,p2⟩,⟨p3,p4⟩,p5,p6⟩:=P4 rfl
  clear P1 P2 P3 P4 P5 P6 P7 P8 P9 f2 g2
  obtain ⟨na,rfl⟩:∃ n:Nat,a=n:=⟨a.toNat,by omega⟩
  obtain ⟨nb,rfl⟩:∃ n:Nat,i2=n:=⟨i2.toNat,by omega⟩
  obtain ⟨nc,rfl⟩:∃ n:Nat,i3=n:=⟨i3.toNat,by omega⟩
  have q2:(gr b0 nb).length=4:=by unfold gr;rw [Int.toNat_natCast,List.getElem?_eq_getElem (by omega)];exact (k4.out _ (List.getElem_mem _)).1
  obtain ⟨gA,g5,hv⟩:=own_pos H.own.a.out (by simp only;omega)
  simp only [Value.slice.injEq,true_and] at hv
  obtain ⟨rfl,rfl⟩:=hv
  obtain ⟨ga,ca,A1,A2,A3⟩:=H.own.arrAt nb (by simp only;omega) q2
  clear q2
  have f4:=n4.out (nc:Int)
  have yC:=H.own.regAt nc (by omega);have j2:=H.own.r.frozenAt nc;have h4:=Lc yC;have v3:(nc:Int) < (rs.length:Int):=by omega
  obtain ⟨v,hv⟩:∃ v:Nat,gi rs nc=v:=⟨(gi rs nc).toNat,by omega⟩
  have u3:=Lib.hid hv
  have y0:Hid (T=⟨(k:Int)+1,rs.set na (gi (gr b0 nb) ((v % 4:Nat):Int)),⟨h0,b0⟩⟩):=Lib.hid (by rw [← HT.out];simp [stp,stPc,stRegs,stMem,hv])
  have i1:Hid (EE=[((5:Int),(k:Int)),(2,adr nb v)]):=Lib.hid (by rw [← HE.out];simp [stEvs,hv])
  clear HT HE
  rw [hv] at yC f4
  obtain ⟨j,hj⟩:∃ j:Nat,v % 4=j:=⟨_,rfl⟩
  have a4:j < 4:=by omega
  have k5:(v:Int).tmod 4=(j:Int):=by rw [Int.tmod_eq_emod_of_nonneg (by omega)];omega
  have j5:(j:Int) < 4:=by omega
  rw [hj] at y0
  obtain ⟨A4,A5⟩:=A3 j a4
  clear hj
  have y1:=Lib.hid (show OwnMB (.slice (some ⟨g,0,none⟩) rs.length cr) (.slice pv h0.length cv) (.slice (some ⟨gA,0,none⟩) b0.length cA) us ga from Or.inr (Or.inr (Or.inr ⟨nb,_,A2,rfl⟩)))
  have r5:=g1.out ga y1.out
  have i4:=Lib.hid A2
  clear A3 A2 hv
  have q5:=g1.out gA (Or.inr (Or.inr (Or.inl rfl)))
  generalize gi (gr b0 nb) (j:Int)=z at *
  go_upto_region 12 with (fail)
  refine wp_region_noPanic ?_
  refine wp_region_held_drew (S:=(fun W'=>W'.cell? ⟨w1.heap.size,2,none⟩=some (.int .i64 (nb:Int))∧W'.cell? ⟨w1.heap.size,3,none⟩=some (.int .i64 (nc:Int))∧W'.cell? ⟨g,nc,none⟩=some (.int .i64 (v:Int)))) (by kernel_rfl) ⟨Kc (Below.drew (Bs w5)) d2,Kc (Below.drew (Bs w5)) d3,Kc (Below.drew (Bs w5)) yC⟩ (fun hHeld=>?_)
  have HD:=H.drew;clear H
  obtain ⟨wd,m0⟩:∃ X,X=World.drew w5:=⟨_,rfl⟩
  rw [← m0] at HD hHeld ⊢
  have HB:=(show Below w5.heap.size w5 wd from by rw [m0];exact Below.drew (Bs _))
  clear m0
  replace Y0:=Kf HB (Lc Z0) Y0;replace Z0:=Kc HB Z0
  replace Y1:=Kf HB (Lc Z1) Y1;replace Z1:=Kc HB Z1
  replace Y2:=Kf HB (Lc Z2) Y2;replace Z2:=Kc HB Z2
  replace Y3:=Kf HB (Lc Z3) Y3;replace Z3:=Kc HB Z3
  replace d0:=Kc HB d0
  replace d1:=Kc HB d1
  replace d2:=Kc HB d2
  replace d3:=Kc HB d3
  replace d4:=Kc HB d4
  replace A1:=Kc HB A1;replace A5:=Kf HB (Lc A4) A5;replace A4:=Kc HB A4
  replace yC:=Kc HB yC
  have o5:=HB.size;clear HB
  refine tq 0 63 rfl rfl ?_ ?_ ?_
  rotate_left
  ·intro W' hSw;obtain ⟨s0,s1,s2⟩:=hSw;go_simp;try with_reducible rfl
  simp only [Ep]
  refine tq 1 64 rfl rfl ?_ ?_ ?_
  rotate_left
  ·intro W' hSw;obtain ⟨s0,s1,s2⟩:=hSw;go_simp;try with_reducible rfl
  simp only [Ep]
  refine tq 2 65 rfl rfl ?_ ?_ ?_
  rotate_left
  ·intro W' hSw;obtain ⟨s0,s1,s2⟩:=hSw;go_simp;try with_reducible rfl
  simp only [Ep]
  refine tq 3 66 rfl rfl ?_ ?_ ?_
  rotate_left
  ·intro W' hSw;obtain ⟨s0,s1,s2⟩:=hSw;go_simp;try with_reducible rfl
  simp only [Ep]
  refine tq 4 67 rfl rfl ?_ ?_ ?_
  rotate_left
  ·intro W' hSw;obtain ⟨s0,s1,s2⟩:=hSw;go_simp;try with_reducible rfl
  simp only [Ep]
  refine tq 5 68 rfl rfl ?_ ?_ ?_
  rotate_left
  ·intro W' hSw;obtain ⟨s0,s1,s2⟩:=hSw;go_simp;try with_reducible rfl
  simp only [Ep]
  refine Rdy 6 rfl (fun K hK=>?_)
  go_simp
  refine hK.out _ _ hHeld (fun hHeld=>?_)
  clear hK K
  try simp only [Ep]
  refine tq 7 70 rfl rfl ?_ ?_ ?_
  rotate_left
  ·intro W' hSw;obtain ⟨s0,s1,s2⟩:=hSw;go_simp;try with_reducible rfl
  simp only [Ep]
  refine Rdy 8 rfl (fun K hK=>?_)
  go_simp
  refine (l3Address_any nb v _ (by omega) (by omega)).mono ?_
  rintro e w6 ⟨rfl,a3⟩
  have hh:=a3.symm;subst hh;clear a3
  refine hK.out _ _ hHeld (fun hHeld=>?_)
  clear hK K
  try simp only [Ep]
  refine tq 9 72 rfl rfl ?_ ?_ ?_
  rotate_left
  ·intro W' hSw;obtain ⟨s0,s1,s2⟩:=hSw;go_simp;try with_reducible rfl
  simp only [Ep]
  refine Rdy 10 rfl (fun K hK=>?_)
  go_simp
  obtain ⟨v1,hv⟩:∃ X,X=World.alloc wd (.cells #[.int .i64 2,.int .i64 (adr nb v)] 38):=⟨_,rfl⟩
  rw [← hv]
  have B1:Below wd.heap.size wd v1:=by rw [hv];exact bal (Bs _) _
  have RN:Reads v1 2 (.slice (some ⟨wd.heap.size,0,none⟩) 1 1) 1 [.int .i64 2,.int .i64 (adr nb v)]:=by rw [hv];exact reads_new wd [.int .i64 2,.int .i64 (adr nb v)] 38 2 rfl
  clear hv
  refine hK.out _ _ ⟨Kc B1 d2,Kc B1 d3,Kc B1 yC⟩ (fun hHeld=>?_)
  clear hK K
  try simp only [Ep]
  refine Rdy 11 rfl (fun K hK=>?_)
  refine step_aps tEvs rfl _ _ rfl tb _ (E++[((5:Int),(k:Int))]).length _ rfl (Ob HD.ev B1) _ 1 _ rfl RN (one_ev _ _) (by have:=v0.out;omega) (by have:=HD.chg.size;have:=B1.size;omega) ?_
  intro vE w7 oe o2 z2 _
  have j0:Chg (fun q=>(Value.slice (some ⟨g0,0,none⟩) (E.length+1) b1).ownBlock=some q) wd w7:=Chg.trans (Chg.of_below B1) o2
  have z1:∀ q,vE.ownBlock=some q→(Value.slice (some ⟨g0,0,none⟩) (E.length+1) b1).ownBlock=some q∨wd.heap.size≤q:=fun q hq=>by
   rcases z2 with h | ⟨gg,h,h2⟩
   ·exact Or.inl (h ▸ hq)
   have e3:gg=q:=Option.some.inj (h.symm.trans hq)
   have:=B1.size
   exact Or.inr (by omega)
  obtain ⟨ge,ce,rfl⟩:=own_pos oe (by omega)
  rw [v0.out] at oe
  have b3:w7.ownsRow tb 38 2 (.slice (some ⟨ge,0,none⟩) ((E++[((5:Int),(k:Int))]).length+1) ce) ((E++[((5:Int),(k:Int))]).length+1) (evs (E++[((5:Int),(k:Int))])++[.int .i64 2,.int .i64 (adr nb v)]):=by rw [v0.out];exact oe
  have H7:=HD.event (e:=(2,adr nb v)) b3 j0 z1
  have l0:=Lib.hid (fun q (h1:w.heap.size≤q) (h2:q < w2.heap.size) (e:(Value.slice (some ⟨g0,0,none⟩) (E.length+1) b1).ownBlock=some q)=>show False from b2.out q h1 h2 (Option.some.inj e))
  have w0:=Lib.hid (fun q (h:OwnMB (.slice (some ⟨g,0,none⟩) rs.length cr) (.slice pv h0.length cv) (.slice (some ⟨gA,0,none⟩) b0.length cA) us q) (e:(Value.slice (some ⟨g0,0,none⟩) (E.length+1) b1).ownBlock=some q)=>show False from (HD.eb q e).2.1 h)
  have f1:∀ q,w.heap.size≤q→q < w2.heap.size→¬ge=q:=fun q h1 h2 e=>by
   rcases z1 q (by subst e;rfl) with h | h
   ·exact l0.out q h1 h2 h
   omega
  have r3:=Lib.hid f1;clear f1
  replace d0:=Gc j0 d0 (l0.out _ (by omega) (by omega))
  replace d1:=Gc j0 d1 (l0.out _ (by omega) (by omega))
  replace d2:=Gc j0 d2 (l0.out _ (by omega) (by omega))
  replace d3:=Gc j0 d3 (l0.out _ (by omega) (by omega))
  replace d4:=Gc j0 d4 (l0.out _ (by omega) (by omega))
  replace Y0:=Gf j0 (Lc Z0) Y0 (l0.out _ (by omega) (by omega));replace Z0:=Gc j0 Z0 (l0.out _ (by omega) (by omega))
  replace Y1:=Gf j0 (Lc Z1) Y1 (l0.out _ (by omega) (by omega));replace Z1:=Gc j0 Z1 (l0.out _ (by omega) (by omega))
  replace Y2:=Gf j0 (Lc Z2) Y2 (l0.out _ (by omega) (by omega));replace Z2:=Gc j0 Z2 (l0.out _ (by omega) (by omega))
  replace Y3:=Gf j0 (Lc Z3) Y3 (l0.out _ (by omega) (by omega));replace Z3:=Gc j0 Z3 (l0.out _ (by omega) (by omega))
  replace A5:=Gf j0 (Lc A4) A5 (w0.out _ y1.out);replace A1:=Gc j0 A1 (w0.out _ (Or.inr (Or.inr (Or.inl rfl))));replace A4:=Gc j0 A4 (w0.out _ y1.out)
  replace yC:=Gc j0 yC (w0.out _ (Or.inl rfl))
  have y4:=j0.size
  clear HD j0 o2 z2 z1 oe b3 RN B1
  refine hK.out _ _ ⟨d2,d3,yC⟩ (fun hHeld=>?_)
  clear hK K
  try simp only [Act.put,sb]
  refine Rdy 12 rfl (fun K hK=>?_)
  go_simp
  refine hK.out _ _ hHeld (fun hHeld=>?_)
  clear hK K
  try simp only [Ep]
  refine Dn ?_
  clear l0 w0 yC hHeld
  have yR:=H7.own.regAt na (by omega);have u1:=H7.own.r.frozenAt na;have j3:=Lc yR;have f3:(na:Int) < (rs.length:Int):=by omega
  have yC:=H7.own.regAt nc (by omega);have j2:=H7.own.r.frozenAt nc;have h4:=Lc yC;have v3:(nc:Int) < (rs.length:Int):=by omega
  have D3:=H7.c3;have K3:=Lc D3;have b5:=Lc A1;have o4:=Lc A4;have bA:(nb:Int) < (b0.length:Int):=by omega
  rw [u3.out] at yC
  go_upto_region 13 with (fail)
  refine wp_region_still_tail 19 (by kernel_rfl) (by kernel_rfl) ?_
  simp only [List.take_succ_cons,List.take_zero,List.drop_succ_cons,List.drop_zero]
  repeat still_step
  refine wpStill_nil ?_
  change wpList _ _ _ _ _ (World.drew w7)
  have HD:=H7.drew;clear H7
  obtain ⟨we,m0⟩:∃ X,X=World.drew w7:=⟨_,rfl⟩
  rw [← m0] at HD ⊢
  have HB:=(show Below w7.heap.size w7 we from by rw [m0];exact Below.drew (Bs _))
  clear m0
  have yQ:=HD.own.regAt na (by omega)
  have fQ:=HD.own.r.frozenAt na
  have kQ:=Lc yQ
  have H2:=HD.reg na z
  clear D3 yR u1 yC j2 A1 A4
  replace Y0:=Kf HB (Lc Z0) Y0;replace Z0:=Kc HB Z0
  replace Y1:=Kf HB (Lc Z1) Y1;replace Z1:=Kc HB Z1
  replace Y2:=Kf HB (Lc Z2) Y2;replace Z2:=Kc HB Z2
  replace Y3:=Kf HB (Lc Z3) Y3;replace Z3:=Kc HB Z3
  replace d0:=Kc HB d0
  replace d1:=Kc HB d1
  replace d2:=Kc HB d2
  replace d3:=Kc HB d3
  replace d4:=Kc HB d4
  go_upto_region 28 with (fail)
  replace Y0:=Fs (b:=⟨g,na,none⟩) Y0 (.int .i64 z);replace Z0:=Nn (b:=g) (j:=na) Z0 (.int .i64 z)
  replace Y1:=Fs (b:=⟨g,na,none⟩) Y1 (.int .i64 z);replace Z1:=Nn (b:=g) (j:=na) Z1 (.int .i64 z)
  replace Y2:=Fs (b:=⟨g,na,none⟩) Y2 (.int .i64 z);replace Z2:=Nn (b:=g) (j:=na) Z2 (.int .i64 z)
  replace Y3:=Fs (b:=⟨g,na,none⟩) Y3 (.int .i64 z);replace Z3:=Nn (b:=g) (j:=na) Z3 (.int .i64 z)
  replace d0:=Nn (b:=g) (j:=na) d0 (.int .i64 z)
  replace d1:=Nn (b:=g) (j:=na) d1 (.int .i64 z)
  replace d2:=Nn (b:=g) (j:=na) d2 (.int .i64 z)
  replace d3:=Nn (b:=g) (j:=na) d3 (.int .i64 z)
  replace d4:=Nn (b:=g) (j:=na) d4 (.int .i64 z)
  clear HD HB
  have r0:Hid (mov ⟨4,(na:Int),(nb:Int),(nc:Int),d⟩ (rs.set na z) k=(k:Int)+1):=Lib.hid (by simp [mov])
  have u0:=Lib.hid (Ro H2.own.r (by first | omega | (simp;omega)))
  have qc:=H2.c0;have r1:=Lc qc
  have o1:¬ge=(w.heap.size+1+1):=r3.out _ (by omega) (by have:=Lc Z0;omega)
  go_wp2_with fail
  refine (l6Move_any (4) ((na:Int)) ((nb:Int)) ((nc:Int)) (d) _ (rs.set na z) k _ u0.out (by omega) (by first | omega | (simp;done) | (simp;omega))).mono ?_
  rintro e w9 ⟨rfl,i0⟩
  rw [r0.out]
  have H9:=H2.keep i0;have g3:=i0.size
  replace Y0:=Kf i0 (Lc Z0) Y0;replace Z0:=Kc i0 Z0
  replace Y1:=Kf i0 (Lc Z1) Y1;replace Z1:=Kc i0 Z1
  replace Y2:=Kf i0 (Lc Z2) Y2;replace Z2:=Kc i0 Z2
  replace Y3:=Kf i0 (Lc Z3) Y3;replace Z3:=Kc i0 Z3
  have j1:¬(w.heap.size+1+1)=(w.heap.size+1):=by omega
  have FR:=Lib.hid (H9.ret4 ((k:Int)+1) (w.heap.size+1+1) (by omega) (fun h=>by have:=g1.out _ h;omega) (fun h=>o1 (Option.some.inj h)) (.int .i64 ((k:Int)+1)) (.slice (some ⟨g,0,none⟩) rs.length cr) (.slice pv h0.length cv) (.slice (some ⟨gA,0,none⟩) b0.length cA))
  obtain ⟨x0,x1,x2,x3⟩:=cells4 (y:=.int .i64 ((k:Int)+1)) j1 Z0 Z1 Z2 Z3 (.int .i64 ((k:Int)+1)) (.slice (some ⟨g,0,none⟩) rs.length cr) (.slice pv h0.length cv) (.slice (some ⟨gA,0,none⟩) b0.length cA)
  have q0:=H9.c0;have qf:=H9.f0;have kq:=Lc q0
  have FO:=(H9.fin ((k:Int)+1)).2.1
  have t0:=FO.c0;have t1:=FO.c1;have t2:=FO.c2;have t3:=FO.c3
  have n0:=Lib.hid H9.eb
  have s0:=Nn (b:=(w.heap.size+1)) (j:=0) Z0 (.int .i64 ((k:Int)+1));have k3:=Fs (b:=⟨(w.heap.size+1),0,none⟩) Y0 (.int .i64 ((k:Int)+1))
  have s1:=Nn (b:=(w.heap.size+1)) (j:=0) Z1 (.int .i64 ((k:Int)+1));have n3:=Fs (b:=⟨(w.heap.size+1),0,none⟩) Y1 (.int .i64 ((k:Int)+1))
  have s2:=Nn (b:=(w.heap.size+1)) (j:=0) Z2 (.int .i64 ((k:Int)+1));have o3:=Fs (b:=⟨(w.heap.size+1),0,none⟩) Y2 (.int .i64 ((k:Int)+1))
  have s3:=Nn (b:=(w.heap.size+1)) (j:=0) Z3 (.int .i64 ((k:Int)+1));have q3:=Fs (b:=⟨(w.heap.size+1),0,none⟩) Y3 (.int .i64 ((k:Int)+1))
  have kR:=Lc Z0
  clear H2 H9 FO Z0 Z1 Z2 Z3 Y0 Y1 Y2 Y3 i0 u0 r0 qc r1
  go_wp2
  exact bodyPost_ret (v:=.tuple #[.agg #[.int .i64 ((k:Int)+1),(.slice (some ⟨g,0,none⟩) rs.length cr),(.slice pv h0.length cv),(.slice (some ⟨gA,0,none⟩) b0.length cA)],.slice (some ⟨ge,0,none⟩) ((E++[((5:Int),(k:Int))]).length+1) ce]) (by simp [results,Tryz.results100,go_sem,x0,x1,x2,x3]) rfl (by rw [y0.out,i1.out];exact ⟨_,rfl,FR.out.1,by have h:=FR.out.2.1;simpa [List.append_assoc] using h,fun q hq=>⟨(n0.out q hq).2.1,by rcases (n0.out q hq).2.2 with h | h;exact h.elim (fun h=>absurd h (n0.out q hq).2.1) Or.inl;exact Or.inr h⟩,FR.out.2.2⟩)
 obtain ⟨⟨p1,p2⟩,⟨p3,p4⟩,p5,p6⟩:=P5 rfl
 clear P1 P2 P3 P4 P5 P6 P7 P8 P9 f2 g2
 obtain ⟨na,rfl⟩:∃ n:Nat,a=n:=⟨a.toNat,by omega⟩
 obtain ⟨nb,rfl⟩:∃ n:Nat,i2=n:=⟨i2.toNat,by omega⟩
 obtain ⟨nc,rfl⟩:∃ n:Nat,i3=n:=⟨i3.toNat,by omega⟩
 have q2:(gr b0 na).length=4:=by unfold gr;rw [Int.toNat_natCast,List.getElem?_eq_getElem (by omega)];exact (k4.out _ (List.getElem_mem _)).1
 obtain ⟨gA,g5,hv⟩:=own_pos H.own.a.out (by simp only;omega)
 simp only [Value.slice.injEq,true_and] at hv
 obtain ⟨rfl,rfl⟩:=hv
 obtain ⟨ga,ca,A1,A2,A3⟩:=H.own.arrAt na (by simp only;omega) q2
 clear q2
 have f4:=n4.out (nb:Int)
 have yC:=H.own.regAt nb (by omega);have j2:=H.own.r.frozenAt nb;have h4:=Lc yC;have v3:(nb:Int) < (rs.length:Int):=by omega
 obtain ⟨v,hv⟩:∃ v:Nat,gi rs nb=v:=⟨(gi rs nb).toNat,by omega⟩
 have u3:=Lib.hid hv
 have y2:((v:Int) % 4).toNat=v % 4:=by omega
 have y0:Hid (T=⟨(k:Int)+1,rs,⟨h0,b0.set na ((gr b0 na).set (v % 4) (gi rs nc))⟩⟩):=Lib.hid (by rw [← HT.out];simp [stp,stPc,stRegs,stMem,hv,y2])
 have i1:Hid (EE=[((5:Int),(k:Int)),(3,adr na v)]):=Lib.hid (by rw [← HE.out];simp [stEvs,hv])
 clear HT HE
 clear y2
 rw [hv] at yC f4
 obtain ⟨j,hj⟩:∃ j:Nat,v % 4=j:=⟨_,rfl⟩
 have a4:j < 4:=by omega
 have k5:(v:Int).tmod 4=(j:Int):=by rw [Int.tmod_eq_emod_of_nonneg (by omega)];omega
 have j5:(j:Int) < 4:=by omega
 rw [hj] at y0
 obtain ⟨A4,A5⟩:=A3 j a4
 clear hj
 have y1:=Lib.hid (show OwnMB (.slice (some ⟨g,0,none⟩) rs.length cr) (.slice pv h0.length cv) (.slice (some ⟨gA,0,none⟩) b0.length cA) us ga from Or.inr (Or.inr (Or.inr ⟨na,_,A2,rfl⟩)))
 have r5:=g1.out ga y1.out
 have i4:=Lib.hid A2
 clear A3 A2 hv
 have q5:=g1.out gA (Or.inr (Or.inr (Or.inl rfl)))
 generalize gi (gr b0 na) (j:Int)=z0 at *
 go_upto_region 15 with (fail)
 refine wp_region_noPanic ?_
 refine wp_region_held_drew (S:=(fun W'=>W'.cell? ⟨w1.heap.size,1,none⟩=some (.int .i64 (na:Int))∧W'.cell? ⟨w1.heap.size,2,none⟩=some (.int .i64 (nb:Int))∧W'.cell? ⟨g,nb,none⟩=some (.int .i64 (v:Int)))) (by kernel_rfl) ⟨Kc (Below.drew (Bs w5)) d1,Kc (Below.drew (Bs w5)) d2,Kc (Below.drew (Bs w5)) yC⟩ (fun hHeld=>?_)
 have HD:=H.drew;clear H
 obtain ⟨wd,m0⟩:∃ X,X=World.drew w5:=⟨_,rfl⟩
 rw [← m0] at HD hHeld ⊢
 have HB:=(show Below w5.heap.size w5 wd from by rw [m0];exact Below.drew (Bs _))
 clear m0
 replace Y0:=Kf HB (Lc Z0) Y0;replace Z0:=Kc HB Z0
 replace Y1:=Kf HB (Lc Z1) Y1;replace Z1:=Kc HB Z1
 replace Y2:=Kf HB (Lc Z2) Y2;replace Z2:=Kc HB Z2
 replace Y3:=Kf HB (Lc Z3) Y3;replace Z3:=Kc HB Z3
 replace d0:=Kc HB d0
 replace d1:=Kc HB d1
 replace d2:=Kc HB d2
 replace d3:=Kc HB d3
 replace d4:=Kc HB d4
 replace A1:=Kc HB A1;replace A5:=Kf HB (Lc A4) A5;replace A4:=Kc HB A4
 replace yC:=Kc HB yC
 have o5:=HB.size;clear HB
 refine tq 0 96 rfl rfl ?_ ?_ ?_
 rotate_left
 ·intro W' hSw;obtain ⟨s0,s1,s2⟩:=hSw;go_simp;try with_reducible rfl
 simp only [Ep]
 refine tq 1 97 rfl rfl ?_ ?_ ?_
 rotate_left
 ·intro W' hSw;obtain ⟨s0,s1,s2⟩:=hSw;go_simp;try with_reducible rfl
 simp only [Ep]
 refine tq 2 98 rfl rfl ?_ ?_ ?_
 rotate_left
 ·intro W' hSw;obtain ⟨s0,s1,s2⟩:=hSw;go_simp;try with_reducible rfl
 simp only [Ep]
 refine tq 3 99 rfl rfl ?_ ?_ ?_
 rotate_left
 ·intro W' hSw;obtain ⟨s0,s1,s2⟩:=hSw;go_simp;try with_reducible rfl
 simp only [Ep]
 refine tq 4 100 rfl rfl ?_ ?_ ?_
 rotate_left
 ·intro W' hSw;obtain ⟨s0,s1,s2⟩:=hSw;go_simp;try with_reducible rfl
 simp only [Ep]
 refine tq 5 101 rfl rfl ?_ ?_ ?_
 rotate_left
 ·intro W' hSw;obtain ⟨s0,s1,s2⟩:=hSw;go_simp;try with_reducible rfl
 simp only [Ep]
 refine Rdy 6 rfl (fun K hK=>?_)
 go_simp
 refine hK.out _ _ hHeld (fun hHeld=>?_)
 clear hK K
 try simp only [Ep]
 refine tq 7 103 rfl rfl ?_ ?_ ?_
 rotate_left
 ·intro W' hSw;obtain ⟨s0,s1,s2⟩:=hSw;go_simp;try with_reducible rfl
 simp only [Ep]
 refine Rdy 8 rfl (fun K hK=>?_)
 go_simp
 refine (l3Address_any na v _ (by omega) (by omega)).mono ?_
 rintro e w6 ⟨rfl,a3⟩
 have hh:=a3.symm;subst hh;clear a3
 refine hK.out _ _ hHeld (fun hHeld=>?_)
 clear hK K
 try simp only [Ep]
 refine tq 9 105 rfl rfl ?_ ?_ ?_
 rotate_left
 ·intro W' hSw;obtain ⟨s0,s1,s2⟩:=hSw;go_simp;try with_reducible rfl
 simp only [Ep]
 refine Rdy 10 rfl (fun K hK=>?_)
 go_simp
 obtain ⟨v1,hv⟩:∃ X,X=World.alloc wd (.cells #[.int .i64 3,.int .i64 (adr na v)] 38):=⟨_,rfl⟩
 rw [← hv]
 have B1:Below wd.heap.size wd v1:=by rw [hv];exact bal (Bs _) _
 have RN:Reads v1 2 (.slice (some ⟨wd.heap.size,0,none⟩) 1 1) 1 [.int .i64 3,.int .i64 (adr na v)]:=by rw [hv];exact reads_new wd [.int .i64 3,.int .i64 (adr na v)] 38 2 rfl
 clear hv
 refine hK.out _ _ ⟨Kc B1 d1,Kc B1 d2,Kc B1 yC⟩ (fun hHeld=>?_)
 clear hK K
 try simp only [Ep]
 refine Rdy 11 rfl (fun K hK=>?_)
 refine step_aps tEvs rfl _ _ rfl tb _ (E++[((5:Int),(k:Int))]).length _ rfl (Ob HD.ev B1) _ 1 _ rfl RN (one_ev _ _) (by have:=v0.out;omega) (by have:=HD.chg.size;have:=B1.size;omega) ?_
 intro vE w7 oe o2 z2 _
 have j0:Chg (fun q=>(Value.slice (some ⟨g0,0,none⟩) (E.length+1) b1).ownBlock=some q) wd w7:=Chg.trans (Chg.of_below B1) o2
 have z1:∀ q,vE.ownBlock=some q→(Value.slice (some ⟨g0,0,none⟩) (E.length+1) b1).ownBlock=some q∨wd.heap.size≤q:=fun q hq=>by
  rcases z2 with h | ⟨gg,h,h2⟩
  ·exact Or.inl (h ▸ hq)
  have e3:gg=q:=Option.some.inj (h.symm.trans hq)
  have:=B1.size
  exact Or.inr (by omega)
 obtain ⟨ge,ce,rfl⟩:=own_pos oe (by omega)
 rw [v0.out] at oe
 have b3:w7.ownsRow tb 38 2 (.slice (some ⟨ge,0,none⟩) ((E++[((5:Int),(k:Int))]).length+1) ce) ((E++[((5:Int),(k:Int))]).length+1) (evs (E++[((5:Int),(k:Int))])++[.int .i64 3,.int .i64 (adr na v)]):=by rw [v0.out];exact oe
 have H7:=HD.event (e:=(3,adr na v)) b3 j0 z1
 have l0:=Lib.hid (fun q (h1:w.heap.size≤q) (h2:q < w2.heap.size) (e:(Value.slice (some ⟨g0,0,none⟩) (E.length+1) b1).ownBlock=some q)=>show False from b2.out q h1 h2 (Option.some.inj e))
 have w0:=Lib.hid (fun q (h:OwnMB (.slice (some ⟨g,0,none⟩) rs.length cr) (.slice pv h0.length cv) (.slice (some ⟨gA,0,none⟩) b0.length cA) us q) (e:(Value.slice (some ⟨g0,0,none⟩) (E.length+1) b1).ownBlock=some q)=>show False from (HD.eb q e).2.1 h)
 have f1:∀ q,w.heap.size≤q→q < w2.heap.size→¬ge=q:=fun q h1 h2 e=>by
  rcases z1 q (by subst e;rfl) with h | h
  ·exact l0.out q h1 h2 h
  omega
 have r3:=Lib.hid f1;clear f1
 replace d0:=Gc j0 d0 (l0.out _ (by omega) (by omega))
 replace d1:=Gc j0 d1 (l0.out _ (by omega) (by omega))
 replace d2:=Gc j0 d2 (l0.out _ (by omega) (by omega))
 replace d3:=Gc j0 d3 (l0.out _ (by omega) (by omega))
 replace d4:=Gc j0 d4 (l0.out _ (by omega) (by omega))
 replace Y0:=Gf j0 (Lc Z0) Y0 (l0.out _ (by omega) (by omega));replace Z0:=Gc j0 Z0 (l0.out _ (by omega) (by omega))
 replace Y1:=Gf j0 (Lc Z1) Y1 (l0.out _ (by omega) (by omega));replace Z1:=Gc j0 Z1 (l0.out _ (by omega) (by omega))
 replace Y2:=Gf j0 (Lc Z2) Y2 (l0.out _ (by omega) (by omega));replace Z2:=Gc j0 Z2 (l0.out _ (by omega) (by omega))
 replace Y3:=Gf j0 (Lc Z3) Y3 (l0.out _ (by omega) (by omega));replace Z3:=Gc j0 Z3 (l0.out _ (by omega) (by omega))
 replace A5:=Gf j0 (Lc A4) A5 (w0.out _ y1.out);replace A1:=Gc j0 A1 (w0.out _ (Or.inr (Or.inr (Or.inl rfl))));replace A4:=Gc j0 A4 (w0.out _ y1.out)
 replace yC:=Gc j0 yC (w0.out _ (Or.inl rfl))
 have y4:=j0.size
 clear HD j0 o2 z2 z1 oe b3 RN B1
 refine hK.out _ _ ⟨d1,d2,yC⟩ (fun hHeld=>?_)
 clear hK K
 try simp only [Act.put,sb]
 refine Rdy 12 rfl (fun K hK=>?_)
 go_simp
 refine hK.out _ _ hHeld (fun hHeld=>?_)
 clear hK K
 try simp only [Ep]
 refine Dn ?_
 clear l0 w0 yC hHeld
 have yR:=H7.own.regAt nc (by omega);have u1:=H7.own.r.frozenAt nc;have j3:=Lc yR;have f3:(nc:Int) < (rs.length:Int):=by omega
 have yC:=H7.own.regAt nb (by omega);have j2:=H7.own.r.frozenAt nb;have h4:=Lc yC;have v3:(nb:Int) < (rs.length:Int):=by omega
 have D3:=H7.c3;have K3:=Lc D3;have b5:=Lc A1;have o4:=Lc A4;have bA:(na:Int) < (b0.length:Int):=by omega
 rw [u3.out] at yC
 generalize gi rs nc=z at *
 go_upto_region 16 with (fail)
 refine wp_region_still_tail 19 (by kernel_rfl) (by kernel_rfl) ?_
 simp only [List.take_succ_cons,List.take_zero,List.drop_succ_cons,List.drop_zero]
 repeat still_step
 refine wpStill_nil ?_
 change wpList _ _ _ _ _ (World.drew w7)
 have HD:=H7.drew;clear H7
 obtain ⟨we,m0⟩:∃ X,X=World.drew w7:=⟨_,rfl⟩
 rw [← m0] at HD ⊢
 have HB:=(show Below w7.heap.size w7 we from by rw [m0];exact Below.drew (Bs _))
 clear m0
 have yQ:=Kc HB A4
 have fQ:=Kf HB o4 A5
 have kQ:=Lc yQ
 have H2:=HD.arr i4.out j z
 clear D3 yR u1 yC j2 A1 A4 A5
 replace Y0:=Kf HB (Lc Z0) Y0;replace Z0:=Kc HB Z0
 replace Y1:=Kf HB (Lc Z1) Y1;replace Z1:=Kc HB Z1
 replace Y2:=Kf HB (Lc Z2) Y2;replace Z2:=Kc HB Z2
 replace Y3:=Kf HB (Lc Z3) Y3;replace Z3:=Kc HB Z3
 replace d0:=Kc HB d0
 replace d1:=Kc HB d1
 replace d2:=Kc HB d2
 replace d3:=Kc HB d3
 replace d4:=Kc HB d4
 go_upto_region 28 with (fail)
 replace Y0:=Fs (b:=⟨ga,j,none⟩) Y0 (.int .i64 z);replace Z0:=Nn (b:=ga) (j:=j) Z0 (.int .i64 z)
 replace Y1:=Fs (b:=⟨ga,j,none⟩) Y1 (.int .i64 z);replace Z1:=Nn (b:=ga) (j:=j) Z1 (.int .i64 z)
 replace Y2:=Fs (b:=⟨ga,j,none⟩) Y2 (.int .i64 z);replace Z2:=Nn (b:=ga) (j:=j) Z2 (.int .i64 z)
 replace Y3:=Fs (b:=⟨ga,j,none⟩) Y3 (.int .i64 z);replace Z3:=Nn (b:=ga) (j:=j) Z3 (.int .i64 z)
 replace d0:=Nn (b:=ga) (j:=j) d0 (.int .i64 z)
 replace d1:=Nn (b:=ga) (j:=j) d1 (.int .i64 z)
 replace d2:=Nn (b:=ga) (j:=j) d2 (.int .i64 z)
 replace d3:=Nn (b:=ga) (j:=j) d3 (.int .i64 z)
 replace d4:=Nn (b:=ga) (j:=j) d4 (.int .i64 z)
 clear HD HB
 have r0:Hid (mov ⟨5,(na:Int),(nb:Int),(nc:Int),d⟩ (rs) k=(k:Int)+1):=Lib.hid (by simp [mov])
 have u0:=Lib.hid (Ro H2.own.r (by first | omega | (simp;omega)))
 have qc:=H2.c0;have r1:=Lc qc
 have o1:¬ge=(w.heap.size+1+1):=r3.out _ (by omega) (by have:=Lc Z0;omega)
 go_wp2_with fail
 refine (l6Move_any (5) ((na:Int)) ((nb:Int)) ((nc:Int)) (d) _ (rs) k _ u0.out (by omega) (by first | omega | (simp;done) | (simp;omega))).mono ?_
 rintro e w9 ⟨rfl,i0⟩
 rw [r0.out]
 have H9:=H2.keep i0;have g3:=i0.size
 replace Y0:=Kf i0 (Lc Z0) Y0;replace Z0:=Kc i0 Z0
 replace Y1:=Kf i0 (Lc Z1) Y1;replace Z1:=Kc i0 Z1
 replace Y2:=Kf i0 (Lc Z2) Y2;replace Z2:=Kc i0 Z2
 replace Y3:=Kf i0 (Lc Z3) Y3;replace Z3:=Kc i0 Z3
 have j1:¬(w.heap.size+1+1)=(w.heap.size+1):=by omega
 have FR:=Lib.hid (H9.ret4 ((k:Int)+1) (w.heap.size+1+1) (by omega) (fun h=>by have:=g1.out _ h;omega) (fun h=>o1 (Option.some.inj h)) (.int .i64 ((k:Int)+1)) (.slice (some ⟨g,0,none⟩) rs.length cr) (.slice pv h0.length cv) (.slice (some ⟨gA,0,none⟩) b0.length cA))
 obtain ⟨x0,x1,x2,x3⟩:=cells4 (y:=.int .i64 ((k:Int)+1)) j1 Z0 Z1 Z2 Z3 (.int .i64 ((k:Int)+1)) (.slice (some ⟨g,0,none⟩) rs.length cr) (.slice pv h0.length cv) (.slice (some ⟨gA,0,none⟩) b0.length cA)
 have q0:=H9.c0;have qf:=H9.f0;have kq:=Lc q0
 have FO:=(H9.fin ((k:Int)+1)).2.1
 have t0:=FO.c0;have t1:=FO.c1;have t2:=FO.c2;have t3:=FO.c3
 have n0:=Lib.hid H9.eb
 have s0:=Nn (b:=(w.heap.size+1)) (j:=0) Z0 (.int .i64 ((k:Int)+1));have k3:=Fs (b:=⟨(w.heap.size+1),0,none⟩) Y0 (.int .i64 ((k:Int)+1))
 have s1:=Nn (b:=(w.heap.size+1)) (j:=0) Z1 (.int .i64 ((k:Int)+1));have n3:=Fs (b:=⟨(w.heap.size+1),0,none⟩) Y1 (.int .i64 ((k:Int)+1))
 have s2:=Nn (b:=(w.heap.size+1)) (j:=0) Z2 (.int .i64 ((k:Int)+1));have o3:=Fs (b:=⟨(w.heap.size+1),0,none⟩) Y2 (.int .i64 ((k:Int)+1))
 have s3:=Nn (b:=(w.heap.size+1)) (j:=0) Z3 (.int .i64 ((k:Int)+1));have q3:=Fs (b:=⟨(w.heap.size+1),0,none⟩) Y3 (.int .i64 ((k:Int)+1))
 have kR:=Lc Z0
 clear H2 H9 FO Z0 Z1 Z2 Z3 Y0 Y1 Y2 Y3 i0 u0 r0 qc r1
 go_wp2
 exact bodyPost_ret (v:=.tuple #[.agg #[.int .i64 ((k:Int)+1),(.slice (some ⟨g,0,none⟩) rs.length cr),(.slice pv h0.length cv),(.slice (some ⟨gA,0,none⟩) b0.length cA)],.slice (some ⟨ge,0,none⟩) ((E++[((5:Int),(k:Int))]).length+1) ce]) (by simp [results,Tryz.results100,go_sem,x0,x1,x2,x3]) rfl (by rw [y0.out,i1.out];exact ⟨_,rfl,FR.out.1,by have h:=FR.out.2.1;simpa [List.append_assoc] using h,fun q hq=>⟨(n0.out q hq).2.1,by rcases (n0.out q hq).2.2 with h | h;exact h.elim (fun h=>absurd h (n0.out q hq).2.1) Or.inl;exact Or.inr h⟩,FR.out.2.2⟩)
end Go.Proofs.YtkjedgnepnbkpaaGreat
