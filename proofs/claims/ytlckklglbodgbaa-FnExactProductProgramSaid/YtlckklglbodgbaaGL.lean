/-
 Parts of the proofs of the laws FnExactProductProgram.
-/
import Derived.Test.YtlckklglbodgbaaQA
set_option linter.all false
namespace Go.Proofs.Ytlckklglbodgbaa
open Go.RowKit
theorem wi_lt (t:Int) (n:Nat):wi t 0 ((n:Int)-1)=(decide (0≤t)&&decide (t < n)):=by
 unfold wi
 rw [← Bool.decide_and,decide_eq_decide];omega
theorem wi_one (t:Int):wi t 0 0=(t == 0):=by
 unfold wi
 rw [Bool.eq_iff_iff];simp;omega
theorem wi_three (t:Int):wi t 1 3=(decide (1≤t)&&decide (t≤3)):=by
 unfold wi
 rw [← Bool.decide_and]
theorem len_all (p:St→Bool) (l:List St):decide (l.length=0)=(decide (l.length=0)&&l.all p):=by cases l <;> simp
theorem stOk_as {nv na d:Nat} {k t c:Int} {ix val:Ex} {body els:List St} (h1:(k == 1||k == 5)=true):stOk nv na (d+1) (.mk k t ix val c body els)=((wi t 0 ((nv:Int)-1)&&((c == 0)&&(decide (body.length=0)&&(decide (els.length=0)&&(noneE ix&&exRight nv na val)))))&&(body.all (stOk nv na d)&&els.all (stOk nv na d))):=by
 have hk:k=1∨k=5:=by simpa using h1
 have a0:(k == 3||k == 4)=false:=by rcases hk with rfl | rfl <;> rfl
 have h2:(k == 2)=false:=by rcases hk with rfl | rfl <;> rfl
 simp only [stOk,partsS,h1,a0,h2,wi_lt];have hb:=len_all (stOk nv na d) body;have he:=len_all (stOk nv na d) els;generalize body.all (stOk nv na d)=A at *;generalize els.all (stOk nv na d)=E at *
 generalize decide (body.length=0)=x1 at *;generalize decide (els.length=0)=x2 at *;generalize (c == 0)=x3;generalize noneE ix=x4;generalize decide (0≤t)=x5;generalize decide (t < (nv:Int))=x6;generalize exRight nv na val=x7
 revert hb he
 cases x1 <;> cases x2 <;> cases x3 <;> cases x4 <;> cases x5 <;> cases x6 <;> cases x7 <;> cases A <;> cases E <;> simp
theorem stOk_st {nv na d:Nat} {k t c:Int} {ix val:Ex} {body els:List St} (h1:(k == 2)=true):stOk nv na (d+1) (.mk k t ix val c body els)=((wi t 0 ((na:Int)-1)&&((c == 0)&&(decide (body.length=0)&&(decide (els.length=0)&&(exRight nv na ix&&(atomK ix.k&&exRight nv na val))))))&&(body.all (stOk nv na d)&&els.all (stOk nv na d))):=by
 have hk:k=2:=by simpa using h1
 have a0:(k == 3||k == 4)=false:=by subst hk;rfl
 have h2:(k == 1||k == 5)=false:=by subst hk;rfl
 simp only [stOk,partsS,h1,a0,h2,wi_lt];have hb:=len_all (stOk nv na d) body;have he:=len_all (stOk nv na d) els;generalize body.all (stOk nv na d)=A at *;generalize els.all (stOk nv na d)=E at *
 generalize decide (body.length=0)=x1 at *;generalize decide (els.length=0)=x2 at *;generalize (c == 0)=x3;generalize noneE ix=x4;generalize decide (0≤t)=x5;generalize decide (t < (na:Int))=x6;generalize exRight nv na val=x7;generalize exRight nv na ix=x8;generalize atomK ix.k=x9
 revert hb he
 cases x1 <;> cases x2 <;> cases x3 <;> cases x5 <;> cases x6 <;> cases x7 <;> cases x8 <;> cases x9 <;> cases A <;> cases E <;> simp
theorem stOk_if {nv na d:Nat} {k t c:Int} {ix val:Ex} {body els:List St} (h1:(k == 3)=true):stOk nv na (d+1) (.mk k t ix val c body els)=((wi t 0 0&&((c == 0)&&(noneE ix&&exRight nv na val)))&&(body.all (stOk nv na d)&&els.all (stOk nv na d))):=by
 have hk:k=3:=by simpa using h1
 subst hk;have e1:((3:Int) == 3||(3:Int) == 4)=true:=rfl;have e2:((3:Int) == 4)=false:=rfl;have e3:((3:Int) == 1||(3:Int) == 5)=false:=rfl;have e4:((3:Int) == 2)=false:=rfl;simp only [stOk,partsS,e1,e2,e3,e4,h1,wi_one];generalize body.all (stOk nv na d)=A at *;generalize els.all (stOk nv na d)=E at *
 generalize (c == 0)=x3;generalize noneE ix=x4;generalize (t == 0)=x5;generalize exRight nv na val=x7
 cases x3 <;> cases x4 <;> cases x5 <;> cases x7 <;> cases A <;> cases E <;> simp
theorem stOk_re {nv na d:Nat} {k t c:Int} {ix val:Ex} {body els:List St} (h1:(k == 4)=true):stOk nv na (d+1) (.mk k t ix val c body els)=((wi t 0 0&&(wi c 1 3&&(decide (els.length=0)&&(noneE ix&&noneE val))))&&(body.all (stOk nv na d)&&els.all (stOk nv na d))):=by
 have hk:k=4:=by simpa using h1
 subst hk;have e1:((4:Int) == 3||(4:Int) == 4)=true:=rfl;have e2:((4:Int) == 3)=false:=rfl;have e3:((4:Int) == 1||(4:Int) == 5)=false:=rfl;have e4:((4:Int) == 2)=false:=rfl;simp only [stOk,partsS,e1,e2,e3,e4,h1,wi_one,wi_three];have he:=len_all (stOk nv na d) els;generalize body.all (stOk nv na d)=A at *;generalize els.all (stOk nv na d)=E at *
 generalize decide (els.length=0)=x2 at *;generalize decide (1≤c)=x3;generalize decide (c≤3)=x6;generalize noneE ix=x4;generalize (t == 0)=x5;generalize noneE val=x7
 revert he
 cases x2 <;> cases x3 <;> cases x6 <;> cases x4 <;> cases x5 <;> cases x7 <;> cases A <;> cases E <;> simp
theorem stOk_no {nv na d:Nat} {k t c:Int} {ix val:Ex} {body els:List St} (h:¬k=1∧¬k=2∧¬k=3∧¬k=4∧¬k=5):stOk nv na (d+1) (.mk k t ix val c body els)=false:=by
 have e1:(k == 1||k == 5)=false:=by simp [h]
 have e2:(k == 2)=false:=by simp [h]
 have e3:(k == 3)=false:=by simp [h]
 have e4:(k == 4)=false:=by simp [h]
 simp only [stOk,e1,e2,e3,e4];simp
theorem stR_of {nv na d:Nat} {c:Int} {s:St} {T:Bool} (h:stOk nv na (d+1) s=(T&&(s.body.all (stOk nv na d)&&s.els.all (stOk nv na d)))):stR nv na (d+1) c s=(T&&((s.body.all (stOk nv na d)&&s.els.all (stOk nv na d))&&decide (c+1+blC d s.body s.body.length+blC d s.els s.els.length≤60))):=by
 unfold stR
 rw [h,Bool.and_assoc];congr 2
 rw [decide_eq_decide];simp only [stC,blC];rw [List.take_of_length_le Lr,List.take_of_length_le Lr];omega
theorem stR_big {nv na d:Nat} {c:Int} {s:St} (h:60 < c+1):stR nv na d c s=false:=by
 unfold stR
 have:=stC_ge d s
 rw [decide_eq_false (by omega)];simp
theorem stmt_zero (cb:Nat) (pv pa:Option Addr) (nv cv na ca:Nat) (vb:Value) (B:Nat→Prop) (hB:∀ q,B q→¬q=cb) (hnv:nv≤1000000000∧na≤1000000000) (D:Nat) (n:Sn) (s:St) (c dp:Int) (w:World) (hdp:dp=6-((0:Nat):Int)) (hc:w.cell? ⟨cb,0,none⟩=some (.int .i64 c)) (hf:w.frozen? ⟨cb,0,none⟩=false) (hc0:0≤c) (hc1:c≤60) :
  Calls Try.prog 54 #[.agg #[.slice pv nv cv,.slice pa na ca,vb],.agg #[.int .i64 n.k,.int .i64 n.t,.int .i64 n.ix.k,.int .i64 n.ix.v,.slice n.ix.p n.ix.n n.ix.c,.int .i64 n.val.k,.int .i64 n.val.v,.slice n.val.p n.val.n n.val.c,.int .i64 n.c,.slice n.bp n.bn n.bc,.slice n.ep n.en n.ec],.int .i64 dp,.pointer (some ⟨cb,0,none⟩)] w fun r w'=>ScP cb c (stC 0 s) (stR nv na 0 c s) w r w':=by
 have y3:=Hi hB;clear hB y3;have HQ:Hid (stR nv na 0 c s=false):=Hi rfl;generalize stR nv na 0 c s=Q at *
 have zJ:(5:Int) < dp:=by omega
 have yJ:dp≤6:=by omega
 clear hdp;have hC:Chg (fun k=>k=cb) w w:=Chg.refl _ _;have l1:∀ q,(fun k=>k=cb) q→q=cb:=fun q h=>h
 have zP:=Lc hc;go_enter Try.func54,Try.ntmps54
 by_cases hbig:(60:Int) < c+1
 ·skip
  go_upto_region 2 with (fail)
  generalize hnw:World.alloc _ _=w1;have hb:=nmh hnw;clear hnw
  replace hC:=((((hC.setCell cb (0) (.int .i64 (c+1)) (fun _=>rfl)).trans (Cb (bal (Bs _) _))).trans (Cb (bal (Bs _) _)))).trans (Cb hb);have v3:=hb.size;simp only [Sa,Ss] at v3;replace hf:=Kf hb (Lc (Ac (Ac (Tc _ (cb) 0 (.int .i64 (c+1)) hc) _) _)) (Fa (Lc (Ac (Tc _ (cb) 0 (.int .i64 (c+1)) hc) _)) (Fa (Lc (Tc _ (cb) 0 (.int .i64 (c+1)) hc)) (Fs hf _) _) _);replace hc:w1.cell? ⟨cb,0,none⟩=some (.int .i64 (c+1)):=Kc hb (Ac (Ac (Tc _ (cb) 0 (.int .i64 (c+1)) hc) _) _);have wJ:Bk w1 (w.heap.size) [.slice pv nv cv,.slice pa na ca,vb]:=Bb (Bk.al (Bk.nw (by simp) rfl) (.cells #[.int .i64 n.k,.int .i64 n.t,.int .i64 n.ix.k,.int .i64 n.ix.v,.slice n.ix.p n.ix.n n.ix.c,.int .i64 n.val.k,.int .i64 n.val.v,.slice n.val.p n.val.n n.val.c,.int .i64 n.c,.slice n.bp n.bn n.bc,.slice n.ep n.en n.ec] 51)) hb;have xJ:Bk w1 (w.heap.size+1) [.int .i64 n.k,.int .i64 n.t,.int .i64 n.ix.k,.int .i64 n.ix.v,.slice n.ix.p n.ix.n n.ix.c,.int .i64 n.val.k,.int .i64 n.val.v,.slice n.val.p n.val.n n.val.c,.int .i64 n.c,.slice n.bp n.bn n.bc,.slice n.ep n.en n.ec]:=Bb (Bk.nw (by simp) rfl) hb;clear hb;have aQ:=Lc hc;have bQ:=Bk.lz wJ;have cQ:=Bk.lz xJ;have c0:=Hi (Ai hc (Ai hf hC));clear hC;go_wp2
  exact bodyPost_ret (v:=.bool false) (by simp [results,Try.results54,go_sem]) rfl (scp_no HQ c0)
 skip
 go_upto_region 2 with (fail)
 generalize hnw:World.alloc _ _=w1;have hb:=nmh hnw;clear hnw
 replace hC:=((((hC.setCell cb (0) (.int .i64 (c+1)) (fun _=>rfl)).trans (Cb (bal (Bs _) _))).trans (Cb (bal (Bs _) _)))).trans (Cb hb);have x3:=hb.size;simp only [Sa,Ss] at x3;replace hf:=Kf hb (Lc (Ac (Ac (Tc _ (cb) 0 (.int .i64 (c+1)) hc) _) _)) (Fa (Lc (Ac (Tc _ (cb) 0 (.int .i64 (c+1)) hc) _)) (Fa (Lc (Tc _ (cb) 0 (.int .i64 (c+1)) hc)) (Fs hf _) _) _);replace hc:w1.cell? ⟨cb,0,none⟩=some (.int .i64 (c+1)):=Kc hb (Ac (Ac (Tc _ (cb) 0 (.int .i64 (c+1)) hc) _) _);have b0:Bk w1 (w.heap.size) [.slice pv nv cv,.slice pa na ca,vb]:=Bb (Bk.al (Bk.nw (by simp) rfl) (.cells #[.int .i64 n.k,.int .i64 n.t,.int .i64 n.ix.k,.int .i64 n.ix.v,.slice n.ix.p n.ix.n n.ix.c,.int .i64 n.val.k,.int .i64 n.val.v,.slice n.val.p n.val.n n.val.c,.int .i64 n.c,.slice n.bp n.bn n.bc,.slice n.ep n.en n.ec] 51)) hb;have a0:Bk w1 (w.heap.size+1) [.int .i64 n.k,.int .i64 n.t,.int .i64 n.ix.k,.int .i64 n.ix.v,.slice n.ix.p n.ix.n n.ix.c,.int .i64 n.val.k,.int .i64 n.val.v,.slice n.val.p n.val.n n.val.c,.int .i64 n.c,.slice n.bp n.bn n.bc,.slice n.ep n.en n.ec]:=Bb (Bk.nw (by simp) rfl) hb;clear hb;have g0:=Lc hc;have wL:=Bk.lz b0;have xL:=Bk.lz a0;have c0:=Hi (Ai hc (Ai hf hC));clear hC;go_wp2
 exact bodyPost_ret (v:=.bool false) (by simp [results,Try.results54,go_sem]) rfl (scp_no HQ c0)
set_option maxHeartbeats 6400000 in
set_option maxRecDepth 100000 in
theorem stmt_of (cb:Nat) (pv pa:Option Addr) (nv cv na ca:Nat) (vb:Value) (B:Nat→Prop) (hB:∀ q,B q→¬q=cb) (hnv:nv≤1000000000∧na≤1000000000) (d:Nat) (hd:d+1≤5) (H:∀ (D:Nat) (u:Value) (L:List St) (c dp:Int) (w:World),dp=6-(d:Int)→BlAt w B D u L→w.cell? ⟨cb,0,none⟩=some (.int .i64 c)→w.frozen? ⟨cb,0,none⟩=false→0≤c→c≤60 →
  Calls Try.prog 24 #[.agg #[.slice pv nv cv,.slice pa na ca,vb],u,.int .i64 dp,.pointer (some ⟨cb,0,none⟩)] w fun r w'=>ScP cb c (blC d L L.length) (blR nv na d c L) w r w')
  (D:Nat) (n:Sn) (s:St) (c dp:Int) (w:World) (hdp:dp=6-((d+1:Nat):Int)) (hx:StAt w B D n s) (hc:w.cell? ⟨cb,0,none⟩=some (.int .i64 c)) (hf:w.frozen? ⟨cb,0,none⟩=false) (hc0:0≤c) (hc1:c≤60) :
  Calls Try.prog 54 #[.agg #[.slice pv nv cv,.slice pa na ca,vb],.agg #[.int .i64 n.k,.int .i64 n.t,.int .i64 n.ix.k,.int .i64 n.ix.v,.slice n.ix.p n.ix.n n.ix.c,.int .i64 n.val.k,.int .i64 n.val.v,.slice n.val.p n.val.n n.val.c,.int .i64 n.c,.slice n.bp n.bn n.bc,.slice n.ep n.en n.ec],.int .i64 dp,.pointer (some ⟨cb,0,none⟩)] w fun r w'=>ScP cb c (stC (d+1) s) (stR nv na (d+1) c s) w r w':=by
 have zJ:¬(5:Int) < dp:=by omega
 have yJ:0≤dp:=by omega
 have n1:=Hi hdp;clear hdp;have y3:=Hi hB;clear hB;have IH:=Hi H;clear H
 cases D with
 | zero=>cases hx
 | succ D =>
  obtain ⟨k,t,ix,val,cc,body,els⟩:=s;obtain ⟨nk,nt,q0,f0,m1,bp,bn,bc,ep,en,ec⟩:=n;obtain ⟨q1,q2,q3,⟨D1,hi⟩,⟨D2,hv⟩,a4,b4⟩:=hx;simp only at q1 q2 q3 hi hv a4 b4
  subst q1 q2 q3;obtain ⟨a5,c5,r5⟩:=a4.shape;obtain ⟨a6,c6,r6⟩:=b4.shape;simp only [Value.slice.injEq] at r5 r6;obtain ⟨rfl,rfl,rfl⟩:=r5;obtain ⟨rfl,rfl,rfl⟩:=r6;have lO:=fun W (hW:Chg (fun q=>q=cb) w W)=>ExAt.keep hW (fun q hq _ h=>y3.out q hq h) (fun _ h _=>h) (Nat.le_refl D1) hi
  have mO:=fun W (hW:Chg (fun q=>q=cb) w W)=>ExAt.keep hW (fun q hq _ h=>y3.out q hq h) (fun _ h _=>h) (Nat.le_refl D2) hv
  have nO:=fun W (hW:Chg (fun q=>q=cb) w W)=>BlAt.keep (show BlAt w B D _ body from a4) hW (fun q hq _ h=>y3.out q hq h) (fun _ h _=>h) (Nat.le_refl D)
  have oO:=fun W (hW:Chg (fun q=>q=cb) w W)=>BlAt.keep (show BlAt w B D _ els from b4) hW (fun q hq _ h=>y3.out q hq h) (fun _ h _=>h) (Nat.le_refl D)
  have HI:=Hi lO;have HV:=Hi mO;have H5:=Hi nO;have H6:=Hi oO;have u0:=Hi hi.shape;have z3:=Hi hv.shape;have qQ:body.length≤9223372036854775807:=by obtain ⟨_,_,h,_⟩:=a4;exact h.2.1
  have rQ:els.length≤9223372036854775807:=by obtain ⟨_,_,h,_⟩:=b4;exact h.2.1
  clear lO mO nO oO hi hv a4 b4;obtain ⟨Q,hQ⟩:∃ Q,stR nv na (d+1) c (.mk nk nt ix val m1 body els)=Q:=⟨_,rfl⟩;obtain ⟨N,hN⟩:∃ N,stC (d+1) (.mk nk nt ix val m1 body els)=N:=⟨_,rfl⟩;have HN:Hid (N=1+blC d body body.length+blC d els els.length):=Hi (by rw [← hN];simp only [stC,blC];rw [List.take_of_length_le Lr,List.take_of_length_le Lr];show 1+_=_;simp only [St.body,St.els];omega);rw [hQ,hN];clear hN;have HQ:=Hi hQ.symm;clear hQ;have hC:Chg (fun k=>k=cb) w w:=Chg.refl _ _;have l1:∀ q,(fun k=>k=cb) q→q=cb:=fun q h=>h
  have zP:=Lc hc;go_enter Try.func54,Try.ntmps54
  by_cases hbig:(60:Int) < c+1
  ·skip
   go_upto_region 2 with (fail)
   generalize hnw:World.alloc _ _=w1;have hb:=nmh hnw;clear hnw
   replace hC:=((((hC.setCell cb (0) (.int .i64 (c+1)) (fun _=>rfl)).trans (Cb (bal (Bs _) _))).trans (Cb (bal (Bs _) _)))).trans (Cb hb);have v3:=hb.size;simp only [Sa,Ss] at v3;replace hf:=Kf hb (Lc (Ac (Ac (Tc _ (cb) 0 (.int .i64 (c+1)) hc) _) _)) (Fa (Lc (Ac (Tc _ (cb) 0 (.int .i64 (c+1)) hc) _)) (Fa (Lc (Tc _ (cb) 0 (.int .i64 (c+1)) hc)) (Fs hf _) _) _);replace hc:w1.cell? ⟨cb,0,none⟩=some (.int .i64 (c+1)):=Kc hb (Ac (Ac (Tc _ (cb) 0 (.int .i64 (c+1)) hc) _) _);have wJ:Bk w1 (w.heap.size) [.slice pv nv cv,.slice pa na ca,vb]:=Bb (Bk.al (Bk.nw (by simp) rfl) (.cells #[.int .i64 nk,.int .i64 nt,.int .i64 q0.k,.int .i64 q0.v,.slice q0.p q0.n q0.c,.int .i64 f0.k,.int .i64 f0.v,.slice f0.p f0.n f0.c,.int .i64 m1,.slice bp body.length bc,.slice ep els.length ec] 51)) hb;have xJ:Bk w1 (w.heap.size+1) [.int .i64 nk,.int .i64 nt,.int .i64 q0.k,.int .i64 q0.v,.slice q0.p q0.n q0.c,.int .i64 f0.k,.int .i64 f0.v,.slice f0.p f0.n f0.c,.int .i64 m1,.slice bp body.length bc,.slice ep els.length ec]:=Bb (Bk.nw (by simp) rfl) hb;clear hb;have aQ:=Lc hc;have bQ:=Bk.lz wJ;have cQ:=Bk.lz xJ;have d0:Hid (Q=false):=Hi (by rw [HQ.out];exact stR_big hbig);have c0:=Hi (Ai hc (Ai hf hC));clear hC;go_wp2
   exact bodyPost_ret (v:=.bool false) (by simp [results,Try.results54,go_sem]) rfl (scp_no d0 c0)
  go_upto_region 5 with (fail)
  generalize hnw:World.alloc _ _=w1;have hb:=nmh hnw;clear hnw
  replace hC:=((((hC.setCell cb (0) (.int .i64 (c+1)) (fun _=>rfl)).trans (Cb (bal (Bs _) _))).trans (Cb (bal (Bs _) _)))).trans (Cb hb);have x3:=hb.size;simp only [Sa,Ss] at x3;replace hf:=Kf hb (Lc (Ac (Ac (Tc _ (cb) 0 (.int .i64 (c+1)) hc) _) _)) (Fa (Lc (Ac (Tc _ (cb) 0 (.int .i64 (c+1)) hc) _)) (Fa (Lc (Tc _ (cb) 0 (.int .i64 (c+1)) hc)) (Fs hf _) _) _);replace hc:w1.cell? ⟨cb,0,none⟩=some (.int .i64 (c+1)):=Kc hb (Ac (Ac (Tc _ (cb) 0 (.int .i64 (c+1)) hc) _) _);have b0:Bk w1 (w.heap.size) [.slice pv nv cv,.slice pa na ca,vb]:=Bb (Bk.al (Bk.nw (by simp) rfl) (.cells #[.int .i64 nk,.int .i64 nt,.int .i64 q0.k,.int .i64 q0.v,.slice q0.p q0.n q0.c,.int .i64 f0.k,.int .i64 f0.v,.slice f0.p f0.n f0.c,.int .i64 m1,.slice bp body.length bc,.slice ep els.length ec] 51)) hb;have a0:Bk w1 (w.heap.size+1) [.int .i64 nk,.int .i64 nt,.int .i64 q0.k,.int .i64 q0.v,.slice q0.p q0.n q0.c,.int .i64 f0.k,.int .i64 f0.v,.slice f0.p f0.n f0.c,.int .i64 m1,.slice bp body.length bc,.slice ep els.length ec]:=Bb (Bk.nw (by simp) rfl) hb;clear hb;have g0:=Lc hc;have wL:=Bk.lz b0;have xL:=Bk.lz a0;by_cases hk1:nk=1
  ·skip
   have q1:(nk == 1)=true:=by simp [hk1]
   have q5:(nk == 5)=false:=by simp [hk1]
   have q2:(nk == 2)=false:=by simp [hk1]
   have q3:(nk == 3)=false:=by simp [hk1]
   have q4:(nk == 4)=false:=by simp [hk1]
   have h0:=Hi (HQ.out.trans (stR_of (c:=c) (stOk_as (by rw [q1];rfl))));simp only [St.body,St.els] at h0;have uJ:=Hi hk1;clear hk1
   cases ht0:wi nt 0 ((nv:Int)-1) with
   | false =>
    obtain ⟨yL,fN⟩:=Bk.cf b0 0 rfl;obtain ⟨zL,gN,aM,iN⟩:=Bk.h2 a0;go_wp2_with fail
    refine (within_any nt 0 ((nv:Int)-1) _).mono ?_;rintro e w2 ⟨rfl,v2⟩;rw [ht0];replace hC:=(hC).trans (Cb v2);have pO:=v2.size;clear fN yL gN zL iN aM;replace hf:=Kf v2 (Lc hc) hf;replace hc:=Kc v2 hc;have i0:=Hi ht0;clear ht0;have d0:Hid (Q=false):=Hi (by rw [h0.out,i0.out] <;> simp);have c0:=Hi (Ai hc (Ai hf hC));clear hC;go_wp2
    exact bodyPost_ret (v:=.bool false) (by simp [results,Try.results54,go_sem]) rfl (scp_no d0 c0)
   | true =>
    obtain ⟨bM,jN⟩:=Bk.cf b0 0 rfl;obtain ⟨cM,kN,dM,lN⟩:=Bk.h2 a0;go_wp2_with fail
    refine (within_any nt 0 ((nv:Int)-1) _).mono ?_;rintro e w2 ⟨rfl,k1⟩;rw [ht0];replace hC:=(hC).trans (Cb k1);have qO:=k1.size;clear jN bM kN cM lN dM;replace hf:=Kf k1 (Lc hc) hf;replace hc:=Kc k1 hc;have i0:=Hi ht0;clear ht0
    cases ht1:(m1 == 0) with
    | false =>
     have g1:(m1 != 0)=true:=by rw [bne,ht1];rfl
     have l0:=Hi ht1;clear ht1;have d0:Hid (Q=false):=Hi (by rw [h0.out,i0.out,l0.out] <;> simp);have c0:=Hi (Ai hc (Ai hf hC));clear hC;replace a0:=Bb a0 k1;obtain ⟨dQ,kQ⟩:=Bk.cf a0 8 rfl;go_wp2
     exact bodyPost_ret (v:=.bool false) (by simp [results,Try.results54,go_sem]) rfl (scp_no d0 c0)
    | true =>
     have g1:(m1 != 0)=false:=by rw [bne,ht1];rfl
     have l0:=Hi ht1;clear ht1
     cases ht2:decide (body.length=0) with
     | false =>
      have g2:0 < body.length:=by have:=of_decide_eq_false ht2;omega
      have p0:=Hi ht2;clear ht2;have d0:Hid (Q=false):=Hi (by rw [h0.out,i0.out,l0.out,p0.out] <;> simp);have c0:=Hi (Ai hc (Ai hf hC));clear hC;replace a0:=Bb a0 k1;obtain ⟨eQ,lQ,fQ,mQ⟩:=Bk.f2 a0 8 9 rfl rfl;go_wp2
      exact bodyPost_ret (v:=.bool false) (by simp [results,Try.results54,go_sem]) rfl (scp_no d0 c0)
     | true =>
      have g2:decide (0 < body.length)=false:=decide_eq_false (by have:=of_decide_eq_true ht2;omega);have p0:=Hi ht2;clear ht2
      cases ht3:decide (els.length=0) with
      | false =>
       have g3:0 < els.length:=by have:=of_decide_eq_false ht3;omega
       have t0:=Hi ht3;clear ht3;have d0:Hid (Q=false):=Hi (by rw [h0.out,i0.out,l0.out,p0.out,t0.out] <;> simp);have c0:=Hi (Ai hc (Ai hf hC));clear hC;replace a0:=Bb a0 k1;obtain ⟨gQ,nQ,iQ,oQ,jQ,pQ⟩:=Bk.f3 a0 8 9 10 rfl rfl rfl;go_wp2
       exact bodyPost_ret (v:=.bool false) (by simp [results,Try.results54,go_sem]) rfl (scp_no d0 c0)
      | true =>
       have g3:decide (0 < els.length)=false:=decide_eq_false (by have:=of_decide_eq_true ht3;omega);have t0:=Hi ht3;clear ht3
       cases ht4:noneE ix with
       | false =>
        replace a0:=Bb a0 k1;obtain ⟨eM,mN,fM,nN,gM,oN,hM,pN,iM,qN,jM,rN⟩:=Bk.f6 a0 2 3 4 8 9 10 rfl rfl rfl rfl rfl rfl;go_wp2_with fail
        refine (isNone_any q0 ix u0.out.1 u0.out.2.1 u0.out.2.2 _).mono ?_;rintro e w3 ⟨rfl,y2⟩;rw [ht4];replace hC:=(hC).trans (Cb y2);have rO:=y2.size;clear mN eM nN fM oN gM pN hM qN iM rN jM;replace hf:=Kf y2 (Lc hc) hf;replace hc:=Kc y2 hc;have v1:=Hi ht4;clear ht4;have d0:Hid (Q=false):=Hi (by rw [h0.out,i0.out,l0.out,p0.out,t0.out,v1.out] <;> simp);have c0:=Hi (Ai hc (Ai hf hC));clear hC;go_wp2
        exact bodyPost_ret (v:=.bool false) (by simp [results,Try.results54,go_sem]) rfl (scp_no d0 c0)
       | true =>
        replace a0:=Bb a0 k1;obtain ⟨kM,sN,lM,tN,mM,uN,nM,vN,oM,wN,pM,xN⟩:=Bk.f6 a0 2 3 4 8 9 10 rfl rfl rfl rfl rfl rfl;go_wp2_with fail
        refine (isNone_any q0 ix u0.out.1 u0.out.2.1 u0.out.2.2 _).mono ?_;rintro e w3 ⟨rfl,a2⟩;rw [ht4];replace hC:=(hC).trans (Cb a2);have sO:=a2.size;clear sN kM tN lM uN mM vN nM wN oM xN pM;replace hf:=Kf a2 (Lc hc) hf;replace hc:=Kc a2 hc;have v1:=Hi ht4;clear ht4
        cases ht5:exRight nv na val with
        | false =>
         replace b0:=Bb (Bb b0 k1) a2;obtain ⟨qM,yN,rM,zN,sM,aO⟩:=Bk.h3 b0;replace a0:=Bb a0 a2;obtain ⟨tM,bO,uM,cO,vM,dO⟩:=Bk.f3 a0 5 6 7 rfl rfl rfl;go_wp2_with fail
         refine (expr_any _ _ nv _ na _ _ hnv B _ f0 val _ (HV.out _ hC)).mono ?_;rintro e w4 ⟨rfl,z2⟩;rw [ht5];replace hC:=(hC).trans (Cb z2);have tO:=z2.size;clear yN qM zN rM aO sM bO tM cO uM dO vM;replace hf:=Kf z2 (Lc hc) hf;replace hc:=Kc z2 hc;have u2:=Hi ht5;clear ht5;have d0:Hid (Q=false):=Hi (by rw [h0.out,i0.out,l0.out,p0.out,t0.out,v1.out,u2.out] <;> simp);have c0:=Hi (Ai hc (Ai hf hC));clear hC;go_wp2
         exact bodyPost_ret (v:=.bool false) (by simp [results,Try.results54,go_sem]) rfl (scp_no d0 c0)
        | true =>
         replace b0:=Bb (Bb b0 k1) a2;obtain ⟨wM,eO,xM,fO,yM,gO⟩:=Bk.h3 b0;replace a0:=Bb a0 a2;obtain ⟨zM,hO,aN,iO,bN,jO⟩:=Bk.f3 a0 5 6 7 rfl rfl rfl;go_wp2_with fail
         refine (expr_any _ _ nv _ na _ _ hnv B _ f0 val _ (HV.out _ hC)).mono ?_;rintro e w4 ⟨rfl,b2⟩;rw [ht5];replace hC:=(hC).trans (Cb b2);have uO:=b2.size;clear eO wM fO xM gO yM hO zM iO aN jO bN;replace hf:=Kf b2 (Lc hc) hf;replace hc:=Kc b2 hc;have u2:=Hi ht5;clear ht5;have u1:Hid (Q=((body.all (stOk nv na d)&&els.all (stOk nv na d))&&decide (c+1+blC d body body.length+blC d els els.length≤60))):=Hi (by rw [h0.out,i0.out,l0.out,p0.out,t0.out,v1.out,u2.out];first | rfl | (simp only [Bool.true_and];done) | (simp only [Bool.true_and];rfl) | (exact Bool.eq_iff_iff.mpr (by simp only [Bool.true_and,Bool.and_eq_true,decide_eq_true_eq])) | (refine Bool.eq_iff_iff.mpr ?_;simp));have f1:=Hi (blC_ge d body body.length);have i1:=Hi (blC_ge d els els.length)
         cases hz1:blR nv na d (c+1) body with
         | false =>
          replace b0:=Bb b0 b2;obtain ⟨dN,kO,eN,gC,c4,iC⟩:=Bk.h3 b0;replace a0:=Bb a0 b2;obtain ⟨d4,jC⟩:=Bk.cf a0 9 rfl;go_wp2_with fail
          have e0:=IH.out D _ body (c+1) (dp+1) _ (by have:=n1.out;omega) (H5.out _ hC) hc hf (by omega) (by omega);rw [hz1] at e0;clear hc hf;refine (e0).mono ?_;rintro e w5 ⟨x1,rfl,hc,hf,j0,c3⟩;clear e0;replace hC:=(hC).trans c3;have aK:=c3.size;clear kO dN gC eN iC c4 jC d4;replace g0:=Lc hc;have y1:=Hi hz1;clear hz1;have d0:Hid (Q=false):=Hi (by rw [u1.out];have h1:=y1.out;have h5:=f1.out;have h6:=i1.out;unfold blR at h1;cases ha:body.all (stOk nv na d) with | false=>simp | true=>rw [ha,Bool.true_and] at h1;have:=of_decide_eq_false h1;rw [decide_eq_false (by omega)];simp);have c0:=Hi (Ai hc (Ai hf hC));clear hC;go_wp2
          exact bodyPost_ret (v:=.bool false) (by simp [results,Try.results54,go_sem]) rfl (scp_no d0 c0)
         | true =>
          replace b0:=Bb b0 b2;obtain ⟨e4,kC,g4,lC,h4,mC⟩:=Bk.h3 b0;replace a0:=Bb a0 b2;obtain ⟨i4,nC⟩:=Bk.cf a0 9 rfl;go_wp2_with fail
          have e0:=IH.out D _ body (c+1) (dp+1) _ (by have:=n1.out;omega) (H5.out _ hC) hc hf (by omega) (by omega);rw [hz1] at e0;clear hc hf;refine (e0).mono ?_;rintro e w5 ⟨x1,rfl,hc,hf,j0,o1⟩;clear e0;replace hC:=(hC).trans o1;have bK:=o1.size;clear kC e4 lC g4 mC h4 nC i4;replace g0:=Lc hc;have y1:=Hi hz1;clear hz1;have o0:Hid (x1=(c+1)+blC d body body.length∧body.all (stOk nv na d)=true∧(c+1)+blC d body body.length≤60):=Hi (by have h1:=y1.out;unfold blR at h1;rw [Bool.and_eq_true] at h1;exact ⟨j0 rfl,h1.1,of_decide_eq_true h1.2⟩);have a3:0≤x1∧x1≤60:=by have:=o0.out;have:=f1.out;have:=i1.out;omega
          clear j0
          cases hz2:blR nv na d x1 els with
          | false =>
           replace b0:=Bk.keep b0 o1 (fun h=>by have:=l1 _ h;omega);obtain ⟨j4,oC,k4,pC,l4,qC⟩:=Bk.h3 b0;replace a0:=Bk.keep a0 o1 (fun h=>by have:=l1 _ h;omega);obtain ⟨m4,rC⟩:=Bk.cf a0 10 rfl;go_wp2_with fail
           have e0:=IH.out D _ els x1 (dp+1) _ (by have:=n1.out;omega) (H6.out _ hC) hc hf (by omega) (by omega);rw [hz2] at e0;clear hc hf;refine (e0).mono ?_;rintro e w6 ⟨x2,rfl,hc,hf,k0,d3⟩;clear e0;replace hC:=(hC).trans d3;have cK:=d3.size;clear oC j4 pC k4 qC l4 rC m4;clear b0 a0;replace g0:=Lc hc;have z1:=Hi hz2;clear hz2;have d0:Hid (Q=false):=Hi (by rw [u1.out];have h1:=z1.out;have h5:=f1.out;have h6:=i1.out;have h7:=o0.out;unfold blR at h1;cases ha:els.all (stOk nv na d) with | false=>simp | true=>rw [ha,Bool.true_and] at h1;have:=of_decide_eq_false h1;rw [decide_eq_false (by omega)];simp);have c0:=Hi (Ai hc (Ai hf hC));clear hC;go_wp2
           exact bodyPost_ret (v:=.bool false) (by simp [results,Try.results54,go_sem]) rfl (scp_no d0 c0)
          | true =>
           replace b0:=Bk.keep b0 o1 (fun h=>by have:=l1 _ h;omega);obtain ⟨n4,sC,o4,tC,p4,uC⟩:=Bk.h3 b0;replace a0:=Bk.keep a0 o1 (fun h=>by have:=l1 _ h;omega);obtain ⟨r4,vC⟩:=Bk.cf a0 10 rfl;go_wp2_with fail
           have e0:=IH.out D _ els x1 (dp+1) _ (by have:=n1.out;omega) (H6.out _ hC) hc hf (by omega) (by omega);rw [hz2] at e0;clear hc hf;refine (e0).mono ?_;rintro e w6 ⟨x2,rfl,hc,hf,k0,e3⟩;clear e0;replace hC:=(hC).trans e3;have dK:=e3.size;clear sC n4 tC o4 uC p4 vC r4;clear b0 a0;replace g0:=Lc hc;have z1:=Hi hz2;clear hz2;have j1:Hid (x2=x1+blC d els els.length∧els.all (stOk nv na d)=true∧x1+blC d els els.length≤60):=Hi (by have h1:=z1.out;unfold blR at h1;rw [Bool.and_eq_true] at h1;exact ⟨k0 rfl,h1.1,of_decide_eq_true h1.2⟩);have b3:0≤x2∧x2≤60:=by have:=j1.out;have:=f1.out;have:=i1.out;have:=o0.out;omega
           clear k0;have d0:Hid (Q=true):=Hi (by rw [u1.out,o0.out.2.1,j1.out.2.1,decide_eq_true (by have h1:=o0.out;have h2:=j1.out;omega)];rfl);have c0:=Hi (Ai hc (Ai hf hC));clear hC;go_wp2
           exact bodyPost_ret (v:=.bool true) (by simp [results,Try.results54,go_sem]) rfl (scp_yes d0 c0 (fun _=>by have h1:=o0.out;have h2:=j1.out;have h3:=HN.out;omega))
  have q1:(nk == 1)=false:=by simp [hk1]
  by_cases hk5:nk=5
  ·skip
   have q5:(nk == 5)=true:=by simp [hk5]
   have q2:(nk == 2)=false:=by simp [hk5]
   have q3:(nk == 3)=false:=by simp [hk5]
   have q4:(nk == 4)=false:=by simp [hk5]
   have h0:=Hi (HQ.out.trans (stR_of (c:=c) (stOk_as (by rw [q5];simp))));simp only [St.body,St.els] at h0;have uJ:=Hi hk5;clear hk5
   cases ht0:wi nt 0 ((nv:Int)-1) with
   | false =>
    obtain ⟨s4,wC⟩:=Bk.cf b0 0 rfl;obtain ⟨t4,xC,u4,yC⟩:=Bk.h2 a0;go_wp2_with fail
    refine (within_any nt 0 ((nv:Int)-1) _).mono ?_;rintro e w2 ⟨rfl,c2⟩;rw [ht0];replace hC:=(hC).trans (Cb c2);have eK:=c2.size;clear wC s4 xC t4 yC u4;replace hf:=Kf c2 (Lc hc) hf;replace hc:=Kc c2 hc;replace g0:=Lc hc;have i0:=Hi ht0;clear ht0;have d0:Hid (Q=false):=Hi (by rw [h0.out,i0.out] <;> simp);have c0:=Hi (Ai hc (Ai hf hC));clear hC;go_wp2
    exact bodyPost_ret (v:=.bool false) (by simp [results,Try.results54,go_sem]) rfl (scp_no d0 c0)
   | true =>
    obtain ⟨v4,zC⟩:=Bk.cf b0 0 rfl;obtain ⟨x4,aD,y4,bD⟩:=Bk.h2 a0;go_wp2_with fail
    refine (within_any nt 0 ((nv:Int)-1) _).mono ?_;rintro e w2 ⟨rfl,m0⟩;rw [ht0];replace hC:=(hC).trans (Cb m0);have fK:=m0.size;clear zC v4 aD x4 bD y4;replace hf:=Kf m0 (Lc hc) hf;replace hc:=Kc m0 hc;replace g0:=Lc hc;have i0:=Hi ht0;clear ht0
    cases ht1:(m1 == 0) with
    | false =>
     have g1:(m1 != 0)=true:=by rw [bne,ht1];rfl
     have l0:=Hi ht1;clear ht1;have d0:Hid (Q=false):=Hi (by rw [h0.out,i0.out,l0.out] <;> simp);have c0:=Hi (Ai hc (Ai hf hC));clear hC;replace a0:=Bb a0 m0;obtain ⟨vO,kP⟩:=Bk.cf a0 8 rfl;go_wp2
     exact bodyPost_ret (v:=.bool false) (by simp [results,Try.results54,go_sem]) rfl (scp_no d0 c0)
    | true =>
     have g1:(m1 != 0)=false:=by rw [bne,ht1];rfl
     have l0:=Hi ht1;clear ht1
     cases ht2:decide (body.length=0) with
     | false =>
      have g2:0 < body.length:=by have:=of_decide_eq_false ht2;omega
      have p0:=Hi ht2;clear ht2;have d0:Hid (Q=false):=Hi (by rw [h0.out,i0.out,l0.out,p0.out] <;> simp);have c0:=Hi (Ai hc (Ai hf hC));clear hC;replace a0:=Bb a0 m0;obtain ⟨wO,lP,xO,mP⟩:=Bk.f2 a0 8 9 rfl rfl;go_wp2
      exact bodyPost_ret (v:=.bool false) (by simp [results,Try.results54,go_sem]) rfl (scp_no d0 c0)
     | true =>
      have g2:decide (0 < body.length)=false:=decide_eq_false (by have:=of_decide_eq_true ht2;omega);have p0:=Hi ht2;clear ht2
      cases ht3:decide (els.length=0) with
      | false =>
       have g3:0 < els.length:=by have:=of_decide_eq_false ht3;omega
       have t0:=Hi ht3;clear ht3;have d0:Hid (Q=false):=Hi (by rw [h0.out,i0.out,l0.out,p0.out,t0.out] <;> simp);have c0:=Hi (Ai hc (Ai hf hC));clear hC;replace a0:=Bb a0 m0;obtain ⟨yO,nP,zO,oP,aP,pP⟩:=Bk.f3 a0 8 9 10 rfl rfl rfl;go_wp2
       exact bodyPost_ret (v:=.bool false) (by simp [results,Try.results54,go_sem]) rfl (scp_no d0 c0)
      | true =>
       have g3:decide (0 < els.length)=false:=decide_eq_false (by have:=of_decide_eq_true ht3;omega);have t0:=Hi ht3;clear ht3
       cases ht4:noneE ix with
       | false =>
        replace a0:=Bb a0 m0;obtain ⟨z4,cD,b5,dD,d5,eD,e5,fD,f5,gD,g5,hD⟩:=Bk.f6 a0 2 3 4 8 9 10 rfl rfl rfl rfl rfl rfl;go_wp2_with fail
        refine (isNone_any q0 ix u0.out.1 u0.out.2.1 u0.out.2.2 _).mono ?_;rintro e w3 ⟨rfl,d2⟩;rw [ht4];replace hC:=(hC).trans (Cb d2);have gK:=d2.size;clear cD z4 dD b5 eD d5 fD e5 gD f5 hD g5;replace hf:=Kf d2 (Lc hc) hf;replace hc:=Kc d2 hc;have v1:=Hi ht4;clear ht4;have d0:Hid (Q=false):=Hi (by rw [h0.out,i0.out,l0.out,p0.out,t0.out,v1.out] <;> simp);have c0:=Hi (Ai hc (Ai hf hC));clear hC;go_wp2
        exact bodyPost_ret (v:=.bool false) (by simp [results,Try.results54,go_sem]) rfl (scp_no d0 c0)
       | true =>
        replace a0:=Bb a0 m0;obtain ⟨i5,iD,j5,jD,k5,kD,l5,lD,m5,mD,n5,nD⟩:=Bk.f6 a0 2 3 4 8 9 10 rfl rfl rfl rfl rfl rfl;go_wp2_with fail
        refine (isNone_any q0 ix u0.out.1 u0.out.2.1 u0.out.2.2 _).mono ?_;rintro e w3 ⟨rfl,v0⟩;rw [ht4];replace hC:=(hC).trans (Cb v0);have hK:=v0.size;clear iD i5 jD j5 kD k5 lD l5 mD m5 nD n5;replace hf:=Kf v0 (Lc hc) hf;replace hc:=Kc v0 hc;have v1:=Hi ht4;clear ht4
        cases ht5:exRight nv na val with
        | false =>
         replace b0:=Bb (Bb b0 m0) v0;obtain ⟨o5,oD,p5,pD,s5,qD⟩:=Bk.h3 b0;replace a0:=Bb a0 v0;obtain ⟨t5,rD,u5,sD,v5,tD⟩:=Bk.f3 a0 5 6 7 rfl rfl rfl;go_wp2_with fail
         refine (expr_any _ _ nv _ na _ _ hnv B _ f0 val _ (HV.out _ hC)).mono ?_;rintro e w4 ⟨rfl,e2⟩;rw [ht5];replace hC:=(hC).trans (Cb e2);have iK:=e2.size;clear oD o5 pD p5 qD s5 rD t5 sD u5 tD v5;replace hf:=Kf e2 (Lc hc) hf;replace hc:=Kc e2 hc;have u2:=Hi ht5;clear ht5;have d0:Hid (Q=false):=Hi (by rw [h0.out,i0.out,l0.out,p0.out,t0.out,v1.out,u2.out] <;> simp);have c0:=Hi (Ai hc (Ai hf hC));clear hC;go_wp2
         exact bodyPost_ret (v:=.bool false) (by simp [results,Try.results54,go_sem]) rfl (scp_no d0 c0)
        | true =>
         replace b0:=Bb (Bb b0 m0) v0;obtain ⟨x5,uD,y5,vD,z5,wD⟩:=Bk.h3 b0;replace a0:=Bb a0 v0;obtain ⟨b6,xD,d6,yD,e6,zD⟩:=Bk.f3 a0 5 6 7 rfl rfl rfl;go_wp2_with fail
         refine (expr_any _ _ nv _ na _ _ hnv B _ f0 val _ (HV.out _ hC)).mono ?_;rintro e w4 ⟨rfl,w0⟩;rw [ht5];replace hC:=(hC).trans (Cb w0);have jK:=w0.size;clear uD x5 vD y5 wD z5 xD b6 yD d6 zD e6;replace hf:=Kf w0 (Lc hc) hf;replace hc:=Kc w0 hc;have u2:=Hi ht5;clear ht5;have u1:Hid (Q=((body.all (stOk nv na d)&&els.all (stOk nv na d))&&decide (c+1+blC d body body.length+blC d els els.length≤60))):=Hi (by rw [h0.out,i0.out,l0.out,p0.out,t0.out,v1.out,u2.out];first | rfl | (simp only [Bool.true_and];done) | (simp only [Bool.true_and];rfl) | (exact Bool.eq_iff_iff.mpr (by simp only [Bool.true_and,Bool.and_eq_true,decide_eq_true_eq])) | (refine Bool.eq_iff_iff.mpr ?_;simp));have f1:=Hi (blC_ge d body body.length);have i1:=Hi (blC_ge d els els.length)
         cases hz1:blR nv na d (c+1) body with
         | false =>
          replace b0:=Bb b0 w0;obtain ⟨g6,aE,i6,bE,j6,cE⟩:=Bk.h3 b0;replace a0:=Bb a0 w0;obtain ⟨k6,dE⟩:=Bk.cf a0 9 rfl;go_wp2_with fail
          have e0:=IH.out D _ body (c+1) (dp+1) _ (by have:=n1.out;omega) (H5.out _ hC) hc hf (by omega) (by omega);rw [hz1] at e0;clear hc hf;refine (e0).mono ?_;rintro e w5 ⟨x1,rfl,hc,hf,j0,i3⟩;clear e0;replace hC:=(hC).trans i3;have kK:=i3.size;clear aE g6 bE i6 cE j6 dE k6;replace g0:=Lc hc;have y1:=Hi hz1;clear hz1;have d0:Hid (Q=false):=Hi (by rw [u1.out];have h1:=y1.out;have h5:=f1.out;have h6:=i1.out;unfold blR at h1;cases ha:body.all (stOk nv na d) with | false=>simp | true=>rw [ha,Bool.true_and] at h1;have:=of_decide_eq_false h1;rw [decide_eq_false (by omega)];simp);have c0:=Hi (Ai hc (Ai hf hC));clear hC;go_wp2
          exact bodyPost_ret (v:=.bool false) (by simp [results,Try.results54,go_sem]) rfl (scp_no d0 c0)
         | true =>
          replace b0:=Bb b0 w0;obtain ⟨l6,eE,m6,fE,n6,gE⟩:=Bk.h3 b0;replace a0:=Bb a0 w0;obtain ⟨o6,hE⟩:=Bk.cf a0 9 rfl;go_wp2_with fail
          have e0:=IH.out D _ body (c+1) (dp+1) _ (by have:=n1.out;omega) (H5.out _ hC) hc hf (by omega) (by omega);rw [hz1] at e0;clear hc hf;refine (e0).mono ?_;rintro e w5 ⟨x1,rfl,hc,hf,j0,p1⟩;clear e0;replace hC:=(hC).trans p1;have lK:=p1.size;clear eE l6 fE m6 gE n6 hE o6;replace g0:=Lc hc;have y1:=Hi hz1;clear hz1;have o0:Hid (x1=(c+1)+blC d body body.length∧body.all (stOk nv na d)=true∧(c+1)+blC d body body.length≤60):=Hi (by have h1:=y1.out;unfold blR at h1;rw [Bool.and_eq_true] at h1;exact ⟨j0 rfl,h1.1,of_decide_eq_true h1.2⟩);have a3:0≤x1∧x1≤60:=by have:=o0.out;have:=f1.out;have:=i1.out;omega
          clear j0
          cases hz2:blR nv na d x1 els with
          | false =>
           replace b0:=Bk.keep b0 p1 (fun h=>by have:=l1 _ h;omega);obtain ⟨p6,iE,q6,jE,s6,kE⟩:=Bk.h3 b0;replace a0:=Bk.keep a0 p1 (fun h=>by have:=l1 _ h;omega);obtain ⟨t6,lE⟩:=Bk.cf a0 10 rfl;go_wp2_with fail
           have e0:=IH.out D _ els x1 (dp+1) _ (by have:=n1.out;omega) (H6.out _ hC) hc hf (by omega) (by omega);rw [hz2] at e0;clear hc hf;refine (e0).mono ?_;rintro e w6 ⟨x2,rfl,hc,hf,k0,j3⟩;clear e0;replace hC:=(hC).trans j3;have mK:=j3.size;clear iE p6 jE q6 kE s6 lE t6;clear b0 a0;replace g0:=Lc hc;have z1:=Hi hz2;clear hz2;have d0:Hid (Q=false):=Hi (by rw [u1.out];have h1:=z1.out;have h5:=f1.out;have h6:=i1.out;have h7:=o0.out;unfold blR at h1;cases ha:els.all (stOk nv na d) with | false=>simp | true=>rw [ha,Bool.true_and] at h1;have:=of_decide_eq_false h1;rw [decide_eq_false (by omega)];simp);have c0:=Hi (Ai hc (Ai hf hC));clear hC;go_wp2
           exact bodyPost_ret (v:=.bool false) (by simp [results,Try.results54,go_sem]) rfl (scp_no d0 c0)
          | true =>
           replace b0:=Bk.keep b0 p1 (fun h=>by have:=l1 _ h;omega);obtain ⟨u6,mE,v6,nE,x6,oE⟩:=Bk.h3 b0;replace a0:=Bk.keep a0 p1 (fun h=>by have:=l1 _ h;omega);obtain ⟨y6,pE⟩:=Bk.cf a0 10 rfl;go_wp2_with fail
           have e0:=IH.out D _ els x1 (dp+1) _ (by have:=n1.out;omega) (H6.out _ hC) hc hf (by omega) (by omega);rw [hz2] at e0;clear hc hf;refine (e0).mono ?_;rintro e w6 ⟨x2,rfl,hc,hf,k0,k3⟩;clear e0;replace hC:=(hC).trans k3;have nK:=k3.size;clear mE u6 nE v6 oE x6 pE y6;clear b0 a0;replace g0:=Lc hc;have z1:=Hi hz2;clear hz2;have j1:Hid (x2=x1+blC d els els.length∧els.all (stOk nv na d)=true∧x1+blC d els els.length≤60):=Hi (by have h1:=z1.out;unfold blR at h1;rw [Bool.and_eq_true] at h1;exact ⟨k0 rfl,h1.1,of_decide_eq_true h1.2⟩);have b3:0≤x2∧x2≤60:=by have:=j1.out;have:=f1.out;have:=i1.out;have:=o0.out;omega
           clear k0;have d0:Hid (Q=true):=Hi (by rw [u1.out,o0.out.2.1,j1.out.2.1,decide_eq_true (by have h1:=o0.out;have h2:=j1.out;omega)];rfl);have c0:=Hi (Ai hc (Ai hf hC));clear hC;go_wp2
           exact bodyPost_ret (v:=.bool true) (by simp [results,Try.results54,go_sem]) rfl (scp_yes d0 c0 (fun _=>by have h1:=o0.out;have h2:=j1.out;have h3:=HN.out;omega))
  have q5:(nk == 5)=false:=by simp [hk5]
  by_cases hk2:nk=2
  ·skip
   have q2:(nk == 2)=true:=by simp [hk2]
   have q3:(nk == 3)=false:=by simp [hk2]
   have q4:(nk == 4)=false:=by simp [hk2]
   have h0:=Hi (HQ.out.trans (stR_of (c:=c) (stOk_st q2)));simp only [St.body,St.els] at h0;have uJ:=Hi hk2;clear hk2
   cases ht0:wi nt 0 ((na:Int)-1) with
   | false =>
    obtain ⟨z6,qE⟩:=Bk.cf b0 1 rfl;obtain ⟨a7,rE,b7,sE⟩:=Bk.h2 a0;go_wp2_with fail
    refine (within_any nt 0 ((na:Int)-1) _).mono ?_;rintro e w2 ⟨rfl,i2⟩;rw [ht0];replace hC:=(hC).trans (Cb i2);have oK:=i2.size;clear qE z6 rE a7 sE b7;replace hf:=Kf i2 (Lc hc) hf;replace hc:=Kc i2 hc;replace g0:=Lc hc;have i0:=Hi ht0;clear ht0;have d0:Hid (Q=false):=Hi (by rw [h0.out,i0.out] <;> simp);have c0:=Hi (Ai hc (Ai hf hC));clear hC;go_wp2
    exact bodyPost_ret (v:=.bool false) (by simp [results,Try.results54,go_sem]) rfl (scp_no d0 c0)
   | true =>
    obtain ⟨c7,tE⟩:=Bk.cf b0 1 rfl;obtain ⟨d7,uE,e7,vE⟩:=Bk.h2 a0;go_wp2_with fail
    refine (within_any nt 0 ((na:Int)-1) _).mono ?_;rintro e w2 ⟨rfl,n0⟩;rw [ht0];replace hC:=(hC).trans (Cb n0);have pK:=n0.size;clear tE c7 uE d7 vE e7;replace hf:=Kf n0 (Lc hc) hf;replace hc:=Kc n0 hc;replace g0:=Lc hc;have i0:=Hi ht0;clear ht0
    cases ht1:(m1 == 0) with
    | false =>
     have g1:(m1 != 0)=true:=by rw [bne,ht1];rfl
     have l0:=Hi ht1;clear ht1;have d0:Hid (Q=false):=Hi (by rw [h0.out,i0.out,l0.out] <;> simp);have c0:=Hi (Ai hc (Ai hf hC));clear hC;replace a0:=Bb a0 n0;obtain ⟨bP,qP⟩:=Bk.cf a0 8 rfl;go_wp2
     exact bodyPost_ret (v:=.bool false) (by simp [results,Try.results54,go_sem]) rfl (scp_no d0 c0)
    | true =>
     have g1:(m1 != 0)=false:=by rw [bne,ht1];rfl
     have l0:=Hi ht1;clear ht1
     cases ht2:decide (body.length=0) with
     | false =>
      have g2:0 < body.length:=by have:=of_decide_eq_false ht2;omega
      have p0:=Hi ht2;clear ht2;have d0:Hid (Q=false):=Hi (by rw [h0.out,i0.out,l0.out,p0.out] <;> simp);have c0:=Hi (Ai hc (Ai hf hC));clear hC;replace a0:=Bb a0 n0;obtain ⟨cP,rP,dP,sP⟩:=Bk.f2 a0 8 9 rfl rfl;go_wp2
      exact bodyPost_ret (v:=.bool false) (by simp [results,Try.results54,go_sem]) rfl (scp_no d0 c0)
     | true =>
      have g2:decide (0 < body.length)=false:=decide_eq_false (by have:=of_decide_eq_true ht2;omega);have p0:=Hi ht2;clear ht2
      cases ht3:decide (els.length=0) with
      | false =>
       have g3:0 < els.length:=by have:=of_decide_eq_false ht3;omega
       have t0:=Hi ht3;clear ht3;have d0:Hid (Q=false):=Hi (by rw [h0.out,i0.out,l0.out,p0.out,t0.out] <;> simp);have c0:=Hi (Ai hc (Ai hf hC));clear hC;replace a0:=Bb a0 n0;obtain ⟨eP,tP,fP,uP,gP,vP⟩:=Bk.f3 a0 8 9 10 rfl rfl rfl;go_wp2
       exact bodyPost_ret (v:=.bool false) (by simp [results,Try.results54,go_sem]) rfl (scp_no d0 c0)
      | true =>
       have g3:decide (0 < els.length)=false:=decide_eq_false (by have:=of_decide_eq_true ht3;omega);have t0:=Hi ht3;clear ht3
       cases ht4:exRight nv na ix with
       | false =>
        replace b0:=Bb b0 n0;obtain ⟨f7,wE,g7,xE,i7,yE⟩:=Bk.h3 b0;replace a0:=Bb a0 n0;obtain ⟨j7,zE,k7,aF,l7,bF,m7,cF,n7,dF,o7,eF⟩:=Bk.f6 a0 2 3 4 8 9 10 rfl rfl rfl rfl rfl rfl;go_wp2_with fail
        refine (expr_any _ _ nv _ na _ _ hnv B _ q0 ix _ (HI.out _ hC)).mono ?_;rintro e w3 ⟨rfl,j2⟩;rw [ht4];replace hC:=(hC).trans (Cb j2);have qK:=j2.size;clear wE f7 xE g7 yE i7 zE j7 aF k7 bF l7 cF m7 dF n7 eF o7;replace hf:=Kf j2 (Lc hc) hf;replace hc:=Kc j2 hc;have v1:=Hi ht4;clear ht4;have d0:Hid (Q=false):=Hi (by rw [h0.out,i0.out,l0.out,p0.out,t0.out,v1.out] <;> simp);have c0:=Hi (Ai hc (Ai hf hC));clear hC;go_wp2
        exact bodyPost_ret (v:=.bool false) (by simp [results,Try.results54,go_sem]) rfl (scp_no d0 c0)
       | true =>
        replace b0:=Bb b0 n0;obtain ⟨p7,fF,q7,gF,r7,hF⟩:=Bk.h3 b0;replace a0:=Bb a0 n0;obtain ⟨s7,iF,t7,jF,u7,kF,v7,lF,x7,mF,y7,nF⟩:=Bk.f6 a0 2 3 4 8 9 10 rfl rfl rfl rfl rfl rfl;go_wp2_with fail
        refine (expr_any _ _ nv _ na _ _ hnv B _ q0 ix _ (HI.out _ hC)).mono ?_;rintro e w3 ⟨rfl,x0⟩;rw [ht4];replace hC:=(hC).trans (Cb x0);have rK:=x0.size;clear fF p7 gF q7 hF r7 iF s7 jF t7 kF u7 lF v7 mF x7 nF y7;replace hf:=Kf x0 (Lc hc) hf;replace hc:=Kc x0 hc;have v1:=Hi ht4;clear ht4
        cases ht5:atomK ix.k with
        | false =>
         replace a0:=Bb a0 x0;obtain ⟨z7,oF,a8,pF,b8,qF⟩:=Bk.f3 a0 2 3 4 rfl rfl rfl;go_wp2_with fail
         refine (isPlain_any q0.k _ _ _).mono ?_;rintro e w4 ⟨rfl,k2⟩;rw [u0.out.1,ht5];replace hC:=(hC).trans (Cb k2);have sK:=k2.size;clear oF z7 pF a8 qF b8;replace hf:=Kf k2 (Lc hc) hf;replace hc:=Kc k2 hc;have u2:=Hi ht5;clear ht5;have d0:Hid (Q=false):=Hi (by rw [h0.out,i0.out,l0.out,p0.out,t0.out,v1.out,u2.out] <;> simp);have c0:=Hi (Ai hc (Ai hf hC));clear hC;go_wp2
         exact bodyPost_ret (v:=.bool false) (by simp [results,Try.results54,go_sem]) rfl (scp_no d0 c0)
        | true =>
         replace a0:=Bb a0 x0;obtain ⟨c8,rF,d8,sF,e8,tF⟩:=Bk.f3 a0 2 3 4 rfl rfl rfl;go_wp2_with fail
         refine (isPlain_any q0.k _ _ _).mono ?_;rintro e w4 ⟨rfl,y0⟩;rw [u0.out.1,ht5];replace hC:=(hC).trans (Cb y0);have tK:=y0.size;clear rF c8 sF d8 tF e8;replace hf:=Kf y0 (Lc hc) hf;replace hc:=Kc y0 hc;have u2:=Hi ht5;clear ht5
         cases ht6:exRight nv na val with
         | false =>
          replace b0:=Bb (Bb b0 x0) y0;obtain ⟨f8,uF,g8,vF,h8,wF⟩:=Bk.h3 b0;replace a0:=Bb a0 y0;obtain ⟨i8,xF,j8,yF,k8,zF⟩:=Bk.f3 a0 5 6 7 rfl rfl rfl;go_wp2_with fail
          refine (expr_any _ _ nv _ na _ _ hnv B _ f0 val _ (HV.out _ hC)).mono ?_;rintro e w5 ⟨rfl,l2⟩;rw [ht6];replace hC:=(hC).trans (Cb l2);have uK:=l2.size;clear uF f8 vF g8 wF h8 xF i8 yF j8 zF k8;replace hf:=Kf l2 (Lc hc) hf;replace hc:=Kc l2 hc;have vJ:=Hi ht6;clear ht6;have d0:Hid (Q=false):=Hi (by rw [h0.out,i0.out,l0.out,p0.out,t0.out,v1.out,u2.out,vJ.out] <;> simp);have c0:=Hi (Ai hc (Ai hf hC));clear hC;go_wp2
          exact bodyPost_ret (v:=.bool false) (by simp [results,Try.results54,go_sem]) rfl (scp_no d0 c0)
         | true =>
          replace b0:=Bb (Bb b0 x0) y0;obtain ⟨l8,aG,m8,bG,n8,cG⟩:=Bk.h3 b0;replace a0:=Bb a0 y0;obtain ⟨o8,dG,p8,eG,q8,fG⟩:=Bk.f3 a0 5 6 7 rfl rfl rfl;go_wp2_with fail
          refine (expr_any _ _ nv _ na _ _ hnv B _ f0 val _ (HV.out _ hC)).mono ?_;rintro e w5 ⟨rfl,z0⟩;rw [ht6];replace hC:=(hC).trans (Cb z0);have vK:=z0.size;clear aG l8 bG m8 cG n8 dG o8 eG p8 fG q8;replace hf:=Kf z0 (Lc hc) hf;replace hc:=Kc z0 hc;have vJ:=Hi ht6;clear ht6;have u1:Hid (Q=((body.all (stOk nv na d)&&els.all (stOk nv na d))&&decide (c+1+blC d body body.length+blC d els els.length≤60))):=Hi (by rw [h0.out,i0.out,l0.out,p0.out,t0.out,v1.out,u2.out,vJ.out];first | rfl | (simp only [Bool.true_and];done) | (simp only [Bool.true_and];rfl) | (exact Bool.eq_iff_iff.mpr (by simp only [Bool.true_and,Bool.and_eq_true,decide_eq_true_eq])) | (refine Bool.eq_iff_iff.mpr ?_;simp));have f1:=Hi (blC_ge d body body.length);have i1:=Hi (blC_ge d els els.length)
          cases hz1:blR nv na d (c+1) body with
          | false =>
           replace b0:=Bb b0 z0;obtain ⟨r8,gG,s8,hG,t8,iG⟩:=Bk.h3 b0;replace a0:=Bb a0 z0;obtain ⟨u8,jG⟩:=Bk.cf a0 9 rfl;go_wp2_with fail
           have e0:=IH.out D _ body (c+1) (dp+1) _ (by have:=n1.out;omega) (H5.out _ hC) hc hf (by omega) (by omega);rw [hz1] at e0;clear hc hf;refine (e0).mono ?_;rintro e w6 ⟨x1,rfl,hc,hf,j0,l3⟩;clear e0;replace hC:=(hC).trans l3;have wK:=l3.size;clear gG r8 hG s8 iG t8 jG u8;replace g0:=Lc hc;have y1:=Hi hz1;clear hz1;have d0:Hid (Q=false):=Hi (by rw [u1.out];have h1:=y1.out;have h5:=f1.out;have h6:=i1.out;unfold blR at h1;cases ha:body.all (stOk nv na d) with | false=>simp | true=>rw [ha,Bool.true_and] at h1;have:=of_decide_eq_false h1;rw [decide_eq_false (by omega)];simp);have c0:=Hi (Ai hc (Ai hf hC));clear hC;go_wp2
           exact bodyPost_ret (v:=.bool false) (by simp [results,Try.results54,go_sem]) rfl (scp_no d0 c0)
          | true =>
           replace b0:=Bb b0 z0;obtain ⟨v8,kG,w8,lG,x8,mG⟩:=Bk.h3 b0;replace a0:=Bb a0 z0;obtain ⟨y8,nG⟩:=Bk.cf a0 9 rfl;go_wp2_with fail
           have e0:=IH.out D _ body (c+1) (dp+1) _ (by have:=n1.out;omega) (H5.out _ hC) hc hf (by omega) (by omega);rw [hz1] at e0;clear hc hf;refine (e0).mono ?_;rintro e w6 ⟨x1,rfl,hc,hf,j0,r1⟩;clear e0;replace hC:=(hC).trans r1;have xK:=r1.size;clear kG v8 lG w8 mG x8 nG y8;replace g0:=Lc hc;have y1:=Hi hz1;clear hz1;have o0:Hid (x1=(c+1)+blC d body body.length∧body.all (stOk nv na d)=true∧(c+1)+blC d body body.length≤60):=Hi (by have h1:=y1.out;unfold blR at h1;rw [Bool.and_eq_true] at h1;exact ⟨j0 rfl,h1.1,of_decide_eq_true h1.2⟩);have a3:0≤x1∧x1≤60:=by have:=o0.out;have:=f1.out;have:=i1.out;omega
           clear j0
           cases hz2:blR nv na d x1 els with
           | false =>
            replace b0:=Bk.keep b0 r1 (fun h=>by have:=l1 _ h;omega);obtain ⟨z8,oG,a9,pG,b9,qG⟩:=Bk.h3 b0;replace a0:=Bk.keep a0 r1 (fun h=>by have:=l1 _ h;omega);obtain ⟨c9,rG⟩:=Bk.cf a0 10 rfl;go_wp2_with fail
            have e0:=IH.out D _ els x1 (dp+1) _ (by have:=n1.out;omega) (H6.out _ hC) hc hf (by omega) (by omega);rw [hz2] at e0;clear hc hf;refine (e0).mono ?_;rintro e w7 ⟨x2,rfl,hc,hf,k0,m3⟩;clear e0;replace hC:=(hC).trans m3;have yK:=m3.size;clear oG z8 pG a9 qG b9 rG c9;clear b0 a0;replace g0:=Lc hc;have z1:=Hi hz2;clear hz2;have d0:Hid (Q=false):=Hi (by rw [u1.out];have h1:=z1.out;have h5:=f1.out;have h6:=i1.out;have h7:=o0.out;unfold blR at h1;cases ha:els.all (stOk nv na d) with | false=>simp | true=>rw [ha,Bool.true_and] at h1;have:=of_decide_eq_false h1;rw [decide_eq_false (by omega)];simp);have c0:=Hi (Ai hc (Ai hf hC));clear hC;go_wp2
            exact bodyPost_ret (v:=.bool false) (by simp [results,Try.results54,go_sem]) rfl (scp_no d0 c0)
           | true =>
            replace b0:=Bk.keep b0 r1 (fun h=>by have:=l1 _ h;omega);obtain ⟨d9,sG,e9,tG,f9,uG⟩:=Bk.h3 b0;replace a0:=Bk.keep a0 r1 (fun h=>by have:=l1 _ h;omega);obtain ⟨g9,vG⟩:=Bk.cf a0 10 rfl;go_wp2_with fail
            have e0:=IH.out D _ els x1 (dp+1) _ (by have:=n1.out;omega) (H6.out _ hC) hc hf (by omega) (by omega);rw [hz2] at e0;clear hc hf;refine (e0).mono ?_;rintro e w7 ⟨x2,rfl,hc,hf,k0,n3⟩;clear e0;replace hC:=(hC).trans n3;have zK:=n3.size;clear sG d9 tG e9 uG f9 vG g9;clear b0 a0;replace g0:=Lc hc;have z1:=Hi hz2;clear hz2;have j1:Hid (x2=x1+blC d els els.length∧els.all (stOk nv na d)=true∧x1+blC d els els.length≤60):=Hi (by have h1:=z1.out;unfold blR at h1;rw [Bool.and_eq_true] at h1;exact ⟨k0 rfl,h1.1,of_decide_eq_true h1.2⟩);have b3:0≤x2∧x2≤60:=by have:=j1.out;have:=f1.out;have:=i1.out;have:=o0.out;omega
            clear k0;have d0:Hid (Q=true):=Hi (by rw [u1.out,o0.out.2.1,j1.out.2.1,decide_eq_true (by have h1:=o0.out;have h2:=j1.out;omega)];rfl);have c0:=Hi (Ai hc (Ai hf hC));clear hC;go_wp2
            exact bodyPost_ret (v:=.bool true) (by simp [results,Try.results54,go_sem]) rfl (scp_yes d0 c0 (fun _=>by have h1:=o0.out;have h2:=j1.out;have h3:=HN.out;omega))
  have q2:(nk == 2)=false:=by simp [hk2]
  by_cases hk3:nk=3
  ·skip
   have q3:(nk == 3)=true:=by simp [hk3]
   have q4:(nk == 4)=false:=by simp [hk3]
   have h0:=Hi (HQ.out.trans (stR_of (c:=c) (stOk_if q3)));simp only [St.body,St.els] at h0;have uJ:=Hi hk3;clear hk3
   cases ht0:wi nt 0 (0) with
   | false =>
    obtain ⟨h9,wG,i9,xG⟩:=Bk.h2 a0;go_wp2_with fail
    refine (within_any nt 0 (0) _).mono ?_;rintro e w2 ⟨rfl,m2⟩;rw [ht0];replace hC:=(hC).trans (Cb m2);have aL:=m2.size;clear wG h9 xG i9;replace hf:=Kf m2 (Lc hc) hf;replace hc:=Kc m2 hc;replace g0:=Lc hc;have i0:=Hi ht0;clear ht0;have d0:Hid (Q=false):=Hi (by rw [h0.out,i0.out] <;> simp);have c0:=Hi (Ai hc (Ai hf hC));clear hC;go_wp2
    exact bodyPost_ret (v:=.bool false) (by simp [results,Try.results54,go_sem]) rfl (scp_no d0 c0)
   | true =>
    obtain ⟨j9,yG,k9,zG⟩:=Bk.h2 a0;go_wp2_with fail
    refine (within_any nt 0 (0) _).mono ?_;rintro e w2 ⟨rfl,r0⟩;rw [ht0];replace hC:=(hC).trans (Cb r0);have bL:=r0.size;clear yG j9 zG k9;replace hf:=Kf r0 (Lc hc) hf;replace hc:=Kc r0 hc;replace g0:=Lc hc;have i0:=Hi ht0;clear ht0
    cases ht1:(m1 == 0) with
    | false =>
     have g1:(m1 != 0)=true:=by rw [bne,ht1];rfl
     have l0:=Hi ht1;clear ht1;have d0:Hid (Q=false):=Hi (by rw [h0.out,i0.out,l0.out] <;> simp);have c0:=Hi (Ai hc (Ai hf hC));clear hC;replace a0:=Bb a0 r0;obtain ⟨hP,wP⟩:=Bk.cf a0 8 rfl;go_wp2
     exact bodyPost_ret (v:=.bool false) (by simp [results,Try.results54,go_sem]) rfl (scp_no d0 c0)
    | true =>
     have g1:(m1 != 0)=false:=by rw [bne,ht1];rfl
     have l0:=Hi ht1;clear ht1
     cases ht2:noneE ix with
     | false =>
      replace a0:=Bb a0 r0;obtain ⟨l9,aH,m9,bH,n9,cH,o9,dH⟩:=Bk.f4 a0 2 3 4 8 rfl rfl rfl rfl;go_wp2_with fail
      refine (isNone_any q0 ix u0.out.1 u0.out.2.1 u0.out.2.2 _).mono ?_;rintro e w3 ⟨rfl,n2⟩;rw [ht2];replace hC:=(hC).trans (Cb n2);have cL:=n2.size;clear aH l9 bH m9 cH n9 dH o9;replace hf:=Kf n2 (Lc hc) hf;replace hc:=Kc n2 hc;have p0:=Hi ht2;clear ht2;have d0:Hid (Q=false):=Hi (by rw [h0.out,i0.out,l0.out,p0.out] <;> simp);have c0:=Hi (Ai hc (Ai hf hC));clear hC;go_wp2
      exact bodyPost_ret (v:=.bool false) (by simp [results,Try.results54,go_sem]) rfl (scp_no d0 c0)
     | true =>
      replace a0:=Bb a0 r0;obtain ⟨p9,eH,q9,fH,r9,gH,s9,hH⟩:=Bk.f4 a0 2 3 4 8 rfl rfl rfl rfl;go_wp2_with fail
      refine (isNone_any q0 ix u0.out.1 u0.out.2.1 u0.out.2.2 _).mono ?_;rintro e w3 ⟨rfl,a1⟩;rw [ht2];replace hC:=(hC).trans (Cb a1);have dL:=a1.size;clear eH p9 fH q9 gH r9 hH s9;replace hf:=Kf a1 (Lc hc) hf;replace hc:=Kc a1 hc;have p0:=Hi ht2;clear ht2
      cases ht3:exRight nv na val with
      | false =>
       replace b0:=Bb (Bb b0 r0) a1;obtain ⟨t9,iH,u9,jH,v9,kH⟩:=Bk.h3 b0;replace a0:=Bb a0 a1;obtain ⟨w9,lH,x9,mH,y9,nH⟩:=Bk.f3 a0 5 6 7 rfl rfl rfl;go_wp2_with fail
       refine (expr_any _ _ nv _ na _ _ hnv B _ f0 val _ (HV.out _ hC)).mono ?_;rintro e w4 ⟨rfl,o2⟩;rw [ht3];replace hC:=(hC).trans (Cb o2);have eL:=o2.size;clear iH t9 jH u9 kH v9 lH w9 mH x9 nH y9;replace hf:=Kf o2 (Lc hc) hf;replace hc:=Kc o2 hc;have t0:=Hi ht3;clear ht3;have d0:Hid (Q=false):=Hi (by rw [h0.out,i0.out,l0.out,p0.out,t0.out] <;> simp);have c0:=Hi (Ai hc (Ai hf hC));clear hC;go_wp2
       exact bodyPost_ret (v:=.bool false) (by simp [results,Try.results54,go_sem]) rfl (scp_no d0 c0)
      | true =>
       replace b0:=Bb (Bb b0 r0) a1;obtain ⟨z9,oH,aA,pH,bA,qH⟩:=Bk.h3 b0;replace a0:=Bb a0 a1;obtain ⟨cA,rH,dA,sH,eA,tH⟩:=Bk.f3 a0 5 6 7 rfl rfl rfl;go_wp2_with fail
       refine (expr_any _ _ nv _ na _ _ hnv B _ f0 val _ (HV.out _ hC)).mono ?_;rintro e w4 ⟨rfl,b1⟩;rw [ht3];replace hC:=(hC).trans (Cb b1);have fL:=b1.size;clear oH z9 pH aA qH bA rH cA sH dA tH eA;replace hf:=Kf b1 (Lc hc) hf;replace hc:=Kc b1 hc;have t0:=Hi ht3;clear ht3;have u1:Hid (Q=((body.all (stOk nv na d)&&els.all (stOk nv na d))&&decide (c+1+blC d body body.length+blC d els els.length≤60))):=Hi (by rw [h0.out,i0.out,l0.out,p0.out,t0.out];first | rfl | (simp only [Bool.true_and];done) | (simp only [Bool.true_and];rfl) | (exact Bool.eq_iff_iff.mpr (by simp only [Bool.true_and,Bool.and_eq_true,decide_eq_true_eq])) | (refine Bool.eq_iff_iff.mpr ?_;simp));have f1:=Hi (blC_ge d body body.length);have i1:=Hi (blC_ge d els els.length)
       cases hz1:blR nv na d (c+1) body with
       | false =>
        replace b0:=Bb b0 b1;obtain ⟨fA,uH,gA,vH,hA,wH⟩:=Bk.h3 b0;replace a0:=Bb a0 b1;obtain ⟨iA,xH⟩:=Bk.cf a0 9 rfl;go_wp2_with fail
        have e0:=IH.out D _ body (c+1) (dp+1) _ (by have:=n1.out;omega) (H5.out _ hC) hc hf (by omega) (by omega);rw [hz1] at e0;clear hc hf;refine (e0).mono ?_;rintro e w5 ⟨x1,rfl,hc,hf,j0,o3⟩;clear e0;replace hC:=(hC).trans o3;have gL:=o3.size;clear uH fA vH gA wH hA xH iA;replace g0:=Lc hc;have y1:=Hi hz1;clear hz1;have d0:Hid (Q=false):=Hi (by rw [u1.out];have h1:=y1.out;have h5:=f1.out;have h6:=i1.out;unfold blR at h1;cases ha:body.all (stOk nv na d) with | false=>simp | true=>rw [ha,Bool.true_and] at h1;have:=of_decide_eq_false h1;rw [decide_eq_false (by omega)];simp);have c0:=Hi (Ai hc (Ai hf hC));clear hC;go_wp2
        exact bodyPost_ret (v:=.bool false) (by simp [results,Try.results54,go_sem]) rfl (scp_no d0 c0)
       | true =>
        replace b0:=Bb b0 b1;obtain ⟨jA,yH,kA,zH,lA,aI⟩:=Bk.h3 b0;replace a0:=Bb a0 b1;obtain ⟨mA,bI⟩:=Bk.cf a0 9 rfl;go_wp2_with fail
        have e0:=IH.out D _ body (c+1) (dp+1) _ (by have:=n1.out;omega) (H5.out _ hC) hc hf (by omega) (by omega);rw [hz1] at e0;clear hc hf;refine (e0).mono ?_;rintro e w5 ⟨x1,rfl,hc,hf,j0,s1⟩;clear e0;replace hC:=(hC).trans s1;have hL:=s1.size;clear yH jA zH kA aI lA bI mA;replace g0:=Lc hc;have y1:=Hi hz1;clear hz1;have o0:Hid (x1=(c+1)+blC d body body.length∧body.all (stOk nv na d)=true∧(c+1)+blC d body body.length≤60):=Hi (by have h1:=y1.out;unfold blR at h1;rw [Bool.and_eq_true] at h1;exact ⟨j0 rfl,h1.1,of_decide_eq_true h1.2⟩);have a3:0≤x1∧x1≤60:=by have:=o0.out;have:=f1.out;have:=i1.out;omega
        clear j0
        cases hz2:blR nv na d x1 els with
        | false =>
         replace b0:=Bk.keep b0 s1 (fun h=>by have:=l1 _ h;omega);obtain ⟨nA,cI,oA,dI,pA,eI⟩:=Bk.h3 b0;replace a0:=Bk.keep a0 s1 (fun h=>by have:=l1 _ h;omega);obtain ⟨qA,fI⟩:=Bk.cf a0 10 rfl;go_wp2_with fail
         have e0:=IH.out D _ els x1 (dp+1) _ (by have:=n1.out;omega) (H6.out _ hC) hc hf (by omega) (by omega);rw [hz2] at e0;clear hc hf;refine (e0).mono ?_;rintro e w6 ⟨x2,rfl,hc,hf,k0,p3⟩;clear e0;replace hC:=(hC).trans p3;have iL:=p3.size;clear cI nA dI oA eI pA fI qA;clear b0 a0;replace g0:=Lc hc;have z1:=Hi hz2;clear hz2;have d0:Hid (Q=false):=Hi (by rw [u1.out];have h1:=z1.out;have h5:=f1.out;have h6:=i1.out;have h7:=o0.out;unfold blR at h1;cases ha:els.all (stOk nv na d) with | false=>simp | true=>rw [ha,Bool.true_and] at h1;have:=of_decide_eq_false h1;rw [decide_eq_false (by omega)];simp);have c0:=Hi (Ai hc (Ai hf hC));clear hC;go_wp2
         exact bodyPost_ret (v:=.bool false) (by simp [results,Try.results54,go_sem]) rfl (scp_no d0 c0)
        | true =>
         replace b0:=Bk.keep b0 s1 (fun h=>by have:=l1 _ h;omega);obtain ⟨rA,gI,sA,hI,tA,iI⟩:=Bk.h3 b0;replace a0:=Bk.keep a0 s1 (fun h=>by have:=l1 _ h;omega);obtain ⟨uA,jI⟩:=Bk.cf a0 10 rfl;go_wp2_with fail
         have e0:=IH.out D _ els x1 (dp+1) _ (by have:=n1.out;omega) (H6.out _ hC) hc hf (by omega) (by omega);rw [hz2] at e0;clear hc hf;refine (e0).mono ?_;rintro e w6 ⟨x2,rfl,hc,hf,k0,r3⟩;clear e0;replace hC:=(hC).trans r3;have jL:=r3.size;clear gI rA hI sA iI tA jI uA;clear b0 a0;replace g0:=Lc hc;have z1:=Hi hz2;clear hz2;have j1:Hid (x2=x1+blC d els els.length∧els.all (stOk nv na d)=true∧x1+blC d els els.length≤60):=Hi (by have h1:=z1.out;unfold blR at h1;rw [Bool.and_eq_true] at h1;exact ⟨k0 rfl,h1.1,of_decide_eq_true h1.2⟩);have b3:0≤x2∧x2≤60:=by have:=j1.out;have:=f1.out;have:=i1.out;have:=o0.out;omega
         clear k0;have d0:Hid (Q=true):=Hi (by rw [u1.out,o0.out.2.1,j1.out.2.1,decide_eq_true (by have h1:=o0.out;have h2:=j1.out;omega)];rfl);have c0:=Hi (Ai hc (Ai hf hC));clear hC;go_wp2
         exact bodyPost_ret (v:=.bool true) (by simp [results,Try.results54,go_sem]) rfl (scp_yes d0 c0 (fun _=>by have h1:=o0.out;have h2:=j1.out;have h3:=HN.out;omega))
  have q3:(nk == 3)=false:=by simp [hk3]
  by_cases hk4:nk=4
  ·skip
   have q4:(nk == 4)=true:=by simp [hk4]
   have h0:=Hi (HQ.out.trans (stR_of (c:=c) (stOk_re q4)));simp only [St.body,St.els] at h0;have uJ:=Hi hk4;clear hk4
   cases ht0:wi nt 0 (0) with
   | false =>
    obtain ⟨vA,kI,wA,lI⟩:=Bk.h2 a0;go_wp2_with fail
    refine (within_any nt 0 (0) _).mono ?_;rintro e w2 ⟨rfl,p2⟩;rw [ht0];replace hC:=(hC).trans (Cb p2);have kL:=p2.size;clear kI vA lI wA;replace hf:=Kf p2 (Lc hc) hf;replace hc:=Kc p2 hc;replace g0:=Lc hc;have i0:=Hi ht0;clear ht0;have d0:Hid (Q=false):=Hi (by rw [h0.out,i0.out] <;> simp);have c0:=Hi (Ai hc (Ai hf hC));clear hC;go_wp2
    exact bodyPost_ret (v:=.bool false) (by simp [results,Try.results54,go_sem]) rfl (scp_no d0 c0)
   | true =>
    obtain ⟨xA,mI,yA,nI⟩:=Bk.h2 a0;go_wp2_with fail
    refine (within_any nt 0 (0) _).mono ?_;rintro e w2 ⟨rfl,c1⟩;rw [ht0];replace hC:=(hC).trans (Cb c1);have lL:=c1.size;clear mI xA nI yA;replace hf:=Kf c1 (Lc hc) hf;replace hc:=Kc c1 hc;replace g0:=Lc hc;have i0:=Hi ht0;clear ht0
    cases ht1:wi m1 1 (3) with
    | false =>
     replace a0:=Bb a0 c1;obtain ⟨zA,oI⟩:=Bk.cf a0 8 rfl;go_wp2_with fail
     refine (within_any m1 1 (3) _).mono ?_;rintro e w3 ⟨rfl,r2⟩;rw [ht1];replace hC:=(hC).trans (Cb r2);have mL:=r2.size;clear oI zA;replace hf:=Kf r2 (Lc hc) hf;replace hc:=Kc r2 hc;have l0:=Hi ht1;clear ht1;have d0:Hid (Q=false):=Hi (by rw [h0.out,i0.out,l0.out] <;> simp);have c0:=Hi (Ai hc (Ai hf hC));clear hC;go_wp2
     exact bodyPost_ret (v:=.bool false) (by simp [results,Try.results54,go_sem]) rfl (scp_no d0 c0)
    | true =>
     replace a0:=Bb a0 c1;obtain ⟨aB,pI⟩:=Bk.cf a0 8 rfl;go_wp2_with fail
     refine (within_any m1 1 (3) _).mono ?_;rintro e w3 ⟨rfl,s0⟩;rw [ht1];replace hC:=(hC).trans (Cb s0);have nL:=s0.size;clear pI aB;replace hf:=Kf s0 (Lc hc) hf;replace hc:=Kc s0 hc;have l0:=Hi ht1;clear ht1
     cases ht2:decide (els.length=0) with
     | false =>
      have g2:0 < els.length:=by have:=of_decide_eq_false ht2;omega
      have p0:=Hi ht2;clear ht2;have d0:Hid (Q=false):=Hi (by rw [h0.out,i0.out,l0.out,p0.out] <;> simp);have c0:=Hi (Ai hc (Ai hf hC));clear hC;replace a0:=Bb a0 s0;obtain ⟨iP,xP⟩:=Bk.cf a0 10 rfl;go_wp2
      exact bodyPost_ret (v:=.bool false) (by simp [results,Try.results54,go_sem]) rfl (scp_no d0 c0)
     | true =>
      have g2:decide (0 < els.length)=false:=decide_eq_false (by have:=of_decide_eq_true ht2;omega);have p0:=Hi ht2;clear ht2
      cases ht3:noneE ix with
      | false =>
       replace a0:=Bb a0 s0;obtain ⟨bB,qI,cB,rI,dB,sI,eB,tI⟩:=Bk.f4 a0 2 3 4 10 rfl rfl rfl rfl;go_wp2_with fail
       refine (isNone_any q0 ix u0.out.1 u0.out.2.1 u0.out.2.2 _).mono ?_;rintro e w4 ⟨rfl,s2⟩;rw [ht3];replace hC:=(hC).trans (Cb s2);have oL:=s2.size;clear qI bB rI cB sI dB tI eB;replace hf:=Kf s2 (Lc hc) hf;replace hc:=Kc s2 hc;have t0:=Hi ht3;clear ht3;have d0:Hid (Q=false):=Hi (by rw [h0.out,i0.out,l0.out,p0.out,t0.out] <;> simp);have c0:=Hi (Ai hc (Ai hf hC));clear hC;go_wp2
       exact bodyPost_ret (v:=.bool false) (by simp [results,Try.results54,go_sem]) rfl (scp_no d0 c0)
      | true =>
       replace a0:=Bb a0 s0;obtain ⟨fB,uI,gB,vI,iB,wI,jB,xI⟩:=Bk.f4 a0 2 3 4 10 rfl rfl rfl rfl;go_wp2_with fail
       refine (isNone_any q0 ix u0.out.1 u0.out.2.1 u0.out.2.2 _).mono ?_;rintro e w4 ⟨rfl,d1⟩;rw [ht3];replace hC:=(hC).trans (Cb d1);have pL:=d1.size;clear uI fB vI gB wI iB xI jB;replace hf:=Kf d1 (Lc hc) hf;replace hc:=Kc d1 hc;have t0:=Hi ht3;clear ht3
       cases ht4:noneE val with
       | false =>
        replace a0:=Bb a0 d1;obtain ⟨kB,yI,lB,zI,mB,aJ⟩:=Bk.f3 a0 5 6 7 rfl rfl rfl;go_wp2_with fail
        refine (isNone_any f0 val z3.out.1 z3.out.2.1 z3.out.2.2 _).mono ?_;rintro e w5 ⟨rfl,t2⟩;rw [ht4];replace hC:=(hC).trans (Cb t2);have qL:=t2.size;clear yI kB zI lB aJ mB;replace hf:=Kf t2 (Lc hc) hf;replace hc:=Kc t2 hc;have v1:=Hi ht4;clear ht4;have d0:Hid (Q=false):=Hi (by rw [h0.out,i0.out,l0.out,p0.out,t0.out,v1.out] <;> simp);have c0:=Hi (Ai hc (Ai hf hC));clear hC;go_wp2
        exact bodyPost_ret (v:=.bool false) (by simp [results,Try.results54,go_sem]) rfl (scp_no d0 c0)
       | true =>
        replace a0:=Bb a0 d1;obtain ⟨nB,bJ,oB,cJ,pB,dJ⟩:=Bk.f3 a0 5 6 7 rfl rfl rfl;go_wp2_with fail
        refine (isNone_any f0 val z3.out.1 z3.out.2.1 z3.out.2.2 _).mono ?_;rintro e w5 ⟨rfl,e1⟩;rw [ht4];replace hC:=(hC).trans (Cb e1);have rL:=e1.size;clear bJ nB cJ oB dJ pB;replace hf:=Kf e1 (Lc hc) hf;replace hc:=Kc e1 hc;have v1:=Hi ht4;clear ht4;have u1:Hid (Q=((body.all (stOk nv na d)&&els.all (stOk nv na d))&&decide (c+1+blC d body body.length+blC d els els.length≤60))):=Hi (by rw [h0.out,i0.out,l0.out,p0.out,t0.out,v1.out];first | rfl | (simp only [Bool.true_and];done) | (simp only [Bool.true_and];rfl) | (exact Bool.eq_iff_iff.mpr (by simp only [Bool.true_and,Bool.and_eq_true,decide_eq_true_eq])) | (refine Bool.eq_iff_iff.mpr ?_;simp));have f1:=Hi (blC_ge d body body.length);have i1:=Hi (blC_ge d els els.length)
        cases hz1:blR nv na d (c+1) body with
        | false =>
         replace b0:=Bb (Bb (Bb (Bb b0 c1) s0) d1) e1;obtain ⟨qB,eJ,rB,fJ,sB,gJ⟩:=Bk.h3 b0;replace a0:=Bb a0 e1;obtain ⟨tB,hJ⟩:=Bk.cf a0 9 rfl;go_wp2_with fail
         have e0:=IH.out D _ body (c+1) (dp+1) _ (by have:=n1.out;omega) (H5.out _ hC) hc hf (by omega) (by omega);rw [hz1] at e0;clear hc hf;refine (e0).mono ?_;rintro e w6 ⟨x1,rfl,hc,hf,j0,s3⟩;clear e0;replace hC:=(hC).trans s3;have sL:=s3.size;clear eJ qB fJ rB gJ sB hJ tB;replace g0:=Lc hc;have y1:=Hi hz1;clear hz1;have d0:Hid (Q=false):=Hi (by rw [u1.out];have h1:=y1.out;have h5:=f1.out;have h6:=i1.out;unfold blR at h1;cases ha:body.all (stOk nv na d) with | false=>simp | true=>rw [ha,Bool.true_and] at h1;have:=of_decide_eq_false h1;rw [decide_eq_false (by omega)];simp);have c0:=Hi (Ai hc (Ai hf hC));clear hC;go_wp2
         exact bodyPost_ret (v:=.bool false) (by simp [results,Try.results54,go_sem]) rfl (scp_no d0 c0)
        | true =>
         replace b0:=Bb (Bb (Bb (Bb b0 c1) s0) d1) e1;obtain ⟨uB,iJ,vB,jJ,wB,kJ⟩:=Bk.h3 b0;replace a0:=Bb a0 e1;obtain ⟨xB,lJ⟩:=Bk.cf a0 9 rfl;go_wp2_with fail
         have e0:=IH.out D _ body (c+1) (dp+1) _ (by have:=n1.out;omega) (H5.out _ hC) hc hf (by omega) (by omega);rw [hz1] at e0;clear hc hf;refine (e0).mono ?_;rintro e w6 ⟨x1,rfl,hc,hf,j0,t1⟩;clear e0;replace hC:=(hC).trans t1;have tL:=t1.size;clear iJ uB jJ vB kJ wB lJ xB;replace g0:=Lc hc;have y1:=Hi hz1;clear hz1;have o0:Hid (x1=(c+1)+blC d body body.length∧body.all (stOk nv na d)=true∧(c+1)+blC d body body.length≤60):=Hi (by have h1:=y1.out;unfold blR at h1;rw [Bool.and_eq_true] at h1;exact ⟨j0 rfl,h1.1,of_decide_eq_true h1.2⟩);have a3:0≤x1∧x1≤60:=by have:=o0.out;have:=f1.out;have:=i1.out;omega
         clear j0
         cases hz2:blR nv na d x1 els with
         | false =>
          replace b0:=Bk.keep b0 t1 (fun h=>by have:=l1 _ h;omega);obtain ⟨yB,mJ,zB,nJ,aC,oJ⟩:=Bk.h3 b0;replace a0:=Bk.keep a0 t1 (fun h=>by have:=l1 _ h;omega);obtain ⟨bC,pJ⟩:=Bk.cf a0 10 rfl;go_wp2_with fail
          have e0:=IH.out D _ els x1 (dp+1) _ (by have:=n1.out;omega) (H6.out _ hC) hc hf (by omega) (by omega);rw [hz2] at e0;clear hc hf;refine (e0).mono ?_;rintro e w7 ⟨x2,rfl,hc,hf,k0,t3⟩;clear e0;replace hC:=(hC).trans t3;have uL:=t3.size;clear mJ yB nJ zB oJ aC pJ bC;clear b0 a0;replace g0:=Lc hc;have z1:=Hi hz2;clear hz2;have d0:Hid (Q=false):=Hi (by rw [u1.out];have h1:=z1.out;have h5:=f1.out;have h6:=i1.out;have h7:=o0.out;unfold blR at h1;cases ha:els.all (stOk nv na d) with | false=>simp | true=>rw [ha,Bool.true_and] at h1;have:=of_decide_eq_false h1;rw [decide_eq_false (by omega)];simp);have c0:=Hi (Ai hc (Ai hf hC));clear hC;go_wp2
          exact bodyPost_ret (v:=.bool false) (by simp [results,Try.results54,go_sem]) rfl (scp_no d0 c0)
         | true =>
          replace b0:=Bk.keep b0 t1 (fun h=>by have:=l1 _ h;omega);obtain ⟨cC,qJ,dC,rJ,eC,sJ⟩:=Bk.h3 b0;replace a0:=Bk.keep a0 t1 (fun h=>by have:=l1 _ h;omega);obtain ⟨fC,tJ⟩:=Bk.cf a0 10 rfl;go_wp2_with fail
          have e0:=IH.out D _ els x1 (dp+1) _ (by have:=n1.out;omega) (H6.out _ hC) hc hf (by omega) (by omega);rw [hz2] at e0;clear hc hf;refine (e0).mono ?_;rintro e w7 ⟨x2,rfl,hc,hf,k0,u3⟩;clear e0;replace hC:=(hC).trans u3;have vL:=u3.size;clear qJ cC rJ dC sJ eC tJ fC;clear b0 a0;replace g0:=Lc hc;have z1:=Hi hz2;clear hz2;have j1:Hid (x2=x1+blC d els els.length∧els.all (stOk nv na d)=true∧x1+blC d els els.length≤60):=Hi (by have h1:=z1.out;unfold blR at h1;rw [Bool.and_eq_true] at h1;exact ⟨k0 rfl,h1.1,of_decide_eq_true h1.2⟩);have b3:0≤x2∧x2≤60:=by have:=j1.out;have:=f1.out;have:=i1.out;have:=o0.out;omega
          clear k0;have d0:Hid (Q=true):=Hi (by rw [u1.out,o0.out.2.1,j1.out.2.1,decide_eq_true (by have h1:=o0.out;have h2:=j1.out;omega)];rfl);have c0:=Hi (Ai hc (Ai hf hC));clear hC;go_wp2
          exact bodyPost_ret (v:=.bool true) (by simp [results,Try.results54,go_sem]) rfl (scp_yes d0 c0 (fun _=>by have h1:=o0.out;have h2:=j1.out;have h3:=HN.out;omega))
  have q4:(nk == 4)=false:=by simp [hk4]
  have d0:Hid (Q=false):=Hi (by rw [HQ.out];unfold stR;rw [stOk_no ⟨hk1,hk2,hk3,hk4,hk5⟩];rfl);clear hk1 hk2 hk3 hk4 hk5;have c0:=Hi (Ai hc (Ai hf hC));clear hC;obtain ⟨jP,yP⟩:=Bk.cf a0 0 rfl;go_wp2
  exact bodyPost_ret (v:=.bool false) (by simp [results,Try.results54,go_sem]) rfl (scp_no d0 c0)
end Go.Proofs.Ytlckklglbodgbaa
