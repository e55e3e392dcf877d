/-
 Parts of the proofs of the laws FnDoubleLabels.
-/
import Derived.Test.YtlckklglbodgbaaQA
set_option linter.all false
namespace Go.Proofs.Ytlckklglbodgbaa
open Go.RowKit
theorem wi_lt (t:Int) (n:Nat):wi t 0 ((n:Int)-1)=(decide (0≤t)&&decide (t < n)):=by
 unfold wi
 rw [← Bool.decide_and,decide_eq_decide];omega
theorem wi_one (t:Int):wi t 0 0=(t == 0):=by
 unfold wi
 rw [Bool.eq_iff_iff];simp;omega
theorem wi_three (t:Int):wi t 1 3=(decide (1≤t)&&decide (t≤3)):=by
 unfold wi
 rw [← Bool.decide_and]
theorem len_all (p:St→Bool) (l:List St):decide (l.length=0)=(decide (l.length=0)&&l.all p):=by cases l <;> simp
theorem stOk_as {nv na d:Nat} {k t c:Int} {ix val:Ex} {body els:List St} (h1:(k == 1||k == 5)=true):stOk nv na (d+1) (.mk k t ix val c body els)=((wi t 0 ((nv:Int)-1)&&((c == 0)&&(decide (body.length=0)&&(decide (els.length=0)&&(noneE ix&&exRight nv na val)))))&&(body.all (stOk nv na d)&&els.all (stOk nv na d))):=by
 have hk:k=1∨k=5:=by simpa using h1
 have a0:(k == 3||k == 4)=false:=by rcases hk with rfl | rfl <;> rfl
 have h2:(k == 2)=false:=by rcases hk with rfl | rfl <;> rfl
 simp only [stOk,partsS,h1,a0,h2,wi_lt];have hb:=len_all (stOk nv na d) body;have he:=len_all (stOk nv na d) els;generalize body.all (stOk nv na d)=A at *;generalize els.all (stOk nv na d)=E at *
 generalize decide (body.length=0)=x1 at *;generalize decide (els.length=0)=x2 at *;generalize (c == 0)=x3;generalize noneE ix=x4;generalize decide (0≤t)=x5;generalize decide (t < (nv:Int))=x6;generalize exRight nv na val=x7
 revert hb he
 cases x1 <;> cases x2 <;> cases x3 <;> cases x4 <;> cases x5 <;> cases x6 <;> cases x7 <;> cases A <;> cases E <;> simp
theorem stOk_st {nv na d:Nat} {k t c:Int} {ix val:Ex} {body els:List St} (h1:(k == 2)=true):stOk nv na (d+1) (.mk k t ix val c body els)=((wi t 0 ((na:Int)-1)&&((c == 0)&&(decide (body.length=0)&&(decide (els.length=0)&&(exRight nv na ix&&(atomK ix.k&&exRight nv na val))))))&&(body.all (stOk nv na d)&&els.all (stOk nv na d))):=by
 have hk:k=2:=by simpa using h1
 have a0:(k == 3||k == 4)=false:=by subst hk;rfl
 have h2:(k == 1||k == 5)=false:=by subst hk;rfl
 simp only [stOk,partsS,h1,a0,h2,wi_lt];have hb:=len_all (stOk nv na d) body;have he:=len_all (stOk nv na d) els;generalize body.all (stOk nv na d)=A at *;generalize els.all (stOk nv na d)=E at *
 generalize decide (body.length=0)=x1 at *;generalize decide (els.length=0)=x2 at *;generalize (c == 0)=x3;generalize noneE ix=x4;generalize decide (0≤t)=x5;generalize decide (t < (na:Int))=x6;generalize exRight nv na val=x7;generalize exRight nv na ix=x8;generalize atomK ix.k=x9
 revert hb he
 cases x1 <;> cases x2 <;> cases x3 <;> cases x5 <;> cases x6 <;> cases x7 <;> cases x8 <;> cases x9 <;> cases A <;> cases E <;> simp
theorem stOk_if {nv na d:Nat} {k t c:Int} {ix val:Ex} {body els:List St} (h1:(k == 3)=true):stOk nv na (d+1) (.mk k t ix val c body els)=((wi t 0 0&&((c == 0)&&(noneE ix&&exRight nv na val)))&&(body.all (stOk nv na d)&&els.all (stOk nv na d))):=by
 have hk:k=3:=by simpa using h1
 subst hk;have e1:((3:Int) == 3||(3:Int) == 4)=true:=rfl;have e2:((3:Int) == 4)=false:=rfl;have e3:((3:Int) == 1||(3:Int) == 5)=false:=rfl;have e4:((3:Int) == 2)=false:=rfl;simp only [stOk,partsS,e1,e2,e3,e4,h1,wi_one];generalize body.all (stOk nv na d)=A at *;generalize els.all (stOk nv na d)=E at *
 generalize (c == 0)=x3;generalize noneE ix=x4;generalize (t == 0)=x5;generalize exRight nv na val=x7
 cases x3 <;> cases x4 <;> cases x5 <;> cases x7 <;> cases A <;> cases E <;> simp
theorem stOk_re {nv na d:Nat} {k t c:Int} {ix val:Ex} {body els:List St} (h1:(k == 4)=true):stOk nv na (d+1) (.mk k t ix val c body els)=((wi t 0 0&&(wi c 1 3&&(decide (els.length=0)&&(noneE ix&&noneE val))))&&(body.all (stOk nv na d)&&els.all (stOk nv na d))):=by
 have hk:k=4:=by simpa using h1
 subst hk;have e1:((4:Int) == 3||(4:Int) == 4)=true:=rfl;have e2:((4:Int) == 3)=false:=rfl;have e3:((4:Int) == 1||(4:Int) == 5)=false:=rfl;have e4:((4:Int) == 2)=false:=rfl;simp only [stOk,partsS,e1,e2,e3,e4,h1,wi_one,wi_three];have he:=len_all (stOk nv na d) els;generalize body.all (stOk nv na d)=A at *;generalize els.all (stOk nv na d)=E at *
 generalize decide (els.length=0)=x2 at *;generalize decide (1≤c)=x3;generalize decide (c≤3)=x6;generalize noneE ix=x4;generalize (t == 0)=x5;generalize noneE val=x7
 revert he
 cases x2 <;> cases x3 <;> cases x6 <;> cases x4 <;> cases x5 <;> cases x7 <;> cases A <;> cases E <;> simp
theorem stOk_no {nv na d:Nat} {k t c:Int} {ix val:Ex} {body els:List St} (h:¬k=1∧¬k=2∧¬k=3∧¬k=4∧¬k=5):stOk nv na (d+1) (.mk k t ix val c body els)=false:=by
 have e1:(k == 1||k == 5)=false:=by simp [h]
 have e2:(k == 2)=false:=by simp [h]
 have e3:(k == 3)=false:=by simp [h]
 have e4:(k == 4)=false:=by simp [h]
 simp only [stOk,e1,e2,e3,e4];simp
theorem stR_of {nv na d:Nat} {c:Int} {s:St} {T:Bool} (h:stOk nv na (d+1) s=(T&&(s.body.all (stOk nv na d)&&s.els.all (stOk nv na d)))):stR nv na (d+1) c s=(T&&((s.body.all (stOk nv na d)&&s.els.all (stOk nv na d))&&decide (c+1+blC d s.body s.body.length+blC d s.els s.els.length≤60))):=by
 unfold stR
 rw [h,Bool.and_assoc];congr 2
 rw [decide_eq_decide];simp only [stC,blC];rw [List.take_of_length_le Lr,List.take_of_length_le Lr];omega
theorem stR_big {nv na d:Nat} {c:Int} {s:St} (h:60 < c+1):stR nv na d c s=false:=by
 unfold stR
 have:=stC_ge d s
 rw [decide_eq_false (by omega)];simp
theorem stmt_zero (cb:Nat) (pv pa:Option Addr) (nv cv na ca:Nat) (vb:Value) (B:Nat→Prop) (hB:∀ q,B q→¬q=cb) (hnv:nv≤1000000000∧na≤1000000000) (D:Nat) (n:Sn) (s:St) (c dp:Int) (w:World) (hdp:dp=6-((0:Nat):Int)) (hc:w.cell? ⟨cb,0,none⟩=some (.int .i64 c)) (hf:w.frozen? ⟨cb,0,none⟩=false) (hc0:0≤c) (hc1:c≤60) :
  Calls Try.prog 54 #[.agg #[.slice pv nv cv,.slice pa na ca,vb],.agg #[.int .i64 n.k,.int .i64 n.t,.int .i64 n.ix.k,.int .i64 n.ix.v,.slice n.ix.p n.ix.n n.ix.c,.int .i64 n.val.k,.int .i64 n.val.v,.slice n.val.p n.val.n n.val.c,.int .i64 n.c,.slice n.bp n.bn n.bc,.slice n.ep n.en n.ec],.int .i64 dp,.pointer (some ⟨cb,0,none⟩)] w fun r w'=>ScP cb c (stC 0 s) (stR nv na 0 c s) w r w':=by
 have l1:=Hi hB;clear hB l1;have HQ:Hid (stR nv na 0 c s=false):=Hi rfl;generalize stR nv na 0 c s=Q at *
 have vH:(5:Int) < dp:=by omega
 have uH:dp≤6:=by omega
 clear hdp;have hC:Chg (fun k=>k=cb) w w:=Chg.refl _ _;have k0:∀ q,(fun k=>k=cb) q→q=cb:=fun q h=>h
 have yN:=Lc hc;go_enter Try.func54,Try.ntmps54
 by_cases hbig:(60:Int) < c+1
 ·skip
  go_upto_region 2 with (fail)
  obtain ⟨w1,e1,hb⟩:=nmw (World.alloc (World.alloc (World.setCell w ⟨cb,0,none⟩ (.int .i64 (c+1))) (.cells #[.slice pv nv cv,.slice pa na ca,vb] 26)) (.cells #[.int .i64 n.k,.int .i64 n.t,.int .i64 n.ix.k,.int .i64 n.ix.v,.slice n.ix.p n.ix.n n.ix.c,.int .i64 n.val.k,.int .i64 n.val.v,.slice n.val.p n.val.n n.val.c,.int .i64 n.c,.slice n.bp n.bn n.bc,.slice n.ep n.en n.ec] 51));replace hC:=((((hC.setCell cb (0) (.int .i64 (c+1)) (fun _=>rfl)).trans (Cb (bal (Bs _) _))).trans (Cb (bal (Bs _) _)))).trans (Cb hb);have j1:=hb.size;simp only [Sa,Ss] at j1;replace hf:=Kf hb (Lc (Ac (Ac (Tc _ (cb) 0 (.int .i64 (c+1)) hc) _) _)) (Fa (Lc (Ac (Tc _ (cb) 0 (.int .i64 (c+1)) hc) _)) (Fa (Lc (Tc _ (cb) 0 (.int .i64 (c+1)) hc)) (Fs hf _) _) _);replace hc:w1.cell? ⟨cb,0,none⟩=some (.int .i64 (c+1)):=Kc hb (Ac (Ac (Tc _ (cb) 0 (.int .i64 (c+1)) hc) _) _);have sH:Bk w1 (w.heap.size) [.slice pv nv cv,.slice pa na ca,vb]:=Bb (Bk.al (Bk.nw (by simp) rfl) (.cells #[.int .i64 n.k,.int .i64 n.t,.int .i64 n.ix.k,.int .i64 n.ix.v,.slice n.ix.p n.ix.n n.ix.c,.int .i64 n.val.k,.int .i64 n.val.v,.slice n.val.p n.val.n n.val.c,.int .i64 n.c,.slice n.bp n.bn n.bc,.slice n.ep n.en n.ec] 51)) hb;have tH:Bk w1 (w.heap.size+1) [.int .i64 n.k,.int .i64 n.t,.int .i64 n.ix.k,.int .i64 n.ix.v,.slice n.ix.p n.ix.n n.ix.c,.int .i64 n.val.k,.int .i64 n.val.v,.slice n.val.p n.val.n n.val.c,.int .i64 n.c,.slice n.bp n.bn n.bc,.slice n.ep n.en n.ec]:=Bb (Bk.nw (by simp) rfl) hb;clear hb;rw [← e1];clear e1;have zN:=Lc hc;have aO:=Bk.lz sH;have bO:=Bk.lz tH;have X1:=hc;have X2:=hf;have X3:=hC;have b0:=Hi (Ai X1 (Ai X2 X3));clear X1 X2 X3 hC;go_wp2
  exact bodyPost_ret (v:=.bool false) (by simp [results,Try.results54,go_sem]) rfl (by rw [HQ.out];unfold ScP;exact ⟨_,rfl,b0.out.1,b0.out.2.1,(fun h=>(by cases h)),b0.out.2.2⟩)
 skip
 go_upto_region 2 with (fail)
 obtain ⟨w1,e1,hb⟩:=nmw (World.alloc (World.alloc (World.setCell w ⟨cb,0,none⟩ (.int .i64 (c+1))) (.cells #[.slice pv nv cv,.slice pa na ca,vb] 26)) (.cells #[.int .i64 n.k,.int .i64 n.t,.int .i64 n.ix.k,.int .i64 n.ix.v,.slice n.ix.p n.ix.n n.ix.c,.int .i64 n.val.k,.int .i64 n.val.v,.slice n.val.p n.val.n n.val.c,.int .i64 n.c,.slice n.bp n.bn n.bc,.slice n.ep n.en n.ec] 51));replace hC:=((((hC.setCell cb (0) (.int .i64 (c+1)) (fun _=>rfl)).trans (Cb (bal (Bs _) _))).trans (Cb (bal (Bs _) _)))).trans (Cb hb);have k1:=hb.size;simp only [Sa,Ss] at k1;replace hf:=Kf hb (Lc (Ac (Ac (Tc _ (cb) 0 (.int .i64 (c+1)) hc) _) _)) (Fa (Lc (Ac (Tc _ (cb) 0 (.int .i64 (c+1)) hc) _)) (Fa (Lc (Tc _ (cb) 0 (.int .i64 (c+1)) hc)) (Fs hf _) _) _);replace hc:w1.cell? ⟨cb,0,none⟩=some (.int .i64 (c+1)):=Kc hb (Ac (Ac (Tc _ (cb) 0 (.int .i64 (c+1)) hc) _) _);have c0:Bk w1 (w.heap.size) [.slice pv nv cv,.slice pa na ca,vb]:=Bb (Bk.al (Bk.nw (by simp) rfl) (.cells #[.int .i64 n.k,.int .i64 n.t,.int .i64 n.ix.k,.int .i64 n.ix.v,.slice n.ix.p n.ix.n n.ix.c,.int .i64 n.val.k,.int .i64 n.val.v,.slice n.val.p n.val.n n.val.c,.int .i64 n.c,.slice n.bp n.bn n.bc,.slice n.ep n.en n.ec] 51)) hb;have a0:Bk w1 (w.heap.size+1) [.int .i64 n.k,.int .i64 n.t,.int .i64 n.ix.k,.int .i64 n.ix.v,.slice n.ix.p n.ix.n n.ix.c,.int .i64 n.val.k,.int .i64 n.val.v,.slice n.val.p n.val.n n.val.c,.int .i64 n.c,.slice n.bp n.bn n.bc,.slice n.ep n.en n.ec]:=Bb (Bk.nw (by simp) rfl) hb;clear hb;rw [← e1];clear e1;have g0:=Lc hc;have b1:=Bk.lz c0;have c1:=Bk.lz a0;have X1:=hc;have X2:=hf;have X3:=hC;have b0:=Hi (Ai X1 (Ai X2 X3));clear X1 X2 X3 hC;go_wp2
 exact bodyPost_ret (v:=.bool false) (by simp [results,Try.results54,go_sem]) rfl (by rw [HQ.out];unfold ScP;exact ⟨_,rfl,b0.out.1,b0.out.2.1,(fun h=>(by cases h)),b0.out.2.2⟩)
set_option maxHeartbeats 6400000 in
set_option maxRecDepth 100000 in
theorem stmt_of (cb:Nat) (pv pa:Option Addr) (nv cv na ca:Nat) (vb:Value) (B:Nat→Prop) (hB:∀ q,B q→¬q=cb) (hnv:nv≤1000000000∧na≤1000000000) (d:Nat) (hd:d+1≤5) (H:∀ (D:Nat) (u:Value) (L:List St) (c dp:Int) (w:World),dp=6-(d:Int)→BlAt w B D u L→w.cell? ⟨cb,0,none⟩=some (.int .i64 c)→w.frozen? ⟨cb,0,none⟩=false→0≤c→c≤60 →
  Calls Try.prog 24 #[.agg #[.slice pv nv cv,.slice pa na ca,vb],u,.int .i64 dp,.pointer (some ⟨cb,0,none⟩)] w fun r w'=>ScP cb c (blC d L L.length) (blR nv na d c L) w r w')
  (D:Nat) (n:Sn) (s:St) (c dp:Int) (w:World) (hdp:dp=6-((d+1:Nat):Int)) (hx:StAt w B D n s) (hc:w.cell? ⟨cb,0,none⟩=some (.int .i64 c)) (hf:w.frozen? ⟨cb,0,none⟩=false) (hc0:0≤c) (hc1:c≤60) :
  Calls Try.prog 54 #[.agg #[.slice pv nv cv,.slice pa na ca,vb],.agg #[.int .i64 n.k,.int .i64 n.t,.int .i64 n.ix.k,.int .i64 n.ix.v,.slice n.ix.p n.ix.n n.ix.c,.int .i64 n.val.k,.int .i64 n.val.v,.slice n.val.p n.val.n n.val.c,.int .i64 n.c,.slice n.bp n.bn n.bc,.slice n.ep n.en n.ec],.int .i64 dp,.pointer (some ⟨cb,0,none⟩)] w fun r w'=>ScP cb c (stC (d+1) s) (stR nv na (d+1) c s) w r w':=by
 have vH:¬(5:Int) < dp:=by omega
 have uH:0≤dp:=by omega
 have w0:=Hi hdp;clear hdp;have l1:=Hi hB;clear hB;have IH:=Hi H;clear H
 cases D with
 | zero=>cases hx
 | succ D =>
  obtain ⟨k,t,ix,val,cc,body,els⟩:=s;obtain ⟨nk,nt,j0,e0,v0,bp,bn,bc,ep,en,ec⟩:=n;obtain ⟨q1,q2,q3,⟨D1,hi⟩,⟨D2,hv⟩,n1,o1⟩:=hx;simp only at q1 q2 q3 hi hv n1 o1
  subst q1 q2 q3;obtain ⟨a5,c5,r5⟩:=n1.shape;obtain ⟨a6,c6,r6⟩:=o1.shape;simp only [Value.slice.injEq] at r5 r6;obtain ⟨rfl,rfl,rfl⟩:=r5;obtain ⟨rfl,rfl,rfl⟩:=r6;have hM:=fun W (hW:Chg (fun q=>q=cb) w W)=>ExAt.keep hW (fun q hq _ h=>l1.out q hq h) (fun _ h _=>h) (Nat.le_refl D1) hi
  have iM:=fun W (hW:Chg (fun q=>q=cb) w W)=>ExAt.keep hW (fun q hq _ h=>l1.out q hq h) (fun _ h _=>h) (Nat.le_refl D2) hv
  have jM:=fun W (hW:Chg (fun q=>q=cb) w W)=>BlAt.keep (show BlAt w B D _ body from n1) hW (fun q hq _ h=>l1.out q hq h) (fun _ h _=>h) (Nat.le_refl D)
  have kM:=fun W (hW:Chg (fun q=>q=cb) w W)=>BlAt.keep (show BlAt w B D _ els from o1) hW (fun q hq _ h=>l1.out q hq h) (fun _ h _=>h) (Nat.le_refl D)
  have HI:=Hi hM;have HV:=Hi iM;have H5:=Hi jM;have H6:=Hi kM;have r0:=Hi hi.shape;have m1:=Hi hv.shape;have oO:body.length≤9223372036854775807:=by obtain ⟨_,_,h,_⟩:=n1;exact h.2.1
  have pO:els.length≤9223372036854775807:=by obtain ⟨_,_,h,_⟩:=o1;exact h.2.1
  clear hM iM jM kM hi hv n1 o1;obtain ⟨Q,hQ⟩:∃ Q,stR nv na (d+1) c (.mk nk nt ix val v0 body els)=Q:=⟨_,rfl⟩;obtain ⟨N,hN⟩:∃ N,stC (d+1) (.mk nk nt ix val v0 body els)=N:=⟨_,rfl⟩;have HN:Hid (N=1+blC d body body.length+blC d els els.length):=Hi (by rw [← hN];simp only [stC,blC];rw [List.take_of_length_le Lr,List.take_of_length_le Lr];show 1+_=_;simp only [St.body,St.els];omega);rw [hQ,hN];clear hN;have HQ:=Hi hQ.symm;clear hQ;have hC:Chg (fun k=>k=cb) w w:=Chg.refl _ _;have k0:∀ q,(fun k=>k=cb) q→q=cb:=fun q h=>h
  have yN:=Lc hc;go_enter Try.func54,Try.ntmps54
  by_cases hbig:(60:Int) < c+1
  ·skip
   go_upto_region 2 with (fail)
   obtain ⟨w1,e1,hb⟩:=nmw (World.alloc (World.alloc (World.setCell w ⟨cb,0,none⟩ (.int .i64 (c+1))) (.cells #[.slice pv nv cv,.slice pa na ca,vb] 26)) (.cells #[.int .i64 nk,.int .i64 nt,.int .i64 j0.k,.int .i64 j0.v,.slice j0.p j0.n j0.c,.int .i64 e0.k,.int .i64 e0.v,.slice e0.p e0.n e0.c,.int .i64 v0,.slice bp body.length bc,.slice ep els.length ec] 51));replace hC:=((((hC.setCell cb (0) (.int .i64 (c+1)) (fun _=>rfl)).trans (Cb (bal (Bs _) _))).trans (Cb (bal (Bs _) _)))).trans (Cb hb);have j1:=hb.size;simp only [Sa,Ss] at j1;replace hf:=Kf hb (Lc (Ac (Ac (Tc _ (cb) 0 (.int .i64 (c+1)) hc) _) _)) (Fa (Lc (Ac (Tc _ (cb) 0 (.int .i64 (c+1)) hc) _)) (Fa (Lc (Tc _ (cb) 0 (.int .i64 (c+1)) hc)) (Fs hf _) _) _);replace hc:w1.cell? ⟨cb,0,none⟩=some (.int .i64 (c+1)):=Kc hb (Ac (Ac (Tc _ (cb) 0 (.int .i64 (c+1)) hc) _) _);have sH:Bk w1 (w.heap.size) [.slice pv nv cv,.slice pa na ca,vb]:=Bb (Bk.al (Bk.nw (by simp) rfl) (.cells #[.int .i64 nk,.int .i64 nt,.int .i64 j0.k,.int .i64 j0.v,.slice j0.p j0.n j0.c,.int .i64 e0.k,.int .i64 e0.v,.slice e0.p e0.n e0.c,.int .i64 v0,.slice bp body.length bc,.slice ep els.length ec] 51)) hb;have tH:Bk w1 (w.heap.size+1) [.int .i64 nk,.int .i64 nt,.int .i64 j0.k,.int .i64 j0.v,.slice j0.p j0.n j0.c,.int .i64 e0.k,.int .i64 e0.v,.slice e0.p e0.n e0.c,.int .i64 v0,.slice bp body.length bc,.slice ep els.length ec]:=Bb (Bk.nw (by simp) rfl) hb;clear hb;rw [← e1];clear e1;have zN:=Lc hc;have aO:=Bk.lz sH;have bO:=Bk.lz tH;have d0:Hid (Q=false):=Hi (by rw [HQ.out];exact stR_big hbig);have X1:=hc;have X2:=hf;have X3:=hC;have b0:=Hi (Ai X1 (Ai X2 X3));clear X1 X2 X3 hC;go_wp2
   exact bodyPost_ret (v:=.bool false) (by simp [results,Try.results54,go_sem]) rfl (by rw [d0.out];unfold ScP;exact ⟨_,rfl,b0.out.1,b0.out.2.1,(fun h=>(by cases h)),b0.out.2.2⟩)
  go_upto_region 5 with (fail)
  obtain ⟨w1,e1,hb⟩:=nmw (World.alloc (World.alloc (World.setCell w ⟨cb,0,none⟩ (.int .i64 (c+1))) (.cells #[.slice pv nv cv,.slice pa na ca,vb] 26)) (.cells #[.int .i64 nk,.int .i64 nt,.int .i64 j0.k,.int .i64 j0.v,.slice j0.p j0.n j0.c,.int .i64 e0.k,.int .i64 e0.v,.slice e0.p e0.n e0.c,.int .i64 v0,.slice bp body.length bc,.slice ep els.length ec] 51));replace hC:=((((hC.setCell cb (0) (.int .i64 (c+1)) (fun _=>rfl)).trans (Cb (bal (Bs _) _))).trans (Cb (bal (Bs _) _)))).trans (Cb hb);have k1:=hb.size;simp only [Sa,Ss] at k1;replace hf:=Kf hb (Lc (Ac (Ac (Tc _ (cb) 0 (.int .i64 (c+1)) hc) _) _)) (Fa (Lc (Ac (Tc _ (cb) 0 (.int .i64 (c+1)) hc) _)) (Fa (Lc (Tc _ (cb) 0 (.int .i64 (c+1)) hc)) (Fs hf _) _) _);replace hc:w1.cell? ⟨cb,0,none⟩=some (.int .i64 (c+1)):=Kc hb (Ac (Ac (Tc _ (cb) 0 (.int .i64 (c+1)) hc) _) _);have c0:Bk w1 (w.heap.size) [.slice pv nv cv,.slice pa na ca,vb]:=Bb (Bk.al (Bk.nw (by simp) rfl) (.cells #[.int .i64 nk,.int .i64 nt,.int .i64 j0.k,.int .i64 j0.v,.slice j0.p j0.n j0.c,.int .i64 e0.k,.int .i64 e0.v,.slice e0.p e0.n e0.c,.int .i64 v0,.slice bp body.length bc,.slice ep els.length ec] 51)) hb;have a0:Bk w1 (w.heap.size+1) [.int .i64 nk,.int .i64 nt,.int .i64 j0.k,.int .i64 j0.v,.slice j0.p j0.n j0.c,.int .i64 e0.k,.int .i64 e0.v,.slice e0.p e0.n e0.c,.int .i64 v0,.slice bp body.length bc,.slice ep els.length ec]:=Bb (Bk.nw (by simp) rfl) hb;clear hb;rw [← e1];clear e1;have g0:=Lc hc;have b1:=Bk.lz c0;have c1:=Bk.lz a0;by_cases hk1:nk=1
  ·skip
   have q1:(nk == 1)=true:=by simp [hk1]
   have q5:(nk == 5)=false:=by simp [hk1]
   have q2:(nk == 2)=false:=by simp [hk1]
   have q3:(nk == 3)=false:=by simp [hk1]
   have q4:(nk == 4)=false:=by simp [hk1]
   have h0:=Hi (HQ.out.trans (stR_of (c:=c) (stOk_as (by rw [q1];rfl))));simp only [St.body,St.els] at h0;have qH:=Hi hk1;clear hk1
   cases ht0:wi nt 0 ((nv:Int)-1) with
   | false =>
    obtain ⟨rJ,zK⟩:=Bk.cf c0 0 rfl;obtain ⟨sJ,aL,tJ,bL⟩:=Bk.f2 a0 0 1 rfl rfl;go_wp2_with fail
    refine (within_any nt 0 ((nv:Int)-1) _).mono ?_;rintro e w2 ⟨rfl,hb⟩;rw [ht0];replace hC:=(hC).trans (Cb hb);have lM:=hb.size;clear zK rJ aL sJ bL tJ;replace hf:=Kf hb (Lc hc) hf;replace hc:=Kc hb hc;replace c0:=Bb c0 hb;replace a0:=Bb a0 hb;clear hb;have i0:=Hi ht0;clear ht0;have d0:Hid (Q=false):=Hi (by rw [h0.out,i0.out] <;> simp);have X1:=hc;have X2:=hf;have X3:=hC;have b0:=Hi (Ai X1 (Ai X2 X3));clear X1 X2 X3 hC;go_wp2
    exact bodyPost_ret (v:=.bool false) (by simp [results,Try.results54,go_sem]) rfl (by rw [d0.out];unfold ScP;exact ⟨_,rfl,b0.out.1,b0.out.2.1,(fun h=>(by cases h)),b0.out.2.2⟩)
   | true =>
    obtain ⟨uJ,cL⟩:=Bk.cf c0 0 rfl;obtain ⟨vJ,dL,wJ,eL⟩:=Bk.f2 a0 0 1 rfl rfl;go_wp2_with fail
    refine (within_any nt 0 ((nv:Int)-1) _).mono ?_;rintro e w2 ⟨rfl,hb⟩;rw [ht0];replace hC:=(hC).trans (Cb hb);have mM:=hb.size;clear cL uJ dL vJ eL wJ;replace hf:=Kf hb (Lc hc) hf;replace hc:=Kc hb hc;replace c0:=Bb c0 hb;replace a0:=Bb a0 hb;clear hb;have i0:=Hi ht0;clear ht0
    cases ht1:(v0 == 0) with
    | false =>
     have g1:(v0 != 0)=true:=by rw [bne,ht1];rfl
     have n0:=Hi ht1;clear ht1;have d0:Hid (Q=false):=Hi (by rw [h0.out,i0.out,n0.out] <;> simp);have X1:=hc;have X2:=hf;have X3:=hC;have b0:=Hi (Ai X1 (Ai X2 X3));clear X1 X2 X3 hC;obtain ⟨cO,iO⟩:=Bk.cf a0 8 rfl;go_wp2
     exact bodyPost_ret (v:=.bool false) (by simp [results,Try.results54,go_sem]) rfl (by rw [d0.out];unfold ScP;exact ⟨_,rfl,b0.out.1,b0.out.2.1,(fun h=>(by cases h)),b0.out.2.2⟩)
    | true =>
     have g1:(v0 != 0)=false:=by rw [bne,ht1];rfl
     have n0:=Hi ht1;clear ht1
     cases ht2:decide (body.length=0) with
     | false =>
      have g2:0 < body.length:=by have:=of_decide_eq_false ht2;omega
      have p0:=Hi ht2;clear ht2;have d0:Hid (Q=false):=Hi (by rw [h0.out,i0.out,n0.out,p0.out] <;> simp);have X1:=hc;have X2:=hf;have X3:=hC;have b0:=Hi (Ai X1 (Ai X2 X3));clear X1 X2 X3 hC;obtain ⟨dO,jO,eO,kO⟩:=Bk.f2 a0 8 9 rfl rfl;go_wp2
      exact bodyPost_ret (v:=.bool false) (by simp [results,Try.results54,go_sem]) rfl (by rw [d0.out];unfold ScP;exact ⟨_,rfl,b0.out.1,b0.out.2.1,(fun h=>(by cases h)),b0.out.2.2⟩)
     | true =>
      have g2:decide (0 < body.length)=false:=decide_eq_false (by have:=of_decide_eq_true ht2;omega);have p0:=Hi ht2;clear ht2
      cases ht3:decide (els.length=0) with
      | false =>
       have g3:0 < els.length:=by have:=of_decide_eq_false ht3;omega
       have q0:=Hi ht3;clear ht3;have d0:Hid (Q=false):=Hi (by rw [h0.out,i0.out,n0.out,p0.out,q0.out] <;> simp);have X1:=hc;have X2:=hf;have X3:=hC;have b0:=Hi (Ai X1 (Ai X2 X3));clear X1 X2 X3 hC;obtain ⟨fO,lO,gO,mO,hO,nO⟩:=Bk.f3 a0 8 9 10 rfl rfl rfl;go_wp2
       exact bodyPost_ret (v:=.bool false) (by simp [results,Try.results54,go_sem]) rfl (by rw [d0.out];unfold ScP;exact ⟨_,rfl,b0.out.1,b0.out.2.1,(fun h=>(by cases h)),b0.out.2.2⟩)
      | true =>
       have g3:decide (0 < els.length)=false:=decide_eq_false (by have:=of_decide_eq_true ht3;omega);have q0:=Hi ht3;clear ht3
       cases ht4:noneE ix with
       | false =>
        obtain ⟨xJ,fL,yJ,gL,zJ,hL,aK,iL,bK,jL,cK,kL⟩:=Bk.f6 a0 2 3 4 8 9 10 rfl rfl rfl rfl rfl rfl;go_wp2_with fail
        refine (isNone_any j0 ix r0.out.1 r0.out.2.1 r0.out.2.2 _).mono ?_;rintro e w3 ⟨rfl,hb⟩;rw [ht4];replace hC:=(hC).trans (Cb hb);have nM:=hb.size;clear fL xJ gL yJ hL zJ iL aK jL bK kL cK;replace hf:=Kf hb (Lc hc) hf;replace hc:=Kc hb hc;replace c0:=Bb c0 hb;replace a0:=Bb a0 hb;clear hb;have y0:=Hi ht4;clear ht4;have d0:Hid (Q=false):=Hi (by rw [h0.out,i0.out,n0.out,p0.out,q0.out,y0.out] <;> simp);have X1:=hc;have X2:=hf;have X3:=hC;have b0:=Hi (Ai X1 (Ai X2 X3));clear X1 X2 X3 hC;go_wp2
        exact bodyPost_ret (v:=.bool false) (by simp [results,Try.results54,go_sem]) rfl (by rw [d0.out];unfold ScP;exact ⟨_,rfl,b0.out.1,b0.out.2.1,(fun h=>(by cases h)),b0.out.2.2⟩)
       | true =>
        obtain ⟨dK,lL,eK,mL,fK,nL,gK,oL,hK,pL,iK,qL⟩:=Bk.f6 a0 2 3 4 8 9 10 rfl rfl rfl rfl rfl rfl;go_wp2_with fail
        refine (isNone_any j0 ix r0.out.1 r0.out.2.1 r0.out.2.2 _).mono ?_;rintro e w3 ⟨rfl,hb⟩;rw [ht4];replace hC:=(hC).trans (Cb hb);have oM:=hb.size;clear lL dK mL eK nL fK oL gK pL hK qL iK;replace hf:=Kf hb (Lc hc) hf;replace hc:=Kc hb hc;replace c0:=Bb c0 hb;replace a0:=Bb a0 hb;clear hb;have y0:=Hi ht4;clear ht4
        cases ht5:exRight nv na val with
        | false =>
         obtain ⟨jK,rL,kK,sL,lK,tL⟩:=Bk.f3 c0 0 1 2 rfl rfl rfl;obtain ⟨mK,uL,nK,vL,oK,wL⟩:=Bk.f3 a0 5 6 7 rfl rfl rfl;go_wp2_with fail
         refine (expr_any _ _ nv _ na _ _ hnv B _ e0 val _ (HV.out _ hC)).mono ?_;rintro e w4 ⟨rfl,hb⟩;rw [ht5];replace hC:=(hC).trans (Cb hb);have pM:=hb.size;clear rL jK sL kK tL lK uL mK vL nK wL oK;replace hf:=Kf hb (Lc hc) hf;replace hc:=Kc hb hc;replace c0:=Bb c0 hb;replace a0:=Bb a0 hb;clear hb;have d1:=Hi ht5;clear ht5;have d0:Hid (Q=false):=Hi (by rw [h0.out,i0.out,n0.out,p0.out,q0.out,y0.out,d1.out] <;> simp);have X1:=hc;have X2:=hf;have X3:=hC;have b0:=Hi (Ai X1 (Ai X2 X3));clear X1 X2 X3 hC;go_wp2
         exact bodyPost_ret (v:=.bool false) (by simp [results,Try.results54,go_sem]) rfl (by rw [d0.out];unfold ScP;exact ⟨_,rfl,b0.out.1,b0.out.2.1,(fun h=>(by cases h)),b0.out.2.2⟩)
        | true =>
         obtain ⟨pK,xL,qK,yL,rK,zL⟩:=Bk.f3 c0 0 1 2 rfl rfl rfl;obtain ⟨sK,aM,tK,bM,uK,cM⟩:=Bk.f3 a0 5 6 7 rfl rfl rfl;go_wp2_with fail
         refine (expr_any _ _ nv _ na _ _ hnv B _ e0 val _ (HV.out _ hC)).mono ?_;rintro e w4 ⟨rfl,hb⟩;rw [ht5];replace hC:=(hC).trans (Cb hb);have qM:=hb.size;clear xL pK yL qK zL rK aM sK bM tK cM uK;replace hf:=Kf hb (Lc hc) hf;replace hc:=Kc hb hc;replace c0:=Bb c0 hb;replace a0:=Bb a0 hb;clear hb;have d1:=Hi ht5;clear ht5;have x0:Hid (Q=((body.all (stOk nv na d)&&els.all (stOk nv na d))&&decide (c+1+blC d body body.length+blC d els els.length≤60))):=Hi (by rw [h0.out,i0.out,n0.out,p0.out,q0.out,y0.out,d1.out];first | rfl | (simp only [Bool.true_and];done) | (simp only [Bool.true_and];rfl) | (exact Bool.eq_iff_iff.mpr (by simp only [Bool.true_and,Bool.and_eq_true,decide_eq_true_eq])) | (refine Bool.eq_iff_iff.mpr ?_;simp));have s0:=Hi (blC_ge d body body.length);have t0:=Hi (blC_ge d els els.length)
         cases hz1:blR nv na d (c+1) body with
         | false =>
          obtain ⟨vK,dM,wK,eM,xK,fM⟩:=Bk.f3 c0 0 1 2 rfl rfl rfl;obtain ⟨yK,gM⟩:=Bk.cf a0 9 rfl;go_wp2_with fail
          have f0:=IH.out D _ body (c+1) (dp+1) _ (by have:=w0.out;omega) (H5.out _ hC) hc hf (by omega) (by omega);rw [hz1] at f0;clear hc hf;refine (f0).mono ?_;rintro e w5 ⟨x1,rfl,hc,hf,l0,hb⟩;clear f0;replace hC:=(hC).trans hb;have rM:=hb.size;clear dM vK eM wK fM xK gM yK;replace c0:=Bk.keep c0 hb (fun h=>by have:=k0 _ h;omega);replace a0:=Bk.keep a0 hb (fun h=>by have:=k0 _ h;omega);clear hb;replace g0:=Lc hc;have z0:=Hi hz1;clear hz1;have d0:Hid (Q=false):=Hi (by rw [x0.out];have h1:=z0.out;have h5:=s0.out;have h6:=t0.out;unfold blR at h1;cases ha:body.all (stOk nv na d) with | false=>simp | true=>rw [ha,Bool.true_and] at h1;have:=of_decide_eq_false h1;rw [decide_eq_false (by omega)];simp);have X1:=hc;have X2:=hf;have X3:=hC;have b0:=Hi (Ai X1 (Ai X2 X3));clear X1 X2 X3 hC;go_wp2
          exact bodyPost_ret (v:=.bool false) (by simp [results,Try.results54,go_sem]) rfl (by rw [d0.out];unfold ScP;exact ⟨_,rfl,b0.out.1,b0.out.2.1,(fun h=>(by cases h)),b0.out.2.2⟩)
         | true =>
          obtain ⟨p1,eA,r1,fA,s1,gA⟩:=Bk.f3 c0 0 1 2 rfl rfl rfl;obtain ⟨t1,hA⟩:=Bk.cf a0 9 rfl;go_wp2_with fail
          have f0:=IH.out D _ body (c+1) (dp+1) _ (by have:=w0.out;omega) (H5.out _ hC) hc hf (by omega) (by omega);rw [hz1] at f0;clear hc hf;refine (f0).mono ?_;rintro e w5 ⟨x1,rfl,hc,hf,l0,hb⟩;clear f0;replace hC:=(hC).trans hb;have wH:=hb.size;clear eA p1 fA r1 gA s1 hA t1;replace c0:=Bk.keep c0 hb (fun h=>by have:=k0 _ h;omega);replace a0:=Bk.keep a0 hb (fun h=>by have:=k0 _ h;omega);clear hb;replace g0:=Lc hc;have z0:=Hi hz1;clear hz1;have o0:Hid (x1=(c+1)+blC d body body.length∧body.all (stOk nv na d)=true∧(c+1)+blC d body body.length≤60):=Hi (by have h1:=z0.out;unfold blR at h1;rw [Bool.and_eq_true] at h1;exact ⟨l0 rfl,h1.1,of_decide_eq_true h1.2⟩);have f1:0≤x1∧x1≤60:=by have:=o0.out;have:=s0.out;have:=t0.out;omega
          clear l0
          cases hz2:blR nv na d x1 els with
          | false =>
           obtain ⟨u1,iA,v1,jA,y1,kA⟩:=Bk.f3 c0 0 1 2 rfl rfl rfl;obtain ⟨z1,lA⟩:=Bk.cf a0 10 rfl;go_wp2_with fail
           have f0:=IH.out D _ els x1 (dp+1) _ (by have:=w0.out;omega) (H6.out _ hC) hc hf (by omega) (by omega);rw [hz2] at f0;clear hc hf;refine (f0).mono ?_;rintro e w6 ⟨x2,rfl,hc,hf,m0,hb⟩;clear f0;replace hC:=(hC).trans hb;have xH:=hb.size;clear iA u1 jA v1 kA y1 lA z1;replace c0:=Bk.keep c0 hb (fun h=>by have:=k0 _ h;omega);replace a0:=Bk.keep a0 hb (fun h=>by have:=k0 _ h;omega);clear hb;clear c0 a0;replace g0:=Lc hc;have a1:=Hi hz2;clear hz2;have d0:Hid (Q=false):=Hi (by rw [x0.out];have h1:=a1.out;have h5:=s0.out;have h6:=t0.out;have h7:=o0.out;unfold blR at h1;cases ha:els.all (stOk nv na d) with | false=>simp | true=>rw [ha,Bool.true_and] at h1;have:=of_decide_eq_false h1;rw [decide_eq_false (by omega)];simp);have X1:=hc;have X2:=hf;have X3:=hC;have b0:=Hi (Ai X1 (Ai X2 X3));clear X1 X2 X3 hC;go_wp2
           exact bodyPost_ret (v:=.bool false) (by simp [results,Try.results54,go_sem]) rfl (by rw [d0.out];unfold ScP;exact ⟨_,rfl,b0.out.1,b0.out.2.1,(fun h=>(by cases h)),b0.out.2.2⟩)
          | true =>
           obtain ⟨a2,mA,b2,nA,c2,oA⟩:=Bk.f3 c0 0 1 2 rfl rfl rfl;obtain ⟨d2,pA⟩:=Bk.cf a0 10 rfl;go_wp2_with fail
           have f0:=IH.out D _ els x1 (dp+1) _ (by have:=w0.out;omega) (H6.out _ hC) hc hf (by omega) (by omega);rw [hz2] at f0;clear hc hf;refine (f0).mono ?_;rintro e w6 ⟨x2,rfl,hc,hf,m0,hb⟩;clear f0;replace hC:=(hC).trans hb;have yH:=hb.size;clear mA a2 nA b2 oA c2 pA d2;replace c0:=Bk.keep c0 hb (fun h=>by have:=k0 _ h;omega);replace a0:=Bk.keep a0 hb (fun h=>by have:=k0 _ h;omega);clear hb;clear c0 a0;replace g0:=Lc hc;have a1:=Hi hz2;clear hz2;have u0:Hid (x2=x1+blC d els els.length∧els.all (stOk nv na d)=true∧x1+blC d els els.length≤60):=Hi (by have h1:=a1.out;unfold blR at h1;rw [Bool.and_eq_true] at h1;exact ⟨m0 rfl,h1.1,of_decide_eq_true h1.2⟩);have i1:0≤x2∧x2≤60:=by have:=u0.out;have:=s0.out;have:=t0.out;have:=o0.out;omega
           clear m0;have d0:Hid (Q=true):=Hi (by rw [x0.out,o0.out.2.1,u0.out.2.1,decide_eq_true (by have h1:=o0.out;have h2:=u0.out;omega)];rfl);have X1:=hc;have X2:=hf;have X3:=hC;have b0:=Hi (Ai X1 (Ai X2 X3));clear X1 X2 X3 hC;go_wp2
           exact bodyPost_ret (v:=.bool true) (by simp [results,Try.results54,go_sem]) rfl (by rw [d0.out];unfold ScP;exact ⟨_,rfl,b0.out.1,b0.out.2.1,(fun _=>by have h1:=o0.out;have h2:=u0.out;have h3:=HN.out;omega),b0.out.2.2⟩)
  have q1:(nk == 1)=false:=by simp [hk1]
  by_cases hk5:nk=5
  ·skip
   have q5:(nk == 5)=true:=by simp [hk5]
   have q2:(nk == 2)=false:=by simp [hk5]
   have q3:(nk == 3)=false:=by simp [hk5]
   have q4:(nk == 4)=false:=by simp [hk5]
   have h0:=Hi (HQ.out.trans (stR_of (c:=c) (stOk_as (by rw [q5];simp))));simp only [St.body,St.els] at h0;have qH:=Hi hk5;clear hk5
   cases ht0:wi nt 0 ((nv:Int)-1) with
   | false =>
    obtain ⟨e2,qA⟩:=Bk.cf c0 0 rfl;obtain ⟨i2,rA,j2,sA⟩:=Bk.f2 a0 0 1 rfl rfl;go_wp2_with fail
    refine (within_any nt 0 ((nv:Int)-1) _).mono ?_;rintro e w2 ⟨rfl,hb⟩;rw [ht0];replace hC:=(hC).trans (Cb hb);have zH:=hb.size;clear qA e2 rA i2 sA j2;replace hf:=Kf hb (Lc hc) hf;replace hc:=Kc hb hc;replace c0:=Bb c0 hb;replace a0:=Bb a0 hb;clear hb;replace g0:=Lc hc;replace b1:=Bk.lz c0;replace c1:=Bk.lz a0;have i0:=Hi ht0;clear ht0;have d0:Hid (Q=false):=Hi (by rw [h0.out,i0.out] <;> simp);have X1:=hc;have X2:=hf;have X3:=hC;have b0:=Hi (Ai X1 (Ai X2 X3));clear X1 X2 X3 hC;go_wp2
    exact bodyPost_ret (v:=.bool false) (by simp [results,Try.results54,go_sem]) rfl (by rw [d0.out];unfold ScP;exact ⟨_,rfl,b0.out.1,b0.out.2.1,(fun h=>(by cases h)),b0.out.2.2⟩)
   | true =>
    obtain ⟨k2,tA⟩:=Bk.cf c0 0 rfl;obtain ⟨l2,uA,m2,vA⟩:=Bk.f2 a0 0 1 rfl rfl;go_wp2_with fail
    refine (within_any nt 0 ((nv:Int)-1) _).mono ?_;rintro e w2 ⟨rfl,hb⟩;rw [ht0];replace hC:=(hC).trans (Cb hb);have aI:=hb.size;clear tA k2 uA l2 vA m2;replace hf:=Kf hb (Lc hc) hf;replace hc:=Kc hb hc;replace c0:=Bb c0 hb;replace a0:=Bb a0 hb;clear hb;replace g0:=Lc hc;replace b1:=Bk.lz c0;replace c1:=Bk.lz a0;have i0:=Hi ht0;clear ht0
    cases ht1:(v0 == 0) with
    | false =>
     have g1:(v0 != 0)=true:=by rw [bne,ht1];rfl
     have n0:=Hi ht1;clear ht1;have d0:Hid (Q=false):=Hi (by rw [h0.out,i0.out,n0.out] <;> simp);have X1:=hc;have X2:=hf;have X3:=hC;have b0:=Hi (Ai X1 (Ai X2 X3));clear X1 X2 X3 hC;obtain ⟨sM,jN⟩:=Bk.cf a0 8 rfl;go_wp2
     exact bodyPost_ret (v:=.bool false) (by simp [results,Try.results54,go_sem]) rfl (by rw [d0.out];unfold ScP;exact ⟨_,rfl,b0.out.1,b0.out.2.1,(fun h=>(by cases h)),b0.out.2.2⟩)
    | true =>
     have g1:(v0 != 0)=false:=by rw [bne,ht1];rfl
     have n0:=Hi ht1;clear ht1
     cases ht2:decide (body.length=0) with
     | false =>
      have g2:0 < body.length:=by have:=of_decide_eq_false ht2;omega
      have p0:=Hi ht2;clear ht2;have d0:Hid (Q=false):=Hi (by rw [h0.out,i0.out,n0.out,p0.out] <;> simp);have X1:=hc;have X2:=hf;have X3:=hC;have b0:=Hi (Ai X1 (Ai X2 X3));clear X1 X2 X3 hC;obtain ⟨tM,kN,uM,lN⟩:=Bk.f2 a0 8 9 rfl rfl;go_wp2
      exact bodyPost_ret (v:=.bool false) (by simp [results,Try.results54,go_sem]) rfl (by rw [d0.out];unfold ScP;exact ⟨_,rfl,b0.out.1,b0.out.2.1,(fun h=>(by cases h)),b0.out.2.2⟩)
     | true =>
      have g2:decide (0 < body.length)=false:=decide_eq_false (by have:=of_decide_eq_true ht2;omega);have p0:=Hi ht2;clear ht2
      cases ht3:decide (els.length=0) with
      | false =>
       have g3:0 < els.length:=by have:=of_decide_eq_false ht3;omega
       have q0:=Hi ht3;clear ht3;have d0:Hid (Q=false):=Hi (by rw [h0.out,i0.out,n0.out,p0.out,q0.out] <;> simp);have X1:=hc;have X2:=hf;have X3:=hC;have b0:=Hi (Ai X1 (Ai X2 X3));clear X1 X2 X3 hC;obtain ⟨vM,mN,wM,nN,xM,oN⟩:=Bk.f3 a0 8 9 10 rfl rfl rfl;go_wp2
       exact bodyPost_ret (v:=.bool false) (by simp [results,Try.results54,go_sem]) rfl (by rw [d0.out];unfold ScP;exact ⟨_,rfl,b0.out.1,b0.out.2.1,(fun h=>(by cases h)),b0.out.2.2⟩)
      | true =>
       have g3:decide (0 < els.length)=false:=decide_eq_false (by have:=of_decide_eq_true ht3;omega);have q0:=Hi ht3;clear ht3
       cases ht4:noneE ix with
       | false =>
        obtain ⟨n2,wA,o2,xA,p2,yA,r2,zA,s2,aB,t2,bB⟩:=Bk.f6 a0 2 3 4 8 9 10 rfl rfl rfl rfl rfl rfl;go_wp2_with fail
        refine (isNone_any j0 ix r0.out.1 r0.out.2.1 r0.out.2.2 _).mono ?_;rintro e w3 ⟨rfl,hb⟩;rw [ht4];replace hC:=(hC).trans (Cb hb);have bI:=hb.size;clear wA n2 xA o2 yA p2 zA r2 aB s2 bB t2;replace hf:=Kf hb (Lc hc) hf;replace hc:=Kc hb hc;replace c0:=Bb c0 hb;replace a0:=Bb a0 hb;clear hb;have y0:=Hi ht4;clear ht4;have d0:Hid (Q=false):=Hi (by rw [h0.out,i0.out,n0.out,p0.out,q0.out,y0.out] <;> simp);have X1:=hc;have X2:=hf;have X3:=hC;have b0:=Hi (Ai X1 (Ai X2 X3));clear X1 X2 X3 hC;go_wp2
        exact bodyPost_ret (v:=.bool false) (by simp [results,Try.results54,go_sem]) rfl (by rw [d0.out];unfold ScP;exact ⟨_,rfl,b0.out.1,b0.out.2.1,(fun h=>(by cases h)),b0.out.2.2⟩)
       | true =>
        obtain ⟨u2,cB,v2,dB,y2,eB,z2,fB,a3,gB,b3,iB⟩:=Bk.f6 a0 2 3 4 8 9 10 rfl rfl rfl rfl rfl rfl;go_wp2_with fail
        refine (isNone_any j0 ix r0.out.1 r0.out.2.1 r0.out.2.2 _).mono ?_;rintro e w3 ⟨rfl,hb⟩;rw [ht4];replace hC:=(hC).trans (Cb hb);have cI:=hb.size;clear cB u2 dB v2 eB y2 fB z2 gB a3 iB b3;replace hf:=Kf hb (Lc hc) hf;replace hc:=Kc hb hc;replace c0:=Bb c0 hb;replace a0:=Bb a0 hb;clear hb;have y0:=Hi ht4;clear ht4
        cases ht5:exRight nv na val with
        | false =>
         obtain ⟨c3,jB,d3,kB,e3,lB⟩:=Bk.f3 c0 0 1 2 rfl rfl rfl;obtain ⟨i3,mB,j3,nB,k3,oB⟩:=Bk.f3 a0 5 6 7 rfl rfl rfl;go_wp2_with fail
         refine (expr_any _ _ nv _ na _ _ hnv B _ e0 val _ (HV.out _ hC)).mono ?_;rintro e w4 ⟨rfl,hb⟩;rw [ht5];replace hC:=(hC).trans (Cb hb);have dI:=hb.size;clear jB c3 kB d3 lB e3 mB i3 nB j3 oB k3;replace hf:=Kf hb (Lc hc) hf;replace hc:=Kc hb hc;replace c0:=Bb c0 hb;replace a0:=Bb a0 hb;clear hb;have d1:=Hi ht5;clear ht5;have d0:Hid (Q=false):=Hi (by rw [h0.out,i0.out,n0.out,p0.out,q0.out,y0.out,d1.out] <;> simp);have X1:=hc;have X2:=hf;have X3:=hC;have b0:=Hi (Ai X1 (Ai X2 X3));clear X1 X2 X3 hC;go_wp2
         exact bodyPost_ret (v:=.bool false) (by simp [results,Try.results54,go_sem]) rfl (by rw [d0.out];unfold ScP;exact ⟨_,rfl,b0.out.1,b0.out.2.1,(fun h=>(by cases h)),b0.out.2.2⟩)
        | true =>
         obtain ⟨l3,pB,m3,qB,n3,rB⟩:=Bk.f3 c0 0 1 2 rfl rfl rfl;obtain ⟨o3,sB,p3,tB,r3,uB⟩:=Bk.f3 a0 5 6 7 rfl rfl rfl;go_wp2_with fail
         refine (expr_any _ _ nv _ na _ _ hnv B _ e0 val _ (HV.out _ hC)).mono ?_;rintro e w4 ⟨rfl,hb⟩;rw [ht5];replace hC:=(hC).trans (Cb hb);have eI:=hb.size;clear pB l3 qB m3 rB n3 sB o3 tB p3 uB r3;replace hf:=Kf hb (Lc hc) hf;replace hc:=Kc hb hc;replace c0:=Bb c0 hb;replace a0:=Bb a0 hb;clear hb;have d1:=Hi ht5;clear ht5;have x0:Hid (Q=((body.all (stOk nv na d)&&els.all (stOk nv na d))&&decide (c+1+blC d body body.length+blC d els els.length≤60))):=Hi (by rw [h0.out,i0.out,n0.out,p0.out,q0.out,y0.out,d1.out];first | rfl | (simp only [Bool.true_and];done) | (simp only [Bool.true_and];rfl) | (exact Bool.eq_iff_iff.mpr (by simp only [Bool.true_and,Bool.and_eq_true,decide_eq_true_eq])) | (refine Bool.eq_iff_iff.mpr ?_;simp));have s0:=Hi (blC_ge d body body.length);have t0:=Hi (blC_ge d els els.length)
         cases hz1:blR nv na d (c+1) body with
         | false =>
          obtain ⟨s3,vB,t3,wB,u3,xB⟩:=Bk.f3 c0 0 1 2 rfl rfl rfl;obtain ⟨v3,yB⟩:=Bk.cf a0 9 rfl;go_wp2_with fail
          have f0:=IH.out D _ body (c+1) (dp+1) _ (by have:=w0.out;omega) (H5.out _ hC) hc hf (by omega) (by omega);rw [hz1] at f0;clear hc hf;refine (f0).mono ?_;rintro e w5 ⟨x1,rfl,hc,hf,l0,hb⟩;clear f0;replace hC:=(hC).trans hb;have fI:=hb.size;clear vB s3 wB t3 xB u3 yB v3;replace c0:=Bk.keep c0 hb (fun h=>by have:=k0 _ h;omega);replace a0:=Bk.keep a0 hb (fun h=>by have:=k0 _ h;omega);clear hb;replace g0:=Lc hc;have z0:=Hi hz1;clear hz1;have d0:Hid (Q=false):=Hi (by rw [x0.out];have h1:=z0.out;have h5:=s0.out;have h6:=t0.out;unfold blR at h1;cases ha:body.all (stOk nv na d) with | false=>simp | true=>rw [ha,Bool.true_and] at h1;have:=of_decide_eq_false h1;rw [decide_eq_false (by omega)];simp);have X1:=hc;have X2:=hf;have X3:=hC;have b0:=Hi (Ai X1 (Ai X2 X3));clear X1 X2 X3 hC;go_wp2
          exact bodyPost_ret (v:=.bool false) (by simp [results,Try.results54,go_sem]) rfl (by rw [d0.out];unfold ScP;exact ⟨_,rfl,b0.out.1,b0.out.2.1,(fun h=>(by cases h)),b0.out.2.2⟩)
         | true =>
          obtain ⟨x3,zB,y3,aC,z3,bC⟩:=Bk.f3 c0 0 1 2 rfl rfl rfl;obtain ⟨a4,cC⟩:=Bk.cf a0 9 rfl;go_wp2_with fail
          have f0:=IH.out D _ body (c+1) (dp+1) _ (by have:=w0.out;omega) (H5.out _ hC) hc hf (by omega) (by omega);rw [hz1] at f0;clear hc hf;refine (f0).mono ?_;rintro e w5 ⟨x1,rfl,hc,hf,l0,hb⟩;clear f0;replace hC:=(hC).trans hb;have gI:=hb.size;clear zB x3 aC y3 bC z3 cC a4;replace c0:=Bk.keep c0 hb (fun h=>by have:=k0 _ h;omega);replace a0:=Bk.keep a0 hb (fun h=>by have:=k0 _ h;omega);clear hb;replace g0:=Lc hc;have z0:=Hi hz1;clear hz1;have o0:Hid (x1=(c+1)+blC d body body.length∧body.all (stOk nv na d)=true∧(c+1)+blC d body body.length≤60):=Hi (by have h1:=z0.out;unfold blR at h1;rw [Bool.and_eq_true] at h1;exact ⟨l0 rfl,h1.1,of_decide_eq_true h1.2⟩);have f1:0≤x1∧x1≤60:=by have:=o0.out;have:=s0.out;have:=t0.out;omega
          clear l0
          cases hz2:blR nv na d x1 els with
          | false =>
           obtain ⟨b4,dC,c4,eC,d4,fC⟩:=Bk.f3 c0 0 1 2 rfl rfl rfl;obtain ⟨e4,gC⟩:=Bk.cf a0 10 rfl;go_wp2_with fail
           have f0:=IH.out D _ els x1 (dp+1) _ (by have:=w0.out;omega) (H6.out _ hC) hc hf (by omega) (by omega);rw [hz2] at f0;clear hc hf;refine (f0).mono ?_;rintro e w6 ⟨x2,rfl,hc,hf,m0,hb⟩;clear f0;replace hC:=(hC).trans hb;have hI:=hb.size;clear dC b4 eC c4 fC d4 gC e4;replace c0:=Bk.keep c0 hb (fun h=>by have:=k0 _ h;omega);replace a0:=Bk.keep a0 hb (fun h=>by have:=k0 _ h;omega);clear hb;clear c0 a0;replace g0:=Lc hc;have a1:=Hi hz2;clear hz2;have d0:Hid (Q=false):=Hi (by rw [x0.out];have h1:=a1.out;have h5:=s0.out;have h6:=t0.out;have h7:=o0.out;unfold blR at h1;cases ha:els.all (stOk nv na d) with | false=>simp | true=>rw [ha,Bool.true_and] at h1;have:=of_decide_eq_false h1;rw [decide_eq_false (by omega)];simp);have X1:=hc;have X2:=hf;have X3:=hC;have b0:=Hi (Ai X1 (Ai X2 X3));clear X1 X2 X3 hC;go_wp2
           exact bodyPost_ret (v:=.bool false) (by simp [results,Try.results54,go_sem]) rfl (by rw [d0.out];unfold ScP;exact ⟨_,rfl,b0.out.1,b0.out.2.1,(fun h=>(by cases h)),b0.out.2.2⟩)
          | true =>
           obtain ⟨g4,iC,h4,jC,i4,kC⟩:=Bk.f3 c0 0 1 2 rfl rfl rfl;obtain ⟨j4,lC⟩:=Bk.cf a0 10 rfl;go_wp2_with fail
           have f0:=IH.out D _ els x1 (dp+1) _ (by have:=w0.out;omega) (H6.out _ hC) hc hf (by omega) (by omega);rw [hz2] at f0;clear hc hf;refine (f0).mono ?_;rintro e w6 ⟨x2,rfl,hc,hf,m0,hb⟩;clear f0;replace hC:=(hC).trans hb;have iI:=hb.size;clear iC g4 jC h4 kC i4 lC j4;replace c0:=Bk.keep c0 hb (fun h=>by have:=k0 _ h;omega);replace a0:=Bk.keep a0 hb (fun h=>by have:=k0 _ h;omega);clear hb;clear c0 a0;replace g0:=Lc hc;have a1:=Hi hz2;clear hz2;have u0:Hid (x2=x1+blC d els els.length∧els.all (stOk nv na d)=true∧x1+blC d els els.length≤60):=Hi (by have h1:=a1.out;unfold blR at h1;rw [Bool.and_eq_true] at h1;exact ⟨m0 rfl,h1.1,of_decide_eq_true h1.2⟩);have i1:0≤x2∧x2≤60:=by have:=u0.out;have:=s0.out;have:=t0.out;have:=o0.out;omega
           clear m0;have d0:Hid (Q=true):=Hi (by rw [x0.out,o0.out.2.1,u0.out.2.1,decide_eq_true (by have h1:=o0.out;have h2:=u0.out;omega)];rfl);have X1:=hc;have X2:=hf;have X3:=hC;have b0:=Hi (Ai X1 (Ai X2 X3));clear X1 X2 X3 hC;go_wp2
           exact bodyPost_ret (v:=.bool true) (by simp [results,Try.results54,go_sem]) rfl (by rw [d0.out];unfold ScP;exact ⟨_,rfl,b0.out.1,b0.out.2.1,(fun _=>by have h1:=o0.out;have h2:=u0.out;have h3:=HN.out;omega),b0.out.2.2⟩)
  have q5:(nk == 5)=false:=by simp [hk5]
  by_cases hk2:nk=2
  ·skip
   have q2:(nk == 2)=true:=by simp [hk2]
   have q3:(nk == 3)=false:=by simp [hk2]
   have q4:(nk == 4)=false:=by simp [hk2]
   have h0:=Hi (HQ.out.trans (stR_of (c:=c) (stOk_st q2)));simp only [St.body,St.els] at h0;have qH:=Hi hk2;clear hk2
   cases ht0:wi nt 0 ((na:Int)-1) with
   | false =>
    obtain ⟨k4,mC⟩:=Bk.cf c0 1 rfl;obtain ⟨l4,nC,m4,oC⟩:=Bk.f2 a0 0 1 rfl rfl;go_wp2_with fail
    refine (within_any nt 0 ((na:Int)-1) _).mono ?_;rintro e w2 ⟨rfl,hb⟩;rw [ht0];replace hC:=(hC).trans (Cb hb);have jI:=hb.size;clear mC k4 nC l4 oC m4;replace hf:=Kf hb (Lc hc) hf;replace hc:=Kc hb hc;replace c0:=Bb c0 hb;replace a0:=Bb a0 hb;clear hb;replace g0:=Lc hc;replace b1:=Bk.lz c0;replace c1:=Bk.lz a0;have i0:=Hi ht0;clear ht0;have d0:Hid (Q=false):=Hi (by rw [h0.out,i0.out] <;> simp);have X1:=hc;have X2:=hf;have X3:=hC;have b0:=Hi (Ai X1 (Ai X2 X3));clear X1 X2 X3 hC;go_wp2
    exact bodyPost_ret (v:=.bool false) (by simp [results,Try.results54,go_sem]) rfl (by rw [d0.out];unfold ScP;exact ⟨_,rfl,b0.out.1,b0.out.2.1,(fun h=>(by cases h)),b0.out.2.2⟩)
   | true =>
    obtain ⟨n4,pC⟩:=Bk.cf c0 1 rfl;obtain ⟨o4,qC,p4,rC⟩:=Bk.f2 a0 0 1 rfl rfl;go_wp2_with fail
    refine (within_any nt 0 ((na:Int)-1) _).mono ?_;rintro e w2 ⟨rfl,hb⟩;rw [ht0];replace hC:=(hC).trans (Cb hb);have kI:=hb.size;clear pC n4 qC o4 rC p4;replace hf:=Kf hb (Lc hc) hf;replace hc:=Kc hb hc;replace c0:=Bb c0 hb;replace a0:=Bb a0 hb;clear hb;replace g0:=Lc hc;replace b1:=Bk.lz c0;replace c1:=Bk.lz a0;have i0:=Hi ht0;clear ht0
    cases ht1:(v0 == 0) with
    | false =>
     have g1:(v0 != 0)=true:=by rw [bne,ht1];rfl
     have n0:=Hi ht1;clear ht1;have d0:Hid (Q=false):=Hi (by rw [h0.out,i0.out,n0.out] <;> simp);have X1:=hc;have X2:=hf;have X3:=hC;have b0:=Hi (Ai X1 (Ai X2 X3));clear X1 X2 X3 hC;obtain ⟨yM,pN⟩:=Bk.cf a0 8 rfl;go_wp2
     exact bodyPost_ret (v:=.bool false) (by simp [results,Try.results54,go_sem]) rfl (by rw [d0.out];unfold ScP;exact ⟨_,rfl,b0.out.1,b0.out.2.1,(fun h=>(by cases h)),b0.out.2.2⟩)
    | true =>
     have g1:(v0 != 0)=false:=by rw [bne,ht1];rfl
     have n0:=Hi ht1;clear ht1
     cases ht2:decide (body.length=0) with
     | false =>
      have g2:0 < body.length:=by have:=of_decide_eq_false ht2;omega
      have p0:=Hi ht2;clear ht2;have d0:Hid (Q=false):=Hi (by rw [h0.out,i0.out,n0.out,p0.out] <;> simp);have X1:=hc;have X2:=hf;have X3:=hC;have b0:=Hi (Ai X1 (Ai X2 X3));clear X1 X2 X3 hC;obtain ⟨zM,qN,aN,rN⟩:=Bk.f2 a0 8 9 rfl rfl;go_wp2
      exact bodyPost_ret (v:=.bool false) (by simp [results,Try.results54,go_sem]) rfl (by rw [d0.out];unfold ScP;exact ⟨_,rfl,b0.out.1,b0.out.2.1,(fun h=>(by cases h)),b0.out.2.2⟩)
     | true =>
      have g2:decide (0 < body.length)=false:=decide_eq_false (by have:=of_decide_eq_true ht2;omega);have p0:=Hi ht2;clear ht2
      cases ht3:decide (els.length=0) with
      | false =>
       have g3:0 < els.length:=by have:=of_decide_eq_false ht3;omega
       have q0:=Hi ht3;clear ht3;have d0:Hid (Q=false):=Hi (by rw [h0.out,i0.out,n0.out,p0.out,q0.out] <;> simp);have X1:=hc;have X2:=hf;have X3:=hC;have b0:=Hi (Ai X1 (Ai X2 X3));clear X1 X2 X3 hC;obtain ⟨bN,sN,dN,tN,eN,uN⟩:=Bk.f3 a0 8 9 10 rfl rfl rfl;go_wp2
       exact bodyPost_ret (v:=.bool false) (by simp [results,Try.results54,go_sem]) rfl (by rw [d0.out];unfold ScP;exact ⟨_,rfl,b0.out.1,b0.out.2.1,(fun h=>(by cases h)),b0.out.2.2⟩)
      | true =>
       have g3:decide (0 < els.length)=false:=decide_eq_false (by have:=of_decide_eq_true ht3;omega);have q0:=Hi ht3;clear ht3
       cases ht4:exRight nv na ix with
       | false =>
        obtain ⟨r4,sC,s4,tC,t4,uC⟩:=Bk.f3 c0 0 1 2 rfl rfl rfl;obtain ⟨u4,vC,v4,wC,x4,xC,y4,yC,z4,zC,b5,aD⟩:=Bk.f6 a0 2 3 4 8 9 10 rfl rfl rfl rfl rfl rfl;go_wp2_with fail
        refine (expr_any _ _ nv _ na _ _ hnv B _ j0 ix _ (HI.out _ hC)).mono ?_;rintro e w3 ⟨rfl,hb⟩;rw [ht4];replace hC:=(hC).trans (Cb hb);have lI:=hb.size;clear sC r4 tC s4 uC t4 vC u4 wC v4 xC x4 yC y4 zC z4 aD b5;replace hf:=Kf hb (Lc hc) hf;replace hc:=Kc hb hc;replace c0:=Bb c0 hb;replace a0:=Bb a0 hb;clear hb;have y0:=Hi ht4;clear ht4;have d0:Hid (Q=false):=Hi (by rw [h0.out,i0.out,n0.out,p0.out,q0.out,y0.out] <;> simp);have X1:=hc;have X2:=hf;have X3:=hC;have b0:=Hi (Ai X1 (Ai X2 X3));clear X1 X2 X3 hC;go_wp2
        exact bodyPost_ret (v:=.bool false) (by simp [results,Try.results54,go_sem]) rfl (by rw [d0.out];unfold ScP;exact ⟨_,rfl,b0.out.1,b0.out.2.1,(fun h=>(by cases h)),b0.out.2.2⟩)
       | true =>
        obtain ⟨d5,bD,e5,cD,f5,dD⟩:=Bk.f3 c0 0 1 2 rfl rfl rfl;obtain ⟨g5,eD,i5,fD,j5,gD,k5,hD,l5,iD,m5,jD⟩:=Bk.f6 a0 2 3 4 8 9 10 rfl rfl rfl rfl rfl rfl;go_wp2_with fail
        refine (expr_any _ _ nv _ na _ _ hnv B _ j0 ix _ (HI.out _ hC)).mono ?_;rintro e w3 ⟨rfl,hb⟩;rw [ht4];replace hC:=(hC).trans (Cb hb);have mI:=hb.size;clear bD d5 cD e5 dD f5 eD g5 fD i5 gD j5 hD k5 iD l5 jD m5;replace hf:=Kf hb (Lc hc) hf;replace hc:=Kc hb hc;replace c0:=Bb c0 hb;replace a0:=Bb a0 hb;clear hb;have y0:=Hi ht4;clear ht4
        cases ht5:atomK ix.k with
        | false =>
         obtain ⟨n5,kD,o5,lD,p5,mD⟩:=Bk.f3 a0 2 3 4 rfl rfl rfl;go_wp2_with fail
         refine (isPlain_any j0.k _ _ _).mono ?_;rintro e w4 ⟨rfl,hb⟩;rw [r0.out.1,ht5];replace hC:=(hC).trans (Cb hb);have nI:=hb.size;clear kD n5 lD o5 mD p5;replace hf:=Kf hb (Lc hc) hf;replace hc:=Kc hb hc;replace c0:=Bb c0 hb;replace a0:=Bb a0 hb;clear hb;have d1:=Hi ht5;clear ht5;have d0:Hid (Q=false):=Hi (by rw [h0.out,i0.out,n0.out,p0.out,q0.out,y0.out,d1.out] <;> simp);have X1:=hc;have X2:=hf;have X3:=hC;have b0:=Hi (Ai X1 (Ai X2 X3));clear X1 X2 X3 hC;go_wp2
         exact bodyPost_ret (v:=.bool false) (by simp [results,Try.results54,go_sem]) rfl (by rw [d0.out];unfold ScP;exact ⟨_,rfl,b0.out.1,b0.out.2.1,(fun h=>(by cases h)),b0.out.2.2⟩)
        | true =>
         obtain ⟨s5,nD,t5,oD,u5,pD⟩:=Bk.f3 a0 2 3 4 rfl rfl rfl;go_wp2_with fail
         refine (isPlain_any j0.k _ _ _).mono ?_;rintro e w4 ⟨rfl,hb⟩;rw [r0.out.1,ht5];replace hC:=(hC).trans (Cb hb);have oI:=hb.size;clear nD s5 oD t5 pD u5;replace hf:=Kf hb (Lc hc) hf;replace hc:=Kc hb hc;replace c0:=Bb c0 hb;replace a0:=Bb a0 hb;clear hb;have d1:=Hi ht5;clear ht5
         cases ht6:exRight nv na val with
         | false =>
          obtain ⟨v5,qD,x5,rD,y5,sD⟩:=Bk.f3 c0 0 1 2 rfl rfl rfl;obtain ⟨z5,tD,b6,uD,d6,vD⟩:=Bk.f3 a0 5 6 7 rfl rfl rfl;go_wp2_with fail
          refine (expr_any _ _ nv _ na _ _ hnv B _ e0 val _ (HV.out _ hC)).mono ?_;rintro e w5 ⟨rfl,hb⟩;rw [ht6];replace hC:=(hC).trans (Cb hb);have pI:=hb.size;clear qD v5 rD x5 sD y5 tD z5 uD b6 vD d6;replace hf:=Kf hb (Lc hc) hf;replace hc:=Kc hb hc;replace c0:=Bb c0 hb;replace a0:=Bb a0 hb;clear hb;have rH:=Hi ht6;clear ht6;have d0:Hid (Q=false):=Hi (by rw [h0.out,i0.out,n0.out,p0.out,q0.out,y0.out,d1.out,rH.out] <;> simp);have X1:=hc;have X2:=hf;have X3:=hC;have b0:=Hi (Ai X1 (Ai X2 X3));clear X1 X2 X3 hC;go_wp2
          exact bodyPost_ret (v:=.bool false) (by simp [results,Try.results54,go_sem]) rfl (by rw [d0.out];unfold ScP;exact ⟨_,rfl,b0.out.1,b0.out.2.1,(fun h=>(by cases h)),b0.out.2.2⟩)
         | true =>
          obtain ⟨e6,wD,g6,xD,i6,yD⟩:=Bk.f3 c0 0 1 2 rfl rfl rfl;obtain ⟨j6,zD,k6,aE,l6,bE⟩:=Bk.f3 a0 5 6 7 rfl rfl rfl;go_wp2_with fail
          refine (expr_any _ _ nv _ na _ _ hnv B _ e0 val _ (HV.out _ hC)).mono ?_;rintro e w5 ⟨rfl,hb⟩;rw [ht6];replace hC:=(hC).trans (Cb hb);have qI:=hb.size;clear wD e6 xD g6 yD i6 zD j6 aE k6 bE l6;replace hf:=Kf hb (Lc hc) hf;replace hc:=Kc hb hc;replace c0:=Bb c0 hb;replace a0:=Bb a0 hb;clear hb;have rH:=Hi ht6;clear ht6;have x0:Hid (Q=((body.all (stOk nv na d)&&els.all (stOk nv na d))&&decide (c+1+blC d body body.length+blC d els els.length≤60))):=Hi (by rw [h0.out,i0.out,n0.out,p0.out,q0.out,y0.out,d1.out,rH.out];first | rfl | (simp only [Bool.true_and];done) | (simp only [Bool.true_and];rfl) | (exact Bool.eq_iff_iff.mpr (by simp only [Bool.true_and,Bool.and_eq_true,decide_eq_true_eq])) | (refine Bool.eq_iff_iff.mpr ?_;simp));have s0:=Hi (blC_ge d body body.length);have t0:=Hi (blC_ge d els els.length)
          cases hz1:blR nv na d (c+1) body with
          | false =>
           obtain ⟨m6,cE,n6,dE,o6,eE⟩:=Bk.f3 c0 0 1 2 rfl rfl rfl;obtain ⟨p6,fE⟩:=Bk.cf a0 9 rfl;go_wp2_with fail
           have f0:=IH.out D _ body (c+1) (dp+1) _ (by have:=w0.out;omega) (H5.out _ hC) hc hf (by omega) (by omega);rw [hz1] at f0;clear hc hf;refine (f0).mono ?_;rintro e w6 ⟨x1,rfl,hc,hf,l0,hb⟩;clear f0;replace hC:=(hC).trans hb;have rI:=hb.size;clear cE m6 dE n6 eE o6 fE p6;replace c0:=Bk.keep c0 hb (fun h=>by have:=k0 _ h;omega);replace a0:=Bk.keep a0 hb (fun h=>by have:=k0 _ h;omega);clear hb;replace g0:=Lc hc;have z0:=Hi hz1;clear hz1;have d0:Hid (Q=false):=Hi (by rw [x0.out];have h1:=z0.out;have h5:=s0.out;have h6:=t0.out;unfold blR at h1;cases ha:body.all (stOk nv na d) with | false=>simp | true=>rw [ha,Bool.true_and] at h1;have:=of_decide_eq_false h1;rw [decide_eq_false (by omega)];simp);have X1:=hc;have X2:=hf;have X3:=hC;have b0:=Hi (Ai X1 (Ai X2 X3));clear X1 X2 X3 hC;go_wp2
           exact bodyPost_ret (v:=.bool false) (by simp [results,Try.results54,go_sem]) rfl (by rw [d0.out];unfold ScP;exact ⟨_,rfl,b0.out.1,b0.out.2.1,(fun h=>(by cases h)),b0.out.2.2⟩)
          | true =>
           obtain ⟨q6,gE,s6,hE,t6,iE⟩:=Bk.f3 c0 0 1 2 rfl rfl rfl;obtain ⟨u6,jE⟩:=Bk.cf a0 9 rfl;go_wp2_with fail
           have f0:=IH.out D _ body (c+1) (dp+1) _ (by have:=w0.out;omega) (H5.out _ hC) hc hf (by omega) (by omega);rw [hz1] at f0;clear hc hf;refine (f0).mono ?_;rintro e w6 ⟨x1,rfl,hc,hf,l0,hb⟩;clear f0;replace hC:=(hC).trans hb;have sI:=hb.size;clear gE q6 hE s6 iE t6 jE u6;replace c0:=Bk.keep c0 hb (fun h=>by have:=k0 _ h;omega);replace a0:=Bk.keep a0 hb (fun h=>by have:=k0 _ h;omega);clear hb;replace g0:=Lc hc;have z0:=Hi hz1;clear hz1;have o0:Hid (x1=(c+1)+blC d body body.length∧body.all (stOk nv na d)=true∧(c+1)+blC d body body.length≤60):=Hi (by have h1:=z0.out;unfold blR at h1;rw [Bool.and_eq_true] at h1;exact ⟨l0 rfl,h1.1,of_decide_eq_true h1.2⟩);have f1:0≤x1∧x1≤60:=by have:=o0.out;have:=s0.out;have:=t0.out;omega
           clear l0
           cases hz2:blR nv na d x1 els with
           | false =>
            obtain ⟨v6,kE,x6,lE,y6,mE⟩:=Bk.f3 c0 0 1 2 rfl rfl rfl;obtain ⟨z6,nE⟩:=Bk.cf a0 10 rfl;go_wp2_with fail
            have f0:=IH.out D _ els x1 (dp+1) _ (by have:=w0.out;omega) (H6.out _ hC) hc hf (by omega) (by omega);rw [hz2] at f0;clear hc hf;refine (f0).mono ?_;rintro e w7 ⟨x2,rfl,hc,hf,m0,hb⟩;clear f0;replace hC:=(hC).trans hb;have tI:=hb.size;clear kE v6 lE x6 mE y6 nE z6;replace c0:=Bk.keep c0 hb (fun h=>by have:=k0 _ h;omega);replace a0:=Bk.keep a0 hb (fun h=>by have:=k0 _ h;omega);clear hb;clear c0 a0;replace g0:=Lc hc;have a1:=Hi hz2;clear hz2;have d0:Hid (Q=false):=Hi (by rw [x0.out];have h1:=a1.out;have h5:=s0.out;have h6:=t0.out;have h7:=o0.out;unfold blR at h1;cases ha:els.all (stOk nv na d) with | false=>simp | true=>rw [ha,Bool.true_and] at h1;have:=of_decide_eq_false h1;rw [decide_eq_false (by omega)];simp);have X1:=hc;have X2:=hf;have X3:=hC;have b0:=Hi (Ai X1 (Ai X2 X3));clear X1 X2 X3 hC;go_wp2
            exact bodyPost_ret (v:=.bool false) (by simp [results,Try.results54,go_sem]) rfl (by rw [d0.out];unfold ScP;exact ⟨_,rfl,b0.out.1,b0.out.2.1,(fun h=>(by cases h)),b0.out.2.2⟩)
           | true =>
            obtain ⟨a7,oE,b7,pE,c7,qE⟩:=Bk.f3 c0 0 1 2 rfl rfl rfl;obtain ⟨d7,rE⟩:=Bk.cf a0 10 rfl;go_wp2_with fail
            have f0:=IH.out D _ els x1 (dp+1) _ (by have:=w0.out;omega) (H6.out _ hC) hc hf (by omega) (by omega);rw [hz2] at f0;clear hc hf;refine (f0).mono ?_;rintro e w7 ⟨x2,rfl,hc,hf,m0,hb⟩;clear f0;replace hC:=(hC).trans hb;have uI:=hb.size;clear oE a7 pE b7 qE c7 rE d7;replace c0:=Bk.keep c0 hb (fun h=>by have:=k0 _ h;omega);replace a0:=Bk.keep a0 hb (fun h=>by have:=k0 _ h;omega);clear hb;clear c0 a0;replace g0:=Lc hc;have a1:=Hi hz2;clear hz2;have u0:Hid (x2=x1+blC d els els.length∧els.all (stOk nv na d)=true∧x1+blC d els els.length≤60):=Hi (by have h1:=a1.out;unfold blR at h1;rw [Bool.and_eq_true] at h1;exact ⟨m0 rfl,h1.1,of_decide_eq_true h1.2⟩);have i1:0≤x2∧x2≤60:=by have:=u0.out;have:=s0.out;have:=t0.out;have:=o0.out;omega
            clear m0;have d0:Hid (Q=true):=Hi (by rw [x0.out,o0.out.2.1,u0.out.2.1,decide_eq_true (by have h1:=o0.out;have h2:=u0.out;omega)];rfl);have X1:=hc;have X2:=hf;have X3:=hC;have b0:=Hi (Ai X1 (Ai X2 X3));clear X1 X2 X3 hC;go_wp2
            exact bodyPost_ret (v:=.bool true) (by simp [results,Try.results54,go_sem]) rfl (by rw [d0.out];unfold ScP;exact ⟨_,rfl,b0.out.1,b0.out.2.1,(fun _=>by have h1:=o0.out;have h2:=u0.out;have h3:=HN.out;omega),b0.out.2.2⟩)
  have q2:(nk == 2)=false:=by simp [hk2]
  by_cases hk3:nk=3
  ·skip
   have q3:(nk == 3)=true:=by simp [hk3]
   have q4:(nk == 4)=false:=by simp [hk3]
   have h0:=Hi (HQ.out.trans (stR_of (c:=c) (stOk_if q3)));simp only [St.body,St.els] at h0;have qH:=Hi hk3;clear hk3
   cases ht0:wi nt 0 (0) with
   | false =>
    obtain ⟨e7,sE,f7,tE⟩:=Bk.f2 a0 0 1 rfl rfl;go_wp2_with fail
    refine (within_any nt 0 (0) _).mono ?_;rintro e w2 ⟨rfl,hb⟩;rw [ht0];replace hC:=(hC).trans (Cb hb);have vI:=hb.size;clear sE e7 tE f7;replace hf:=Kf hb (Lc hc) hf;replace hc:=Kc hb hc;replace c0:=Bb c0 hb;replace a0:=Bb a0 hb;clear hb;replace g0:=Lc hc;replace b1:=Bk.lz c0;replace c1:=Bk.lz a0;have i0:=Hi ht0;clear ht0;have d0:Hid (Q=false):=Hi (by rw [h0.out,i0.out] <;> simp);have X1:=hc;have X2:=hf;have X3:=hC;have b0:=Hi (Ai X1 (Ai X2 X3));clear X1 X2 X3 hC;go_wp2
    exact bodyPost_ret (v:=.bool false) (by simp [results,Try.results54,go_sem]) rfl (by rw [d0.out];unfold ScP;exact ⟨_,rfl,b0.out.1,b0.out.2.1,(fun h=>(by cases h)),b0.out.2.2⟩)
   | true =>
    obtain ⟨g7,uE,i7,vE⟩:=Bk.f2 a0 0 1 rfl rfl;go_wp2_with fail
    refine (within_any nt 0 (0) _).mono ?_;rintro e w2 ⟨rfl,hb⟩;rw [ht0];replace hC:=(hC).trans (Cb hb);have wI:=hb.size;clear uE g7 vE i7;replace hf:=Kf hb (Lc hc) hf;replace hc:=Kc hb hc;replace c0:=Bb c0 hb;replace a0:=Bb a0 hb;clear hb;replace g0:=Lc hc;replace b1:=Bk.lz c0;replace c1:=Bk.lz a0;have i0:=Hi ht0;clear ht0
    cases ht1:(v0 == 0) with
    | false =>
     have g1:(v0 != 0)=true:=by rw [bne,ht1];rfl
     have n0:=Hi ht1;clear ht1;have d0:Hid (Q=false):=Hi (by rw [h0.out,i0.out,n0.out] <;> simp);have X1:=hc;have X2:=hf;have X3:=hC;have b0:=Hi (Ai X1 (Ai X2 X3));clear X1 X2 X3 hC;obtain ⟨fN,vN⟩:=Bk.cf a0 8 rfl;go_wp2
     exact bodyPost_ret (v:=.bool false) (by simp [results,Try.results54,go_sem]) rfl (by rw [d0.out];unfold ScP;exact ⟨_,rfl,b0.out.1,b0.out.2.1,(fun h=>(by cases h)),b0.out.2.2⟩)
    | true =>
     have g1:(v0 != 0)=false:=by rw [bne,ht1];rfl
     have n0:=Hi ht1;clear ht1
     cases ht2:noneE ix with
     | false =>
      obtain ⟨j7,wE,k7,xE,l7,yE,m7,zE⟩:=Bk.f4 a0 2 3 4 8 rfl rfl rfl rfl;go_wp2_with fail
      refine (isNone_any j0 ix r0.out.1 r0.out.2.1 r0.out.2.2 _).mono ?_;rintro e w3 ⟨rfl,hb⟩;rw [ht2];replace hC:=(hC).trans (Cb hb);have xI:=hb.size;clear wE j7 xE k7 yE l7 zE m7;replace hf:=Kf hb (Lc hc) hf;replace hc:=Kc hb hc;replace c0:=Bb c0 hb;replace a0:=Bb a0 hb;clear hb;have p0:=Hi ht2;clear ht2;have d0:Hid (Q=false):=Hi (by rw [h0.out,i0.out,n0.out,p0.out] <;> simp);have X1:=hc;have X2:=hf;have X3:=hC;have b0:=Hi (Ai X1 (Ai X2 X3));clear X1 X2 X3 hC;go_wp2
      exact bodyPost_ret (v:=.bool false) (by simp [results,Try.results54,go_sem]) rfl (by rw [d0.out];unfold ScP;exact ⟨_,rfl,b0.out.1,b0.out.2.1,(fun h=>(by cases h)),b0.out.2.2⟩)
     | true =>
      obtain ⟨n7,aF,o7,bF,p7,cF,q7,dF⟩:=Bk.f4 a0 2 3 4 8 rfl rfl rfl rfl;go_wp2_with fail
      refine (isNone_any j0 ix r0.out.1 r0.out.2.1 r0.out.2.2 _).mono ?_;rintro e w3 ⟨rfl,hb⟩;rw [ht2];replace hC:=(hC).trans (Cb hb);have yI:=hb.size;clear aF n7 bF o7 cF p7 dF q7;replace hf:=Kf hb (Lc hc) hf;replace hc:=Kc hb hc;replace c0:=Bb c0 hb;replace a0:=Bb a0 hb;clear hb;have p0:=Hi ht2;clear ht2
      cases ht3:exRight nv na val with
      | false =>
       obtain ⟨r7,eF,s7,fF,t7,gF⟩:=Bk.f3 c0 0 1 2 rfl rfl rfl;obtain ⟨u7,hF,v7,iF,x7,jF⟩:=Bk.f3 a0 5 6 7 rfl rfl rfl;go_wp2_with fail
       refine (expr_any _ _ nv _ na _ _ hnv B _ e0 val _ (HV.out _ hC)).mono ?_;rintro e w4 ⟨rfl,hb⟩;rw [ht3];replace hC:=(hC).trans (Cb hb);have zI:=hb.size;clear eF r7 fF s7 gF t7 hF u7 iF v7 jF x7;replace hf:=Kf hb (Lc hc) hf;replace hc:=Kc hb hc;replace c0:=Bb c0 hb;replace a0:=Bb a0 hb;clear hb;have q0:=Hi ht3;clear ht3;have d0:Hid (Q=false):=Hi (by rw [h0.out,i0.out,n0.out,p0.out,q0.out] <;> simp);have X1:=hc;have X2:=hf;have X3:=hC;have b0:=Hi (Ai X1 (Ai X2 X3));clear X1 X2 X3 hC;go_wp2
       exact bodyPost_ret (v:=.bool false) (by simp [results,Try.results54,go_sem]) rfl (by rw [d0.out];unfold ScP;exact ⟨_,rfl,b0.out.1,b0.out.2.1,(fun h=>(by cases h)),b0.out.2.2⟩)
      | true =>
       obtain ⟨y7,kF,z7,lF,a8,mF⟩:=Bk.f3 c0 0 1 2 rfl rfl rfl;obtain ⟨b8,nF,c8,oF,d8,pF⟩:=Bk.f3 a0 5 6 7 rfl rfl rfl;go_wp2_with fail
       refine (expr_any _ _ nv _ na _ _ hnv B _ e0 val _ (HV.out _ hC)).mono ?_;rintro e w4 ⟨rfl,hb⟩;rw [ht3];replace hC:=(hC).trans (Cb hb);have aJ:=hb.size;clear kF y7 lF z7 mF a8 nF b8 oF c8 pF d8;replace hf:=Kf hb (Lc hc) hf;replace hc:=Kc hb hc;replace c0:=Bb c0 hb;replace a0:=Bb a0 hb;clear hb;have q0:=Hi ht3;clear ht3;have x0:Hid (Q=((body.all (stOk nv na d)&&els.all (stOk nv na d))&&decide (c+1+blC d body body.length+blC d els els.length≤60))):=Hi (by rw [h0.out,i0.out,n0.out,p0.out,q0.out];first | rfl | (simp only [Bool.true_and];done) | (simp only [Bool.true_and];rfl) | (exact Bool.eq_iff_iff.mpr (by simp only [Bool.true_and,Bool.and_eq_true,decide_eq_true_eq])) | (refine Bool.eq_iff_iff.mpr ?_;simp));have s0:=Hi (blC_ge d body body.length);have t0:=Hi (blC_ge d els els.length)
       cases hz1:blR nv na d (c+1) body with
       | false =>
        obtain ⟨e8,qF,f8,rF,g8,sF⟩:=Bk.f3 c0 0 1 2 rfl rfl rfl;obtain ⟨h8,tF⟩:=Bk.cf a0 9 rfl;go_wp2_with fail
        have f0:=IH.out D _ body (c+1) (dp+1) _ (by have:=w0.out;omega) (H5.out _ hC) hc hf (by omega) (by omega);rw [hz1] at f0;clear hc hf;refine (f0).mono ?_;rintro e w5 ⟨x1,rfl,hc,hf,l0,hb⟩;clear f0;replace hC:=(hC).trans hb;have bJ:=hb.size;clear qF e8 rF f8 sF g8 tF h8;replace c0:=Bk.keep c0 hb (fun h=>by have:=k0 _ h;omega);replace a0:=Bk.keep a0 hb (fun h=>by have:=k0 _ h;omega);clear hb;replace g0:=Lc hc;have z0:=Hi hz1;clear hz1;have d0:Hid (Q=false):=Hi (by rw [x0.out];have h1:=z0.out;have h5:=s0.out;have h6:=t0.out;unfold blR at h1;cases ha:body.all (stOk nv na d) with | false=>simp | true=>rw [ha,Bool.true_and] at h1;have:=of_decide_eq_false h1;rw [decide_eq_false (by omega)];simp);have X1:=hc;have X2:=hf;have X3:=hC;have b0:=Hi (Ai X1 (Ai X2 X3));clear X1 X2 X3 hC;go_wp2
        exact bodyPost_ret (v:=.bool false) (by simp [results,Try.results54,go_sem]) rfl (by rw [d0.out];unfold ScP;exact ⟨_,rfl,b0.out.1,b0.out.2.1,(fun h=>(by cases h)),b0.out.2.2⟩)
       | true =>
        obtain ⟨i8,uF,j8,vF,k8,wF⟩:=Bk.f3 c0 0 1 2 rfl rfl rfl;obtain ⟨l8,xF⟩:=Bk.cf a0 9 rfl;go_wp2_with fail
        have f0:=IH.out D _ body (c+1) (dp+1) _ (by have:=w0.out;omega) (H5.out _ hC) hc hf (by omega) (by omega);rw [hz1] at f0;clear hc hf;refine (f0).mono ?_;rintro e w5 ⟨x1,rfl,hc,hf,l0,hb⟩;clear f0;replace hC:=(hC).trans hb;have cJ:=hb.size;clear uF i8 vF j8 wF k8 xF l8;replace c0:=Bk.keep c0 hb (fun h=>by have:=k0 _ h;omega);replace a0:=Bk.keep a0 hb (fun h=>by have:=k0 _ h;omega);clear hb;replace g0:=Lc hc;have z0:=Hi hz1;clear hz1;have o0:Hid (x1=(c+1)+blC d body body.length∧body.all (stOk nv na d)=true∧(c+1)+blC d body body.length≤60):=Hi (by have h1:=z0.out;unfold blR at h1;rw [Bool.and_eq_true] at h1;exact ⟨l0 rfl,h1.1,of_decide_eq_true h1.2⟩);have f1:0≤x1∧x1≤60:=by have:=o0.out;have:=s0.out;have:=t0.out;omega
        clear l0
        cases hz2:blR nv na d x1 els with
        | false =>
         obtain ⟨m8,yF,n8,zF,o8,aG⟩:=Bk.f3 c0 0 1 2 rfl rfl rfl;obtain ⟨p8,bG⟩:=Bk.cf a0 10 rfl;go_wp2_with fail
         have f0:=IH.out D _ els x1 (dp+1) _ (by have:=w0.out;omega) (H6.out _ hC) hc hf (by omega) (by omega);rw [hz2] at f0;clear hc hf;refine (f0).mono ?_;rintro e w6 ⟨x2,rfl,hc,hf,m0,hb⟩;clear f0;replace hC:=(hC).trans hb;have dJ:=hb.size;clear yF m8 zF n8 aG o8 bG p8;replace c0:=Bk.keep c0 hb (fun h=>by have:=k0 _ h;omega);replace a0:=Bk.keep a0 hb (fun h=>by have:=k0 _ h;omega);clear hb;clear c0 a0;replace g0:=Lc hc;have a1:=Hi hz2;clear hz2;have d0:Hid (Q=false):=Hi (by rw [x0.out];have h1:=a1.out;have h5:=s0.out;have h6:=t0.out;have h7:=o0.out;unfold blR at h1;cases ha:els.all (stOk nv na d) with | false=>simp | true=>rw [ha,Bool.true_and] at h1;have:=of_decide_eq_false h1;rw [decide_eq_false (by omega)];simp);have X1:=hc;have X2:=hf;have X3:=hC;have b0:=Hi (Ai X1 (Ai X2 X3));clear X1 X2 X3 hC;go_wp2
         exact bodyPost_ret (v:=.bool false) (by simp [results,Try.results54,go_sem]) rfl (by rw [d0.out];unfold ScP;exact ⟨_,rfl,b0.out.1,b0.out.2.1,(fun h=>(by cases h)),b0.out.2.2⟩)
        | true =>
         obtain ⟨q8,cG,r8,dG,s8,eG⟩:=Bk.f3 c0 0 1 2 rfl rfl rfl;obtain ⟨t8,fG⟩:=Bk.cf a0 10 rfl;go_wp2_with fail
         have f0:=IH.out D _ els x1 (dp+1) _ (by have:=w0.out;omega) (H6.out _ hC) hc hf (by omega) (by omega);rw [hz2] at f0;clear hc hf;refine (f0).mono ?_;rintro e w6 ⟨x2,rfl,hc,hf,m0,hb⟩;clear f0;replace hC:=(hC).trans hb;have eJ:=hb.size;clear cG q8 dG r8 eG s8 fG t8;replace c0:=Bk.keep c0 hb (fun h=>by have:=k0 _ h;omega);replace a0:=Bk.keep a0 hb (fun h=>by have:=k0 _ h;omega);clear hb;clear c0 a0;replace g0:=Lc hc;have a1:=Hi hz2;clear hz2;have u0:Hid (x2=x1+blC d els els.length∧els.all (stOk nv na d)=true∧x1+blC d els els.length≤60):=Hi (by have h1:=a1.out;unfold blR at h1;rw [Bool.and_eq_true] at h1;exact ⟨m0 rfl,h1.1,of_decide_eq_true h1.2⟩);have i1:0≤x2∧x2≤60:=by have:=u0.out;have:=s0.out;have:=t0.out;have:=o0.out;omega
         clear m0;have d0:Hid (Q=true):=Hi (by rw [x0.out,o0.out.2.1,u0.out.2.1,decide_eq_true (by have h1:=o0.out;have h2:=u0.out;omega)];rfl);have X1:=hc;have X2:=hf;have X3:=hC;have b0:=Hi (Ai X1 (Ai X2 X3));clear X1 X2 X3 hC;go_wp2
         exact bodyPost_ret (v:=.bool true) (by simp [results,Try.results54,go_sem]) rfl (by rw [d0.out];unfold ScP;exact ⟨_,rfl,b0.out.1,b0.out.2.1,(fun _=>by have h1:=o0.out;have h2:=u0.out;have h3:=HN.out;omega),b0.out.2.2⟩)
  have q3:(nk == 3)=false:=by simp [hk3]
  by_cases hk4:nk=4
  ·skip
   have q4:(nk == 4)=true:=by simp [hk4]
   have h0:=Hi (HQ.out.trans (stR_of (c:=c) (stOk_re q4)));simp only [St.body,St.els] at h0;have qH:=Hi hk4;clear hk4
   cases ht0:wi nt 0 (0) with
   | false =>
    obtain ⟨u8,gG,v8,hG⟩:=Bk.f2 a0 0 1 rfl rfl;go_wp2_with fail
    refine (within_any nt 0 (0) _).mono ?_;rintro e w2 ⟨rfl,hb⟩;rw [ht0];replace hC:=(hC).trans (Cb hb);have fJ:=hb.size;clear gG u8 hG v8;replace hf:=Kf hb (Lc hc) hf;replace hc:=Kc hb hc;replace c0:=Bb c0 hb;replace a0:=Bb a0 hb;clear hb;replace g0:=Lc hc;replace b1:=Bk.lz c0;replace c1:=Bk.lz a0;have i0:=Hi ht0;clear ht0;have d0:Hid (Q=false):=Hi (by rw [h0.out,i0.out] <;> simp);have X1:=hc;have X2:=hf;have X3:=hC;have b0:=Hi (Ai X1 (Ai X2 X3));clear X1 X2 X3 hC;go_wp2
    exact bodyPost_ret (v:=.bool false) (by simp [results,Try.results54,go_sem]) rfl (by rw [d0.out];unfold ScP;exact ⟨_,rfl,b0.out.1,b0.out.2.1,(fun h=>(by cases h)),b0.out.2.2⟩)
   | true =>
    obtain ⟨w8,iG,x8,jG⟩:=Bk.f2 a0 0 1 rfl rfl;go_wp2_with fail
    refine (within_any nt 0 (0) _).mono ?_;rintro e w2 ⟨rfl,hb⟩;rw [ht0];replace hC:=(hC).trans (Cb hb);have gJ:=hb.size;clear iG w8 jG x8;replace hf:=Kf hb (Lc hc) hf;replace hc:=Kc hb hc;replace c0:=Bb c0 hb;replace a0:=Bb a0 hb;clear hb;replace g0:=Lc hc;replace b1:=Bk.lz c0;replace c1:=Bk.lz a0;have i0:=Hi ht0;clear ht0
    cases ht1:wi v0 1 (3) with
    | false =>
     obtain ⟨y8,kG⟩:=Bk.cf a0 8 rfl;go_wp2_with fail
     refine (within_any v0 1 (3) _).mono ?_;rintro e w3 ⟨rfl,hb⟩;rw [ht1];replace hC:=(hC).trans (Cb hb);have hJ:=hb.size;clear kG y8;replace hf:=Kf hb (Lc hc) hf;replace hc:=Kc hb hc;replace c0:=Bb c0 hb;replace a0:=Bb a0 hb;clear hb;have n0:=Hi ht1;clear ht1;have d0:Hid (Q=false):=Hi (by rw [h0.out,i0.out,n0.out] <;> simp);have X1:=hc;have X2:=hf;have X3:=hC;have b0:=Hi (Ai X1 (Ai X2 X3));clear X1 X2 X3 hC;go_wp2
     exact bodyPost_ret (v:=.bool false) (by simp [results,Try.results54,go_sem]) rfl (by rw [d0.out];unfold ScP;exact ⟨_,rfl,b0.out.1,b0.out.2.1,(fun h=>(by cases h)),b0.out.2.2⟩)
    | true =>
     obtain ⟨z8,lG⟩:=Bk.cf a0 8 rfl;go_wp2_with fail
     refine (within_any v0 1 (3) _).mono ?_;rintro e w3 ⟨rfl,hb⟩;rw [ht1];replace hC:=(hC).trans (Cb hb);have iJ:=hb.size;clear lG z8;replace hf:=Kf hb (Lc hc) hf;replace hc:=Kc hb hc;replace c0:=Bb c0 hb;replace a0:=Bb a0 hb;clear hb;have n0:=Hi ht1;clear ht1
     cases ht2:decide (els.length=0) with
     | false =>
      have g2:0 < els.length:=by have:=of_decide_eq_false ht2;omega
      have p0:=Hi ht2;clear ht2;have d0:Hid (Q=false):=Hi (by rw [h0.out,i0.out,n0.out,p0.out] <;> simp);have X1:=hc;have X2:=hf;have X3:=hC;have b0:=Hi (Ai X1 (Ai X2 X3));clear X1 X2 X3 hC;obtain ⟨gN,wN⟩:=Bk.cf a0 10 rfl;go_wp2
      exact bodyPost_ret (v:=.bool false) (by simp [results,Try.results54,go_sem]) rfl (by rw [d0.out];unfold ScP;exact ⟨_,rfl,b0.out.1,b0.out.2.1,(fun h=>(by cases h)),b0.out.2.2⟩)
     | true =>
      have g2:decide (0 < els.length)=false:=decide_eq_false (by have:=of_decide_eq_true ht2;omega);have p0:=Hi ht2;clear ht2
      cases ht3:noneE ix with
      | false =>
       obtain ⟨a9,mG,b9,nG,c9,oG,d9,pG⟩:=Bk.f4 a0 2 3 4 10 rfl rfl rfl rfl;go_wp2_with fail
       refine (isNone_any j0 ix r0.out.1 r0.out.2.1 r0.out.2.2 _).mono ?_;rintro e w4 ⟨rfl,hb⟩;rw [ht3];replace hC:=(hC).trans (Cb hb);have jJ:=hb.size;clear mG a9 nG b9 oG c9 pG d9;replace hf:=Kf hb (Lc hc) hf;replace hc:=Kc hb hc;replace c0:=Bb c0 hb;replace a0:=Bb a0 hb;clear hb;have q0:=Hi ht3;clear ht3;have d0:Hid (Q=false):=Hi (by rw [h0.out,i0.out,n0.out,p0.out,q0.out] <;> simp);have X1:=hc;have X2:=hf;have X3:=hC;have b0:=Hi (Ai X1 (Ai X2 X3));clear X1 X2 X3 hC;go_wp2
       exact bodyPost_ret (v:=.bool false) (by simp [results,Try.results54,go_sem]) rfl (by rw [d0.out];unfold ScP;exact ⟨_,rfl,b0.out.1,b0.out.2.1,(fun h=>(by cases h)),b0.out.2.2⟩)
      | true =>
       obtain ⟨e9,qG,f9,rG,g9,sG,h9,tG⟩:=Bk.f4 a0 2 3 4 10 rfl rfl rfl rfl;go_wp2_with fail
       refine (isNone_any j0 ix r0.out.1 r0.out.2.1 r0.out.2.2 _).mono ?_;rintro e w4 ⟨rfl,hb⟩;rw [ht3];replace hC:=(hC).trans (Cb hb);have kJ:=hb.size;clear qG e9 rG f9 sG g9 tG h9;replace hf:=Kf hb (Lc hc) hf;replace hc:=Kc hb hc;replace c0:=Bb c0 hb;replace a0:=Bb a0 hb;clear hb;have q0:=Hi ht3;clear ht3
       cases ht4:noneE val with
       | false =>
        obtain ⟨i9,uG,j9,vG,k9,wG⟩:=Bk.f3 a0 5 6 7 rfl rfl rfl;go_wp2_with fail
        refine (isNone_any e0 val m1.out.1 m1.out.2.1 m1.out.2.2 _).mono ?_;rintro e w5 ⟨rfl,hb⟩;rw [ht4];replace hC:=(hC).trans (Cb hb);have lJ:=hb.size;clear uG i9 vG j9 wG k9;replace hf:=Kf hb (Lc hc) hf;replace hc:=Kc hb hc;replace c0:=Bb c0 hb;replace a0:=Bb a0 hb;clear hb;have y0:=Hi ht4;clear ht4;have d0:Hid (Q=false):=Hi (by rw [h0.out,i0.out,n0.out,p0.out,q0.out,y0.out] <;> simp);have X1:=hc;have X2:=hf;have X3:=hC;have b0:=Hi (Ai X1 (Ai X2 X3));clear X1 X2 X3 hC;go_wp2
        exact bodyPost_ret (v:=.bool false) (by simp [results,Try.results54,go_sem]) rfl (by rw [d0.out];unfold ScP;exact ⟨_,rfl,b0.out.1,b0.out.2.1,(fun h=>(by cases h)),b0.out.2.2⟩)
       | true =>
        obtain ⟨l9,xG,m9,yG,n9,zG⟩:=Bk.f3 a0 5 6 7 rfl rfl rfl;go_wp2_with fail
        refine (isNone_any e0 val m1.out.1 m1.out.2.1 m1.out.2.2 _).mono ?_;rintro e w5 ⟨rfl,hb⟩;rw [ht4];replace hC:=(hC).trans (Cb hb);have mJ:=hb.size;clear xG l9 yG m9 zG n9;replace hf:=Kf hb (Lc hc) hf;replace hc:=Kc hb hc;replace c0:=Bb c0 hb;replace a0:=Bb a0 hb;clear hb;have y0:=Hi ht4;clear ht4;have x0:Hid (Q=((body.all (stOk nv na d)&&els.all (stOk nv na d))&&decide (c+1+blC d body body.length+blC d els els.length≤60))):=Hi (by rw [h0.out,i0.out,n0.out,p0.out,q0.out,y0.out];first | rfl | (simp only [Bool.true_and];done) | (simp only [Bool.true_and];rfl) | (exact Bool.eq_iff_iff.mpr (by simp only [Bool.true_and,Bool.and_eq_true,decide_eq_true_eq])) | (refine Bool.eq_iff_iff.mpr ?_;simp));have s0:=Hi (blC_ge d body body.length);have t0:=Hi (blC_ge d els els.length)
        cases hz1:blR nv na d (c+1) body with
        | false =>
         obtain ⟨o9,aH,p9,bH,q9,cH⟩:=Bk.f3 c0 0 1 2 rfl rfl rfl;obtain ⟨r9,dH⟩:=Bk.cf a0 9 rfl;go_wp2_with fail
         have f0:=IH.out D _ body (c+1) (dp+1) _ (by have:=w0.out;omega) (H5.out _ hC) hc hf (by omega) (by omega);rw [hz1] at f0;clear hc hf;refine (f0).mono ?_;rintro e w6 ⟨x1,rfl,hc,hf,l0,hb⟩;clear f0;replace hC:=(hC).trans hb;have nJ:=hb.size;clear aH o9 bH p9 cH q9 dH r9;replace c0:=Bk.keep c0 hb (fun h=>by have:=k0 _ h;omega);replace a0:=Bk.keep a0 hb (fun h=>by have:=k0 _ h;omega);clear hb;replace g0:=Lc hc;have z0:=Hi hz1;clear hz1;have d0:Hid (Q=false):=Hi (by rw [x0.out];have h1:=z0.out;have h5:=s0.out;have h6:=t0.out;unfold blR at h1;cases ha:body.all (stOk nv na d) with | false=>simp | true=>rw [ha,Bool.true_and] at h1;have:=of_decide_eq_false h1;rw [decide_eq_false (by omega)];simp);have X1:=hc;have X2:=hf;have X3:=hC;have b0:=Hi (Ai X1 (Ai X2 X3));clear X1 X2 X3 hC;go_wp2
         exact bodyPost_ret (v:=.bool false) (by simp [results,Try.results54,go_sem]) rfl (by rw [d0.out];unfold ScP;exact ⟨_,rfl,b0.out.1,b0.out.2.1,(fun h=>(by cases h)),b0.out.2.2⟩)
        | true =>
         obtain ⟨s9,eH,t9,fH,u9,gH⟩:=Bk.f3 c0 0 1 2 rfl rfl rfl;obtain ⟨v9,hH⟩:=Bk.cf a0 9 rfl;go_wp2_with fail
         have f0:=IH.out D _ body (c+1) (dp+1) _ (by have:=w0.out;omega) (H5.out _ hC) hc hf (by omega) (by omega);rw [hz1] at f0;clear hc hf;refine (f0).mono ?_;rintro e w6 ⟨x1,rfl,hc,hf,l0,hb⟩;clear f0;replace hC:=(hC).trans hb;have oJ:=hb.size;clear eH s9 fH t9 gH u9 hH v9;replace c0:=Bk.keep c0 hb (fun h=>by have:=k0 _ h;omega);replace a0:=Bk.keep a0 hb (fun h=>by have:=k0 _ h;omega);clear hb;replace g0:=Lc hc;have z0:=Hi hz1;clear hz1;have o0:Hid (x1=(c+1)+blC d body body.length∧body.all (stOk nv na d)=true∧(c+1)+blC d body body.length≤60):=Hi (by have h1:=z0.out;unfold blR at h1;rw [Bool.and_eq_true] at h1;exact ⟨l0 rfl,h1.1,of_decide_eq_true h1.2⟩);have f1:0≤x1∧x1≤60:=by have:=o0.out;have:=s0.out;have:=t0.out;omega
         clear l0
         cases hz2:blR nv na d x1 els with
         | false =>
          obtain ⟨w9,iH,x9,jH,y9,kH⟩:=Bk.f3 c0 0 1 2 rfl rfl rfl;obtain ⟨z9,lH⟩:=Bk.cf a0 10 rfl;go_wp2_with fail
          have f0:=IH.out D _ els x1 (dp+1) _ (by have:=w0.out;omega) (H6.out _ hC) hc hf (by omega) (by omega);rw [hz2] at f0;clear hc hf;refine (f0).mono ?_;rintro e w7 ⟨x2,rfl,hc,hf,m0,hb⟩;clear f0;replace hC:=(hC).trans hb;have pJ:=hb.size;clear iH w9 jH x9 kH y9 lH z9;replace c0:=Bk.keep c0 hb (fun h=>by have:=k0 _ h;omega);replace a0:=Bk.keep a0 hb (fun h=>by have:=k0 _ h;omega);clear hb;clear c0 a0;replace g0:=Lc hc;have a1:=Hi hz2;clear hz2;have d0:Hid (Q=false):=Hi (by rw [x0.out];have h1:=a1.out;have h5:=s0.out;have h6:=t0.out;have h7:=o0.out;unfold blR at h1;cases ha:els.all (stOk nv na d) with | false=>simp | true=>rw [ha,Bool.true_and] at h1;have:=of_decide_eq_false h1;rw [decide_eq_false (by omega)];simp);have X1:=hc;have X2:=hf;have X3:=hC;have b0:=Hi (Ai X1 (Ai X2 X3));clear X1 X2 X3 hC;go_wp2
          exact bodyPost_ret (v:=.bool false) (by simp [results,Try.results54,go_sem]) rfl (by rw [d0.out];unfold ScP;exact ⟨_,rfl,b0.out.1,b0.out.2.1,(fun h=>(by cases h)),b0.out.2.2⟩)
         | true =>
          obtain ⟨aA,mH,bA,nH,cA,oH⟩:=Bk.f3 c0 0 1 2 rfl rfl rfl;obtain ⟨dA,pH⟩:=Bk.cf a0 10 rfl;go_wp2_with fail
          have f0:=IH.out D _ els x1 (dp+1) _ (by have:=w0.out;omega) (H6.out _ hC) hc hf (by omega) (by omega);rw [hz2] at f0;clear hc hf;refine (f0).mono ?_;rintro e w7 ⟨x2,rfl,hc,hf,m0,hb⟩;clear f0;replace hC:=(hC).trans hb;have qJ:=hb.size;clear mH aA nH bA oH cA pH dA;replace c0:=Bk.keep c0 hb (fun h=>by have:=k0 _ h;omega);replace a0:=Bk.keep a0 hb (fun h=>by have:=k0 _ h;omega);clear hb;clear c0 a0;replace g0:=Lc hc;have a1:=Hi hz2;clear hz2;have u0:Hid (x2=x1+blC d els els.length∧els.all (stOk nv na d)=true∧x1+blC d els els.length≤60):=Hi (by have h1:=a1.out;unfold blR at h1;rw [Bool.and_eq_true] at h1;exact ⟨m0 rfl,h1.1,of_decide_eq_true h1.2⟩);have i1:0≤x2∧x2≤60:=by have:=u0.out;have:=s0.out;have:=t0.out;have:=o0.out;omega
          clear m0;have d0:Hid (Q=true):=Hi (by rw [x0.out,o0.out.2.1,u0.out.2.1,decide_eq_true (by have h1:=o0.out;have h2:=u0.out;omega)];rfl);have X1:=hc;have X2:=hf;have X3:=hC;have b0:=Hi (Ai X1 (Ai X2 X3));clear X1 X2 X3 hC;go_wp2
          exact bodyPost_ret (v:=.bool true) (by simp [results,Try.results54,go_sem]) rfl (by rw [d0.out];unfold ScP;exact ⟨_,rfl,b0.out.1,b0.out.2.1,(fun _=>by have h1:=o0.out;have h2:=u0.out;have h3:=HN.out;omega),b0.out.2.2⟩)
  have q4:(nk == 4)=false:=by simp [hk4]
  have d0:Hid (Q=false):=Hi (by rw [HQ.out];unfold stR;rw [stOk_no ⟨hk1,hk2,hk3,hk4,hk5⟩];rfl);clear hk1 hk2 hk3 hk4 hk5;have X1:=hc;have X2:=hf;have X3:=hC;have b0:=Hi (Ai X1 (Ai X2 X3));clear X1 X2 X3 hC;obtain ⟨iN,xN⟩:=Bk.cf a0 0 rfl;go_wp2
  exact bodyPost_ret (v:=.bool false) (by simp [results,Try.results54,go_sem]) rfl (by rw [d0.out];unfold ScP;exact ⟨_,rfl,b0.out.1,b0.out.2.1,(fun h=>(by cases h)),b0.out.2.2⟩)
end Go.Proofs.Ytlckklglbodgbaa
