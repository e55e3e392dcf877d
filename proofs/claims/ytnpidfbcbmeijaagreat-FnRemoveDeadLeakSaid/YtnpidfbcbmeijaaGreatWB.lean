/-
 Parts of the proofs of the laws FnRemoveDead,FnRemoveDeadLeak,FnSpecFenced,FnSpecMemory.
-/
import Derived.Test.YtnpidfbcbmeijaaGreatLC
set_option linter.all false
namespace Go.Proofs.YtnpidfbcbmeijaaGreat
open Go.RowKit
theorem stN_add (c:Cd) (s:Ms) (a b:Nat):stN c (a+b) s=stN c b (stN c a s):=by
 induction b with
 | zero=>rfl
 | succ b ih=>rw [show a+(b+1)=(a+b)+1 by omega];simp only [stN];rw [ih]
theorem opAt_add (c:Cd) (s:Ms) (a b:Nat):opAt c s (a+b)=opAt c (stN c a s) b:=by unfold opAt;rw [stN_add]
theorem evN_add (c:Cd) (s:Ms) (a b:Nat):evN c (a+b) s=evN c a s++evN c b (stN c a s):=by
 induction b with
 | zero=>simp [evN]
 | succ b ih=>rw [show a+(b+1)=(a+b)+1 by omega];simp only [evN];rw [ih,stN_add,List.append_assoc]
theorem stN_one (c:Cd) (s:Ms):stN c 1 s=stp (insAt c s.pc) s:=rfl
theorem stp_halt {x:Ins} {s:Ms} (h:x.op=13):stp x s=s:=by
 obtain ⟨pc,r,m⟩:=s;simp [stp,stPc,stRegs,stMem,h]
theorem accE_halt {x:Ins} {s:Ms} (h:x.op=13):accE x s=[]:=by simp [accE,h]
theorem swpTo_offs {c:Cd}:∀ (k:Nat) {L:List (List Bool)},InvL c L→k≤L.length→offs (swpTo c k L)≤offs L∧(((∀ j (h:j < L.length),j < k→befAt c L j=L[j])∧swpTo c k L=L)∨offs (swpTo c k L) < offs L):=by
 intro k
 induction k with
 | zero=>intro L _ _;exact ⟨Lr,Or.inl ⟨fun j _ h=>by omega,rfl⟩⟩
 | succ k ih =>
  intro L hi hk;have a0:k < L.length:=by omega
  have hu:=up_offs hi k a0;have hs:=ih (up_inv hi k a0) (by rw [List.length_set];omega);rw [swpTo_step];by_cases e:befAt c L k=L[k]
  ·rw [set_self a0 e] at hs ⊢;refine ⟨hs.1,?_⟩;rcases hs.2 with ⟨h1,h2⟩ | h1
   ·refine Or.inl ⟨fun j hj hjk=>?_,h2⟩;by_cases e2:j=k
    ·subst e2;exact e
    exact h1 j hj (by omega)
   exact Or.inr h1
  have:=hu.2 e
  exact ⟨by omega,Or.inr (by omega)⟩
theorem live_swp (c:Cd):swp c (liveOf c)=liveOf c:=by
 have a0:∀ n,(∃ m,m < n∧swp c (swps c m)=swps c m)∨offs (swps c n)+n≤14*c.list.length:=by
  intro n
  induction n with
  | zero=>exact Or.inr (by simp only [swps];rw [zero_offs];omega)
  | succ n ih =>
   rcases ih with ⟨m,h1,h2⟩ | h
   ·exact Or.inl ⟨m,by omega,h2⟩
   have hi:=swps_inv c n;have:=swpTo_offs c.list.length hi (by rw [hi.len];exact Lr)
   rcases this.2 with ⟨_,h2⟩ | h2
   ·exact Or.inl ⟨n,by omega,h2⟩
   refine Or.inr ?_;have:offs (swps c (n+1)) < offs (swps c n):=h2
   omega
 rcases a0 (14*c.list.length+1) with ⟨m,h1,h2⟩ | h
 ·rw [← liveOf_of h2 (by omega)];exact h2
 omega
theorem live_inv (c:Cd):InvL c (liveOf c):=swps_inv c _
theorem live_fix (c:Cd):∀ j (h:j < (liveOf c).length),befAt c (liveOf c) j=(liveOf c)[j]:=by
 have hi:=live_inv c;have:=swpTo_offs c.list.length hi (by rw [hi.len];exact Lr)
 have hs:swpTo c c.list.length (liveOf c)=liveOf c:=live_swp c;rw [hs] at this;rcases this.2 with ⟨h1,_⟩ | h1
 ·intro j hj;exact h1 j hj (by rw [← hi.len];exact hj)
 omega
def newv (x:Ins) (s:Ms):Int:=
 if x.op=1 then x.b
 else if x.op=2 then gi s.mem.vals x.b
 else if x.op=4 then gi (gr s.mem.arrs x.b) (gi s.regs x.c % 4)
 else if x.op=6 then opr x.b (gi s.regs x.c) (gi s.regs x.d)
 else if x.op=7 then (if gi s.regs x.b≠0 then gi s.regs x.c else gi s.regs x.d)
 else if x.op=10 then (gi s.regs x.a+255) % 256
 else 0
theorem stRegs_wrt {nv na nl:Nat} {x:Ins} (h:insOk nv na nl x=true) (s:Ms):(wrt x=-1∧stRegs x s=s.regs)∨((0≤wrt x∧wrt x < 14)∧stRegs x s=s.regs.set (wrt x).toNat (newv x s)):=by
 have hw:=wrt_in h;have ho:=insOk_op h;obtain ⟨op,a,b,d,f⟩:=x;obtain ⟨P1,P2,P3,P4,P5,P6,P7,P8,P9,a0,b0⟩:=ins_parts h;simp only at ho
 have hc:op=1∨op=2∨op=3∨op=4∨op=5∨op=6∨op=7∨op=8∨op=9∨op=10∨op=11∨op=12∨op=13:=by omega
 rcases hc with rfl | rfl | rfl | rfl | rfl | rfl | rfl | rfl | rfl | rfl | rfl | rfl | rfl
 ·exact Or.inr ⟨(P1 rfl).1,rfl⟩
 ·exact Or.inr ⟨(P2 rfl).1,rfl⟩
 ·exact Or.inl ⟨rfl,rfl⟩
 ·exact Or.inr ⟨(P4 rfl).1,rfl⟩
 ·exact Or.inl ⟨rfl,rfl⟩
 ·exact Or.inr ⟨(P6 rfl).1,rfl⟩
 ·exact Or.inr ⟨(P7 rfl).1,rfl⟩
 ·exact Or.inl ⟨rfl,rfl⟩
 ·exact Or.inl ⟨rfl,rfl⟩
 ·exact Or.inr ⟨(a0 rfl).1,rfl⟩
 ·exact Or.inl ⟨rfl,rfl⟩
 ·exact Or.inl ⟨rfl,rfl⟩
 exact Or.inl ⟨rfl,rfl⟩
theorem gi_setN (xs:List Int) (i:Nat) (v:Int) (r:Nat):gi (xs.set i v) (r:Int)=if i=r∧i < xs.length then v else gi xs (r:Int):=by
 unfold gi
 rw [Int.toNat_natCast,List.getElem?_set];by_cases e:i=r
 ·subst e;rw [if_pos rfl];by_cases h:i < xs.length
  ·rw [if_pos h,if_pos ⟨rfl,h⟩];rfl
  rw [if_neg h,if_neg (fun h2=>h h2.2),List.getElem?_eq_none (by omega)]
 rw [if_neg e,if_neg (fun h2=>e h2.1)]
theorem same_eff {nv na nl:Nat} {x:Ins} (h:insOk nv na nl x=true) {s t:Ms} (hp:s.pc=t.pc) (hm:s.mem=t.mem) (hu:∀ u ∈ use x,gi s.regs u=gi t.regs u) :
  stPc x s=stPc x t∧stMem x s=stMem x t∧stEvs x s=stEvs x t∧newv x s=newv x t:=by
 have ho:=insOk_op h;obtain ⟨pc,rs,m⟩:=s;obtain ⟨a0,qs,m2⟩:=t;simp only at hp hm hu
 subst hp hm;obtain ⟨op,a,b,d,f⟩:=x;simp only at ho
 have hc:op=1∨op=2∨op=3∨op=4∨op=5∨op=6∨op=7∨op=8∨op=9∨op=10∨op=11∨op=12∨op=13:=by omega
 rcases hc with rfl | rfl | rfl | rfl | rfl | rfl | rfl | rfl | rfl | rfl | rfl | rfl | rfl
 all_goals
  simp only [use] at hu;simp at hu
  simp [stPc,stMem,stEvs,newv,hu]
theorem stPc_flw {nv na nl:Nat} {x:Ins} (h:insOk nv na nl x=true) (h13:¬x.op=13) (s:Ms) (k:Nat) (hk:s.pc=k):stPc x s ∈ flw x k:=by
 unfold stPc flw
 by_cases h8:x.op=8
 ·rw [if_pos h8,if_pos h8];simp
 rw [if_neg h8,if_neg h8];by_cases h9:x.op=9
 ·rw [if_pos h9,if_pos (Or.inl h9)];split
  ·simp
  rw [hk];simp
 rw [if_neg h9];by_cases h10:x.op=10
 ·rw [if_pos h10,if_pos (Or.inr h10)];split
  ·simp
  rw [hk];simp
 rw [if_neg h10,if_neg h13,if_neg (by omega),if_neg h13,hk];simp
theorem live_bit {c:Cd} {k:Nat} (hk:k < c.list.length) {r:Nat} (hr:r < 14):bit (liveOf c) (k:Int) r=befF c.list[k] (aftF (liveOf c) (flw c.list[k] k)) r:=by
 have hi:=live_inv c;have a0:k < (liveOf c).length:=by rw [hi.len];exact hk
 rw [bit_at _ k r a0 (by rw [hi.rows k a0];exact hr)];have:=live_fix c k a0
 rw [befAt_at c _ k hk] at this
 have e:(liveOf c)[k][r]'(by rw [hi.rows k a0];exact hr)=((liveOf c)[k]).getD r false:=by
  rw [List.getD_eq_getElem?_getD,List.getElem?_eq_getElem (by rw [hi.rows k a0];exact hr)];rfl
 rw [e,← this,tab_getD _ _ hr]
def rmE (d:Nat→Bool) (e:Ev):List Ev:=if e.1=5 then (if d e.2.toNat=true then [] else [(5,(stay d e.2.toNat:Int))]) else [e]
def rmT (d:Nat→Bool) (L:List Ev):List Ev:=L.flatMap (rmE d)
theorem rmT_app (d:Nat→Bool) (a b:List Ev):rmT d (a++b)=rmT d a++rmT d b:=List.flatMap_append ..
theorem rmT_cons (d:Nat→Bool) (e:Ev) (L:List Ev):rmT d (e::L)=rmE d e++rmT d L:=List.flatMap_cons ..
theorem rmE_prj (d:Nat→Bool) (e:Ev):prj (rmE d e)=prj [e]:=by
 obtain ⟨k,v⟩:=e;unfold rmE
 by_cases h:k=5
 ·subst h;rw [if_pos rfl];split <;> rfl
 rw [if_neg h]
theorem rmT_prj (d:Nat→Bool) (L:List Ev):prj (rmT d L)=prj L:=by
 induction L with
 | nil=>rfl
 | cons e L ih=>rw [rmT_cons,prj_app,ih,rmE_prj,← prj_app];rfl
theorem rmE_len (d:Nat→Bool) (e:Ev):(rmE d e).length≤1:=by
 unfold rmE
 split
 ·split <;> simp
 simp
theorem rmT_len (d:Nat→Bool) (L:List Ev):(rmT d L).length≤L.length:=by
 induction L with
 | nil=>exact Lr
 | cons e L ih=>rw [rmT_cons,List.length_append,List.length_cons];have:=rmE_len d e;omega
theorem rmT_acc (d:Nat→Bool) (x:Ins) (s:Ms):rmT d (accE x s)=accE x s:=by
 unfold accE
 split
 ·rfl
 split
 ·rfl
 split <;> rfl
theorem outTo_at (l:List Ins) (d:Nat→Bool) (k:Nat) (hk:k < l.length) (hd:d k=false):∀ n,k < n→n≤l.length→(outTo l d n)[stay d k]? = some (dx d l[k]):=by
 intro n
 induction n with
 | zero=>intro h;omega
 | succ n ih =>
  intro h1 h2;have a0:=outTo_len l d n (by omega);rw [outTo_succ l d n (by omega)];by_cases e:k=n
  ·subst e;rw [if_neg (by rw [hd];decide),List.getElem?_append_right (by omega),a0,Nat.sub_self];rfl
  have h3:=stay_mono d (show k+1≤n by omega);have h4:stay d (k+1)=stay d k+1:=by simp only [stay];rw [hd];rfl
  rw [List.getElem?_append_left (by omega)];exact ih (by omega) (by omega)
theorem rem1_at {c:Cd} {k:Nat} (hk:k < c.list.length) (hd:dedAt c k=false):insAt (rem1 c) ((stay (dedAt c) k:Nat):Int)=dx (dedAt c) c.list[k]:=by
 unfold insAt rem1 wout
 simp only
 rw [Int.toNat_natCast,outTo_at c.list (dedAt c) k hk hd _ hk Lr];rfl
theorem dx_acc (d:Nat→Bool) (x:Ins) (p:Int) (s:Ms):accE (dx d x) ⟨p,s.regs,s.mem⟩=accE x s:=by
 rcases tgt_cases x with ⟨h,h1,h2⟩ | ⟨h,h1,h2⟩ | ⟨h,h1,h2⟩ | ⟨h,h1,h2⟩
 ·unfold accE;rw [dx_op];simp [h]
 ·unfold accE;rw [dx_op];simp [h]
 ·unfold accE;rw [dx_op];simp [h]
 have:dx d x=x:=by unfold dx;rw [if_neg (by omega)]
 rw [this];rfl
theorem dx_stp {c:Cd} (hok:codeOk c=true) {k:Nat} (hk:k < c.list.length) (d:Nat→Bool) (hd:d k=false) (s:Ms) (hpc:s.pc=k) (h13:¬c.list[k].op=13) :
  stp (dx d c.list[k]) ⟨(stay d k:Nat),s.regs,s.mem⟩=⟨(stay d (stPc c.list[k] s).toNat:Nat),stRegs c.list[k] s,stMem c.list[k] s⟩:=by
 have a0:=codeOk_all hok k hk;have h4:stay d (k+1)=stay d k+1:=by simp only [stay];rw [hd];rfl
 have c0:((stay d k:Nat):Int)+1=(stay d (k+1):Nat):=by omega
 have b0:((k:Int)+1).toNat=k+1:=by omega
 obtain ⟨pc,rs,m⟩:=s;simp only at hpc
 subst hpc;generalize c.list[k]=x at *
 obtain ⟨op,a,b,e,f⟩:=x;rcases tgt_cases ⟨op,a,b,e,f⟩ with ⟨h,h1,h2⟩ | ⟨h,h1,h2⟩ | ⟨h,h1,h2⟩ | ⟨h,h1,h2⟩
 ·simp only at h;subst h
  have hg:=tgt_ge a0 (Or.inl rfl);unfold dx
  rw [if_pos hg.1,h2,h1];simp [stp,stPc,stRegs,stMem]
 ·simp only at h;subst h
  have hg:=tgt_ge a0 (Or.inr (Or.inl rfl));unfold dx
  rw [if_pos hg.1,h2,h1];simp only [stp,stPc,stRegs,stMem];by_cases e:gi rs a=0
  ·simp [e]
  simp [e,c0,b0]
 ·simp only at h;subst h
  have hg:=tgt_ge a0 (Or.inr (Or.inr rfl));unfold dx
  rw [if_pos hg.1,h2,h1];simp only [stp,stPc,stRegs,stMem];by_cases e:(gi rs a+255) % 256=0
  ·simp [e,c0,b0]
  simp [e]
 simp only at h h13
 have e0:dx d ⟨op,a,b,e,f⟩=⟨op,a,b,e,f⟩:=by unfold dx;rw [if_neg (by omega)]
 rw [e0];have hs:stPc ⟨op,a,b,e,f⟩ ⟨(stay d k:Nat),rs,m⟩=(stay d k:Nat)+1:=by simp [stPc,h.1,h.2.1,h.2.2,h13]
 have d0:stPc ⟨op,a,b,e,f⟩ ⟨(k:Nat),rs,m⟩=(k:Nat)+1:=by simp [stPc,h.1,h.2.1,h.2.2,h13]
 rw [d0,b0];show (⟨stPc ⟨op,a,b,e,f⟩ ⟨(stay d k:Nat),rs,m⟩,_,_⟩:Ms)=_
 rw [hs,c0];rfl
structure RmR (c:Cd) (s t:Ms):Prop where
 pc:t.pc=(stay (dedAt c) s.pc.toNat:Nat)
 mem:s.mem=t.mem
 regs:∀ r:Nat,r < 14→bit (liveOf c) s.pc r=true→gi s.regs (r:Int)=gi t.regs (r:Int)
 l1:s.regs.length=14
 l2:t.regs.length=14
theorem ded_op {x:Ins} {A:Nat→Bool} (h:ded x A=true):(x.op=1∨x.op=2∨x.op=6∨x.op=7)∧A x.a.toNat=false:=by
 unfold ded at h
 simp only [Bool.and_eq_true,Bool.or_eq_true,beq_iff_eq,Bool.not_eq_true'] at h;exact h
theorem rm_step {c:Cd} (hok:codeOk c=true) {s t:Ms} (hs:MsOk c s) (h:RmR c s t) (h13:¬(insAt c s.pc).op=13) :
  ∃ j,j≤1∧(∀ i,i < j→¬opAt (rem1 c) t i=13)∧RmR c (stp (insAt c s.pc) s) (stN (rem1 c) j t)∧evN (rem1 c) j t=rmT (dedAt c) (stEvs (insAt c s.pc) s):=by
 obtain ⟨k,d0⟩:∃ k:Nat,s.pc=k:=⟨s.pc.toNat,by have:=hs.pc0;omega⟩;have hk:k < c.list.length:=by have:=hs.pc1;omega
 have a0:=codeOk_all hok k hk;have m0:=fun r hr=>live_bit (c:=c) hk (r:=r) hr
 have hi:insAt c s.pc=c.list[k]:=by rw [d0,insAt_eq hk]
 have k0:=(stp_ok hok hs).regs;rw [hi] at h13 k0 ⊢;have e0:=h.pc;rw [d0,Int.toNat_natCast] at e0;have g0:=stPc_flw a0 h13 s k d0
 have b0:∀ r:Nat,r < 14→bit (liveOf c) (stPc c.list[k] s) r=true→¬wrt c.list[k]=(r:Int)→gi s.regs (r:Int)=gi t.regs (r:Int):=by
  intro r hr hb hw;refine h.regs r hr ?_;rw [d0,m0 r hr];unfold befF
  have:aftF (liveOf c) (flw c.list[k] k) r=true:=List.any_eq_true.2 ⟨_,g0,hb⟩
  rw [this];simp [hw]
 by_cases hd:dedAt c k=true
 ·have l0:=hd;rw [dedAt_at c k hk] at l0;obtain ⟨q0,hA⟩:=ded_op l0;have o0:stEvs c.list[k] s=[(5,(k:Int))]:=by rw [stEvs_acc,d0];unfold accE;rw [if_neg (by omega),if_neg (by omega),if_neg (by omega)]
  have p0:stPc c.list[k] s=(k:Int)+1:=by unfold stPc;rw [if_neg (by omega),if_neg (by omega),if_neg (by omega),if_neg (by omega),d0]
  have r0:wrt c.list[k]=c.list[k].a:=by unfold wrt;rcases q0 with e | e | e | e <;> simp [e]
  refine ⟨0,by omega,fun i hi=>by omega,⟨?_,?_,?_,k0,h.l2⟩,?_⟩
  ·show t.pc=(stay (dedAt c) (stPc c.list[k] s).toNat:Nat)
   rw [p0,e0,show ((k:Int)+1).toNat=k+1 by omega];simp only [stay];rw [if_pos hd];rfl
  ·show stMem c.list[k] s=t.mem
   rw [← h.mem];unfold stMem;rw [if_neg (by omega),if_neg (by omega)]
  ·intro r hr hb;have f0:bit (liveOf c) (stPc c.list[k] s) r=true:=hb
   have j0:¬wrt c.list[k]=(r:Int):=by
    intro e;have h1:aftF (liveOf c) (flw c.list[k] k) r=true:=List.any_eq_true.2 ⟨_,g0,f0⟩;rw [r0] at e;rw [e,Int.toNat_natCast,h1] at hA;cases hA
   show gi (stRegs c.list[k] s) (r:Int)=gi t.regs (r:Int)
   rcases stRegs_wrt a0 s with ⟨_,w2⟩ | ⟨w1,w2⟩
   ·rw [w2];exact b0 r hr f0 j0
   rw [w2,gi_setN,if_neg (fun h2=>j0 (by omega))];exact b0 r hr f0 j0
  rw [o0];show ([]:List Ev)=rmT (dedAt c) [(5,(k:Int))]
  simp [rmT,rmE,hd]
 have hd:dedAt c k=false:=by simpa using hd
 have i0:=rem1_at hk hd
 have hu:∀ u ∈ use c.list[k],gi s.regs u=gi (⟨(k:Int),t.regs,t.mem⟩:Ms).regs u:=by
  intro u hu;obtain ⟨h0,h1⟩:=use_in a0 u hu;obtain ⟨r,rfl⟩:∃ r:Nat,u=r:=⟨u.toNat,by omega⟩;refine h.regs r (by omega) ?_;rw [d0,m0 r (by omega)];unfold befF
  rw [List.any_eq_true.2 ⟨(r:Int),hu,by simp⟩];rfl
 obtain ⟨e1,e2,e3,e4⟩:=same_eff a0 (s:=s) (t:=⟨(k:Int),t.regs,t.mem⟩) d0 h.mem hu;have n0:=dx_stp hok hk (dedAt c) hd ⟨(k:Int),t.regs,t.mem⟩ rfl h13;simp only at n0
 have ht:t=⟨(stay (dedAt c) k:Nat),t.regs,t.mem⟩:=by rw [← e0]
 have c0:stN (rem1 c) 1 t=⟨(stay (dedAt c) (stPc c.list[k] s).toNat:Nat),stRegs c.list[k] ⟨(k:Int),t.regs,t.mem⟩,stMem c.list[k] s⟩:=by
  rw [stN_one,e0,i0,e1,e2,← n0,← ht]
 refine ⟨1,Lr,fun i hi=>?_,⟨?_,?_,?_,k0,?_⟩,?_⟩
 ·rw [show i=0 by omega];show ¬(insAt (rem1 c) t.pc).op=13
  rw [e0,i0,dx_op];exact h13
 ·rw [c0];rfl
 ·rw [c0];rfl
 ·rw [c0];intro r hr hb;have f0:bit (liveOf c) (stPc c.list[k] s) r=true:=hb;show gi (stRegs c.list[k] s) (r:Int)=gi (stRegs c.list[k] ⟨(k:Int),t.regs,t.mem⟩) (r:Int)
  rcases stRegs_wrt a0 s with ⟨w1,w2⟩ | ⟨w1,w2⟩
  ·rcases stRegs_wrt a0 ⟨(k:Int),t.regs,t.mem⟩ with ⟨_,v2⟩ | ⟨v1,_⟩
   ·rw [w2,v2];exact b0 r hr f0 (by omega)
   omega
  rcases stRegs_wrt a0 ⟨(k:Int),t.regs,t.mem⟩ with ⟨v1,_⟩ | ⟨_,v2⟩
  ·omega
  rw [w2,v2,gi_setN,gi_setN,h.l1,h.l2,e4];by_cases e:(wrt c.list[k]).toNat=r
  ·rw [if_pos ⟨e,by omega⟩,if_pos ⟨e,by omega⟩]
  rw [if_neg (fun h2=>e h2.1),if_neg (fun h2=>e h2.1)];exact b0 r hr f0 (by omega)
 ·rw [c0];show (stRegs c.list[k] ⟨(k:Int),t.regs,t.mem⟩).length=14
  rcases stRegs_wrt a0 ⟨(k:Int),t.regs,t.mem⟩ with ⟨_,v2⟩ | ⟨_,v2⟩
  ·rw [v2];exact h.l2
  rw [v2,List.length_set];exact h.l2
 rw [evN_one,e0,i0,stEvs_acc,e0,e3,stEvs_acc,rmT_cons,rmT_acc];have:rmE (dedAt c) (5,(k:Int))=[(5,((stay (dedAt c) k:Nat):Int))]:=by simp [rmE,hd]
 show _=rmE (dedAt c) (5,(k:Int))++_
 rw [this,ht,dx_acc (s:=⟨(k:Int),t.regs,t.mem⟩)];rfl
theorem rm_sim {c:Cd} (hok:codeOk c=true) {s t:Ms} (hR:RmR c s t) (ho:MsOk c s):∀ n,(∀ i,i < n→¬opAt c s i=13)→∃ N,N≤n∧(∀ i,i < N→¬opAt (rem1 c) t i=13)∧RmR c (stN c n s) (stN (rem1 c) N t)∧evN (rem1 c) N t=rmT (dedAt c) (evN c n s):=by
 intro n
 induction n with
 | zero=>intro _;exact ⟨0,by omega,fun i h=>by omega,hR,rfl⟩
 | succ n ih =>
  intro hn;obtain ⟨N,h1,h2,h3,h4⟩:=ih (fun i h=>hn i (by omega));obtain ⟨j,g1,g2,g3,g4⟩:=rm_step hok (stN_ok hok ho n) h3 (hn n (by omega));refine ⟨N+j,by omega,fun i hi=>?_,?_,?_⟩
  ·by_cases e:i < N
   ·exact h2 i e
   rw [show i=N+(i-N) by omega,opAt_add];exact g2 _ (by omega)
  ·rw [stN_add (rem1 c) t N j];exact g3
  rw [evN_add,h4,g4];simp only [evN];rw [rmT_app]
theorem rem1_mem (c:Cd):(rem1 c).vars=c.vars∧(rem1 c).arrays=c.arrays:=⟨rfl,rfl⟩
theorem rem1_fin {c:Cd} (hok:codeOk c=true) {m:Mm} {n:Nat} (h:finN c m=some n):∃ N,finN (rem1 c) m=some N∧(stN (rem1 c) (N+1) (ini m)).mem=(stN c (n+1) (ini m)).mem∧evN (rem1 c) (N+1) (ini m)=rmT (dedAt c) (evN c (n+1) (ini m)):=by
 obtain ⟨hg,k1,k2,k3⟩:=finN_iff.1 h;have b0:MsOk c (ini m):=ini_ok hg;obtain ⟨N,g1,g2,g3,g4⟩:=rm_sim hok (s:=ini m) (t:=ini m) ⟨by simp [ini,stay],rfl,fun _ _ _=>rfl,b0.regs,b0.regs⟩ b0 n k2;have ho:=stN_ok hok b0 n;have i0:stN c (n+1) (ini m)=stp (insAt c (stN c n (ini m)).pc) (stN c n (ini m)):=rfl;have h0:evN c (n+1) (ini m)=evN c n (ini m)++stEvs (insAt c (stN c n (ini m)).pc) (stN c n (ini m)):=rfl;have d0:stN (rem1 c) (N+1) (ini m)=stp (insAt (rem1 c) (stN (rem1 c) N (ini m)).pc) (stN (rem1 c) N (ini m)):=rfl;have c0:evN (rem1 c) (N+1) (ini m)=evN (rem1 c) N (ini m)++stEvs (insAt (rem1 c) (stN (rem1 c) N (ini m)).pc) (stN (rem1 c) N (ini m)):=rfl;have k0:goOk (rem1 c) m=true:=by unfold goOk;rw [rem1_ok hok,(rem1_mem c).1,(rem1_mem c).2,goOk_mem hg];rfl
 unfold opAt at k3
 have a0:∀ N,N < 20000→(∀ i,i < N→¬opAt (rem1 c) (ini m) i=13)→(insAt (rem1 c) (stN (rem1 c) N (ini m)).pc).op=13→finN (rem1 c) m=some N:=fun N a b d=>finN_iff.2 ⟨k0,a,b,d⟩
 have a0:=a0 N (by omega) g2;generalize stN c n (ini m)=s at *
 generalize stN (rem1 c) N (ini m)=t at *
 obtain ⟨k,f0⟩:∃ k:Nat,s.pc=k:=⟨s.pc.toNat,by have:=ho.pc0;omega⟩;have hk:k < c.list.length:=by have:=ho.pc1;omega
 have hi:insAt c s.pc=c.list[k]:=by rw [f0,insAt_eq hk]
 rw [hi] at k3 i0 h0
 have hd:dedAt c k=false:=by
  rw [dedAt_at c k hk];unfold ded;rw [k3];rfl
 have g0:=g3.pc;rw [f0,Int.toNat_natCast] at g0;have j0:=rem1_at hk hd;have e0:(insAt (rem1 c) t.pc).op=13:=by rw [g0,j0,dx_op];exact k3
 refine ⟨N,a0 e0,?_,?_⟩
 ·rw [i0,d0,stp_halt k3,stp_halt e0];exact g3.mem.symm
 rw [h0,c0,rmT_app,g4,stEvs_acc,stEvs_acc,accE_halt k3,accE_halt e0,f0,g0];simp [rmT,rmE,hd]
theorem remN_fin (q:Nat):∀ {c:Cd},codeOk c=true→∃ F:List Ev→List Ev,(∀ L,prj (F L)=prj L∧(F L).length≤L.length)∧∀ m n,finN c m=some n→∃ N,finN (remN q c) m=some N∧(stN (remN q c) (N+1) (ini m)).mem=(stN c (n+1) (ini m)).mem∧evN (remN q c) (N+1) (ini m)=F (evN c (n+1) (ini m)):=by
 induction q with
 | zero=>intro c _;exact ⟨id,fun L=>⟨rfl,Lr⟩,fun m n h=>⟨n,h,rfl,rfl⟩⟩
 | succ q ih =>
  intro c a0;rw [remN];split
  ·obtain ⟨F,f1,f2⟩:=ih (rem1_ok a0);refine ⟨fun L=>F (rmT (dedAt c) L),fun L=>⟨by rw [(f1 _).1,rmT_prj],Nat.le_trans (f1 _).2 (rmT_len _ _)⟩,fun m n h=>?_⟩;obtain ⟨N,a1,a2,a3⟩:=rem1_fin a0 h;obtain ⟨M,b1,b2,b3⟩:=f2 m N a1;exact ⟨M,b1,by rw [b2,a2],by rw [b3,a3]⟩
  exact ⟨id,fun L=>⟨rfl,Lr⟩,fun m n h=>⟨n,h,rfl,rfl⟩⟩
theorem remN_done (q:Nat):∀ {c:Cd},c.list.length≤q→anyDed (remN q c)=false:=by
 induction q with
 | zero =>
  intro c h
  cases e:anyDed c with
  | false=>exact e
  | true=>have:=rem1_len e;omega
 | succ q ih =>
  intro c h;rw [remN];split
  ·rename_i e
   have:=rem1_len e
   exact ih (by omega)
  rename_i e;simpa using e
theorem rem_again {c:Cd}:remOf (remOf c)=remOf c:=remOf_no (remN_done _ Lr)
theorem remR_of {c D:Cd} (h:remR c=(D,true)):codeOk c=true∧D=remOf c:=by
 cases hc:codeOk c with
 | true=>rw [remR_yes hc] at h;exact ⟨rfl,(congrArg Prod.fst h).symm⟩
 | false=>rw [remR_no hc] at h;cases congrArg Prod.snd h
theorem law_remove {c D:Cd} (h:remR c=(D,true)) (m:Mm):codeOk D=true∧remR D=(D,true)∧(runB c m=true→runB D m=true∧runM c m=runM D m∧prj (runE c m)=prj (runE D m)∧(runE D m).length≤(runE c m).length):=by
 obtain ⟨a0,rfl⟩:=remR_of h;have ho:=remOf_ok a0;refine ⟨ho,by rw [remR_yes ho,rem_again],fun hp=>?_⟩
 cases hn:finN c m with
 | none=>rw [(run_no hn).2.2] at hp;cases hp
 | some n =>
  obtain ⟨F,f1,f2⟩:=remN_fin c.list.length a0;obtain ⟨N,a1,a2,a3⟩:=f2 m n hn;have y:=run_yes (c:=remOf c) a1;have z:=run_yes hn;rw [y.1,y.2.1,y.2.2,z.1,z.2.1];exact ⟨rfl,a2.symm,by rw [show evN (remOf c) (N+1) (ini m)=_ from a3,(f1 _).1],by rw [show evN (remOf c) (N+1) (ini m)=_ from a3];exact (f1 _).2⟩
theorem OwnY.putK {w:World} {base n k g l c:Nat} {v:Value} {us:List Value} (h:OwnY w base v us n) (hu:us[k]? = some (.slice (some ⟨g,0,none⟩) l c)) (j:Nat) (x:Int):OwnY (w.setCell ⟨g,j,none⟩ (.int .i64 x)) base v us n:=by
 obtain ⟨L,h1,h2,h3⟩:=h.h;have hk:k < us.length:=(List.getElem?_eq_some_iff.1 hu).1;have a0:k < L.length:=by rw [← h3.len];exact hk
 have ho:=h3.row k _ _ hu (List.getElem?_eq_getElem a0);have e:l=L[k].length:=by obtain ⟨a',c',hs⟩:=Oh ho;simp only [Value.slice.injEq] at hs;exact hs.2.1
 subst e;have hs:=(ho.stored j (.int .i64 x)).1;rw [ints_set] at hs;have hl:(L[k].set j x).length=L[k].length:=List.length_set;refine ⟨L.set k (L[k].set j x),by rw [List.length_set];exact h1,fun r hr=>?_,h3.turn (w':=w.setCell ⟨g,j,none⟩ (.int .i64 x)) hu (own_cast hs hl.symm) ((Chg.refl _ w).setCell g j _ (fun _=>rfl)) (by decide)⟩;rcases List.mem_or_eq_of_mem_set hr with h4 | rfl
 ·exact h2 r h4
 rw [hl];exact h2 _ (List.getElem_mem a0)
theorem OwnY.rowK {w:World} {base n g c:Nat} {us:List Value} (h:OwnY w base (.slice (some ⟨g,0,none⟩) n c) us n) (k:Nat) (hk:k < n):∃ gk l t,us[k]? = some (.slice (some ⟨gk,0,none⟩) l t)∧3≤l∧l≤4∧w.cell? ⟨g,k,none⟩=some (.slice (some ⟨gk,0,none⟩) l t)∧(base≤gk∧gk < w.heap.size∧¬gk=g)∧∀ j,j < l→(∃ x:Int,w.cell? ⟨gk,j,none⟩=some (.int .i64 x))∧w.frozen? ⟨gk,j,none⟩=false:=by
 obtain ⟨L,rfl,h2,h3⟩:=h.h;obtain ⟨u,hu,ho⟩:=h3.rowAt k hk;have hl:=h2 L[k] (List.getElem_mem hk)
 obtain ⟨gk,t,rfl⟩:∃ gk t,u=.slice (some ⟨gk,0,none⟩) L[k].length t:=by
  obtain ⟨b,c2,hb⟩:=own_pos ho (by omega);exact ⟨b,c2,hb⟩
 refine ⟨gk,_,t,hu,hl.1,hl.2,by rw [h3.outAt.cellAt k (by omega)];exact hu,?_,fun j hj=>⟨⟨L[k][j],by rw [ho.cellAt j (by omega),ints_at _ _ hj]⟩,ho.frozenAt j⟩⟩;have:=ho.lt gk rfl
 exact ⟨this.1,this.2,fun e=>h3.outer (by decide) k _ hu g rfl (by rw [← e];rfl)⟩
end Go.Proofs.YtnpidfbcbmeijaaGreat
