/-
 Parts of the proofs of the laws FnCompactRegs,FnFenceCode,FnRunTimeSteps.
-/
import Derived.Test.YtkjedgnepnbkpaaGreatWC
import Derived.Test.YtkjedgnepnbkpaaGreatFG
set_option linter.all false
namespace Go.Proofs.YtkjedgnepnbkpaaGreat
open Go.RowKit
theorem get_set_true (l:List Bool) (i j:Nat) (hj:j < l.length):(l.set i true)[j]? = some true ↔ (j=i∨l[j]? = some true):=by
 rw [List.getElem?_set]
 by_cases h:i=j
 ·subst h;rw [if_pos rfl,if_pos hj];simp
 rw [if_neg h]
 constructor
 ·exact Or.inr
 rintro (h1 | h1)
 ·exact absurd h1.symm h
 exact h1
theorem marksUpto_get (l:List Ins) (j:Nat) (hj:j < l.length):∀ k,k≤l.length→((marksUpto l k)[j]? = some true ↔ ∃ i,∃ h:i < l.length,i < k∧isBr l[i].op=true∧(j=i+1∨j=l[i].b.toNat)):=by
 intro k
 induction k with
 | zero =>
  intro _
  constructor
  ·intro h;simp [marksUpto,hj] at h
  rintro ⟨i,h,h1,_⟩;omega
 | succ k ih =>
  intro hk
  have ih:=ih (by omega)
  rw [marksUpto_succ l k (by omega)]
  unfold markStep
  by_cases hb:isBr l[k].op=true
  ·rw [if_pos hb,get_set_true _ _ _ (by rw [List.length_set,marksUpto_len];exact hj),get_set_true _ _ _ (by rw [marksUpto_len];exact hj),ih]
   constructor
   ·rintro (h | h | ⟨i,h,h1,h2⟩)
    ·exact ⟨k,by omega,by omega,hb,Or.inl h⟩
    ·exact ⟨k,by omega,by omega,hb,Or.inr h⟩
    exact ⟨i,h,by omega,h2⟩
   rintro ⟨i,h,h1,h2,h3⟩
   by_cases e:i=k
   ·subst e
    rcases h3 with h3 | h3
    ·exact Or.inl h3
    exact Or.inr (Or.inl h3)
   exact Or.inr (Or.inr ⟨i,h,by omega,h2,h3⟩)
  rw [if_neg hb,ih]
  constructor
  ·rintro ⟨i,h,h1,h2⟩;exact ⟨i,h,by omega,h2⟩
  rintro ⟨i,h,h1,h2,h3⟩
  by_cases e:i=k
  ·subst e;exact absurd h2 hb
  exact ⟨i,h,by omega,h2,h3⟩
theorem marksOf_len (l:List Ins):(marksOf l).length=l.length:=marksUpto_len l l.length
theorem marksOf_get (l:List Ins) (j:Nat) (hj:j < l.length):(marksOf l)[j]? = some true ↔ ∃ i,∃ h:i < l.length,isBr l[i].op=true∧(j=i+1∨j=l[i].b.toNat):=by
 unfold marksOf
 rw [marksUpto_get l j hj l.length (Nat.le_refl _)]
 constructor
 ·rintro ⟨i,h,_,h2⟩;exact ⟨i,h,h2⟩
 rintro ⟨i,h,h2⟩;exact ⟨i,h,h,h2⟩
theorem needAt_iff (l:List Ins) (k:Nat) (hk:k < l.length):needAt l k=true ↔ ((marksOf l)[k]? = some true∧¬l[k].op=12):=by
 have h1:k < (marksOf l).length:=by rw [marksOf_len];exact hk
 rw [needAt_eq h1 hk,List.getElem?_eq_getElem h1]
 simp
theorem needAt_out (l:List Ins) (k:Nat) (hk:l.length≤k):needAt l k=false:=by
 unfold needAt
 rw [List.getElem?_eq_none (by rw [marksOf_len];exact hk)]
theorem fencedAll_iff (l:List Ins):fencedAll l=true ↔ ∀ k,k < l.length→needAt l k=false:=by
 constructor
 ·intro h k hk
  cases hn:needAt l k with
  | false=>rfl
  | true =>
   have h1:k < (marksOf l).length:=by rw [marksOf_len];exact hk
   rw [needAt_eq h1 hk] at hn
   rw [fencedAll_no h1 hk hn] at h
   cases h
 intro h
 exact fencedAll_yes (fun k h1 h2=>by rw [← needAt_eq h1 h2];exact h k h2)
theorem cnt_same (l:List Ins) (h:∀ k,k < l.length→needAt l k=false) (k:Nat):cnt l k=k:=by
 induction k with
 | zero=>rfl
 | succ k ih =>
  have h0:needAt l k=false:=by
   by_cases hk:k < l.length
   ·exact h k hk
   exact needAt_out l k (by omega)
  simp only [cnt,ih,h0];simp
theorem aim_tgt (x:Ins) (h:0≤tgt x):aim x (tgt x)=x:=by
 rcases tgt_cases x with ⟨_,h1,h2⟩ | ⟨_,h1,h2⟩ | ⟨_,h1,h2⟩ | ⟨_,h1,h2⟩
 ·rw [h2,h1]
 ·rw [h2,h1]
 ·rw [h2,h1]
 rw [h2]
theorem fx_same (l:List Ins) (h:∀ k,cnt l k=k) (x:Ins):fx l x=x:=by
 unfold fx
 by_cases h0:0≤tgt x
 ·rw [if_pos h0,h,show ((tgt x).toNat:Int)=tgt x by omega,aim_tgt x h0]
 rw [if_neg h0]
theorem fenceTo_same (l:List Ins) (h:fencedAll l=true):fenceTo l l.length=l:=by
 have hn:=(fencedAll_iff l).1 h
 have hc:=cnt_same l hn
 have a0:∀ k,k≤l.length→fenceTo l k=l.take k:=by
  intro k
  induction k with
  | zero=>intro _;simp [fenceTo]
  | succ k ih =>
   intro hk
   rw [fenceTo_succ l k (by omega),ih (by omega),hn k (by omega),fx_same l hc,List.take_add_one,List.getElem?_eq_getElem (show k < l.length by omega)]
   simp
 rw [a0 l.length (Nat.le_refl _),List.take_length]
theorem cnt_mono (l:List Ins) {a b:Nat} (h:a≤b):cnt l a≤cnt l b:=by
 induction b with
 | zero=>rw [show a=0 by omega];exact Nat.le_refl _
 | succ b ih =>
  by_cases e:a=b+1
  ·subst e;exact Nat.le_refl _
  have:=ih (by omega)
  simp only [cnt];split <;> omega
theorem cnt_succ_pos (l:List Ins) (k:Nat):cnt l (k+1)=pos l k+1:=by
 unfold pos;simp only [cnt];split <;> omega
theorem cnt_le_pos (l:List Ins) (k:Nat):cnt l k≤pos l k:=by unfold pos;omega
theorem pos_lt (l:List Ins) {k n:Nat} (h:k < n):pos l k < cnt l n:=by
 have:=cnt_mono l (show k+1≤n by omega)
 rw [cnt_succ_pos] at this
 omega
theorem fenceTo_pos (l:List Ins) (k:Nat) (hk:k < l.length):∀ n,k < n→n≤l.length→(fenceTo l n)[pos l k]? = some (fx l l[k])∧(needAt l k=true→(fenceTo l n)[cnt l k]? = some fence):=by
 intro n
 induction n with
 | zero=>intro h;omega
 | succ n ih =>
  intro h1 h2
  have a0:=fenceTo_len l n (by omega)
  rw [fenceTo_succ l n (by omega)]
  by_cases e:k=n
  ·subst e
   constructor
   ·rw [List.getElem?_append_right (by rw [a0];exact cnt_le_pos l k),a0]
    unfold pos
    split
    ·rw [show cnt l k+1-cnt l k=1 by omega];rfl
    rw [show cnt l k+0-cnt l k=0 by omega];rfl
   intro hn
   rw [List.getElem?_append_right (by omega),a0,if_pos hn,show cnt l k-cnt l k=0 by omega];rfl
  have hp:=pos_lt l (show k < n by omega)
  have hc:=cnt_le_pos l k
  rw [List.getElem?_append_left (by omega),List.getElem?_append_left (by omega)]
  exact ih (by omega) (by omega)
theorem fenceTo_inv (l:List Ins) (j:Nat):∀ n,n≤l.length→j < cnt l n→∃ k,k < n∧(j=pos l k∨(needAt l k=true∧j=cnt l k)):=by
 intro n
 induction n with
 | zero=>intro _ h;simp [cnt] at h
 | succ n ih =>
  intro h1 h2
  by_cases e:j < cnt l n
  ·obtain ⟨k,hk,h⟩:=ih (by omega) e
   exact ⟨k,by omega,h⟩
  rw [cnt_succ_pos] at h2
  unfold pos at h2
  by_cases hn:needAt l n=true
  ·rw [if_pos hn] at h2
   by_cases e2:j=cnt l n
   ·exact ⟨n,by omega,Or.inr ⟨hn,e2⟩⟩
   exact ⟨n,by omega,Or.inl (by unfold pos;rw [if_pos hn];omega)⟩
  rw [if_neg hn] at h2
  exact ⟨n,by omega,Or.inl (by unfold pos;rw [if_neg hn];omega)⟩
def fenceC (c:Cd):Cd:=⟨c.vars,c.arrays,fenceTo c.list c.list.length⟩
theorem insAt_eq {c:Cd} {k:Nat} (h:k < c.list.length):insAt c (k:Int)=c.list[k]:=by
 unfold insAt;rw [Int.toNat_natCast,List.getElem?_eq_getElem h];rfl
theorem fx_op (l:List Ins) (x:Ins):(fx l x).op=x.op:=by
 unfold fx
 split
 ·unfold aim
  split
  ·rfl
  split <;> rfl
 rfl
theorem fx_acc (l:List Ins) (x:Ins) (p:Int) (s:Ms):accE (fx l x) ⟨p,s.regs,s.mem⟩=accE x s:=by
 rcases tgt_cases x with ⟨h,h1,h2⟩ | ⟨h,h1,h2⟩ | ⟨h,h1,h2⟩ | ⟨h,h1,h2⟩
 ·unfold accE;rw [fx_op];simp [h]
 ·unfold accE;rw [fx_op];simp [h]
 ·unfold accE;rw [fx_op];simp [h]
 have:fx l x=x:=by unfold fx;rw [if_neg (by omega)]
 rw [this];rfl
theorem tgt_ge {nv na nl:Nat} {x:Ins} (h:insOk nv na nl x=true) (hop:x.op=8∨x.op=9∨x.op=10):0≤tgt x∧tgt x < nl:=by
 obtain ⟨op,a,b,c,d⟩:=x
 obtain ⟨P1,P2,P3,P4,P5,P6,P7,P8,P9,a0,b0⟩:=ins_parts h
 simp only at hop
 rcases hop with rfl | rfl | rfl
 ·exact P8 rfl
 ·exact (P9 rfl).2
 exact (a0 rfl).2
theorem fx_stp {c:Cd} (hok:codeOk c=true) {k:Nat} (hk:k < c.list.length) (s:Ms) (hpc:s.pc=k) (h13:¬c.list[k].op=13) :
  stp (fx c.list c.list[k]) ⟨(pos c.list k:Nat),s.regs,s.mem⟩=⟨(cnt c.list (stPc c.list[k] s).toNat:Nat),stRegs c.list[k] s,stMem c.list[k] s⟩:=by
 have a0:=codeOk_all hok k hk
 have c0:((pos c.list k:Nat):Int)+1=(cnt c.list (k+1):Nat):=by rw [cnt_succ_pos];omega
 have b0:((k:Int)+1).toNat=k+1:=by omega
 obtain ⟨pc,rs,m⟩:=s
 simp only at hpc
 subst hpc
 generalize c.list[k]=x at *
 obtain ⟨op,a,b,d,f⟩:=x
 rcases tgt_cases ⟨op,a,b,d,f⟩ with ⟨h,h1,h2⟩ | ⟨h,h1,h2⟩ | ⟨h,h1,h2⟩ | ⟨h,h1,h2⟩
 ·simp only at h;subst h
  have hg:=tgt_ge a0 (Or.inl rfl)
  unfold fx
  rw [if_pos hg.1,h2,h1]
  simp [stp,stPc,stRegs,stMem]
 ·simp only at h;subst h
  have hg:=tgt_ge a0 (Or.inr (Or.inl rfl))
  unfold fx
  rw [if_pos hg.1,h2,h1]
  simp only [stp,stPc,stRegs,stMem]
  by_cases e:gi rs a=0
  ·simp [e]
  simp [e,c0,b0]
 ·simp only at h;subst h
  have hg:=tgt_ge a0 (Or.inr (Or.inr rfl))
  unfold fx
  rw [if_pos hg.1,h2,h1]
  simp only [stp,stPc,stRegs,stMem]
  by_cases e:(gi rs a+255) % 256=0
  ·simp [e,c0,b0]
  simp [e]
 simp only at h h13
 have e:fx c.list ⟨op,a,b,d,f⟩=⟨op,a,b,d,f⟩:=by unfold fx;rw [if_neg (by omega)]
 rw [e]
 have hs:stPc ⟨op,a,b,d,f⟩ ⟨(pos c.list k:Nat),rs,m⟩=(pos c.list k:Nat)+1:=by simp [stPc,h.1,h.2.1,h.2.2,h13]
 have d0:stPc ⟨op,a,b,d,f⟩ ⟨(k:Nat),rs,m⟩=(k:Nat)+1:=by simp [stPc,h.1,h.2.1,h.2.2,h13]
 rw [d0,b0]
 show (⟨stPc ⟨op,a,b,d,f⟩ ⟨(pos c.list k:Nat),rs,m⟩,_,_⟩:Ms)=_
 rw [hs,c0]
 rfl
def FRel (c:Cd) (s t:Ms):Prop:=t=⟨(cnt c.list s.pc.toNat:Nat),s.regs,s.mem⟩
theorem fence_ins {c:Cd} {k:Nat} (hk:k < c.list.length):insAt (fenceC c) ((pos c.list k:Nat):Int)=fx c.list c.list[k]∧(needAt c.list k=true→insAt (fenceC c) ((cnt c.list k:Nat):Int)=fence):=by
 have h:=fenceTo_pos c.list k hk c.list.length hk (Nat.le_refl _)
 constructor
 ·unfold insAt fenceC;simp only;rw [Int.toNat_natCast,h.1];rfl
 intro hn;unfold insAt fenceC;simp only;rw [Int.toNat_natCast,h.2 hn];rfl
theorem stp_fence (p:Int) (rs:List Int) (m:Mm):stp fence ⟨p,rs,m⟩=⟨p+1,rs,m⟩:=by simp [stp,stPc,stRegs,stMem,fence]
theorem fence_at {c:Cd} {k:Nat} (hk:k < c.list.length) (s:Ms):∃ j,j≤1∧(∀ i,i < j→¬opAt (fenceC c) ⟨(cnt c.list k:Nat),s.regs,s.mem⟩ i=13)∧stN (fenceC c) j ⟨(cnt c.list k:Nat),s.regs,s.mem⟩=⟨(pos c.list k:Nat),s.regs,s.mem⟩∧prj (evN (fenceC c) j ⟨(cnt c.list k:Nat),s.regs,s.mem⟩)=[]:=by
 by_cases hn:needAt c.list k=true
 ·have hi:=(fence_ins hk).2 hn
  refine ⟨1,Nat.le_refl _,fun i h=>?_,?_,?_⟩
  ·rw [show i=0 by omega]
   show ¬(insAt (fenceC c) ((cnt c.list k:Nat):Int)).op=13
   rw [hi];decide
  ·rw [stN_one];simp only;rw [hi,stp_fence];unfold pos;rw [if_pos hn];simp
  rw [evN_one];simp only;rw [hi,prj_stEvs];rfl
 refine ⟨0,by omega,fun i h=>by omega,?_,rfl⟩
 unfold pos;rw [if_neg hn];rfl
theorem fence_step (c:Cd) (hok:codeOk c=true) (s t:Ms) (hR:FRel c s t) (ho:MsOk c s) (h13:¬(insAt c s.pc).op=13) :
  ∃ j,j≤2∧(∀ i,i < j→¬opAt (fenceC c) t i=13)∧FRel c (stp (insAt c s.pc) s) (stN (fenceC c) j t)∧prj (evN (fenceC c) j t)=prj (stEvs (insAt c s.pc) s):=by
 obtain ⟨k,b0⟩:∃ k:Nat,s.pc=k:=⟨s.pc.toNat,by have:=ho.pc0;omega⟩
 have hk:k < c.list.length:=by have:=ho.pc1;omega
 have hi:insAt c s.pc=c.list[k]:=by rw [b0,insAt_eq hk]
 rw [hi] at h13 ⊢
 unfold FRel at hR
 rw [b0,Int.toNat_natCast] at hR
 subst hR
 obtain ⟨j,h1,h2,h3,h4⟩:=fence_at hk s
 have c0:=fx_stp hok hk s b0 h13
 have a0:=(fence_ins hk).1
 refine ⟨j+1,by omega,fun i hij=>?_,?_,?_⟩
 ·by_cases e:i < j
  ·exact h2 i e
  rw [show i=j+0 by omega,opAt_add,h3]
  show ¬(insAt (fenceC c) ((pos c.list k:Nat):Int)).op=13
  rw [a0,fx_op];exact h13
 ·rw [stN_add,h3,stN_one]
  simp only
  rw [a0,c0]
  rfl
 rw [evN_add,prj_app,h4,h3,evN_one,List.nil_append]
 simp only
 rw [a0,prj_stEvs,prj_stEvs,fx_acc]
theorem insOk_wider {nv na nl nl':Nat} {x:Ins} (h:insOk nv na nl x=true) (h8:¬x.op=8∧¬x.op=9∧¬x.op=10):insOk nv na nl' x=true:=by
 have ho:=insOk_op h
 obtain ⟨op,a,b,d,f⟩:=x
 simp only at ho h8
 have hc:op=1∨op=2∨op=3∨op=4∨op=5∨op=6∨op=7∨op=11∨op=12∨op=13:=by omega
 rcases hc with rfl | rfl | rfl | rfl | rfl | rfl | rfl | rfl | rfl | rfl
 all_goals
  unfold insOk at h ⊢
  simpa [shp,flds,fOk] using h
theorem fence_ok {c:Cd} (h:codeOk c=true∧cnt c.list c.list.length≤400):codeOk (fenceC c)=true:=by
 have hl:=codeOk_len h.1
 have d0:=fenceTo_len c.list c.list.length (Nat.le_refl _)
 have l0:c.list.length≤cnt c.list c.list.length:=by
  have k0:∀ m,m≤cnt c.list m:=fun m=>by
   induction m with
   | zero=>exact Nat.zero_le _
   | succ m ih=>simp only [cnt];split <;> omega
  exact k0 _
 unfold codeOk
 simp only [Bool.and_eq_true]
 refine ⟨show declOk c.vars c.arrays=true from codeOk_decl h.1,decide_eq_true (by unfold fenceC;simp only;omega),List.all_eq_true.2 (fun x hx=>?_),?_⟩
 ·obtain ⟨j,hj,rfl⟩:=List.getElem_of_mem hx
  have h0:j < cnt c.list c.list.length:=by unfold fenceC at hj;simp only at hj;omega
  obtain ⟨k,hk,b0⟩:=fenceTo_inv c.list j c.list.length (Nat.le_refl _) h0
  have hp:=fenceTo_pos c.list k hk c.list.length hk (Nat.le_refl _)
  have c0:(fenceC c).list=fenceTo c.list c.list.length:=rfl
  have i0:(fenceC c).list.length=cnt c.list c.list.length:=by rw [c0,d0]
  have g0:(fenceC c).vars=c.vars∧(fenceC c).arrays=c.arrays:=⟨rfl,rfl⟩
  rw [i0,g0.1,g0.2]
  rcases b0 with rfl | ⟨hn,rfl⟩
  ·have e:(fenceC c).list[pos c.list k]=fx c.list c.list[k]:=by
    have:=hp.1;rw [← c0,List.getElem?_eq_getElem hj] at this;exact Option.some.inj this
   rw [e]
   have a0:=codeOk_all h.1 k hk
   generalize c.list[k]=x at *
   rcases tgt_cases x with ⟨h8,h1,h2⟩ | ⟨h8,h1,h2⟩ | ⟨h8,h1,h2⟩ | ⟨h8,h1,h2⟩
   ·have hg:=tgt_ge a0 (Or.inl h8)
    have e0:=cnt_mono c.list (show (tgt x).toNat+1≤c.list.length by omega)
    rw [cnt_succ_pos] at e0
    have f0:=cnt_le_pos c.list (tgt x).toNat
    unfold fx;rw [if_pos hg.1,h2]
    obtain ⟨op,a,b,d,f⟩:=x
    simp only at h8;subst h8
    simp [insOk,wi,shp,flds,fOk] at a0 ⊢
    omega
   ·have hg:=tgt_ge a0 (Or.inr (Or.inl h8))
    have e0:=cnt_mono c.list (show (tgt x).toNat+1≤c.list.length by omega)
    rw [cnt_succ_pos] at e0
    have f0:=cnt_le_pos c.list (tgt x).toNat
    unfold fx;rw [if_pos hg.1,h2]
    obtain ⟨op,a,b,d,f⟩:=x
    simp only at h8;subst h8
    simp [insOk,wi,shp,flds,fOk] at a0 ⊢
    omega
   ·have hg:=tgt_ge a0 (Or.inr (Or.inr h8))
    have e0:=cnt_mono c.list (show (tgt x).toNat+1≤c.list.length by omega)
    rw [cnt_succ_pos] at e0
    have f0:=cnt_le_pos c.list (tgt x).toNat
    unfold fx;rw [if_pos hg.1,h2]
    obtain ⟨op,a,b,d,f⟩:=x
    simp only at h8;subst h8
    simp [insOk,wi,shp,flds,fOk] at a0 ⊢
    omega
   have e2:fx c.list x=x:=by unfold fx;rw [if_neg (by omega)]
   rw [e2]
   exact insOk_wider a0 h8
  have e:(fenceC c).list[cnt c.list k]=fence:=by
   have:=hp.2 hn;rw [← c0,List.getElem?_eq_getElem hj] at this;exact Option.some.inj this
  rw [e];rfl
 obtain ⟨hk,j0⟩:=codeOk_last h.1
 have hp:=fenceTo_pos c.list _ hk c.list.length hk (Nat.le_refl _)
 have c0:(fenceC c).list=fenceTo c.list c.list.length:=rfl
 unfold lastOk
 rw [c0,List.getLast?_eq_getElem?,d0]
 have e:cnt c.list c.list.length-1=pos c.list (c.list.length-1):=by
  have:=cnt_succ_pos c.list (c.list.length-1)
  rw [show c.list.length-1+1=c.list.length by omega] at this
  omega
 rw [e,hp.1]
 simp only [fx_op]
 simpa using j0
theorem fence_fenced {c:Cd} (h:codeOk c=true):fencedAll (fenceC c).list=true:=by
 have d0:=fenceTo_len c.list c.list.length (Nat.le_refl _)
 have j0:(fenceC c).list=fenceTo c.list c.list.length:=rfl
 rw [j0]
 refine (fencedAll_iff _).2 (fun j hj=>?_)
 rw [← Bool.not_eq_true,needAt_iff _ _ hj]
 rintro ⟨hm,b0⟩
 obtain ⟨i,hi,hb,g0⟩:=(marksOf_get _ _ hj).1 hm
 rw [d0] at hi hj
 obtain ⟨k,hk,a0⟩:=fenceTo_inv c.list i c.list.length (Nat.le_refl _) hi
 have e0:(fenceTo c.list c.list.length)[i]? = some ((fenceTo c.list c.list.length)[i]'(by omega)):=List.getElem?_eq_getElem _
 have f0:(fenceTo c.list c.list.length)[j]? = some ((fenceTo c.list c.list.length)[j]'(by omega)):=List.getElem?_eq_getElem _
 rcases a0 with rfl | ⟨hn,rfl⟩
 ·have hp:=(fenceTo_pos c.list k hk c.list.length hk (Nat.le_refl _)).1
  rw [e0] at hp
  have he:=Option.some.inj hp
  rw [he] at hb g0
  rw [fx_op] at hb
  have c0:=codeOk_all h k hk
  have m0:c.list[k].op=9∨c.list[k].op=10:=by unfold isBr at hb;simpa using hb
  have n0:tgt c.list[k]=c.list[k].b:=by
   rcases tgt_cases c.list[k] with ⟨h8,_,_⟩ | ⟨_,h1,_⟩ | ⟨_,h1,_⟩ | ⟨h8,_,_⟩
   ·omega
   ·exact h1
   ·exact h1
   omega
  have hg:=tgt_ge c0 (Or.inr m0)
  have k0:(fx c.list c.list[k]).b=(cnt c.list (tgt c.list[k]).toNat:Nat):=by
   unfold fx;rw [if_pos hg.1]
   rcases tgt_cases c.list[k] with ⟨h8,_,_⟩ | ⟨_,_,h2⟩ | ⟨_,_,h2⟩ | ⟨h8,_,_⟩
   ·omega
   ·rw [h2]
   ·rw [h2]
   omega
  obtain ⟨k',hk',hj',l0⟩:∃ k',k' < c.list.length∧j=cnt c.list k'∧(marksOf c.list)[k']? = some true:=by
   rcases g0 with h1 | h1
   ·have h0:=br_next h hk hb
    exact ⟨k+1,h0,by rw [cnt_succ_pos];exact h1,(marksOf_get _ _ h0).2 ⟨k,hk,hb,Or.inl rfl⟩⟩
   rw [k0,Int.toNat_natCast] at h1
   refine ⟨(tgt c.list[k]).toNat,by omega,h1,(marksOf_get _ _ (by omega)).2 ⟨k,hk,hb,Or.inr (by rw [n0])⟩⟩
  subst hj'
  have i0:=fenceTo_pos c.list k' hk' c.list.length hk' (Nat.le_refl _)
  by_cases hn:needAt c.list k'=true
  ·have:=i0.2 hn
   rw [f0] at this
   rw [Option.some.inj this] at b0
   exact b0 rfl
  have h3:=i0.1
  unfold pos at h3
  rw [if_neg hn,Nat.add_zero,f0] at h3
  rw [Option.some.inj h3,fx_op] at b0
  exact hn ((needAt_iff _ _ hk').2 ⟨l0,b0⟩)
 have:=(fenceTo_pos c.list k hk c.list.length hk (Nat.le_refl _)).2 hn
 rw [e0] at this
 rw [Option.some.inj this] at hb
 exact absurd hb (by decide)
theorem fence_again {c:Cd} (h:codeOk c=true∧cnt c.list c.list.length≤400):codeFenced (fenceC c)=true∧fenceR (fenceC c)=(fenceC c,true):=by
 have h1:=fence_ok h
 have h2:=fence_fenced h.1
 have h3:=fenceTo_same _ h2
 have h4:=cnt_same _ ((fencedAll_iff _).1 h2)
 refine ⟨by unfold codeFenced;rw [h1,h2];rfl,?_⟩
 rw [fenceR_yes ⟨h1,by rw [h4];exact (codeOk_len h1).2⟩,h3]
theorem fence_run {c:Cd} (h:codeOk c=true) {m:Mm} {n:Nat} (hm:memOk c.vars.length c.arrays.length m=true) (h1:∀ j,j < n→¬opAt c (ini m) j=13) (h2:opAt c (ini m) n=13) :
  ∃ N,N≤2*n+1∧(∀ j,j < N→¬opAt (fenceC c) (ini m) j=13)∧opAt (fenceC c) (ini m) N=13∧(stN (fenceC c) (N+1) (ini m)).mem=(stN c (n+1) (ini m)).mem∧(stN (fenceC c) (N+1) (ini m)).regs=(stN c (n+1) (ini m)).regs∧prj (evN (fenceC c) (N+1) (ini m))=prj (evN c (n+1) (ini m)):=by
 have g0:MsOk c (ini m):=ini_ok (by unfold goOk;rw [h,hm];rfl)
 obtain ⟨N,g1,g2,g3,g4⟩:=sim_run c (fenceC c) (FRel c) 2 h (fence_step c h) (ini m) (ini m) (by unfold FRel ini;simp [cnt]) g0 n h1
 have ho:=stN_ok h g0 n
 have c0:stN c (n+1) (ini m)=stp (insAt c (stN c n (ini m)).pc) (stN c n (ini m)):=rfl
 have f0:evN c (n+1) (ini m)=evN c n (ini m)++stEvs (insAt c (stN c n (ini m)).pc) (stN c n (ini m)):=rfl
 unfold opAt at h2
 generalize stN c n (ini m)=s at *
 obtain ⟨k,h0⟩:∃ k:Nat,s.pc=k:=⟨s.pc.toNat,by have:=ho.pc0;omega⟩
 have hk:k < c.list.length:=by have:=ho.pc1;omega
 have hi:insAt c s.pc=c.list[k]:=by rw [h0,insAt_eq hk]
 rw [hi] at h2 c0 f0
 unfold FRel at g3
 rw [h0,Int.toNat_natCast] at g3
 obtain ⟨j,e1,e2,e3,e4⟩:=fence_at hk s
 have b0:=(fence_ins hk).1
 have d0:(insAt (fenceC c) ((pos c.list k:Nat):Int)).op=13:=by rw [b0,fx_op];exact h2
 have e0:stN (fenceC c) (N+j) (ini m)=⟨(pos c.list k:Nat),s.regs,s.mem⟩:=by rw [stN_add,g3,e3]
 have a0:stN (fenceC c) (N+j+1) (ini m)=⟨(pos c.list k:Nat),s.regs,s.mem⟩:=by
  rw [stN_add,e0,stN_one];exact stp_halt d0
 refine ⟨N+j,by omega,fun i hij=>?_,?_,?_,?_,?_⟩
 ·by_cases e:i < N
  ·exact g2 i e
  rw [show i=N+(i-N) by omega,opAt_add,g3];exact e2 _ (by omega)
 ·unfold opAt;rw [e0];exact d0
 ·rw [a0,c0,stp_halt h2]
 ·rw [a0,c0,stp_halt h2]
 rw [evN_add,e0,evN_one,evN_add,g3,prj_app,prj_app,g4,e4,prj_stEvs,f0,prj_app,prj_stEvs,accE_halt h2,List.append_nil]
 rw [accE_halt (by exact d0),List.append_nil]
theorem law_fence {c:Cd} (h:codeOk c=true∧cnt c.list c.list.length≤400) (m:Mm) :
  codeFenced (fenceC c)=true∧fenceR (fenceC c)=(fenceC c,true)∧(runB c m=true→runB (fenceC c) m=true→runM c m=runM (fenceC c) m∧prj (runE c m)=prj (runE (fenceC c) m)):=by
 refine ⟨(fence_again h).1,(fence_again h).2,fun hp hq=>?_⟩
 cases hn:finN c m with
 | none=>rw [(run_no hn).2.2] at hp;cases hp
 | some n =>
  cases hn2:finN (fenceC c) m with
  | none=>rw [(run_no hn2).2.2] at hq;cases hq
  | some n2 =>
   obtain ⟨hg,k1,k2,k3⟩:=finN_iff.1 hn
   obtain ⟨_,q1,q2,q3⟩:=finN_iff.1 hn2
   obtain ⟨N,_,r2,r3,r4,_,r6⟩:=fence_run h.1 (goOk_mem hg) k2 k3
   have e:=first_same q2 q3 r2 r3
   subst e
   rw [(run_yes hn).1,(run_yes hn).2.1,(run_yes hn2).1,(run_yes hn2).2.1]
   exact ⟨r4.symm,r6.symm⟩
end Go.Proofs.YtkjedgnepnbkpaaGreat
