/-
 Parts of the proofs of the laws FnRemoveDead,FnRemoveDeadLeak,FnSpecFenced,FnSpecMemory.
-/
import Derived.Test.YtnpidfbcbmeijaaGreatFEq1
set_option linter.all false
namespace Go.Proofs.YtnpidfbcbmeijaaGreat
open Go.RowKit
theorem get_set_true (l:List Bool) (i j:Nat) (hj:j < l.length):(l.set i true)[j]? = some true ↔ (j=i∨l[j]? = some true):=by
 rw [List.getElem?_set];by_cases h:i=j
 ·subst h;rw [if_pos rfl,if_pos hj];simp
 rw [if_neg h];constructor
 ·exact Or.inr
 rintro (h1 | h1)
 ·exact absurd h1.symm h
 exact h1
theorem marksUpto_get (l:List Ins) (j:Nat) (hj:j < l.length):∀ k,k≤l.length→((marksUpto l k)[j]? = some true ↔ ∃ i,∃ h:i < l.length,i < k∧isBr l[i].op=true∧(j=i+1∨j=l[i].b.toNat)):=by
 intro k
 induction k with
 | zero =>
  intro _;constructor
  ·intro h;simp [marksUpto,hj] at h
  rintro ⟨i,h,h1,_⟩;omega
 | succ k ih =>
  intro hk;have ih:=ih (by omega);rw [marksUpto_succ l k (by omega)];unfold markStep
  by_cases hb:isBr l[k].op=true
  ·rw [if_pos hb,get_set_true _ _ _ (by rw [List.length_set,marksUpto_len];exact hj),get_set_true _ _ _ (by rw [marksUpto_len];exact hj),ih];constructor
   ·rintro (h | h | ⟨i,h,h1,h2⟩)
    ·exact ⟨k,by omega,by omega,hb,Or.inl h⟩
    ·exact ⟨k,by omega,by omega,hb,Or.inr h⟩
    exact ⟨i,h,by omega,h2⟩
   rintro ⟨i,h,h1,h2,h3⟩;by_cases e:i=k
   ·subst e;rcases h3 with h3 | h3
    ·exact Or.inl h3
    exact Or.inr (Or.inl h3)
   exact Or.inr (Or.inr ⟨i,h,by omega,h2,h3⟩)
  rw [if_neg hb,ih];constructor
  ·rintro ⟨i,h,h1,h2⟩;exact ⟨i,h,by omega,h2⟩
  rintro ⟨i,h,h1,h2,h3⟩;by_cases e:i=k
  ·subst e;exact absurd h2 hb
  exact ⟨i,h,by omega,h2,h3⟩
theorem marksOf_len (l:List Ins):(marksOf l).length=l.length:=marksUpto_len l l.length
theorem marksOf_get (l:List Ins) (j:Nat) (hj:j < l.length):(marksOf l)[j]? = some true ↔ ∃ i,∃ h:i < l.length,isBr l[i].op=true∧(j=i+1∨j=l[i].b.toNat):=by
 unfold marksOf
 rw [marksUpto_get l j hj l.length Lr];constructor
 ·rintro ⟨i,h,_,h2⟩;exact ⟨i,h,h2⟩
 rintro ⟨i,h,h2⟩;exact ⟨i,h,h,h2⟩
theorem needAt_iff (l:List Ins) (k:Nat) (hk:k < l.length):needAt l k=true ↔ ((marksOf l)[k]? = some true∧¬l[k].op=12):=by
 have h1:k < (marksOf l).length:=by rw [marksOf_len];exact hk
 rw [needAt_eq h1 hk,List.getElem?_eq_getElem h1];simp
theorem fencedAll_iff (l:List Ins):fencedAll l=true ↔ ∀ k,k < l.length→needAt l k=false:=by
 constructor
 ·intro h k hk
  cases hn:needAt l k with
  | false=>rfl
  | true =>
   have h1:k < (marksOf l).length:=by rw [marksOf_len];exact hk
   rw [needAt_eq h1 hk] at hn;rw [fencedAll_no h1 hk hn] at h;cases h
 intro h;exact fencedAll_yes (fun k h1 h2=>by rw [← needAt_eq h1 h2];exact h k h2)
theorem cnt_mono (l:List Ins) {a b:Nat} (h:a≤b):cnt l a≤cnt l b:=by
 induction b with
 | zero=>rw [show a=0 by omega];exact Lr
 | succ b ih =>
  by_cases e:a=b+1
  ·subst e;exact Lr
  have:=ih (by omega)
  simp only [cnt];split <;> omega
theorem cnt_succ_pos (l:List Ins) (k:Nat):cnt l (k+1)=pos l k+1:=by
 unfold pos;simp only [cnt];split <;> omega
theorem cnt_le_pos (l:List Ins) (k:Nat):cnt l k≤pos l k:=by unfold pos;omega
theorem pos_lt (l:List Ins) {k n:Nat} (h:k < n):pos l k < cnt l n:=by
 have:=cnt_mono l (show k+1≤n by omega)
 rw [cnt_succ_pos] at this;omega
theorem fenceTo_pos (l:List Ins) (k:Nat) (hk:k < l.length):∀ n,k < n→n≤l.length→(fenceTo l n)[pos l k]? = some (fx l l[k])∧(needAt l k=true→(fenceTo l n)[cnt l k]? = some fence):=by
 intro n
 induction n with
 | zero=>intro h;omega
 | succ n ih =>
  intro h1 h2;have a0:=fenceTo_len l n (by omega);rw [fenceTo_succ l n (by omega)];by_cases e:k=n
  ·subst e;constructor
   ·rw [List.getElem?_append_right (by rw [a0];exact cnt_le_pos l k),a0];unfold pos
    split
    ·rw [show cnt l k+1-cnt l k=1 by omega];rfl
    rw [show cnt l k+0-cnt l k=0 by omega];rfl
   intro hn;rw [List.getElem?_append_right (by omega),a0,if_pos hn,show cnt l k-cnt l k=0 by omega];rfl
  have hp:=pos_lt l (show k < n by omega);have hc:=cnt_le_pos l k;rw [List.getElem?_append_left (by omega),List.getElem?_append_left (by omega)];exact ih (by omega) (by omega)
theorem fenceTo_inv (l:List Ins) (j:Nat):∀ n,n≤l.length→j < cnt l n→∃ k,k < n∧(j=pos l k∨(needAt l k=true∧j=cnt l k)):=by
 intro n
 induction n with
 | zero=>intro _ h;simp [cnt] at h
 | succ n ih =>
  intro h1 h2;by_cases e:j < cnt l n
  ·obtain ⟨k,hk,h⟩:=ih (by omega) e;exact ⟨k,by omega,h⟩
  rw [cnt_succ_pos] at h2;unfold pos at h2
  by_cases hn:needAt l n=true
  ·rw [if_pos hn] at h2;by_cases e2:j=cnt l n
   ·exact ⟨n,by omega,Or.inr ⟨hn,e2⟩⟩
   exact ⟨n,by omega,Or.inl (by unfold pos;rw [if_pos hn];omega)⟩
  rw [if_neg hn] at h2;exact ⟨n,by omega,Or.inl (by unfold pos;rw [if_neg hn];omega)⟩
def fenceC (c:Cd):Cd:=⟨c.vars,c.arrays,fenceTo c.list c.list.length⟩
theorem fx_op (l:List Ins) (x:Ins):(fx l x).op=x.op:=by
 unfold fx
 split
 ·unfold aim
  split
  ·rfl
  split <;> rfl
 rfl
theorem insOk_wider {nv na nl nl':Nat} {x:Ins} (h:insOk nv na nl x=true) (h8:¬x.op=8∧¬x.op=9∧¬x.op=10):insOk nv na nl' x=true:=by
 have ho:=insOk_op h;obtain ⟨op,a,b,d,f⟩:=x;simp only at ho h8
 have hc:op=1∨op=2∨op=3∨op=4∨op=5∨op=6∨op=7∨op=11∨op=12∨op=13:=by omega
 rcases hc with rfl | rfl | rfl | rfl | rfl | rfl | rfl | rfl | rfl | rfl
 all_goals
  unfold insOk at h ⊢
  simpa [shp,flds,fOk] using h
theorem fence_ok {c:Cd} (h:codeOk c=true∧cnt c.list c.list.length≤400):codeOk (fenceC c)=true:=by
 have hl:=codeOk_len h.1;have d0:=fenceTo_len c.list c.list.length Lr
 have l0:c.list.length≤cnt c.list c.list.length:=by
  have k0:∀ m,m≤cnt c.list m:=fun m=>by
   induction m with
   | zero=>exact Nat.zero_le _
   | succ m ih=>simp only [cnt];split <;> omega
  exact k0 _
 unfold codeOk
 simp only [Bool.and_eq_true];refine ⟨show declOk c.vars c.arrays=true from codeOk_decl h.1,decide_eq_true (by unfold fenceC;simp only;omega),List.all_eq_true.2 (fun x hx=>?_),?_⟩
 ·obtain ⟨j,hj,rfl⟩:=List.getElem_of_mem hx;have h0:j < cnt c.list c.list.length:=by unfold fenceC at hj;simp only at hj;omega
  obtain ⟨k,hk,b0⟩:=fenceTo_inv c.list j c.list.length Lr h0;have hp:=fenceTo_pos c.list k hk c.list.length hk Lr;have c0:(fenceC c).list=fenceTo c.list c.list.length:=rfl;have i0:(fenceC c).list.length=cnt c.list c.list.length:=by rw [c0,d0]
  have g0:(fenceC c).vars=c.vars∧(fenceC c).arrays=c.arrays:=⟨rfl,rfl⟩;rw [i0,g0.1,g0.2];rcases b0 with rfl | ⟨hn,rfl⟩
  ·have e:(fenceC c).list[pos c.list k]=fx c.list c.list[k]:=by
    have:=hp.1;rw [← c0,List.getElem?_eq_getElem hj] at this;exact Si this
   rw [e];have a0:=codeOk_all h.1 k hk;generalize c.list[k]=x at *
   rcases tgt_cases x with ⟨h8,h1,h2⟩ | ⟨h8,h1,h2⟩ | ⟨h8,h1,h2⟩ | ⟨h8,h1,h2⟩
   ·have hg:=tgt_ge a0 (Or.inl h8);have e0:=cnt_mono c.list (show (tgt x).toNat+1≤c.list.length by omega);rw [cnt_succ_pos] at e0;have f0:=cnt_le_pos c.list (tgt x).toNat;unfold fx;rw [if_pos hg.1,h2]
    obtain ⟨op,a,b,d,f⟩:=x;simp only at h8;subst h8
    simp [insOk,wi,shp,flds,fOk] at a0 ⊢
    omega
   ·have hg:=tgt_ge a0 (Or.inr (Or.inl h8));have e0:=cnt_mono c.list (show (tgt x).toNat+1≤c.list.length by omega);rw [cnt_succ_pos] at e0;have f0:=cnt_le_pos c.list (tgt x).toNat;unfold fx;rw [if_pos hg.1,h2]
    obtain ⟨op,a,b,d,f⟩:=x;simp only at h8;subst h8
    simp [insOk,wi,shp,flds,fOk] at a0 ⊢
    omega
   ·have hg:=tgt_ge a0 (Or.inr (Or.inr h8));have e0:=cnt_mono c.list (show (tgt x).toNat+1≤c.list.length by omega);rw [cnt_succ_pos] at e0;have f0:=cnt_le_pos c.list (tgt x).toNat;unfold fx;rw [if_pos hg.1,h2]
    obtain ⟨op,a,b,d,f⟩:=x;simp only at h8;subst h8
    simp [insOk,wi,shp,flds,fOk] at a0 ⊢
    omega
   have e2:fx c.list x=x:=by unfold fx;rw [if_neg (by omega)]
   rw [e2];exact insOk_wider a0 h8
  have e:(fenceC c).list[cnt c.list k]=fence:=by
   have:=hp.2 hn;rw [← c0,List.getElem?_eq_getElem hj] at this;exact Si this
  rw [e];rfl
 obtain ⟨hk,j0⟩:=codeOk_last h.1;have hp:=fenceTo_pos c.list _ hk c.list.length hk Lr;have c0:(fenceC c).list=fenceTo c.list c.list.length:=rfl;unfold lastOk
 rw [c0,List.getLast?_eq_getElem?,d0]
 have e:cnt c.list c.list.length-1=pos c.list (c.list.length-1):=by
  have:=cnt_succ_pos c.list (c.list.length-1)
  rw [show c.list.length-1+1=c.list.length by omega] at this;omega
 rw [e,hp.1];simp only [fx_op];simpa using j0
theorem fence_fenced {c:Cd} (h:codeOk c=true):fencedAll (fenceC c).list=true:=by
 have d0:=fenceTo_len c.list c.list.length Lr;have j0:(fenceC c).list=fenceTo c.list c.list.length:=rfl;rw [j0];refine (fencedAll_iff _).2 (fun j hj=>?_);rw [← Bool.not_eq_true,needAt_iff _ _ hj];rintro ⟨hm,b0⟩;obtain ⟨i,hi,hb,g0⟩:=(marksOf_get _ _ hj).1 hm;rw [d0] at hi hj;obtain ⟨k,hk,a0⟩:=fenceTo_inv c.list i c.list.length Lr hi;have e0:(fenceTo c.list c.list.length)[i]? = some ((fenceTo c.list c.list.length)[i]'(by omega)):=List.getElem?_eq_getElem _;have f0:(fenceTo c.list c.list.length)[j]? = some ((fenceTo c.list c.list.length)[j]'(by omega)):=List.getElem?_eq_getElem _;rcases a0 with rfl | ⟨hn,rfl⟩
 ·have hp:=(fenceTo_pos c.list k hk c.list.length hk Lr).1;rw [e0] at hp;have he:=Si hp;rw [he] at hb g0;rw [fx_op] at hb;have c0:=codeOk_all h k hk;have m0:c.list[k].op=9∨c.list[k].op=10:=by unfold isBr at hb;simpa using hb
  have n0:tgt c.list[k]=c.list[k].b:=by
   rcases tgt_cases c.list[k] with ⟨h8,_,_⟩ | ⟨_,h1,_⟩ | ⟨_,h1,_⟩ | ⟨h8,_,_⟩
   ·omega
   ·exact h1
   ·exact h1
   omega
  have hg:=tgt_ge c0 (Or.inr m0)
  have k0:(fx c.list c.list[k]).b=(cnt c.list (tgt c.list[k]).toNat:Nat):=by
   unfold fx;rw [if_pos hg.1]
   rcases tgt_cases c.list[k] with ⟨h8,_,_⟩ | ⟨_,_,h2⟩ | ⟨_,_,h2⟩ | ⟨h8,_,_⟩
   ·omega
   ·rw [h2]
   ·rw [h2]
   omega
  obtain ⟨k',hk',hj',l0⟩:∃ k',k' < c.list.length∧j=cnt c.list k'∧(marksOf c.list)[k']? = some true:=by
   rcases g0 with h1 | h1
   ·have h0:=br_next h hk hb;exact ⟨k+1,h0,by rw [cnt_succ_pos];exact h1,(marksOf_get _ _ h0).2 ⟨k,hk,hb,Or.inl rfl⟩⟩
   rw [k0,Int.toNat_natCast] at h1;refine ⟨(tgt c.list[k]).toNat,by omega,h1,(marksOf_get _ _ (by omega)).2 ⟨k,hk,hb,Or.inr (by rw [n0])⟩⟩
  subst hj';have i0:=fenceTo_pos c.list k' hk' c.list.length hk' Lr;by_cases hn:needAt c.list k'=true
  ·have:=i0.2 hn
   rw [f0] at this;rw [Si this] at b0;exact b0 rfl
  have h3:=i0.1;unfold pos at h3
  rw [if_neg hn,Nat.add_zero,f0] at h3;rw [Si h3,fx_op] at b0;exact hn ((needAt_iff _ _ hk').2 ⟨l0,b0⟩)
 have:=(fenceTo_pos c.list k hk c.list.length hk Lr).2 hn
 rw [e0] at this;rw [Si this] at hb;exact absurd hb (by decide)
end Go.Proofs.YtnpidfbcbmeijaaGreat
