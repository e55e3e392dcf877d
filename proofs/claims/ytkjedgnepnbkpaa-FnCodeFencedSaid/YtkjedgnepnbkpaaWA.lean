/-
 Parts of the proofs of the laws FnCodeFenced,FnCountBranches.
-/
import Derived.Test.YtkjedgnepnbkpaaFG
set_option linter.all false
namespace Go.Proofs.Ytkjedgnepnbkpaa
open Go.RowKit
theorem get_set_true (l:List Bool) (i j:Nat) (hj:j < l.length):(l.set i true)[j]? = some true ↔ (j=i∨l[j]? = some true):=by
 rw [List.getElem?_set]
 by_cases h:i=j
 ·subst h;rw [if_pos rfl,if_pos hj];simp
 rw [if_neg h]
 constructor
 ·exact Or.inr
 rintro (h1 | h1)
 ·exact absurd h1.symm h
 exact h1
theorem marksUpto_get (l:List Ins) (j:Nat) (hj:j < l.length):∀ k,k≤l.length→((marksUpto l k)[j]? = some true ↔ ∃ i,∃ h:i < l.length,i < k∧isBr l[i].op=true∧(j=i+1∨j=l[i].b.toNat)):=by
 intro k
 induction k with
 | zero =>
  intro _
  constructor
  ·intro h;simp [marksUpto,hj] at h
  rintro ⟨i,h,h1,_⟩;omega
 | succ k ih =>
  intro hk
  have ih:=ih (by omega)
  rw [marksUpto_succ l k (by omega)]
  unfold markStep
  by_cases hb:isBr l[k].op=true
  ·rw [if_pos hb,get_set_true _ _ _ (by rw [List.length_set,marksUpto_len];exact hj),get_set_true _ _ _ (by rw [marksUpto_len];exact hj),ih]
   constructor
   ·rintro (h | h | ⟨i,h,h1,h2⟩)
    ·exact ⟨k,by omega,by omega,hb,Or.inl h⟩
    ·exact ⟨k,by omega,by omega,hb,Or.inr h⟩
    exact ⟨i,h,by omega,h2⟩
   rintro ⟨i,h,h1,h2,h3⟩
   by_cases e:i=k
   ·subst e
    rcases h3 with h3 | h3
    ·exact Or.inl h3
    exact Or.inr (Or.inl h3)
   exact Or.inr (Or.inr ⟨i,h,by omega,h2,h3⟩)
  rw [if_neg hb,ih]
  constructor
  ·rintro ⟨i,h,h1,h2⟩;exact ⟨i,h,by omega,h2⟩
  rintro ⟨i,h,h1,h2,h3⟩
  by_cases e:i=k
  ·subst e;exact absurd h2 hb
  exact ⟨i,h,by omega,h2,h3⟩
theorem marksOf_len (l:List Ins):(marksOf l).length=l.length:=marksUpto_len l l.length
theorem marksOf_get (l:List Ins) (j:Nat) (hj:j < l.length):(marksOf l)[j]? = some true ↔ ∃ i,∃ h:i < l.length,isBr l[i].op=true∧(j=i+1∨j=l[i].b.toNat):=by
 unfold marksOf
 rw [marksUpto_get l j hj l.length (Nat.le_refl _)]
 constructor
 ·rintro ⟨i,h,_,h2⟩;exact ⟨i,h,h2⟩
 rintro ⟨i,h,h2⟩;exact ⟨i,h,h,h2⟩
theorem needAt_iff (l:List Ins) (k:Nat) (hk:k < l.length):needAt l k=true ↔ ((marksOf l)[k]? = some true∧¬l[k].op=12):=by
 have h1:k < (marksOf l).length:=by rw [marksOf_len];exact hk
 rw [needAt_eq h1 hk,List.getElem?_eq_getElem h1]
 simp
theorem needAt_out (l:List Ins) (k:Nat) (hk:l.length≤k):needAt l k=false:=by
 unfold needAt
 rw [List.getElem?_eq_none (by rw [marksOf_len];exact hk)]
theorem fencedAll_iff (l:List Ins):fencedAll l=true ↔ ∀ k,k < l.length→needAt l k=false:=by
 constructor
 ·intro h k hk
  cases hn:needAt l k with
  | false=>rfl
  | true =>
   have h1:k < (marksOf l).length:=by rw [marksOf_len];exact hk
   rw [needAt_eq h1 hk] at hn
   rw [fencedAll_no h1 hk hn] at h
   cases h
 intro h
 exact fencedAll_yes (fun k h1 h2=>by rw [← needAt_eq h1 h2];exact h k h2)
theorem cnt_same (l:List Ins) (h:∀ k,k < l.length→needAt l k=false) (k:Nat):cnt l k=k:=by
 induction k with
 | zero=>rfl
 | succ k ih =>
  have h0:needAt l k=false:=by
   by_cases hk:k < l.length
   ·exact h k hk
   exact needAt_out l k (by omega)
  simp only [cnt,ih,h0];simp
theorem cnt_more (l:List Ins) (k:Nat) (hk:needAt l k=true) (n:Nat) (hn:k < n):n < cnt l n:=by
 have a0:∀ m,m≤cnt l m:=fun m=>by
  induction m with
  | zero=>exact Nat.zero_le _
  | succ m ih=>simp only [cnt];split <;> omega
 induction n with
 | zero=>omega
 | succ n ih =>
  simp only [cnt]
  by_cases e:k=n
  ·subst e;rw [if_pos hk];have:=a0 k;omega
  have:=ih (by omega);split <;> omega
theorem aim_tgt (x:Ins) (h:0≤tgt x):aim x (tgt x)=x:=by
 rcases tgt_cases x with ⟨_,h1,h2⟩ | ⟨_,h1,h2⟩ | ⟨_,h1,h2⟩ | ⟨_,h1,h2⟩
 ·rw [h2,h1]
 ·rw [h2,h1]
 ·rw [h2,h1]
 rw [h2]
theorem fx_same (l:List Ins) (h:∀ k,cnt l k=k) (x:Ins):fx l x=x:=by
 unfold fx
 by_cases h0:0≤tgt x
 ·rw [if_pos h0,h,show ((tgt x).toNat:Int)=tgt x by omega,aim_tgt x h0]
 rw [if_neg h0]
theorem fenceTo_same (l:List Ins) (h:fencedAll l=true):fenceTo l l.length=l:=by
 have hn:=(fencedAll_iff l).1 h
 have hc:=cnt_same l hn
 have a0:∀ k,k≤l.length→fenceTo l k=l.take k:=by
  intro k
  induction k with
  | zero=>intro _;simp [fenceTo]
  | succ k ih =>
   intro hk
   rw [fenceTo_succ l k (by omega),ih (by omega),hn k (by omega),fx_same l hc,List.take_add_one,List.getElem?_eq_getElem (show k < l.length by omega)]
   simp
 rw [a0 l.length (Nat.le_refl _),List.take_length]
theorem fenced_same {c:Cd} (h:codeOk c=true∧cnt c.list c.list.length≤400):codeFenced c=decide (c=⟨c.vars,c.arrays,fenceTo c.list c.list.length⟩):=by
 unfold codeFenced
 rw [h.1,Bool.true_and]
 cases hf:fencedAll c.list with
 | true=>rw [fenceTo_same _ hf];simp
 | false =>
  symm
  refine decide_eq_false (fun he=>?_)
  have e1:c.list=fenceTo c.list c.list.length:=congrArg Cd.list he
  have e2:=congrArg List.length e1
  rw [fenceTo_len _ _ (Nat.le_refl _)] at e2
  have:fencedAll c.list=true:=(fencedAll_iff _).2 (fun k hk=>by
   cases hn:needAt c.list k with
   | false=>rfl
   | true=>have:=cnt_more c.list k hn c.list.length hk;omega)
  rw [hf] at this
  cases this
def brs (l:List Ins):Nat→Nat
 | 0=>0
 | k+1=>brs l k+(match l[k]? with | some x=>if isBr x.op=true then 1 else 0 | none=>0)
theorem brs_succ (l:List Ins) (k:Nat) (h:k < l.length):brs l (k+1)=brs l k+(if isBr l[k].op=true then 1 else 0):=by
 conv=>lhs;unfold brs
 rw [List.getElem?_eq_getElem h]
def trs (l:List Bool):Nat:=(l.filter (fun b=>b)).length
theorem trs_set (l:List Bool) (i:Nat):trs (l.set i true)≤trs l+1:=by
 unfold trs
 induction l generalizing i with
 | nil=>simp
 | cons b l ih =>
  cases i with
  | zero=>cases b <;> simp
  | succ i =>
   have:=ih i
   cases b <;> simp <;> omega
theorem trs_rep (n:Nat):trs (List.replicate n false)=0:=by
 unfold trs
 induction n with
 | zero=>rfl
 | succ n ih=>rw [List.replicate_succ,List.filter_cons];simpa using ih
theorem trs_marks (l:List Ins) (k:Nat) (hk:k≤l.length):trs (marksUpto l k)≤2*brs l k:=by
 induction k with
 | zero=>unfold marksUpto brs;rw [trs_rep];omega
 | succ k ih =>
  rw [marksUpto_succ l k (by omega),brs_succ l k (by omega)]
  have:=ih (by omega)
  unfold markStep
  by_cases hb:isBr l[k].op=true
  ·rw [if_pos hb,if_pos hb]
   have h1:=trs_set ((marksUpto l k).set l[k].b.toNat true) (k+1)
   have h2:=trs_set (marksUpto l k) l[k].b.toNat
   omega
  rw [if_neg hb,if_neg hb];omega
theorem trs_take_le (l:List Bool) (k:Nat):trs (l.take k)≤trs l:=by
 unfold trs
 induction l generalizing k with
 | nil=>simp
 | cons b l ih =>
  cases k with
  | zero=>simp
  | succ k =>
   have:=ih k
   cases b <;> simp <;> omega
theorem cnt_trs (l:List Ins) (k:Nat) (hk:k≤l.length):cnt l k≤k+trs ((marksOf l).take k):=by
 induction k with
 | zero=>simp [cnt]
 | succ k ih =>
  have ih:=ih (by omega)
  have h1:k < (marksOf l).length:=by rw [marksOf_len];omega
  rw [List.take_add_one,List.getElem?_eq_getElem h1]
  have e:trs ((marksOf l).take k++(some (marksOf l)[k]).toList)=trs ((marksOf l).take k)+(if (marksOf l)[k]=true then 1 else 0):=by
   unfold trs
   rw [List.filter_append,List.length_append]
   cases (marksOf l)[k] <;> simp
  rw [e]
  simp only [cnt]
  by_cases hn:needAt l k=true
  ·have:=((needAt_iff l k (by omega)).1 hn).1
   rw [List.getElem?_eq_getElem h1] at this
   rw [if_pos hn,if_pos (Option.some.inj this)]
   omega
  rw [if_neg hn];split <;> omega
theorem fence_few (l:List Ins):(fenceTo l l.length).length≤l.length+2*brs l l.length:=by
 rw [fenceTo_len _ _ (Nat.le_refl _)]
 have h1:=cnt_trs l l.length (Nat.le_refl _)
 have h2:=trs_take_le (marksOf l) l.length
 have h3:=trs_marks l l.length (Nat.le_refl _)
 unfold marksOf at *
 omega
theorem brs_none (l:List Ins) (h:brs l l.length=0):fencedAll l=true:=by
 have b0:∀ k,k≤l.length→brs l k≤brs l l.length:=by
  have a0:∀ d k,k+d=l.length→brs l k≤brs l l.length:=by
   intro d
   induction d with
   | zero=>intro k hk;rw [show k=l.length by omega];exact Nat.le_refl _
   | succ d ih =>
    intro k hk
    have:=ih (k+1) (by omega)
    rw [brs_succ l k (by omega)] at this
    omega
  intro k hk
  exact a0 (l.length-k) k (by omega)
 refine (fencedAll_iff l).2 (fun k hk=>?_)
 cases hn:needAt l k with
 | false=>rfl
 | true =>
  have h1:=((needAt_iff l k hk).1 hn).1
  obtain ⟨i,hi,hb,_⟩:=(marksOf_get l k hk).1 h1
  have:=b0 (i+1) (by omega)
  rw [brs_succ l i hi,if_pos hb] at this
  omega
theorem law_fenced {c:Cd} (h:codeOk c=true∧cnt c.list c.list.length≤400) :
  (codeFenced c=decide (c=⟨c.vars,c.arrays,fenceTo c.list c.list.length⟩))∧(brs c.list c.list.length=0→codeFenced c=true)∧(fenceTo c.list c.list.length).length≤c.list.length+2*brs c.list c.list.length:=
 ⟨fenced_same h,fun h0=>by unfold codeFenced;rw [h.1,brs_none _ h0];rfl,fence_few _⟩
end Go.Proofs.Ytkjedgnepnbkpaa
