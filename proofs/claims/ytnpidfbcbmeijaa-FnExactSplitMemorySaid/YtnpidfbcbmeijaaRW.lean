/-
 Parts of the proofs of the laws FnExactSplitMemory.
-/
import Derived.Test.YtnpidfbcbmeijaaC
set_option linter.all false
namespace Go.Proofs.Ytnpidfbcbmeijaa
open Go.RowKit
def rows {α:Type} (f:α→List Value):List α→List Value
 | []=>[]
 | e::l=>f e++rows f l
theorem rows_length {α:Type} {f:α→List Value} {sz:Nat} (hf:∀ x,(f x).length=sz) (l:List α):(rows f l).length=l.length*sz:=by
 induction l with
 | nil=>simp [rows]
 | cons e l ih=>simp only [rows,List.length_append,ih,hf,List.length_cons,Nat.add_mul];omega
theorem rows_append {α:Type} (f:α→List Value) (a b:List α):rows f (a++b)=rows f a++rows f b:=by
 induction a with
 | nil=>rfl
 | cons e l ih=>simp [rows,ih]
theorem rows_get {α:Type} {f:α→List Value} {sz:Nat} (hf:∀ x,(f x).length=sz) (l:List α) (k:Nat) (h:k < l.length) (j:Nat) (hj:j < sz):(rows f l)[k*sz+j]? = (f l[k])[j]?:=by
 induction l generalizing k with
 | nil=>cases h
 | cons e l ih =>
  cases k with
  | zero =>
   simp only [rows,Nat.zero_mul,Nat.zero_add,List.getElem_cons_zero];rw [List.getElem?_append_left (by rw [hf];exact hj)]
  | succ k =>
   have e1:(k+1)*sz+j=sz+(k*sz+j):=by rw [Nat.add_mul];omega
   simp only [rows,List.getElem_cons_succ];rw [List.getElem?_append_right (by rw [hf];omega),hf,e1,Nat.add_sub_cancel_left];exact ih k (by simpa using h)
def setFrom:List Value→Nat→List Value→List Value
 | xs,_,[]=>xs
 | xs,i,u::us=>setFrom (xs.set i u) (i+1) us
theorem setFrom_append_right (a b us:List Value) (i:Nat):setFrom (a++b) (a.length+i) us=a++setFrom b i us:=by
 induction us generalizing b i with
 | nil=>rfl
 | cons u us ih =>
  simp only [setFrom];rw [List.set_append_right _ _ (by omega),Nat.add_sub_cancel_left,Nat.add_assoc];exact ih _ _
theorem setFrom_full (a us b:List Value) (h:a.length=us.length):setFrom (a++b) 0 us=us++b:=by
 induction us generalizing a with
 | nil =>
  have:a=[]:=List.eq_nil_of_length_eq_zero (by simpa using h)
  subst this;rfl
 | cons u us ih =>
  cases a with
  | nil=>simp at h
  | cons x a =>
   simp only [setFrom,List.cons_append,List.set_cons_zero];have h1:=setFrom_append_right [u] (a++b) us 0;simp only [List.cons_append,List.nil_append,List.length_cons,List.length_nil,Nat.zero_add,Nat.add_zero] at h1;rw [Nat.zero_add,h1,ih a (by simpa using h)]
theorem rows_set {α:Type} {f:α→List Value} {sz:Nat} (hf:∀ x,(f x).length=sz) (l:List α) (k:Nat) (h:k < l.length) (x:α):setFrom (rows f l) (k*sz) (f x)=rows f (l.set k x):=by
 have e:l=l.take k++l[k]::l.drop (k+1):=by simp
 have e2:l.set k x=l.take k++x::l.drop (k+1):=by rw [List.set_eq_take_append_cons_drop,if_pos h]
 have hl:(rows f (l.take k)).length=k*sz:=by rw [rows_length hf,List.length_take,Nat.min_eq_left (by omega)]
 rw [e2];conv=>lhs;rw [e]
 rw [rows_append,rows_append];have h1:=setFrom_append_right (rows f (l.take k)) (rows f (l[k]::l.drop (k+1))) (f x) 0;rw [hl] at h1;simp only [Nat.add_zero] at h1;rw [h1];simp only [rows];rw [setFrom_full _ _ _ (by rw [hf,hf])]
theorem set_next {α:Type} (l:List α) (z:α) (k:Nat) (h:k < l.length):(l.take k++List.replicate (l.length-k) z).set k l[k]=l.take (k+1)++List.replicate (l.length-(k+1)) z:=by
 apply List.ext_getElem?
 intro j;simp only [List.getElem?_set,List.getElem?_append,List.length_take,List.length_append,List.length_replicate,List.getElem?_take,List.getElem?_replicate];grind
theorem set_dropped {α:Type} (a l:List α) (x:α) (k:Nat) (ha:a.length=k) (h:k < l.length):(a++l.drop k).set k x=(a++[x])++l.drop (k+1):=by
 have e:l.drop k=l[k]::l.drop (k+1):=by rw [List.drop_eq_getElem_cons h]
 rw [e,List.set_append_right _ _ (by omega),ha,Nat.sub_self];simp only [List.set_cons_zero,List.append_assoc,List.cons_append,List.nil_append]
structure Ins where
 op:Int
 a:Int
 b:Int
 c:Int
 d:Int
deriving DecidableEq
def insc (e:Ins):List Value:=[.int .i64 e.op,.int .i64 e.a,.int .i64 e.b,.int .i64 e.c,.int .i64 e.d]
abbrev inss (l:List Ins):List Value:=rows insc l
theorem reads_row {α:Type} {f:α→List Value} {sz:Nat} (hf:∀ x,(f x).length=sz) {w:World} {b off:Nat} {l:List α} (hc:∀ j (h:j < (rows f l).length),w.cell? ⟨b,off+j,none⟩=some (rows f l)[j]) (k:Nat) (h:k < l.length) (j:Nat) (hj:j < sz) :
  w.cell? ⟨b,off+(k*sz+j),none⟩=(f l[k])[j]?:=by
 have hl:=rows_length hf l
 have a0:k*sz+j < (rows f l).length:=by
  rw [hl];have:(k+1)*sz≤l.length*sz:=Nat.mul_le_mul_right sz h
  rw [Nat.add_mul] at this;omega
 rw [hc _ a0,← rows_get hf l k h j hj,List.getElem?_eq_getElem a0]
theorem own_row {α:Type} {f:α→List Value} {sz:Nat} (hf:∀ x,(f x).length=sz) {w:World} {base:Nat} {e:TypeId} {g n cap:Nat} {l:List α} (ho:w.ownsRow base e sz (.slice (some ⟨g,0,none⟩) n cap) n (rows f l)) (k:Nat) (h:k < l.length) (j:Nat) (hj:j < sz) :
  w.cell? ⟨g,k*sz+j,none⟩=(f l[k])[j]?:=by
 have hl:=rows_length hf l
 have a0:k*sz+j < l.length*sz:=by
  have:(k+1)*sz≤l.length*sz:=Nat.mul_le_mul_right sz h
  rw [Nat.add_mul] at this;omega
 rw [ho.cellAt _ (by rw [← ho.1,hl];exact a0),rows_get hf l k h j hj]
end Go.Proofs.Ytnpidfbcbmeijaa
