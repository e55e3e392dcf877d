/-
 Parts of the proofs of the laws FnPairMemory,FnSplitMemory.
-/
import Derived.Test.YtlckklglbodgbaaGreatKX
set_option linter.all false
namespace Go.Proofs.YtlckklglbodgbaaGreat
open Go.RowKit
abbrev LSt:=List Int × List St
def zrE:Ex:=.mk 0 0 []
def cstE (n:Int):Ex:=.mk 1 n []
def varE (n:Int):Ex:=.mk 2 n []
def rdE (a:Int) (i:Ex):Ex:=.mk 3 a [i]
def asgS (v:Int) (e:Ex):St:=.mk 1 v zrE e 0 [] []
def hdE:List Ex→Ex
 | []=>zrE
 | e::_=>e
def rdSt (a v:Int) (i:Ex) (k:Nat):St:=if k=0 then asgS v (rdE a (cstE 0)) else asgS v (.mk 11 0 [hitE i k,rdE a (cstE k),varE v])
def rdOut (ys:List Int) (pc:Int) (S:LSt) (a:Int) (i e:Ex):LSt × Ex:=
 ((S.1++[lbo (labE S.1 ys e) pc],S.2++(List.range 4).map (rdSt a S.1.length i)),varE S.1.length)
mutual
def linE (ys:List Int) (pc:Int):Ex→LSt→LSt × Ex
 | .mk k v l,S =>
  let r:=linEs ys pc l S
  if (k == 3&&secB (labE r.1.1 ys (hdE l)))=true then rdOut ys pc r.1 v (hdE l) (.mk k v l) else (r.1,.mk k v r.2)
def linEs (ys:List Int) (pc:Int):List Ex→LSt→LSt × List Ex
 | [],S=>(S,[])
 | e::l,S=>let r:=linE ys pc e S;let q:=linEs ys pc l r.1;(q.1,r.2::q.2)
end
def stoS (t n:Int) (ix:Ex) (mask:Int) (k:Nat):St:=.mk 2 t (cstE k) (.mk 11 0 [mkE mask (hitE ix k) (cstE 0),varE n,rdE t (cstE k)]) 0 [] []
def stoR (ys:List Int) (mask pc t:Int) (ix e:Ex) (S:LSt):LSt:=
 (S.1++[lbo (labE S.1 ys e) pc],(S.2++[asgS S.1.length e])++(List.range 4).map (stoS t S.1.length ix mask))
def ifR (mask l:Int) (e:Ex) (S:LSt):LSt:=
 ((S.1++[l])++[l],(S.2++[asgS S.1.length (mkE mask e (cstE 0))])++[asgS (S.1.length+1:Nat) (mkE mask (.mk 9 0 [varE S.1.length,cstE 0]) (cstE 0))])
mutual
def linS (ys:List Int):St→Int→Int→LSt→LSt
 | .mk k t ix val c body els,mask,pc,S =>
  if k=3 then
   let r:=linE ys pc val S
   if secB (labE S.1 ys val)=true then
    linB ys els (r.1.1.length+1:Nat) (lbo pc (labE S.1 ys val)) (linB ys body r.1.1.length (lbo pc (labE S.1 ys val)) (ifR mask (lbo pc (labE S.1 ys val)) r.2 r.1))
   else
    let a:=linB ys body mask (lbo pc (labE S.1 ys val)) (r.1.1,[])
    let b:=linB ys els mask (lbo pc (labE S.1 ys val)) (a.1,[])
    (b.1,r.1.2++[.mk 3 0 zrE r.2 0 a.2 b.2])
  else if k=4 then
   let a:=linB ys body mask pc (S.1,[])
   (a.1,S.2++[.mk 4 0 zrE zrE c a.2 []])
  else
   let r:=linE ys pc val S
   if k=5 then (r.1.1,r.1.2++[.mk 5 t zrE r.2 0 [] []])
   else if k=1 then (r.1.1,r.1.2++[asgS t (mkE mask r.2 (varE t))])
   else if secB (labE r.1.1 ys ix)=true then stoR ys mask pc t ix r.2 r.1
   else (r.1.1,r.1.2++[.mk 2 t ix (mkE mask r.2 (rdE t ix)) 0 [] []])
def linB (ys:List Int):List St→Int→Int→LSt→LSt
 | [],_,_,S=>S
 | s::l,mask,pc,S=>linB ys l mask pc (linS ys s mask pc S)
end
theorem linEs_app (ys:List Int) (pc:Int) (a b:List Ex):∀ S,linEs ys pc (a++b) S=((linEs ys pc b (linEs ys pc a S).1).1,(linEs ys pc a S).2++(linEs ys pc b (linEs ys pc a S).1).2):=by
 induction a with
 | nil=>intro S;rfl
 | cons e a ih=>intro S;simp only [List.cons_append,linEs,ih]
theorem linEs_take {ys:List Int} {pc:Int} {l:List Ex} {k:Nat} (h:k < l.length) (S:LSt):linEs ys pc (l.take (k+1)) S=((linE ys pc l[k] (linEs ys pc (l.take k) S).1).1,(linEs ys pc (l.take k) S).2++[(linE ys pc l[k] (linEs ys pc (l.take k) S).1).2]):=by
 rw [List.take_succ_eq_append_getElem h,linEs_app];rfl
theorem linB_app (ys:List Int) (a b:List St) (mask pc:Int):∀ S,linB ys (a++b) mask pc S=linB ys b mask pc (linB ys a mask pc S):=by
 induction a with
 | nil=>intro S;rfl
 | cons e a ih=>intro S;simp only [List.cons_append,linB,ih]
theorem linB_take {ys:List Int} {l:List St} {k:Nat} (h:k < l.length) (mask pc:Int) (S:LSt):linB ys (l.take (k+1)) mask pc S=linS ys l[k] mask pc (linB ys (l.take k) mask pc S):=by
 rw [List.take_succ_eq_append_getElem h,linB_app];rfl
theorem exRead_pos {n m d:Nat} {k v:Int} {l:List Ex} (hk:k=3) (h:exOk n m (d+1) (.mk k v l)=true):0 < l.length:=by
 subst hk;simp only [exOk,Bool.and_eq_true,Ex.kids,Ex.k] at h;have h1:(l.length:Int)=arity 3:=by simpa using h.1
 have h2:arity 3=1:=by decide
 omega
theorem hdE_eq {l:List Ex} (h:0 < l.length):hdE l=l[0]:=by
 cases l with
 | nil=>simp at h
 | cons e l=>rfl
theorem linE_read {ys:List Int} {pc v:Int} {T es:List Ex} {xs xs1:List Int} {L L1:List St} (h:linEs ys pc T (xs,L)=((xs1,L1),es)) (h0:0 < T.length) (hs:secB (labE xs1 ys T[0])=true) :
  linE ys pc (.mk 3 v T) (xs,L)=((xs1++[lbo (labE xs1 ys (.mk 3 v T)) pc],L1++(List.range 4).map (rdSt v xs1.length T[0])),varE xs1.length):=by
 simp only [linE,h,hdE_eq h0,hs];simp [rdOut,hdE_eq h0]
theorem linE_plain {ys:List Int} {pc k v:Int} {T es:List Ex} {xs xs1:List Int} {L L1:List St} (h:linEs ys pc T (xs,L)=((xs1,L1),es)) (hs:¬k=3):linE ys pc (.mk k v T) (xs,L)=((xs1,L1),.mk k v es):=by
 have e:(k == 3)=false:=by simpa using hs
 simp only [linE,h,e];simp
theorem linE_open {ys:List Int} {pc k v:Int} {T es:List Ex} {xs xs1:List Int} {L L1:List St} (h:linEs ys pc T (xs,L)=((xs1,L1),es)) (h0:0 < T.length) (hs:secB (labE xs1 ys T[0])=false):linE ys pc (.mk k v T) (xs,L)=((xs1,L1),.mk k v es):=by
 simp only [linE,h,hdE_eq h0,hs];simp
theorem rdSt_succ (a v:Int) (i:Ex) {k:Nat} (h:0 < k):rdSt a v i k=asgS v (.mk 11 0 [hitE i k,rdE a (cstE k),varE v]):=if_neg (by omega)
theorem range_push {α:Type} (f:Nat→α) (k:Nat):(List.range (k+1)).map f=(List.range k).map f++[f k]:=by rw [List.range_succ,List.map_append];rfl
theorem linEs_len (ys:List Int) (pc:Int):∀ (l:List Ex) (S:LSt),(linEs ys pc l S).2.length=l.length
 | [],_=>rfl
 | e::l,S=>by simp only [linEs,List.length_cons,linEs_len ys pc l]
theorem linS_open {ys xs x1 x2 x3:List Int} {pc mask t c:Int} {ix val e1:Ex} {body els L L1 K1 K2:List St} (h1:linE ys pc val (xs,L)=((x1,L1),e1)) (hs:secB (labE xs ys val)=false) (h2:linB ys body mask (lbo pc (labE xs ys val)) (x1,[])=(x2,K1)) (h3:linB ys els mask (lbo pc (labE xs ys val)) (x2,[])=(x3,K2)) :
  linS ys (.mk 3 t ix val c body els) mask pc (xs,L)=(x3,L1++[.mk 3 0 zrE e1 0 K1 K2]):=by
 simp [linS,h1,hs,h2,h3]
theorem linS_sec {ys xs x1 x2 x3:List Int} {pc mask t c:Int} {ix val e1:Ex} {body els L L1 L2 L3:List St} (h1:linE ys pc val (xs,L)=((x1,L1),e1)) (hs:secB (labE xs ys val)=true) (h2:linB ys body x1.length (lbo pc (labE xs ys val)) (ifR mask (lbo pc (labE xs ys val)) e1 (x1,L1))=(x2,L2)) (h3:linB ys els (x1.length+1:Nat) (lbo pc (labE xs ys val)) (x2,L2)=(x3,L3)) :
  linS ys (.mk 3 t ix val c body els) mask pc (xs,L)=(x3,L3):=by
 have e:linS ys (.mk 3 t ix val c body els) mask pc (xs,L)=linB ys els (x1.length+1:Nat) (lbo pc (labE xs ys val)) (linB ys body x1.length (lbo pc (labE xs ys val)) (ifR mask (lbo pc (labE xs ys val)) e1 (x1,L1))):=by
  simp only [linS,h1,hs,if_true]
 rw [e,h2,h3]
theorem linS_rep {ys xs x1:List Int} {pc mask t c:Int} {ix val:Ex} {body els L K:List St} (h:linB ys body mask pc (xs,[])=(x1,K)):linS ys (.mk 4 t ix val c body els) mask pc (xs,L)=(x1,L++[.mk 4 0 zrE zrE c K []]):=by
 simp [linS,h]
theorem linS_rel {ys xs x1:List Int} {pc mask t c:Int} {ix val e1:Ex} {body els L L1:List St} (h:linE ys pc val (xs,L)=((x1,L1),e1)):linS ys (.mk 5 t ix val c body els) mask pc (xs,L)=(x1,L1++[.mk 5 t zrE e1 0 [] []]):=by
 simp [linS,h]
theorem linS_asg {ys xs x1:List Int} {pc mask t c:Int} {ix val e1:Ex} {body els L L1:List St} (h:linE ys pc val (xs,L)=((x1,L1),e1)):linS ys (.mk 1 t ix val c body els) mask pc (xs,L)=(x1,L1++[asgS t (mkE mask e1 (varE t))]):=by
 simp [linS,h]
theorem linS_sto {ys xs x1:List Int} {pc mask t c:Int} {ix val e1:Ex} {body els L L1:List St} (h:linE ys pc val (xs,L)=((x1,L1),e1)) (hs:secB (labE x1 ys ix)=true):linS ys (.mk 2 t ix val c body els) mask pc (xs,L)=stoR ys mask pc t ix e1 (x1,L1):=by
 simp [linS,h,hs]
theorem linS_put {ys xs x1:List Int} {pc mask t c:Int} {ix val e1:Ex} {body els L L1:List St} (h:linE ys pc val (xs,L)=((x1,L1),e1)) (hs:secB (labE x1 ys ix)=false):linS ys (.mk 2 t ix val c body els) mask pc (xs,L)=(x1,L1++[.mk 2 t ix (mkE mask e1 (rdE t ix)) 0 [] []]):=by
 simp [linS,h,hs]
structure GrL (ys:List Int) (S S':LSt) (n:Nat):Prop where
 up:S.1.length≤S'.1.length
 lo:S.2.length≤S'.2.length
 sum:S'.1.length+S'.2.length≤S.1.length+S.2.length+n
 lab:LabsP S.1→LabsP S'.1
theorem LabsP.snoc {xs:List Int} (h:LabsP xs) {l:Int} (hl:IsLb l):LabsP (xs++[l]):=by
 intro x hx;rcases List.mem_append.1 hx with h1 | h1
 ·exact h x h1
 rw [List.mem_singleton.1 h1];exact hl
theorem GrL.refl (ys:List Int) (S:LSt):GrL ys S S 0:=⟨Lr,Lr,by omega,id⟩
theorem GrL.trans {ys:List Int} {S S' S'':LSt} {n m k:Nat} (h:GrL ys S S' n) (h2:GrL ys S' S'' m) (hk:n+m≤k):GrL ys S S'' k:=
 ⟨Nat.le_trans h.up h2.up,Nat.le_trans h.lo h2.lo,by have:=h.sum;have:=h2.sum;omega,fun x=>h2.lab (h.lab x)⟩
theorem rdOut_gr (ys:List Int) (hy:LabsP ys) {pc:Int} (hpc:IsLb pc) (S:LSt) (a:Int) (i e:Ex):GrL ys S (rdOut ys pc S a i e).1 5:=
 ⟨by simp [rdOut],by simp [rdOut],by simp [rdOut];omega,fun h=>h.snoc (lbo_lab (labE_lab h hy e) hpc).1⟩
mutual
theorem linE_gr (ys:List Int) (hy:LabsP ys) {pc:Int} (hpc:IsLb pc):∀ (e:Ex) (S:LSt),GrL ys S (linE ys pc e S).1 (5*exN e+5)
 | .mk k v l,S=>by
  have h:=linEs_gr ys hy hpc l S;have e0:exN (.mk k v l)=exNs l:=rfl;simp only [linE];split
  ·exact h.trans (rdOut_gr ys hy hpc _ _ _ _) (by omega)
  exact h.trans (GrL.refl ys _) (by omega)
theorem linEs_gr (ys:List Int) (hy:LabsP ys) {pc:Int} (hpc:IsLb pc):∀ (l:List Ex) (S:LSt),GrL ys S (linEs ys pc l S).1 (5*exNs l)
 | [],S=>GrL.refl ys S
 | e::l,S=>by
  have h1:=linE_gr ys hy hpc e S;have h2:=linEs_gr ys hy hpc l (linE ys pc e S).1;simp only [linEs,exNs];exact h1.trans h2 (by omega)
end
theorem exOk_up {n n' m:Nat} (h:n≤n'):∀ {d:Nat} {e:Ex},exOk n m d e=true→exOk n' m d e=true:=by
 intro d
 induction d with
 | zero=>intro e h;cases h
 | succ d ih =>
  intro e he;simp only [exOk,Bool.and_eq_true,decide_eq_true_eq,List.all_eq_true] at he ⊢;obtain ⟨h1,h2,h3,h4,h5⟩:=he;refine ⟨h1,h2,?_,fun x hx=>ih (h4 x hx),h5⟩;unfold limitOf at h3 ⊢
  split
  ·simp_all
  split
  ·simp_all;omega
  simp_all
theorem stOk_up {n n' m:Nat} (h:n≤n'):∀ {d:Nat} {s:St},stOk n m d s=true→stOk n' m d s=true:=by
 have hr:∀ e,exRight n m e=true→exRight n' m e=true:=fun e he=>by
  unfold exRight at he ⊢
  simp only [Bool.and_eq_true] at he ⊢;exact ⟨exOk_up h he.1,he.2⟩
 intro d
 induction d with
 | zero=>intro s h;cases h
 | succ d ih =>
  intro s hs;obtain ⟨k,t,ix,d0,c,b0,c0⟩:=s
  have a0:∀ l:List St,l.all (stOk n m d)=true→l.all (stOk n' m d)=true:=fun l hl=>by
   rw [List.all_eq_true] at hl ⊢;exact fun x hx=>ih (hl x hx)
  simp only [stOk,Bool.and_eq_true] at hs ⊢;refine ⟨hs.1,?_⟩;replace hs:=hs.2;split
  ·rename_i h1
   rw [if_pos h1] at hs;simp only [Bool.and_eq_true,decide_eq_true_eq] at hs ⊢;exact ⟨hs.1,by omega,hr _ hs.2.2⟩
  rename_i h1
  rw [if_neg h1] at hs;split
  ·rename_i h2
   rw [if_pos h2] at hs;simp only [Bool.and_eq_true,decide_eq_true_eq] at hs ⊢;exact ⟨hs.1,hs.2.1,hr _ hs.2.2.1,hs.2.2.2.1,hr _ hs.2.2.2.2⟩
  rename_i h2
  rw [if_neg h2] at hs;split
  ·rename_i h3
   rw [if_pos h3] at hs;simp only [Bool.and_eq_true] at hs ⊢;exact ⟨hr _ hs.1,a0 _ hs.2.1,a0 _ hs.2.2⟩
  rename_i h3
  rw [if_neg h3] at hs;split
  ·rename_i h4
   rw [if_pos h4] at hs;exact a0 _ hs
  rename_i h4
  rw [if_neg h4] at hs;cases hs
theorem stOk_up_all {n n' m d:Nat} (h:n≤n') {l:List St} (hl:l.all (stOk n m d)=true):l.all (stOk n' m d)=true:=by
 rw [List.all_eq_true] at hl ⊢;exact fun x hx=>stOk_up h (hl x hx)
theorem exOk_var {n m d:Nat} {v:Nat} (h:v < n):exOk n m (d+1) (varE v)=true:=by
 simp only [exOk,varE,Ex.kids,Ex.k,Ex.v,arity,limitOf];simp
 omega
mutual
theorem linE_ok (ys:List Int) (hy:LabsP ys) {pc:Int} (hpc:IsLb pc) (m:Nat):∀ (e:Ex) (d:Nat) (S:LSt),exOk S.1.length m d e=true→exOk (linE ys pc e S).1.1.length m d (linE ys pc e S).2=true
 | .mk k v l,0,S,h=>by cases h
 | .mk k v l,d+1,S,h=>by
  have hg:=linEs_gr ys hy hpc l S;have hk:=linEs_ok ys hy hpc m l d S (exOk_kids h);simp only [linE];split
  ·exact exOk_var (by simp [rdOut])
  have h2:=exOk_up hg.up h;simp only [exOk,Bool.and_eq_true,Ex.kids,Ex.k,Ex.v,linEs_len] at h2 ⊢;refine ⟨h2.1,h2.2.1,h2.2.2.1,by rw [List.all_eq_true];exact hk,?_⟩;have h5:=h2.2.2.2.2
  cases hk3:(k == 3) with
  | false=>rfl
  | true =>
   rw [hk3] at h5
   cases l with
   | nil=>simp at h5
   | cons x l2 =>
    simp only [Bool.not_true,Bool.false_or] at h5 ⊢;have hx:exOk S.1.length m d x=true:=exOk_kids h x (by simp)
    cases d with
    | zero=>cases hx
    | succ d2 =>
    obtain ⟨xk,xv,xl⟩:=x;have h6:xk=1∨xk=2:=by simpa [atomK,Ex.k] using h5
    have h7:xl=[]:=by
     simp only [exOk,Bool.and_eq_true,Ex.kids,Ex.k] at hx;have h8:=hx.1;rcases h6 with rfl | rfl <;> simp [arity] at h8 <;> exact h8
    subst h7;rcases h6 with rfl | rfl <;> simp [linEs,linE,atomK,Ex.k]
theorem linEs_ok (ys:List Int) (hy:LabsP ys) {pc:Int} (hpc:IsLb pc) (m:Nat):∀ (l:List Ex) (d:Nat) (S:LSt),(∀ x ∈ l,exOk S.1.length m d x=true)→∀ x ∈ (linEs ys pc l S).2,exOk (linEs ys pc l S).1.1.length m d x=true
 | [],d,S,h=>by intro x hx;simp [linEs] at hx
 | e::l,d,S,h=>by
  have h1:=linE_ok ys hy hpc m e d S (h e (by simp));have g1:=linE_gr ys hy hpc e S;have g2:=linEs_gr ys hy hpc l (linE ys pc e S).1;have h2:=linEs_ok ys hy hpc m l d (linE ys pc e S).1 (fun x hx=>exOk_up g1.up (h x (by simp [hx])));intro x hx;simp only [linEs,List.mem_cons] at hx ⊢;rcases hx with rfl | hx
  ·exact exOk_up g2.up h1
  exact h2 x hx
end
theorem stoR_gr (ys:List Int) (hy:LabsP ys) {pc:Int} (hpc:IsLb pc) (mask t:Int) (ix e:Ex) (S:LSt):GrL ys S (stoR ys mask pc t ix e S) 6:=
 ⟨by simp [stoR],by simp [stoR],by simp [stoR];omega,fun h=>h.snoc (lbo_lab (labE_lab h hy e) hpc).1⟩
theorem ifR_gr (ys:List Int) {l:Int} (hl:IsLb l) (mask:Int) (e:Ex) (S:LSt):GrL ys S (ifR mask l e S) 4:=
 ⟨by simp [ifR],by simp [ifR],by simp [ifR];omega,fun h=>(h.snoc hl).snoc hl⟩
theorem GrL.one {ys:List Int} {S S':LSt} {n m:Nat} (h:GrL ys S S' n) (s:St) (hm:n+1≤m):GrL ys S (S'.1,S'.2++[s]) m:=
 ⟨h.up,by have:=h.lo;simp;omega,by have:=h.sum;simp;omega,h.lab⟩
theorem GrL.inn {ys:List Int} {xs:List Int} {Lo:List St} {S':LSt} {n m:Nat} (h:GrL ys (xs,[]) S' n) (s:St) (hm:n+1≤m):GrL ys (xs,Lo) (S'.1,Lo++[s]) m:=
 ⟨h.up,by simp,by have:=h.sum;simp at this ⊢;omega,h.lab⟩
theorem GrL.own {ys:List Int} {xs:List Int} {Lo:List St} {S':LSt} {n:Nat} (h:GrL ys (xs,[]) S' n):GrL ys (xs,Lo) (S'.1,Lo) n:=
 ⟨h.up,by simp,by have:=h.sum;simp at this ⊢;omega,h.lab⟩
mutual
theorem linS_gr (ys:List Int) (hy:LabsP ys):∀ (s:St) (mask pc:Int) (S:LSt),IsLb pc→LabsP S.1→GrL ys S (linS ys s mask pc S) (20*stN1 s+20)
 | .mk k t ix val c body els,mask,pc,S,hpc,hx=>by
  have hN:stN1 (.mk k t ix val c body els)=((exN ix+exN val)+stNs body)+stNs els:=rfl;have hv:=linE_gr ys hy hpc val S;have hp2:=(lbo_lab hpc (labE_lab hx hy val)).1;simp only [linS];split
  ·split
   ·have h1:=hv.trans (ifR_gr ys hp2 mask (linE ys pc val S).2 _) (k:=5*exN val+9) (by omega);have h2:=linB_gr ys hy body ((linE ys pc val S).1.1.length:Nat) (lbo pc (labE S.1 ys val)) (ifR mask (lbo pc (labE S.1 ys val)) (linE ys pc val S).2 (linE ys pc val S).1) hp2 (h1.lab hx);have h12:=h1.trans h2 (k:=5*exN val+9+20*stNs body) (by omega);exact h12.trans (linB_gr ys hy els _ _ _ hp2 (h12.lab hx)) (by omega)
   have h2:=linB_gr ys hy body mask (lbo pc (labE S.1 ys val)) ((linE ys pc val S).1.1,[]) hp2 (hv.lab hx);have h3:=linB_gr ys hy els mask (lbo pc (labE S.1 ys val)) ((linB ys body mask (lbo pc (labE S.1 ys val)) ((linE ys pc val S).1.1,[])).1,[]) hp2 (h2.lab (hv.lab hx));have h4:=(hv.trans (h2.own (Lo:=(linE ys pc val S).1.2)) (k:=5*exN val+5+20*stNs body) (by omega)).trans (h3.own (Lo:=(linE ys pc val S).1.2)) (k:=5*exN val+5+20*stNs body+20*stNs els) (by omega);exact h4.one _ (by omega)
  split
  ·have h2:=linB_gr ys hy body mask pc (S.1,[]) hpc hx;exact h2.inn (Lo:=S.2) _ (by omega)
  split
  ·exact hv.one _ (by omega)
  split
  ·exact hv.one _ (by omega)
  split
  ·exact hv.trans (stoR_gr ys hy hpc mask t ix _ _) (by omega)
  exact hv.one _ (by omega)
theorem linB_gr (ys:List Int) (hy:LabsP ys):∀ (l:List St) (mask pc:Int) (S:LSt),IsLb pc→LabsP S.1→GrL ys S (linB ys l mask pc S) (20*stNs l)
 | [],_,_,S,_,_=>GrL.refl ys S
 | s::l,mask,pc,S,hpc,hx=>by
  have h1:=linS_gr ys hy s mask pc S hpc hx;have h2:=linB_gr ys hy l mask pc (linS ys s mask pc S) hpc (h1.lab hx);simp only [linB,stNs];exact h1.trans h2 (by omega)
end
def FreP (xs:List Int) (l:Int) (vy vz vb:Value) (w:World) (r:Ending) (w':World):Prop:=∃ (p:Option Addr) (c:Nat),r=.returned (.tuple #[.agg #[.slice p (xs.length+1) c,vy,vz,vb],.int .i64 xs.length])∧w'.ownsRow w.heap.size 3 1 (.slice p (xs.length+1) c) (xs.length+1) (ints (xs++[l]))∧Below w.heap.size w w'
set_option maxHeartbeats 6400000 in
set_option maxRecDepth 100000 in
theorem l5Fresh_any (xs:List Int) (l:Int) (va:Value) (py pz pb:Option Addr) (ny nz nb cy cz cb:Nat) (w:World) (hr:Reads w 1 va xs.length (ints xs)) (hn:xs.length≤1048576):Calls Tryz.prog 124 #[.agg #[va,.slice py ny cy,.slice pz nz cz,.slice pb nb cb],.int .i64 l] w fun r w'=>FreP xs l (.slice py ny cy) (.slice pz nz cz) (.slice pb nb cb) w r w':=by
 obtain ⟨pv,cv,rfl⟩:=reads_shape hr;have p1:=Hi (fun W (hW:Below w.heap.size w W)=>hr.below hW);have HW:=Hi (IntWalk.i64_in (xs.length:Int) (by omega));clear hr;go_enter Tryz.func124,Tryz.ntmps124
 go_upto_region 1 with (fail)
 generalize hnw:World.alloc _ _=w1;have hb:=nmh hnw;clear hnw
 have u0:=hb.size;simp only [Sa] at u0;have c0:=Bb (Bk.al (Bk.n4 (w.heap.size)) (.cells #[.slice none 0 0,.slice none 0 0,.slice none 0 0,.slice none 0 0] 98)) hb;have m0:=Bb (Bk.n4 (w.heap.size+1)) hb;have i0:=btr (bal (bal (Bs w) (.cells #[.slice pv xs.length cv,.slice py ny cy,.slice pz nz cz,.slice pb nb cb] 98)) (.cells #[.slice none 0 0,.slice none 0 0,.slice none 0 0,.slice none 0 0] 98)) hb;clear hb;have g2:=Bk.lz c0;have h2:=Bk.lz m0;obtain ⟨v1,b2⟩:=Bk.cf c0 0 rfl;go_wp2_with (at_builtin;refine wpList_aps tInts rfl _ _ rfl (w1.heap.size) _ 0 [] rfl (World.ownsRow_lit (base:=(w1).heap.size) (e:=3) (size:=1) (w1) #[] 0 Lr (by unfold maxLen;omega) (by simp)) _ xs.length (ints xs) rfl (p1.out _ (bal i0 (.cells #[] 3))) (one_ints xs) (by omega) (by first | omega | (simp only [Sa,Ss];omega)) ?_)
 intro vA w2 r0 hc t0 _;try simp only [Nat.zero_add,List.nil_append] at r0
 obtain ⟨i2,j2,rfl⟩:=Oh r0;have s0:∀ q,(Value.slice (some ⟨w1.heap.size,0,none⟩) 0 0).ownBlock=some q→q=w1.heap.size:=fun q h=>(Si h).symm
 have n0:=hc.size;simp only [Sa] at n0;clear b2 v1;replace c0:=Bk.keep (Bk.al c0 _) hc (fun h=>by have:=s0 _ h;omega);replace m0:=Bk.keep (Bk.al m0 _) hc (fun h=>by have:=s0 _ h;omega);replace i0:=(bal i0 _).trans (hc.below w.heap.size (by have:=(bal i0 (.cells #[] 3)).size;omega) (fun gq hgq h=>by have:=s0 gq h;omega));clear hc;clear t0 s0;have k0:=r0.lt;try simp only [Sa] at k0
 go_wp2_with (at_builtin;refine wpList_aps tInts rfl _ _ rfl (w1.heap.size) _ xs.length (ints xs) rfl (Ob r0 (bal (Bs _) (.cells #[.int .i64 l] 3))) _ 1 (ints [l]) rfl ((Ro (World.ownsRow_lit (base:=(w2).heap.size) (e:=3) (size:=1) (w2) #[.int .i64 l] 1 Lr (by unfold maxLen;omega) (by simp)) (by simp))) (one_ints [l]) (by omega) (by first | omega | (simp only [Sa,Ss];omega)) ?_)
 intro vA w3 b0 hc t0 _;obtain ⟨g0,h0,rfl⟩:=Oh b0;have o0:=hc.size;simp only [Sa] at o0;replace c0:=Bk.keep (Bk.al c0 _) hc (fun h=>by have:=k0 _ h;omega);replace m0:=Bk.keep (Bk.al m0 _) hc (fun h=>by have:=k0 _ h;omega);have a0:w3.cell? ⟨w2.heap.size,0,none⟩=some (.int .i64 l):=Gc hc (Wc (by simp) (by rfl)) (fun h=>by have:=k0 _ h;omega);have j0:w3.frozen? ⟨w2.heap.size,0,none⟩=false:=Gf hc (by simp <;> omega) (Fn (by simp)) (fun h=>by have:=k0 _ h;omega);replace i0:=(bal i0 _).trans (hc.below w.heap.size (by have:=(bal i0 (.cells #[.int .i64 l] 3)).size;omega) (fun gq hgq h=>by have:=k0 gq h;omega));clear hc;have l0:=b0.lt;try simp only [Sa] at l0
 clear t0 r0;have q1:=Lc a0;obtain ⟨v0,e1⟩:=Bk.cf c0 0 rfl;go_upto_region 2 with (fail)
 generalize hnw:World.setCell _ _ _=w4;have d0:=nmh hnw;clear hnw
 have p0:=d0.size;simp only [Ss] at p0;clear e1 v0;replace j0:=Kf d0 (Lc (Nn a0 _)) (Fs j0 _);replace a0:=Kc d0 (Nn a0 _);replace b0:=Ob (Oe b0 _ _ (fun h=>by have:=l0 _ h;omega) _) d0;replace i0:=btr (bst i0 (w.heap.size) 0 (by omega) (.slice g0 (xs.length+1) h0)) d0;replace c0:Bk w4 (w.heap.size) [.slice g0 (xs.length+1) h0,.slice py ny cy,.slice pz nz cz,.slice pb nb cb]:=Bb (Bk.at c0 0 (.slice g0 (xs.length+1) h0)) d0;refine Rgh (S:=fun W'=>W'.cell? ⟨w.heap.size,0,none⟩=some (.slice g0 (xs.length+1) h0)∧W'.cell? ⟨w.heap.size,1,none⟩=some (.slice py ny cy)∧W'.cell? ⟨w.heap.size,2,none⟩=some (.slice pz nz cz)∧W'.cell? ⟨w.heap.size,3,none⟩=some (.slice pb nb cb)) (fun W d=>Bk.d4 c0 d) (fun w5 e0 hHeld=>?_);have n1:=e0.size;replace j0:=Kf e0 (Lc a0) j0;replace a0:=Kc e0 a0;replace b0:=Ob b0 e0;replace i0:=btr i0 e0;refine (tq 0 16 rfl rfl ?_ ?_ (tq 1 17 rfl rfl ?_ ?_ (tq 2 18 rfl rfl ?_ ?_ (tq 3 19 rfl rfl ?_ ?_ (tq 4 20 rfl rfl ?_ ?_ (tq 5 21 rfl rfl ?_ ?_ ?_))))));iterate 6 (rotate_left;intro W' hSw;(try dsimp only at hSw);go_simp;try with_reducible rfl)
 try simp only [Ep]
 refine Rdy 6 rfl (fun K hK=>?_);replace c0:=Bb c0 e0;obtain ⟨w0,f1,x0,g1,y0,h1,z0,i1⟩:=Bk.h4 c0;replace m0:=Bb (Bb (Bk.nn m0 _) d0) e0;obtain ⟨a1,j1,b1,k1,c1,l1,d1,m1⟩:=Bk.h4 m0;go_simp
 generalize hnw:World.setCell _ _ _=w6;have f0:=nmh hnw;clear hnw
 have q0:=f0.size;simp only [Ss] at q0;clear f1 w0 g1 x0 h1 y0 i1 z0 j1 a1 k1 b1 l1 c1 m1 d1;replace j0:=Kf f0 (Lc (Nn (Nn (Nn (Nn a0 _) _) _) _)) (Fs (Fs (Fs (Fs j0 _) _) _) _);replace a0:=Kc f0 (Nn (Nn (Nn (Nn a0 _) _) _) _);replace b0:=Ob (Oe (Oe (Oe (Oe b0 _ _ (fun h=>by have:=l0 _ h;omega) _) _ _ (fun h=>by have:=l0 _ h;omega) _) _ _ (fun h=>by have:=l0 _ h;omega) _) _ _ (fun h=>by have:=l0 _ h;omega) _) f0;replace i0:=btr (bst (bst (bst (bst i0 (w.heap.size+1) 0 (by omega) (.slice g0 (xs.length+1) h0)) (w.heap.size+1) 1 (by omega) (.slice py ny cy)) (w.heap.size+1) 2 (by omega) (.slice pz nz cz)) (w.heap.size+1) 3 (by omega) (.slice pb nb cb)) f0;replace c0:=Bb (Bk.nn (Bk.nn (Bk.nn (Bk.nn c0 _) _) _) _) f0;refine hK.out _ _ (Bk.e4 c0) (fun hHeld=>?_);clear hK K;try simp only [Ep]
 refine (tq 7 5 rfl rfl ?_ ?_ ?_);(rotate_left;intro W' hSw;(try dsimp only at hSw);go_simp;try with_reducible rfl)
 try simp only [Ep]
 refine Dn ?_;clear hHeld;have o1:=Hi (Om (base':=w.heap.size) b0 (by omega));replace m0:=Bb (Bk.t4 m0 (.slice g0 (xs.length+1) h0) (.slice py ny cy) (.slice pz nz cz) (.slice pb nb cb)) f0;obtain ⟨r1,x1,s1,y1,t1,z1,u1,a2⟩:=Bk.h4 m0;obtain ⟨c2,d2,e2,f2⟩:=Bk.g4 m0;have tt:=i0;go_wp2
 exact bodyPost_ret (v:=.tuple #[.agg #[.slice g0 (xs.length+1) h0,.slice py ny cy,.slice pz nz cz,.slice pb nb cb],.int .i64 xs.length]) (by simp [results,Tryz.results124,go_sem,c2,d2,e2,f2,HW.out]) rfl (by exact (by unfold FreP;exact ⟨_,_,rfl,by rw [ints_append];exact o1.out,tt⟩))
end Go.Proofs.YtlckklglbodgbaaGreat
