/-
 Parts of the proofs of the laws FnPairMemory,FnSplitMemory.
-/
import Derived.Test.YtlckklglbodgbaaGreatLI5
set_option linter.all false
namespace Go.Proofs.YtlckklglbodgbaaGreat
open Go.RowKit
mutual
def cN:St→Nat
 | .mk _ _ _ _ _ b e=>1+cNs b+cNs e
def cNs:List St→Nat
 | []=>0
 | s::l=>cN s+cNs l
end
theorem exCnt_ok {n m:Nat}:∀ {d:Nat} {e:Ex},exOk n m d e=true→exCnt d e=1+exN e:=by
 intro d
 induction d with
 | zero=>intro e h;cases h
 | succ d ih =>
  intro e h;obtain ⟨k,v,l⟩:=e;have hk:=exOk_kids h
  have a0:∀ l:List Ex,(∀ x ∈ l,exOk n m d x=true)→(l.map (exCnt d)).sum=exNs l:=by
   intro l
   induction l with
   | nil=>intro _;rfl
   | cons x l ihl =>
    intro hx;have h1:=ih (hx x (by simp));have h2:=ihl (fun y hy=>hx y (by simp [hy]));simp only [List.map_cons,List.sum_cons,exNs];omega
  have h3:=a0 l hk;show 1+(l.map (exCnt d)).sum=1+((exNs l:Nat):Int)
  omega
theorem exRight_n {n m:Nat} {e:Ex} (h:exRight n m e=true):exOk n m 5 e=true∧exN e≤14:=by
 unfold exRight at h
 simp only [Bool.and_eq_true,decide_eq_true_eq] at h;have:=exCnt_ok h.1
 exact ⟨h.1,by omega⟩
theorem atom_n {n m d:Nat} {x:Ex} (h:exOk n m d x=true) (ha:atomK x.k=true):exN x=0:=by
 cases d with
 | zero=>cases h
 | succ d =>
  obtain ⟨k,v,l⟩:=x;have h6:k=1∨k=2:=by simpa [atomK,Ex.k] using ha
  simp only [exOk,Bool.and_eq_true,Ex.kids,Ex.k] at h;have h8:=h.1;have h7:l=[]:=by rcases h6 with rfl | rfl <;> simp [arity] at h8 <;> exact h8
  subst h7;rfl
theorem read_atom {n m d:Nat} {v:Int} {l:List Ex} (h:exOk n m (d+1) (.mk 3 v l)=true):exN (hdE l)=0:=by
 have hp:=exRead_pos rfl h;have hk:=exOk_kids h;simp only [exOk,Bool.and_eq_true,Ex.kids,Ex.k] at h;have h5:=h.2.2.2.2
 cases l with
 | nil=>simp at hp
 | cons x l =>
  have h6:atomK x.k=true:=by simp only [beq_self_eq_true,Bool.not_true,Bool.false_or] at h5;exact h5
  exact atom_n (hk x (by simp)) h6
theorem hitE_n (i:Ex) (k:Int):exN (hitE i k)=4+exN i:=by simp only [hitE,exN,exNs];omega
theorem mkE_n (m:Int) (e f:Ex):exN (mkE m e f)≤3+exN e+exN f:=by
 unfold mkE
 split
 ·omega
 simp only [exN,exNs];omega
theorem rdSt_n (a v:Int) (i:Ex) (k:Nat):1+stN1 (rdSt a v i k)≤9+exN i:=by
 unfold rdSt
 split
 ·simp [asgS,stN1,zrE,rdE,cstE,exN,exNs,stNs];omega
 simp only [asgS,stN1,zrE,rdE,cstE,varE,exN,exNs,stNs,hitE_n];omega
theorem rdOut_n (ys:List Int) (pc:Int) (S:LSt) (a:Int) (i e:Ex) (hi:exN i=0):stNs (rdOut ys pc S a i e).1.2≤stNs S.2+36∧exN (rdOut ys pc S a i e).2=0:=by
 have h:=fun k=>rdSt_n a S.1.length i k
 have h0:=h 0;have h1:=h 1;have h2:=h 2;have h3:=h 3;refine ⟨?_,by simp [rdOut,varE,exN,exNs]⟩;have e:(List.range 4).map (rdSt a S.1.length i)=[rdSt a S.1.length i 0,rdSt a S.1.length i 1,rdSt a S.1.length i 2,rdSt a S.1.length i 3]:=rfl;simp only [rdOut,e,stNs_app,stNs];omega
mutual
theorem linE_n (ys:List Int) (pc:Int) (n m:Nat):∀ (e:Ex) (d:Nat) (S:LSt),exOk n m d e=true→stNs (linE ys pc e S).1.2≤stNs S.2+36*(exN e+1)∧exN (linE ys pc e S).2≤exN e
 | .mk k v l,0,S,h=>by cases h
 | .mk k v l,d+1,S,h=>by
  have h1:=linEs_n ys pc n m l d S (exOk_kids h);have e0:exN (.mk k v l)=exNs l:=rfl;simp only [linE];split
  ·rename_i hc
   have hk:k=3:=by simp only [Bool.and_eq_true,beq_iff_eq] at hc;exact hc.1
   subst hk;have h2:=rdOut_n ys pc (linEs ys pc l S).1 v (hdE l) (.mk 3 v l) (read_atom h);exact ⟨by omega,by omega⟩
  have e1:exN (.mk k v (linEs ys pc l S).2)=exNs (linEs ys pc l S).2:=rfl;exact ⟨by show stNs (linEs ys pc l S).1.2≤_;omega,by show exN (.mk k v (linEs ys pc l S).2)≤_;omega⟩
theorem linEs_n (ys:List Int) (pc:Int) (n m:Nat):∀ (l:List Ex) (d:Nat) (S:LSt),(∀ x ∈ l,exOk n m d x=true)→stNs (linEs ys pc l S).1.2≤stNs S.2+36*exNs l∧exNs (linEs ys pc l S).2≤exNs l
 | [],d,S,h=>by simp [linEs]
 | e::l,d,S,h=>by
  have h1:=linE_n ys pc n m e d S (h e (by simp));have h2:=linEs_n ys pc n m l d (linE ys pc e S).1 (fun x hx=>h x (by simp [hx]));simp only [linEs,exNs];exact ⟨by omega,by omega⟩
end
theorem stoS_n (t n:Int) (ix:Ex) (mask:Int) (k:Nat):1+stN1 (stoS t n ix mask k)≤15+exN ix:=by
 have:=mkE_n mask (hitE ix k) (cstE 0)
 have e:exN (cstE 0)=0:=rfl;have e2:=hitE_n ix k;simp only [stoS,stN1,exN,exNs,stNs,varE,rdE,cstE] at *;omega
theorem stoR_n (ys:List Int) (mask pc t:Int) (ix e:Ex) (S:LSt) (hi:exN ix=0):stNs (stoR ys mask pc t ix e S).2≤stNs S.2+exN e+61:=by
 have h:=fun k=>stoS_n t S.1.length ix mask k
 have h0:=h 0;have h1:=h 1;have h2:=h 2;have h3:=h 3;have e1:(List.range 4).map (stoS t S.1.length ix mask)=[stoS t S.1.length ix mask 0,stoS t S.1.length ix mask 1,stoS t S.1.length ix mask 2,stoS t S.1.length ix mask 3]:=rfl;have e2:stN1 (asgS S.1.length e)=exN e:=by simp [asgS,stN1,zrE,exN,exNs,stNs]
 simp only [stoR,e1,stNs_app,stNs,e2];omega
theorem ifR_n (mask l:Int) (e:Ex) (S:LSt):stNs (ifR mask l e S).2≤stNs S.2+exN e+20:=by
 have h1:=mkE_n mask e (cstE 0);have h2:=mkE_n mask (.mk 9 0 [varE S.1.length,cstE 0]) (cstE 0);have e0:exN (cstE 0)=0:=rfl;have e1:exN (.mk 9 0 [varE S.1.length,cstE 0])=2:=rfl;have e2:∀ v x,stN1 (asgS v x)=exN x:=fun v x=>by simp [asgS,stN1,zrE,exN,exNs,stNs]
 simp only [ifR,stNs_app,stNs,e2];omega
mutual
theorem linS_n (ys:List Int) (n m:Nat):∀ (s:St) (d:Nat) (mask pc:Int) (S:LSt),stOk n m d s=true→stNs (linS ys s mask pc S).2≤stNs S.2+1000*cN s
 | .mk k t ix val c body els,0,mask,pc,S,h=>by cases h
 | .mk k t ix val c body els,d+1,mask,pc,S,h=>by
  have hc0:cN (.mk k t ix val c body els)=1+cNs body+cNs els:=rfl;have z0:exN zrE=0:=rfl;simp only [stOk,Bool.and_eq_true] at h;have hb:=h.2;simp only [linS];by_cases h3:k=3
  ·subst h3;rw [if_pos rfl];have hb2:exRight n m val=true∧body.all (stOk n m d)=true∧els.all (stOk n m d)=true:=by simpa using hb
   obtain ⟨hv,a0,c0⟩:=hb2;have b0:=exRight_n hv;have he:=linE_n ys pc n m val 5 S b0.1;split
   ·have h4:=ifR_n mask (lbo pc (labE S.1 ys val)) (linE ys pc val S).2 (linE ys pc val S).1;have h5:=linB_n ys n m body d ((linE ys pc val S).1.1.length:Nat) (lbo pc (labE S.1 ys val)) (ifR mask (lbo pc (labE S.1 ys val)) (linE ys pc val S).2 (linE ys pc val S).1) (List.all_eq_true.1 a0);have h6:=linB_n ys n m els d ((linE ys pc val S).1.1.length+1:Nat) (lbo pc (labE S.1 ys val)) (linB ys body ((linE ys pc val S).1.1.length:Nat) (lbo pc (labE S.1 ys val)) (ifR mask (lbo pc (labE S.1 ys val)) (linE ys pc val S).2 (linE ys pc val S).1)) (List.all_eq_true.1 c0);omega
   have h5:=linB_n ys n m body d mask (lbo pc (labE S.1 ys val)) ((linE ys pc val S).1.1,[]) (List.all_eq_true.1 a0);have h6:=linB_n ys n m els d mask (lbo pc (labE S.1 ys val)) ((linB ys body mask (lbo pc (labE S.1 ys val)) ((linE ys pc val S).1.1,[])).1,[]) (List.all_eq_true.1 c0);simp only [stNs_app,stNs,stN1] at *;omega
  rw [if_neg h3];by_cases h4:k=4
  ·subst h4;rw [if_pos rfl];have a0:body.all (stOk n m d)=true:=by simpa using hb
   have h5:=linB_n ys n m body d mask pc (S.1,[]) (List.all_eq_true.1 a0);simp only [stNs_app,stNs,stN1] at *;omega
  rw [if_neg h4]
  have hval:exRight n m val=true∧(k=2→exN ix=0):=by
   by_cases h1:(k == 1||k == 5)=true
   ·rw [if_pos h1] at hb;simp only [Bool.and_eq_true] at hb;refine ⟨hb.2.2,fun e=>?_⟩;subst e;simp at h1
   rw [if_neg h1] at hb;by_cases h2:(k == 2)=true
   ·rw [if_pos h2] at hb;simp only [Bool.and_eq_true] at hb;exact ⟨hb.2.2.2.2,fun _=>atom_n (exRight_n hb.2.2.1).1 hb.2.2.2.1⟩
   rw [if_neg h2,if_neg (by simpa using h3),if_neg (by simpa using h4)] at hb;cases hb
  have b0:=exRight_n hval.1;have he:=linE_n ys pc n m val 5 S b0.1;by_cases h5:k=5
  ·rw [if_pos h5];simp only [stNs_app,stNs,stN1] at *;omega
  rw [if_neg h5];by_cases h1:k=1
  ·rw [if_pos h1];have hm:=mkE_n mask (linE ys pc val S).2 (varE t);have ev:exN (varE t)=0:=rfl;simp only [stNs_app,stNs,stN1,asgS] at *;omega
  rw [if_neg h1]
  have f0:k=2:=by
   have d0:=hb;by_cases h2:k=2
   ·exact h2
   simp [h1,h2,h3,h4,h5] at d0
  have e0:=hval.2 f0;split
  ·have:=stoR_n ys mask pc t ix (linE ys pc val S).2 (linE ys pc val S).1 e0
   omega
  have hm:=mkE_n mask (linE ys pc val S).2 (rdE t ix);have er:exN (rdE t ix)=1+exN ix:=by simp only [rdE,exN,exNs];omega
  simp only [stNs_app,stNs,stN1] at *;omega
theorem linB_n (ys:List Int) (n m:Nat):∀ (l:List St) (d:Nat) (mask pc:Int) (S:LSt),(∀ x ∈ l,stOk n m d x=true)→stNs (linB ys l mask pc S).2≤stNs S.2+1000*cNs l
 | [],_,_,_,S,_=>by simp [linB,cNs]
 | s::l,d,mask,pc,S,h=>by
  have h1:=linS_n ys n m s d mask pc S (h s (by simp));have h2:=linB_n ys n m l d mask pc (linS ys s mask pc S) (fun x hx=>h x (by simp [hx]));simp only [linB,cNs];omega
end
theorem cNs_sz {n m:Nat}:∀ (d:Nat) (l:List St),l.all (stOk n m d)=true→(cNs l:Int)=szB d l
 | 0,l,h=>by
  cases l with
  | nil=>rfl
  | cons s l=>simp [stOk] at h
 | 1,l,h=>by
  induction l with
  | nil=>rfl
  | cons s l ih =>
   simp only [List.all_cons,Bool.and_eq_true] at h;have h1:=stOk_bodies h.1;have h2:=ih h.2
   have hz:∀ b:List St,b.all (stOk n m 0)=true→b=[]:=fun b hb=>by
    cases b with
    | nil=>rfl
    | cons x b=>simp [stOk] at hb
   obtain ⟨k,t,ix,val,c,body,els⟩:=s;have e1:=hz _ h1.1;have e2:=hz _ h1.2;simp only [St.body,St.els] at e1 e2;subst e1 e2;simp only [szB,cNs,cN,List.length_cons] at *;omega
 | d+2,l,h=>by
  induction l with
  | nil=>rfl
  | cons s l ih =>
   simp only [List.all_cons,Bool.and_eq_true] at h;have h1:=stOk_bodies h.1;have h2:=ih h.2;have hb:=cNs_sz (d+1) s.body h1.1;have he:=cNs_sz (d+1) s.els h1.2;obtain ⟨k,t,ix,val,c,body,els⟩:=s;simp only [St.body,St.els] at hb he;simp only [szB,cNs,cN,List.length_cons,List.map_cons,List.sum_cons,St.body,St.els] at *;omega
mutual
theorem stOk_n (n m:Nat):∀ (s:St) (d:Nat),stOk n m d s=true→stN1 s+1≤30*cN s
 | .mk k t ix val c body els,0,h=>by cases h
 | .mk k t ix val c body els,d+1,h=>by
  have hc0:cN (.mk k t ix val c body els)=1+cNs body+cNs els:=rfl;have hN:stN1 (.mk k t ix val c body els)=((exN ix+exN val)+stNs body)+stNs els:=rfl;have h1:=stOk_bodies h;have hb:=stOks_n n m body d (List.all_eq_true.1 h1.1);have he:=stOks_n n m els d (List.all_eq_true.1 h1.2)
  have hn:∀ e,noneE e=true→exN e=0:=fun e hx=>by
   obtain ⟨k,v,l⟩:=e;simp only [noneE,Bool.and_eq_true,Ex.kids] at hx;obtain rfl:=List.eq_nil_of_length_eq_zero (of_decide_eq_true hx.2.2);rfl
  have key:exN ix+exN val≤28:=by
   by_cases k1:(k == 1||k == 5)=true
   ·rw [stOk_as k1] at h;simp only [Bool.and_eq_true] at h;obtain ⟨⟨_,_,_,_,g5,g6⟩,_⟩:=h;have:=(exRight_n g6).2;have:=hn _ g5;omega
   by_cases k2:(k == 2)=true
   ·rw [stOk_st k2] at h;simp only [Bool.and_eq_true] at h;obtain ⟨⟨_,_,_,_,g5,_,g7⟩,_⟩:=h;have:=(exRight_n g7).2;have:=(exRight_n g5).2;omega
   by_cases k3:(k == 3)=true
   ·rw [stOk_if k3] at h;simp only [Bool.and_eq_true] at h;obtain ⟨⟨_,_,g5,g6⟩,_⟩:=h;have:=(exRight_n g6).2;have:=hn _ g5;omega
   by_cases k4:(k == 4)=true
   ·rw [stOk_re k4] at h;simp only [Bool.and_eq_true] at h;obtain ⟨⟨_,_,_,g4,g5⟩,_⟩:=h;have:=hn _ g4;have:=hn _ g5;omega
   rw [stOk_no (by simp at k1 k2 k3 k4;omega)] at h;cases h
  omega
theorem stOks_n (n m:Nat):∀ (l:List St) (d:Nat),(∀ x ∈ l,stOk n m d x=true)→stNs l≤30*cNs l
 | [],_,_=>by simp [stNs]
 | s::l,d,h=>by
  have h1:=stOk_n n m s d (h s (by simp));have h2:=stOks_n n m l d (fun x hx=>h x (by simp [hx]));simp only [stNs,cNs];omega
end
theorem pvR_n {xs ys:List Int} {L:List St} (h:pvR xs ys L=true):cNs L≤60∧stNs L≤1800∧L.all (stOk xs.length ys.length 5)=true:=by
 rw [pvR_spec] at h;simp only [Bool.and_eq_true,decide_eq_true_eq] at h;have h1:=cNs_sz 5 L h.2.1;have h2:=stOks_n _ _ L 5 (List.all_eq_true.1 h.2.1);exact ⟨by omega,by omega,h.2.1⟩
theorem lin_n {xs ys zs:List Int} {L K:List St} (h:pvR xs ys L=true) {mask pc:Int} (hE:linB ys L mask pc (xs,[])=(zs,K)):stNs K≤60000:=by
 have h1:=pvR_n h;have h2:=linB_n ys _ _ L 5 mask pc (xs,[]) (List.all_eq_true.1 h1.2.2);rw [hE] at h2;have e:stNs (xs,([]:List St)).2=0:=rfl;have e2:stNs (zs,K).2=stNs K:=rfl;omega
theorem blk_pg {w:World} {lo hi:Nat} {p1 p2:Option Addr} {c1 c2 n m D:Nat} {vu:Value} {zs us:List Int} {L:List St} (h:PgR w lo hi (.slice p1 n c1) (.slice p2 m c2) vu n m zs us D L) (hv:pvR zs us L=true) :
  Calls Tryz.prog 81 #[.agg #[.slice p1 n c1,.slice p2 m c2,.slice none 0 0,.slice none 0 0],vu,.int .i64 (-1),.int .i64 0] w fun r w'=>∃ (xs:List Int) (K:List St) (q1 q2:Option Addr) (d1 d2:Nat),Hid (linB us L (-1) 0 (zs,[])=(xs,K))∧r=.returned (.agg #[.slice q1 xs.length d1,.slice p2 m c2,.slice none 0 0,.slice q2 K.length d2]) ∧
   Hid (Reads w' 1 (.slice q1 xs.length d1) xs.length (ints xs)∧Reads w' 1 (.slice p2 m c2) us.length (ints us)∧BlAt w' (fun _=>True) 6 (.slice q2 K.length d2) K∧xs.length≤1048000∧stNs K≤60000)∧Below w.heap.size w w':=by
 have hp:=pvR_labs hv;have hn:=pvR_n hv;have hr:=h.rows;obtain ⟨⟨rfl,rfl,ha,hb,c0⟩,d0,ht,a0⟩:=h
 have hS:LnS w w.heap.size (fun q=>lo≤q∧q < hi) (5+1) (.slice p1 zs.length c1) (.slice p2 us.length c2) (.slice none 0 0) zs us []:=
  ⟨Lr,fun q hq=>Nat.lt_of_lt_of_le hq.2 a0,RdB.of_own ha (fun q hq=>⟨hr q (Or.inl hq),fun e=>by cases e⟩),RdB.of_own hb (fun q hq=>⟨hr q (Or.inr hq),fun e=>by cases e⟩),fun q hq=>(by cases hq),⟨[],GrAt.nil⟩⟩
 refine (l5Block_ln p2 none c2 0 0 us hp.2.1 5 w.heap.size 5 (-1) 0 zs [] _ p1 none c1 0 w D vu L Lr hS hp.1 ⟨by decide,by decide⟩ (blAt_mono ht (fun q hq _=>⟨hq.1,fun e=>by cases e⟩)) hp.2.2.1 (by have:=hp.2.2.2.1;have:=hn.2.1;simp only [List.length_nil];omega)).mono ?_;rintro r w' ⟨xs,K,B',q1,q2,d1,d2,hE,rfl,hS',hC⟩;have hg:=linB_gr us hp.2.1 L (-1) 0 (zs,[]) ⟨by decide,by decide⟩ hp.1;rw [hE] at hg;have hs:xs.length+K.length≤zs.length+0+20*stNs L:=hg.sum;have hl:=hp.2.2.2.1;have hk:=lin_n hv hE;obtain ⟨rs,b0⟩:=hS'.g;exact ⟨xs,K,q1,q2,d1,d2,Hi hE,rfl,Hi ⟨hS'.a.1,hS'.b.1,b0.row (kpS 6) (fun _ _ _=>trivial) (fun _ _ _=>trivial),by have:=hn.2.1;omega,hk⟩,hC.c.below w.heap.size Lr (fun q hq e=>e.elim (fun e=>by cases e) (fun e=>by omega))⟩
def LinQ (zs us:List Int) (L:List St) (w:World) (r:Ending) (w':World):Prop:=∃ (p1 p2 p3:Option Addr) (n1 n2 n3 c1 c2 c3:Nat) (ok:Bool),r=.returned (.tuple #[.agg #[.slice p1 n1 c1,.slice p2 n2 c2,.slice p3 n3 c3],.bool ok]) ∧
 (ok=true→pvR zs us L=true∧∃ (xs:List Int) (K:List St) (hi:Nat),linB us L (-1) 0 (zs,[])=(xs,K)∧pvR xs us K=true∧n3=K.length∧PdR w' w.heap.size hi (.slice p1 n1 c1) (.slice p2 n2 c2) (.slice p3 n3 c3) n1 n2 xs us 6 K)∧Below w.heap.size w w'
set_option maxHeartbeats 6400000 in
set_option maxRecDepth 100000 in
theorem Linearize_any (xs ys:List Int) (A:Nat→Prop) (D:Nat) (va vb u:Value) (L:List St) (w:World) (hr:Reads w 1 va xs.length (ints xs)) (hs:Reads w 1 vb ys.length (ints ys)) (hx:BlAt w A D u L) (hn:stNs L≤1048576) :
  Calls Tryz.prog 46 #[.agg #[va,vb,u]] w fun r w'=>LinQ xs ys L w r w':=by
 obtain ⟨pv,cv,rfl⟩:=reads_shape hr;obtain ⟨pa,ca,rfl⟩:=reads_shape hs;obtain ⟨pu,cu,rfl⟩:=RowOf.shape hx;have HC:=Hi (fun W (hW:Below w.heap.size w W)=>CheckFlow_any xs ys A D _ _ _ L W (hr.below hW) (hs.below hW) (hx.below hW) hn);have HP:=Hi (fun (hv:pvR xs ys L=true) W (hW:Below w.heap.size w W)=>(l2Copy_any xs ys A D _ _ _ L W (hr.below hW) (hs.below hW) (hx.below hW) hn (by have:=(pvR_labs hv).2.2.2.1;omega) (by have:=(pvR_labs hv).2.2.2.2;omega)).mono (fun r w' hc=>hc.pg));clear hr hs hx hn;go_enter Tryz.func46,Tryz.ntmps46
 go_wp2_with fail
 refine (HC.out _ (bal (bal (Bs w) (.cells #[.slice pv xs.length cv,.slice pa ys.length ca,.slice pu L.length cu] 26)) (.cells #[.slice none 0 0,.slice none 0 0,.slice none 0 0] 26))).mono ?_;rintro e w1 ⟨c,a,rfl,t1,hb⟩;have t0:=hb.size;simp only [Sa] at t0;have s0:=Bb (Bk.al (Bk.n3 (w.heap.size)) (.cells #[.slice none 0 0,.slice none 0 0,.slice none 0 0] 26)) hb;have d0:=Bb (Bk.n3 (w.heap.size+1)) hb;have b0:=btr (bal (bal (Bs w) (.cells #[.slice pv xs.length cv,.slice pa ys.length ca,.slice pu L.length cu] 26)) (.cells #[.slice none 0 0,.slice none 0 0,.slice none 0 0] 26)) hb;clear hb;have h4:=Bk.lz s0;have i4:=Bk.lz d0;by_cases hcz:c=0
 ·subst hcz;have hv:=t1 rfl;have HV:=Hi hv;have u1:=pvR_labs hv;have g4:=u1.2.2.2.2;clear t1 hv u1;obtain ⟨l2,l3,y2,s3,u0,g1⟩:=Bk.h3 s0;go_wp2_with fail
  refine (HP.out HV.out _ b0).mono ?_;rintro e w2 ⟨p1,c1,p2,c2,p3,c3,rfl,hP,n0⟩;have b2:=Hi hP;clear hP;have v1:=n0.size;clear l3 l2 s3 y2 g1 u0;replace b0:=btr b0 n0;clear s0;go_upto_region 5 with (fail)
  generalize hnw:World.alloc _ _=w3;have g0:=nmh hnw;clear hnw
  have c0:=btr (bal (Bs w2) (.cells #[.slice p1 xs.length c1,.slice p2 ys.length c2,.slice p3 L.length c3] 26)) g0;have o0:=g0.size;simp only [Sa] at o0;have l0:=Bb (Bk.n3 (w2.heap.size)) g0;replace b0:=btr (bal b0 _) g0;have a0:=c0;clear c0;have e2:=Bk.lz l0;obtain ⟨v0,h1,w0,i1,x0,j1⟩:=Bk.h3 l0;go_wp2_with fail
  refine (blk_pg (b2.out.below a0) HV.out).mono ?_;rintro e w4 ⟨x1,K,q1,q2,d1,d2,HE,rfl,HR,j0⟩;have c0:=btr a0 j0;have y1:=j0.size;clear h1 v0 i1 w0 j1 x0;replace b0:=btr b0 j0;clear a0;have a0:=c0;clear c0;clear l0;clear a0;go_upto_region 6 with (fail)
  generalize hnw:World.alloc _ _=w5;have h0:=nmh hnw;clear hnw
  have c0:=btr (bal (Bs w4) (.cells #[.slice q1 x1.length d1,.slice p2 ys.length c2,.slice none 0 0,.slice q2 K.length d2] 98)) h0;have p0:=h0.size;simp only [Sa] at p0;have m0:=Bb (Bk.n4 (w4.heap.size)) h0;replace b0:=btr (bal b0 _) h0;have a0:=c0;clear c0;have f2:=Bk.lz m0;obtain ⟨y0,k1,z0,l1,a1,m1⟩:=Bk.f3 m0 0 1 3 rfl rfl rfl;go_wp2_with fail
  refine ((l2Copy_any x1 ys _ 6 _ _ _ K _ (HR.out.1.below a0) (HR.out.2.1.below a0) (HR.out.2.2.1.below a0) (by have:=HR.out.2.2.2.2;omega) (by have:=HR.out.2.2.2.1;omega) (by omega)).mono (fun r w' hc=>hc.pg)).mono ?_;rintro e w6 ⟨p4,c4,p5,c5,p6,c6,rfl,hQ,k0⟩;have r0:=Hi (PdR.mono (lo':=w.heap.size+1+1) hQ.pd (by omega));clear hQ;have c0:=btr a0 k0;have z1:=k0.size;clear k1 y0 l1 z0 m1 a1;replace b0:=btr b0 k0;clear a0;have a0:=c0;clear c0;clear m0;clear a0;go_upto_region 7 with (fail)
  generalize hnw:World.alloc _ _=w7;have i0:=nmh hnw;clear hnw
  have c0:=btr (bal (Bs w6) (.cells #[.slice p4 x1.length c4,.slice p5 ys.length c5,.slice p6 K.length c6] 26)) i0;have q0:=i0.size;simp only [Sa] at q0;replace d0:=Bb (Bk.al (Bb (Bb (Bk.al (Bb (Bb (Bk.al (Bb d0 n0) _) g0) j0) _) h0) k0) _) i0;have f0:=Bb (Bk.n3 (w6.heap.size)) i0;replace b0:=btr (bal b0 _) i0;have a0:=c0;clear c0;have g2:=Bk.lz f0;obtain ⟨b1,o1,e1,r1,f1,s1⟩:=Bk.h3 f0;go_wp2_with fail
  refine (sProgramValid_any _ _ x1 ys _ 6 _ K _ (r0.out.below a0).ra (r0.out.below a0).rb (r0.out.below a0).t (by have:=HR.out.2.2.2.2;omega)).mono ?_;rintro e w8 ⟨rfl,e0⟩;have c0:=btr a0 e0;have a2:=e0.size;clear o1 b1 r1 e1 s1 f1;replace b0:=btr b0 e0;clear a0;have a0:=c0;clear c0
  cases hpv:pvR x1 ys K with
  | false =>
   replace d0:=Bb d0 e0;obtain ⟨h2,z2,i2,a3,j2,b3⟩:=Bk.h3 d0;obtain ⟨u3,v3,x3⟩:=Bk.g3 (Bk.t3 d0 (.slice none 0 0) (.slice none 0 0) (.slice none 0 0));have tt:=(bst (bst (bst b0 (w.heap.size+1) 0 (by omega) (.slice none 0 0)) (w.heap.size+1) 1 (by omega) (.slice none 0 0)) (w.heap.size+1) 2 (by omega) (.slice none 0 0));go_wp2
   exact bodyPost_ret (v:=.tuple #[.agg #[.slice none 0 0,.slice none 0 0,.slice none 0 0],.bool false]) (by simp [results,Tryz.results46,go_sem,u3,v3,x3]) rfl (by exact (by unfold LinQ;exact ⟨none,none,none,0,0,0,0,0,0,false,rfl,(fun h=>by cases h),tt⟩))
  | true =>
   have HF:=Hi (PdR.mono (lo':=w.heap.size) ((((r0.out.below a0).keep (C1 (w.heap.size+1) (0) (.slice p4 x1.length c4)) (fun q hq (e:q=w.heap.size+1)=>by have:=hq.1;omega)).keep (C1 (w.heap.size+1) (1) (.slice p5 ys.length c5)) (fun q hq (e:q=w.heap.size+1)=>by have:=hq.1;omega)).keep (C1 (w.heap.size+1) (2) (.slice p6 K.length c6)) (fun q hq (e:q=w.heap.size+1)=>by have:=hq.1;omega)) (by omega));clear a0;replace d0:=Bb d0 e0;obtain ⟨k2,d3,m2,e3,o2,i3⟩:=Bk.h3 d0;replace f0:=Bb f0 e0;obtain ⟨r2,j3,s2,k3,t2,m3⟩:=Bk.h3 f0;obtain ⟨y3,z3,a4⟩:=Bk.g3 (Bk.t3 d0 (.slice p4 x1.length c4) (.slice p5 ys.length c5) (.slice p6 K.length c6));have tt:=(bst (bst (bst b0 (w.heap.size+1) 0 (by omega) (.slice p4 x1.length c4)) (w.heap.size+1) 1 (by omega) (.slice p5 ys.length c5)) (w.heap.size+1) 2 (by omega) (.slice p6 K.length c6));go_wp2
   exact bodyPost_ret (v:=.tuple #[.agg #[.slice p4 x1.length c4,.slice p5 ys.length c5,.slice p6 K.length c6],.bool true]) (by simp [results,Tryz.results46,go_sem,y3,z3,a4]) rfl (by exact (by unfold LinQ;exact ⟨p4,p5,p6,x1.length,ys.length,K.length,c4,c5,c6,true,rfl,(fun _=>⟨HV.out,x1,K,_,HE.out,hpv,rfl,HF.out⟩),tt⟩))
 have f4:(c != 0)=true:=by simpa using hcz
 obtain ⟨u2,o3,v2,q3,x2,r3⟩:=Bk.h3 d0;obtain ⟨b4,d4,e4⟩:=Bk.g3 (Bk.t3 d0 (.slice none 0 0) (.slice none 0 0) (.slice none 0 0));have tt:=(bst (bst (bst b0 (w.heap.size+1) 0 (by omega) (.slice none 0 0)) (w.heap.size+1) 1 (by omega) (.slice none 0 0)) (w.heap.size+1) 2 (by omega) (.slice none 0 0));go_wp2
 exact bodyPost_ret (v:=.tuple #[.agg #[.slice none 0 0,.slice none 0 0,.slice none 0 0],.bool false]) (by simp [results,Tryz.results46,go_sem,b4,d4,e4]) rfl (by exact (by unfold LinQ;exact ⟨none,none,none,0,0,0,0,0,0,false,rfl,(fun h=>by cases h),tt⟩))
end Go.Proofs.YtlckklglbodgbaaGreat
