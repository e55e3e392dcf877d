/-
 Parts of the proofs of the laws FnExactProductProgram.
-/
import Derived.Test.YtlckklglbodgbaaGF
import Derived.Test.YtlckklglbodgbaaNQ5
import Derived.Test.YtlckklglbodgbaaNW5
import Derived.Test.YtlckklglbodgbaaNY5
import Derived.Test.YtlckklglbodgbaaGQ
set_option linter.all false
namespace Go.Proofs.Ytlckklglbodgbaa
open Go.RowKit
abbrev LSt:=List Int × List St
structure GrL (ys:List Int) (S S':LSt) (n:Nat):Prop where
 up:S.1.length≤S'.1.length
 lo:S.2.length≤S'.2.length
 sum:S'.1.length+S'.2.length≤S.1.length+S.2.length+n
 lab:LabsP S.1→LabsP S'.1
theorem GrL.refl (ys:List Int) (S:LSt):GrL ys S S 0:=⟨Lr,Lr,by omega,id⟩
theorem GrL.trans {ys:List Int} {S S' S'':LSt} {n m k:Nat} (h:GrL ys S S' n) (h2:GrL ys S' S'' m) (hk:n+m≤k):GrL ys S S'' k:=
 ⟨Nat.le_trans h.up h2.up,Nat.le_trans h.lo h2.lo,by have:=h.sum;have:=h2.sum;omega,fun x=>h2.lab (h.lab x)⟩
theorem GrL.own {ys:List Int} {xs:List Int} {Lo:List St} {S':LSt} {n:Nat} (h:GrL ys (xs,[]) S' n):GrL ys (xs,Lo) (S'.1,Lo) n:=
 ⟨h.up,by simp,by have:=h.sum;simp at this ⊢;omega,h.lab⟩
mutual
def cN:St→Nat
 | .mk _ _ _ _ _ b e=>1+cNs b+cNs e
def cNs:List St→Nat
 | []=>0
 | s::l=>cN s+cNs l
end
theorem exCnt_ok {n m:Nat}:∀ {d:Nat} {e:Ex},exOk n m d e=true→exCnt d e=1+exN e:=by
 intro d
 induction d with
 | zero=>intro e h;cases h
 | succ d ih =>
  intro e h;obtain ⟨k,v,l⟩:=e;have hk:=exOk_kids h
  have a0:∀ l:List Ex,(∀ x ∈ l,exOk n m d x=true)→(l.map (exCnt d)).sum=exNs l:=by
   intro l
   induction l with
   | nil=>intro _;rfl
   | cons x l ihl =>
    intro hx;have h1:=ih (hx x (by simp));have h2:=ihl (fun y hy=>hx y (by simp [hy]));simp only [List.map_cons,List.sum_cons,exNs];omega
  have h3:=a0 l hk;show 1+(l.map (exCnt d)).sum=1+((exNs l:Nat):Int)
  omega
theorem exRight_n {n m:Nat} {e:Ex} (h:exRight n m e=true):exOk n m 5 e=true∧exN e≤14:=by
 unfold exRight at h
 simp only [Bool.and_eq_true,decide_eq_true_eq] at h;have:=exCnt_ok h.1
 exact ⟨h.1,by omega⟩
theorem cNs_sz {n m:Nat}:∀ (d:Nat) (l:List St),l.all (stOk n m d)=true→(cNs l:Int)=szB d l
 | 0,l,h=>by
  cases l with
  | nil=>rfl
  | cons s l=>simp [stOk] at h
 | 1,l,h=>by
  induction l with
  | nil=>rfl
  | cons s l ih =>
   simp only [List.all_cons,Bool.and_eq_true] at h;have h1:=stOk_bodies h.1;have h2:=ih h.2
   have hz:∀ b:List St,b.all (stOk n m 0)=true→b=[]:=fun b hb=>by
    cases b with
    | nil=>rfl
    | cons x b=>simp [stOk] at hb
   obtain ⟨k,t,ix,val,c,body,els⟩:=s;have e1:=hz _ h1.1;have e2:=hz _ h1.2;simp only [St.body,St.els] at e1 e2;subst e1 e2;simp only [szB,cNs,cN,List.length_cons] at *;omega
 | d+2,l,h=>by
  induction l with
  | nil=>rfl
  | cons s l ih =>
   simp only [List.all_cons,Bool.and_eq_true] at h;have h1:=stOk_bodies h.1;have h2:=ih h.2;have hb:=cNs_sz (d+1) s.body h1.1;have he:=cNs_sz (d+1) s.els h1.2;obtain ⟨k,t,ix,val,c,body,els⟩:=s;simp only [St.body,St.els] at hb he;simp only [szB,cNs,cN,List.length_cons,List.map_cons,List.sum_cons,St.body,St.els] at *;omega
mutual
theorem stOk_n (n m:Nat):∀ (s:St) (d:Nat),stOk n m d s=true→stN1 s+1≤30*cN s
 | .mk k t ix val c body els,0,h=>by cases h
 | .mk k t ix val c body els,d+1,h=>by
  have hc0:cN (.mk k t ix val c body els)=1+cNs body+cNs els:=rfl;have hN:stN1 (.mk k t ix val c body els)=((exN ix+exN val)+stNs body)+stNs els:=rfl;have h1:=stOk_bodies h;have hb:=stOks_n n m body d (List.all_eq_true.1 h1.1);have he:=stOks_n n m els d (List.all_eq_true.1 h1.2)
  have hn:∀ e,noneE e=true→exN e=0:=fun e hx=>by
   obtain ⟨k,v,l⟩:=e;simp only [noneE,Bool.and_eq_true,Ex.kids] at hx;obtain rfl:=List.eq_nil_of_length_eq_zero (of_decide_eq_true hx.2.2);rfl
  have key:exN ix+exN val≤28:=by
   by_cases k1:(k == 1||k == 5)=true
   ·rw [stOk_as k1] at h;simp only [Bool.and_eq_true] at h;obtain ⟨⟨_,_,_,_,g5,g6⟩,_⟩:=h;have:=(exRight_n g6).2;have:=hn _ g5;omega
   by_cases k2:(k == 2)=true
   ·rw [stOk_st k2] at h;simp only [Bool.and_eq_true] at h;obtain ⟨⟨_,_,_,_,g5,_,g7⟩,_⟩:=h;have:=(exRight_n g7).2;have:=(exRight_n g5).2;omega
   by_cases k3:(k == 3)=true
   ·rw [stOk_if k3] at h;simp only [Bool.and_eq_true] at h;obtain ⟨⟨_,_,g5,g6⟩,_⟩:=h;have:=(exRight_n g6).2;have:=hn _ g5;omega
   by_cases k4:(k == 4)=true
   ·rw [stOk_re k4] at h;simp only [Bool.and_eq_true] at h;obtain ⟨⟨_,_,_,g4,g5⟩,_⟩:=h;have:=hn _ g4;have:=hn _ g5;omega
   rw [stOk_no (by simp at k1 k2 k3 k4;omega)] at h;cases h
  omega
theorem stOks_n (n m:Nat):∀ (l:List St) (d:Nat),(∀ x ∈ l,stOk n m d x=true)→stNs l≤30*cNs l
 | [],_,_=>by simp [stNs]
 | s::l,d,h=>by
  have h1:=stOk_n n m s d (h s (by simp));have h2:=stOks_n n m l d (fun x hx=>h x (by simp [hx]));simp only [stNs,cNs];omega
end
theorem pvR_n {xs ys:List Int} {L:List St} (h:pvR xs ys L=true):cNs L≤60∧stNs L≤1800∧L.all (stOk xs.length ys.length 5)=true:=by
 rw [pvR_spec] at h;simp only [Bool.and_eq_true,decide_eq_true_eq] at h;have h1:=cNs_sz 5 L h.2.1;have h2:=stOks_n _ _ L 5 (List.all_eq_true.1 h.2.1);exact ⟨by omega,by omega,h.2.1⟩
mutual
theorem shE_n (m k:Int):∀ e:Ex,exN (shE m k e)=exN e
 | .mk a v l=>by simp only [shE,exN];exact shL_n m k l
theorem shL_n (m k:Int):∀ l:List Ex,exNs (shL m k l)=exNs l
 | []=>rfl
 | e::l=>by simp only [shL,exNs];rw [shE_n m k e,shL_n m k l]
end
mutual
theorem prS_n (m k:Int):∀ s:St,stNs (prS m k s)≤2*(1+stN1 s)
 | .mk a t ix v c b e=>by
  have h1:=prL_n m k b;have h2:=prL_n m k e;have h3:=shE_n m k v;have h4:=shE_n m k ix;have h0:exN (.mk 0 0 [])=0:=rfl;simp only [prS];split
  ·simp only [stNs,stN1,h0,h3];omega
  split
  ·simp only [stNs,stN1,h3,h4];omega
  simp only [stNs,stN1];omega
theorem prL_n (m k:Int):∀ l:List St,stNs (prL m k l)≤2*stNs l
 | []=>by simp [prL,stNs]
 | s::l=>by
  have h1:=prS_n m k s;have h2:=prL_n m k l;simp only [prL,stNs_app,stNs];omega
end
def prodR (xs ys:List Int) (L:List St):Bool:=dblR xs ys L&&(ctB xs ys L&&pvR (xs++xs) (ys++ys) (prL xs.length ys.length L))
def bX (Q:Bool) (xs ys:List Int) (L:List St):List St:=match Q with | true=>prL xs.length ys.length L | false=>[]
theorem dbl_pv {xs ys:List Int} {L:List St} (h:dblR xs ys L=true):pvR xs ys L=true:=by unfold dblR at h;rw [Bool.and_eq_true] at h;exact h.1
theorem prL_small {xs ys:List Int} {L:List St} (h:pvR xs ys L=true):stNs (prL xs.length ys.length L)≤3600:=by
 have h1:=(pvR_n h).2.1;have h2:=prL_n xs.length ys.length L;omega
def PrS (base:Nat) (Q:Bool) (xs ys:List Int) (L:List St) (r:Ending) (w':World):Prop:=∃ (ua ub uc:Value) (D:Nat),r=.returned (.tuple #[.agg #[ua,ub,uc],.bool Q])∧w'.ownsRow base 3 1 ua (dX Q xs).length (ints (dX Q xs))∧w'.ownsRow base 3 1 ub (dX Q ys).length (ints (dX Q ys))∧BlAt w' (fun q=>base≤q) D uc (bX Q xs ys L)
theorem prs_no {base:Nat} {Q:Bool} {xs ys:List Int} {L:List St} {w':World} (h:Hid (Q=false)):PrS base Q xs ys L (.returned (.tuple #[.agg #[.slice none 0 0,.slice none 0 0,.slice none 0 0],.bool false])) w':=by
 rw [h.out];exact ⟨_,_,_,0,rfl,World.ownsRow_nil _ _ _ _,World.ownsRow_nil _ _ _ _,RowOf.nil⟩
theorem prs_yes {base b:Nat} {Q:Bool} {xs ys X Y:List Int} {L Lp:List St} {w':World} {ua ub uc:Value} {D:Nat} (h:Hid (Q=true)) (hX:Hid (X=xs++xs)) (hY:Hid (Y=ys++ys)) (hL:Hid (Lp=prL xs.length ys.length L)) (h1:w'.ownsRow base 3 1 ua X.length (ints X)) (h2:w'.ownsRow base 3 1 ub Y.length (ints Y)) (h3:BlAt w' (fun q=>b≤q) D uc Lp) (hb:base≤b) :
  PrS base Q xs ys L (.returned (.tuple #[.agg #[ua,ub,uc],.bool true])) w':=by
 rw [h.out];have e1:=hX.out;have e2:=hY.out;have e3:=hL.out;subst e1 e2 e3;exact ⟨_,_,_,D,rfl,h1,h2,h3.keep (S:=fun _=>False) (Chg.refl _ _) (fun _ _ _=>id) (fun q hq _=>by show base≤q;have:b≤q:=hq;omega) Lr⟩
def PrI (base:Nat) (Q:Bool) (xs ys:List Int) (L:List St) (r:Ending) (w':World):Prop:=∃ (ua ub uc:Value) (D:Nat),r=.returned (.tuple #[.agg #[ua,ub,uc],.bool Q])∧w'.ownsRow base 3 1 ua (dX Q xs).length (ints (dX Q xs))∧w'.ownsRow base 3 1 ub (dX Q ys).length (ints (dX Q ys))∧(∀ q,ua.ownBlock=some q→ub.ownBlock=some q→False)∧BlX D w' (fun q=>base≤q∧¬ua.ownBlock=some q∧¬ub.ownBlock=some q) uc (bX Q xs ys L)
theorem pri_no {base:Nat} {Q:Bool} {xs ys:List Int} {L:List St} {w':World} (h:Hid (Q=false)):PrI base Q xs ys L (.returned (.tuple #[.agg #[.slice none 0 0,.slice none 0 0,.slice none 0 0],.bool false])) w':=by
 rw [h.out];exact ⟨_,_,_,0,rfl,World.ownsRow_nil _ _ _ _,World.ownsRow_nil _ _ _ _,fun q h=>(by cases h),rowD_nil⟩
theorem pri_yes {base b:Nat} {Q:Bool} {xs ys X Y:List Int} {L Lp:List St} {w':World} {ua ub uc:Value} {D:Nat} (h:Hid (Q=true)) (hX:Hid (X=xs++xs)) (hY:Hid (Y=ys++ys)) (hL:Hid (Lp=prL xs.length ys.length L)) (h1:w'.ownsRow base 3 1 ua X.length (ints X)) (h2:w'.ownsRow base 3 1 ub Y.length (ints Y)) (h3:BlX D w' (fun q=>b≤q) uc Lp) (hab:Hid (∀ q,ua.ownBlock=some q→ub.ownBlock=some q→False)) (hb:Hid (∀ q,b≤q→base≤q∧¬ua.ownBlock=some q∧¬ub.ownBlock=some q)) :
  PrI base Q xs ys L (.returned (.tuple #[.agg #[ua,ub,uc],.bool true])) w':=by
 rw [h.out];have e1:=hX.out;have e2:=hY.out;have e3:=hL.out;subst e1 e2 e3;exact ⟨_,_,_,D,rfl,h1,h2,hab.out,rowD_keep (S:=fun _=>False) h3 (kpT D) (Chg.refl _ _) (fun _ _ _=>id) (fun q hq _=>hb.out q hq)⟩
theorem blX_st {d:Nat} {W:World} {b0:Nat} {u:Value} {L:List St} (h:BlX d W (fun q=>b0≤q) u L) (b j:Nat) (hb:b < b0) (v:Value):BlX d (W.setCell ⟨b,j,none⟩ v) (fun q=>b0≤q) u L:=
 rowD_keep (S:=fun q=>q=b) h (kpT d) ((Chg.refl _ _).setCell b j v (fun _=>rfl)) (fun q (hq:b0≤q) _ (h:q=b)=>by omega) (fun _ h _=>h)
set_option maxHeartbeats 6400000 in
set_option maxRecDepth 100000 in
theorem iProduct_any (xs ys:List Int) (A:Nat→Prop) (D:Nat) (va vb u:Value) (L:List St) (w:World) (hr:Reads w 1 va xs.length (ints xs)) (hs:Reads w 1 vb ys.length (ints ys)) (hx:BlAt w A D u L) (hn:stNs L≤1048576) (hb:xs.length≤1000000000∧ys.length≤1000000000) :
  Calls Try.prog 14 #[.agg #[va,vb,u]] w fun r w'=>PrI w.heap.size (prodR xs ys L) xs ys L r w'∧Below w.heap.size w w':=by
 obtain ⟨pv,cv,rfl⟩:=reads_shape hr;obtain ⟨pa,ca,rfl⟩:=reads_shape hs;obtain ⟨pu,cu,rfl⟩:=RowOf.shape hx;have m0:=Hi (fun W (hW:Below w.heap.size w W)=>Ai (hr.below hW) (Ai (hs.below hW) (hx.below hW)));have f2:=Hi (fun W (hW:Below w.heap.size w W)=>BlAt.keep (B':=fun q=>q < w.heap.size) hx (S:=fun _=>False) (Cb hW) (fun _ _ _=>id) (fun q _ h=>h) Lr);obtain ⟨Dd,p0⟩:∃ Dd,Dd=dblR xs ys L:=⟨_,rfl⟩;obtain ⟨X,hX⟩:∃ X,X=dX Dd xs:=⟨_,rfl⟩;obtain ⟨Y,hY⟩:∃ Y,Y=dX Dd ys:=⟨_,rfl⟩;obtain ⟨Lp,q0⟩:∃ Lp,Lp=prL xs.length ys.length L:=⟨_,rfl⟩;obtain ⟨Q,hQ⟩:∃ Q,Q=prodR xs ys L:=⟨_,rfl⟩;rw [← hQ];have HQ:Hid (Q=(Dd&&(ctB xs ys L&&pvR (xs++xs) (ys++ys) Lp))):=Hi (by rw [hQ,p0,q0];rfl);have v1:Hid (Dd=true→pvR xs ys L=true):=Hi (fun h=>dbl_pv (by rw [← p0];exact h));have x1:Hid (Dd=true→stNs Lp≤3600):=Hi (fun h=>by rw [q0];exact prL_small (dbl_pv (by rw [← p0];exact h)))
 have HD:=Hi (fun W (hW:Below w.heap.size w W)=>show Calls Try.prog 6 #[.agg #[.slice pv xs.length cv,.slice pa ys.length ca,.slice pu L.length cu]] W fun r W'=>∃ (g1 g2:Option Addr) (c1 c2:Nat),r=.returned (.tuple #[.agg #[.slice g1 X.length c1,.slice g2 Y.length c2,.slice none 0 0],.bool Dd])∧W'.ownsRow W.heap.size 3 1 (.slice g1 X.length c1) X.length (ints X)∧W'.ownsRow W.heap.size 3 1 (.slice g2 Y.length c2) Y.length (ints Y)∧(∀ q,(Value.slice g1 X.length c1).ownBlock=some q→(Value.slice g2 Y.length c2).ownBlock=some q→False)∧Below W.heap.size W W' from
  (iDouble_any _ _ xs ys A D _ L W (m0.out W hW).1 (m0.out W hW).2.1 (m0.out W hW).2.2 hb).mono (fun r W' h=>by
   obtain ⟨⟨ua,ub,h1,h2,h3,h4⟩,h5⟩:=h;rw [← p0] at h1 h2 h3;rw [← hX] at h2;rw [← hY] at h3;obtain ⟨g1,c1,rfl⟩:=Oh h2;obtain ⟨g2,c2,rfl⟩:=Oh h3;exact ⟨g1,g2,c1,c2,h1,h2,h3,h4,h5⟩))
 have HC:=Hi (fun W (hW:Below w.heap.size w W)=>iCT_any xs ys A D _ _ _ L W (m0.out W hW).1 (m0.out W hW).2.1 (m0.out W hW).2.2 hn hb);have HT:=Hi (fun (h:Dd=true) W (hW:Below w.heap.size w W)=>show Calls Try.prog 35 #[.agg #[.slice pv xs.length cv,.slice pa ys.length ca,.slice pu L.length cu],.slice pu L.length cu] W fun r W'=>TwB w.heap.size D Lp W r W' from by rw [q0,← tw_pr xs.length ys.length xs.length ys.length 5 L (pvR_n (v1.out h)).2.2];exact twice_any pv pa pu cv ca L.length cu xs.length ys.length hb w.heap.size D 5 _ L W hW.size (f2.out W hW) (pvR_n (v1.out h)).2.2 hn);have HO:=Hi (fun (h:Dd=true) (B:Nat→Prop) a c W (hW:BlAt W B D (.slice a Lp.length c) Lp)=>ownStmts_any B D _ Lp W hW (by have:=x1.out h;omega));have y1:Hid (Dd=true→X=xs++xs∧Y=ys++ys):=Hi (fun h=>by rw [hX,hY,h];exact ⟨rfl,rfl⟩);have j2:Hid (Dd=true→X.length≤12∧Y.length≤2):=Hi (fun h=>by have h2:=y1.out h;rw [h2.1,h2.2,List.length_append,List.length_append];have h3:=p0;rw [h] at h3;have h4:=h3.symm;unfold dblR at h4;simp only [Bool.and_eq_true,decide_eq_true_eq] at h4;omega);have i2:=Hi q0;have HB:=Hi hb;clear hr hs hx hX hY q0 hQ p0 hb;go_enter Try.func14,Try.ntmps14
 go_wp2_with fail
 refine (HD.out _ (bal (bal (Bs w) (.cells #[.slice pv xs.length cv,.slice pa ys.length ca,.slice pu L.length cu] 26)) (.cells #[.slice none 0 0,.slice none 0 0,.slice none 0 0] 26))).mono ?_;rintro e w1 ⟨g1,g2,c1,c2,rfl,oA,oB,z1,hb⟩;have w0:=hb.size;simp only [Sa] at w0;have o0:=Bb (Bk.al (Bk.n3 (w.heap.size)) (.cells #[.slice none 0 0,.slice none 0 0,.slice none 0 0] 26)) hb;have e0:=Bb (Bk.n3 (w.heap.size+1)) hb;have h0:=btr (bal (bal (Bs w) (.cells #[.slice pv xs.length cv,.slice pa ys.length ca,.slice pu L.length cu] 26)) (.cells #[.slice none 0 0,.slice none 0 0,.slice none 0 0] 26)) hb;clear hb;have o2:=Bk.lz o0;have p2:=Bk.lz e0;have k0:=oA.lt;try simp only [Sa] at k0
 have l0:=oB.lt;try simp only [Sa] at l0
 have d2:=Hi z1;clear z1
 cases hd:Dd with
 | false =>
  have i0:=Hi hd;clear hd;have j0:Hid (Q=false):=Hi (by rw [HQ.out,i0.out];simp);clear oA oB;replace p2:=Bk.lz e0;obtain ⟨e3,f3,y0,i3,z0,j3⟩:=Bk.h3 e0;have k2:w.heap.size+1 < w1.heap.size:=by omega
  have z3:=(Ac (Nn (b:=(w.heap.size+1)) (j:=2) (Nn (b:=(w.heap.size+1)) (j:=1) (Tc _ (w.heap.size+1) 0 (.slice none 0 0) e3) (.slice none 0 0)) (.slice none 0 0)) (.cells #[.slice g1 X.length c1,.slice g2 Y.length c2,.slice none 0 0] 26));have a4:=(Ac (Nn (b:=(w.heap.size+1)) (j:=2) (Tc _ (w.heap.size+1) 1 (.slice none 0 0) (Nn (b:=(w.heap.size+1)) (j:=0) y0 (.slice none 0 0))) (.slice none 0 0)) (.cells #[.slice g1 X.length c1,.slice g2 Y.length c2,.slice none 0 0] 26));have b4:=(Ac (Tc _ (w.heap.size+1) 2 (.slice none 0 0) (Nn (b:=(w.heap.size+1)) (j:=1) (Nn (b:=(w.heap.size+1)) (j:=0) z0 (.slice none 0 0)) (.slice none 0 0))) (.cells #[.slice g1 X.length c1,.slice g2 Y.length c2,.slice none 0 0] 26));have tt:=(bal (bst (bst (bst h0 (w.heap.size+1) 0 (by omega) (.slice none 0 0)) (w.heap.size+1) 1 (by omega) (.slice none 0 0)) (w.heap.size+1) 2 (by omega) (.slice none 0 0)) (.cells #[.slice g1 X.length c1,.slice g2 Y.length c2,.slice none 0 0] 26));go_wp2
  exact bodyPost_ret (v:=.tuple #[.agg #[.slice none 0 0,.slice none 0 0,.slice none 0 0],.bool false]) (by simp [results,Try.results14,go_sem,z3,a4,b4]) rfl (by exact ⟨pri_no j0,tt⟩)
 | true =>
  have i0:=Hi hd;clear hd;replace o2:=Bk.lz o0;obtain ⟨a1,m1,b1,n1,d1,o1⟩:=Bk.h3 o0;go_wp2_with fail
  refine (HC.out _ (bal h0 (.cells #[.slice g1 X.length c1,.slice g2 Y.length c2,.slice none 0 0] 26))).mono ?_;rintro e w2 ⟨v0,m4,rfl,hz,a0⟩;have HZ:=Hi hz;clear hz;have r0:=a0.size;simp only [Sa] at r0;clear m1 a1 n1 b1 o1 d1;replace oA:=Ob (Ob oA (bal (Bs _) _)) a0;replace oB:=Ob (Ob oB (bal (Bs _) _)) a0;have d0:=Bb (Bk.n3 (w1.heap.size)) a0;replace h0:=btr (bal h0 _) a0;have n2:=Bk.lz d0;by_cases h:v0=0
  ·have q2:(v0 != 0)=false:=by simp [h]
   have t0:Hid (ctB xs ys L=true):=Hi (HZ.out.1 h);clear h;replace o0:=Bb (Bk.al o0 _) a0;obtain ⟨e1,p1,f1,q1,i1,r1⟩:=Bk.h3 o0;go_wp2_with fail
   refine (HT.out i0.out _ h0).mono ?_;rintro e w3 ⟨ta,tc,rfl,hT,f0⟩;have a2:=f0.size;clear p1 e1 q1 f1 r1 i1;replace oA:=Ob oA f0;replace oB:=Ob oB f0;replace h0:=btr h0 f0;go_wp2_with fail
   refine (HO.out i0.out _ _ _ _ hT).mono ?_;rintro e w4 ⟨ga,gc,rfl,hO,g0⟩;have b2:=g0.size;replace oA:=Ob oA g0;replace oB:=Ob oB g0;replace h0:=btr h0 g0;clear hT;have e2:Hid (∀ q,w3.heap.size≤q→w.heap.size≤q∧¬(Value.slice g1 X.length c1).ownBlock=some q∧¬(Value.slice g2 Y.length c2).ownBlock=some q):=Hi (fun q hq=>⟨by omega,fun h=>by have:=k0 q h;omega,fun h=>by have:=l0 q h;omega⟩);obtain ⟨x0,m2⟩:=j2.out i0.out;have l2:=x1.out i0.out;replace d0:=Bb (Bb d0 f0) g0;obtain ⟨j1,s1,k1,t1,l1,u1⟩:=Bk.h3 d0;go_wp2_with fail
   refine (iProgramValid_any _ _ X Y (fun q=>w3.heap.size≤q) D _ Lp _ (Ro (Oe oA (w1.heap.size) 2 (fun h=>by have:=k0 _ h;omega) (.slice ga Lp.length gc)) (by omega)) (Ro (Oe oB (w1.heap.size) 2 (fun h=>by have:=l0 _ h;omega) (.slice ga Lp.length gc)) (by omega)) (blX_at (fun _ h=>h) (blX_st hO (w1.heap.size) (2) (by omega) (.slice ga Lp.length gc))) ⟨by omega,by omega⟩).mono ?_;rintro e w5 ⟨rfl,c0⟩;clear x0 m2 l2;replace hO:=blX_below (blX_st hO (w1.heap.size) (2) (by omega) (.slice ga Lp.length gc)) c0;have s0:=c0.size;simp only [Ss] at s0;clear s1 j1 t1 k1 u1 l1;replace oA:=Ob (Oe oA _ _ (fun h=>by have:=k0 _ h;omega) _) c0;replace oB:=Ob (Oe oB _ _ (fun h=>by have:=l0 _ h;omega) _) c0;replace h0:=btr (bst h0 (w1.heap.size) 2 (by omega) (.slice ga Lp.length gc)) c0;have n0:=Hi (y1.out i0.out)
   cases hV:pvR X Y Lp with
   | false =>
    have u0:Hid (pvR (xs++xs) (ys++ys) Lp=false):=Hi (by rw [← n0.out.1,← n0.out.2];exact hV);clear hV;clear hO;have j0:Hid (Q=false):=Hi (by rw [HQ.out,i0.out,t0.out,u0.out];simp);clear oA oB;replace e0:=Bb (Bk.nn (Bb (Bb (Bb (Bk.al e0 _) a0) f0) g0) _) c0;obtain ⟨r2,k3,s2,l3,t2,m3⟩:=Bk.h3 e0;obtain ⟨c4,d4,e4⟩:=Bk.g3 (Bk.t3 e0 (.slice none 0 0) (.slice none 0 0) (.slice none 0 0));have tt:=(bst (bst (bst h0 (w.heap.size+1) 0 (by omega) (.slice none 0 0)) (w.heap.size+1) 1 (by omega) (.slice none 0 0)) (w.heap.size+1) 2 (by omega) (.slice none 0 0));go_wp2
    exact bodyPost_ret (v:=.tuple #[.agg #[.slice none 0 0,.slice none 0 0,.slice none 0 0],.bool false]) (by simp [results,Try.results14,go_sem,c4,d4,e4]) rfl (by exact ⟨pri_no j0,tt⟩)
   | true =>
    have u0:Hid (pvR (xs++xs) (ys++ys) Lp=true):=Hi (by rw [← n0.out.1,← n0.out.2];exact hV);clear hV;have j0:Hid (Q=true):=Hi (by rw [HQ.out,i0.out,t0.out,u0.out];rfl);have HF:=Hi (Ai (Oe (Oe (Oe oA (w.heap.size+1) 0 (fun h=>by have:=k0 _ h;omega) (.slice g1 X.length c1)) (w.heap.size+1) 1 (fun h=>by have:=k0 _ h;omega) (.slice g2 Y.length c2)) (w.heap.size+1) 2 (fun h=>by have:=k0 _ h;omega) (.slice ga Lp.length gc)) (Ai (Oe (Oe (Oe oB (w.heap.size+1) 0 (fun h=>by have:=l0 _ h;omega) (.slice g1 X.length c1)) (w.heap.size+1) 1 (fun h=>by have:=l0 _ h;omega) (.slice g2 Y.length c2)) (w.heap.size+1) 2 (fun h=>by have:=l0 _ h;omega) (.slice ga Lp.length gc)) (blX_st (blX_st (blX_st hO (w.heap.size+1) (0) (by omega) (.slice g1 X.length c1)) (w.heap.size+1) (1) (by omega) (.slice g2 Y.length c2)) (w.heap.size+1) (2) (by omega) (.slice ga Lp.length gc))));clear oA oB hO;replace e0:=Bb (Bk.nn (Bb (Bb (Bb (Bk.al e0 _) a0) f0) g0) _) c0;obtain ⟨u2,o3,v2,p3,x2,q3⟩:=Bk.h3 e0;replace d0:Bk w5 (w1.heap.size) [.slice g1 X.length c1,.slice g2 Y.length c2,.slice ga Lp.length gc]:=Bb (Bk.at d0 2 (.slice ga Lp.length gc)) c0;obtain ⟨y2,r3,z2,s3,a3,u3⟩:=Bk.h3 d0;obtain ⟨f4,g4,i4⟩:=Bk.g3 (Bk.t3 e0 (.slice g1 X.length c1) (.slice g2 Y.length c2) (.slice ga Lp.length gc));have tt:=(bst (bst (bst h0 (w.heap.size+1) 0 (by omega) (.slice g1 X.length c1)) (w.heap.size+1) 1 (by omega) (.slice g2 Y.length c2)) (w.heap.size+1) 2 (by omega) (.slice ga Lp.length gc));go_wp2
    exact bodyPost_ret (v:=.tuple #[.agg #[.slice g1 X.length c1,.slice g2 Y.length c2,.slice ga Lp.length gc],.bool true]) (by simp [results,Try.results14,go_sem,f4,g4,i4]) rfl (by exact ⟨pri_yes j0 (Hi n0.out.1) (Hi n0.out.2) i2 (Om HF.out.1 (by (try simp only [Sa]);omega)) (Om HF.out.2.1 (by (try simp only [Sa]);omega)) HF.out.2.2 d2 e2,tt⟩)
  have q2:(v0 != 0)=true:=by simp [h]
  have t0:Hid (ctB xs ys L=false):=Hi (by cases hv:ctB xs ys L with | false=>rfl | true=>exact absurd (HZ.out.2 hv) h);clear h;have j0:Hid (Q=false):=Hi (by rw [HQ.out,i0.out,t0.out];simp);clear oA oB;replace e0:=Bb (Bk.al e0 _) a0;obtain ⟨b3,v3,c3,x3,d3,y3⟩:=Bk.h3 e0;obtain ⟨j4,k4,l4⟩:=Bk.g3 (Bk.t3 e0 (.slice none 0 0) (.slice none 0 0) (.slice none 0 0));have tt:=(bst (bst (bst h0 (w.heap.size+1) 0 (by omega) (.slice none 0 0)) (w.heap.size+1) 1 (by omega) (.slice none 0 0)) (w.heap.size+1) 2 (by omega) (.slice none 0 0));go_wp2
  exact bodyPost_ret (v:=.tuple #[.agg #[.slice none 0 0,.slice none 0 0,.slice none 0 0],.bool false]) (by simp [results,Try.results14,go_sem,j4,k4,l4]) rfl (by exact ⟨pri_no j0,tt⟩)
end Go.Proofs.Ytlckklglbodgbaa
