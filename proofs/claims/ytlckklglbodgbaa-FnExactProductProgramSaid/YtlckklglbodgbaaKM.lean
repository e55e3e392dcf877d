/-
 Parts of the proofs of the laws FnExactProductProgram.
-/
import Derived.Test.YtlckklglbodgbaaKI
set_option linter.all false
namespace Go.Proofs.Ytlckklglbodgbaa
open Go.RowKit
structure LbR (w:World) (base:Nat) (va vb:Value) (n m:Nat) (xs ys:List Int):Prop where
 lx:xs.length=n
 ly:ys.length=m
 a:w.ownsRow base 3 1 va n (ints xs)
 b:w.ownsRow base 3 1 vb m (ints ys)
 ab:∀ q,va.ownBlock=some q→vb.ownBlock=some q→False
section
variable {w w':World} {base:Nat} {va vb:Value} {n m:Nat} {xs ys:List Int}
theorem LbR.lt (h:LbR w base va vb n m xs ys):∀ q,OwnRB va vb q→base≤q∧q < w.heap.size:=by
 rintro q (hq | hq)
 ·exact h.a.lt q hq
 exact h.b.lt q hq
theorem LbR.keep (h:LbR w base va vb n m xs ys) {S:Nat→Prop} (hc:Chg S w w') (hs:∀ q,OwnRB va vb q→¬S q):LbR w' base va vb n m xs ys:=⟨h.lx,h.ly,Ow h.a hc (fun q hq=>hs q (Or.inl hq)),Ow h.b hc (fun q hq=>hs q (Or.inr hq)),h.ab⟩
theorem LbR.below (h:LbR w base va vb n m xs ys) (hb:Below w.heap.size w w'):LbR w' base va vb n m xs ys:=h.keep (S:=fun _=>False) (Cb hb) (fun _ _=>id)
theorem LbR.putA {g c:Nat} (h:LbR w base (.slice (some ⟨g,0,none⟩) n c) vb n m xs ys) (i:Nat) (x:Int):LbR (w.setCell ⟨g,i,none⟩ (.int .i64 x)) base (.slice (some ⟨g,0,none⟩) n c) vb n m (xs.set i x) ys:=by
 have h1:=(h.a.stored i (.int .i64 x)).1;rw [ints_set] at h1;exact ⟨by rw [List.length_set];exact h.lx,h.ly,h1,Oe h.b g i (fun e=>h.ab g rfl e) _,h.ab⟩
theorem LbR.putB {g c:Nat} (h:LbR w base va (.slice (some ⟨g,0,none⟩) m c) n m xs ys) (i:Nat) (x:Int):LbR (w.setCell ⟨g,i,none⟩ (.int .i64 x)) base va (.slice (some ⟨g,0,none⟩) m c) n m xs (ys.set i x):=by
 have h1:=(h.b.stored i (.int .i64 x)).1;rw [ints_set] at h1;exact ⟨h.lx,by rw [List.length_set];exact h.ly,Oe h.a g i (fun e=>h.ab g e rfl) _,h1,h.ab⟩
theorem lb_cell {b n c:Nat} {zs:List Int} (h:w.ownsRow base 3 1 (.slice (some ⟨b,0,none⟩) n c) n (ints zs)) (hl:zs.length=n) (i:Nat) (hi:i < n):w.cell? ⟨b,i,none⟩=some (.int .i64 (gi zs i))∧w.frozen? ⟨b,i,none⟩=false:=by
 refine ⟨?_,h.frozenAt i⟩;rw [h.cellAt i (by omega),List.getElem?_eq_getElem (by rw [ints_length];omega),ints_get];unfold gi
 rw [Int.toNat_natCast,List.getElem?_eq_getElem (by omega)];rfl
end
def UpR (xs zs:List Int):Prop:=zs.length=xs.length∧LabsP zs∧∀ i:Nat,gi xs i≤gi zs i
theorem UpR.refl {xs:List Int} (h:LabsP xs):UpR xs xs:=⟨rfl,h,fun _=>Int.le_refl _⟩
theorem UpR.trans {xs ys zs:List Int} (h:UpR xs ys) (k:UpR ys zs):UpR xs zs:=⟨k.1.trans h.1,k.2.1,fun i=>Int.le_trans (h.2.2 i) (k.2.2 i)⟩
theorem gi_lset (xs:List Int) (i j:Nat) (x:Int) (hi:i < xs.length):gi (xs.set i x) j=if i=j then x else gi xs j:=by
 unfold gi
 rw [Int.toNat_natCast,List.getElem?_set];by_cases e:i=j
 ·subst e;simp [hi]
 simp [e]
theorem UpR.set {xs:List Int} (h:LabsP xs) {i:Nat} (hi:i < xs.length) {x:Int} (hx:IsLb x) (hge:gi xs i≤x):UpR xs (xs.set i x):=by
 refine ⟨List.length_set,fun y hy=>?_,fun j=>?_⟩
 ·rcases List.mem_or_eq_of_mem_set hy with h1 | h1
  ·exact h y h1
  subst h1;exact hx
 rw [gi_lset xs i j x hi];by_cases e:i=j
 ·subst e;rw [if_pos rfl];exact hge
 rw [if_neg e];exact Int.le_refl _
end Go.Proofs.Ytlckklglbodgbaa
namespace Go.Proofs.Ytlckklglbodgbaa
open Go.RowKit
structure PgR (w:World) (lo hi:Nat) (va vb vu:Value) (n m:Nat) (zs us:List Int) (D:Nat) (L:List St):Prop where
 lb:LbR w lo va vb n m zs us
 rh:∀ q,OwnRB va vb q→q < hi
 t:BlAt w (fun q=>(lo≤q∧q < hi)∧¬OwnRB va vb q) D vu L
 top:hi≤w.heap.size
def PgB (lo hi q:Nat):Prop:=lo≤q∧q < hi
section
variable {w w':World} {lo hi:Nat} {va vb vu:Value} {n m:Nat} {zs us:List Int} {D:Nat} {L:List St}
theorem PgR.lt (h:PgR w lo hi va vb vu n m zs us D L):∀ q,PgB lo hi q→lo≤q∧q < w.heap.size:=fun q hq=>⟨hq.1,Nat.lt_of_lt_of_le hq.2 h.top⟩
theorem PgR.rows (h:PgR w lo hi va vb vu n m zs us D L):∀ q,OwnRB va vb q→PgB lo hi q:=fun q hq=>⟨(h.lb.lt q hq).1,h.rh q hq⟩
theorem PgR.keep (h:PgR w lo hi va vb vu n m zs us D L) {S:Nat→Prop} (hc:Chg S w w') (hs:∀ q,PgB lo hi q→¬S q):PgR w' lo hi va vb vu n m zs us D L:=
 ⟨h.lb.keep hc (fun q hq=>hs q (h.rows q hq)),h.rh,h.t.keep hc (fun q hq _=>hs q hq.1) (fun _ hq _=>hq) Lr,Nat.le_trans h.top hc.size⟩
theorem PgR.below (h:PgR w lo hi va vb vu n m zs us D L) (hb:Below w.heap.size w w'):PgR w' lo hi va vb vu n m zs us D L:=h.keep (S:=fun _=>False) (Cb hb) (fun _ _=>id)
theorem PgR.ra (h:PgR w lo hi va vb vu n m zs us D L):Reads w 1 va n (ints zs):=by
 have:=h.lb.a;exact Ro this (own_len this)
theorem PgR.rb (h:PgR w lo hi va vb vu n m zs us D L):Reads w 1 vb m (ints us):=by
 have:=h.lb.b;exact Ro this (own_len this)
theorem PgR.shape (h:PgR w lo hi va vb vu n m zs us D L):∃ p1 c1 p2 c2 p3 c3,va=.slice p1 n c1∧vb=.slice p2 m c2∧vu=.slice p3 L.length c3:=by
 obtain ⟨p1,c1,h1⟩:=Oh h.lb.a;obtain ⟨p2,c2,h2⟩:=Oh h.lb.b;obtain ⟨p3,c3,h3⟩:=RowOf.shape h.t;exact ⟨p1,c1,p2,c2,p3,c3,h1,h2,h3⟩
end
end Go.Proofs.Ytlckklglbodgbaa
namespace Go.Proofs.Ytlckklglbodgbaa
open Go.RowKit
theorem pvR_labs {xs ys:List Int} {L:List St} (h:pvR xs ys L=true):LabsP xs∧LabsP ys∧L.all (stOk xs.length ys.length 5)=true∧xs.length≤12∧ys.length≤2:=by
 rw [pvR_spec] at h;simp only [Bool.and_eq_true] at h;obtain ⟨h1,h2,_⟩:=h;unfold declOk at h1
 simp only [Bool.and_eq_true,decide_eq_true_eq] at h1;obtain ⟨⟨_,h3⟩,h4,h5,h6⟩:=h1;refine ⟨fun x hx=>?_,fun x hx=>?_,h2,h3,h4⟩
 ·exact labOk_iff.1 (List.all_eq_true.1 h5 x hx)
 exact labOk_iff.1 (List.all_eq_true.1 h6 x hx)
mutual
def shE (nv na:Int):Ex→Ex
 | .mk k v l=>.mk k (if k=2 then v+nv else if k=3 then v+na else v) (shL nv na l)
def shL (nv na:Int):List Ex→List Ex
 | []=>[]
 | e::l=>shE nv na e::shL nv na l
end
mutual
def prS (nv na:Int):St→List St
 | .mk k t ix v c b e =>
  if k=1∨k=5 then [.mk k t ix v c (prL nv na b) (prL nv na e),.mk k (t+nv) (.mk 0 0 []) (shE nv na v) 0 [] []]
  else if k=2 then [.mk k t ix v c (prL nv na b) (prL nv na e),.mk k (t+na) (shE nv na ix) (shE nv na v) 0 [] []]
  else [.mk k t ix v c (prL nv na b) (prL nv na e)]
def prL (nv na:Int):List St→List St
 | []=>[]
 | s::l=>prS nv na s++prL nv na l
end
mutual
def finS (xs ys:List Int) (pc:Int):St→Bool
 | .mk k t ix v c b e=>decide (ownF xs ys (.mk k t ix v c b e) pc true=0)&&(finL xs ys (innF xs ys (.mk k t ix v c b e) pc) b&&finL xs ys (innF xs ys (.mk k t ix v c b e) pc) e)
def finL (xs ys:List Int) (pc:Int):List St→Bool
 | []=>true
 | s::l=>finS xs ys pc s&&finL xs ys pc l
end
def ctB (xs ys:List Int) (L:List St):Bool:=pvR xs ys L&&finL xs ys 0 L
mutual
def twS (nv na:Int):St→List St
 | .mk k t ix v c b e =>
  if k=1∨k=5 then [.mk k t ix v c b e,.mk k (t+nv) ix (shE nv na v) c b e]
  else if k=2 then [.mk k t ix v c b e,.mk k (t+na) (shE nv na ix) (shE nv na v) c b e]
  else [.mk k t ix v c (twL nv na b) (twL nv na e)]
def twL (nv na:Int):List St→List St
 | []=>[]
 | s::l=>twS nv na s++twL nv na l
end
theorem none_eq {e:Ex} (h:noneE e=true):e=.mk 0 0 []:=by
 obtain ⟨k,v,l⟩:=e;simp only [noneE,Ex.k,Ex.v,Ex.kids,Bool.and_eq_true,beq_iff_eq] at h;obtain ⟨rfl,rfl,h3⟩:=h;rw [List.eq_nil_of_length_eq_zero (of_decide_eq_true h3)]
theorem st_own {nv na d:Nat} {k t c:Int} {ix v:Ex} {b e:List St} (h:stOk nv na (d+1) (.mk k t ix v c b e)=true) (hk:k=1∨k=5∨k=2):c=0∧b=[]∧e=[]∧(k≠2→ix=.mk 0 0 []):=by
 have hn:∀ l:List St,decide (l.length=0)=true→l=[]:=fun l h=>List.eq_nil_of_length_eq_zero (of_decide_eq_true h)
 unfold stOk partsS at h
 rw [Bool.and_eq_true] at h;have h1:=h.1;rcases hk with rfl | rfl | rfl
 ·simp only [show ((1:Int) == 3||(1:Int) == 4)=false by decide,Bool.false_eq_true,if_false,Bool.and_eq_true,beq_iff_eq] at h1;obtain ⟨h2,h3,h4,h5⟩:=h1;exact ⟨h4,hn _ h2,hn _ h3,fun _=>none_eq (by simpa using h5)⟩
 ·simp only [show ((5:Int) == 3||(5:Int) == 4)=false by decide,Bool.false_eq_true,if_false,Bool.and_eq_true,beq_iff_eq] at h1;obtain ⟨h2,h3,h4,h5⟩:=h1;exact ⟨h4,hn _ h2,hn _ h3,fun _=>none_eq (by simpa using h5)⟩
 simp only [show ((2:Int) == 3||(2:Int) == 4)=false by decide,Bool.false_eq_true,if_false,Bool.and_eq_true,beq_iff_eq] at h1;obtain ⟨h2,h3,h4,h5⟩:=h1;exact ⟨h4,hn _ h2,hn _ h3,fun h=>absurd rfl h⟩
theorem tw_pr (nv na:Nat) (m k:Int):∀ (d:Nat) (L:List St),L.all (stOk nv na d)=true→twL m k L=prL m k L:=by
 intro d
 induction d with
 | zero =>
  intro L h
  cases L with
  | nil=>rfl
  | cons s l=>simp [stOk] at h
 | succ d ih =>
  intro L
  induction L with
  | nil=>intro _;rfl
  | cons s l ihL =>
   intro h;simp only [List.all_cons,Bool.and_eq_true] at h;simp only [twL,prL];rw [ihL h.2];congr 1
   obtain ⟨q,t,ix,v,c,b,e⟩:=s;rcases st_cases h.1 with ⟨h1,_⟩ | ⟨h1,_⟩ | ⟨h1,_,h5,h6⟩ | ⟨h1,h5,rfl,_⟩
   ·obtain ⟨rfl,rfl,rfl,hi⟩:=st_own h.1 (by omega);rw [hi (by omega)];simp only [twS,prS,if_pos h1,prL]
   ·obtain ⟨rfl,rfl,rfl,hi⟩:=st_own h.1 (by omega);subst h1;simp only [twS,prS,show ¬((2:Int)=1∨(2:Int)=5) by decide,if_false,if_true,prL]
   ·subst h1;simp only [twS,prS,show ¬((3:Int)=1∨(3:Int)=5) by decide,show ¬((3:Int)=2) by decide,if_false,ih b h5,ih e h6]
   subst h1;simp only [twS,prS,show ¬((4:Int)=1∨(4:Int)=5) by decide,show ¬((4:Int)=2) by decide,if_false,ih b h5,prL,twL]
mutual
def eachS (xs ys:List Int) (pc:Int):St→List (St × Int)
 | .mk k t ix v c b e=>(.mk k t ix v c b e,pc)::(eachL xs ys (innF xs ys (.mk k t ix v c b e) pc) b++eachL xs ys (innF xs ys (.mk k t ix v c b e) pc) e)
def eachL (xs ys:List Int) (pc:Int):List St→List (St × Int)
 | []=>[]
 | s::l=>eachS xs ys pc s++eachL xs ys pc l
end
def leakF (xs ys:List Int) (s:St):Int:=if s.k=3∧secB (labE xs ys s.val)=true then 3 else if (s.k=2∧secB (labE xs ys s.ix)=true)∨srdE xs ys s.val=true then 4 else 0
theorem own_parts {xs ys:List Int} {d:Nat} {s:St} (h:stOk xs.length ys.length (d+1) s=true) (pc:Int):ownF xs ys s pc true=0 ↔ ownF xs ys s pc false=0∧leakF xs ys s=0:=by
 obtain ⟨k,t,ix,v,c,b,e⟩:=s;rcases st_cases h with ⟨h1,_⟩ | ⟨h1,_⟩ | ⟨h1,_⟩ | ⟨h1,_,_,h7⟩
 ·rcases h1 with rfl | rfl
  ·cases hA:floB (lbo (labE xs ys v) pc) (gi xs t) <;> cases hR:srdE xs ys v <;> simp [ownF,leakF,St.k,St.t,St.val,St.ix,hA,hR]
  cases hT:(truB (labE xs ys v)&&pc == 0) <;> cases hR:srdE xs ys v <;> simp only [ownF,leakF,St.k,St.t,St.val,St.ix,hT,hR] <;> simp
 ·subst h1;cases hA:floB (lbo (lbo (labE xs ys v) (labE xs ys ix)) pc) (gi ys t) <;> cases hR:srdE xs ys v <;> cases hZ:secB (labE xs ys ix) <;> simp [ownF,leakF,St.k,St.t,St.val,St.ix,hA,hR,hZ]
 ·subst h1;cases hR:srdE xs ys v <;> cases hZ:secB (labE xs ys v) <;> simp [ownF,leakF,St.k,St.t,St.val,St.ix,hR,hZ]
 subst h1;rw [none_eq h7];simp [ownF,leakF,St.k,St.t,St.val,St.ix,srdE,srdL]
theorem fin_each (xs ys:List Int):∀ (d:Nat) (L:List St) (pc:Int),L.all (stOk xs.length ys.length d)=true→(finL xs ys pc L=true ↔ ∀ x ∈ eachL xs ys pc L,ownF xs ys x.1 x.2 false=0∧leakF xs ys x.1=0):=by
 intro d
 induction d with
 | zero =>
  intro L pc h
  cases L with
  | nil=>simp [finL,eachL]
  | cons s l=>simp [stOk] at h
 | succ d ih =>
  intro L
  induction L with
  | nil=>intro pc _;simp [finL,eachL]
  | cons s l ihL =>
   intro pc h;simp only [List.all_cons,Bool.and_eq_true] at h;obtain ⟨k,t,ix,v,c,b,e⟩:=s;have hb:=stOk_bodies h.1;simp only [finL,eachL,eachS,finS,Bool.and_eq_true,decide_eq_true_eq,List.mem_append,List.mem_cons];rw [ihL pc h.2,ih b _ hb.1,ih e _ hb.2,own_parts h.1 pc];constructor
   ·rintro ⟨⟨h1,h2,h3⟩,h4⟩ x ((rfl | hx | hx) | hx)
    ·exact h1
    ·exact h2 x hx
    ·exact h3 x hx
    exact h4 x hx
   intro hh;exact ⟨⟨hh _ (Or.inl (Or.inl rfl)),fun x hx=>hh x (Or.inl (Or.inr (Or.inl hx))),fun x hx=>hh x (Or.inl (Or.inr (Or.inr hx)))⟩,fun x hx=>hh x (Or.inr hx)⟩
def fstF (f:St→Int→Int):List (St × Int)→Int × Int × Int→Int × Int × Int
 | [],r=>r
 | x::l,(c,a,n)=>fstF f l (if c=0 then (f x.1 x.2,(if f x.1 x.2=0 then a else n),n+1) else (c,a,n+1))
theorem fstF_app (f:St→Int→Int) (a b:List (St × Int)):∀ r,fstF f (a++b) r=fstF f b (fstF f a r):=by
 induction a with
 | nil=>intro r;rfl
 | cons x a ih=>intro r;obtain ⟨c,q,n⟩:=r;exact ih _
theorem fstF_zero (f:St→Int→Int):∀ (l:List (St × Int)) (c a n:Int),(fstF f l (c,a,n)).1=0 ↔ c=0∧∀ x ∈ l,f x.1 x.2=0:=by
 intro l
 induction l with
 | nil=>intro c a n;simp [fstF]
 | cons x l ih =>
  intro c a n;simp only [fstF];by_cases hc:c=0
  ·rw [if_pos hc,ih];simp [hc]
  rw [if_neg hc,ih];simp [hc]
end Go.Proofs.Ytlckklglbodgbaa
