/-
 Parts of the proofs of the laws FnExactSplitMemory.
-/
import Derived.Test.YtnpidfbcbmeijaaPT
set_option linter.all false
namespace Go.Proofs.Ytnpidfbcbmeijaa
open Go.RowKit
def St.k:St→Int | .mk k _ _ _ _ _ _=>k
def St.t:St→Int | .mk _ t _ _ _ _ _=>t
def St.ix:St→Ex | .mk _ _ ix _ _ _ _=>ix
def St.val:St→Ex | .mk _ _ _ v _ _ _=>v
def St.c:St→Int | .mk _ _ _ _ c _ _=>c
def St.body:St→List St | .mk _ _ _ _ _ b _=>b
def St.els:St→List St | .mk _ _ _ _ _ _ e=>e
mutual
def exN:Ex→Nat
 | .mk _ _ l=>exNs l
def exNs:List Ex→Nat
 | []=>0
 | e::l=>(1+exN e)+exNs l
end
mutual
def stN1:St→Nat
 | .mk _ _ ix v _ b e=>((exN ix+exN v)+stNs b)+stNs e
def stNs:List St→Nat
 | []=>0
 | s::l=>(1+stN1 s)+stNs l
end
theorem exN_kids (e:Ex):exN e=exNs (Ex.kids e):=by cases e;rfl
theorem exNs_app (a b:List Ex):exNs (a++b)=exNs a+exNs b:=by
 induction a with
 | nil=>simp [exNs]
 | cons e a ih=>simp only [List.cons_append,exNs];omega
theorem exNs_take {l:List Ex} {k:Nat} (h:k < l.length):exNs (l.take (k+1))=exNs (l.take k)+(1+exN l[k]):=by
 rw [List.take_succ_eq_append_getElem h,exNs_app];simp [exNs]
theorem exNs_all (l:List Ex):exNs (l.take l.length)=exNs l:=by rw [List.take_of_length_le Lr]
theorem exNs_le (l:List Ex) (k:Nat) (h:k≤l.length):exNs (l.take k)+(l.length-k)≤exNs l:=by
 induction l generalizing k with
 | nil=>simp [exNs]
 | cons e l ih =>
  cases k with
  | zero=>have:=ih 0 (Nat.zero_le _);simp [exNs] at this ⊢;omega
  | succ k=>have:=ih k (by simpa using h);simp [exNs] at this ⊢;omega
theorem exNs_len (l:List Ex):l.length≤exNs l:=by have:=exNs_le l 0 (Nat.zero_le _);simp [exNs] at this;omega
theorem exNs_at {l:List Ex} {k:Nat} (h:k < l.length):exN l[k] < exNs l:=by
 have h1:=exNs_take h;have h2:=exNs_le l (k+1) h;omega
theorem stN_parts (s:St):stN1 s=((exN s.ix+exN s.val)+stNs s.body)+stNs s.els:=by cases s;rfl
theorem stNs_app (a b:List St):stNs (a++b)=stNs a+stNs b:=by
 induction a with
 | nil=>simp [stNs]
 | cons e a ih=>simp only [List.cons_append,stNs];omega
theorem stNs_take {l:List St} {k:Nat} (h:k < l.length):stNs (l.take (k+1))=stNs (l.take k)+(1+stN1 l[k]):=by
 rw [List.take_succ_eq_append_getElem h,stNs_app];simp [stNs]
theorem stNs_all (l:List St):stNs (l.take l.length)=stNs l:=by rw [List.take_of_length_le Lr]
theorem stNs_le (l:List St) (k:Nat) (h:k≤l.length):stNs (l.take k)+(l.length-k)≤stNs l:=by
 induction l generalizing k with
 | nil=>simp [stNs]
 | cons e l ih =>
  cases k with
  | zero=>have:=ih 0 (Nat.zero_le _);simp [stNs] at this ⊢;omega
  | succ k=>have:=ih k (by simpa using h);simp [stNs] at this ⊢;omega
theorem stNs_len (l:List St):l.length≤stNs l:=by have:=stNs_le l 0 (Nat.zero_le _);simp [stNs] at this;omega
theorem stNs_at {l:List St} {k:Nat} (h:k < l.length):stN1 l[k] < stNs l:=by
 have h1:=stNs_take h;have h2:=stNs_le l (k+1) h;omega
theorem own_put {w:World} {base:Nat} {e e':TypeId} {sz n:Nat} {v:Value} {xs:List Value} (h:w.ownsRow base e sz v n xs) {b:Nat} {cur:Array Value} (hb:w.heap[b]? = some (.cells cur e' (0,0))) (i:Nat) (hi:i < cur.size) (x:Value) :
  ((w.setCell ⟨b,i,none⟩ x).ownsRow base e sz v n xs∧¬v.ownBlock=some b)∨(e=e'∧v.ownBlock=some b∧(w.setCell ⟨b,i,none⟩ x).ownsRow base e sz v n (xs.set i x)):=by
 by_cases hv:v.ownBlock=some b
 ·refine Or.inr ?_;obtain ⟨h1,h2 | ⟨g,a0,c2,rfl,h3,h4,h5,h6,h7,h8⟩⟩:=h
  ·rw [h2.1] at hv;cases hv
  have hg:g=b:=Si hv;subst hg;rw [h4] at hb;have e1:=Si hb;injection e1 with e2 e3 e4
  subst e2 e3;refine ⟨rfl,rfl,?_⟩;have ho:w.ownsRow base e sz (.slice (some ⟨g,0,none⟩) n a0) n xs:=⟨h1,Or.inr ⟨g,a0,c2,rfl,h3,h4,h5,h6,h7,h8⟩⟩;exact (ho.stored i x).1
 exact Or.inl ⟨Oe h b i hv x,hv⟩
theorem set_int {xs:List Value} {p i:Nat} {x:Int} (h:∃ k,xs[p]? = some (.int .i64 k)):∃ k,(xs.set i (.int .i64 x))[p]? = some (.int .i64 k):=by
 obtain ⟨k,hk⟩:=h;rw [List.getElem?_set];by_cases e:i=p
 ·subst e
  have hl:i < xs.length:=by
   cases hq:xs[i]? with
   | none=>rw [hq] at hk;cases hk
   | some y=>exact (List.getElem?_eq_some_iff.1 hq).1
  rw [if_pos rfl,if_pos hl];exact ⟨x,rfl⟩
 rw [if_neg e];exact ⟨k,hk⟩
theorem set_off {xs:List Value} {p i:Nat} {x y:Value} (h:xs[p]? = some y) (hi:¬i=p):(xs.set i x)[p]? = some y:=by
 rw [List.getElem?_set,if_neg hi];exact h
def ShE (w:World) (base top:Nat):Nat→Value→List Ex→Prop
 | 0,u,L=>L=[]∧∃ xs,w.ownsRow base 79 3 u L.length xs∧∀ q,u.ownBlock=some q→q < top
 | d+1,u,L=>∃ xs:List Value,(w.ownsRow base 79 3 u L.length xs∧∀ q,u.ownBlock=some q→q < top)∧∀ (j:Nat) (h:j < L.length),(∃ k,xs[j*3]? = some (.int .i64 k))∧(∃ v,xs[j*3+1]? = some (.int .i64 v))∧∃ u',xs[j*3+2]? = some u'∧ShE w base top d u' L[j].kids
def ShS (w:World) (base top:Nat):Nat→Value→List St→Prop
 | 0,u,L=>L=[]∧∃ xs,w.ownsRow base 81 11 u L.length xs∧∀ q,u.ownBlock=some q→q < top
 | d+1,u,L=>∃ xs:List Value,(w.ownsRow base 81 11 u L.length xs∧∀ q,u.ownBlock=some q→q < top)∧∀ (j:Nat) (h:j < L.length),(∀ i,i=0∨i=1∨i=2∨i=3∨i=5∨i=6∨i=8→∃ k,xs[j*11+i]? = some (.int .i64 k))∧(∃ u' D,xs[j*11+4]? = some u'∧ShE w base top D u' L[j].ix.kids)∧(∃ u' D,xs[j*11+7]? = some u'∧ShE w base top D u' L[j].val.kids)∧(∃ u',xs[j*11+9]? = some u'∧ShS w base top d u' L[j].body)∧(∃ u',xs[j*11+10]? = some u'∧ShS w base top d u' L[j].els)
def NumAt (w:World) (b i:Nat):Prop:=∃ cur T,w.heap[b]? = some (.cells cur T (0,0))∧i < cur.size∧((T=79∧¬i % 3=2)∨(T=81∧¬(i % 11=4∨i % 11=7∨i % 11=9∨i % 11=10)))
theorem ShE.put {w:World} {b i:Nat} {x:Int} (hw:NumAt w b i):∀ {d base top:Nat} {u:Value} {L:List Ex},ShE w base top d u L→ShE (w.setCell ⟨b,i,none⟩ (.int .i64 x)) base top d u L:=by
 obtain ⟨b0,T,hb,hi,hT⟩:=hw;intro d
 induction d with
 | zero =>
  intro base top u L h;obtain ⟨h1,xs,h2,a0⟩:=h;rcases own_put h2 hb i hi (.int .i64 x) with ⟨h3,_⟩ | ⟨_,_,h3⟩
  ·exact ⟨h1,_,h3,a0⟩
  exact ⟨h1,_,h3,a0⟩
 | succ d ih =>
  intro base top u L h;obtain ⟨xs,⟨h2,a0⟩,h4⟩:=h;rcases own_put h2 hb i hi (.int .i64 x) with ⟨h3,_⟩ | ⟨e,_,h3⟩
  ·exact ⟨xs,⟨h3,a0⟩,fun j hj=>by
    obtain ⟨a1,a2,u',a3,a4⟩:=h4 j hj;exact ⟨a1,a2,u',a3,ih a4⟩⟩
  have c0:¬i % 3=2:=by
   rcases hT with ⟨_,h5⟩ | ⟨h5,_⟩
   ·exact h5
   rw [← e] at h5;exact absurd h5 (by decide)
  exact ⟨_,⟨h3,a0⟩,fun j hj=>by
   obtain ⟨a1,a2,u',a3,a4⟩:=h4 j hj;exact ⟨set_int a1,set_int a2,u',set_off a3 (by omega),ih a4⟩⟩
theorem ShS.put {w:World} {b i:Nat} {x:Int} (hw:NumAt w b i):∀ {d base top:Nat} {u:Value} {L:List St},ShS w base top d u L→ShS (w.setCell ⟨b,i,none⟩ (.int .i64 x)) base top d u L:=by
 have hE:=fun {d base top:Nat} {u:Value} {L:List Ex}=>ShE.put (x:=x) hw (d:=d) (base:=base) (top:=top) (u:=u) (L:=L)
 obtain ⟨b0,T,hb,hi,hT⟩:=hw;intro d
 induction d with
 | zero =>
  intro base top u L h;obtain ⟨h1,xs,h2,a0⟩:=h;rcases own_put h2 hb i hi (.int .i64 x) with ⟨h3,_⟩ | ⟨_,_,h3⟩
  ·exact ⟨h1,_,h3,a0⟩
  exact ⟨h1,_,h3,a0⟩
 | succ d ih =>
  intro base top u L h;obtain ⟨xs,⟨h2,a0⟩,h4⟩:=h;rcases own_put h2 hb i hi (.int .i64 x) with ⟨h3,_⟩ | ⟨e,_,h3⟩
  ·exact ⟨xs,⟨h3,a0⟩,fun j hj=>by
    obtain ⟨a1,⟨u1,D1,b1,c1⟩,⟨u2,D2,b2,c2⟩,⟨u3,b3,c3⟩,u4,b4,c4⟩:=h4 j hj;exact ⟨a1,⟨u1,D1,b1,hE c1⟩,⟨u2,D2,b2,hE c2⟩,⟨u3,b3,ih c3⟩,u4,b4,ih c4⟩⟩
  have c0:¬(i % 11=4∨i % 11=7∨i % 11=9∨i % 11=10):=by
   rcases hT with ⟨h5,_⟩ | ⟨_,h5⟩
   ·rw [← e] at h5;exact absurd h5 (by decide)
   exact h5
  exact ⟨_,⟨h3,a0⟩,fun j hj=>by
   obtain ⟨a1,⟨u1,D1,b1,c1⟩,⟨u2,D2,b2,c2⟩,⟨u3,b3,c3⟩,u4,b4,c4⟩:=h4 j hj;exact ⟨fun q hq=>set_int (a1 q hq),⟨u1,D1,set_off b1 (by omega),hE c1⟩,⟨u2,D2,set_off b2 (by omega),hE c2⟩,⟨u3,set_off b3 (by omega),ih c3⟩,u4,set_off b4 (by omega),ih c4⟩⟩
theorem ShE.keep {w w':World} {base top:Nat} {S:Nat→Prop} (hc:Chg S w w') (hS:∀ q,base≤q→q < w.heap.size→¬S q):∀ {d:Nat} {u:Value} {L:List Ex},ShE w base top d u L→ShE w' base top d u L:=by
 intro d
 induction d with
 | zero =>
  intro u L h;obtain ⟨h1,xs,h2,a0⟩:=h;exact ⟨h1,xs,Ow h2 hc (fun q hq=>hS q (h2.lt q hq).1 (h2.lt q hq).2),a0⟩
 | succ d ih =>
  intro u L h;obtain ⟨xs,⟨h2,a0⟩,h4⟩:=h
  exact ⟨xs,⟨Ow h2 hc (fun q hq=>hS q (h2.lt q hq).1 (h2.lt q hq).2),a0⟩,fun j hj=>by
   obtain ⟨a1,a2,u',a3,a4⟩:=h4 j hj;exact ⟨a1,a2,u',a3,ih a4⟩⟩
theorem ShS.keep {w w':World} {base top:Nat} {S:Nat→Prop} (hc:Chg S w w') (hS:∀ q,base≤q→q < w.heap.size→¬S q):∀ {d:Nat} {u:Value} {L:List St},ShS w base top d u L→ShS w' base top d u L:=by
 intro d
 induction d with
 | zero =>
  intro u L h;obtain ⟨h1,xs,h2,a0⟩:=h;exact ⟨h1,xs,Ow h2 hc (fun q hq=>hS q (h2.lt q hq).1 (h2.lt q hq).2),a0⟩
 | succ d ih =>
  intro u L h;obtain ⟨xs,⟨h2,a0⟩,h4⟩:=h
  exact ⟨xs,⟨Ow h2 hc (fun q hq=>hS q (h2.lt q hq).1 (h2.lt q hq).2),a0⟩,fun j hj=>by
   obtain ⟨a1,⟨u1,D1,b1,c1⟩,⟨u2,D2,b2,c2⟩,⟨u3,b3,c3⟩,u4,b4,c4⟩:=h4 j hj;exact ⟨a1,⟨u1,D1,b1,ShE.keep hc hS c1⟩,⟨u2,D2,b2,ShE.keep hc hS c2⟩,⟨u3,b3,ih c3⟩,u4,b4,ih c4⟩⟩
structure Pr (w w':World):Prop where
 e:∀ {d base top:Nat} {u:Value} {L:List Ex},ShE w base top d u L→ShE w' base top d u L
 s:∀ {d base top:Nat} {u:Value} {L:List St},ShS w base top d u L→ShS w' base top d u L
theorem Pr.refl (w:World):Pr w w:=⟨id,id⟩
theorem Pr.trans {a b c:World} (h:Pr a b) (k:Pr b c):Pr a c:=⟨fun x=>k.e (h.e x),fun x=>k.s (h.s x)⟩
theorem Pr.put {w:World} {b i:Nat} {x:Int} (hw:NumAt w b i):Pr w (w.setCell ⟨b,i,none⟩ (.int .i64 x)):=⟨fun h=>h.put hw,fun h=>h.put hw⟩
theorem Pr.below {w w':World} (h:Below w.heap.size w w'):Pr w w':=⟨fun x=>x.keep (S:=fun _=>False) (Cb h) (fun _ _ _=>id),fun x=>x.keep (S:=fun _=>False) (Cb h) (fun _ _ _=>id)⟩
end Go.Proofs.Ytnpidfbcbmeijaa
