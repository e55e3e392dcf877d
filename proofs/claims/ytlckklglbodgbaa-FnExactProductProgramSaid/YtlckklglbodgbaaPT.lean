/-
 Parts of the proofs of the laws FnExactProductProgram.
-/
import Derived.Test.YtlckklglbodgbaaCL
set_option linter.all false
namespace Go.Proofs.Ytlckklglbodgbaa
open Go.RowKit
inductive Ex where
 | mk (k v:Int) (kids:List Ex)
inductive St where
 | mk (k t:Int) (ix val:Ex) (c:Int) (body els:List St)
def Ex.k:Ex→Int | .mk k _ _=>k
def Ex.v:Ex→Int | .mk _ v _=>v
def Ex.kids:Ex→List Ex | .mk _ _ l=>l
structure En where
 k:Int
 v:Int
 p:Option Addr
 n:Nat
 c:Nat
def En.u (e:En):Value:=.slice e.p e.n e.c
def enc (e:En):List Value:=[.int .i64 e.k,.int .i64 e.v,.slice e.p e.n e.c]
theorem enc_len (e:En):(enc e).length=3:=rfl
theorem one_enc (e:En):∀ u ∈ enc e,u.oneCell'=true:=by
 intro u hu;simp only [enc,List.mem_cons,List.not_mem_nil,or_false] at hu;rcases hu with rfl | rfl | rfl <;> rfl
structure Sn where
 k:Int
 t:Int
 ix:En
 val:En
 c:Int
 bp:Option Addr
 bn:Nat
 bc:Nat
 ep:Option Addr
 en:Nat
 ec:Nat
def snc (s:Sn):List Value:=[.int .i64 s.k,.int .i64 s.t,.int .i64 s.ix.k,.int .i64 s.ix.v,.slice s.ix.p s.ix.n s.ix.c,.int .i64 s.val.k,.int .i64 s.val.v,.slice s.val.p s.val.n s.val.c,.int .i64 s.c,.slice s.bp s.bn s.bc,.slice s.ep s.en s.ec]
theorem snc_len (s:Sn):(snc s).length=11:=rfl
theorem one_snc (s:Sn):∀ u ∈ snc s,u.oneCell'=true:=by
 intro u hu;simp only [snc,List.mem_cons,List.not_mem_nil,or_false] at hu;rcases hu with rfl | rfl | rfl | rfl | rfl | rfl | rfl | rfl | rfl | rfl | rfl <;> rfl
def RowOf {α β:Type} (f:α→List Value) (sz:Nat) (w:World) (B:Nat→Prop) (R:α→β→Prop) (u:Value) (l:List β):Prop:=
 ∃ rs:List α,rs.length=l.length∧Reads w sz u l.length (rows f rs)∧(∀ b o c,0 < l.length→u=.slice (some ⟨b,o,none⟩) l.length c→B b)∧∀ j (h:j < rs.length) (h':j < l.length),R rs[j] l[j]
theorem RowOf.keep {α β:Type} {f:α→List Value} {sz:Nat} {w w':World} {B B':Nat→Prop} {R R':α→β→Prop} {u:Value} {l:List β} (h:RowOf f sz w B R u l) {S:Nat→Prop} (hc:Chg S w w') (hS:∀ q,B q→q < w.heap.size→¬S q) (hB:∀ q,B q→q < w.heap.size→B' q) (hR:∀ a b,R a b→R' a b):RowOf f sz w' B' R' u l:=by
 obtain ⟨rs,h1,h2,h3,h4⟩:=h;exact ⟨rs,h1,h2.keep hc (fun b o c h0 hv=>hS b (h3 b o c h0 hv) (reads_lt h2 b o c h0 hv)),fun b o c h0 hv=>hB b (h3 b o c h0 hv) (reads_lt h2 b o c h0 hv),fun j h h'=>hR _ _ (h4 j h h')⟩
theorem RowOf.nil {α β:Type} {f:α→List Value} {sz:Nat} {w:World} {B:Nat→Prop} {R:α→β→Prop}:RowOf f sz w B R (.slice none 0 0) []:=
 ⟨[],rfl,Ro (base:=0) (e:=0) (World.ownsRow_nil w 0 0 sz) (by simp),(fun b o c h0=>by simp at h0),(fun j h=>by simp at h)⟩
theorem RowOf.shape {α β:Type} {f:α→List Value} {sz:Nat} {w:World} {B:Nat→Prop} {R:α→β→Prop} {u:Value} {l:List β} (h:RowOf f sz w B R u l):∃ a c,u=.slice a l.length c:=by
 obtain ⟨_,_,h,_⟩:=h;exact reads_shape h
theorem RowOf.of_own {α β:Type} {f:α→List Value} {sz:Nat} {w:World} {B:Nat→Prop} {base:Nat} {e:TypeId} {R:α→β→Prop} {u:Value} {l:List β} {rs:List α} (hl:rs.length=l.length) (ho:w.ownsRow base e sz u l.length (rows f rs)) (hn:l.length≤9223372036854775807) (hB:∀ q,base≤q→q < w.heap.size→B q) (hR:∀ j (h:j < rs.length) (h':j < l.length),R rs[j] l[j]):RowOf f sz w B R u l:=
 ⟨rs,hl,Ro ho hn,fun b o c _ hv=>by have:=ho.lt b (by rw [hv];rfl);exact hB b this.1 this.2,hR⟩
theorem rows_push {α β:Type} {R:α→β→Prop} {rs:List α} {l:List β} {a:α} {b:β} (hl:rs.length=l.length) (h:∀ j (h:j < rs.length) (h':j < l.length),R rs[j] l[j]) (hab:R a b):∀ j (h:j < (rs++[a]).length) (h':j < (l++[b]).length),R (rs++[a])[j] (l++[b])[j]:=by
 intro j h1 h2;by_cases hj:j < rs.length
 ·rw [List.getElem_append_left hj,List.getElem_append_left (by omega)];exact h j hj (by omega)
 have a0:j=rs.length:=by simp at h1;omega
 subst a0;rw [List.getElem_append_right Lr,List.getElem_append_right (by omega)];simpa [hl] using hab
def ExAt (w:World) (B:Nat→Prop):Nat→En→Ex→Prop
 | 0,_,_=>False
 | d+1,n,e=>n.k=e.k∧n.v=e.v∧RowOf enc 3 w B (ExAt w B d) n.u e.kids
theorem ExAt.keep {w w':World} {B B':Nat→Prop} {S:Nat→Prop} (hc:Chg S w w') (hS:∀ q,B q→q < w.heap.size→¬S q) (hB:∀ q,B q→q < w.heap.size→B' q):∀ {d d':Nat} {n:En} {e:Ex},d≤d'→ExAt w B d n e→ExAt w' B' d' n e:=by
 intro d
 induction d with
 | zero=>intro d' n e _ h;cases h
 | succ d ih =>
  intro d' n e hd h
  cases d' with
  | zero=>omega
  | succ d' =>
   obtain ⟨h1,h2,h3⟩:=h;exact ⟨h1,h2,h3.keep hc hS hB (fun a b hab=>ih (by omega) hab)⟩
theorem ExAt.below {w w':World} {B:Nat→Prop} {d:Nat} {n:En} {e:Ex} (h:ExAt w B d n e) (hb:Below w.heap.size w w'):ExAt w' B d n e:=ExAt.keep (S:=fun _=>False) (Cb hb) (fun _ _ _=>id) (fun _ h _=>h) Lr h
theorem ExAt.leaf {w:World} {B:Nat→Prop} {d:Nat} (k v:Int):ExAt w B (d+1) ⟨k,v,none,0,0⟩ (.mk k v []):=⟨rfl,rfl,RowOf.nil⟩
theorem ExAt.shape {w:World} {B:Nat→Prop} {d:Nat} {n:En} {e:Ex} (h:ExAt w B d n e):n.k=e.k∧n.v=e.v∧n.n=e.kids.length:=by
 cases d with
 | zero=>cases h
 | succ d =>
  obtain ⟨h1,h2,h3⟩:=h;obtain ⟨a,c,hu⟩:=h3.shape;simp only [En.u,Value.slice.injEq] at hu;exact ⟨h1,h2,hu.2.1⟩
theorem ExAt.kid {w:World} {B:Nat→Prop} {d:Nat} {n:En} {e:Ex} (h:ExAt w B (d+1) n e) (j:Nat) (hj:j < e.kids.length) :
  ∃ b o m,n.p=some ⟨b,o,none⟩∧B b∧b < w.heap.size∧ExAt w B d m e.kids[j]∧w.cell? ⟨b,o+j*3,none⟩=some (.int .i64 m.k)∧w.cell? ⟨b,o+j*3+1,none⟩=some (.int .i64 m.v)∧w.cell? ⟨b,o+j*3+2,none⟩=some (.slice m.p m.n m.c):=by
 obtain ⟨_,_,rs,h1,h2,h3,h4⟩:=h;have d0:=reads_lt h2;obtain ⟨_,_,a,b0,b,a0,hu,_,ha,c0⟩:=h2;obtain ⟨rfl,hb⟩:=ha (by omega);simp only [En.u,Value.slice.injEq] at hu;have g:=fun i hi=>reads_row enc_len c0 j (by omega) i hi
 refine ⟨b,a0,rs[j],hu.1,h3 b a0 b0 (by omega) (by simp only [En.u,hu.1,hu.2.1,hu.2.2]),hb,h4 j (by omega) hj,?_,?_,?_⟩
 ·exact g 0 (by omega)
 ·exact g 1 (by omega)
 exact g 2 (by omega)
theorem ExAt.kidm {w:World} {B:Nat→Prop} {d:Nat} {n:En} {k v:Int} {l:List Ex} (h:ExAt w B (d+1) n (.mk k v l)) (j:Nat) (hj:j < l.length) :
  ∃ b o m,n.p=some ⟨b,o,none⟩∧B b∧b < w.heap.size∧ExAt w B d m l[j]∧w.cell? ⟨b,o+j*3,none⟩=some (.int .i64 m.k)∧w.cell? ⟨b,o+j*3+1,none⟩=some (.int .i64 m.v)∧w.cell? ⟨b,o+j*3+2,none⟩=some (.slice m.p m.n m.c):=h.kid j hj
def StAt (w:World) (B:Nat→Prop):Nat→Sn→St→Prop
 | 0,_,_=>False
 | d+1,n,.mk k t ix val c body els=>n.k=k∧n.t=t∧n.c=c∧(∃ D,ExAt w B D n.ix ix)∧(∃ D,ExAt w B D n.val val)∧RowOf snc 11 w B (StAt w B d) (.slice n.bp n.bn n.bc) body∧RowOf snc 11 w B (StAt w B d) (.slice n.ep n.en n.ec) els
theorem StAt.keep {w w':World} {B B':Nat→Prop} {S:Nat→Prop} (hc:Chg S w w') (hS:∀ q,B q→q < w.heap.size→¬S q) (hB:∀ q,B q→q < w.heap.size→B' q):∀ {d d':Nat} {n:Sn} {s:St},d≤d'→StAt w B d n s→StAt w' B' d' n s:=by
 intro d
 induction d with
 | zero=>intro d' n s _ h;cases h
 | succ d ih =>
  intro d' n s hd h
  cases d' with
  | zero=>omega
  | succ d' =>
   obtain ⟨k,t,ix,c0,c,a0,b0⟩:=s;obtain ⟨h1,h2,h3,⟨D1,h4⟩,⟨D2,h5⟩,h6,h7⟩:=h;exact ⟨h1,h2,h3,⟨D1,ExAt.keep hc hS hB Lr h4⟩,⟨D2,ExAt.keep hc hS hB Lr h5⟩,h6.keep hc hS hB (fun a b hab=>ih (by omega) hab),h7.keep hc hS hB (fun a b hab=>ih (by omega) hab)⟩
def BlAt (w:World) (B:Nat→Prop) (d:Nat) (u:Value) (l:List St):Prop:=RowOf snc 11 w B (StAt w B d) u l
theorem BlAt.keep {w w':World} {B B':Nat→Prop} {d d':Nat} {u:Value} {l:List St} {S:Nat→Prop} (h:BlAt w B d u l) (hc:Chg S w w') (hS:∀ q,B q→q < w.heap.size→¬S q) (hB:∀ q,B q→q < w.heap.size→B' q) (hd:d≤d'):BlAt w' B' d' u l:=RowOf.keep h hc hS hB (fun _ _ hab=>StAt.keep hc hS hB hd hab)
theorem BlAt.below {w w':World} {B:Nat→Prop} {d:Nat} {u:Value} {l:List St} (h:BlAt w B d u l) (hb:Below w.heap.size w w'):BlAt w' B d u l:=h.keep (S:=fun _=>False) (Cb hb) (fun _ _ _=>id) (fun _ h _=>h) Lr
theorem BlAt.stmt {w:World} {B:Nat→Prop} {d:Nat} {u:Value} {l:List St} (h:BlAt w B d u l) (j:Nat) (hj:j < l.length) :
  ∃ b o c m,u=.slice (some ⟨b,o,none⟩) l.length c∧B b∧b < w.heap.size∧StAt w B d m l[j]∧∀ i (_hi:i < 11),w.cell? ⟨b,o+(j*11+i),none⟩=(snc m)[i]?:=by
 obtain ⟨rs,h1,h2,h3,h4⟩:=h;obtain ⟨_,_,a,a0,b,b0,rfl,_,ha,c0⟩:=h2;obtain ⟨rfl,hb⟩:=ha (by omega);refine ⟨b,b0,a0,rs[j],rfl,h3 b b0 a0 (by omega) rfl,hb,h4 j (by omega) hj,fun i hi=>?_⟩;have hl:=rows_length snc_len rs;have hk:j*11+i < (rows snc rs).length:=by omega
 rw [c0 (j*11+i) hk,← rows_get snc_len rs j (by omega) i hi,List.getElem?_eq_getElem hk]
theorem ExAt.kI {w w':World} {lo hi d:Nat} {n:En} {e:Ex} {S:Nat→Prop} (hc:Chg S w w') (hs:∀ q,lo≤q→q < hi→¬S q) (h:ExAt w (fun q=>lo≤q∧q < hi) d n e):ExAt w' (fun q=>lo≤q∧q < hi) d n e:=ExAt.keep hc (fun q hq _=>hs q hq.1 hq.2) (fun _ h _=>h) Lr h
def St.k:St→Int | .mk k _ _ _ _ _ _=>k
def St.t:St→Int | .mk _ t _ _ _ _ _=>t
def St.ix:St→Ex | .mk _ _ ix _ _ _ _=>ix
def St.val:St→Ex | .mk _ _ _ v _ _ _=>v
def St.c:St→Int | .mk _ _ _ _ c _ _=>c
def St.body:St→List St | .mk _ _ _ _ _ b _=>b
def St.els:St→List St | .mk _ _ _ _ _ _ e=>e
mutual
def exN:Ex→Nat
 | .mk _ _ l=>exNs l
def exNs:List Ex→Nat
 | []=>0
 | e::l=>(1+exN e)+exNs l
end
mutual
def stN1:St→Nat
 | .mk _ _ ix v _ b e=>((exN ix+exN v)+stNs b)+stNs e
def stNs:List St→Nat
 | []=>0
 | s::l=>(1+stN1 s)+stNs l
end
theorem exN_kids (e:Ex):exN e=exNs (Ex.kids e):=by cases e;rfl
theorem exNs_app (a b:List Ex):exNs (a++b)=exNs a+exNs b:=by
 induction a with
 | nil=>simp [exNs]
 | cons e a ih=>simp only [List.cons_append,exNs];omega
theorem exNs_take {l:List Ex} {k:Nat} (h:k < l.length):exNs (l.take (k+1))=exNs (l.take k)+(1+exN l[k]):=by
 rw [List.take_succ_eq_append_getElem h,exNs_app];simp [exNs]
theorem exNs_all (l:List Ex):exNs (l.take l.length)=exNs l:=by rw [List.take_of_length_le Lr]
theorem exNs_le (l:List Ex) (k:Nat) (h:k≤l.length):exNs (l.take k)+(l.length-k)≤exNs l:=by
 induction l generalizing k with
 | nil=>simp [exNs]
 | cons e l ih =>
  cases k with
  | zero=>have:=ih 0 (Nat.zero_le _);simp [exNs] at this ⊢;omega
  | succ k=>have:=ih k (by simpa using h);simp [exNs] at this ⊢;omega
theorem exNs_len (l:List Ex):l.length≤exNs l:=by have:=exNs_le l 0 (Nat.zero_le _);simp [exNs] at this;omega
theorem exNs_at {l:List Ex} {k:Nat} (h:k < l.length):exN l[k] < exNs l:=by
 have h1:=exNs_take h;have h2:=exNs_le l (k+1) h;omega
theorem stN_parts (s:St):stN1 s=((exN s.ix+exN s.val)+stNs s.body)+stNs s.els:=by cases s;rfl
theorem stNs_app (a b:List St):stNs (a++b)=stNs a+stNs b:=by
 induction a with
 | nil=>simp [stNs]
 | cons e a ih=>simp only [List.cons_append,stNs];omega
theorem stNs_take {l:List St} {k:Nat} (h:k < l.length):stNs (l.take (k+1))=stNs (l.take k)+(1+stN1 l[k]):=by
 rw [List.take_succ_eq_append_getElem h,stNs_app];simp [stNs]
theorem stNs_all (l:List St):stNs (l.take l.length)=stNs l:=by rw [List.take_of_length_le Lr]
theorem stNs_le (l:List St) (k:Nat) (h:k≤l.length):stNs (l.take k)+(l.length-k)≤stNs l:=by
 induction l generalizing k with
 | nil=>simp [stNs]
 | cons e l ih =>
  cases k with
  | zero=>have:=ih 0 (Nat.zero_le _);simp [stNs] at this ⊢;omega
  | succ k=>have:=ih k (by simpa using h);simp [stNs] at this ⊢;omega
theorem stNs_len (l:List St):l.length≤stNs l:=by have:=stNs_le l 0 (Nat.zero_le _);simp [stNs] at this;omega
theorem stNs_at {l:List St} {k:Nat} (h:k < l.length):stN1 l[k] < stNs l:=by
 have h1:=stNs_take h;have h2:=stNs_le l (k+1) h;omega
theorem own_put {w:World} {base:Nat} {e e':TypeId} {sz n:Nat} {v:Value} {xs:List Value} (h:w.ownsRow base e sz v n xs) {b:Nat} {cur:Array Value} (hb:w.heap[b]? = some (.cells cur e' (0,0))) (i:Nat) (hi:i < cur.size) (x:Value) :
  ((w.setCell ⟨b,i,none⟩ x).ownsRow base e sz v n xs∧¬v.ownBlock=some b)∨(e=e'∧v.ownBlock=some b∧(w.setCell ⟨b,i,none⟩ x).ownsRow base e sz v n (xs.set i x)):=by
 by_cases hv:v.ownBlock=some b
 ·refine Or.inr ?_;obtain ⟨h1,h2 | ⟨g,a0,c2,rfl,h3,h4,h5,h6,h7,h8⟩⟩:=h
  ·rw [h2.1] at hv;cases hv
  have hg:g=b:=Si hv;subst hg;rw [h4] at hb;have e1:=Si hb;injection e1 with e2 e3 e4
  subst e2 e3;refine ⟨rfl,rfl,?_⟩;have ho:w.ownsRow base e sz (.slice (some ⟨g,0,none⟩) n a0) n xs:=⟨h1,Or.inr ⟨g,a0,c2,rfl,h3,h4,h5,h6,h7,h8⟩⟩;exact (ho.stored i x).1
 exact Or.inl ⟨Oe h b i hv x,hv⟩
theorem set_int {xs:List Value} {p i:Nat} {x:Int} (h:∃ k,xs[p]? = some (.int .i64 k)):∃ k,(xs.set i (.int .i64 x))[p]? = some (.int .i64 k):=by
 obtain ⟨k,hk⟩:=h;rw [List.getElem?_set];by_cases e:i=p
 ·subst e
  have hl:i < xs.length:=by
   cases hq:xs[i]? with
   | none=>rw [hq] at hk;cases hk
   | some y=>exact (List.getElem?_eq_some_iff.1 hq).1
  rw [if_pos rfl,if_pos hl];exact ⟨x,rfl⟩
 rw [if_neg e];exact ⟨k,hk⟩
theorem set_off {xs:List Value} {p i:Nat} {x y:Value} (h:xs[p]? = some y) (hi:¬i=p):(xs.set i x)[p]? = some y:=by
 rw [List.getElem?_set,if_neg hi];exact h
def ShE (w:World) (base top:Nat):Nat→Value→List Ex→Prop
 | 0,u,L=>L=[]∧∃ xs,w.ownsRow base 49 3 u L.length xs∧∀ q,u.ownBlock=some q→q < top
 | d+1,u,L=>∃ xs:List Value,(w.ownsRow base 49 3 u L.length xs∧∀ q,u.ownBlock=some q→q < top)∧∀ (j:Nat) (h:j < L.length),(∃ k,xs[j*3]? = some (.int .i64 k))∧(∃ v,xs[j*3+1]? = some (.int .i64 v))∧∃ u',xs[j*3+2]? = some u'∧ShE w base top d u' L[j].kids
def ShS (w:World) (base top:Nat):Nat→Value→List St→Prop
 | 0,u,L=>L=[]∧∃ xs,w.ownsRow base 51 11 u L.length xs∧∀ q,u.ownBlock=some q→q < top
 | d+1,u,L=>∃ xs:List Value,(w.ownsRow base 51 11 u L.length xs∧∀ q,u.ownBlock=some q→q < top)∧∀ (j:Nat) (h:j < L.length),(∀ i,i=0∨i=1∨i=2∨i=3∨i=5∨i=6∨i=8→∃ k,xs[j*11+i]? = some (.int .i64 k))∧(∃ u' D,xs[j*11+4]? = some u'∧ShE w base top D u' L[j].ix.kids)∧(∃ u' D,xs[j*11+7]? = some u'∧ShE w base top D u' L[j].val.kids)∧(∃ u',xs[j*11+9]? = some u'∧ShS w base top d u' L[j].body)∧(∃ u',xs[j*11+10]? = some u'∧ShS w base top d u' L[j].els)
def NumAt (w:World) (b i:Nat):Prop:=∃ cur T,w.heap[b]? = some (.cells cur T (0,0))∧i < cur.size∧((T=49∧¬i % 3=2)∨(T=51∧¬(i % 11=4∨i % 11=7∨i % 11=9∨i % 11=10)))
theorem ShE.put {w:World} {b i:Nat} {x:Int} (hw:NumAt w b i):∀ {d base top:Nat} {u:Value} {L:List Ex},ShE w base top d u L→ShE (w.setCell ⟨b,i,none⟩ (.int .i64 x)) base top d u L:=by
 obtain ⟨b0,T,hb,hi,hT⟩:=hw;intro d
 induction d with
 | zero =>
  intro base top u L h;obtain ⟨h1,xs,h2,a0⟩:=h;rcases own_put h2 hb i hi (.int .i64 x) with ⟨h3,_⟩ | ⟨_,_,h3⟩
  ·exact ⟨h1,_,h3,a0⟩
  exact ⟨h1,_,h3,a0⟩
 | succ d ih =>
  intro base top u L h;obtain ⟨xs,⟨h2,a0⟩,h4⟩:=h;rcases own_put h2 hb i hi (.int .i64 x) with ⟨h3,_⟩ | ⟨e,_,h3⟩
  ·exact ⟨xs,⟨h3,a0⟩,fun j hj=>by
    obtain ⟨a1,a2,u',a3,a4⟩:=h4 j hj;exact ⟨a1,a2,u',a3,ih a4⟩⟩
  have c0:¬i % 3=2:=by
   rcases hT with ⟨_,h5⟩ | ⟨h5,_⟩
   ·exact h5
   rw [← e] at h5;exact absurd h5 (by decide)
  exact ⟨_,⟨h3,a0⟩,fun j hj=>by
   obtain ⟨a1,a2,u',a3,a4⟩:=h4 j hj;exact ⟨set_int a1,set_int a2,u',set_off a3 (by omega),ih a4⟩⟩
theorem ShS.put {w:World} {b i:Nat} {x:Int} (hw:NumAt w b i):∀ {d base top:Nat} {u:Value} {L:List St},ShS w base top d u L→ShS (w.setCell ⟨b,i,none⟩ (.int .i64 x)) base top d u L:=by
 have hE:=fun {d base top:Nat} {u:Value} {L:List Ex}=>ShE.put (x:=x) hw (d:=d) (base:=base) (top:=top) (u:=u) (L:=L)
 obtain ⟨b0,T,hb,hi,hT⟩:=hw;intro d
 induction d with
 | zero =>
  intro base top u L h;obtain ⟨h1,xs,h2,a0⟩:=h;rcases own_put h2 hb i hi (.int .i64 x) with ⟨h3,_⟩ | ⟨_,_,h3⟩
  ·exact ⟨h1,_,h3,a0⟩
  exact ⟨h1,_,h3,a0⟩
 | succ d ih =>
  intro base top u L h;obtain ⟨xs,⟨h2,a0⟩,h4⟩:=h;rcases own_put h2 hb i hi (.int .i64 x) with ⟨h3,_⟩ | ⟨e,_,h3⟩
  ·exact ⟨xs,⟨h3,a0⟩,fun j hj=>by
    obtain ⟨a1,⟨u1,D1,b1,c1⟩,⟨u2,D2,b2,c2⟩,⟨u3,b3,c3⟩,u4,b4,c4⟩:=h4 j hj;exact ⟨a1,⟨u1,D1,b1,hE c1⟩,⟨u2,D2,b2,hE c2⟩,⟨u3,b3,ih c3⟩,u4,b4,ih c4⟩⟩
  have c0:¬(i % 11=4∨i % 11=7∨i % 11=9∨i % 11=10):=by
   rcases hT with ⟨h5,_⟩ | ⟨_,h5⟩
   ·rw [← e] at h5;exact absurd h5 (by decide)
   exact h5
  exact ⟨_,⟨h3,a0⟩,fun j hj=>by
   obtain ⟨a1,⟨u1,D1,b1,c1⟩,⟨u2,D2,b2,c2⟩,⟨u3,b3,c3⟩,u4,b4,c4⟩:=h4 j hj;exact ⟨fun q hq=>set_int (a1 q hq),⟨u1,D1,set_off b1 (by omega),hE c1⟩,⟨u2,D2,set_off b2 (by omega),hE c2⟩,⟨u3,set_off b3 (by omega),ih c3⟩,u4,set_off b4 (by omega),ih c4⟩⟩
theorem ShE.keep {w w':World} {base top:Nat} {S:Nat→Prop} (hc:Chg S w w') (hS:∀ q,base≤q→q < w.heap.size→¬S q):∀ {d:Nat} {u:Value} {L:List Ex},ShE w base top d u L→ShE w' base top d u L:=by
 intro d
 induction d with
 | zero =>
  intro u L h;obtain ⟨h1,xs,h2,a0⟩:=h;exact ⟨h1,xs,Ow h2 hc (fun q hq=>hS q (h2.lt q hq).1 (h2.lt q hq).2),a0⟩
 | succ d ih =>
  intro u L h;obtain ⟨xs,⟨h2,a0⟩,h4⟩:=h
  exact ⟨xs,⟨Ow h2 hc (fun q hq=>hS q (h2.lt q hq).1 (h2.lt q hq).2),a0⟩,fun j hj=>by
   obtain ⟨a1,a2,u',a3,a4⟩:=h4 j hj;exact ⟨a1,a2,u',a3,ih a4⟩⟩
theorem ShS.keep {w w':World} {base top:Nat} {S:Nat→Prop} (hc:Chg S w w') (hS:∀ q,base≤q→q < w.heap.size→¬S q):∀ {d:Nat} {u:Value} {L:List St},ShS w base top d u L→ShS w' base top d u L:=by
 intro d
 induction d with
 | zero =>
  intro u L h;obtain ⟨h1,xs,h2,a0⟩:=h;exact ⟨h1,xs,Ow h2 hc (fun q hq=>hS q (h2.lt q hq).1 (h2.lt q hq).2),a0⟩
 | succ d ih =>
  intro u L h;obtain ⟨xs,⟨h2,a0⟩,h4⟩:=h
  exact ⟨xs,⟨Ow h2 hc (fun q hq=>hS q (h2.lt q hq).1 (h2.lt q hq).2),a0⟩,fun j hj=>by
   obtain ⟨a1,⟨u1,D1,b1,c1⟩,⟨u2,D2,b2,c2⟩,⟨u3,b3,c3⟩,u4,b4,c4⟩:=h4 j hj;exact ⟨a1,⟨u1,D1,b1,ShE.keep hc hS c1⟩,⟨u2,D2,b2,ShE.keep hc hS c2⟩,⟨u3,b3,ih c3⟩,u4,b4,ih c4⟩⟩
structure Pr (w w':World):Prop where
 e:∀ {d base top:Nat} {u:Value} {L:List Ex},ShE w base top d u L→ShE w' base top d u L
 s:∀ {d base top:Nat} {u:Value} {L:List St},ShS w base top d u L→ShS w' base top d u L
theorem Pr.refl (w:World):Pr w w:=⟨id,id⟩
theorem Pr.trans {a b c:World} (h:Pr a b) (k:Pr b c):Pr a c:=⟨fun x=>k.e (h.e x),fun x=>k.s (h.s x)⟩
theorem Pr.put {w:World} {b i:Nat} {x:Int} (hw:NumAt w b i):Pr w (w.setCell ⟨b,i,none⟩ (.int .i64 x)):=⟨fun h=>h.put hw,fun h=>h.put hw⟩
theorem Pr.below {w w':World} (h:Below w.heap.size w w'):Pr w w':=⟨fun x=>x.keep (S:=fun _=>False) (Cb h) (fun _ _ _=>id),fun x=>x.keep (S:=fun _=>False) (Cb h) (fun _ _ _=>id)⟩
end Go.Proofs.Ytlckklglbodgbaa
