/-
 Parts of the proofs of the laws FnDoubleLabels.
-/
import Derived.Test.YtlckklglbodgbaaGR
set_option linter.all false
namespace Go.Proofs.Ytlckklglbodgbaa
open Go.RowKit
theorem own_len {w:World} {base:Nat} {e:TypeId} {sz n:Nat} {v:Value} {xs:List Value} (h:w.ownsRow base e sz v n xs):n≤9223372036854775807:=by
 rcases h.2 with h | ⟨_,cap,_,_,_,_,h1,h2,_⟩
 ·omega
 have:maxLen≤9223372036854775807:=by unfold maxLen;omega
 omega
def Part {α β:Type} (R:α→β→Prop) (k:Nat) (rs:List α) (L:List β):Prop:=rs.length=L.length∧∀ (j:Nat) (h:j < rs.length) (h':j < L.length),j < k→R rs[j] L[j]
theorem Part.mono {α β:Type} {R R':α→β→Prop} {k:Nat} {rs:List α} {L:List β} (h:Part R k rs L) (hR:∀ a b,R a b→R' a b):Part R' k rs L:=⟨h.1,fun j h1 h2 h3=>hR _ _ (h.2 j h1 h2 h3)⟩
theorem Part.nil {α β:Type} {R:α→β→Prop} {rs:List α} {L:List β} (h:rs.length=L.length):Part R 0 rs L:=⟨h,fun j _ _ h=>by omega⟩
theorem Part.set {α β:Type} {R:α→β→Prop} {k:Nat} {rs:List α} {L:List β} (h:Part R k rs L) (hk:k < L.length) {m:α} (hm:R m L[k]):Part R (k+1) (rs.set k m) L:=by
 refine ⟨by rw [List.length_set];exact h.1,fun j h1 h2 h3=>?_⟩;rw [List.getElem_set];by_cases e:k=j
 ·subst e;rw [if_pos rfl];exact hm
 rw [if_neg e];exact h.2 j (by simpa using h1) h2 (by omega)
theorem Part.all {α β:Type} {R:α→β→Prop} {rs:List α} {L:List β} (h:Part R L.length rs L):∀ (j:Nat) (h1:j < rs.length) (h2:j < L.length),R rs[j] L[j]:=fun j h1 h2=>h.2 j h1 h2 h2
def TrE (w:World) (base:Nat):Nat→Value→List Ex→Prop
 | 0,u,L=>L=[]∧w.ownsRow base 49 3 u L.length []
 | d+1,u,L=>∃ rs:List En,rs.length=L.length∧w.ownsRow base 49 3 u L.length (rows enc rs)∧∀ (j:Nat) (_:j < rs.length) (_:j < L.length),rs[j].k=L[j].k∧rs[j].v=L[j].v∧TrE w base d rs[j].u L[j].kids
theorem TrE.keep {w w':World} {base:Nat} {S:Nat→Prop} (hc:Chg S w w') (hS:∀ q,base≤q→q < w.heap.size→¬S q):∀ {d:Nat} {u:Value} {L:List Ex},TrE w base d u L→TrE w' base d u L:=by
 intro d
 induction d with
 | zero=>intro u L h;exact ⟨h.1,Ow h.2 hc (fun q hq=>hS q (h.2.lt q hq).1 (h.2.lt q hq).2)⟩
 | succ d ih =>
  intro u L h;obtain ⟨rs,h1,h2,h3⟩:=h;exact ⟨rs,h1,Ow h2 hc (fun q hq=>hS q (h2.lt q hq).1 (h2.lt q hq).2),fun j a b=>⟨(h3 j a b).1,(h3 j a b).2.1,ih (h3 j a b).2.2⟩⟩
theorem TrE.below {w w':World} {base d:Nat} {u:Value} {L:List Ex} (h:TrE w base d u L) (hb:Below w.heap.size w w'):TrE w' base d u L:=TrE.keep (S:=fun _=>False) (Cb hb) (fun _ _ _=>id) h
theorem TrE.st {w:World} {base d:Nat} {u:Value} {L:List Ex} (h:TrE w base d u L) (b j:Nat) (hb:b < base) (v:Value):TrE (w.setCell ⟨b,j,none⟩ v) base d u L:=TrE.keep (S:=fun q=>q=b) ((Chg.refl _ _).setCell b j v (fun _=>rfl)) (fun q h1 _ h2=>by omega) h
theorem TrE.mono {w:World} {base base':Nat} (hb:base'≤base):∀ {d:Nat} {u:Value} {L:List Ex},TrE w base d u L→TrE w base' d u L:=by
 intro d
 induction d with
 | zero=>intro u L h;exact ⟨h.1,Om h.2 hb⟩
 | succ d ih =>
  intro u L h;obtain ⟨rs,h1,h2,h3⟩:=h;exact ⟨rs,h1,Om h2 hb,fun j a b=>⟨(h3 j a b).1,(h3 j a b).2.1,ih (h3 j a b).2.2⟩⟩
theorem TrE.own {w:World} {base d:Nat} {u:Value} {L:List Ex} (h:TrE w base d u L):∃ xs,w.ownsRow base 49 3 u L.length xs:=by
 cases d with
 | zero=>exact ⟨_,h.2⟩
 | succ d=>obtain ⟨rs,_,h2,_⟩:=h;exact ⟨_,h2⟩
theorem TrE.shape {w:World} {base d:Nat} {u:Value} {L:List Ex} (h:TrE w base d u L):∃ a c,u=.slice a L.length c:=by obtain ⟨_,ho⟩:=h.own;exact Oh ho
theorem TrE.row {w:World} {base:Nat}:∀ {d:Nat} {u:Value} {L:List Ex},TrE w base d u L→RowOf enc 3 w (fun q=>base≤q) (ExAt w (fun q=>base≤q) d) u L:=by
 intro d
 induction d with
 | zero =>
  intro u L h;obtain ⟨rfl,h2⟩:=h;exact RowOf.of_own (rs:=[]) rfl h2 (by simp) (fun q h _=>h) (fun j h=>by simp at h)
 | succ d ih =>
  intro u L h;obtain ⟨rs,h1,h2,h3⟩:=h;exact RowOf.of_own h1 h2 (own_len h2) (fun q h _=>h) (fun j a b=>⟨(h3 j a b).1,(h3 j a b).2.1,ih (h3 j a b).2.2⟩)
theorem enc_at {rs:List En} {j:Nat} (h:j < rs.length):(rows enc rs)[j*3]? = some (.int .i64 rs[j].k)∧(rows enc rs)[j*3+1]? = some (.int .i64 rs[j].v)∧(rows enc rs)[j*3+2]? = some rs[j].u:=
 ⟨rows_get enc_len rs j h 0 (by omega),rows_get enc_len rs j h 1 (by omega),rows_get enc_len rs j h 2 (by omega)⟩
theorem TrE.sh {w:World} {base:Nat}:∀ {d:Nat} {u:Value} {L:List Ex},TrE w base d u L→ShE w base w.heap.size d u L:=by
 intro d
 induction d with
 | zero=>intro u L h;exact ⟨h.1,_,h.2,fun q hq=>(h.2.lt q hq).2⟩
 | succ d ih =>
  intro u L h;obtain ⟨rs,h1,h2,h3⟩:=h
  exact ⟨_,⟨h2,fun q hq=>(h2.lt q hq).2⟩,fun j hj=>by
   obtain ⟨e0,e1,e2⟩:=enc_at (rs:=rs) (j:=j) (by omega);exact ⟨⟨_,e0⟩,⟨_,e1⟩,_,e2,ih (h3 j (by omega) hj).2.2⟩⟩
def KidE (w:World) (base d:Nat) (m:En) (e:Ex):Prop:=m.k=e.k∧m.v=e.v∧TrE w base d m.u e.kids
theorem TrE.mk {w:World} {base:Nat} {D:Nat} {u:Value} {L:List Ex} {rs:List En} (h0:D=0→L=[]) (ho:w.ownsRow base 49 3 u L.length (rows enc rs)) (hp:Part (KidE w base (D-1)) L.length rs L):TrE w base D u L:=by
 cases D with
 | zero =>
  have:=h0 rfl
  subst this;have:rs=[]:=List.eq_nil_of_length_eq_zero hp.1
  subst this;exact ⟨rfl,ho⟩
 | succ D=>exact ⟨rs,hp.1,ho,fun j a b=>hp.all j a b⟩
def TrS (w:World) (base:Nat):Nat→Value→List St→Prop
 | 0,u,L=>L=[]∧w.ownsRow base 51 11 u L.length []
 | d+1,u,L=>∃ rs:List Sn,rs.length=L.length∧w.ownsRow base 51 11 u L.length (rows snc rs)∧∀ (j:Nat) (_:j < rs.length) (_:j < L.length),(rs[j].k=L[j].k∧rs[j].t=L[j].t∧rs[j].c=L[j].c)∧(∃ D,KidE w base D rs[j].ix L[j].ix)∧(∃ D,KidE w base D rs[j].val L[j].val)∧TrS w base d (.slice rs[j].bp rs[j].bn rs[j].bc) L[j].body∧TrS w base d (.slice rs[j].ep rs[j].en rs[j].ec) L[j].els
theorem KidE.keep {w w':World} {base:Nat} {S:Nat→Prop} (hc:Chg S w w') (hS:∀ q,base≤q→q < w.heap.size→¬S q) {d:Nat} {m:En} {e:Ex} (h:KidE w base d m e):KidE w' base d m e:=⟨h.1,h.2.1,h.2.2.keep hc hS⟩
theorem KidE.below {w w':World} {base:Nat} {d:Nat} {m:En} {e:Ex} (h:KidE w base d m e) (hb:Below w.heap.size w w'):KidE w' base d m e:=⟨h.1,h.2.1,h.2.2.below hb⟩
theorem KidE.mono {w:World} {base base':Nat} {d:Nat} {m:En} {e:Ex} (h:KidE w base d m e) (hb:base'≤base):KidE w base' d m e:=⟨h.1,h.2.1,h.2.2.mono hb⟩
theorem TrS.keep {w w':World} {base:Nat} {S:Nat→Prop} (hc:Chg S w w') (hS:∀ q,base≤q→q < w.heap.size→¬S q):∀ {d:Nat} {u:Value} {L:List St},TrS w base d u L→TrS w' base d u L:=by
 intro d
 induction d with
 | zero=>intro u L h;exact ⟨h.1,Ow h.2 hc (fun q hq=>hS q (h.2.lt q hq).1 (h.2.lt q hq).2)⟩
 | succ d ih =>
  intro u L h;obtain ⟨rs,h1,h2,h3⟩:=h;refine ⟨rs,h1,Ow h2 hc (fun q hq=>hS q (h2.lt q hq).1 (h2.lt q hq).2),fun j a b=>?_⟩;obtain ⟨g1,⟨D1,g2⟩,⟨D2,g3⟩,g4,g5⟩:=h3 j a b;exact ⟨g1,⟨D1,g2.keep hc hS⟩,⟨D2,g3.keep hc hS⟩,ih g4,ih g5⟩
theorem TrS.below {w w':World} {base d:Nat} {u:Value} {L:List St} (h:TrS w base d u L) (hb:Below w.heap.size w w'):TrS w' base d u L:=TrS.keep (S:=fun _=>False) (Cb hb) (fun _ _ _=>id) h
theorem TrS.mono {w:World} {base base':Nat} (hb:base'≤base):∀ {d:Nat} {u:Value} {L:List St},TrS w base d u L→TrS w base' d u L:=by
 intro d
 induction d with
 | zero=>intro u L h;exact ⟨h.1,Om h.2 hb⟩
 | succ d ih =>
  intro u L h;obtain ⟨rs,h1,h2,h3⟩:=h;refine ⟨rs,h1,Om h2 hb,fun j a b=>?_⟩;obtain ⟨g1,⟨D1,g2⟩,⟨D2,g3⟩,g4,g5⟩:=h3 j a b;exact ⟨g1,⟨D1,g2.mono hb⟩,⟨D2,g3.mono hb⟩,ih g4,ih g5⟩
theorem KidE.st {w:World} {base d:Nat} {m:En} {e:Ex} (h:KidE w base d m e) (b j:Nat) (hb:b < base) (v:Value):KidE (w.setCell ⟨b,j,none⟩ v) base d m e:=⟨h.1,h.2.1,h.2.2.st b j hb v⟩
theorem TrS.st {w:World} {base d:Nat} {u:Value} {L:List St} (h:TrS w base d u L) (b j:Nat) (hb:b < base) (v:Value):TrS (w.setCell ⟨b,j,none⟩ v) base d u L:=TrS.keep (S:=fun q=>q=b) ((Chg.refl _ _).setCell b j v (fun _=>rfl)) (fun q h1 _ h2=>by omega) h
theorem TrS.own {w:World} {base d:Nat} {u:Value} {L:List St} (h:TrS w base d u L):∃ xs,w.ownsRow base 51 11 u L.length xs:=by
 cases d with
 | zero=>exact ⟨_,h.2⟩
 | succ d=>obtain ⟨rs,_,h2,_⟩:=h;exact ⟨_,h2⟩
theorem TrS.shape {w:World} {base d:Nat} {u:Value} {L:List St} (h:TrS w base d u L):∃ a c,u=.slice a L.length c:=by obtain ⟨_,ho⟩:=h.own;exact Oh ho
theorem KidE.at {w:World} {base d:Nat} {m:En} {e:Ex} (h:KidE w base d m e):ExAt w (fun q=>base≤q) (d+1) m e:=⟨h.1,h.2.1,h.2.2.row⟩
theorem TrS.row {w:World} {base:Nat}:∀ {d:Nat} {u:Value} {L:List St},TrS w base d u L→BlAt w (fun q=>base≤q) d u L:=by
 intro d
 induction d with
 | zero =>
  intro u L h;obtain ⟨rfl,h2⟩:=h;exact RowOf.of_own (rs:=[]) rfl h2 (by simp) (fun q h _=>h) (fun j h=>by simp at h)
 | succ d ih =>
  intro u L h;obtain ⟨rs,h1,h2,h3⟩:=h;refine RowOf.of_own h1 h2 (own_len h2) (fun q h _=>h) (fun j a b=>?_);obtain ⟨g1,⟨D1,g2⟩,⟨D2,g3⟩,g4,g5⟩:=h3 j a b;generalize L[j]=s at *
  obtain ⟨k,t,ix,c0,c,a0,b0⟩:=s;exact ⟨g1.1,g1.2.1,g1.2.2,⟨_,g2.at⟩,⟨_,g3.at⟩,ih g4,ih g5⟩
theorem TrS.sh {w:World} {base:Nat}:∀ {d:Nat} {u:Value} {L:List St},TrS w base d u L→ShS w base w.heap.size d u L:=by
 intro d
 induction d with
 | zero=>intro u L h;exact ⟨h.1,_,h.2,fun q hq=>(h.2.lt q hq).2⟩
 | succ d ih =>
  intro u L h;obtain ⟨rs,h1,h2,h3⟩:=h;refine ⟨_,⟨h2,fun q hq=>(h2.lt q hq).2⟩,fun j hj=>?_⟩;have hr:j < rs.length:=by omega
  obtain ⟨g1,⟨D1,g2⟩,⟨D2,g3⟩,g4,g5⟩:=h3 j hr hj;have g:=fun i (hi:i < 11)=>rows_get snc_len rs j hr i hi
  refine ⟨fun i hi=>?_,⟨_,_,g 4 (by omega),g2.2.2.sh⟩,⟨_,_,g 7 (by omega),g3.2.2.sh⟩,⟨_,g 9 (by omega),ih g4⟩,_,g 10 (by omega),ih g5⟩;rcases hi with rfl | rfl | rfl | rfl | rfl | rfl | rfl
  ·exact ⟨_,g 0 (by omega)⟩
  ·exact ⟨_,g 1 (by omega)⟩
  ·exact ⟨_,g 2 (by omega)⟩
  ·exact ⟨_,g 3 (by omega)⟩
  ·exact ⟨_,g 5 (by omega)⟩
  ·exact ⟨_,g 6 (by omega)⟩
  exact ⟨_,g 8 (by omega)⟩
def KidS (w:World) (base d:Nat) (m:Sn) (s:St):Prop:=(m.k=s.k∧m.t=s.t∧m.c=s.c)∧(∃ D,KidE w base D m.ix s.ix)∧(∃ D,KidE w base D m.val s.val)∧TrS w base d (.slice m.bp m.bn m.bc) s.body∧TrS w base d (.slice m.ep m.en m.ec) s.els
theorem KidS.keep {w w':World} {base:Nat} {S:Nat→Prop} (hc:Chg S w w') (hS:∀ q,base≤q→q < w.heap.size→¬S q) {d:Nat} {m:Sn} {e:St} (h:KidS w base d m e):KidS w' base d m e:=by
 obtain ⟨g1,⟨D1,g2⟩,⟨D2,g3⟩,g4,g5⟩:=h;exact ⟨g1,⟨D1,g2.keep hc hS⟩,⟨D2,g3.keep hc hS⟩,g4.keep hc hS,g5.keep hc hS⟩
theorem KidS.mono {w:World} {base base':Nat} {d:Nat} {m:Sn} {e:St} (h:KidS w base d m e) (hb:base'≤base):KidS w base' d m e:=by
 obtain ⟨g1,⟨D1,g2⟩,⟨D2,g3⟩,g4,g5⟩:=h;exact ⟨g1,⟨D1,g2.mono hb⟩,⟨D2,g3.mono hb⟩,g4.mono hb,g5.mono hb⟩
theorem TrS.mk {w:World} {base:Nat} {D:Nat} {u:Value} {L:List St} {rs:List Sn} (h0:D=0→L=[]) (ho:w.ownsRow base 51 11 u L.length (rows snc rs)) (hp:Part (KidS w base (D-1)) L.length rs L):TrS w base D u L:=by
 cases D with
 | zero =>
  have:=h0 rfl
  subst this;have:rs=[]:=List.eq_nil_of_length_eq_zero hp.1
  subst this;exact ⟨rfl,ho⟩
 | succ D=>exact ⟨rs,hp.1,ho,fun j a b=>hp.all j a b⟩
theorem ExAt.up {w:World} {B:Nat→Prop} {D D':Nat} {n:En} {e:Ex} (h:ExAt w B D n e) (hd:D≤D'):ExAt w B D' n e:=ExAt.keep (S:=fun _=>False) (Chg.refl _ _) (fun _ _ _=>id) (fun _ h _=>h) hd h
structure OwnP0 (w:World) (base:Nat) (va vb u:Value) (D:Nat) (xs ys:List Int) (L:List St):Prop where
 a:w.ownsRow base 3 1 va xs.length (ints xs)
 b:w.ownsRow base 3 1 vb ys.length (ints ys)
 t:TrS w base D u L
 ab:∀ q,va.ownBlock=some q→vb.ownBlock=some q→False
structure ReadsP (w:World) (A:Nat→Prop) (D:Nat) (va vb u:Value) (xs ys:List Int) (L:List St):Prop where
 a:Reads w 1 va xs.length (ints xs)
 b:Reads w 1 vb ys.length (ints ys)
 t:BlAt w A D u L
def OwnPB (base top:Nat) (q:Nat):Prop:=base≤q∧q < top
def OwnP (w:World) (base top:Nat) (va vb u:Value) (D:Nat) (xs ys:List Int) (L:List St):Prop:=∃ w0:World,top=w0.heap.size∧OwnP0 w0 base va vb u D xs ys L∧Chg (fun q=>¬OwnPB base top q) w0 w
section
variable {w w':World} {base top base':Nat} {va vb u:Value} {D:Nat} {xs ys:List Int} {L:List St}
theorem OwnP.lt (h:OwnP w base top va vb u D xs ys L):∀ q,OwnPB base top q→base≤q∧q < w.heap.size:=by
 obtain ⟨w0,rfl,_,h⟩:=h;intro q hq;have:=h.size
 exact ⟨hq.1,by have:=hq.2;omega⟩
theorem OwnP.topl (h:OwnP w base top va vb u D xs ys L):top≤w.heap.size:=by
 obtain ⟨w0,rfl,_,h⟩:=h;exact h.size
theorem OwnP.keep (h:OwnP w base top va vb u D xs ys L) {S:Nat→Prop} (hc:Chg S w w') (hs:∀ q,OwnPB base top q→¬S q):OwnP w' base top va vb u D xs ys L:=by
 obtain ⟨w0,h1,h2,h3⟩:=h;exact ⟨w0,h1,h2,h3.trans (hc.mono (fun q _ h hq=>hs q hq h))⟩
theorem OwnP.below (h:OwnP w base top va vb u D xs ys L) (hb:Below w.heap.size w w'):OwnP w' base top va vb u D xs ys L:=h.keep (S:=fun _=>False) (Cb hb) (fun _ _=>id)
theorem OwnP0.now (h:OwnP0 w base va vb u D xs ys L):OwnP w base w.heap.size va vb u D xs ys L:=⟨w,rfl,h,Chg.refl _ _⟩
theorem OwnP0.mono (h:OwnP0 w base va vb u D xs ys L) (hb:base'≤base):OwnP0 w base' va vb u D xs ys L:=⟨Om h.a hb,Om h.b hb,h.t.mono hb,h.ab⟩
theorem OwnP.here (h:OwnP w base top va vb u D xs ys L):OwnP0 w base va vb u D xs ys L:=by
 obtain ⟨w0,rfl,h2,h3⟩:=h;have k:∀ q,base≤q→q < w0.heap.size→¬¬OwnPB base w0.heap.size q:=fun q h1 h2 h=>h ⟨h1,h2⟩
 exact ⟨Ow h2.a h3 (fun q hq=>k q (h2.a.lt q hq).1 (h2.a.lt q hq).2),Ow h2.b h3 (fun q hq=>k q (h2.b.lt q hq).1 (h2.b.lt q hq).2),h2.t.keep h3 k,h2.ab⟩
theorem OwnP.shs (h:OwnP w base top va vb u D xs ys L):ShS w base top D u L:=by
 obtain ⟨w0,rfl,h2,h3⟩:=h;exact h2.t.sh.keep h3 (fun q h1 h2 h=>h ⟨h1,h2⟩)
theorem OwnP0.reads (h:OwnP0 w base va vb u D xs ys L):ReadsP w (fun q=>base≤q) D va vb u xs ys L:=⟨Ro h.a (own_len h.a),Ro h.b (own_len h.b),h.t.row⟩
theorem OwnP.reads (h:OwnP w base top va vb u D xs ys L):ReadsP w (fun q=>base≤q) D va vb u xs ys L:=h.here.reads
theorem OwnP0.shape (h:OwnP0 w base va vb u D xs ys L):∃ a0 c0 a1 c1 a2 c2,va=.slice a0 xs.length c0∧vb=.slice a1 ys.length c1∧u=.slice a2 L.length c2:=by
 obtain ⟨a0,c0,h0⟩:=Oh h.a;obtain ⟨a1,c1,h1⟩:=Oh h.b;obtain ⟨a2,c2,h2⟩:=h.t.shape;exact ⟨a0,c0,a1,c1,a2,c2,h0,h1,h2⟩
theorem OwnP.shape (h:OwnP w base top va vb u D xs ys L):∃ a0 c0 a1 c1 a2 c2,va=.slice a0 xs.length c0∧vb=.slice a1 ys.length c1∧u=.slice a2 L.length c2:=h.here.shape
variable {A:Nat→Prop}
theorem ReadsP.below (h:ReadsP w A D va vb u xs ys L) (hb:Below w.heap.size w w'):ReadsP w' A D va vb u xs ys L:=⟨h.a.below hb,h.b.below hb,h.t.below hb⟩
theorem ReadsP.shape (h:ReadsP w A D va vb u xs ys L):∃ a0 c0 a1 c1 a2 c2,va=.slice a0 xs.length c0∧vb=.slice a1 ys.length c1∧u=.slice a2 L.length c2:=by
 obtain ⟨a0,c0,h0⟩:=reads_shape h.a;obtain ⟨a1,c1,h1⟩:=reads_shape h.b;obtain ⟨a2,c2,h2⟩:=RowOf.shape h.t;exact ⟨a0,c0,a1,c1,a2,c2,h0,h1,h2⟩
structure OwnRp (w:World) (base:Nat) (va vb:Value) (xs ys:List Int):Prop where
 a:w.ownsRow base 3 1 va xs.length (ints xs)
 b:w.ownsRow base 3 1 vb ys.length (ints ys)
 ab:∀ q,va.ownBlock=some q→vb.ownBlock=some q→False
def OwnRB (va vb:Value) (q:Nat):Prop:=va.ownBlock=some q∨vb.ownBlock=some q
theorem OwnRp.lt (h:OwnRp w base va vb xs ys):∀ q,OwnRB va vb q→base≤q∧q < w.heap.size:=by
 rintro q (hq | hq)
 ·exact h.a.lt q hq
 exact h.b.lt q hq
theorem OwnRp.keep (h:OwnRp w base va vb xs ys) {S:Nat→Prop} (hc:Chg S w w') (hs:∀ q,OwnRB va vb q→¬S q):OwnRp w' base va vb xs ys:=⟨Ow h.a hc (fun q hq=>hs q (Or.inl hq)),Ow h.b hc (fun q hq=>hs q (Or.inr hq)),h.ab⟩
theorem OwnRp.below (h:OwnRp w base va vb xs ys) (hb:Below w.heap.size w w'):OwnRp w' base va vb xs ys:=h.keep (S:=fun _=>False) (Cb hb) (fun _ _=>id)
theorem OwnRp.mono (h:OwnRp w base va vb xs ys) (hb:base'≤base):OwnRp w base' va vb xs ys:=⟨Om h.a hb,Om h.b hb,h.ab⟩
theorem OwnRp.shape (h:OwnRp w base va vb xs ys):∃ a0 c0 a1 c1,va=.slice a0 xs.length c0∧vb=.slice a1 ys.length c1:=by
 obtain ⟨a0,c0,h0⟩:=Oh h.a;obtain ⟨a1,c1,h1⟩:=Oh h.b;exact ⟨a0,c0,a1,c1,h0,h1⟩
theorem OwnRp.reads (h:OwnRp w base va vb xs ys):ReadsP w (fun _=>True) 0 va vb (.slice none 0 0) xs ys []:=⟨Ro h.a (own_len h.a),Ro h.b (own_len h.b),RowOf.nil⟩
theorem shE_off {b n:Nat} {v:Value} {zs:List Value} (ha:w.ownsRow b 3 1 v n zs) (hc:Chg (fun q=>v.ownBlock=some q) w w'):∀ {d:Nat} {u:Value} {L:List Ex},ShE w base top d u L→ShE w' base top d u L:=by
 intro d
 induction d with
 | zero =>
  intro u L h;obtain ⟨h1,xs,h2,a0⟩:=h;exact ⟨h1,xs,Ow h2 hc (fun q hq h=>own_diff h2 ha (by decide) q hq h),a0⟩
 | succ d ih =>
  intro u L h;obtain ⟨xs,⟨h2,a0⟩,h4⟩:=h
  exact ⟨xs,⟨Ow h2 hc (fun q hq h=>own_diff h2 ha (by decide) q hq h),a0⟩,fun j hj=>by
   obtain ⟨a1,a2,u',a3,a4⟩:=h4 j hj;exact ⟨a1,a2,u',a3,ih a4⟩⟩
theorem shS_off {b n:Nat} {v:Value} {zs:List Value} (ha:w.ownsRow b 3 1 v n zs) (hc:Chg (fun q=>v.ownBlock=some q) w w'):∀ {d:Nat} {u:Value} {L:List St},ShS w base top d u L→ShS w' base top d u L:=by
 intro d
 induction d with
 | zero =>
  intro u L h;obtain ⟨h1,xs,h2,a0⟩:=h;exact ⟨h1,xs,Ow h2 hc (fun q hq h=>own_diff h2 ha (by decide) q hq h),a0⟩
 | succ d ih =>
  intro u L h;obtain ⟨xs,⟨h2,a0⟩,h4⟩:=h
  exact ⟨xs,⟨Ow h2 hc (fun q hq h=>own_diff h2 ha (by decide) q hq h),a0⟩,fun j hj=>by
   obtain ⟨a1,⟨u1,D1,b1,c1⟩,⟨u2,D2,b2,c2⟩,⟨u3,b3,c3⟩,u4,b4,c4⟩:=h4 j hj;exact ⟨a1,⟨u1,D1,b1,shE_off ha hc c1⟩,⟨u2,D2,b2,shE_off ha hc c2⟩,⟨u3,b3,ih c3⟩,u4,b4,ih c4⟩⟩
theorem shS_nil (w:World):ShS w 0 0 0 (.slice none 0 0) []:=⟨rfl,[],World.ownsRow_nil _ _ _ _,fun q h=>by cases h⟩
theorem blAt_nilb (w:World) (A:Nat→Prop) (D:Nat):BlAt w A D (.slice none 0 0) []:=RowOf.nil
end
end Go.Proofs.Ytlckklglbodgbaa
namespace Go.Proofs.Ytlckklglbodgbaa
open Go.RowKit
def MkB (va vb:Value) (base top:Nat) (q:Nat):Prop:=va.ownBlock=some q∨vb.ownBlock=some q∨(base≤q∧q < top)
theorem MkB.of_own {w:World} {base top:Nat} {va vb u:Value} {D:Nat} {xs ys:List Int} {L:List St} (h:OwnP w base top va vb u D xs ys L):∀ q,MkB va vb base top q→OwnPB base top q:=by
 obtain ⟨w0,rfl,h2,h3⟩:=h;rintro q (hq | hq | hq)
 ·exact h2.a.lt q hq
 ·exact h2.b.lt q hq
 exact hq
theorem dX_len (D:Bool) (xs:List Int) (h:xs.length≤1048576):(dX D xs).length≤2097152:=by cases D <;> simp [dX];omega
def lbo (a b:Int):Int:=bits .or .i64 a b
def IsLb (l:Int):Prop:=0≤l∧l≤3
theorem IsLb.cases {a:Int} (h:IsLb a):a=0∨a=1∨a=2∨a=3:=by obtain ⟨h1,h2⟩:=h;omega
theorem lbo_lab {a b:Int} (h:IsLb a) (k:IsLb b):IsLb (lbo a b)∧a≤lbo a b∧b≤lbo a b:=by
 rcases h.cases with rfl | rfl | rfl | rfl <;> rcases k.cases with rfl | rfl | rfl | rfl <;> exact ⟨⟨by decide,by decide⟩,by decide,by decide⟩
def secB (l:Int):Bool:=labOk l&&(bits .and .i64 l 1 == 1)
def truB (l:Int):Bool:=labOk l&&(bits .and .i64 l 2 == 0)
def floB (a b:Int):Bool:=labOk a&&(labOk b&&(lbo a b == b))
theorem labOk_iff {l:Int}:labOk l=true ↔ IsLb l:=by simp [labOk,wi,IsLb]
def LabsP (xs:List Int):Prop:=∀ x ∈ xs,IsLb x
theorem LabsP.el {xs:List Int} (h:LabsP xs) (i:Int):IsLb (gi xs i):=by
 unfold gi
 cases e:xs[i.toNat]? with
 | none=>exact ⟨by decide,by decide⟩
 | some x=>exact h x (List.mem_of_getElem? e)
def lbl0 (xs ys:List Int) (k v:Int):Int:=if k=2 then gi xs v else if k=3 then gi ys v else 0
mutual
def labE (xs ys:List Int):Ex→Int
 | .mk k v l=>labL xs ys (lbl0 xs ys k v) l
def labL (xs ys:List Int) (acc:Int):List Ex→Int
 | []=>acc
 | e::l=>labL xs ys (lbo acc (labE xs ys e)) l
end
theorem labL_app (xs ys:List Int) (a b:List Ex):∀ acc,labL xs ys acc (a++b)=labL xs ys (labL xs ys acc a) b:=by
 induction a with
 | nil=>intro acc;rfl
 | cons e a ih=>intro acc;exact ih _
theorem labL_take {xs ys:List Int} {l:List Ex} {k:Nat} (h:k < l.length) (acc:Int):labL xs ys acc (l.take (k+1))=lbo (labL xs ys acc (l.take k)) (labE xs ys l[k]):=by
 rw [List.take_succ_eq_append_getElem h,labL_app];rfl
theorem lab0_lab {xs ys:List Int} (hx:LabsP xs) (hy:LabsP ys) (k v:Int):IsLb (lbl0 xs ys k v):=by
 unfold lbl0
 split
 ·exact hx.el v
 split
 ·exact hy.el v
 exact ⟨by decide,by decide⟩
mutual
theorem labE_lab {xs ys:List Int} (hx:LabsP xs) (hy:LabsP ys):∀ e:Ex,IsLb (labE xs ys e)
 | .mk k v l=>labL_lab hx hy l _ (lab0_lab hx hy k v)
theorem labL_lab {xs ys:List Int} (hx:LabsP xs) (hy:LabsP ys):∀ (l:List Ex) (acc:Int),IsLb acc→IsLb (labL xs ys acc l)
 | [],_,h=>h
 | e::l,_,h=>labL_lab hx hy l _ (lbo_lab h (labE_lab hx hy e)).1
end
end Go.Proofs.Ytlckklglbodgbaa
