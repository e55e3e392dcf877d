/-
 Parts of the proofs of the laws FnExactProductProgram.
-/
import Derived.Test.YtlckklglbodgbaaPT
set_option linter.all false
namespace Go.Proofs.Ytlckklglbodgbaa
open Go.RowKit
theorem own_len {w:World} {base:Nat} {e:TypeId} {sz n:Nat} {v:Value} {xs:List Value} (h:w.ownsRow base e sz v n xs):n≤9223372036854775807:=by
 rcases h.2 with h | ⟨_,cap,_,_,_,_,h1,h2,_⟩
 ·omega
 have:maxLen≤9223372036854775807:=by unfold maxLen;omega
 omega
theorem made_rows {α:Type} {f:α→List Value} {sz:Nat} (hf:∀ x,(f x).length=sz) (h0:0 < sz) (z:α) (n:Nat):(madeCells (f z).toArray (n*sz)).toList=rows f (List.replicate n z):=by
 apply List.ext_getElem?
 intro j;by_cases hj:j < n*sz
 ·have hk:j / sz < n:=Nat.div_lt_of_lt_mul (by rw [Nat.mul_comm];exact hj);have hm:=Nat.mod_lt j h0;have e:j / sz*sz+j % sz=j:=Nat.div_add_mod' j sz;have h1:=rows_get hf (List.replicate n z) (j / sz) (by simpa using hk) (j % sz) hm;rw [e] at h1;rw [h1];have hz:=hf z;simp [madeCells,hj,hz,hm]
 have hl:=rows_length hf (List.replicate n z);rw [List.getElem?_eq_none (by simp [size_madeCells];omega),List.getElem?_eq_none (by rw [hl];simp;omega)]
theorem own_made_st {α:Type} {f:α→List Value} {sz:Nat} (hf:∀ x,(f x).length=sz) (h0:0 < sz) (z:α) (w:World) (n:Nat) (e:TypeId) (h:n≤maxLen) :
  (w.alloc (.cells (madeCells (f z).toArray (n*sz)) e)).ownsRow w.heap.size e sz (.slice (some ⟨w.heap.size,0,none⟩) n n) n (rows f (List.replicate n z)):=by
 have h:=World.ownsRow_lit (base:=w.heap.size) (e:=e) (size:=sz) w (madeCells (f z).toArray (n*sz)) n Lr h (by rw [size_madeCells]);rw [made_rows hf h0] at h;exact h
def Part {α β:Type} (R:α→β→Prop) (k:Nat) (rs:List α) (L:List β):Prop:=rs.length=L.length∧∀ (j:Nat) (h:j < rs.length) (h':j < L.length),j < k→R rs[j] L[j]
theorem Part.mono {α β:Type} {R R':α→β→Prop} {k:Nat} {rs:List α} {L:List β} (h:Part R k rs L) (hR:∀ a b,R a b→R' a b):Part R' k rs L:=⟨h.1,fun j h1 h2 h3=>hR _ _ (h.2 j h1 h2 h3)⟩
theorem Part.nil {α β:Type} {R:α→β→Prop} {rs:List α} {L:List β} (h:rs.length=L.length):Part R 0 rs L:=⟨h,fun j _ _ h=>by omega⟩
theorem Part.set {α β:Type} {R:α→β→Prop} {k:Nat} {rs:List α} {L:List β} (h:Part R k rs L) (hk:k < L.length) {m:α} (hm:R m L[k]):Part R (k+1) (rs.set k m) L:=by
 refine ⟨by rw [List.length_set];exact h.1,fun j h1 h2 h3=>?_⟩;rw [List.getElem_set];by_cases e:k=j
 ·subst e;rw [if_pos rfl];exact hm
 rw [if_neg e];exact h.2 j (by simpa using h1) h2 (by omega)
theorem Part.all {α β:Type} {R:α→β→Prop} {rs:List α} {L:List β} (h:Part R L.length rs L):∀ (j:Nat) (h1:j < rs.length) (h2:j < L.length),R rs[j] L[j]:=fun j h1 h2=>h.2 j h1 h2 h2
def TrE (w:World) (base:Nat):Nat→Value→List Ex→Prop
 | 0,u,L=>L=[]∧w.ownsRow base 49 3 u L.length []
 | d+1,u,L=>∃ rs:List En,rs.length=L.length∧w.ownsRow base 49 3 u L.length (rows enc rs)∧∀ (j:Nat) (_:j < rs.length) (_:j < L.length),rs[j].k=L[j].k∧rs[j].v=L[j].v∧TrE w base d rs[j].u L[j].kids
theorem TrE.keep {w w':World} {base:Nat} {S:Nat→Prop} (hc:Chg S w w') (hS:∀ q,base≤q→q < w.heap.size→¬S q):∀ {d:Nat} {u:Value} {L:List Ex},TrE w base d u L→TrE w' base d u L:=by
 intro d
 induction d with
 | zero=>intro u L h;exact ⟨h.1,Ow h.2 hc (fun q hq=>hS q (h.2.lt q hq).1 (h.2.lt q hq).2)⟩
 | succ d ih =>
  intro u L h;obtain ⟨rs,h1,h2,h3⟩:=h;exact ⟨rs,h1,Ow h2 hc (fun q hq=>hS q (h2.lt q hq).1 (h2.lt q hq).2),fun j a b=>⟨(h3 j a b).1,(h3 j a b).2.1,ih (h3 j a b).2.2⟩⟩
theorem TrE.below {w w':World} {base d:Nat} {u:Value} {L:List Ex} (h:TrE w base d u L) (hb:Below w.heap.size w w'):TrE w' base d u L:=TrE.keep (S:=fun _=>False) (Cb hb) (fun _ _ _=>id) h
theorem TrE.st {w:World} {base d:Nat} {u:Value} {L:List Ex} (h:TrE w base d u L) (b j:Nat) (hb:b < base) (v:Value):TrE (w.setCell ⟨b,j,none⟩ v) base d u L:=TrE.keep (S:=fun q=>q=b) ((Chg.refl _ _).setCell b j v (fun _=>rfl)) (fun q h1 _ h2=>by omega) h
theorem TrE.mono {w:World} {base base':Nat} (hb:base'≤base):∀ {d:Nat} {u:Value} {L:List Ex},TrE w base d u L→TrE w base' d u L:=by
 intro d
 induction d with
 | zero=>intro u L h;exact ⟨h.1,Om h.2 hb⟩
 | succ d ih =>
  intro u L h;obtain ⟨rs,h1,h2,h3⟩:=h;exact ⟨rs,h1,Om h2 hb,fun j a b=>⟨(h3 j a b).1,(h3 j a b).2.1,ih (h3 j a b).2.2⟩⟩
theorem TrE.own {w:World} {base d:Nat} {u:Value} {L:List Ex} (h:TrE w base d u L):∃ xs,w.ownsRow base 49 3 u L.length xs:=by
 cases d with
 | zero=>exact ⟨_,h.2⟩
 | succ d=>obtain ⟨rs,_,h2,_⟩:=h;exact ⟨_,h2⟩
theorem TrE.shape {w:World} {base d:Nat} {u:Value} {L:List Ex} (h:TrE w base d u L):∃ a c,u=.slice a L.length c:=by obtain ⟨_,ho⟩:=h.own;exact Oh ho
theorem TrE.row {w:World} {base:Nat}:∀ {d:Nat} {u:Value} {L:List Ex},TrE w base d u L→RowOf enc 3 w (fun q=>base≤q) (ExAt w (fun q=>base≤q) d) u L:=by
 intro d
 induction d with
 | zero =>
  intro u L h;obtain ⟨rfl,h2⟩:=h;exact RowOf.of_own (rs:=[]) rfl h2 (by simp) (fun q h _=>h) (fun j h=>by simp at h)
 | succ d ih =>
  intro u L h;obtain ⟨rs,h1,h2,h3⟩:=h;exact RowOf.of_own h1 h2 (own_len h2) (fun q h _=>h) (fun j a b=>⟨(h3 j a b).1,(h3 j a b).2.1,ih (h3 j a b).2.2⟩)
theorem enc_at {rs:List En} {j:Nat} (h:j < rs.length):(rows enc rs)[j*3]? = some (.int .i64 rs[j].k)∧(rows enc rs)[j*3+1]? = some (.int .i64 rs[j].v)∧(rows enc rs)[j*3+2]? = some rs[j].u:=
 ⟨rows_get enc_len rs j h 0 (by omega),rows_get enc_len rs j h 1 (by omega),rows_get enc_len rs j h 2 (by omega)⟩
theorem TrE.sh {w:World} {base:Nat}:∀ {d:Nat} {u:Value} {L:List Ex},TrE w base d u L→ShE w base w.heap.size d u L:=by
 intro d
 induction d with
 | zero=>intro u L h;exact ⟨h.1,_,h.2,fun q hq=>(h.2.lt q hq).2⟩
 | succ d ih =>
  intro u L h;obtain ⟨rs,h1,h2,h3⟩:=h
  exact ⟨_,⟨h2,fun q hq=>(h2.lt q hq).2⟩,fun j hj=>by
   obtain ⟨e0,e1,e2⟩:=enc_at (rs:=rs) (j:=j) (by omega);exact ⟨⟨_,e0⟩,⟨_,e1⟩,_,e2,ih (h3 j (by omega) hj).2.2⟩⟩
def KidE (w:World) (base d:Nat) (m:En) (e:Ex):Prop:=m.k=e.k∧m.v=e.v∧TrE w base d m.u e.kids
theorem TrE.mk {w:World} {base:Nat} {D:Nat} {u:Value} {L:List Ex} {rs:List En} (h0:D=0→L=[]) (ho:w.ownsRow base 49 3 u L.length (rows enc rs)) (hp:Part (KidE w base (D-1)) L.length rs L):TrE w base D u L:=by
 cases D with
 | zero =>
  have:=h0 rfl
  subst this;have:rs=[]:=List.eq_nil_of_length_eq_zero hp.1
  subst this;exact ⟨rfl,ho⟩
 | succ D=>exact ⟨rs,hp.1,ho,fun j a b=>hp.all j a b⟩
def TrS (w:World) (base:Nat):Nat→Value→List St→Prop
 | 0,u,L=>L=[]∧w.ownsRow base 51 11 u L.length []
 | d+1,u,L=>∃ rs:List Sn,rs.length=L.length∧w.ownsRow base 51 11 u L.length (rows snc rs)∧∀ (j:Nat) (_:j < rs.length) (_:j < L.length),(rs[j].k=L[j].k∧rs[j].t=L[j].t∧rs[j].c=L[j].c)∧(∃ D,KidE w base D rs[j].ix L[j].ix)∧(∃ D,KidE w base D rs[j].val L[j].val)∧TrS w base d (.slice rs[j].bp rs[j].bn rs[j].bc) L[j].body∧TrS w base d (.slice rs[j].ep rs[j].en rs[j].ec) L[j].els
theorem KidE.keep {w w':World} {base:Nat} {S:Nat→Prop} (hc:Chg S w w') (hS:∀ q,base≤q→q < w.heap.size→¬S q) {d:Nat} {m:En} {e:Ex} (h:KidE w base d m e):KidE w' base d m e:=⟨h.1,h.2.1,h.2.2.keep hc hS⟩
theorem KidE.below {w w':World} {base:Nat} {d:Nat} {m:En} {e:Ex} (h:KidE w base d m e) (hb:Below w.heap.size w w'):KidE w' base d m e:=⟨h.1,h.2.1,h.2.2.below hb⟩
theorem KidE.mono {w:World} {base base':Nat} {d:Nat} {m:En} {e:Ex} (h:KidE w base d m e) (hb:base'≤base):KidE w base' d m e:=⟨h.1,h.2.1,h.2.2.mono hb⟩
theorem TrS.keep {w w':World} {base:Nat} {S:Nat→Prop} (hc:Chg S w w') (hS:∀ q,base≤q→q < w.heap.size→¬S q):∀ {d:Nat} {u:Value} {L:List St},TrS w base d u L→TrS w' base d u L:=by
 intro d
 induction d with
 | zero=>intro u L h;exact ⟨h.1,Ow h.2 hc (fun q hq=>hS q (h.2.lt q hq).1 (h.2.lt q hq).2)⟩
 | succ d ih =>
  intro u L h;obtain ⟨rs,h1,h2,h3⟩:=h;refine ⟨rs,h1,Ow h2 hc (fun q hq=>hS q (h2.lt q hq).1 (h2.lt q hq).2),fun j a b=>?_⟩;obtain ⟨g1,⟨D1,g2⟩,⟨D2,g3⟩,g4,g5⟩:=h3 j a b;exact ⟨g1,⟨D1,g2.keep hc hS⟩,⟨D2,g3.keep hc hS⟩,ih g4,ih g5⟩
theorem TrS.below {w w':World} {base d:Nat} {u:Value} {L:List St} (h:TrS w base d u L) (hb:Below w.heap.size w w'):TrS w' base d u L:=TrS.keep (S:=fun _=>False) (Cb hb) (fun _ _ _=>id) h
theorem TrS.mono {w:World} {base base':Nat} (hb:base'≤base):∀ {d:Nat} {u:Value} {L:List St},TrS w base d u L→TrS w base' d u L:=by
 intro d
 induction d with
 | zero=>intro u L h;exact ⟨h.1,Om h.2 hb⟩
 | succ d ih =>
  intro u L h;obtain ⟨rs,h1,h2,h3⟩:=h;refine ⟨rs,h1,Om h2 hb,fun j a b=>?_⟩;obtain ⟨g1,⟨D1,g2⟩,⟨D2,g3⟩,g4,g5⟩:=h3 j a b;exact ⟨g1,⟨D1,g2.mono hb⟩,⟨D2,g3.mono hb⟩,ih g4,ih g5⟩
theorem KidE.st {w:World} {base d:Nat} {m:En} {e:Ex} (h:KidE w base d m e) (b j:Nat) (hb:b < base) (v:Value):KidE (w.setCell ⟨b,j,none⟩ v) base d m e:=⟨h.1,h.2.1,h.2.2.st b j hb v⟩
theorem TrS.st {w:World} {base d:Nat} {u:Value} {L:List St} (h:TrS w base d u L) (b j:Nat) (hb:b < base) (v:Value):TrS (w.setCell ⟨b,j,none⟩ v) base d u L:=TrS.keep (S:=fun q=>q=b) ((Chg.refl _ _).setCell b j v (fun _=>rfl)) (fun q h1 _ h2=>by omega) h
theorem TrS.own {w:World} {base d:Nat} {u:Value} {L:List St} (h:TrS w base d u L):∃ xs,w.ownsRow base 51 11 u L.length xs:=by
 cases d with
 | zero=>exact ⟨_,h.2⟩
 | succ d=>obtain ⟨rs,_,h2,_⟩:=h;exact ⟨_,h2⟩
theorem TrS.shape {w:World} {base d:Nat} {u:Value} {L:List St} (h:TrS w base d u L):∃ a c,u=.slice a L.length c:=by obtain ⟨_,ho⟩:=h.own;exact Oh ho
theorem KidE.at {w:World} {base d:Nat} {m:En} {e:Ex} (h:KidE w base d m e):ExAt w (fun q=>base≤q) (d+1) m e:=⟨h.1,h.2.1,h.2.2.row⟩
theorem TrS.row {w:World} {base:Nat}:∀ {d:Nat} {u:Value} {L:List St},TrS w base d u L→BlAt w (fun q=>base≤q) d u L:=by
 intro d
 induction d with
 | zero =>
  intro u L h;obtain ⟨rfl,h2⟩:=h;exact RowOf.of_own (rs:=[]) rfl h2 (by simp) (fun q h _=>h) (fun j h=>by simp at h)
 | succ d ih =>
  intro u L h;obtain ⟨rs,h1,h2,h3⟩:=h;refine RowOf.of_own h1 h2 (own_len h2) (fun q h _=>h) (fun j a b=>?_);obtain ⟨g1,⟨D1,g2⟩,⟨D2,g3⟩,g4,g5⟩:=h3 j a b;generalize L[j]=s at *
  obtain ⟨k,t,ix,c0,c,a0,b0⟩:=s;exact ⟨g1.1,g1.2.1,g1.2.2,⟨_,g2.at⟩,⟨_,g3.at⟩,ih g4,ih g5⟩
theorem TrS.sh {w:World} {base:Nat}:∀ {d:Nat} {u:Value} {L:List St},TrS w base d u L→ShS w base w.heap.size d u L:=by
 intro d
 induction d with
 | zero=>intro u L h;exact ⟨h.1,_,h.2,fun q hq=>(h.2.lt q hq).2⟩
 | succ d ih =>
  intro u L h;obtain ⟨rs,h1,h2,h3⟩:=h;refine ⟨_,⟨h2,fun q hq=>(h2.lt q hq).2⟩,fun j hj=>?_⟩;have hr:j < rs.length:=by omega
  obtain ⟨g1,⟨D1,g2⟩,⟨D2,g3⟩,g4,g5⟩:=h3 j hr hj;have g:=fun i (hi:i < 11)=>rows_get snc_len rs j hr i hi
  refine ⟨fun i hi=>?_,⟨_,_,g 4 (by omega),g2.2.2.sh⟩,⟨_,_,g 7 (by omega),g3.2.2.sh⟩,⟨_,g 9 (by omega),ih g4⟩,_,g 10 (by omega),ih g5⟩;rcases hi with rfl | rfl | rfl | rfl | rfl | rfl | rfl
  ·exact ⟨_,g 0 (by omega)⟩
  ·exact ⟨_,g 1 (by omega)⟩
  ·exact ⟨_,g 2 (by omega)⟩
  ·exact ⟨_,g 3 (by omega)⟩
  ·exact ⟨_,g 5 (by omega)⟩
  ·exact ⟨_,g 6 (by omega)⟩
  exact ⟨_,g 8 (by omega)⟩
def KidS (w:World) (base d:Nat) (m:Sn) (s:St):Prop:=(m.k=s.k∧m.t=s.t∧m.c=s.c)∧(∃ D,KidE w base D m.ix s.ix)∧(∃ D,KidE w base D m.val s.val)∧TrS w base d (.slice m.bp m.bn m.bc) s.body∧TrS w base d (.slice m.ep m.en m.ec) s.els
theorem KidS.keep {w w':World} {base:Nat} {S:Nat→Prop} (hc:Chg S w w') (hS:∀ q,base≤q→q < w.heap.size→¬S q) {d:Nat} {m:Sn} {e:St} (h:KidS w base d m e):KidS w' base d m e:=by
 obtain ⟨g1,⟨D1,g2⟩,⟨D2,g3⟩,g4,g5⟩:=h;exact ⟨g1,⟨D1,g2.keep hc hS⟩,⟨D2,g3.keep hc hS⟩,g4.keep hc hS,g5.keep hc hS⟩
theorem KidS.mono {w:World} {base base':Nat} {d:Nat} {m:Sn} {e:St} (h:KidS w base d m e) (hb:base'≤base):KidS w base' d m e:=by
 obtain ⟨g1,⟨D1,g2⟩,⟨D2,g3⟩,g4,g5⟩:=h;exact ⟨g1,⟨D1,g2.mono hb⟩,⟨D2,g3.mono hb⟩,g4.mono hb,g5.mono hb⟩
theorem TrS.mk {w:World} {base:Nat} {D:Nat} {u:Value} {L:List St} {rs:List Sn} (h0:D=0→L=[]) (ho:w.ownsRow base 51 11 u L.length (rows snc rs)) (hp:Part (KidS w base (D-1)) L.length rs L):TrS w base D u L:=by
 cases D with
 | zero =>
  have:=h0 rfl
  subst this;have:rs=[]:=List.eq_nil_of_length_eq_zero hp.1
  subst this;exact ⟨rfl,ho⟩
 | succ D=>exact ⟨rs,hp.1,ho,fun j a b=>hp.all j a b⟩
def Bk (w:World) (b:Nat) (vs:List Value):Prop:=∀ j (h:j < vs.length),w.cell? ⟨b,j,none⟩=some vs[j]∧w.frozen? ⟨b,j,none⟩=false
section
variable {w w':World} {b:Nat} {vs:List Value}
theorem Bk.cell (h:Bk w b vs) (j:Nat) {v:Value} (hj:vs[j]? = some v):w.cell? ⟨b,j,none⟩=some v:=by
 obtain ⟨h1,rfl⟩:=List.getElem?_eq_some_iff.1 hj;exact (h j h1).1
theorem Bk.froz (h:Bk w b vs) (j:Nat) (hj:j < vs.length):w.frozen? ⟨b,j,none⟩=false:=(h j hj).2
theorem Bk.lt (h:Bk w b vs) (h0:0 < vs.length):b < w.heap.size:=Lc (h 0 h0).1
theorem Bk.al (h:Bk w b vs) (o:Obj):Bk (w.alloc o) b vs:=fun j hj=>⟨Ac (h j hj).1 o,Fa (Lc (h j hj).1) (h j hj).2 o⟩
theorem Bk.nw {cs:Array Value} {t:TypeId} (hb:b=w.heap.size) (hc:cs.toList=vs):Bk (w.alloc (.cells cs t)) b vs:=fun j hj=>by
 subst hc;exact ⟨Wc hb (by simp at hj;rw [Array.getElem?_eq_getElem hj];simp),Fn hb⟩
theorem Bk.ne (h:Bk w b vs) {b' j':Nat} (hn:¬b=b') (u:Value):Bk (w.setCell ⟨b',j',none⟩ u) b vs:=fun j hj=>⟨Nc (h j hj).1 (by omega) u,Fs (h j hj).2 u⟩
theorem Bk.at (h:Bk w b vs) (k:Nat) (u:Value):Bk (w.setCell ⟨b,k,none⟩ u) b (vs.set k u):=fun j hj=>by
 rw [List.length_set] at hj;by_cases hk:k=j
 ·subst hk;rw [List.getElem_set_self];exact ⟨Tc w b k u (h k hj).1,Fs (h k hj).2 u⟩
 rw [List.getElem_set_ne hk];exact ⟨Nn (h j hj).1 u,Fs (h j hj).2 u⟩
theorem Bk.below (h:Bk w b vs) (hb:Below w.heap.size w w'):Bk w' b vs:=fun j hj=>⟨Kc hb (h j hj).1,Kf hb (Lc (h j hj).1) (h j hj).2⟩
theorem Bb (h:Bk w b vs) (hb:Below w.heap.size w w'):Bk w' b vs:=Bk.below h hb
theorem Bk.kg {g:Nat} (h:Bk w b vs) (hc:Chg (fun k=>k=g) w w') (n:¬b=g:=by omega):Bk w' b vs:=fun j hj=>⟨Gc hc (h j hj).1 n,Gf hc (Lc (h j hj).1) (h j hj).2 n⟩
theorem Bk.nn (h:Bk w b vs) {b' j':Nat} (u:Value) (hn:¬b=b':=by omega):Bk (w.setCell ⟨b',j',none⟩ u) b vs:=Bk.ne h hn u
theorem Bk.keep {S:Nat→Prop} (h:Bk w b vs) (hc:Chg S w w') (hs:¬S b):Bk w' b vs:=fun j hj=>⟨Gc hc (h j hj).1 hs,Gf hc (Lc (h j hj).1) (h j hj).2 hs⟩
end
end Go.Proofs.Ytlckklglbodgbaa
namespace Go.Proofs.Ytlckklglbodgbaa
open Go.RowKit
theorem take_d {P:Program} {ops:Array Oper} {Q:Exit→Act→World→Prop} {md:Region.Mode} {S:World→Prop} {i:Nat} {oi:Oper} {d:Nat} {v:Value} {fuel:Nat} {listed:Array Bool} {a:Act} {w:World} (hi:ops[i]? = some oi) (hd:oi.dst=some d)
  (hs:Region.noSelect ops=true) (hf:Region.free md ops listed i=true) (hr:(Region.ready md ops listed).contains i=true)
  (hQ:∀ c a w,Q (.panic c) (a.put oi.dst v) w→Q (.panic c) a w) (hy:YieldsIf P ops S oi v a) (hS:S w)
  (h:wpAnyH P md ops Q S fuel (listed.setIfInBounds i true) (a.put (some d) v) w):wpAnyH P md ops Q S (fuel+1) listed a w:=
 wpAnyH_take hi hs hf hr hQ hy hS (by rw [hd];exact h)
theorem Bk.cf {w:World} {b:Nat} {vs:List Value} (h:Bk w b vs) (j:Nat) {v:Value} (hv:vs[j]? = some v):w.cell? ⟨b,j,none⟩=some v∧w.frozen? ⟨b,j,none⟩=false:=⟨h.cell j hv,h.froz j (List.getElem?_eq_some_iff.1 hv).1⟩
theorem Bk.lz {w:World} {b:Nat} {v:Value} {vs:List Value} (h:Bk w b (v::vs)):b < w.heap.size:=h.lt (Nat.succ_pos _)
theorem Bk.f2 {w:World} {b:Nat} {vs:List Value} {x0 x1:Value} (h:Bk w b vs) (i0 i1:Nat) (e0:vs[i0]? = some x0) (e1:vs[i1]? = some x1):w.cell? ⟨b,i0,none⟩=some x0∧w.frozen? ⟨b,i0,none⟩=false∧w.cell? ⟨b,i1,none⟩=some x1∧w.frozen? ⟨b,i1,none⟩=false:=⟨(h.cf i0 e0).1,(h.cf i0 e0).2,(h.cf i1 e1).1,(h.cf i1 e1).2⟩
theorem Bk.f3 {w:World} {b:Nat} {vs:List Value} {x0 x1 x2:Value} (h:Bk w b vs) (i0 i1 i2:Nat) (e0:vs[i0]? = some x0) (e1:vs[i1]? = some x1) (e2:vs[i2]? = some x2):w.cell? ⟨b,i0,none⟩=some x0∧w.frozen? ⟨b,i0,none⟩=false∧w.cell? ⟨b,i1,none⟩=some x1∧w.frozen? ⟨b,i1,none⟩=false∧w.cell? ⟨b,i2,none⟩=some x2∧w.frozen? ⟨b,i2,none⟩=false:=⟨(h.cf i0 e0).1,(h.cf i0 e0).2,(h.cf i1 e1).1,(h.cf i1 e1).2,(h.cf i2 e2).1,(h.cf i2 e2).2⟩
theorem Bk.f4 {w:World} {b:Nat} {vs:List Value} {x0 x1 x2 x3:Value} (h:Bk w b vs) (i0 i1 i2 i3:Nat) (e0:vs[i0]? = some x0) (e1:vs[i1]? = some x1) (e2:vs[i2]? = some x2) (e3:vs[i3]? = some x3):w.cell? ⟨b,i0,none⟩=some x0∧w.frozen? ⟨b,i0,none⟩=false∧w.cell? ⟨b,i1,none⟩=some x1∧w.frozen? ⟨b,i1,none⟩=false∧w.cell? ⟨b,i2,none⟩=some x2∧w.frozen? ⟨b,i2,none⟩=false∧w.cell? ⟨b,i3,none⟩=some x3∧w.frozen? ⟨b,i3,none⟩=false:=⟨(h.cf i0 e0).1,(h.cf i0 e0).2,(h.cf i1 e1).1,(h.cf i1 e1).2,(h.cf i2 e2).1,(h.cf i2 e2).2,(h.cf i3 e3).1,(h.cf i3 e3).2⟩
theorem Bk.f5 {w:World} {b:Nat} {vs:List Value} {x0 x1 x2 x3 x4:Value} (h:Bk w b vs) (i0 i1 i2 i3 i4:Nat) (e0:vs[i0]? = some x0) (e1:vs[i1]? = some x1) (e2:vs[i2]? = some x2) (e3:vs[i3]? = some x3) (e4:vs[i4]? = some x4):w.cell? ⟨b,i0,none⟩=some x0∧w.frozen? ⟨b,i0,none⟩=false∧w.cell? ⟨b,i1,none⟩=some x1∧w.frozen? ⟨b,i1,none⟩=false∧w.cell? ⟨b,i2,none⟩=some x2∧w.frozen? ⟨b,i2,none⟩=false∧w.cell? ⟨b,i3,none⟩=some x3∧w.frozen? ⟨b,i3,none⟩=false∧w.cell? ⟨b,i4,none⟩=some x4∧w.frozen? ⟨b,i4,none⟩=false:=⟨(h.cf i0 e0).1,(h.cf i0 e0).2,(h.cf i1 e1).1,(h.cf i1 e1).2,(h.cf i2 e2).1,(h.cf i2 e2).2,(h.cf i3 e3).1,(h.cf i3 e3).2,(h.cf i4 e4).1,(h.cf i4 e4).2⟩
theorem Bk.f6 {w:World} {b:Nat} {vs:List Value} {x0 x1 x2 x3 x4 x5:Value} (h:Bk w b vs) (i0 i1 i2 i3 i4 i5:Nat) (e0:vs[i0]? = some x0) (e1:vs[i1]? = some x1) (e2:vs[i2]? = some x2) (e3:vs[i3]? = some x3) (e4:vs[i4]? = some x4) (e5:vs[i5]? = some x5):w.cell? ⟨b,i0,none⟩=some x0∧w.frozen? ⟨b,i0,none⟩=false∧w.cell? ⟨b,i1,none⟩=some x1∧w.frozen? ⟨b,i1,none⟩=false∧w.cell? ⟨b,i2,none⟩=some x2∧w.frozen? ⟨b,i2,none⟩=false∧w.cell? ⟨b,i3,none⟩=some x3∧w.frozen? ⟨b,i3,none⟩=false∧w.cell? ⟨b,i4,none⟩=some x4∧w.frozen? ⟨b,i4,none⟩=false∧w.cell? ⟨b,i5,none⟩=some x5∧w.frozen? ⟨b,i5,none⟩=false:=⟨(h.cf i0 e0).1,(h.cf i0 e0).2,(h.cf i1 e1).1,(h.cf i1 e1).2,(h.cf i2 e2).1,(h.cf i2 e2).2,(h.cf i3 e3).1,(h.cf i3 e3).2,(h.cf i4 e4).1,(h.cf i4 e4).2,(h.cf i5 e5).1,(h.cf i5 e5).2⟩
theorem Bk.f7 {w:World} {b:Nat} {vs:List Value} {x0 x1 x2 x3 x4 x5 x6:Value} (h:Bk w b vs) (i0 i1 i2 i3 i4 i5 i6:Nat) (e0:vs[i0]? = some x0) (e1:vs[i1]? = some x1) (e2:vs[i2]? = some x2) (e3:vs[i3]? = some x3) (e4:vs[i4]? = some x4) (e5:vs[i5]? = some x5) (e6:vs[i6]? = some x6):w.cell? ⟨b,i0,none⟩=some x0∧w.frozen? ⟨b,i0,none⟩=false∧w.cell? ⟨b,i1,none⟩=some x1∧w.frozen? ⟨b,i1,none⟩=false∧w.cell? ⟨b,i2,none⟩=some x2∧w.frozen? ⟨b,i2,none⟩=false∧w.cell? ⟨b,i3,none⟩=some x3∧w.frozen? ⟨b,i3,none⟩=false∧w.cell? ⟨b,i4,none⟩=some x4∧w.frozen? ⟨b,i4,none⟩=false∧w.cell? ⟨b,i5,none⟩=some x5∧w.frozen? ⟨b,i5,none⟩=false∧w.cell? ⟨b,i6,none⟩=some x6∧w.frozen? ⟨b,i6,none⟩=false:=⟨(h.cf i0 e0).1,(h.cf i0 e0).2,(h.cf i1 e1).1,(h.cf i1 e1).2,(h.cf i2 e2).1,(h.cf i2 e2).2,(h.cf i3 e3).1,(h.cf i3 e3).2,(h.cf i4 e4).1,(h.cf i4 e4).2,(h.cf i5 e5).1,(h.cf i5 e5).2,(h.cf i6 e6).1,(h.cf i6 e6).2⟩
theorem Bk.h2 {w:World} {b:Nat} {l:List Value} {x0 x1:Value} (h:Bk w b (x0::x1::l)):w.cell? ⟨b,0,none⟩=some x0∧w.frozen? ⟨b,0,none⟩=false∧w.cell? ⟨b,1,none⟩=some x1∧w.frozen? ⟨b,1,none⟩=false:=⟨h.cell 0 rfl,h.froz 0 (by simp only [List.length_cons];omega),h.cell 1 rfl,h.froz 1 (by simp only [List.length_cons];omega)⟩
theorem Bk.h3 {w:World} {b:Nat} {l:List Value} {x0 x1 x2:Value} (h:Bk w b (x0::x1::x2::l)):w.cell? ⟨b,0,none⟩=some x0∧w.frozen? ⟨b,0,none⟩=false∧w.cell? ⟨b,1,none⟩=some x1∧w.frozen? ⟨b,1,none⟩=false∧w.cell? ⟨b,2,none⟩=some x2∧w.frozen? ⟨b,2,none⟩=false:=⟨h.cell 0 rfl,h.froz 0 (by simp only [List.length_cons];omega),h.cell 1 rfl,h.froz 1 (by simp only [List.length_cons];omega),h.cell 2 rfl,h.froz 2 (by simp only [List.length_cons];omega)⟩
theorem Bk.h8 {w:World} {b:Nat} {l:List Value} {x0 x1 x2 x3 x4 x5 x6 x7:Value} (h:Bk w b (x0::x1::x2::x3::x4::x5::x6::x7::l)):w.cell? ⟨b,0,none⟩=some x0∧w.frozen? ⟨b,0,none⟩=false∧w.cell? ⟨b,1,none⟩=some x1∧w.frozen? ⟨b,1,none⟩=false∧w.cell? ⟨b,2,none⟩=some x2∧w.frozen? ⟨b,2,none⟩=false∧w.cell? ⟨b,3,none⟩=some x3∧w.frozen? ⟨b,3,none⟩=false∧w.cell? ⟨b,4,none⟩=some x4∧w.frozen? ⟨b,4,none⟩=false∧w.cell? ⟨b,5,none⟩=some x5∧w.frozen? ⟨b,5,none⟩=false∧w.cell? ⟨b,6,none⟩=some x6∧w.frozen? ⟨b,6,none⟩=false∧w.cell? ⟨b,7,none⟩=some x7∧w.frozen? ⟨b,7,none⟩=false:=⟨h.cell 0 rfl,h.froz 0 (by simp only [List.length_cons];omega),h.cell 1 rfl,h.froz 1 (by simp only [List.length_cons];omega),h.cell 2 rfl,h.froz 2 (by simp only [List.length_cons];omega),h.cell 3 rfl,h.froz 3 (by simp only [List.length_cons];omega),h.cell 4 rfl,h.froz 4 (by simp only [List.length_cons];omega),h.cell 5 rfl,h.froz 5 (by simp only [List.length_cons];omega),h.cell 6 rfl,h.froz 6 (by simp only [List.length_cons];omega),h.cell 7 rfl,h.froz 7 (by simp only [List.length_cons];omega)⟩
theorem Bk.g3 {w:World} {b:Nat} {x0 x1 x2:Value} (h:Bk w b [x0,x1,x2]):w.cell? ⟨b,0,none⟩=some x0∧w.cell? ⟨b,1,none⟩=some x1∧w.cell? ⟨b,2,none⟩=some x2:=⟨h.cell 0 rfl,h.cell 1 rfl,h.cell 2 rfl⟩
end Go.Proofs.Ytlckklglbodgbaa
