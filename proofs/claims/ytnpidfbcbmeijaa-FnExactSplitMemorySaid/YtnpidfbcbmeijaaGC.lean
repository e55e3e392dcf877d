/-
 Parts of the proofs of the laws FnExactSplitMemory.
-/
import Derived.Test.YtnpidfbcbmeijaaGA
set_option linter.all false
namespace Go.Proofs.Ytnpidfbcbmeijaa
open Go.RowKit
theorem own_len {w:World} {base:Nat} {e:TypeId} {sz n:Nat} {v:Value} {xs:List Value} (h:w.ownsRow base e sz v n xs):n≤9223372036854775807:=by
 rcases h.2 with h | ⟨_,cap,_,_,_,_,h1,h2,_⟩
 ·omega
 have:maxLen≤9223372036854775807:=by unfold maxLen;omega
 omega
theorem made_rows {α:Type} {f:α→List Value} {sz:Nat} (hf:∀ x,(f x).length=sz) (h0:0 < sz) (z:α) (n:Nat):(madeCells (f z).toArray (n*sz)).toList=rows f (List.replicate n z):=by
 apply List.ext_getElem?
 intro j;by_cases hj:j < n*sz
 ·have hk:j / sz < n:=Nat.div_lt_of_lt_mul (by rw [Nat.mul_comm];exact hj);have hm:=Nat.mod_lt j h0;have e:j / sz*sz+j % sz=j:=Nat.div_add_mod' j sz;have h1:=rows_get hf (List.replicate n z) (j / sz) (by simpa using hk) (j % sz) hm;rw [e] at h1;rw [h1];have hz:=hf z;simp [madeCells,hj,hz,hm]
 have hl:=rows_length hf (List.replicate n z);rw [List.getElem?_eq_none (by simp [size_madeCells];omega),List.getElem?_eq_none (by rw [hl];simp;omega)]
theorem own_made_st {α:Type} {f:α→List Value} {sz:Nat} (hf:∀ x,(f x).length=sz) (h0:0 < sz) (z:α) (w:World) (n:Nat) (e:TypeId) (h:n≤maxLen) :
  (w.alloc (.cells (madeCells (f z).toArray (n*sz)) e)).ownsRow w.heap.size e sz (.slice (some ⟨w.heap.size,0,none⟩) n n) n (rows f (List.replicate n z)):=by
 have h:=World.ownsRow_lit (base:=w.heap.size) (e:=e) (size:=sz) w (madeCells (f z).toArray (n*sz)) n Lr h (by rw [size_madeCells]);rw [made_rows hf h0] at h;exact h
def Part {α β:Type} (R:α→β→Prop) (k:Nat) (rs:List α) (L:List β):Prop:=rs.length=L.length∧∀ (j:Nat) (h:j < rs.length) (h':j < L.length),j < k→R rs[j] L[j]
theorem Part.mono {α β:Type} {R R':α→β→Prop} {k:Nat} {rs:List α} {L:List β} (h:Part R k rs L) (hR:∀ a b,R a b→R' a b):Part R' k rs L:=⟨h.1,fun j h1 h2 h3=>hR _ _ (h.2 j h1 h2 h3)⟩
theorem Part.nil {α β:Type} {R:α→β→Prop} {rs:List α} {L:List β} (h:rs.length=L.length):Part R 0 rs L:=⟨h,fun j _ _ h=>by omega⟩
theorem Part.set {α β:Type} {R:α→β→Prop} {k:Nat} {rs:List α} {L:List β} (h:Part R k rs L) (hk:k < L.length) {m:α} (hm:R m L[k]):Part R (k+1) (rs.set k m) L:=by
 refine ⟨by rw [List.length_set];exact h.1,fun j h1 h2 h3=>?_⟩;rw [List.getElem_set];by_cases e:k=j
 ·subst e;rw [if_pos rfl];exact hm
 rw [if_neg e];exact h.2 j (by simpa using h1) h2 (by omega)
theorem Part.all {α β:Type} {R:α→β→Prop} {rs:List α} {L:List β} (h:Part R L.length rs L):∀ (j:Nat) (h1:j < rs.length) (h2:j < L.length),R rs[j] L[j]:=fun j h1 h2=>h.2 j h1 h2 h2
def TrE (w:World) (base:Nat):Nat→Value→List Ex→Prop
 | 0,u,L=>L=[]∧w.ownsRow base 79 3 u L.length []
 | d+1,u,L=>∃ rs:List En,rs.length=L.length∧w.ownsRow base 79 3 u L.length (rows enc rs)∧∀ (j:Nat) (_:j < rs.length) (_:j < L.length),rs[j].k=L[j].k∧rs[j].v=L[j].v∧TrE w base d rs[j].u L[j].kids
theorem TrE.keep {w w':World} {base:Nat} {S:Nat→Prop} (hc:Chg S w w') (hS:∀ q,base≤q→q < w.heap.size→¬S q):∀ {d:Nat} {u:Value} {L:List Ex},TrE w base d u L→TrE w' base d u L:=by
 intro d
 induction d with
 | zero=>intro u L h;exact ⟨h.1,Ow h.2 hc (fun q hq=>hS q (h.2.lt q hq).1 (h.2.lt q hq).2)⟩
 | succ d ih =>
  intro u L h;obtain ⟨rs,h1,h2,h3⟩:=h;exact ⟨rs,h1,Ow h2 hc (fun q hq=>hS q (h2.lt q hq).1 (h2.lt q hq).2),fun j a b=>⟨(h3 j a b).1,(h3 j a b).2.1,ih (h3 j a b).2.2⟩⟩
theorem TrE.below {w w':World} {base d:Nat} {u:Value} {L:List Ex} (h:TrE w base d u L) (hb:Below w.heap.size w w'):TrE w' base d u L:=TrE.keep (S:=fun _=>False) (Cb hb) (fun _ _ _=>id) h
theorem TrE.st {w:World} {base d:Nat} {u:Value} {L:List Ex} (h:TrE w base d u L) (b j:Nat) (hb:b < base) (v:Value):TrE (w.setCell ⟨b,j,none⟩ v) base d u L:=TrE.keep (S:=fun q=>q=b) ((Chg.refl _ _).setCell b j v (fun _=>rfl)) (fun q h1 _ h2=>by omega) h
theorem TrE.mono {w:World} {base base':Nat} (hb:base'≤base):∀ {d:Nat} {u:Value} {L:List Ex},TrE w base d u L→TrE w base' d u L:=by
 intro d
 induction d with
 | zero=>intro u L h;exact ⟨h.1,Om h.2 hb⟩
 | succ d ih =>
  intro u L h;obtain ⟨rs,h1,h2,h3⟩:=h;exact ⟨rs,h1,Om h2 hb,fun j a b=>⟨(h3 j a b).1,(h3 j a b).2.1,ih (h3 j a b).2.2⟩⟩
theorem TrE.own {w:World} {base d:Nat} {u:Value} {L:List Ex} (h:TrE w base d u L):∃ xs,w.ownsRow base 79 3 u L.length xs:=by
 cases d with
 | zero=>exact ⟨_,h.2⟩
 | succ d=>obtain ⟨rs,_,h2,_⟩:=h;exact ⟨_,h2⟩
theorem TrE.shape {w:World} {base d:Nat} {u:Value} {L:List Ex} (h:TrE w base d u L):∃ a c,u=.slice a L.length c:=by obtain ⟨_,ho⟩:=h.own;exact Oh ho
theorem TrE.row {w:World} {base:Nat}:∀ {d:Nat} {u:Value} {L:List Ex},TrE w base d u L→RowOf enc 3 w (fun q=>base≤q) (ExAt w (fun q=>base≤q) d) u L:=by
 intro d
 induction d with
 | zero =>
  intro u L h;obtain ⟨rfl,h2⟩:=h;exact RowOf.of_own (rs:=[]) rfl h2 (by simp) (fun q h _=>h) (fun j h=>by simp at h)
 | succ d ih =>
  intro u L h;obtain ⟨rs,h1,h2,h3⟩:=h;exact RowOf.of_own h1 h2 (own_len h2) (fun q h _=>h) (fun j a b=>⟨(h3 j a b).1,(h3 j a b).2.1,ih (h3 j a b).2.2⟩)
theorem enc_at {rs:List En} {j:Nat} (h:j < rs.length):(rows enc rs)[j*3]? = some (.int .i64 rs[j].k)∧(rows enc rs)[j*3+1]? = some (.int .i64 rs[j].v)∧(rows enc rs)[j*3+2]? = some rs[j].u:=
 ⟨rows_get enc_len rs j h 0 (by omega),rows_get enc_len rs j h 1 (by omega),rows_get enc_len rs j h 2 (by omega)⟩
theorem TrE.sh {w:World} {base:Nat}:∀ {d:Nat} {u:Value} {L:List Ex},TrE w base d u L→ShE w base w.heap.size d u L:=by
 intro d
 induction d with
 | zero=>intro u L h;exact ⟨h.1,_,h.2,fun q hq=>(h.2.lt q hq).2⟩
 | succ d ih =>
  intro u L h;obtain ⟨rs,h1,h2,h3⟩:=h
  exact ⟨_,⟨h2,fun q hq=>(h2.lt q hq).2⟩,fun j hj=>by
   obtain ⟨e0,e1,e2⟩:=enc_at (rs:=rs) (j:=j) (by omega);exact ⟨⟨_,e0⟩,⟨_,e1⟩,_,e2,ih (h3 j (by omega) hj).2.2⟩⟩
def KidE (w:World) (base d:Nat) (m:En) (e:Ex):Prop:=m.k=e.k∧m.v=e.v∧TrE w base d m.u e.kids
theorem TrE.mk {w:World} {base:Nat} {D:Nat} {u:Value} {L:List Ex} {rs:List En} (h0:D=0→L=[]) (ho:w.ownsRow base 79 3 u L.length (rows enc rs)) (hp:Part (KidE w base (D-1)) L.length rs L):TrE w base D u L:=by
 cases D with
 | zero =>
  have:=h0 rfl
  subst this;have:rs=[]:=List.eq_nil_of_length_eq_zero hp.1
  subst this;exact ⟨rfl,ho⟩
 | succ D=>exact ⟨rs,hp.1,ho,fun j a b=>hp.all j a b⟩
def TrS (w:World) (base:Nat):Nat→Value→List St→Prop
 | 0,u,L=>L=[]∧w.ownsRow base 81 11 u L.length []
 | d+1,u,L=>∃ rs:List Sn,rs.length=L.length∧w.ownsRow base 81 11 u L.length (rows snc rs)∧∀ (j:Nat) (_:j < rs.length) (_:j < L.length),(rs[j].k=L[j].k∧rs[j].t=L[j].t∧rs[j].c=L[j].c)∧(∃ D,KidE w base D rs[j].ix L[j].ix)∧(∃ D,KidE w base D rs[j].val L[j].val)∧TrS w base d (.slice rs[j].bp rs[j].bn rs[j].bc) L[j].body∧TrS w base d (.slice rs[j].ep rs[j].en rs[j].ec) L[j].els
theorem KidE.keep {w w':World} {base:Nat} {S:Nat→Prop} (hc:Chg S w w') (hS:∀ q,base≤q→q < w.heap.size→¬S q) {d:Nat} {m:En} {e:Ex} (h:KidE w base d m e):KidE w' base d m e:=⟨h.1,h.2.1,h.2.2.keep hc hS⟩
theorem KidE.below {w w':World} {base:Nat} {d:Nat} {m:En} {e:Ex} (h:KidE w base d m e) (hb:Below w.heap.size w w'):KidE w' base d m e:=⟨h.1,h.2.1,h.2.2.below hb⟩
theorem KidE.mono {w:World} {base base':Nat} {d:Nat} {m:En} {e:Ex} (h:KidE w base d m e) (hb:base'≤base):KidE w base' d m e:=⟨h.1,h.2.1,h.2.2.mono hb⟩
theorem TrS.keep {w w':World} {base:Nat} {S:Nat→Prop} (hc:Chg S w w') (hS:∀ q,base≤q→q < w.heap.size→¬S q):∀ {d:Nat} {u:Value} {L:List St},TrS w base d u L→TrS w' base d u L:=by
 intro d
 induction d with
 | zero=>intro u L h;exact ⟨h.1,Ow h.2 hc (fun q hq=>hS q (h.2.lt q hq).1 (h.2.lt q hq).2)⟩
 | succ d ih =>
  intro u L h;obtain ⟨rs,h1,h2,h3⟩:=h;refine ⟨rs,h1,Ow h2 hc (fun q hq=>hS q (h2.lt q hq).1 (h2.lt q hq).2),fun j a b=>?_⟩;obtain ⟨g1,⟨D1,g2⟩,⟨D2,g3⟩,g4,g5⟩:=h3 j a b;exact ⟨g1,⟨D1,g2.keep hc hS⟩,⟨D2,g3.keep hc hS⟩,ih g4,ih g5⟩
theorem TrS.below {w w':World} {base d:Nat} {u:Value} {L:List St} (h:TrS w base d u L) (hb:Below w.heap.size w w'):TrS w' base d u L:=TrS.keep (S:=fun _=>False) (Cb hb) (fun _ _ _=>id) h
theorem TrS.mono {w:World} {base base':Nat} (hb:base'≤base):∀ {d:Nat} {u:Value} {L:List St},TrS w base d u L→TrS w base' d u L:=by
 intro d
 induction d with
 | zero=>intro u L h;exact ⟨h.1,Om h.2 hb⟩
 | succ d ih =>
  intro u L h;obtain ⟨rs,h1,h2,h3⟩:=h;refine ⟨rs,h1,Om h2 hb,fun j a b=>?_⟩;obtain ⟨g1,⟨D1,g2⟩,⟨D2,g3⟩,g4,g5⟩:=h3 j a b;exact ⟨g1,⟨D1,g2.mono hb⟩,⟨D2,g3.mono hb⟩,ih g4,ih g5⟩
theorem KidE.st {w:World} {base d:Nat} {m:En} {e:Ex} (h:KidE w base d m e) (b j:Nat) (hb:b < base) (v:Value):KidE (w.setCell ⟨b,j,none⟩ v) base d m e:=⟨h.1,h.2.1,h.2.2.st b j hb v⟩
theorem TrS.st {w:World} {base d:Nat} {u:Value} {L:List St} (h:TrS w base d u L) (b j:Nat) (hb:b < base) (v:Value):TrS (w.setCell ⟨b,j,none⟩ v) base d u L:=TrS.keep (S:=fun q=>q=b) ((Chg.refl _ _).setCell b j v (fun _=>rfl)) (fun q h1 _ h2=>by omega) h
theorem TrS.own {w:World} {base d:Nat} {u:Value} {L:List St} (h:TrS w base d u L):∃ xs,w.ownsRow base 81 11 u L.length xs:=by
 cases d with
 | zero=>exact ⟨_,h.2⟩
 | succ d=>obtain ⟨rs,_,h2,_⟩:=h;exact ⟨_,h2⟩
theorem TrS.shape {w:World} {base d:Nat} {u:Value} {L:List St} (h:TrS w base d u L):∃ a c,u=.slice a L.length c:=by obtain ⟨_,ho⟩:=h.own;exact Oh ho
theorem KidE.at {w:World} {base d:Nat} {m:En} {e:Ex} (h:KidE w base d m e):ExAt w (fun q=>base≤q) (d+1) m e:=⟨h.1,h.2.1,h.2.2.row⟩
theorem TrS.row {w:World} {base:Nat}:∀ {d:Nat} {u:Value} {L:List St},TrS w base d u L→BlAt w (fun q=>base≤q) d u L:=by
 intro d
 induction d with
 | zero =>
  intro u L h;obtain ⟨rfl,h2⟩:=h;exact RowOf.of_own (rs:=[]) rfl h2 (by simp) (fun q h _=>h) (fun j h=>by simp at h)
 | succ d ih =>
  intro u L h;obtain ⟨rs,h1,h2,h3⟩:=h;refine RowOf.of_own h1 h2 (own_len h2) (fun q h _=>h) (fun j a b=>?_);obtain ⟨g1,⟨D1,g2⟩,⟨D2,g3⟩,g4,g5⟩:=h3 j a b;generalize L[j]=s at *
  obtain ⟨k,t,ix,c0,c,a0,b0⟩:=s;exact ⟨g1.1,g1.2.1,g1.2.2,⟨_,g2.at⟩,⟨_,g3.at⟩,ih g4,ih g5⟩
theorem TrS.sh {w:World} {base:Nat}:∀ {d:Nat} {u:Value} {L:List St},TrS w base d u L→ShS w base w.heap.size d u L:=by
 intro d
 induction d with
 | zero=>intro u L h;exact ⟨h.1,_,h.2,fun q hq=>(h.2.lt q hq).2⟩
 | succ d ih =>
  intro u L h;obtain ⟨rs,h1,h2,h3⟩:=h;refine ⟨_,⟨h2,fun q hq=>(h2.lt q hq).2⟩,fun j hj=>?_⟩;have hr:j < rs.length:=by omega
  obtain ⟨g1,⟨D1,g2⟩,⟨D2,g3⟩,g4,g5⟩:=h3 j hr hj;have g:=fun i (hi:i < 11)=>rows_get snc_len rs j hr i hi
  refine ⟨fun i hi=>?_,⟨_,_,g 4 (by omega),g2.2.2.sh⟩,⟨_,_,g 7 (by omega),g3.2.2.sh⟩,⟨_,g 9 (by omega),ih g4⟩,_,g 10 (by omega),ih g5⟩;rcases hi with rfl | rfl | rfl | rfl | rfl | rfl | rfl
  ·exact ⟨_,g 0 (by omega)⟩
  ·exact ⟨_,g 1 (by omega)⟩
  ·exact ⟨_,g 2 (by omega)⟩
  ·exact ⟨_,g 3 (by omega)⟩
  ·exact ⟨_,g 5 (by omega)⟩
  ·exact ⟨_,g 6 (by omega)⟩
  exact ⟨_,g 8 (by omega)⟩
def KidS (w:World) (base d:Nat) (m:Sn) (s:St):Prop:=(m.k=s.k∧m.t=s.t∧m.c=s.c)∧(∃ D,KidE w base D m.ix s.ix)∧(∃ D,KidE w base D m.val s.val)∧TrS w base d (.slice m.bp m.bn m.bc) s.body∧TrS w base d (.slice m.ep m.en m.ec) s.els
theorem KidS.keep {w w':World} {base:Nat} {S:Nat→Prop} (hc:Chg S w w') (hS:∀ q,base≤q→q < w.heap.size→¬S q) {d:Nat} {m:Sn} {e:St} (h:KidS w base d m e):KidS w' base d m e:=by
 obtain ⟨g1,⟨D1,g2⟩,⟨D2,g3⟩,g4,g5⟩:=h;exact ⟨g1,⟨D1,g2.keep hc hS⟩,⟨D2,g3.keep hc hS⟩,g4.keep hc hS,g5.keep hc hS⟩
theorem KidS.mono {w:World} {base base':Nat} {d:Nat} {m:Sn} {e:St} (h:KidS w base d m e) (hb:base'≤base):KidS w base' d m e:=by
 obtain ⟨g1,⟨D1,g2⟩,⟨D2,g3⟩,g4,g5⟩:=h;exact ⟨g1,⟨D1,g2.mono hb⟩,⟨D2,g3.mono hb⟩,g4.mono hb,g5.mono hb⟩
theorem TrS.mk {w:World} {base:Nat} {D:Nat} {u:Value} {L:List St} {rs:List Sn} (h0:D=0→L=[]) (ho:w.ownsRow base 81 11 u L.length (rows snc rs)) (hp:Part (KidS w base (D-1)) L.length rs L):TrS w base D u L:=by
 cases D with
 | zero =>
  have:=h0 rfl
  subst this;have:rs=[]:=List.eq_nil_of_length_eq_zero hp.1
  subst this;exact ⟨rfl,ho⟩
 | succ D=>exact ⟨rs,hp.1,ho,fun j a b=>hp.all j a b⟩
end Go.Proofs.Ytnpidfbcbmeijaa
