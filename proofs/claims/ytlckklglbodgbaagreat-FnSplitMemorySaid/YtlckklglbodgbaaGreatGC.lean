/-
 Parts of the proofs of the laws FnPairMemory,FnSplitMemory.
-/
import Derived.Test.YtlckklglbodgbaaGreatBK
set_option linter.all false
namespace Go.Proofs.YtlckklglbodgbaaGreat
open Go.RowKit
theorem own_len {w:World} {base:Nat} {e:TypeId} {sz n:Nat} {v:Value} {xs:List Value} (h:w.ownsRow base e sz v n xs):n≤9223372036854775807:=by
 rcases h.2 with h | ⟨_,cap,_,_,_,_,h1,h2,_⟩
 ·omega
 have:maxLen≤9223372036854775807:=by unfold maxLen;omega
 omega
def Part {α β:Type} (R:α→β→Prop) (k:Nat) (rs:List α) (L:List β):Prop:=rs.length=L.length∧∀ (j:Nat) (h:j < rs.length) (h':j < L.length),j < k→R rs[j] L[j]
theorem Part.mono {α β:Type} {R R':α→β→Prop} {k:Nat} {rs:List α} {L:List β} (h:Part R k rs L) (hR:∀ a b,R a b→R' a b):Part R' k rs L:=⟨h.1,fun j h1 h2 h3=>hR _ _ (h.2 j h1 h2 h3)⟩
theorem Part.nil {α β:Type} {R:α→β→Prop} {rs:List α} {L:List β} (h:rs.length=L.length):Part R 0 rs L:=⟨h,fun j _ _ h=>by omega⟩
theorem Part.set {α β:Type} {R:α→β→Prop} {k:Nat} {rs:List α} {L:List β} (h:Part R k rs L) (hk:k < L.length) {m:α} (hm:R m L[k]):Part R (k+1) (rs.set k m) L:=by
 refine ⟨by rw [List.length_set];exact h.1,fun j h1 h2 h3=>?_⟩;rw [List.getElem_set];by_cases e:k=j
 ·subst e;rw [if_pos rfl];exact hm
 rw [if_neg e];exact h.2 j (by simpa using h1) h2 (by omega)
theorem Part.all {α β:Type} {R:α→β→Prop} {rs:List α} {L:List β} (h:Part R L.length rs L):∀ (j:Nat) (h1:j < rs.length) (h2:j < L.length),R rs[j] L[j]:=fun j h1 h2=>h.2 j h1 h2 h2
def TrE (w:World) (base:Nat):Nat→Value→List Ex→Prop
 | 0,u,L=>L=[]∧w.ownsRow base 73 3 u L.length []
 | d+1,u,L=>∃ rs:List En,rs.length=L.length∧w.ownsRow base 73 3 u L.length (rows enc rs)∧∀ (j:Nat) (_:j < rs.length) (_:j < L.length),rs[j].k=L[j].k∧rs[j].v=L[j].v∧TrE w base d rs[j].u L[j].kids
theorem TrE.keep {w w':World} {base:Nat} {S:Nat→Prop} (hc:Chg S w w') (hS:∀ q,base≤q→q < w.heap.size→¬S q):∀ {d:Nat} {u:Value} {L:List Ex},TrE w base d u L→TrE w' base d u L:=by
 intro d
 induction d with
 | zero=>intro u L h;exact ⟨h.1,Ow h.2 hc (fun q hq=>hS q (h.2.lt q hq).1 (h.2.lt q hq).2)⟩
 | succ d ih =>
  intro u L h;obtain ⟨rs,h1,h2,h3⟩:=h;exact ⟨rs,h1,Ow h2 hc (fun q hq=>hS q (h2.lt q hq).1 (h2.lt q hq).2),fun j a b=>⟨(h3 j a b).1,(h3 j a b).2.1,ih (h3 j a b).2.2⟩⟩
theorem TrE.below {w w':World} {base d:Nat} {u:Value} {L:List Ex} (h:TrE w base d u L) (hb:Below w.heap.size w w'):TrE w' base d u L:=TrE.keep (S:=fun _=>False) (Cb hb) (fun _ _ _=>id) h
theorem TrE.st {w:World} {base d:Nat} {u:Value} {L:List Ex} (h:TrE w base d u L) (b j:Nat) (hb:b < base) (v:Value):TrE (w.setCell ⟨b,j,none⟩ v) base d u L:=TrE.keep (S:=fun q=>q=b) ((Chg.refl _ _).setCell b j v (fun _=>rfl)) (fun q h1 _ h2=>by omega) h
theorem TrE.mono {w:World} {base base':Nat} (hb:base'≤base):∀ {d:Nat} {u:Value} {L:List Ex},TrE w base d u L→TrE w base' d u L:=by
 intro d
 induction d with
 | zero=>intro u L h;exact ⟨h.1,Om h.2 hb⟩
 | succ d ih =>
  intro u L h;obtain ⟨rs,h1,h2,h3⟩:=h;exact ⟨rs,h1,Om h2 hb,fun j a b=>⟨(h3 j a b).1,(h3 j a b).2.1,ih (h3 j a b).2.2⟩⟩
theorem TrE.own {w:World} {base d:Nat} {u:Value} {L:List Ex} (h:TrE w base d u L):∃ xs,w.ownsRow base 73 3 u L.length xs:=by
 cases d with
 | zero=>exact ⟨_,h.2⟩
 | succ d=>obtain ⟨rs,_,h2,_⟩:=h;exact ⟨_,h2⟩
theorem TrE.shape {w:World} {base d:Nat} {u:Value} {L:List Ex} (h:TrE w base d u L):∃ a c,u=.slice a L.length c:=by obtain ⟨_,ho⟩:=h.own;exact Oh ho
theorem TrE.row {w:World} {base:Nat}:∀ {d:Nat} {u:Value} {L:List Ex},TrE w base d u L→RowOf enc 3 w (fun q=>base≤q) (ExAt w (fun q=>base≤q) d) u L:=by
 intro d
 induction d with
 | zero =>
  intro u L h;obtain ⟨rfl,h2⟩:=h;exact RowOf.of_own (rs:=[]) rfl h2 (by simp) (fun q h _=>h) (fun j h=>by simp at h)
 | succ d ih =>
  intro u L h;obtain ⟨rs,h1,h2,h3⟩:=h;exact RowOf.of_own h1 h2 (own_len h2) (fun q h _=>h) (fun j a b=>⟨(h3 j a b).1,(h3 j a b).2.1,ih (h3 j a b).2.2⟩)
theorem enc_at {rs:List En} {j:Nat} (h:j < rs.length):(rows enc rs)[j*3]? = some (.int .i64 rs[j].k)∧(rows enc rs)[j*3+1]? = some (.int .i64 rs[j].v)∧(rows enc rs)[j*3+2]? = some rs[j].u:=
 ⟨rows_get enc_len rs j h 0 (by omega),rows_get enc_len rs j h 1 (by omega),rows_get enc_len rs j h 2 (by omega)⟩
theorem TrE.sh {w:World} {base:Nat}:∀ {d:Nat} {u:Value} {L:List Ex},TrE w base d u L→ShE w base w.heap.size d u L:=by
 intro d
 induction d with
 | zero=>intro u L h;exact ⟨h.1,_,h.2,fun q hq=>(h.2.lt q hq).2⟩
 | succ d ih =>
  intro u L h;obtain ⟨rs,h1,h2,h3⟩:=h
  exact ⟨_,⟨h2,fun q hq=>(h2.lt q hq).2⟩,fun j hj=>by
   obtain ⟨e0,e1,e2⟩:=enc_at (rs:=rs) (j:=j) (by omega);exact ⟨⟨_,e0⟩,⟨_,e1⟩,_,e2,ih (h3 j (by omega) hj).2.2⟩⟩
def KidE (w:World) (base d:Nat) (m:En) (e:Ex):Prop:=m.k=e.k∧m.v=e.v∧TrE w base d m.u e.kids
theorem TrE.mk {w:World} {base:Nat} {D:Nat} {u:Value} {L:List Ex} {rs:List En} (h0:D=0→L=[]) (ho:w.ownsRow base 73 3 u L.length (rows enc rs)) (hp:Part (KidE w base (D-1)) L.length rs L):TrE w base D u L:=by
 cases D with
 | zero =>
  have:=h0 rfl
  subst this;have:rs=[]:=List.eq_nil_of_length_eq_zero hp.1
  subst this;exact ⟨rfl,ho⟩
 | succ D=>exact ⟨rs,hp.1,ho,fun j a b=>hp.all j a b⟩
def TrS (w:World) (base:Nat):Nat→Value→List St→Prop
 | 0,u,L=>L=[]∧w.ownsRow base 75 11 u L.length []
 | d+1,u,L=>∃ rs:List Sn,rs.length=L.length∧w.ownsRow base 75 11 u L.length (rows snc rs)∧∀ (j:Nat) (_:j < rs.length) (_:j < L.length),(rs[j].k=L[j].k∧rs[j].t=L[j].t∧rs[j].c=L[j].c)∧(∃ D,KidE w base D rs[j].ix L[j].ix)∧(∃ D,KidE w base D rs[j].val L[j].val)∧TrS w base d (.slice rs[j].bp rs[j].bn rs[j].bc) L[j].body∧TrS w base d (.slice rs[j].ep rs[j].en rs[j].ec) L[j].els
theorem KidE.keep {w w':World} {base:Nat} {S:Nat→Prop} (hc:Chg S w w') (hS:∀ q,base≤q→q < w.heap.size→¬S q) {d:Nat} {m:En} {e:Ex} (h:KidE w base d m e):KidE w' base d m e:=⟨h.1,h.2.1,h.2.2.keep hc hS⟩
theorem KidE.below {w w':World} {base:Nat} {d:Nat} {m:En} {e:Ex} (h:KidE w base d m e) (hb:Below w.heap.size w w'):KidE w' base d m e:=⟨h.1,h.2.1,h.2.2.below hb⟩
theorem KidE.mono {w:World} {base base':Nat} {d:Nat} {m:En} {e:Ex} (h:KidE w base d m e) (hb:base'≤base):KidE w base' d m e:=⟨h.1,h.2.1,h.2.2.mono hb⟩
theorem TrS.keep {w w':World} {base:Nat} {S:Nat→Prop} (hc:Chg S w w') (hS:∀ q,base≤q→q < w.heap.size→¬S q):∀ {d:Nat} {u:Value} {L:List St},TrS w base d u L→TrS w' base d u L:=by
 intro d
 induction d with
 | zero=>intro u L h;exact ⟨h.1,Ow h.2 hc (fun q hq=>hS q (h.2.lt q hq).1 (h.2.lt q hq).2)⟩
 | succ d ih =>
  intro u L h;obtain ⟨rs,h1,h2,h3⟩:=h;refine ⟨rs,h1,Ow h2 hc (fun q hq=>hS q (h2.lt q hq).1 (h2.lt q hq).2),fun j a b=>?_⟩;obtain ⟨g1,⟨D1,g2⟩,⟨D2,g3⟩,g4,g5⟩:=h3 j a b;exact ⟨g1,⟨D1,g2.keep hc hS⟩,⟨D2,g3.keep hc hS⟩,ih g4,ih g5⟩
theorem TrS.below {w w':World} {base d:Nat} {u:Value} {L:List St} (h:TrS w base d u L) (hb:Below w.heap.size w w'):TrS w' base d u L:=TrS.keep (S:=fun _=>False) (Cb hb) (fun _ _ _=>id) h
theorem TrS.mono {w:World} {base base':Nat} (hb:base'≤base):∀ {d:Nat} {u:Value} {L:List St},TrS w base d u L→TrS w base' d u L:=by
 intro d
 induction d with
 | zero=>intro u L h;exact ⟨h.1,Om h.2 hb⟩
 | succ d ih =>
  intro u L h;obtain ⟨rs,h1,h2,h3⟩:=h;refine ⟨rs,h1,Om h2 hb,fun j a b=>?_⟩;obtain ⟨g1,⟨D1,g2⟩,⟨D2,g3⟩,g4,g5⟩:=h3 j a b;exact ⟨g1,⟨D1,g2.mono hb⟩,⟨D2,g3.mono hb⟩,ih g4,ih g5⟩
theorem KidE.st {w:World} {base d:Nat} {m:En} {e:Ex} (h:KidE w base d m e) (b j:Nat) (hb:b < base) (v:Value):KidE (w.setCell ⟨b,j,none⟩ v) base d m e:=⟨h.1,h.2.1,h.2.2.st b j hb v⟩
theorem TrS.st {w:World} {base d:Nat} {u:Value} {L:List St} (h:TrS w base d u L) (b j:Nat) (hb:b < base) (v:Value):TrS (w.setCell ⟨b,j,none⟩ v) base d u L:=TrS.keep (S:=fun q=>q=b) ((Chg.refl _ _).setCell b j v (fun _=>rfl)) (fun q h1 _ h2=>by omega) h
theorem TrS.own {w:World} {base d:Nat} {u:Value} {L:List St} (h:TrS w base d u L):∃ xs,w.ownsRow base 75 11 u L.length xs:=by
 cases d with
 | zero=>exact ⟨_,h.2⟩
 | succ d=>obtain ⟨rs,_,h2,_⟩:=h;exact ⟨_,h2⟩
theorem TrS.shape {w:World} {base d:Nat} {u:Value} {L:List St} (h:TrS w base d u L):∃ a c,u=.slice a L.length c:=by obtain ⟨_,ho⟩:=h.own;exact Oh ho
theorem KidE.at {w:World} {base d:Nat} {m:En} {e:Ex} (h:KidE w base d m e):ExAt w (fun q=>base≤q) (d+1) m e:=⟨h.1,h.2.1,h.2.2.row⟩
theorem TrS.row {w:World} {base:Nat}:∀ {d:Nat} {u:Value} {L:List St},TrS w base d u L→BlAt w (fun q=>base≤q) d u L:=by
 intro d
 induction d with
 | zero =>
  intro u L h;obtain ⟨rfl,h2⟩:=h;exact RowOf.of_own (rs:=[]) rfl h2 (by simp) (fun q h _=>h) (fun j h=>by simp at h)
 | succ d ih =>
  intro u L h;obtain ⟨rs,h1,h2,h3⟩:=h;refine RowOf.of_own h1 h2 (own_len h2) (fun q h _=>h) (fun j a b=>?_);obtain ⟨g1,⟨D1,g2⟩,⟨D2,g3⟩,g4,g5⟩:=h3 j a b;generalize L[j]=s at *
  obtain ⟨k,t,ix,c0,c,a0,b0⟩:=s;exact ⟨g1.1,g1.2.1,g1.2.2,⟨_,g2.at⟩,⟨_,g3.at⟩,ih g4,ih g5⟩
theorem TrS.sh {w:World} {base:Nat}:∀ {d:Nat} {u:Value} {L:List St},TrS w base d u L→ShS w base w.heap.size d u L:=by
 intro d
 induction d with
 | zero=>intro u L h;exact ⟨h.1,_,h.2,fun q hq=>(h.2.lt q hq).2⟩
 | succ d ih =>
  intro u L h;obtain ⟨rs,h1,h2,h3⟩:=h;refine ⟨_,⟨h2,fun q hq=>(h2.lt q hq).2⟩,fun j hj=>?_⟩;have hr:j < rs.length:=by omega
  obtain ⟨g1,⟨D1,g2⟩,⟨D2,g3⟩,g4,g5⟩:=h3 j hr hj;have g:=fun i (hi:i < 11)=>rows_get snc_len rs j hr i hi
  refine ⟨fun i hi=>?_,⟨_,_,g 4 (by omega),g2.2.2.sh⟩,⟨_,_,g 7 (by omega),g3.2.2.sh⟩,⟨_,g 9 (by omega),ih g4⟩,_,g 10 (by omega),ih g5⟩;rcases hi with rfl | rfl | rfl | rfl | rfl | rfl | rfl
  ·exact ⟨_,g 0 (by omega)⟩
  ·exact ⟨_,g 1 (by omega)⟩
  ·exact ⟨_,g 2 (by omega)⟩
  ·exact ⟨_,g 3 (by omega)⟩
  ·exact ⟨_,g 5 (by omega)⟩
  ·exact ⟨_,g 6 (by omega)⟩
  exact ⟨_,g 8 (by omega)⟩
def KidS (w:World) (base d:Nat) (m:Sn) (s:St):Prop:=(m.k=s.k∧m.t=s.t∧m.c=s.c)∧(∃ D,KidE w base D m.ix s.ix)∧(∃ D,KidE w base D m.val s.val)∧TrS w base d (.slice m.bp m.bn m.bc) s.body∧TrS w base d (.slice m.ep m.en m.ec) s.els
theorem KidS.keep {w w':World} {base:Nat} {S:Nat→Prop} (hc:Chg S w w') (hS:∀ q,base≤q→q < w.heap.size→¬S q) {d:Nat} {m:Sn} {e:St} (h:KidS w base d m e):KidS w' base d m e:=by
 obtain ⟨g1,⟨D1,g2⟩,⟨D2,g3⟩,g4,g5⟩:=h;exact ⟨g1,⟨D1,g2.keep hc hS⟩,⟨D2,g3.keep hc hS⟩,g4.keep hc hS,g5.keep hc hS⟩
theorem KidS.mono {w:World} {base base':Nat} {d:Nat} {m:Sn} {e:St} (h:KidS w base d m e) (hb:base'≤base):KidS w base' d m e:=by
 obtain ⟨g1,⟨D1,g2⟩,⟨D2,g3⟩,g4,g5⟩:=h;exact ⟨g1,⟨D1,g2.mono hb⟩,⟨D2,g3.mono hb⟩,g4.mono hb,g5.mono hb⟩
theorem TrS.mk {w:World} {base:Nat} {D:Nat} {u:Value} {L:List St} {rs:List Sn} (h0:D=0→L=[]) (ho:w.ownsRow base 75 11 u L.length (rows snc rs)) (hp:Part (KidS w base (D-1)) L.length rs L):TrS w base D u L:=by
 cases D with
 | zero =>
  have:=h0 rfl
  subst this;have:rs=[]:=List.eq_nil_of_length_eq_zero hp.1
  subst this;exact ⟨rfl,ho⟩
 | succ D=>exact ⟨rs,hp.1,ho,fun j a b=>hp.all j a b⟩
def Kp {α β:Type} (R:World→(Nat→Prop)→α→β→Prop):Prop:=∀ (W W':World) (S A A':Nat→Prop) (a:α) (c:β),Chg S W W'→(∀ q,A q→q < W.heap.size→¬S q)→(∀ q,A q→q < W.heap.size→A' q)→R W A a c→R W' A' a c
structure GrAt {α β:Type} (f:α→List Value) (sz:Nat) (e:TypeId) (R:World→(Nat→Prop)→α→β→Prop) (P:Nat→Prop) (W:World) (b:Nat) (v:Value) (rs:List α) (l:List β):Prop where
 len:rs.length=l.length
 own:W.ownsRow b e sz v l.length (rows f rs)
 kid:∀ j (h:j < rs.length) (h':j < l.length),R W (fun q=>P q∧¬v.ownBlock=some q) rs[j] l[j]
section
variable {α β:Type} {f:α→List Value} {sz:Nat} {e:TypeId} {R:World→(Nat→Prop)→α→β→Prop} {P:Nat→Prop} {W W':World} {b:Nat} {v v':Value} {rs:List α} {l:List β}
theorem GrAt.keep (h:GrAt f sz e R P W b v rs l) (hR:Kp R) {S:Nat→Prop} (hc:Chg S W W') (h1:∀ q,v.ownBlock=some q→¬S q) (h2:∀ q,P q→q < W.heap.size→¬S q):GrAt f sz e R P W' b v rs l:=
 ⟨h.len,Ow h.own hc h1,fun j a c=>hR W W' S _ _ _ _ hc (fun q hq hl=>h2 q hq.1 hl) (fun q hq _=>hq) (h.kid j a c)⟩
theorem GrAt.below (h:GrAt f sz e R P W b v rs l) (hR:Kp R) (hb:Below W.heap.size W W'):GrAt f sz e R P W' b v rs l:=h.keep hR (S:=fun _=>False) (Cb hb) (fun _ _=>id) (fun _ _ _=>id)
theorem GrAt.nil:GrAt f sz e R P W b (.slice none 0 0) [] []:=⟨rfl,World.ownsRow_nil _ _ _ _,fun j h=>by simp at h⟩
theorem GrAt.push (h:GrAt f sz e R P W b v rs l) (hR:Kp R) {n:α} {x:β} {A:Nat→Prop} (ho:W'.ownsRow b e sz v' (l.length+1) (rows f rs++f n)) (hc:Chg (fun k=>v.ownBlock=some k) W W') (hN:NewOr W v v')
  (hn:R W A n x) (hA:∀ q,A q→q < W.heap.size→P q∧¬v.ownBlock=some q):GrAt f sz e R P W' b v' (rs++[n]) (l++[x]):=by
 have hB:∀ q,q < W.heap.size→¬v.ownBlock=some q→¬v'.ownBlock=some q:=fun q hq h1 h2=>by
  rcases hN with e1 | ⟨g,e1,e2⟩
  ·exact h1 (e1 ▸ h2)
  rw [e1] at h2;have:=Si h2;omega
 refine ⟨by simp [h.len],?_,rows_push h.len (fun j h1 h2=>?_) ?_⟩
 ·rw [rows_append,rows_one,List.length_append];exact ho
 ·exact hR W W' _ _ _ _ _ hc (fun q hq _=>hq.2) (fun q hq hl=>⟨hq.1,hB q hl hq.2⟩) (h.kid j h1 h2)
 exact hR W W' _ _ _ _ _ hc (fun q hq hl=>(hA q hq hl).2) (fun q hq hl=>⟨(hA q hq hl).1,hB q hl (hA q hq hl).2⟩) hn
theorem GrAt.mono (h:GrAt f sz e R P W b v rs l) (hR:Kp R) {P':Nat→Prop} (hP:∀ q,P q→q < W.heap.size→P' q):GrAt f sz e R P' W b v rs l:=
 ⟨h.len,h.own,fun j a c=>hR W W (fun _=>False) _ _ _ _ (Chg.refl _ _) (fun _ _ _=>id) (fun q hq hl=>⟨hP q hq.1 hl,hq.2⟩) (h.kid j a c)⟩
theorem GrAt.base (h:GrAt f sz e R P W b v rs l) {b':Nat} (hb:b'≤b):GrAt f sz e R P W b' v rs l:=⟨h.len,Om h.own hb,h.kid⟩
theorem GrAt.row (h:GrAt f sz e R P W b v rs l) (hR:Kp R) {B:Nat→Prop} (hb:∀ q,b≤q→q < W.heap.size→B q) (hP:∀ q,P q→q < W.heap.size→B q):RowOf f sz W B (R W B) v l:=
 RowOf.of_own h.len h.own (own_len h.own) hb (fun j a c=>hR W W (fun _=>False) _ _ _ _ (Chg.refl _ _) (fun _ _ _=>id) (fun q hq hl=>hP q hq.1 hl) (h.kid j a c))
end
theorem kpE (d:Nat):Kp (fun W A n x=>ExAt W A d n x):=fun W W' S A A' a c hc h1 h2 h=>ExAt.keep hc h1 h2 Lr h
theorem kpS (d:Nat):Kp (fun W A n x=>StAt W A d n x):=fun W W' S A A' a c hc h1 h2 h=>StAt.keep hc h1 h2 Lr h
end Go.Proofs.YtlckklglbodgbaaGreat
namespace Go.Proofs.YtlckklglbodgbaaGreat
open Go.RowKit
structure RowK where
 k:Nat
 e:TypeId
 sz:Nat
 v:Value
 n:Nat
 xs:List Value
structure RowSet (w:World) (base:Nat) (l:List RowK):Prop where
 own:∀ r ∈ l,w.ownsRow base r.e r.sz r.v r.n r.xs
 dj:∀ r ∈ l,∀ s ∈ l,r.k≠s.k→∀ q,r.v.ownBlock=some q→s.v.ownBlock=some q→False
section
variable {w w':World} {base:Nat} {l l':List RowK}
theorem RowSet.nil:RowSet w base []:=⟨fun _ h=>(by cases h),fun _ h=>(by cases h)⟩
theorem RowSet.sub (h:RowSet w base l) (hs:∀ r ∈ l',r ∈ l):RowSet w base l':=⟨fun r hr=>h.own r (hs r hr),fun r hr s hs2=>h.dj r (hs r hr) s (hs s hs2)⟩
theorem RowSet.below (h:RowSet w base l) (hb:Below w.heap.size w w'):RowSet w' base l:=⟨fun r hr=>Ob (h.own r hr) hb,h.dj⟩
theorem RowSet.lit (h:RowSet w base l) (k:Nat) (e:TypeId) (sz:Nat) (cs:Array Value) (n:Nat) (hb:base≤w.heap.size) (hn:n≤maxLen) (hc:cs.size=n*sz):RowSet (w.alloc (.cells cs e)) base (⟨k,e,sz,.slice (some ⟨w.heap.size,0,none⟩) n n,n,cs.toList⟩::l):=by
 have hl:(w.alloc (.cells cs e)).ownsRow base e sz (.slice (some ⟨w.heap.size,0,none⟩) n n) n cs.toList:=Om (World.ownsRow_lit (base:=w.heap.size) (e:=e) (size:=sz) w cs n Lr hn hc) hb;have a0:∀ r ∈ l,∀ q,r.v.ownBlock=some q→q < w.heap.size:=fun r hr q hq=>((h.own r hr).lt q hq).2
 refine ⟨fun r hr=>?_,fun r hr s hs hk q h1 h2=>?_⟩
 ·rcases List.mem_cons.1 hr with rfl | hr
  ·exact hl
  exact Ob (h.own r hr) (bal (Bs w) _)
 rcases List.mem_cons.1 hr with rfl | hr
 ·rcases List.mem_cons.1 hs with rfl | hs
  ·exact hk rfl
  have e1:w.heap.size=q:=Si h1;have:=a0 s hs q h2;omega
 rcases List.mem_cons.1 hs with rfl | hs
 ·have e1:w.heap.size=q:=Si h2;have:=a0 r hr q h1;omega
 exact h.dj r hr s hs hk q h1 h2
theorem RowSet.push (h:RowSet w base l) (r:RowK) (hr:r ∈ l) {v':Value} {n':Nat} {xs':List Value} (ho:w'.ownsRow base r.e r.sz v' n' xs') (hc:Chg (fun q=>r.v.ownBlock=some q) w w') (hN:NewOr w r.v v') (hl:∀ s ∈ l',s ∈ l∧s.k≠r.k):RowSet w' base (⟨r.k,r.e,r.sz,v',n',xs'⟩::l'):=by
 have a0:∀ s ∈ l',∀ q,v'.ownBlock=some q→s.v.ownBlock=some q→False:=fun s hs q h1 h2=>by
  rcases hN with e1 | ⟨g,e1,e2⟩
  ·exact h.dj r hr s (hl s hs).1 (fun e=>(hl s hs).2 e.symm) q (e1 ▸ h1) h2
  rw [e1] at h1;have:=Si h1
  have:=((h.own s (hl s hs).1).lt q h2).2
  omega
 refine ⟨fun s hs=>?_,fun a ha b hb hk q h1 h2=>?_⟩
 ·rcases List.mem_cons.1 hs with rfl | hs
  ·exact ho
  exact Ow (h.own s (hl s hs).1) hc (fun q h1 h2=>h.dj r hr s (hl s hs).1 (fun e=>(hl s hs).2 e.symm) q h2 h1)
 rcases List.mem_cons.1 ha with rfl | ha
 ·rcases List.mem_cons.1 hb with rfl | hb
  ·exact hk rfl
  exact a0 b hb q h1 h2
 rcases List.mem_cons.1 hb with rfl | hb
 ·exact a0 a ha q h2 h1
 exact h.dj a (hl a ha).1 b (hl b hb).1 hk q h1 h2
theorem RowSet.set (h:RowSet w base l) (r:RowK) (hr:r ∈ l) {b n c:Nat} (hv:r.v=.slice (some ⟨b,0,none⟩) n c) (hn:r.n=n) (j:Nat) (u:Value) (hl:∀ s ∈ l',s ∈ l∧s.k≠r.k):RowSet (w.setCell ⟨b,j,none⟩ u) base (⟨r.k,r.e,r.sz,r.v,r.n,r.xs.set j u⟩::l'):=by
 have ho:=h.own r hr;obtain ⟨k,e,sz,v,n',xs⟩:=r;simp only at hv hn ho hl ⊢
 subst hv hn;have hs:=(ho.stored j u).1;refine ⟨fun s hs2=>?_,fun a ha b2 hb hk q h1 h2=>?_⟩
 ·rcases List.mem_cons.1 hs2 with rfl | hs2
  ·exact hs
  exact Oe (h.own s (hl s hs2).1) b j (fun h1=>h.dj _ hr s (hl s hs2).1 (fun e=>(hl s hs2).2 e.symm) b rfl h1) u
 have a0:∀ s ∈ l',∀ q,(Value.slice (some ⟨b,0,none⟩) n' c).ownBlock=some q→s.v.ownBlock=some q→False:=fun s hs q h1 h2=>h.dj _ hr s (hl s hs).1 (fun e=>(hl s hs).2 e.symm) q h1 h2
 rcases List.mem_cons.1 ha with rfl | ha
 ·rcases List.mem_cons.1 hb with rfl | hb
  ·exact hk rfl
  exact a0 b2 hb q h1 h2
 rcases List.mem_cons.1 hb with rfl | hb
 ·exact a0 a ha q h2 h1
 exact h.dj a (hl a ha).1 b2 (hl b2 hb).1 hk q h1 h2
end
theorem Sz {l:List RowK}:∀ r ∈ ([]:List RowK),r ∈ l:=fun _ h=>(by cases h)
theorem Sb {a:RowK} {l l':List RowK} (h:a ∈ l) (hs:∀ r ∈ l',r ∈ l):∀ r ∈ a::l',r ∈ l:=fun r hr=>by
 rcases List.mem_cons.1 hr with rfl | hr
 ·exact h
 exact hs r hr
theorem On {l:List RowK} {k:Nat}:∀ s ∈ ([]:List RowK),s ∈ l∧s.k≠k:=fun _ h=>(by cases h)
theorem Oc {a:RowK} {l l':List RowK} {k:Nat} (h:a ∈ l) (hs:∀ s ∈ l',s ∈ l∧s.k≠k) (hk:Nat.beq a.k k=false:=by rfl):∀ s ∈ a::l',s ∈ l∧s.k≠k:=fun r hr=>by
 rcases List.mem_cons.1 hr with rfl | hr
 ·exact ⟨h,fun e=>by rw [e,Nat.beq_refl] at hk;cases hk⟩
 exact hs r hr
theorem name_H {P:Program} {md:Region.Mode} {ops:Array Oper} {Q:Exit→Act→World→Prop} {S:World→Prop} {fuel:Nat} {listed:Array Bool} {a:Act} {w:World}
  (h:∀ (T:Nat→Array Bool→Act→World→Prop),Hid (T=wpAnyH P md ops Q S)→∀ A0,Hid (A0=a)→T fuel listed A0 w):wpAnyH P md ops Q S fuel listed a w:=h _ (Hi rfl) _ (Hi rfl)
theorem Tg {W w w':World} {S:Nat→Prop} (ht:Below W.heap.size W w) (hc:Chg S w w') (hs:∀ q,S q→W.heap.size≤q):Below W.heap.size W w':=ht.trans (hc.below W.heap.size ht.size (fun q hq h=>by have:=hs q h;omega))
theorem Bk.of_own {w:World} {base:Nat} {e:TypeId} {sz b n c:Nat} {xs:List Value} (h:w.ownsRow base e sz (.slice (some ⟨b,0,none⟩) n c) n xs):Bk w b xs:=fun j hj=>by
 refine ⟨?_,h.frozenAt j⟩;rw [h.cellAt j (by rw [← h.1];exact hj),List.getElem?_eq_getElem hj]
end Go.Proofs.YtlckklglbodgbaaGreat
