/-
 Parts of the proofs of the laws FnPairMemory,FnSplitMemory.
-/
import Derived.Test.YtlckklglbodgbaaGreatProg
import Derived.Test.YtlckklglbodgbaaGreatK
set_option linter.all false
namespace Go.Proofs.YtlckklglbodgbaaGreat
open Go.RowKit
theorem all_succ {xs:List Int} {k:Nat} {P:(j:Nat)→Int→Prop} (hk:k < xs.length) (h:∀ j (h:j < xs.length),j < k→P j xs[j]) (hx:P k xs[k]):∀ j (h:j < xs.length),j < k+1→P j xs[j]:=by
 intro j hj a0;by_cases e:j=k
 ·subst e;exact hx
 exact h j hj (by omega)
theorem info_int:(Tryz.prog.info? 3).map (fun i=>(i.zero,i.size,i.bytes))=some (some (.int .i64 0),1,8):=by kernel_rfl
theorem tInts:SliceT Tryz.prog 23 3 (.int .i64 0) 1 8:=⟨Tryz.underlying23,info_int,rfl,by omega,by omega⟩
theorem clone_any (v:Value) (xs:List Int) (w:World) (hr:Reads w 1 v xs.length (ints xs)) (hsz:xs.length≤1073741824) :
  Calls Tryz.prog 55 #[v] w fun e w'=>∃ u,e=.returned u∧w'.ownsRow w.heap.size 3 1 u xs.length (ints xs)∧Below w.heap.size w w':=by
 have c0:=hr;have f0:=fun w a n c=>Lib.run_eql_slice_nil (P:=Tryz.prog) w 23 3 a n c 0 0 Tryz.underlying23
 obtain ⟨_,hn,a,i0,b,j0,rfl,⟨e0,b0⟩,ha,d0⟩:=hr
 cases a with
 | none =>
  have h0:=b0 rfl;have h1:xs=[]:=List.eq_nil_of_length_eq_zero (by omega);subst h1 h0;go_enter Tryz.func55,Tryz.ntmps55
  go_wp2
  go_ret
  exact ⟨_,rfl,World.ownsRow_nil _ _ _ _,Below.refl _ _⟩
 | some a =>
  have a0:=own_nil_made w 3;have g0:=c0.below ((Below.refl w.heap.size w).alloc Lr (.cells #[] 3));clear c0 ha d0 b0;go_enter Tryz.func55,Tryz.ntmps55
  go_wp2_with (at_builtin;refine wpList_aps tInts rfl _ _ rfl w.heap.size _ 0 [] rfl a0 _ _ _ rfl g0 (one_ints xs) (by omega) ?c1 ?_)
  case c1=>simp
  intro v' w' ho' hc' hn' _;have hb:=((Below.refl w.heap.size w).alloc Lr (.cells #[] 3)).trans (hc'.below w.heap.size (by simp) (fun k hk=>not_own a0 hk));clear hc' hn' f0 a0;go_wp2
  go_ret
  exact ⟨_,rfl,ho',hb⟩
abbrev Ev:=Int × Int
def evs:List Ev→List Value
 | []=>[]
 | e::l=>.int .i64 e.1::.int .i64 e.2::evs l
theorem evs_append (a b:List Ev):evs (a++b)=evs a++evs b:=by
 induction a with
 | nil=>rfl
 | cons e l ih=>simp [evs,ih]
def rows {α:Type} (f:α→List Value):List α→List Value
 | []=>[]
 | e::l=>f e++rows f l
theorem rows_length {α:Type} {f:α→List Value} {sz:Nat} (hf:∀ x,(f x).length=sz) (l:List α):(rows f l).length=l.length*sz:=by
 induction l with
 | nil=>simp [rows]
 | cons e l ih=>simp only [rows,List.length_append,ih,hf,List.length_cons,Nat.add_mul];omega
theorem rows_append {α:Type} (f:α→List Value) (a b:List α):rows f (a++b)=rows f a++rows f b:=by
 induction a with
 | nil=>rfl
 | cons e l ih=>simp [rows,ih]
theorem rows_one {α:Type} (f:α→List Value) (a:α):rows f [a]=f a:=by simp [rows]
theorem rows_get {α:Type} {f:α→List Value} {sz:Nat} (hf:∀ x,(f x).length=sz) (l:List α) (k:Nat) (h:k < l.length) (j:Nat) (hj:j < sz):(rows f l)[k*sz+j]? = (f l[k])[j]?:=by
 induction l generalizing k with
 | nil=>cases h
 | cons e l ih =>
  cases k with
  | zero =>
   simp only [rows,Nat.zero_mul,Nat.zero_add,List.getElem_cons_zero];rw [List.getElem?_append_left (by rw [hf];exact hj)]
  | succ k =>
   have e1:(k+1)*sz+j=sz+(k*sz+j):=by rw [Nat.add_mul];omega
   simp only [rows,List.getElem_cons_succ];rw [List.getElem?_append_right (by rw [hf];omega),hf,e1,Nat.add_sub_cancel_left];exact ih k (by simpa using h)
theorem set_dropped {α:Type} (a l:List α) (x:α) (k:Nat) (ha:a.length=k) (h:k < l.length):(a++l.drop k).set k x=(a++[x])++l.drop (k+1):=by
 have e:l.drop k=l[k]::l.drop (k+1):=by rw [List.drop_eq_getElem_cons h]
 rw [e,List.set_append_right _ _ (by omega),ha,Nat.sub_self];simp only [List.set_cons_zero,List.append_assoc,List.cons_append,List.nil_append]
structure Ins where
 op:Int
 a:Int
 b:Int
 c:Int
 d:Int
deriving DecidableEq
def insc (e:Ins):List Value:=[.int .i64 e.op,.int .i64 e.a,.int .i64 e.b,.int .i64 e.c,.int .i64 e.d]
theorem one_insc (e:Ins):∀ u ∈ insc e,u.oneCell'=true:=by
 intro u hu;simp only [insc,List.mem_cons,List.not_mem_nil,or_false] at hu;rcases hu with rfl | rfl | rfl | rfl | rfl <;> rfl
abbrev inss (l:List Ins):List Value:=rows insc l
theorem reads_row {α:Type} {f:α→List Value} {sz:Nat} (hf:∀ x,(f x).length=sz) {w:World} {b off:Nat} {l:List α} (hc:∀ j (h:j < (rows f l).length),w.cell? ⟨b,off+j,none⟩=some (rows f l)[j]) (k:Nat) (h:k < l.length) (j:Nat) (hj:j < sz) :
  w.cell? ⟨b,off+(k*sz+j),none⟩=(f l[k])[j]?:=by
 have hl:=rows_length hf l
 have a0:k*sz+j < (rows f l).length:=by
  rw [hl];have:(k+1)*sz≤l.length*sz:=Nat.mul_le_mul_right sz h
  rw [Nat.add_mul] at this;omega
 rw [hc _ a0,← rows_get hf l k h j hj,List.getElem?_eq_getElem a0]
inductive Ex where
 | mk (k v:Int) (kids:List Ex)
inductive St where
 | mk (k t:Int) (ix val:Ex) (c:Int) (body els:List St)
def Ex.k:Ex→Int | .mk k _ _=>k
def Ex.v:Ex→Int | .mk _ v _=>v
def Ex.kids:Ex→List Ex | .mk _ _ l=>l
structure En where
 k:Int
 v:Int
 p:Option Addr
 n:Nat
 c:Nat
def En.u (e:En):Value:=.slice e.p e.n e.c
def enc (e:En):List Value:=[.int .i64 e.k,.int .i64 e.v,.slice e.p e.n e.c]
theorem enc_len (e:En):(enc e).length=3:=rfl
theorem one_enc (e:En):∀ u ∈ enc e,u.oneCell'=true:=by
 intro u hu;simp only [enc,List.mem_cons,List.not_mem_nil,or_false] at hu;rcases hu with rfl | rfl | rfl <;> rfl
structure Sn where
 k:Int
 t:Int
 ix:En
 val:En
 c:Int
 bp:Option Addr
 bn:Nat
 bc:Nat
 ep:Option Addr
 en:Nat
 ec:Nat
def snc (s:Sn):List Value:=[.int .i64 s.k,.int .i64 s.t,.int .i64 s.ix.k,.int .i64 s.ix.v,.slice s.ix.p s.ix.n s.ix.c,.int .i64 s.val.k,.int .i64 s.val.v,.slice s.val.p s.val.n s.val.c,.int .i64 s.c,.slice s.bp s.bn s.bc,.slice s.ep s.en s.ec]
theorem snc_len (s:Sn):(snc s).length=11:=rfl
theorem one_snc (s:Sn):∀ u ∈ snc s,u.oneCell'=true:=by
 intro u hu;simp only [snc,List.mem_cons,List.not_mem_nil,or_false] at hu;rcases hu with rfl | rfl | rfl | rfl | rfl | rfl | rfl | rfl | rfl | rfl | rfl <;> rfl
def RowOf {α β:Type} (f:α→List Value) (sz:Nat) (w:World) (B:Nat→Prop) (R:α→β→Prop) (u:Value) (l:List β):Prop:=
 ∃ rs:List α,rs.length=l.length∧Reads w sz u l.length (rows f rs)∧(∀ b o c,0 < l.length→u=.slice (some ⟨b,o,none⟩) l.length c→B b)∧∀ j (h:j < rs.length) (h':j < l.length),R rs[j] l[j]
theorem RowOf.keep {α β:Type} {f:α→List Value} {sz:Nat} {w w':World} {B B':Nat→Prop} {R R':α→β→Prop} {u:Value} {l:List β} (h:RowOf f sz w B R u l) {S:Nat→Prop} (hc:Chg S w w') (hS:∀ q,B q→q < w.heap.size→¬S q) (hB:∀ q,B q→q < w.heap.size→B' q) (hR:∀ a b,R a b→R' a b):RowOf f sz w' B' R' u l:=by
 obtain ⟨rs,h1,h2,h3,h4⟩:=h;exact ⟨rs,h1,h2.keep hc (fun b o c h0 hv=>hS b (h3 b o c h0 hv) (reads_lt h2 b o c h0 hv)),fun b o c h0 hv=>hB b (h3 b o c h0 hv) (reads_lt h2 b o c h0 hv),fun j h h'=>hR _ _ (h4 j h h')⟩
theorem RowOf.nil {α β:Type} {f:α→List Value} {sz:Nat} {w:World} {B:Nat→Prop} {R:α→β→Prop}:RowOf f sz w B R (.slice none 0 0) []:=
 ⟨[],rfl,Ro (base:=0) (e:=0) (World.ownsRow_nil w 0 0 sz) (by simp),(fun b o c h0=>by simp at h0),(fun j h=>by simp at h)⟩
theorem RowOf.shape {α β:Type} {f:α→List Value} {sz:Nat} {w:World} {B:Nat→Prop} {R:α→β→Prop} {u:Value} {l:List β} (h:RowOf f sz w B R u l):∃ a c,u=.slice a l.length c:=by
 obtain ⟨_,_,h,_⟩:=h;exact reads_shape h
theorem RowOf.of_own {α β:Type} {f:α→List Value} {sz:Nat} {w:World} {B:Nat→Prop} {base:Nat} {e:TypeId} {R:α→β→Prop} {u:Value} {l:List β} {rs:List α} (hl:rs.length=l.length) (ho:w.ownsRow base e sz u l.length (rows f rs)) (hn:l.length≤9223372036854775807) (hB:∀ q,base≤q→q < w.heap.size→B q) (hR:∀ j (h:j < rs.length) (h':j < l.length),R rs[j] l[j]):RowOf f sz w B R u l:=
 ⟨rs,hl,Ro ho hn,fun b o c _ hv=>by have:=ho.lt b (by rw [hv];rfl);exact hB b this.1 this.2,hR⟩
theorem rows_push {α β:Type} {R:α→β→Prop} {rs:List α} {l:List β} {a:α} {b:β} (hl:rs.length=l.length) (h:∀ j (h:j < rs.length) (h':j < l.length),R rs[j] l[j]) (hab:R a b):∀ j (h:j < (rs++[a]).length) (h':j < (l++[b]).length),R (rs++[a])[j] (l++[b])[j]:=by
 intro j h1 h2;by_cases hj:j < rs.length
 ·rw [List.getElem_append_left hj,List.getElem_append_left (by omega)];exact h j hj (by omega)
 have a0:j=rs.length:=by simp at h1;omega
 subst a0;rw [List.getElem_append_right Lr,List.getElem_append_right (by omega)];simpa [hl] using hab
def ExAt (w:World) (B:Nat→Prop):Nat→En→Ex→Prop
 | 0,_,_=>False
 | d+1,n,e=>n.k=e.k∧n.v=e.v∧RowOf enc 3 w B (ExAt w B d) n.u e.kids
theorem ExAt.keep {w w':World} {B B':Nat→Prop} {S:Nat→Prop} (hc:Chg S w w') (hS:∀ q,B q→q < w.heap.size→¬S q) (hB:∀ q,B q→q < w.heap.size→B' q):∀ {d d':Nat} {n:En} {e:Ex},d≤d'→ExAt w B d n e→ExAt w' B' d' n e:=by
 intro d
 induction d with
 | zero=>intro d' n e _ h;cases h
 | succ d ih =>
  intro d' n e hd h
  cases d' with
  | zero=>omega
  | succ d' =>
   obtain ⟨h1,h2,h3⟩:=h;exact ⟨h1,h2,h3.keep hc hS hB (fun a b hab=>ih (by omega) hab)⟩
theorem ExAt.below {w w':World} {B:Nat→Prop} {d:Nat} {n:En} {e:Ex} (h:ExAt w B d n e) (hb:Below w.heap.size w w'):ExAt w' B d n e:=ExAt.keep (S:=fun _=>False) (Cb hb) (fun _ _ _=>id) (fun _ h _=>h) Lr h
theorem ExAt.leaf {w:World} {B:Nat→Prop} {d:Nat} (k v:Int):ExAt w B (d+1) ⟨k,v,none,0,0⟩ (.mk k v []):=⟨rfl,rfl,RowOf.nil⟩
theorem ExAt.shape {w:World} {B:Nat→Prop} {d:Nat} {n:En} {e:Ex} (h:ExAt w B d n e):n.k=e.k∧n.v=e.v∧n.n=e.kids.length:=by
 cases d with
 | zero=>cases h
 | succ d =>
  obtain ⟨h1,h2,h3⟩:=h;obtain ⟨a,c,hu⟩:=h3.shape;simp only [En.u,Value.slice.injEq] at hu;exact ⟨h1,h2,hu.2.1⟩
theorem ExAt.kid {w:World} {B:Nat→Prop} {d:Nat} {n:En} {e:Ex} (h:ExAt w B (d+1) n e) (j:Nat) (hj:j < e.kids.length) :
  ∃ b o m,n.p=some ⟨b,o,none⟩∧B b∧b < w.heap.size∧ExAt w B d m e.kids[j]∧w.cell? ⟨b,o+j*3,none⟩=some (.int .i64 m.k)∧w.cell? ⟨b,o+j*3+1,none⟩=some (.int .i64 m.v)∧w.cell? ⟨b,o+j*3+2,none⟩=some (.slice m.p m.n m.c):=by
 obtain ⟨_,_,rs,h1,h2,h3,h4⟩:=h;have d0:=reads_lt h2;obtain ⟨_,_,a,b0,b,a0,hu,_,ha,c0⟩:=h2;obtain ⟨rfl,hb⟩:=ha (by omega);simp only [En.u,Value.slice.injEq] at hu;have g:=fun i hi=>reads_row enc_len c0 j (by omega) i hi
 refine ⟨b,a0,rs[j],hu.1,h3 b a0 b0 (by omega) (by simp only [En.u,hu.1,hu.2.1,hu.2.2]),hb,h4 j (by omega) hj,?_,?_,?_⟩
 ·exact g 0 (by omega)
 ·exact g 1 (by omega)
 exact g 2 (by omega)
theorem ExAt.kidm {w:World} {B:Nat→Prop} {d:Nat} {n:En} {k v:Int} {l:List Ex} (h:ExAt w B (d+1) n (.mk k v l)) (j:Nat) (hj:j < l.length) :
  ∃ b o m,n.p=some ⟨b,o,none⟩∧B b∧b < w.heap.size∧ExAt w B d m l[j]∧w.cell? ⟨b,o+j*3,none⟩=some (.int .i64 m.k)∧w.cell? ⟨b,o+j*3+1,none⟩=some (.int .i64 m.v)∧w.cell? ⟨b,o+j*3+2,none⟩=some (.slice m.p m.n m.c):=h.kid j hj
def StAt (w:World) (B:Nat→Prop):Nat→Sn→St→Prop
 | 0,_,_=>False
 | d+1,n,.mk k t ix val c body els=>n.k=k∧n.t=t∧n.c=c∧(∃ D,ExAt w B D n.ix ix)∧(∃ D,ExAt w B D n.val val)∧RowOf snc 11 w B (StAt w B d) (.slice n.bp n.bn n.bc) body∧RowOf snc 11 w B (StAt w B d) (.slice n.ep n.en n.ec) els
theorem StAt.keep {w w':World} {B B':Nat→Prop} {S:Nat→Prop} (hc:Chg S w w') (hS:∀ q,B q→q < w.heap.size→¬S q) (hB:∀ q,B q→q < w.heap.size→B' q):∀ {d d':Nat} {n:Sn} {s:St},d≤d'→StAt w B d n s→StAt w' B' d' n s:=by
 intro d
 induction d with
 | zero=>intro d' n s _ h;cases h
 | succ d ih =>
  intro d' n s hd h
  cases d' with
  | zero=>omega
  | succ d' =>
   obtain ⟨k,t,ix,c0,c,a0,b0⟩:=s;obtain ⟨h1,h2,h3,⟨D1,h4⟩,⟨D2,h5⟩,h6,h7⟩:=h;exact ⟨h1,h2,h3,⟨D1,ExAt.keep hc hS hB Lr h4⟩,⟨D2,ExAt.keep hc hS hB Lr h5⟩,h6.keep hc hS hB (fun a b hab=>ih (by omega) hab),h7.keep hc hS hB (fun a b hab=>ih (by omega) hab)⟩
def BlAt (w:World) (B:Nat→Prop) (d:Nat) (u:Value) (l:List St):Prop:=RowOf snc 11 w B (StAt w B d) u l
theorem BlAt.keep {w w':World} {B B':Nat→Prop} {d d':Nat} {u:Value} {l:List St} {S:Nat→Prop} (h:BlAt w B d u l) (hc:Chg S w w') (hS:∀ q,B q→q < w.heap.size→¬S q) (hB:∀ q,B q→q < w.heap.size→B' q) (hd:d≤d'):BlAt w' B' d' u l:=RowOf.keep h hc hS hB (fun _ _ hab=>StAt.keep hc hS hB hd hab)
theorem BlAt.below {w w':World} {B:Nat→Prop} {d:Nat} {u:Value} {l:List St} (h:BlAt w B d u l) (hb:Below w.heap.size w w'):BlAt w' B d u l:=h.keep (S:=fun _=>False) (Cb hb) (fun _ _ _=>id) (fun _ h _=>h) Lr
theorem BlAt.stmt {w:World} {B:Nat→Prop} {d:Nat} {u:Value} {l:List St} (h:BlAt w B d u l) (j:Nat) (hj:j < l.length) :
  ∃ b o c m,u=.slice (some ⟨b,o,none⟩) l.length c∧B b∧b < w.heap.size∧StAt w B d m l[j]∧∀ i (_hi:i < 11),w.cell? ⟨b,o+(j*11+i),none⟩=(snc m)[i]?:=by
 obtain ⟨rs,h1,h2,h3,h4⟩:=h;obtain ⟨_,_,a,a0,b,b0,rfl,_,ha,c0⟩:=h2;obtain ⟨rfl,hb⟩:=ha (by omega);refine ⟨b,b0,a0,rs[j],rfl,h3 b b0 a0 (by omega) rfl,hb,h4 j (by omega) hj,fun i hi=>?_⟩;have hl:=rows_length snc_len rs;have hk:j*11+i < (rows snc rs).length:=by omega
 rw [c0 (j*11+i) hk,← rows_get snc_len rs j (by omega) i hi,List.getElem?_eq_getElem hk]
theorem ExAt.kI {w w':World} {lo hi d:Nat} {n:En} {e:Ex} {S:Nat→Prop} (hc:Chg S w w') (hs:∀ q,lo≤q→q < hi→¬S q) (h:ExAt w (fun q=>lo≤q∧q < hi) d n e):ExAt w' (fun q=>lo≤q∧q < hi) d n e:=ExAt.keep hc (fun q hq _=>hs q hq.1 hq.2) (fun _ h _=>h) Lr h
def St.k:St→Int | .mk k _ _ _ _ _ _=>k
def St.t:St→Int | .mk _ t _ _ _ _ _=>t
def St.ix:St→Ex | .mk _ _ ix _ _ _ _=>ix
def St.val:St→Ex | .mk _ _ _ v _ _ _=>v
def St.c:St→Int | .mk _ _ _ _ c _ _=>c
def St.body:St→List St | .mk _ _ _ _ _ b _=>b
def St.els:St→List St | .mk _ _ _ _ _ _ e=>e
mutual
def exN:Ex→Nat
 | .mk _ _ l=>exNs l
def exNs:List Ex→Nat
 | []=>0
 | e::l=>(1+exN e)+exNs l
end
mutual
def stN1:St→Nat
 | .mk _ _ ix v _ b e=>((exN ix+exN v)+stNs b)+stNs e
def stNs:List St→Nat
 | []=>0
 | s::l=>(1+stN1 s)+stNs l
end
theorem exN_kids (e:Ex):exN e=exNs (Ex.kids e):=by cases e;rfl
theorem exNs_app (a b:List Ex):exNs (a++b)=exNs a+exNs b:=by
 induction a with
 | nil=>simp [exNs]
 | cons e a ih=>simp only [List.cons_append,exNs];omega
theorem exNs_take {l:List Ex} {k:Nat} (h:k < l.length):exNs (l.take (k+1))=exNs (l.take k)+(1+exN l[k]):=by
 rw [List.take_succ_eq_append_getElem h,exNs_app];simp [exNs]
theorem exNs_le (l:List Ex) (k:Nat) (h:k≤l.length):exNs (l.take k)+(l.length-k)≤exNs l:=by
 induction l generalizing k with
 | nil=>simp [exNs]
 | cons e l ih =>
  cases k with
  | zero=>have:=ih 0 (Nat.zero_le _);simp [exNs] at this ⊢;omega
  | succ k=>have:=ih k (by simpa using h);simp [exNs] at this ⊢;omega
theorem exNs_len (l:List Ex):l.length≤exNs l:=by have:=exNs_le l 0 (Nat.zero_le _);simp [exNs] at this;omega
theorem exNs_at {l:List Ex} {k:Nat} (h:k < l.length):exN l[k] < exNs l:=by
 have h1:=exNs_take h;have h2:=exNs_le l (k+1) h;omega
theorem stN_parts (s:St):stN1 s=((exN s.ix+exN s.val)+stNs s.body)+stNs s.els:=by cases s;rfl
theorem stNs_app (a b:List St):stNs (a++b)=stNs a+stNs b:=by
 induction a with
 | nil=>simp [stNs]
 | cons e a ih=>simp only [List.cons_append,stNs];omega
theorem stNs_take {l:List St} {k:Nat} (h:k < l.length):stNs (l.take (k+1))=stNs (l.take k)+(1+stN1 l[k]):=by
 rw [List.take_succ_eq_append_getElem h,stNs_app];simp [stNs]
theorem stNs_all (l:List St):stNs (l.take l.length)=stNs l:=by rw [List.take_of_length_le Lr]
theorem stNs_le (l:List St) (k:Nat) (h:k≤l.length):stNs (l.take k)+(l.length-k)≤stNs l:=by
 induction l generalizing k with
 | nil=>simp [stNs]
 | cons e l ih =>
  cases k with
  | zero=>have:=ih 0 (Nat.zero_le _);simp [stNs] at this ⊢;omega
  | succ k=>have:=ih k (by simpa using h);simp [stNs] at this ⊢;omega
theorem stNs_len (l:List St):l.length≤stNs l:=by have:=stNs_le l 0 (Nat.zero_le _);simp [stNs] at this;omega
theorem stNs_at {l:List St} {k:Nat} (h:k < l.length):stN1 l[k] < stNs l:=by
 have h1:=stNs_take h;have h2:=stNs_le l (k+1) h;omega
theorem own_put {w:World} {base:Nat} {e e':TypeId} {sz n:Nat} {v:Value} {xs:List Value} (h:w.ownsRow base e sz v n xs) {b:Nat} {cur:Array Value} (hb:w.heap[b]? = some (.cells cur e' (0,0))) (i:Nat) (hi:i < cur.size) (x:Value) :
  ((w.setCell ⟨b,i,none⟩ x).ownsRow base e sz v n xs∧¬v.ownBlock=some b)∨(e=e'∧v.ownBlock=some b∧(w.setCell ⟨b,i,none⟩ x).ownsRow base e sz v n (xs.set i x)):=by
 by_cases hv:v.ownBlock=some b
 ·refine Or.inr ?_;obtain ⟨h1,h2 | ⟨g,a0,c2,rfl,h3,h4,h5,h6,h7,h8⟩⟩:=h
  ·rw [h2.1] at hv;cases hv
  have hg:g=b:=Si hv;subst hg;rw [h4] at hb;have e1:=Si hb;injection e1 with e2 e3 e4
  subst e2 e3;refine ⟨rfl,rfl,?_⟩;have ho:w.ownsRow base e sz (.slice (some ⟨g,0,none⟩) n a0) n xs:=⟨h1,Or.inr ⟨g,a0,c2,rfl,h3,h4,h5,h6,h7,h8⟩⟩;exact (ho.stored i x).1
 exact Or.inl ⟨Oe h b i hv x,hv⟩
theorem set_int {xs:List Value} {p i:Nat} {x:Int} (h:∃ k,xs[p]? = some (.int .i64 k)):∃ k,(xs.set i (.int .i64 x))[p]? = some (.int .i64 k):=by
 obtain ⟨k,hk⟩:=h;rw [List.getElem?_set];by_cases e:i=p
 ·subst e
  have hl:i < xs.length:=by
   cases hq:xs[i]? with
   | none=>rw [hq] at hk;cases hk
   | some y=>exact (List.getElem?_eq_some_iff.1 hq).1
  rw [if_pos rfl,if_pos hl];exact ⟨x,rfl⟩
 rw [if_neg e];exact ⟨k,hk⟩
theorem set_off {xs:List Value} {p i:Nat} {x y:Value} (h:xs[p]? = some y) (hi:¬i=p):(xs.set i x)[p]? = some y:=by
 rw [List.getElem?_set,if_neg hi];exact h
def ShE (w:World) (base top:Nat):Nat→Value→List Ex→Prop
 | 0,u,L=>L=[]∧∃ xs,w.ownsRow base 73 3 u L.length xs∧∀ q,u.ownBlock=some q→q < top
 | d+1,u,L=>∃ xs:List Value,(w.ownsRow base 73 3 u L.length xs∧∀ q,u.ownBlock=some q→q < top)∧∀ (j:Nat) (h:j < L.length),(∃ k,xs[j*3]? = some (.int .i64 k))∧(∃ v,xs[j*3+1]? = some (.int .i64 v))∧∃ u',xs[j*3+2]? = some u'∧ShE w base top d u' L[j].kids
def ShS (w:World) (base top:Nat):Nat→Value→List St→Prop
 | 0,u,L=>L=[]∧∃ xs,w.ownsRow base 75 11 u L.length xs∧∀ q,u.ownBlock=some q→q < top
 | d+1,u,L=>∃ xs:List Value,(w.ownsRow base 75 11 u L.length xs∧∀ q,u.ownBlock=some q→q < top)∧∀ (j:Nat) (h:j < L.length),(∀ i,i=0∨i=1∨i=2∨i=3∨i=5∨i=6∨i=8→∃ k,xs[j*11+i]? = some (.int .i64 k))∧(∃ u' D,xs[j*11+4]? = some u'∧ShE w base top D u' L[j].ix.kids)∧(∃ u' D,xs[j*11+7]? = some u'∧ShE w base top D u' L[j].val.kids)∧(∃ u',xs[j*11+9]? = some u'∧ShS w base top d u' L[j].body)∧(∃ u',xs[j*11+10]? = some u'∧ShS w base top d u' L[j].els)
def NumAt (w:World) (b i:Nat):Prop:=∃ cur T,w.heap[b]? = some (.cells cur T (0,0))∧i < cur.size∧((T=73∧¬i % 3=2)∨(T=75∧¬(i % 11=4∨i % 11=7∨i % 11=9∨i % 11=10)))
theorem ShE.put {w:World} {b i:Nat} {x:Int} (hw:NumAt w b i):∀ {d base top:Nat} {u:Value} {L:List Ex},ShE w base top d u L→ShE (w.setCell ⟨b,i,none⟩ (.int .i64 x)) base top d u L:=by
 obtain ⟨b0,T,hb,hi,hT⟩:=hw;intro d
 induction d with
 | zero =>
  intro base top u L h;obtain ⟨h1,xs,h2,a0⟩:=h;rcases own_put h2 hb i hi (.int .i64 x) with ⟨h3,_⟩ | ⟨_,_,h3⟩
  ·exact ⟨h1,_,h3,a0⟩
  exact ⟨h1,_,h3,a0⟩
 | succ d ih =>
  intro base top u L h;obtain ⟨xs,⟨h2,a0⟩,h4⟩:=h;rcases own_put h2 hb i hi (.int .i64 x) with ⟨h3,_⟩ | ⟨e,_,h3⟩
  ·exact ⟨xs,⟨h3,a0⟩,fun j hj=>by
    obtain ⟨a1,a2,u',a3,a4⟩:=h4 j hj;exact ⟨a1,a2,u',a3,ih a4⟩⟩
  have c0:¬i % 3=2:=by
   rcases hT with ⟨_,h5⟩ | ⟨h5,_⟩
   ·exact h5
   rw [← e] at h5;exact absurd h5 (by decide)
  exact ⟨_,⟨h3,a0⟩,fun j hj=>by
   obtain ⟨a1,a2,u',a3,a4⟩:=h4 j hj;exact ⟨set_int a1,set_int a2,u',set_off a3 (by omega),ih a4⟩⟩
theorem ShS.put {w:World} {b i:Nat} {x:Int} (hw:NumAt w b i):∀ {d base top:Nat} {u:Value} {L:List St},ShS w base top d u L→ShS (w.setCell ⟨b,i,none⟩ (.int .i64 x)) base top d u L:=by
 have hE:=fun {d base top:Nat} {u:Value} {L:List Ex}=>ShE.put (x:=x) hw (d:=d) (base:=base) (top:=top) (u:=u) (L:=L)
 obtain ⟨b0,T,hb,hi,hT⟩:=hw;intro d
 induction d with
 | zero =>
  intro base top u L h;obtain ⟨h1,xs,h2,a0⟩:=h;rcases own_put h2 hb i hi (.int .i64 x) with ⟨h3,_⟩ | ⟨_,_,h3⟩
  ·exact ⟨h1,_,h3,a0⟩
  exact ⟨h1,_,h3,a0⟩
 | succ d ih =>
  intro base top u L h;obtain ⟨xs,⟨h2,a0⟩,h4⟩:=h;rcases own_put h2 hb i hi (.int .i64 x) with ⟨h3,_⟩ | ⟨e,_,h3⟩
  ·exact ⟨xs,⟨h3,a0⟩,fun j hj=>by
    obtain ⟨a1,⟨u1,D1,b1,c1⟩,⟨u2,D2,b2,c2⟩,⟨u3,b3,c3⟩,u4,b4,c4⟩:=h4 j hj;exact ⟨a1,⟨u1,D1,b1,hE c1⟩,⟨u2,D2,b2,hE c2⟩,⟨u3,b3,ih c3⟩,u4,b4,ih c4⟩⟩
  have c0:¬(i % 11=4∨i % 11=7∨i % 11=9∨i % 11=10):=by
   rcases hT with ⟨h5,_⟩ | ⟨_,h5⟩
   ·rw [← e] at h5;exact absurd h5 (by decide)
   exact h5
  exact ⟨_,⟨h3,a0⟩,fun j hj=>by
   obtain ⟨a1,⟨u1,D1,b1,c1⟩,⟨u2,D2,b2,c2⟩,⟨u3,b3,c3⟩,u4,b4,c4⟩:=h4 j hj;exact ⟨fun q hq=>set_int (a1 q hq),⟨u1,D1,set_off b1 (by omega),hE c1⟩,⟨u2,D2,set_off b2 (by omega),hE c2⟩,⟨u3,set_off b3 (by omega),ih c3⟩,u4,set_off b4 (by omega),ih c4⟩⟩
theorem ShE.keep {w w':World} {base top:Nat} {S:Nat→Prop} (hc:Chg S w w') (hS:∀ q,base≤q→q < w.heap.size→¬S q):∀ {d:Nat} {u:Value} {L:List Ex},ShE w base top d u L→ShE w' base top d u L:=by
 intro d
 induction d with
 | zero =>
  intro u L h;obtain ⟨h1,xs,h2,a0⟩:=h;exact ⟨h1,xs,Ow h2 hc (fun q hq=>hS q (h2.lt q hq).1 (h2.lt q hq).2),a0⟩
 | succ d ih =>
  intro u L h;obtain ⟨xs,⟨h2,a0⟩,h4⟩:=h
  exact ⟨xs,⟨Ow h2 hc (fun q hq=>hS q (h2.lt q hq).1 (h2.lt q hq).2),a0⟩,fun j hj=>by
   obtain ⟨a1,a2,u',a3,a4⟩:=h4 j hj;exact ⟨a1,a2,u',a3,ih a4⟩⟩
theorem ShS.keep {w w':World} {base top:Nat} {S:Nat→Prop} (hc:Chg S w w') (hS:∀ q,base≤q→q < w.heap.size→¬S q):∀ {d:Nat} {u:Value} {L:List St},ShS w base top d u L→ShS w' base top d u L:=by
 intro d
 induction d with
 | zero =>
  intro u L h;obtain ⟨h1,xs,h2,a0⟩:=h;exact ⟨h1,xs,Ow h2 hc (fun q hq=>hS q (h2.lt q hq).1 (h2.lt q hq).2),a0⟩
 | succ d ih =>
  intro u L h;obtain ⟨xs,⟨h2,a0⟩,h4⟩:=h
  exact ⟨xs,⟨Ow h2 hc (fun q hq=>hS q (h2.lt q hq).1 (h2.lt q hq).2),a0⟩,fun j hj=>by
   obtain ⟨a1,⟨u1,D1,b1,c1⟩,⟨u2,D2,b2,c2⟩,⟨u3,b3,c3⟩,u4,b4,c4⟩:=h4 j hj;exact ⟨a1,⟨u1,D1,b1,ShE.keep hc hS c1⟩,⟨u2,D2,b2,ShE.keep hc hS c2⟩,⟨u3,b3,ih c3⟩,u4,b4,ih c4⟩⟩
structure Pr (w w':World):Prop where
 e:∀ {d base top:Nat} {u:Value} {L:List Ex},ShE w base top d u L→ShE w' base top d u L
 s:∀ {d base top:Nat} {u:Value} {L:List St},ShS w base top d u L→ShS w' base top d u L
theorem Pr.refl (w:World):Pr w w:=⟨id,id⟩
theorem Pr.trans {a b c:World} (h:Pr a b) (k:Pr b c):Pr a c:=⟨fun x=>k.e (h.e x),fun x=>k.s (h.s x)⟩
theorem Pr.put {w:World} {b i:Nat} {x:Int} (hw:NumAt w b i):Pr w (w.setCell ⟨b,i,none⟩ (.int .i64 x)):=⟨fun h=>h.put hw,fun h=>h.put hw⟩
theorem Pr.below {w w':World} (h:Below w.heap.size w w'):Pr w w':=⟨fun x=>x.keep (S:=fun _=>False) (Cb h) (fun _ _ _=>id),fun x=>x.keep (S:=fun _=>False) (Cb h) (fun _ _ _=>id)⟩
def szB:Nat→List St→Int
 | 0,L=>L.length
 | 1,L=>L.length
 | d+2,L=>L.length+(L.map (fun s=>szB (d+1) s.body+szB (d+1) s.els)).sum
def szT (d:Nat) (L:List St) (k:Nat):Int:=((L.take k).map (fun s=>szB (d+1) s.body+szB (d+1) s.els)).sum
theorem szT_succ (d:Nat) (L:List St) (k:Nat) (h:k < L.length):szT d L (k+1)=szT d L k+(szB (d+1) L[k].body+szB (d+1) L[k].els):=by
 unfold szT;rw [List.take_succ_eq_append_getElem h,List.map_append,List.sum_append];simp
theorem szB_two (d:Nat) (L:List St):szB (d+2) L=L.length+szT d L L.length:=by
 unfold szT;rw [List.take_of_length_le Lr];rfl
theorem szB_bnd:∀ (d:Nat) (L:List St),0≤szB d L∧szB d L≤stNs L
 | 0,L=>⟨by simp [szB],by have:=stNs_len L;simp [szB];omega⟩
 | 1,L=>⟨by simp [szB],by have:=stNs_len L;simp [szB];omega⟩
 | d+2,L=>by
  have ih:=fun s:St=>Ai (szB_bnd (d+1) s.body) (szB_bnd (d+1) s.els)
  have key:∀ k,k≤L.length→0≤szT d L k∧szT d L k+k≤stNs (L.take k):=by
   intro k
   induction k with
   | zero=>intro _;simp [szT]
   | succ k ihk =>
    intro hk;have h1:=ihk (by omega);have h2:=szT_succ d L k (by omega);have h3:=stNs_take (l:=L) (k:=k) (by omega);have h4:=stN_parts (L[k]'(by omega));have h5:=ih (L[k]'(by omega));omega
  have h:=key L.length Lr;rw [stNs_all] at h;rw [szB_two];omega
theorem szT_bnd (d:Nat) (L:List St) (k:Nat) (hk:k≤L.length):0≤szT d L k∧L.length+szT d L k≤stNs L:=by
 have i1:∀ k,k≤L.length→0≤szT d L k∧szT d L k+k≤stNs (L.take k):=by
  intro k
  induction k with
  | zero=>intro _;simp [szT]
  | succ k ihk =>
   intro hk;have h1:=ihk (by omega);have h2:=szT_succ d L k (by omega);have h3:=stNs_take (l:=L) (k:=k) (by omega);have h4:=stN_parts (L[k]'(by omega));have h5:=Ai (szB_bnd (d+1) (L[k]'(by omega)).body) (szB_bnd (d+1) (L[k]'(by omega)).els);omega
 have h:=i1 k hk;have h2:=stNs_le L k hk;omega
set_option maxHeartbeats 6400000 in
set_option maxRecDepth 100000 in
theorem l2Size_v (A:Nat→Prop):∀ (D d:Nat) (dd:Int) (u:Value) (L:List St) (w:World),dd=(d:Int)→d≤5→BlAt w A D u L→stNs L≤1048576 →
  Calls Tryz.prog 67 #[u,.int .i64 dd] w fun r w'=>r=.returned (.int .i64 (szB d L))∧Below w.heap.size w w':=by
 intro D
 induction D with
 | zero =>
  intro d dd u L w d0 x0 hx hs;have w0:=Bs w;obtain ⟨pu,cu,rfl⟩:=hx.shape
  have hL:L=[]:=by
   obtain ⟨rs,h1,_,_,h4⟩:=hx
   cases L with
   | nil=>rfl
   | cons a l=>exact absurd (h4 0 (by rw [h1];simp) (by simp)) (by simp [StAt])
  subst hL;have hv:szB d []=0:=by match d with | 0=>rfl | 1=>rfl | d+2=>rfl
  rw [hv];clear hx hs hv d0;go_enter Tryz.func67,Tryz.ntmps67
  go_wp2_with fail
  go_loopw [5,6] (fun z i wr=>z=.int .i64 0∧i=.int .i64 0∧wr=w) (fun _ _ _=>0)
  case atStart=>exact ⟨rfl,rfl,rfl⟩
  case round =>
   obtain ⟨rfl,rfl,rfl⟩:=hrel;go_wp2
   go_ret
   exact ⟨rfl,w0⟩
 | succ D IH =>
  intro d dd u L w d0 x0 hx hs;obtain ⟨pu,cu,rfl⟩:=hx.shape;have z0:L.length≤1048576:=by have:=stNs_len L;omega
  have HX:=Hi (fun W (hW:Below w.heap.size w W)=>hx.below hW);have HI:=Hi IH;have HS:=Hi hs;clear hx IH hs;by_cases hd1:2≤d
  ·skip
   obtain ⟨e,rfl⟩:∃ e,d=e+2:=⟨d-2,by omega⟩;have qd:decide ((1:Int) < dd)=true:=decide_eq_true (by omega);have j1:(1:Int) < dd:=by omega
   have y0:dd≤5:=by omega
   have l0:Hid (IntKind.i64.wrap (dd-1)=dd-1):=Hi (by rw [IntKind.wrap_i64];omega);have k0:=Hi d0;clear d0;have HV:=Hi (szB_two e L);have HT:=Hi (szT_succ e L);have j0:=Hi (szT_bnd e L);generalize szB (e+2) L=V at *
   go_enter Tryz.func67,Tryz.ntmps67
   go_wp2_with fail
   go_loopw [5,6] (fun z i wr=>∃ (k:Nat) (y:Int),k≤L.length∧i=.int .i64 k∧z=.int .i64 y∧Hid (y=L.length+szT e L k)∧Below w.heap.size w wr) (fun _ i _=>L.length-(intOf i).toNat)
   case atStart=>exact ⟨0,_,Nat.zero_le _,rfl,rfl,Hi (by simp [szT]),Bs _⟩
   case round =>
    obtain ⟨k,y,hk,rfl,rfl,HY,hB⟩:=hrel;have c0:=Hi hB;clear hB;by_cases hlt:k < L.length
    ·have f0:(k:Int) < (L.length:Int):=by omega
     have n1:0≤y∧y≤1048576:=by have h1:=j0.out k hk;have h2:=HY.out;have h3:=HS.out;omega
     have HN:=Hi (HT.out k hlt);have k1:=Hi (j0.out (k+1) hlt);obtain ⟨kb,ko,l1,m,hp,_,m1,hm,e0⟩:=(HX.out wr c0.out).stmt k hlt;simp only [Value.slice.injEq,true_and] at hp;obtain ⟨rfl,rfl⟩:=hp;have e9:wr.cell? ⟨kb,ko+k*11+9,none⟩=some (.slice m.bp m.bn m.bc):=by have h:=e0 9 (by omega);rw [← Nat.add_assoc] at h;exact h
     have a0:wr.cell? ⟨kb,ko+k*11+10,none⟩=some (.slice m.ep m.en m.ec):=by have h:=e0 10 (by omega);rw [← Nat.add_assoc] at h;exact h
     clear e0;have a1:stN1 L[k]≤1048576:=by have h1:=stNs_at (l:=L) hlt;have h2:=HS.out;omega
     generalize L[k]=x at *
     obtain ⟨xk,xt,xi,xv,xc,body,els⟩:=x;obtain ⟨r1,r2,r3,r4,r5,m0,n0⟩:=hm;clear r1 r2 r3 r4 r5;have h0:stNs body≤1048576∧stNs els≤1048576:=by have h1:=stN_parts (.mk xk xt xi xv xc body els);simp only [St.body,St.els] at h1;omega
     have e1:=szB_bnd (e+1) body;have f1:=szB_bnd (e+1) els;have g1:0≤szB (e+1) body∧szB (e+1) body≤1048576∧0≤szB (e+1) els∧szB (e+1) els≤1048576:=by omega
     clear e1 f1;have q0:=Hi (fun W (hW:Below wr.heap.size wr W)=>HI.out (e+1) (dd-1) _ body W (by have:=k0.out;omega) (by omega) (BlAt.below m0 hW) h0.1);have r0:=Hi (fun W (hW:Below wr.heap.size wr W)=>HI.out (e+1) (dd-1) _ els W (by have:=k0.out;omega) (by omega) (BlAt.below n0 hW) h0.2);clear m0 n0 h0 a1;have s0:Hid (szT e L (k+1)=szT e L k+(szB (e+1) body+szB (e+1) els)):=HN;clear HN;generalize szB (e+1) body=zb at *
     generalize szB (e+1) els=ze at *
     obtain ⟨o1,p1,q1,s1⟩:=g1;go_upto_region 5 with (fail)
     have t1:=Lc e9;refine wp_region_noPanic ?_;refine wp_region_held_drew (S:=(fun W'=>W'.cell? ⟨kb,ko+k*11+9,none⟩=some (.slice m.bp m.bn m.bc)∧W'.cell? ⟨kb,ko+k*11+10,none⟩=some (.slice m.ep m.en m.ec))) (by kernel_rfl) ⟨Kc (Bd (Bs wr)) e9,Kc (Bd (Bs wr)) a0⟩ (fun hHeld=>?_);obtain ⟨w1,i0⟩:∃ X,X=World.drew wr:=⟨_,rfl⟩;rw [← i0] at hHeld ⊢;have hb:Below wr.heap.size wr w1:=by rw [i0];exact Bd (Bs _)
     clear i0;have b1:=hb.size;replace e9:=Kc hb e9;replace a0:=Kc hb a0;have b0:=btr (Bs wr) hb;clear hb;refine (tq 0 19 rfl rfl ?_ ?_ (tq 1 20 rfl rfl ?_ ?_ (tq 2 21 rfl rfl ?_ ?_ (tq 3 22 rfl rfl ?_ ?_ (tq 4 23 rfl rfl ?_ ?_ (tq 5 24 rfl rfl ?_ ?_ (tq 6 25 rfl rfl ?_ ?_ (tq 7 26 rfl rfl ?_ ?_ (tq 10 29 rfl rfl ?_ ?_ (tq 11 30 rfl rfl ?_ ?_ (tq 12 31 rfl rfl ?_ ?_ (tq 13 32 rfl rfl ?_ ?_ (tq 14 33 rfl rfl ?_ ?_ (tq 15 34 rfl rfl ?_ ?_ (tq 16 35 rfl rfl ?_ ?_ ?_)))))))))))))));iterate 15 (rotate_left;intro W' hSw;(try dsimp only at hSw);go_simp;try with_reducible rfl)
     try simp only [Ep]
     refine Rdy 8 rfl (fun K hK=>?_);go_simp
     try rw [l0.out]
     refine (q0.out _ b0).mono ?_;rintro e w2 ⟨rfl,hb⟩;have c1:=hb.size;replace e9:=Kc hb e9;replace a0:=Kc hb a0;replace b0:=btr b0 hb;clear hb;refine hK.out _ _ ⟨e9,a0⟩ (fun hHeld=>?_);clear hK K;try simp only [Ep]
     refine (tq 9 28 rfl rfl ?_ ?_ ?_);(rotate_left;intro W' hSw;(try dsimp only at hSw);go_simp;try with_reducible rfl)
     try simp only [Ep]
     refine Rdy 17 rfl (fun K hK=>?_);go_simp
     try rw [l0.out]
     refine (r0.out _ b0).mono ?_;rintro e w3 ⟨rfl,hb⟩;have d1:=hb.size;replace e9:=Kc hb e9;replace a0:=Kc hb a0;replace b0:=btr b0 hb;clear hb;refine hK.out _ _ ⟨e9,a0⟩ (fun hHeld=>?_);clear hK K;try simp only [Ep]
     refine (tq 18 37 rfl rfl ?_ ?_ (tq 19 5 rfl rfl ?_ ?_ ?_));iterate 2 (rotate_left;intro W' hSw;(try dsimp only at hSw);go_simp;try with_reducible rfl)
     try simp only [Ep]
     refine Dn ?_;clear hHeld;have t0:Hid (IntKind.i64.wrap (IntKind.i64.wrap (y+zb)+ze)=y+zb+ze):=Hi (by rw [IntKind.wrap_i64 (y+zb),IntKind.wrap_i64];omega);have v0:Hid (y+zb+ze=L.length+szT e L (k+1)):=Hi (by rw [s0.out,HY.out];omega);have p0:=Hi (btr c0.out b0);go_wp2
     go_roundw
     case rel=>exact ⟨k+1,y+zb+ze,by omega,by go_num,(by first | rfl | (rw [t0.out]) | go_num),v0,p0.out⟩
     case measure=>simp [intOf];omega
    have f0:decide ((k:Int) < (L.length:Int))=false:=decide_eq_false (by omega);have g0:decide (k < L.length)=false:=decide_eq_false hlt;have HQ:Hid (y=V):=Hi (by rw [HV.out,HY.out,show k=L.length by omega]);have tt:=c0.out;go_wp2
    go_ret
    exact ⟨by rw [HQ.out];rfl,tt⟩
  skip
  have qd:decide ((1:Int) < dd)=false:=decide_eq_false (by omega);have j1:¬(1:Int) < dd:=by omega
  have HV:Hid (szB d L=L.length):=Hi (by match d,hd1 with | 0,_=>rfl | 1,_=>rfl | d+2,h=>omega);generalize szB d L=V at *
  clear d0;go_enter Tryz.func67,Tryz.ntmps67
  go_wp2_with fail
  go_loopw [5,6] (fun z i wr=>∃ (k:Nat) (y:Int),k≤L.length∧i=.int .i64 k∧z=.int .i64 y∧k=0∧Hid (y=L.length)∧Below w.heap.size w wr) (fun _ i _=>L.length-(intOf i).toNat)
  case atStart=>exact ⟨0,_,Nat.zero_le _,rfl,rfl,rfl,Hi rfl,Bs _⟩
  case round =>
   obtain ⟨k,y,hk,rfl,rfl,o0,HY,hB⟩:=hrel;have c0:=Hi hB;clear hB;by_cases hlt:k < L.length
   ·have f0:(k:Int) < (L.length:Int):=by omega
    have HQ:Hid (y=V):=Hi (by rw [HV.out,HY.out]);have tt:=c0.out;clear o0;go_wp2
    go_ret
    exact ⟨by rw [HQ.out];rfl,tt⟩
   have f0:decide ((k:Int) < (L.length:Int))=false:=decide_eq_false (by omega);have g0:decide (k < L.length)=false:=decide_eq_false hlt;have HQ:Hid (y=V):=Hi (by rw [HV.out,HY.out]);clear o0;have tt:=c0.out;go_wp2
   go_ret
   exact ⟨by rw [HQ.out];rfl,tt⟩
end Go.Proofs.YtlckklglbodgbaaGreat
