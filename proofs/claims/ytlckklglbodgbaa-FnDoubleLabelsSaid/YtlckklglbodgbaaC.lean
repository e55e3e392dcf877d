/-
 Parts of the proofs of the laws FnDoubleLabels.
-/
import Derived.Test.YtlckklglbodgbaaProg
import Derived.Test.YtlckklglbodgbaaK
set_option linter.all false
namespace Go.Proofs.Ytlckklglbodgbaa
open Go.RowKit
theorem all_succ {xs:List Int} {k:Nat} {P:(j:Nat)→Int→Prop} (hk:k < xs.length) (h:∀ j (h:j < xs.length),j < k→P j xs[j]) (hx:P k xs[k]):∀ j (h:j < xs.length),j < k+1→P j xs[j]:=by
 intro j hj a0;by_cases e:j=k
 ·subst e;exact hx
 exact h j hj (by omega)
theorem info_int:(Try.prog.info? 3).map (fun i=>(i.zero,i.size,i.bytes))=some (some (.int .i64 0),1,8):=by kernel_rfl
theorem tInts:SliceT Try.prog 23 3 (.int .i64 0) 1 8:=⟨Try.underlying23,info_int,rfl,by omega,by omega⟩
abbrev Ev:=Int × Int
def evs:List Ev→List Value
 | []=>[]
 | e::l=>.int .i64 e.1::.int .i64 e.2::evs l
theorem evs_append (a b:List Ev):evs (a++b)=evs a++evs b:=by
 induction a with
 | nil=>rfl
 | cons e l ih=>simp [evs,ih]
def rows {α:Type} (f:α→List Value):List α→List Value
 | []=>[]
 | e::l=>f e++rows f l
theorem rows_length {α:Type} {f:α→List Value} {sz:Nat} (hf:∀ x,(f x).length=sz) (l:List α):(rows f l).length=l.length*sz:=by
 induction l with
 | nil=>simp [rows]
 | cons e l ih=>simp only [rows,List.length_append,ih,hf,List.length_cons,Nat.add_mul];omega
theorem rows_append {α:Type} (f:α→List Value) (a b:List α):rows f (a++b)=rows f a++rows f b:=by
 induction a with
 | nil=>rfl
 | cons e l ih=>simp [rows,ih]
theorem rows_one {α:Type} (f:α→List Value) (a:α):rows f [a]=f a:=by simp [rows]
theorem rows_get {α:Type} {f:α→List Value} {sz:Nat} (hf:∀ x,(f x).length=sz) (l:List α) (k:Nat) (h:k < l.length) (j:Nat) (hj:j < sz):(rows f l)[k*sz+j]? = (f l[k])[j]?:=by
 induction l generalizing k with
 | nil=>cases h
 | cons e l ih =>
  cases k with
  | zero =>
   simp only [rows,Nat.zero_mul,Nat.zero_add,List.getElem_cons_zero];rw [List.getElem?_append_left (by rw [hf];exact hj)]
  | succ k =>
   have e1:(k+1)*sz+j=sz+(k*sz+j):=by rw [Nat.add_mul];omega
   simp only [rows,List.getElem_cons_succ];rw [List.getElem?_append_right (by rw [hf];omega),hf,e1,Nat.add_sub_cancel_left];exact ih k (by simpa using h)
structure Ins where
 op:Int
 a:Int
 b:Int
 c:Int
 d:Int
deriving DecidableEq
def insc (e:Ins):List Value:=[.int .i64 e.op,.int .i64 e.a,.int .i64 e.b,.int .i64 e.c,.int .i64 e.d]
theorem one_insc (e:Ins):∀ u ∈ insc e,u.oneCell'=true:=by
 intro u hu;simp only [insc,List.mem_cons,List.not_mem_nil,or_false] at hu;rcases hu with rfl | rfl | rfl | rfl | rfl <;> rfl
abbrev inss (l:List Ins):List Value:=rows insc l
theorem reads_row {α:Type} {f:α→List Value} {sz:Nat} (hf:∀ x,(f x).length=sz) {w:World} {b off:Nat} {l:List α} (hc:∀ j (h:j < (rows f l).length),w.cell? ⟨b,off+j,none⟩=some (rows f l)[j]) (k:Nat) (h:k < l.length) (j:Nat) (hj:j < sz) :
  w.cell? ⟨b,off+(k*sz+j),none⟩=(f l[k])[j]?:=by
 have hl:=rows_length hf l
 have a0:k*sz+j < (rows f l).length:=by
  rw [hl];have:(k+1)*sz≤l.length*sz:=Nat.mul_le_mul_right sz h
  rw [Nat.add_mul] at this;omega
 rw [hc _ a0,← rows_get hf l k h j hj,List.getElem?_eq_getElem a0]
inductive Ex where
 | mk (k v:Int) (kids:List Ex)
inductive St where
 | mk (k t:Int) (ix val:Ex) (c:Int) (body els:List St)
def Ex.k:Ex→Int | .mk k _ _=>k
def Ex.v:Ex→Int | .mk _ v _=>v
def Ex.kids:Ex→List Ex | .mk _ _ l=>l
structure En where
 k:Int
 v:Int
 p:Option Addr
 n:Nat
 c:Nat
def En.u (e:En):Value:=.slice e.p e.n e.c
def enc (e:En):List Value:=[.int .i64 e.k,.int .i64 e.v,.slice e.p e.n e.c]
theorem enc_len (e:En):(enc e).length=3:=rfl
theorem one_enc (e:En):∀ u ∈ enc e,u.oneCell'=true:=by
 intro u hu;simp only [enc,List.mem_cons,List.not_mem_nil,or_false] at hu;rcases hu with rfl | rfl | rfl <;> rfl
structure Sn where
 k:Int
 t:Int
 ix:En
 val:En
 c:Int
 bp:Option Addr
 bn:Nat
 bc:Nat
 ep:Option Addr
 en:Nat
 ec:Nat
def snc (s:Sn):List Value:=[.int .i64 s.k,.int .i64 s.t,.int .i64 s.ix.k,.int .i64 s.ix.v,.slice s.ix.p s.ix.n s.ix.c,.int .i64 s.val.k,.int .i64 s.val.v,.slice s.val.p s.val.n s.val.c,.int .i64 s.c,.slice s.bp s.bn s.bc,.slice s.ep s.en s.ec]
theorem snc_len (s:Sn):(snc s).length=11:=rfl
theorem one_snc (s:Sn):∀ u ∈ snc s,u.oneCell'=true:=by
 intro u hu;simp only [snc,List.mem_cons,List.not_mem_nil,or_false] at hu;rcases hu with rfl | rfl | rfl | rfl | rfl | rfl | rfl | rfl | rfl | rfl | rfl <;> rfl
def RowOf {α β:Type} (f:α→List Value) (sz:Nat) (w:World) (B:Nat→Prop) (R:α→β→Prop) (u:Value) (l:List β):Prop:=
 ∃ rs:List α,rs.length=l.length∧Reads w sz u l.length (rows f rs)∧(∀ b o c,0 < l.length→u=.slice (some ⟨b,o,none⟩) l.length c→B b)∧∀ j (h:j < rs.length) (h':j < l.length),R rs[j] l[j]
theorem RowOf.keep {α β:Type} {f:α→List Value} {sz:Nat} {w w':World} {B B':Nat→Prop} {R R':α→β→Prop} {u:Value} {l:List β} (h:RowOf f sz w B R u l) {S:Nat→Prop} (hc:Chg S w w') (hS:∀ q,B q→q < w.heap.size→¬S q) (hB:∀ q,B q→q < w.heap.size→B' q) (hR:∀ a b,R a b→R' a b):RowOf f sz w' B' R' u l:=by
 obtain ⟨rs,h1,h2,h3,h4⟩:=h;exact ⟨rs,h1,h2.keep hc (fun b o c h0 hv=>hS b (h3 b o c h0 hv) (reads_lt h2 b o c h0 hv)),fun b o c h0 hv=>hB b (h3 b o c h0 hv) (reads_lt h2 b o c h0 hv),fun j h h'=>hR _ _ (h4 j h h')⟩
theorem RowOf.nil {α β:Type} {f:α→List Value} {sz:Nat} {w:World} {B:Nat→Prop} {R:α→β→Prop}:RowOf f sz w B R (.slice none 0 0) []:=
 ⟨[],rfl,Ro (base:=0) (e:=0) (World.ownsRow_nil w 0 0 sz) (by simp),(fun b o c h0=>by simp at h0),(fun j h=>by simp at h)⟩
theorem RowOf.shape {α β:Type} {f:α→List Value} {sz:Nat} {w:World} {B:Nat→Prop} {R:α→β→Prop} {u:Value} {l:List β} (h:RowOf f sz w B R u l):∃ a c,u=.slice a l.length c:=by
 obtain ⟨_,_,h,_⟩:=h;exact reads_shape h
theorem RowOf.of_own {α β:Type} {f:α→List Value} {sz:Nat} {w:World} {B:Nat→Prop} {base:Nat} {e:TypeId} {R:α→β→Prop} {u:Value} {l:List β} {rs:List α} (hl:rs.length=l.length) (ho:w.ownsRow base e sz u l.length (rows f rs)) (hn:l.length≤9223372036854775807) (hB:∀ q,base≤q→q < w.heap.size→B q) (hR:∀ j (h:j < rs.length) (h':j < l.length),R rs[j] l[j]):RowOf f sz w B R u l:=
 ⟨rs,hl,Ro ho hn,fun b o c _ hv=>by have:=ho.lt b (by rw [hv];rfl);exact hB b this.1 this.2,hR⟩
theorem rows_push {α β:Type} {R:α→β→Prop} {rs:List α} {l:List β} {a:α} {b:β} (hl:rs.length=l.length) (h:∀ j (h:j < rs.length) (h':j < l.length),R rs[j] l[j]) (hab:R a b):∀ j (h:j < (rs++[a]).length) (h':j < (l++[b]).length),R (rs++[a])[j] (l++[b])[j]:=by
 intro j h1 h2;by_cases hj:j < rs.length
 ·rw [List.getElem_append_left hj,List.getElem_append_left (by omega)];exact h j hj (by omega)
 have a0:j=rs.length:=by simp at h1;omega
 subst a0;rw [List.getElem_append_right Lr,List.getElem_append_right (by omega)];simpa [hl] using hab
def ExAt (w:World) (B:Nat→Prop):Nat→En→Ex→Prop
 | 0,_,_=>False
 | d+1,n,e=>n.k=e.k∧n.v=e.v∧RowOf enc 3 w B (ExAt w B d) n.u e.kids
theorem ExAt.keep {w w':World} {B B':Nat→Prop} {S:Nat→Prop} (hc:Chg S w w') (hS:∀ q,B q→q < w.heap.size→¬S q) (hB:∀ q,B q→q < w.heap.size→B' q):∀ {d d':Nat} {n:En} {e:Ex},d≤d'→ExAt w B d n e→ExAt w' B' d' n e:=by
 intro d
 induction d with
 | zero=>intro d' n e _ h;cases h
 | succ d ih =>
  intro d' n e hd h
  cases d' with
  | zero=>omega
  | succ d' =>
   obtain ⟨h1,h2,h3⟩:=h;exact ⟨h1,h2,h3.keep hc hS hB (fun a b hab=>ih (by omega) hab)⟩
theorem ExAt.below {w w':World} {B:Nat→Prop} {d:Nat} {n:En} {e:Ex} (h:ExAt w B d n e) (hb:Below w.heap.size w w'):ExAt w' B d n e:=ExAt.keep (S:=fun _=>False) (Cb hb) (fun _ _ _=>id) (fun _ h _=>h) Lr h
theorem ExAt.leaf {w:World} {B:Nat→Prop} {d:Nat} (k v:Int):ExAt w B (d+1) ⟨k,v,none,0,0⟩ (.mk k v []):=⟨rfl,rfl,RowOf.nil⟩
theorem ExAt.shape {w:World} {B:Nat→Prop} {d:Nat} {n:En} {e:Ex} (h:ExAt w B d n e):n.k=e.k∧n.v=e.v∧n.n=e.kids.length:=by
 cases d with
 | zero=>cases h
 | succ d =>
  obtain ⟨h1,h2,h3⟩:=h;obtain ⟨a,c,hu⟩:=h3.shape;simp only [En.u,Value.slice.injEq] at hu;exact ⟨h1,h2,hu.2.1⟩
theorem ExAt.kid {w:World} {B:Nat→Prop} {d:Nat} {n:En} {e:Ex} (h:ExAt w B (d+1) n e) (j:Nat) (hj:j < e.kids.length) :
  ∃ b o m,n.p=some ⟨b,o,none⟩∧B b∧b < w.heap.size∧ExAt w B d m e.kids[j]∧w.cell? ⟨b,o+j*3,none⟩=some (.int .i64 m.k)∧w.cell? ⟨b,o+j*3+1,none⟩=some (.int .i64 m.v)∧w.cell? ⟨b,o+j*3+2,none⟩=some (.slice m.p m.n m.c):=by
 obtain ⟨_,_,rs,h1,h2,h3,h4⟩:=h;have d0:=reads_lt h2;obtain ⟨_,_,a,b0,b,a0,hu,_,ha,c0⟩:=h2;obtain ⟨rfl,hb⟩:=ha (by omega);simp only [En.u,Value.slice.injEq] at hu;have g:=fun i hi=>reads_row enc_len c0 j (by omega) i hi
 refine ⟨b,a0,rs[j],hu.1,h3 b a0 b0 (by omega) (by simp only [En.u,hu.1,hu.2.1,hu.2.2]),hb,h4 j (by omega) hj,?_,?_,?_⟩
 ·exact g 0 (by omega)
 ·exact g 1 (by omega)
 exact g 2 (by omega)
theorem ExAt.kidm {w:World} {B:Nat→Prop} {d:Nat} {n:En} {k v:Int} {l:List Ex} (h:ExAt w B (d+1) n (.mk k v l)) (j:Nat) (hj:j < l.length) :
  ∃ b o m,n.p=some ⟨b,o,none⟩∧B b∧b < w.heap.size∧ExAt w B d m l[j]∧w.cell? ⟨b,o+j*3,none⟩=some (.int .i64 m.k)∧w.cell? ⟨b,o+j*3+1,none⟩=some (.int .i64 m.v)∧w.cell? ⟨b,o+j*3+2,none⟩=some (.slice m.p m.n m.c):=h.kid j hj
def StAt (w:World) (B:Nat→Prop):Nat→Sn→St→Prop
 | 0,_,_=>False
 | d+1,n,.mk k t ix val c body els=>n.k=k∧n.t=t∧n.c=c∧(∃ D,ExAt w B D n.ix ix)∧(∃ D,ExAt w B D n.val val)∧RowOf snc 11 w B (StAt w B d) (.slice n.bp n.bn n.bc) body∧RowOf snc 11 w B (StAt w B d) (.slice n.ep n.en n.ec) els
theorem StAt.keep {w w':World} {B B':Nat→Prop} {S:Nat→Prop} (hc:Chg S w w') (hS:∀ q,B q→q < w.heap.size→¬S q) (hB:∀ q,B q→q < w.heap.size→B' q):∀ {d d':Nat} {n:Sn} {s:St},d≤d'→StAt w B d n s→StAt w' B' d' n s:=by
 intro d
 induction d with
 | zero=>intro d' n s _ h;cases h
 | succ d ih =>
  intro d' n s hd h
  cases d' with
  | zero=>omega
  | succ d' =>
   obtain ⟨k,t,ix,c0,c,a0,b0⟩:=s;obtain ⟨h1,h2,h3,⟨D1,h4⟩,⟨D2,h5⟩,h6,h7⟩:=h;exact ⟨h1,h2,h3,⟨D1,ExAt.keep hc hS hB Lr h4⟩,⟨D2,ExAt.keep hc hS hB Lr h5⟩,h6.keep hc hS hB (fun a b hab=>ih (by omega) hab),h7.keep hc hS hB (fun a b hab=>ih (by omega) hab)⟩
def BlAt (w:World) (B:Nat→Prop) (d:Nat) (u:Value) (l:List St):Prop:=RowOf snc 11 w B (StAt w B d) u l
theorem BlAt.keep {w w':World} {B B':Nat→Prop} {d d':Nat} {u:Value} {l:List St} {S:Nat→Prop} (h:BlAt w B d u l) (hc:Chg S w w') (hS:∀ q,B q→q < w.heap.size→¬S q) (hB:∀ q,B q→q < w.heap.size→B' q) (hd:d≤d'):BlAt w' B' d' u l:=RowOf.keep h hc hS hB (fun _ _ hab=>StAt.keep hc hS hB hd hab)
theorem BlAt.below {w w':World} {B:Nat→Prop} {d:Nat} {u:Value} {l:List St} (h:BlAt w B d u l) (hb:Below w.heap.size w w'):BlAt w' B d u l:=h.keep (S:=fun _=>False) (Cb hb) (fun _ _ _=>id) (fun _ h _=>h) Lr
theorem BlAt.stmt {w:World} {B:Nat→Prop} {d:Nat} {u:Value} {l:List St} (h:BlAt w B d u l) (j:Nat) (hj:j < l.length) :
  ∃ b o c m,u=.slice (some ⟨b,o,none⟩) l.length c∧B b∧b < w.heap.size∧StAt w B d m l[j]∧∀ i (_hi:i < 11),w.cell? ⟨b,o+(j*11+i),none⟩=(snc m)[i]?:=by
 obtain ⟨rs,h1,h2,h3,h4⟩:=h;obtain ⟨_,_,a,a0,b,b0,rfl,_,ha,c0⟩:=h2;obtain ⟨rfl,hb⟩:=ha (by omega);refine ⟨b,b0,a0,rs[j],rfl,h3 b b0 a0 (by omega) rfl,hb,h4 j (by omega) hj,fun i hi=>?_⟩;have hl:=rows_length snc_len rs;have hk:j*11+i < (rows snc rs).length:=by omega
 rw [c0 (j*11+i) hk,← rows_get snc_len rs j (by omega) i hi,List.getElem?_eq_getElem hk]
theorem ExAt.kI {w w':World} {lo hi d:Nat} {n:En} {e:Ex} {S:Nat→Prop} (hc:Chg S w w') (hs:∀ q,lo≤q→q < hi→¬S q) (h:ExAt w (fun q=>lo≤q∧q < hi) d n e):ExAt w' (fun q=>lo≤q∧q < hi) d n e:=ExAt.keep hc (fun q hq _=>hs q hq.1 hq.2) (fun _ h _=>h) Lr h
end Go.Proofs.Ytlckklglbodgbaa
