/-
 Parts of the proofs of the laws FnCodeFenced,FnCountBranches.
-/
import Derived.Test.YtkjedgnepnbkpaaY
set_option linter.all false
namespace Go.Proofs.Ytkjedgnepnbkpaa
open Go.RowKit
def L7B (la fa:Option Addr) (q:Nat):Prop:=(Value.slice la 0 0).ownBlock=some q∨(Value.slice fa 0 0).ownBlock=some q
theorem blk_len {a:Option Addr} {n c n' c':Nat}:(Value.slice a n c).ownBlock=(Value.slice a n' c').ownBlock:=by cases a <;> rfl
structure L7 (w:World) (base:Nat) (la fa:Option Addr) (k lc fc:Nat):Prop where
 l:∃ il:List Ins,il.length=k∧w.ownsRow base 32 5 (.slice la k lc) k (inss il)
 f:∃ fl:List Int,fl.length=k∧w.ownsRow base 3 1 (.slice fa k fc) k (ints fl)
section
variable {w w':World} {base:Nat} {la fa:Option Addr} {k lc fc:Nat}
theorem L7.lt (h:L7 w base la fa k lc fc):∀ q,L7B la fa q→base≤q∧q < w.heap.size:=by
 obtain ⟨⟨il,_,h1⟩,⟨fl,_,h2⟩⟩:=h
 rintro q (hq | hq)
 ·exact h1.lt q (by rw [← hq];exact blk_len)
 exact h2.lt q (by rw [← hq];exact blk_len)
theorem L7.keep (h:L7 w base la fa k lc fc) {S:Nat→Prop} (hc:Chg S w w') (hs:∀ q,L7B la fa q→¬S q):L7 w' base la fa k lc fc:=by
 obtain ⟨⟨il,e1,h1⟩,⟨fl,e2,h2⟩⟩:=h
 exact ⟨⟨il,e1,Ow h1 hc (fun q hq=>hs q (Or.inl (by rw [← hq];exact blk_len)))⟩,⟨fl,e2,Ow h2 hc (fun q hq=>hs q (Or.inr (by rw [← hq];exact blk_len)))⟩⟩
theorem L7.below (h:L7 w base la fa k lc fc) (hb:Below w.heap.size w w'):L7 w' base la fa k lc fc:=h.keep (S:=fun _=>False) (Chg.of_below hb) (fun _ _=>id)
theorem L7.nil:L7 w base none none 0 0 0:=⟨⟨[],rfl,World.ownsRow_nil _ _ _ _⟩,⟨[],rfl,World.ownsRow_nil _ _ _ _⟩⟩
end
theorem inss_set (il:List Ins) (t:Nat) (ht:t < il.length) (j:Nat) (hj:j < 5) (v:Int):∃ il':List Ins,il'.length=il.length∧(inss il).set (t*5+j) (.int .i64 v)=inss il':=by
 induction il generalizing t with
 | nil=>simp at ht
 | cons x l ih =>
  have hx:(insc x).length=5:=insc_len x
  cases t with
  | zero =>
   have hc:∃ y:Ins,(insc x).set j (.int .i64 v)=insc y:=by
    have h5:j=0∨j=1∨j=2∨j=3∨j=4:=by omega
    rcases h5 with rfl | rfl | rfl | rfl | rfl
    ·exact ⟨⟨v,x.a,x.b,x.c,x.d⟩,rfl⟩
    ·exact ⟨⟨x.op,v,x.b,x.c,x.d⟩,rfl⟩
    ·exact ⟨⟨x.op,x.a,v,x.c,x.d⟩,rfl⟩
    ·exact ⟨⟨x.op,x.a,x.b,v,x.d⟩,rfl⟩
    exact ⟨⟨x.op,x.a,x.b,x.c,v⟩,rfl⟩
   obtain ⟨y,hy⟩:=hc
   refine ⟨y::l,rfl,?_⟩
   show (insc x++inss l).set (0*5+j) _=insc y++inss l
   rw [Nat.zero_mul,Nat.zero_add,List.set_append_left _ _ (by omega),hy]
  | succ t =>
   obtain ⟨l',h1,h2⟩:=ih t (by simp at ht;omega)
   refine ⟨x::l',by simp [h1],?_⟩
   show (insc x++inss l).set ((t+1)*5+j) _=insc x++inss l'
   rw [List.set_append_right _ _ (by omega),hx,show (t+1)*5+j-5=t*5+j from by omega,h2]
theorem L7.at {w:World} {base:Nat} {fa:Option Addr} {g k lc fc:Nat} (h:L7 w base (some ⟨g,0,none⟩) fa k lc fc) (t j:Nat) (ht:t < k) (hj:j < 5):(∃ x:Int,w.cell? ⟨g,t*5+j,none⟩=some (.int .i64 x))∧w.frozen? ⟨g,t*5+j,none⟩=false:=by
 obtain ⟨⟨il,hl,h1⟩,_⟩:=h
 refine ⟨?_,h1.frozenAt _⟩
 have a0:t < il.length:=by omega
 have hh:=h1.cellAt (t*5+j) (by omega)
 rw [rows_get insc_len il t a0 j hj] at hh
 have h5:j=0∨j=1∨j=2∨j=3∨j=4:=by omega
 rcases h5 with rfl | rfl | rfl | rfl | rfl <;> exact ⟨_,hh⟩
theorem L7.put {w:World} {base:Nat} {fa:Option Addr} {g k lc fc:Nat} (h:L7 w base (some ⟨g,0,none⟩) fa k lc fc) (t j:Nat) (ht:t < k) (hj:j < 5) (v:Int):L7 (w.setCell ⟨g,t*5+j,none⟩ (.int .i64 v)) base (some ⟨g,0,none⟩) fa k lc fc:=by
 obtain ⟨⟨il,hl,h1⟩,⟨fl,hf,h2⟩⟩:=h
 obtain ⟨il',e1,e2⟩:=inss_set il t (by omega) j hj v
 have hs:=(h1.stored (t*5+j) (.int .i64 v)).1
 rw [e2] at hs
 exact ⟨⟨il',by omega,hs⟩,⟨fl,hf,Oe h2 g _ (fun hq=>own_diff h1 h2 (by decide) g rfl hq) _⟩⟩
end Go.Proofs.Ytkjedgnepnbkpaa
namespace Go.Proofs.Ytkjedgnepnbkpaa
open Go.RowKit
structure RowI (w:World) (b n:Nat):Prop where
 h:∃ xs:List Int,xs.length=n∧Bk w b (ints xs)
section
variable {w w':World} {b n:Nat}
theorem RowI.of {xs:List Int} (h:Bk w b (ints xs)) (hn:xs.length=n):RowI w b n:=⟨xs,hn,h⟩
theorem RowI.keep (h:RowI w b n) {S:Nat→Prop} (hc:Chg S w w') (hs:¬S b):RowI w' b n:=by
 obtain ⟨xs,h1,h2⟩:=h.h;exact ⟨xs,h1,h2.keep hc hs⟩
theorem RowI.below (h:RowI w b n) (hb:Below w.heap.size w w'):RowI w' b n:=by
 obtain ⟨xs,h1,h2⟩:=h.h;exact ⟨xs,h1,h2.below hb⟩
theorem RowI.put (h:RowI w b n) (k:Nat) (v:Int):RowI (w.setCell ⟨b,k,none⟩ (.int .i64 v)) b n:=by
 obtain ⟨xs,h1,h2⟩:=h.h
 refine ⟨xs.set k v,by rw [List.length_set];exact h1,?_⟩
 have:=h2.at k (.int .i64 v)
 rwa [show (ints xs).set k (.int .i64 v)=ints (xs.set k v) from by simp [ints,List.map_set]] at this
theorem RowI.at (h:RowI w b n) (k:Nat) (hk:k < n):∃ x:Int,w.cell? ⟨b,k,none⟩=some (.int .i64 x)∧w.frozen? ⟨b,k,none⟩=false:=by
 obtain ⟨xs,h1,h2⟩:=h.h
 have a0:k < xs.length:=by omega
 exact ⟨xs[k],h2.cell k (by simp [ints,a0]),h2.froz k (by simp [ints];exact a0)⟩
theorem RowI.lt (h:RowI w b n) (hn:0 < n):b < w.heap.size:=by
 obtain ⟨x,hx,_⟩:=h.at 0 hn;exact Lc hx
end
structure DrawC (w:World) (base:Nat) (va vb vl:Value) (nv na n:Nat):Prop where
 h:∃ c:Cd,c.vars.length=nv∧c.arrays.length=na∧c.list.length=n∧OwnC w base va vb vl c
section
variable {w w':World} {base base':Nat} {va vb vl:Value} {nv na n:Nat}
theorem DrawC.lt (h:DrawC w base va vb vl nv na n):∀ q,OwnB va vb vl q→base≤q∧q < w.heap.size:=by
 obtain ⟨c,_,_,_,h⟩:=h.h;exact h.lt
theorem DrawC.keep (h:DrawC w base va vb vl nv na n) {S:Nat→Prop} (hc:Chg S w w') (hs:∀ q,OwnB va vb vl q→¬S q):DrawC w' base va vb vl nv na n:=by
 obtain ⟨c,h1,h2,h3,h⟩:=h.h;exact ⟨c,h1,h2,h3,h.keep hc hs⟩
theorem DrawC.below (h:DrawC w base va vb vl nv na n) (hb:Below w.heap.size w w'):DrawC w' base va vb vl nv na n:=by
 obtain ⟨c,h1,h2,h3,h⟩:=h.h;exact ⟨c,h1,h2,h3,h.below hb⟩
theorem DrawC.mono (h:DrawC w base va vb vl nv na n) (hb:base'≤base):DrawC w base' va vb vl nv na n:=by
 obtain ⟨c,h1,h2,h3,h⟩:=h.h;exact ⟨c,h1,h2,h3,h.mono hb⟩
theorem DrawC.shape (h:DrawC w base va vb vl nv na n):∃ a0 c0 a1 c1 a2 c2,va=.slice a0 nv c0∧vb=.slice a1 na c1∧vl=.slice a2 n c2:=by
 obtain ⟨c,rfl,rfl,rfl,h'⟩:=h.h;exact h'.shape
theorem DrawC.reads (h:DrawC w base va vb vl nv na n) (h0:nv≤1048576) (h1:na≤1048576) (h2:n≤1048576):∃ c:Cd,c.vars.length=nv∧c.arrays.length=na∧c.list.length=n∧ReadsC w va vb vl c:=by
 obtain ⟨c,rfl,rfl,rfl,h'⟩:=h.h;exact ⟨c,rfl,rfl,rfl,h'.reads (by omega) (by omega) (by omega)⟩
theorem DrawC.pos {a:Option Addr} {cl:Nat} (h:DrawC w base va vb (.slice a n cl) nv na n) (hn:0 < n):∃ g,a=some ⟨g,0,none⟩:=by
 obtain ⟨c,_,_,h3,h⟩:=h.h
 rcases h.l.2 with ⟨_,h'⟩ | ⟨g,cap,_,h',_⟩
 ·omega
 simp only [Value.slice.injEq] at h';exact ⟨g,h'.1⟩
theorem DrawC.at {g cl:Nat} (h:DrawC w base va vb (.slice (some ⟨g,0,none⟩) n cl) nv na n) (t j:Nat) (ht:t < n) (hj:j < 5):(∃ x:Int,w.cell? ⟨g,t*5+j,none⟩=some (.int .i64 x))∧w.frozen? ⟨g,t*5+j,none⟩=false:=by
 obtain ⟨c,_,_,rfl,h'⟩:=h.h
 refine ⟨?_,h'.l.frozenAt _⟩
 have a0:t < c.list.length:=ht
 have hh:=h'.l.cellAt (t*5+j) (by omega)
 rw [inss,rows_get insc_len c.list t a0 j hj] at hh
 have h5:j=0∨j=1∨j=2∨j=3∨j=4:=by omega
 rcases h5 with rfl | rfl | rfl | rfl | rfl <;> exact ⟨_,hh⟩
theorem DrawC.put {g cl:Nat} (h:DrawC w base va vb (.slice (some ⟨g,0,none⟩) n cl) nv na n) (t j:Nat) (ht:t < n) (hj:j < 5) (v:Int):DrawC (w.setCell ⟨g,t*5+j,none⟩ (.int .i64 v)) base va vb (.slice (some ⟨g,0,none⟩) n cl) nv na n:=by
 obtain ⟨c,h1,h2,rfl,h'⟩:=h.h
 obtain ⟨il',e1,e2⟩:=inss_set c.list t ht j hj v
 have hs:=(h'.l.stored (t*5+j) (.int .i64 v)).1
 rw [e2] at hs
 have hd:∀ u:Value,∀ xs m,w.ownsRow base 3 1 u m xs→¬u.ownBlock=some g:=fun u xs m hu hq=>own_diff h'.l hu (by decide) g rfl hq
 exact ⟨⟨c.vars,c.arrays,il'⟩,h1,h2,e1,Oe h'.a g _ (hd _ _ _ h'.a) _,Oe h'.b g _ (hd _ _ _ h'.b) _,by simpa only [e1] using hs,h'.ab⟩
end
structure HeadD (w:World) (base:Nat) (va vb:Value) (nv na:Nat):Prop where
 h:∃ us ys:List Int,us.length=nv∧ys.length=na∧w.ownsRow base 3 1 va us.length (ints us)∧w.ownsRow base 3 1 vb ys.length (ints ys)∧∀ q,va.ownBlock=some q→vb.ownBlock=some q→False
section
variable {w w':World} {base base':Nat} {va vb vl:Value} {nv na n:Nat}
theorem HeadD.lt (h:HeadD w base va vb nv na):∀ q,(va.ownBlock=some q∨vb.ownBlock=some q)→base≤q∧q < w.heap.size:=by
 obtain ⟨us,ys,_,_,h1,h2,_⟩:=h.h
 rintro q (hq | hq)
 ·exact h1.lt q hq
 exact h2.lt q hq
theorem HeadD.keep (h:HeadD w base va vb nv na) {S:Nat→Prop} (hc:Chg S w w') (hs:∀ q,(va.ownBlock=some q∨vb.ownBlock=some q)→¬S q):HeadD w' base va vb nv na:=by
 obtain ⟨us,ys,e1,e2,h1,h2,h3⟩:=h.h
 exact ⟨us,ys,e1,e2,Ow h1 hc (fun q hq=>hs q (Or.inl hq)),Ow h2 hc (fun q hq=>hs q (Or.inr hq)),h3⟩
theorem HeadD.below (h:HeadD w base va vb nv na) (hb:Below w.heap.size w w'):HeadD w' base va vb nv na:=h.keep (S:=fun _=>False) (Chg.of_below hb) (fun _ _=>id)
theorem HeadD.mono (h:HeadD w base va vb nv na) (hb:base'≤base):HeadD w base' va vb nv na:=by
 obtain ⟨us,ys,e1,e2,h1,h2,h3⟩:=h.h
 exact ⟨us,ys,e1,e2,Om h1 hb,Om h2 hb,h3⟩
theorem HeadD.of {us ys:List Int} (h1:w.ownsRow base 3 1 va us.length (ints us)) (h2:w.ownsRow base 3 1 vb ys.length (ints ys)) (h3:∀ q,va.ownBlock=some q→¬vb.ownBlock=some q):HeadD w base va vb us.length ys.length:=⟨us,ys,rfl,rfl,h1,h2,h3⟩
theorem HeadD.code (h:HeadD w base va vb nv na) {xs:List Ins} (hx:xs.length=n) (hl:w.ownsRow base 32 5 vl n (inss xs)):DrawC w base va vb vl nv na n:=by
 obtain ⟨us,ys,e1,e2,h1,h2,h3⟩:=h.h
 subst hx
 exact ⟨⟨us,ys,xs⟩,e1,e2,rfl,⟨h1,h2,hl,h3⟩⟩
end
theorem DrawC.of {w:World} {base:Nat} {va vb vl:Value} {c:Cd} (h:OwnC w base va vb vl c):DrawC w base va vb vl c.vars.length c.arrays.length c.list.length:=⟨c,rfl,rfl,rfl,h⟩
end Go.Proofs.Ytkjedgnepnbkpaa
