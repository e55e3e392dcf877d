/-
  Parts of the proofs of the laws FnExactProductProgram.
-/
import Derived.BigQuiet
import Derived.Deep.Cut
import Derived.Deep.DeepCutAuto
import Derived.Deep.DeepFit
import Derived.Deep.DeepMust
import Derived.Deep.LoopGhost
import Derived.Deep.QuietTactic
import Derived.Deep.RegionHeld3
import Derived.Deep.RegionLaw
import Derived.Deep.RegionWith
import Derived.IntWalk
import Derived.JoinedCond
import Derived.Lib.Hide
import Derived.OpenShut
import Derived.Outline
import Derived.ProofKit
import Derived.StillTailTactics
import Derived.WalkKit
import Derived.WalkLawsBesides
import Derived.WalkSpells
set_option linter.all false
namespace Go.Proofs.Ytlckklglbodgbaa
open Go.RowKit
theorem Hi {p:Prop} (h:p):Hid p:=Lib.hid h
theorem Si {α:Type} {a b:α} (h:some a=some b):a=b:=Option.some.inj h
theorem Lr {n:Nat}:n≤n:=Nat.le_refl n
theorem Ai {p q:Prop} (h:p) (k:q):p∧q:=And.intro h k
theorem Bd {B:Nat} {a w:World} (h:Below B a w):Below B a w.drew:=Below.drew h
def ints (xs:List Int):List Value:=xs.map (Value.int .i64)
theorem ints_length (xs:List Int):(ints xs).length=xs.length:=by simp [ints]
theorem ints_get (xs:List Int) (j:Nat) (h:j < (ints xs).length):(ints xs)[j]=.int .i64 (xs[j]'(by simpa [ints] using h)):=by simp [ints]
theorem ints_append (a b:List Int):ints (a++b)=ints a++ints b:=by simp [ints]
def Reads (w:World) (sz:Nat) (v:Value) (n:Nat) (vs:List Value):Prop:=
  vs.length=n*sz∧n≤9223372036854775807∧∃ a cap b off,v=.slice a n cap∧(n≤cap∧(a=none→cap=0))∧(0 < n→a=some ⟨b,off,none⟩∧b < w.heap.size)∧∀ j (h:j < vs.length),w.cell? ⟨b,off+j,none⟩=some vs[j]
structure Chg (S:Nat→Prop) (w w':World):Prop where
  os:w'.os=w.os
  tape:w'.tape=w.tape
  output:w'.output=w.output
  size:w.heap.size≤w'.heap.size
  block:∀ k,k < w.heap.size→¬S k→w'.heap[k]? = w.heap[k]?
theorem Chg.refl (S) (w:World):Chg S w w:=⟨rfl,rfl,rfl,Lr,fun _ _ _=>rfl⟩
theorem Chg.trans {S} {a b c:World} (h:Chg S a b) (k:Chg S b c):Chg S a c:=
  ⟨k.os.trans h.os,k.tape.trans h.tape,k.output.trans h.output,Nat.le_trans h.size k.size,
   fun i hi hs=>(k.block i (Nat.lt_of_lt_of_le hi h.size) hs).trans (h.block i hi hs)⟩
theorem Chg.mono {S T:Nat→Prop} {w w':World} (h:Chg S w w') (hst:∀ k,k < w.heap.size→S k→T k):Chg T w w':=
  ⟨h.os,h.tape,h.output,h.size,fun k hk hn=>h.block k hk (fun hs=>hn (hst k hk hs))⟩
theorem Chg.of_below {S:Nat→Prop} {w w':World} (h:Below w.heap.size w w'):Chg S w w':=⟨h.os,h.tape,h.output,h.size,fun k hk _=>h.block k hk⟩
theorem Cb {S:Nat→Prop} {w w':World} (h:Below w.heap.size w w'):Chg S w w':=Chg.of_below h
theorem Chg.below {S:Nat→Prop} {w w':World} (h:Chg S w w') (B:Nat) (hB:B≤w.heap.size) (hs:∀ k,k < B→¬S k):Below B w w':=
  ⟨h.os,h.tape,h.output,h.size,fun k hk=>h.block k (by omega) (hs k hk)⟩
theorem Chg.of_grown {w w':World} {row:Option Nat} (h:w.grownBy w' row):Chg (fun k=>some k=row) w w':=
  ⟨h.os,h.tape,h.output,h.size,fun k hk hn=>h.block k hk hn⟩
theorem below_drewN' (w:World) (n:Nat):Below w.heap.size w (w.drewN n):=below_drewN (Below.refl _ _) n
theorem Reads.keep {w w':World} {sz n:Nat} {v:Value} {vs:List Value} (h:Reads w sz v n vs) {S:Nat→Prop} (hc:Chg S w w') (hs:∀ b off cap,0 < n→v=.slice (some ⟨b,off,none⟩) n cap→¬S b):Reads w' sz v n vs:=by
  obtain ⟨h1,h2,a,cap,b,off,hv,b0,ha,a0⟩:=h;refine ⟨h1,h2,a,cap,b,off,hv,b0,fun h0=>⟨(ha h0).1,Nat.lt_of_lt_of_le (ha h0).2 hc.size⟩,fun j hj=>?_⟩
  have h0:0 < n:=by
    rcases Nat.eq_zero_or_pos n with h | h
    · subst h;omega
    exact h
  have ha':=ha h0;rw [← a0 j hj];exact World.cell?_of_block (w:=w) (hc.block b ha'.2 (hs b off cap h0 (by rw [hv,ha'.1])))
theorem Reads.below {w w':World} {sz n:Nat} {v:Value} {vs:List Value} (h:Reads w sz v n vs) (hb:Below w.heap.size w w'):Reads w' sz v n vs:=
  h.keep (S:=fun _=>False) (Cb hb) (fun _ _ _ _ _=>id)
theorem Reads.drewN {w:World} {sz n:Nat} {v:Value} {vs:List Value} (h:Reads w sz v n vs) (k:Nat):Reads (w.drewN k) sz v n vs:=h.below (below_drewN' w k)
theorem reads_lt {w:World} {sz n:Nat} {v:Value} {vs:List Value} (h:Reads w sz v n vs):∀ b o c,0 < n→v=.slice (some ⟨b,o,none⟩) n c→b < w.heap.size:=by
  intro b o c h0 hv;obtain ⟨_,_,a,a0,b',b0,rfl,_,ha,_⟩:=h;obtain ⟨rfl,hb⟩:=ha h0;simp only [Value.slice.injEq,Option.some.injEq,Addr.mk.injEq] at hv;rw [← hv.1.1];exact hb
theorem Reads.len {w:World} {sz n:Nat} {v:Value} {vs:List Value} (h:Reads w sz v n vs):vs.length=n*sz:=h.1
theorem Ro {w:World} {base:Nat} {e:TypeId} {sz:Nat} {v:Value} {n:Nat} {vs:List Value} (h:w.ownsRow base e sz v n vs) (hn:n≤9223372036854775807):Reads w sz v n vs:=by
  obtain ⟨h1,h2⟩:=h;refine ⟨h1,hn,?_⟩;rcases h2 with ⟨rfl,rfl⟩ | ⟨g,cap,cur,rfl,hb,hg,hn1,hn2,hs,ht⟩
  · exact ⟨none,0,0,0,rfl,⟨Lr,fun _=>rfl⟩,fun h=>absurd h (by omega),fun j hj=>absurd hj (by simp at h1;simp [h1])⟩
  refine ⟨_,cap,g,0,rfl,⟨hn1,fun h=>by cases h⟩,fun _=>⟨rfl,(Array.getElem?_eq_some_iff.1 hg).1⟩,fun j hj=>?_⟩;rw [Nat.zero_add,cell_of_row w g j cur e (0,0) hg];subst ht;have hj':j < n*sz:=by simp at hj;omega
  simp [List.getElem_take]
structure SliceT (P:Program) (t e:TypeId) (z:Value) (size bytes:Nat):Prop where
  under:P.underlying t=some (.slice e)
  info:(P.info? e).map (fun i=>(i.zero,i.size,i.bytes))=some (some z,size,bytes)
  zsize:z.cells.size=size
  pos:0 < size
  small:bytes≤4096
theorem addr_add (b off j:Nat):(⟨b,off,none⟩:Addr).add j=⟨b,off+j,none⟩:=by unfold Addr.add;split <;> simp_all
def NewOr (w:World) (v v':Value):Prop:=v'.ownBlock=v.ownBlock∨∃ g,v'.ownBlock=some g∧w.heap.size≤g
theorem run_ap {P:Program} {t e:TypeId} {z:Value} {size bytes:Nat} (T:SliceT P t e z size bytes) (ty:TypeId) (w:World) (base:Nat) (v:Value) (n:Nat) (xs:List Value) (hown:w.ownsRow base e size v n xs)
    (sv:Value) (m:Nat) (news:List Value) (hsrc:Reads w size sv m news) (h1:∀ u ∈ news,u.oneCell'=true) (hn:n+m≤4294967296) (hbase:base≤w.heap.size) :
    ∃ v' w',(Builtin.append_ #[t,t] ty #[v,sv]).run P w=.ok v' w'∧w'.ownsRow base e size v' (n+m) (xs++news)∧Chg (fun k=>v.ownBlock=some k) w w'∧NewOr w v v'∧(v'=.slice none 0 0 ↔ v=.slice none 0 0∧m=0):=by
  obtain ⟨i,hi,m0,o0,p0⟩:=info_parts T.info
  have k0:(n+m)*bytes≤140737488355328:=by
    have:=T.small
    calc (n+m)*bytes≤4294967296*4096:=Nat.mul_le_mul (by omega) this
      _≤_:=by omega
  have q0:=T.zsize;have t0:=T.pos;have ht:=T.under;subst o0;subst p0;obtain ⟨hl,_,a,c,b,h0,rfl,⟨s0,r0⟩,ha,d0⟩:=hsrc;by_cases hm:m=0
  · subst hm
    have i0:news=[]:=List.eq_nil_of_length_eq_zero (by simpa using hl);subst i0;refine ⟨v,w,?_,by simpa using hown,Chg.refl _ _,Or.inl rfl,by simp⟩;rcases hown.2 with ⟨rfl,rfl⟩ | ⟨g,cap,cur,rfl,_,_,hnc,_⟩
    · cases a with
      | none=>simp [Builtin.append_,run_underlying ht,sizeOf,typeInfo,hi,Builtin.lenOf,Builtin.firstCells]
      | some a=>simp [Builtin.append_,run_underlying ht,sizeOf,typeInfo,hi,Builtin.lenOf,Builtin.firstCells,loadCells,loadCellsFrom]
    cases a with
    | none=>simp [Builtin.append_,run_underlying ht,sizeOf,typeInfo,hi,Builtin.lenOf,Builtin.firstCells,hnc,storeCells]
    | some a=>simp [Builtin.append_,run_underlying ht,sizeOf,typeInfo,hi,Builtin.lenOf,Builtin.firstCells,hnc,storeCells,loadCells,loadCellsFrom]
  obtain ⟨rfl,hb⟩:=ha (by omega)
  have a0:∀ j u,news[j]? = some u→w.cell? ((⟨b,h0,none⟩:Addr).add j)=some u:=by
    intro j u hu;obtain ⟨hj,rfl⟩:=List.getElem?_eq_some_iff.1 hu;rw [addr_add];exact d0 j hj
  have e0:(xs++news).length=(n+m)*i.size:=by rw [List.length_append,hown.1,hl,Nat.add_mul]
  have b0:∀ (c0:Nat),
      (w.drew.alloc (.cells (xs.toArray++news.toArray++Builtin.zeroCells z.cells (grownCap w (n+m) c0 e-(n+m))) e)).ownsRow base e i.size
        (.slice (some ⟨w.heap.size,0,none⟩) (n+m) (grownCap w (n+m) c0 e)) (n+m) (xs++news):=by
    intro c0;have n0:=grownCap_ge w (n+m) c0 e;have l0:grownCap w (n+m) c0 e≤maxLen:=grownCap_le_maxLen w (n+m) c0 e (by unfold maxLen;omega);refine ⟨e0,.inr ⟨w.heap.size,_,_,rfl,hbase,heap_alloc_new w.drew _,n0,l0,?_,?_⟩⟩
    · simp only [Array.size_append,List.size_toArray,size_zeroCells,q0,hown.1,hl,← Nat.add_mul]
      congr 1;omega
    simp only [Array.toList_append,List.append_assoc];rw [← List.append_assoc,← e0];exact List.take_left
  have j0:∀ (S:Nat→Prop) (o:Obj),Chg S w (w.drew.alloc o):=fun S o=>⟨rfl,rfl,rfl,by simp,fun k hk _=>heap_alloc_old w.drew o hk⟩
  rcases hown.2 with ⟨rfl,rfl⟩ | ⟨g,cap,cur,rfl,hbg,hg,hnc,l0,hcs,htake⟩
  · have hx:xs=[]:=List.eq_nil_of_length_eq_zero (by simpa using hown.1)
    subst hx;have hr:=run_append_nil (P:=P) w t ty e i z ht hi m0 ⟨b,h0,none⟩ m c news hl a0 (by omega) (by omega) (by have hb:=k0;simp only [Nat.zero_add] at hb;omega);have g0:=b0 0;simp only [Nat.zero_add,List.nil_append,Array.empty_append] at g0 ⊢;exact ⟨_,_,hr,g0,j0 _ _,Or.inr ⟨_,rfl,Lr⟩,by simp [hm]⟩
  by_cases hroom:n+m≤cap
  · obtain ⟨w',hr,ho,g0⟩:=run_append_fits (P:=P) w base t ty e i i.size ht hi rfl g n cap xs hown ⟨b,h0,none⟩ m c news hl a0 h1 hroom
    exact ⟨_,_,hr,ho,(Chg.of_grown g0).mono (fun k _ hk=>hk.symm),Or.inl rfl,by simp⟩
  have f0:∀ j u,xs[j]? = some u→w.cell? ((⟨g,0,none⟩:Addr).add j)=some u:=hown.cells (g:=g) rfl;have hr:=run_append_grow (P:=P) w t ty e i z ht hi m0 ⟨g,0,none⟩ n cap xs hown.1 f0 ⟨b,h0,none⟩ m c news hl a0 (by omega) (by omega) (growslice_fits (by omega) k0);exact ⟨_,_,hr,b0 cap,j0 _ _,Or.inr ⟨_,rfl,Lr⟩,by simp⟩
theorem wpList_aps {P:Program} {t e:TypeId} {z:Value} {size bytes:Nat} (T:SliceT P t e z size bytes) {ops:Array Oper} {rest:List Oper} {o:Oper} {a:Act} {Q:Exit→Act→World→Prop} {w:World}
    (hgd:o.guard=none) (s x:Operand) (ho:o.op=.call { callee:=.builtin .append,args:=#[s,x],argTypes:=#[t,t] })
    (base:Nat) (v:Value) (n:Nat) (xs:List Value) (hs:a.eval s=v) (hown:w.ownsRow base e size v n xs)
    (sv:Value) (m:Nat) (news:List Value) (hx:a.eval x=sv) (hsrc:Reads w size sv m news) (h1:∀ u ∈ news,u.oneCell'=true) (hn:n+m≤4294967296) (hbase:base≤w.heap.size)
    (h:∀ v' w',w'.ownsRow base e size v' (n+m) (xs++news)→Chg (fun k=>v.ownBlock=some k) w w'→NewOr w v v'→(v'=.slice none 0 0 ↔ v=.slice none 0 0∧m=0)→wpList P ops Q rest (a.put o.dst v') w') :
    wpList P ops Q (o::rest) a w:=by
  obtain ⟨v',w',hr,h2,h3,h4,h5⟩:=run_ap T o.type w base v n xs hown sv m news hsrc h1 hn hbase;refine wpList_plain hgd fun K hK=>?_
  unfold Oper.wp execOp
  simp only [ho,resolve,invoke,builtin,Sem.run_bind,Sem.run_pure,Result.andThen_ok,List.map_toArray,List.map_cons,List.map_nil,hs,hx,hr];exact hK _ _ (h v' w' h2 h3 h4 h5)
theorem step_aps {P:Program} {t e:TypeId} {z:Value} {size bytes:Nat} (T:SliceT P t e z size bytes) {ops:Array Oper} {o:Oper} {a:Act} {w:World} {K:Act→World→Prop} {Q:Exit→Act→World→Prop} {E:Prop}
    (hgd:o.guard=none) (s x:Operand) (ho:o.op=.call { callee:=.builtin .append,args:=#[s,x],argTypes:=#[t,t] })
    (base:Nat) (v:Value) (n:Nat) (xs:List Value) (hs:a.eval s=v) (hown:w.ownsRow base e size v n xs)
    (sv:Value) (m:Nat) (news:List Value) (hx:a.eval x=sv) (hsrc:Reads w size sv m news) (h1:∀ u ∈ news,u.oneCell'=true) (hn:n+m≤4294967296) (hbase:base≤w.heap.size)
    (h:∀ v' w',w'.ownsRow base e size v' (n+m) (xs++news)→Chg (fun k=>v.ownBlock=some k) w w'→NewOr w v v'→(v'=.slice none 0 0 ↔ v=.slice none 0 0∧m=0)→K (a.put o.dst v') w') :
    if Region.wanted o (yielded ops a.tmps)=true then Oper.wp P o a w K Q else E:=by
  have hw:Region.wanted o (yielded ops a.tmps)=true:=by simp [Region.wanted,hgd]
  rw [if_pos hw];obtain ⟨v',w',hr,h2,h3,h4,h5⟩:=run_ap T o.type w base v n xs hown sv m news hsrc h1 hn hbase;unfold Oper.wp execOp
  simp only [ho,resolve,invoke,builtin,Sem.run_bind,Sem.run_pure,Result.andThen_ok,List.map_toArray,List.map_cons,List.map_nil,hs,hx,hr];exact h v' w' h2 h3 h4 h5
theorem Chg.cell {S:Nat→Prop} {w w':World} (h:Chg S w w') {b:Nat} (j:Nat) (hb:b < w.heap.size) (hs:¬S b):w'.cell? ⟨b,j,none⟩=w.cell? ⟨b,j,none⟩:=World.cell?_of_block (w:=w) (h.block b hb hs)
theorem Chg.frozen {S:Nat→Prop} {w w':World} (h:Chg S w w') {b:Nat} (j:Nat) (hb:b < w.heap.size) (hs:¬S b):w'.frozen? ⟨b,j,none⟩=w.frozen? ⟨b,j,none⟩:=World.frozen?_of_block (w:=w) (h.block b hb hs)
theorem Chg.setCell {S:Nat→Prop} {w w':World} (h:Chg S w w') (b j:Nat) (u:Value) (hs:b < w.heap.size→S b):Chg S w (w'.setCell ⟨b,j,none⟩ u):=
  ⟨h.os,h.tape,h.output,by simpa [World.setCell] using h.size,fun k hk hn=>(Below.heap_setCell _ _ _ _ (fun e=>hn (by simp at e;subst e;exact hs hk))).trans (h.block k hk hn)⟩
theorem not_own {w:World} {base:Nat} {e:TypeId} {size:Nat} {v:Value} {n:Nat} {xs:List Value} (h:w.ownsRow base e size v n xs) {k:Nat} (hk:k < base):¬v.ownBlock=some k:=by
  intro hv;have:=h.lt k hv;omega
theorem Lc {w:World} {b j:Nat} {v:Value} (h:w.cell? ⟨b,j,none⟩=some v):b < w.heap.size:=World.block_lt_of_cell? w ⟨b,j,none⟩ h
theorem Ow {w w':World} {base:Nat} {e:TypeId} {size:Nat} {v:Value} {n:Nat} {xs:List Value} (h:w.ownsRow base e size v n xs) {S:Nat→Prop} (hc:Chg S w w') (hs:∀ k,v.ownBlock=some k→¬S k):w'.ownsRow base e size v n xs:=by
  refine ⟨h.1,?_⟩;rcases h.2 with hn | ⟨g,cap,cur,rfl,hb,hgg,rest⟩
  · exact .inl hn
  exact .inr ⟨g,cap,cur,rfl,hb,(hc.block g (Array.getElem?_eq_some_iff.1 hgg).1 (hs g rfl)).trans hgg,rest⟩
theorem Ob {w w':World} {base:Nat} {e:TypeId} {size:Nat} {v:Value} {n:Nat} {xs:List Value} (h:w.ownsRow base e size v n xs) (hb:Below w.heap.size w w'):w'.ownsRow base e size v n xs:=
  Ow h (S:=fun _=>False) (Cb hb) (fun _ _=>id)
theorem bal {a w:World} (h:Below a.heap.size a w) (o:Obj):Below a.heap.size a (w.alloc o):=h.alloc h.size o
theorem bst {a w:World} (h:Below a.heap.size a w) (b j:Nat) (hb:a.heap.size≤b) (u:Value):Below a.heap.size a (w.setCell ⟨b,j,none⟩ u):=h.setCell (p:=⟨b,j,none⟩) hb u
theorem btr {a w w':World} (h:Below a.heap.size a w) (h':Below w.heap.size w w'):Below a.heap.size a w':=h.trans (h'.mono h.size)
theorem Bs (w:World):Below w.heap.size w w:=Below.refl _ _
theorem Tc (w:World) (b j:Nat) (u:Value) {x:Value} (h:w.cell? ⟨b,j,none⟩=some x):(w.setCell ⟨b,j,none⟩ u).cell? ⟨b,j,none⟩=some u:=World.cell?_setCell_same _ _ _ h
theorem froz_set (w:World) (a:Addr) (u:Value) (b:Addr):(w.setCell a u).frozen? b=w.frozen? b:=World.frozen?_setCell ..
theorem froz_new (w:World) (cs:Array Value) (t:TypeId) (j:Nat):(w.alloc (.cells cs t)).frozen? ⟨w.heap.size,j,none⟩=false:=frozen_of_row _ _ j cs t (heap_alloc_new w _)
theorem Kc {w w':World} (h:Below w.heap.size w w') {b j:Nat} {x:Value} (hc:w.cell? ⟨b,j,none⟩=some x):w'.cell? ⟨b,j,none⟩=some x:=(h.cell (p:=⟨b,j,none⟩) (Lc hc)).trans hc
theorem Kf {w w':World} (h:Below w.heap.size w w') {b j:Nat} {c:Bool} (hb:b < w.heap.size) (hc:w.frozen? ⟨b,j,none⟩=c):w'.frozen? ⟨b,j,none⟩=c:=(h.frozen (p:=⟨b,j,none⟩) hb).trans hc
theorem Oe {w:World} {base:Nat} {e:TypeId} {size:Nat} {v:Value} {n:Nat} {xs:List Value} (h:w.ownsRow base e size v n xs) (b j:Nat) (hb:¬v.ownBlock=some b) (u:Value):(w.setCell ⟨b,j,none⟩ u).ownsRow base e size v n xs:=
  Ow h (S:=fun k=>k=b) ((Chg.refl _ _).setCell b j u (fun _=>rfl)) (fun _ hk e=>hb (e ▸ hk))
theorem Om {w:World} {base base':Nat} {e:TypeId} {size:Nat} {v:Value} {n:Nat} {xs:List Value} (h:w.ownsRow base e size v n xs) (hb:base'≤base):w.ownsRow base' e size v n xs:=by
  refine ⟨h.1,?_⟩;rcases h.2 with hn | ⟨g,cap,cur,rfl,hg,rest⟩
  · exact .inl hn
  exact .inr ⟨g,cap,cur,rfl,by omega,rest⟩
theorem Oh {w:World} {base:Nat} {e:TypeId} {size:Nat} {v:Value} {n:Nat} {xs:List Value} (h:w.ownsRow base e size v n xs):∃ a c,v=.slice a n c:=by
  rcases h.2 with ⟨rfl,rfl⟩ | ⟨g,cap,cur,rfl,_⟩
  · exact ⟨_,_,rfl⟩
  exact ⟨_,_,rfl⟩
theorem own_pos {w:World} {base:Nat} {e:TypeId} {size:Nat} {v:Value} {n:Nat} {xs:List Value} (h:w.ownsRow base e size v n xs) (h0:0 < n):∃ g c,v=.slice (some ⟨g,0,none⟩) n c:=by
  rcases h.2 with ⟨_,rfl⟩ | ⟨g,cap,cur,rfl,_⟩
  · omega
  exact ⟨_,_,rfl⟩
theorem reads_shape {w:World} {size:Nat} {v:Value} {n:Nat} {xs:List Value} (h:Reads w size v n xs):∃ a c,v=.slice a n c:=by
  obtain ⟨_,_,a,c,b,a0,rfl,_⟩:=h;exact ⟨_,_,rfl⟩
theorem one_ints (xs:List Int):∀ u ∈ ints xs,u.oneCell'=true:=by
  intro u hu;obtain ⟨x,_,rfl⟩:=List.mem_map.1 hu;rfl
theorem ret_int {k:IntKind} {a b:Int} (h:a=b):Ending.returned (.int k a)=.returned (.int k b):=by rw [h]
theorem ret_bool {a b:Bool} (h:a=b):Ending.returned (.bool a)=.returned (.bool b):=by rw [h]
theorem take_succ_eq {α:Type} [DecidableEq α] {xs ys:List α} {k:Nat} (h1:k < xs.length) (h2:k < ys.length) (he:xs.take k=ys.take k) (hxy:xs[k]=ys[k]):xs.take (k+1)=ys.take (k+1):=by
  rw [List.take_succ_eq_append_getElem h1,List.take_succ_eq_append_getElem h2,he,hxy]
theorem sb {α:Type} (l:List α) (i:Nat) (a:α):l.toArray.setIfInBounds i a=(l.set i a).toArray:=List.setIfInBounds_toArray l i a
theorem Sa (w:World) (o:Obj):(w.alloc o).heap.size=w.heap.size+1:=World.size_alloc w o
theorem Ss (w:World) (a:Addr) (v:Value):(w.setCell a v).heap.size=w.heap.size:=World.size_setCell w a v
theorem C1 {w:World} (b j:Nat) (v:Value):Chg (fun q=>q=b) w (w.setCell ⟨b,j,none⟩ v):=(Chg.refl _ w).setCell b j v (fun _=>rfl)
theorem Dn {P:Program} {ops:Array Oper} {Q:Exit→Act→World→Prop} {md:Region.Mode} {S:World→Prop} {fuel:Nat} {listed:Array Bool} {a:Act} {w:World} (h:Q .normal a w) (hr:Region.ready md ops listed=[]:=by kernel_rfl):wpAnyH P md ops (NoPanic Q) S fuel listed a w:=wpAnyH_done hr (NoPanic.normal h) fuel
theorem tq {P:Program} {ops:Array Oper} {Q:Exit→Act→World→Prop} {md:Region.Mode} {S:World→Prop} {oi:Oper} {fuel:Nat} {listed:Array Bool} {a:Act} {w:World} (i d:Nat) (hi:ops[i]? = some oi) (hd:oi.dst=some d) (v:Value)
    (hy:∀ w,S w→(execOp a.eval oi).run P w=.ok (.value v) w)
    (h:wpAnyH P md ops Q S fuel (listed.setIfInBounds i true) (a.put (some d) v) w)
    (hw:Region.wanted oi (yielded ops a.tmps)=true:=by rfl)
    (hs:Region.noSelect ops=true:=by kernel_rfl) (hf:Region.free md ops listed i=true:=by kernel_rfl) (hr:(Region.ready md ops listed).contains i=true:=by kernel_rfl)
    (hQ:∀ c a w,Q (.panic c) (a.put oi.dst v) w→Q (.panic c) a w:=by intro _ _ _ h;exact h) (hS:S w:=by assumption):wpAnyH P md ops Q S (fuel+1) listed a w:=
  wpAnyH_take hi hs hf hr hQ (Or.inl ⟨hw,hy⟩) hS (by rw [hd];exact h)
theorem tu {P:Program} {ops:Array Oper} {Q:Exit→Act→World→Prop} {md:Region.Mode} {S:World→Prop} {oi:Oper} {fuel:Nat} {listed:Array Bool} {a:Act} {w:World} (i d:Nat) (hi:ops[i]? = some oi) (hd:oi.dst=some d)
    (h:wpAnyH P md ops Q S fuel (listed.setIfInBounds i true) (a.put (some d) undef) w)
    (hw:Region.wanted oi (yielded ops a.tmps)=false:=by rfl)
    (hs:Region.noSelect ops=true:=by kernel_rfl) (hf:Region.free md ops listed i=true:=by kernel_rfl) (hr:(Region.ready md ops listed).contains i=true:=by kernel_rfl)
    (hQ:∀ c a w,Q (.panic c) (a.put oi.dst undef) w→Q (.panic c) a w:=by intro _ _ _ h;exact h) (hS:S w:=by assumption):wpAnyH P md ops Q S (fuel+1) listed a w:=
  wpAnyH_take hi hs hf hr hQ (Or.inr ⟨hw,rfl⟩) hS (by rw [hd];exact h)
theorem Rdy {P:Program} {md:Region.Mode} {ops:Array Oper} {Q:Exit→Act→World→Prop} {S:World→Prop} {fuel:Nat} {listed:Array Bool} {a:Act} {w:World} {o:Oper} (i:Nat) (ho:ops[i]? = some o)
    (h:∀ K':Act→World→Prop,Shut (∀ a w,S w→(S w→wpAnyH P md ops Q S fuel (listed.setIfInBounds i true) a w)→K' a w)→if Region.wanted o (yielded ops a.tmps)=true then Oper.wp P o a w K' Q else K' (a.put o.dst undef) w)
    (hr:Region.ready md ops listed=[i]:=by kernel_rfl):wpAnyH P md ops Q S (fuel+1) listed a w:=wpAnyH_ready hr (by simp) (AllReadyH.cons ho h AllReadyH.nil)
theorem nmh {P X:World} (h:P=X):Below P.heap.size P X:=by subst h;exact Bs _
theorem nmw (P:World):∃ X,X=P∧Below P.heap.size P X:=⟨P,rfl,Bs P⟩
theorem Rdy2 {P:Program} {md:Region.Mode} {ops:Array Oper} {Q:Exit→Act→World→Prop} {S:World→Prop} {fuel:Nat} {listed:Array Bool} {a:Act} {w:World} {oi oj:Oper} (i j:Nat) (ei:ops[i]? = some oi) (ej:ops[j]? = some oj) (hi:∀ K':Act→World→Prop,Shut (∀ a w,S w→(S w→wpAnyH P md ops Q S fuel (listed.setIfInBounds i true) a w)→K' a w)→if Region.wanted oi (yielded ops a.tmps)=true then Oper.wp P oi a w K' Q else K' (a.put oi.dst undef) w) (hj:∀ K':Act→World→Prop,Shut (∀ a w,S w→(S w→wpAnyH P md ops Q S fuel (listed.setIfInBounds j true) a w)→K' a w)→if Region.wanted oj (yielded ops a.tmps)=true then Oper.wp P oj a w K' Q else K' (a.put oj.dst undef) w)
    (hr:Region.ready md ops listed=[i,j]:=by kernel_rfl):wpAnyH P md ops Q S (fuel+1) listed a w:=wpAnyH_ready hr (by simp) (AllReadyH.cons ei hi (AllReadyH.cons ej hj AllReadyH.nil))
theorem Ep:(∀ (a:Act) (d:Nat) (v:Value),a.put (some d) v={ a with tmps:=a.tmps.setIfInBounds d v })∧(∀ (a:Act) (v:Value),a.put none v=a)∧(∀ {α:Type} (l:List α) (i:Nat) (x:α),l.toArray.setIfInBounds i x=(l.set i x).toArray)∧(∀ {α:Type} (x y:α) (l:List α),(x::l).set 0 y=y::l)∧(∀ {α:Type} (x y:α) (l:List α) (n:Nat),(x::l).set (n+1) y=x::l.set n y):=
  ⟨fun _ _ _=>rfl,fun _ _=>rfl,fun l i x=>sb l i x,fun _ _ _=>rfl,fun _ _ _ _=>rfl⟩
end Go.Proofs.Ytlckklglbodgbaa
