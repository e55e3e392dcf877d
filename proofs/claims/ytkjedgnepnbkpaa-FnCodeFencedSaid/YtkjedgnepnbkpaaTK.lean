/-
 Parts of the proofs of the laws FnCodeFenced,FnCountBranches.
-/
import Derived.Test.YtkjedgnepnbkpaaO
set_option linter.all false
namespace Go.Proofs.Ytkjedgnepnbkpaa
open Go.RowKit
theorem take_d {P:Program} {ops:Array Oper} {Q:Exit→Act→World→Prop} {md:Region.Mode} {S:World→Prop} {i:Nat} {oi:Oper} {d:Nat} {v:Value} {fuel:Nat} {listed:Array Bool} {a:Act} {w:World} (hi:ops[i]? = some oi) (hd:oi.dst=some d)
  (hs:Region.noSelect ops=true) (hf:Region.free md ops listed i=true) (hr:(Region.ready md ops listed).contains i=true)
  (hQ:∀ c a w,Q (.panic c) (a.put oi.dst v) w→Q (.panic c) a w) (hy:YieldsIf P ops S oi v a) (hS:S w)
  (h:wpAnyH P md ops Q S fuel (listed.setIfInBounds i true) (a.put (some d) v) w):wpAnyH P md ops Q S (fuel+1) listed a w:=
 wpAnyH_take hi hs hf hr hQ hy hS (by rw [hd];exact h)
theorem Bk.cf {w:World} {b:Nat} {vs:List Value} (h:Bk w b vs) (j:Nat) {v:Value} (hv:vs[j]? = some v):w.cell? ⟨b,j,none⟩=some v∧w.frozen? ⟨b,j,none⟩=false:=⟨h.cell j hv,h.froz j (List.getElem?_eq_some_iff.1 hv).1⟩
theorem Bk.lz {w:World} {b:Nat} {v:Value} {vs:List Value} (h:Bk w b (v::vs)):b < w.heap.size:=h.lt (Nat.succ_pos _)
theorem Bk.f2 {w:World} {b:Nat} {vs:List Value} {x0 x1:Value} (h:Bk w b vs) (i0 i1:Nat) (e0:vs[i0]? = some x0) (e1:vs[i1]? = some x1):w.cell? ⟨b,i0,none⟩=some x0∧w.frozen? ⟨b,i0,none⟩=false∧w.cell? ⟨b,i1,none⟩=some x1∧w.frozen? ⟨b,i1,none⟩=false:=⟨(h.cf i0 e0).1,(h.cf i0 e0).2,(h.cf i1 e1).1,(h.cf i1 e1).2⟩
theorem Bk.f3 {w:World} {b:Nat} {vs:List Value} {x0 x1 x2:Value} (h:Bk w b vs) (i0 i1 i2:Nat) (e0:vs[i0]? = some x0) (e1:vs[i1]? = some x1) (e2:vs[i2]? = some x2):w.cell? ⟨b,i0,none⟩=some x0∧w.frozen? ⟨b,i0,none⟩=false∧w.cell? ⟨b,i1,none⟩=some x1∧w.frozen? ⟨b,i1,none⟩=false∧w.cell? ⟨b,i2,none⟩=some x2∧w.frozen? ⟨b,i2,none⟩=false:=⟨(h.cf i0 e0).1,(h.cf i0 e0).2,(h.cf i1 e1).1,(h.cf i1 e1).2,(h.cf i2 e2).1,(h.cf i2 e2).2⟩
theorem Bk.f4 {w:World} {b:Nat} {vs:List Value} {x0 x1 x2 x3:Value} (h:Bk w b vs) (i0 i1 i2 i3:Nat) (e0:vs[i0]? = some x0) (e1:vs[i1]? = some x1) (e2:vs[i2]? = some x2) (e3:vs[i3]? = some x3):w.cell? ⟨b,i0,none⟩=some x0∧w.frozen? ⟨b,i0,none⟩=false∧w.cell? ⟨b,i1,none⟩=some x1∧w.frozen? ⟨b,i1,none⟩=false∧w.cell? ⟨b,i2,none⟩=some x2∧w.frozen? ⟨b,i2,none⟩=false∧w.cell? ⟨b,i3,none⟩=some x3∧w.frozen? ⟨b,i3,none⟩=false:=⟨(h.cf i0 e0).1,(h.cf i0 e0).2,(h.cf i1 e1).1,(h.cf i1 e1).2,(h.cf i2 e2).1,(h.cf i2 e2).2,(h.cf i3 e3).1,(h.cf i3 e3).2⟩
theorem Bk.f5 {w:World} {b:Nat} {vs:List Value} {x0 x1 x2 x3 x4:Value} (h:Bk w b vs) (i0 i1 i2 i3 i4:Nat) (e0:vs[i0]? = some x0) (e1:vs[i1]? = some x1) (e2:vs[i2]? = some x2) (e3:vs[i3]? = some x3) (e4:vs[i4]? = some x4):w.cell? ⟨b,i0,none⟩=some x0∧w.frozen? ⟨b,i0,none⟩=false∧w.cell? ⟨b,i1,none⟩=some x1∧w.frozen? ⟨b,i1,none⟩=false∧w.cell? ⟨b,i2,none⟩=some x2∧w.frozen? ⟨b,i2,none⟩=false∧w.cell? ⟨b,i3,none⟩=some x3∧w.frozen? ⟨b,i3,none⟩=false∧w.cell? ⟨b,i4,none⟩=some x4∧w.frozen? ⟨b,i4,none⟩=false:=⟨(h.cf i0 e0).1,(h.cf i0 e0).2,(h.cf i1 e1).1,(h.cf i1 e1).2,(h.cf i2 e2).1,(h.cf i2 e2).2,(h.cf i3 e3).1,(h.cf i3 e3).2,(h.cf i4 e4).1,(h.cf i4 e4).2⟩
theorem Bk.f8 {w:World} {b:Nat} {vs:List Value} {x0 x1 x2 x3 x4 x5 x6 x7:Value} (h:Bk w b vs) (i0 i1 i2 i3 i4 i5 i6 i7:Nat) (e0:vs[i0]? = some x0) (e1:vs[i1]? = some x1) (e2:vs[i2]? = some x2) (e3:vs[i3]? = some x3) (e4:vs[i4]? = some x4) (e5:vs[i5]? = some x5) (e6:vs[i6]? = some x6) (e7:vs[i7]? = some x7):w.cell? ⟨b,i0,none⟩=some x0∧w.frozen? ⟨b,i0,none⟩=false∧w.cell? ⟨b,i1,none⟩=some x1∧w.frozen? ⟨b,i1,none⟩=false∧w.cell? ⟨b,i2,none⟩=some x2∧w.frozen? ⟨b,i2,none⟩=false∧w.cell? ⟨b,i3,none⟩=some x3∧w.frozen? ⟨b,i3,none⟩=false∧w.cell? ⟨b,i4,none⟩=some x4∧w.frozen? ⟨b,i4,none⟩=false∧w.cell? ⟨b,i5,none⟩=some x5∧w.frozen? ⟨b,i5,none⟩=false∧w.cell? ⟨b,i6,none⟩=some x6∧w.frozen? ⟨b,i6,none⟩=false∧w.cell? ⟨b,i7,none⟩=some x7∧w.frozen? ⟨b,i7,none⟩=false:=⟨(h.cf i0 e0).1,(h.cf i0 e0).2,(h.cf i1 e1).1,(h.cf i1 e1).2,(h.cf i2 e2).1,(h.cf i2 e2).2,(h.cf i3 e3).1,(h.cf i3 e3).2,(h.cf i4 e4).1,(h.cf i4 e4).2,(h.cf i5 e5).1,(h.cf i5 e5).2,(h.cf i6 e6).1,(h.cf i6 e6).2,(h.cf i7 e7).1,(h.cf i7 e7).2⟩
theorem Bk.g3 {w:World} {b:Nat} {x0 x1 x2:Value} (h:Bk w b [x0,x1,x2]):w.cell? ⟨b,0,none⟩=some x0∧w.cell? ⟨b,1,none⟩=some x1∧w.cell? ⟨b,2,none⟩=some x2:=⟨h.cell 0 rfl,h.cell 1 rfl,h.cell 2 rfl⟩
theorem Bk.g5 {w:World} {b:Nat} {x0 x1 x2 x3 x4:Value} (h:Bk w b [x0,x1,x2,x3,x4]):w.cell? ⟨b,0,none⟩=some x0∧w.cell? ⟨b,1,none⟩=some x1∧w.cell? ⟨b,2,none⟩=some x2∧w.cell? ⟨b,3,none⟩=some x3∧w.cell? ⟨b,4,none⟩=some x4:=⟨h.cell 0 rfl,h.cell 1 rfl,h.cell 2 rfl,h.cell 3 rfl,h.cell 4 rfl⟩
theorem Bk.g11 {w:World} {b:Nat} {x0 x1 x2 x3 x4 x5 x6 x7 x8 x9 x10:Value} (h:Bk w b [x0,x1,x2,x3,x4,x5,x6,x7,x8,x9,x10]):w.cell? ⟨b,0,none⟩=some x0∧w.cell? ⟨b,1,none⟩=some x1∧w.cell? ⟨b,2,none⟩=some x2∧w.cell? ⟨b,3,none⟩=some x3∧w.cell? ⟨b,4,none⟩=some x4∧w.cell? ⟨b,5,none⟩=some x5∧w.cell? ⟨b,6,none⟩=some x6∧w.cell? ⟨b,7,none⟩=some x7∧w.cell? ⟨b,8,none⟩=some x8∧w.cell? ⟨b,9,none⟩=some x9∧w.cell? ⟨b,10,none⟩=some x10:=⟨h.cell 0 rfl,h.cell 1 rfl,h.cell 2 rfl,h.cell 3 rfl,h.cell 4 rfl,h.cell 5 rfl,h.cell 6 rfl,h.cell 7 rfl,h.cell 8 rfl,h.cell 9 rfl,h.cell 10 rfl⟩
theorem tInstrs:SliceT Try.prog 24 32 (.agg #[.int .i64 0,.int .i64 0,.int .i64 0,.int .i64 0,.int .i64 0]) 5 40:=⟨Try.underlying24,info_Instr,rfl,by omega,by omega⟩
theorem own_nil_rows (w:World) (e:TypeId) (sz:Nat):(w.alloc (.cells #[] e)).ownsRow w.heap.size e sz (.slice (some ⟨w.heap.size,0,none⟩) 0 0) 0 []:=
 World.ownsRow_lit (base:=w.heap.size) (e:=e) (size:=sz) w #[] 0 (Nat.le_refl _) (by unfold maxLen;omega) (by simp)
theorem one_inss (l:List Ins):∀ u ∈ inss l,u.oneCell'=true:=by
 induction l with
 | nil=>intro u h;cases h
 | cons x l ih =>
  intro u h
  rcases List.mem_append.1 (show u ∈ insc x++inss l from h) with h | h
  ·exact one_insc x u h
  exact ih u h
structure RowK where
 k:Nat
 e:TypeId
 sz:Nat
 v:Value
 n:Nat
 xs:List Value
structure RowSet (w:World) (base:Nat) (l:List RowK):Prop where
 own:∀ r ∈ l,w.ownsRow base r.e r.sz r.v r.n r.xs
 dj:∀ r ∈ l,∀ s ∈ l,r.k≠s.k→∀ q,r.v.ownBlock=some q→s.v.ownBlock=some q→False
section
variable {w w':World} {base:Nat} {l l':List RowK}
theorem RowSet.nil:RowSet w base []:=⟨fun _ h=>(by cases h),fun _ h=>(by cases h)⟩
theorem RowSet.sub (h:RowSet w base l) (hs:∀ r ∈ l',r ∈ l):RowSet w base l':=⟨fun r hr=>h.own r (hs r hr),fun r hr s hs2=>h.dj r (hs r hr) s (hs s hs2)⟩
theorem RowSet.below (h:RowSet w base l) (hb:Below w.heap.size w w'):RowSet w' base l:=⟨fun r hr=>Ob (h.own r hr) hb,h.dj⟩
theorem RowSet.lit (h:RowSet w base l) (k:Nat) (e:TypeId) (sz:Nat) (cs:Array Value) (n:Nat) (hb:base≤w.heap.size) (hn:n≤maxLen) (hc:cs.size=n*sz):RowSet (w.alloc (.cells cs e)) base (⟨k,e,sz,.slice (some ⟨w.heap.size,0,none⟩) n n,n,cs.toList⟩::l):=by
 have hl:(w.alloc (.cells cs e)).ownsRow base e sz (.slice (some ⟨w.heap.size,0,none⟩) n n) n cs.toList:=Om (World.ownsRow_lit (base:=w.heap.size) (e:=e) (size:=sz) w cs n (Nat.le_refl _) hn hc) hb
 have a0:∀ r ∈ l,∀ q,r.v.ownBlock=some q→q < w.heap.size:=fun r hr q hq=>((h.own r hr).lt q hq).2
 refine ⟨fun r hr=>?_,fun r hr s hs hk q h1 h2=>?_⟩
 ·rcases List.mem_cons.1 hr with rfl | hr
  ·exact hl
  exact Ob (h.own r hr) (bal (Bs w) _)
 rcases List.mem_cons.1 hr with rfl | hr
 ·rcases List.mem_cons.1 hs with rfl | hs
  ·exact hk rfl
  have e1:w.heap.size=q:=Option.some.inj h1
  have:=a0 s hs q h2;omega
 rcases List.mem_cons.1 hs with rfl | hs
 ·have e1:w.heap.size=q:=Option.some.inj h2
  have:=a0 r hr q h1;omega
 exact h.dj r hr s hs hk q h1 h2
theorem RowSet.push (h:RowSet w base l) (r:RowK) (hr:r ∈ l) {v':Value} {n':Nat} {xs':List Value} (ho:w'.ownsRow base r.e r.sz v' n' xs') (hc:Chg (fun q=>r.v.ownBlock=some q) w w') (hN:NewOr w r.v v') (hl:∀ s ∈ l',s ∈ l∧s.k≠r.k):RowSet w' base (⟨r.k,r.e,r.sz,v',n',xs'⟩::l'):=by
 have a0:∀ s ∈ l',∀ q,v'.ownBlock=some q→s.v.ownBlock=some q→False:=fun s hs q h1 h2=>by
  rcases hN with e1 | ⟨g,e1,e2⟩
  ·exact h.dj r hr s (hl s hs).1 (fun e=>(hl s hs).2 e.symm) q (e1 ▸ h1) h2
  rw [e1] at h1
  have:=Option.some.inj h1
  have:=((h.own s (hl s hs).1).lt q h2).2
  omega
 refine ⟨fun s hs=>?_,fun a ha b hb hk q h1 h2=>?_⟩
 ·rcases List.mem_cons.1 hs with rfl | hs
  ·exact ho
  exact Ow (h.own s (hl s hs).1) hc (fun q h1 h2=>h.dj r hr s (hl s hs).1 (fun e=>(hl s hs).2 e.symm) q h2 h1)
 rcases List.mem_cons.1 ha with rfl | ha
 ·rcases List.mem_cons.1 hb with rfl | hb
  ·exact hk rfl
  exact a0 b hb q h1 h2
 rcases List.mem_cons.1 hb with rfl | hb
 ·exact a0 a ha q h2 h1
 exact h.dj a (hl a ha).1 b (hl b hb).1 hk q h1 h2
theorem RowSet.set (h:RowSet w base l) (r:RowK) (hr:r ∈ l) {b n c:Nat} (hv:r.v=.slice (some ⟨b,0,none⟩) n c) (hn:r.n=n) (j:Nat) (u:Value) (hl:∀ s ∈ l',s ∈ l∧s.k≠r.k):RowSet (w.setCell ⟨b,j,none⟩ u) base (⟨r.k,r.e,r.sz,r.v,r.n,r.xs.set j u⟩::l'):=by
 have ho:=h.own r hr
 obtain ⟨k,e,sz,v,n',xs⟩:=r
 simp only at hv hn ho hl ⊢
 subst hv hn
 have hs:=(ho.stored j u).1
 refine ⟨fun s hs2=>?_,fun a ha b2 hb hk q h1 h2=>?_⟩
 ·rcases List.mem_cons.1 hs2 with rfl | hs2
  ·exact hs
  exact Oe (h.own s (hl s hs2).1) b j (fun h1=>h.dj _ hr s (hl s hs2).1 (fun e=>(hl s hs2).2 e.symm) b rfl h1) u
 have a0:∀ s ∈ l',∀ q,(Value.slice (some ⟨b,0,none⟩) n' c).ownBlock=some q→s.v.ownBlock=some q→False:=fun s hs q h1 h2=>h.dj _ hr s (hl s hs).1 (fun e=>(hl s hs).2 e.symm) q h1 h2
 rcases List.mem_cons.1 ha with rfl | ha
 ·rcases List.mem_cons.1 hb with rfl | hb
  ·exact hk rfl
  exact a0 b2 hb q h1 h2
 rcases List.mem_cons.1 hb with rfl | hb
 ·exact a0 a ha q h2 h1
 exact h.dj a (hl a ha).1 b2 (hl b2 hb).1 hk q h1 h2
end
theorem sub_nil {l:List RowK}:∀ r ∈ ([]:List RowK),r ∈ l:=fun _ h=>(by cases h)
theorem Sb {a:RowK} {l l':List RowK} (h:a ∈ l) (hs:∀ r ∈ l',r ∈ l):∀ r ∈ a::l',r ∈ l:=fun r hr=>by
 rcases List.mem_cons.1 hr with rfl | hr
 ·exact h
 exact hs r hr
theorem oth_nil {l:List RowK} {k:Nat}:∀ s ∈ ([]:List RowK),s ∈ l∧s.k≠k:=fun _ h=>(by cases h)
theorem oth_cons {a:RowK} {l l':List RowK} {k:Nat} (h:a ∈ l) (hk:a.k≠k) (hs:∀ s ∈ l',s ∈ l∧s.k≠k):∀ s ∈ a::l',s ∈ l∧s.k≠k:=fun r hr=>by
 rcases List.mem_cons.1 hr with rfl | hr
 ·exact ⟨h,hk⟩
 exact hs r hr
theorem name_H {P:Program} {md:Region.Mode} {ops:Array Oper} {Q:Exit→Act→World→Prop} {S:World→Prop} {fuel:Nat} {listed:Array Bool} {a:Act} {w:World}
  (h:∀ (T:Nat→Array Bool→Act→World→Prop),Hid (T=wpAnyH P md ops Q S)→∀ A0,Hid (A0=a)→T fuel listed A0 w):wpAnyH P md ops Q S fuel listed a w:=h _ (Lib.hid rfl) _ (Lib.hid rfl)
theorem tot_chg {W w w':World} {S:Nat→Prop} (ht:Below W.heap.size W w) (hc:Chg S w w') (hs:∀ q,S q→W.heap.size≤q):Below W.heap.size W w':=ht.trans (hc.below W.heap.size ht.size (fun q hq h=>by have:=hs q h;omega))
theorem Bk.of_own {w:World} {base:Nat} {e:TypeId} {sz b n c:Nat} {xs:List Value} (h:w.ownsRow base e sz (.slice (some ⟨b,0,none⟩) n c) n xs):Bk w b xs:=fun j hj=>by
 refine ⟨?_,h.frozenAt j⟩
 rw [h.cellAt j (by rw [← h.1];exact hj),List.getElem?_eq_getElem hj]
theorem Mh {α:Type} {a:α} {l:List α}:a ∈ a::l:=List.Mem.head _
theorem Mt {α:Type} {a b:α} {l:List α} (h:a ∈ l):a ∈ b::l:=List.Mem.tail _ h
abbrev Rv (c:Cd) (p:Option Addr) (t:Nat):RowK:=⟨0,3,1,.slice p c.vars.length t,c.vars.length,ints c.vars⟩
abbrev Ry (c:Cd) (p:Option Addr) (t:Nat):RowK:=⟨4,3,1,.slice p c.arrays.length t,c.arrays.length,ints c.arrays⟩
abbrev Rl (c:Cd) (p:Option Addr) (t:Nat):RowK:=⟨8,32,5,.slice p c.list.length t,c.list.length,inss c.list⟩
abbrev Re (k b:Nat):RowK:=⟨k,3,1,.slice (some ⟨b,0,none⟩) 0 0,0,[]⟩
abbrev Rn (k b:Nat):RowK:=⟨k,32,5,.slice (some ⟨b,0,none⟩) 0 0,0,[]⟩
abbrev Rb (b:Nat) (l:List Value):RowK:=⟨13,26,3,.slice (some ⟨b,0,none⟩) 1 1,1,l⟩
end Go.Proofs.Ytkjedgnepnbkpaa
