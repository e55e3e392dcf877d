/-
 Parts of the proofs of the laws FnExactProductProgram.
-/
import Derived.Test.YtlckklglbodgbaaF
set_option linter.all false
namespace Go.Proofs.Ytlckklglbodgbaa
open Go.RowKit
theorem eqIntS_b (va vb:Value) (xs ys:List Int) (w:World) (ha:Reads w 1 va xs.length (ints xs)) (hb:Reads w 1 vb ys.length (ints ys)) :
  Calls Try.prog 36 #[va,vb] w fun e w'=>e=.returned (.bool (decide (xs=ys)))∧Below w.heap.size w w':=
 (eqIntS_any va vb xs ys w ha hb).mono fun _ _ ⟨h,k,hk⟩=>⟨h,hk ▸ below_drewN' w k⟩
structure Cd where
 vars:List Int
 arrays:List Int
 list:List Ins
deriving DecidableEq
structure ReadsC (w:World) (va vb vc:Value) (c:Cd):Prop where
 a:Reads w 1 va c.vars.length (ints c.vars)
 b:Reads w 1 vb c.arrays.length (ints c.arrays)
 l:Reads w 5 vc c.list.length (inss c.list)
def ReadB (va vb vc:Value) (c:Cd) (q:Nat):Prop:=
 (∃ o cap,0 < c.vars.length∧va=.slice (some ⟨q,o,none⟩) c.vars.length cap)∨(∃ o cap,0 < c.arrays.length∧vb=.slice (some ⟨q,o,none⟩) c.arrays.length cap)∨(∃ o cap,0 < c.list.length∧vc=.slice (some ⟨q,o,none⟩) c.list.length cap)
theorem ReadsC.lt {w:World} {va vb vc:Value} {c:Cd} (h:ReadsC w va vb vc c):∀ q,ReadB va vb vc c q→q < w.heap.size:=by
 intro q hq;rcases hq with ⟨o,cap,h0,hv⟩ | ⟨o,cap,h0,hv⟩ | ⟨o,cap,h0,hv⟩
 ·exact reads_lt h.a q o cap h0 hv
 ·exact reads_lt h.b q o cap h0 hv
 exact reads_lt h.l q o cap h0 hv
theorem ReadsC.keep {w w':World} {va vb vc:Value} {c:Cd} (h:ReadsC w va vb vc c) {S:Nat→Prop} (hc:Chg S w w') (hs:∀ q,ReadB va vb vc c q→¬S q):ReadsC w' va vb vc c:=
 ⟨h.a.keep hc (fun b o cap h0 hv=>hs b (Or.inl ⟨o,cap,h0,hv⟩)),h.b.keep hc (fun b o cap h0 hv=>hs b (Or.inr (Or.inl ⟨o,cap,h0,hv⟩))),h.l.keep hc (fun b o cap h0 hv=>hs b (Or.inr (Or.inr ⟨o,cap,h0,hv⟩)))⟩
theorem ReadsC.below {w w':World} {va vb vc:Value} {c:Cd} (h:ReadsC w va vb vc c) (hb:Below w.heap.size w w'):ReadsC w' va vb vc c:=⟨h.a.below hb,h.b.below hb,h.l.below hb⟩
theorem ReadsC.shape {w:World} {va vb vc:Value} {c:Cd} (h:ReadsC w va vb vc c):∃ a0 c0 a1 c1 a2 c2,va=.slice a0 c.vars.length c0∧vb=.slice a1 c.arrays.length c1∧vc=.slice a2 c.list.length c2:=by
 obtain ⟨a0,c0,h0⟩:=reads_shape h.a;obtain ⟨a1,c1,h1⟩:=reads_shape h.b;obtain ⟨a2,c2,h2⟩:=reads_shape h.l;exact ⟨a0,c0,a1,c1,a2,c2,h0,h1,h2⟩
def OwnB (va vb vc:Value) (q:Nat):Prop:=va.ownBlock=some q∨vb.ownBlock=some q∨vc.ownBlock=some q
theorem heldIntS_b (v:Value) (n:Nat) (k:Int) (w:World) (hr:Reads w 1 v n (ints (marks k n))) (hn:n≤1073741824) (h0:0≤k) (h1:k≤1073741824) :
  Calls Try.prog 40 #[v,.int .i64 k] w fun e w'=>e=.returned (.int .i64 (k+n))∧Below w.heap.size w w':=by
 refine (heldIntS_any v n k w hr hn h0 h1).mono ?_;rintro e w' ⟨h,d,rfl⟩;exact ⟨h,below_drewN' w d⟩
structure RowK where
 k:Nat
 e:TypeId
 sz:Nat
 v:Value
 n:Nat
 xs:List Value
structure RowSet (w:World) (base:Nat) (l:List RowK):Prop where
 own:∀ r ∈ l,w.ownsRow base r.e r.sz r.v r.n r.xs
 dj:∀ r ∈ l,∀ s ∈ l,r.k≠s.k→∀ q,r.v.ownBlock=some q→s.v.ownBlock=some q→False
section
variable {w w':World} {base:Nat} {l l':List RowK}
theorem RowSet.nil:RowSet w base []:=⟨fun _ h=>(by cases h),fun _ h=>(by cases h)⟩
theorem RowSet.sub (h:RowSet w base l) (hs:∀ r ∈ l',r ∈ l):RowSet w base l':=⟨fun r hr=>h.own r (hs r hr),fun r hr s hs2=>h.dj r (hs r hr) s (hs s hs2)⟩
theorem RowSet.below (h:RowSet w base l) (hb:Below w.heap.size w w'):RowSet w' base l:=⟨fun r hr=>Ob (h.own r hr) hb,h.dj⟩
theorem RowSet.lit (h:RowSet w base l) (k:Nat) (e:TypeId) (sz:Nat) (cs:Array Value) (n:Nat) (hb:base≤w.heap.size) (hn:n≤maxLen) (hc:cs.size=n*sz):RowSet (w.alloc (.cells cs e)) base (⟨k,e,sz,.slice (some ⟨w.heap.size,0,none⟩) n n,n,cs.toList⟩::l):=by
 have hl:(w.alloc (.cells cs e)).ownsRow base e sz (.slice (some ⟨w.heap.size,0,none⟩) n n) n cs.toList:=Om (World.ownsRow_lit (base:=w.heap.size) (e:=e) (size:=sz) w cs n Lr hn hc) hb;have a0:∀ r ∈ l,∀ q,r.v.ownBlock=some q→q < w.heap.size:=fun r hr q hq=>((h.own r hr).lt q hq).2
 refine ⟨fun r hr=>?_,fun r hr s hs hk q h1 h2=>?_⟩
 ·rcases List.mem_cons.1 hr with rfl | hr
  ·exact hl
  exact Ob (h.own r hr) (bal (Bs w) _)
 rcases List.mem_cons.1 hr with rfl | hr
 ·rcases List.mem_cons.1 hs with rfl | hs
  ·exact hk rfl
  have e1:w.heap.size=q:=Si h1;have:=a0 s hs q h2;omega
 rcases List.mem_cons.1 hs with rfl | hs
 ·have e1:w.heap.size=q:=Si h2;have:=a0 r hr q h1;omega
 exact h.dj r hr s hs hk q h1 h2
theorem RowSet.push (h:RowSet w base l) (r:RowK) (hr:r ∈ l) {v':Value} {n':Nat} {xs':List Value} (ho:w'.ownsRow base r.e r.sz v' n' xs') (hc:Chg (fun q=>r.v.ownBlock=some q) w w') (hN:NewOr w r.v v') (hl:∀ s ∈ l',s ∈ l∧s.k≠r.k):RowSet w' base (⟨r.k,r.e,r.sz,v',n',xs'⟩::l'):=by
 have a0:∀ s ∈ l',∀ q,v'.ownBlock=some q→s.v.ownBlock=some q→False:=fun s hs q h1 h2=>by
  rcases hN with e1 | ⟨g,e1,e2⟩
  ·exact h.dj r hr s (hl s hs).1 (fun e=>(hl s hs).2 e.symm) q (e1 ▸ h1) h2
  rw [e1] at h1;have:=Si h1
  have:=((h.own s (hl s hs).1).lt q h2).2
  omega
 refine ⟨fun s hs=>?_,fun a ha b hb hk q h1 h2=>?_⟩
 ·rcases List.mem_cons.1 hs with rfl | hs
  ·exact ho
  exact Ow (h.own s (hl s hs).1) hc (fun q h1 h2=>h.dj r hr s (hl s hs).1 (fun e=>(hl s hs).2 e.symm) q h2 h1)
 rcases List.mem_cons.1 ha with rfl | ha
 ·rcases List.mem_cons.1 hb with rfl | hb
  ·exact hk rfl
  exact a0 b hb q h1 h2
 rcases List.mem_cons.1 hb with rfl | hb
 ·exact a0 a ha q h2 h1
 exact h.dj a (hl a ha).1 b (hl b hb).1 hk q h1 h2
theorem RowSet.set (h:RowSet w base l) (r:RowK) (hr:r ∈ l) {b n c:Nat} (hv:r.v=.slice (some ⟨b,0,none⟩) n c) (hn:r.n=n) (j:Nat) (u:Value) (hl:∀ s ∈ l',s ∈ l∧s.k≠r.k):RowSet (w.setCell ⟨b,j,none⟩ u) base (⟨r.k,r.e,r.sz,r.v,r.n,r.xs.set j u⟩::l'):=by
 have ho:=h.own r hr;obtain ⟨k,e,sz,v,n',xs⟩:=r;simp only at hv hn ho hl ⊢
 subst hv hn;have hs:=(ho.stored j u).1;refine ⟨fun s hs2=>?_,fun a ha b2 hb hk q h1 h2=>?_⟩
 ·rcases List.mem_cons.1 hs2 with rfl | hs2
  ·exact hs
  exact Oe (h.own s (hl s hs2).1) b j (fun h1=>h.dj _ hr s (hl s hs2).1 (fun e=>(hl s hs2).2 e.symm) b rfl h1) u
 have a0:∀ s ∈ l',∀ q,(Value.slice (some ⟨b,0,none⟩) n' c).ownBlock=some q→s.v.ownBlock=some q→False:=fun s hs q h1 h2=>h.dj _ hr s (hl s hs).1 (fun e=>(hl s hs).2 e.symm) q h1 h2
 rcases List.mem_cons.1 ha with rfl | ha
 ·rcases List.mem_cons.1 hb with rfl | hb
  ·exact hk rfl
  exact a0 b2 hb q h1 h2
 rcases List.mem_cons.1 hb with rfl | hb
 ·exact a0 a ha q h2 h1
 exact h.dj a (hl a ha).1 b2 (hl b2 hb).1 hk q h1 h2
end
theorem Sz {l:List RowK}:∀ r ∈ ([]:List RowK),r ∈ l:=fun _ h=>(by cases h)
theorem Sb {a:RowK} {l l':List RowK} (h:a ∈ l) (hs:∀ r ∈ l',r ∈ l):∀ r ∈ a::l',r ∈ l:=fun r hr=>by
 rcases List.mem_cons.1 hr with rfl | hr
 ·exact h
 exact hs r hr
theorem On {l:List RowK} {k:Nat}:∀ s ∈ ([]:List RowK),s ∈ l∧s.k≠k:=fun _ h=>(by cases h)
theorem Oc {a:RowK} {l l':List RowK} {k:Nat} (h:a ∈ l) (hs:∀ s ∈ l',s ∈ l∧s.k≠k) (hk:Nat.beq a.k k=false:=by rfl):∀ s ∈ a::l',s ∈ l∧s.k≠k:=fun r hr=>by
 rcases List.mem_cons.1 hr with rfl | hr
 ·exact ⟨h,fun e=>by rw [e,Nat.beq_refl] at hk;cases hk⟩
 exact hs r hr
theorem name_H {P:Program} {md:Region.Mode} {ops:Array Oper} {Q:Exit→Act→World→Prop} {S:World→Prop} {fuel:Nat} {listed:Array Bool} {a:Act} {w:World}
  (h:∀ (T:Nat→Array Bool→Act→World→Prop),Hid (T=wpAnyH P md ops Q S)→∀ A0,Hid (A0=a)→T fuel listed A0 w):wpAnyH P md ops Q S fuel listed a w:=h _ (Hi rfl) _ (Hi rfl)
theorem Tg {W w w':World} {S:Nat→Prop} (ht:Below W.heap.size W w) (hc:Chg S w w') (hs:∀ q,S q→W.heap.size≤q):Below W.heap.size W w':=ht.trans (hc.below W.heap.size ht.size (fun q hq h=>by have:=hs q h;omega))
theorem Bk.of_own {w:World} {base:Nat} {e:TypeId} {sz b n c:Nat} {xs:List Value} (h:w.ownsRow base e sz (.slice (some ⟨b,0,none⟩) n c) n xs):Bk w b xs:=fun j hj=>by
 refine ⟨?_,h.frozenAt j⟩;rw [h.cellAt j (by rw [← h.1];exact hj),List.getElem?_eq_getElem hj]
end Go.Proofs.Ytlckklglbodgbaa
