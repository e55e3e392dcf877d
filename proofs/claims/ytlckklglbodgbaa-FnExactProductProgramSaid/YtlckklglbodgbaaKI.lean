/-
 Parts of the proofs of the laws FnExactProductProgram.
-/
import Derived.Test.YtlckklglbodgbaaKH
set_option linter.all false
namespace Go.Proofs.Ytlckklglbodgbaa
open Go.RowKit
theorem info_stmt2:(Try.prog.info? 51).map (fun i=>(i.zero,i.size,i.bytes))=some (some (.agg #[.int .i64 0,.int .i64 0,.int .i64 0,.int .i64 0,.slice none 0 0,.int .i64 0,.int .i64 0,.slice none 0 0,.int .i64 0,.slice none 0 0,.slice none 0 0]),11,152):=by kernel_rfl
theorem tStmts2:SliceT Try.prog 24 51 (.agg #[.int .i64 0,.int .i64 0,.int .i64 0,.int .i64 0,.slice none 0 0,.int .i64 0,.int .i64 0,.slice none 0 0,.int .i64 0,.slice none 0 0,.slice none 0 0]) 11 152:=⟨Try.underlying24,info_stmt2,rfl,by omega,by omega⟩
def CpB (D:Nat) (L:List St) (w:World) (r:Ending) (w':World):Prop:=∃ (a:Option Addr) (c:Nat) (rs:List Sn),r=.returned (.slice a L.length c)∧GrAt snc 11 51 (fun W A n x=>StAt W A D n x) (fun q=>w.heap.size≤q) w' w.heap.size (.slice a L.length c) rs L∧Below w.heap.size w w'
theorem CpB.bl {D:Nat} {L:List St} {w w':World} {b:Nat} {v:Value} {rs:List Sn} (h:GrAt snc 11 51 (fun W A n x=>StAt W A D n x) (fun q=>b≤q) w' b v rs L):BlAt w' (fun q=>b≤q) D v L:=h.row (kpS D) (fun q hq _=>hq) (fun q hq _=>hq)
structure GrD {α β:Type} (f:α→List Value) (sz:Nat) (e:TypeId) (R:World→(Nat→Prop)→α→β→Prop) (W:World) (b hi:Nat) (v:Value) (rs:List α) (l:List β):Prop where
 len:rs.length=l.length
 own:W.ownsRow b e sz v l.length (rows f rs)
 kid:∃ Q:Nat→Nat→Prop,(∀ j q,Q j q→b≤q∧q < hi∧¬v.ownBlock=some q)∧(∀ i j q,¬i=j→Q i q→Q j q→False)∧∀ j (h:j < rs.length) (h':j < l.length),R W (Q j) rs[j] l[j]
def RowD {α β:Type} (f:α→List Value) (sz:Nat) (e:TypeId) (R:World→(Nat→Prop)→α→β→Prop) (W:World) (P:Nat→Prop) (u:Value) (l:List β):Prop:=
 ∃ (b:Nat) (rs:List α) (Q:Nat→Nat→Prop),rs.length=l.length∧W.ownsRow b e sz u l.length (rows f rs)∧(∀ q,u.ownBlock=some q→P q)∧(∀ j q,Q j q→P q∧q < W.heap.size∧¬u.ownBlock=some q)∧(∀ i j q,¬i=j→Q i q→Q j q→False)∧∀ j (h:j < rs.length) (h':j < l.length),R W (Q j) rs[j] l[j]
section
variable {α β:Type} {f:α→List Value} {sz:Nat} {e:TypeId} {R:World→(Nat→Prop)→α→β→Prop} {W W':World} {b hi:Nat} {v v' u:Value} {rs:List α} {l:List β} {P P':Nat→Prop}
theorem grd_keep (h:GrD f sz e R W b hi v rs l) (hR:Kp R) {S:Nat→Prop} (hc:Chg S W W') (h1:∀ q,b≤q→q < W.heap.size→¬S q):GrD f sz e R W' b hi v rs l:=by
 obtain ⟨Q,q1,q2,q3⟩:=h.kid;exact ⟨h.len,Ow h.own hc (fun q hq=>h1 q (h.own.lt q hq).1 (h.own.lt q hq).2),Q,q1,q2,fun j a c=>hR W W' S _ _ _ _ hc (fun q hq hl=>h1 q (q1 j q hq).1 hl) (fun q hq _=>hq) (q3 j a c)⟩
theorem grd_below (h:GrD f sz e R W b hi v rs l) (hR:Kp R) (hb:Below W.heap.size W W'):GrD f sz e R W' b hi v rs l:=grd_keep h hR (S:=fun _=>False) (Cb hb) (fun _ _ _=>id)
theorem grd_nil:GrD f sz e R W b hi (.slice none 0 0) [] []:=⟨rfl,World.ownsRow_nil _ _ _ _,fun _ _=>False,fun _ _ h=>h.elim,fun _ _ _ _ h=>h.elim,fun j h=>by simp at h⟩
theorem grd_hi (h:GrD f sz e R W b hi v rs l) {hi':Nat} (hh:hi≤hi'):GrD f sz e R W b hi' v rs l:=by
 obtain ⟨Q,q1,q2,q3⟩:=h.kid;exact ⟨h.len,h.own,Q,fun j q hq=>⟨(q1 j q hq).1,by have:=(q1 j q hq).2.1;omega,(q1 j q hq).2.2⟩,q2,q3⟩
theorem grd_push (h:GrD f sz e R W b hi v rs l) (hR:Kp R) {n:α} {x:β} {A:Nat→Prop} (ho:W'.ownsRow b e sz v' (l.length+1) (rows f rs++f n)) (hc:Chg (fun k=>v.ownBlock=some k) W W') (hN:NewOr W v v')
  (hn:R W A n x) (hA:∀ q,A q→q < W.heap.size→hi≤q∧b≤q∧¬v.ownBlock=some q) (hh:hi≤W.heap.size):GrD f sz e R W' b W.heap.size v' (rs++[n]) (l++[x]):=by
 have hB:∀ q,q < W.heap.size→¬v.ownBlock=some q→¬v'.ownBlock=some q:=fun q hq h1 h2=>by
  rcases hN with e1 | ⟨g,e1,e2⟩
  ·exact h1 (e1 ▸ h2)
  rw [e1] at h2;have:=Si h2;omega
 obtain ⟨Q,q1,q2,q3⟩:=h.kid;refine ⟨by simp [h.len],?_,fun j q=>(j < l.length∧Q j q)∨(j=l.length∧A q∧q < W.heap.size),?_,?_,?_⟩
 ·rw [rows_append,rows_one,List.length_append];exact ho
 ·intro j q hq;rcases hq with ⟨_,hq⟩ | ⟨_,hq,hl⟩
  ·have:=q1 j q hq;exact ⟨this.1,by omega,hB q (by omega) this.2.2⟩
  have:=hA q hq hl;exact ⟨this.2.1,hl,hB q hl this.2.2⟩
 ·intro i j q a0 h1 h2;rcases h1 with ⟨a1,h1⟩ | ⟨a1,h1,l1⟩ <;> rcases h2 with ⟨a2,h2⟩ | ⟨a2,h2,l2⟩
  ·exact q2 i j q a0 h1 h2
  ·have e1:=q1 i q h1;have e2:=hA q h2 l2;omega
  ·have e1:=q1 j q h2;have e2:=hA q h1 l1;omega
  omega
 intro j h1 h2;by_cases hj:j < l.length
 ·have hj':j < rs.length:=by rw [h.len];exact hj
  rw [List.getElem_append_left hj',List.getElem_append_left hj];exact hR W W' _ _ _ _ _ hc (fun q hq _=>(q1 j q hq).2.2) (fun q hq _=>Or.inl ⟨hj,hq⟩) (q3 j hj' hj)
 have b0:j=l.length:=by simp at h2;omega
 subst b0
 have e1:(rs++[n])[l.length]'h1=n:=by
  rw [List.getElem_append_right (by rw [h.len];omega)];simp [h.len]
 have e2:(l++[x])[l.length]'h2=x:=by
  rw [List.getElem_append_right (by omega)];simp
 rw [e1,e2];exact hR W W' _ _ _ _ _ hc (fun q hq hl=>(hA q hq hl).2.2) (fun q hq hl=>Or.inr ⟨rfl,hq,hl⟩) hn
theorem grd_row (h:GrD f sz e R W b hi v rs l) (hR:Kp R) (hP:∀ q,b≤q→q < W.heap.size→P q):RowD f sz e R W P v l:=by
 obtain ⟨Q,q1,q2,q3⟩:=h.kid;refine ⟨b,rs,fun j q=>Q j q∧q < W.heap.size,h.len,h.own,fun q hq=>hP q (h.own.lt q hq).1 (h.own.lt q hq).2,fun j q hq=>⟨hP q (q1 j q hq.1).1 hq.2,hq.2,(q1 j q hq.1).2.2⟩,fun i j q hij a c=>q2 i j q hij a.1 c.1,fun j a c=>hR W W (fun _=>False) _ _ _ _ (Chg.refl _ _) (fun _ _ _=>id) (fun q hq hl=>⟨hq,hl⟩) (q3 j a c)⟩
theorem rowD_keep (h:RowD f sz e R W P u l) (hR:Kp R) {S:Nat→Prop} (hc:Chg S W W') (h1:∀ q,P q→q < W.heap.size→¬S q) (h2:∀ q,P q→q < W.heap.size→P' q):RowD f sz e R W' P' u l:=by
 obtain ⟨b,rs,Q,a1,a2,a3,a4,a5,a6⟩:=h;have a0:=hc.size;exact ⟨b,rs,Q,a1,Ow a2 hc (fun q hq=>h1 q (a3 q hq) (a2.lt q hq).2),fun q hq=>h2 q (a3 q hq) (a2.lt q hq).2,fun j q hq=>⟨h2 q (a4 j q hq).1 (a4 j q hq).2.1,by have:=(a4 j q hq).2.1;omega,(a4 j q hq).2.2⟩,a5,fun j a c=>hR W W' S _ _ _ _ hc (fun q hq hl=>h1 q (a4 j q hq).1 hl) (fun q hq _=>hq) (a6 j a c)⟩
theorem rowD_nil:RowD f sz e R W P (.slice none 0 0) []:=⟨0,[],fun _ _=>False,rfl,World.ownsRow_nil _ _ _ _,fun q h=>(by cases h),fun _ _ h=>h.elim,fun _ _ _ _ h=>h.elim,fun j h=>by simp at h⟩
theorem rowD_shape (h:RowD f sz e R W P u l):∃ a c,u=.slice a l.length c:=by obtain ⟨_,_,_,_,h,_⟩:=h;exact Oh h
theorem rowD_row {R':α→β→Prop} (h:RowD f sz e R W P u l) (hR:∀ (A:Nat→Prop) n x,(∀ q,A q→P q)→R W A n x→R' n x):RowOf f sz W P R' u l:=by
 obtain ⟨b,rs,Q,a1,a2,a3,a4,a5,a6⟩:=h;exact ⟨rs,a1,Ro a2 (own_len a2),fun b o c _ hv=>a3 b (by rw [hv];rfl),fun j a c=>hR _ _ _ (fun q hq=>(a4 j q hq).1) (a6 j a c)⟩
end
def ExX:Nat→World→(Nat→Prop)→En→Ex→Prop
 | 0,_,_,_,_=>False
 | d+1,W,P,n,e=>n.k=e.k∧n.v=e.v∧RowD enc 3 49 (ExX d) W P n.u e.kids
theorem kpX:∀ d:Nat,Kp (ExX d)
 | 0=>fun _ _ _ _ _ _ _ _ _ _ h=>h
 | d+1=>fun _ _ _ _ _ _ _ hc h1 h2 h=>⟨h.1,h.2.1,rowD_keep h.2.2 (kpX d) hc h1 h2⟩
theorem exX_at:∀ (d:Nat) {W:World} {P B:Nat→Prop} {n:En} {e:Ex},(∀ q,P q→B q)→ExX d W P n e→ExAt W B d n e:=by
 intro d
 induction d with
 | zero=>intro W P B n e _ h;exact h
 | succ d ih =>
  intro W P B n e a0 h;have h3:RowOf enc 3 W P (ExAt W B d) n.u e.kids:=rowD_row h.2.2 (fun A n x hA hx=>ih (fun q hq=>a0 q (hA q hq)) hx);exact ⟨h.1,h.2.1,h3.keep (S:=fun _=>False) (Chg.refl _ _) (fun _ _ _=>id) (fun q hq _=>a0 q hq) (fun _ _ h=>h)⟩
def StX:Nat→World→(Nat→Prop)→Sn→St→Prop
 | 0,_,_,_,_=>False
 | d+1,W,P,n,s=>(n.k=s.k∧n.t=s.t∧n.c=s.c)∧∃ P1 P2 P3 P4:Nat→Prop,(∀ q,P1 q∨P2 q∨P3 q∨P4 q→P q)∧(∀ q,(P1 q→P2 q→False)∧(P1 q→P3 q→False)∧(P1 q→P4 q→False)∧(P2 q→P3 q→False)∧(P2 q→P4 q→False)∧(P3 q→P4 q→False)) ∧
   (∃ D,ExX D W P1 n.ix s.ix)∧(∃ D,ExX D W P2 n.val s.val)∧RowD snc 11 51 (StX d) W P3 (.slice n.bp n.bn n.bc) s.body∧RowD snc 11 51 (StX d) W P4 (.slice n.ep n.en n.ec) s.els
theorem kpT:∀ d:Nat,Kp (StX d)
 | 0=>fun _ _ _ _ _ _ _ _ _ _ h=>h
 | d+1=>fun W W' S A A' n s hc h1 h2 h=>by
  obtain ⟨g0,P1,P2,P3,P4,g1,g2,⟨D1,g3⟩,⟨D2,g4⟩,g5,g6⟩:=h;refine ⟨g0,fun q=>P1 q∧q < W.heap.size,fun q=>P2 q∧q < W.heap.size,fun q=>P3 q∧q < W.heap.size,fun q=>P4 q∧q < W.heap.size,?_,?_,⟨D1,?_⟩,⟨D2,?_⟩,?_,?_⟩
  ·intro q hq;rcases hq with hq | hq | hq | hq
   ·exact h2 q (g1 q (Or.inl hq.1)) hq.2
   ·exact h2 q (g1 q (Or.inr (Or.inl hq.1))) hq.2
   ·exact h2 q (g1 q (Or.inr (Or.inr (Or.inl hq.1)))) hq.2
   exact h2 q (g1 q (Or.inr (Or.inr (Or.inr hq.1)))) hq.2
  ·intro q;obtain ⟨e1,e2,e3,e4,e5,e6⟩:=g2 q;exact ⟨fun a c=>e1 a.1 c.1,fun a c=>e2 a.1 c.1,fun a c=>e3 a.1 c.1,fun a c=>e4 a.1 c.1,fun a c=>e5 a.1 c.1,fun a c=>e6 a.1 c.1⟩
  ·exact kpX D1 W W' S _ _ _ _ hc (fun q hq hl=>h1 q (g1 q (Or.inl hq)) hl) (fun q hq hl=>⟨hq,hl⟩) g3
  ·exact kpX D2 W W' S _ _ _ _ hc (fun q hq hl=>h1 q (g1 q (Or.inr (Or.inl hq))) hl) (fun q hq hl=>⟨hq,hl⟩) g4
  ·exact rowD_keep g5 (kpT d) hc (fun q hq hl=>h1 q (g1 q (Or.inr (Or.inr (Or.inl hq)))) hl) (fun q hq hl=>⟨hq,hl⟩)
  exact rowD_keep g6 (kpT d) hc (fun q hq hl=>h1 q (g1 q (Or.inr (Or.inr (Or.inr hq)))) hl) (fun q hq hl=>⟨hq,hl⟩)
theorem stX_at:∀ (d:Nat) {W:World} {P B:Nat→Prop} {n:Sn} {s:St},(∀ q,P q→B q)→StX d W P n s→StAt W B d n s:=by
 intro d
 induction d with
 | zero=>intro W P B n s _ h;exact h
 | succ d ih =>
  intro W P B n s a0 h;obtain ⟨k',t',ix',val',c',body',els'⟩:=s;obtain ⟨g0,P1,P2,P3,P4,g1,g2,⟨D1,g3⟩,⟨D2,g4⟩,g5,g6⟩:=h
  have b0:∀ {Pk:Nat→Prop} {u:Value} {L:List St},(∀ q,Pk q→B q)→RowD snc 11 51 (StX d) W Pk u L→BlAt W B d u L:=fun {Pk u L} hB hr=>by
   have h3:RowOf snc 11 W Pk (StAt W B d) u L:=rowD_row hr (fun A n x hA hx=>ih (fun q hq=>hB q (hA q hq)) hx);exact h3.keep (S:=fun _=>False) (Chg.refl _ _) (fun _ _ _=>id) (fun q hq _=>hB q hq) (fun _ _ h=>h)
  exact ⟨g0.1,g0.2.1,g0.2.2,⟨D1,exX_at D1 (fun q hq=>a0 q (g1 q (Or.inl hq))) g3⟩,⟨D2,exX_at D2 (fun q hq=>a0 q (g1 q (Or.inr (Or.inl hq)))) g4⟩,b0 (fun q hq=>a0 q (g1 q (Or.inr (Or.inr (Or.inl hq))))) g5,b0 (fun q hq=>a0 q (g1 q (Or.inr (Or.inr (Or.inr hq))))) g6⟩
def BlX (d:Nat) (W:World) (P:Nat→Prop) (u:Value) (L:List St):Prop:=RowD snc 11 51 (StX d) W P u L
theorem blX_at {d:Nat} {W:World} {P B:Nat→Prop} {u:Value} {L:List St} (hPB:∀ q,P q→B q) (h:BlX d W P u L):BlAt W B d u L:=by
 have h3:RowOf snc 11 W P (StAt W B d) u L:=rowD_row h (fun A n x hA hx=>stX_at d (fun q hq=>hPB q (hA q hq)) hx);exact h3.keep (S:=fun _=>False) (Chg.refl _ _) (fun _ _ _=>id) (fun q hq _=>hPB q hq) (fun _ _ h=>h)
theorem kp_below {α β:Type} {R:World→(Nat→Prop)→α→β→Prop} (hR:Kp R) {W W':World} {A:Nat→Prop} {a:α} {c:β} (h:R W A a c) (hb:Below W.heap.size W W'):R W' A a c:=hR W W' (fun _=>False) A A a c (Cb hb) (fun _ _ _=>id) (fun _ h _=>h) h
theorem kp_cut {α β:Type} {R:World→(Nat→Prop)→α→β→Prop} (hR:Kp R) {W:World} {b:Nat} {a:α} {c:β} (h:R W (fun q=>b≤q) a c):R W (fun q=>b≤q∧q < W.heap.size) a c:=hR W W (fun _=>False) _ _ a c (Chg.refl _ _) (fun _ _ _=>id) (fun _ h h2=>⟨h,h2⟩) h
theorem blX_below {d:Nat} {W W':World} {P:Nat→Prop} {u:Value} {L:List St} (h:BlX d W P u L) (hb:Below W.heap.size W W'):BlX d W' P u L:=rowD_keep (S:=fun _=>False) h (kpT d) (Cb hb) (fun _ _ _=>id) (fun _ h _=>h)
theorem blX_cut {d:Nat} {W:World} {b:Nat} {u:Value} {L:List St} (h:BlX d W (fun q=>b≤q) u L):BlX d W (fun q=>b≤q∧q < W.heap.size) u L:=rowD_keep (S:=fun _=>False) h (kpT d) (Chg.refl _ _) (fun _ _ _=>id) (fun _ h h2=>⟨h,h2⟩)
theorem stX_mk {d:Nat} {W:World} {P:Nat→Prop} {n:Sn} {s:St} {D1 D2 a1 b1 a2 b2 a3 b3 a4 b4:Nat} (g0:n.k=s.k∧n.t=s.t∧n.c=s.c) (h1:ExX D1 W (fun q=>a1≤q∧q < b1) n.ix s.ix) (h2:ExX D2 W (fun q=>a2≤q∧q < b2) n.val s.val)
  (h3:BlX d W (fun q=>a3≤q∧q < b3) (.slice n.bp n.bn n.bc) s.body) (h4:BlX d W (fun q=>a4≤q∧q < b4) (.slice n.ep n.en n.ec) s.els) (o:a1≤b1∧b1≤a2∧a2≤b2∧b2≤a3∧a3≤b3∧b3≤a4) (hP:∀ q,a1≤q→P q):StX (d+1) W P n s:=by
 refine ⟨g0,_,_,_,_,?_,?_,⟨D1,h1⟩,⟨D2,h2⟩,h3,h4⟩
 ·intro q hq;refine hP q ?_;rcases hq with hq | hq | hq | hq <;> have:=hq.1 <;> omega
 intro q;refine ⟨?_,?_,?_,?_,?_,?_⟩ <;> intro a c <;> have h1:=a.1 <;> have h2:=a.2 <;> have h3:=c.1 <;> have h4:=c.2 <;> omega
end Go.Proofs.Ytlckklglbodgbaa
namespace Go.Proofs.Ytlckklglbodgbaa
open Go.RowKit
mutual
def mrE (k:Int):Ex→Ex
 | .mk _ _ l=>.mk k (k+1) (mrL (k+2) l)
def mrL (k:Int):List Ex→List Ex
 | []=>[]
 | e::l=>mrE k e::mrL (k+2*(1+(exN e:Int))) l
end
mutual
def szM:St→Int
 | .mk _ _ ix v _ b e=>7+2*(exN ix:Int)+2*(exN v:Int)+szML b+szML e
def szML:List St→Int
 | []=>0
 | s::l=>szM s+szML l
end
mutual
def mrS (k:Int):St→St
 | .mk _ _ ix v _ b e=>.mk k (k+1) (mrE (k+2) ix) (mrE (k+4+2*(exN ix:Int)) v) (k+6+2*(exN ix:Int)+2*(exN v:Int)) (mrB (k+7+2*(exN ix:Int)+2*(exN v:Int)) b) (mrB (k+7+2*(exN ix:Int)+2*(exN v:Int)+szML b) e)
def mrB (k:Int):List St→List St
 | []=>[]
 | s::l=>mrS k s::mrB (k+szM s) l
end
theorem mrL_len (k:Int) (l:List Ex):(mrL k l).length=l.length:=by
 induction l generalizing k with
 | nil=>rfl
 | cons e l ih=>simp only [mrL,List.length_cons,ih]
theorem mrB_len (k:Int) (l:List St):(mrB k l).length=l.length:=by
 induction l generalizing k with
 | nil=>rfl
 | cons e l ih=>simp only [mrB,List.length_cons,ih]
theorem mrL_get (l:List Ex):∀ (k:Int) (j:Nat) (h:j < l.length) (h2:j < (mrL k l).length),(mrL k l)[j]=mrE (k+2*(exNs (l.take j):Int)) l[j]:=by
 induction l with
 | nil=>intro k j h;cases h
 | cons e l ih =>
  intro k j h h2
  cases j with
  | zero=>simp [mrL,exNs]
  | succ j =>
   simp only [mrL,List.getElem_cons_succ,List.take_succ_cons,exNs];rw [ih _ j (by simpa using h) (by rw [mrL_len];simpa using h)];congr 1
   omega
theorem szML_take (l:List St):∀ (j:Nat) (h:j < l.length),szML (l.take (j+1))=szML (l.take j)+szM l[j]:=by
 induction l with
 | nil=>intro j h;cases h
 | cons s l ih =>
  intro j h
  cases j with
  | zero=>simp [szML]
  | succ j =>
   simp only [List.take_succ_cons,szML,List.getElem_cons_succ];rw [ih j (by simpa using h)];omega
theorem szM_ge:∀ s:St,0≤szM s∧(1+stN1 s:Int)≤szM s∧szM s≤7*(1+stN1 s:Int):=by
 have a0:∀ (d:Nat) (s:St),stN1 s≤d→0≤szM s∧(1+stN1 s:Int)≤szM s∧szM s≤7*(1+stN1 s:Int):=by
  intro d
  induction d with
  | zero =>
   intro s h;obtain ⟨k,t,ix,v,c,b,e⟩:=s;simp only [stN1] at h
   cases b with
   | cons a l=>simp [stNs] at h
   | nil =>
    cases e with
    | cons a l=>simp [stNs] at h
    | nil=>simp only [szM,szML,stN1,stNs];omega
  | succ d ih =>
   intro s h;obtain ⟨k,t,ix,v,c,b,e⟩:=s
   have kl:∀ l:List St,stNs l≤d+1→(stNs l:Int)≤szML l∧szML l≤7*(stNs l:Int):=by
    intro l
    induction l with
    | nil=>intro _;simp [szML,stNs]
    | cons a l ihl =>
     intro hl;simp only [stNs] at hl;have h1:=ih a (by omega);have h2:=ihl (by omega);simp only [szML,stNs];omega
   simp only [stN1] at h;have h1:=kl b (by omega);have h2:=kl e (by omega);simp only [szM,stN1];omega
 exact fun s=>a0 _ s Lr
theorem szML_ge (l:List St):(stNs l:Int)≤szML l∧szML l≤7*(stNs l:Int):=by
 induction l with
 | nil=>simp [szML,stNs]
 | cons s l ih=>have:=szM_ge s;simp only [szML,stNs];omega
theorem szML_le (l:List St) (j:Nat):0≤szML (l.take j)∧szML (l.take j)≤szML l:=by
 induction l generalizing j with
 | nil=>simp [szML]
 | cons s l ih =>
  have h0:=szM_ge s
  cases j with
  | zero=>simp only [List.take_zero,szML];have:=szML_ge l;omega
  | succ j=>simp only [List.take_succ_cons,szML];have:=ih j;omega
theorem mrB_get (l:List St):∀ (k:Int) (j:Nat) (h:j < l.length) (h2:j < (mrB k l).length),(mrB k l)[j]=mrS (k+szML (l.take j)) l[j]:=by
 induction l with
 | nil=>intro k j h;cases h
 | cons e l ih =>
  intro k j h h2
  cases j with
  | zero=>simp [mrB,szML]
  | succ j =>
   simp only [mrB,List.getElem_cons_succ,List.take_succ_cons,szML];rw [ih _ j (by simpa using h) (by rw [mrB_len];simpa using h)];congr 1
   omega
def mix {β:Type} (j:Nat) (M L:List β):List β:=M.take j++L.drop j
theorem mix_len {β:Type} (j:Nat) {M L:List β} (h:M.length=L.length) (hj:j≤L.length):(mix j M L).length=L.length:=by
 unfold mix;rw [List.length_append,List.length_take,List.length_drop];omega
theorem mix_get {β:Type} {j:Nat} {M L:List β} (h:M.length=L.length) (hj:j < L.length) (h2:j < (mix j M L).length):(mix j M L)[j]=L[j]:=by
 apply Option.some.inj
 rw [← List.getElem?_eq_getElem,← List.getElem?_eq_getElem];unfold mix
 rw [List.getElem?_append_right (by rw [List.length_take];omega),List.getElem?_drop,List.length_take];congr 1;omega
theorem mix_set {β:Type} {j:Nat} {M L:List β} (h:M.length=L.length) (hj:j < L.length) (hm:j < M.length):(mix j M L).set j M[j]=mix (j+1) M L:=by
 unfold mix
 have h1:(M.take j).length=j:=by rw [List.length_take];omega
 rw [List.set_append_right _ _ (by omega),h1,Nat.sub_self,List.drop_eq_getElem_cons hj,List.set_cons_zero,List.take_succ_eq_append_getElem hm,List.append_assoc];rfl
theorem mix_all {β:Type} {M L:List β} (h:M.length=L.length):mix L.length M L=M:=by
 unfold mix
 rw [List.take_of_length_le (by omega),List.drop_of_length_le Lr,List.append_nil]
theorem rows_num {α:Type} {f:α→List Value} {sz:Nat} (hf:∀ x,(f x).length=sz) (l:List α) (k:Nat) (h:k < l.length) (i:Nat) (hi:i < sz) (v:Value) (m x:α) (hx:f x=(f m).set i v):(rows f (l.set k m)).set (k*sz+i) v=rows f (l.set k x):=by
 induction l generalizing k with
 | nil=>cases h
 | cons e l ih =>
  cases k with
  | zero =>
   simp only [List.set_cons_zero,rows,Nat.zero_mul,Nat.zero_add];rw [List.set_append_left _ _ (by rw [hf];exact hi),hx]
  | succ k =>
   simp only [List.set_cons_succ,rows];have e1:(k+1)*sz+i=(f e).length+(k*sz+i):=by rw [hf,Nat.succ_mul];omega
   rw [e1,List.set_append_right _ _ (by omega),Nat.add_sub_cancel_left,ih k (by simpa using h)]
theorem own_num {α:Type} {f:α→List Value} {sz:Nat} (hf:∀ x,(f x).length=sz) {w:World} {base:Nat} {e:TypeId} {g n cap:Nat} {rs:List α} {j:Nat} {m:α} (ho:w.ownsRow base e sz (.slice (some ⟨g,0,none⟩) n cap) n (rows f (rs.set j m))) (hj:j < rs.length) (i:Nat) (hi:i < sz) (v:Value) (x:α) (hx:f x=(f m).set i v) :
  (w.setCell ⟨g,j*sz+i,none⟩ v).ownsRow base e sz (.slice (some ⟨g,0,none⟩) n cap) n (rows f (rs.set j x)):=by
 have h:=(ho.stored (j*sz+i) v).1;rw [rows_num hf rs j hj i hi v m x hx] at h;exact h
section
variable {α β:Type} {f:α→List Value} {sz:Nat} {e:TypeId} {R:World→(Nat→Prop)→α→β→Prop} {W W':World} {u:Value} {l:List β} {P:Nat→Prop}
theorem rowD_open (h:RowD f sz e R W P u l) (j:Nat) (hj:j < l.length):∃ (base:Nat) (rs:List α) (A:Nat→Prop) (n:α),j < rs.length∧W.ownsRow base e sz u l.length (rows f (rs.set j n))∧R W A n l[j]∧(∀ q,A q→P q∧q < W.heap.size∧¬u.ownBlock=some q)∧(∀ q,u.ownBlock=some q→P q∧q < W.heap.size) ∧
  (∀ (W':World) (n':α) (x':β),Kp R→Chg (fun q=>A q∨u.ownBlock=some q) W W'→W'.ownsRow base e sz u l.length (rows f (rs.set j n'))→R W' A n' x'→RowD f sz e R W' P u (l.set j x')):=by
 obtain ⟨b,rs,Q,a1,a2,a3,a4,a5,a6⟩:=h;have hj':j < rs.length:=by omega
 refine ⟨b,rs,Q j,rs[j],hj',by rw [List.set_getElem_self];exact a2,a6 j hj' hj,fun q hq=>a4 j q hq,fun q hq=>⟨a3 q hq,(a2.lt q hq).2⟩,?_⟩;intro W' n' x' hR hc ho hx;have a0:=hc.size;refine ⟨b,rs.set j n',Q,by simp [a1],by rw [List.length_set];exact ho,a3,fun i q hq=>⟨(a4 i q hq).1,by have:=(a4 i q hq).2.1;omega,(a4 i q hq).2.2⟩,a5,?_⟩;intro i h1 h2;rw [List.length_set] at h1 h2;by_cases hij:j=i
 ·subst hij;rw [List.getElem_set_self,List.getElem_set_self];exact hx
 rw [List.getElem_set_ne hij,List.getElem_set_ne hij];refine hR W W' _ _ _ _ _ hc (fun q hq _ h=>?_) (fun q hq _=>hq) (a6 i h1 h2);rcases h with h | h
 ·exact a5 j i q hij h hq
 exact (a4 i q hq).2.2 h
theorem rowD_own (h:RowD f sz e R W P u l):∃ b xs,W.ownsRow b e sz u l.length xs:=by obtain ⟨b,rs,_,_,h,_⟩:=h;exact ⟨b,_,h⟩
theorem rowD_len (h:RowD f sz e R W P u l):l.length≤9223372036854775807:=by obtain ⟨b,xs,h⟩:=rowD_own h;exact own_len h
end
def MxE (d:Nat) (P:Nat→Prop) (u:Value) (L:List Ex) (k:Int) (w:World) (r:Ending) (w':World):Prop:=r=.returned (.int .i64 (k+2*(exNs L:Int)))∧RowD enc 3 49 (ExX d) w' P u (mrL k L)∧Chg P w w'
def MxS (d:Nat) (P:Nat→Prop) (u:Value) (L:List St) (k:Int) (w:World) (r:Ending) (w':World):Prop:=r=.returned (.int .i64 (k+szML L))∧BlX d w' P u (mrB k L)∧Chg P w w'
end Go.Proofs.Ytlckklglbodgbaa
