/-
 Parts of the proofs of the laws FnExactProductProgram.
-/
import Derived.Lib.SmallJoins
import Derived.Test.YtlckklglbodgbaaPT
set_option linter.all false
namespace Go.Proofs.Ytlckklglbodgbaa
open Go.RowKit Go.ChangeShapes Go.WideShapes
variable {H:Type} {enc:TypeId × Value→H} {P:Program} {w:World} {base:Nat} {spare:Nat→Bool} {held:Bool}
theorem rd_ints {t e:TypeId} {fuel:Nat} {c:Value} {x:DataW H × List MemPlace} (ht:P.underlying t=some (.slice e)) (he:P.underlying e=some (.int .i64)) (hc:P.cellsOf e=1)
  (h:DataW.trod enc P w base spare held fuel t [c]=some x):∃ xs:List Int,Reads w 1 c xs.length (ints xs)∧∀ n ∈ xs,(Lit.int .i64 n).wf=true:=by
 rcases open_ints ht he hc h with ⟨hcs,_⟩ | ⟨a,len,cap,zs,hcs,_,hl,hm,hz,_,hcell,hwz⟩
 ·simp only [List.cons.injEq,and_true] at hcs;subst hcs;exact ⟨[],Ro (World.ownsRow_nil w 0 0 1) (by simp),fun n hn=>by cases hn⟩
 simp only [List.cons.injEq,and_true] at hcs;subst hcs;have g0:len≤zs.length:=by rw [hz];split <;> omega
 have d0:(zs.take len).length=len:=by rw [List.length_take];omega
 refine ⟨zs.take len,?_,fun n hn=>hwz n (List.mem_of_mem_take hn)⟩;rw [d0];obtain ⟨b,f0,b0⟩:=a;refine ⟨by rw [ints_length,d0];omega,by unfold maxLen at hm;omega,some ⟨b,f0,b0⟩,cap,b,f0,rfl,⟨hl,fun h=>by cases h⟩,?_,?_⟩
 ·intro h0;have c0:=hcell 0 (by omega);have a0:b0=none:=by simpa [Addr.add] using World.cell?_spot c0
  subst a0;exact ⟨rfl,by have:=World.block_lt_of_cell? w _ c0;simpa [Addr.add] using this⟩
 intro j hj;have hj':j < len:=by rw [ints_length,d0] at hj;exact hj
 have c0:=hcell 0 (by omega);have a0:b0=none:=by simpa [Addr.add] using World.cell?_spot c0
 subst a0;have e0:=hcell j (by omega);rw [addr_add] at e0;rw [e0,ints_get,List.getElem_take];congr 2
 simp only [List.getD_eq_getElem?_getD];rw [List.getElem?_eq_getElem (by omega)];rfl
end Go.Proofs.Ytlckklglbodgbaa
namespace Go.Proofs.Ytlckklglbodgbaa
open Go.RowKit Go.ChangeShapes Go.WideShapes Go.Deep Go.Joins
variable {H:Type} {enc':TypeId × Value→H} {P:Program} {w:World} {base:Nat} {spare:Nat→Bool} {held:Bool}
theorem rd_rowof {α β:Type} {f:α→List Value} {sz:Nat} (hf:∀ x,(f x).length=sz) (h0:0 < sz) {R:α→β→Prop} {t e:TypeId} {fuel:Nat} {c:Value} {x:DataW H × List MemPlace}
  (ht:P.underlying t=some (.slice e)) (hC:P.cellsOf e=sz) (hel:∀ n cs y,n < fuel→DataW.trod enc' P w base spare held n e cs=some y→∃ a b,cs=f a∧R a b)
  (h:DataW.trod enc' P w base spare held fuel t [c]=some x):∃ l:List β,RowOf f sz w (fun _=>True) R c l:=by
 rcases DataW.trod_slice ht h with ⟨hcs,_⟩ | ⟨a,len,cap,elems,rest,n,hfu,hcs,_,_,hl,hm,hlen,hel2,_,_⟩
 ·simp only [List.cons.injEq,and_true] at hcs;subst hcs;exact ⟨[],RowOf.nil⟩
 simp only [List.cons.injEq,and_true] at hcs;subst hcs;rw [hC] at hel2
 have d0:∀ i:Fin len,∃ q:α × β,R q.1 q.2∧∀ j,j < sz→w.cell? (a.add (i.1*sz+j))=(f q.1)[j]?:=by
  intro i;have j0:=hel2 i.1 i.2;rw [List.getElem?_eq_getElem (by have:=i.2;omega)] at j0;obtain ⟨cs',hc,ht'⟩:=Option.bind_eq_some_iff.1 j0;obtain ⟨_,n0,k0⟩:=World.cells?_some hc;obtain ⟨A,B,hcs',hR⟩:=hel n cs' _ (by omega) ht';refine ⟨(A,B),hR,fun j hj=>?_⟩;rw [← Go.Deep.add_add,k0 j hj,hcs']
 obtain ⟨Q,i0,hQ⟩:∃ Q:List (α × β),Q.length=len∧∀ (i:Nat) (h:i < Q.length),R Q[i].1 Q[i].2∧∀ j,j < sz→w.cell? (a.add (i*sz+j))=(f Q[i].1)[j]?:=by
  refine ⟨List.ofFn (fun i:Fin len=>Classical.choose (d0 i)),by simp,fun i hi=>?_⟩;rw [List.getElem_ofFn];have l0:i < len:=by simpa using hi
  exact Classical.choose_spec (d0 ⟨i,l0⟩)
 refine ⟨Q.map (·.2),Q.map (·.1),by simp,?_,fun _ _ _ _ _=>trivial,fun j h1 h2=>?_⟩
 ·have e0:=rows_length hf (Q.map (·.1))
  rw [List.length_map,i0] at e0;rw [List.length_map,i0];obtain ⟨b,g0,b0⟩:=a
  have hX:∀ i j,i < len→j < sz→w.cell? (Addr.add ⟨b,g0,b0⟩ (i*sz+j))=(rows f (Q.map (·.1)))[i*sz+j]?:=fun i j hi hj=>by
   rw [(hQ i (by omega)).2 j hj];have:=rows_get hf (Q.map (·.1)) i (by simp;omega) j hj
   rw [this];simp only [List.getElem_map]
  have a0:0 < len→b0=none∧b < w.heap.size:=fun hp=>by
   have c0:=hX 0 0 hp h0;rw [List.getElem?_eq_getElem (by rw [e0];have:=Nat.mul_pos hp h0;omega)] at c0;have f0:b0=none:=by simpa [Addr.add] using World.cell?_spot c0
   exact ⟨f0,by have:=World.block_lt_of_cell? w _ c0;simpa [Addr.add] using this⟩
  refine ⟨e0,by unfold maxLen at hm;omega,some ⟨b,g0,b0⟩,cap,b,g0,rfl,⟨hl,fun h=>by cases h⟩,?_,?_⟩
  ·intro hp;obtain ⟨rfl,hb⟩:=a0 hp;exact ⟨rfl,hb⟩
  intro p hp;rw [e0] at hp;have hq:p / sz < len:=Nat.div_lt_of_lt_mul (by rw [Nat.mul_comm];exact hp);have hr:p % sz < sz:=Nat.mod_lt _ h0;have m0:p / sz*sz+p % sz=p:=by rw [Nat.mul_comm];exact Nat.div_add_mod p sz
  obtain ⟨rfl,_⟩:=a0 (Nat.lt_of_le_of_lt (Nat.zero_le _) hq);have c0:=hX (p / sz) (p % sz) hq hr;rw [m0,addr_add] at c0;exact c0.trans (List.getElem?_eq_getElem (by rw [e0];exact hp))
 simp only [List.getElem_map];exact (hQ j (by simpa using h1)).1
structure TyE (P:Program) (e:TypeId) (f0 f1 f2:Field):Prop where
 u:P.underlying e=some (.struct #[f0,f1,f2])
 c:P.cellsOf e=3
 i0:P.underlying f0.type=some (.int .i64)
 i1:P.underlying f1.type=some (.int .i64)
 i2:P.underlying f2.type=some (.slice e)
 o0:f0.offset=0
 o1:f1.offset=1
 o2:f2.offset=2
 n0:P.cellsOf f0.type=1
 n1:P.cellsOf f1.type=1
 n2:P.cellsOf f2.type=1
theorem rd_ex {e:TypeId} {f0 f1 f2:Field} (hT:TyE P e f0 f1 f2):∀ (N fuel:Nat) (cs:List Value) (y:DataW H × List MemPlace),fuel≤N→DataW.trod enc' P w base spare held fuel e cs=some y→∃ (n:En) (x:Ex),cs=enc n∧ExAt w (fun _=>True) fuel n x:=by
 intro N
 induction N with
 | zero =>
  intro fuel cs y hN h;obtain ⟨ys,n,hn,_⟩:=DataW.trod_struct hT.u h;omega
 | succ N ih =>
  intro fuel cs y hN h;obtain ⟨ys,n,hn,_,a0,b0,hg⟩:=DataW.trod_struct hT.u h;subst hn;rw [hT.c] at a0;have d0:ys.length=3:=b0
  match cs,a0 with
  | [c0,c1,c2],_ =>
   have g0:=hg 0 f0 rfl;have g1:=hg 1 f1 rfl;have g2:=hg 2 f2 rfl;rw [hT.o0,hT.n0,List.getElem?_eq_getElem (by omega)] at g0;rw [hT.o1,hT.n1,List.getElem?_eq_getElem (by omega)] at g1;rw [hT.o2,hT.n2,List.getElem?_eq_getElem (by omega)] at g2;obtain ⟨z0,h0,_⟩:=DataW.trod_int hT.i0 g0;obtain ⟨z1,j0,_⟩:=DataW.trod_int hT.i1 g1;have e0:c0=.int .i64 z0:=by simpa using h0
   have e1:c1=.int .i64 z1:=by simpa using j0
   subst e0 e1
   obtain ⟨l,hl⟩:=rd_rowof (f:=enc) (R:=ExAt w (fun _=>True) n) (c:=c2) enc_len (by omega) hT.i2 hT.c (fun m cs' y' hm h'=>by
    obtain ⟨a,b,h1,h2⟩:=ih m cs' y' (by omega) h';exact ⟨a,b,h1,ExAt.keep (S:=fun _=>False) (Chg.refl _ _) (fun _ _ _=>id) (fun _ h _=>h) (Nat.le_of_lt hm) h2⟩) g2
   obtain ⟨a,c,rfl⟩:=hl.shape;exact ⟨⟨z0,z1,a,l.length,c⟩,.mk z0 z1 l,rfl,rfl,rfl,hl⟩
structure TyS (P:Program) (s e:TypeId) (f0 f1 f2 f3 f4 f5 f6:Field):Prop where
 u:P.underlying s=some (.struct #[f0,f1,f2,f3,f4,f5,f6])
 c:P.cellsOf s=11
 i0:P.underlying f0.type=some (.int .i64)
 i1:P.underlying f1.type=some (.int .i64)
 i2:f2.type=e
 i3:f3.type=e
 i4:P.underlying f4.type=some (.int .i64)
 i5:P.underlying f5.type=some (.slice s)
 i6:P.underlying f6.type=some (.slice s)
 o0:f0.offset=0∧P.cellsOf f0.type=1
 o1:f1.offset=1∧P.cellsOf f1.type=1
 o2:f2.offset=2∧P.cellsOf f2.type=3
 o3:f3.offset=5∧P.cellsOf f3.type=3
 o4:f4.offset=8∧P.cellsOf f4.type=1
 o5:f5.offset=9∧P.cellsOf f5.type=1
 o6:f6.offset=10∧P.cellsOf f6.type=1
theorem rd_st {s e:TypeId} {e0 e1 e2 f0 f1 f2 f3 f4 f5 f6:Field} (hE:TyE P e e0 e1 e2) (hT:TyS P s e f0 f1 f2 f3 f4 f5 f6):∀ (N fuel:Nat) (cs:List Value) (y:DataW H × List MemPlace),fuel≤N→DataW.trod enc' P w base spare held fuel s cs=some y→∃ (n:Sn) (x:St),cs=snc n∧StAt w (fun _=>True) fuel n x:=by
 intro N
 induction N with
 | zero =>
  intro fuel cs y hN h;obtain ⟨ys,n,hn,_⟩:=DataW.trod_struct hT.u h;omega
 | succ N ih =>
  intro fuel cs y hN h;obtain ⟨ys,n,hn,_,a0,n0,hg⟩:=DataW.trod_struct hT.u h;subst hn;rw [hT.c] at a0;have p0:ys.length=7:=n0
  match cs,a0 with
  | [c0,c1,c2,c3,c4,c5,c6,c7,c8,c9,c10],_ =>
   have g0:=hg 0 f0 rfl;have g1:=hg 1 f1 rfl;have g2:=hg 2 f2 rfl;have g3:=hg 3 f3 rfl;have g4:=hg 4 f4 rfl;have g5:=hg 5 f5 rfl;have g6:=hg 6 f6 rfl;rw [hT.o0.1,hT.o0.2,List.getElem?_eq_getElem (by omega)] at g0;rw [hT.o1.1,hT.o1.2,List.getElem?_eq_getElem (by omega)] at g1;rw [hT.o2.1,hT.o2.2,hT.i2,List.getElem?_eq_getElem (by omega)] at g2;rw [hT.o3.1,hT.o3.2,hT.i3,List.getElem?_eq_getElem (by omega)] at g3;rw [hT.o4.1,hT.o4.2,List.getElem?_eq_getElem (by omega)] at g4;rw [hT.o5.1,hT.o5.2,List.getElem?_eq_getElem (by omega)] at g5;rw [hT.o6.1,hT.o6.2,List.getElem?_eq_getElem (by omega)] at g6;obtain ⟨z0,q0,_⟩:=DataW.trod_int hT.i0 g0;obtain ⟨z1,r0,_⟩:=DataW.trod_int hT.i1 g1;obtain ⟨z4,s0,_⟩:=DataW.trod_int hT.i4 g4;obtain ⟨n2,x2,j0,l0⟩:=rd_ex hE n n _ _ Lr g2;obtain ⟨n3,x3,k0,m0⟩:=rd_ex hE n n _ _ Lr g3
   have h0:∀ (m:Nat) (cs':List Value) (y':DataW H × List MemPlace),m < n→DataW.trod enc' P w base spare held m s cs'=some y'→∃ (a:Sn) (b:St),cs'=snc a∧StAt w (fun _=>True) n a b:=fun m cs' y' hm h'=>by
    obtain ⟨a,b,h1,h2⟩:=ih m cs' y' (by omega) h';exact ⟨a,b,h1,StAt.keep (S:=fun _=>False) (Chg.refl _ _) (fun _ _ _=>id) (fun _ h _=>h) (Nat.le_of_lt hm) h2⟩
   obtain ⟨l5,b0⟩:=rd_rowof (f:=snc) (R:=StAt w (fun _=>True) n) (c:=c9) snc_len (by omega) hT.i5 hT.c h0 g5;obtain ⟨l6,d0⟩:=rd_rowof (f:=snc) (R:=StAt w (fun _=>True) n) (c:=c10) snc_len (by omega) hT.i6 hT.c h0 g6;obtain ⟨a5,b5,rfl⟩:=b0.shape;obtain ⟨a6,b6,rfl⟩:=d0.shape;have e0:c0=.int .i64 z0:=by simpa using q0
   have e1:c1=.int .i64 z1:=by simpa using r0
   have e4:c8=.int .i64 z4:=by simpa using s0
   have e2:[c2,c3,c4]=enc n2:=by simpa using j0
   have e3:[c5,c6,c7]=enc n3:=by simpa using k0
   simp only [enc,List.cons.injEq,and_true] at e2 e3;obtain ⟨rfl,rfl,rfl⟩:=e2;obtain ⟨rfl,rfl,rfl⟩:=e3;subst e0 e1 e4;exact ⟨⟨z0,z1,n2,n3,z4,a5,l5.length,b5,a6,l6.length,b6⟩,.mk z0 z1 x2 x3 z4 l5 l6,rfl,rfl,rfl,rfl,⟨_,l0⟩,⟨_,m0⟩,b0,d0⟩
theorem op_program {r:Reach} {b0:Nat} {t ti s e:TypeId} {k0 k1 k2 e0 e1 e2 f0 f1 f2 f3 f4 f5 f6:Field} {v:Value} {d:DataW H} {p:List MemPlace} (hs:P.underlying t=some (.struct #[k0,k1,k2])) (hk:oneCellFields P #[k0,k1,k2]=true) (hC:P.cellsOf t=3)
  (ht0:P.underlying k0.type=some (.slice ti)) (ht1:P.underlying k1.type=some (.slice ti)) (hi:P.underlying ti=some (.int .i64)) (hci:P.cellsOf ti=1)
  (ht2:P.underlying k2.type=some (.slice s)) (hE:TyE P e e0 e1 e2) (hT:TyS P s e f0 f1 f2 f3 f4 f5 f6)
  (hv:Value.okWide P w r b0 t v) (h:DataW.Trod enc' P w base spare held t v d p) :
  ∃ (c0 c1 c2:Value) (xs ys:List Int) (D:Nat) (L:List St),v=.agg #[c0,c1,c2]∧Reads w 1 c0 xs.length (ints xs)∧Reads w 1 c1 ys.length (ints ys)∧BlAt w (fun _=>True) D c2 L:=by
 obtain ⟨c0,c1,c2,y0,y1,y2,n,rfl,_,_,g0,g1,g2⟩:=open_agg3 hs hk hC hv h;obtain ⟨xs,r0,_⟩:=rd_ints ht0 hi hci g0;obtain ⟨ys,r1,_⟩:=rd_ints ht1 hi hci g1
 obtain ⟨L,r2⟩:=rd_rowof (f:=snc) (R:=StAt w (fun _=>True) n) (c:=c2) snc_len (by omega) ht2 hT.c (fun m cs' y' hm h'=>by
  obtain ⟨a,b,h1,h2⟩:=rd_st hE hT m m cs' y' Lr h';exact ⟨a,b,h1,StAt.keep (S:=fun _=>False) (Chg.refl _ _) (fun _ _ _=>id) (fun _ h _=>h) (Nat.le_of_lt hm) h2⟩) g2
 exact ⟨c0,c1,c2,xs,ys,n,L,rfl,r0,r1,r2⟩
end Go.Proofs.Ytlckklglbodgbaa
