/-
 Parts of the proofs of the laws FnExactProductProgram.
-/
import Derived.Test.YtlckklglbodgbaaOE5
set_option maxHeartbeats 12800000
set_option maxRecDepth 100000
set_option linter.all false
namespace Go.Proofs.Ytlckklglbodgbaa
open Go.RowKit
theorem heldExprS_xof (B:Nat→Prop) (D:Nat) (IH0:∀ D',D=D'+1→∀ (u:Value) (L:List Ex) (k:Int) (w:World),RowOf enc 3 w B (ExAt w B D') u (mrL k L)→0≤k→k+2*(exNs L:Int)≤1000000000→Calls Try.prog 68 #[u,.int .i64 k] w fun r w'=>r=.returned (.int .i64 (k+2*(exNs L:Int)))∧Below w.heap.size w w') (u:Value) (L:List Ex) (k:Int) (w:World) (hx:RowOf enc 3 w B (ExAt w B D) u (mrL k L)) (h0:0≤k) (hk:k+2*(exNs L:Int)≤1000000000):Calls Try.prog 68 #[u,.int .i64 k] w fun r w'=>r=.returned (.int .i64 (k+2*(exNs L:Int)))∧Below w.heap.size w w':=by
 have IH:=Hi IH0;clear IH0;have b0:(mrL k L).length=L.length:=mrL_len k L;obtain ⟨pu,cu,hu⟩:=RowOf.shape hx;rw [b0] at hu;subst hu;have s0:L.length≤9223372036854775807:=by have:=exNs_len L;omega
 have HK:=Hi (fun W (hW:Below w.heap.size w W) j (hj:j < L.length)=>show ∃ b o m,pu=some ⟨b,o,none⟩∧b < W.heap.size∧ExAt W B D m (mrE (k+2*(exNs (L.take j):Int)) L[j])∧W.cell? ⟨b,o+j*3,none⟩=some (.int .i64 m.k)∧W.cell? ⟨b,o+j*3+1,none⟩=some (.int .i64 m.v)∧W.cell? ⟨b,o+j*3+2,none⟩=some (.slice m.p m.n m.c) from by
  have c0:=(RowOf.keep (S:=fun _=>False) hx (Cb hW) (fun _ _ _=>id) (fun _ h _=>h) (fun _ _ h=>ExAt.below h hW):RowOf enc 3 W B (ExAt W B D) _ (mrL k L));have h:=szRow_at (L:=mrL k L) (cu:=cu) (by rw [b0];exact c0) j (by rw [b0];exact hj);rw [mrL_get L k j hj] at h;exact h)
 clear hx b0;have l0:=Hi (fun j (h:j < L.length)=>Ai (exNs_take h) (exNs_le L (j+1) h));have k0:=Hi (exNs_all L);go_enter Try.func68,Try.ntmps68
 go_wp2
 go_loopw [1,5] (fun m i wr=>∃ (j:Nat) (x:Int),j≤L.length∧i=.int .i64 j∧m=.int .i64 x∧Hid (x=k+2*(exNs (L.take j):Int))∧Below w.heap.size w wr) (fun _ i _=>L.length-(intOf i).toNat)
 case atStart=>exact ⟨0,k,Nat.zero_le _,rfl,rfl,Hi (by simp [exNs,szML]),Bs _⟩
 case round =>
  obtain ⟨j,x,hj,rfl,rfl,HX,hB⟩:=hrel;by_cases hlt:j < L.length
  ·have p0:(j:Int) < (L.length:Int):=by omega
   obtain ⟨d0,j0⟩:=l0.out j hlt;rw [d0] at j0;have f0:=Hi d0;clear d0;have c0:=HX.out;have v0:0≤x:=by omega
   have q0:x+2*(1+(exN L[j]:Int))≤1000000000:=by omega
   obtain ⟨b,o,m,hp,r0,hm,e0,e1,e2⟩:=HK.out wr hB j hlt;subst hp;rw [← c0] at hm;clear j0 c0;generalize L[j]=y at *
   obtain ⟨ya,yb,yl⟩:=y;simp only [exN] at q0 f0;obtain ⟨D',hD⟩:∃ D',D=D'+1:=by cases D with | zero=>cases hm | succ d=>exact ⟨d,rfl⟩
   have o0:=Hi (IH.out D' hD);subst hD;obtain ⟨g0,g1,a0⟩:=hm;replace g0:m.k=x:=g0;replace g1:m.v=x+1:=g1;rw [g0] at e0;rw [g1] at e1;clear g0 g1;replace a0:RowOf enc 3 wr B (ExAt wr B D') m.u (mrL (x+1+1) yl):=by rw [show x+1+1=x+2 by omega];exact a0
   go_wp2_with fail
   refine (o0.out _ yl (x+1+1) _ (a0) (by omega) (by omega)).mono ?_;rintro e w1 ⟨rfl,i0⟩;have t0:¬(x+1+1+2*(exNs yl:Int)) < 0:=by omega
   have HT:=Hi (btr hB i0);clear i0 hB e0 e1 e2 a0;have m0:Hid (x+1+1+2*(exNs yl:Int)=k+2*(exNs (L.take (j+1)):Int)):=Hi (by rw [f0.out];have:=HX.out;omega);go_wp2
   go_roundw
   case rel=>exact ⟨j+1,_,by omega,by go_num,rfl,m0,HT.out⟩
   case measure=>simp [intOf];omega
  have e:j=L.length:=by omega
  subst e;have p0:decide (((L.length:Nat):Int) < (L.length:Int))=false:=decide_eq_false (by omega);have n0:Hid (x=k+2*(exNs L:Int)):=Hi (by have:=HX.out;rw [k0.out] at this;exact this);go_wp2
  go_ret
  exact ⟨by rw [n0.out];rfl,hB⟩
theorem heldExprS_x (B:Nat→Prop):∀ (D:Nat) (u:Value) (L:List Ex) (k:Int) (w:World),RowOf enc 3 w B (ExAt w B D) u (mrL k L)→0≤k→k+2*(exNs L:Int)≤1000000000→Calls Try.prog 68 #[u,.int .i64 k] w fun r w'=>r=.returned (.int .i64 (k+2*(exNs L:Int)))∧Below w.heap.size w w':=by
 intro D
 induction D with
 | zero=>exact heldExprS_xof B 0 (fun D' h=>by omega)
 | succ D ih =>
  refine heldExprS_xof B (D+1) (fun D' h=>?_);obtain rfl:D=D':=by omega
  exact ih
theorem heldStmtS_xof (B:Nat→Prop) (D:Nat) (IH0:∀ D',D=D'+1→∀ (u:Value) (L:List St) (k:Int) (w:World),BlAt w B D' u (mrB k L)→0≤k→k+szML L≤1000000000→Calls Try.prog 41 #[u,.int .i64 k] w fun r w'=>r=.returned (.int .i64 (k+szML L))∧Below w.heap.size w w') (u:Value) (L:List St) (k:Int) (w:World) (hx:BlAt w B D u (mrB k L)) (h0:0≤k) (hk:k+szML L≤1000000000):Calls Try.prog 41 #[u,.int .i64 k] w fun r w'=>r=.returned (.int .i64 (k+szML L))∧Below w.heap.size w w':=by
 have IH:=Hi IH0;clear IH0;have HE:=Hi (heldExprS_x B);have m0:(mrB k L).length=L.length:=mrB_len k L;obtain ⟨pu,cu,hu⟩:=RowOf.shape hx;rw [m0] at hu;subst hu;have f2:L.length≤9223372036854775807:=by have:=szML_ge L;have:=stNs_len L;omega
 have HK:=Hi (fun W (hW:Below w.heap.size w W) j (hj:j < L.length)=>show ∃ b o m,pu=some ⟨b,o,none⟩∧b < W.heap.size∧StAt W B D m (mrS (k+szML (L.take j)) L[j])∧W.cell? ⟨b,o+j*11,none⟩=some (.int .i64 m.k)∧W.cell? ⟨b,o+j*11+1,none⟩=some (.int .i64 m.t)∧W.cell? ⟨b,o+j*11+2,none⟩=some (.int .i64 m.ix.k)∧W.cell? ⟨b,o+j*11+3,none⟩=some (.int .i64 m.ix.v)∧W.cell? ⟨b,o+j*11+4,none⟩=some (.slice m.ix.p m.ix.n m.ix.c)∧W.cell? ⟨b,o+j*11+5,none⟩=some (.int .i64 m.val.k)∧W.cell? ⟨b,o+j*11+6,none⟩=some (.int .i64 m.val.v)∧W.cell? ⟨b,o+j*11+7,none⟩=some (.slice m.val.p m.val.n m.val.c)∧W.cell? ⟨b,o+j*11+8,none⟩=some (.int .i64 m.c)∧W.cell? ⟨b,o+j*11+9,none⟩=some (.slice m.bp m.bn m.bc)∧W.cell? ⟨b,o+j*11+10,none⟩=some (.slice m.ep m.en m.ec) from by
  have q0:=(BlAt.below hx hW:RowOf _ _ _ _ _ _ _);have h:=szSt_at (L:=mrB k L) (cu:=cu) (by rw [m0];exact q0) j (by rw [m0];exact hj);rw [mrB_get L k j hj] at h;exact h)
 clear hx m0;have j1:=Hi (fun j (h:j < L.length)=>Ai (szML_take L j h) (Ai (szML_le L (j+1)).2 (szML_le L j).1));have i1:Hid (szML (L.take L.length)=szML L):=Hi (by rw [List.take_of_length_le Lr]);go_enter Try.func41,Try.ntmps41
 go_wp2
 go_loopw [1,5] (fun m i wr=>∃ (j:Nat) (x:Int),j≤L.length∧i=.int .i64 j∧m=.int .i64 x∧Hid (x=k+szML (L.take j))∧Below w.heap.size w wr) (fun _ i _=>L.length-(intOf i).toNat)
 case atStart=>exact ⟨0,k,Nat.zero_le _,rfl,rfl,Hi (by simp [exNs,szML]),Bs _⟩
 case round =>
  obtain ⟨j,x,hj,rfl,rfl,HX,hB⟩:=hrel;by_cases hlt:j < L.length
  ·have s1:(j:Int) < (L.length:Int):=by omega
   obtain ⟨v0,h1,t1⟩:=j1.out j hlt;rw [v0] at h1;have z0:=Hi v0;clear v0;have q0:=HX.out;have h2:0≤x:=by omega
   have v1:x+szM L[j]≤1000000000:=by omega
   obtain ⟨b,o,m,hp,b2,hm,e0,e1,e2,e3,e4,e5,e6,e7,e8,e9,c0⟩:=HK.out wr hB j hlt;subst hp;rw [← q0] at hm;clear h1 q0 t1;generalize L[j]=y at *
   obtain ⟨D',hD⟩:=stAt_pos hm;have a1:=Hi (IH.out D' hD);subst hD;obtain ⟨y1,y2,yx,yv,y3,yb,ye⟩:=y;obtain ⟨xa,xb,xl⟩:=yx;obtain ⟨va,vb,vl⟩:=yv;simp only [szM,exN] at v1 z0;have c2:=(szML_ge yb).1;have d2:=(szML_ge ye).1;obtain ⟨g0,g1,g8,⟨D1,f0⟩,⟨D2,hval⟩,a0,b0⟩:=hm;obtain ⟨D1',e1'⟩:∃ D',D1=D'+1:=by cases D1 with | zero=>cases f0 | succ d=>exact ⟨d,rfl⟩
   obtain ⟨D2',e2'⟩:∃ D',D2=D'+1:=by cases D2 with | zero=>cases hval | succ d=>exact ⟨d,rfl⟩
   subst e1' e2';obtain ⟨g2,g3,f0⟩:=f0;obtain ⟨g5,g6,hval⟩:=hval;obtain ⟨r0,d0⟩:∃ r,r=x+1+1+1+1+2*(exNs xl:Int):=⟨_,rfl⟩;obtain ⟨r1,l0⟩:∃ r,r=r0+1+1+2*(exNs vl:Int):=⟨_,rfl⟩;obtain ⟨r2,t0⟩:∃ r,r=r1+1+szML yb:=⟨_,rfl⟩;replace g0:m.k=x:=g0;replace g1:m.t=x+1:=g1;replace g2:m.ix.k=x+1+1:=by rw [g2];show x+2=_;omega
   replace g3:m.ix.v=x+1+1+1:=by rw [g3];show x+2+1=_;omega
   replace g5:m.val.k=r0:=by rw [g5,d0];show x+4+2*(exNs xl:Int)=_;omega
   replace g6:m.val.v=r0+1:=by rw [g6,d0];show x+4+2*(exNs xl:Int)+1=_;omega
   replace g8:m.c=r1:=by rw [g8,l0,d0];show x+6+2*(exNs xl:Int)+2*(exNs vl:Int)=_;omega
   replace f0:RowOf enc 3 wr B (ExAt wr B D1') m.ix.u (mrL (x+1+1+1+1) xl):=by rw [show x+1+1+1+1=x+2+2 by omega];exact f0
   replace hval:RowOf enc 3 wr B (ExAt wr B D2') m.val.u (mrL (r0+1+1) vl):=by rw [show r0+1+1=x+4+2*(exNs xl:Int)+2 by rw [d0];omega];exact hval
   replace a0:BlAt wr B D' (.slice m.bp m.bn m.bc) (mrB (r1+1) yb):=by rw [show r1+1=x+7+2*(exNs xl:Int)+2*(exNs vl:Int) by rw [l0,d0];omega];exact a0
   replace b0:BlAt wr B D' (.slice m.ep m.en m.ec) (mrB r2 ye):=by rw [show r2=x+7+2*(exNs xl:Int)+2*(exNs vl:Int)+szML yb by rw [t0,l0,d0];omega];exact b0
   rw [g0] at e0;clear g0;rw [g1] at e1;clear g1;rw [g2] at e2;clear g2;rw [g3] at e3;clear g3;rw [g5] at e5;clear g5;rw [g6] at e6;clear g6;rw [g8] at e8;clear g8;have x1:0≤r0∧r0+(3+2*(exNs vl:Int)+szML yb+szML ye)≤1000000000:=by omega
   have z1:0≤r1∧r1+(1+szML yb+szML ye)≤1000000000:=by omega
   have a2:0≤r2∧r2+szML ye≤1000000000:=by omega
   have w0:=Hi d0;have x0:=Hi l0;have y0:=Hi t0;clear d0 l0 t0;have k0:Hid (∀ W,Below wr.heap.size wr W→RowOf enc 3 W B (ExAt W B D2') m.val.u (mrL (r0+1+1) vl)):=Hi (fun W hW=>RowOf.keep (S:=fun _=>False) hval (Cb hW) (fun _ _ _=>id) (fun _ h _=>h) (fun _ _ h=>ExAt.below h hW));clear hval;have i0:Hid (∀ W,Below wr.heap.size wr W→BlAt W B D' (.slice m.bp m.bn m.bc) (mrB (r1+1) yb)):=Hi (fun W hW=>BlAt.below a0 hW);clear a0;have j0:Hid (∀ W,Below wr.heap.size wr W→BlAt W B D' (.slice m.ep m.en m.ec) (mrB r2 ye)):=Hi (fun W hW=>BlAt.below b0 hW);clear b0;have s0:=Hi (fun W (hW:Below wr.heap.size wr W)=>show W.cell? ⟨b,o+j*11,none⟩=some (.int .i64 x)∧W.cell? ⟨b,o+j*11+1,none⟩=some (.int .i64 (x+1))∧W.cell? ⟨b,o+j*11+2,none⟩=some (.int .i64 (x+1+1))∧W.cell? ⟨b,o+j*11+3,none⟩=some (.int .i64 (x+1+1+1))∧W.cell? ⟨b,o+j*11+4,none⟩=some (.slice m.ix.p m.ix.n m.ix.c)∧W.cell? ⟨b,o+j*11+5,none⟩=some (.int .i64 r0)∧W.cell? ⟨b,o+j*11+6,none⟩=some (.int .i64 (r0+1))∧W.cell? ⟨b,o+j*11+7,none⟩=some (.slice m.val.p m.val.n m.val.c)∧W.cell? ⟨b,o+j*11+8,none⟩=some (.int .i64 r1)∧W.cell? ⟨b,o+j*11+9,none⟩=some (.slice m.bp m.bn m.bc)∧W.cell? ⟨b,o+j*11+10,none⟩=some (.slice m.ep m.en m.ec) from ⟨Kc hW e0,Kc hW e1,Kc hW e2,Kc hW e3,Kc hW e4,Kc hW e5,Kc hW e6,Kc hW e7,Kc hW e8,Kc hW e9,Kc hW c0⟩);go_wp2_with fail
   refine (HE.out D1' _ xl (x+1+1+1+1) _ (f0) (by omega) (by omega)).mono ?_;rintro e w1 ⟨rfl,m1⟩;have n0:=m1;clear e0 e1 e2 e3 e4 e5 e6 e7 e8 e9 c0 f0;rw [← w0.out];have n1:¬r0 < 0:=by omega
   obtain ⟨e0,e1,e2,e3,e4,e5,e6,e7,e8,e9,c0⟩:=s0.out _ n0;go_wp2_with fail
   refine (HE.out D2' _ vl (r0+1+1) _ (k0.out _ n0) (by omega) (by omega)).mono ?_;rintro e w2 ⟨rfl,c1⟩;have o0:=btr n0 c1;clear n0 c1;clear e0 e1 e2 e3 e4 e5 e6 e7 e8 e9 c0;rw [← x0.out];have o1:¬r1 < 0:=by omega
   obtain ⟨e0,e1,e2,e3,e4,e5,e6,e7,e8,e9,c0⟩:=s0.out _ o0;go_wp2_with fail
   refine (a1.out _ yb (r1+1) _ (i0.out _ o0) (by omega) (by omega)).mono ?_;rintro e w3 ⟨rfl,d1⟩;have p0:=btr o0 d1;clear o0 d1;clear e0 e1 e2 e3 e4 e5 e6 e7 e8 e9 c0;rw [← y0.out];have p1:¬r2 < 0:=by omega
   obtain ⟨e0,e1,e2,e3,e4,e5,e6,e7,e8,e9,c0⟩:=s0.out _ p0;go_wp2_with fail
   refine (a1.out _ ye (r2) _ (j0.out _ p0) (by omega) (by omega)).mono ?_;rintro e w4 ⟨rfl,f1⟩;have b1:=btr p0 f1;clear p0 f1;clear e0 e1 e2 e3 e4 e5 e6 e7 e8 e9 c0;have q1:¬(r2+szML ye) < 0:=by omega
   have HT:=Hi (btr hB b1);clear hB b1;have k1:Hid (r2+szML ye=k+szML (L.take (j+1))):=Hi (by rw [z0.out,y0.out,x0.out,w0.out];have:=HX.out;omega);go_wp2
   go_roundw
   case rel=>exact ⟨j+1,_,by omega,by go_num,rfl,k1,HT.out⟩
   case measure=>simp [intOf];omega
  have e:j=L.length:=by omega
  subst e;have s1:decide (((L.length:Nat):Int) < (L.length:Int))=false:=decide_eq_false (by omega);have l1:Hid (x=k+szML L):=Hi (by have:=HX.out;rw [i1.out] at this;exact this);go_wp2
  go_ret
  exact ⟨by rw [l1.out];rfl,hB⟩
theorem heldStmtS_x (B:Nat→Prop):∀ (D:Nat) (u:Value) (L:List St) (k:Int) (w:World),BlAt w B D u (mrB k L)→0≤k→k+szML L≤1000000000→Calls Try.prog 41 #[u,.int .i64 k] w fun r w'=>r=.returned (.int .i64 (k+szML L))∧Below w.heap.size w w':=by
 intro D
 induction D with
 | zero=>exact heldStmtS_xof B 0 (fun D' h=>by omega)
 | succ D ih =>
  refine heldStmtS_xof B (D+1) (fun D' h=>?_);obtain rfl:D=D':=by omega
  exact ih
structure OwnX (w:World) (lo base top:Nat) (va vb u:Value) (D:Nat) (xs ys:List Int) (L:List St):Prop where
 lo_le:lo≤base
 tl:top≤w.heap.size
 a:w.ownsRow base 3 1 va xs.length (ints xs)
 b:w.ownsRow base 3 1 vb ys.length (ints ys)
 ab:∀ q,va.ownBlock=some q→vb.ownBlock=some q→False
 ua:∀ q,va.ownBlock=some q→q < top
 ub:∀ q,vb.ownBlock=some q→q < top
 t:BlX D w (fun q=>OwnPB base top q∧¬va.ownBlock=some q∧¬vb.ownBlock=some q) u L
structure OwnQ (w:World) (lo base top:Nat) (va vb u:Value) (D:Nat) (xs ys:List Int) (L:List St):Prop where
 lo_le:lo≤base
 tl:top≤w.heap.size
 a:w.ownsRow base 3 1 va xs.length (ints xs)
 b:w.ownsRow base 3 1 vb ys.length (ints ys)
 ua:∀ q,va.ownBlock=some q→q < top
 ub:∀ q,vb.ownBlock=some q→q < top
 t:BlAt w (fun q=>OwnPB base top q) D u L
section
variable {w w':World} {lo base top:Nat} {va vb u:Value} {D:Nat} {xs ys:List Int} {L:List St}
theorem OwnX.lt (h:OwnX w lo base top va vb u D xs ys L):∀ q,OwnPB base top q→lo≤q∧q < w.heap.size:=fun q hq=>by
 have h1:=hq.1;have h2:=hq.2;have h3:=h.lo_le;have h4:=h.tl;omega
theorem OwnX.keep (h:OwnX w lo base top va vb u D xs ys L) {S:Nat→Prop} (hc:Chg S w w') (hs:∀ q,OwnPB base top q→¬S q):OwnX w' lo base top va vb u D xs ys L:=
 ⟨h.lo_le,by have:=h.tl;have:=hc.size;omega,Ow h.a hc (fun q hq=>hs q ⟨(h.a.lt q hq).1,h.ua q hq⟩),Ow h.b hc (fun q hq=>hs q ⟨(h.b.lt q hq).1,h.ub q hq⟩),h.ab,h.ua,h.ub,rowD_keep h.t (kpT D) hc (fun q hq _=>hs q hq.1) (fun q hq _=>hq)⟩
theorem OwnX.below (h:OwnX w lo base top va vb u D xs ys L) (hb:Below w.heap.size w w'):OwnX w' lo base top va vb u D xs ys L:=h.keep (S:=fun _=>False) (Cb hb) (fun _ _=>id)
theorem OwnX.reads (h:OwnX w lo base top va vb u D xs ys L):ReadsP w (fun _=>True) D va vb u xs ys L:=⟨Ro h.a (own_len h.a),Ro h.b (own_len h.b),blX_at (fun _ _=>trivial) h.t⟩
theorem OwnX.shape (h:OwnX w lo base top va vb u D xs ys L):∃ a0 c0 a1 c1 a2 c2,va=.slice a0 xs.length c0∧vb=.slice a1 ys.length c1∧u=.slice a2 L.length c2:=h.reads.shape
theorem OwnQ.lt (h:OwnQ w lo base top va vb u D xs ys L):∀ q,OwnPB base top q→lo≤q∧q < w.heap.size:=fun q hq=>by
 have h1:=hq.1;have h2:=hq.2;have h3:=h.lo_le;have h4:=h.tl;omega
theorem OwnQ.keep (h:OwnQ w lo base top va vb u D xs ys L) {S:Nat→Prop} (hc:Chg S w w') (hs:∀ q,OwnPB base top q→¬S q):OwnQ w' lo base top va vb u D xs ys L:=
 ⟨h.lo_le,by have:=h.tl;have:=hc.size;omega,Ow h.a hc (fun q hq=>hs q ⟨(h.a.lt q hq).1,h.ua q hq⟩),Ow h.b hc (fun q hq=>hs q ⟨(h.b.lt q hq).1,h.ub q hq⟩),h.ua,h.ub,h.t.keep hc (fun q hq _=>hs q hq) (fun q hq _=>hq) Lr⟩
theorem OwnQ.below (h:OwnQ w lo base top va vb u D xs ys L) (hb:Below w.heap.size w w'):OwnQ w' lo base top va vb u D xs ys L:=h.keep (S:=fun _=>False) (Cb hb) (fun _ _=>id)
theorem OwnQ.reads (h:OwnQ w lo base top va vb u D xs ys L):ReadsP w (fun q=>OwnPB base top q) D va vb u xs ys L:=⟨Ro h.a (own_len h.a),Ro h.b (own_len h.b),h.t⟩
theorem OwnQ.shape (h:OwnQ w lo base top va vb u D xs ys L):∃ a0 c0 a1 c1 a2 c2,va=.slice a0 xs.length c0∧vb=.slice a1 ys.length c1∧u=.slice a2 L.length c2:=h.reads.shape
end
theorem pri_own {w':World} {base:Nat} {Q:Bool} {xs ys:List Int} {L:List St} {r:Ending} (h:PrI base Q xs ys L r w'):∃ (ua ub uc:Value) (D:Nat),r=.returned (.tuple #[.agg #[ua,ub,uc],.bool Q])∧OwnX w' base base w'.heap.size ua ub uc D (dX Q xs) (dX Q ys) (bX Q xs ys L):=by
 obtain ⟨ua,ub,uc,D,h1,h2,h3,h4,h5⟩:=h;exact ⟨ua,ub,uc,D,h1,Lr,Lr,h2,h3,h4,fun q hq=>(h2.lt q hq).2,fun q hq=>(h3.lt q hq).2,rowD_keep (S:=fun _=>False) h5 (kpT D) (Chg.refl _ _) (fun _ _ _=>id) (fun q hq hl=>⟨⟨hq.1,hl⟩,hq.2⟩)⟩
theorem prs_own {w':World} {base:Nat} {Q:Bool} {xs ys:List Int} {L:List St} {r:Ending} (h:PrS base Q xs ys L r w'):∃ (ua ub uc:Value) (D:Nat),r=.returned (.tuple #[.agg #[ua,ub,uc],.bool Q])∧OwnQ w' base base w'.heap.size ua ub uc D (dX Q xs) (dX Q ys) (bX Q xs ys L):=by
 obtain ⟨ua,ub,uc,D,h1,h2,h3,h5⟩:=h;exact ⟨ua,ub,uc,D,h1,Lr,Lr,h2,h3,fun q hq=>(h2.lt q hq).2,fun q hq=>(h3.lt q hq).2,h5.keep (S:=fun _=>False) (Chg.refl _ _) (fun _ _ _=>id) (fun q hq hl=>⟨hq,hl⟩) Lr⟩
theorem markProgram_x (va vb u:Value) (xs ys:List Int) (L:List St) (D lo base top:Nat) (k:Int) (w:World) (h:OwnX w lo base top va vb u D xs ys L) (h0:0≤k) (h1:k≤100000000) (h2:xs.length≤100000000) (h3:ys.length≤100000000) (h4:stNs L≤50000000) :
  Calls Try.prog 16 #[.agg #[va,vb,u],.int .i64 k] w fun e w'=>e=.returned (.int .i64 (k+xs.length+ys.length+szML L))∧OwnX w' lo base top va vb u D (marks k xs.length) (marks (k+xs.length) ys.length) (mrB (k+xs.length+ys.length) L)∧Chg (fun q=>OwnPB base top q) w w':=by
 obtain ⟨t0,z0,ha,hb,e0,o0,p0,ht⟩:=h;have y0:=szML_ge L;obtain ⟨pv,cv,rfl⟩:=Oh ha;obtain ⟨pa,ca,rfl⟩:=Oh hb;obtain ⟨pu,cu,rfl⟩:=rowD_shape ht;have q0:=ha.lt;have r0:=hb.lt;go_enter Try.func16,Try.ntmps16
 go_wp2_with fail
 have kb:Bk (World.alloc w (.cells #[.slice pv xs.length cv,.slice pa ys.length ca,.slice pu L.length cu] 26)) w.heap.size [.slice pv xs.length cv,.slice pa ys.length ca,.slice pu L.length cu]:=Bk.nw (by simp) rfl;have hA:=Ob ha (bal (Bs w) (.cells #[.slice pv xs.length cv,.slice pa ys.length ca,.slice pu L.length cu] 26));have hB:=Ob hb (bal (Bs w) (.cells #[.slice pv xs.length cv,.slice pa ys.length ca,.slice pu L.length cu] 26));have hS:=blX_below ht (bal (Bs w) (.cells #[.slice pv xs.length cv,.slice pa ys.length ca,.slice pu L.length cu] 26));clear ha hb ht;refine (markIntS_any _ xs k _ _ hA (by omega) (by omega) (by omega)).mono ?_;rintro e w1 ⟨rfl,mA,a0⟩;have d0:Bk w1 w.heap.size [.slice pv xs.length cv,.slice pa ys.length ca,.slice pu L.length cu]:=Bk.keep kb a0 (fun h=>by have:=q0 _ h;omega);have k0:=Ow hB a0 (fun q hq h=>e0 q h hq);have l0:BlX D w1 _ _ L:=rowD_keep hS (kpT D) a0 (fun q hq _ h=>hq.2.1 h) (fun _ h _=>h);have g0:Hid (Chg (fun q=>OwnPB base top q) w w1):=Hi ((Cb (bal (Bs w) (.cells #[.slice pv xs.length cv,.slice pa ys.length ca,.slice pu L.length cu] 26))).trans (a0.mono (fun q _ h=>⟨(q0 q h).1,o0 q h⟩)));clear kb hA hB hS a0;have a1:=Bk.lz d0;obtain ⟨u0,w0⟩:=Bk.cf d0 1 rfl;go_wp2_with fail
 refine (markIntS_any _ ys (k+xs.length) _ _ k0 (by omega) (by omega) (by omega)).mono ?_;rintro e w2 ⟨rfl,mB,b0⟩;have f0:Bk w2 w.heap.size [.slice pv xs.length cv,.slice pa ys.length ca,.slice pu L.length cu]:=Bk.keep d0 b0 (fun h=>by have:=r0 _ h;omega);have s0:=Ow mA b0 (fun q hq h=>e0 q hq h);have m0:BlX D w2 _ _ L:=rowD_keep l0 (kpT D) b0 (fun q hq _ h=>hq.2.2 h) (fun _ h _=>h);have i0:Hid (Chg (fun q=>OwnPB base top q) w w2):=Hi (g0.out.trans (b0.mono (fun q _ h=>⟨(r0 q h).1,p0 q h⟩)));clear d0 u0 w0 k0 l0 mA b0 g0;have b1:=Bk.lz f0;obtain ⟨v0,x0⟩:=Bk.cf f0 2 rfl;go_wp2_with fail
 refine (markStmtS_x D _ _ L (k+xs.length+ys.length) _ m0 (by omega) (by omega)).mono ?_;rintro e w3 ⟨rfl,n0,c0⟩;have j0:Hid (Chg (fun q=>OwnPB base top q) w w3):=Hi (i0.out.trans (c0.mono (fun q _ h=>h.1)));have HR:Hid (OwnX w3 lo base top (.slice pv xs.length cv) (.slice pa ys.length ca) (.slice pu L.length cu) D (marks k xs.length) (marks (k+xs.length) ys.length) (mrB (k+xs.length+ys.length) L)):=Hi ⟨t0,by have:=j0.out.size;omega,by rw [marks_length];exact Ow s0 c0 (fun q h1 h2=>h2.2.1 h1),by rw [marks_length];exact Ow mB c0 (fun q h1 h2=>h2.2.2 h1),e0,o0,p0,n0⟩;clear f0 v0 x0 m0 s0 mB c0 i0 n0;go_wp2
 go_ret
 exact ⟨rfl,HR.out,j0.out⟩
theorem heldProgram_x (va vb u:Value) (n m:Nat) (L:List St) (D lo base top:Nat) (k:Int) (w:World) (h:OwnX w lo base top va vb u D (marks k n) (marks (k+n) m) (mrB (k+n+m) L)) (h0:0≤k) (h1:k≤100000000) (h2:n≤100000000) (h3:m≤100000000) (h4:stNs L≤50000000) :
  Calls Try.prog 17 #[.agg #[va,vb,u],.int .i64 k] w fun e w'=>e=.returned (.int .i64 (k+n+m+szML L))∧Below w.heap.size w w':=by
 have ra:=Ro h.a (own_len h.a);have rb:=Ro h.b (own_len h.b);rw [marks_length] at ra rb;have l0:=szML_ge L;have HT:=Hi (fun W (hW:Below w.heap.size w W)=>heldStmtS_x (fun _=>True) D u L (k+n+m) W (BlAt.below (blX_at (fun _ _=>trivial) h.t) hW) (by omega) (by omega));obtain ⟨pu,cu,hu⟩:=rowD_shape h.t;rw [mrB_len] at hu;obtain ⟨pv,cv,rfl⟩:=reads_shape ra;obtain ⟨pa,ca,rfl⟩:=reads_shape rb;subst hu;clear h;have m0:=reads_lt ra;have n0:=reads_lt rb;go_enter Try.func17,Try.ntmps17
 have i0:¬(k+n) < 0:=by omega
 go_wp2_with fail
 refine (heldIntS_b _ n k _ (ra.below (bal (Bs _) (.cells #[.slice pv n cv,.slice pa m ca,.slice pu L.length cu] 26))) (by omega) (by omega) (by omega)).mono ?_;rintro e w1 ⟨rfl,hb⟩;have e0:=hb.size;simp only [Sa] at e0;replace ra:=(ra.below (bal (Bs _) _)).below hb;replace rb:=(rb.below (bal (Bs _) _)).below hb;have b0:w1.cell? ⟨w.heap.size,0,none⟩=some (.slice pv n cv):=Kc hb (Wc (by simp) (by rfl));have c0:w1.cell? ⟨w.heap.size,1,none⟩=some (.slice pa m ca):=Kc hb (Wc (by simp) (by rfl));have d0:w1.cell? ⟨w.heap.size,2,none⟩=some (.slice pu L.length cu):=Kc hb (Wc (by simp) (by rfl));have a0:=btr (bal (Bs w) (.cells #[.slice pv n cv,.slice pa m ca,.slice pu L.length cu] 26)) hb;clear hb;have o0:=Lc b0;have j0:¬(k+n+m) < 0:=by omega
 go_wp2_with fail
 refine (heldIntS_b _ m (k+n) _ rb (by omega) (by omega) (by omega)).mono ?_;rintro e w2 ⟨rfl,hb⟩;have f0:=hb.size;replace ra:=ra.below hb;replace rb:=rb.below hb;replace b0:=Kc hb b0;replace c0:=Kc hb c0;replace d0:=Kc hb d0;replace a0:=btr a0 hb;clear hb;have k0:¬(k+n+m+szML L) < 0:=by omega
 go_wp2_with fail
 refine (HT.out _ a0).mono ?_;rintro e w3 ⟨rfl,hb⟩;have g0:=hb.size;replace ra:=ra.below hb;replace rb:=rb.below hb;replace b0:=Kc hb b0;replace c0:=Kc hb c0;replace d0:=Kc hb d0;replace a0:=btr a0 hb;clear hb;have tt:=a0;go_wp2
 exact bodyPost_ret (v:=.int .i64 (k+n+m+szML L)) (by simp [results,Try.results17,go_sem]) rfl (by exact ⟨rfl,tt⟩)
end Go.Proofs.Ytlckklglbodgbaa
