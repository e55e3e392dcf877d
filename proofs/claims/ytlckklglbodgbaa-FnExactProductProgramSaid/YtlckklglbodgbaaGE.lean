/-
 Parts of the proofs of the laws FnExactProductProgram.
-/
import Derived.Test.YtlckklglbodgbaaGC
set_option maxHeartbeats 12800000
set_option maxRecDepth 100000
set_option linter.all false
namespace Go.Proofs.Ytlckklglbodgbaa
open Go.RowKit
theorem numAt_E {w:World} {base b n c:Nat} {xs:List Value} (ho:w.ownsRow base 49 3 (.slice (some ⟨b,0,none⟩) n c) n xs) (i:Nat) (hi:i < n*3) (h3:¬i % 3=2):NumAt w b i:=by
 rcases ho.2 with ⟨h,_⟩ | ⟨g,cap,cur,hv,h1,h2,h4,h5,h6,h7⟩
 ·cases h
 simp only [Value.slice.injEq,Option.some.injEq,Addr.mk.injEq,and_true,true_and] at hv;obtain ⟨rfl,rfl⟩:=hv;exact ⟨cur,_,h2,by omega,Or.inl ⟨rfl,h3⟩⟩
theorem numAt_S {w:World} {base b n c:Nat} {xs:List Value} (ho:w.ownsRow base 51 11 (.slice (some ⟨b,0,none⟩) n c) n xs) (i:Nat) (hi:i < n*11) (h3:¬(i % 11=4∨i % 11=7∨i % 11=9∨i % 11=10)):NumAt w b i:=by
 rcases ho.2 with ⟨h,_⟩ | ⟨g,cap,cur,hv,h1,h2,h4,h5,h6,h7⟩
 ·cases h
 simp only [Value.slice.injEq,Option.some.injEq,Addr.mk.injEq,and_true,true_and] at hv;obtain ⟨rfl,rfl⟩:=hv;exact ⟨cur,_,h2,by omega,Or.inr ⟨rfl,h3⟩⟩
def MkP (base top N:Nat) (k:Int) (w:World) (e:Ending) (w':World):Prop:=∃ r:Int,e=.returned (.int .i64 r)∧(k≤r∧r≤k+7*N)∧Pr w w'∧Chg (fun q=>base≤q∧q < top) w w'
theorem ShE.form {w:World} {base top d:Nat} {u:Value} {L:List Ex} (h:ShE w base top d u L):∃ a c,u=.slice a L.length c:=by
 cases d with
 | zero=>obtain ⟨_,_,h,_⟩:=h;exact Oh h
 | succ d=>obtain ⟨_,⟨h,_⟩,_⟩:=h;exact Oh h
theorem ShS.form {w:World} {base top d:Nat} {u:Value} {L:List St} (h:ShS w base top d u L):∃ a c,u=.slice a L.length c:=by
 cases d with
 | zero=>obtain ⟨_,_,h,_⟩:=h;exact Oh h
 | succ d=>obtain ⟨_,⟨h,_⟩,_⟩:=h;exact Oh h
theorem ShE.elem {w:World} {base top d:Nat} {u:Value} {L:List Ex} (h:ShE w base top (d+1) u L) (j:Nat) (hj:j < L.length):∃ xs:List Value,(w.ownsRow base 49 3 u L.length xs∧∀ q,u.ownBlock=some q→q < top)∧(∃ k,xs[j*3]? = some (.int .i64 k))∧(∃ v,xs[j*3+1]? = some (.int .i64 v))∧∃ u',xs[j*3+2]? = some u'∧ShE w base top d u' L[j].kids:=by
 obtain ⟨xs,h1,h2⟩:=h;exact ⟨xs,h1,h2 j hj⟩
theorem ShS.elem {w:World} {base top d:Nat} {u:Value} {L:List St} (h:ShS w base top (d+1) u L) (j:Nat) (hj:j < L.length):∃ xs:List Value,(w.ownsRow base 51 11 u L.length xs∧∀ q,u.ownBlock=some q→q < top)∧(∀ i,i=0∨i=1∨i=2∨i=3∨i=5∨i=6∨i=8→∃ k,xs[j*11+i]? = some (.int .i64 k))∧(∃ u' D,xs[j*11+4]? = some u'∧ShE w base top D u' L[j].ix.kids)∧(∃ u' D,xs[j*11+7]? = some u'∧ShE w base top D u' L[j].val.kids)∧(∃ u',xs[j*11+9]? = some u'∧ShS w base top d u' L[j].body)∧(∃ u',xs[j*11+10]? = some u'∧ShS w base top d u' L[j].els):=by
 obtain ⟨xs,h1,h2⟩:=h;exact ⟨xs,h1,h2 j hj⟩
theorem markExprS_any (base top:Nat):∀ (d:Nat) (u:Value) (L:List Ex) (k:Int) (w:World),ShE w base top d u L→0≤k→k+7*(exNs L:Int)≤1000000000→Calls Try.prog 67 #[u,.int .i64 k] w fun e w'=>MkP base top (exNs L) k w e w':=by
 intro d
 induction d with
 | zero =>
  intro u L k w hx h0 hk;obtain ⟨rfl,xs,ho,_⟩:=hx;obtain ⟨pu,cu,rfl⟩:=Oh ho;clear ho;go_enter Try.func67,Try.ntmps67
  go_wp2
  go_loopw [1,5] (fun m i wr=>m=.int .i64 k∧i=.int .i64 0∧wr=w) (fun _ _ _=>0)
  case atStart=>exact ⟨rfl,rfl,rfl⟩
  case round =>
   obtain ⟨rfl,rfl,rfl⟩:=hrel;go_wp2
   go_ret
   exact ⟨_,rfl,⟨Int.le_refl _,by omega⟩,Pr.refl _,Chg.refl _ _⟩
 | succ d IH0 =>
  intro u L k w hx h0 hk;have IH:=Hi IH0;clear IH0;have v0:Pr w w:=Pr.refl w;obtain ⟨pu,cu,rfl⟩:=hx.form;have a0:=Hi hx;clear hx;have l0:=Hi (fun j (h:j < L.length)=>Ai (exNs_take h) (exNs_le L (j+1) h));have k0:=Hi (exNs_all L);have k1:L.length≤9223372036854775807:=by obtain ⟨xs,⟨ho,_⟩,_⟩:=a0.out;exact own_len ho
  go_enter Try.func67,Try.ntmps67
  go_wp2
  go_loopw [1,5] (fun m i wr=>∃ (j:Nat) (x:Int),j≤L.length∧i=.int .i64 j∧m=.int .i64 x∧k≤x∧x≤k+7*(exNs (L.take j):Int)∧Pr w wr∧Chg (fun q=>base≤q∧q < top) w wr) (fun _ i _=>L.length-(intOf i).toNat)
  case atStart=>exact ⟨0,k,Nat.zero_le _,rfl,rfl,Int.le_refl _,by simp [exNs],v0,Chg.refl _ _⟩
  case round =>
   obtain ⟨j,x,hj,rfl,rfl,h1,i1,hP,hC⟩:=hrel;clear v0;by_cases hlt:j < L.length
   ·have g1:(j:Int) < (L.length:Int):=by omega
    obtain ⟨g0,x0⟩:=l0.out j hlt;rw [g0] at x0;have o0:=Hi g0;clear g0;have HF:=Hi (fun W (hW:Pr w W)=>ShE.elem (hW.e a0.out) j hlt);obtain ⟨b,c9,w0⟩:∃ b c9,Value.slice pu L.length cu=.slice (some ⟨b,0,none⟩) L.length c9:=by obtain ⟨_,⟨ho,_⟩,_⟩:=HF.out wr hP;exact own_pos ho (by omega)
    simp only [Value.slice.injEq,true_and] at w0;obtain ⟨rfl,rfl⟩:=w0;clear a0 l0 k0;rw [exN_kids] at x0 o0;generalize L[j]=y at *
    obtain ⟨xs,⟨ho,z0⟩,b1,d1,u2,e2,s2⟩:=HF.out wr hP;have d0:base≤b∧b < top:=⟨(ho.lt b rfl).1,z0 b rfl⟩;have a1:=(ho.lt b rfl).2;obtain ⟨y0,e0⟩:=b1;have c0:wr.cell? ⟨b,j*3,none⟩=some (.int .i64 y0):=(ho.cellAt (j*3) (by omega)).trans e0;have f0:wr.frozen? ⟨b,j*3,none⟩=false:=ho.frozenAt _;obtain ⟨y1,e1⟩:=d1;have c1:wr.cell? ⟨b,j*3+1,none⟩=some (.int .i64 y1):=(ho.cellAt (j*3+1) (by omega)).trans e1;have f1:wr.frozen? ⟨b,j*3+1,none⟩=false:=ho.frozenAt _;obtain ⟨l1,j1,rfl⟩:=s2.form;have cl:wr.cell? ⟨b,j*3+2,none⟩=some _:=(ho.cellAt (j*3+2) (by omega)).trans e2;have b0:=(((Pr.refl wr).trans (Pr.put (x:=x) (numAt_E ho (j*3) (by omega) (by omega)))).trans (Pr.put (x:=x+1) (numAt_E (ho.stored (j*3) (.int .i64 x)).1 (j*3+1) (by omega) (by omega))));have s0:=(((Chg.refl (fun q=>base≤q∧q < top) wr).setCell b (j*3) (.int .i64 x) (fun _=>d0)).setCell b (j*3+1) (.int .i64 (x+1)) (fun _=>d0));have p0:=b0.e s2;have m0:=Hi (hP.trans b0);have j0:=Hi (Chg.trans hC s0);clear ho z0 b0 s0 hP hC;go_wp2_with fail
    refine (IH.out _ _ _ _ p0 (by omega) (by omega)).mono ?_;rintro e w1 ⟨r0,rfl,⟨m1,n1⟩,hp,hc⟩;have t0:=m0.out.trans hp;have q0:=j0.out.trans hc;clear m0 j0 p0 hp hc cl d0 a1 c0 f0 c1 f1;have n0:=Hi (Ai t0 q0);clear t0 q0;have i0:r0≤k+7*(exNs (L.take (j+1)):Int):=by rw [o0.out];omega
    go_wp2
    go_roundw
    case rel=>exact ⟨j+1,r0,by omega,by go_num,rfl,by omega,i0,n0.out.1,n0.out.2⟩
    case measure=>simp [intOf];omega
   have e:j=L.length:=by omega
   subst e;have g1:decide (((L.length:Nat):Int) < (L.length:Int))=false:=decide_eq_false (by omega);have i0:x≤k+7*(exNs L:Int):=by rw [← k0.out];exact i1
   go_wp2
   go_ret
   exact ⟨_,rfl,⟨h1,i0⟩,hP,hC⟩
theorem markStmtS_any (base top:Nat):∀ (d:Nat) (u:Value) (L:List St) (k:Int) (w:World),ShS w base top d u L→0≤k→k+7*(stNs L:Int)≤1000000000→Calls Try.prog 39 #[u,.int .i64 k] w fun e w'=>MkP base top (stNs L) k w e w':=by
 intro d
 induction d with
 | zero =>
  intro u L k w hx h0 hk;obtain ⟨rfl,xs,ho,_⟩:=hx;obtain ⟨pu,cu,rfl⟩:=Oh ho;clear ho;go_enter Try.func39,Try.ntmps39
  go_wp2
  go_loopw [1,5] (fun m i wr=>m=.int .i64 k∧i=.int .i64 0∧wr=w) (fun _ _ _=>0)
  case atStart=>exact ⟨rfl,rfl,rfl⟩
  case round =>
   obtain ⟨rfl,rfl,rfl⟩:=hrel;go_wp2
   go_ret
   exact ⟨_,rfl,⟨Int.le_refl _,by omega⟩,Pr.refl _,Chg.refl _ _⟩
 | succ d IH0 =>
  intro u L k w hx h0 hk;have IH:=Hi IH0;clear IH0;have HE:=Hi (markExprS_any base top);have k1:Pr w w:=Pr.refl w;obtain ⟨pu,cu,rfl⟩:=hx.form;have o0:=Hi hx;clear hx;have z0:=Hi (fun j (h:j < L.length)=>Ai (stNs_take h) (stNs_le L (j+1) h));have x0:=Hi (stNs_all L);have x1:L.length≤9223372036854775807:=by obtain ⟨xs,⟨ho,_⟩,_⟩:=o0.out;exact own_len ho
  go_enter Try.func39,Try.ntmps39
  go_wp2
  go_loopw [1,5] (fun m i wr=>∃ (j:Nat) (x:Int),j≤L.length∧i=.int .i64 j∧m=.int .i64 x∧k≤x∧x≤k+7*(stNs (L.take j):Int)∧Pr w wr∧Chg (fun q=>base≤q∧q < top) w wr) (fun _ i _=>L.length-(intOf i).toNat)
  case atStart=>exact ⟨0,k,Nat.zero_le _,rfl,rfl,Int.le_refl _,by simp [stNs],k1,Chg.refl _ _⟩
  case round =>
   obtain ⟨j,x,hj,rfl,rfl,o1,p1,hP,hC⟩:=hrel;clear k1;by_cases hlt:j < L.length
   ·have n1:(j:Int) < (L.length:Int):=by omega
    obtain ⟨t0,m1⟩:=z0.out j hlt;rw [t0] at m1;have b1:=Hi t0;clear t0;have HF:=Hi (fun W (hW:Pr w W)=>ShS.elem (hW.s o0.out) j hlt);obtain ⟨b,c9,l1⟩:∃ b c9,Value.slice pu L.length cu=.slice (some ⟨b,0,none⟩) L.length c9:=by obtain ⟨_,⟨ho,_⟩,_⟩:=HF.out wr hP;exact own_pos ho (by omega)
    simp only [Value.slice.injEq,true_and] at l1;obtain ⟨rfl,rfl⟩:=l1;clear o0 z0 x0;rw [stN_parts,exN_kids,exN_kids] at m1 b1;generalize L[j]=y at *
    obtain ⟨xs,⟨ho,k0⟩,hn,⟨u4,D4,e4,s4⟩,⟨u7,D7,e7,s7⟩,⟨u9,e9,s9⟩,w0,n0,m0⟩:=HF.out wr hP;have b0:base≤b∧b < top:=⟨(ho.lt b rfl).1,k0 b rfl⟩;have l0:=(ho.lt b rfl).2;obtain ⟨y0,e0⟩:=hn 0 (by omega);have c0:wr.cell? ⟨b,j*11,none⟩=some (.int .i64 y0):=(ho.cellAt (j*11) (by omega)).trans e0;have f0:wr.frozen? ⟨b,j*11,none⟩=false:=ho.frozenAt _;obtain ⟨y1,e1⟩:=hn 1 (by omega);have c1:wr.cell? ⟨b,j*11+1,none⟩=some (.int .i64 y1):=(ho.cellAt (j*11+1) (by omega)).trans e1;have f1:wr.frozen? ⟨b,j*11+1,none⟩=false:=ho.frozenAt _;obtain ⟨y2,e2⟩:=hn 2 (by omega);have c2:wr.cell? ⟨b,j*11+2,none⟩=some (.int .i64 y2):=(ho.cellAt (j*11+2) (by omega)).trans e2;have f2:wr.frozen? ⟨b,j*11+2,none⟩=false:=ho.frozenAt _;obtain ⟨y3,e3⟩:=hn 3 (by omega);have c3:wr.cell? ⟨b,j*11+3,none⟩=some (.int .i64 y3):=(ho.cellAt (j*11+3) (by omega)).trans e3;have f3:wr.frozen? ⟨b,j*11+3,none⟩=false:=ho.frozenAt _;obtain ⟨z1,q1,rfl⟩:=s4.form;have cl:wr.cell? ⟨b,j*11+4,none⟩=some _:=(ho.cellAt (j*11+4) (by omega)).trans e4;have a0:=(((((Pr.refl wr).trans (Pr.put (x:=x) (numAt_S ho (j*11) (by omega) (by omega)))).trans (Pr.put (x:=x+1) (numAt_S (ho.stored (j*11) (.int .i64 x)).1 (j*11+1) (by omega) (by omega)))).trans (Pr.put (x:=x+1+1) (numAt_S ((ho.stored (j*11) (.int .i64 x)).1.stored (j*11+1) (.int .i64 (x+1))).1 (j*11+2) (by omega) (by omega)))).trans (Pr.put (x:=x+1+1+1) (numAt_S (((ho.stored (j*11) (.int .i64 x)).1.stored (j*11+1) (.int .i64 (x+1))).1.stored (j*11+2) (.int .i64 (x+1+1))).1 (j*11+3) (by omega) (by omega))));have j0:=(((((Chg.refl (fun q=>base≤q∧q < top) wr).setCell b (j*11) (.int .i64 x) (fun _=>b0)).setCell b (j*11+1) (.int .i64 (x+1)) (fun _=>b0)).setCell b (j*11+2) (.int .i64 (x+1+1)) (fun _=>b0)).setCell b (j*11+3) (.int .i64 (x+1+1+1)) (fun _=>b0));have i0:=a0.e s4;have g0:=Hi (hP.trans a0);have d0:=Hi (Chg.trans hC j0);clear ho k0 a0 j0 hP hC;go_wp2_with fail
    refine (HE.out _ _ _ _ _ i0 (by omega) (by omega)).mono ?_;rintro e w1 ⟨r0,rfl,⟨g2,k2⟩,hp,hc⟩;have p0:=g0.out.trans hp;have d1:=d0.out.trans hc;clear g0 d0 i0 hp hc cl b0 l0 c0 f0 c1 f1 c2 f2 c3 f3;obtain ⟨xs,⟨ho,k0⟩,hn,⟨u4,D4,e4,s4⟩,⟨u7,D7,e7,s7⟩,⟨u9,e9,s9⟩,w0,n0,m0⟩:=HF.out w1 p0;have b0:base≤b∧b < top:=⟨(ho.lt b rfl).1,k0 b rfl⟩;have l0:=(ho.lt b rfl).2;obtain ⟨y5,e5⟩:=hn 5 (by omega);have c5:w1.cell? ⟨b,j*11+5,none⟩=some (.int .i64 y5):=(ho.cellAt (j*11+5) (by omega)).trans e5;have f5:w1.frozen? ⟨b,j*11+5,none⟩=false:=ho.frozenAt _;obtain ⟨y6,e6⟩:=hn 6 (by omega);have c6:w1.cell? ⟨b,j*11+6,none⟩=some (.int .i64 y6):=(ho.cellAt (j*11+6) (by omega)).trans e6;have f6:w1.frozen? ⟨b,j*11+6,none⟩=false:=ho.frozenAt _;obtain ⟨a2,s1,rfl⟩:=s7.form;have cl:w1.cell? ⟨b,j*11+7,none⟩=some _:=(ho.cellAt (j*11+7) (by omega)).trans e7;have a0:=(((Pr.refl w1).trans (Pr.put (x:=r0) (numAt_S ho (j*11+5) (by omega) (by omega)))).trans (Pr.put (x:=r0+1) (numAt_S (ho.stored (j*11+5) (.int .i64 r0)).1 (j*11+6) (by omega) (by omega))));have j0:=(((Chg.refl (fun q=>base≤q∧q < top) w1).setCell b (j*11+5) (.int .i64 r0) (fun _=>b0)).setCell b (j*11+6) (.int .i64 (r0+1)) (fun _=>b0));have i0:=a0.e s7;have g0:=Hi (p0.trans a0);have d0:=Hi (Chg.trans d1 j0);clear ho k0 a0 j0 p0 d1;go_wp2_with fail
    refine (HE.out _ _ _ _ _ i0 (by omega) (by omega)).mono ?_;rintro e w2 ⟨r1,rfl,⟨h2,l2⟩,hp,hc⟩;have q0:=g0.out.trans hp;have g1:=d0.out.trans hc;clear g0 d0 i0 hp hc cl b0 l0 c5 f5 c6 f6;obtain ⟨xs,⟨ho,k0⟩,hn,⟨u4,D4,e4,s4⟩,⟨u7,D7,e7,s7⟩,⟨u9,e9,s9⟩,w0,n0,m0⟩:=HF.out w2 q0;have b0:base≤b∧b < top:=⟨(ho.lt b rfl).1,k0 b rfl⟩;have l0:=(ho.lt b rfl).2;obtain ⟨y8,e8⟩:=hn 8 (by omega);have c8:w2.cell? ⟨b,j*11+8,none⟩=some (.int .i64 y8):=(ho.cellAt (j*11+8) (by omega)).trans e8;have f8:w2.frozen? ⟨b,j*11+8,none⟩=false:=ho.frozenAt _;obtain ⟨b2,t1,rfl⟩:=s9.form;have cl:w2.cell? ⟨b,j*11+9,none⟩=some _:=(ho.cellAt (j*11+9) (by omega)).trans e9;have a0:=((Pr.refl w2).trans (Pr.put (x:=r1) (numAt_S ho (j*11+8) (by omega) (by omega))));have j0:=((Chg.refl (fun q=>base≤q∧q < top) w2).setCell b (j*11+8) (.int .i64 r1) (fun _=>b0));have i0:=a0.s s9;have g0:=Hi (q0.trans a0);have d0:=Hi (Chg.trans g1 j0);clear ho k0 a0 j0 q0 g1;go_wp2_with fail
    refine (IH.out _ _ _ _ i0 (by omega) (by omega)).mono ?_;rintro e w3 ⟨r2,rfl,⟨i2,m2⟩,hp,hc⟩;have s0:=g0.out.trans hp;have h1:=d0.out.trans hc;clear g0 d0 i0 hp hc cl b0 l0 c8 f8;obtain ⟨xs,⟨ho,k0⟩,hn,⟨u4,D4,e4,s4⟩,⟨u7,D7,e7,s7⟩,⟨u9,e9,s9⟩,w0,n0,m0⟩:=HF.out w3 s0;have b0:base≤b∧b < top:=⟨(ho.lt b rfl).1,k0 b rfl⟩;have l0:=(ho.lt b rfl).2;obtain ⟨d2,v1,rfl⟩:=m0.form;have cl:w3.cell? ⟨b,j*11+10,none⟩=some _:=(ho.cellAt (j*11+10) (by omega)).trans n0;have a0:=(Pr.refl w3);have j0:=(Chg.refl (fun q=>base≤q∧q < top) w3);have i0:=a0.s m0;have g0:=Hi (s0.trans a0);have d0:=Hi (Chg.trans h1 j0);clear ho k0 a0 j0 s0 h1;go_wp2_with fail
    refine (IH.out _ _ _ _ i0 (by omega) (by omega)).mono ?_;rintro e w4 ⟨r3,rfl,⟨j2,n2⟩,hp,hc⟩;have j1:=g0.out.trans hp;have i1:=d0.out.trans hc;clear g0 d0 i0 hp hc cl b0 l0;have a1:=Hi (Ai j1 i1);clear j1 i1;have v0:r3≤k+7*(stNs (L.take (j+1)):Int):=by rw [b1.out];omega
    go_wp2
    go_roundw
    case rel=>exact ⟨j+1,r3,by omega,by go_num,rfl,by omega,v0,a1.out.1,a1.out.2⟩
    case measure=>simp [intOf];omega
   have e:j=L.length:=by omega
   subst e;have n1:decide (((L.length:Nat):Int) < (L.length:Int))=false:=decide_eq_false (by omega);have v0:x≤k+7*(stNs L:Int):=by rw [← x0.out];exact p1
   go_wp2
   go_ret
   exact ⟨_,rfl,⟨o1,v0⟩,hP,hC⟩
end Go.Proofs.Ytlckklglbodgbaa
