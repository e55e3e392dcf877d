/-
 Parts of the proofs of the laws FnDoubleLabels.
-/
import Derived.Test.YtlckklglbodgbaaKR
set_option maxHeartbeats 12800000
set_option maxRecDepth 100000
set_option linter.all false
namespace Go.Proofs.Ytlckklglbodgbaa
open Go.RowKit
theorem l5Program_any (B g p:Nat) (w:World) (hR:Rnd w B g p) (hp:p+16000000≤1000000000) :
  Calls Try.prog 73 #[.pointer (some ⟨g,0,none⟩)] w fun r w'=>TyP 16000000 B g p w r w':=by
 have hg:=hR.lt;have hC:Chg (fun k=>k=g) w w:=Chg.refl _ _;have g2:∀ q,(fun k=>k=g) q→q=g:=fun q h=>h
 go_enter Try.func73,Try.ntmps73
 go_upto_region 1 with (fail)
 generalize hnw:World.alloc _ _=w1;have hb:=nmh hnw;clear hnw
 replace hC:=((hC.trans (Cb (bal (Bs _) _)))).trans (Cb hb);replace hR:=(hR.below (bal (Bs _) _)).below hb;have q0:=hb.size;simp only [Sa] at q0;have b0:Bk w1 (w.heap.size) [.slice none 0 0,.slice none 0 0,.slice none 0 0]:=Bb (Bk.nw (by simp) rfl) hb;clear hb;have i2:=Bk.lz b0;have w0:Hid (∃ k pk:Nat,Value.int .i64 0=.int .i64 k∧k≤3∧Bk w1 (w.heap.size) [.slice none 0 0,.slice none 0 0,.slice none 0 0]∧Rnd w1 B g pk∧pk≤p+3000001*k∧Chg (fun q=>q=g) w w1∧w.heap.size+1≤w1.heap.size):=Hi ⟨0,p,rfl,by omega,b0,hR,by omega,hC,by omega⟩;clear hR hC b0;go_wp2_with fail
 go_loopw [3] (fun i wr=>∃ k pk:Nat,i=.int .i64 k∧k≤3∧Bk wr (w.heap.size) [.slice none 0 0,.slice none 0 0,.slice none 0 0]∧Rnd wr B g pk∧pk≤p+3000001*k∧Chg (fun q=>q=g) w wr∧w.heap.size+1≤wr.heap.size) (fun i _=>3-(intOf i).toNat)
 case atStart=>exact w0.out
 case round =>
  obtain ⟨k,pk,rfl,hk,b0,hR,x0,hC,f2⟩:=hrel;clear w0;obtain ⟨wl,rfl⟩:∃ X,X=wr:=⟨_,rfl⟩;have z0:=Bk.lz b0;by_cases hlt:k < 3
  ·have hq:(k:Int) < 3:=by omega
   go_wp2_with fail
   refine (l4Typed_any B g (pk) _ hR (by omega)).mono ?_;rintro e w2 ⟨a0,a1,a2,c0,c1,c2,n,m,hi,zs,us,L,p1,rfl,hP,k0,j0,p0,hc⟩;try simp only [Sa] at hP
   have l0:=Hi k0;clear k0;replace hC:=(hC).trans hc;replace hR:=j0;clear j0;have d1:=hc.size;replace b0:=Bk.kg b0 hc;clear hc;have s0:=hP.lt;replace z0:=Bk.lz b0;go_wp2_with fail
   refine (check_pd (hP.below (bal (Bs _) (.cells #[.slice a0 n c0,.slice a1 m c1,.slice a2 L.length c2] 26))) l0.out.2.2.1).mono ?_;rintro e w3 ⟨c,a,rfl,b1,hb⟩;clear b1;replace hC:=((hC.trans (Cb (bal (Bs _) _)))).trans (Cb hb);replace hR:=(hR.below (bal (Bs _) _)).below hb;have r0:=hb.size;simp only [Sa] at r0;replace hP:=(hP.below (bal (Bs _) _)).below hb;replace b0:=Bb (Bk.al b0 _) hb;have o0:Bk w3 (w2.heap.size) [.slice a0 n c0,.slice a1 m c1,.slice a2 L.length c2]:=Bb (Bk.nw (by simp) rfl) hb;clear hb;replace z0:=Bk.lz b0;have j2:=Bk.lz o0;by_cases hc:c=0
   ·have e1:(c == 0)=true:=by simp [hc]
    by_cases hl:0 < L.length
    ·have f1:(0:Int) < (L.length:Int):=by omega
     have m0:=Hi (((hP.keep (C1 (w.heap.size) 0 (.slice a0 n c0)) (fun gq h h2=>by have:=s0 gq h;omega)).keep (C1 (w.heap.size) 1 (.slice a1 m c1)) (fun gq h h2=>by have:=s0 gq h;omega)).keep (C1 (w.heap.size) 2 (.slice a2 L.length c2)) (fun gq h h2=>by have:=s0 gq h;omega));clear hP;obtain ⟨g1,r1,h1,s1,i1,t1⟩:=Bk.f3 b0 0 1 2 rfl rfl rfl;obtain ⟨j1,u1,k1,v1,l1,x1⟩:=Bk.f3 o0 0 1 2 rfl rfl rfl;have f0:=((((Chg.refl (fun q=>q=w.heap.size) w3).setCell (w.heap.size) 0 (.slice a0 n c0) (fun _=>rfl)).setCell (w.heap.size) 1 (.slice a1 m c1) (fun _=>rfl)).setCell (w.heap.size) 2 (.slice a2 L.length c2) (fun _=>rfl));have i0:=(Bk.at (Bk.at (Bk.at b0 0 (.slice a0 n c0)) 1 (.slice a1 m c1)) 2 (.slice a2 L.length c2));obtain ⟨t0,u0,v0⟩:=Bk.g3 i0;have g0:=Hi f0;clear f0 i0;have h0:=Hi (Ai hC hR);clear hC hR;go_wp2
     exact bodyPost_ret (v:=.agg #[.slice a0 n c0,.slice a1 m c1,.slice a2 L.length c2]) (by simp [results,Try.results73,go_sem,t0,u0,v0]) rfl (by exact (by unfold TyP;exact ⟨_,_,_,_,_,_,_,_,_,_,_,L,p1,rfl,m0.out.mono (by omega),l0.out,h0.out.2.keep g0.out (fun h=>by omega) (fun k hk h=>by omega),by omega,chg_app h0.out.1 g0.out (fun q hq h=>by omega)⟩))
    have f1:decide ((0:Int) < (L.length:Int))=false:=decide_eq_false (by omega);have k2:¬(0:Int) < (L.length:Int):=by omega
    clear hP;obtain ⟨m1,y1⟩:=Bk.cf o0 2 rfl;have HX:=Hi (Ai b0 (Ai hR hC));have n0:=Hi (show w.heap.size+1≤w3.heap.size by omega);clear hR hC;have d0:p1≤p+3000001*(k+1):=Nat.le_trans p0 (by rw [Nat.mul_add,Nat.mul_one,← Nat.add_assoc];exact Nat.add_le_add_right x0 3000001);go_wp2
    go_roundw
    case rel=>exact ⟨k+1,p1,by go_num,by omega,HX.out.1,HX.out.2.1,d0,HX.out.2.2,by have:=n0.out;(try simp only [Ss,Sa]);omega⟩
    case measure=>simp [intOf];omega
   have e1:(c == 0)=false:=by simp [hc]
   clear hP;have HX:=Hi (Ai b0 (Ai hR hC));have n0:=Hi (show w.heap.size+1≤w3.heap.size by omega);clear hR hC;have d0:p1≤p+3000001*(k+1):=Nat.le_trans p0 (by rw [Nat.mul_add,Nat.mul_one,← Nat.add_assoc];exact Nat.add_le_add_right x0 3000001);go_wp2
   go_roundw
   case rel=>exact ⟨k+1,p1,by go_num,by omega,HX.out.1,HX.out.2.1,d0,HX.out.2.2,by have:=n0.out;(try simp only [Ss,Sa]);omega⟩
   case measure=>simp [intOf];omega
  have hq:decide ((k:Int) < 3)=false:=decide_eq_false (by omega);have e2:¬(k:Int) < 3:=by omega
  go_wp2_with fail
  refine (l4Typed_any B g (pk) _ hR (by omega)).mono ?_;rintro e w2 ⟨a0,a1,a2,c0,c1,c2,n,m,hi,zs,us,L,p1,rfl,hP,k0,j0,p0,hc⟩;try simp only [Sa] at hP
  have l0:=Hi k0;clear k0;replace hC:=(hC).trans hc;replace hR:=j0;clear j0;have y0:=hc.size;replace b0:=Bk.kg b0 hc;clear hc;have e0:=hP.lt;have m0:=Hi (((hP.keep (C1 (w.heap.size) 0 (.slice a0 n c0)) (fun gq h h2=>by have:=e0 gq h;omega)).keep (C1 (w.heap.size) 1 (.slice a1 m c1)) (fun gq h h2=>by have:=e0 gq h;omega)).keep (C1 (w.heap.size) 2 (.slice a2 L.length c2)) (fun gq h h2=>by have:=e0 gq h;omega));clear hP;obtain ⟨n1,z1,o1,b2,q1,d2⟩:=Bk.f3 b0 0 1 2 rfl rfl rfl;have f0:=((((Chg.refl (fun q=>q=w.heap.size) w2).setCell (w.heap.size) 0 (.slice a0 n c0) (fun _=>rfl)).setCell (w.heap.size) 1 (.slice a1 m c1) (fun _=>rfl)).setCell (w.heap.size) 2 (.slice a2 L.length c2) (fun _=>rfl));have i0:=(Bk.at (Bk.at (Bk.at b0 0 (.slice a0 n c0)) 1 (.slice a1 m c1)) 2 (.slice a2 L.length c2));obtain ⟨t0,u0,v0⟩:=Bk.g3 i0;have g0:=Hi f0;clear f0 i0;have h0:=Hi (Ai hC hR);clear hC hR;go_wp2
  exact bodyPost_ret (v:=.agg #[.slice a0 n c0,.slice a1 m c1,.slice a2 L.length c2]) (by simp [results,Try.results73,go_sem,t0,u0,v0]) rfl (by exact (by unfold TyP;exact ⟨_,_,_,_,_,_,_,_,_,_,_,L,p1,rfl,m0.out.mono (by omega),l0.out,h0.out.2.keep g0.out (fun h=>by omega) (fun k hk h=>by omega),by omega,chg_app h0.out.1 g0.out (fun q hq h=>by omega)⟩))
theorem reads_bk {w:World} {g n sz:Nat} {vs:List Value} (h:Bk w g vs) (hl:vs.length=n*sz) (hn:n≤9223372036854775807) (h0:0 < vs.length):Reads w sz (.slice (some ⟨g,0,none⟩) n n) n vs:=
 ⟨hl,hn,some ⟨g,0,none⟩,n,g,0,rfl,⟨Lr,fun h=>by cases h⟩,fun _=>⟨rfl,h.lt h0⟩,fun j hj=>by rw [Nat.zero_add];exact (h j hj).1⟩
theorem blk_of {g b o:Nat} {n c m d:Nat} {A:Nat→Prop} (hA:A g) (h:Value.slice (some ⟨g,0,none⟩) n c=.slice (some ⟨b,o,none⟩) m d):A b:=by
 have h1:=congrArg Value.ownBlock h;have h2:(some g:Option Nat)=some b:=h1;exact Si h2 ▸ hA
section
variable {w:World} {A:Nat→Prop} {D:Nat}
theorem exAt_leaf (k v:Int):ExAt w A (D+1) ⟨k,v,none,0,0⟩ (.mk k v []):=⟨rfl,rfl,RowOf.nil⟩
theorem exAt_one {g:Nat} {n:En} {e:Ex} (k v:Int) (h:Bk w g (enc n)) (hA:A g) (h1:ExAt w A D n e):ExAt w A (D+1) ⟨k,v,some ⟨g,0,none⟩,1,1⟩ (.mk k v [e]):=
 ⟨rfl,rfl,[n],rfl,reads_bk h rfl (show (1:Nat)≤9223372036854775807 by omega) (Nat.succ_pos _),fun b o c _ hv=>blk_of hA hv,fun j hj _=>by
  have e0:j=0:=by simp at hj;omega
  subst e0;exact h1⟩
theorem exAt_two {g:Nat} {n m:En} {e f:Ex} (k v:Int) (h:Bk w g (enc n++enc m)) (hA:A g) (h1:ExAt w A D n e) (h2:ExAt w A D m f):ExAt w A (D+1) ⟨k,v,some ⟨g,0,none⟩,2,2⟩ (.mk k v [e,f]):=
 ⟨rfl,rfl,[n,m],rfl,reads_bk h rfl (show (2:Nat)≤9223372036854775807 by omega) (Nat.succ_pos _),fun b o c _ hv=>blk_of hA hv,fun j hj _=>by
  have e0:j=0∨j=1:=by simp at hj;omega
  rcases e0 with rfl | rfl
  ·exact h1
  exact h2⟩
theorem exAt_three {g:Nat} {n m q:En} {e f x:Ex} (k v:Int) (h:Bk w g (enc n++(enc m++enc q))) (hA:A g) (h1:ExAt w A D n e) (h2:ExAt w A D m f) (h3:ExAt w A D q x):ExAt w A (D+1) ⟨k,v,some ⟨g,0,none⟩,3,3⟩ (.mk k v [e,f,x]):=
 ⟨rfl,rfl,[n,m,q],rfl,reads_bk h rfl (show (3:Nat)≤9223372036854775807 by omega) (Nat.succ_pos _),fun b o c _ hv=>blk_of hA hv,fun j hj _=>by
  have e0:j=0∨j=1∨j=2:=by simp at hj;omega
  rcases e0 with rfl | rfl | rfl
  ·exact h1
  ·exact h2
  exact h3⟩
theorem exAt_two2 {g b:Nat} {t:TypeId} {n m:En} {e f:Ex} (k v:Int) (h:w.ownsRow b t 3 (.slice (some ⟨g,0,none⟩) 2 2) 2 (enc n++enc m)) (hA:A g) (h1:ExAt w A D n e) (h2:ExAt w A D m f):ExAt w A (D+1) ⟨k,v,some ⟨g,0,none⟩,2,2⟩ (.mk k v [e,f]):=
 ⟨rfl,rfl,[n,m],rfl,Ro h (show (2:Nat)≤9223372036854775807 by omega),fun b o c _ hv=>blk_of hA hv,fun j hj _=>by
  have e0:j=0∨j=1:=by simp at hj;omega
  rcases e0 with rfl | rfl
  ·exact h1
  exact h2⟩
theorem exAt_three2 {g b:Nat} {t:TypeId} {n m q:En} {e f x:Ex} (k v:Int) (h:w.ownsRow b t 3 (.slice (some ⟨g,0,none⟩) 3 3) 3 (enc n++(enc m++enc q))) (hA:A g) (h1:ExAt w A D n e) (h2:ExAt w A D m f) (h3:ExAt w A D q x):ExAt w A (D+1) ⟨k,v,some ⟨g,0,none⟩,3,3⟩ (.mk k v [e,f,x]):=
 ⟨rfl,rfl,[n,m,q],rfl,Ro h (show (3:Nat)≤9223372036854775807 by omega),fun b o c _ hv=>blk_of hA hv,fun j hj _=>by
  have e0:j=0∨j=1∨j=2:=by simp at hj;omega
  rcases e0 with rfl | rfl | rfl
  ·exact h1
  ·exact h2
  exact h3⟩
end
def ExP (A:Nat→Prop) (D:Nat) (e:Ex) (w:World) (r:Ending) (w':World):Prop:=∃ n:En,r=.returned (.agg #[.int .i64 n.k,.int .i64 n.v,.slice n.p n.n n.c])∧ExAt w' (fun q=>A q∨w.heap.size≤q) D n e∧Below w.heap.size w w'
end Go.Proofs.Ytlckklglbodgbaa
namespace Go.Proofs.Ytlckklglbodgbaa
open Go.RowKit
theorem l5Read_any (A:Nat→Prop) (d:Nat) (a:Int) (n:En) (e:Ex) (w:World) (hx:ExAt w A d n e):Calls Try.prog 122 #[.int .i64 a,.agg #[.int .i64 n.k,.int .i64 n.v,.slice n.p n.n n.c]] w fun r w'=>ExP A (d+1) (.mk 3 a [e]) w r w':=by
 have HE:=Hi (fun W (hW:Below w.heap.size w W)=>ExAt.keep (S:=fun _=>False) (B':=fun q=>A q∨w.heap.size≤q) (Cb hW) (fun _ _ _=>id) (fun q h _=>Or.inl h) (Nat.le_refl d) hx);clear hx;go_enter Try.func122,Try.ntmps122
 have a0:=Hi (show Bk (World.alloc (World.alloc (World.alloc w (.cells #[.int .i64 n.k,.int .i64 n.v,.slice n.p n.n n.c] 49)) (.cells #[.int .i64 3,.int .i64 a,.slice (some ⟨w.heap.size+1+1,0,none⟩) 1 1] 49)) (.cells #[.int .i64 n.k,.int .i64 n.v,.slice n.p n.n n.c] 49)) (w.heap.size+1+1) (enc n) from (Bk.nw (by simp) rfl));have x2:((World.alloc (World.alloc (World.alloc w (.cells #[.int .i64 n.k,.int .i64 n.v,.slice n.p n.n n.c] 49)) (.cells #[.int .i64 3,.int .i64 a,.slice (some ⟨w.heap.size+1+1,0,none⟩) 1 1] 49)) (.cells #[.int .i64 n.k,.int .i64 n.v,.slice n.p n.n n.c] 49))).cell? ⟨w.heap.size+1,0,none⟩=some (.int .i64 3):=(Ac (Wc (by simp) (by rfl)) _);have x3:((World.alloc (World.alloc (World.alloc w (.cells #[.int .i64 n.k,.int .i64 n.v,.slice n.p n.n n.c] 49)) (.cells #[.int .i64 3,.int .i64 a,.slice (some ⟨w.heap.size+1+1,0,none⟩) 1 1] 49)) (.cells #[.int .i64 n.k,.int .i64 n.v,.slice n.p n.n n.c] 49))).cell? ⟨w.heap.size+1,1,none⟩=some (.int .i64 a):=(Ac (Wc (by simp) (by rfl)) _);have x4:((World.alloc (World.alloc (World.alloc w (.cells #[.int .i64 n.k,.int .i64 n.v,.slice n.p n.n n.c] 49)) (.cells #[.int .i64 3,.int .i64 a,.slice (some ⟨w.heap.size+1+1,0,none⟩) 1 1] 49)) (.cells #[.int .i64 n.k,.int .i64 n.v,.slice n.p n.n n.c] 49))).cell? ⟨w.heap.size+1,2,none⟩=some (.slice (some ⟨w.heap.size+1+1,0,none⟩) 1 1):=(Ac (Wc (by simp) (by rfl)) _);have tt:=(bal (bal (bal (Bs w) (.cells #[.int .i64 n.k,.int .i64 n.v,.slice n.p n.n n.c] 49)) (.cells #[.int .i64 3,.int .i64 a,.slice (some ⟨w.heap.size+1+1,0,none⟩) 1 1] 49)) (.cells #[.int .i64 n.k,.int .i64 n.v,.slice n.p n.n n.c] 49));go_wp2
 exact bodyPost_ret (v:=.agg #[.int .i64 3,.int .i64 a,.slice (some ⟨w.heap.size+1+1,0,none⟩) 1 1]) (by simp [results,Try.results122,go_sem,x2,x3,x4]) rfl (by exact (by unfold ExP;exact ⟨⟨3,a,some ⟨w.heap.size+1+1,0,none⟩,1,1⟩,rfl,exAt_one 3 a a0.out (Or.inr (by (try simp only [Sa,Ss]);omega)) (HE.out _ tt),tt⟩))
def VlP (v:Value) (w:World) (r:Ending) (w':World):Prop:=r=.returned v∧Below w.heap.size w w'
theorem l5Const_any (n:Int) (w:World):Calls Try.prog 136 #[.int .i64 n] w fun r w'=>VlP (.agg #[.int .i64 1,.int .i64 n,.slice none 0 0]) w r w':=by
 go_enter Try.func136,Try.ntmps136
 have x1:((World.alloc w (.cells #[.int .i64 1,.int .i64 n,.slice none 0 0] 49))).cell? ⟨w.heap.size,0,none⟩=some (.int .i64 1):=(Wc (by simp) (by rfl));have x2:((World.alloc w (.cells #[.int .i64 1,.int .i64 n,.slice none 0 0] 49))).cell? ⟨w.heap.size,1,none⟩=some (.int .i64 n):=(Wc (by simp) (by rfl));have x3:((World.alloc w (.cells #[.int .i64 1,.int .i64 n,.slice none 0 0] 49))).cell? ⟨w.heap.size,2,none⟩=some (.slice none 0 0):=(Wc (by simp) (by rfl));have tt:=(bal (Bs w) (.cells #[.int .i64 1,.int .i64 n,.slice none 0 0] 49));go_wp2
 exact bodyPost_ret (v:=.agg #[.int .i64 1,.int .i64 n,.slice none 0 0]) (by simp [results,Try.results136,go_sem,x1,x2,x3]) rfl (by exact (by unfold VlP;exact ⟨rfl,tt⟩))
theorem l5Var_any (n:Int) (w:World):Calls Try.prog 119 #[.int .i64 n] w fun r w'=>VlP (.agg #[.int .i64 2,.int .i64 n,.slice none 0 0]) w r w':=by
 go_enter Try.func119,Try.ntmps119
 have x1:((World.alloc w (.cells #[.int .i64 2,.int .i64 n,.slice none 0 0] 49))).cell? ⟨w.heap.size,0,none⟩=some (.int .i64 2):=(Wc (by simp) (by rfl));have x2:((World.alloc w (.cells #[.int .i64 2,.int .i64 n,.slice none 0 0] 49))).cell? ⟨w.heap.size,1,none⟩=some (.int .i64 n):=(Wc (by simp) (by rfl));have x3:((World.alloc w (.cells #[.int .i64 2,.int .i64 n,.slice none 0 0] 49))).cell? ⟨w.heap.size,2,none⟩=some (.slice none 0 0):=(Wc (by simp) (by rfl));have tt:=(bal (Bs w) (.cells #[.int .i64 2,.int .i64 n,.slice none 0 0] 49));go_wp2
 exact bodyPost_ret (v:=.agg #[.int .i64 2,.int .i64 n,.slice none 0 0]) (by simp [results,Try.results119,go_sem,x1,x2,x3]) rfl (by exact (by unfold VlP;exact ⟨rfl,tt⟩))
theorem l5Node_any (k:Int) (p:Option Addr) (n c:Nat) (w:World):Calls Try.prog 137 #[.int .i64 k,.slice p n c] w fun r w'=>VlP (.agg #[.int .i64 k,.int .i64 0,.slice p n c]) w r w':=by
 go_enter Try.func137,Try.ntmps137
 have x1:((World.alloc w (.cells #[.int .i64 k,.int .i64 0,.slice p n c] 49))).cell? ⟨w.heap.size,0,none⟩=some (.int .i64 k):=(Wc (by simp) (by rfl));have x2:((World.alloc w (.cells #[.int .i64 k,.int .i64 0,.slice p n c] 49))).cell? ⟨w.heap.size,1,none⟩=some (.int .i64 0):=(Wc (by simp) (by rfl));have x3:((World.alloc w (.cells #[.int .i64 k,.int .i64 0,.slice p n c] 49))).cell? ⟨w.heap.size,2,none⟩=some (.slice p n c):=(Wc (by simp) (by rfl));have tt:=(bal (Bs w) (.cells #[.int .i64 k,.int .i64 0,.slice p n c] 49));go_wp2
 exact bodyPost_ret (v:=.agg #[.int .i64 k,.int .i64 0,.slice p n c]) (by simp [results,Try.results137,go_sem,x1,x2,x3]) rfl (by exact (by unfold VlP;exact ⟨rfl,tt⟩))
end Go.Proofs.Ytlckklglbodgbaa
