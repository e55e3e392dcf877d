/-
 Parts of the proofs of the laws FnExactSplitMemory.
-/
import Derived.Test.YtnpidfbcbmeijaaGI
import Derived.Test.YtnpidfbcbmeijaaMT
set_option maxHeartbeats 12800000
set_option maxRecDepth 100000
set_option linter.all false
namespace Go.Proofs.Ytnpidfbcbmeijaa
open Go.RowKit
def Rnd (w:World) (B g p:Nat):Prop:=
 ∃ a L cap,w.cell? ⟨g,0,none⟩=some (.slice a L cap)∧w.cell? ⟨g,1,none⟩=some (.int .i64 p)∧w.frozen? ⟨g,1,none⟩=false∧L≤1048576∧B≤g∧B≤w.heap.size ∧
  (0 < L→∃ b off,a=some ⟨b,off,none⟩∧b < B∧∀ j,j < L→∃ x:Int,0≤x∧x < 256∧w.cell? ⟨b,off+j,none⟩=some (.int .u8 x))
theorem Rnd.keep {w w':World} {B g p:Nat} (h:Rnd w B g p) {S:Nat→Prop} (hc:Chg S w w') (hg:¬S g) (hB:∀ k,k < B→¬S k):Rnd w' B g p:=by
 obtain ⟨a,L,d0,h0,h1,hf,hL,e0,f0,hb⟩:=h;have hl:=Lc h0;refine ⟨a,L,d0,(hc.cell 0 hl hg).trans h0,(hc.cell 1 hl hg).trans h1,(hc.frozen 1 hl hg).trans hf,hL,e0,Nat.le_trans f0 hc.size,fun h0=>?_⟩;obtain ⟨b,c0,ha,b0,a0⟩:=hb h0;refine ⟨b,c0,ha,b0,fun j hj=>?_⟩;obtain ⟨x,g0,i0,hx⟩:=a0 j hj;exact ⟨x,g0,i0,(hc.cell (c0+j) (by omega) (hB b b0)).trans hx⟩
theorem Rnd.kC {w:World} {B g p:Nat} (h:Rnd w B g p) (b j:Nat) (v:Value) (hg:¬g=b:=by omega) (hB:∀ k,k < B→¬k=b:=by intro _ _;omega):Rnd (w.setCell ⟨b,j,none⟩ v) B g p:=h.keep (C1 b j v) hg hB
theorem Rnd.below {w w':World} {B g p:Nat} (h:Rnd w B g p) (hb:Below w.heap.size w w'):Rnd w' B g p:=h.keep (S:=fun _=>False) (Cb hb) id (fun _ _=>id)
theorem Rnd.lt {w:World} {B g p:Nat} (h:Rnd w B g p):B≤g∧g < w.heap.size:=by
 obtain ⟨a,L,b0,h0,h1,hf,hL,a0,_⟩:=h;exact ⟨a0,Lc h0⟩
def exRight (nv na:Nat) (e:Ex):Bool:=exOk nv na 5 e&&decide (exCnt 5 e≤15)
theorem l2Right_any (pv pa:Option Addr) (nv cv na ca:Nat) (vb:Value) (B:Nat→Prop) (D:Nat) (n:En) (e:Ex) (w:World) (hx:ExAt w B D n e) :
  Calls Try.prog 97 #[.agg #[.slice pv nv cv,.slice pa na ca,vb],.agg #[.int .i64 n.k,.int .i64 n.v,.slice n.p n.n n.c]] w fun r w'=>r=.returned (.bool (exRight nv na e))∧Below w.heap.size w w':=by
 have HX:=Hi (fun W (hW:Below w.heap.size w W)=>hx.below hW);have HN:Hid (exOk nv na 5 e=false→exRight nv na e=false):=Hi (fun h=>by unfold exRight;rw [h];rfl);have HY:Hid (exOk nv na 5 e=true→exRight nv na e=decide (exCnt 5 e≤15)):=Hi (fun h=>by unfold exRight;rw [h];rfl);have HS:=Hi (fun W (hW:Below w.heap.size w W)=>l2Shape_any pv pa nv cv na ca vb B 5 D n e W (by omega) (HX.out W hW));have HC:=Hi (fun (h:exOk nv na 5 e=true) W (hW:Below w.heap.size w W)=>l2Count_any B 5 D 5 n e W (by omega) (HX.out W hW) (exOk_thin (nv:=nv) (na:=na) h));clear hx HX;generalize exRight nv na e=X at *
 generalize exCnt 5 e=Y at *
 go_enter Try.func97,Try.ntmps97
 go_wp2_with fail
 refine (HS.out _ (bal (bal (Bs w) (.cells #[.slice pv nv cv,.slice pa na ca,vb] 29)) (.cells #[.int .i64 n.k,.int .i64 n.v,.slice n.p n.n n.c] 79))).mono ?_;rintro e w1 ⟨rfl,hb⟩;have c0:=hb.size;simp only [Sa] at c0;have g0:Bk w1 (w.heap.size) [.slice pv nv cv,.slice pa na ca,vb]:=Bb (Bk.al (Bk.nw (by simp) rfl) (.cells #[.int .i64 n.k,.int .i64 n.v,.slice n.p n.n n.c] 79)) hb;have a0:Bk w1 (w.heap.size+1) [.int .i64 n.k,.int .i64 n.v,.slice n.p n.n n.c]:=Bb (Bk.nw (by simp) rfl) hb;have b0:=btr (bal (bal (Bs w) (.cells #[.slice pv nv cv,.slice pa na ca,vb] 29)) (.cells #[.int .i64 n.k,.int .i64 n.v,.slice n.p n.n n.c] 79)) hb;clear hb;clear g0;have m0:=Bk.lz a0
 cases hc:exOk nv na 5 e with
 | false =>
  have HR:=Hi (HN.out hc);clear HN HY HC HS hc;have tt:=b0;go_wp2
  exact bodyPost_ret (v:=.bool false) (by simp [results,Try.results97,go_sem]) rfl (by exact by rw [HR.out];exact ⟨rfl,tt⟩)
 | true =>
  have HR:=Hi (HY.out hc);have f0:=Hi (HC.out hc);clear HN HY HC HS hc;obtain ⟨h0,k0,i0,l0,j0,d0⟩:=Bk.f3 a0 0 1 2 rfl rfl rfl;go_wp2_with fail
  refine (f0.out _ b0).mono ?_;rintro e w2 ⟨rfl,hb⟩;have e0:=hb.size;clear k0 h0 l0 i0 d0 j0;replace a0:=Bb a0 hb;replace b0:=btr b0 hb;clear hb;clear a0;have tt:=b0;go_wp2
  exact bodyPost_ret (v:=.bool (decide (Y≤15))) (by simp [results,Try.results97,go_sem]) rfl (by exact by rw [HR.out];exact ⟨rfl,tt⟩)
theorem expr_any (pv pa:Option Addr) (nv cv na ca:Nat) (vb:Value) (hnv:nv≤1000000000∧na≤1000000000) (B:Nat→Prop) (D:Nat) (n:En) (e:Ex) (w:World) (hx:ExAt w B D n e) :
  Calls Try.prog 102 #[.agg #[.slice pv nv cv,.slice pa na ca,vb],.agg #[.int .i64 n.k,.int .i64 n.v,.slice n.p n.n n.c]] w fun r w'=>r=.returned (.bool (exRight nv na e))∧Below w.heap.size w w':=by
 have v0:ExAt w (fun q=>q < w.heap.size) D n e:=ExAt.keep (S:=fun _=>False) (Chg.refl _ _) (fun _ _ _=>id) (fun q _ h=>h) Lr hx;have HX:=Hi (fun W (hW:Below w.heap.size w W)=>ExAt.below v0 hW);have HQ:Hid (exRight nv na e=scR nv na 5 0 e):=Hi (by unfold exRight scR;simp);generalize exRight nv na e=Q at *
 clear hx v0;go_enter Try.func102,Try.ntmps102
 go_upto_region 2 with (fail)
 obtain ⟨w1,t0,hb⟩:=nmw (World.alloc (World.alloc (World.alloc w (.cells #[.slice pv nv cv,.slice pa na ca,vb] 29)) (.cells #[.int .i64 n.k,.int .i64 n.v,.slice n.p n.n n.c] 79)) (.cells #[.int .i64 0] 3));have f0:=hb.size;simp only [Sa] at f0;have b0:Bk w1 (w.heap.size) [.slice pv nv cv,.slice pa na ca,vb]:=Bb (Bk.al (Bk.al (Bk.nw (by simp) rfl) (.cells #[.int .i64 n.k,.int .i64 n.v,.slice n.p n.n n.c] 79)) (.cells #[.int .i64 0] 3)) hb;have c0:Bk w1 (w.heap.size+1) [.int .i64 n.k,.int .i64 n.v,.slice n.p n.n n.c]:=Bb (Bk.al (Bk.nw (by simp) rfl) (.cells #[.int .i64 0] 3)) hb;have d0:w1.cell? ⟨w.heap.size+1+1,0,none⟩=some (.int .i64 0):=Kc hb (Wc (by simp) (by rfl));have s0:w1.frozen? ⟨w.heap.size+1+1,0,none⟩=false:=Kf hb (by simp <;> omega) (Fn (by simp));have a0:=btr (bal (bal (bal (Bs w) (.cells #[.slice pv nv cv,.slice pa na ca,vb] 29)) (.cells #[.int .i64 n.k,.int .i64 n.v,.slice n.p n.n n.c] 79)) (.cells #[.int .i64 0] 3)) hb;clear hb;rw [← t0];clear t0;have a1:=Bk.lz b0;have b1:=Bk.lz c0;have c1:=Lc d0;have g0:∀ q,(fun k=>k=w.heap.size+1+1) q→q=w.heap.size+1+1:=fun q h=>h
 obtain ⟨z0,m0,h0,n0,i0,o0⟩:=Bk.f3 b0 0 1 2 rfl rfl rfl;obtain ⟨j0,p0,k0,q0,l0,r0⟩:=Bk.f3 c0 0 1 2 rfl rfl rfl;go_wp2_with fail
 have e0:=scan_any (w.heap.size+1+1) pv pa nv cv na ca vb (fun q=>q < w.heap.size) (fun q h e=>by omega) hnv 5 D n e 0 1 _ (by omega) (by omega) (HX.out _ a0) d0 s0 (by omega) (by omega);rw [← HQ.out] at e0;clear d0 s0;refine (e0).mono ?_;rintro e w2 ⟨c2,rfl,w0,y0,x0,hb⟩;clear e0 w0 y0 x0;have u0:=hb.size;clear m0 z0 n0 h0 o0 i0 p0 j0 q0 k0 r0 l0;replace b0:=Bk.keep b0 hb (fun h=>by have:=g0 _ h;omega);replace c0:=Bk.keep c0 hb (fun h=>by have:=g0 _ h;omega);replace a0:=a0.trans (hb.below w.heap.size (by have:=a0.size;omega) (fun gq hgq h=>by have:=g0 gq h;omega));clear hb;have tt:=a0;go_wp2
 exact bodyPost_ret (v:=.bool Q) (by simp [results,Try.results102,go_sem]) rfl (by exact ⟨rfl,tt⟩)
end Go.Proofs.Ytnpidfbcbmeijaa
