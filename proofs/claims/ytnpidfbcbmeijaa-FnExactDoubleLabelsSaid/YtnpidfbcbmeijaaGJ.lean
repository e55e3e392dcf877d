/-
 Parts of the proofs of the laws FnExactDoubleLabels.
-/
import Derived.Test.YtnpidfbcbmeijaaGI
import Derived.Test.YtnpidfbcbmeijaaPW
set_option linter.all false
namespace Go.Proofs.Ytnpidfbcbmeijaa
open Go.RowKit
set_option maxHeartbeats 6400000 in
set_option maxRecDepth 100000 in
theorem expr_any (pv pa:Option Addr) (nv cv na ca:Nat) (vb:Value) (hnv:nv≤1000000000∧na≤1000000000) (B:Nat→Prop) (D:Nat) (n:En) (e:Ex) (w:World) (hx:ExAt w B D n e) :
  Calls Try.prog 102 #[.agg #[.slice pv nv cv,.slice pa na ca,vb],.agg #[.int .i64 n.k,.int .i64 n.v,.slice n.p n.n n.c]] w fun r w'=>r=.returned (.bool (exRight nv na e))∧Below w.heap.size w w':=by
 have v0:ExAt w (fun q=>q < w.heap.size) D n e:=ExAt.keep (S:=fun _=>False) (Chg.refl _ _) (fun _ _ _=>id) (fun q _ h=>h) Lr hx;have HX:=Hi (fun W (hW:Below w.heap.size w W)=>ExAt.below v0 hW);have HQ:Hid (exRight nv na e=scR nv na 5 0 e):=Hi (by unfold exRight scR;simp);generalize exRight nv na e=Q at *
 clear hx v0;go_enter Try.func102,Try.ntmps102
 go_upto_region 2 with (fail)
 obtain ⟨w1,t0,hb⟩:=nmw (World.alloc (World.alloc (World.alloc w (.cells #[.slice pv nv cv,.slice pa na ca,vb] 29)) (.cells #[.int .i64 n.k,.int .i64 n.v,.slice n.p n.n n.c] 79)) (.cells #[.int .i64 0] 3));have f0:=hb.size;simp only [Sa] at f0;have b0:Bk w1 (w.heap.size) [.slice pv nv cv,.slice pa na ca,vb]:=Bb (Bk.al (Bk.al (Bk.nw (by simp) rfl) (.cells #[.int .i64 n.k,.int .i64 n.v,.slice n.p n.n n.c] 79)) (.cells #[.int .i64 0] 3)) hb;have c0:Bk w1 (w.heap.size+1) [.int .i64 n.k,.int .i64 n.v,.slice n.p n.n n.c]:=Bb (Bk.al (Bk.nw (by simp) rfl) (.cells #[.int .i64 0] 3)) hb;have d0:w1.cell? ⟨w.heap.size+1+1,0,none⟩=some (.int .i64 0):=Kc hb (Wc (by simp) (by rfl));have s0:w1.frozen? ⟨w.heap.size+1+1,0,none⟩=false:=Kf hb (by simp <;> omega) (Fn (by simp));have a0:=btr (bal (bal (bal (Bs w) (.cells #[.slice pv nv cv,.slice pa na ca,vb] 29)) (.cells #[.int .i64 n.k,.int .i64 n.v,.slice n.p n.n n.c] 79)) (.cells #[.int .i64 0] 3)) hb;clear hb;rw [← t0];clear t0;have a1:=Bk.lz b0;have b1:=Bk.lz c0;have c1:=Lc d0;have g0:∀ q,(fun k=>k=w.heap.size+1+1) q→q=w.heap.size+1+1:=fun q h=>h
 obtain ⟨z0,m0,h0,n0,i0,o0⟩:=Bk.f3 b0 0 1 2 rfl rfl rfl;obtain ⟨j0,p0,k0,q0,l0,r0⟩:=Bk.f3 c0 0 1 2 rfl rfl rfl;go_wp2_with fail
 have e0:=scan_any (w.heap.size+1+1) pv pa nv cv na ca vb (fun q=>q < w.heap.size) (fun q h e=>by omega) hnv 5 D n e 0 1 _ (by omega) (by omega) (HX.out _ a0) d0 s0 (by omega) (by omega);rw [← HQ.out] at e0;clear d0 s0;refine (e0).mono ?_;rintro e w2 ⟨c2,rfl,w0,y0,x0,hb⟩;clear e0 w0 y0 x0;have u0:=hb.size;clear m0 z0 n0 h0 o0 i0 p0 j0 q0 k0 r0 l0;replace b0:=Bk.keep b0 hb (fun h=>by have:=g0 _ h;omega);replace c0:=Bk.keep c0 hb (fun h=>by have:=g0 _ h;omega);replace a0:=a0.trans (hb.below w.heap.size (by have:=a0.size;omega) (fun gq hgq h=>by have:=g0 gq h;omega));clear hb;have tt:=a0;go_wp2
 exact bodyPost_ret (v:=.bool Q) (by simp [results,Try.results102,go_sem]) rfl (by exact ⟨rfl,tt⟩)
end Go.Proofs.Ytnpidfbcbmeijaa
