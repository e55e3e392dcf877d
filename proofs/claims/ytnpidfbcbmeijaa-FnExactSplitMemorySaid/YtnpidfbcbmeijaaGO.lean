/-
 Parts of the proofs of the laws FnExactSplitMemory.
-/
import Derived.Test.YtnpidfbcbmeijaaGL
import Derived.Test.YtnpidfbcbmeijaaVA
set_option linter.all false
namespace Go.Proofs.Ytnpidfbcbmeijaa
open Go.RowKit
theorem stm_both (cb:Nat) (pv pa:Option Addr) (nv cv na ca:Nat) (vb:Value) (B:Nat→Prop) (hB:∀ q,B q→¬q=cb) (hnv:nv≤1000000000∧na≤1000000000):∀ d:Nat,d≤5→(∀ (D:Nat) (n:Sn) (s:St) (c dp:Int) (w:World),dp=6-(d:Int)→StAt w B D n s→w.cell? ⟨cb,0,none⟩=some (.int .i64 c)→w.frozen? ⟨cb,0,none⟩=false→0≤c→c≤60→Calls Try.prog 83 #[.agg #[.slice pv nv cv,.slice pa na ca,vb],.agg #[.int .i64 n.k,.int .i64 n.t,.int .i64 n.ix.k,.int .i64 n.ix.v,.slice n.ix.p n.ix.n n.ix.c,.int .i64 n.val.k,.int .i64 n.val.v,.slice n.val.p n.val.n n.val.c,.int .i64 n.c,.slice n.bp n.bn n.bc,.slice n.ep n.en n.ec],.int .i64 dp,.pointer (some ⟨cb,0,none⟩)] w fun r w'=>ScP cb c (stC d s) (stR nv na d c s) w r w')∧(∀ (D:Nat) (u:Value) (L:List St) (c dp:Int) (w:World),dp=6-(d:Int)→BlAt w B D u L→w.cell? ⟨cb,0,none⟩=some (.int .i64 c)→w.frozen? ⟨cb,0,none⟩=false→0≤c→c≤60→Calls Try.prog 58 #[.agg #[.slice pv nv cv,.slice pa na ca,vb],u,.int .i64 dp,.pointer (some ⟨cb,0,none⟩)] w fun r w'=>ScP cb c (blC d L L.length) (blR nv na d c L) w r w'):=by
 intro d
 induction d with
 | zero =>
  intro hd;have h:(∀ (D:Nat) (n:Sn) (s:St) (c dp:Int) (w:World),dp=6-((0:Nat):Int)→StAt w B D n s→w.cell? ⟨cb,0,none⟩=some (.int .i64 c)→w.frozen? ⟨cb,0,none⟩=false→0≤c→c≤60→Calls Try.prog 83 #[.agg #[.slice pv nv cv,.slice pa na ca,vb],.agg #[.int .i64 n.k,.int .i64 n.t,.int .i64 n.ix.k,.int .i64 n.ix.v,.slice n.ix.p n.ix.n n.ix.c,.int .i64 n.val.k,.int .i64 n.val.v,.slice n.val.p n.val.n n.val.c,.int .i64 n.c,.slice n.bp n.bn n.bc,.slice n.ep n.en n.ec],.int .i64 dp,.pointer (some ⟨cb,0,none⟩)] w fun r w'=>ScP cb c (stC 0 s) (stR nv na 0 c s) w r w'):=fun D n s c dp w h1 _ h3 h4 h5 h6=>stmt_zero cb pv pa nv cv na ca vb B hB hnv D n s c dp w h1 h3 h4 h5 h6
  exact ⟨h,fun D u L c dp w h1 h2 h3 h4 h5 h6=>stmts_of cb pv pa nv cv na ca vb B hB hnv 0 hd h D u L c dp w h1 h2 h3 h4 h5 h6⟩
 | succ d ih =>
  intro hd;have hb:=(ih (by omega)).2;have h:(∀ (D:Nat) (n:Sn) (s:St) (c dp:Int) (w:World),dp=6-((d+1:Nat):Int)→StAt w B D n s→w.cell? ⟨cb,0,none⟩=some (.int .i64 c)→w.frozen? ⟨cb,0,none⟩=false→0≤c→c≤60→Calls Try.prog 83 #[.agg #[.slice pv nv cv,.slice pa na ca,vb],.agg #[.int .i64 n.k,.int .i64 n.t,.int .i64 n.ix.k,.int .i64 n.ix.v,.slice n.ix.p n.ix.n n.ix.c,.int .i64 n.val.k,.int .i64 n.val.v,.slice n.val.p n.val.n n.val.c,.int .i64 n.c,.slice n.bp n.bn n.bc,.slice n.ep n.en n.ec],.int .i64 dp,.pointer (some ⟨cb,0,none⟩)] w fun r w'=>ScP cb c (stC (d+1) s) (stR nv na (d+1) c s) w r w'):=fun D n s c dp w h1 h2 h3 h4 h5 h6=>stmt_of cb pv pa nv cv na ca vb B hB hnv d hd hb D n s c dp w h1 h2 h3 h4 h5 h6
  exact ⟨h,fun D u L c dp w h1 h2 h3 h4 h5 h6=>stmts_of cb pv pa nv cv na ca vb B hB hnv (d+1) hd h D u L c dp w h1 h2 h3 h4 h5 h6⟩
def pvR (xs ys:List Int) (L:List St):Bool:=declOk xs ys&&blR xs.length ys.length 5 0 L
set_option maxHeartbeats 6400000 in
set_option maxRecDepth 100000 in
theorem iProgramValid_any (va vb:Value) (xs ys:List Int) (A:Nat→Prop) (D:Nat) (u:Value) (L:List St) (w:World) (hr:Reads w 1 va xs.length (ints xs)) (hs:Reads w 1 vb ys.length (ints ys)) (hx:BlAt w A D u L) (hn:xs.length≤1000000000∧ys.length≤1000000000) :
  Calls Try.prog 30 #[.agg #[va,vb,u]] w fun r w'=>r=.returned (.bool (pvR xs ys L))∧Below w.heap.size w w':=by
 obtain ⟨pv,cv,rfl⟩:=reads_shape hr;obtain ⟨pa,ca,rfl⟩:=reads_shape hs;obtain ⟨pu,cu,rfl⟩:=hx.shape;have r0:BlAt w (fun q=>q < w.heap.size) D (.slice pu L.length cu) L:=hx.keep (S:=fun _=>False) (Chg.refl _ _) (fun _ _ _=>id) (fun q _ h=>h) Lr;have HX:=Hi (fun W (hW:Below w.heap.size w W)=>r0.below hW);have HH:=Hi (fun W (hW:Below w.heap.size w W)=>declared_any _ _ xs ys W (hr.below hW) (hs.below hW));have HQ:Hid (pvR xs ys L=(declOk xs ys&&blR xs.length ys.length 5 0 L)):=Hi rfl;clear hr hs hx r0;generalize pvR xs ys L=Q at *
 generalize declOk xs ys=X at *
 go_enter Try.func30,Try.ntmps30
 go_upto_region 2 with (fail)
 obtain ⟨w1,o0,hb⟩:=nmw (World.alloc (World.alloc w (.cells #[.slice pv xs.length cv,.slice pa ys.length ca,.slice pu L.length cu] 29)) (.cells #[.int .i64 0] 3));have g0:=hb.size;simp only [Sa] at g0;have b0:Bk w1 (w.heap.size) [.slice pv xs.length cv,.slice pa ys.length ca,.slice pu L.length cu]:=Bb (Bk.al (Bk.nw (by simp) rfl) (.cells #[.int .i64 0] 3)) hb;have c0:w1.cell? ⟨w.heap.size+1,0,none⟩=some (.int .i64 0):=Kc hb (Wc (by simp) (by rfl));have d0:w1.frozen? ⟨w.heap.size+1,0,none⟩=false:=Kf hb (by simp <;> omega) (Fn (by simp));have a0:=btr (bal (bal (Bs w) (.cells #[.slice pv xs.length cv,.slice pa ys.length ca,.slice pu L.length cu] 29)) (.cells #[.int .i64 0] 3)) hb;clear hb;rw [← o0];clear o0;have z0:=Bk.lz b0;have a1:=Lc c0;have s0:∀ q,(fun k=>k=w.heap.size+1) q→q=w.heap.size+1:=fun q h=>h
 obtain ⟨w0,y0,x0,k0⟩:=Bk.f2 b0 0 1 rfl rfl;go_wp2_with fail
 refine (HH.out _ a0).mono ?_;rintro e w2 ⟨rfl,hb⟩;have p0:=hb.size;clear y0 w0 k0 x0;replace d0:=Kf hb (Lc c0) d0;replace c0:=Kc hb c0;replace b0:=Bb b0 hb;replace a0:=btr a0 hb;clear hb
 cases X with
 | false =>
  have e0:Hid (Q=false):=Hi (by rw [HQ.out];rfl);have tt:=a0;go_wp2
  exact bodyPost_ret (v:=.bool false) (by simp [results,Try.results30,go_sem]) rfl (by exact by rw [e0.out];exact ⟨rfl,tt⟩)
 | true =>
  have e0:Hid (Q=blR xs.length ys.length 5 0 L):=Hi (by rw [HQ.out];rfl);obtain ⟨h0,l0,i0,m0,j0,n0⟩:=Bk.f3 b0 0 1 2 rfl rfl rfl;go_wp2_with fail
  have f0:=(stm_both (w.heap.size+1) pv pa xs.length cv ys.length ca (.slice pu L.length cu) (fun q=>q < w.heap.size) (fun q h e=>by omega) hn 5 Lr).2 D _ L 0 1 _ (by omega) (HX.out _ a0) c0 d0 (by omega) (by omega);rw [← e0.out] at f0;clear c0 d0;refine (f0).mono ?_;rintro e w3 ⟨c2,rfl,t0,v0,u0,hb⟩;clear f0 t0 v0 u0;have q0:=hb.size;clear l0 h0 m0 i0 n0 j0;replace b0:=Bk.keep b0 hb (fun h=>by have:=s0 _ h;omega);replace a0:=a0.trans (hb.below w.heap.size (by have:=a0.size;omega) (fun gq hgq h=>by have:=s0 gq h;omega));clear hb;have tt:=a0;go_wp2
  exact bodyPost_ret (v:=.bool Q) (by simp [results,Try.results30,go_sem]) rfl (by exact ⟨rfl,tt⟩)
end Go.Proofs.Ytnpidfbcbmeijaa
