/-
 Parts of the proofs of the laws FnExactDoubleLabels.
-/
import Derived.Test.YtnpidfbcbmeijaaF
import Derived.Test.YtnpidfbcbmeijaaTK
import Derived.Test.YtnpidfbcbmeijaaGB
set_option linter.all false
namespace Go.Proofs.Ytnpidfbcbmeijaa
open Go.RowKit
theorem szI_p (v:Value) (n:Nat) (vs:List Value) (left:Int) (w:World) (hr:Reads w 1 v n vs) (h0:0≤left) (h1:left≤1048576) :
  Calls Try.prog 25 #[v,.int .i64 left] w fun e w'=>SzP n left w e w':=by
 refine (szIntS_any v n vs left w hr h0 (by omega)).mono ?_;rintro e w' ⟨rfl,rfl⟩;exact ⟨_,rfl,by split <;> omega,Below.refl _ _⟩
theorem szBl_any (B:Nat→Prop) (D:Nat) (u:Value) (L:List St) (left:Int) (w:World) (h:BlAt w B D u L) (h0:0≤left) (h1:left≤1048576):Calls Try.prog 26 #[u,.int .i64 left] w fun e w'=>SzP (stNs L) left w e w':=(szSt_both B D).2 u L left w h h0 h1
set_option maxHeartbeats 6400000 in
set_option maxRecDepth 100000 in
theorem szProgram_any (va vb:Value) (xs ys:List Int) (A:Nat→Prop) (D:Nat) (u:Value) (L:List St) (left:Int) (w:World) (hr:Reads w 1 va xs.length (ints xs)) (hs:Reads w 1 vb ys.length (ints ys)) (hx:BlAt w A D u L) (h0:0≤left) (h1:left≤1048576) :
  Calls Try.prog 7 #[.agg #[va,vb,u],.int .i64 left] w fun r w'=>SzP (xs.length+ys.length+stNs L) left w r w':=by
 obtain ⟨pv,cv,rfl⟩:=reads_shape hr;obtain ⟨pa,ca,rfl⟩:=reads_shape hs;obtain ⟨pu,cu,rfl⟩:=hx.shape;have d0:BlAt w (fun q=>q < w.heap.size) D (.slice pu L.length cu) L:=hx.keep (S:=fun _=>False) (Chg.refl _ _) (fun _ _ _=>id) (fun q _ h=>h) Lr;have HA:Hid (∀ (l:Int) (W:World),Below w.heap.size w W→0≤l→l≤1048576→Calls Try.prog 25 #[.slice pv xs.length cv,.int .i64 l] W fun e w'=>SzP xs.length l W e w'):=Hi (fun l W hW h0 h1=>szI_p _ _ _ l W (hr.below hW) h0 h1);have HB:Hid (∀ (l:Int) (W:World),Below w.heap.size w W→0≤l→l≤1048576→Calls Try.prog 25 #[.slice pa ys.length ca,.int .i64 l] W fun e w'=>SzP ys.length l W e w'):=Hi (fun l W hW h0 h1=>szI_p _ _ _ l W (hs.below hW) h0 h1);have HC:Hid (∀ (l:Int) (W:World),Below w.heap.size w W→0≤l→l≤1048576→Calls Try.prog 26 #[.slice pu L.length cu,.int .i64 l] W fun e w'=>SzP (stNs L) l W e w'):=Hi (fun l W hW h0 h1=>szBl_any _ D _ L l W (d0.below hW) h0 h1);clear hr hs hx d0;obtain ⟨m,hm⟩:∃ m,m=stNs L:=⟨_,rfl⟩;rw [← hm] at HC ⊢;clear hm;go_enter Try.func7,Try.ntmps7
 go_wp2_with fail
 refine (HA.out (left) _ (bal (Bs w) (.cells #[.slice pv xs.length cv,.slice pa ys.length ca,.slice pu L.length cu] 25)) (by omega) (by omega)).mono ?_;rintro e w1 ⟨r0,rfl,e0,hb⟩;have c0:=hb.size;simp only [Sa] at c0;have b0:Bk w1 (w.heap.size) [.slice pv xs.length cv,.slice pa ys.length ca,.slice pu L.length cu]:=Bb (Bk.nw (by simp) rfl) hb;have a0:=btr (bal (Bs w) (.cells #[.slice pv xs.length cv,.slice pa ys.length ca,.slice pu L.length cu] 25)) hb;clear hb;have t0:=Bk.lz b0;rcases e0 with rfl | ⟨k0,j0⟩
 ·have tt:=a0;go_wp2
  exact bodyPost_ret (v:=.int .i64 (-1)) (by simp [results,Try.results7,go_sem]) rfl (by exact ⟨_,rfl,.inl rfl,tt⟩)
 have q0:¬r0 < 0:=by omega
 have o0:r0≤1048576:=by omega
 have J0:=Hi j0;clear j0;obtain ⟨i0,m0⟩:=Bk.cf b0 1 rfl;go_wp2_with fail
 refine (HB.out (r0) _ a0 (by omega) (by omega)).mono ?_;rintro e w2 ⟨r1,rfl,e1,hb⟩;have f0:=hb.size;clear m0 i0;replace b0:=Bb b0 hb;replace a0:=btr a0 hb;clear hb;rcases e1 with rfl | ⟨k1,j1⟩
 ·have tt:=a0;go_wp2
  exact bodyPost_ret (v:=.int .i64 (-1)) (by simp [results,Try.results7,go_sem]) rfl (by exact ⟨_,rfl,.inl rfl,tt⟩)
 have q1:¬r1 < 0:=by omega
 have p0:r1≤1048576:=by omega
 have J1:=Hi j1;clear j1;obtain ⟨l0,n0⟩:=Bk.cf b0 2 rfl;go_wp2_with fail
 refine (HC.out (r1) _ a0 (by omega) (by omega)).mono ?_;rintro e w3 ⟨r2,rfl,e2,hb⟩;have g0:=hb.size;clear n0 l0;replace b0:=Bb b0 hb;replace a0:=btr a0 hb;clear hb;rcases e2 with rfl | ⟨k2,j2⟩
 ·have tt:=a0;go_wp2
  exact bodyPost_ret (v:=.int .i64 (-1)) (by simp [results,Try.results7,go_sem]) rfl (by exact ⟨_,rfl,.inl rfl,tt⟩)
 have q2:¬r2 < 0:=by omega
 have s0:r2≤1048576:=by omega
 have J2:=Hi j2;clear j2;have tt:=a0;go_wp2
 exact bodyPost_ret (v:=.int .i64 r2) (by simp [results,Try.results7,go_sem]) rfl (by exact ⟨_,rfl,.inr ⟨by omega,by have:=J0.out;have:=J1.out;have:=J2.out;omega⟩,tt⟩)
end Go.Proofs.Ytnpidfbcbmeijaa
