/-
 Parts of the proofs of the laws FnExactDoubleLabels.
-/
import Derived.Test.YtnpidfbcbmeijaaPV
import Derived.Test.YtnpidfbcbmeijaaTK
import Derived.Test.YtnpidfbcbmeijaaMT
import Derived.Test.YtnpidfbcbmeijaaY
set_option linter.all false
namespace Go.Proofs.Ytnpidfbcbmeijaa
open Go.RowKit
def exRight (nv na:Nat) (e:Ex):Bool:=exOk nv na 5 e&&decide (exCnt 5 e≤15)
set_option maxHeartbeats 6400000 in
set_option maxRecDepth 100000 in
theorem l2Right_any (pv pa:Option Addr) (nv cv na ca:Nat) (vb:Value) (B:Nat→Prop) (D:Nat) (n:En) (e:Ex) (w:World) (hx:ExAt w B D n e) :
  Calls Try.prog 97 #[.agg #[.slice pv nv cv,.slice pa na ca,vb],.agg #[.int .i64 n.k,.int .i64 n.v,.slice n.p n.n n.c]] w fun r w'=>r=.returned (.bool (exRight nv na e))∧Below w.heap.size w w':=by
 have HX:=Hi (fun W (hW:Below w.heap.size w W)=>hx.below hW);have HN:Hid (exOk nv na 5 e=false→exRight nv na e=false):=Hi (fun h=>by unfold exRight;rw [h];rfl);have HY:Hid (exOk nv na 5 e=true→exRight nv na e=decide (exCnt 5 e≤15)):=Hi (fun h=>by unfold exRight;rw [h];rfl);have HS:=Hi (fun W (hW:Below w.heap.size w W)=>l2Shape_any pv pa nv cv na ca vb B 5 D n e W (by omega) (HX.out W hW));have HC:=Hi (fun (h:exOk nv na 5 e=true) W (hW:Below w.heap.size w W)=>l2Count_any B 5 D 5 n e W (by omega) (HX.out W hW) (exOk_thin (nv:=nv) (na:=na) h));clear hx HX;generalize exRight nv na e=X at *
 generalize exCnt 5 e=Y at *
 go_enter Try.func97,Try.ntmps97
 go_wp2_with fail
 refine (HS.out _ (bal (bal (Bs w) (.cells #[.slice pv nv cv,.slice pa na ca,vb] 29)) (.cells #[.int .i64 n.k,.int .i64 n.v,.slice n.p n.n n.c] 79))).mono ?_;rintro e w1 ⟨rfl,hb⟩;have c0:=hb.size;simp only [Sa] at c0;have g0:Bk w1 (w.heap.size) [.slice pv nv cv,.slice pa na ca,vb]:=Bb (Bk.al (Bk.nw (by simp) rfl) (.cells #[.int .i64 n.k,.int .i64 n.v,.slice n.p n.n n.c] 79)) hb;have a0:Bk w1 (w.heap.size+1) [.int .i64 n.k,.int .i64 n.v,.slice n.p n.n n.c]:=Bb (Bk.nw (by simp) rfl) hb;have b0:=btr (bal (bal (Bs w) (.cells #[.slice pv nv cv,.slice pa na ca,vb] 29)) (.cells #[.int .i64 n.k,.int .i64 n.v,.slice n.p n.n n.c] 79)) hb;clear hb;clear g0;have m0:=Bk.lz a0
 cases hc:exOk nv na 5 e with
 | false =>
  have HR:=Hi (HN.out hc);clear HN HY HC HS hc;have tt:=b0;go_wp2
  exact bodyPost_ret (v:=.bool false) (by simp [results,Try.results97,go_sem]) rfl (by exact by rw [HR.out];exact ⟨rfl,tt⟩)
 | true =>
  have HR:=Hi (HY.out hc);have f0:=Hi (HC.out hc);clear HN HY HC HS hc;obtain ⟨h0,k0,i0,l0,j0,d0⟩:=Bk.f3 a0 0 1 2 rfl rfl rfl;go_wp2_with fail
  refine (f0.out _ b0).mono ?_;rintro e w2 ⟨rfl,hb⟩;have e0:=hb.size;clear k0 h0 l0 i0 d0 j0;replace a0:=Bb a0 hb;replace b0:=btr b0 hb;clear hb;clear a0;have tt:=b0;go_wp2
  exact bodyPost_ret (v:=.bool (decide (Y≤15))) (by simp [results,Try.results97,go_sem]) rfl (by exact by rw [HR.out];exact ⟨rfl,tt⟩)
end Go.Proofs.Ytnpidfbcbmeijaa
