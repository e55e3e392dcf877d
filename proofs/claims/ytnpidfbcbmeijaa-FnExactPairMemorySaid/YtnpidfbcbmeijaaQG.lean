/-
 Parts of the proofs of the laws FnExactPairMemory.
-/
import Derived.Test.YtnpidfbcbmeijaaQB
set_option linter.all false
namespace Go.Proofs.Ytnpidfbcbmeijaa
open Go.RowKit
set_option maxHeartbeats 6400000 in
set_option maxRecDepth 100000 in
theorem l2Stmt_zero (pv pa:Option Addr) (nv cv na ca:Nat) (vb:Value) (n:Sn) (w:World) :
  Calls Try.prog 79 #[.agg #[.slice pv nv cv,.slice pa na ca,vb],.agg #[.int .i64 n.k,.int .i64 n.t,.int .i64 n.ix.k,.int .i64 n.ix.v,.slice n.ix.p n.ix.n n.ix.c,.int .i64 n.val.k,.int .i64 n.val.v,.slice n.val.p n.val.n n.val.c,.int .i64 n.c,.slice n.bp n.bn n.bc,.slice n.ep n.en n.ec],.int .i64 ((0:Nat):Int)] w fun r w'=>r=.returned (.bool false)∧Below w.heap.size w w':=by
 go_enter Try.func79,Try.ntmps79
 have tt:=(bal (bal (Bs w) (.cells #[.slice pv nv cv,.slice pa na ca,vb] 29)) (.cells #[.int .i64 n.k,.int .i64 n.t,.int .i64 n.ix.k,.int .i64 n.ix.v,.slice n.ix.p n.ix.n n.ix.c,.int .i64 n.val.k,.int .i64 n.val.v,.slice n.val.p n.val.n n.val.c,.int .i64 n.c,.slice n.bp n.bn n.bc,.slice n.ep n.en n.ec] 81));go_wp2
 exact bodyPost_ret (v:=.bool false) (by simp [results,Try.results79,go_sem]) rfl (by exact ⟨rfl,tt⟩)
theorem l2Both (pv pa:Option Addr) (nv cv na ca:Nat) (vb:Value) (A:Nat→Prop):∀ (d:Nat),d≤5 →
  (∀ (D:Nat) (n:Sn) (s:St) (w:World),StAt w A D n s→Calls Try.prog 79 #[.agg #[.slice pv nv cv,.slice pa na ca,vb],.agg #[.int .i64 n.k,.int .i64 n.t,.int .i64 n.ix.k,.int .i64 n.ix.v,.slice n.ix.p n.ix.n n.ix.c,.int .i64 n.val.k,.int .i64 n.val.v,.slice n.val.p n.val.n n.val.c,.int .i64 n.c,.slice n.bp n.bn n.bc,.slice n.ep n.en n.ec],.int .i64 (d:Int)] w fun r w'=>r=.returned (.bool (stOk nv na d s))∧Below w.heap.size w w') ∧
  (∀ (D:Nat) (u:Value) (L:List St) (w:World),BlAt w A D u L→Calls Try.prog 54 #[.agg #[.slice pv nv cv,.slice pa na ca,vb],u,.int .i64 (d:Int)] w fun r w'=>r=.returned (.bool (L.all (stOk nv na d)))∧Below w.heap.size w w'):=by
 intro d
 induction d with
 | zero =>
  intro hd;have hs:∀ (D:Nat) (n:Sn) (s:St) (w:World),StAt w A D n s→Calls Try.prog 79 #[.agg #[.slice pv nv cv,.slice pa na ca,vb],.agg #[.int .i64 n.k,.int .i64 n.t,.int .i64 n.ix.k,.int .i64 n.ix.v,.slice n.ix.p n.ix.n n.ix.c,.int .i64 n.val.k,.int .i64 n.val.v,.slice n.val.p n.val.n n.val.c,.int .i64 n.c,.slice n.bp n.bn n.bc,.slice n.ep n.en n.ec],.int .i64 ((0:Nat):Int)] w fun r w'=>r=.returned (.bool (stOk nv na 0 s))∧Below w.heap.size w w':=fun D n s w _=>l2Stmt_zero pv pa nv cv na ca vb n w
  exact ⟨hs,fun D u L w h=>l2Block_of pv pa nv cv na ca vb A 0 hd hs D u L w h⟩
 | succ d ih =>
  intro hd;have hb:=(ih (by omega)).2;have hs:∀ (D:Nat) (n:Sn) (s:St) (w:World),StAt w A D n s→Calls Try.prog 79 #[.agg #[.slice pv nv cv,.slice pa na ca,vb],.agg #[.int .i64 n.k,.int .i64 n.t,.int .i64 n.ix.k,.int .i64 n.ix.v,.slice n.ix.p n.ix.n n.ix.c,.int .i64 n.val.k,.int .i64 n.val.v,.slice n.val.p n.val.n n.val.c,.int .i64 n.c,.slice n.bp n.bn n.bc,.slice n.ep n.en n.ec],.int .i64 ((d+1:Nat):Int)] w fun r w'=>r=.returned (.bool (stOk nv na (d+1) s))∧Below w.heap.size w w':=fun D n s w h=>l2Stmt_of pv pa nv cv na ca vb A d (by omega) hb D n s w h
  exact ⟨hs,fun D u L w h=>l2Block_of pv pa nv cv na ca vb A (d+1) hd hs D u L w h⟩
end Go.Proofs.Ytnpidfbcbmeijaa
