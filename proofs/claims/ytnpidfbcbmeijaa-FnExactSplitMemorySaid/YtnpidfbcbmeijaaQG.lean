/-
 Parts of the proofs of the laws FnExactSplitMemory.
-/
import Derived.Test.YtnpidfbcbmeijaaVA
import Derived.Test.YtnpidfbcbmeijaaQB
set_option maxHeartbeats 12800000
set_option maxRecDepth 100000
set_option linter.all false
namespace Go.Proofs.Ytnpidfbcbmeijaa
open Go.RowKit
theorem l2Stmt_zero (pv pa:Option Addr) (nv cv na ca:Nat) (vb:Value) (n:Sn) (w:World) :
  Calls Try.prog 79 #[.agg #[.slice pv nv cv,.slice pa na ca,vb],.agg #[.int .i64 n.k,.int .i64 n.t,.int .i64 n.ix.k,.int .i64 n.ix.v,.slice n.ix.p n.ix.n n.ix.c,.int .i64 n.val.k,.int .i64 n.val.v,.slice n.val.p n.val.n n.val.c,.int .i64 n.c,.slice n.bp n.bn n.bc,.slice n.ep n.en n.ec],.int .i64 ((0:Nat):Int)] w fun r w'=>r=.returned (.bool false)∧Below w.heap.size w w':=by
 go_enter Try.func79,Try.ntmps79
 have tt:=(bal (bal (Bs w) (.cells #[.slice pv nv cv,.slice pa na ca,vb] 29)) (.cells #[.int .i64 n.k,.int .i64 n.t,.int .i64 n.ix.k,.int .i64 n.ix.v,.slice n.ix.p n.ix.n n.ix.c,.int .i64 n.val.k,.int .i64 n.val.v,.slice n.val.p n.val.n n.val.c,.int .i64 n.c,.slice n.bp n.bn n.bc,.slice n.ep n.en n.ec] 81));go_wp2
 exact bodyPost_ret (v:=.bool false) (by simp [results,Try.results79,go_sem]) rfl (by exact ⟨rfl,tt⟩)
theorem l2Both (pv pa:Option Addr) (nv cv na ca:Nat) (vb:Value) (A:Nat→Prop):∀ (d:Nat),d≤5 →
  (∀ (D:Nat) (n:Sn) (s:St) (w:World),StAt w A D n s→Calls Try.prog 79 #[.agg #[.slice pv nv cv,.slice pa na ca,vb],.agg #[.int .i64 n.k,.int .i64 n.t,.int .i64 n.ix.k,.int .i64 n.ix.v,.slice n.ix.p n.ix.n n.ix.c,.int .i64 n.val.k,.int .i64 n.val.v,.slice n.val.p n.val.n n.val.c,.int .i64 n.c,.slice n.bp n.bn n.bc,.slice n.ep n.en n.ec],.int .i64 (d:Int)] w fun r w'=>r=.returned (.bool (stOk nv na d s))∧Below w.heap.size w w') ∧
  (∀ (D:Nat) (u:Value) (L:List St) (w:World),BlAt w A D u L→Calls Try.prog 54 #[.agg #[.slice pv nv cv,.slice pa na ca,vb],u,.int .i64 (d:Int)] w fun r w'=>r=.returned (.bool (L.all (stOk nv na d)))∧Below w.heap.size w w'):=by
 intro d
 induction d with
 | zero =>
  intro hd;have hs:∀ (D:Nat) (n:Sn) (s:St) (w:World),StAt w A D n s→Calls Try.prog 79 #[.agg #[.slice pv nv cv,.slice pa na ca,vb],.agg #[.int .i64 n.k,.int .i64 n.t,.int .i64 n.ix.k,.int .i64 n.ix.v,.slice n.ix.p n.ix.n n.ix.c,.int .i64 n.val.k,.int .i64 n.val.v,.slice n.val.p n.val.n n.val.c,.int .i64 n.c,.slice n.bp n.bn n.bc,.slice n.ep n.en n.ec],.int .i64 ((0:Nat):Int)] w fun r w'=>r=.returned (.bool (stOk nv na 0 s))∧Below w.heap.size w w':=fun D n s w _=>l2Stmt_zero pv pa nv cv na ca vb n w
  exact ⟨hs,fun D u L w h=>l2Block_of pv pa nv cv na ca vb A 0 hd hs D u L w h⟩
 | succ d ih =>
  intro hd;have hb:=(ih (by omega)).2;have hs:∀ (D:Nat) (n:Sn) (s:St) (w:World),StAt w A D n s→Calls Try.prog 79 #[.agg #[.slice pv nv cv,.slice pa na ca,vb],.agg #[.int .i64 n.k,.int .i64 n.t,.int .i64 n.ix.k,.int .i64 n.ix.v,.slice n.ix.p n.ix.n n.ix.c,.int .i64 n.val.k,.int .i64 n.val.v,.slice n.val.p n.val.n n.val.c,.int .i64 n.c,.slice n.bp n.bn n.bc,.slice n.ep n.en n.ec],.int .i64 ((d+1:Nat):Int)] w fun r w'=>r=.returned (.bool (stOk nv na (d+1) s))∧Below w.heap.size w w':=fun D n s w h=>l2Stmt_of pv pa nv cv na ca vb A d (by omega) hb D n s w h
  exact ⟨hs,fun D u L w h=>l2Block_of pv pa nv cv na ca vb A (d+1) hd hs D u L w h⟩
theorem sLabelValid_any (n:Int) (w:World) :
  Calls Try.prog 78 #[.int .i64 n] w fun e w'=>e=.returned (.bool (labOk n))∧Below w.heap.size w w':=by
 have hc:(0≤n∧n≤3)∨n < 0∨(0≤n∧3 < n):=by omega
 rcases hc with ⟨h1,h2⟩ | h | ⟨h1,h2⟩
 ·have HB:Hid (labOk n=true):=Hi (decide_eq_true ⟨h1,h2⟩);go_enter Try.func78,Try.ntmps78
  go_wp2
  go_ret
  exact ⟨ret_bool HB.out.symm,Bs w⟩
 ·have HB:Hid (labOk n=false):=Hi (decide_eq_false (by omega));go_enter Try.func78,Try.ntmps78
  go_wp2
  go_ret
  exact ⟨ret_bool HB.out.symm,Bs w⟩
 have HB:Hid (labOk n=false):=Hi (decide_eq_false (by omega));have h3:decide (n≤3)=false:=decide_eq_false (by omega);clear h2;go_enter Try.func78,Try.ntmps78
 go_wp2
 go_ret
 exact ⟨ret_bool HB.out.symm,Bs w⟩
theorem l2Heads_any (va vb:Value) (xs ys:List Int) (a2:Option Addr) (n2 c2:Nat) (w:World) (hr:Reads w 1 va xs.length (ints xs)) (hs:Reads w 1 vb ys.length (ints ys)) :
  Calls Try.prog 53 #[.agg #[va,vb,.slice a2 n2 c2]] w fun e w'=>e=.returned (.bool (declOk xs ys))∧Below w.heap.size w w':=by
 obtain ⟨_,hn,a,e0,b,s0,rfl,r0,ha,n0⟩:=hr;obtain ⟨_,hn',a',cap',b',off',rfl,hcap',ha',l0⟩:=hs;have HD:Hid (declOk xs ys=(wi xs.length 1 12&&(decide ((ys.length:Int)≤2)&&(labsOk xs&&labsOk ys)))):=Hi (by unfold declOk wi;rw [show decide (1≤xs.length∧xs.length≤12)=decide ((1:Int)≤xs.length∧(xs.length:Int)≤12) from by rw [decide_eq_decide];omega,show decide (ys.length≤2)=decide ((ys.length:Int)≤2) from by rw [decide_eq_decide];omega]);generalize declOk xs ys=D at *
 have b0:(w.alloc (.cells #[.slice a xs.length e0,.slice a' ys.length cap',.slice a2 n2 c2] 29)).cell? ⟨w.heap.size,0,none⟩=some (.slice a xs.length e0):=Wc rfl rfl;have b1:(w.alloc (.cells #[.slice a xs.length e0,.slice a' ys.length cap',.slice a2 n2 c2] 29)).cell? ⟨w.heap.size,1,none⟩=some (.slice a' ys.length cap'):=Wc rfl rfl;have j0:=bal (Bs w) (.cells #[.slice a xs.length e0,.slice a' ys.length cap',.slice a2 n2 c2] 29);go_enter Try.func53,Try.ntmps53
 go_wp2
 obtain ⟨w0,p0⟩:∃ w0,w0=w.alloc (.cells #[.slice a xs.length e0,.slice a' ys.length cap',.slice a2 n2 c2] 29):=⟨_,rfl⟩;rw [← p0] at b0 b1 j0 ⊢;clear p0;go_loopw [3] (fun i wr=>∃ k:Nat,k≤xs.length∧i=.int .i64 k∧(∀ j (h:j < xs.length),j < k→labOk xs[j]=true)∧Below w0.heap.size w0 wr) (fun i _=>xs.length-(intOf i).toNat)
 case atStart=>exact ⟨0,Nat.zero_le _,rfl,fun j _ h=>absurd h (by omega),Bs _⟩
 case round =>
  obtain ⟨k,hk,rfl,c0,a0⟩:=hrel;have HA:=Hi c0;clear c0;have g0:=Kc a0 b0;have g1:=Kc a0 b1;have k0:=Lc g0;have h0:=btr j0 a0;by_cases hlt:k < xs.length
  ·obtain ⟨rfl,m0⟩:=ha (by omega);have d0:=n0 k (by simpa [ints] using hlt);rw [ints_get] at d0;have d0:=(h0.cell (p:=⟨b,s0+k,none⟩) m0).trans d0;clear n0 ha b0 b1 j0 ha' l0;generalize hx:xs[k]=x at d0
   have HX:=Hi hx;clear hx;go_wp2_with fail
   refine (sLabelValid_any x _).mono ?_;rintro e w1 ⟨rfl,hb⟩;have i0:=btr a0 hb;have q0:=btr h0 hb
   cases hok:labOk x with
   | true =>
    have HO:=Hi hok;clear hok hb a0 h0;go_wp2
    go_roundw
    case rel=>exact ⟨k+1,by omega,by go_num,all_succ (P:=fun j x=>labOk x=true) hlt HA.out (by rw [HX.out];exact HO.out),i0⟩
    case measure=>simp [intOf];omega
   | false =>
    have HO:=Hi hok;clear hok hb a0 h0;go_wp2
    go_ret
    exact ⟨ret_bool (by rw [HD.out,labs_no hlt (by rw [HX.out];exact HO.out)];simp),q0⟩
  have HX:Hid (labsOk xs=true):=Hi (labs_all (fun j h=>HA.out j h (by omega)));have o0:k=xs.length:=by omega
  subst o0;clear n0 ha HA hk b0 b1 j0 a0;go_wp2
  go_loopw [4] (fun i wr=>∃ k:Nat,k≤ys.length∧i=.int .i64 k∧(∀ j (h:j < ys.length),j < k→labOk ys[j]=true)∧Below w.heap.size w wr∧wr.cell? ⟨w.heap.size,0,none⟩=some (.slice a xs.length e0)∧wr.cell? ⟨w.heap.size,1,none⟩=some (.slice a' ys.length cap')) (fun i _=>ys.length-(intOf i).toNat)
  case atStart=>exact ⟨0,Nat.zero_le _,rfl,fun j _ h=>absurd h (by omega),h0,g0,g1⟩
  case round =>
   obtain ⟨k,hk,rfl,c0,a0,f0,f1⟩:=hrel;have HA:=Hi c0;clear c0;have k1:=Lc f0;clear h0 g0 g1 k0;by_cases hlt:k < ys.length
   ·obtain ⟨rfl,m0⟩:=ha' (by omega);have d0:=l0 k (by simpa [ints] using hlt);rw [ints_get] at d0;have d0:=(a0.cell (p:=⟨b',off'+k,none⟩) m0).trans d0;clear l0 ha';generalize hx:ys[k]=x at d0
    have HY:=Hi hx;clear hx;go_wp2_with fail
    refine (sLabelValid_any x _).mono ?_;rintro e w1 ⟨rfl,hb⟩;have i0:=btr a0 hb;have f0':=Kc hb f0;have f1':=Kc hb f1
    cases hok:labOk x with
    | true =>
     have HO:=Hi hok;clear hok hb a0;go_wp2
     go_roundw
     case rel=>exact ⟨k+1,by omega,by go_num,all_succ (P:=fun j x=>labOk x=true) hlt HA.out (by rw [HY.out];exact HO.out),i0,f0',f1'⟩
     case measure=>simp [intOf];omega
    | false =>
     have HO:=Hi hok;clear hok hb a0;go_wp2
     go_ret
     exact ⟨ret_bool (by rw [HD.out,labs_no hlt (by rw [HY.out];exact HO.out)];simp),i0⟩
   have HY:Hid (labsOk ys=true):=Hi (labs_all (fun j h=>HA.out j h (by omega)));clear l0 ha';have hc:(xs.length:Int) < 1∨((1:Int)≤xs.length∧((12:Int) < xs.length∨((xs.length:Int)≤12))):=by omega
   rcases hc with hc | ⟨d0,hc | hc⟩
   ·have HW:Hid (wi xs.length 1 12=false):=Hi (decide_eq_false (by omega));go_wp2
    go_ret
    exact ⟨ret_bool (by rw [HD.out,HW.out];rfl),a0⟩
   ·have HW:Hid (wi xs.length 1 12=false):=Hi (decide_eq_false (by omega));have h3:decide ((xs.length:Int)≤12)=false:=decide_eq_false (by omega);clear hc;go_wp2
    go_ret
    exact ⟨ret_bool (by rw [HD.out,HW.out];rfl),a0⟩
   have HW:Hid (wi xs.length 1 12=true):=Hi (decide_eq_true (by omega));go_wp2
   go_ret
   exact ⟨ret_bool (by rw [HD.out,HW.out,HX.out,HY.out];simp),a0⟩
end Go.Proofs.Ytnpidfbcbmeijaa
