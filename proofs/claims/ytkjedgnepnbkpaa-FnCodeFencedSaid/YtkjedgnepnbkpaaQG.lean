/-
 Parts of the proofs of the laws FnCodeFenced,FnCountBranches.
-/
import Derived.Test.YtkjedgnepnbkpaaQB
set_option maxHeartbeats 12800000
set_option maxRecDepth 100000
set_option linter.all false
namespace Go.Proofs.Ytkjedgnepnbkpaa
open Go.RowKit
theorem l2Stmt_zero (pv pa:Option Addr) (nv cv na ca:Nat) (vb:Value) (n:Sn) (w:World) :
  Calls Try.prog 170 #[.agg #[.slice pv nv cv,.slice pa na ca,vb],.agg #[.int .i64 n.k,.int .i64 n.t,.int .i64 n.ix.k,.int .i64 n.ix.v,.slice n.ix.p n.ix.n n.ix.c,.int .i64 n.val.k,.int .i64 n.val.v,.slice n.val.p n.val.n n.val.c,.int .i64 n.c,.slice n.bp n.bn n.bc,.slice n.ep n.en n.ec],.int .i64 ((0:Nat):Int)] w fun r w'=>r=.returned (.bool false)∧Below w.heap.size w w':=by
 go_enter Try.func170,Try.ntmps170
 have tt:=(bal (bal (Bs w) (.cells #[.slice pv nv cv,.slice pa na ca,vb] 110)) (.cells #[.int .i64 n.k,.int .i64 n.t,.int .i64 n.ix.k,.int .i64 n.ix.v,.slice n.ix.p n.ix.n n.ix.c,.int .i64 n.val.k,.int .i64 n.val.v,.slice n.val.p n.val.n n.val.c,.int .i64 n.c,.slice n.bp n.bn n.bc,.slice n.ep n.en n.ec] 163))
 go_wp2
 exact bodyPost_ret (v:=.bool false) (by simp [results,Try.results170,go_sem]) rfl (by exact ⟨rfl,tt⟩)
theorem l2Both (pv pa:Option Addr) (nv cv na ca:Nat) (vb:Value) (A:Nat→Prop):∀ (d:Nat),d≤5 →
  (∀ (D:Nat) (n:Sn) (s:St) (w:World),StAt w A D n s→Calls Try.prog 170 #[.agg #[.slice pv nv cv,.slice pa na ca,vb],.agg #[.int .i64 n.k,.int .i64 n.t,.int .i64 n.ix.k,.int .i64 n.ix.v,.slice n.ix.p n.ix.n n.ix.c,.int .i64 n.val.k,.int .i64 n.val.v,.slice n.val.p n.val.n n.val.c,.int .i64 n.c,.slice n.bp n.bn n.bc,.slice n.ep n.en n.ec],.int .i64 (d:Int)] w fun r w'=>r=.returned (.bool (stOk nv na d s))∧Below w.heap.size w w') ∧
  (∀ (D:Nat) (u:Value) (L:List St) (w:World),BlAt w A D u L→Calls Try.prog 165 #[.agg #[.slice pv nv cv,.slice pa na ca,vb],u,.int .i64 (d:Int)] w fun r w'=>r=.returned (.bool (L.all (stOk nv na d)))∧Below w.heap.size w w'):=by
 intro d
 induction d with
 | zero =>
  intro hd
  have hs:∀ (D:Nat) (n:Sn) (s:St) (w:World),StAt w A D n s→Calls Try.prog 170 #[.agg #[.slice pv nv cv,.slice pa na ca,vb],.agg #[.int .i64 n.k,.int .i64 n.t,.int .i64 n.ix.k,.int .i64 n.ix.v,.slice n.ix.p n.ix.n n.ix.c,.int .i64 n.val.k,.int .i64 n.val.v,.slice n.val.p n.val.n n.val.c,.int .i64 n.c,.slice n.bp n.bn n.bc,.slice n.ep n.en n.ec],.int .i64 ((0:Nat):Int)] w fun r w'=>r=.returned (.bool (stOk nv na 0 s))∧Below w.heap.size w w':=fun D n s w _=>l2Stmt_zero pv pa nv cv na ca vb n w
  exact ⟨hs,fun D u L w h=>l2Block_of pv pa nv cv na ca vb A 0 hd hs D u L w h⟩
 | succ d ih =>
  intro hd
  have hb:=(ih (by omega)).2
  have hs:∀ (D:Nat) (n:Sn) (s:St) (w:World),StAt w A D n s→Calls Try.prog 170 #[.agg #[.slice pv nv cv,.slice pa na ca,vb],.agg #[.int .i64 n.k,.int .i64 n.t,.int .i64 n.ix.k,.int .i64 n.ix.v,.slice n.ix.p n.ix.n n.ix.c,.int .i64 n.val.k,.int .i64 n.val.v,.slice n.val.p n.val.n n.val.c,.int .i64 n.c,.slice n.bp n.bn n.bc,.slice n.ep n.en n.ec],.int .i64 ((d+1:Nat):Int)] w fun r w'=>r=.returned (.bool (stOk nv na (d+1) s))∧Below w.heap.size w w':=fun D n s w h=>l2Stmt_of pv pa nv cv na ca vb A d (by omega) hb D n s w h
  exact ⟨hs,fun D u L w h=>l2Block_of pv pa nv cv na ca vb A (d+1) hd hs D u L w h⟩
theorem StAt.bodies {w:World} {B:Nat→Prop} {D:Nat} {n:Sn} {s:St} (h:StAt w B D n s):∃ D' body els,D=D'+1∧BlAt w B D' (.slice n.bp n.bn n.bc) body∧BlAt w B D' (.slice n.ep n.en n.ec) els:=by
 cases D with
 | zero=>cases h
 | succ D=>obtain ⟨k,t,ix,val,c,body,els⟩:=s;obtain ⟨_,_,_,_,_,h6,h7⟩:=h;exact ⟨D,body,els,rfl,h6,h7⟩
theorem l2Size_any (A:Nat→Prop):∀ (D:Nat) (d:Int) (u:Value) (L:List St) (w:World),BlAt w A D u L →
  Calls Try.prog 166 #[u,.int .i64 d] w fun r w'=>∃ z:Int,r=.returned (.int .i64 z)∧Below w.heap.size w w':=by
 intro D
 induction D with
 | zero =>
  intro d u L w hx
  obtain ⟨pu,cu,rfl⟩:=hx.shape
  have hL:L=[]:=by
   cases L with
   | nil=>rfl
   | cons x L=>obtain ⟨_,_,_,_,_,_,_,h,_⟩:=hx.stmt 0 (by simp);cases h
  subst hL
  have o0:=Bs w
  clear hx
  go_enter Try.func166,Try.ntmps166
  go_wp2_with fail
  go_loopw [5,6] (fun z i wr=>z=.int .i64 0∧i=.int .i64 0∧wr=w) (fun _ _ _=>0)
  case atStart=>exact ⟨rfl,rfl,rfl⟩
  case round =>
   obtain ⟨rfl,rfl,rfl⟩:=hrel
   go_wp2
   go_ret
   exact ⟨_,rfl,o0⟩
 | succ D IH =>
  intro d u L w hx
  obtain ⟨pu,cu,rfl⟩:=hx.shape
  have p0:L.length≤9223372036854775807:=by obtain ⟨_,_,h,_⟩:=hx;exact h.2.1
  have HX:=Lib.hid (fun W (hW:Below w.heap.size w W)=>hx.below hW)
  have HI:=Lib.hid IH
  clear hx IH
  by_cases hd1:1 < d
  ·skip
   have qd:decide ((1:Int) < d)=true:=decide_eq_true (by omega)
   go_enter Try.func166,Try.ntmps166
   go_wp2_with fail
   go_loopw [5,6] (fun z i wr=>∃ (k:Nat) (y:Int),k≤L.length∧i=.int .i64 k∧z=.int .i64 y∧Below w.heap.size w wr) (fun _ i _=>L.length-(intOf i).toNat)
   case atStart=>exact ⟨0,_,Nat.zero_le _,rfl,rfl,Bs _⟩
   case round =>
    obtain ⟨k,y,hk,rfl,rfl,hB⟩:=hrel
    have c0:=Lib.hid hB;clear hB
    by_cases hlt:k < L.length
    ·have f0:(k:Int) < (L.length:Int):=by omega
     obtain ⟨kb,ko,v0,m,hp,_,w0,hm,e0⟩:=(HX.out wr c0.out).stmt k hlt
     simp only [Value.slice.injEq,true_and] at hp
     obtain ⟨rfl,rfl⟩:=hp
     have e9:wr.cell? ⟨kb,ko+k*11+9,none⟩=some (.slice m.bp m.bn m.bc):=by have h:=e0 9 (by omega);rw [← Nat.add_assoc] at h;exact h
     have a0:wr.cell? ⟨kb,ko+k*11+10,none⟩=some (.slice m.ep m.en m.ec):=by have h:=e0 10 (by omega);rw [← Nat.add_assoc] at h;exact h
     clear e0
     obtain ⟨D2,d0,m0,hD,i0,j0⟩:=hm.bodies
     have n0:D2=D:=by omega
     subst n0
     clear hD hm
     have k0:=Lib.hid (fun W (hW:Below wr.heap.size wr W) x=>HI.out x _ d0 W (i0.below hW));have l0:=Lib.hid (fun W (hW:Below wr.heap.size wr W) x=>HI.out x _ m0 W (j0.below hW));clear i0 j0
     go_upto_region 5 with (fail)
     have x0:=Lc e9
     refine wp_region_noPanic ?_
     refine wp_region_held_drew (S:=(fun W'=>W'.cell? ⟨kb,ko+k*11+9,none⟩=some (.slice m.bp m.bn m.bc)∧W'.cell? ⟨kb,ko+k*11+10,none⟩=some (.slice m.ep m.en m.ec))) (by kernel_rfl) ⟨Kc (Below.drew (Bs wr)) e9,Kc (Below.drew (Bs wr)) a0⟩ (fun hHeld=>?_)
     obtain ⟨w1,h0⟩:∃ X,X=World.drew wr:=⟨_,rfl⟩
     rw [← h0] at hHeld ⊢
     have hb:Below wr.heap.size wr w1:=by rw [h0];exact Below.drew (Bs _)
     clear h0
     have q0:=hb.size
     replace e9:=Kc hb e9
     replace a0:=Kc hb a0
     have b0:=btr (Bs wr) hb
     clear hb
     refine (tq 0 19 rfl rfl ?_ ?_ (tq 1 20 rfl rfl ?_ ?_ (tq 2 21 rfl rfl ?_ ?_ (tq 3 22 rfl rfl ?_ ?_ (tq 4 23 rfl rfl ?_ ?_ (tq 5 24 rfl rfl ?_ ?_ (tq 6 25 rfl rfl ?_ ?_ (tq 7 26 rfl rfl ?_ ?_ (tq 10 29 rfl rfl ?_ ?_ (tq 11 30 rfl rfl ?_ ?_ (tq 12 31 rfl rfl ?_ ?_ (tq 13 32 rfl rfl ?_ ?_ (tq 14 33 rfl rfl ?_ ?_ (tq 15 34 rfl rfl ?_ ?_ (tq 16 35 rfl rfl ?_ ?_ ?_)))))))))))))))
     iterate 15 (rotate_left;intro W' hSw;(try dsimp only at hSw);go_simp;try with_reducible rfl)
     try simp only [Ep]
     refine Rdy 8 rfl (fun K hK=>?_)
     go_simp
     refine (k0.out _ b0 _).mono ?_
     rintro e w2 ⟨t0,rfl,hb⟩
     have r0:=hb.size
     replace e9:=Kc hb e9
     replace a0:=Kc hb a0
     replace b0:=btr b0 hb
     clear hb
     refine hK.out _ _ ⟨e9,a0⟩ (fun hHeld=>?_)
     clear hK K
     try simp only [Ep]
     refine (tq 9 28 rfl rfl ?_ ?_ ?_)
     (rotate_left;intro W' hSw;(try dsimp only at hSw);go_simp;try with_reducible rfl)
     try simp only [Ep]
     refine Rdy 17 rfl (fun K hK=>?_)
     go_simp
     refine (l0.out _ b0 _).mono ?_
     rintro e w3 ⟨u0,rfl,hb⟩
     have s0:=hb.size
     replace e9:=Kc hb e9
     replace a0:=Kc hb a0
     replace b0:=btr b0 hb
     clear hb
     refine hK.out _ _ ⟨e9,a0⟩ (fun hHeld=>?_)
     clear hK K
     try simp only [Ep]
     refine (tq 18 37 rfl rfl ?_ ?_ (tq 19 5 rfl rfl ?_ ?_ ?_))
     iterate 2 (rotate_left;intro W' hSw;(try dsimp only at hSw);go_simp;try with_reducible rfl)
     try simp only [Ep]
     refine Dn ?_
     clear hHeld
     go_wp2
     go_roundw
     case rel=>exact ⟨k+1,_,by omega,by go_num,rfl,btr c0.out b0⟩
     case measure=>simp [intOf];omega
    have f0:decide ((k:Int) < (L.length:Int))=false:=decide_eq_false (by omega)
    have g0:decide (k < L.length)=false:=decide_eq_false hlt
    have tt:=c0.out
    go_wp2
    go_ret
    exact ⟨_,rfl,tt⟩
  skip
  have qd:decide ((1:Int) < d)=false:=decide_eq_false (by omega)
  go_enter Try.func166,Try.ntmps166
  go_wp2_with fail
  go_loopw [5,6] (fun z i wr=>∃ (k:Nat) (y:Int),k≤L.length∧i=.int .i64 k∧z=.int .i64 y∧Below w.heap.size w wr) (fun _ i _=>L.length-(intOf i).toNat)
  case atStart=>exact ⟨0,_,Nat.zero_le _,rfl,rfl,Bs _⟩
  case round =>
   obtain ⟨k,y,hk,rfl,rfl,hB⟩:=hrel
   have c0:=Lib.hid hB;clear hB
   by_cases hlt:k < L.length
   ·have f0:(k:Int) < (L.length:Int):=by omega
    have tt:=c0.out
    go_wp2
    go_ret
    exact ⟨_,rfl,tt⟩
   have f0:decide ((k:Int) < (L.length:Int))=false:=decide_eq_false (by omega)
   have g0:decide (k < L.length)=false:=decide_eq_false hlt
   have tt:=c0.out
   go_wp2
   go_ret
   exact ⟨_,rfl,tt⟩
theorem ProgramValid_b (va vb:Value) (xs ys:List Int) (A:Nat→Prop) (D:Nat) (u:Value) (L:List St) (w:World) (hr:Reads w 1 va xs.length (ints xs)) (hs:Reads w 1 vb ys.length (ints ys)) (hx:BlAt w A D u L) :
  Calls Try.prog 148 #[.agg #[va,vb,u]] w fun r w'=>∃ b:Bool,r=.returned (.bool b)∧Below w.heap.size w w':=by
 obtain ⟨pv,cv,rfl⟩:=reads_shape hr
 obtain ⟨pa,ca,rfl⟩:=reads_shape hs
 obtain ⟨pu,cu,rfl⟩:=hx.shape
 have HH:=Lib.hid (fun W (hW:Below w.heap.size w W)=>l2Heads_any _ _ xs ys pu L.length cu W (hr.below hW) (hs.below hW))
 have HB:=Lib.hid (fun W (hW:Below w.heap.size w W)=>(l2Both pv pa xs.length cv ys.length ca (.slice pu L.length cu) A 5 (Nat.le_refl _)).2 D _ L W (hx.below hW))
 have HS:=Lib.hid (fun W (hW:Below w.heap.size w W)=>l2Size_any A D 5 _ L W (hx.below hW))
 clear hr hs hx
 generalize declOk xs ys=X at *
 generalize L.all (stOk xs.length ys.length 5)=Y at *
 go_enter Try.func148,Try.ntmps148
 go_wp2_with fail
 refine (HH.out _ (bal (Bs w) (.cells #[.slice pv xs.length cv,.slice pa ys.length ca,.slice pu L.length cu] 110))).mono ?_
 rintro e w1 ⟨rfl,hb⟩
 have c0:=hb.size
 simp only [Sa] at c0
 have b0:Bk w1 (w.heap.size) [.slice pv xs.length cv,.slice pa ys.length ca,.slice pu L.length cu]:=Bk.below (Bk.nw (by simp) rfl) hb
 have a0:=btr (bal (Bs w) (.cells #[.slice pv xs.length cv,.slice pa ys.length ca,.slice pu L.length cu] 110)) hb
 clear hb
 have n0:=Bk.lz b0
 cases X with
 | false =>
  have tt:=a0
  go_wp2
  exact bodyPost_ret (v:=.bool false) (by simp [results,Try.results148,go_sem]) rfl (by exact ⟨_,rfl,tt⟩)
 | true =>
  obtain ⟨h0,k0,i0,l0,j0,m0⟩:=Bk.f3 b0 0 1 2 rfl rfl rfl
  go_wp2_with fail
  refine (HB.out _ a0).mono ?_
  rintro e w2 ⟨rfl,hb⟩
  have f0:=hb.size
  clear k0 h0 l0 i0 m0 j0
  replace b0:=Bk.below b0 hb
  replace a0:=btr a0 hb
  clear hb
  cases Y with
  | false =>
   have tt:=a0
   go_wp2
   exact bodyPost_ret (v:=.bool false) (by simp [results,Try.results148,go_sem]) rfl (by exact ⟨_,rfl,tt⟩)
  | true =>
   obtain ⟨d0,e0⟩:=Bk.cf b0 2 rfl
   go_wp2_with fail
   refine (HS.out _ a0).mono ?_
   rintro e w3 ⟨z,rfl,hb⟩
   have g0:=hb.size
   clear e0 d0
   replace b0:=Bk.below b0 hb
   replace a0:=btr a0 hb
   clear hb
   clear b0
   have tt:=a0
   go_wp2
   exact bodyPost_ret (v:=.bool (decide (z≤60))) (by simp [results,Try.results148,go_sem]) rfl (by exact ⟨_,rfl,tt⟩)
end Go.Proofs.Ytkjedgnepnbkpaa
