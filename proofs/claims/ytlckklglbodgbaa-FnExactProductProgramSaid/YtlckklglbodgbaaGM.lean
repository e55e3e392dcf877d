/-
 Parts of the proofs of the laws FnExactProductProgram.
-/
import Derived.Test.YtlckklglbodgbaaPT
set_option linter.all false
namespace Go.Proofs.Ytlckklglbodgbaa
open Go.RowKit
def szB:Nat→List St→Int
 | 0,L=>L.length
 | 1,L=>L.length
 | d+2,L=>L.length+(L.map (fun s=>szB (d+1) s.body+szB (d+1) s.els)).sum
def szT (d:Nat) (L:List St) (k:Nat):Int:=((L.take k).map (fun s=>szB (d+1) s.body+szB (d+1) s.els)).sum
theorem szT_succ (d:Nat) (L:List St) (k:Nat) (h:k < L.length):szT d L (k+1)=szT d L k+(szB (d+1) L[k].body+szB (d+1) L[k].els):=by
 unfold szT;rw [List.take_succ_eq_append_getElem h,List.map_append,List.sum_append];simp
theorem szB_two (d:Nat) (L:List St):szB (d+2) L=L.length+szT d L L.length:=by
 unfold szT;rw [List.take_of_length_le Lr];rfl
theorem szB_bnd:∀ (d:Nat) (L:List St),0≤szB d L∧szB d L≤stNs L
 | 0,L=>⟨by simp [szB],by have:=stNs_len L;simp [szB];omega⟩
 | 1,L=>⟨by simp [szB],by have:=stNs_len L;simp [szB];omega⟩
 | d+2,L=>by
  have ih:=fun s:St=>Ai (szB_bnd (d+1) s.body) (szB_bnd (d+1) s.els)
  have key:∀ k,k≤L.length→0≤szT d L k∧szT d L k+k≤stNs (L.take k):=by
   intro k
   induction k with
   | zero=>intro _;simp [szT]
   | succ k ihk =>
    intro hk;have h1:=ihk (by omega);have h2:=szT_succ d L k (by omega);have h3:=stNs_take (l:=L) (k:=k) (by omega);have h4:=stN_parts (L[k]'(by omega));have h5:=ih (L[k]'(by omega));omega
  have h:=key L.length Lr;rw [stNs_all] at h;rw [szB_two];omega
theorem szT_bnd (d:Nat) (L:List St) (k:Nat) (hk:k≤L.length):0≤szT d L k∧L.length+szT d L k≤stNs L:=by
 have i1:∀ k,k≤L.length→0≤szT d L k∧szT d L k+k≤stNs (L.take k):=by
  intro k
  induction k with
  | zero=>intro _;simp [szT]
  | succ k ihk =>
   intro hk;have h1:=ihk (by omega);have h2:=szT_succ d L k (by omega);have h3:=stNs_take (l:=L) (k:=k) (by omega);have h4:=stN_parts (L[k]'(by omega));have h5:=Ai (szB_bnd (d+1) (L[k]'(by omega)).body) (szB_bnd (d+1) (L[k]'(by omega)).els);omega
 have h:=i1 k hk;have h2:=stNs_le L k hk;omega
set_option maxHeartbeats 6400000 in
set_option maxRecDepth 100000 in
theorem l2Size_v (A:Nat→Prop):∀ (D d:Nat) (dd:Int) (u:Value) (L:List St) (w:World),dd=(d:Int)→d≤5→BlAt w A D u L→stNs L≤1048576 →
  Calls Try.prog 48 #[u,.int .i64 dd] w fun r w'=>r=.returned (.int .i64 (szB d L))∧Below w.heap.size w w':=by
 intro D
 induction D with
 | zero =>
  intro d dd u L w d0 x0 hx hs;have w0:=Bs w;obtain ⟨pu,cu,rfl⟩:=hx.shape
  have hL:L=[]:=by
   obtain ⟨rs,h1,_,_,h4⟩:=hx
   cases L with
   | nil=>rfl
   | cons a l=>exact absurd (h4 0 (by rw [h1];simp) (by simp)) (by simp [StAt])
  subst hL;have hv:szB d []=0:=by match d with | 0=>rfl | 1=>rfl | d+2=>rfl
  rw [hv];clear hx hs hv d0;go_enter Try.func48,Try.ntmps48
  go_wp2_with fail
  go_loopw [5,6] (fun z i wr=>z=.int .i64 0∧i=.int .i64 0∧wr=w) (fun _ _ _=>0)
  case atStart=>exact ⟨rfl,rfl,rfl⟩
  case round =>
   obtain ⟨rfl,rfl,rfl⟩:=hrel;go_wp2
   go_ret
   exact ⟨rfl,w0⟩
 | succ D IH =>
  intro d dd u L w d0 x0 hx hs;obtain ⟨pu,cu,rfl⟩:=hx.shape;have z0:L.length≤1048576:=by have:=stNs_len L;omega
  have HX:=Hi (fun W (hW:Below w.heap.size w W)=>hx.below hW);have HI:=Hi IH;have HS:=Hi hs;clear hx IH hs;by_cases hd1:2≤d
  ·skip
   obtain ⟨e,rfl⟩:∃ e,d=e+2:=⟨d-2,by omega⟩;have qd:decide ((1:Int) < dd)=true:=decide_eq_true (by omega);have j1:(1:Int) < dd:=by omega
   have y0:dd≤5:=by omega
   have l0:Hid (IntKind.i64.wrap (dd-1)=dd-1):=Hi (by rw [IntKind.wrap_i64];omega);have k0:=Hi d0;clear d0;have HV:=Hi (szB_two e L);have HT:=Hi (szT_succ e L);have j0:=Hi (szT_bnd e L);generalize szB (e+2) L=V at *
   go_enter Try.func48,Try.ntmps48
   go_wp2_with fail
   go_loopw [5,6] (fun z i wr=>∃ (k:Nat) (y:Int),k≤L.length∧i=.int .i64 k∧z=.int .i64 y∧Hid (y=L.length+szT e L k)∧Below w.heap.size w wr) (fun _ i _=>L.length-(intOf i).toNat)
   case atStart=>exact ⟨0,_,Nat.zero_le _,rfl,rfl,Hi (by simp [szT]),Bs _⟩
   case round =>
    obtain ⟨k,y,hk,rfl,rfl,HY,hB⟩:=hrel;have c0:=Hi hB;clear hB;by_cases hlt:k < L.length
    ·have f0:(k:Int) < (L.length:Int):=by omega
     have n1:0≤y∧y≤1048576:=by have h1:=j0.out k hk;have h2:=HY.out;have h3:=HS.out;omega
     have HN:=Hi (HT.out k hlt);have k1:=Hi (j0.out (k+1) hlt);obtain ⟨kb,ko,l1,m,hp,_,m1,hm,e0⟩:=(HX.out wr c0.out).stmt k hlt;simp only [Value.slice.injEq,true_and] at hp;obtain ⟨rfl,rfl⟩:=hp;have e9:wr.cell? ⟨kb,ko+k*11+9,none⟩=some (.slice m.bp m.bn m.bc):=by have h:=e0 9 (by omega);rw [← Nat.add_assoc] at h;exact h
     have a0:wr.cell? ⟨kb,ko+k*11+10,none⟩=some (.slice m.ep m.en m.ec):=by have h:=e0 10 (by omega);rw [← Nat.add_assoc] at h;exact h
     clear e0;have a1:stN1 L[k]≤1048576:=by have h1:=stNs_at (l:=L) hlt;have h2:=HS.out;omega
     generalize L[k]=x at *
     obtain ⟨xk,xt,xi,xv,xc,body,els⟩:=x;obtain ⟨r1,r2,r3,r4,r5,m0,n0⟩:=hm;clear r1 r2 r3 r4 r5;have h0:stNs body≤1048576∧stNs els≤1048576:=by have h1:=stN_parts (.mk xk xt xi xv xc body els);simp only [St.body,St.els] at h1;omega
     have e1:=szB_bnd (e+1) body;have f1:=szB_bnd (e+1) els;have g1:0≤szB (e+1) body∧szB (e+1) body≤1048576∧0≤szB (e+1) els∧szB (e+1) els≤1048576:=by omega
     clear e1 f1;have q0:=Hi (fun W (hW:Below wr.heap.size wr W)=>HI.out (e+1) (dd-1) _ body W (by have:=k0.out;omega) (by omega) (BlAt.below m0 hW) h0.1);have r0:=Hi (fun W (hW:Below wr.heap.size wr W)=>HI.out (e+1) (dd-1) _ els W (by have:=k0.out;omega) (by omega) (BlAt.below n0 hW) h0.2);clear m0 n0 h0 a1;have s0:Hid (szT e L (k+1)=szT e L k+(szB (e+1) body+szB (e+1) els)):=HN;clear HN;generalize szB (e+1) body=zb at *
     generalize szB (e+1) els=ze at *
     obtain ⟨o1,p1,q1,s1⟩:=g1;go_upto_region 5 with (fail)
     have t1:=Lc e9;refine wp_region_noPanic ?_;refine wp_region_held_drew (S:=(fun W'=>W'.cell? ⟨kb,ko+k*11+9,none⟩=some (.slice m.bp m.bn m.bc)∧W'.cell? ⟨kb,ko+k*11+10,none⟩=some (.slice m.ep m.en m.ec))) (by kernel_rfl) ⟨Kc (Bd (Bs wr)) e9,Kc (Bd (Bs wr)) a0⟩ (fun hHeld=>?_);obtain ⟨w1,i0⟩:∃ X,X=World.drew wr:=⟨_,rfl⟩;rw [← i0] at hHeld ⊢;have hb:Below wr.heap.size wr w1:=by rw [i0];exact Bd (Bs _)
     clear i0;have b1:=hb.size;replace e9:=Kc hb e9;replace a0:=Kc hb a0;have b0:=btr (Bs wr) hb;clear hb;refine (tq 0 19 rfl rfl ?_ ?_ (tq 1 20 rfl rfl ?_ ?_ (tq 2 21 rfl rfl ?_ ?_ (tq 3 22 rfl rfl ?_ ?_ (tq 4 23 rfl rfl ?_ ?_ (tq 5 24 rfl rfl ?_ ?_ (tq 6 25 rfl rfl ?_ ?_ (tq 7 26 rfl rfl ?_ ?_ (tq 10 29 rfl rfl ?_ ?_ (tq 11 30 rfl rfl ?_ ?_ (tq 12 31 rfl rfl ?_ ?_ (tq 13 32 rfl rfl ?_ ?_ (tq 14 33 rfl rfl ?_ ?_ (tq 15 34 rfl rfl ?_ ?_ (tq 16 35 rfl rfl ?_ ?_ ?_)))))))))))))));iterate 15 (rotate_left;intro W' hSw;(try dsimp only at hSw);go_simp;try with_reducible rfl)
     try simp only [Ep]
     refine Rdy 8 rfl (fun K hK=>?_);go_simp
     try rw [l0.out]
     refine (q0.out _ b0).mono ?_;rintro e w2 ⟨rfl,hb⟩;have c1:=hb.size;replace e9:=Kc hb e9;replace a0:=Kc hb a0;replace b0:=btr b0 hb;clear hb;refine hK.out _ _ ⟨e9,a0⟩ (fun hHeld=>?_);clear hK K;try simp only [Ep]
     refine (tq 9 28 rfl rfl ?_ ?_ ?_);(rotate_left;intro W' hSw;(try dsimp only at hSw);go_simp;try with_reducible rfl)
     try simp only [Ep]
     refine Rdy 17 rfl (fun K hK=>?_);go_simp
     try rw [l0.out]
     refine (r0.out _ b0).mono ?_;rintro e w3 ⟨rfl,hb⟩;have d1:=hb.size;replace e9:=Kc hb e9;replace a0:=Kc hb a0;replace b0:=btr b0 hb;clear hb;refine hK.out _ _ ⟨e9,a0⟩ (fun hHeld=>?_);clear hK K;try simp only [Ep]
     refine (tq 18 37 rfl rfl ?_ ?_ (tq 19 5 rfl rfl ?_ ?_ ?_));iterate 2 (rotate_left;intro W' hSw;(try dsimp only at hSw);go_simp;try with_reducible rfl)
     try simp only [Ep]
     refine Dn ?_;clear hHeld;have t0:Hid (IntKind.i64.wrap (IntKind.i64.wrap (y+zb)+ze)=y+zb+ze):=Hi (by rw [IntKind.wrap_i64 (y+zb),IntKind.wrap_i64];omega);have v0:Hid (y+zb+ze=L.length+szT e L (k+1)):=Hi (by rw [s0.out,HY.out];omega);have p0:=Hi (btr c0.out b0);go_wp2
     go_roundw
     case rel=>exact ⟨k+1,y+zb+ze,by omega,by go_num,(by first | rfl | (rw [t0.out]) | go_num),v0,p0.out⟩
     case measure=>simp [intOf];omega
    have f0:decide ((k:Int) < (L.length:Int))=false:=decide_eq_false (by omega);have g0:decide (k < L.length)=false:=decide_eq_false hlt;have HQ:Hid (y=V):=Hi (by rw [HV.out,HY.out,show k=L.length by omega]);have tt:=c0.out;go_wp2
    go_ret
    exact ⟨by rw [HQ.out];rfl,tt⟩
  skip
  have qd:decide ((1:Int) < dd)=false:=decide_eq_false (by omega);have j1:¬(1:Int) < dd:=by omega
  have HV:Hid (szB d L=L.length):=Hi (by match d,hd1 with | 0,_=>rfl | 1,_=>rfl | d+2,h=>omega);generalize szB d L=V at *
  clear d0;go_enter Try.func48,Try.ntmps48
  go_wp2_with fail
  go_loopw [5,6] (fun z i wr=>∃ (k:Nat) (y:Int),k≤L.length∧i=.int .i64 k∧z=.int .i64 y∧k=0∧Hid (y=L.length)∧Below w.heap.size w wr) (fun _ i _=>L.length-(intOf i).toNat)
  case atStart=>exact ⟨0,_,Nat.zero_le _,rfl,rfl,rfl,Hi rfl,Bs _⟩
  case round =>
   obtain ⟨k,y,hk,rfl,rfl,o0,HY,hB⟩:=hrel;have c0:=Hi hB;clear hB;by_cases hlt:k < L.length
   ·have f0:(k:Int) < (L.length:Int):=by omega
    have HQ:Hid (y=V):=Hi (by rw [HV.out,HY.out]);have tt:=c0.out;clear o0;go_wp2
    go_ret
    exact ⟨by rw [HQ.out];rfl,tt⟩
   have f0:decide ((k:Int) < (L.length:Int))=false:=decide_eq_false (by omega);have g0:decide (k < L.length)=false:=decide_eq_false hlt;have HQ:Hid (y=V):=Hi (by rw [HV.out,HY.out]);clear o0;have tt:=c0.out;go_wp2
   go_ret
   exact ⟨by rw [HQ.out];rfl,tt⟩
end Go.Proofs.Ytlckklglbodgbaa
