/-
 Parts of the proofs of the laws FnRemoveDead,FnRemoveDeadLeak,FnSpecFenced,FnSpecMemory.
-/
import Derived.Test.YtnpidfbcbmeijaaGreatDW
set_option maxHeartbeats 12800000
set_option maxRecDepth 100000
set_option linter.all false
namespace Go.Proofs.YtnpidfbcbmeijaaGreat
open Go.RowKit
theorem any_at {xs:List Bool} {k:Nat} (hk:k < xs.length) (h:xs[k]=true):xs.any id=true:=List.any_eq_true.2 ⟨_,List.getElem_mem hk,h⟩
theorem any_no {xs:List Bool} (h:∀ j (hj:j < xs.length),xs[j]=false):xs.any id=false:=by
 rw [List.any_eq_false];intro x hx;obtain ⟨j,hj,rfl⟩:=List.getElem_of_mem hx;simp [h j hj]
theorem any_succ (c:Cd) (k:Nat):(deds c (k+1)).any id=((deds c k).any id||dedAt c k):=by rw [deds_succ,List.any_append];simp
theorem anyDed_eq (c:Cd):anyDed c=(deds c c.list.length).any id:=rfl
theorem dOf_deds (c:Cd):wout c (dOf (deds c c.list.length))=rem1 c:=by
 have h:∀ k,k < c.list.length→dOf (deds c c.list.length) k=dedAt c k:=fun k hk=>by rw [dOf_at _ k (by rw [deds_len];exact hk),deds_get]
 have hs:∀ k,k≤c.list.length→stay (dOf (deds c c.list.length)) k=stay (dedAt c) k:=by
  intro k
  induction k with
  | zero=>intro _;rfl
  | succ k ih=>intro hk;simp only [stay];rw [ih (by omega),h k (by omega)]
 have hx:∀ x,tgt x < c.list.length→dx (dOf (deds c c.list.length)) x=dx (dedAt c) x:=fun x hx=>by
  unfold dx
  by_cases h0:0≤tgt x
  ·rw [if_pos h0,if_pos h0,hs _ (by omega)]
  rw [if_neg h0,if_neg h0]
 have ho:∀ k,k≤c.list.length→(∀ j (hj:j < c.list.length),tgt c.list[j] < c.list.length)→outTo c.list (dOf (deds c c.list.length)) k=outTo c.list (dedAt c) k:=by
  intro k
  induction k with
  | zero=>intro _ _;rfl
  | succ k ih =>
   intro hk ht;rw [outTo_succ _ _ k (by omega),outTo_succ _ _ k (by omega),ih (by omega) ht,h k (by omega),hx _ (ht k (by omega))]
 unfold rem1 wout
 by_cases ht:∀ j (hj:j < c.list.length),tgt c.list[j] < c.list.length
 ·rw [ho _ Lr ht]
 have h2:∀ t,dOf (deds c c.list.length) t=dedAt c t:=fun t=>by
  by_cases htl:t < c.list.length
  ·exact h t htl
  unfold dOf dedAt
  rw [List.getD_eq_getElem?_getD,List.getElem?_eq_none (by rw [deds_len];omega),List.getElem?_eq_none (by omega)];rfl
 rw [show dOf (deds c c.list.length)=dedAt c from funext h2]
theorem set_ded (c:Cd) (k:Nat) (hk:k < c.list.length) (z:Bool) (hz:z=dedAt c k):(deds c k++(List.replicate c.list.length false).drop k).set k z=deds c (k+1)++(List.replicate c.list.length false).drop (k+1):=by
 rw [drop_cons _ k (by simpa using hk) _ (deds_len _ _),hz,← deds_succ]
theorem skip_ded (c:Cd) (k:Nat) (hk:k < c.list.length) (hz:dedAt c k=false):deds c k++(List.replicate c.list.length false).drop k=deds c (k+1)++(List.replicate c.list.length false).drop (k+1):=by
 rw [deds_succ,hz,List.drop_eq_getElem_cons (by simpa using hk)];simp
theorem readB_own {w:World} {base:Nat} {va vb vc:Value} {c:Cd} (h:OwnC w base va vb vc c):∀ q,ReadB va vb vc c q→base≤q∧q < w.heap.size:=by
 have b0:∀ {e:TypeId} {sz n:Nat} {v:Value} {xs:List Value} (_:w.ownsRow base e sz v n xs) (q o a0:Nat),0 < n→v=.slice (some ⟨q,o,none⟩) n a0→base≤q∧q < w.heap.size:=by
  intro e sz n v xs ho q o a0 h0 hv;obtain ⟨g,c',hg⟩:=own_pos ho h0;rw [hv] at hg;simp only [Value.slice.injEq,Option.some.injEq,Addr.mk.injEq] at hg;refine ho.lt q ?_;rw [hv,hg.1.2.1];rfl
 intro q hq;rcases hq with ⟨o,a0,h0,hv⟩ | ⟨o,a0,h0,hv⟩ | ⟨o,a0,h0,hv⟩
 ·exact b0 h.a q o a0 h0 hv
 ·exact b0 h.b q o a0 h0 hv
 exact b0 h.l q o a0 h0 hv
theorem indexB_any (v:Value) (xs:List Bool) (w:World) (hr:Reads w 1 v xs.length (bools xs)) :
  Calls Tryz.prog 92 #[v,.bool true] w fun e w'=>∃ i:Int,e=.returned (.int .i64 i)∧decide (0≤i)=xs.any id∧Below w.heap.size w w':=by
 obtain ⟨_,hn,a,e0,b,g0,rfl,d0,ha,b0⟩:=hr;go_enter Tryz.func92,Tryz.ntmps92
 go_wp2
 go_loop [8] (fun i=>∃ k:Nat,k≤xs.length∧i=.int .i64 k∧(∀ j (h:j < xs.length),j < k→xs[j]=false)) (fun i=>xs.length-(intOf i).toNat)
 case atStart=>exact ⟨0,Nat.zero_le _,rfl,fun j _ h=>absurd h (by omega)⟩
 case round =>
  obtain ⟨k,hk,rfl,a0⟩:=hrel;have HA:=Hi a0;clear a0;by_cases hlt:k < xs.length
  ·obtain ⟨rfl,f0⟩:=ha (by omega);have c0:=b0 k (by simpa [bools] using hlt);rw [bools_get] at c0;have HY:=Hi (fun (h:xs[k]=true)=>any_at hlt h)
   have HN:Hid (xs[k]=false→∀ j (h:j < xs.length),j < k+1→xs[j]=false):=Hi (fun h j hj hlt2=>by
    by_cases e:j=k
    ·subst e;exact h
    exact HA.out j hj (by omega))
   clear b0 ha;generalize xs[k]=x at *
   cases x with
   | true =>
    go_wp2
    go_ret
    exact ⟨_,rfl,by rw [HY.out (by trivial)];exact decide_eq_true (by omega),Bs w⟩
   | false =>
    go_wp2
    go_round
    case rel=>exact ⟨k+1,by omega,by go_num,HN.out (by trivial)⟩
    case measure=>simp [intOf];omega
  have HZ:=Hi (any_no (fun j h=>HA.out j h (by omega)));go_wp2
  go_ret
  exact ⟨_,rfl,by rw [HZ.out];rfl,Bs w⟩
theorem containsB_any (v:Value) (xs:List Bool) (w:World) (hr:Reads w 1 v xs.length (bools xs)) :
  Calls Tryz.prog 56 #[v,.bool true] w fun e w'=>e=.returned (.bool (xs.any id))∧Below w.heap.size w w':=by
 go_enter Tryz.func56,Tryz.ntmps56
 go_wp2_with fail
 refine (indexB_any _ xs _ hr).mono ?_;rintro e w1 ⟨i,rfl,hi,hb⟩;have HI:=Hi hi;clear hr hi;go_wp2
 go_ret
 exact ⟨ret_bool HI.out,hb⟩
theorem l12Dead_any (op a b c d:Int) (v:Value) (A:Nat→Bool) (w:World) (hv:Reads w 1 v 14 (bools (tab A))) (ha:op=1∨op=2∨op=6∨op=7→0≤a∧a < 14) :
  Calls Tryz.prog 59 #[.agg #[.int .i64 op,.int .i64 a,.int .i64 b,.int .i64 c,.int .i64 d],v] w fun e w'=>e=.returned (.bool (ded ⟨op,a,b,c,d⟩ A))∧Below w.heap.size w w':=by
 have b0:=bal (Bs w) (.cells #[.int .i64 op,.int .i64 a,.int .i64 b,.int .i64 c,.int .i64 d] 62);obtain ⟨_,hn,aa,d0,b',g0,rfl,c0,hA,a0⟩:=hv;obtain ⟨rfl,e0⟩:=hA (by omega);by_cases h:op=1∨op=2∨op=6∨op=7
 ·obtain ⟨p1,p2⟩:=ha h;obtain ⟨na,rfl⟩:∃ n:Nat,a=n:=⟨a.toNat,by omega⟩;have hc:=a0 na (by rw [bools_length,tab_len];omega);rw [bools_get,tab_get] at hc;have f0:=Ac hc (.cells #[.int .i64 op,.int .i64 (na:Int),.int .i64 b,.int .i64 c,.int .i64 d] 62);have kc:=Lc hc;have hq:(na:Int) < (14:Int):=by omega
  have hD:ded ⟨op,(na:Int),b,c,d⟩ A=!(A na):=by
   unfold ded
   rcases h with rfl | rfl | rfl | rfl <;> simp
  have HD:=Hi hD;generalize ded ⟨op,(na:Int),b,c,d⟩ A=z at *
  generalize A na=y at *
  clear hD a0 hA ha;rcases h with rfl | rfl | rfl | rfl
  all_goals
   go_enter Tryz.func59,Tryz.ntmps59
   go_wp2
   go_ret
   exact ⟨ret_bool HD.out.symm,b0⟩
 have HD:Hid (ded ⟨op,a,b,c,d⟩ A=false):=Hi (by
  unfold ded
  have e1:(op == 1)=false:=by simp;omega
  have e2:(op == 2)=false:=by simp;omega
  have e6:(op == 6)=false:=by simp;omega
  have e7:(op == 7)=false:=by simp;omega
  simp only [e1,e2,e6,e7];rfl)
 have e1:(op == 1)=false:=by simp;omega
 have e2:(op == 2)=false:=by simp;omega
 have e6:(op == 6)=false:=by simp;omega
 have e7:(op == 7)=false:=by simp;omega
 clear h a0 hA ha;go_enter Tryz.func59,Tryz.ntmps59
 go_wp2
 go_ret
 exact ⟨ret_bool HD.out.symm,b0⟩
theorem ded_in {nv na nl:Nat} {x:Ins} (h:insOk nv na nl x=true) (hop:x.op=1∨x.op=2∨x.op=6∨x.op=7):0≤x.a∧x.a < 14:=by
 obtain ⟨op,a,b,c,d⟩:=x;simp only at hop ⊢
 rcases hop with rfl | rfl | rfl | rfl
 all_goals
  unfold insOk at h
  simp [shp,flds,fOk,wi] at h
  omega
theorem mk_bool14 (u:World):(Instr.makeSlice 30 (.int .i64 14) (.int .i64 14)).run Tryz.prog u=.ok (.slice (some ⟨u.heap.size,0,none⟩) 14 14) (u.alloc (.cells (madeCells #[.bool false] 14) 4)):=mk_boolF 14 (by omega) u
theorem flw_len (x:Ins) (i:Nat):(flw x i).length≤2:=by unfold flw;repeat (first | split | simp)
theorem nxt_len (x:Ins) (i:Nat):(nxt x i).length≤2:=by unfold nxt;repeat (first | split | simp)
theorem own_tab_set {w:World} {base:Nat} {e:TypeId} {g cap:Nat} {F:Nat→Bool} (ho:w.ownsRow base e 1 (.slice (some ⟨g,0,none⟩) 14 cap) 14 (bools (tab F))) (r:Nat) (b:Bool) {G:Nat→Bool} (hG:∀ q,q < 14→(if q=r then b else F q)=G q) :
  (w.setCell ⟨g,r,none⟩ (.bool b)).ownsRow base e 1 (.slice (some ⟨g,0,none⟩) 14 cap) 14 (bools (tab G)):=by
 have h:=(ho.stored r (.bool b)).1;rw [bools_set,tab_set,tab_congr hG] at h;exact h
theorem own_tab_at {w:World} {base:Nat} {e:TypeId} {g cap:Nat} {F:Nat→Bool} (ho:w.ownsRow base e 1 (.slice (some ⟨g,0,none⟩) 14 cap) 14 (bools (tab F))) (r:Nat) (hr:r < 14):w.cell? ⟨g,r,none⟩=some (.bool (F r)):=by
 rw [ho.cellAt r (by omega),bools_at _ _ (by rw [tab_len];exact hr),tab_get]
theorem liveAfter_any (va vb vc v:Value) (c:Cd) (L:List (List Bool)) (i:Nat) (w:World) (hr:ReadsC w va vb vc c) (hv:Reads2 bools w v L) (hL:L.length=c.list.length) (hrow:∀ k (h:k < L.length),L[k].length=14) (hok:codeOk c=true) (hi:i < c.list.length) :
  Calls Tryz.prog 55 #[.agg #[va,vb,vc],.int .i64 i,v] w fun e w'=>∃ g,e=.returned (.slice (some ⟨g,0,none⟩) 14 14)∧w'.ownsRow w.heap.size 4 1 (.slice (some ⟨g,0,none⟩) 14 14) 14 (bools (aft L (flw c.list[i] i)))∧Below w.heap.size w w':=by
 obtain ⟨a0,c0,a1,c1,a2,c2,rfl,rfl,rfl⟩:=hr.shape;obtain ⟨a3,c3,rfl⟩:=hv.shape;obtain ⟨t1,u1⟩:=codeOk_len hok;have v1:=fun u=>mk_bool14 u
 have z0:=bal (Bs w) (.cells #[.slice a0 c.vars.length c0,.slice a1 c.arrays.length c1,.slice a2 c.list.length c2] 26);have f0:=own_made (w.alloc (.cells #[.slice a0 c.vars.length c0,.slice a1 c.arrays.length c1,.slice a2 c.list.length c2] 26)) (.bool false) 14 4 (by unfold maxLen;omega);rw [← bools_replicate,tab_false] at f0;simp only [Sa] at f0;have t0:=bal z0 (.cells (madeCells #[.bool false] 14) 4);have d1:=fun t ht=>flw_in hok hi t ht
 have HC:=Hi (fun W (hW:Below w.heap.size w W)=>follow_any _ _ _ c i W (hr.below hW) hi (by omega) (codeOk_all hok i hi));have y1:=flw_len c.list[i] i;generalize flw c.list[i] i=ts at *
 have HI:=Hi d1;have HV:=Hi hv;have HR:=Hi hrow;have HL:=Hi hL;clear hr hv d1 hrow hL;go_enter Tryz.func55,Tryz.ntmps55
 go_wp2_with fail
 refine (HC.out _ t0).mono ?_;rintro e w1 ⟨u,rfl,k0,hb⟩;have m1:=hb.size;simp only [Sa] at m1;have j1:=Ob f0 hb;have m0:=btr t0 hb;obtain ⟨ua,uc,rfl⟩:=Oh k0;have w0:=k0.lt;simp only [Sa] at w0;clear f0 hb t0 z0 HC;go_wp2_with fail
 go_loopw [17] (fun t wr=>∃ k:Nat,k≤ts.length∧t=.int .i64 k∧wr.ownsRow (w.heap.size+1) 4 1 (.slice (some ⟨w.heap.size+1,0,none⟩) 14 14) 14 (bools (tab (aftF L (ts.take k))))∧Chg (fun q=>q=w.heap.size+1) w1 wr) (fun t _=>ts.length-(intOf t).toNat)
 case atStart=>exact ⟨0,Nat.zero_le _,rfl,j1,Chg.refl _ _⟩
 case round =>
  obtain ⟨k,hk,rfl,ho,hC⟩:=hrel;have z1:=hC.size;have hB:=m0.trans (hC.below w.heap.size m0.size (fun q hq h=>by omega));by_cases hlt:k < ts.length
  ·have f1:=Ow k0 hC (fun q hq h=>by have:=w0 q hq;omega);obtain ⟨g',c',b1⟩:=own_pos f1 (by omega);simp only [Value.slice.injEq,true_and] at b1;obtain ⟨rfl,rfl⟩:=b1;have s1:=w0 g' rfl;have b0:=f1.cellAt k (by omega);rw [List.getElem?_eq_getElem (by rw [ints_length];exact hlt),ints_get] at b0;obtain ⟨k1,l1⟩:=HI.out _ (List.getElem_mem hlt);have e1:=fun q=>aftF_succ L ts k hlt q
   generalize ts[k]=tk at *
   obtain ⟨nt,rfl⟩:∃ nt:Nat,tk=(nt:Int):=⟨tk.toNat,by omega⟩;have u0:nt < L.length:=by have:=HL.out;omega
   have y0:=fun r h=>bit_at L nt r u0 h
   have q0:=HR.out nt u0;obtain ⟨bl,ol,ul,rfl,i1,n0,g1⟩:=HV.out.at nt u0;rw [q0] at g1;replace n0:=Kc hB n0;generalize L[nt]=row at *
   obtain ⟨_,_,ar,cr,br,b2,rfl,r1,x0,d0⟩:=g1;obtain ⟨rfl,n1⟩:=x0 (by omega);have s0:¬br=w.heap.size+1:=by omega
   have HG:Hid (∀ q,q < 14→aftF L (ts.take (k+1)) q=(aftF L (ts.take k) q||row.getD q false)):=Hi (fun q hq=>by rw [e1 q,y0 q (by omega),List.getD_eq_getElem?_getD,List.getElem?_eq_getElem (by omega)];rfl);have HS:=Hi (fun j hj=>Kc hB (d0 j hj));have p0:=Hi q0;have x1:(nt:Int) < (L.length:Int):=by omega
   generalize aftF L (ts.take k)=F1 at *
   generalize hF2:aftF L (ts.take (k+1))=F2 at *
   have h1:=Hi hF2;clear hF2;have HO:=Hi (Ai k0 m0);clear e1 y0 q0 d0 x0 k1 l1 m0 k0 HI HV HR HL;go_wp2_with fail
   go_loopw [26] (fun t wy=>∃ r:Nat,r≤14∧t=.int .i64 r∧wy.ownsRow (w.heap.size+1) 4 1 (.slice (some ⟨w.heap.size+1,0,none⟩) 14 14) 14 (bools (tab (fun q=>if q < r then F2 q else F1 q)))∧Chg (fun q=>q=w.heap.size+1) wr wy) (fun t _=>14-(intOf t).toNat)
   case atStart=>exact ⟨0,Nat.zero_le _,rfl,by simpa using ho,Chg.refl _ _⟩
   case round =>
    obtain ⟨r,hr,rfl,j0,e0⟩:=hrel;by_cases hlr:r < 14
    ·have v0:=own_tab_at j0 r hlr;simp only [Nat.lt_irrefl,if_false] at v0;have hf:=j0.frozenAt r;have g0:=HS.out r (by rw [bools_length,p0.out];exact hlr);rw [bools_get] at g0;have o1:=Gc e0 g0 s0;have p1:=Gc e0 b0 (fun h=>by omega);have q1:=Gc e0 n0 (fun h=>by omega);have l0:=HG.out r hlr;rw [List.getD_eq_getElem?_getD,List.getElem?_eq_getElem (by have:=p0.out;omega)] at l0;simp only [Option.getD_some] at l0;generalize row[r]'(by have:=p0.out;omega)=z at *
     have o0:=fun b (h:b=(F1 r||z))=>own_tab_set j0 r b (G:=fun q=>if q < r+1 then F2 q else F1 q) (fun q hq=>by
      by_cases e:q=r
      ·subst e;rw [if_pos rfl,if_pos (by omega),l0];exact h
      rw [if_neg e];by_cases e2:q < r
      ·rw [if_pos e2,if_pos (by omega)]
      rw [if_neg e2,if_neg (by omega)])
     have i0:=fun b=>e0.setCell (w.heap.size+1) r (.bool b) (fun _=>rfl)
     generalize F1 r=y at *
     clear l0 g0 HG HS j0 e0 b0 n0 ho hC
     cases y with
     | true =>
      have h0:=o0 true rfl;have r0:=i0 true;clear o0 i0;go_wp2
      go_roundw
      case rel=>exact ⟨r+1,by omega,by go_num,h0,r0⟩
      case measure=>simp [intOf];omega
     | false =>
      have h0:=o0 z rfl;have r0:=i0 z;clear o0 i0;go_wp2
      go_roundw
      case rel=>exact ⟨r+1,by omega,by go_num,h0,r0⟩
      case measure=>simp [intOf];omega
    have e:r=14:=by omega
    subst e;rw [tab_congr (g:=F2) (fun q hq=>if_pos hq)] at j0;have i0:=hC.trans ⟨e0.os,e0.tape,e0.output,e0.size,fun q hq hn=>e0.block q hq hn⟩;go_wp2
    go_roundw
    case rel=>exact ⟨k+1,by omega,by go_num,by rw [h1.out];exact j0,i0⟩
    case measure=>simp [intOf];omega
  have e:k=ts.length:=by omega
  subst e;rw [List.take_length] at ho;go_wp2
  go_ret
  exact ⟨_,rfl,Om ho (by omega),hB⟩
theorem l12After_any (va vb vc v:Value) (c:Cd) (L:List (List Bool)) (i:Nat) (w:World) (hr:ReadsC w va vb vc c) (hv:Reads2 bools w v L) (hL:L.length=c.list.length) (hrow:∀ k (h:k < L.length),L[k].length=14) (hok:codeOk c=true) (hi:i < c.list.length) :
  Calls Tryz.prog 60 #[.agg #[va,vb,vc],v,.int .i64 i] w fun e w'=>∃ g,e=.returned (.slice (some ⟨g,0,none⟩) 14 14)∧w'.ownsRow w.heap.size 4 1 (.slice (some ⟨g,0,none⟩) 14 14) 14 (bools (aft L (nxt c.list[i] i)))∧Below w.heap.size w w':=by
 obtain ⟨a0,c0,a1,c1,a2,c2,rfl,rfl,rfl⟩:=hr.shape;obtain ⟨a3,c3,rfl⟩:=hv.shape;obtain ⟨t1,u1⟩:=codeOk_len hok;have v1:=fun u=>mk_bool14 u
 have z0:=bal (Bs w) (.cells #[.slice a0 c.vars.length c0,.slice a1 c.arrays.length c1,.slice a2 c.list.length c2] 26);have f0:=own_made (w.alloc (.cells #[.slice a0 c.vars.length c0,.slice a1 c.arrays.length c1,.slice a2 c.list.length c2] 26)) (.bool false) 14 4 (by unfold maxLen;omega);rw [← bools_replicate,tab_false] at f0;simp only [Sa] at f0;have t0:=bal z0 (.cells (madeCells #[.bool false] 14) 4);have d1:=fun t ht=>nxt_in hok hi t ht
 have HC:=Hi (fun W (hW:Below w.heap.size w W)=>l8Next_any _ _ _ c i W (hr.below hW) hi (by omega));have y1:=nxt_len c.list[i] i;generalize nxt c.list[i] i=ts at *
 have HI:=Hi d1;have HV:=Hi hv;have HR:=Hi hrow;have HL:=Hi hL;clear hr hv d1 hrow hL;go_enter Tryz.func60,Tryz.ntmps60
 go_wp2_with fail
 refine (HC.out _ t0).mono ?_;rintro e w1 ⟨u,rfl,k0,hb⟩;have m1:=hb.size;simp only [Sa] at m1;have j1:=Ob f0 hb;have m0:=btr t0 hb;obtain ⟨ua,uc,rfl⟩:=Oh k0;have w0:=k0.lt;simp only [Sa] at w0;clear f0 hb t0 z0 HC;go_wp2_with fail
 go_loopw [9] (fun t wr=>∃ k:Nat,k≤ts.length∧t=.int .i64 k∧wr.ownsRow (w.heap.size+1) 4 1 (.slice (some ⟨w.heap.size+1,0,none⟩) 14 14) 14 (bools (tab (aftF L (ts.take k))))∧Chg (fun q=>q=w.heap.size+1) w1 wr) (fun t _=>ts.length-(intOf t).toNat)
 case atStart=>exact ⟨0,Nat.zero_le _,rfl,j1,Chg.refl _ _⟩
 case round =>
  obtain ⟨k,hk,rfl,ho,hC⟩:=hrel;have z1:=hC.size;have hB:=m0.trans (hC.below w.heap.size m0.size (fun q hq h=>by omega));by_cases hlt:k < ts.length
  ·have f1:=Ow k0 hC (fun q hq h=>by have:=w0 q hq;omega);obtain ⟨g',c',b1⟩:=own_pos f1 (by omega);simp only [Value.slice.injEq,true_and] at b1;obtain ⟨rfl,rfl⟩:=b1;have s1:=w0 g' rfl;have b0:=f1.cellAt k (by omega);rw [List.getElem?_eq_getElem (by rw [ints_length];exact hlt),ints_get] at b0;obtain ⟨k1,l1⟩:=HI.out _ (List.getElem_mem hlt);have e1:=fun q=>aftF_succ L ts k hlt q
   generalize ts[k]=tk at *
   obtain ⟨nt,rfl⟩:∃ nt:Nat,tk=(nt:Int):=⟨tk.toNat,by omega⟩;have u0:nt < L.length:=by have:=HL.out;omega
   have y0:=fun r h=>bit_at L nt r u0 h
   have q0:=HR.out nt u0;obtain ⟨bl,ol,ul,rfl,i1,n0,g1⟩:=HV.out.at nt u0;rw [q0] at g1;replace n0:=Kc hB n0;generalize L[nt]=row at *
   obtain ⟨_,_,ar,cr,br,b2,rfl,r1,x0,d0⟩:=g1;obtain ⟨rfl,n1⟩:=x0 (by omega);have s0:¬br=w.heap.size+1:=by omega
   have HG:Hid (∀ q,q < 14→aftF L (ts.take (k+1)) q=(aftF L (ts.take k) q||row.getD q false)):=Hi (fun q hq=>by rw [e1 q,y0 q (by omega),List.getD_eq_getElem?_getD,List.getElem?_eq_getElem (by omega)];rfl);have HS:=Hi (fun j hj=>Kc hB (d0 j hj));have p0:=Hi q0;have x1:(nt:Int) < (L.length:Int):=by omega
   generalize aftF L (ts.take k)=F1 at *
   generalize hF2:aftF L (ts.take (k+1))=F2 at *
   have h1:=Hi hF2;clear hF2;have HO:=Hi (Ai k0 m0);clear e1 y0 q0 d0 x0 k1 l1 m0 k0 HI HV HR HL;go_wp2_with fail
   go_loopw [10] (fun t wy=>∃ r:Nat,r≤14∧t=.int .i64 r∧wy.ownsRow (w.heap.size+1) 4 1 (.slice (some ⟨w.heap.size+1,0,none⟩) 14 14) 14 (bools (tab (fun q=>if q < r then F2 q else F1 q)))∧Chg (fun q=>q=w.heap.size+1) wr wy) (fun t _=>14-(intOf t).toNat)
   case atStart=>exact ⟨0,Nat.zero_le _,rfl,by simpa using ho,Chg.refl _ _⟩
   case round =>
    obtain ⟨r,hr,rfl,j0,e0⟩:=hrel;by_cases hlr:r < 14
    ·have v0:=own_tab_at j0 r hlr;simp only [Nat.lt_irrefl,if_false] at v0;have hf:=j0.frozenAt r;have g0:=HS.out r (by rw [bools_length,p0.out];exact hlr);rw [bools_get] at g0;have o1:=Gc e0 g0 s0;have p1:=Gc e0 b0 (fun h=>by omega);have q1:=Gc e0 n0 (fun h=>by omega);have l0:=HG.out r hlr;rw [List.getD_eq_getElem?_getD,List.getElem?_eq_getElem (by have:=p0.out;omega)] at l0;simp only [Option.getD_some] at l0;generalize row[r]'(by have:=p0.out;omega)=z at *
     have o0:=fun b (h:b=(F1 r||z))=>own_tab_set j0 r b (G:=fun q=>if q < r+1 then F2 q else F1 q) (fun q hq=>by
      by_cases e:q=r
      ·subst e;rw [if_pos rfl,if_pos (by omega),l0];exact h
      rw [if_neg e];by_cases e2:q < r
      ·rw [if_pos e2,if_pos (by omega)]
      rw [if_neg e2,if_neg (by omega)])
     have i0:=fun b=>e0.setCell (w.heap.size+1) r (.bool b) (fun _=>rfl)
     generalize F1 r=y at *
     clear l0 g0 HG HS j0 e0 b0 n0 ho hC
     cases y with
     | true =>
      have h0:=o0 true rfl;have r0:=i0 true;clear o0 i0;go_wp2
      go_roundw
      case rel=>exact ⟨r+1,by omega,by go_num,h0,r0⟩
      case measure=>simp [intOf];omega
     | false =>
      have h0:=o0 z rfl;have r0:=i0 z;clear o0 i0;go_wp2
      go_roundw
      case rel=>exact ⟨r+1,by omega,by go_num,h0,r0⟩
      case measure=>simp [intOf];omega
    have e:r=14:=by omega
    subst e;rw [tab_congr (g:=F2) (fun q hq=>if_pos hq)] at j0;have i0:=hC.trans ⟨e0.os,e0.tape,e0.output,e0.size,fun q hq hn=>e0.block q hq hn⟩;go_wp2
    go_roundw
    case rel=>exact ⟨k+1,by omega,by go_num,by rw [h1.out];exact j0,i0⟩
    case measure=>simp [intOf];omega
  have e:k=ts.length:=by omega
  subst e;rw [List.take_length] at ho;go_wp2
  go_ret
  exact ⟨_,rfl,Om ho (by omega),hB⟩
end Go.Proofs.YtnpidfbcbmeijaaGreat
