/-
 Parts of the proofs of the laws FnRemoveDead,FnRemoveDeadLeak,FnSpecFenced,FnSpecMemory.
-/
import Derived.Test.YtnpidfbcbmeijaaGreatDT
set_option maxHeartbeats 12800000
set_option maxRecDepth 100000
set_option linter.all false
namespace Go.Proofs.YtnpidfbcbmeijaaGreat
open Go.RowKit
def usesF (us:List Int) (F:Nat→Bool) (q:Nat):Bool:=us.any (fun u=>u == (q:Int))||F q
theorem usesF_succ (us:List Int) (F:Nat→Bool) (k:Nat) (h:k < us.length) (nu:Nat) (hn:us[k]=(nu:Int)) (q:Nat):(if q=nu then true else usesF (us.take k) F q)=usesF (us.take (k+1)) F q:=by
 unfold usesF
 rw [List.take_succ_eq_append_getElem h,List.any_append,hn];simp only [List.any_cons,List.any_nil,Bool.or_false];by_cases e:q=nu
 ·subst e;simp
 rw [if_neg e,show ((nu:Int) == (q:Int))=false from by simp;omega,Bool.or_false]
theorem use_len (x:Ins):(use x).length≤3:=by unfold use;repeat (first | split | simp)
theorem liveBefore_any (va vb vc v:Value) (c:Cd) (L:List (List Bool)) (i:Nat) (w:World) (hr:ReadsC w va vb vc c) (hv:Reads2 bools w v L) (hL:L.length=c.list.length) (hrow:∀ k (h:k < L.length),L[k].length=14) (hok:codeOk c=true) (hi:i < c.list.length) :
  Calls Tryz.prog 89 #[.agg #[va,vb,vc],.int .i64 i,v] w fun e w'=>∃ g,e=.returned (.slice (some ⟨g,0,none⟩) 14 14)∧w'.ownsRow w.heap.size 4 1 (.slice (some ⟨g,0,none⟩) 14 14) 14 (bools (befAt c L i))∧Below w.heap.size w w':=by
 rw [befAt_at c L i hi];obtain ⟨a0,c0,a1,c1,a2,c2,rfl,rfl,rfl⟩:=hr.shape;obtain ⟨a3,c3,rfl⟩:=hv.shape;obtain ⟨h1,i1⟩:=codeOk_len hok;have p0:=bal (Bs w) (.cells #[.slice a0 c.vars.length c0,.slice a1 c.arrays.length c1,.slice a2 c.list.length c2] 26);have HA:=Hi (fun W (hW:Below w.heap.size w W)=>liveAfter_any _ _ _ _ c L i W (hr.below hW) (hv.below hW) hL hrow hok hi);have n0:=codeOk_all hok i hi;have j1:=insOk_op n0;have k0:=wrt_in n0;have w0:=use_in n0;have k1:=use_len c.list[i];obtain ⟨_,hn',aa,f1,b',d1,x0,y0,ha,v0⟩:=hr.l;simp only [Value.slice.injEq,true_and] at x0;obtain ⟨rfl,rfl⟩:=x0;obtain ⟨rfl,g1⟩:=ha (by omega);obtain ⟨e0,e1,e2,e3,e4⟩:=reads_Instr v0 i hi;clear v0 ha hr hv hL hrow hok n0;unfold aft at HA
 generalize aftF L (flw c.list[i] i)=A at *
 generalize c.list[i]=x at *
 have hq:(i:Int) < (c.list.length:Int):=by omega
 have HU:=Hi w0;clear w0;go_enter Tryz.func89,Tryz.ntmps89
 go_wp2_with fail
 refine (HA.out _ p0).mono ?_;rintro e w1 ⟨g,rfl,ho,hb⟩;have hz:=hb.size;simp only [Sa] at hz;have b2:w1.cell? ⟨w.heap.size,2,none⟩=some (.slice (some ⟨b',d1,none⟩) c.list.length c2):=Kc hb (Wc rfl rfl);have hB:=btr p0 hb;replace e0:=Kc hB e0;replace e1:=Kc hB e1;replace e2:=Kc hB e2;replace e3:=Kc hB e3;replace e4:=Kc hB e4;have z0:=ho.lt g rfl;simp only [Sa] at z0;replace ho:=Om ho (base':=w.heap.size+1) (by simp);have k2:=Lc b2;have k3:=Lc e0;clear hb p0 HA;go_wp2_with fail
 refine (writes_any x _ (by omega)).mono ?_;rintro e w2 ⟨rfl,hb⟩;have l1:=hb.size;replace ho:=Ob ho hb;replace b2:=Kc hb b2;replace e0:=Kc hb e0;replace e1:=Kc hb e1;replace e2:=Kc hb e2;replace e3:=Kc hb e3;replace e4:=Kc hb e4;replace hB:=btr hB hb;clear hb;rcases k0 with k0 | ⟨hw0,hw1⟩
 ·rw [k0];obtain ⟨F0,g0⟩:∃ F0:Nat→Bool,∀ q,q < 14→(A q&&!(wrt x == (q:Int)))=F0 q:=⟨A,fun q _=>by rw [k0,show ((-1:Int) == (q:Int))=false from by simp];simp⟩;replace ho:w2.ownsRow (w.heap.size+1) 4 1 (.slice (some ⟨g,0,none⟩) 14 14) 14 (bools (tab F0)):=by rw [tab_congr (f:=F0) (g:=A) (fun q hq=>by rw [← g0 q hq,k0,show ((-1:Int) == (q:Int))=false from by simp];simp)];exact ho
  clear k0;have HT:Hid (tab (befF x A)=tab (usesF (use x) F0)):=Hi (tab_congr (fun q hq=>by unfold befF usesF;rw [g0 q hq]));have k2:=Lc b2;have k3:=Lc e0;go_wp2_with fail
  refine (uses_any x _ (by omega)).mono ?_;rintro e w4 ⟨u,rfl,hu,hb⟩;have u0:=hb.size;(try simp only [Ss] at u0)
  replace ho:=Ob ho hb;replace hB:=btr hB hb;have m0:=hu.lt;(try simp only [Ss] at m0)
  clear hb b2 e0 e1 e2 e3 e4 k2 k3 g0;obtain ⟨ua,uc,rfl⟩:=Oh hu;generalize use x=us at *
  go_wp2_with fail
  go_loopw [33] (fun t wr=>∃ k:Nat,k≤us.length∧t=.int .i64 k∧wr.ownsRow (w.heap.size+1) 4 1 (.slice (some ⟨g,0,none⟩) 14 14) 14 (bools (tab (usesF (us.take k) F0)))∧Chg (fun q=>q=g) w4 wr) (fun t _=>us.length-(intOf t).toNat)
  case atStart=>exact ⟨0,Nat.zero_le _,rfl,by rw [tab_congr (g:=F0) (fun q _=>by simp [usesF])];exact ho,Chg.refl _ _⟩
  case round =>
   obtain ⟨k,hk,rfl,d0,hC⟩:=hrel;have b1:=hC.size;by_cases hlt:k < us.length
   ·have j0:=Ow hu hC (fun q hq h=>by have:=m0 q hq;omega);obtain ⟨g',c',l0⟩:=own_pos j0 (by omega);simp only [Value.slice.injEq,true_and] at l0;obtain ⟨rfl,rfl⟩:=l0;have b0:=j0.cellAt k (by omega);rw [List.getElem?_eq_getElem (by rw [ints_length];exact hlt),ints_get] at b0;obtain ⟨r0,s0⟩:=HU.out _ (List.getElem_mem hlt);obtain ⟨nu,h0⟩:∃ nu:Nat,us[k]=(nu:Int):=⟨us[k].toNat,by omega⟩;rw [h0] at b0;have f0:nu < 14:=by omega
    have i0:=own_tab_at d0 nu f0;have hf:=d0.frozenAt nu;have t0:=own_tab_set d0 nu true (G:=usesF (us.take (k+1)) F0) (fun q hq=>usesF_succ us F0 k hlt nu h0 q);have o0:=hC.setCell g nu (.bool true) (fun _=>rfl);generalize usesF (us.take k) F0 nu=y at *
    clear d0 hC h0 r0 s0 ho hu j0;go_wp2
    go_roundw
    case rel=>exact ⟨k+1,by omega,by go_num,t0,o0⟩
    case measure=>simp [intOf];omega
   have e:k=us.length:=by omega
   subst e;rw [List.take_length] at d0;go_wp2
   go_ret
   exact ⟨_,rfl,by rw [HT.out];exact Om d0 (by omega),hB.trans (hC.below w.heap.size hB.size (fun q hq h=>by omega))⟩
 obtain ⟨nr,q0⟩:∃ nr:Nat,wrt x=(nr:Int):=⟨(wrt x).toNat,by omega⟩;have f0:nr < 14:=by omega
 rw [q0];obtain ⟨F0,g0⟩:∃ F0:Nat→Bool,∀ q,q < 14→(A q&&!(wrt x == (q:Int)))=F0 q:=⟨_,fun q _=>rfl⟩;have i0:=own_tab_at ho nr f0;have hf:=ho.frozenAt nr
 replace ho:=own_tab_set ho nr false (G:=F0) (fun q hq=>by
  rw [← g0 q hq,q0];by_cases e:q=nr
  ·subst e;simp
  rw [if_neg e,show ((nr:Int) == (q:Int))=false from by simp;omega];simp)
 replace hB:=bst hB g nr (by omega) (.bool false);replace b2:=Nn (b:=g) (j:=nr) b2 (.bool false);replace e0:=Nn (b:=g) (j:=nr) e0 (.bool false);replace e1:=Nn (b:=g) (j:=nr) e1 (.bool false);replace e2:=Nn (b:=g) (j:=nr) e2 (.bool false);replace e3:=Nn (b:=g) (j:=nr) e3 (.bool false);replace e4:=Nn (b:=g) (j:=nr) e4 (.bool false);generalize A nr=y at i0
 clear hw0 hw1 q0;have HT:Hid (tab (befF x A)=tab (usesF (use x) F0)):=Hi (tab_congr (fun q hq=>by unfold befF usesF;rw [g0 q hq]));have k2:=Lc b2;have k3:=Lc e0;go_wp2_with fail
 refine (uses_any x _ (by omega)).mono ?_;rintro e w4 ⟨u,rfl,hu,hb⟩;have u0:=hb.size;(try simp only [Ss] at u0)
 replace ho:=Ob ho hb;replace hB:=btr hB hb;have m0:=hu.lt;(try simp only [Ss] at m0)
 clear hb b2 e0 e1 e2 e3 e4 k2 k3 g0;obtain ⟨ua,uc,rfl⟩:=Oh hu;generalize use x=us at *
 go_wp2_with fail
 go_loopw [33] (fun t wr=>∃ k:Nat,k≤us.length∧t=.int .i64 k∧wr.ownsRow (w.heap.size+1) 4 1 (.slice (some ⟨g,0,none⟩) 14 14) 14 (bools (tab (usesF (us.take k) F0)))∧Chg (fun q=>q=g) w4 wr) (fun t _=>us.length-(intOf t).toNat)
 case atStart=>exact ⟨0,Nat.zero_le _,rfl,by rw [tab_congr (g:=F0) (fun q _=>by simp [usesF])];exact ho,Chg.refl _ _⟩
 case round =>
  obtain ⟨k,hk,rfl,d0,hC⟩:=hrel;have b1:=hC.size;by_cases hlt:k < us.length
  ·have j0:=Ow hu hC (fun q hq h=>by have:=m0 q hq;omega);obtain ⟨g',c',l0⟩:=own_pos j0 (by omega);simp only [Value.slice.injEq,true_and] at l0;obtain ⟨rfl,rfl⟩:=l0;have b0:=j0.cellAt k (by omega);rw [List.getElem?_eq_getElem (by rw [ints_length];exact hlt),ints_get] at b0;obtain ⟨r0,s0⟩:=HU.out _ (List.getElem_mem hlt);obtain ⟨nu,h0⟩:∃ nu:Nat,us[k]=(nu:Int):=⟨us[k].toNat,by omega⟩;rw [h0] at b0;have f0:nu < 14:=by omega
   have i0:=own_tab_at d0 nu f0;have hf:=d0.frozenAt nu;have t0:=own_tab_set d0 nu true (G:=usesF (us.take (k+1)) F0) (fun q hq=>usesF_succ us F0 k hlt nu h0 q);have o0:=hC.setCell g nu (.bool true) (fun _=>rfl);generalize usesF (us.take k) F0 nu=y at *
   clear d0 hC h0 r0 s0 ho hu j0;go_wp2
   go_roundw
   case rel=>exact ⟨k+1,by omega,by go_num,t0,o0⟩
   case measure=>simp [intOf];omega
  have e:k=us.length:=by omega
  subst e;rw [List.take_length] at d0;go_wp2
  go_ret
  exact ⟨_,rfl,by rw [HT.out];exact Om d0 (by omega),hB.trans (hC.below w.heap.size hB.size (fun q hq h=>by omega))⟩
theorem equalB_any (va vb:Value) (xs ys:List Bool) (w:World) (ha:Reads w 1 va xs.length (bools xs)) (hb:Reads w 1 vb ys.length (bools ys)) :
  Calls Tryz.prog 90 #[va,vb] w fun e w'=>e=.returned (.bool (decide (xs=ys)))∧Below w.heap.size w w':=by
 obtain ⟨_,hn,a,g0,b,i0,rfl,f0,ha,a0⟩:=ha;obtain ⟨_,hn',a',cap',b',off',rfl,hcap',ha',b0⟩:=hb;by_cases hl:xs.length=ys.length
 ·have e0:((xs.length:Int) != (ys.length:Int))=false:=by simp [hl]
  have HL:=Hi hl;clear hl;go_enter Tryz.func90,Tryz.ntmps90
  go_wp2
  go_loopw [13] (fun i wr=>∃ k:Nat,k≤xs.length∧i=.int .i64 k∧xs.take k=ys.take k∧∃ d,wr=w.drewN d) (fun i _=>xs.length-(intOf i).toNat)
  case atStart=>exact ⟨0,Nat.zero_le _,rfl,rfl,0,rfl⟩
  case round =>
   obtain ⟨k,hk,rfl,he,d,rfl⟩:=hrel;have HE:=Hi he;clear he;by_cases hlt:k < xs.length
   ·obtain ⟨rfl,h0⟩:=ha (by omega);obtain ⟨rfl,hbs'⟩:=ha' (by have:=HL.out;omega);have hlt':k < ys.length:=by have:=HL.out;omega
    have c0:=a0 k (by simpa [bools] using hlt);have d0:=b0 k (by simpa [bools] using hlt');rw [bools_get] at c0 d0;clear a0 b0 ha ha';by_cases hxy:xs[k]=ys[k]
    ·have e1:(!(xs[k] == ys[k]))=false:=by simp [hxy]
     clear hxy;go_wp2
     go_quiet (fail)
     go_wp2
     go_roundw
     case rel=>exact ⟨k+1,by omega,by go_num,take_succ_eq hlt hlt' HE.out (by simpa using e1),_,rfl⟩
     case measure=>simp [intOf];omega
    have e1:(!(xs[k] == ys[k]))=true:=by simp [hxy]
    have HX:=Hi hxy;clear hxy;go_wp2
    go_quiet (fail)
    go_wp2
    go_ret
    exact ⟨ret_bool (decide_eq_false (fun h=>HX.out (by subst h;rfl))).symm,by rw [World.drewN_drewN];exact below_drewN' w _⟩
   go_wp2
   go_ret
   exact ⟨ret_bool (decide_eq_true (by have h:=HE.out;rwa [List.take_of_length_le (by omega),List.take_of_length_le (by have:=HL.out;omega)] at h)).symm,below_drewN' w _⟩
 have e0:((xs.length:Int) != (ys.length:Int))=true:=by simp;omega
 have HL:=Hi hl;clear hl;go_enter Tryz.func90,Tryz.ntmps90
 go_wp2
 go_ret
 exact ⟨ret_bool (decide_eq_false (fun h=>HL.out (by rw [h]))).symm,Bs w⟩
theorem l12Same_any (va vb:Value) (xs ys:List Bool) (w:World) (ha:Reads w 1 va xs.length (bools xs)) (hb:Reads w 1 vb ys.length (bools ys)) :
  Calls Tryz.prog 94 #[va,vb] w fun e w'=>e=.returned (.bool (decide (xs=ys)))∧Below w.heap.size w w':=by
 obtain ⟨_,hn,a,g0,b,i0,rfl,f0,ha,a0⟩:=ha;obtain ⟨_,hn',a',cap',b',off',rfl,hcap',ha',b0⟩:=hb;by_cases hl:xs.length=ys.length
 ·have e0:((xs.length:Int) != (ys.length:Int))=false:=by simp [hl]
  have HL:=Hi hl;clear hl;go_enter Tryz.func94,Tryz.ntmps94
  go_wp2
  go_loopw [5] (fun i wr=>∃ k:Nat,k≤xs.length∧i=.int .i64 k∧xs.take k=ys.take k∧∃ d,wr=w.drewN d) (fun i _=>xs.length-(intOf i).toNat)
  case atStart=>exact ⟨0,Nat.zero_le _,rfl,rfl,0,rfl⟩
  case round =>
   obtain ⟨k,hk,rfl,he,d,rfl⟩:=hrel;have HE:=Hi he;clear he;by_cases hlt:k < xs.length
   ·obtain ⟨rfl,h0⟩:=ha (by omega);obtain ⟨rfl,hbs'⟩:=ha' (by have:=HL.out;omega);have hlt':k < ys.length:=by have:=HL.out;omega
    have c0:=a0 k (by simpa [bools] using hlt);have d0:=b0 k (by simpa [bools] using hlt');rw [bools_get] at c0 d0;clear a0 b0 ha ha';by_cases hxy:xs[k]=ys[k]
    ·have e1:(!(xs[k] == ys[k]))=false:=by simp [hxy]
     clear hxy;go_wp2
     go_quiet (fail)
     go_wp2
     go_roundw
     case rel=>exact ⟨k+1,by omega,by go_num,take_succ_eq hlt hlt' HE.out (by simpa using e1),_,rfl⟩
     case measure=>simp [intOf];omega
    have e1:(!(xs[k] == ys[k]))=true:=by simp [hxy]
    have HX:=Hi hxy;clear hxy;go_wp2
    go_quiet (fail)
    go_wp2
    go_ret
    exact ⟨ret_bool (decide_eq_false (fun h=>HX.out (by subst h;rfl))).symm,by rw [World.drewN_drewN];exact below_drewN' w _⟩
   go_wp2
   go_ret
   exact ⟨ret_bool (decide_eq_true (by have h:=HE.out;rwa [List.take_of_length_le (by omega),List.take_of_length_le (by have:=HL.out;omega)] at h)).symm,below_drewN' w _⟩
 have e0:((xs.length:Int) != (ys.length:Int))=true:=by simp;omega
 have HL:=Hi hl;clear hl;go_enter Tryz.func94,Tryz.ntmps94
 go_wp2
 go_ret
 exact ⟨ret_bool (decide_eq_false (fun h=>HL.out (by rw [h]))).symm,Bs w⟩
theorem info_bools:(Tryz.prog.info? 30).map (fun i=>(i.zero,i.size,i.bytes))=some (some (.slice none 0 0),1,24):=by kernel_rfl
theorem tBoolSS:SliceT Tryz.prog 90 30 (.slice none 0 0) 1 24:=⟨Tryz.underlying90,info_bools,rfl,by omega,by omega⟩
theorem mk_boolS (n:Nat) (h:n≤1073741824) (u:World):(Instr.makeSlice 90 (.int .i64 n) (.int .i64 n)).run Tryz.prog u =
  .ok (.slice (some ⟨u.heap.size,0,none⟩) n n) (u.alloc (.cells (madeCells #[.slice none 0 0] n) 30)):=by
 obtain ⟨i0,hi,a0,b0,c0⟩:=info_parts info_bools;have h:=run_make (P:=Tryz.prog) u 90 30 i0 (.slice none 0 0) Tryz.underlying90 hi a0 .i64 .i64 n n (by omega) (Int.le_refl _) (by rw [c0];omega) (by omega);rw [Int.toNat_natCast,b0,Nat.mul_one] at h;exact h
abbrev Own2B:=Own2 bools 4 30
theorem live_any (va vb vc:Value) (c:Cd) (w:World) (hr:ReadsC w va vb vc c) (hok:codeOk c=true) :
  Calls Tryz.prog 54 #[.agg #[va,vb,vc]] w fun e w'=>∃ u us,e=.returned u∧Own2B w' w.heap.size u us (liveOf c)∧Below w.heap.size w w':=by
 obtain ⟨a0,c0,a1,c1,a2,c2,rfl,rfl,rfl⟩:=hr.shape;obtain ⟨j3,n1⟩:=codeOk_len hok;have u2:=codeOk_all hok;have i2:=fun u=>mk_bool14 u
 obtain ⟨w1,m0⟩:∃ X,X=w.alloc (.cells #[.slice a0 c.vars.length c0,.slice a1 c.arrays.length c1,.slice a2 c.list.length c2] 26):=⟨_,rfl⟩;have b0:w1.cell? ⟨w.heap.size,0,none⟩=some (.slice a0 c.vars.length c0):=by rw [m0];exact Wc rfl rfl
 have b1:w1.cell? ⟨w.heap.size,1,none⟩=some (.slice a1 c.arrays.length c1):=by rw [m0];exact Wc rfl rfl
 have b2:w1.cell? ⟨w.heap.size,2,none⟩=some (.slice a2 c.list.length c2):=by rw [m0];exact Wc rfl rfl
 have i1:Below w.heap.size w w1:=by rw [m0];exact bal (Bs w) _
 have p2:w1.heap.size=w.heap.size+1:=by rw [m0];simp
 have k2:=Lc b2;have HW:=Hi m0;have HZ:=Hi p2;clear m0 p2;have c3:=Hi (fun W (hW:Below w1.heap.size w1 W)=>hr.below (btr i1 hW));have HB:=Hi (fun (v:Value) (L:List (List Bool)) (i:Nat) (hi:i < c.list.length) W (hW:Below w1.heap.size w1 W) (hv:Reads2 bools W v L) (hL:L.length=c.list.length) (hrow:∀ k (h:k < L.length),L[k].length=14)=>liveBefore_any _ _ _ v c L i W (hr.below (btr i1 hW)) hv hL hrow hok hi);have g2:=mk_boolS c.list.length (by omega);have d1:=own_made w1 (.slice none 0 0) c.list.length 30 (by unfold maxLen;omega)
 have j0:Own2B (w1.alloc (.cells (madeCells #[.slice none 0 0] c.list.length) 30)) w1.heap.size (.slice (some ⟨w1.heap.size,0,none⟩) c.list.length c.list.length) (List.replicate c.list.length (.slice none 0 0)) ((zeroL c).take 0++List.replicate (c.list.length-0) []):=by
  have h:=own2_nils (f:=bools) (tr:=4) (rs:=(zeroL c).take 0++List.replicate (c.list.length-0) []) (by simp [bools]) (by simpa using d1) (fun k r hr=>by simp [List.getElem?_replicate] at hr;exact hr.2.symm ▸ rfl);simpa using h
 have q2:(zeroL c).length=c.list.length:=by simp [zeroL]
 have u0:=Hi q2;clear d1 q2 hr;go_enter Tryz.func54,Tryz.ntmps54
 go_upto_region 1 with (fail)
 rw [← HW.out];clear HW;go_wp2_with fail
 go_loopw [14] (fun t wr=>∃ k:Nat,k≤c.list.length∧t=.int .i64 k∧(∃ us,Own2B wr w1.heap.size (.slice (some ⟨w1.heap.size,0,none⟩) c.list.length c.list.length) us ((zeroL c).take k++List.replicate (c.list.length-k) []))∧Below w1.heap.size w1 wr) (fun t _=>c.list.length-(intOf t).toNat)
 case atStart=>exact ⟨0,Nat.zero_le _,rfl,⟨_,j0⟩,bal (Bs w1) _⟩
 case round =>
  obtain ⟨k,hk,rfl,⟨us,ho⟩,f0⟩:=hrel;clear j0;by_cases q0:k < c.list.length
  ·have n1:k < ((zeroL c).take k++List.replicate (c.list.length-k) ([]:List Bool)).length:=by have:=u0.out;simp;omega
   have u1:=set_next (zeroL c) ([]:List Bool) k (by rw [u0.out];exact q0);have d2:(zeroL c)[k]'(by rw [u0.out];exact q0)=tab (fun _=>false):=by simp [zeroL]
   rw [d2,u0.out] at u1;have f3:=f0.size;have o1:=own_made wr (.bool false) 14 4 (by unfold maxLen;omega);rw [← bools_replicate,tab_false] at o1;have y0:=ho.below (bal (Bs wr) (.cells (madeCells #[.bool false] 14) 4));have q1:=ho.lt;obtain ⟨x,hx,_⟩:=y0.rowAt k n1;have e0:(wr.alloc (.cells (madeCells #[.bool false] 14) 4)).cell? ⟨w1.heap.size,k,none⟩=some x:=by rw [y0.outAt.cellAt k (by omega)];exact hx
   have hf:=y0.outAt.frozenAt k;have j2:=y0.put (r:=tab (fun _=>false)) (u:=.slice (some ⟨wr.heap.size,0,none⟩) 14 14) rfl n1 (by rw [tab_len];exact Om o1 (by omega)) (fun q h h2=>by have e:wr.heap.size=q:=Si h;have:=q1 q h2;omega) (by decide);rw [u1] at j2;have n0:=bst (bal f0 (.cells (madeCells #[.bool false] 14) 4)) w1.heap.size k (by omega) (.slice (some ⟨wr.heap.size,0,none⟩) 14 14);clear ho o1 y0 f0 u1 d2 g2;go_wp2
   go_roundw
   case rel=>exact ⟨k+1,by omega,by go_num,⟨_,j2⟩,n0⟩
   case measure=>simp [intOf];omega
  have e:k=c.list.length:=by omega
  subst e;rw [List.take_of_length_le (by rw [u0.out];omega),Nat.sub_self,List.replicate_zero,List.append_nil] at ho;obtain ⟨w2,rfl⟩:∃ X,X=wr:=⟨_,rfl⟩;obtain ⟨e3,v0⟩:∃ X:Value,X=.slice (some ⟨w1.heap.size,0,none⟩) c.list.length c.list.length:=⟨_,rfl⟩;have t2:=Hi v0;clear q0 g2 v0 hk;go_wp2_with fail
  go_loopg [5] (28*c.list.length+1) (fun gk ch wr=>∃ us L,Own2B wr w1.heap.size (.slice (some ⟨w1.heap.size,0,none⟩) c.list.length c.list.length) us L∧Hid (InvL c L)∧∃ (cb:Bool) (m:Nat),ch=.bool cb∧Hid (L=swps c m∧(cb=true→m+offs L≤14*c.list.length)∧(cb=false→swp c L=L∧m≤14*c.list.length)∧gk=2*offs L+(if cb then 1 else 0))∧Below w1.heap.size w1 wr)
  case atStart=>exact ⟨_,_,ho,Hi (zero_inv c),true,0,rfl,Hi ⟨rfl,fun _=>by rw [zero_offs];omega,fun h=>(by cases h),by rw [zero_offs];simp;omega⟩,f0⟩
  case round =>
   obtain ⟨us,L,t1,HI,cb,m,rfl,HM,j1⟩:=hrel;clear ho f0
   cases cb with
   | false =>
    obtain ⟨r1,_,e2,_⟩:=HM.out;obtain ⟨f2,z2⟩:=e2 (by trivial);have w0:L=liveOf c:=by rw [r1];exact liveOf_of (by rw [← r1];exact f2) z2
    have HF:=Hi w0;clear HM r1 e2 f2 w0;go_wp2_with fail
    go_ret
    exact ⟨_,_,rfl,by rw [← HF.out];exact t1.mono (by omega),btr i1 j1⟩
   | true =>
    have c2o:=Kc j1 b2;have kc2o:=Lc c2o;go_wp2_with fail
    clear c2o kc2o;go_loopw [5,6] (fun ch it wx=>∃ k:Nat,k≤c.list.length∧it=.int .i64 ((k:Int)-1)∧∃ us' M,Own2B wx w1.heap.size (.slice (some ⟨w1.heap.size,0,none⟩) c.list.length c.list.length) us' M∧Hid (InvL c M)∧∃ cb:Bool,ch=.bool cb∧Hid (swpTo c k M=swp c L∧(cb=false→M=L)∧(cb=true→offs M < offs L))∧Below w1.heap.size w1 wx) (fun _ it _=>(intOf it+1).toNat)
    case atStart=>exact ⟨c.list.length,Lr,rfl,_,_,t1,HI,false,rfl,Hi ⟨rfl,fun _=>rfl,fun h=>by cases h⟩,j1⟩
    case round =>
     obtain ⟨k,hk,g1,us',M,r0,HJ,cb,rfl,HS,i0⟩:=hrel;clear t1;rcases Nat.eq_zero_or_pos k with rfl | hpos
     ·rw [show ((0:Nat):Int)-1=-1 from rfl] at g1;subst g1;obtain ⟨s1,s2,s3⟩:=HS.out;obtain ⟨m1,m2,_,m4⟩:=HM.out;have m5:=m2 (by trivial);have h0:M=swp c L:=s1;clear s1 HS HM
      cases cb with
      | false =>
       have e:=s2 (by trivial);subst e;have HK:=Hi (Ai m1 (Ai m5 (Ai h0 m4)));clear s2 s3 h0 m1 m2 m4 m5;go_wp2_with fail
       go_roundg (2*offs M)
       case measure=>have:=HK.out.2.2.2;simp at this;omega
       case rel=>exact ⟨_,_,r0,HJ,false,m,rfl,Hi ⟨HK.out.1,fun h=>(by cases h),fun _=>⟨HK.out.2.2.1.symm,by have:=HK.out.2.1;omega⟩,by simp⟩,i0⟩
      | true =>
       have q0:=s3 (by trivial);have HK:=Hi (Ai m1 (Ai m5 (Ai h0 (Ai m4 q0))));clear s2 s3 h0 m1 m2 m4 m5 q0;go_wp2_with fail
       go_roundg (2*offs M+1)
       case measure=>have h1:=HK.out.2.2.2.1;have h2:=HK.out.2.2.2.2;simp at h1;omega
       case rel=>exact ⟨_,_,r0,HJ,true,m+1,rfl,Hi ⟨by rw [swps,← HK.out.1];exact HK.out.2.2.1,fun _=>by have h1:=HK.out.2.1;have h2:=HK.out.2.2.2.2;omega,fun h=>(by cases h),by simp⟩,i0⟩
     obtain ⟨j,rfl⟩:∃ j,k=j+1:=⟨k-1,by omega⟩;rw [show ((j+1:Nat):Int)-1=(j:Int) from by omega] at g1;subst g1;have hj:j < c.list.length:=by omega
     have p1:=HJ.out.len;have p0:j < M.length:=by omega
     have d0:=HJ.out.rows;have n2:=r0.reads (by omega) (fun k r hkr=>by obtain ⟨h1,rfl⟩:=List.getElem?_eq_some_iff.1 hkr;rw [d0 k h1];omega);have y2:M[j].length≤14:=by rw [d0 j p0];omega
     have y1:=Hi (HB.out _ M j hj _ i0 n2 p1 d0);have b3:=Hi p1;have d3:=Hi d0;have c0':=Kc i0 b0;have c1':=Kc i0 b1;have c2':=Kc i0 b2;have n3:=Lc c2';clear hpos n2 p1 d0 HB;go_wp2_with fail
     refine y1.out.mono ?_;rintro e w3 ⟨g3,rfl,o3,n0⟩;have k3:=n0.size;have m3:=i0.size;have i3:=o3.lt g3 rfl;have g0:=r0.below n0;have x2:=r0.lt;have k1:=btr i0 n0;obtain ⟨u,hu,v1⟩:=g0.rowAt j p0;have e0:w3.cell? ⟨w1.heap.size,j,none⟩=some u:=by rw [g0.outAt.cellAt j (by omega)];exact hu
     have hf:=g0.outAt.frozenAt j;have o2:=Ro v1 (by omega);have l2:=Ro o3 (by omega);have s0:Hid ((befAt c M j).length=14):=Hi (befAt_len hj);obtain ⟨pa,pc,rfl⟩:=Oh v1;have kc:=Lc e0;have p3:=Lc (Kc n0 c2');have z1:=Hi (fun h=>equalB_any (.slice (some ⟨g3,0,none⟩) 14 14) (.slice pa M[j].length pc) (befAt c M j) M[j] w3 h o2);have t0:=Hi (z1.out (by rw [s0.out];exact l2));clear y1 o2 l2 v1 z1;go_wp2_with fail
     refine t0.out.mono ?_;rintro e w4 ⟨rfl,o0⟩;have l3:=o0.size;have k0:=btr k1 o0;have l0:=g0.below o0;have l1:=Kc o0 e0;have h3:=Kf o0 kc hf;have o4:=Ob o3 o0;clear t0 r0 g0 e0 hf;by_cases heq:befAt c M j=M[j]
     ·rw [decide_eq_true heq];have e1:=set_self p0 heq;have h0:=swpTo_step c j M;rw [e1] at h0;have f1:=Hi (Ai (h0.symm.trans HS.out.1) HS.out.2);clear heq e1 h0 HS o3 o4;go_wp2
      go_roundw
      case rel=>exact ⟨j,by omega,by go_num,_,_,l0,HJ,cb,rfl,Hi f1.out,k0⟩
      case measure=>simp [intOf]
     rw [decide_eq_false heq];have x1:=(up_offs HJ.out j p0).2 heq;have x0:=up_inv HJ.out j p0;have h0:=swpTo_step c j M
     have z0:offs (M.set j (befAt c M j)) < offs L:=by
      cases cb with
      | false=>rw [← HS.out.2.1 (by trivial)];exact x1
      | true=>exact Nat.lt_trans x1 (HS.out.2.2 (by trivial))
     have f1:=Hi (Ai (h0.symm.trans HS.out.1) z0);have r2:=Hi x0;have a3:=l0.put (r:=befAt c M j) (u:=.slice (some ⟨g3,0,none⟩) 14 14) rfl p0 (by rw [s0.out];exact Om o4 (by omega)) (fun q h h2=>by have e:g3=q:=Si h;have:=x2 q h2;omega) (by decide);have v2:=bst k0 (w1.heap.size) j (by omega) (.slice (some ⟨g3,0,none⟩) 14 14);clear heq x1 x0 h0 z0 HS o3 o4 l0 HJ k0;go_wp2
     go_roundw
     case rel=>exact ⟨j,by omega,by go_num,_,_,a3,r2,true,rfl,Hi ⟨f1.out.1,fun h=>(by cases h),fun _=>f1.out.2⟩,v2⟩
     case measure=>simp [intOf]
end Go.Proofs.YtnpidfbcbmeijaaGreat
