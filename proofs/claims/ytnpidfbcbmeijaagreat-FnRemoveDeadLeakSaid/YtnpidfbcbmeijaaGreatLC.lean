/-
 Parts of the proofs of the laws FnRemoveDead,FnRemoveDeadLeak,FnSpecFenced,FnSpecMemory.
-/
import Derived.Test.YtnpidfbcbmeijaaGreatLB
set_option maxHeartbeats 12800000
set_option maxRecDepth 100000
set_option linter.all false
namespace Go.Proofs.YtnpidfbcbmeijaaGreat
open Go.RowKit
def zk (x:Ins):List (UInt8 × Int):=(knl x.op).zip (flds x)
def rdK (x:Ins) (k:Nat) (r:Nat):Bool:=((zk x).take k).any (fun p=>(p.1 == 49||p.1 == 51)&&p.2 == (r:Int))
def wrK (x:Ins) (k:Nat) (r:Nat):Bool:=((zk x).take k).any (fun p=>(p.1 == 50||p.1 == 51)&&p.2 == (r:Int))
theorem knl_len (op:Int):(knl op).length≤4:=by unfold knl;repeat (first | split | simp)
theorem zk_len (x:Ins):(zk x).length=(knl x.op).length:=by unfold zk;rw [List.length_zip];have:=knl_len x.op;simp [flds];omega
theorem knl_kinds (op:Int):∀ u ∈ knl op,u=48∨u=49∨u=50∨u=51:=by
 intro u hu;have h:(knl op).all (fun u=>u == 48||(u == 49||(u == 50||u == 51)))=true:=by unfold knl;repeat (first | rfl | split)
 simpa using List.all_eq_true.1 h u hu
theorem zk_get (x:Ins) (k:Nat) (h:k < (zk x).length) (h1:k < (knl x.op).length) (h2:k < (flds x).length):(zk x)[k]=((knl x.op)[k],(flds x)[k]):=by simp [zk]
theorem zk_succ (x:Ins) (f:UInt8 × Int→Bool) (k:Nat) (h:k < (zk x).length):((zk x).take (k+1)).any f=(((zk x).take k).any f||f (zk x)[k]):=by
 rw [List.take_succ_eq_append_getElem h,List.any_append];simp
theorem rdK_all {x:Ins} (hop:¬(x.op < 1∨13 < x.op)):rdK x (knl x.op).length=fun r:Nat=>(use x).any (fun u=>u == (r:Int)):=by
 funext r;unfold rdK;rw [List.take_of_length_le (by rw [zk_len];omega)];exact knl_reads hop r
theorem wrK_all {x:Ins} (hop:¬(x.op < 1∨13 < x.op)):wrK x (knl x.op).length=fun r:Nat=>wrt x == (r:Int):=by
 funext r;unfold wrK;rw [List.take_of_length_le (by rw [zk_len];omega)];exact knl_writes hop r (by omega)
theorem l12Regs_any (x:Ins) (w:World) (hop:¬(x.op < 1∨13 < x.op)) (hin:∀ p ∈ zk x,p.1≠48→0≤p.2∧p.2 < 14) :
  Calls Tryz.prog 120 #[.agg #[.int .i64 x.op,.int .i64 x.a,.int .i64 x.b,.int .i64 x.c,.int .i64 x.d]] w fun e w'=>∃ g g2,e=.returned (.tuple #[.slice (some ⟨g,0,none⟩) 14 14,.slice (some ⟨g2,0,none⟩) 14 14]) ∧
   w'.ownsRow w.heap.size 4 1 (.slice (some ⟨g,0,none⟩) 14 14) 14 (bools (tab (fun r:Nat=>(use x).any (fun u=>u == (r:Int)))))∧w'.ownsRow w.heap.size 4 1 (.slice (some ⟨g2,0,none⟩) 14 14) 14 (bools (tab (fun r:Nat=>wrt x == (r:Int))))∧¬g=g2∧Below w.heap.size w w':=by
 have hR:=rdK_all hop;have hW:=wrK_all hop;have n0:=Hi (Ai hR hW);clear hR hW;have w0:=fun u=>mk_bool14 u
 obtain ⟨B,hB⟩:∃ B:Obj,B=.cells #[.int .i64 x.op,.int .i64 x.a,.int .i64 x.b,.int .i64 x.c,.int .i64 x.d] 62:=⟨_,rfl⟩;have o1:=own_made (w.alloc B) (.bool false) 14 4 (by unfold maxLen;omega);have o2:=own_made ((w.alloc B).alloc (.cells (madeCells #[.bool false] 14) 4)) (.bool false) 14 4 (by unfold maxLen;omega);have h0:=bal (bal (bal (Bs w) B) (.cells (madeCells #[.bool false] 14) 4)) (.cells (madeCells #[.bool false] 14) 4);replace o1:=Ob o1 (bal (Bs _) (.cells (madeCells #[.bool false] 14) 4));rw [← bools_replicate,tab_false] at o1 o2;simp only [Sa] at o1 o2;subst hB;obtain ⟨w3,g0⟩:∃ X,X=((w.alloc (.cells #[.int .i64 x.op,.int .i64 x.a,.int .i64 x.b,.int .i64 x.c,.int .i64 x.d] 62)).alloc (.cells (madeCells #[.bool false] 14) 4)).alloc (.cells (madeCells #[.bool false] 14) 4):=⟨_,rfl⟩;have d0:w3.cell? ⟨w.heap.size,0,none⟩=some (.int .i64 x.op):=by rw [g0];exact Ac (Ac (Wc rfl rfl) _) _
 have d1:w3.cell? ⟨w.heap.size,1,none⟩=some (.int .i64 x.a):=by rw [g0];exact Ac (Ac (Wc rfl rfl) _) _
 have d2:w3.cell? ⟨w.heap.size,2,none⟩=some (.int .i64 x.b):=by rw [g0];exact Ac (Ac (Wc rfl rfl) _) _
 have d3:w3.cell? ⟨w.heap.size,3,none⟩=some (.int .i64 x.c):=by rw [g0];exact Ac (Ac (Wc rfl rfl) _) _
 have d4:w3.cell? ⟨w.heap.size,4,none⟩=some (.int .i64 x.d):=by rw [g0];exact Ac (Ac (Wc rfl rfl) _) _
 have q0:w3.heap.size=w.heap.size+1+1+1:=by rw [g0];simp
 rw [← g0] at o1 o2 h0;have y0:=Hi q0;have o0:=Hi g0;have hz3':w.heap.size+3≤w3.heap.size:=by omega
 clear g0 q0;have k0:=Lc d0;go_enter Tryz.func120,Tryz.ntmps120
 go_upto_region 3 with (fail)
 rw [← o0.out];clear o0 w0;go_wp2_with fail
 refine (l12Kind_any x.op _ hop).mono ?_;rintro e w4 ⟨rfl,hb⟩;have c1:=hb.size;replace o1:=Ob o1 hb;replace o2:=Ob o2 hb;replace h0:=btr h0 hb;replace d0:=Kc hb d0;replace d1:=Kc hb d1;replace d2:=Kc hb d2;replace d3:=Kc hb d3;replace d4:=Kc hb d4;clear hb;have k0:=Lc d0;obtain ⟨S,hS⟩:∃ S:ByteArray,S=⟨(knl x.op).toArray⟩:=⟨_,rfl⟩;rw [← hS];have HZ:Hid (S.size=(knl x.op).length):=Hi (by rw [hS];simp [ByteArray.size]);have HG:Hid (∀ (k:Nat) (h:k < (knl x.op).length) (h':k < S.size),S[k]'h'=(knl x.op)[k]):=Hi (by subst hS;exact str_get _);clear hS;go_wp2_with fail
 refine (l6Parts_any x _).mono ?_;rintro e w5 ⟨gp,rfl,hp,hb⟩;have e1:=hb.size;replace o1:=Ob o1 hb;replace o2:=Ob o2 hb;replace h0:=btr h0 hb;have b1:=hp.lt gp rfl;clear hb d0 d1 d2 d3 d4 k0;have HI:=Hi hin;have HL:=Hi (Ai (knl_len x.op) (Ai (zk_len x) (knl_kinds x.op)));have HP:=Hi hop;clear hin hop;go_wp2_with fail
 go_loopw [8] (fun t wr=>∃ k:Nat,k≤(knl x.op).length∧t=.int .i64 k∧wr.ownsRow (w.heap.size+1) 4 1 (.slice (some ⟨w.heap.size+1,0,none⟩) 14 14) 14 (bools (tab (rdK x k)))∧wr.ownsRow (w.heap.size+1+1) 4 1 (.slice (some ⟨w.heap.size+1+1,0,none⟩) 14 14) 14 (bools (tab (wrK x k)))∧Chg (fun q=>q=w.heap.size+1∨q=w.heap.size+1+1) w5 wr) (fun t _=>(knl x.op).length-(intOf t).toNat)
 case atStart=>exact ⟨0,Nat.zero_le _,rfl,by rw [show tab (rdK x 0)=tab (fun _=>false) from tab_congr (fun q _=>by simp [rdK])];exact o1,by rw [show tab (wrK x 0)=tab (fun _=>false) from tab_congr (fun q _=>by simp [wrK])];exact o2,Chg.refl _ _⟩
 case round =>
  obtain ⟨k,hk,rfl,h1,h2,hC⟩:=hrel;have f1:=hC.size;clear o1 o2;have z0:k≤4:=by have:=HL.out.1;omega
  by_cases hlt:k < (knl x.op).length
  ·have x0:=Ow hp hC (fun q hq h=>by have e:gp=q:=Si hq;omega);have p0:k < (flds x).length:=by have:=HL.out.1;simp [flds];omega
   have c0:=x0.cellAt k (by have:=HL.out.1;omega);rw [List.getElem?_eq_getElem (by rw [ints_length];exact p0),ints_get] at c0;have hk4':k < 4:=by have:=HL.out.1;omega
   have l0:k < (zk x).length:=by rw [HL.out.2.1];exact hlt
   have j0:=zk_get x k l0 hlt p0;have hr:=fun q=>zk_succ x (fun p=>(p.1 == 49||p.1 == 51)&&p.2 == (Nat.cast q:Int)) k l0
   have hw:=fun q=>zk_succ x (fun p=>(p.1 == 50||p.1 == 51)&&p.2 == (Nat.cast q:Int)) k l0
   have b0:=HI.out _ (List.getElem_mem l0);have hS:∀ h',S[k]'h'=(knl x.op)[k]:=HG.out k hlt;have a1:k < S.size:=by rw [HZ.out];exact hlt
   have m0:(k:Int) < (S.size:Int):=by omega
   have u0:decide (S.size≤k)=false:=decide_eq_false (by omega);have v0:¬((S.size:Int)≤(k:Int)):=by omega
   have t0:=HL.out.2.2 _ (List.getElem_mem hlt);rw [j0] at hr hw b0;generalize (knl x.op)[k]=kd at *
   generalize (flds x)[k]=fd at *
   simp only at hr hw b0
   clear j0 hp;rcases t0 with rfl | rfl | rfl | rfl
   ·replace h1:=(show tab (rdK x k)=tab (rdK x (k+1)) from tab_congr (fun q hq=>by unfold rdK;rw [hr q];simp)) ▸ h1;replace h2:=(show tab (wrK x k)=tab (wrK x (k+1)) from tab_congr (fun q hq=>by unfold wrK;rw [hw q];simp)) ▸ h2;clear hr hw b0;go_wp2
    go_roundw
    case rel=>exact ⟨k+1,by omega,by go_num,h1,h2,hC⟩
    case measure=>simp [intOf];omega
   ·obtain ⟨nf,rfl⟩:∃ nf:Nat,fd=(nf:Int):=⟨fd.toNat,by have:=b0 (by decide);omega⟩;have a0:nf < 14:=by have:=b0 (by decide);omega
    have e0:=own_tab_at h1 nf a0;have r0:=h1.frozenAt nf
    replace h1:=own_tab_set h1 nf true (G:=rdK x (k+1)) (fun q hq=>by
     unfold rdK;rw [hr q]
     by_cases e:q=nf
     ·subst e;simp
     rw [if_neg e];have e2:((nf:Int) == (q:Int))=false:=by simp;omega
     simp only [e2];simp)
    replace h2:=Oe h2 (w.heap.size+1) nf (fun h=>by have e:w.heap.size+1+1=w.heap.size+1:=Si h;omega) (.bool true);have i0:=Nn (b:=w.heap.size+1) (j:=nf) c0 (.bool true);replace hC:=hC.setCell (w.heap.size+1) nf (.bool true) (fun _=>Or.inl rfl);generalize rdK x k nf=y1 at e0
    replace h2:=(show tab (wrK x k)=tab (wrK x (k+1)) from tab_congr (fun q hq=>by unfold wrK;rw [hw q];simp)) ▸ h2;clear hr hw b0;go_wp2
    go_roundw
    case rel=>exact ⟨k+1,by omega,by go_num,h1,h2,hC⟩
    case measure=>simp [intOf];omega
   ·obtain ⟨nf,rfl⟩:∃ nf:Nat,fd=(nf:Int):=⟨fd.toNat,by have:=b0 (by decide);omega⟩;have a0:nf < 14:=by have:=b0 (by decide);omega
    replace h1:=(show tab (rdK x k)=tab (rdK x (k+1)) from tab_congr (fun q hq=>by unfold rdK;rw [hr q];simp)) ▸ h1;have f0:=own_tab_at h2 nf a0;have s0:=h2.frozenAt nf
    replace h2:=own_tab_set h2 nf true (G:=wrK x (k+1)) (fun q hq=>by
     unfold wrK;rw [hw q]
     by_cases e:q=nf
     ·subst e;simp
     rw [if_neg e];have e2:((nf:Int) == (q:Int))=false:=by simp;omega
     simp only [e2];simp)
    replace h1:=Oe h1 (w.heap.size+1+1) nf (fun h=>by have e:w.heap.size+1=w.heap.size+1+1:=Si h;omega) (.bool true);replace hC:=hC.setCell (w.heap.size+1+1) nf (.bool true) (fun _=>Or.inr rfl);generalize wrK x k nf=y2 at f0
    clear hr hw b0;go_wp2
    go_roundw
    case rel=>exact ⟨k+1,by omega,by go_num,h1,h2,hC⟩
    case measure=>simp [intOf];omega
   obtain ⟨nf,rfl⟩:∃ nf:Nat,fd=(nf:Int):=⟨fd.toNat,by have:=b0 (by decide);omega⟩;have a0:nf < 14:=by have:=b0 (by decide);omega
   have e0:=own_tab_at h1 nf a0;have r0:=h1.frozenAt nf
   replace h1:=own_tab_set h1 nf true (G:=rdK x (k+1)) (fun q hq=>by
    unfold rdK;rw [hr q]
    by_cases e:q=nf
    ·subst e;simp
    rw [if_neg e];have e2:((nf:Int) == (q:Int))=false:=by simp;omega
    simp only [e2];simp)
   replace h2:=Oe h2 (w.heap.size+1) nf (fun h=>by have e:w.heap.size+1+1=w.heap.size+1:=Si h;omega) (.bool true);have i0:=Nn (b:=w.heap.size+1) (j:=nf) c0 (.bool true);replace hC:=hC.setCell (w.heap.size+1) nf (.bool true) (fun _=>Or.inl rfl);generalize rdK x k nf=y1 at e0
   have f0:=own_tab_at h2 nf a0;have s0:=h2.frozenAt nf
   replace h2:=own_tab_set h2 nf true (G:=wrK x (k+1)) (fun q hq=>by
    unfold wrK;rw [hw q]
    by_cases e:q=nf
    ·subst e;simp
    rw [if_neg e];have e2:((nf:Int) == (q:Int))=false:=by simp;omega
    simp only [e2];simp)
   replace h1:=Oe h1 (w.heap.size+1+1) nf (fun h=>by have e:w.heap.size+1=w.heap.size+1+1:=Si h;omega) (.bool true);replace hC:=hC.setCell (w.heap.size+1+1) nf (.bool true) (fun _=>Or.inr rfl);generalize wrK x k nf=y2 at f0
   clear hr hw b0;go_wp2
   go_roundw
   case rel=>exact ⟨k+1,by omega,by go_num,h1,h2,hC⟩
   case measure=>simp [intOf];omega
  have e:k=(knl x.op).length:=by omega
  subst e;have m0:¬(((knl x.op).length:Int) < (S.size:Int)):=by rw [HZ.out];omega
  rw [n0.out.1] at h1;rw [n0.out.2] at h2;go_wp2
  exact bodyPost_ret (v:=.tuple #[.slice (some ⟨w.heap.size+1,0,none⟩) 14 14,.slice (some ⟨w.heap.size+1+1,0,none⟩) 14 14]) (by simp [results,Tryz.results120,go_sem]) rfl (by exact ⟨_,_,rfl,Om h1 (by omega),Om h2 (by omega),by omega,h0.trans (hC.below w.heap.size h0.size (fun q hq h=>by omega))⟩)
theorem l12Before_any (x:Ins) (v:Value) (A:Nat→Bool) (w:World) (hop:¬(x.op < 1∨13 < x.op)) (hin:∀ p ∈ zk x,p.1≠48→0≤p.2∧p.2 < 14) (hv:Reads w 1 v 14 (bools (tab A))) :
  Calls Tryz.prog 93 #[.agg #[.int .i64 x.op,.int .i64 x.a,.int .i64 x.b,.int .i64 x.c,.int .i64 x.d],v] w fun e w'=>∃ g c,e=.returned (.slice (some ⟨g,0,none⟩) 14 c)∧w'.ownsRow w.heap.size 4 1 (.slice (some ⟨g,0,none⟩) 14 c) 14 (bools (tab (befF x A)))∧Below w.heap.size w w':=by
 have d0:=bal (Bs w) (.cells #[.int .i64 x.op,.int .i64 x.a,.int .i64 x.b,.int .i64 x.c,.int .i64 x.d] 62);obtain ⟨_,_,a,cp,b,j0,rfl,h0,ha,e0⟩:=hv;obtain ⟨rfl,l0⟩:=ha (by omega)
 have f0:∀ r,r < 14→w.cell? ⟨b,j0+r,none⟩=some (.bool (A r)):=fun r hr=>by
  have h:=e0 r (by rw [bools_length,tab_len];exact hr);rw [bools_get,tab_get] at h;exact h
 have HE:=Hi f0;clear f0 e0 ha;go_enter Tryz.func93,Tryz.ntmps93
 go_wp2_with fail
 refine (l12Regs_any x _ hop hin).mono ?_;rintro e w1 ⟨g1,g2,rfl,o1,o2,k0,hb⟩;have i1:=o1.lt g1 rfl;have i2:=o2.lt g2 rfl;simp only [Sa] at i1 i2;have hB:=btr d0 hb;clear hb d0;have b0:=own_lit w1 #[] 0 4 rfl (by omega);go_wp2_with fail
 go_loopw [7,8] (fun o t wr=>∃ r:Nat,r≤14∧t=.int .i64 r∧∃ g c,o=.slice (some ⟨g,0,none⟩) r c∧wr.ownsRow w1.heap.size 4 1 (.slice (some ⟨g,0,none⟩) r c) r (bools ((List.range r).map (befF x A)))∧Below w1.heap.size w1 wr) (fun _ t _=>14-(intOf t).toNat)
 case atStart=>exact ⟨0,Nat.zero_le _,rfl,_,_,rfl,by simpa [bools] using b0,bal (Bs w1) _⟩
 case round =>
  obtain ⟨r,hr,rfl,g,cc,rfl,ho,a0⟩:=hrel;have i0:=a0.size;have m0:=ho.lt g rfl;by_cases hlr:r < 14
  ·have c1:=Kc a0 (own_tab_at o1 r hlr);have c2:=Kc a0 (own_tab_at o2 r hlr);have c3:=Kc (btr hB a0) (HE.out r hlr);have hF:Hid (((use x).any (fun u=>u == (r:Int))||(A r&&!(wrt x == (r:Int))))=befF x A r):=Hi rfl;have hS:Hid (∀ bb:Bool,bb=befF x A r→bools ((List.range r).map (befF x A))++[.bool bb]=bools ((List.range (r+1)).map (befF x A))):=Hi (fun bb e=>by subst e;rw [List.range_succ,List.map_append];simp [bools]);generalize ((use x).any (fun u=>u == (r:Int)))=y1 at *
   generalize (wrt x == (r:Int))=y2 at *
   generalize A r=y3 at *
   clear o1 o2 b0 HE;have k1:=Lc c1;cases y1 <;> cases y3 <;> cases y2
   all_goals
    (go_wp2_with (at_builtin;refine wpList_ap tBools rfl _ _ rfl w1.heap.size _ r _ rfl ho [.bool _] rfl rfl (by intro u hu;simp at hu;subst hu;rfl) (by omega) (by omega) ?_))
    intro g' c' wx ho' hc' hg';have g0:=a0.trans (hc'.below w1.heap.size i0 (fun q hq h=>by have e:g=q:=Si h;omega));have c0:=hF.out;simp only [Bool.true_or,Bool.false_or,Bool.true_and,Bool.false_and,Bool.not_true,Bool.not_false] at c0;rw [hS.out _ c0] at ho';clear c0 hF hS ho hc' hg' a0;go_wp2
    go_roundw
    case rel=>exact ⟨r+1,by omega,by go_num,_,_,rfl,ho',g0⟩
    case measure=>simp [intOf];omega
  have e:r=14:=by omega
  subst e;go_wp2
  go_ret
  exact ⟨_,_,rfl,Om ho (by have:=hB.size;omega),btr hB a0⟩
theorem l12Live_any (va vb vc:Value) (c:Cd) (w:World) (hr:ReadsC w va vb vc c) (hok:codeOk c=true) :
  Calls Tryz.prog 58 #[.agg #[va,vb,vc]] w fun e w'=>∃ u us,e=.returned u∧Own2B w' w.heap.size u us (liveOf c)∧Below w.heap.size w w':=by
 obtain ⟨a0,c0,a1,c1,a2,c2,rfl,rfl,rfl⟩:=hr.shape;obtain ⟨f4,g4⟩:=codeOk_len hok;have k3:=codeOk_all hok;have x2:=fun u=>mk_bool14 u
 obtain ⟨w1,q0⟩:∃ X,X=w.alloc (.cells #[.slice a0 c.vars.length c0,.slice a1 c.arrays.length c1,.slice a2 c.list.length c2] 26):=⟨_,rfl⟩;have b0:w1.cell? ⟨w.heap.size,0,none⟩=some (.slice a0 c.vars.length c0):=by rw [q0];exact Wc rfl rfl
 have b1:w1.cell? ⟨w.heap.size,1,none⟩=some (.slice a1 c.arrays.length c1):=by rw [q0];exact Wc rfl rfl
 have b2:w1.cell? ⟨w.heap.size,2,none⟩=some (.slice a2 c.list.length c2):=by rw [q0];exact Wc rfl rfl
 have l1:Below w.heap.size w w1:=by rw [q0];exact bal (Bs w) _
 have f3:w1.heap.size=w.heap.size+1:=by rw [q0];simp
 have k2:=Lc b2;have HW:=Hi q0;have HZ:=Hi f3;clear q0 f3;have z3:=Hi (fun W (hW:Below w1.heap.size w1 W)=>hr.below (btr l1 hW));have p3:=hr.l;obtain ⟨_,hn',aa,cap',b',h0,d3,n3,ha,q2⟩:=p3;simp only [Value.slice.injEq,true_and] at d3;obtain ⟨rfl,rfl⟩:=d3;obtain ⟨rfl,a4⟩:=ha (by omega);have n2:=Hi (reads_Instr q2);have i2:=Hi (fun (v:Value) (L:List (List Bool)) (i:Nat) (hi:i < c.list.length) W (hW:Below w1.heap.size w1 W) (hv:Reads2 bools W v L) (hL:L.length=c.list.length) (hrow:∀ k (h:k < L.length),L[k].length=14)=>l12After_any _ _ _ v c L i W (hr.below (btr l1 hW)) hv hL hrow hok hi);have l2:=Hi (fun (v:Value) (A:Nat→Bool) (i:Nat) (hi:i < c.list.length) W (hv:Reads W 1 v 14 (bools (tab A)))=>l12Before_any c.list[i] v A W (by have h:=insOk_op (codeOk_all hok i hi);omega) (fun p hp=>knl_in (codeOk_all hok i hi) p hp) hv);have i1:=own_lit w1 #[] 0 30 rfl (by omega);have m0:Own2B (w1.alloc (.cells #[] 30)) w1.heap.size (.slice (some ⟨w1.heap.size,0,none⟩) 0 0) [] (List.replicate 0 (tab (fun _=>false))):=⟨rfl,i1,fun k u r h=>by simp at h,fun j k u u' h=>by simp at h⟩;clear hr q2 ha i1;go_enter Tryz.func58,Tryz.ntmps58
 go_upto_region 1 with (fail)
 rw [← HW.out];clear HW;go_wp2_with fail
 go_loopw [3,4] (fun lv t wr=>∃ k:Nat,k≤c.list.length∧t=.int .i64 k∧(∃ us g cp,lv=.slice (some ⟨g,0,none⟩) k cp∧Own2B wr w1.heap.size (.slice (some ⟨g,0,none⟩) k cp) us (List.replicate k (tab (fun _=>false))))∧Below w1.heap.size w1 wr) (fun _ t _=>c.list.length-(intOf t).toNat)
 case atStart=>exact ⟨0,Nat.zero_le _,rfl,⟨_,_,_,rfl,m0⟩,bal (Bs w1) _⟩
 case round =>
  obtain ⟨k,hk,rfl,⟨us,g,cp,rfl,ho⟩,f0⟩:=hrel;clear m0;have c2':=Kc f0 b2;have x3:=Lc c2';have b4:=f0.size;by_cases q1:k < c.list.length
  ·have o1:=own_made wr (.bool false) 14 4 (by unfold maxLen;omega);rw [← bools_replicate,tab_false] at o1;have y2:=ho.below (bal (Bs wr) (.cells (madeCells #[.bool false] 14) 4));have z0:=ho.lt;have p0:=reads_new (wr.alloc (.cells (madeCells #[.bool false] 14) 4)) [.slice (some ⟨wr.heap.size,0,none⟩) 14 14] 30 1 rfl;simp only [Sa] at p0;have x1:=y2.below (bal (Bs _) (.cells #[.slice (some ⟨wr.heap.size,0,none⟩) 14 14] 30));have o3:=Ob o1 (bal (Bs _) (.cells #[.slice (some ⟨wr.heap.size,0,none⟩) 14 14] 30));have f1:=x1.outAt;go_wp2_with (at_builtin;refine wpList_aps tBoolSS rfl _ _ rfl w1.heap.size _ k _ rfl f1 _ 1 [.slice (some ⟨wr.heap.size,0,none⟩) 14 14] rfl p0 (by intro u hu;simp at hu;subst hu;rfl) (by omega) (by simp;omega) ?_)
   intro v' wx ho' hc' hg' _;obtain ⟨g',cp',rfl⟩:=own_pos ho' (by omega);have hp:=x1.push (u:=.slice (some ⟨wr.heap.size,0,none⟩) 14 14) (r:=tab (fun _=>false)) (by rw [List.length_replicate];exact ho') hc' (by rw [tab_len];exact Om o3 (by omega)) (fun q h h2=>by have e:wr.heap.size=q:=Si h;have:=z0 q h2;omega) (by decide);rw [← List.replicate_succ'] at hp;have l3:=(bal (bal f0 (.cells (madeCells #[.bool false] 14) 4)) (.cells #[.slice (some ⟨wr.heap.size,0,none⟩) 14 14] 30)).trans (hc'.below w1.heap.size (by simp;omega) (fun q hq h=>by have:=z0 q (Or.inl h);omega));clear ho o1 o3 y2 x1 p0 f0 f1 ho' hc' hg';go_wp2
   go_roundw
   case rel=>exact ⟨k+1,by omega,by go_num,⟨_,_,_,rfl,hp⟩,l3⟩
   case measure=>simp [intOf];omega
  have e:k=c.list.length:=by omega
  subst e;obtain ⟨w2,rfl⟩:∃ X,X=wr:=⟨_,rfl⟩;rw [show List.replicate c.list.length (tab (fun _=>false))=zeroL c from rfl] at ho;have r2:=ho.lt g (Or.inl rfl);have q3:=r2.1;clear q1 hk r2;go_wp2_with fail
  go_loopg [5] (28*c.list.length+1) (fun gk ch wr=>∃ us L,Own2B wr w1.heap.size (.slice (some ⟨g,0,none⟩) c.list.length cp) us L∧Hid (InvL c L)∧∃ (cb:Bool) (m:Nat),ch=.bool cb∧Hid (L=swps c m∧(cb=true→m+offs L≤14*c.list.length)∧(cb=false→swp c L=L∧m≤14*c.list.length)∧gk=2*offs L+(if cb then 1 else 0))∧Below w1.heap.size w1 wr)
  case atStart=>exact ⟨_,_,ho,Hi (zero_inv c),true,0,rfl,Hi ⟨rfl,fun _=>by rw [zero_offs];omega,fun h=>(by cases h),by rw [zero_offs];simp;omega⟩,f0⟩
  case round =>
   obtain ⟨us,L,y1,HI,cb,m,rfl,HM,r1⟩:=hrel;clear ho f0
   cases cb with
   | false =>
    obtain ⟨v1,_,u2,_⟩:=HM.out;obtain ⟨v2,u3⟩:=u2 (by trivial);have x0:L=liveOf c:=by rw [v1];exact liveOf_of (by rw [← v1];exact v2) u3
    have HF:=Hi x0;clear HM v1 u2 v2 x0;go_wp2_with fail
    go_ret
    exact ⟨_,_,rfl,by rw [← HF.out];exact y1.mono (by omega),btr l1 r1⟩
   | true =>
    have c2o:=Kc r1 b2;have kc2o:=Lc c2o;go_wp2_with fail
    clear c2o kc2o;go_loopw [5,6] (fun ch it wx=>∃ k:Nat,k≤c.list.length∧it=.int .i64 ((k:Int)-1)∧∃ us' M,Own2B wx w1.heap.size (.slice (some ⟨g,0,none⟩) c.list.length cp) us' M∧Hid (InvL c M)∧∃ cb:Bool,ch=.bool cb∧Hid (swpTo c k M=swp c L∧(cb=false→M=L)∧(cb=true→offs M < offs L))∧Below w1.heap.size w1 wx) (fun _ it _=>(intOf it+1).toNat)
    case atStart=>exact ⟨c.list.length,Lr,rfl,_,_,y1,HI,false,rfl,Hi ⟨rfl,fun _=>rfl,fun h=>by cases h⟩,r1⟩
    case round =>
     obtain ⟨k,hk,p1,us',M,t0,HJ,cb,rfl,HS,l0⟩:=hrel;clear y1;rcases Nat.eq_zero_or_pos k with rfl | hpos
     ·rw [show ((0:Nat):Int)-1=-1 from rfl] at p1;subst p1;obtain ⟨s1,s2,s3⟩:=HS.out;obtain ⟨m1,m2,_,m4⟩:=HM.out;have m5:=m2 (by trivial);have k0:M=swp c L:=s1;clear s1 HS HM
      cases cb with
      | false =>
       have e:=s2 (by trivial);subst e;have HK:=Hi (Ai m1 (Ai m5 (Ai k0 m4)));clear s2 s3 k0 m1 m2 m4 m5;go_wp2_with fail
       go_roundg (2*offs M)
       case measure=>have:=HK.out.2.2.2;simp at this;omega
       case rel=>exact ⟨_,_,t0,HJ,false,m,rfl,Hi ⟨HK.out.1,fun h=>(by cases h),fun _=>⟨HK.out.2.2.1.symm,by have:=HK.out.2.1;omega⟩,by simp⟩,l0⟩
      | true =>
       have q1:=s3 (by trivial);have HK:=Hi (Ai m1 (Ai m5 (Ai k0 (Ai m4 q1))));clear s2 s3 k0 m1 m2 m4 m5 q1;go_wp2_with fail
       go_roundg (2*offs M+1)
       case measure=>have h1:=HK.out.2.2.2.1;have h2:=HK.out.2.2.2.2;simp at h1;omega
       case rel=>exact ⟨_,_,t0,HJ,true,m+1,rfl,Hi ⟨by rw [swps,← HK.out.1];exact HK.out.2.2.1,fun _=>by have h1:=HK.out.2.1;have h2:=HK.out.2.2.2.2;omega,fun h=>(by cases h),by simp⟩,l0⟩
     obtain ⟨j,rfl⟩:∃ j,k=j+1:=⟨k-1,by omega⟩;rw [show ((j+1:Nat):Int)-1=(j:Int) from by omega] at p1;subst p1;have hj:j < c.list.length:=by omega
     have t2:=HJ.out.len;have s0:j < M.length:=by omega
     have d0:=HJ.out.rows;have a3:=t0.reads (by omega) (fun k r hkr=>by obtain ⟨h1,rfl⟩:=List.getElem?_eq_some_iff.1 hkr;rw [d0 k h1];omega);have t3:M[j].length≤14:=by rw [d0 j s0];omega
     have e0:=n2.out j hj;have g2:=Hi (fun v=>i2.out v M j hj);have j2:=Hi (fun (v:Value) (W:World) (hv:Reads W 1 v 14 (bools (tab (aftF M (flw c.list[j] j)))))=>l2.out v (aftF M (flw c.list[j] j)) j hj W hv);have w0:Hid (befAt c M j=tab (befF c.list[j] (aftF M (flw c.list[j] j)))):=Hi (befAt_at c M j hj);have p2:Hid (aft M (nxt c.list[j] j)=tab (aftF M (flw c.list[j] j))):=Hi (by rw [← aft_same];rfl);have i3:=Hi t2;have j3:=Hi d0;obtain ⟨e0,e1,e2,e3,e4⟩:=e0;have g0:=btr l1 l0;replace e0:=Kc g0 e0;replace e1:=Kc g0 e1;replace e2:=Kc g0 e2;replace e3:=Kc g0 e3;replace e4:=Kc g0 e4;have c0':=Kc l0 b0;have c1':=Kc l0 b1;have c2':=Kc l0 b2;have x3:=Lc c2';have y3:=Lc e0;have hq:(j:Int) < (c.list.length:Int):=by omega
     have f2:=Hi (fun W (hW:Below wr.heap.size wr W)=>by
      have h:=g2.out _ W (btr l0 hW) (a3.below hW) i3.out j3.out;rw [p2.out] at h;exact h)
     clear hpos a3 t2 d0 i2 l2 g2 n2 g0;generalize c.list[j]=x at *
     have k1:=Hi (show ∀ W',Below wr.heap.size wr W'→(fun W'=>W'.cell? ⟨b',h0+j*5,none⟩=some (.int .i64 x.op)∧W'.cell? ⟨b',h0+j*5+1,none⟩=some (.int .i64 x.a)∧W'.cell? ⟨b',h0+j*5+2,none⟩=some (.int .i64 x.b)∧W'.cell? ⟨b',h0+j*5+3,none⟩=some (.int .i64 x.c)∧W'.cell? ⟨b',h0+j*5+4,none⟩=some (.int .i64 x.d)∧W'.cell? ⟨w.heap.size,0,none⟩=some (.slice a0 c.vars.length c0)∧W'.cell? ⟨w.heap.size,1,none⟩=some (.slice a1 c.arrays.length c1)∧W'.cell? ⟨w.heap.size,2,none⟩=some (.slice (some ⟨b',h0,none⟩) c.list.length c2)) W' from fun W' h=>⟨Kc h e0,Kc h e1,Kc h e2,Kc h e3,Kc h e4,Kc h c0',Kc h c1',Kc h c2'⟩);go_upto_region 12 with (fail)
     have D:=Bd (Bs wr);go_cut [7] (fun s wx=>∃ g3 c3,s=.slice (some ⟨g3,0,none⟩) 14 c3∧wx.ownsRow wr.heap.size 4 1 (.slice (some ⟨g3,0,none⟩) 14 c3) 14 (bools (befAt c M j))∧Below wr.heap.size wr wx)
     case first =>
      go_region_held3 (fun W'=>W'.cell? ⟨b',h0+j*5,none⟩=some (.int .i64 x.op)∧W'.cell? ⟨b',h0+j*5+1,none⟩=some (.int .i64 x.a)∧W'.cell? ⟨b',h0+j*5+2,none⟩=some (.int .i64 x.b)∧W'.cell? ⟨b',h0+j*5+3,none⟩=some (.int .i64 x.c)∧W'.cell? ⟨b',h0+j*5+4,none⟩=some (.int .i64 x.d)∧W'.cell? ⟨w.heap.size,0,none⟩=some (.slice a0 c.vars.length c0)∧W'.cell? ⟨w.heap.size,1,none⟩=some (.slice a1 c.arrays.length c1)∧W'.cell? ⟨w.heap.size,2,none⟩=some (.slice (some ⟨b',h0,none⟩) c.list.length c2)) (first | exact k1.out _ (btr (btr D ba) bb) | exact k1.out _ (btr D ba) | exact k1.out _ D) (first | (go_at_call 60;refine (f2.out _ D).mono ?_;rintro e wa ⟨ga,rfl,oa,ba⟩) | (go_at_call 93;refine (j2.out _ _ (Ro oa (by omega))).mono ?_;rintro e wb ⟨gb,cb',rfl,ob,bb⟩))
      all_goals (go_wp2_with fail;go_meet;exact ⟨_,_,rfl,by rw [w0.out];exact Om ob (by have:=D.size;have:=ba.size;omega),btr (btr D ba) bb⟩)
     obtain ⟨w3,rfl⟩:∃ W,W=wc:=⟨_,rfl⟩;obtain ⟨g3,c3,rfl,o3,n1⟩:=hcut;clear e0 e1 e2 e3 e4 y3 D f2 p2 w0 k1;have h4:=n1.size;have j4:=l0.size;have d4:=o3.lt g3 rfl;have j0:=t0.below n1;have r3:=t0.lt;have t1:=btr l0 n1;obtain ⟨u,hu,z1⟩:=j0.rowAt j s0;have i0:w3.cell? ⟨g,j,none⟩=some u:=by rw [j0.outAt.cellAt j (by omega)];exact hu
     have hf:=j0.outAt.frozenAt j;have b3:=Ro z1 (by omega);have z2:=Ro o3 (by omega);have u0:Hid ((befAt c M j).length=14):=Hi (befAt_len hj);obtain ⟨pa,pc,rfl⟩:=Oh z1;have kc:=Lc i0;have k4:=Lc (Kc n1 c2');have o2:=Hi (fun h=>l12Same_any (.slice (some ⟨g3,0,none⟩) 14 c3) (.slice pa M[j].length pc) (befAt c M j) M[j] w3 h b3);have v0:=Hi (o2.out (by rw [u0.out];exact z2));clear j2 b3 z2 z1 o2;go_wp2_with fail
     refine v0.out.mono ?_;rintro e w4 ⟨rfl,r0⟩;have i4:=r0.size;have n0:=btr t1 r0;have o0:=j0.below r0;have u1:=Kc r0 i0;have c4:=Kf r0 kc hf;have o4:=Ob o3 r0;clear v0 t0 j0 i0 hf;by_cases heq:befAt c M j=M[j]
     ·rw [decide_eq_true heq];have g1:=set_self s0 heq;have k0:=swpTo_step c j M;rw [g1] at k0;have j1:=Hi (Ai (k0.symm.trans HS.out.1) HS.out.2);clear heq g1 k0 HS o3 o4;go_wp2
      go_roundw
      case rel=>exact ⟨j,by omega,by go_num,_,_,o0,HJ,cb,rfl,Hi j1.out,n0⟩
      case measure=>simp [intOf]
     rw [decide_eq_false heq];have d2:=(up_offs HJ.out j s0).2 heq;have y0:=up_inv HJ.out j s0;have k0:=swpTo_step c j M
     have d1:offs (M.set j (befAt c M j)) < offs L:=by
      cases cb with
      | false=>rw [← HS.out.2.1 (by trivial)];exact d2
      | true=>exact Nat.lt_trans d2 (HS.out.2.2 (by trivial))
     have j1:=Hi (Ai (k0.symm.trans HS.out.1) d1);have h3:=Hi y0;have v3:=o0.put (r:=befAt c M j) (u:=.slice (some ⟨g3,0,none⟩) 14 c3) rfl s0 (by rw [u0.out];exact Om o4 (by omega)) (fun q h h2=>by have e:g3=q:=Si h;have:=r3 q h2;omega) (by decide);have m3:=bst n0 (g) j (by omega) (.slice (some ⟨g3,0,none⟩) 14 c3);clear heq d2 y0 k0 d1 HS o3 o4 o0 HJ n0;go_wp2
     go_roundw
     case rel=>exact ⟨j,by omega,by go_num,_,_,v3,h3,true,rfl,Hi ⟨j1.out.1,fun h=>(by cases h),fun _=>j1.out.2⟩,m3⟩
     case measure=>simp [intOf]
end Go.Proofs.YtnpidfbcbmeijaaGreat
