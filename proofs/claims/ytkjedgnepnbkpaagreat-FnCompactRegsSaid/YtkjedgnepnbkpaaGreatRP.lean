/-
 Parts of the proofs of the laws FnCompactRegs,FnFenceCode,FnRunTimeSteps.
-/
import Derived.Test.YtkjedgnepnbkpaaGreatRO
set_option maxHeartbeats 12800000
set_option maxRecDepth 100000
set_option linter.all false
namespace Go.Proofs.YtkjedgnepnbkpaaGreat
open Go.RowKit
def cntF (F:Nat→Bool):Nat:=(tab F).count true
theorem cntF_le (F:Nat→Bool):cntF F≤14:=by unfold cntF;exact Nat.le_trans List.count_le_length (by rw [tab_len];exact Nat.le_refl _)
theorem cntF_congr {F G:Nat→Bool} (h:∀ q,q < 14→F q=G q):cntF F=cntF G:=by unfold cntF;rw [tab_congr h]
theorem cntF_set {F G:Nat→Bool} (r:Nat) (hr:r < 14) (h:F r=false) (hG:∀ q,q < 14→(if q=r then true else F q)=G q):cntF G=cntF F+1:=by
 unfold cntF
 rw [← tab_congr hG,← tab_set,List.count_set (by rw [tab_len];exact hr),tab_get,h]
 simp
theorem cntF_none:cntF (fun _=>false)=0:=by unfold cntF;rw [← tab_false];rfl
def usd (l:List Ins) (q:Nat):Bool:=l.any (fun x=>(use x).any (fun u=>u == (q:Int))||wrt x == (q:Int))
theorem usd_succ (l:List Ins) (i:Nat) (h:i < l.length) (q:Nat):usd (l.take (i+1)) q=(usd (l.take i) q||((use l[i]).any (fun u=>u == (q:Int))||wrt l[i] == (q:Int))):=by
 unfold usd;rw [List.take_succ_eq_append_getElem h,List.any_append];simp
theorem ordS_mem (O:List Int) (r q:Int):(ordS O r).contains q=(O.contains q||r == q):=by
 unfold ordS
 split
 ·rename_i h
  by_cases e:r=q
  ·subst e;rw [h];rfl
  rw [show (r == q)=false from by simpa using e,Bool.or_false]
 rw [show (O++[r]).contains q=(O.contains q||(q == r)) from by rw [List.contains_eq_any_beq,List.contains_eq_any_beq,List.any_append];simp,BEq.comm]
theorem ordL_mem (O rs:List Int) (q:Int):(ordL O rs).contains q=(O.contains q||rs.any (fun r=>r == q)):=by
 induction rs generalizing O with
 | nil=>simp [ordL]
 | cons r rs ih =>
  show (ordL (ordS O r) rs).contains q=_
  rw [ih,ordS_mem,List.any_cons,Bool.or_assoc]
theorem ordC_mem (O:List Int) (l:List Ins) (q:Int):(ordC O l).contains q=(O.contains q||l.any (fun x=>(rgs x).any (fun r=>r == q))):=by
 induction l generalizing O with
 | nil=>simp [ordC]
 | cons x l ih =>
  show (ordC (ordL O (rgs x)) l).contains q=_
  rw [ih,ordL_mem,List.any_cons,Bool.or_assoc]
theorem rgs_any {nv na nl:Nat} {x:Ins} (h:insOk nv na nl x=true) (q:Nat):(rgs x).any (fun r=>r == (q:Int))=((use x).any (fun u=>u == (q:Int))||wrt x == (q:Int)):=by
 have a0:=insOk_op h
 obtain ⟨op,a,b,c,d⟩:=x
 simp only at a0
 have hm:((-1:Int) == (q:Int))=false:=by simp
 rcases shp_cases op with h' | rfl | rfl | rfl | rfl | rfl | rfl | rfl | rfl | rfl | rfl | rfl | rfl | rfl
 ·omega
 all_goals simp [rgs,rgsK,shp,flds,use,wrt,hm,Bool.or_comm,Bool.or_left_comm,Bool.or_assoc]
theorem rgs_in {nv na nl:Nat} {x:Ins} (h:insOk nv na nl x=true):∀ r ∈ rgs x,0≤r∧r < 14:=by
 intro r hr
 unfold rgs rgsK at hr
 obtain ⟨p,hp,he⟩:=List.mem_filterMap.1 hr
 split at he
 ·rename_i h14
  obtain rfl:=Option.some.inj he
  have h1:=insOk_cases h p (List.mem_of_mem_take hp)
  rw [h14] at h1
  exact fOk_r h1
 cases he
theorem ordS_cnt {O:List Int} {r:Int} (h0:0≤r) (h1:r < 14) (h:O.length=cntF (fun q=>O.contains (q:Int))):(ordS O r).length=cntF (fun q=>(ordS O r).contains (q:Int)):=by
 obtain ⟨n,rfl⟩:∃ n:Nat,r=(n:Int):=⟨r.toNat,by omega⟩
 cases hc:O.contains (n:Int) with
 | true=>rw [ordS_in hc];exact h
 | false =>
  rw [cntF_set (F:=fun q=>O.contains (q:Int)) n (by omega) hc (fun q hq=>by
   rw [ordS_mem]
   by_cases e:q=n
   ·subst e;simp
   rw [if_neg e,show ((n:Int) == (q:Int))=false from by simp;omega,Bool.or_false])]
  rw [ordS_new hc,List.length_append,h];rfl
theorem ordL_cnt (rs:List Int) (hr:∀ r ∈ rs,0≤r∧r < 14) {O:List Int} (h:O.length=cntF (fun q=>O.contains (q:Int))):(ordL O rs).length=cntF (fun q=>(ordL O rs).contains (q:Int)):=by
 induction rs generalizing O with
 | nil=>exact h
 | cons r rs ih =>
  obtain ⟨h0,h1⟩:=hr r (by simp)
  exact ih (fun r hr'=>hr r (by simp [hr'])) (ordS_cnt h0 h1 h)
theorem ordC_cnt (l:List Ins) (hr:∀ x ∈ l,∀ r ∈ rgs x,0≤r∧r < 14) {O:List Int} (h:O.length=cntF (fun q=>O.contains (q:Int))):(ordC O l).length=cntF (fun q=>(ordC O l).contains (q:Int)):=by
 induction l generalizing O with
 | nil=>exact h
 | cons x l ih=>exact ih (fun x hx=>hr x (by simp [hx])) (ordL_cnt _ (hr x (by simp)) h)
theorem regs_count {c:Cd} (h:codeOk c=true):(ordC [] c.list).length=cntF (usd c.list):=by
 have a0:=codeOk_all h
 have hx:∀ x ∈ c.list,insOk c.vars.length c.arrays.length c.list.length x=true:=by
  intro x hx
  obtain ⟨k,hk,rfl⟩:=List.getElem_of_mem hx
  exact a0 k hk
 rw [ordC_cnt c.list (fun x hxm=>rgs_in (hx x hxm)) (by simp [cntF_none])]
 refine cntF_congr (fun q hq=>?_)
 rw [ordC_mem]
 unfold usd
 simp only [List.contains_nil,Bool.false_or]
 rw [Bool.eq_iff_iff,List.any_eq_true,List.any_eq_true]
 constructor
 ·rintro ⟨x,hm,hv⟩;exact ⟨x,hm,by rw [← rgs_any (hx x hm)];exact hv⟩
 rintro ⟨x,hm,hv⟩;exact ⟨x,hm,by rw [rgs_any (hx x hm)];exact hv⟩
def regsUsed (c:Cd):Int:=if codeOk c=true then (cntF (usd c.list):Int) else 0
theorem regsUsed_yes {c:Cd} (h:codeOk c=true):regsUsed c=(cntF (usd c.list):Int):=if_pos h
theorem regsUsed_no {c:Cd} (h:codeOk c=false):regsUsed c=0:=by unfold regsUsed;rw [if_neg (by rw [h];decide)]
theorem numbering_any (va vb vc:Value) (c:Cd) (w:World) (hr:ReadsC w va vb vc c) (hok:codeOk c=true) :
  Calls Tryz.prog 34 #[.agg #[va,vb,vc]] w fun e w'=>∃ u,e=.returned u∧w'.ownsRow w.heap.size 3 1 u (ordC [] c.list).length (ints (ordC [] c.list))∧Below w.heap.size w w':=by
 obtain ⟨a0,c0,a1,c1,a2,c2,rfl,rfl,rfl⟩:=hr.shape
 obtain ⟨w1,d0⟩:∃ X,X=(w.alloc (.cells #[.slice a0 c.vars.length c0,.slice a1 c.arrays.length c1,.slice a2 c.list.length c2] 26)).alloc (.cells #[.slice none 0 0] 23):=⟨_,rfl⟩
 have e0:Below w.heap.size w w1:=by rw [d0];exact bal (bal (Bs w) _) _
 have f0:w1.heap.size=w.heap.size+1+1:=by rw [d0];simp
 have b0:w1.cell? ⟨w.heap.size,0,none⟩=some (.slice a0 c.vars.length c0):=by rw [d0];exact Ac (Wc rfl rfl) _
 have b1:w1.cell? ⟨w.heap.size,1,none⟩=some (.slice a1 c.arrays.length c1):=by rw [d0];exact Ac (Wc rfl rfl) _
 have b2:w1.cell? ⟨w.heap.size,2,none⟩=some (.slice a2 c.list.length c2):=by rw [d0];exact Ac (Wc rfl rfl) _
 have bB:w1.cell? ⟨w.heap.size+1,0,none⟩=some (.slice none 0 0):=by rw [d0];exact Wc (by simp) rfl
 have bf:w1.frozen? ⟨w.heap.size+1,0,none⟩=false:=by rw [d0];exact Fn (by simp)
 have k2:=Lc b2
 have HW:=Lib.hid d0
 have hz1':w.heap.size+2≤w1.heap.size:=by omega
 clear d0 f0
 have HR:=Lib.hid (regsN_any _ _ _ c (w.heap.size+1) w1 (hr.below e0) hok bB bf)
 clear hr
 go_enter Tryz.func34,Tryz.ntmps34
 go_upto_region 2 with (fail)
 rw [← HW.out]
 clear HW
 go_wp2_with fail
 refine HR.out.mono ?_
 rintro e w2 ⟨u,v,rfl,hB,hv,hC⟩
 obtain ⟨pa,pc,rfl⟩:=Oh hv
 have g0:=hC.size
 have kB:=Lc hB
 go_wp2
 go_ret
 exact ⟨_,rfl,Om hv (by omega),e0.trans (hC.below w.heap.size e0.size (fun q hq h=>by omega))⟩
theorem iRegsUsed_any (va vb vc:Value) (c:Cd) (w:World) (hr:ReadsC w va vb vc c) :
  Calls Tryz.prog 14 #[.agg #[va,vb,vc]] w fun e w'=>e=.returned (.int .i64 (regsUsed c))∧Below w.heap.size w w':=by
 obtain ⟨a0,c0,a1,c1,a2,c2,rfl,rfl,rfl⟩:=hr.shape
 have HN:=Lib.hid (fun h=>regsUsed_no (c:=c) h)
 have HY:=Lib.hid (fun h=>regsUsed_yes (c:=c) h)
 have HC:=Lib.hid (fun h=>regs_count (c:=c) h)
 have HL:=Lib.hid (fun (W:World) (hW:Below w.heap.size w W) h=>numbering_any _ _ _ c W (hr.below hW) h)
 generalize regsUsed c=D at *
 have d0:=bal (Bs w) (.cells #[.slice a0 c.vars.length c0,.slice a1 c.arrays.length c1,.slice a2 c.list.length c2] 26)
 go_enter Tryz.func14,Tryz.ntmps14
 go_wp2_with fail
 refine (iCodeValid_any _ _ _ c _ (hr.below d0)).mono ?_
 rintro e w1 ⟨rfl,hb⟩
 have b0:w1.cell? ⟨w.heap.size,0,none⟩=some (.slice a0 c.vars.length c0):=Kc hb (Wc (by simp) (by rfl))
 have b1:w1.cell? ⟨w.heap.size,1,none⟩=some (.slice a1 c.arrays.length c1):=Kc hb (Wc (by simp) (by rfl))
 have b2:w1.cell? ⟨w.heap.size,2,none⟩=some (.slice a2 c.list.length c2):=Kc hb (Wc (by simp) (by rfl))
 have k2:=Lc b2
 replace d0:=btr d0 hb
 clear hb hr
 cases hok:codeOk c with
 | false =>
  have HO:=Lib.hid hok;clear hok
  go_wp2
  go_ret
  exact ⟨ret_int (HN.out HO.out).symm,d0⟩
 | true =>
  have HO:=Lib.hid hok;clear hok
  go_wp2_with fail
  refine (HL.out _ d0 HO.out).mono ?_
  rintro e w2 ⟨u,rfl,ho,hb⟩
  obtain ⟨ua,uc,rfl⟩:=Oh ho
  go_wp2
  go_ret
  exact ⟨ret_int (by rw [HY.out HO.out,HC.out HO.out]),btr d0 hb⟩
theorem sRegsUsed_any (va vb vc:Value) (c:Cd) (w:World) (hr:ReadsC w va vb vc c) :
  Calls Tryz.prog 16 #[.agg #[va,vb,vc]] w fun e w'=>e=.returned (.int .i64 (regsUsed c))∧Below w.heap.size w w':=by
 obtain ⟨a0,c0,a1,c1,a2,c2,rfl,rfl,rfl⟩:=hr.shape
 have HN:=Lib.hid (fun h=>regsUsed_no (c:=c) h)
 have HY:=Lib.hid (fun h=>regsUsed_yes (c:=c) h)
 generalize regsUsed c=D at *
 have r0:=bal (Bs w) (.cells #[.slice a0 c.vars.length c0,.slice a1 c.arrays.length c1,.slice a2 c.list.length c2] 26)
 go_enter Tryz.func16,Tryz.ntmps16
 go_wp2_with fail
 refine (sCodeValid_any _ _ _ c _ (hr.below r0)).mono ?_
 rintro e w1 ⟨rfl,hb⟩
 have b0:w1.cell? ⟨w.heap.size,0,none⟩=some (.slice a0 c.vars.length c0):=Kc hb (Wc (by simp) (by rfl))
 have b1:w1.cell? ⟨w.heap.size,1,none⟩=some (.slice a1 c.arrays.length c1):=Kc hb (Wc (by simp) (by rfl))
 have b2:w1.cell? ⟨w.heap.size,2,none⟩=some (.slice a2 c.list.length c2):=Kc hb (Wc (by simp) (by rfl))
 have k2:=Lc b2
 replace r0:=btr r0 hb
 clear hb
 cases hok:codeOk c with
 | false =>
  have HO:=Lib.hid hok;clear hok
  go_wp2
  go_ret
  exact ⟨ret_int (HN.out HO.out).symm,r0⟩
 | true =>
  have HO:=Lib.hid hok;clear hok
  obtain ⟨l2,m2⟩:=codeOk_len HO.out
  have t1:=fun u=>mk_bool14 u
  obtain ⟨b9,v1,hb9a,d2,l1⟩:∃ b' o0,a2=some ⟨b',o0,none⟩∧b' < w.heap.size∧Hid (∀ k (h:k < c.list.length),w.cell? ⟨b',o0+k*5,none⟩=some (.int .i64 c.list[k].op)∧w.cell? ⟨b',o0+k*5+1,none⟩=some (.int .i64 c.list[k].a)∧w.cell? ⟨b',o0+k*5+2,none⟩=some (.int .i64 c.list[k].b)∧w.cell? ⟨b',o0+k*5+3,none⟩=some (.int .i64 c.list[k].c)∧w.cell? ⟨b',o0+k*5+4,none⟩=some (.int .i64 c.list[k].d)):=by
   obtain ⟨_,hn',aa,cap',b',o0,j1,s1,ha,r1⟩:=hr.l
   simp only [Value.slice.injEq,true_and] at j1
   obtain ⟨rfl,rfl⟩:=j1
   obtain ⟨rfl,p1⟩:=ha (by omega)
   exact ⟨b',o0,rfl,p1,Lib.hid (reads_Instr r1)⟩
  subst hb9a
  have p0:=own_made w1 (.bool false) 14 4 (by unfold maxLen;omega)
  rw [← bools_replicate,tab_false] at p0
  have f2:=r0.size
  clear hr
  go_wp2_with fail
  go_loopw [4,5] (fun nv t wr=>∃ i:Nat,i≤c.list.length∧t=.int .i64 i∧nv=.int .i64 (cntF (usd (c.list.take i)):Nat)∧wr.ownsRow w1.heap.size 4 1 (.slice (some ⟨w1.heap.size,0,none⟩) 14 14) 14 (bools (tab (usd (c.list.take i))))∧Below w1.heap.size w1 wr) (fun _ t _=>c.list.length-(intOf t).toNat)
  case atStart=>exact ⟨0,Nat.zero_le _,rfl,by rw [show cntF (usd (c.list.take 0))=0 from by rw [cntF_congr (G:=fun _=>false) (fun q _=>by simp [usd])];exact cntF_none];rfl,by rw [tab_congr (f:=usd (c.list.take 0)) (g:=fun _=>false) (fun q _=>by simp [usd])];exact p0,bal (Bs w1) _⟩
  case round =>
   obtain ⟨i,hi,rfl,rfl,ho,m0⟩:=hrel
   obtain ⟨wO,rfl⟩:∃ X,X=wr:=⟨_,rfl⟩
   clear p0 t1
   have q0:=btr r0 m0
   have s2:=m0.size
   have p2:=ho.lt _ rfl
   have n2:=Kc m0 b2
   have kn:=Lc n2
   by_cases hlt:i < c.list.length
   ·obtain ⟨e0,e1,e2,e3,e4⟩:=l1.out i hlt
    replace e0:=Kc q0 e0;replace e1:=Kc q0 e1;replace e2:=Kc q0 e2;replace e3:=Kc q0 e3;replace e4:=Kc q0 e4
    have ke:=Lc e0
    have v0:=codeOk_all HO.out i hlt
    have q2:=insOk_op v0
    have d1:=fun p hp=>knl_in v0 p hp
    have t0:=fun q=>usd_succ c.list i hlt q
    have q1:=cntF_le (usd (c.list.take i))
    have hq:(i:Int) < (c.list.length:Int):=by omega
    generalize hF2:usd (c.list.take (i+1))=F2 at *
    have w0:=Lib.hid hF2;clear hF2
    generalize usd (c.list.take i)=F1 at *
    generalize c.list[i]=x at *
    clear v0
    go_wp2_with fail
    refine (l12Regs_any x _ (by omega) d1).mono ?_
    rintro e w3 ⟨g1,g2,rfl,o1,o2,z1,u0⟩
    have i1:=o1.lt g1 rfl
    have i2:=o2.lt g2 rfl
    have m1:=Lib.hid t0
    replace ho:=Ob ho u0
    have x0:=btr m0 u0
    clear t0 d1 e0 e1 e2 e3 e4 ke n2 kn u0
    go_wp2_with fail
    go_loopw [4,8] (fun nv t wy=>∃ r:Nat,r≤14∧t=.int .i64 r∧nv=.int .i64 (cntF (fun q=>if q < r then F2 q else F1 q):Nat)∧wy.ownsRow w1.heap.size 4 1 (.slice (some ⟨w1.heap.size,0,none⟩) 14 14) 14 (bools (tab (fun q=>if q < r then F2 q else F1 q)))∧Chg (fun q=>q=w1.heap.size) w3 wy) (fun _ t _=>14-(intOf t).toNat)
    case atStart=>exact ⟨0,Nat.zero_le _,rfl,by simp,by simpa using ho,Chg.refl _ _⟩
    case round =>
     obtain ⟨r,r2,rfl,rfl,hy,hC⟩:=hrel
     clear ho
     by_cases hlr:r < 14
     ·have h0:=own_tab_at hy r hlr
      simp only [Nat.lt_irrefl,if_false] at h0
      have c1':=Gc hC (own_tab_at o1 r hlr) (by omega)
      have c2':=Gc hC (own_tab_at o2 r hlr) (by omega)
      have k1:=Lc c1'
      have hf:=hy.frozenAt r
      have j2:=cntF_le (fun q=>if q < r then F2 q else F1 q)
      have k0:∀ q,q < 14→(if q=r then F2 r else if q < r then F2 q else F1 q)=(if q < r+1 then F2 q else F1 q):=fun q hq=>by
       by_cases e:q=r
       ·subst e;rw [if_pos rfl,if_pos (by omega)]
       rw [if_neg e];by_cases e2:q < r
       ·rw [if_pos e2,if_pos (by omega)]
       rw [if_neg e2,if_neg (by omega)]
      have l0:F2 r=F1 r→(∀ q,q < 14→(if q < r then F2 q else F1 q)=(if q < r+1 then F2 q else F1 q)):=fun h q hq=>by
       rw [← k0 q hq]
       by_cases e:q=r
       ·subst e;rw [if_pos rfl,if_neg (by omega),h]
       rw [if_neg e]
      have s0:=fun (h:F2 r=true)=>own_tab_set hy r true (G:=fun q=>if q < r+1 then F2 q else F1 q) (fun q hq=>by have h2:=k0 q hq;rw [h] at h2;exact h2)
      have z0:=fun (h1:F1 r=false) (h:F2 r=true)=>cntF_set (F:=fun q=>if q < r then F2 q else F1 q) (G:=fun q=>if q < r+1 then F2 q else F1 q) r hlr (by simp only [Nat.lt_irrefl,if_false];exact h1) (fun q hq=>by have h2:=k0 q hq;rw [h] at h2;exact h2)
      have y0:=fun (h:F2 r=F1 r)=>cntF_congr (l0 h)
      have f1:=fun (h:F2 r=F1 r)=>tab_congr (l0 h)
      have t0:=m1.out r
      have n0:=hC.setCell w1.heap.size r (.bool true) (fun _=>rfl)
      have i0:=Lib.hid (And.intro s0 (And.intro z0 (And.intro y0 f1)))
      have HU:=Lib.hid t0
      generalize hn:cntF (fun q=>if q < r then F2 q else F1 q)=n at *
      have x1:=Lib.hid hn
      clear s0 z0 y0 f1 k0 l0 t0 hn
      generalize hu1:F1 r=u1 at *
      generalize ((use x).any (fun u=>u == (r:Int)))=y1 at *
      generalize (wrt x == (r:Int))=y2 at *
      clear hu1
      cases y1 <;> cases y2 <;> cases u1
      ·have d0:Hid (F2 r=false):=Lib.hid (by rw [HU.out];rfl)
       have f0:=i0.out.2.2.1 d0.out
       have g0:=hy
       rw [i0.out.2.2.2 d0.out] at g0
       have j0:=Lib.hid f0
       clear f0 hy d0 n0
       go_wp2
       go_roundw
       case rel=>exact ⟨r+1,by omega,by go_num,by rw [← j0.out],g0,hC⟩
       case measure=>simp [intOf];omega
      ·have d0:Hid (F2 r=true):=Lib.hid (by rw [HU.out];rfl)
       have f0:=i0.out.2.2.1 d0.out
       have g0:=hy
       rw [i0.out.2.2.2 d0.out] at g0
       have j0:=Lib.hid f0
       clear f0 hy d0 n0
       go_wp2
       go_roundw
       case rel=>exact ⟨r+1,by omega,by go_num,by rw [← j0.out],g0,hC⟩
       case measure=>simp [intOf];omega
      ·have d0:Hid (F2 r=true):=Lib.hid (by rw [HU.out];rfl)
       have f0:=i0.out.2.1 rfl d0.out
       have g0:=i0.out.1 d0.out
       have j0:=Lib.hid f0
       clear f0 hy d0 hC
       go_wp2
       go_roundw
       case rel=>exact ⟨r+1,by omega,by go_num,by rw [j0.out];go_num,g0,n0⟩
       case measure=>simp [intOf];omega
      ·have d0:Hid (F2 r=true):=Lib.hid (by rw [HU.out];rfl)
       have f0:=i0.out.2.2.1 d0.out
       have g0:=hy
       rw [i0.out.2.2.2 d0.out] at g0
       have j0:=Lib.hid f0
       clear f0 hy d0 n0
       go_wp2
       go_roundw
       case rel=>exact ⟨r+1,by omega,by go_num,by rw [← j0.out],g0,hC⟩
       case measure=>simp [intOf];omega
      ·have d0:Hid (F2 r=true):=Lib.hid (by rw [HU.out];rfl)
       have f0:=i0.out.2.1 rfl d0.out
       have g0:=i0.out.1 d0.out
       have j0:=Lib.hid f0
       clear f0 hy d0 hC
       go_wp2
       go_roundw
       case rel=>exact ⟨r+1,by omega,by go_num,by rw [j0.out];go_num,g0,n0⟩
       case measure=>simp [intOf];omega
      ·have d0:Hid (F2 r=true):=Lib.hid (by rw [HU.out];rfl)
       have f0:=i0.out.2.2.1 d0.out
       have g0:=hy
       rw [i0.out.2.2.2 d0.out] at g0
       have j0:=Lib.hid f0
       clear f0 hy d0 n0
       go_wp2
       go_roundw
       case rel=>exact ⟨r+1,by omega,by go_num,by rw [← j0.out],g0,hC⟩
       case measure=>simp [intOf];omega
      ·have d0:Hid (F2 r=true):=Lib.hid (by rw [HU.out];rfl)
       have f0:=i0.out.2.1 rfl d0.out
       have g0:=i0.out.1 d0.out
       have j0:=Lib.hid f0
       clear f0 hy d0 hC
       go_wp2
       go_roundw
       case rel=>exact ⟨r+1,by omega,by go_num,by rw [j0.out];go_num,g0,n0⟩
       case measure=>simp [intOf];omega
      have d0:Hid (F2 r=true):=Lib.hid (by rw [HU.out];rfl)
      have f0:=i0.out.2.2.1 d0.out
      have g0:=hy
      rw [i0.out.2.2.2 d0.out] at g0
      have j0:=Lib.hid f0
      clear f0 hy d0 n0
      go_wp2
      go_roundw
      case rel=>exact ⟨r+1,by omega,by go_num,by rw [← j0.out],g0,hC⟩
      case measure=>simp [intOf];omega
     have e:r=14:=by omega
     subst e
     have h1:=tab_congr (f:=fun q=>if q < 14 then F2 q else F1 q) (g:=F2) (fun q hq=>if_pos hq)
     have h2:=cntF_congr (F:=fun q=>if q < 14 then F2 q else F1 q) (G:=F2) (fun q hq=>if_pos hq)
     rw [h1] at hy
     rw [h2]
     have n1:=x0.trans (hC.below w1.heap.size x0.size (fun q hq h=>by omega))
     clear h1 h2
     go_wp2
     go_roundw
     case rel=>exact ⟨i+1,by omega,by go_num,by rw [w0.out],by rw [w0.out];exact hy,n1⟩
     case measure=>simp [intOf];omega
   have e:i=c.list.length:=by omega
   subst e
   go_wp2
   go_ret
   exact ⟨ret_int (by rw [HY.out HO.out]),q0⟩
end Go.Proofs.YtkjedgnepnbkpaaGreat
