/-
 Parts of the proofs of the laws FnCodeFenced,FnCountBranches.
-/
import Derived.Test.YtkjedgnepnbkpaaNF
import Derived.Test.YtkjedgnepnbkpaaNK
set_option linter.all false
namespace Go.Proofs.Ytkjedgnepnbkpaa
open Go.RowKit
def evBr (c:Cd) (e:Ev):Bool:=(e.1 == 5)&&isBr (insAt c e.2).op
def cntE (c:Cd):List Ev→Int
 | []=>0
 | e::l=>(if evBr c e=true then 1 else 0)+cntE c l
theorem cntE_append (c:Cd) (a b:List Ev):cntE c (a++b)=cntE c a+cntE c b:=by
 induction a with
 | nil=>simp [cntE]
 | cons x l ih=>simp only [List.cons_append,cntE,ih];omega
theorem cntE_take (c:Cd) (l:List Ev) (k:Nat) (h:k < l.length):cntE c (l.take (k+1))=cntE c (l.take k)+(if evBr c l[k]=true then 1 else 0):=by
 rw [List.take_succ_eq_append_getElem h,cntE_append];simp [cntE]
theorem cntE_le (c:Cd) (l:List Ev):0≤cntE c l∧cntE c l≤l.length:=by
 induction l with
 | nil=>simp [cntE]
 | cons x l ih=>simp only [cntE,List.length_cons];split <;> omega
theorem cntE_stEvs (c:Cd) (x:Ins) (s:Ms):cntE c (stEvs x s)=if evBr c (5,s.pc)=true then 1 else 0:=by
 unfold stEvs
 have h2:∀ v,evBr c (2,v)=false:=fun v=>rfl
 have h3:∀ v,evBr c (3,v)=false:=fun v=>rfl
 have h4:∀ v,evBr c (4,v)=false:=fun v=>rfl
 by_cases k4:x.op=4
 ·simp [k4,cntE,h2]
 by_cases k5:x.op=5
 ·simp [k5,cntE,h3]
 by_cases k11:x.op=11
 ·simp [k11,cntE,h4]
 simp [k4,k5,k11,cntE]
theorem cntE_evN (c:Cd) (s:Ms) (n:Nat):cntE c (evN c n s)=(brN c n s:Int):=by
 induction n with
 | zero=>simp [evN,cntE,brN]
 | succ n ih =>
  simp only [evN,brN,cntE_append,cntE_stEvs,ih]
  have e:evBr c (5,(stN c n s).pc)=isBr (opAt c s n):=by simp [evBr,opAt]
  rw [e]
  split <;> simp
theorem stEvs_five {x:Ins} {s:Ms} {e:Ev} (h:e ∈ stEvs x s) (h5:e.1=5):e.2=s.pc:=by
 unfold stEvs at h
 have a0:∀ (k v:Int) (l:List Ev),e ∈ (5,s.pc)::(if x.op=4 then [(2,adr x.b (gi s.regs x.c))] else if x.op=5 then [(3,adr x.a (gi s.regs x.b))] else if x.op=11 then [(4,gi s.regs x.a)] else [])→e.2=s.pc:=by
  intro _ _ _ h
  rcases List.mem_cons.1 h with rfl | h
  ·rfl
  repeat (first | (split at h) | (have h6:=List.mem_singleton.1 h;subst h6;simp at h5) | (cases h))
 exact a0 0 0 [] h
theorem evN_five {c:Cd} {s:Ms} (hok:codeOk c=true) (hs:MsOk c s) (n:Nat):∀ e ∈ evN c n s,e.1=5→0≤e.2∧e.2 < c.list.length:=by
 induction n with
 | zero=>intro e h;simp [evN] at h
 | succ n ih =>
  intro e h h5
  simp only [evN,List.mem_append] at h
  rcases h with h | h
  ·exact ih e h h5
  rw [stEvs_five h h5]
  have hm:=stN_ok hok hs n
  exact ⟨hm.pc0,hm.pc1⟩
theorem runE_five (c:Cd) (m:Mm):∀ e ∈ runE c m,e.1=5→0≤e.2∧e.2 < c.list.length:=by
 cases h:finN c m with
 | none=>rw [(run_no h).1];intro e h;simp at h
 | some n =>
  rw [(run_yes h).1]
  have hg:goOk c m=true:=by
   unfold finN at h
   split at h
   ·assumption
   cases h
  exact evN_five (goOk_code hg) (ini_ok hg) (n+1)
theorem cntR_eq (c:Cd) (m:Mm):cntR c m=(cntE c (runE c m),runB c m):=by
 cases h:finN c m with
 | none=>rw [cntR_no h,(run_no h).1,(run_no h).2.2];rfl
 | some n=>rw [cntR_yes h,(run_yes h).1,(run_yes h).2.2,cntE_evN]
set_option maxHeartbeats 6400000 in
set_option maxRecDepth 100000 in
theorem sCount_any (va vb vc vx vy:Value) (c:Cd) (m:Mm) (w:World) (hr:ReadsC w va vb vc c) (hm:ReadsM w vx vy m) (hl:m.vals.length≤1048576) (hn:m.arrs.length≤1048576) (hp:pre2 m.arrs m.arrs.length≤1048576) :
  Calls Try.prog 44 #[.agg #[va,vb,vc],.agg #[vx,vy]] w fun e w'=>e=.returned (.tuple #[.int .i64 (cntR c m).1,.bool (cntR c m).2])∧Below w.heap.size w w':=by
 obtain ⟨a0,c0,a1,c1,a2,c2,rfl,rfl,rfl⟩:=hr.shape
 obtain ⟨a3,c3,a4,c4,rfl,rfl⟩:=hm.shape
 rw [cntR_eq]
 have j2:=runE_len c m
 have HF:=Lib.hid (runE_five c m)
 have o0:=Lib.hid (sRunCode_any _ _ _ _ _ c m _ (hr.below (bal (bal (Bs w) (.cells #[.slice a0 c.vars.length c0,.slice a1 c.arrays.length c1,.slice a2 c.list.length c2] 26)) (.cells #[.slice a3 m.vals.length c3,.slice a4 m.arrs.length c4] 37))) (hm.below (bal (bal (Bs w) (.cells #[.slice a0 c.vars.length c0,.slice a1 c.arrays.length c1,.slice a2 c.list.length c2] 26)) (.cells #[.slice a3 m.vals.length c3,.slice a4 m.arrs.length c4] 37))) hl hn hp)
 have HR:=Lib.hid (fun W (hW:Below w.heap.size w W)=>hr.below hW)
 clear hr hm hl hn hp
 generalize runE c m=RE at *;generalize runM c m=RM at *;generalize runB c m=RB at *
 go_enter Try.func44,Try.ntmps44
 go_wp2_with fail
 refine (o0.out).mono ?_
 rintro e w1 ⟨ux,uy,us,u,rfl,n1,hE,hb⟩
 obtain ⟨p0,q0,p1,q1,rfl,rfl⟩:=n1.shape
 obtain ⟨pu,qu,rfl⟩:=Oh hE
 clear o0 n1
 have l1:=hb.size
 simp only [Sa] at l1
 have w0:w1.cell? ⟨w.heap.size,0,none⟩=some (.slice a0 c.vars.length c0):=Kc hb (Ac (Wc (by simp) (by rfl)) _)
 have i1:w1.cell? ⟨w.heap.size,1,none⟩=some (.slice a1 c.arrays.length c1):=Kc hb (Ac (Wc (by simp) (by rfl)) _)
 have x0:w1.cell? ⟨w.heap.size,2,none⟩=some (.slice a2 c.list.length c2):=Kc hb (Ac (Wc (by simp) (by rfl)) _)
 have d2:w1.cell? ⟨w.heap.size+1,0,none⟩=some (.slice a3 m.vals.length c3):=Kc hb (Wc (by simp) (by rfl))
 have g2:w1.cell? ⟨w.heap.size+1,1,none⟩=some (.slice a4 m.arrs.length c4):=Kc hb (Wc (by simp) (by rfl))
 have i0:=btr (bal (bal (Bs w) (.cells #[.slice a0 c.vars.length c0,.slice a1 c.arrays.length c1,.slice a2 c.list.length c2] 26)) (.cells #[.slice a3 m.vals.length c3,.slice a4 m.arrs.length c4] 37)) hb
 clear hb
 clear d2 g2
 have y2:=Lc w0
 have m2:=hE.lt
 try simp only [Sa] at m2
 go_upto_region 3 with (fail)
 obtain ⟨w2,o1,hb⟩:=nmw (World.alloc w1 (.cells #[.slice p0 RM.vals.length q0,.slice p1 RM.arrs.length q1] 37))
 have m1:=hb.size
 simp only [Sa] at m1
 replace w0:=Kc hb (Ac w0 _)
 replace i1:=Kc hb (Ac i1 _)
 replace x0:=Kc hb (Ac x0 _)
 replace hE:=Ob (Ob hE (bal (Bs _) _)) hb
 have g1:w2.cell? ⟨w1.heap.size,0,none⟩=some (.slice p0 RM.vals.length q0):=Kc hb (Wc (by simp) (by rfl))
 have b1:w2.frozen? ⟨w1.heap.size,0,none⟩=false:=Kf hb (by simp) (Fn (by simp))
 have h1:w2.cell? ⟨w1.heap.size,1,none⟩=some (.slice p1 RM.arrs.length q1):=Kc hb (Wc (by simp) (by rfl))
 have d1:w2.frozen? ⟨w1.heap.size,1,none⟩=false:=Kf hb (by simp) (Fn (by simp))
 replace i0:=btr (bal i0 _) hb
 clear hb
 rw [← o1]
 clear o1
 clear g1 b1 h1 d1
 have y1:=Lib.hid (fun W (hW:Below w2.heap.size w2 W)=>Ro (Ob hE hW) (by omega))
 have HT:=Lib.hid i0
 have z1:=Lib.hid (fun W (hW:Below w2.heap.size w2 W)=>Kc hW x0)
 have y0:=fun k=>cntE_le c (RE.take k)
 have x1:=Lib.hid y0;clear y0 hE i0 x0
 clear w0 i1
 go_wp2_with fail
 go_loopw [9,10] (fun nn t wr=>∃ k:Nat,k≤RE.length∧t=.int .i64 k∧nn=.int .i64 (cntE c (RE.take k))∧Below w2.heap.size w2 wr) (fun _ t _=>RE.length-(intOf t).toNat)
 case atStart=>exact ⟨0,Nat.zero_le _,rfl,by simp [cntE],Bs _⟩
 case round =>
  obtain ⟨k,hk,rfl,rfl,hB⟩:=hrel
  have y0:=x1.out k
  have d0:=z1.out _ hB
  have kn:=Lc d0
  have g0:=btr HT.out hB
  have x2:=hB.size
  have v2:(RE.take k).length≤k:=List.length_take_le _ _
  by_cases hlt:k < RE.length
  ·have t2:(k:Int) < (RE.length:Int):=by omega
   have k2:=y1.out _ hB
   obtain ⟨_,_,aa,h2,tb,e0,hv,k1,ha,t0⟩:=k2
   simp only [Value.slice.injEq,true_and] at hv
   obtain ⟨rfl,rfl⟩:=hv
   obtain ⟨rfl,j1⟩:=ha (by omega)
   obtain ⟨e1,e2⟩:=reads_ev t0 k hlt
   have HX:Hid (cntE c (RE.take (k+1))=cntE c (RE.take k)+(if evBr c RE[k]=true then 1 else 0)):=Lib.hid (cntE_take c RE k hlt)
   have H5:=Lib.hid (HF.out RE[k] (List.getElem_mem hlt))
   clear t0 ha j1
   obtain ⟨x,v0⟩:∃ x,Hid (x=RE[k]):=⟨RE[k],Lib.hid rfl⟩
   rw [← v0.out] at e1 e2
   have k0:Hid (cntE c (RE.take (k+1))=cntE c (RE.take k)+(if evBr c x=true then 1 else 0)):=Lib.hid (by rw [v0.out];exact HX.out)
   have u0:Hid (x.1=5→0≤x.2∧x.2 < c.list.length):=Lib.hid (by rw [v0.out];exact H5.out)
   clear HX H5 v0
   obtain ⟨kd,ev⟩:=x
   simp only at e1 e2
   have ke:=Lc e1
   by_cases h5:kd=5
   ·have hx:(kd == 5)=true:=by simp [h5]
    subst h5
    obtain ⟨h6,h7⟩:=u0.out rfl
    obtain ⟨q,rfl⟩:∃ q:Nat,ev=q:=⟨ev.toNat,by omega⟩
    have r1:q < c.list.length:=by omega
    have u2:(q:Int) < (c.list.length:Int):=by omega
    have l2:=(HR.out wr g0).l
    obtain ⟨_,hn,aa,h2,lb,b0,hv,k1,ha,t0⟩:=l2
    simp only [Value.slice.injEq,true_and] at hv
    obtain ⟨rfl,rfl⟩:=hv
    obtain ⟨rfl,j1⟩:=ha (by omega)
    obtain ⟨f0,f1,f2,f3,f4⟩:=reads_Instr t0 q r1
    clear t0 ha j1
    have HY:Hid ((insAt c (q:Int))=c.list[q]):=Lib.hid (by unfold insAt;rw [Int.toNat_natCast,List.getElem?_eq_getElem r1];rfl)
    obtain ⟨y,z0⟩:∃ y,Hid (y=c.list[q]):=⟨c.list[q],Lib.hid rfl⟩
    rw [← z0.out] at f0 f1 f2 f3 f4
    have m0:Hid (evBr c (5,(q:Int))=isBr y.op):=Lib.hid (by show ((5:Int) == 5&&_)=_;rw [HY.out,z0.out];rfl)
    clear HY z0
    have kf:=Lc f0
    go_upto_region 6 with (fail)
    have n2:=Lc d0
    have o2:=Lc e1
    have p2:=Lc f0
    refine wp_region_noPanic ?_
    refine wp_region_held_drew (S:=(fun W'=>W'.cell? ⟨tb,e0+k*2,none⟩=some (.int .i64 5)∧W'.cell? ⟨w.heap.size,2,none⟩=some (.slice (some ⟨lb,b0,none⟩) c.list.length c2)∧W'.cell? ⟨tb,e0+k*2+1,none⟩=some (.int .i64 q)∧W'.cell? ⟨lb,b0+q*5,none⟩=some (.int .i64 y.op)∧W'.cell? ⟨lb,b0+q*5+1,none⟩=some (.int .i64 y.a)∧W'.cell? ⟨lb,b0+q*5+2,none⟩=some (.int .i64 y.b)∧W'.cell? ⟨lb,b0+q*5+3,none⟩=some (.int .i64 y.c)∧W'.cell? ⟨lb,b0+q*5+4,none⟩=some (.int .i64 y.d))) (by kernel_rfl) ⟨Kc (Below.drew (Bs wr)) e1,Kc (Below.drew (Bs wr)) d0,Kc (Below.drew (Bs wr)) e2,Kc (Below.drew (Bs wr)) f0,Kc (Below.drew (Bs wr)) f1,Kc (Below.drew (Bs wr)) f2,Kc (Below.drew (Bs wr)) f3,Kc (Below.drew (Bs wr)) f4⟩ (fun hHeld=>?_)
    obtain ⟨w3,j0⟩:∃ X,X=World.drew wr:=⟨_,rfl⟩
    rw [← j0] at hHeld ⊢
    have hb:Below wr.heap.size wr w3:=by rw [j0];exact Below.drew (Bs _)
    clear j0
    have h0:=btr hB hb
    have l0:=h0;clear h0
    have t1:=hb.size
    replace d0:=Kc hb d0
    replace e1:=Kc hb e1
    replace e2:=Kc hb e2
    replace f0:=Kc hb f0
    replace f1:=Kc hb f1
    replace f2:=Kc hb f2
    replace f3:=Kc hb f3
    replace f4:=Kc hb f4
    replace i0:=btr g0 hb
    clear hb
    refine tq 0 24 rfl rfl ?_ ?_ ?_
    rotate_left
    ·intro W' hSw;obtain ⟨s0,s1,s2,s3,s4,s5,s6,s7⟩:=hSw;go_simp;try with_reducible rfl
    try simp only [Ep]
    refine tq 1 25 rfl rfl ?_ ?_ ?_
    rotate_left
    ·intro W' hSw;obtain ⟨s0,s1,s2,s3,s4,s5,s6,s7⟩:=hSw;go_simp;try with_reducible rfl
    try simp only [Ep]
    refine tq 2 26 rfl rfl ?_ ?_ ?_
    rotate_left
    ·intro W' hSw;obtain ⟨s0,s1,s2,s3,s4,s5,s6,s7⟩:=hSw;go_simp;try with_reducible rfl
    try simp only [Ep]
    refine tq 3 27 rfl rfl ?_ ?_ ?_
    rotate_left
    ·intro W' hSw;obtain ⟨s0,s1,s2,s3,s4,s5,s6,s7⟩:=hSw;go_simp;try with_reducible rfl
    try simp only [Ep]
    refine tq 4 28 rfl rfl ?_ ?_ ?_
    rotate_left
    ·intro W' hSw;obtain ⟨s0,s1,s2,s3,s4,s5,s6,s7⟩:=hSw;go_simp;try with_reducible rfl
    try simp only [Ep]
    refine tq 5 29 rfl rfl ?_ ?_ ?_
    rotate_left
    ·intro W' hSw;obtain ⟨s0,s1,s2,s3,s4,s5,s6,s7⟩:=hSw;go_simp;try with_reducible rfl
    try simp only [Ep]
    refine tq 6 30 rfl rfl ?_ ?_ ?_
    rotate_left
    ·intro W' hSw;obtain ⟨s0,s1,s2,s3,s4,s5,s6,s7⟩:=hSw;go_simp;try with_reducible rfl
    try simp only [Ep]
    refine tq 7 31 rfl rfl ?_ ?_ ?_
    rotate_left
    ·intro W' hSw;obtain ⟨s0,s1,s2,s3,s4,s5,s6,s7⟩:=hSw;go_simp;try with_reducible rfl
    try simp only [Ep]
    refine tq 8 32 rfl rfl ?_ ?_ ?_
    rotate_left
    ·intro W' hSw;obtain ⟨s0,s1,s2,s3,s4,s5,s6,s7⟩:=hSw;go_simp;try with_reducible rfl
    try simp only [Ep]
    refine tq 9 33 rfl rfl ?_ ?_ ?_
    rotate_left
    ·intro W' hSw;obtain ⟨s0,s1,s2,s3,s4,s5,s6,s7⟩:=hSw;go_simp;try with_reducible rfl
    try simp only [Ep]
    refine tq 10 34 rfl rfl ?_ ?_ ?_
    rotate_left
    ·intro W' hSw;obtain ⟨s0,s1,s2,s3,s4,s5,s6,s7⟩:=hSw;go_simp;try with_reducible rfl
    try simp only [Ep]
    refine tq 11 35 rfl rfl ?_ ?_ ?_
    rotate_left
    ·intro W' hSw;obtain ⟨s0,s1,s2,s3,s4,s5,s6,s7⟩:=hSw;go_simp;try with_reducible rfl
    try simp only [Ep]
    refine tq 12 36 rfl rfl ?_ ?_ ?_
    rotate_left
    ·intro W' hSw;obtain ⟨s0,s1,s2,s3,s4,s5,s6,s7⟩:=hSw;go_simp;try with_reducible rfl
    try simp only [Ep]
    refine tq 13 37 rfl rfl ?_ ?_ ?_
    rotate_left
    ·intro W' hSw;obtain ⟨s0,s1,s2,s3,s4,s5,s6,s7⟩:=hSw;go_simp;try with_reducible rfl
    try simp only [Ep]
    refine tq 14 38 rfl rfl ?_ ?_ ?_
    rotate_left
    ·intro W' hSw;obtain ⟨s0,s1,s2,s3,s4,s5,s6,s7⟩:=hSw;go_simp;try with_reducible rfl
    try simp only [Ep]
    refine tq 15 39 rfl rfl ?_ ?_ ?_
    rotate_left
    ·intro W' hSw;obtain ⟨s0,s1,s2,s3,s4,s5,s6,s7⟩:=hSw;go_simp;try with_reducible rfl
    try simp only [Ep]
    refine Rdy 16 rfl (fun K hK=>?_)
    go_simp
    refine (l11Branch_any _ _ _ _ _ _).mono ?_
    rintro e w4 ⟨rfl,hb⟩
    have h0:=btr l0 hb
    have l0:=h0;clear h0
    have u1:=hb.size
    replace d0:=Kc hb d0
    replace e1:=Kc hb e1
    replace e2:=Kc hb e2
    replace f0:=Kc hb f0
    replace f1:=Kc hb f1
    replace f2:=Kc hb f2
    replace f3:=Kc hb f3
    replace f4:=Kc hb f4
    replace i0:=btr i0 hb
    clear hb
    refine hK.out _ _ ⟨e1,d0,e2,f0,f1,f2,f3,f4⟩ (fun hHeld=>?_)
    clear hK K
    try simp only [Ep]
    refine tq 17 41 rfl rfl ?_ ?_ ?_
    rotate_left
    ·intro W' hSw;obtain ⟨s0,s1,s2,s3,s4,s5,s6,s7⟩:=hSw;go_simp;try with_reducible rfl
    try simp only [Ep]
    refine Dn ?_
    clear hHeld
    have n0:=Lib.hid m0.out
    cases hbr:isBr y.op
    ·have r0:Hid (cntE c (RE.take (k+1))=cntE c (RE.take k)):=Lib.hid (by rw [k0.out,m0.out,hbr];simp)
     clear k0 m0 n0 u0
     go_wp2
     go_roundw
     case rel=>exact ⟨k+1,by omega,by go_num,by rw [r0.out],l0⟩
     case measure=>simp [intOf];omega
    have r0:Hid (cntE c (RE.take (k+1))=cntE c (RE.take k)+1):=Lib.hid (by rw [k0.out,m0.out,hbr];simp)
    clear k0 m0 n0 u0
    go_wp2
    go_roundw
    case rel=>exact ⟨k+1,by omega,by go_num,by rw [r0.out],l0⟩
    case measure=>simp [intOf];omega
   have hx:(kd == 5)=false:=by simp [h5]
   go_upto_region 6 with (fail)
   have q2:=Lc d0
   have r2:=Lc e1
   refine wp_region_noPanic ?_
   refine wp_region_held_drew (S:=(fun W'=>W'.cell? ⟨tb,e0+k*2,none⟩=some (.int .i64 kd)∧W'.cell? ⟨w.heap.size,2,none⟩=some (.slice a2 c.list.length c2)∧W'.cell? ⟨tb,e0+k*2+1,none⟩=some (.int .i64 ev))) (by kernel_rfl) ⟨Kc (Below.drew (Bs wr)) e1,Kc (Below.drew (Bs wr)) d0,Kc (Below.drew (Bs wr)) e2⟩ (fun hHeld=>?_)
   obtain ⟨w3,j0⟩:∃ X,X=World.drew wr:=⟨_,rfl⟩
   rw [← j0] at hHeld ⊢
   have hb:Below wr.heap.size wr w3:=by rw [j0];exact Below.drew (Bs _)
   clear j0
   have h0:=btr hB hb
   have l0:=h0;clear h0
   have v1:=hb.size
   replace d0:=Kc hb d0
   replace e1:=Kc hb e1
   replace e2:=Kc hb e2
   replace i0:=btr g0 hb
   clear hb
   refine tq 0 24 rfl rfl ?_ ?_ ?_
   rotate_left
   ·intro W' hSw;obtain ⟨s0,s1,s2⟩:=hSw;go_simp;try with_reducible rfl
   try simp only [Ep]
   refine tq 1 25 rfl rfl ?_ ?_ ?_
   rotate_left
   ·intro W' hSw;obtain ⟨s0,s1,s2⟩:=hSw;go_simp;try with_reducible rfl
   try simp only [Ep]
   refine tq 2 26 rfl rfl ?_ ?_ ?_
   rotate_left
   ·intro W' hSw;obtain ⟨s0,s1,s2⟩:=hSw;go_simp;try with_reducible rfl
   try simp only [Ep]
   refine tq 3 27 rfl rfl ?_ ?_ ?_
   rotate_left
   ·intro W' hSw;obtain ⟨s0,s1,s2⟩:=hSw;go_simp;try with_reducible rfl
   try simp only [Ep]
   refine tq 4 28 rfl rfl ?_ ?_ ?_
   rotate_left
   ·intro W' hSw;obtain ⟨s0,s1,s2⟩:=hSw;go_simp;try with_reducible rfl
   try simp only [Ep]
   refine tq 5 29 rfl rfl ?_ ?_ ?_
   rotate_left
   ·intro W' hSw;obtain ⟨s0,s1,s2⟩:=hSw;go_simp;try with_reducible rfl
   try simp only [Ep]
   refine tq 6 30 rfl rfl ?_ ?_ ?_
   rotate_left
   ·intro W' hSw;obtain ⟨s0,s1,s2⟩:=hSw;go_simp;try with_reducible rfl
   try simp only [Ep]
   refine tu 7 31 rfl rfl ?_
   try simp only [Ep]
   refine tu 8 32 rfl rfl ?_
   try simp only [Ep]
   refine tu 9 33 rfl rfl ?_
   try simp only [Ep]
   refine tu 10 34 rfl rfl ?_
   try simp only [Ep]
   refine tu 11 35 rfl rfl ?_
   try simp only [Ep]
   refine tu 12 36 rfl rfl ?_
   try simp only [Ep]
   refine tu 13 37 rfl rfl ?_
   try simp only [Ep]
   refine tu 14 38 rfl rfl ?_
   try simp only [Ep]
   refine tu 15 39 rfl rfl ?_
   try simp only [Ep]
   refine tu 16 40 rfl rfl ?_
   try simp only [Ep]
   refine tq 17 41 rfl rfl ?_ ?_ ?_
   rotate_left
   ·intro W' hSw;obtain ⟨s0,s1,s2⟩:=hSw;go_simp;try with_reducible rfl
   try simp only [Ep]
   refine Dn ?_
   clear hHeld
   have r0:Hid (cntE c (RE.take (k+1))=cntE c (RE.take k)):=Lib.hid (by rw [k0.out];simp [evBr,hx])
   clear k0 u0
   go_wp2
   go_roundw
   case rel=>exact ⟨k+1,by omega,by go_num,by rw [r0.out],l0⟩
   case measure=>simp [intOf];omega
  have i2:k=RE.length:=by omega
  subst i2
  have b2:Hid (RE.take RE.length=RE):=Lib.hid (List.take_of_length_le (Nat.le_refl _))
  rw [b2.out] at y0 ⊢
  have tt:=g0
  go_wp2
  exact bodyPost_ret (v:=.tuple #[.int .i64 (cntE c RE),.bool RB]) (by simp [results,Try.results44,go_sem]) rfl (by exact ⟨rfl,tt⟩)
end Go.Proofs.Ytkjedgnepnbkpaa
