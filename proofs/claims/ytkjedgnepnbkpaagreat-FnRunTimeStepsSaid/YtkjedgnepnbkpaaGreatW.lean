/-
 Parts of the proofs of the laws FnCompactRegs,FnFenceCode,FnRunTimeSteps.
-/
import Derived.Test.YtkjedgnepnbkpaaGreatNK
import Derived.Test.YtkjedgnepnbkpaaGreatV
set_option maxHeartbeats 12800000
set_option maxRecDepth 100000
set_option linter.all false
namespace Go.Proofs.YtkjedgnepnbkpaaGreat
open Go.RowKit
theorem iCacheRun_any (v tv:Value) (xs:List Int) (l:List Ev) (w:World) (hr:Reads w 1 v xs.length (ints xs)) (ht:Reads w 2 tv l.length (evs l)) (hlen:l.length≤1073741824) :
  Calls Tryz.prog 64 #[.agg #[v],tv] w fun e w'=>∃ u b,e=.returned (.tuple #[.agg #[u],b,.bool (crunR xs l).2.2]) ∧
   w'.ownsRow w.heap.size 3 1 u (crunR xs l).1.length (ints (crunR xs l).1)∧w'.ownsRow w.heap.size 4 1 b (crunR xs l).2.1.length (bools (crunR xs l).2.1)∧Below w.heap.size w w':=by
 by_cases hok:cacheOk xs=true
 ·exact iCacheRun_ok v tv xs l w hr ht hok hlen
 rw [crunR_bad hok]
 refine (iCacheRun_bad v tv xs w hr hok).mono ?_
 rintro e w' ⟨rfl,hb⟩
 exact ⟨_,_,rfl,World.ownsRow_nil _ _ _ _,World.ownsRow_nil _ _ _ _,hb⟩
theorem sCacheRun_any (v tv:Value) (xs:List Int) (l:List Ev) (w:World) (hr:Reads w 1 v xs.length (ints xs)) (ht:Reads w 2 tv l.length (evs l)) (hlen:l.length≤1073741824) :
  Calls Tryz.prog 68 #[.agg #[v],tv] w fun e w'=>∃ u b,e=.returned (.tuple #[.agg #[u],b,.bool (crunR xs l).2.2]) ∧
   w'.ownsRow w.heap.size 3 1 u (crunR xs l).1.length (ints (crunR xs l).1)∧w'.ownsRow w.heap.size 4 1 b (crunR xs l).2.1.length (bools (crunR xs l).2.1)∧Below w.heap.size w w':=by
 by_cases hok:cacheOk xs=true
 ·exact sCacheRun_ok v tv xs l w hr ht hok hlen
 rw [crunR_bad hok]
 refine (sCacheRun_bad v tv xs w hr hok).mono ?_
 rintro e w' ⟨b,rfl,ho,hb⟩
 exact ⟨_,_,rfl,World.ownsRow_nil _ _ _ _,ho,hb⟩
def stepsOf (l:List Ev):Int:=(l.filter (fun e=>e.1 == 5)).length
def missOf (h:List Bool):Int:=(h.filter (fun b=>!b)).length
def traceT (xs:List Int) (l:List Ev):Int:=if (crunR xs l).2.2=true then stepsOf l+10*missOf (crunR xs l).2.1 else -1
theorem stepsOf_take (l:List Ev) (k:Nat) (h:k < l.length):stepsOf (l.take (k+1))=stepsOf (l.take k)+if (l[k].1 == 5)=true then 1 else 0:=by
 rw [List.take_succ_eq_append_getElem h];unfold stepsOf
 rw [List.filter_append]
 by_cases hx:(l[k].1 == 5)=true <;> simp [hx]
theorem missOf_take (l:List Bool) (k:Nat) (h:k < l.length):missOf (l.take (k+1))=missOf (l.take k)+if l[k]=true then 0 else 1:=by
 rw [List.take_succ_eq_append_getElem h];unfold missOf
 rw [List.filter_append]
 by_cases hx:l[k]=true <;> simp [hx]
theorem stepsOf_le (l:List Ev):0≤stepsOf l∧stepsOf l≤l.length:=by
 unfold stepsOf;have:=List.length_filter_le (fun e:Ev=>e.1 == 5) l;omega
theorem missOf_le (l:List Bool):0≤missOf l∧missOf l≤l.length:=by
 unfold missOf;have:=List.length_filter_le (fun b:Bool=>!b) l;omega
theorem crunR_hits (xs:List Int) (l:List Ev):(crunR xs l).2.1.length≤l.length∧(crunR xs l).1.length≤2:=by
 unfold crunR
 split
 ·rename_i hok
  split
  ·rename_i y h hr
   have:=crun_inv xs hok l y h hr
   exact ⟨this.2,by simp [cacheOk_len this.1]⟩
  simp
 simp
theorem iTraceTime_any (v tv:Value) (xs:List Int) (l:List Ev) (w:World) (hr:Reads w 1 v xs.length (ints xs)) (ht:Reads w 2 tv l.length (evs l)) (hlen:l.length≤1073741824) :
  Calls Tryz.prog 25 #[.agg #[v],tv] w fun e w'=>e=.returned (.int .i64 (traceT xs l))∧Below w.heap.size w w':=by
 have hR:=crunR_hits xs l
 have j0:=fun W h1 h2=>iCacheRun_any v tv xs l W h1 h2 hlen
 have hT:traceT xs l=if (crunR xs l).2.2=true then stepsOf l+10*missOf (crunR xs l).2.1 else -1:=rfl
 generalize crunR xs l=R at *
 obtain ⟨ys,a0,ok⟩:=R
 simp only at hR j0 hT
 obtain ⟨hh,hy⟩:=hR
 generalize hTT:traceT xs l=T at *
 have HT:=Lib.hid hT
 have HC:=Lib.hid j0
 clear hT j0 hTT
 obtain ⟨va,vc,rfl⟩:=reads_shape hr
 have h0:=ht
 obtain ⟨_,hn,a,z0,tb,f0,rfl,w0,ha,p0⟩:=ht
 have HE:=Lib.hid (reads_ev p0)
 clear p0
 have d0:=bal (Bs w) (.cells #[.slice va xs.length vc] 56)
 cases ok with
 | false =>
  go_enter Tryz.func25,Tryz.ntmps25
  go_wp2_with fail
  refine (HC.out _ (hr.below d0) (h0.below d0)).mono ?_
  rintro e w1 ⟨u,b,rfl,o1,o2,e0⟩
  obtain ⟨ua,uc,rfl⟩:=Oh o1
  have x0:=bal (btr d0 e0) (.cells #[.slice ua ys.length uc] 56)
  clear o1 o2 e0 d0 hr h0
  go_wp2
  go_ret
  exact ⟨ret_int (by rw [HT.out];rfl),x0⟩
 | true =>
  go_enter Tryz.func25,Tryz.ntmps25
  go_wp2_with fail
  refine (HC.out _ (hr.below d0) (h0.below d0)).mono ?_
  rintro e w1 ⟨u,b,rfl,o1,o2,e0⟩
  obtain ⟨ua,uc,rfl⟩:=Oh o1
  have g0:=btr d0 e0
  clear o1 e0 d0 hr h0
  have y0:=Oh o2
  obtain ⟨ba,bc,rfl⟩:=y0
  go_wp2
  go_loopw [8,24] (fun t i wr=>∃ k:Nat,k≤l.length∧i=.int .i64 k∧t=.int .i64 (stepsOf (l.take k))∧Below w1.heap.size w1 wr) (fun _ i _=>l.length-(intOf i).toNat)
  case atStart=>exact ⟨0,Nat.zero_le _,rfl,rfl,bal (Bs w1) _⟩
  case round =>
   obtain ⟨k,hk,rfl,rfl,hb⟩:=hrel
   have l0:=stepsOf_le (l.take k)
   obtain ⟨e1,r0⟩:=l0
   have f1:stepsOf (l.take k)≤1073741824:=by simp at r0;omega
   clear r0
   by_cases hlt:k < l.length
   ·obtain ⟨rfl,s0⟩:=ha (by omega)
    obtain ⟨c1,c2⟩:=HE.out k hlt
    have c1:=((btr g0 hb).cell (p:=⟨tb,f0+k*2,none⟩) s0).trans c1
    have c2:=((btr g0 hb).cell (p:=⟨tb,f0+k*2+1,none⟩) s0).trans c2
    have b0:=stepsOf_take l k hlt
    generalize l[k]=ev at c1 c2 b0
    obtain ⟨kd,va⟩:=ev
    simp only at c1 c2 b0
    by_cases h5:(kd == 5)=true
    ·rw [if_pos h5] at b0
     have HS:=Lib.hid b0
     clear b0 HE ha o2
     generalize stepsOf (l.take k)=S at *
     go_wp2
     go_roundw
     case rel=>exact ⟨k+1,by omega,by go_num,by rw [HS.out],bal hb _⟩
     case measure=>simp [intOf];omega
    rw [if_neg h5] at b0
    have h5:(kd == 5)=false:=by simpa using h5
    have HS:=Lib.hid b0
    clear b0 HE ha o2
    generalize stepsOf (l.take k)=S at *
    go_wp2
    go_roundw
    case rel=>exact ⟨k+1,by omega,by go_num,by rw [HS.out];simp,bal hb _⟩
    case measure=>simp [intOf];omega
   have e:k=l.length:=by omega
   subst e
   have HS:=Lib.hid (congrArg stepsOf (List.take_length (l:=l)))
   generalize stepsOf (l.take l.length)=S at *
   have rb:=Ro (Ob o2 hb) (by omega)
   obtain ⟨_,a1,ba',bc',bb,u0,n0,m0,k0,c0⟩:=rb
   simp only [Value.slice.injEq,true_and] at n0
   obtain ⟨rfl,rfl⟩:=n0
   have i0:=Lib.hid c0
   have v0:=btr g0 hb
   clear c0 HE ha o2 hb g0
   go_wp2
   go_loopw [8,37] (fun t i wz=>∃ k:Nat,k≤a0.length∧i=.int .i64 k∧t=.int .i64 (S+10*missOf (a0.take k))∧wz=wr) (fun _ i _=>a0.length-(intOf i).toNat)
   case atStart=>exact ⟨0,Nat.zero_le _,rfl,by simp [missOf],rfl⟩
   case round =>
    obtain ⟨k,hk,rfl,rfl,rfl⟩:=hrel
    have l0:=missOf_le (a0.take k)
    obtain ⟨b1,q0⟩:=l0
    have d1:missOf (a0.take k)≤1073741824:=by simp at q0;omega
    clear q0
    by_cases hlt:k < a0.length
    ·obtain ⟨rfl,_⟩:=k0 (by omega)
     have o0:=i0.out k (by simpa [bools] using hlt)
     rw [bools_get] at o0
     have b0:=missOf_take a0 k hlt
     clear k0 i0
     generalize a0[k]=bt at o0 b0
     have t0:=Lib.hid b0
     clear b0
     generalize missOf (a0.take k)=M at *
     cases bt
     all_goals
      go_wp2
      go_roundw
      case rel=>exact ⟨k+1,by omega,by go_num,by rw [t0.out];first | (congr 1;simp;omega) | (congr 1;simp),trivial⟩
      case measure=>simp [intOf];omega
    have e:k=a0.length:=by omega
    subst e
    have HM:=Lib.hid (congrArg missOf (List.take_length (l:=a0)))
    generalize missOf (a0.take a0.length)=M at *
    clear i0 k0
    go_wp2
    go_ret
    exact ⟨ret_int (by rw [HT.out,if_pos trivial,← HS.out,← HM.out]),v0⟩
theorem sTraceTime_any (v tv:Value) (xs:List Int) (l:List Ev) (w:World) (hr:Reads w 1 v xs.length (ints xs)) (ht:Reads w 2 tv l.length (evs l)) (hlen:l.length≤1073741824) :
  Calls Tryz.prog 28 #[.agg #[v],tv] w fun e w'=>e=.returned (.int .i64 (traceT xs l))∧Below w.heap.size w w':=by
 have hR:=crunR_hits xs l
 have j0:=fun W h1 h2=>sCacheRun_any v tv xs l W h1 h2 hlen
 have hT:traceT xs l=if (crunR xs l).2.2=true then stepsOf l+10*missOf (crunR xs l).2.1 else -1:=rfl
 generalize crunR xs l=R at *
 obtain ⟨ys,a0,ok⟩:=R
 simp only at hR j0 hT
 obtain ⟨hh,hy⟩:=hR
 generalize hTT:traceT xs l=T at *
 have HT:=Lib.hid hT
 have HC:=Lib.hid j0
 clear hT j0 hTT
 obtain ⟨va,vc,rfl⟩:=reads_shape hr
 have h0:=ht
 obtain ⟨_,hn,a,z0,tb,f0,rfl,w0,ha,p0⟩:=ht
 have HE:=Lib.hid (reads_ev p0)
 clear p0
 have d0:=bal (Bs w) (.cells #[.slice va xs.length vc] 56)
 cases ok with
 | false =>
  go_enter Tryz.func28,Tryz.ntmps28
  go_wp2_with fail
  refine (HC.out _ (hr.below d0) (h0.below d0)).mono ?_
  rintro e w1 ⟨u,b,rfl,o1,o2,e0⟩
  obtain ⟨ua,uc,rfl⟩:=Oh o1
  have x0:=bal (btr d0 e0) (.cells #[.slice ua ys.length uc] 56)
  clear o1 o2 e0 d0 hr h0
  go_wp2
  go_ret
  exact ⟨ret_int (by rw [HT.out];rfl),x0⟩
 | true =>
  go_enter Tryz.func28,Tryz.ntmps28
  go_wp2_with fail
  refine (HC.out _ (hr.below d0) (h0.below d0)).mono ?_
  rintro e w1 ⟨u,b,rfl,o1,o2,e0⟩
  obtain ⟨ua,uc,rfl⟩:=Oh o1
  have g0:=btr d0 e0
  clear o1 e0 d0 hr h0
  have y0:=Oh o2
  obtain ⟨ba,bc,rfl⟩:=y0
  go_wp2
  go_loopw [8,9] (fun t i wr=>∃ k:Nat,k≤l.length∧i=.int .i64 k∧t=.int .i64 (stepsOf (l.take k))∧Below w1.heap.size w1 wr) (fun _ i _=>l.length-(intOf i).toNat)
  case atStart=>exact ⟨0,Nat.zero_le _,rfl,rfl,bal (Bs w1) _⟩
  case round =>
   obtain ⟨k,hk,rfl,rfl,hb⟩:=hrel
   have l0:=stepsOf_le (l.take k)
   obtain ⟨e1,r0⟩:=l0
   have f1:stepsOf (l.take k)≤1073741824:=by simp at r0;omega
   clear r0
   by_cases hlt:k < l.length
   ·obtain ⟨rfl,s0⟩:=ha (by omega)
    obtain ⟨c1,c2⟩:=HE.out k hlt
    have c1:=((btr g0 hb).cell (p:=⟨tb,f0+k*2,none⟩) s0).trans c1
    have c2:=((btr g0 hb).cell (p:=⟨tb,f0+k*2+1,none⟩) s0).trans c2
    have b0:=stepsOf_take l k hlt
    generalize l[k]=ev at c1 c2 b0
    obtain ⟨kd,va⟩:=ev
    simp only at c1 c2 b0
    by_cases h5:(kd == 5)=true
    ·rw [if_pos h5] at b0
     have HS:=Lib.hid b0
     clear b0 HE ha o2
     generalize stepsOf (l.take k)=S at *
     go_wp2
     go_roundw
     case rel=>exact ⟨k+1,by omega,by go_num,by rw [HS.out],hb⟩
     case measure=>simp [intOf];omega
    rw [if_neg h5] at b0
    have h5:(kd == 5)=false:=by simpa using h5
    have HS:=Lib.hid b0
    clear b0 HE ha o2
    generalize stepsOf (l.take k)=S at *
    go_wp2
    go_roundw
    case rel=>exact ⟨k+1,by omega,by go_num,by rw [HS.out];simp,hb⟩
    case measure=>simp [intOf];omega
   have e:k=l.length:=by omega
   subst e
   have HS:=Lib.hid (congrArg stepsOf (List.take_length (l:=l)))
   generalize stepsOf (l.take l.length)=S at *
   have rb:=Ro (Ob o2 hb) (by omega)
   obtain ⟨_,a1,ba',bc',bb,u0,n0,m0,k0,c0⟩:=rb
   simp only [Value.slice.injEq,true_and] at n0
   obtain ⟨rfl,rfl⟩:=n0
   have i0:=Lib.hid c0
   have v0:=btr g0 hb
   clear c0 HE ha o2 hb g0
   go_wp2
   go_loopw [8,10] (fun t i wz=>∃ k:Nat,k≤a0.length∧i=.int .i64 k∧t=.int .i64 (S+10*missOf (a0.take k))∧wz=wr) (fun _ i _=>a0.length-(intOf i).toNat)
   case atStart=>exact ⟨0,Nat.zero_le _,rfl,by simp [missOf],rfl⟩
   case round =>
    obtain ⟨k,hk,rfl,rfl,rfl⟩:=hrel
    have l0:=missOf_le (a0.take k)
    obtain ⟨b1,q0⟩:=l0
    have d1:missOf (a0.take k)≤1073741824:=by simp at q0;omega
    clear q0
    by_cases hlt:k < a0.length
    ·obtain ⟨rfl,_⟩:=k0 (by omega)
     have o0:=i0.out k (by simpa [bools] using hlt)
     rw [bools_get] at o0
     have b0:=missOf_take a0 k hlt
     clear k0 i0
     generalize a0[k]=bt at o0 b0
     have t0:=Lib.hid b0
     clear b0
     generalize missOf (a0.take k)=M at *
     cases bt
     all_goals
      go_wp2
      go_roundw
      case rel=>exact ⟨k+1,by omega,by go_num,by rw [t0.out];first | (congr 1;simp;omega) | (congr 1;simp),trivial⟩
      case measure=>simp [intOf];omega
    have e:k=a0.length:=by omega
    subst e
    have HM:=Lib.hid (congrArg missOf (List.take_length (l:=a0)))
    generalize missOf (a0.take a0.length)=M at *
    clear i0 k0
    go_wp2
    go_ret
    exact ⟨ret_int (by rw [HT.out,if_pos trivial,← HS.out,← HM.out]),v0⟩
def rtR (c:Cd) (m:Mm):Int × Bool:=if runB c m=true then (traceT [-1,-1] (runE c m),true) else (0,false)
theorem rt_no {c:Cd} {m:Mm} (h:runB c m=false):rtR c m=(0,false):=by unfold rtR;rw [h];rfl
theorem rt_yes {c:Cd} {m:Mm} (h:runB c m=true):rtR c m=(traceT [-1,-1] (runE c m),true):=by unfold rtR;rw [h];rfl
theorem iRunTime_any (va vb vc vx vy:Value) (c:Cd) (m:Mm) (w:World) (hr:ReadsC w va vb vc c) (hm:ReadsM w vx vy m) (hl:m.vals.length≤1048576) (hn:m.arrs.length≤1048576) (hp:pre2 m.arrs m.arrs.length≤1048576) :
  Calls Tryz.prog 7 #[.agg #[va,vb,vc],.agg #[vx,vy]] w fun e w'=>e=.returned (.tuple #[.int .i64 (rtR c m).1,.bool (rtR c m).2])∧Below w.heap.size w w':=by
 obtain ⟨a0,c0,a1,c1,a2,c2,rfl,rfl,rfl⟩:=hr.shape
 obtain ⟨a3,c3,a4,c4,rfl,rfl⟩:=hm.shape
 have u0:=runE_len c m;have HY:=Lib.hid (fun h=>rt_yes (c:=c) (m:=m) h);have HN:=Lib.hid (fun h=>rt_no (c:=c) (m:=m) h)
 have d0:=Lib.hid (iRunCode_any _ _ _ _ _ c m _ (hr.below (bal (bal (Bs w) (.cells #[.slice a0 c.vars.length c0,.slice a1 c.arrays.length c1,.slice a2 c.list.length c2] 26)) (.cells #[.slice a3 m.vals.length c3,.slice a4 m.arrs.length c4] 29))) (hm.below (bal (bal (Bs w) (.cells #[.slice a0 c.vars.length c0,.slice a1 c.arrays.length c1,.slice a2 c.list.length c2] 26)) (.cells #[.slice a3 m.vals.length c3,.slice a4 m.arrs.length c4] 29))) hl hn hp)
 clear hr hm hl hn hp
 generalize rtR c m=RT at *;generalize runE c m=RE at *;generalize runM c m=RM at *;generalize runB c m=RB at *
 go_enter Tryz.func7,Tryz.ntmps7
 go_wp2_with fail
 refine (d0.out).mono ?_
 rintro e w1 ⟨ux,uy,us,u,rfl,t0,hE,hb⟩
 obtain ⟨p0,q0,p1,q1,rfl,rfl⟩:=t0.shape
 obtain ⟨pu,qu,rfl⟩:=Oh hE
 clear d0
 have h0:=hb.size
 simp only [Sa] at h0
 have l0:w1.cell? ⟨w.heap.size,0,none⟩=some (.slice a0 c.vars.length c0):=Kc hb (Ac (Wc (by simp) (by rfl)) _)
 have m0:w1.cell? ⟨w.heap.size,1,none⟩=some (.slice a1 c.arrays.length c1):=Kc hb (Ac (Wc (by simp) (by rfl)) _)
 have n0:w1.cell? ⟨w.heap.size,2,none⟩=some (.slice a2 c.list.length c2):=Kc hb (Ac (Wc (by simp) (by rfl)) _)
 have o0:w1.cell? ⟨w.heap.size+1,0,none⟩=some (.slice a3 m.vals.length c3):=Kc hb (Wc (by simp) (by rfl))
 have r0:w1.cell? ⟨w.heap.size+1,1,none⟩=some (.slice a4 m.arrs.length c4):=Kc hb (Wc (by simp) (by rfl))
 have b0:=btr (bal (bal (Bs w) (.cells #[.slice a0 c.vars.length c0,.slice a1 c.arrays.length c1,.slice a2 c.list.length c2] 26)) (.cells #[.slice a3 m.vals.length c3,.slice a4 m.arrs.length c4] 29)) hb
 clear hb
 clear l0 m0 n0 o0 r0
 have v0:=hE.lt
 try simp only [Sa] at v0
 cases RB with
 | false =>
  have HR:=Lib.hid (HN.out rfl);clear HN HY
  have tt:=(bal b0 (.cells #[.slice p0 RM.vals.length q0,.slice p1 RM.arrs.length q1] 29))
  go_wp2
  exact bodyPost_ret (v:=.tuple #[.int .i64 0,.bool false]) (by simp [results,Tryz.results7,go_sem]) rfl (by exact by rw [HR.out];exact ⟨rfl,tt⟩)
 | true =>
  have HR:=Lib.hid (HY.out rfl);clear HN HY
  go_wp2_with fail
  refine (iEmpty_any _).mono ?_
  rintro e w2 ⟨ve,rfl,oe,hb⟩
  obtain ⟨pe,qe,rfl⟩:=Oh oe
  have i0:=hb.size
  simp only [Sa] at i0
  replace hE:=Ob (Ob hE (bal (Bs _) _)) hb
  have s0:w2.cell? ⟨w1.heap.size,0,none⟩=some (.slice p0 RM.vals.length q0):=Kc hb (Wc (by simp) (by rfl))
  have e0:w2.frozen? ⟨w1.heap.size,0,none⟩=false:=Kf hb (by simp) (Fn (by simp))
  have g0:w2.cell? ⟨w1.heap.size,1,none⟩=some (.slice p1 RM.arrs.length q1):=Kc hb (Wc (by simp) (by rfl))
  have f0:w2.frozen? ⟨w1.heap.size,1,none⟩=false:=Kf hb (by simp) (Fn (by simp))
  replace b0:=btr (bal b0 _) hb
  clear hb
  clear s0 e0 g0 f0
  have j0:=oe.lt
  try simp only [Sa] at j0
  go_wp2_with fail
  refine (iTraceTime_any _ _ [-1,-1] RE _ (Ro oe (by simp)) (Ro hE (by omega)) (by omega)).mono ?_
  rintro e w3 ⟨rfl,hb⟩
  have k0:=hb.size
  replace hE:=Ob hE hb
  replace oe:=Ob oe hb
  replace b0:=btr b0 hb
  clear hb
  have tt:=b0
  go_wp2
  exact bodyPost_ret (v:=.tuple #[.int .i64 (traceT [-1,-1] RE),.bool true]) (by simp [results,Tryz.results7,go_sem]) rfl (by exact by rw [HR.out];exact ⟨rfl,tt⟩)
theorem sRunTime_any (va vb vc vx vy:Value) (c:Cd) (m:Mm) (w:World) (hr:ReadsC w va vb vc c) (hm:ReadsM w vx vy m) (hl:m.vals.length≤1048576) (hn:m.arrs.length≤1048576) (hp:pre2 m.arrs m.arrs.length≤1048576) :
  Calls Tryz.prog 8 #[.agg #[va,vb,vc],.agg #[vx,vy]] w fun e w'=>e=.returned (.tuple #[.int .i64 (rtR c m).1,.bool (rtR c m).2])∧Below w.heap.size w w':=by
 obtain ⟨a0,c0,a1,c1,a2,c2,rfl,rfl,rfl⟩:=hr.shape
 obtain ⟨a3,c3,a4,c4,rfl,rfl⟩:=hm.shape
 have u0:=runE_len c m;have HY:=Lib.hid (fun h=>rt_yes (c:=c) (m:=m) h);have HN:=Lib.hid (fun h=>rt_no (c:=c) (m:=m) h)
 have d0:=Lib.hid (sRunCode_any _ _ _ _ _ c m _ (hr.below (bal (bal (Bs w) (.cells #[.slice a0 c.vars.length c0,.slice a1 c.arrays.length c1,.slice a2 c.list.length c2] 26)) (.cells #[.slice a3 m.vals.length c3,.slice a4 m.arrs.length c4] 29))) (hm.below (bal (bal (Bs w) (.cells #[.slice a0 c.vars.length c0,.slice a1 c.arrays.length c1,.slice a2 c.list.length c2] 26)) (.cells #[.slice a3 m.vals.length c3,.slice a4 m.arrs.length c4] 29))) hl hn hp)
 clear hr hm hl hn hp
 generalize rtR c m=RT at *;generalize runE c m=RE at *;generalize runM c m=RM at *;generalize runB c m=RB at *
 go_enter Tryz.func8,Tryz.ntmps8
 go_wp2_with fail
 refine (d0.out).mono ?_
 rintro e w1 ⟨ux,uy,us,u,rfl,t0,hE,hb⟩
 obtain ⟨p0,q0,p1,q1,rfl,rfl⟩:=t0.shape
 obtain ⟨pu,qu,rfl⟩:=Oh hE
 clear d0
 have h0:=hb.size
 simp only [Sa] at h0
 have l0:w1.cell? ⟨w.heap.size,0,none⟩=some (.slice a0 c.vars.length c0):=Kc hb (Ac (Wc (by simp) (by rfl)) _)
 have m0:w1.cell? ⟨w.heap.size,1,none⟩=some (.slice a1 c.arrays.length c1):=Kc hb (Ac (Wc (by simp) (by rfl)) _)
 have n0:w1.cell? ⟨w.heap.size,2,none⟩=some (.slice a2 c.list.length c2):=Kc hb (Ac (Wc (by simp) (by rfl)) _)
 have o0:w1.cell? ⟨w.heap.size+1,0,none⟩=some (.slice a3 m.vals.length c3):=Kc hb (Wc (by simp) (by rfl))
 have r0:w1.cell? ⟨w.heap.size+1,1,none⟩=some (.slice a4 m.arrs.length c4):=Kc hb (Wc (by simp) (by rfl))
 have b0:=btr (bal (bal (Bs w) (.cells #[.slice a0 c.vars.length c0,.slice a1 c.arrays.length c1,.slice a2 c.list.length c2] 26)) (.cells #[.slice a3 m.vals.length c3,.slice a4 m.arrs.length c4] 29)) hb
 clear hb
 clear l0 m0 n0 o0 r0
 have v0:=hE.lt
 try simp only [Sa] at v0
 cases RB with
 | false =>
  have HR:=Lib.hid (HN.out rfl);clear HN HY
  have tt:=(bal b0 (.cells #[.slice p0 RM.vals.length q0,.slice p1 RM.arrs.length q1] 29))
  go_wp2
  exact bodyPost_ret (v:=.tuple #[.int .i64 0,.bool false]) (by simp [results,Tryz.results8,go_sem]) rfl (by exact by rw [HR.out];exact ⟨rfl,tt⟩)
 | true =>
  have HR:=Lib.hid (HY.out rfl);clear HN HY
  go_wp2_with fail
  refine (sEmpty_any _).mono ?_
  rintro e w2 ⟨ve,rfl,oe,hb⟩
  obtain ⟨pe,qe,rfl⟩:=Oh oe
  have i0:=hb.size
  simp only [Sa] at i0
  replace hE:=Ob (Ob hE (bal (Bs _) _)) hb
  have s0:w2.cell? ⟨w1.heap.size,0,none⟩=some (.slice p0 RM.vals.length q0):=Kc hb (Wc (by simp) (by rfl))
  have e0:w2.frozen? ⟨w1.heap.size,0,none⟩=false:=Kf hb (by simp) (Fn (by simp))
  have g0:w2.cell? ⟨w1.heap.size,1,none⟩=some (.slice p1 RM.arrs.length q1):=Kc hb (Wc (by simp) (by rfl))
  have f0:w2.frozen? ⟨w1.heap.size,1,none⟩=false:=Kf hb (by simp) (Fn (by simp))
  replace b0:=btr (bal b0 _) hb
  clear hb
  clear s0 e0 g0 f0
  have j0:=oe.lt
  try simp only [Sa] at j0
  go_wp2_with fail
  refine (sTraceTime_any _ _ [-1,-1] RE _ (Ro oe (by simp)) (Ro hE (by omega)) (by omega)).mono ?_
  rintro e w3 ⟨rfl,hb⟩
  have k0:=hb.size
  replace hE:=Ob hE hb
  replace oe:=Ob oe hb
  replace b0:=btr b0 hb
  clear hb
  have tt:=b0
  go_wp2
  exact bodyPost_ret (v:=.tuple #[.int .i64 (traceT [-1,-1] RE),.bool true]) (by simp [results,Tryz.results8,go_sem]) rfl (by exact by rw [HR.out];exact ⟨rfl,tt⟩)
end Go.Proofs.YtkjedgnepnbkpaaGreat
