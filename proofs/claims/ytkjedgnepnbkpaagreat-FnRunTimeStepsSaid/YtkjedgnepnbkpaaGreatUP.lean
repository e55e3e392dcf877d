/-
 Parts of the proofs of the laws FnCompactRegs,FnFenceCode,FnRunTimeSteps.
-/
import Derived.Test.YtkjedgnepnbkpaaGreatZU
import Derived.Test.YtkjedgnepnbkpaaGreatW
import Derived.Test.YtkjedgnepnbkpaaGreatZF
set_option maxHeartbeats 12800000
set_option maxRecDepth 100000
set_option linter.all false
namespace Go.Proofs.YtkjedgnepnbkpaaGreat
open Go.RowKit
theorem DrawRunTime_any (v:Value) (n:Nat) (vs:List Int) (w:World) (hr:Reads w 1 v n (vs.map (Value.int .u8))) (hv:∀ x ∈ vs,0≤x∧x < 256) (hn:n≤1048576) :
  Calls Tryz.prog 6 #[v] w fun r w'=>DrawCMP w r w':=by
 go_enter Tryz.func6,Tryz.ntmps6
 go_wp2_with fail
 refine (DrawRunCode_any v n vs _ (hr.below (bal (bal (Bs w) (.cells #[.slice none 0 0,.slice none 0 0,.slice none 0 0] 26)) (.cells #[.slice none 0 0,.slice none 0 0] 29))) hv hn).mono ?_
 rintro e w1 ⟨va,vb,vc,vx,vy,nv,na,nl,m,rfl,d0,m0,hm,hb⟩
 obtain ⟨a0,c0,a1,c1,a2,c2,rfl,rfl,rfl⟩:=d0.shape
 obtain ⟨a3,c3,a4,c4,rfl,rfl⟩:=hm.reads.shape
 simp only [Sa] at d0 hm
 clear hr hv
 have e0:=hb.size
 simp only [Sa] at e0
 have i0:Bk w1 (w.heap.size) [.slice none 0 0,.slice none 0 0,.slice none 0 0]:=Bk.below (Bk.al (Bk.nw (by simp) rfl) (.cells #[.slice none 0 0,.slice none 0 0] 29)) hb
 have j0:Bk w1 (w.heap.size+1) [.slice none 0 0,.slice none 0 0]:=Bk.below (Bk.nw (by simp) rfl) hb
 have t0:=btr (bal (bal (Bs w) (.cells #[.slice none 0 0,.slice none 0 0,.slice none 0 0] 26)) (.cells #[.slice none 0 0,.slice none 0 0] 29)) hb
 clear hb
 have z0:=Bk.lz i0
 have b1:=Bk.lz j0
 have b0:=d0.lt
 try simp only [Sa] at b0
 have k0:=Lib.hid (DrawC.mono (((((d0.keep (C1 (w.heap.size) 0 (.slice a0 nv c0)) (fun gq h h2=>by have:=b0 gq h;omega)).keep (C1 (w.heap.size) 1 (.slice a1 na c1)) (fun gq h h2=>by have:=b0 gq h;omega)).keep (C1 (w.heap.size) 2 (.slice a2 nl c2)) (fun gq h h2=>by have:=b0 gq h;omega)).keep (C1 (w.heap.size+1) 0 (.slice a3 m.vals.length c3)) (fun gq h h2=>by have:=b0 gq h;omega)).keep (C1 (w.heap.size+1) 1 (.slice a4 m.arrs.length c4)) (fun gq h h2=>by have:=b0 gq h;omega)) (show w.heap.size≤w.heap.size+1+1 by omega))
 have l0:=Lib.hid (DrM.mono (((((hm.keep (C1 (w.heap.size) 0 (.slice a0 nv c0)) (fun gq h h2=>by have:=(fun q (h:w.heap.size+1+1≤q)=>h) gq h;omega)).keep (C1 (w.heap.size) 1 (.slice a1 na c1)) (fun gq h h2=>by have:=(fun q (h:w.heap.size+1+1≤q)=>h) gq h;omega)).keep (C1 (w.heap.size) 2 (.slice a2 nl c2)) (fun gq h h2=>by have:=(fun q (h:w.heap.size+1+1≤q)=>h) gq h;omega)).keep (C1 (w.heap.size+1) 0 (.slice a3 m.vals.length c3)) (fun gq h h2=>by have:=(fun q (h:w.heap.size+1+1≤q)=>h) gq h;omega)).keep (C1 (w.heap.size+1) 1 (.slice a4 m.arrs.length c4)) (fun gq h h2=>by have:=(fun q (h:w.heap.size+1+1≤q)=>h) gq h;omega)) (show w.heap.size≤w.heap.size+1+1 by omega))
 clear hm
 clear d0
 obtain ⟨n0,d1,o0,p0,f0,q0⟩:=Bk.f3 i0 0 1 2 rfl rfl rfl
 obtain ⟨g0,r0,h0,s0⟩:=Bk.f2 j0 0 1 rfl rfl
 have u0:=(Nn (b:=(w.heap.size+1)) (j:=1) (Nn (b:=(w.heap.size+1)) (j:=0) (Nn (b:=(w.heap.size)) (j:=2) (Nn (b:=(w.heap.size)) (j:=1) (Tc _ (w.heap.size) 0 (.slice a0 nv c0) n0) (.slice a1 na c1)) (.slice a2 nl c2)) (.slice a3 m.vals.length c3)) (.slice a4 m.arrs.length c4))
 have v0:=(Nn (b:=(w.heap.size+1)) (j:=1) (Nn (b:=(w.heap.size+1)) (j:=0) (Nn (b:=(w.heap.size)) (j:=2) (Tc _ (w.heap.size) 1 (.slice a1 na c1) (Nn (b:=(w.heap.size)) (j:=0) o0 (.slice a0 nv c0))) (.slice a2 nl c2)) (.slice a3 m.vals.length c3)) (.slice a4 m.arrs.length c4))
 have w0:=(Nn (b:=(w.heap.size+1)) (j:=1) (Nn (b:=(w.heap.size+1)) (j:=0) (Tc _ (w.heap.size) 2 (.slice a2 nl c2) (Nn (b:=(w.heap.size)) (j:=1) (Nn (b:=(w.heap.size)) (j:=0) f0 (.slice a0 nv c0)) (.slice a1 na c1))) (.slice a3 m.vals.length c3)) (.slice a4 m.arrs.length c4))
 have x0:=(Nn (b:=(w.heap.size+1)) (j:=1) (Tc _ (w.heap.size+1) 0 (.slice a3 m.vals.length c3) (Nn (b:=(w.heap.size)) (j:=2) (Nn (b:=(w.heap.size)) (j:=1) (Nn (b:=(w.heap.size)) (j:=0) g0 (.slice a0 nv c0)) (.slice a1 na c1)) (.slice a2 nl c2))) (.slice a4 m.arrs.length c4))
 have y0:=(Tc _ (w.heap.size+1) 1 (.slice a4 m.arrs.length c4) (Nn (b:=(w.heap.size+1)) (j:=0) (Nn (b:=(w.heap.size)) (j:=2) (Nn (b:=(w.heap.size)) (j:=1) (Nn (b:=(w.heap.size)) (j:=0) h0 (.slice a0 nv c0)) (.slice a1 na c1)) (.slice a2 nl c2)) (.slice a3 m.vals.length c3)))
 have tt:=(bst (bst (bst (bst (bst t0 (w.heap.size) 0 (by omega) (.slice a0 nv c0)) (w.heap.size) 1 (by omega) (.slice a1 na c1)) (w.heap.size) 2 (by omega) (.slice a2 nl c2)) (w.heap.size+1) 0 (by omega) (.slice a3 m.vals.length c3)) (w.heap.size+1) 1 (by omega) (.slice a4 m.arrs.length c4))
 go_wp2
 exact bodyPost_ret (v:=.tuple #[.agg #[.slice a0 nv c0,.slice a1 na c1,.slice a2 nl c2],.agg #[.slice a3 m.vals.length c3,.slice a4 m.arrs.length c4]]) (by simp [results,Tryz.results6,go_sem,u0,v0,w0,x0,y0]) rfl (by exact (by unfold DrawCMP;exact ⟨_,_,_,_,_,_,_,_,m,rfl,k0.out,m0,l0.out,tt⟩))
def five (L:List Ev):Nat:=(L.filter (fun e=>e.1 == 5)).length
theorem five_app (a b:List Ev):five (a++b)=five a+five b:=by unfold five;rw [List.filter_append,List.length_append]
theorem crun_all:∀ (l:List Ev) (s:List Int × List Bool),(∀ e ∈ l,touches e=true→isAddr e.2=true)→∃ s',l.foldlM cstep s=some s'∧s'.2.length=s.2.length+(l.filter touches).length:=by
 intro l
 induction l with
 | nil=>intro s _;exact ⟨s,rfl,by simp⟩
 | cons e l ih =>
  intro s h
  have hl:∀ e ∈ l,touches e=true→isAddr e.2=true:=fun x hx=>h x (List.mem_cons_of_mem _ hx)
  rw [List.foldlM_cons]
  by_cases ht:touches e=true
  ·have ha:=h e List.mem_cons_self ht
   obtain ⟨s',h1,h2⟩:=ih (accL s.1 e.2,s.2++[accH s.1 e.2]) hl
   refine ⟨s',?_,?_⟩
   ·unfold cstep at h1 ⊢
    rw [if_pos ht,if_pos ha];exact h1
   rw [h2,List.filter_cons,if_pos ht];simp;omega
  obtain ⟨s',h1,h2⟩:=ih s hl
  refine ⟨s',?_,?_⟩
  ·unfold cstep at h1 ⊢
   rw [if_neg ht];exact h1
  rw [h2,List.filter_cons,if_neg ht]
theorem touch_prj (l:List Ev):(l.filter touches).length≤(prj l).length:=by
 unfold prj
 induction l with
 | nil=>exact Nat.le_refl _
 | cons e l ih =>
  rw [List.filter_cons,List.filter_cons]
  by_cases ht:touches e=true
  ·have:wi e.1 2 4=true:=by
    have h2:e.1=2∨e.1=3:=of_decide_eq_true ht
    exact decide_eq_true (by omega)
   rw [if_pos ht,if_pos this];simp;exact ih
  rw [if_neg ht]
  split
  ·simp;omega
  exact ih
theorem stEvs_addr {c:Cd} {s:Ms} (hok:codeOk c=true) (h:MsOk c s):∀ e ∈ stEvs (insAt c s.pc) s,touches e=true→isAddr e.2=true:=by
 intro e he ht
 obtain ⟨k,c0⟩:∃ k:Nat,s.pc=k:=⟨s.pc.toNat,by have:=h.pc0;omega⟩
 have hk:k < c.list.length:=by have:=h.pc1;omega
 have hi:insAt c s.pc=c.list[k]:=by rw [c0];unfold insAt;rw [Int.toNat_natCast,List.getElem?_eq_getElem hk];rfl
 rw [hi] at he
 have a0:=codeOk_all hok k hk
 have hd:=(declOk_len (codeOk_decl hok)).2
 generalize c.list[k]=x at *
 obtain ⟨op,a,b,d,f⟩:=x
 obtain ⟨P1,P2,P3,P4,P5,P6,P7,P8,P9,d0,e0⟩:=ins_parts a0
 have b0:e.1=2∨e.1=3:=of_decide_eq_true ht
 rw [stEvs_acc,List.mem_cons] at he
 rcases he with rfl | he
 ·simp at b0
 unfold accE at he
 simp only at he
 by_cases h4:op=4
 ·rw [if_pos h4,List.mem_singleton] at he
  subst he
  have:=P4 h4
  unfold isAddr adr
  simp only
  exact decide_eq_true (by omega)
 rw [if_neg h4] at he
 by_cases h5:op=5
 ·rw [if_pos h5,List.mem_singleton] at he
  subst he
  have:=P5 h5
  unfold isAddr adr
  simp only
  exact decide_eq_true (by omega)
 rw [if_neg h5] at he
 by_cases h11:op=11
 ·rw [if_pos h11,List.mem_singleton] at he
  subst he;simp at b0
 rw [if_neg h11] at he;cases he
theorem evN_addr {c:Cd} {s:Ms} (hok:codeOk c=true) (h:MsOk c s) (n:Nat):∀ e ∈ evN c n s,touches e=true→isAddr e.2=true:=by
 induction n with
 | zero=>intro e he;cases he
 | succ n ih =>
  intro e he
  simp only [evN] at he
  rcases List.mem_append.1 he with h1 | h1
  ·exact ih e h1
  exact stEvs_addr hok (stN_ok hok h n) e h1
theorem law_times {c:Cd} {m:Mm} {n:Nat} (h:finN c m=some n):(five (runE c m):Int)≤traceT [-1,-1] (runE c m)∧traceT [-1,-1] (runE c m)≤(five (runE c m):Int)+10*((prj (runE c m)).length:Int):=by
 obtain ⟨hg,_⟩:=finN_iff.1 h
 have ha:∀ e ∈ runE c m,touches e=true→isAddr e.2=true:=by rw [(run_yes h).1];exact evN_addr (goOk_code hg) (ini_ok hg) (n+1)
 generalize runE c m=l at *
 obtain ⟨s',h1,h2⟩:=crun_all l ([-1,-1],[]) ha
 have hc:crun [-1,-1] l=some s':=h1
 have hR:crunR [-1,-1] l=(s'.1,s'.2,true):=by
  unfold crunR
  rw [if_pos (by decide),hc]
 have hm:=missOf_le s'.2
 have ht:=touch_prj l
 unfold traceT
 rw [hR]
 simp only [if_true]
 have hs:stepsOf l=(five l:Int):=rfl
 simp only [List.length_nil,Nat.zero_add] at h2
 rw [hs]
 omega
theorem rt_of {c:Cd} {m:Mm} {N:Int} (h:rtR c m=(N,true)):runB c m=true∧(five (runE c m):Int)≤N∧N≤(five (runE c m):Int)+10*((prj (runE c m)).length:Int):=by
 cases hb:runB c m with
 | false=>rw [rt_no hb] at h;cases congrArg Prod.snd h
 | true =>
  rw [rt_yes hb] at h
  have hN:=congrArg Prod.fst h
  simp only at hN
  obtain ⟨n,hn⟩:∃ n,finN c m=some n:=by
   unfold runB at hb
   cases hf:finN c m with
   | none=>rw [hf] at hb;cases hb
   | some n=>exact ⟨n,rfl⟩
  have:=law_times hn
  rw [hN] at this
  exact ⟨rfl,this.1,this.2⟩
theorem fiveZ_take (L:List Ev) (k:Nat) (h:k < L.length):five (L.take (k+1))=five (L.take k)+(if (L[k].1 == 5)=true then 1 else 0):=by
 rw [List.take_succ_eq_append_getElem h,five_app]
 congr 1
 unfold five
 simp only [List.filter_cons,List.filter_nil]
 split <;> rfl
theorem fiveZ_le (L:List Ev):five L≤L.length:=List.length_filter_le _ _
theorem FnRunTimeSteps_walk (v:Value) (n:Nat) (vs:List Int) (w:World) (r0:Reads w 1 v n (vs.map (Value.int .u8))) (hv:∀ x ∈ vs,0≤x∧x < 256) :
  Calls Tryz.prog 3 #[v] w fun e w'=>e=.returned (.bool true)∧Below w.heap.size w w':=by
 obtain ⟨va,vc,rfl⟩:=reads_shape r0
 by_cases hn:n≤1048576
 case neg =>
  have k3:(1048576:Int) < (n:Int):=by omega
  clear r0
  go_enter Tryz.func3,Tryz.ntmps3
  go_wp2
  go_ret
  exact ⟨rfl,Below.refl _ _⟩
 have k3:¬(1048576:Int) < (n:Int):=by omega
 go_enter Tryz.func3,Tryz.ntmps3
 go_wp2_with fail
 refine (DrawRunTime_any _ n vs _ (r0.below (Bs w)) hv hn).mono ?_
 rintro e w1 ⟨s4,t4,u4,p4,r4,d4,z3,b4,m,rfl,i2,u0,hm,hb⟩
 clear r0 hv
 obtain ⟨c,q0⟩:=RdC.of i2 u0.1 u0.2.1 u0.2.2
 clear i2 u0
 obtain ⟨a0,c0,a1,c1,a2,c2,rfl,rfl,rfl⟩:=q0.r.shape
 obtain ⟨a3,c3,a4,c4,rfl,rfl⟩:=hm.reads.shape
 have t3:c.vars.length≤1000∧c.arrays.length≤1000∧c.list.length≤1000:=⟨q0.l0,q0.l1,q0.l2⟩
 have n0:m.vals.length≤1048576∧m.arrs.length≤1048576∧pre2 m.arrs m.arrs.length≤1048576:=by have h2:=hm.l0;have h3:=hm.l1;have h4:=hm.pre;omega
 have m3:=hb.size
 have j0:=btr (Bs w) hb
 clear hb
 have d0:=Bs w1
 have HC:=Lib.hid (fun W (hW:Below w1.heap.size w1 W)=>q0.r.below hW)
 have HM:=Lib.hid (fun W (hW:Below w1.heap.size w1 W)=>hm.reads.below hW)
 clear q0 hm
 obtain ⟨N,ok,e2⟩:∃ N ok,rtR c m=(N,ok):=⟨_,_,rfl⟩
 have y0:=Lib.hid e2;clear e2
 go_wp2_with fail
 have g0:=iRunTime_any _ _ _ _ _ c m _ (HC.out _ (bal (bal d0 (.cells #[.slice a0 c.vars.length c0,.slice a1 c.arrays.length c1,.slice a2 c.list.length c2] 26)) (.cells #[.slice a3 m.vals.length c3,.slice a4 m.arrs.length c4] 29))) (HM.out _ (bal (bal d0 (.cells #[.slice a0 c.vars.length c0,.slice a1 c.arrays.length c1,.slice a2 c.list.length c2] 26)) (.cells #[.slice a3 m.vals.length c3,.slice a4 m.arrs.length c4] 29))) n0.1 n0.2.1 n0.2.2
 rw [y0.out] at g0;dsimp only at g0
 refine (g0).mono ?_
 rintro e w2 ⟨rfl,hb⟩
 clear g0
 replace d0:=btr (bal (bal d0 _) _) hb
 have d1:=hb.size
 simp only [Sa] at d1
 have h0:Bk w2 (w1.heap.size) [.slice a0 c.vars.length c0,.slice a1 c.arrays.length c1,.slice a2 c.list.length c2]:=Bk.below (Bk.al (Bk.nw (by simp) rfl) (.cells #[.slice a3 m.vals.length c3,.slice a4 m.arrs.length c4] 29)) hb
 have i0:Bk w2 (w1.heap.size+1) [.slice a3 m.vals.length c3,.slice a4 m.arrs.length c4]:=Bk.below (Bk.nw (by simp) rfl) hb
 replace j0:=btr (bal (bal j0 _) _) hb
 clear hb
 have r2:=Bk.lz h0
 have s2:=Bk.lz i0
 obtain ⟨p3,q3,f1,p1,g1,q1⟩:=Bk.f3 h0 0 1 2 rfl rfl rfl
 obtain ⟨h1,r1,i1,s1⟩:=Bk.f2 i0 0 1 rfl rfl
 go_wp2_with fail
 have g0:=sRunTime_any _ _ _ _ _ c m _ (HC.out _ d0) (HM.out _ d0) n0.1 n0.2.1 n0.2.2
 rw [y0.out] at g0;dsimp only at g0
 refine (g0).mono ?_
 rintro e w3 ⟨rfl,hb⟩
 clear g0
 replace d0:=btr d0 hb
 have m2:=hb.size
 clear q3 p3 p1 f1 q1 g1 r1 h1 s1 i1
 replace h0:=Bk.below h0 hb
 replace i0:=Bk.below i0 hb
 replace j0:=btr j0 hb
 clear hb
 replace r2:=Bk.lz h0
 replace s2:=Bk.lz i0
 cases ok with
 | false =>
  have tt:=j0
  go_wp2
  go_ret
  exact ⟨rfl,tt⟩
 | true =>
  obtain ⟨k2,z0,b1⟩:=rt_of y0.out
  obtain ⟨E,hE⟩:∃ E,runE c m=E:=⟨_,rfl⟩
  rw [hE] at z0 b1
  have s3:E.length≤40002:=by rw [← hE];have:=runE_len c m;omega
  have e3:=Lib.hid k2;have y2:=Lib.hid hE;have b3:=Lib.hid z0;have d3:=Lib.hid b1;clear k2 hE z0 b1
  obtain ⟨j1,t1,k1,u1,m1,v1⟩:=Bk.f3 h0 0 1 2 rfl rfl rfl
  obtain ⟨n1,y1,o1,z1⟩:=Bk.f2 i0 0 1 rfl rfl
  go_wp2_with fail
  have g0:=iRunCode_any _ _ _ _ _ c m _ (HC.out _ d0) (HM.out _ d0) n0.1 n0.2.1 n0.2.2
  rw [e3.out,y2.out] at g0
  refine (g0).mono ?_
  rintro e w4 ⟨o4,q4,n4,m4,rfl,oM,oE,hb⟩
  obtain ⟨t2,v2,u2,x2,rfl,rfl⟩:=oM.shape
  obtain ⟨f4,k4,rfl⟩:=Oh oE
  clear g0
  replace d0:=btr d0 hb
  have n2:=hb.size
  clear t1 j1 u1 k1 v1 m1 y1 n1 z1 o1
  replace h0:=Bk.below h0 hb
  replace i0:=Bk.below i0 hb
  replace j0:=btr j0 hb
  clear hb
  have f0:=Bs w4
  have HE:=Lib.hid (fun W (hW:Below w4.heap.size w4 W)=>(Ro oE (by omega)).below hW)
  replace r2:=Bk.lz h0
  replace s2:=Bk.lz i0
  clear oM oE
  go_upto_region 9 with (fail)
  obtain ⟨w5,j2,hb⟩:=nmw (World.alloc w4 (.cells #[.slice t2 ((runM c m).vals.length) v2,.slice u2 ((runM c m).arrs.length) x2] 29))
  replace d0:=btr (bal d0 _) hb
  replace f0:=btr (bal f0 _) hb
  have t0:=hb.size
  simp only [Sa] at t0
  replace h0:=Bk.below (Bk.al h0 _) hb
  replace i0:=Bk.below (Bk.al i0 _) hb
  have m0:Bk w5 (w4.heap.size) [.slice t2 ((runM c m).vals.length) v2,.slice u2 ((runM c m).arrs.length) x2]:=Bk.below (Bk.nw (by simp) rfl) hb
  replace j0:=btr (bal j0 _) hb
  clear hb
  rw [← j2]
  clear j2
  have o3:=Bk.lz m0
  have k0:=Bs w5
  have v0:=Lib.hid (fiveZ_take E);have z2:=Lib.hid (fiveZ_le E);have g3:=Lib.hid (show E.take E.length=E from List.take_length)
  go_wp2_with fail
  go_loopw [12,13] (fun a i wr=>∃ (k j:Nat),a=.int .i64 j∧i=.int .i64 k∧k≤E.length∧Hid (j=five (E.take k))∧Below w5.heap.size w5 wr) (fun _ i _=>E.length-(intOf i).toNat)
  case atStart=>exact ⟨0,0,rfl,rfl,Nat.zero_le _,Lib.hid rfl,Bs _⟩
  case round =>
   obtain ⟨k,j,rfl,rfl,hk,HJ,o0⟩:=hrel
   obtain ⟨wl,rfl⟩:∃ X,X=wr:=⟨_,rfl⟩
   replace d0:=btr d0 o0
   replace f0:=btr f0 o0
   replace k0:=btr k0 o0
   have o2:=o0.size
   replace h0:=Bk.below h0 o0
   replace i0:=Bk.below i0 o0
   replace m0:=Bk.below m0 o0
   replace j0:=btr j0 o0
   clear o0
   have v3:j≤k:=by have:=fiveZ_le (E.take k);have:=List.length_take_le k E;have:=HJ.out;omega
   by_cases hlt:k < E.length
   ·have hq:(k:Int) < (E.length:Int):=by omega
    obtain ⟨_,l3,aa,r3,b0,e4,q2,s0,g2,p0⟩:=(HE.out _ f0)
    simp only [Value.slice.injEq,true_and] at q2
    obtain ⟨rfl,rfl⟩:=q2
    obtain ⟨rfl,j3⟩:=g2 (by omega)
    rw [evs_rows] at p0
    obtain ⟨e0,e1⟩:=reads_Event p0 k hlt
    clear p0 g2 l3 s0
    have u3:b0 < wl.heap.size:=Lc e0
    have b2:=Lib.hid (v0.out k hlt)
    clear v0
    generalize E[k]=x at *
    obtain ⟨x0,x1⟩:=x
    simp only at e0 e1
    by_cases hx:x0=5
    ·have n3:(x0 == 5)=true:=by simp [hx]
     have w0:Hid (j+1=five (E.take (k+1))):=Lib.hid (by rw [b2.out,← HJ.out];simp [hx])
     subst hx
     have i3:=Lib.hid (Bs wl)
     go_wp2
     go_roundw
     case rel=>exact ⟨k+1,j+1,by go_num,by go_num,by omega,w0,k0⟩
     case measure=>simp [intOf];omega
    have n3:(x0 == 5)=false:=by simp [hx]
    have w0:Hid (j=five (E.take (k+1))):=Lib.hid (by rw [b2.out,← HJ.out];simp [hx])
    clear hx
    have i3:=Lib.hid (Bs wl)
    go_wp2
    go_roundw
    case rel=>exact ⟨k+1,j,by go_num,by go_num,by omega,w0,k0⟩
    case measure=>simp [intOf];omega
   have hq:decide ((k:Int) < (E.length:Int))=false:=decide_eq_false (by omega)
   have y3:¬(k:Int) < (E.length:Int):=by omega
   have d2:Hid (j=five E):=Lib.hid (by rw [HJ.out,show k=E.length by omega,g3.out])
   clear v0 z2
   have i4:(j:Int)≤N:=by rw [d2.out];exact b3.out
   have j4:N≤(j:Int)+10*((prj E).length:Int):=by rw [d2.out];exact d3.out
   have x3:=prj_len E
   go_wp2_with fail
   have g0:=Project_any _ E _ (HE.out _ f0) (by omega)
   refine (g0).mono ?_
   rintro e w6 ⟨g4,l4,rfl,oP,hb⟩
   clear oP
   clear g0
   replace d0:=btr d0 hb
   replace f0:=btr f0 hb
   replace k0:=btr k0 hb
   have p2:=hb.size
   replace h0:=Bk.below h0 hb
   replace i0:=Bk.below i0 hb
   replace m0:=Bk.below m0 hb
   replace j0:=btr j0 hb
   clear hb
   have tt:=j0
   go_wp2
   go_ret
   exact ⟨rfl,tt⟩
end Go.Proofs.YtkjedgnepnbkpaaGreat
