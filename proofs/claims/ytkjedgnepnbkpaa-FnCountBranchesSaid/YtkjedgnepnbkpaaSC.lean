/-
 Parts of the proofs of the laws FnCodeFenced,FnCountBranches.
-/
import Derived.Test.YtkjedgnepnbkpaaMX
import Derived.Test.YtkjedgnepnbkpaaSB
set_option linter.all false
namespace Go.Proofs.Ytkjedgnepnbkpaa
open Go.RowKit
theorem path_some {c:Cd} {s:Ms} {n:Nat} (h1:n < 4) (h2:∀ j,j < n→stopAt c s j=false) (h3:stopAt c s n=true):pathE c s=evN c (n+1) s:=by
 have h:=fstH_some (p:=stopAt c s) 4 0 n h1 (fun j hj=>by rw [Nat.zero_add];exact h2 j hj) (by rw [Nat.zero_add];exact h3)
 unfold pathE pathN;rw [h,Nat.zero_add]
theorem path_none {c:Cd} {s:Ms} (h:∀ j,j < 4→stopAt c s j=false):pathE c s=evN c 4 s:=by
 have h:=fstH_none (p:=stopAt c s) 4 0 (fun j hj=>by rw [Nat.zero_add];exact h j hj)
 unfold pathE pathN;rw [h]
theorem pathE_len (c:Cd) (s:Ms):(pathE c s).length≤8:=by
 unfold pathE
 have h:=evN_len c s (pathN c s)
 have h2:pathN c s≤4:=by
  unfold pathN
  have hf:∀ (p:Nat→Bool) (f k n:Nat),fstH p f k=some n→n < k+f:=by
   intro p f
   induction f with
   | zero=>intro k n h;cases h
   | succ f ih =>
    intro k n h
    rw [fstH] at h
    split at h
    ·have:=Option.some.inj h;omega
    have:=ih _ _ h;omega
  cases e:fstH (stopAt c s) 4 0 with
  | none=>exact Nat.le_refl _
  | some n=>have:=hf _ _ _ _ e;simp only;omega
 omega
set_option maxHeartbeats 12800000 in
set_option maxRecDepth 100000 in
theorem iPath_any (va vb vc vr vx vy:Value) (c:Cd) (s:Ms) (w:World) (hr:ReadsC w va vb vc c) (hs:ReadsS w vr vx vy s) (h0:s.regs.length≤1048576) (hl:s.mem.vals.length≤1048576) (hn:s.mem.arrs.length≤1048576) (hp:pre2 s.mem.arrs s.mem.arrs.length≤1048576) (hM:MsOk c s) (hok:codeOk c=true) :
  Calls Try.prog 62 #[.agg #[va,vb,vc],.agg #[.int .i64 s.pc,vr,vx,vy]] w fun e w'=>∃ u,e=.returned u∧w'.ownsRow w.heap.size 47 2 u (pathE c s).length (evs (pathE c s))∧Below w.heap.size w w':=by
 obtain ⟨a0,c0,a1,c1,a2,c2,rfl,rfl,rfl⟩:=hr.shape
 obtain ⟨a5,c5,rfl⟩:=reads_shape hs.r
 obtain ⟨a3,c3,a4,c4,rfl,rfl⟩:=hs.m.shape
 have HR:=Lib.hid (fun W (hW:Below w.heap.size w W)=>hr.below hW)
 have m2:=Lib.hid (fun W (hW:Below w.heap.size w W)=>iMOwn_any _ _ _ s W (hs.below hW) h0 hl hn hp)
 have p2:=Lib.hid (fun n=>stN_ok hok hM n)
 have l2:=Lib.hid hok
 have r1:=Lib.hid (fun n h1 h2 h3=>path_some (c:=c) (s:=s) (n:=n) h1 h2 h3)
 have n2:=Lib.hid (fun h=>path_none (c:=c) (s:=s) h)
 have m3:=(codeOk_len hok).1
 clear hr hs h0 hl hn hp hM hok
 generalize pathE c s=PE at *
 go_enter Try.func62,Try.ntmps62
 go_wp2_with fail
 refine (m2.out _ (bal (bal (Bs w) (.cells #[.slice a0 c.vars.length c0,.slice a1 c.arrays.length c1,.slice a2 c.list.length c2] 26)) (.cells #[.int .i64 s.pc,.slice a5 s.regs.length c5,.slice a3 s.mem.vals.length c3,.slice a4 s.mem.arrs.length c4] 39))).mono ?_
 rintro e w1 ⟨ur,ux,uy,us,rfl,OM,hb⟩
 obtain ⟨pr,tr,rfl⟩:=Oh OM.r
 obtain ⟨px,tx,rfl⟩:=Oh OM.v
 obtain ⟨py,ty,rfl⟩:=Oh OM.a.out
 have o1:=hb.size
 simp only [Sa] at o1
 have j0:w1.cell? ⟨w.heap.size,0,none⟩=some (.slice a0 c.vars.length c0):=Kc hb (Ac (Wc (by simp) (by rfl)) _)
 have q0:w1.cell? ⟨w.heap.size,1,none⟩=some (.slice a1 c.arrays.length c1):=Kc hb (Ac (Wc (by simp) (by rfl)) _)
 have r0:w1.cell? ⟨w.heap.size,2,none⟩=some (.slice a2 c.list.length c2):=Kc hb (Ac (Wc (by simp) (by rfl)) _)
 have r2:w1.cell? ⟨w.heap.size+1,0,none⟩=some (.int .i64 s.pc):=Kc hb (Wc (by simp) (by rfl))
 have s2:w1.cell? ⟨w.heap.size+1,1,none⟩=some (.slice a5 s.regs.length c5):=Kc hb (Wc (by simp) (by rfl))
 have t2:w1.cell? ⟨w.heap.size+1,2,none⟩=some (.slice a3 s.mem.vals.length c3):=Kc hb (Wc (by simp) (by rfl))
 have v2:w1.cell? ⟨w.heap.size+1,3,none⟩=some (.slice a4 s.mem.arrs.length c4):=Kc hb (Wc (by simp) (by rfl))
 have k0:=btr (bal (bal (Bs w) (.cells #[.slice a0 c.vars.length c0,.slice a1 c.arrays.length c1,.slice a2 c.list.length c2] 26)) (.cells #[.int .i64 s.pc,.slice a5 s.regs.length c5,.slice a3 s.mem.vals.length c3,.slice a4 s.mem.arrs.length c4] 39)) hb
 clear hb
 clear r2 s2 t2 v2
 have g3:=Lc j0
 have s0:=OM.lt
 try simp only [Sa] at s0
 go_upto_region 2 with (fail)
 obtain ⟨w2,f2,hb⟩:=nmw (World.alloc w1 (.cells #[.int .i64 s.pc,.slice pr s.regs.length tr,.slice px s.mem.vals.length tx,.slice py s.mem.arrs.length ty] 39))
 have b1:=hb.size
 simp only [Sa] at b1
 replace j0:=Kc hb (Ac j0 _)
 replace q0:=Kc hb (Ac q0 _)
 replace r0:=Kc hb (Ac r0 _)
 replace OM:=(OM.below (bal (Bs _) _)).below hb
 have p0:w2.cell? ⟨w1.heap.size,0,none⟩=some (.int .i64 s.pc):=Kc hb (Wc (by simp) (by rfl))
 have w0:w2.frozen? ⟨w1.heap.size,0,none⟩=false:=Kf hb (by simp <;> omega) (Fn (by simp))
 have x0:w2.cell? ⟨w1.heap.size,1,none⟩=some (.slice pr s.regs.length tr):=Kc hb (Wc (by simp) (by rfl))
 have j1:w2.frozen? ⟨w1.heap.size,1,none⟩=false:=Kf hb (by simp <;> omega) (Fn (by simp))
 have y0:w2.cell? ⟨w1.heap.size,2,none⟩=some (.slice px s.mem.vals.length tx):=Kc hb (Wc (by simp) (by rfl))
 have k1:w2.frozen? ⟨w1.heap.size,2,none⟩=false:=Kf hb (by simp <;> omega) (Fn (by simp))
 have z0:w2.cell? ⟨w1.heap.size,3,none⟩=some (.slice py s.mem.arrs.length ty):=Kc hb (Wc (by simp) (by rfl))
 have l1:w2.frozen? ⟨w1.heap.size,3,none⟩=false:=Kf hb (by simp <;> omega) (Fn (by simp))
 replace k0:=btr (bal k0 _) hb
 clear hb
 rw [← f2]
 clear f2
 replace g3:=Lc j0
 have d3:=Lc p0
 have y1:OwnS w2 w.heap.size (w1.heap.size) (.slice pr s.regs.length tr) (.slice px s.mem.vals.length tx) (.slice py s.mem.arrs.length ty) us (stN c 0 s):=⟨p0,x0,y0,z0,w0,OM.mono (by simp only [Sa];omega),fun h=>by have:=s0 _ h;omega⟩
 have iM:=s0
 have s1:=Lib.hid y1;have HT:=Lib.hid k0
 have l3:w.heap.size+2≤w1.heap.size∧w1.heap.size < w2.heap.size:=by omega
 have q1:=Lib.hid (fun q (h:OwnMB (.slice pr s.regs.length tr) (.slice px s.mem.vals.length tx) (.slice py s.mem.arrs.length ty) us q)=>(show w.heap.size+2≤q∧q < w2.heap.size∧¬q=w1.heap.size from by have:=iM q h;omega))
 clear iM
 clear y1 k0 OM p0 w0 x0 j1 y0 k1 z0 l1
 go_wp2_with fail
 go_loopw [6,10] (fun u t wr=>∃ n:Nat,n≤4∧t=.int .i64 n∧OwnS wr w.heap.size (w1.heap.size) (.slice pr s.regs.length tr) (.slice px s.mem.vals.length tx) (.slice py s.mem.arrs.length ty) us (stN c n s)∧wr.ownsRow w.heap.size 47 2 u (evN c n s).length (evs (evN c n s))∧(∀ q,u.ownBlock=some q→w.heap.size+2≤q∧¬q=w1.heap.size∧¬OwnMB (.slice pr s.regs.length tr) (.slice px s.mem.vals.length tx) (.slice py s.mem.arrs.length ty) us q)∧Hid (∀ j,j < n→stopAt c s j=false)∧Below (w.heap.size+2) w2 wr) (fun _ t _=>4-(intOf t).toNat)
 case atStart=>exact ⟨0,by omega,rfl,s1.out,World.ownsRow_nil _ _ _ _,fun q h=>by simp [Value.ownBlock] at h,Lib.hid (fun j h=>by omega),Below.refl _ _⟩
 case round =>
  obtain ⟨n,o3,rfl,hS,hE,o0,d1,hB⟩:=hrel
  clear s1
  obtain ⟨pu,tu,rfl⟩:=Oh hE
  have r3:=hB.size
  have i0:=HT.out.trans (hB.mono (by omega:w.heap.size≤w.heap.size+2))
  have f0:∀ b0 j v,b0 < w.heap.size+2→w2.cell? ⟨b0,j,none⟩=some v→wr.cell? ⟨b0,j,none⟩=some v:=fun b0 j v h h2=>(hB.cell (p:=⟨b0,j,none⟩) h).trans h2
  replace j0:=f0 _ _ _ (by omega) j0
  replace q0:=f0 _ _ _ (by omega) q0
  replace r0:=f0 _ _ _ (by omega) r0
  clear f0
  by_cases hlt:n < 4
  ·have g1:=p2.out n
   obtain ⟨k,hk⟩:∃ k:Nat,(stN c n s).pc=k:=⟨(stN c n s).pc.toNat,by have:=g1.pc0;omega⟩
   have e2:k < c.list.length:=by have:=g1.pc1;omega
   have f1:Hid (opAt c s n=c.list[k].op):=Lib.hid (by unfold opAt insAt;rw [hk,Int.toNat_natCast,List.getElem?_eq_getElem e2];rfl)
   have z2:=(HR.out wr i0).l
   obtain ⟨_,hn,aa,k3,b0,s3,hv,y2,ha,d2⟩:=z2
   simp only [Value.slice.injEq,true_and] at hv
   obtain ⟨rfl,rfl⟩:=hv
   obtain ⟨rfl,x2⟩:=ha (by omega)
   obtain ⟨e0,_⟩:=reads_Instr d2 k e2
   have ke:=Lc e0
   have p3:(k:Int) < (c.list.length:Int):=by omega
   have n3:=evN_len c s n
   clear d2 ha x2
   have d0:wr.cell? ⟨w1.heap.size,0,none⟩=some (.int .i64 (k:Int)):=by rw [← hk];exact hS.c0
   clear hk
   obtain ⟨x,HX⟩:∃ x:Ins,Hid (x=c.list[k]):=⟨c.list[k],Lib.hid rfl⟩
   rw [← HX.out] at e0 f1
   have q2:=Lib.hid (step_any (w1.heap.size) w.heap.size _ _ _ _ _ _ us c (stN c n s) wr (HR.out wr i0) hS g1 l2.out)
   have i3:=Lib.hid (evN_len c s n)
   have j3:=Lib.hid hS.lt
   clear g1 hS
   have e3:=Lc d0
   go_upto_region 6 with (fail)
   clear d0 e0
   have iS:∀ q,(q=w1.heap.size∨OwnMB (.slice pr s.regs.length tr) (.slice px s.mem.vals.length tx) (.slice py s.mem.arrs.length ty) us q)→w.heap.size+2≤q∧q < wr.heap.size:=by rintro q (h | h);omega;(have:=q1.out q h;have:=hB.size;omega)
   have iE:=hE.lt
   have b2:∀ q,(Value.slice pu (evN c n s).length tu).ownBlock=some q→(q=w1.heap.size∨OwnMB (.slice pr s.regs.length tr) (.slice px s.mem.vals.length tx) (.slice py s.mem.arrs.length ty) us q)→False:=fun q h h2=>by rcases h2 with h2 | h2;exact (o0 q h).2.1 h2;exact (o0 q h).2.2 h2
   go_wp2_with fail
   refine (q2.out).mono ?_
   rintro e w3 ⟨u2,rfl,oU,m1,hC⟩
   obtain ⟨pv,tv,rfl⟩:=Oh oU
   have t1:Below (w.heap.size+2) w2 w3:=hB.trans (hC.below (w.heap.size+2) (by omega) (fun q hq h=>by have:=iS q h;omega))
   have g2:=hC.size
   replace j0:=Gc hC j0 (fun h=>by have:=iS _ h;omega)
   replace q0:=Gc hC q0 (fun h=>by have:=iS _ h;omega)
   replace r0:=Gc hC r0 (fun h=>by have:=iS _ h;omega)
   replace hE:=Ow hE hC (fun gq h h2=>b2 gq h h2)
   replace k0:=i0.trans (hC.below w.heap.size (by have:=i0.size;omega) (fun gq hgq h=>by have:=iS gq h;omega))
   clear hC
   clear j0 q0 r0
   have p1:=oU.lt
   have q3:=(stEvs_len (insAt c (stN c n s).pc) (stN c n s)).1
   have hS2b:=m1
   go_wp2_with (at_builtin;refine wpList_aps tEvs rfl _ _ rfl (w.heap.size) _ ((evN c n s).length) (evs (evN c n s)) rfl hE _ ((stEvs (insAt c (stN c n s).pc) (stN c n s)).length) (evs (stEvs (insAt c (stN c n s).pc) (stN c n s))) rfl (Ro oU (by omega)) (one_evs (stEvs (insAt c (stN c n s).pc) (stN c n s))) (by omega) (by first | omega | (simp only [Sa,Ss];omega)) ?_)
   intro vA w4 g0 hc x1 _
   obtain ⟨m0,n0,rfl⟩:=Oh g0
   have u1:Below (w.heap.size+2) w2 w4:=t1.trans (hc.below (w.heap.size+2) (by omega) (fun q hq h=>by have:=o0 q h;omega))
   have z1:=m1.keep hc (fun h=>(o0 _ h).2.1 rfl) (fun q h h2=>(o0 q h2).2.2 h)
   have v1:=x1
   clear m1 hS2b t1
   have i2:=hc.size
   replace oU:=Ow oU hc (fun gq h h2=>by have:=p1 gq h;have:=iE gq h2;omega)
   replace k0:=k0.trans (hc.below w.heap.size (by have:=k0.size;omega) (fun gq hgq h=>by have:=iE gq h;omega))
   clear hc
   have b3:=g0.lt
   clear x1 hE
   rw [← evs_append] at g0
   have n1:(evN c n s++stEvs (insAt c (stN c n s).pc) (stN c n s)).length=(evN c n s).length+(stEvs (insAt c (stN c n s).pc) (stN c n s)).length:=List.length_append
   have u0:Hid (w4.ownsRow w.heap.size 47 2 (.slice m0 ((evN c n s).length+(stEvs (insAt c (stN c n s).pc) (stN c n s)).length) n0) (evN c (n+1) s).length (evs (evN c (n+1) s))):=Lib.hid (by have h:=g0;rw [← n1] at h;rw [← n1];exact h)
   have k2:Hid (∀ q,(Value.slice m0 ((evN c n s).length+(stEvs (insAt c (stN c n s).pc) (stN c n s)).length) n0).ownBlock=some q→w.heap.size+2≤q∧¬q=w1.heap.size∧¬OwnMB (.slice pr s.regs.length tr) (.slice px s.mem.vals.length tx) (.slice py s.mem.arrs.length ty) us q):=Lib.hid (fun q h=>by rcases v1 with e | ⟨g,hg1,hg2⟩;(rw [e] at h;exact o0 q h);(rw [hg1] at h;have e1:=Option.some.inj h;have:=hB.size;exact ⟨by omega,by omega,fun h2=>by have:=q1.out q h2;omega⟩))
   clear v1 n1 g0 o0 iE b2 iS
   have o2:=Lib.hid z1;clear z1
   by_cases l0:x.op=12
   ·have l0:(x.op == 12)=true:=by simp [l0]
    have v0:=Lib.hid (r1.out n hlt d1.out (by unfold stopAt;rw [f1.out,l0];rfl))
    have tt:=k0
    go_wp2
    exact bodyPost_ret (v:=.slice m0 ((evN c n s).length+(stEvs (insAt c (stN c n s).pc) (stN c n s)).length) n0) (by simp [results,Try.results62,go_sem]) rfl (by exact by rw [v0.out];exact ⟨_,rfl,u0.out,tt⟩)
   by_cases t0:x.op=13
   ·have l0:(x.op == 12)=false:=by simp [l0]
    have t0:(x.op == 13)=true:=by simp [t0]
    have v0:=Lib.hid (r1.out n hlt d1.out (by unfold stopAt;rw [f1.out,l0,t0];rfl))
    have tt:=k0
    go_wp2
    exact bodyPost_ret (v:=.slice m0 ((evN c n s).length+(stEvs (insAt c (stN c n s).pc) (stN c n s)).length) n0) (by simp [results,Try.results62,go_sem]) rfl (by exact by rw [v0.out];exact ⟨_,rfl,u0.out,tt⟩)
   have l0:(x.op == 12)=false:=by simp [l0]
   have t0:(x.op == 13)=false:=by simp [t0]
   have i1:Hid (∀ j,j < n+1→stopAt c s j=false):=Lib.hid (fun j hj=>by by_cases e:j=n;(subst e;unfold stopAt;rw [f1.out,l0,t0];rfl);exact d1.out j (by omega))
   have j2:=Lib.hid u1;clear u1
   go_wp2
   go_roundw
   case rel=>exact ⟨n+1,by omega,by go_num,o2.out,u0.out,k2.out,i1,j2.out⟩
   case measure=>simp [intOf];omega
  have en:n=4:=by omega
  subst en
  have v0:=Lib.hid (n2.out d1.out);have u0:=Lib.hid hE;clear hE hS o0
  have f3:=Lc j0
  have tt:=i0
  go_wp2
  exact bodyPost_ret (v:=.slice pu ((evN c 4 s).length) tu) (by simp [results,Try.results62,go_sem]) rfl (by exact by rw [v0.out];exact ⟨_,rfl,u0.out,tt⟩)
end Go.Proofs.Ytkjedgnepnbkpaa
