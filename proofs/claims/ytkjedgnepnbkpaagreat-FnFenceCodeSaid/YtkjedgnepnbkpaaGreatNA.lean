/-
 Parts of the proofs of the laws FnCompactRegs,FnFenceCode,FnRunTimeSteps.
-/
import Derived.Test.YtkjedgnepnbkpaaGreatMV
import Derived.Test.YtkjedgnepnbkpaaGreatMW
set_option maxHeartbeats 12800000
set_option maxRecDepth 100000
set_option linter.all false
namespace Go.Proofs.YtkjedgnepnbkpaaGreat
open Go.RowKit
theorem ran1_any (B base:Nat) (v u:Value) (L E:List Ev) (pc:Int) (w:World) (hc:w.cell? ⟨B,0,none⟩=some v) (hf:w.frozen? ⟨B,0,none⟩=false) (ho:w.ownsRow base 38 2 v L.length (evs L))
  (hB:¬v.ownBlock=some B) (hu:Reads w 2 u E.length (evs E)) (hL:L.length+E.length≤4294967296) (hbase:base≤w.heap.size) :
  Calls Tryz.prog 72 #[.int .i64 pc,u,.pointer (some ⟨B,0,none⟩)] w fun e w'=>e=.returned (.tuple #[])∧∃ v',w'.cell? ⟨B,0,none⟩=some v'∧w'.frozen? ⟨B,0,none⟩=false∧w'.ownsRow base 38 2 v' (L++E).length (evs (L++E))∧(∀ q,v'.ownBlock=some q→v.ownBlock=some q∨w.heap.size≤q)∧¬v'.ownBlock=some B∧Chg (fun q=>q=B∨v.ownBlock=some q) w w':=by
 obtain ⟨a,c,rfl⟩:=Oh ho
 obtain ⟨a2,c2,rfl⟩:=reads_shape hu
 have kB:=Lc hc
 go_enter Tryz.func72,Tryz.ntmps72
 go_wp2_with (at_builtin;refine wpList_aps tEvs rfl _ _ rfl base _ L.length _ rfl ho _ E.length _ rfl hu (one_evs E) (by omega) (by omega) ?_)
 intro v' w1 ho' hC hN _
 obtain ⟨a',c',rfl⟩:=Oh ho'
 have g0:=Gc hC hc hB
 have h0:=Gf hC kB hf hB
 have a0:∀ q,(Value.slice a' (L.length+E.length) c').ownBlock=some q→(Value.slice a L.length c).ownBlock=some q∨w.heap.size≤q:=fun q hq=>by
  rcases hN with h | ⟨g,h,h2⟩
  ·exact Or.inl (h ▸ hq)
  have e:=Option.some.inj (h.symm.trans hq);exact Or.inr (by omega)
 have hB':¬(Value.slice a' (L.length+E.length) c').ownBlock=some B:=fun h=>by
  rcases a0 B h with h | h
  ·exact hB h
  omega
 have d0:=Tc w1 B 0 (.slice a' (L.length+E.length) c') g0
 have e0:=Fs (b:=⟨B,0,none⟩) h0 (.slice a' (L.length+E.length) c')
 have f0:=Oe ho' B 0 hB' (.slice a' (L.length+E.length) c')
 have b0:Chg (fun q=>q=B∨(Value.slice a L.length c).ownBlock=some q) w w1:=hC.mono (fun _ _ h=>Or.inr h)
 have c0:=b0.setCell B 0 (.slice a' (L.length+E.length) c') (fun _=>Or.inl rfl)
 have HE:=Lib.hid (And.intro d0 (And.intro e0 (And.intro f0 (And.intro a0 (And.intro hB' c0)))))
 clear ho ho' hC b0 hN hc hf hu a0 c0 f0 d0 e0
 go_wp2
 go_end0
 exact ⟨rfl,_,HE.out.1,HE.out.2.1,by have h:=HE.out.2.2.1;rw [List.length_append,evs_append];exact h,HE.out.2.2.2.1,HE.out.2.2.2.2.1,HE.out.2.2.2.2.2⟩
def finN (c:Cd) (m:Mm):Option Nat:=if goOk c m=true then runR c (ini m) else none
theorem finN_no {c:Cd} {m:Mm} (h:goOk c m=false):finN c m=none:=by unfold finN;rw [h];rfl
theorem finN_yes {c:Cd} {m:Mm} (h:goOk c m=true):finN c m=runR c (ini m):=by unfold finN;rw [if_pos h]
theorem ran1_call (args:Array Value) (W:World):(callFunc 72 args).run Tryz.prog W=.ok (.enter 72 args) W:=by kernel_rfl
theorem ran_any (va vb vc vx vy:Value) (c:Cd) (m:Mm) (w:World) (hr:ReadsC w va vb vc c) (hx:Reads w 1 vx m.vals.length (ints m.vals)) (hy:Reads2 ints w vy m.arrs) (hl:m.vals.length≤1048576) (hn:m.arrs.length≤1048576) (hp:pre2 m.arrs m.arrs.length≤1048576) :
  Calls Tryz.prog 30 #[.agg #[va,vb,vc],.agg #[vx,vy]] w fun e w'=>(finN c m=none→e=.returned (.tuple #[.pointer none,.slice none 0 0,.bool false])) ∧
   (∀ n,finN c m=some n→∃ b vr vv vA us pu tu,e=.returned (.tuple #[.pointer (some ⟨b,0,none⟩),.slice pu (evN c (n+1) (ini m)).length tu,.bool true])∧n < 20000∧OwnS w' w.heap.size b vr vv vA us (stN c (n+1) (ini m))∧w.heap.size≤b∧w'.ownsRow w.heap.size 38 2 (.slice pu (evN c (n+1) (ini m)).length tu) (evN c (n+1) (ini m)).length (evs (evN c (n+1) (ini m))))∧Below w.heap.size w w':=by
 obtain ⟨a0,c0,a1,c1,a2,c2,rfl,rfl,rfl⟩:=hr.shape
 obtain ⟨a3,c3,rfl⟩:=reads_shape hx
 obtain ⟨a4,c4,rfl⟩:=hy.shape
 have e1:=hr.lt
 obtain ⟨w1,h0⟩:∃ X,X=((w.alloc (.cells #[.slice a0 c.vars.length c0,.slice a1 c.arrays.length c1,.slice a2 c.list.length c2] 26)).alloc (.cells #[.slice a3 m.vals.length c3,.slice a4 m.arrs.length c4] 29)):=⟨_,rfl⟩
 have j0:Below w.heap.size w w1:=by rw [h0];exact bal (bal (Bs w) _) _
 have q1:w.heap.size+2≤w1.heap.size:=by rw [h0];simp
 have n0:w1.cell? ⟨w.heap.size,0,none⟩=some (.slice a0 c.vars.length c0):=by rw [h0];exact Ac (Wc rfl rfl) _
 have n1:w1.cell? ⟨w.heap.size,1,none⟩=some (.slice a1 c.arrays.length c1):=by rw [h0];exact Ac (Wc rfl rfl) _
 have n2:w1.cell? ⟨w.heap.size,2,none⟩=some (.slice a2 c.list.length c2):=by rw [h0];exact Ac (Wc rfl rfl) _
 have mx:w1.cell? ⟨w.heap.size+1,0,none⟩=some (.slice a3 m.vals.length c3):=by rw [h0];exact Wc (by simp) rfl
 have my:w1.cell? ⟨w.heap.size+1,1,none⟩=some (.slice a4 m.arrs.length c4):=by rw [h0];exact Wc (by simp) rfl
 have HW:=Lib.hid h0
 have kn:=Lc n0;have km:=Lc mx
 have i0:=iStart_any _ _ _ _ _ c m w1 (hr.below j0) (hx.below j0) (hy.below j0) hl hn hp
 have w0:=Lib.hid (fun W (hW:Below w1.heap.size w1 W)=>hr.below (btr j0 hW))
 clear h0 hx hy hl hn hp hr
 cases hg:goOk c m with
 | false =>
  rw [hg] at i0
  have HF:Hid (finN c m=none):=Lib.hid (finN_no hg)
  have k0:=Lib.hid i0
  clear hg i0 e1 w0
  generalize finN c m=R at *
  go_enter Tryz.func30,Tryz.ntmps30
  go_upto_region 1 with (fail)
  rw [← HW.out]
  clear HW
  go_wp2_with fail
  refine k0.out.mono ?_
  rintro e w2 ⟨p0,n0',t0,p1,n1',t1,p2,n2',t2,rfl,_,l0⟩
  have hB:=bal (btr j0 l0) (.cells #[.int .i64 0,.slice p0 n0' t0,.slice p1 n1' t1,.slice p2 n2' t2] 62)
  clear k0 n0 n1 n2 mx my
  go_wp2
  exact bodyPost_ret (v:=.tuple #[.pointer none,.slice none 0 0,.bool false]) (by simp [results,Tryz.results30,go_sem]) rfl (by rw [HF.out];exact ⟨fun _=>rfl,fun n h=>(by cases h),hB⟩)
 | true =>
  rw [hg] at i0
  have HF:Hid (finN c m=runR c (ini m)):=Lib.hid (finN_yes hg)
  have f1:=Lib.hid (ini_ok hg);have i1:=Lib.hid (goOk_code hg)
  have k0:=Lib.hid i0
  clear hg i0
  generalize finN c m=R at *
  have q0:Hid ((ini m).regs=reg0∧(ini m).mem=m∧(ini m).pc=0):=Lib.hid ⟨rfl,rfl,rfl⟩
  generalize ini m=s at *
  go_enter Tryz.func30,Tryz.ntmps30
  go_upto_region 1 with (fail)
  rw [← HW.out]
  clear HW
  go_wp2_with fail
  refine k0.out.mono ?_
  rintro e w2 ⟨p0,n0',t0,p1,n1',t1,p2,n2',t2,rfl,hO,l0⟩
  obtain ⟨us,OM⟩:=hO (by trivial)
  have iM:=OM.lt
  have r1:=l0.size
  obtain ⟨w4,e0⟩:∃ X,X=((w2.alloc (.cells #[.int .i64 0,.slice p0 n0' t0,.slice p1 n1' t1,.slice p2 n2' t2] 62)).alloc (.cells #[.slice none 0 0] 34)):=⟨_,rfl⟩
  have u0:Below w2.heap.size w2 w4:=by rw [e0];exact bal (bal (Bs w2) _) _
  have k1:w4.heap.size=w2.heap.size+1+1:=by rw [e0];simp
  have hz4l:w2.heap.size+2≤w4.heap.size:=by omega
  have hz4r:w4.heap.size≤w2.heap.size+2:=by omega
  have d0:w4.cell? ⟨w2.heap.size,0,none⟩=some (.int .i64 0):=by rw [e0];exact Ac (Wc rfl rfl) _
  have d1:w4.cell? ⟨w2.heap.size,1,none⟩=some (.slice p0 n0' t0):=by rw [e0];exact Ac (Wc rfl rfl) _
  have d2:w4.cell? ⟨w2.heap.size,2,none⟩=some (.slice p1 n1' t1):=by rw [e0];exact Ac (Wc rfl rfl) _
  have d3:w4.cell? ⟨w2.heap.size,3,none⟩=some (.slice p2 n2' t2):=by rw [e0];exact Ac (Wc rfl rfl) _
  have df:w4.frozen? ⟨w2.heap.size,0,none⟩=false:=by rw [e0];exact Fa (by simp) (Fn rfl) _
  have g0:w4.cell? ⟨w2.heap.size+1,0,none⟩=some (.slice none 0 0):=by rw [e0];exact Wc (by simp) rfl
  have gf:w4.frozen? ⟨w2.heap.size+1,0,none⟩=false:=by rw [e0];exact Fn (by simp)
  have x0:=Lib.hid e0
  have hS:OwnS w4 w1.heap.size w2.heap.size (.slice p0 n0' t0) (.slice p1 n1' t1) (.slice p2 n2' t2) us s:=by
   refine ⟨?_,d1,d2,d3,df,?_,fun h=>by have:=iM _ h;omega⟩
   ·rw [q0.out.2.2];exact d0
   rw [q0.out.1,q0.out.2.1];exact OM.below u0
  have b0:=btr l0 u0
  have rc:=w0.out w4 b0
  have z0:=execute_any 72 #[.pointer (some ⟨w2.heap.size+1,0,none⟩)]
   (fun n W=>∃ v,W.cell? ⟨w2.heap.size+1,0,none⟩=some v∧W.frozen? ⟨w2.heap.size+1,0,none⟩=false∧W.ownsRow (w4.heap.size+1) 38 2 v (evN c n s).length (evs (evN c n s))∧¬v.ownBlock=some (w2.heap.size+1))
   (w2.heap.size+1) w2.heap.size w1.heap.size _ _ _ _ _ _ us c s w4 ran1_call rc hS f1.out i1.out (by omega) (fun h=>by have:=iM _ h;omega) (by omega)
   (fun q hq=>by have:=e1 q hq;exact ⟨by omega,fun h=>by have:=iM q h;omega,by omega⟩)
   ⟨_,g0,gf,World.ownsRow_nil _ _ _ _,by simp [Value.ownBlock]⟩
   (fun n W W' hI hC=>by
    obtain ⟨v,h1,h2,h3,h4⟩:=hI
    have y0:¬(w2.heap.size+1=w2.heap.size∨OwnMB (.slice p0 n0' t0) (.slice p1 n1' t1) (.slice p2 n2' t2) us (w2.heap.size+1)):=by
     rintro (h | h)
     ·omega
     have:=iM _ h;omega
    exact ⟨v,Gc hC h1 y0,Gf hC (Lc h1) h2 y0,Ow h3 hC (fun q hq h=>by
     have h5:=h3.lt q hq
     rcases h with h | h
     ·omega
     have:=iM _ h;omega),h4⟩)
   (fun n W u hn hI hN hE=>by
    obtain ⟨v,h1,h2,h3,h4⟩:=hI
    have m1:=evN_len c s n
    have o1:=(stEvs_len (insAt c (stN c n s).pc) (stN c n s)).1
    refine (ran1_any (w2.heap.size+1) (w4.heap.size+1) v u (evN c n s) _ _ W h1 h2 h3 h4 (Ro hE (by omega)) (by omega) hN).mono ?_
    rintro e W' ⟨he,v',g1,g2,g3,g4,g5,g6⟩
    refine ⟨he,⟨v',g1,g2,g3,g5⟩,g6.mono (fun q _ h=>?_)⟩
    rcases h with h | h
    ·exact Or.inl h
    exact Or.inr (h3.lt q h).1)
  have v0:=Lib.hid z0
  have l1:=Lib.hid (fun n=>evN_len c s n)
  clear z0 e0 k1 k0 hS rc OM
  replace n0:=Kc b0 n0;replace n1:=Kc b0 n1;replace n2:=Kc b0 n2
  have u1:=Lc n0;have kg:=Lc g0
  have m0:=btr j0 b0
  go_upto_region 5 with (fail)
  rw [← x0.out]
  clear x0 mx my d0 d1 d2 d3 df u0 l0
  go_wp2_with fail
  refine v0.out.mono ?_
  rintro e w5 ⟨rfl,s0,hC⟩
  have s1:=hC.size
  have o0:=m0.trans (hC.below w.heap.size m0.size (fun q hq h=>by
   rcases h with h | h | h
   ·omega
   ·have:=iM _ h;omega
   omega))
  clear v0 hC g0 gf n0 n1 n2
  cases hR:runR c s with
  | none =>
   have r0:Hid (R=none):=Lib.hid (by rw [HF.out,hR])
   clear s0 hR
   go_wp2
   exact bodyPost_ret (v:=.tuple #[.pointer none,.slice none 0 0,.bool false]) (by simp [results,Tryz.results30,go_sem]) rfl (by rw [r0.out];exact ⟨fun _=>rfl,fun n h=>(by cases h),o0⟩)
  | some n =>
   have r0:Hid (R=some n):=Lib.hid (by rw [HF.out,hR])
   obtain ⟨j1,b1,v,h1,h2,h3,h4⟩:=s0 n hR
   obtain ⟨pu,tu,rfl⟩:=Oh h3
   have kh:=Lc h1
   have HH:=Lib.hid (And.intro j1 (And.intro b1 h3))
   clear hR s0 b1 h3 h4 h2
   go_upto_region 8 with (fail)
   go_quiet (fail)
   go_wp2
   exact bodyPost_ret (v:=.tuple #[.pointer (some ⟨w2.heap.size,0,none⟩),.slice pu (evN c (n+1) s).length tu,.bool true]) (by simp [results,Tryz.results30,go_sem]) rfl (by
    rw [r0.out]
    refine ⟨fun h=>(by cases h),fun n' h=>?_,btr o0 (below_drewN' _ _)⟩
    obtain rfl:=Option.some.inj h
    refine ⟨w2.heap.size,.slice p0 n0' t0,.slice p1 n1' t1,.slice p2 n2' t2,us,pu,tu,rfl,HH.out.1,?_,by omega,?_⟩
    ·have h5:=HH.out.2.1.below (below_drewN' w5 nq)
     exact ⟨h5.c0,h5.c1,h5.c2,h5.c3,h5.f0,h5.own.mono (by omega),h5.ob⟩
    exact Om (Ob HH.out.2.2 (below_drewN' w5 nq)) (by omega))
def runE (c:Cd) (m:Mm):List Ev:=match finN c m with | some n=>evN c (n+1) (ini m) | none=>[]
def runM (c:Cd) (m:Mm):Mm:=match finN c m with | some n=>(stN c (n+1) (ini m)).mem | none=>⟨[],[]⟩
def runB (c:Cd) (m:Mm):Bool:=(finN c m).isSome
theorem run_no {c:Cd} {m:Mm} (h:finN c m=none):runE c m=[]∧runM c m=⟨[],[]⟩∧runB c m=false:=by unfold runE runM runB;rw [h];exact ⟨rfl,rfl,rfl⟩
theorem run_yes {c:Cd} {m:Mm} {n:Nat} (h:finN c m=some n):runE c m=evN c (n+1) (ini m)∧runM c m=(stN c (n+1) (ini m)).mem∧runB c m=true:=by unfold runE runM runB;rw [h];exact ⟨rfl,rfl,rfl⟩
theorem finN_lt {c:Cd} {m:Mm} {n:Nat} (h:finN c m=some n):n < 20000:=by
 unfold finN at h
 split at h
 ·have hf:∀ (p:Nat→Bool) (f k n:Nat),fstH p f k=some n→n < k+f:=by
   intro p f
   induction f with
   | zero=>intro k n h;cases h
   | succ f ih =>
    intro k n h
    rw [fstH] at h
    split at h
    ·have:=Option.some.inj h;omega
    have:=ih _ _ h;omega
  have:=hf _ _ _ _ h;omega
 cases h
theorem runE_len (c:Cd) (m:Mm):(runE c m).length≤40000:=by
 cases h:finN c m with
 | none=>rw [(run_no h).1];simp
 | some n=>rw [(run_yes h).1];have:=evN_len c (ini m) (n+1);have:=finN_lt h;omega
theorem noMem_own (w:World) (base:Nat):OwnM w base (.slice none 0 0) (.slice none 0 0) [] ⟨[],[]⟩:=
 ⟨World.ownsRow_nil _ _ _ _,⟨rfl,World.ownsRow_nil _ _ _ _,fun k u r h=>by simp at h,fun j k u u' h=>by simp at h⟩,fun q h=>by simp [Value.ownBlock] at h⟩
theorem OwnMv.toM {w:World} {base:Nat} {vr vv va:Value} {us:List Value} {rs:List Int} {m:Mm} (h:OwnMv w base vr vv va us rs m):OwnM w base vv va us m:=⟨h.v,h.a,h.va⟩
theorem iRunCode_any (va vb vc vx vy:Value) (c:Cd) (m:Mm) (w:World) (hr:ReadsC w va vb vc c) (hm:ReadsM w vx vy m) (hl:m.vals.length≤1048576) (hn:m.arrs.length≤1048576) (hp:pre2 m.arrs m.arrs.length≤1048576) :
  Calls Tryz.prog 9 #[.agg #[va,vb,vc],.agg #[vx,vy]] w fun e w'=>∃ ux uy us u,e=.returned (.tuple #[.agg #[ux,uy],u,.bool (runB c m)])∧OwnM w' w.heap.size ux uy us (runM c m)∧w'.ownsRow w.heap.size 38 2 u (runE c m).length (evs (runE c m))∧Below w.heap.size w w':=by
 obtain ⟨a0,c0,a1,c1,a2,c2,rfl,rfl,rfl⟩:=hr.shape
 obtain ⟨a3,c3,a4,c4,rfl,rfl⟩:=hm.shape
 have q0:=hm.below (bal (bal (bal (Bs w) (.cells #[.slice a0 c.vars.length c0,.slice a1 c.arrays.length c1,.slice a2 c.list.length c2] 26)) (.cells #[.slice a3 m.vals.length c3,.slice a4 m.arrs.length c4] 29)) (.cells #[.slice none 0 0,.slice none 0 0] 29))
 have d0:=Lib.hid (ran_any _ _ _ _ _ c m _ (hr.below (bal (bal (bal (Bs w) (.cells #[.slice a0 c.vars.length c0,.slice a1 c.arrays.length c1,.slice a2 c.list.length c2] 26)) (.cells #[.slice a3 m.vals.length c3,.slice a4 m.arrs.length c4] 29)) (.cells #[.slice none 0 0,.slice none 0 0] 29))) q0.x q0.y hl hn hp)
 clear hr hm q0
 have o0:=fun h=>run_no (c:=c) (m:=m) h
 have p0:=fun n h=>run_yes (c:=c) (m:=m) (n:=n) h
 cases hf:finN c m with
 | none =>
  have hR:=o0 hf;have HR:=Lib.hid hR;clear hR p0 o0
  have b0:=Lib.hid (by have h:=d0.out;rw [hf] at h;exact h)
  clear d0 hf
  generalize runE c m=RE at *;generalize runM c m=RM at *;generalize runB c m=RB at *
  go_enter Tryz.func9,Tryz.ntmps9
  go_wp2_with fail
  refine (b0.out).mono ?_
  rintro e w1 ⟨h1,_,hb⟩
  obtain rfl:=h1 (by trivial)
  clear h1
  have r0:=hb.size
  simp only [Sa] at r0
  have y0:w1.cell? ⟨w.heap.size,0,none⟩=some (.slice a0 c.vars.length c0):=Kc hb (Ac (Ac (Wc (by simp) (by rfl)) _) _)
  have z0:w1.cell? ⟨w.heap.size,1,none⟩=some (.slice a1 c.arrays.length c1):=Kc hb (Ac (Ac (Wc (by simp) (by rfl)) _) _)
  have b1:w1.cell? ⟨w.heap.size,2,none⟩=some (.slice a2 c.list.length c2):=Kc hb (Ac (Ac (Wc (by simp) (by rfl)) _) _)
  have d1:w1.cell? ⟨w.heap.size+1,0,none⟩=some (.slice a3 m.vals.length c3):=Kc hb (Ac (Wc (by simp) (by rfl)) _)
  have e1:w1.cell? ⟨w.heap.size+1,1,none⟩=some (.slice a4 m.arrs.length c4):=Kc hb (Ac (Wc (by simp) (by rfl)) _)
  have t0:w1.cell? ⟨w.heap.size+1+1,0,none⟩=some (.slice none 0 0):=Kc hb (Wc (by simp) (by rfl))
  have n1:w1.frozen? ⟨w.heap.size+1+1,0,none⟩=false:=Kf hb (by simp) (Fn (by simp))
  have f1:w1.cell? ⟨w.heap.size+1+1,1,none⟩=some (.slice none 0 0):=Kc hb (Wc (by simp) (by rfl))
  have v0:w1.frozen? ⟨w.heap.size+1+1,1,none⟩=false:=Kf hb (by simp) (Fn (by simp))
  have s0:=btr (bal (bal (bal (Bs w) (.cells #[.slice a0 c.vars.length c0,.slice a1 c.arrays.length c1,.slice a2 c.list.length c2] 26)) (.cells #[.slice a3 m.vals.length c3,.slice a4 m.arrs.length c4] 29)) (.cells #[.slice none 0 0,.slice none 0 0] 29)) hb
  clear hb
  clear y0 z0 b1 d1 e1
  have g1:=Lc t0
  have j1:=(Nn (b:=(w.heap.size+1+1)) (j:=1) (Tc _ (w.heap.size+1+1) 0 (.slice none 0 0) t0) (.slice none 0 0))
  have k1:=(Tc _ (w.heap.size+1+1) 1 (.slice none 0 0) (Nn (b:=(w.heap.size+1+1)) (j:=0) f1 (.slice none 0 0)))
  have tt:=(bst (bst s0 (w.heap.size+1+1) 0 (by omega) (.slice none 0 0)) (w.heap.size+1+1) 1 (by omega) (.slice none 0 0))
  go_wp2
  exact bodyPost_ret (v:=.tuple #[.agg #[.slice none 0 0,.slice none 0 0],.slice none 0 0,.bool false]) (by simp [results,Tryz.results9,go_sem,j1,k1]) rfl (by exact by rw [HR.out.1,HR.out.2.1,HR.out.2.2];exact ⟨_,_,[],_,rfl,noMem_own _ _,World.ownsRow_nil _ _ _ _,tt⟩)
 | some n =>
  have hR:=p0 n hf;have HR:=Lib.hid hR;clear hR p0 o0
  have b0:=Lib.hid (by have h:=d0.out;rw [hf] at h;exact h)
  clear d0 hf
  generalize runE c m=RE at *;generalize runM c m=RM at *;generalize runB c m=RB at *
  go_enter Tryz.func9,Tryz.ntmps9
  go_wp2_with fail
  refine (b0.out).mono ?_
  rintro e w1 ⟨_,h2,hb⟩
  obtain ⟨b,vr,vv,vA,us,pu,tu,rfl,_,hS,o1,hE⟩:=h2 n rfl
  have d2:=hS.c2;have d3:=hS.c3
  obtain ⟨pv,tv,rfl⟩:=Oh hS.own.v
  obtain ⟨pa,ta,rfl⟩:=Oh hS.own.a.out
  have iM:=hS.own.lt;have u0:=hS.own.toM;have kd:=Lc d2
  clear h2 hS
  have h0:=hb.size
  simp only [Sa] at h0
  have i0:w1.cell? ⟨w.heap.size,0,none⟩=some (.slice a0 c.vars.length c0):=Kc hb (Ac (Ac (Wc (by simp) (by rfl)) _) _)
  have j0:w1.cell? ⟨w.heap.size,1,none⟩=some (.slice a1 c.arrays.length c1):=Kc hb (Ac (Ac (Wc (by simp) (by rfl)) _) _)
  have k0:w1.cell? ⟨w.heap.size,2,none⟩=some (.slice a2 c.list.length c2):=Kc hb (Ac (Ac (Wc (by simp) (by rfl)) _) _)
  have l0:w1.cell? ⟨w.heap.size+1,0,none⟩=some (.slice a3 m.vals.length c3):=Kc hb (Ac (Wc (by simp) (by rfl)) _)
  have m0:w1.cell? ⟨w.heap.size+1,1,none⟩=some (.slice a4 m.arrs.length c4):=Kc hb (Ac (Wc (by simp) (by rfl)) _)
  have g0:w1.cell? ⟨w.heap.size+1+1,0,none⟩=some (.slice none 0 0):=Kc hb (Wc (by simp) (by rfl))
  have w0:w1.frozen? ⟨w.heap.size+1+1,0,none⟩=false:=Kf hb (by simp) (Fn (by simp))
  have n0:w1.cell? ⟨w.heap.size+1+1,1,none⟩=some (.slice none 0 0):=Kc hb (Wc (by simp) (by rfl))
  have x0:w1.frozen? ⟨w.heap.size+1+1,1,none⟩=false:=Kf hb (by simp) (Fn (by simp))
  have s0:=btr (bal (bal (bal (Bs w) (.cells #[.slice a0 c.vars.length c0,.slice a1 c.arrays.length c1,.slice a2 c.list.length c2] 26)) (.cells #[.slice a3 m.vals.length c3,.slice a4 m.arrs.length c4] 29)) (.cells #[.slice none 0 0,.slice none 0 0] 29)) hb
  clear hb
  clear i0 j0 k0 l0 m0
  have i1:=Lc g0
  have e0:=u0.lt
  try simp only [Sa] at e0
  have f0:=hE.lt
  try simp only [Sa] at f0
  have oM:=Lib.hid ((u0.keep (C1 (w.heap.size+1+1) 0 (.slice pv ((stN c (n+1) (ini m)).mem.vals.length) tv)) (fun gq h h2=>by have:=e0 gq h;omega)).keep (C1 (w.heap.size+1+1) 1 (.slice pa ((stN c (n+1) (ini m)).mem.arrs.length) ta)) (fun gq h h2=>by have:=e0 gq h;omega));have oE:=Lib.hid (Oe (Oe hE (w.heap.size+1+1) 0 (fun h=>by have:=f0 _ h;omega) (.slice pv ((stN c (n+1) (ini m)).mem.vals.length) tv)) (w.heap.size+1+1) 1 (fun h=>by have:=f0 _ h;omega) (.slice pa ((stN c (n+1) (ini m)).mem.arrs.length) ta))
  have l1:=(Nn (b:=(w.heap.size+1+1)) (j:=1) (Tc _ (w.heap.size+1+1) 0 (.slice pv ((stN c (n+1) (ini m)).mem.vals.length) tv) g0) (.slice pa ((stN c (n+1) (ini m)).mem.arrs.length) ta))
  have m1:=(Tc _ (w.heap.size+1+1) 1 (.slice pa ((stN c (n+1) (ini m)).mem.arrs.length) ta) (Nn (b:=(w.heap.size+1+1)) (j:=0) n0 (.slice pv ((stN c (n+1) (ini m)).mem.vals.length) tv)))
  have tt:=(bst (bst s0 (w.heap.size+1+1) 0 (by omega) (.slice pv ((stN c (n+1) (ini m)).mem.vals.length) tv)) (w.heap.size+1+1) 1 (by omega) (.slice pa ((stN c (n+1) (ini m)).mem.arrs.length) ta))
  go_wp2
  exact bodyPost_ret (v:=.tuple #[.agg #[.slice pv ((stN c (n+1) (ini m)).mem.vals.length) tv,.slice pa ((stN c (n+1) (ini m)).mem.arrs.length) ta],.slice pu ((evN c (n+1) (ini m)).length) tu,.bool true]) (by simp [results,Tryz.results9,go_sem,l1,m1]) rfl (by exact by rw [HR.out.1,HR.out.2.1,HR.out.2.2];exact ⟨_,_,us,_,rfl,oM.out.mono (by simp;omega),Om oE.out (by simp;omega),tt⟩)
theorem runR_iff {c:Cd} {s:Ms} {n:Nat} (h:runR c s=some n):n < 20000∧(∀ j,j < n→¬opAt c s j=13)∧opAt c s n=13:=by
 have a0:∀ (f k:Nat),(∀ j,j < k→¬opAt c s j=13)→fstH (fun n=>opAt c s n == 13) f k=some n→n < k+f∧(∀ j,j < n→¬opAt c s j=13)∧opAt c s n=13:=by
  intro f
  induction f with
  | zero=>intro k _ h;simp [fstH] at h
  | succ f ih =>
   intro k hk h
   rw [fstH] at h
   by_cases hp:(opAt c s k == 13)=true
   ·rw [if_pos hp] at h
    have:=Option.some.inj h
    subst this
    exact ⟨by omega,hk,by simpa using hp⟩
   rw [if_neg hp] at h
   have:=ih (k+1) (fun j hj=>by
    by_cases e:j=k
    ·subst e;simpa using hp
    exact hk j (by omega)) h
   exact ⟨by omega,this.2⟩
 have:=a0 20000 0 (fun j hj=>by omega) h
 exact ⟨by omega,this.2⟩
theorem finN_iff {c:Cd} {m:Mm} {n:Nat}:finN c m=some n ↔ goOk c m=true∧n < 20000∧(∀ j,j < n→¬opAt c (ini m) j=13)∧opAt c (ini m) n=13:=by
 cases hg:goOk c m with
 | false=>rw [finN_no hg];simp
 | true =>
  rw [finN_yes hg]
  constructor
  ·intro h;exact ⟨rfl,runR_iff h⟩
  rintro ⟨_,h1,h2,h3⟩;exact runR_some h1 h2 h3
structure ReadsS (w:World) (vr vx vy:Value) (s:Ms):Prop where
 r:Reads w 1 vr s.regs.length (ints s.regs)
 m:ReadsM w vx vy s.mem
theorem ReadsS.below {w w':World} {vr vx vy:Value} {s:Ms} (h:ReadsS w vr vx vy s) (hb:Below w.heap.size w w'):ReadsS w' vr vx vy s:=⟨h.r.below hb,h.m.below hb⟩
end Go.Proofs.YtkjedgnepnbkpaaGreat
