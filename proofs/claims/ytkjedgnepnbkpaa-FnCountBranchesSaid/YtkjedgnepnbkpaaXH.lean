/-
 Parts of the proofs of the laws FnCodeFenced,FnCountBranches.
-/
import Derived.Test.YtkjedgnepnbkpaaXF
set_option linter.all false
namespace Go.Proofs.Ytkjedgnepnbkpaa
open Go.RowKit
theorem sr1_call (args:Array Value) (W:World):(callFunc 103 args).run Try.prog W=.ok (.enter 103 args) W:=by kernel_rfl
theorem sr_step (Bo Bc X Wb b base tb cw:Nat) (aw:Option Addr) (u va vb vc vr vx vy:Value) (us:List Value) (ws:List Bool) (c:Cd) (s:Ms) (n:Nat) (W:World) (hI:SI W Bo Bc X Wb tb va vb vc aw cw c ws s n)
  (hu:W.ownsRow tb 47 2 u (stEvs (insAt c (stN c n s).pc) (stN c n s)).length (evs (stEvs (insAt c (stN c n s).pc) (stN c n s)))) (hr:ReadsC W va vb vc c) (hS:OwnS W base b vr vx vy us (stN c (n+1) s)) (hM:MsOk c (stN c n s)) (hok:codeOk c=true) (hn:n < 20000)
  (hlow:Bo < tb∧Bc < tb∧X < tb∧Wb < tb∧b < tb∧tb≤W.heap.size) (hne:Bo≠Bc∧X≠Bo∧X≠Bc∧Wb≠Bo∧Wb≠Bc∧b≠Bo∧b≠Bc)
  (hRB:∀ q,ReadB va vb vc c q→q < tb∧q≠Bo∧q≠Bc) (hMB:∀ q,OwnMB vr vx vy us q→q < tb∧q≠Bo∧q≠Bc) (hbw:∀ g o cc,0 < ws.length→Value.slice aw ws.length cw=.slice (some ⟨g,o,none⟩) ws.length cc→g < tb∧g≠Bo∧g≠Bc) :
  Calls Try.prog 103 #[.int .i64 (stN c n s).pc,u,.pointer (some ⟨Bo,0,none⟩),.pointer (some ⟨X,0,none⟩),.pointer (some ⟨Bc,0,none⟩),.pointer (some ⟨Wb,0,none⟩),.pointer (some ⟨b,0,none⟩)] W fun e W'=>e=.returned (.tuple #[])∧SI W' Bo Bc X Wb tb va vb vc aw cw c ws s (n+1)∧Chg (fun q=>(q=Bo∨q=Bc)∨tb≤q) W W':=by
 obtain ⟨k,hk⟩:∃ k:Nat,(stN c n s).pc=k:=⟨(stN c n s).pc.toNat,by have:=hM.pc0;omega⟩
 obtain ⟨v,o1,o2⟩:=hI.o
 have l1:=spN_len c ws s n
 have l2:=(stEvs_len (insAt c (stN c n s).pc) (stN c n s)).1
 have l3:=brN_le c s n
 obtain ⟨n1,n2,n3,n4,n5,n6,n7⟩:=hne
 obtain ⟨g1,g2,g3,g4,g5,g6⟩:=hlow
 have h:=sr1_any Bo Bc X Wb b base tb cw k (brN c n s) aw v u va vb vc vr vx vy us (spN c ws n s) (stEvs (insAt c (stN c n s).pc) (stN c n s)) ws c (stN c n s) W o1 hI.of o2 (Ro hu (by omega)) hI.x hr hI.c0 hI.cf hI.w0 hI.ws hS hM hk hok (by omega) (by omega) ⟨g1,g2,g3,g4,g5,g6⟩ ⟨n1,n2,n3,n4,n5,n6,n7⟩ hRB hMB hbw
 rw [← hk] at h
 refine h.mono ?_
 rintro e W' ⟨he,v',c1,c2,c3,c4,c5,hC⟩
 refine ⟨he,⟨⟨v',c1,c3⟩,c2,?_,c5,⟨Gc hC hI.x.1 ?_,Gc hC hI.x.2.1 ?_,Gc hC hI.x.2.2 ?_⟩,Gc hC hI.w0 ?_,hI.ws.keep hC ?_⟩,hC.mono (fun q _ h=>by rcases h with h | h | h;exact Or.inl (Or.inl h);exact Or.inl (Or.inr h);exact Or.inr h)⟩
 ·rw [brN_succ];exact c4
 ·rintro (h | h | h) <;> omega
 ·rintro (h | h | h) <;> omega
 ·rintro (h | h | h) <;> omega
 ·rintro (h | h | h) <;> omega
 intro g o cc h0 hv h
 have:=hbw g o cc h0 hv
 rcases h with h | h | h <;> omega
set_option maxHeartbeats 12800000 in
set_option maxRecDepth 100000 in
theorem iSpecRun_any (va vb vc vx vy:Value) (c:Cd) (m:Mm) (w:World) (hr:ReadsC w va vb vc c) (hm:ReadsM w vx vy m) (hl:m.vals.length≤1048576) (hn:m.arrs.length≤1048576) (hp:pre2 m.arrs m.arrs.length≤1048576) (aw:Option Addr) (cw:Nat) (ws:List Bool) (hws:Reads w 1 (.slice aw ws.length cw) ws.length (bools ws)) :
  Calls Try.prog 45 #[.agg #[va,vb,vc],.agg #[vx,vy],.slice aw ws.length cw] w fun e w'=>∃ ux uy us u,e=.returned (.tuple #[.agg #[ux,uy],u,.bool (runB c m)])∧OwnM w' w.heap.size ux uy us (runM c m)∧w'.ownsRow w.heap.size 47 2 u (srE c m ws).length (evs (srE c m ws))∧Below w.heap.size w w':=by
 obtain ⟨a0,c0,a1,c1,a2,c2,rfl,rfl,rfl⟩:=hr.shape
 obtain ⟨a3,c3,a4,c4,rfl,rfl⟩:=hm.shape
 have p3:=hr.lt
 have o3:∀ g o cc,0 < ws.length→Value.slice aw ws.length cw=.slice (some ⟨g,o,none⟩) ws.length cc→g < w.heap.size:=fun g o cc h h2=>reads_lt hws g o cc h h2
 have i2:=Lib.hid o3;clear o3
 have HR:=Lib.hid (fun W (hW:Below w.heap.size w W)=>hr.below hW)
 have b3:=Lib.hid (fun W (hW:Below w.heap.size w W)=>hws.below hW)
 have v1:=Lib.hid (fun W (hW:Below w.heap.size w W)=>iStart_any _ _ _ _ _ c m W (hr.below hW) (hm.below hW).x (hm.below hW).y hl hn hp)
 have b2:=Lib.hid p3
 clear hr hm hl hn hp hws p3
 cases hg:goOk c m with
 | false =>
  have HF:=Lib.hid (sr_no (ws:=ws) (finN_no hg))
  have u0:=Lib.hid (fun W hW=>by have h:=v1.out W hW;rw [hg] at h;exact h)
  clear v1 hg HR b3 i2 b2
  generalize srE c m ws=RE at *;generalize runM c m=RM at *;generalize runB c m=RB at *
  go_enter Try.func45,Try.ntmps45
  go_wp2_with fail
  refine (u0.out _ (bal (bal (bal (bal (Bs w) (.cells #[.slice a0 c.vars.length c0,.slice a1 c.arrays.length c1,.slice a2 c.list.length c2] 26)) (.cells #[.slice a3 m.vals.length c3,.slice a4 m.arrs.length c4] 37)) (.cells #[.slice aw ws.length cw] 66)) (.cells #[.slice none 0 0,.slice none 0 0] 37))).mono ?_
  rintro e w1 ⟨p0,n0',t0,p1,n1',t1,p2,n2',t2,rfl,hO,hb⟩
  have m1:=hb.size
  simp only [Sa] at m1
  have t3:w1.cell? ⟨w.heap.size,0,none⟩=some (.slice a0 c.vars.length c0):=Kc hb (Ac (Ac (Ac (Wc (by simp) (by rfl)) _) _) _)
  have s4:w1.cell? ⟨w.heap.size,1,none⟩=some (.slice a1 c.arrays.length c1):=Kc hb (Ac (Ac (Ac (Wc (by simp) (by rfl)) _) _) _)
  have t4:w1.cell? ⟨w.heap.size,2,none⟩=some (.slice a2 c.list.length c2):=Kc hb (Ac (Ac (Ac (Wc (by simp) (by rfl)) _) _) _)
  have u3:w1.cell? ⟨w.heap.size+1,0,none⟩=some (.slice a3 m.vals.length c3):=Kc hb (Ac (Ac (Wc (by simp) (by rfl)) _) _)
  have v3:w1.cell? ⟨w.heap.size+1,1,none⟩=some (.slice a4 m.arrs.length c4):=Kc hb (Ac (Ac (Wc (by simp) (by rfl)) _) _)
  have x3:w1.cell? ⟨w.heap.size+1+1,0,none⟩=some (.slice aw ws.length cw):=Kc hb (Ac (Wc (by simp) (by rfl)) _)
  have e3:w1.cell? ⟨w.heap.size+1+1+1,0,none⟩=some (.slice none 0 0):=Kc hb (Wc (by simp) (by rfl))
  have r4:w1.frozen? ⟨w.heap.size+1+1+1,0,none⟩=false:=Kf hb (by simp <;> omega) (Fn (by simp))
  have q2:w1.cell? ⟨w.heap.size+1+1+1,1,none⟩=some (.slice none 0 0):=Kc hb (Wc (by simp) (by rfl))
  have s3:w1.frozen? ⟨w.heap.size+1+1+1,1,none⟩=false:=Kf hb (by simp <;> omega) (Fn (by simp))
  have m0:=btr (bal (bal (bal (bal (Bs w) (.cells #[.slice a0 c.vars.length c0,.slice a1 c.arrays.length c1,.slice a2 c.list.length c2] 26)) (.cells #[.slice a3 m.vals.length c3,.slice a4 m.arrs.length c4] 37)) (.cells #[.slice aw ws.length cw] 66)) (.cells #[.slice none 0 0,.slice none 0 0] 37)) hb
  clear hb
  clear u3 v3
  have y3:=Lc t3
  have z3:=Lc x3
  have b4:=Lc e3
  have k4:=(Ac (Nn (b:=(w.heap.size+1+1+1)) (j:=1) (Tc _ (w.heap.size+1+1+1) 0 (.slice none 0 0) e3) (.slice none 0 0)) (.cells #[.int .i64 0,.slice p0 (n0') t0,.slice p1 (n1') t1,.slice p2 (n2') t2] 39))
  have l4:=(Ac (Tc _ (w.heap.size+1+1+1) 1 (.slice none 0 0) (Nn (b:=(w.heap.size+1+1+1)) (j:=0) q2 (.slice none 0 0))) (.cells #[.int .i64 0,.slice p0 (n0') t0,.slice p1 (n1') t1,.slice p2 (n2') t2] 39))
  have tt:=(bal (bst (bst m0 (w.heap.size+1+1+1) 0 (by omega) (.slice none 0 0)) (w.heap.size+1+1+1) 1 (by omega) (.slice none 0 0)) (.cells #[.int .i64 0,.slice p0 (n0') t0,.slice p1 (n1') t1,.slice p2 (n2') t2] 39))
  go_wp2
  exact bodyPost_ret (v:=.tuple #[.agg #[.slice none 0 0,.slice none 0 0],.slice none 0 0,.bool false]) (by simp [results,Try.results45,go_sem,k4,l4]) rfl (by exact by rw [HF.out.1,HF.out.2.1,HF.out.2.2];exact ⟨_,_,[],_,rfl,noMem_own _ _,World.ownsRow_nil _ _ _ _,tt⟩)
 | true =>
  have u0:=Lib.hid (fun W hW=>by have h:=v1.out W hW;rw [hg] at h;exact h)
  have HY:=Lib.hid (fun n (h:runR c (ini m)=some n)=>sr_yes (ws:=ws) ((finN_yes hg).trans h))
  have HN:=Lib.hid (fun (h:runR c (ini m)=none)=>sr_no (ws:=ws) ((finN_yes hg).trans h))
  have z2:=Lib.hid (ini_ok hg);have f2:=Lib.hid (goOk_code hg)
  clear v1 hg
  generalize srE c m ws=RE at *;generalize runM c m=RM at *;generalize runB c m=RB at *
  have z1:Hid ((ini m).regs=reg0∧(ini m).mem=m∧(ini m).pc=0):=Lib.hid ⟨rfl,rfl,rfl⟩
  generalize ini m=s at *
  go_enter Try.func45,Try.ntmps45
  go_upto_region 1 with (fail)
  obtain ⟨w1,q0,hb⟩:=nmw (World.alloc (World.alloc (World.alloc (World.alloc w (.cells #[.slice a0 c.vars.length c0,.slice a1 c.arrays.length c1,.slice a2 c.list.length c2] 26)) (.cells #[.slice a3 m.vals.length c3,.slice a4 m.arrs.length c4] 37)) (.cells #[.slice aw ws.length cw] 66)) (.cells #[.slice none 0 0,.slice none 0 0] 37))
  have q1:=hb.size
  simp only [Sa] at q1
  have e0:w1.cell? ⟨w.heap.size,0,none⟩=some (.slice a0 c.vars.length c0):=Kc hb (Ac (Ac (Ac (Wc (by simp) (by rfl)) _) _) _)
  have i0:w1.cell? ⟨w.heap.size,1,none⟩=some (.slice a1 c.arrays.length c1):=Kc hb (Ac (Ac (Ac (Wc (by simp) (by rfl)) _) _) _)
  have j0:w1.cell? ⟨w.heap.size,2,none⟩=some (.slice a2 c.list.length c2):=Kc hb (Ac (Ac (Ac (Wc (by simp) (by rfl)) _) _) _)
  have o0:w1.cell? ⟨w.heap.size+1,0,none⟩=some (.slice a3 m.vals.length c3):=Kc hb (Ac (Ac (Wc (by simp) (by rfl)) _) _)
  have v0:w1.cell? ⟨w.heap.size+1,1,none⟩=some (.slice a4 m.arrs.length c4):=Kc hb (Ac (Ac (Wc (by simp) (by rfl)) _) _)
  have f0:w1.cell? ⟨w.heap.size+1+1,0,none⟩=some (.slice aw ws.length cw):=Kc hb (Ac (Wc (by simp) (by rfl)) _)
  have b0:w1.cell? ⟨w.heap.size+1+1+1,0,none⟩=some (.slice none 0 0):=Kc hb (Wc (by simp) (by rfl))
  have k0:w1.frozen? ⟨w.heap.size+1+1+1,0,none⟩=false:=Kf hb (by simp <;> omega) (Fn (by simp))
  have d0:w1.cell? ⟨w.heap.size+1+1+1,1,none⟩=some (.slice none 0 0):=Kc hb (Wc (by simp) (by rfl))
  have l0:w1.frozen? ⟨w.heap.size+1+1+1,1,none⟩=false:=Kf hb (by simp <;> omega) (Fn (by simp))
  have m0:=btr (bal (bal (bal (bal (Bs w) (.cells #[.slice a0 c.vars.length c0,.slice a1 c.arrays.length c1,.slice a2 c.list.length c2] 26)) (.cells #[.slice a3 m.vals.length c3,.slice a4 m.arrs.length c4] 37)) (.cells #[.slice aw ws.length cw] 66)) (.cells #[.slice none 0 0,.slice none 0 0] 37)) hb
  clear hb
  rw [← q0]
  clear q0
  have v2:=Lc e0
  have d4:=Lc o0
  have x2:=Lc f0
  have y2:=Lc b0
  go_wp2_with fail
  refine (u0.out _ m0).mono ?_
  rintro e w2 ⟨p0,n0',t0,p1,n1',t1,p2,n2',t2,rfl,hO,hb⟩
  obtain ⟨us,OM⟩:=hO (by trivial)
  have j3:=hb.size
  replace k0:=Kf hb (Lc b0) k0
  replace l0:=Kf hb (Lc d0) l0
  replace e0:=Kc hb e0
  replace i0:=Kc hb i0
  replace j0:=Kc hb j0
  replace o0:=Kc hb o0
  replace v0:=Kc hb v0
  replace f0:=Kc hb f0
  replace b0:=Kc hb b0
  replace d0:=Kc hb d0
  replace m0:=btr m0 hb
  clear hb
  clear o0 v0
  replace v2:=Lc e0
  replace x2:=Lc f0
  replace y2:=Lc b0
  have iM:=OM.lt
  go_upto_region 6 with (fail)
  obtain ⟨w3,q0,hb⟩:=nmw (World.alloc (World.alloc (World.alloc w2 (.cells #[.int .i64 0,.slice p0 (n0') t0,.slice p1 (n1') t1,.slice p2 (n2') t2] 39)) (.cells #[.slice none 0 0] 42)) (.cells #[.int .i64 0] 3))
  have r1:=hb.size
  simp only [Sa] at r1
  replace k0:=Kf hb (Lc (Ac (Ac (Ac b0 _) _) _)) (Fa (Lc (Ac (Ac b0 _) _)) (Fa (Lc (Ac b0 _)) (Fa (Lc b0) k0 _) _) _)
  replace l0:=Kf hb (Lc (Ac (Ac (Ac d0 _) _) _)) (Fa (Lc (Ac (Ac d0 _) _)) (Fa (Lc (Ac d0 _)) (Fa (Lc d0) l0 _) _) _)
  replace e0:=Kc hb (Ac (Ac (Ac e0 _) _) _)
  replace i0:=Kc hb (Ac (Ac (Ac i0 _) _) _)
  replace j0:=Kc hb (Ac (Ac (Ac j0 _) _) _)
  replace f0:=Kc hb (Ac (Ac (Ac f0 _) _) _)
  replace b0:=Kc hb (Ac (Ac (Ac b0 _) _) _)
  replace d0:=Kc hb (Ac (Ac (Ac d0 _) _) _)
  replace OM:=(((OM.below (bal (Bs _) _)).below (bal (Bs _) _)).below (bal (Bs _) _)).below hb
  have x0:w3.cell? ⟨w2.heap.size,0,none⟩=some (.int .i64 0):=Kc hb (Ac (Ac (Wc (by simp) (by rfl)) _) _)
  have b1:w3.frozen? ⟨w2.heap.size,0,none⟩=false:=Kf hb (by simp <;> omega) (Fa (by simp <;> omega) (Fa (by simp <;> omega) (Fn (by simp)) _) _)
  have i1:w3.cell? ⟨w2.heap.size,1,none⟩=some (.slice p0 (n0') t0):=Kc hb (Ac (Ac (Wc (by simp) (by rfl)) _) _)
  have j2:w3.frozen? ⟨w2.heap.size,1,none⟩=false:=Kf hb (by simp <;> omega) (Fa (by simp <;> omega) (Fa (by simp <;> omega) (Fn (by simp)) _) _)
  have j1:w3.cell? ⟨w2.heap.size,2,none⟩=some (.slice p1 (n1') t1):=Kc hb (Ac (Ac (Wc (by simp) (by rfl)) _) _)
  have k2:w3.frozen? ⟨w2.heap.size,2,none⟩=false:=Kf hb (by simp <;> omega) (Fa (by simp <;> omega) (Fa (by simp <;> omega) (Fn (by simp)) _) _)
  have k1:w3.cell? ⟨w2.heap.size,3,none⟩=some (.slice p2 (n2') t2):=Kc hb (Ac (Ac (Wc (by simp) (by rfl)) _) _)
  have m2:w3.frozen? ⟨w2.heap.size,3,none⟩=false:=Kf hb (by simp <;> omega) (Fa (by simp <;> omega) (Fa (by simp <;> omega) (Fn (by simp)) _) _)
  have y0:w3.cell? ⟨w2.heap.size+1,0,none⟩=some (.slice none 0 0):=Kc hb (Ac (Wc (by simp) (by rfl)) _)
  have d1:w3.frozen? ⟨w2.heap.size+1,0,none⟩=false:=Kf hb (by simp <;> omega) (Fa (by simp <;> omega) (Fn (by simp)) _)
  have z0:w3.cell? ⟨w2.heap.size+1+1,0,none⟩=some (.int .i64 0):=Kc hb (Wc (by simp) (by rfl))
  have f1:w3.frozen? ⟨w2.heap.size+1+1,0,none⟩=false:=Kf hb (by simp <;> omega) (Fn (by simp))
  replace m0:=btr (bal (bal (bal m0 _) _) _) hb
  clear hb
  rw [← q0]
  clear q0
  have e4:=Lc x0
  have f4:=Lc y0
  have h4:=Lc z0
  have hS:OwnS w3 w1.heap.size (w2.heap.size) (.slice p0 n0' t0) (.slice p1 n1' t1) (.slice p2 n2' t2) us s:=⟨by rw [z1.out.2.2];exact x0,i1,j1,k1,b1,by rw [z1.out.1,z1.out.2.1];exact OM,fun h=>by have:=iM _ h;omega⟩
  have n0:∀ q,OwnMB (.slice p0 n0' t0) (.slice p1 n1' t1) (.slice p2 n2' t2) us q→w1.heap.size≤q∧q < w2.heap.size:=iM
  have rc:=HR.out _ m0;have rw:=b3.out _ m0
  have h3:SI w3 (w2.heap.size+1) (w2.heap.size+1+1) (w.heap.size) (w.heap.size+1+1) (w3.heap.size+1) (.slice a0 c.vars.length c0) (.slice a1 c.arrays.length c1) (.slice a2 c.list.length c2) aw cw c ws s 0:=⟨⟨_,y0,World.ownsRow_nil _ _ _ _⟩,d1,z0,f1,⟨e0,i0,j0⟩,f0,rw⟩
  have m1:w2.heap.size≤w3.heap.size:=by omega
  have f3:=execute2_any 103 #[.pointer (some ⟨w2.heap.size+1,0,none⟩),.pointer (some ⟨w.heap.size,0,none⟩),.pointer (some ⟨w2.heap.size+1+1,0,none⟩),.pointer (some ⟨(w.heap.size+1+1),0,none⟩),.pointer (some ⟨w2.heap.size,0,none⟩)] (fun n W=>SI W (w2.heap.size+1) (w2.heap.size+1+1) (w.heap.size) (w.heap.size+1+1) (w3.heap.size+1) (.slice a0 c.vars.length c0) (.slice a1 c.arrays.length c1) (.slice a2 c.list.length c2) aw cw c ws s n) (fun q=>q=w2.heap.size+1∨q=w2.heap.size+1+1) (w2.heap.size) w1.heap.size _ _ _ _ _ _ us c s w3 sr1_call rc hS z2.out f2.out (by rintro (h | h) <;> omega) (fun q h h2=>by have:=n0 q h;rcases h2 with h2 | h2 <;> omega) (fun q h=>by rcases h with h | h <;> omega)
   (fun q hq=>by have h0:=b2.out q hq;exact ⟨by omega,fun h=>by have:=n0 q h;omega,by rintro (h | h) <;> omega⟩) h3
   (fun n W W' hI hC=>hI.keep hC (by rintro (h | h);omega;(have:=n0 _ h;omega)) (by rintro (h | h);omega;(have:=n0 _ h;omega)) (by rintro (h | h);omega;(have:=n0 _ h;omega)) (by rintro (h | h);omega;(have:=n0 _ h;omega)) (fun q hq h=>by rcases h with h | h;omega;(have:=n0 _ h;omega)) (fun gg oo cc h0 hv h=>by have h1:=i2.out gg oo cc h0 hv;rcases h with h | h;omega;(have:=n0 _ h;omega)))
   (fun n W u hn hI hN hE hSn hrn hus=>sr_step (w2.heap.size+1) (w2.heap.size+1+1) (w.heap.size) (w.heap.size+1+1) (w2.heap.size) w1.heap.size (w3.heap.size+1) cw aw u _ _ _ _ _ _ us ws c s n W hI hE hrn hSn (stN_ok f2.out z2.out n) f2.out hn ⟨by omega,by omega,by omega,by omega,by omega,hN⟩ ⟨by omega,by omega,by omega,by omega,by omega,by omega,by omega⟩ (fun q hq=>by have h0:=b2.out q hq;omega) (fun q hq=>by have h0:=n0 q hq;omega) (fun gg oo cc h0 hv=>by have h1:=i2.out gg oo cc h0 hv;omega))
  have y1:=Lib.hid f3
  have iE:∀ q,(q=w2.heap.size∨OwnMB (.slice p0 n0' t0) (.slice p1 n1' t1) (.slice p2 n2' t2) us q∨(q=w2.heap.size+1∨q=w2.heap.size+1+1))→w1.heap.size≤q:=fun q h=>by rcases h with h | h | h | h;omega;(have:=n0 q h;omega);omega;omega
  clear f3 hS h3 rc rw iM
  clear OM x0 b1 i1 j2 j1 k2 k1 m2 y0 d1 z0 f1
  go_wp2_with fail
  refine (y1.out).mono ?_
  rintro e w4 ⟨rfl,r2,hC⟩
  have k3:=hC.size
  replace k0:=Gf hC (Lc b0) k0 (fun h=>by have:=iE _ h;omega)
  replace l0:=Gf hC (Lc d0) l0 (fun h=>by have:=iE _ h;omega)
  replace e0:=Gc hC e0 (fun h=>by have:=iE _ h;omega)
  replace i0:=Gc hC i0 (fun h=>by have:=iE _ h;omega)
  replace j0:=Gc hC j0 (fun h=>by have:=iE _ h;omega)
  replace f0:=Gc hC f0 (fun h=>by have:=iE _ h;omega)
  replace b0:=Gc hC b0 (fun h=>by have:=iE _ h;omega)
  replace d0:=Gc hC d0 (fun h=>by have:=iE _ h;omega)
  replace m0:=m0.trans (hC.below w.heap.size (by have:=m0.size;omega) (fun gq hgq h=>by have:=iE gq h;omega))
  clear hC
  cases hR:runR c s with
  | none =>
   have r0:=Lib.hid (HN.out hR)
   clear r2 hR y1
   have m4:=(Nn (b:=(w.heap.size+1+1+1)) (j:=1) (Tc _ (w.heap.size+1+1+1) 0 (.slice none 0 0) b0) (.slice none 0 0))
   have o4:=(Tc _ (w.heap.size+1+1+1) 1 (.slice none 0 0) (Nn (b:=(w.heap.size+1+1+1)) (j:=0) d0 (.slice none 0 0)))
   have tt:=(bst (bst m0 (w.heap.size+1+1+1) 0 (by omega) (.slice none 0 0)) (w.heap.size+1+1+1) 1 (by omega) (.slice none 0 0))
   go_wp2
   exact bodyPost_ret (v:=.tuple #[.agg #[.slice none 0 0,.slice none 0 0],.slice none 0 0,.bool false]) (by simp [results,Try.results45,go_sem,m4,o4]) rfl (by exact by rw [r0.out.1,r0.out.2.1,r0.out.2.2];exact ⟨_,_,[],_,rfl,noMem_own _ _,World.ownsRow_nil _ _ _ _,tt⟩)
  | some n =>
   have r0:=Lib.hid (HY.out n hR)
   obtain ⟨_,x1,i3⟩:=r2 n hR
   obtain ⟨v,g0,oE⟩:=i3.o
   have d2:=x1.c2;have d3:=x1.c3;have oM:=x1.own.toM
   obtain ⟨pv,tv,rfl⟩:=Oh oE
   have e1:Value.slice p1 n1' t1=.slice p1 (stN c (n+1) s).mem.vals.length t1:=by obtain ⟨pq,tq,hq⟩:=Oh oM.x;simp only [Value.slice.injEq] at hq ⊢;exact ⟨trivial,hq.2.1,trivial⟩
   have e2:Value.slice p2 n2' t2=.slice p2 (stN c (n+1) s).mem.arrs.length t2:=by obtain ⟨pq,tq,hq⟩:=Oh oM.y.out;simp only [Value.slice.injEq] at hq ⊢;exact ⟨trivial,hq.2.1,trivial⟩
   rw [e1] at d2 oM;rw [e2] at d3 oM
   have iO:=oM.lt;have iT:=oE.lt
   clear r2 hR y1 x1 i3 e1 e2
   have i4:=Lc d2
   have j4:=Lc g0
   go_upto_region 9 with (fail)
   refine wp_region_noPanic ?_
   refine wp_region_held_drew (S:=(fun W'=>W'.cell? ⟨w2.heap.size,2,none⟩=some (.slice p1 ((stN c (n+1) s).mem.vals.length) t1)∧W'.cell? ⟨w2.heap.size,3,none⟩=some (.slice p2 ((stN c (n+1) s).mem.arrs.length) t2)∧W'.cell? ⟨w2.heap.size+1,0,none⟩=some (.slice pv ((spN c ws (n+1) s).length) tv))) (by kernel_rfl) ⟨Kc (Below.drew (Bs w4)) d2,Kc (Below.drew (Bs w4)) d3,Kc (Below.drew (Bs w4)) g0⟩ (fun hHeld=>?_)
   obtain ⟨w5,u2⟩:∃ X,X=World.drew w4:=⟨_,rfl⟩
   rw [← u2] at hHeld ⊢
   have hb:Below w4.heap.size w4 w5:=by rw [u2];exact Below.drew (Bs _)
   clear u2
   have m3:=hb.size
   replace k0:=Kf hb (Lc b0) k0
   replace l0:=Kf hb (Lc d0) l0
   replace e0:=Kc hb e0
   replace i0:=Kc hb i0
   replace j0:=Kc hb j0
   replace f0:=Kc hb f0
   replace b0:=Kc hb b0
   replace d0:=Kc hb d0
   replace d2:=Kc hb d2
   replace d3:=Kc hb d3
   replace g0:=Kc hb g0
   replace oM:=oM.below hb
   replace oE:=Ob oE hb
   replace m0:=btr m0 hb
   clear hb
   refine tq 0 28 rfl rfl ?_ ?_ ?_
   rotate_left
   ·intro W' hSw;obtain ⟨s0,s1,s2⟩:=hSw;go_simp;try with_reducible rfl
   try simp only [Ep]
   refine tq 1 29 rfl rfl ?_ ?_ ?_
   rotate_left
   ·intro W' hSw;obtain ⟨s0,s1,s2⟩:=hSw;go_simp;try with_reducible rfl
   try simp only [Ep]
   refine tq 2 30 rfl rfl ?_ ?_ ?_
   rotate_left
   ·intro W' hSw;obtain ⟨s0,s1,s2⟩:=hSw;go_simp;try with_reducible rfl
   try simp only [Ep]
   refine Rdy 3 rfl (fun K hK=>?_)
   go_simp
   obtain ⟨w6,q0⟩:∃ X,X=(World.setCell (World.setCell w5 ⟨w.heap.size+1+1+1,0,none⟩ (.slice p1 ((stN c (n+1) s).mem.vals.length) t1)) ⟨w.heap.size+1+1+1,1,none⟩ (.slice p2 ((stN c (n+1) s).mem.arrs.length) t2)):=⟨_,rfl⟩
   have hb:Below (World.setCell (World.setCell w5 ⟨w.heap.size+1+1+1,0,none⟩ (.slice p1 ((stN c (n+1) s).mem.vals.length) t1)) ⟨w.heap.size+1+1+1,1,none⟩ (.slice p2 ((stN c (n+1) s).mem.arrs.length) t2)).heap.size (World.setCell (World.setCell w5 ⟨w.heap.size+1+1+1,0,none⟩ (.slice p1 ((stN c (n+1) s).mem.vals.length) t1)) ⟨w.heap.size+1+1+1,1,none⟩ (.slice p2 ((stN c (n+1) s).mem.arrs.length) t2)) w6:=by rw [q0];exact Bs _
   have u1:=hb.size
   simp only [Ss] at u1
   replace k0:=Kf hb (Lc (Nn (Tc _ (w.heap.size+1+1+1) 0 (.slice p1 ((stN c (n+1) s).mem.vals.length) t1) b0) _)) (Fs (Fs k0 _) _)
   replace l0:=Kf hb (Lc (Tc _ (w.heap.size+1+1+1) 1 (.slice p2 ((stN c (n+1) s).mem.arrs.length) t2) (Nn d0 _))) (Fs (Fs l0 _) _)
   replace e0:=Kc hb (Nn (Nn e0 _) _)
   replace i0:=Kc hb (Nn (Nn i0 _) _)
   replace j0:=Kc hb (Nn (Nn j0 _) _)
   replace f0:=Kc hb (Nn (Nn f0 _) _)
   replace b0:w6.cell? ⟨w.heap.size+1+1+1,0,none⟩=some (.slice p1 ((stN c (n+1) s).mem.vals.length) t1):=Kc hb (Nn (Tc _ (w.heap.size+1+1+1) 0 (.slice p1 ((stN c (n+1) s).mem.vals.length) t1) b0) _)
   replace d0:w6.cell? ⟨w.heap.size+1+1+1,1,none⟩=some (.slice p2 ((stN c (n+1) s).mem.arrs.length) t2):=Kc hb (Tc _ (w.heap.size+1+1+1) 1 (.slice p2 ((stN c (n+1) s).mem.arrs.length) t2) (Nn d0 _))
   replace d2:=Kc hb (Nn (Nn d2 _) _)
   replace d3:=Kc hb (Nn (Nn d3 _) _)
   replace g0:=Kc hb (Nn (Nn g0 _) _)
   replace oM:=((oM.keep (C1 _ _ _) (fun gq h h2=>by have:=iO gq h;omega)).keep (C1 _ _ _) (fun gq h h2=>by have:=iO gq h;omega)).below hb
   replace oE:=Ob (Oe (Oe oE _ _ (fun h=>by have:=iT _ h;omega) _) _ _ (fun h=>by have:=iT _ h;omega) _) hb
   replace m0:=btr (bst (bst m0 (w.heap.size+1+1+1) 0 (by omega) (.slice p1 ((stN c (n+1) s).mem.vals.length) t1)) (w.heap.size+1+1+1) 1 (by omega) (.slice p2 ((stN c (n+1) s).mem.arrs.length) t2)) hb
   clear hb
   rw [← q0]
   clear q0
   refine hK.out _ _ ⟨d2,d3,g0⟩ (fun hHeld=>?_)
   clear hK K
   try simp only [Ep]
   refine tq 4 7 rfl rfl ?_ ?_ ?_
   rotate_left
   ·intro W' hSw;obtain ⟨s0,s1,s2⟩:=hSw;go_simp;try with_reducible rfl
   try simp only [Ep]
   refine tq 5 8 rfl rfl ?_ ?_ ?_
   rotate_left
   ·intro W' hSw;obtain ⟨s0,s1,s2⟩:=hSw;go_simp;try with_reducible rfl
   try simp only [Ep]
   refine Dn ?_
   clear hHeld
   have r3:=Lib.hid oM;have q3:=Lib.hid oE
   clear oM oE
   have p4:=b0
   have q4:=d0
   have tt:=m0
   go_wp2
   exact bodyPost_ret (v:=.tuple #[.agg #[.slice p1 ((stN c (n+1) s).mem.vals.length) t1,.slice p2 ((stN c (n+1) s).mem.arrs.length) t2],.slice pv ((spN c ws (n+1) s).length) tv,.bool true]) (by simp [results,Try.results45,go_sem,p4,q4]) rfl (by exact by rw [r0.out.1,r0.out.2.1,r0.out.2.2];exact ⟨_,_,us,_,rfl,r3.out.mono (by omega),Om q3.out (by omega),tt⟩)
end Go.Proofs.Ytkjedgnepnbkpaa
