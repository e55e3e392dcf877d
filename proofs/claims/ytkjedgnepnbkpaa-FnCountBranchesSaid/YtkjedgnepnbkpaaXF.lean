/-
 Parts of the proofs of the laws FnCodeFenced,FnCountBranches.
-/
import Derived.Test.YtkjedgnepnbkpaaNF
import Derived.Test.YtkjedgnepnbkpaaXA
set_option linter.all false
namespace Go.Proofs.Ytkjedgnepnbkpaa
open Go.RowKit
set_option maxHeartbeats 12800000 in
set_option maxRecDepth 100000 in
theorem sr1_any (Bo Bc X Wb b base tb cw k n:Nat) (aw:Option Addr) (v u va vb vc vr vx vy:Value) (us:List Value) (E U:List Ev) (ws:List Bool) (c:Cd) (s:Ms) (w:World)
  (hBo:w.cell? ⟨Bo,0,none⟩=some v) (hBf:w.frozen? ⟨Bo,0,none⟩=false) (ho:w.ownsRow tb 47 2 v E.length (evs E)) (hu:Reads w 2 u U.length (evs U))
  (hX:w.cell? ⟨X,0,none⟩=some va∧w.cell? ⟨X,1,none⟩=some vb∧w.cell? ⟨X,2,none⟩=some vc) (hr:ReadsC w va vb vc c)
  (hBc:w.cell? ⟨Bc,0,none⟩=some (.int .i64 n)) (hCf:w.frozen? ⟨Bc,0,none⟩=false)
  (hWb:w.cell? ⟨Wb,0,none⟩=some (.slice aw ws.length cw)) (hws:Reads w 1 (.slice aw ws.length cw) ws.length (bools ws))
  (hS:OwnS w base b vr vx vy us (stp (insAt c s.pc) s)) (hM:MsOk c s) (hk:s.pc=k) (hok:codeOk c=true)
  (hlen:E.length+U.length≤1000000) (hn:n≤1000000) (hlow:Bo < tb∧Bc < tb∧X < tb∧Wb < tb∧b < tb∧tb≤w.heap.size) (hne:Bo≠Bc∧X≠Bo∧X≠Bc∧Wb≠Bo∧Wb≠Bc∧b≠Bo∧b≠Bc)
  (hRB:∀ q,ReadB va vb vc c q→q < tb∧q≠Bo∧q≠Bc) (hMB:∀ q,OwnMB vr vx vy us q→q < tb∧q≠Bo∧q≠Bc) (hbw:∀ g o cc,0 < ws.length→Value.slice aw ws.length cw=.slice (some ⟨g,o,none⟩) ws.length cc→g < tb∧g≠Bo∧g≠Bc) :
  Calls Try.prog 103 #[.int .i64 (k:Int),u,.pointer (some ⟨Bo,0,none⟩),.pointer (some ⟨X,0,none⟩),.pointer (some ⟨Bc,0,none⟩),.pointer (some ⟨Wb,0,none⟩),.pointer (some ⟨b,0,none⟩)] w fun e w'=>e=.returned (.tuple #[])∧∃ v',w'.cell? ⟨Bo,0,none⟩=some v'∧w'.frozen? ⟨Bo,0,none⟩=false ∧
   w'.ownsRow tb 47 2 v' ((E++U)++srX c ws s n).length (evs ((E++U)++srX c ws s n))∧w'.cell? ⟨Bc,0,none⟩=some (.int .i64 ((n:Int)+brI (isBr (insAt c s.pc).op)))∧w'.frozen? ⟨Bc,0,none⟩=false∧Chg (fun q=>q=Bo∨q=Bc∨tb≤q) w w':=by
 obtain ⟨a0,c0,a1,c1,a2,c2,rfl,rfl,rfl⟩:=hr.shape
 obtain ⟨av,cv,rfl⟩:=Oh ho
 obtain ⟨au,cu,rfl⟩:=reads_shape hu
 obtain ⟨v0,w0,x0⟩:=hX
 obtain ⟨y6,x6,lX,lW,lb,z6⟩:=hlow
 obtain ⟨n1,n2,n3,n4,n5,n6,n7⟩:=hne
 obtain ⟨a5,c5,rfl⟩:=Oh hS.own.r
 obtain ⟨a3,c3,rfl⟩:=Oh hS.own.v
 obtain ⟨a4,c4,rfl⟩:=Oh hS.own.a.out
 have i5:k < c.list.length:=by have:=hM.pc1;omega
 have e5:insAt c s.pc=c.list[k]:=by unfold insAt;rw [hk,Int.toNat_natCast,List.getElem?_eq_getElem i5];rfl
 have i6:=hr.l
 obtain ⟨_,u6,aa,q6,b0,x4,hv,d6,ha,h5⟩:=i6
 simp only [Value.slice.injEq,true_and] at hv
 obtain ⟨rfl,rfl⟩:=hv
 obtain ⟨rfl,t6⟩:=ha (by omega)
 obtain ⟨e0,e1,e2,e3,e4⟩:=reads_Instr h5 k i5
 have r6:=hRB b0 (Or.inr (Or.inr ⟨x4,c2,by omega,rfl⟩))
 have v6:(k:Int) < (c.list.length:Int):=by omega
 have b4:=Lib.hid (fun (h:isBr (insAt c s.pc).op=true)=>oth_ok hok hM h)
 have h4:=Lib.hid (fun (h:isBr (insAt c s.pc).op=true)=>tgt_br h)
 have g4:=Lib.hid (fun (h:isBr (insAt c s.pc).op=true)=>mem_small hok (oth_ok hok hM h))
 have i4:Hid (∀ h:isBr (insAt c s.pc).op=false,srX c ws s n=[]):=Lib.hid (fun h=>srX_no h)
 have j4:Hid (∀ h:isBr (insAt c s.pc).op=true,wrAt ws n=false→srX c ws s n=[]):=Lib.hid (fun h h2=>srX_right h h2)
 have k4:Hid (∀ h:isBr (insAt c s.pc).op=true,wrAt ws n=true→srX c ws s n=pathE c (othS c s)):=Lib.hid (fun h h2=>srX_wrong h h2)
 have m3:=Lib.hid (pathE_len c (othS c s))
 have b5:Hid ((othS c s).pc=othPc (insAt c s.pc) s.pc (stPc (insAt c s.pc) s)):=Lib.hid rfl
 have j5:=hS.c0;have k5:=hS.c1;have l5:=hS.c2;have m5:=hS.c3
 have o3:OwnMv w base (.slice a5 (othS c s).regs.length c5) (.slice a3 (othS c s).mem.vals.length c3) (.slice a4 (othS c s).mem.arrs.length c4) us (othS c s).regs (othS c s).mem:=hS.own
 have q3:∀ q,OwnMB (.slice a5 (othS c s).regs.length c5) (.slice a3 (othS c s).mem.vals.length c3) (.slice a4 (othS c s).mem.arrs.length c4) us q→q < tb∧q≠Bo∧q≠Bc:=hMB
 have hs0':w.cell? ⟨b,0,none⟩=some (.int .i64 (stPc (insAt c s.pc) s)):=j5
 have hs1':w.cell? ⟨b,1,none⟩=some (.slice a5 (othS c s).regs.length c5):=k5
 have hs2':w.cell? ⟨b,2,none⟩=some (.slice a3 (othS c s).mem.vals.length c3):=l5
 have hs3':w.cell? ⟨b,3,none⟩=some (.slice a4 (othS c s).mem.arrs.length c4):=m5
 clear j5 k5 l5 m5 hS hMB hM ha h5
 rw [e5] at *
 rw [hk] at *
 generalize srX c ws s n=XS at *
 generalize stPc c.list[k] s=p at *
 generalize othS c s=os at *
 clear e5 hk s
 generalize c.list[k]=x at *
 have io:∀ q,(Value.slice av E.length cv).ownBlock=some q→tb≤q∧q < w.heap.size:=ho.lt
 have y0:Chg (fun q=>q=Bo∨q=Bc∨tb≤q) w w:=Chg.refl _ _
 have k6:∀ g o cc,0 < ws.length→Value.slice aw ws.length cw=.slice (some ⟨g,o,none⟩) ws.length cc→g < w.heap.size:=fun g o cc h h2=>reads_lt hws g o cc h h2
 go_enter Try.func103,Try.ntmps103
 go_wp2_with (at_builtin;refine wpList_aps tEvs rfl _ _ rfl (tb) _ E.length (evs E) rfl ho _ U.length (evs U) rfl (hu) (one_evs U) (by omega) (by omega) ?_)
 intro vA w1 m1 hc q2 _
 obtain ⟨y3,z3,rfl⟩:=Oh m1
 replace y0:=chg_then y0 hc (fun q _ h=>Or.inr (Or.inr (io q h).1))
 have j6:=hc.size
 replace hBf:=Gf hc (Lc hBo) hBf (fun h=>by have:=io _ h;omega)
 replace hCf:=Gf hc (Lc hBc) hCf (fun h=>by have:=io _ h;omega)
 replace hBo:=Gc hc hBo (fun h=>by have:=io _ h;omega)
 replace v0:=Gc hc v0 (fun h=>by have:=io _ h;omega)
 replace w0:=Gc hc w0 (fun h=>by have:=io _ h;omega)
 replace x0:=Gc hc x0 (fun h=>by have:=io _ h;omega)
 replace hBc:=Gc hc hBc (fun h=>by have:=io _ h;omega)
 replace hWb:=Gc hc hWb (fun h=>by have:=io _ h;omega)
 replace hs0':=Gc hc hs0' (fun h=>by have:=io _ h;omega)
 replace hs1':=Gc hc hs1' (fun h=>by have:=io _ h;omega)
 replace hs2':=Gc hc hs2' (fun h=>by have:=io _ h;omega)
 replace hs3':=Gc hc hs3' (fun h=>by have:=io _ h;omega)
 replace e0:=Gc hc e0 (fun h=>by have:=io _ h;omega)
 replace e1:=Gc hc e1 (fun h=>by have:=io _ h;omega)
 replace e2:=Gc hc e2 (fun h=>by have:=io _ h;omega)
 replace e3:=Gc hc e3 (fun h=>by have:=io _ h;omega)
 replace e4:=Gc hc e4 (fun h=>by have:=io _ h;omega)
 replace hr:=hr.keep hc (fun gq h h2=>by have:=hRB gq h;have:=io gq h2;omega)
 replace o3:=o3.keep hc (fun gq h h2=>by have:=q3 gq h;have:=io gq h2;omega)
 replace hws:=hws.keep hc (fun b _ _ h0 h h2=>by have:=hbw b _ _ h0 h;have:=io b h2;omega)
 clear hc
 have l6:=m1.lt
 clear q2 ho
 go_upto_region 1 with (fail)
 obtain ⟨w2,u1,hb⟩:=nmw (World.setCell w1 ⟨Bo,0,none⟩ (.slice y3 (E.length+U.length) z3))
 have u4:=hb.size
 simp only [Ss] at u4
 replace hBf:=Kf hb (Lc (Tc _ (Bo) 0 (.slice y3 (E.length+U.length) z3) hBo)) (Fs hBf _)
 replace hCf:=Kf hb (Lc (Nn hBc _)) (Fs hCf _)
 replace hBo:w2.cell? ⟨Bo,0,none⟩=some (.slice y3 (E.length+U.length) z3):=Kc hb (Tc _ (Bo) 0 (.slice y3 (E.length+U.length) z3) hBo)
 replace v0:=Kc hb (Nn v0 _)
 replace w0:=Kc hb (Nn w0 _)
 replace x0:=Kc hb (Nn x0 _)
 replace hBc:=Kc hb (Nn hBc _)
 replace hWb:=Kc hb (Nn hWb _)
 replace hs0':=Kc hb (Nn hs0' _)
 replace hs1':=Kc hb (Nn hs1' _)
 replace hs2':=Kc hb (Nn hs2' _)
 replace hs3':=Kc hb (Nn hs3' _)
 replace e0:=Kc hb (Nn e0 _)
 replace e1:=Kc hb (Nn e1 _)
 replace e2:=Kc hb (Nn e2 _)
 replace e3:=Kc hb (Nn e3 _)
 replace e4:=Kc hb (Nn e4 _)
 replace hr:=(hr.keep (C1 _ _ _) (fun gq h h2=>by have:=hRB gq h;omega)).below hb
 replace o3:=(o3.keep (C1 _ _ _) (fun gq h h2=>by have:=q3 gq h;omega)).below hb
 replace hws:=(hws.keep (C1 _ _ _) (fun b _ _ h0 h h2=>by have:=hbw b _ _ h0 h;omega)).below hb
 replace y0:=(y0.setCell (Bo) 0 (.slice y3 (E.length+U.length) z3) (fun _=>(by first | exact Or.inl rfl | exact Or.inr (Or.inl rfl) | (refine Or.inr (Or.inr ?_);omega)))).trans (Chg.of_below hb)
 replace m1:=Ob (Oe m1 _ _ (fun h=>by have:=l6 _ h;omega) _) hb
 clear hb
 rw [← u1]
 clear u1
 have u5:=Lc hBo
 have v5:=Lc v0
 have x5:=Lc hBc
 have y5:=Lc hWb
 have z5:=Lc hs0'
 have x3:=Lc e0
 have d0:=m1.lt
 have d5:=Lib.hid (fun W (hW:Below w2.heap.size w2 W)=>hr.below hW);have z4:=Lib.hid (fun W (hW:Below w2.heap.size w2 W)=>o3.below hW)
 clear hr o3
 go_wp2_with fail
 refine (isBranch_any _ _ _ _ _ _).mono ?_
 rintro e w3 ⟨rfl,hb⟩
 have r3:=hb.size
 simp only [Sa] at r3
 replace hBf:=Kf hb (Lc (Ac hBo _)) (Fa (Lc hBo) hBf _)
 replace hCf:=Kf hb (Lc (Ac hBc _)) (Fa (Lc hBc) hCf _)
 replace hBo:=Kc hb (Ac hBo _)
 replace v0:=Kc hb (Ac v0 _)
 replace w0:=Kc hb (Ac w0 _)
 replace x0:=Kc hb (Ac x0 _)
 replace hBc:=Kc hb (Ac hBc _)
 replace hWb:=Kc hb (Ac hWb _)
 replace hs0':=Kc hb (Ac hs0' _)
 replace hs1':=Kc hb (Ac hs1' _)
 replace hs2':=Kc hb (Ac hs2' _)
 replace hs3':=Kc hb (Ac hs3' _)
 replace e0:=Kc hb (Ac e0 _)
 replace e1:=Kc hb (Ac e1 _)
 replace e2:=Kc hb (Ac e2 _)
 replace e3:=Kc hb (Ac e3 _)
 replace e4:=Kc hb (Ac e4 _)
 replace hws:=(hws.below (bal (Bs _) _)).below hb
 replace y0:=(y0.trans (Chg.of_below (bal (Bs _) _))).trans (Chg.of_below hb)
 replace m1:=Ob (Ob m1 (bal (Bs _) _)) hb
 have m0:w3.cell? ⟨w2.heap.size,0,none⟩=some (.int .i64 x.op):=Kc hb (Wc (by simp) (by rfl))
 have h1:w3.frozen? ⟨w2.heap.size,0,none⟩=false:=Kf hb (by simp) (Fn (by simp))
 have q0:w3.cell? ⟨w2.heap.size,1,none⟩=some (.int .i64 x.a):=Kc hb (Wc (by simp) (by rfl))
 have i1:w3.frozen? ⟨w2.heap.size,1,none⟩=false:=Kf hb (by simp) (Fn (by simp))
 have r0:w3.cell? ⟨w2.heap.size,2,none⟩=some (.int .i64 x.b):=Kc hb (Wc (by simp) (by rfl))
 have j1:w3.frozen? ⟨w2.heap.size,2,none⟩=false:=Kf hb (by simp) (Fn (by simp))
 have t0:w3.cell? ⟨w2.heap.size,3,none⟩=some (.int .i64 x.c):=Kc hb (Wc (by simp) (by rfl))
 have k1:w3.frozen? ⟨w2.heap.size,3,none⟩=false:=Kf hb (by simp) (Fn (by simp))
 have u0:w3.cell? ⟨w2.heap.size,4,none⟩=some (.int .i64 x.d):=Kc hb (Wc (by simp) (by rfl))
 have l1:w3.frozen? ⟨w2.heap.size,4,none⟩=false:=Kf hb (by simp) (Fn (by simp))
 have t1:=btr (bal (Bs w2) (.cells #[.int .i64 x.op,.int .i64 x.a,.int .i64 x.b,.int .i64 x.c,.int .i64 x.d] 32)) hb
 clear hb
 replace u5:=Lc hBo
 replace v5:=Lc v0
 replace x5:=Lc hBc
 replace y5:=Lc hWb
 replace z5:=Lc hs0'
 replace x3:=Lc e0
 have v4:=Lc m0
 have g5:=(codeOk_len hok).2
 cases hbr:isBr x.op with
 | false =>
  have p2:=Lib.hid (i4.out hbr)
  have r2:Hid ((n:Int)+brI (isBr x.op)=n):=Lib.hid (by rw [hbr];unfold brI;simp)
  clear i4 j4 k4 b4 h4 g4 hbr
  have f1:=hBo
  have f2:=hBf
  have f3:=m1
  have f4:=hBc
  have f5:=hCf
  have f6:=y0
  have HF:=Lib.hid (And.intro f1 (And.intro f2 (And.intro f3 (And.intro f4 (And.intro f5 f6)))))
  clear f1 f2 f3 f4 f5 f6 y0 m1
  go_wp2
  exact bodyPost_ret (v:=.tuple #[]) (by simp [results,Try.results103,go_sem]) rfl (by exact ⟨rfl,_,HF.out.1,HF.out.2.1,by rw [p2.out];have h:=HF.out.2.2.1;rw [List.append_nil,List.length_append,evs_append];exact h,by rw [r2.out];exact HF.out.2.2.2.1,HF.out.2.2.2.2.1,HF.out.2.2.2.2.2⟩)
 | true =>
  have r2:Hid ((n:Int)+brI (isBr x.op)=(n:Int)+1):=Lib.hid (by rw [hbr];unfold brI;simp)
  have y4:=Lib.hid (b4.out hbr);have a6:=Lib.hid (h4.out hbr);have k2:=Lib.hid (g4.out hbr);have HX1':=Lib.hid (j4.out hbr);have HX2':=Lib.hid (k4.out hbr)
  clear i4 j4 k4 b4 h4 g4 hbr
  by_cases hlt:n < ws.length
  ·obtain ⟨bw,ow,rfl,k0⟩:=reads_wr hws hlt
   have b6:=Lc k0
   have c6:=hbw bw ow cw (by omega) rfl
   clear hbw k6
   have e6:(n:Int) < (ws.length:Int):=by omega
   clear hws
   clear hlt
   cases hw:wrAt ws n with
   | false =>
    rw [hw] at k0
    have p2:=Lib.hid (HX1'.out hw)
    clear HX1' HX2' hw
    have m6:=Lc k0
    have f1:=(Nn (b:=(Bc)) (j:=0) hBo (.int .i64 ((n:Int)+1)))
    have f2:=(Fs (b:=⟨(Bc),0,none⟩) hBf (.int .i64 ((n:Int)+1)))
    have f3:=(Oe m1 (Bc) 0 (fun h=>by have:=d0 _ h;omega) (.int .i64 ((n:Int)+1)))
    have f4:=(Tc _ (Bc) 0 (.int .i64 ((n:Int)+1)) hBc)
    have f5:=(Fs (b:=⟨(Bc),0,none⟩) hCf (.int .i64 ((n:Int)+1)))
    have f6:=(y0.setCell (Bc) 0 (.int .i64 ((n:Int)+1)) (fun _=>(by first | exact Or.inl rfl | exact Or.inr (Or.inl rfl) | (refine Or.inr (Or.inr ?_);omega))))
    have HF:=Lib.hid (And.intro f1 (And.intro f2 (And.intro f3 (And.intro f4 (And.intro f5 f6)))))
    clear f1 f2 f3 f4 f5 f6 y0 m1
    go_wp2
    go_end0
    exact ⟨rfl,_,HF.out.1,HF.out.2.1,by rw [p2.out];have h:=HF.out.2.2.1;rw [List.append_nil,List.length_append,evs_append];exact h,by rw [r2.out];exact HF.out.2.2.2.1,HF.out.2.2.2.2.1,HF.out.2.2.2.2.2⟩
   | true =>
    rw [hw] at k0
    have p2:=Lib.hid (HX2'.out hw)
    clear HX1' HX2' hw
    replace u5:=Lc hBo
    replace v5:=Lc v0
    replace x5:=Lc hBc
    replace y5:=Lc hWb
    replace z5:=Lc hs0'
    replace x3:=Lc e0
    replace v4:=Lc m0
    have o6:=Lc k0
    by_cases hp:p=(k:Int)+1
    ·skip
     have d4:Hid (os.pc=tgt x):=Lib.hid (by rw [b5.out,a6.out];unfold othPc;rw [if_pos hp])
     have h6:(p == (k:Int)+1)=true:=by simp [hp]
     clear hp
     have p3:=Lib.hid (fun W (hW:Below w2.heap.size w2 W)=>by have h:=iPath_any _ _ _ _ _ _ c os W (d5.out W hW) (own_readsS (z4.out W hW) k2.out.1 k2.out.2.1 k2.out.2.2.1 k2.out.2.2.2) k2.out.1 k2.out.2.1 k2.out.2.2.1 k2.out.2.2.2 y4.out hok;rw [d4.out] at h;exact h)
     go_wp2_with fail
     refine (target_any x _).mono ?_
     rintro e w4 ⟨rfl,hb⟩
     have t3:=hb.size
     simp only [Sa] at t3
     replace hBf:=Kf hb (Lc (Ac hBo _)) (Fa (Lc hBo) hBf _)
     replace hCf:=Kf hb (Lc (Ac hBc _)) (Fa (Lc hBc) hCf _)
     replace h1:=Kf hb (Lc (Ac m0 _)) (Fa (Lc m0) h1 _)
     replace i1:=Kf hb (Lc (Ac q0 _)) (Fa (Lc q0) i1 _)
     replace j1:=Kf hb (Lc (Ac r0 _)) (Fa (Lc r0) j1 _)
     replace k1:=Kf hb (Lc (Ac t0 _)) (Fa (Lc t0) k1 _)
     replace l1:=Kf hb (Lc (Ac u0 _)) (Fa (Lc u0) l1 _)
     replace hBo:=Kc hb (Ac hBo _)
     replace v0:=Kc hb (Ac v0 _)
     replace w0:=Kc hb (Ac w0 _)
     replace x0:=Kc hb (Ac x0 _)
     replace hBc:=Kc hb (Ac hBc _)
     replace hWb:=Kc hb (Ac hWb _)
     replace hs0':=Kc hb (Ac hs0' _)
     replace hs1':=Kc hb (Ac hs1' _)
     replace hs2':=Kc hb (Ac hs2' _)
     replace hs3':=Kc hb (Ac hs3' _)
     replace e0:=Kc hb (Ac e0 _)
     replace e1:=Kc hb (Ac e1 _)
     replace e2:=Kc hb (Ac e2 _)
     replace e3:=Kc hb (Ac e3 _)
     replace e4:=Kc hb (Ac e4 _)
     replace y0:=(y0.trans (Chg.of_below (bal (Bs _) _))).trans (Chg.of_below hb)
     replace m1:=Ob (Ob m1 (bal (Bs _) _)) hb
     replace m0:=Kc hb (Ac m0 _)
     replace q0:=Kc hb (Ac q0 _)
     replace r0:=Kc hb (Ac r0 _)
     replace t0:=Kc hb (Ac t0 _)
     replace u0:=Kc hb (Ac u0 _)
     replace k0:=Kc hb (Ac k0 _)
     have l0:w4.cell? ⟨w3.heap.size,0,none⟩=some (.int .i64 ((k:Int)+1)):=Kc hb (Wc (by simp) (by rfl))
     have o1:w4.frozen? ⟨w3.heap.size,0,none⟩=false:=Kf hb (by simp) (Fn (by simp))
     have n0:w4.cell? ⟨w3.heap.size,1,none⟩=some (.slice a5 os.regs.length c5):=Kc hb (Wc (by simp) (by rfl))
     have p1:w4.frozen? ⟨w3.heap.size,1,none⟩=false:=Kf hb (by simp) (Fn (by simp))
     have o0:w4.cell? ⟨w3.heap.size,2,none⟩=some (.slice a3 os.mem.vals.length c3):=Kc hb (Wc (by simp) (by rfl))
     have q1:w4.frozen? ⟨w3.heap.size,2,none⟩=false:=Kf hb (by simp) (Fn (by simp))
     have p0:w4.cell? ⟨w3.heap.size,3,none⟩=some (.slice a4 os.mem.arrs.length c4):=Kc hb (Wc (by simp) (by rfl))
     have r1:w4.frozen? ⟨w3.heap.size,3,none⟩=false:=Kf hb (by simp) (Fn (by simp))
     replace t1:=btr (bal t1 _) hb
     clear hb
     clear m0 h1 q0 i1 r0 j1 t0 k1 u0 l1
     have p6:=Lc l0
     have g6:=m3.out
     go_upto_region 8 with (fail)
     obtain ⟨w5,u1,hb⟩:=nmw (World.setCell w4 ⟨w3.heap.size,0,none⟩ (.int .i64 (tgt x)))
     have u3:=hb.size
     simp only [Ss] at u3
     replace hBf:=Kf hb (Lc (Nn hBo _)) (Fs hBf _)
     replace hCf:=Kf hb (Lc (Nn hBc _)) (Fs hCf _)
     replace o1:=Kf hb (Lc (Tc _ (w3.heap.size) 0 (.int .i64 (tgt x)) l0)) (Fs o1 _)
     replace p1:=Kf hb (Lc (Nn n0 _)) (Fs p1 _)
     replace q1:=Kf hb (Lc (Nn o0 _)) (Fs q1 _)
     replace r1:=Kf hb (Lc (Nn p0 _)) (Fs r1 _)
     replace hBo:=Kc hb (Nn hBo _)
     replace v0:=Kc hb (Nn v0 _)
     replace w0:=Kc hb (Nn w0 _)
     replace x0:=Kc hb (Nn x0 _)
     replace hBc:=Kc hb (Nn hBc _)
     replace hWb:=Kc hb (Nn hWb _)
     replace hs0':=Kc hb (Nn hs0' _)
     replace hs1':=Kc hb (Nn hs1' _)
     replace hs2':=Kc hb (Nn hs2' _)
     replace hs3':=Kc hb (Nn hs3' _)
     replace e0:=Kc hb (Nn e0 _)
     replace e1:=Kc hb (Nn e1 _)
     replace e2:=Kc hb (Nn e2 _)
     replace e3:=Kc hb (Nn e3 _)
     replace e4:=Kc hb (Nn e4 _)
     replace y0:=(y0.setCell (w3.heap.size) 0 (.int .i64 (tgt x)) (fun _=>(by first | exact Or.inl rfl | exact Or.inr (Or.inl rfl) | (refine Or.inr (Or.inr ?_);omega)))).trans (Chg.of_below hb)
     replace m1:=Ob (Oe m1 _ _ (fun h=>by have:=d0 _ h;omega) _) hb
     replace k0:=Kc hb (Nn k0 _)
     replace l0:w5.cell? ⟨w3.heap.size,0,none⟩=some (.int .i64 (tgt x)):=Kc hb (Tc _ (w3.heap.size) 0 (.int .i64 (tgt x)) l0)
     replace n0:=Kc hb (Nn n0 _)
     replace o0:=Kc hb (Nn o0 _)
     replace p0:=Kc hb (Nn p0 _)
     replace t1:=btr (bst t1 (w3.heap.size) 0 (by omega) (.int .i64 (tgt x))) hb
     clear hb
     rw [← u1]
     clear u1
     refine wp_region_noPanic ?_
     refine wp_region_held_drew (S:=(fun W'=>W'.cell? ⟨X,0,none⟩=some (.slice a0 c.vars.length c0)∧W'.cell? ⟨X,1,none⟩=some (.slice a1 c.arrays.length c1)∧W'.cell? ⟨X,2,none⟩=some (.slice (some ⟨b0,x4,none⟩) c.list.length c2)∧W'.cell? ⟨w3.heap.size,0,none⟩=some (.int .i64 (tgt x))∧W'.cell? ⟨w3.heap.size,1,none⟩=some (.slice a5 os.regs.length c5)∧W'.cell? ⟨w3.heap.size,2,none⟩=some (.slice a3 os.mem.vals.length c3)∧W'.cell? ⟨w3.heap.size,3,none⟩=some (.slice a4 os.mem.arrs.length c4))) (by kernel_rfl) ⟨Kc (Below.drew (Bs w5)) v0,Kc (Below.drew (Bs w5)) w0,Kc (Below.drew (Bs w5)) x0,Kc (Below.drew (Bs w5)) l0,Kc (Below.drew (Bs w5)) n0,Kc (Below.drew (Bs w5)) o0,Kc (Below.drew (Bs w5)) p0⟩ (fun hHeld=>?_)
     obtain ⟨w6,l3⟩:∃ X,X=World.drew w5:=⟨_,rfl⟩
     rw [← l3] at hHeld ⊢
     have hb:Below w5.heap.size w5 w6:=by rw [l3];exact Below.drew (Bs _)
     clear l3
     have o5:=hb.size
     replace hBf:=Kf hb (Lc hBo) hBf
     replace hCf:=Kf hb (Lc hBc) hCf
     replace o1:=Kf hb (Lc l0) o1
     replace p1:=Kf hb (Lc n0) p1
     replace q1:=Kf hb (Lc o0) q1
     replace r1:=Kf hb (Lc p0) r1
     replace hBo:=Kc hb hBo
     replace v0:=Kc hb v0
     replace w0:=Kc hb w0
     replace x0:=Kc hb x0
     replace hBc:=Kc hb hBc
     replace hWb:=Kc hb hWb
     replace hs0':=Kc hb hs0'
     replace hs1':=Kc hb hs1'
     replace hs2':=Kc hb hs2'
     replace hs3':=Kc hb hs3'
     replace e0:=Kc hb e0
     replace e1:=Kc hb e1
     replace e2:=Kc hb e2
     replace e3:=Kc hb e3
     replace e4:=Kc hb e4
     replace y0:=y0.trans (Chg.of_below hb)
     replace m1:=Ob m1 hb
     replace k0:=Kc hb k0
     replace l0:=Kc hb l0
     replace n0:=Kc hb n0
     replace o0:=Kc hb o0
     replace p0:=Kc hb p0
     replace t1:=btr t1 hb
     clear hb
     refine tq 1 45 rfl rfl ?_ ?_ ?_
     rotate_left
     ·intro W' hSw;obtain ⟨s0,s1,s2,s3,s4,s5,s6⟩:=hSw;go_simp;try with_reducible rfl
     try simp only [Ep]
     refine tq 2 46 rfl rfl ?_ ?_ ?_
     rotate_left
     ·intro W' hSw;obtain ⟨s0,s1,s2,s3,s4,s5,s6⟩:=hSw;go_simp;try with_reducible rfl
     try simp only [Ep]
     refine Rdy2 0 3 rfl rfl (fun K hK=>?_) (fun K hK=>?_)
     ·go_simp
      refine hK.out _ _ ⟨v0,w0,x0,l0,n0,o0,p0⟩ (fun hHeld=>?_)
      clear hK K
      try simp only [Ep]
      refine Rdy 3 rfl (fun K hK=>?_)
      go_simp
      refine (p3.out _ t1).mono ?_
      rintro e w7 ⟨u2,rfl,oP,hb⟩
      obtain ⟨pP,tP,rfl⟩:=Oh oP
      have p5:=hb.size
      replace hBf:=Kf hb (Lc hBo) hBf
      replace hCf:=Kf hb (Lc hBc) hCf
      replace o1:=Kf hb (Lc l0) o1
      replace p1:=Kf hb (Lc n0) p1
      replace q1:=Kf hb (Lc o0) q1
      replace r1:=Kf hb (Lc p0) r1
      replace hBo:=Kc hb hBo
      replace v0:=Kc hb v0
      replace w0:=Kc hb w0
      replace x0:=Kc hb x0
      replace hBc:=Kc hb hBc
      replace hWb:=Kc hb hWb
      replace hs0':=Kc hb hs0'
      replace hs1':=Kc hb hs1'
      replace hs2':=Kc hb hs2'
      replace hs3':=Kc hb hs3'
      replace e0:=Kc hb e0
      replace e1:=Kc hb e1
      replace e2:=Kc hb e2
      replace e3:=Kc hb e3
      replace e4:=Kc hb e4
      replace y0:=y0.trans (Chg.of_below hb)
      replace m1:=Ob m1 hb
      replace k0:=Kc hb k0
      replace l0:=Kc hb l0
      replace n0:=Kc hb n0
      replace o0:=Kc hb o0
      replace p0:=Kc hb p0
      replace t1:=btr t1 hb
      clear hb
      have v3:=oP.lt
      refine hK.out _ _ ⟨v0,w0,x0,l0,n0,o0,p0⟩ (fun hHeld=>?_)
      clear hK K
      try simp only [Ep]
      refine Rdy 4 rfl (fun K hK=>?_)
      refine step_aps tEvs rfl _ _ rfl (tb) _ (E.length+U.length) (evs E++evs U) rfl m1 _ ((pathE c os).length) (evs (pathE c os)) rfl ((Ro oP (by have:=m3.out;omega))) (one_evs (pathE c os)) (by omega) (by omega) ?_
      intro vA w8 l2 hc q2 _
      obtain ⟨m2,o2,rfl⟩:=Oh l2
      replace y0:=chg_then y0 hc (fun q _ h=>Or.inr (Or.inr (d0 q h).1))
      have q5:=hc.size
      replace hBf:=Gf hc (Lc hBo) hBf (fun h=>by have:=d0 _ h;omega)
      replace hCf:=Gf hc (Lc hBc) hCf (fun h=>by have:=d0 _ h;omega)
      replace o1:=Gf hc (Lc l0) o1 (fun h=>by have:=d0 _ h;omega)
      replace p1:=Gf hc (Lc n0) p1 (fun h=>by have:=d0 _ h;omega)
      replace q1:=Gf hc (Lc o0) q1 (fun h=>by have:=d0 _ h;omega)
      replace r1:=Gf hc (Lc p0) r1 (fun h=>by have:=d0 _ h;omega)
      replace hBo:=Gc hc hBo (fun h=>by have:=d0 _ h;omega)
      replace v0:=Gc hc v0 (fun h=>by have:=d0 _ h;omega)
      replace w0:=Gc hc w0 (fun h=>by have:=d0 _ h;omega)
      replace x0:=Gc hc x0 (fun h=>by have:=d0 _ h;omega)
      replace hBc:=Gc hc hBc (fun h=>by have:=d0 _ h;omega)
      replace hWb:=Gc hc hWb (fun h=>by have:=d0 _ h;omega)
      replace hs0':=Gc hc hs0' (fun h=>by have:=d0 _ h;omega)
      replace hs1':=Gc hc hs1' (fun h=>by have:=d0 _ h;omega)
      replace hs2':=Gc hc hs2' (fun h=>by have:=d0 _ h;omega)
      replace hs3':=Gc hc hs3' (fun h=>by have:=d0 _ h;omega)
      replace e0:=Gc hc e0 (fun h=>by have:=d0 _ h;omega)
      replace e1:=Gc hc e1 (fun h=>by have:=d0 _ h;omega)
      replace e2:=Gc hc e2 (fun h=>by have:=d0 _ h;omega)
      replace e3:=Gc hc e3 (fun h=>by have:=d0 _ h;omega)
      replace e4:=Gc hc e4 (fun h=>by have:=d0 _ h;omega)
      replace k0:=Gc hc k0 (fun h=>by have:=d0 _ h;omega)
      replace l0:=Gc hc l0 (fun h=>by have:=d0 _ h;omega)
      replace n0:=Gc hc n0 (fun h=>by have:=d0 _ h;omega)
      replace o0:=Gc hc o0 (fun h=>by have:=d0 _ h;omega)
      replace p0:=Gc hc p0 (fun h=>by have:=d0 _ h;omega)
      replace oP:=Ow oP hc (fun gq h h2=>by have:=v3 gq h;have:=d0 gq h2;omega)
      clear hc
      have t2:=l2.lt
      clear q2 m1
      refine hK.out _ _ ⟨v0,w0,x0,l0,n0,o0,p0⟩ (fun hHeld=>?_)
      clear hK K
      try simp only [Ep]
      refine Rdy 5 rfl (fun K hK=>?_)
      go_simp
      obtain ⟨w9,u1,hb⟩:=nmw (World.setCell w8 ⟨Bo,0,none⟩ (.slice m2 (E.length+U.length+(pathE c os).length) o2))
      have g3:=hb.size
      simp only [Ss] at g3
      replace hBf:=Kf hb (Lc (Tc _ (Bo) 0 (.slice m2 (E.length+U.length+(pathE c os).length) o2) hBo)) (Fs hBf _)
      replace hCf:=Kf hb (Lc (Nn hBc _)) (Fs hCf _)
      replace o1:=Kf hb (Lc (Nn l0 _)) (Fs o1 _)
      replace p1:=Kf hb (Lc (Nn n0 _)) (Fs p1 _)
      replace q1:=Kf hb (Lc (Nn o0 _)) (Fs q1 _)
      replace r1:=Kf hb (Lc (Nn p0 _)) (Fs r1 _)
      replace hBo:w9.cell? ⟨Bo,0,none⟩=some (.slice m2 (E.length+U.length+(pathE c os).length) o2):=Kc hb (Tc _ (Bo) 0 (.slice m2 (E.length+U.length+(pathE c os).length) o2) hBo)
      replace v0:=Kc hb (Nn v0 _)
      replace w0:=Kc hb (Nn w0 _)
      replace x0:=Kc hb (Nn x0 _)
      replace hBc:=Kc hb (Nn hBc _)
      replace hWb:=Kc hb (Nn hWb _)
      replace hs0':=Kc hb (Nn hs0' _)
      replace hs1':=Kc hb (Nn hs1' _)
      replace hs2':=Kc hb (Nn hs2' _)
      replace hs3':=Kc hb (Nn hs3' _)
      replace e0:=Kc hb (Nn e0 _)
      replace e1:=Kc hb (Nn e1 _)
      replace e2:=Kc hb (Nn e2 _)
      replace e3:=Kc hb (Nn e3 _)
      replace e4:=Kc hb (Nn e4 _)
      replace y0:=(y0.setCell (Bo) 0 (.slice m2 (E.length+U.length+(pathE c os).length) o2) (fun _=>(by first | exact Or.inl rfl | exact Or.inr (Or.inl rfl) | (refine Or.inr (Or.inr ?_);omega)))).trans (Chg.of_below hb)
      replace k0:=Kc hb (Nn k0 _)
      replace l0:=Kc hb (Nn l0 _)
      replace n0:=Kc hb (Nn n0 _)
      replace o0:=Kc hb (Nn o0 _)
      replace p0:=Kc hb (Nn p0 _)
      replace oP:=Ob (Oe oP _ _ (fun h=>by have:=v3 _ h;omega) _) hb
      replace l2:=Ob (Oe l2 _ _ (fun h=>by have:=t2 _ h;omega) _) hb
      clear hb
      rw [← u1]
      clear u1
      refine hK.out _ _ ⟨v0,w0,x0,l0,n0,o0,p0⟩ (fun hHeld=>?_)
      clear hK K
      try simp only [Ep]
      refine Dn ?_
      clear hHeld
      have f1:=(Nn (b:=(Bc)) (j:=0) hBo (.int .i64 ((n:Int)+1)))
      have f2:=(Fs (b:=⟨(Bc),0,none⟩) hBf (.int .i64 ((n:Int)+1)))
      have f3:=(Oe l2 (Bc) 0 (fun h=>by have:=t2 _ h;omega) (.int .i64 ((n:Int)+1)))
      have f4:=(Tc _ (Bc) 0 (.int .i64 ((n:Int)+1)) hBc)
      have f5:=(Fs (b:=⟨(Bc),0,none⟩) hCf (.int .i64 ((n:Int)+1)))
      have f6:=(y0.setCell (Bc) 0 (.int .i64 ((n:Int)+1)) (fun _=>(by first | exact Or.inl rfl | exact Or.inr (Or.inl rfl) | (refine Or.inr (Or.inr ?_);omega))))
      have HF:=Lib.hid (And.intro f1 (And.intro f2 (And.intro f3 (And.intro f4 (And.intro f5 f6)))))
      clear f1 f2 f3 f4 f5 f6 y0 oP l2
      go_wp2
      go_end0
      exact ⟨rfl,_,HF.out.1,HF.out.2.1,by rw [p2.out];have h:=HF.out.2.2.1;rw [List.length_append,List.length_append,evs_append,evs_append];exact h,by rw [r2.out];exact HF.out.2.2.2.1,HF.out.2.2.2.2.1,HF.out.2.2.2.2.2⟩
     go_simp
     refine (p3.out _ t1).mono ?_
     rintro e w7 ⟨u2,rfl,oP,hb⟩
     obtain ⟨pP,tP,rfl⟩:=Oh oP
     have l4:=hb.size
     replace hBf:=Kf hb (Lc hBo) hBf
     replace hCf:=Kf hb (Lc hBc) hCf
     replace o1:=Kf hb (Lc l0) o1
     replace p1:=Kf hb (Lc n0) p1
     replace q1:=Kf hb (Lc o0) q1
     replace r1:=Kf hb (Lc p0) r1
     replace hBo:=Kc hb hBo
     replace v0:=Kc hb v0
     replace w0:=Kc hb w0
     replace x0:=Kc hb x0
     replace hBc:=Kc hb hBc
     replace hWb:=Kc hb hWb
     replace hs0':=Kc hb hs0'
     replace hs1':=Kc hb hs1'
     replace hs2':=Kc hb hs2'
     replace hs3':=Kc hb hs3'
     replace e0:=Kc hb e0
     replace e1:=Kc hb e1
     replace e2:=Kc hb e2
     replace e3:=Kc hb e3
     replace e4:=Kc hb e4
     replace y0:=y0.trans (Chg.of_below hb)
     replace m1:=Ob m1 hb
     replace k0:=Kc hb k0
     replace l0:=Kc hb l0
     replace n0:=Kc hb n0
     replace o0:=Kc hb o0
     replace p0:=Kc hb p0
     replace t1:=btr t1 hb
     clear hb
     have v2:=oP.lt
     refine hK.out _ _ ⟨v0,w0,x0,l0,n0,o0,p0⟩ (fun hHeld=>?_)
     clear hK K
     try simp only [Ep]
     refine Rdy 0 rfl (fun K hK=>?_)
     go_simp
     refine hK.out _ _ ⟨v0,w0,x0,l0,n0,o0,p0⟩ (fun hHeld=>?_)
     clear hK K
     try simp only [Ep]
     refine Rdy 4 rfl (fun K hK=>?_)
     refine step_aps tEvs rfl _ _ rfl (tb) _ (E.length+U.length) (evs E++evs U) rfl m1 _ ((pathE c os).length) (evs (pathE c os)) rfl ((Ro oP (by have:=m3.out;omega))) (one_evs (pathE c os)) (by omega) (by omega) ?_
     intro vA w8 v1 hc q2 _
     obtain ⟨z1,g2,rfl⟩:=Oh v1
     replace y0:=chg_then y0 hc (fun q _ h=>Or.inr (Or.inr (d0 q h).1))
     have m4:=hc.size
     replace hBf:=Gf hc (Lc hBo) hBf (fun h=>by have:=d0 _ h;omega)
     replace hCf:=Gf hc (Lc hBc) hCf (fun h=>by have:=d0 _ h;omega)
     replace o1:=Gf hc (Lc l0) o1 (fun h=>by have:=d0 _ h;omega)
     replace p1:=Gf hc (Lc n0) p1 (fun h=>by have:=d0 _ h;omega)
     replace q1:=Gf hc (Lc o0) q1 (fun h=>by have:=d0 _ h;omega)
     replace r1:=Gf hc (Lc p0) r1 (fun h=>by have:=d0 _ h;omega)
     replace hBo:=Gc hc hBo (fun h=>by have:=d0 _ h;omega)
     replace v0:=Gc hc v0 (fun h=>by have:=d0 _ h;omega)
     replace w0:=Gc hc w0 (fun h=>by have:=d0 _ h;omega)
     replace x0:=Gc hc x0 (fun h=>by have:=d0 _ h;omega)
     replace hBc:=Gc hc hBc (fun h=>by have:=d0 _ h;omega)
     replace hWb:=Gc hc hWb (fun h=>by have:=d0 _ h;omega)
     replace hs0':=Gc hc hs0' (fun h=>by have:=d0 _ h;omega)
     replace hs1':=Gc hc hs1' (fun h=>by have:=d0 _ h;omega)
     replace hs2':=Gc hc hs2' (fun h=>by have:=d0 _ h;omega)
     replace hs3':=Gc hc hs3' (fun h=>by have:=d0 _ h;omega)
     replace e0:=Gc hc e0 (fun h=>by have:=d0 _ h;omega)
     replace e1:=Gc hc e1 (fun h=>by have:=d0 _ h;omega)
     replace e2:=Gc hc e2 (fun h=>by have:=d0 _ h;omega)
     replace e3:=Gc hc e3 (fun h=>by have:=d0 _ h;omega)
     replace e4:=Gc hc e4 (fun h=>by have:=d0 _ h;omega)
     replace k0:=Gc hc k0 (fun h=>by have:=d0 _ h;omega)
     replace l0:=Gc hc l0 (fun h=>by have:=d0 _ h;omega)
     replace n0:=Gc hc n0 (fun h=>by have:=d0 _ h;omega)
     replace o0:=Gc hc o0 (fun h=>by have:=d0 _ h;omega)
     replace p0:=Gc hc p0 (fun h=>by have:=d0 _ h;omega)
     replace oP:=Ow oP hc (fun gq h h2=>by have:=v2 gq h;have:=d0 gq h2;omega)
     clear hc
     have x2:=v1.lt
     clear q2 m1
     refine hK.out _ _ ⟨v0,w0,x0,l0,n0,o0,p0⟩ (fun hHeld=>?_)
     clear hK K
     try simp only [Ep]
     refine Rdy 5 rfl (fun K hK=>?_)
     go_simp
     obtain ⟨w9,u1,hb⟩:=nmw (World.setCell w8 ⟨Bo,0,none⟩ (.slice z1 (E.length+U.length+(pathE c os).length) g2))
     have h3:=hb.size
     simp only [Ss] at h3
     replace hBf:=Kf hb (Lc (Tc _ (Bo) 0 (.slice z1 (E.length+U.length+(pathE c os).length) g2) hBo)) (Fs hBf _)
     replace hCf:=Kf hb (Lc (Nn hBc _)) (Fs hCf _)
     replace o1:=Kf hb (Lc (Nn l0 _)) (Fs o1 _)
     replace p1:=Kf hb (Lc (Nn n0 _)) (Fs p1 _)
     replace q1:=Kf hb (Lc (Nn o0 _)) (Fs q1 _)
     replace r1:=Kf hb (Lc (Nn p0 _)) (Fs r1 _)
     replace hBo:w9.cell? ⟨Bo,0,none⟩=some (.slice z1 (E.length+U.length+(pathE c os).length) g2):=Kc hb (Tc _ (Bo) 0 (.slice z1 (E.length+U.length+(pathE c os).length) g2) hBo)
     replace v0:=Kc hb (Nn v0 _)
     replace w0:=Kc hb (Nn w0 _)
     replace x0:=Kc hb (Nn x0 _)
     replace hBc:=Kc hb (Nn hBc _)
     replace hWb:=Kc hb (Nn hWb _)
     replace hs0':=Kc hb (Nn hs0' _)
     replace hs1':=Kc hb (Nn hs1' _)
     replace hs2':=Kc hb (Nn hs2' _)
     replace hs3':=Kc hb (Nn hs3' _)
     replace e0:=Kc hb (Nn e0 _)
     replace e1:=Kc hb (Nn e1 _)
     replace e2:=Kc hb (Nn e2 _)
     replace e3:=Kc hb (Nn e3 _)
     replace e4:=Kc hb (Nn e4 _)
     replace y0:=(y0.setCell (Bo) 0 (.slice z1 (E.length+U.length+(pathE c os).length) g2) (fun _=>(by first | exact Or.inl rfl | exact Or.inr (Or.inl rfl) | (refine Or.inr (Or.inr ?_);omega)))).trans (Chg.of_below hb)
     replace k0:=Kc hb (Nn k0 _)
     replace l0:=Kc hb (Nn l0 _)
     replace n0:=Kc hb (Nn n0 _)
     replace o0:=Kc hb (Nn o0 _)
     replace p0:=Kc hb (Nn p0 _)
     replace oP:=Ob (Oe oP _ _ (fun h=>by have:=v2 _ h;omega) _) hb
     replace v1:=Ob (Oe v1 _ _ (fun h=>by have:=x2 _ h;omega) _) hb
     clear hb
     rw [← u1]
     clear u1
     refine hK.out _ _ ⟨v0,w0,x0,l0,n0,o0,p0⟩ (fun hHeld=>?_)
     clear hK K
     try simp only [Ep]
     refine Dn ?_
     clear hHeld
     have f1:=(Nn (b:=(Bc)) (j:=0) hBo (.int .i64 ((n:Int)+1)))
     have f2:=(Fs (b:=⟨(Bc),0,none⟩) hBf (.int .i64 ((n:Int)+1)))
     have f3:=(Oe v1 (Bc) 0 (fun h=>by have:=x2 _ h;omega) (.int .i64 ((n:Int)+1)))
     have f4:=(Tc _ (Bc) 0 (.int .i64 ((n:Int)+1)) hBc)
     have f5:=(Fs (b:=⟨(Bc),0,none⟩) hCf (.int .i64 ((n:Int)+1)))
     have f6:=(y0.setCell (Bc) 0 (.int .i64 ((n:Int)+1)) (fun _=>(by first | exact Or.inl rfl | exact Or.inr (Or.inl rfl) | (refine Or.inr (Or.inr ?_);omega))))
     have HF:=Lib.hid (And.intro f1 (And.intro f2 (And.intro f3 (And.intro f4 (And.intro f5 f6)))))
     clear f1 f2 f3 f4 f5 f6 y0 oP v1
     go_wp2
     go_end0
     exact ⟨rfl,_,HF.out.1,HF.out.2.1,by rw [p2.out];have h:=HF.out.2.2.1;rw [List.length_append,List.length_append,evs_append,evs_append];exact h,by rw [r2.out];exact HF.out.2.2.2.1,HF.out.2.2.2.2.1,HF.out.2.2.2.2.2⟩
    skip
    have d4:Hid (os.pc=(k:Int)+1):=Lib.hid (by rw [b5.out];unfold othPc;rw [if_neg hp])
    have h6:(p == (k:Int)+1)=false:=by simp [hp]
    clear hp
    have p3:=Lib.hid (fun W (hW:Below w2.heap.size w2 W)=>by have h:=iPath_any _ _ _ _ _ _ c os W (d5.out W hW) (own_readsS (z4.out W hW) k2.out.1 k2.out.2.1 k2.out.2.2.1 k2.out.2.2.2) k2.out.1 k2.out.2.1 k2.out.2.2.1 k2.out.2.2.2 y4.out hok;rw [d4.out] at h;exact h)
    have g6:=m3.out
    go_upto_region 8 with (fail)
    obtain ⟨w4,u1,hb⟩:=nmw (World.alloc w3 (.cells #[.int .i64 ((k:Int)+1),.slice a5 os.regs.length c5,.slice a3 os.mem.vals.length c3,.slice a4 os.mem.arrs.length c4] 39))
    have i3:=hb.size
    simp only [Sa] at i3
    replace hBf:=Kf hb (Lc (Ac hBo _)) (Fa (Lc hBo) hBf _)
    replace hCf:=Kf hb (Lc (Ac hBc _)) (Fa (Lc hBc) hCf _)
    replace h1:=Kf hb (Lc (Ac m0 _)) (Fa (Lc m0) h1 _)
    replace i1:=Kf hb (Lc (Ac q0 _)) (Fa (Lc q0) i1 _)
    replace j1:=Kf hb (Lc (Ac r0 _)) (Fa (Lc r0) j1 _)
    replace k1:=Kf hb (Lc (Ac t0 _)) (Fa (Lc t0) k1 _)
    replace l1:=Kf hb (Lc (Ac u0 _)) (Fa (Lc u0) l1 _)
    replace hBo:=Kc hb (Ac hBo _)
    replace v0:=Kc hb (Ac v0 _)
    replace w0:=Kc hb (Ac w0 _)
    replace x0:=Kc hb (Ac x0 _)
    replace hBc:=Kc hb (Ac hBc _)
    replace hWb:=Kc hb (Ac hWb _)
    replace hs0':=Kc hb (Ac hs0' _)
    replace hs1':=Kc hb (Ac hs1' _)
    replace hs2':=Kc hb (Ac hs2' _)
    replace hs3':=Kc hb (Ac hs3' _)
    replace e0:=Kc hb (Ac e0 _)
    replace e1:=Kc hb (Ac e1 _)
    replace e2:=Kc hb (Ac e2 _)
    replace e3:=Kc hb (Ac e3 _)
    replace e4:=Kc hb (Ac e4 _)
    replace y0:=(y0.trans (Chg.of_below (bal (Bs _) _))).trans (Chg.of_below hb)
    replace m1:=Ob (Ob m1 (bal (Bs _) _)) hb
    replace m0:=Kc hb (Ac m0 _)
    replace q0:=Kc hb (Ac q0 _)
    replace r0:=Kc hb (Ac r0 _)
    replace t0:=Kc hb (Ac t0 _)
    replace u0:=Kc hb (Ac u0 _)
    replace k0:=Kc hb (Ac k0 _)
    have f0:w4.cell? ⟨w3.heap.size,0,none⟩=some (.int .i64 ((k:Int)+1)):=Kc hb (Wc (by simp) (by rfl))
    have z0:w4.frozen? ⟨w3.heap.size,0,none⟩=false:=Kf hb (by simp) (Fn (by simp))
    have g0:w4.cell? ⟨w3.heap.size,1,none⟩=some (.slice a5 os.regs.length c5):=Kc hb (Wc (by simp) (by rfl))
    have b1:w4.frozen? ⟨w3.heap.size,1,none⟩=false:=Kf hb (by simp) (Fn (by simp))
    have i0:w4.cell? ⟨w3.heap.size,2,none⟩=some (.slice a3 os.mem.vals.length c3):=Kc hb (Wc (by simp) (by rfl))
    have d1:w4.frozen? ⟨w3.heap.size,2,none⟩=false:=Kf hb (by simp) (Fn (by simp))
    have j0:w4.cell? ⟨w3.heap.size,3,none⟩=some (.slice a4 os.mem.arrs.length c4):=Kc hb (Wc (by simp) (by rfl))
    have g1:w4.frozen? ⟨w3.heap.size,3,none⟩=false:=Kf hb (by simp) (Fn (by simp))
    replace t1:=btr (bal t1 _) hb
    clear hb
    rw [← u1]
    clear u1
    have r5:=Lc m0
    have t5:=Lc f0
    refine wp_region_noPanic ?_
    refine wp_region_held_drew (S:=(fun W'=>W'.cell? ⟨X,0,none⟩=some (.slice a0 c.vars.length c0)∧W'.cell? ⟨X,1,none⟩=some (.slice a1 c.arrays.length c1)∧W'.cell? ⟨X,2,none⟩=some (.slice (some ⟨b0,x4,none⟩) c.list.length c2)∧W'.cell? ⟨w3.heap.size,0,none⟩=some (.int .i64 ((k:Int)+1))∧W'.cell? ⟨w3.heap.size,1,none⟩=some (.slice a5 os.regs.length c5)∧W'.cell? ⟨w3.heap.size,2,none⟩=some (.slice a3 os.mem.vals.length c3)∧W'.cell? ⟨w3.heap.size,3,none⟩=some (.slice a4 os.mem.arrs.length c4))) (by kernel_rfl) ⟨Kc (Below.drew (Bs w4)) v0,Kc (Below.drew (Bs w4)) w0,Kc (Below.drew (Bs w4)) x0,Kc (Below.drew (Bs w4)) f0,Kc (Below.drew (Bs w4)) g0,Kc (Below.drew (Bs w4)) i0,Kc (Below.drew (Bs w4)) j0⟩ (fun hHeld=>?_)
    obtain ⟨w5,l3⟩:∃ X,X=World.drew w4:=⟨_,rfl⟩
    rw [← l3] at hHeld ⊢
    have hb:Below w4.heap.size w4 w5:=by rw [l3];exact Below.drew (Bs _)
    clear l3
    have o4:=hb.size
    replace hBf:=Kf hb (Lc hBo) hBf
    replace hCf:=Kf hb (Lc hBc) hCf
    replace h1:=Kf hb (Lc m0) h1
    replace i1:=Kf hb (Lc q0) i1
    replace j1:=Kf hb (Lc r0) j1
    replace k1:=Kf hb (Lc t0) k1
    replace l1:=Kf hb (Lc u0) l1
    replace z0:=Kf hb (Lc f0) z0
    replace b1:=Kf hb (Lc g0) b1
    replace d1:=Kf hb (Lc i0) d1
    replace g1:=Kf hb (Lc j0) g1
    replace hBo:=Kc hb hBo
    replace v0:=Kc hb v0
    replace w0:=Kc hb w0
    replace x0:=Kc hb x0
    replace hBc:=Kc hb hBc
    replace hWb:=Kc hb hWb
    replace hs0':=Kc hb hs0'
    replace hs1':=Kc hb hs1'
    replace hs2':=Kc hb hs2'
    replace hs3':=Kc hb hs3'
    replace e0:=Kc hb e0
    replace e1:=Kc hb e1
    replace e2:=Kc hb e2
    replace e3:=Kc hb e3
    replace e4:=Kc hb e4
    replace y0:=y0.trans (Chg.of_below hb)
    replace m1:=Ob m1 hb
    replace m0:=Kc hb m0
    replace q0:=Kc hb q0
    replace r0:=Kc hb r0
    replace t0:=Kc hb t0
    replace u0:=Kc hb u0
    replace k0:=Kc hb k0
    replace f0:=Kc hb f0
    replace g0:=Kc hb g0
    replace i0:=Kc hb i0
    replace j0:=Kc hb j0
    replace t1:=btr t1 hb
    clear hb
    refine tq 1 45 rfl rfl ?_ ?_ ?_
    rotate_left
    ·intro W' hSw;obtain ⟨s0,s1,s2,s3,s4,s5,s6⟩:=hSw;go_simp;try with_reducible rfl
    try simp only [Ep]
    refine tq 2 46 rfl rfl ?_ ?_ ?_
    rotate_left
    ·intro W' hSw;obtain ⟨s0,s1,s2,s3,s4,s5,s6⟩:=hSw;go_simp;try with_reducible rfl
    try simp only [Ep]
    refine Rdy2 0 3 rfl rfl (fun K hK=>?_) (fun K hK=>?_)
    ·go_simp
     refine hK.out _ _ ⟨v0,w0,x0,f0,g0,i0,j0⟩ (fun hHeld=>?_)
     clear hK K
     try simp only [Ep]
     refine Rdy 3 rfl (fun K hK=>?_)
     go_simp
     refine (p3.out _ t1).mono ?_
     rintro e w6 ⟨u2,rfl,oP,hb⟩
     obtain ⟨pP,tP,rfl⟩:=Oh oP
     have p4:=hb.size
     replace hBf:=Kf hb (Lc hBo) hBf
     replace hCf:=Kf hb (Lc hBc) hCf
     replace h1:=Kf hb (Lc m0) h1
     replace i1:=Kf hb (Lc q0) i1
     replace j1:=Kf hb (Lc r0) j1
     replace k1:=Kf hb (Lc t0) k1
     replace l1:=Kf hb (Lc u0) l1
     replace z0:=Kf hb (Lc f0) z0
     replace b1:=Kf hb (Lc g0) b1
     replace d1:=Kf hb (Lc i0) d1
     replace g1:=Kf hb (Lc j0) g1
     replace hBo:=Kc hb hBo
     replace v0:=Kc hb v0
     replace w0:=Kc hb w0
     replace x0:=Kc hb x0
     replace hBc:=Kc hb hBc
     replace hWb:=Kc hb hWb
     replace hs0':=Kc hb hs0'
     replace hs1':=Kc hb hs1'
     replace hs2':=Kc hb hs2'
     replace hs3':=Kc hb hs3'
     replace e0:=Kc hb e0
     replace e1:=Kc hb e1
     replace e2:=Kc hb e2
     replace e3:=Kc hb e3
     replace e4:=Kc hb e4
     replace y0:=y0.trans (Chg.of_below hb)
     replace m1:=Ob m1 hb
     replace m0:=Kc hb m0
     replace q0:=Kc hb q0
     replace r0:=Kc hb r0
     replace t0:=Kc hb t0
     replace u0:=Kc hb u0
     replace k0:=Kc hb k0
     replace f0:=Kc hb f0
     replace g0:=Kc hb g0
     replace i0:=Kc hb i0
     replace j0:=Kc hb j0
     replace t1:=btr t1 hb
     clear hb
     have y2:=oP.lt
     refine hK.out _ _ ⟨v0,w0,x0,f0,g0,i0,j0⟩ (fun hHeld=>?_)
     clear hK K
     try simp only [Ep]
     refine Rdy 4 rfl (fun K hK=>?_)
     refine step_aps tEvs rfl _ _ rfl (tb) _ (E.length+U.length) (evs E++evs U) rfl m1 _ ((pathE c os).length) (evs (pathE c os)) rfl ((Ro oP (by have:=m3.out;omega))) (one_evs (pathE c os)) (by omega) (by omega) ?_
     intro vA w7 x1 hc q2 _
     obtain ⟨b2,i2,rfl⟩:=Oh x1
     replace y0:=chg_then y0 hc (fun q _ h=>Or.inr (Or.inr (d0 q h).1))
     have q4:=hc.size
     replace hBf:=Gf hc (Lc hBo) hBf (fun h=>by have:=d0 _ h;omega)
     replace hCf:=Gf hc (Lc hBc) hCf (fun h=>by have:=d0 _ h;omega)
     replace h1:=Gf hc (Lc m0) h1 (fun h=>by have:=d0 _ h;omega)
     replace i1:=Gf hc (Lc q0) i1 (fun h=>by have:=d0 _ h;omega)
     replace j1:=Gf hc (Lc r0) j1 (fun h=>by have:=d0 _ h;omega)
     replace k1:=Gf hc (Lc t0) k1 (fun h=>by have:=d0 _ h;omega)
     replace l1:=Gf hc (Lc u0) l1 (fun h=>by have:=d0 _ h;omega)
     replace z0:=Gf hc (Lc f0) z0 (fun h=>by have:=d0 _ h;omega)
     replace b1:=Gf hc (Lc g0) b1 (fun h=>by have:=d0 _ h;omega)
     replace d1:=Gf hc (Lc i0) d1 (fun h=>by have:=d0 _ h;omega)
     replace g1:=Gf hc (Lc j0) g1 (fun h=>by have:=d0 _ h;omega)
     replace hBo:=Gc hc hBo (fun h=>by have:=d0 _ h;omega)
     replace v0:=Gc hc v0 (fun h=>by have:=d0 _ h;omega)
     replace w0:=Gc hc w0 (fun h=>by have:=d0 _ h;omega)
     replace x0:=Gc hc x0 (fun h=>by have:=d0 _ h;omega)
     replace hBc:=Gc hc hBc (fun h=>by have:=d0 _ h;omega)
     replace hWb:=Gc hc hWb (fun h=>by have:=d0 _ h;omega)
     replace hs0':=Gc hc hs0' (fun h=>by have:=d0 _ h;omega)
     replace hs1':=Gc hc hs1' (fun h=>by have:=d0 _ h;omega)
     replace hs2':=Gc hc hs2' (fun h=>by have:=d0 _ h;omega)
     replace hs3':=Gc hc hs3' (fun h=>by have:=d0 _ h;omega)
     replace e0:=Gc hc e0 (fun h=>by have:=d0 _ h;omega)
     replace e1:=Gc hc e1 (fun h=>by have:=d0 _ h;omega)
     replace e2:=Gc hc e2 (fun h=>by have:=d0 _ h;omega)
     replace e3:=Gc hc e3 (fun h=>by have:=d0 _ h;omega)
     replace e4:=Gc hc e4 (fun h=>by have:=d0 _ h;omega)
     replace m0:=Gc hc m0 (fun h=>by have:=d0 _ h;omega)
     replace q0:=Gc hc q0 (fun h=>by have:=d0 _ h;omega)
     replace r0:=Gc hc r0 (fun h=>by have:=d0 _ h;omega)
     replace t0:=Gc hc t0 (fun h=>by have:=d0 _ h;omega)
     replace u0:=Gc hc u0 (fun h=>by have:=d0 _ h;omega)
     replace k0:=Gc hc k0 (fun h=>by have:=d0 _ h;omega)
     replace f0:=Gc hc f0 (fun h=>by have:=d0 _ h;omega)
     replace g0:=Gc hc g0 (fun h=>by have:=d0 _ h;omega)
     replace i0:=Gc hc i0 (fun h=>by have:=d0 _ h;omega)
     replace j0:=Gc hc j0 (fun h=>by have:=d0 _ h;omega)
     replace oP:=Ow oP hc (fun gq h h2=>by have:=y2 gq h;have:=d0 gq h2;omega)
     clear hc
     have z2:=x1.lt
     clear q2 m1
     refine hK.out _ _ ⟨v0,w0,x0,f0,g0,i0,j0⟩ (fun hHeld=>?_)
     clear hK K
     try simp only [Ep]
     refine Rdy 5 rfl (fun K hK=>?_)
     go_simp
     obtain ⟨w8,u1,hb⟩:=nmw (World.setCell w7 ⟨Bo,0,none⟩ (.slice b2 (E.length+U.length+(pathE c os).length) i2))
     have j3:=hb.size
     simp only [Ss] at j3
     replace hBf:=Kf hb (Lc (Tc _ (Bo) 0 (.slice b2 (E.length+U.length+(pathE c os).length) i2) hBo)) (Fs hBf _)
     replace hCf:=Kf hb (Lc (Nn hBc _)) (Fs hCf _)
     replace h1:=Kf hb (Lc (Nn m0 _)) (Fs h1 _)
     replace i1:=Kf hb (Lc (Nn q0 _)) (Fs i1 _)
     replace j1:=Kf hb (Lc (Nn r0 _)) (Fs j1 _)
     replace k1:=Kf hb (Lc (Nn t0 _)) (Fs k1 _)
     replace l1:=Kf hb (Lc (Nn u0 _)) (Fs l1 _)
     replace z0:=Kf hb (Lc (Nn f0 _)) (Fs z0 _)
     replace b1:=Kf hb (Lc (Nn g0 _)) (Fs b1 _)
     replace d1:=Kf hb (Lc (Nn i0 _)) (Fs d1 _)
     replace g1:=Kf hb (Lc (Nn j0 _)) (Fs g1 _)
     replace hBo:w8.cell? ⟨Bo,0,none⟩=some (.slice b2 (E.length+U.length+(pathE c os).length) i2):=Kc hb (Tc _ (Bo) 0 (.slice b2 (E.length+U.length+(pathE c os).length) i2) hBo)
     replace v0:=Kc hb (Nn v0 _)
     replace w0:=Kc hb (Nn w0 _)
     replace x0:=Kc hb (Nn x0 _)
     replace hBc:=Kc hb (Nn hBc _)
     replace hWb:=Kc hb (Nn hWb _)
     replace hs0':=Kc hb (Nn hs0' _)
     replace hs1':=Kc hb (Nn hs1' _)
     replace hs2':=Kc hb (Nn hs2' _)
     replace hs3':=Kc hb (Nn hs3' _)
     replace e0:=Kc hb (Nn e0 _)
     replace e1:=Kc hb (Nn e1 _)
     replace e2:=Kc hb (Nn e2 _)
     replace e3:=Kc hb (Nn e3 _)
     replace e4:=Kc hb (Nn e4 _)
     replace y0:=(y0.setCell (Bo) 0 (.slice b2 (E.length+U.length+(pathE c os).length) i2) (fun _=>(by first | exact Or.inl rfl | exact Or.inr (Or.inl rfl) | (refine Or.inr (Or.inr ?_);omega)))).trans (Chg.of_below hb)
     replace m0:=Kc hb (Nn m0 _)
     replace q0:=Kc hb (Nn q0 _)
     replace r0:=Kc hb (Nn r0 _)
     replace t0:=Kc hb (Nn t0 _)
     replace u0:=Kc hb (Nn u0 _)
     replace k0:=Kc hb (Nn k0 _)
     replace f0:=Kc hb (Nn f0 _)
     replace g0:=Kc hb (Nn g0 _)
     replace i0:=Kc hb (Nn i0 _)
     replace j0:=Kc hb (Nn j0 _)
     replace oP:=Ob (Oe oP _ _ (fun h=>by have:=y2 _ h;omega) _) hb
     replace x1:=Ob (Oe x1 _ _ (fun h=>by have:=z2 _ h;omega) _) hb
     clear hb
     rw [← u1]
     clear u1
     refine hK.out _ _ ⟨v0,w0,x0,f0,g0,i0,j0⟩ (fun hHeld=>?_)
     clear hK K
     try simp only [Ep]
     refine Dn ?_
     clear hHeld
     have f1:=(Nn (b:=(Bc)) (j:=0) hBo (.int .i64 ((n:Int)+1)))
     have f2:=(Fs (b:=⟨(Bc),0,none⟩) hBf (.int .i64 ((n:Int)+1)))
     have f3:=(Oe x1 (Bc) 0 (fun h=>by have:=z2 _ h;omega) (.int .i64 ((n:Int)+1)))
     have f4:=(Tc _ (Bc) 0 (.int .i64 ((n:Int)+1)) hBc)
     have f5:=(Fs (b:=⟨(Bc),0,none⟩) hCf (.int .i64 ((n:Int)+1)))
     have f6:=(y0.setCell (Bc) 0 (.int .i64 ((n:Int)+1)) (fun _=>(by first | exact Or.inl rfl | exact Or.inr (Or.inl rfl) | (refine Or.inr (Or.inr ?_);omega))))
     have HF:=Lib.hid (And.intro f1 (And.intro f2 (And.intro f3 (And.intro f4 (And.intro f5 f6)))))
     clear f1 f2 f3 f4 f5 f6 y0 oP x1
     go_wp2
     go_end0
     exact ⟨rfl,_,HF.out.1,HF.out.2.1,by rw [p2.out];have h:=HF.out.2.2.1;rw [List.length_append,List.length_append,evs_append,evs_append];exact h,by rw [r2.out];exact HF.out.2.2.2.1,HF.out.2.2.2.2.1,HF.out.2.2.2.2.2⟩
    go_simp
    refine (p3.out _ t1).mono ?_
    rintro e w6 ⟨u2,rfl,oP,hb⟩
    obtain ⟨pP,tP,rfl⟩:=Oh oP
    have r4:=hb.size
    replace hBf:=Kf hb (Lc hBo) hBf
    replace hCf:=Kf hb (Lc hBc) hCf
    replace h1:=Kf hb (Lc m0) h1
    replace i1:=Kf hb (Lc q0) i1
    replace j1:=Kf hb (Lc r0) j1
    replace k1:=Kf hb (Lc t0) k1
    replace l1:=Kf hb (Lc u0) l1
    replace z0:=Kf hb (Lc f0) z0
    replace b1:=Kf hb (Lc g0) b1
    replace d1:=Kf hb (Lc i0) d1
    replace g1:=Kf hb (Lc j0) g1
    replace hBo:=Kc hb hBo
    replace v0:=Kc hb v0
    replace w0:=Kc hb w0
    replace x0:=Kc hb x0
    replace hBc:=Kc hb hBc
    replace hWb:=Kc hb hWb
    replace hs0':=Kc hb hs0'
    replace hs1':=Kc hb hs1'
    replace hs2':=Kc hb hs2'
    replace hs3':=Kc hb hs3'
    replace e0:=Kc hb e0
    replace e1:=Kc hb e1
    replace e2:=Kc hb e2
    replace e3:=Kc hb e3
    replace e4:=Kc hb e4
    replace y0:=y0.trans (Chg.of_below hb)
    replace m1:=Ob m1 hb
    replace m0:=Kc hb m0
    replace q0:=Kc hb q0
    replace r0:=Kc hb r0
    replace t0:=Kc hb t0
    replace u0:=Kc hb u0
    replace k0:=Kc hb k0
    replace f0:=Kc hb f0
    replace g0:=Kc hb g0
    replace i0:=Kc hb i0
    replace j0:=Kc hb j0
    replace t1:=btr t1 hb
    clear hb
    have b3:=oP.lt
    refine hK.out _ _ ⟨v0,w0,x0,f0,g0,i0,j0⟩ (fun hHeld=>?_)
    clear hK K
    try simp only [Ep]
    refine Rdy 0 rfl (fun K hK=>?_)
    go_simp
    refine hK.out _ _ ⟨v0,w0,x0,f0,g0,i0,j0⟩ (fun hHeld=>?_)
    clear hK K
    try simp only [Ep]
    refine Rdy 4 rfl (fun K hK=>?_)
    refine step_aps tEvs rfl _ _ rfl (tb) _ (E.length+U.length) (evs E++evs U) rfl m1 _ ((pathE c os).length) (evs (pathE c os)) rfl ((Ro oP (by have:=m3.out;omega))) (one_evs (pathE c os)) (by omega) (by omega) ?_
    intro vA w7 y1 hc q2 _
    obtain ⟨d2,j2,rfl⟩:=Oh y1
    replace y0:=chg_then y0 hc (fun q _ h=>Or.inr (Or.inr (d0 q h).1))
    have t4:=hc.size
    replace hBf:=Gf hc (Lc hBo) hBf (fun h=>by have:=d0 _ h;omega)
    replace hCf:=Gf hc (Lc hBc) hCf (fun h=>by have:=d0 _ h;omega)
    replace h1:=Gf hc (Lc m0) h1 (fun h=>by have:=d0 _ h;omega)
    replace i1:=Gf hc (Lc q0) i1 (fun h=>by have:=d0 _ h;omega)
    replace j1:=Gf hc (Lc r0) j1 (fun h=>by have:=d0 _ h;omega)
    replace k1:=Gf hc (Lc t0) k1 (fun h=>by have:=d0 _ h;omega)
    replace l1:=Gf hc (Lc u0) l1 (fun h=>by have:=d0 _ h;omega)
    replace z0:=Gf hc (Lc f0) z0 (fun h=>by have:=d0 _ h;omega)
    replace b1:=Gf hc (Lc g0) b1 (fun h=>by have:=d0 _ h;omega)
    replace d1:=Gf hc (Lc i0) d1 (fun h=>by have:=d0 _ h;omega)
    replace g1:=Gf hc (Lc j0) g1 (fun h=>by have:=d0 _ h;omega)
    replace hBo:=Gc hc hBo (fun h=>by have:=d0 _ h;omega)
    replace v0:=Gc hc v0 (fun h=>by have:=d0 _ h;omega)
    replace w0:=Gc hc w0 (fun h=>by have:=d0 _ h;omega)
    replace x0:=Gc hc x0 (fun h=>by have:=d0 _ h;omega)
    replace hBc:=Gc hc hBc (fun h=>by have:=d0 _ h;omega)
    replace hWb:=Gc hc hWb (fun h=>by have:=d0 _ h;omega)
    replace hs0':=Gc hc hs0' (fun h=>by have:=d0 _ h;omega)
    replace hs1':=Gc hc hs1' (fun h=>by have:=d0 _ h;omega)
    replace hs2':=Gc hc hs2' (fun h=>by have:=d0 _ h;omega)
    replace hs3':=Gc hc hs3' (fun h=>by have:=d0 _ h;omega)
    replace e0:=Gc hc e0 (fun h=>by have:=d0 _ h;omega)
    replace e1:=Gc hc e1 (fun h=>by have:=d0 _ h;omega)
    replace e2:=Gc hc e2 (fun h=>by have:=d0 _ h;omega)
    replace e3:=Gc hc e3 (fun h=>by have:=d0 _ h;omega)
    replace e4:=Gc hc e4 (fun h=>by have:=d0 _ h;omega)
    replace m0:=Gc hc m0 (fun h=>by have:=d0 _ h;omega)
    replace q0:=Gc hc q0 (fun h=>by have:=d0 _ h;omega)
    replace r0:=Gc hc r0 (fun h=>by have:=d0 _ h;omega)
    replace t0:=Gc hc t0 (fun h=>by have:=d0 _ h;omega)
    replace u0:=Gc hc u0 (fun h=>by have:=d0 _ h;omega)
    replace k0:=Gc hc k0 (fun h=>by have:=d0 _ h;omega)
    replace f0:=Gc hc f0 (fun h=>by have:=d0 _ h;omega)
    replace g0:=Gc hc g0 (fun h=>by have:=d0 _ h;omega)
    replace i0:=Gc hc i0 (fun h=>by have:=d0 _ h;omega)
    replace j0:=Gc hc j0 (fun h=>by have:=d0 _ h;omega)
    replace oP:=Ow oP hc (fun gq h h2=>by have:=b3 gq h;have:=d0 gq h2;omega)
    clear hc
    have d3:=y1.lt
    clear q2 m1
    refine hK.out _ _ ⟨v0,w0,x0,f0,g0,i0,j0⟩ (fun hHeld=>?_)
    clear hK K
    try simp only [Ep]
    refine Rdy 5 rfl (fun K hK=>?_)
    go_simp
    obtain ⟨w8,u1,hb⟩:=nmw (World.setCell w7 ⟨Bo,0,none⟩ (.slice d2 (E.length+U.length+(pathE c os).length) j2))
    have k3:=hb.size
    simp only [Ss] at k3
    replace hBf:=Kf hb (Lc (Tc _ (Bo) 0 (.slice d2 (E.length+U.length+(pathE c os).length) j2) hBo)) (Fs hBf _)
    replace hCf:=Kf hb (Lc (Nn hBc _)) (Fs hCf _)
    replace h1:=Kf hb (Lc (Nn m0 _)) (Fs h1 _)
    replace i1:=Kf hb (Lc (Nn q0 _)) (Fs i1 _)
    replace j1:=Kf hb (Lc (Nn r0 _)) (Fs j1 _)
    replace k1:=Kf hb (Lc (Nn t0 _)) (Fs k1 _)
    replace l1:=Kf hb (Lc (Nn u0 _)) (Fs l1 _)
    replace z0:=Kf hb (Lc (Nn f0 _)) (Fs z0 _)
    replace b1:=Kf hb (Lc (Nn g0 _)) (Fs b1 _)
    replace d1:=Kf hb (Lc (Nn i0 _)) (Fs d1 _)
    replace g1:=Kf hb (Lc (Nn j0 _)) (Fs g1 _)
    replace hBo:w8.cell? ⟨Bo,0,none⟩=some (.slice d2 (E.length+U.length+(pathE c os).length) j2):=Kc hb (Tc _ (Bo) 0 (.slice d2 (E.length+U.length+(pathE c os).length) j2) hBo)
    replace v0:=Kc hb (Nn v0 _)
    replace w0:=Kc hb (Nn w0 _)
    replace x0:=Kc hb (Nn x0 _)
    replace hBc:=Kc hb (Nn hBc _)
    replace hWb:=Kc hb (Nn hWb _)
    replace hs0':=Kc hb (Nn hs0' _)
    replace hs1':=Kc hb (Nn hs1' _)
    replace hs2':=Kc hb (Nn hs2' _)
    replace hs3':=Kc hb (Nn hs3' _)
    replace e0:=Kc hb (Nn e0 _)
    replace e1:=Kc hb (Nn e1 _)
    replace e2:=Kc hb (Nn e2 _)
    replace e3:=Kc hb (Nn e3 _)
    replace e4:=Kc hb (Nn e4 _)
    replace y0:=(y0.setCell (Bo) 0 (.slice d2 (E.length+U.length+(pathE c os).length) j2) (fun _=>(by first | exact Or.inl rfl | exact Or.inr (Or.inl rfl) | (refine Or.inr (Or.inr ?_);omega)))).trans (Chg.of_below hb)
    replace m0:=Kc hb (Nn m0 _)
    replace q0:=Kc hb (Nn q0 _)
    replace r0:=Kc hb (Nn r0 _)
    replace t0:=Kc hb (Nn t0 _)
    replace u0:=Kc hb (Nn u0 _)
    replace k0:=Kc hb (Nn k0 _)
    replace f0:=Kc hb (Nn f0 _)
    replace g0:=Kc hb (Nn g0 _)
    replace i0:=Kc hb (Nn i0 _)
    replace j0:=Kc hb (Nn j0 _)
    replace oP:=Ob (Oe oP _ _ (fun h=>by have:=b3 _ h;omega) _) hb
    replace y1:=Ob (Oe y1 _ _ (fun h=>by have:=d3 _ h;omega) _) hb
    clear hb
    rw [← u1]
    clear u1
    refine hK.out _ _ ⟨v0,w0,x0,f0,g0,i0,j0⟩ (fun hHeld=>?_)
    clear hK K
    try simp only [Ep]
    refine Dn ?_
    clear hHeld
    have f1:=(Nn (b:=(Bc)) (j:=0) hBo (.int .i64 ((n:Int)+1)))
    have f2:=(Fs (b:=⟨(Bc),0,none⟩) hBf (.int .i64 ((n:Int)+1)))
    have f3:=(Oe y1 (Bc) 0 (fun h=>by have:=d3 _ h;omega) (.int .i64 ((n:Int)+1)))
    have f4:=(Tc _ (Bc) 0 (.int .i64 ((n:Int)+1)) hBc)
    have f5:=(Fs (b:=⟨(Bc),0,none⟩) hCf (.int .i64 ((n:Int)+1)))
    have f6:=(y0.setCell (Bc) 0 (.int .i64 ((n:Int)+1)) (fun _=>(by first | exact Or.inl rfl | exact Or.inr (Or.inl rfl) | (refine Or.inr (Or.inr ?_);omega))))
    have HF:=Lib.hid (And.intro f1 (And.intro f2 (And.intro f3 (And.intro f4 (And.intro f5 f6)))))
    clear f1 f2 f3 f4 f5 f6 y0 oP y1
    go_wp2
    go_end0
    exact ⟨rfl,_,HF.out.1,HF.out.2.1,by rw [p2.out];have h:=HF.out.2.2.1;rw [List.length_append,List.length_append,evs_append,evs_append];exact h,by rw [r2.out];exact HF.out.2.2.2.1,HF.out.2.2.2.2.1,HF.out.2.2.2.2.2⟩
  have p2:=Lib.hid (HX1'.out (wr_out hlt))
  clear HX1' HX2'
  have e6:¬(n:Int) < (ws.length:Int):=by omega
  clear hws
  have f1:=(Nn (b:=(Bc)) (j:=0) hBo (.int .i64 ((n:Int)+1)))
  have f2:=(Fs (b:=⟨(Bc),0,none⟩) hBf (.int .i64 ((n:Int)+1)))
  have f3:=(Oe m1 (Bc) 0 (fun h=>by have:=d0 _ h;omega) (.int .i64 ((n:Int)+1)))
  have f4:=(Tc _ (Bc) 0 (.int .i64 ((n:Int)+1)) hBc)
  have f5:=(Fs (b:=⟨(Bc),0,none⟩) hCf (.int .i64 ((n:Int)+1)))
  have f6:=(y0.setCell (Bc) 0 (.int .i64 ((n:Int)+1)) (fun _=>(by first | exact Or.inl rfl | exact Or.inr (Or.inl rfl) | (refine Or.inr (Or.inr ?_);omega))))
  have HF:=Lib.hid (And.intro f1 (And.intro f2 (And.intro f3 (And.intro f4 (And.intro f5 f6)))))
  clear f1 f2 f3 f4 f5 f6 y0 m1
  go_wp2
  go_end0
  exact ⟨rfl,_,HF.out.1,HF.out.2.1,by rw [p2.out];have h:=HF.out.2.2.1;rw [List.append_nil,List.length_append,evs_append];exact h,by rw [r2.out];exact HF.out.2.2.2.1,HF.out.2.2.2.2.1,HF.out.2.2.2.2.2⟩
end Go.Proofs.Ytkjedgnepnbkpaa
