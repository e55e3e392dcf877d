/-
 Parts of the proofs of the laws FnRemoveDead,FnRemoveDeadLeak,FnSpecFenced,FnSpecMemory.
-/
import Derived.Test.YtnpidfbcbmeijaaGreatWA
set_option maxHeartbeats 12800000
set_option maxRecDepth 100000
set_option linter.all false
namespace Go.Proofs.YtnpidfbcbmeijaaGreat
open Go.RowKit
theorem cnt1_any (Bc X b off k c2:Nat) (n:Nat) (u:Value) (c:Cd) (w:World) (hc:w.cell? ⟨Bc,0,none⟩=some (.int .i64 n)) (hf:w.frozen? ⟨Bc,0,none⟩=false) (hX:w.cell? ⟨X,2,none⟩=some (.slice (some ⟨b,off,none⟩) c.list.length c2)) (hk:k < c.list.length)
  (hl:w.cell? ⟨b,off+k*5,none⟩=some (.int .i64 c.list[k].op)∧w.cell? ⟨b,off+k*5+1,none⟩=some (.int .i64 c.list[k].a)∧w.cell? ⟨b,off+k*5+2,none⟩=some (.int .i64 c.list[k].b)∧w.cell? ⟨b,off+k*5+3,none⟩=some (.int .i64 c.list[k].c)∧w.cell? ⟨b,off+k*5+4,none⟩=some (.int .i64 c.list[k].d)) (hn:n≤1048576) (hbB:¬b=Bc) :
  Calls Tryz.prog 46 #[.int .i64 (k:Int),u,.pointer (some ⟨Bc,0,none⟩),.pointer (some ⟨X,0,none⟩)] w fun e w'=>e=.returned (.tuple #[])∧w'.cell? ⟨Bc,0,none⟩=some (.int .i64 ((n:Int)+brI (isBr c.list[k].op)))∧w'.frozen? ⟨Bc,0,none⟩=false∧Chg (fun q=>q=Bc) w w':=by
 obtain ⟨e0,e1,e2,e3,e4⟩:=hl;have hq:(k:Int) < (c.list.length:Int):=by omega
 generalize c.list[k]=x at *
 have c0:IntKind.i64.wrap ((n:Int)+brI (isBr x.op))=(n:Int)+brI (isBr x.op):=by
  have h0:0≤brI (isBr x.op)∧brI (isBr x.op)≤1:=by unfold brI;split <;> omega
  rw [IntKind.wrap_i64];omega
 have kB:=Lc hc;have kX:=Lc hX;have ke:=Lc e0;go_enter Tryz.func46,Tryz.ntmps46
 go_upto_region 0 with (fail)
 refine wp_region_noPanic ?_;refine wp_region_held_drew (S:=(fun W'=>W'.cell? ⟨X,2,none⟩=some (.slice (some ⟨b,off,none⟩) c.list.length c2)∧W'.cell? ⟨b,off+k*5,none⟩=some (.int .i64 x.op)∧W'.cell? ⟨b,off+k*5+1,none⟩=some (.int .i64 x.a)∧W'.cell? ⟨b,off+k*5+2,none⟩=some (.int .i64 x.b)∧W'.cell? ⟨b,off+k*5+3,none⟩=some (.int .i64 x.c)∧W'.cell? ⟨b,off+k*5+4,none⟩=some (.int .i64 x.d))) (by kernel_rfl) ⟨Kc (Bd (Bs w)) hX,Kc (Bd (Bs w)) e0,Kc (Bd (Bs w)) e1,Kc (Bd (Bs w)) e2,Kc (Bd (Bs w)) e3,Kc (Bd (Bs w)) e4⟩ (fun hHeld=>?_);obtain ⟨wd,d0⟩:∃ W,W=World.drew w:=⟨_,rfl⟩;rw [← d0] at hHeld ⊢;have D:Below w.heap.size w wd:=by rw [d0];exact Bd (Bs _)
 clear d0;have b0:=Kf D kB hf;replace hX:=Kc D hX;replace e0:=Kc D e0;replace e1:=Kc D e1;replace e2:=Kc D e2;replace e3:=Kc D e3;replace e4:=Kc D e4;replace hc:=Kc D hc;have i0:=D.size;refine tq 1 7 rfl rfl ?_ ?_ ?_;rotate_left
 ·intro W' hSw;obtain ⟨s0,s1,s2,s3,s4,s5⟩:=hSw;go_simp;try with_reducible rfl
 try simp only [Ep]
 refine tq 2 8 rfl rfl ?_ ?_ ?_;rotate_left
 ·intro W' hSw;obtain ⟨s0,s1,s2,s3,s4,s5⟩:=hSw;go_simp;try with_reducible rfl
 try simp only [Ep]
 refine tq 3 9 rfl rfl ?_ ?_ ?_;rotate_left
 ·intro W' hSw;obtain ⟨s0,s1,s2,s3,s4,s5⟩:=hSw;go_simp;try with_reducible rfl
 try simp only [Ep]
 refine Rdy2 0 4 rfl rfl (fun K hK=>?_) (fun K hK=>?_)
 ·go_simp
  refine hK.out _ _ hHeld (fun hHeld=>?_);clear hK K;try simp only [Ep]
  refine Rdy 4 rfl (fun K hK=>?_);go_simp
  refine hK.out _ _ hHeld (fun hHeld=>?_);clear hK K;try simp only [Ep]
  refine tq 5 11 rfl rfl ?_ ?_ ?_;rotate_left
  ·intro W' hSw;obtain ⟨s0,s1,s2,s3,s4,s5⟩:=hSw;go_simp;try with_reducible rfl
  try simp only [Ep]
  refine Rdy 6 rfl (fun K hK=>?_);go_simp
  refine (isBranch_any x.op x.a x.b x.c x.d _).mono ?_;rintro e W9 ⟨rfl,bi⟩;replace b0:=Kf bi (Lc hc) b0;replace hX:=Kc bi hX;replace e0:=Kc bi e0;replace e1:=Kc bi e1;replace e2:=Kc bi e2;replace e3:=Kc bi e3;replace e4:=Kc bi e4;replace hc:=Kc bi hc;have BB:=btr D bi;have g0:=bi.size;clear bi;refine hK.out _ _ ⟨hX,e0,e1,e2,e3,e4⟩ (fun hHeld=>?_);clear hK K;try simp only [Ep]
  refine Rdy 7 rfl (fun K hK=>?_);go_simp
  refine (truthS_any (isBr x.op) _).mono ?_;rintro e f0 ⟨rfl,a0⟩;have hh:=a0.symm;subst hh;clear a0;rw [show tru (isBr x.op)=brI (isBr x.op) from rfl];refine hK.out _ _ hHeld (fun hHeld=>?_);clear hK K;try simp only [Ep]
  refine Rdy 8 rfl (fun K hK=>?_);go_simp
  refine hK.out _ _ hHeld (fun hHeld=>?_);clear hK K;try simp only [Ep]
  have ks:=Lc hc;have x0:=Tc W9 Bc 0 (.int .i64 ((n:Int)+brI (isBr x.op))) hc;have xf:=Fs (b:=⟨Bc,0,none⟩) b0 (.int .i64 ((n:Int)+brI (isBr x.op)));have xC:=(Cb (S:=fun q=>q=Bc) BB).setCell Bc 0 (.int .i64 ((n:Int)+brI (isBr x.op))) (fun _=>rfl);refine Rdy 9 rfl (fun K hK=>?_);go_simp
  try rw [c0]
  refine hK.out _ _ ⟨Nn (b:=Bc) (j:=0) hX _,Nn (b:=Bc) (j:=0) e0 _,Nn (b:=Bc) (j:=0) e1 _,Nn (b:=Bc) (j:=0) e2 _,Nn (b:=Bc) (j:=0) e3 _,Nn (b:=Bc) (j:=0) e4 _⟩ (fun hHeld=>?_);clear hK K;try simp only [Ep]
  refine Dn ?_;clear hHeld;go_wp2
  go_end0
  exact ⟨rfl,x0,xf,xC⟩
 go_simp
 refine hK.out _ _ hHeld (fun hHeld=>?_);clear hK K;try simp only [Ep]
 refine tq 5 11 rfl rfl ?_ ?_ ?_;rotate_left
 ·intro W' hSw;obtain ⟨s0,s1,s2,s3,s4,s5⟩:=hSw;go_simp;try with_reducible rfl
 try simp only [Ep]
 refine Rdy2 0 6 rfl rfl (fun K hK=>?_) (fun K hK=>?_)
 ·go_simp
  refine hK.out _ _ hHeld (fun hHeld=>?_);clear hK K;try simp only [Ep]
  refine Rdy 6 rfl (fun K hK=>?_);go_simp
  refine (isBranch_any x.op x.a x.b x.c x.d _).mono ?_;rintro e W9 ⟨rfl,bi⟩;replace b0:=Kf bi (Lc hc) b0;replace hX:=Kc bi hX;replace e0:=Kc bi e0;replace e1:=Kc bi e1;replace e2:=Kc bi e2;replace e3:=Kc bi e3;replace e4:=Kc bi e4;replace hc:=Kc bi hc;have BB:=btr D bi;have g0:=bi.size;clear bi;refine hK.out _ _ ⟨hX,e0,e1,e2,e3,e4⟩ (fun hHeld=>?_);clear hK K;try simp only [Ep]
  refine Rdy 7 rfl (fun K hK=>?_);go_simp
  refine (truthS_any (isBr x.op) _).mono ?_;rintro e f0 ⟨rfl,a0⟩;have hh:=a0.symm;subst hh;clear a0;rw [show tru (isBr x.op)=brI (isBr x.op) from rfl];refine hK.out _ _ hHeld (fun hHeld=>?_);clear hK K;try simp only [Ep]
  refine Rdy 8 rfl (fun K hK=>?_);go_simp
  refine hK.out _ _ hHeld (fun hHeld=>?_);clear hK K;try simp only [Ep]
  have ks:=Lc hc;have x0:=Tc W9 Bc 0 (.int .i64 ((n:Int)+brI (isBr x.op))) hc;have xf:=Fs (b:=⟨Bc,0,none⟩) b0 (.int .i64 ((n:Int)+brI (isBr x.op)));have xC:=(Cb (S:=fun q=>q=Bc) BB).setCell Bc 0 (.int .i64 ((n:Int)+brI (isBr x.op))) (fun _=>rfl);refine Rdy 9 rfl (fun K hK=>?_);go_simp
  try rw [c0]
  refine hK.out _ _ ⟨Nn (b:=Bc) (j:=0) hX _,Nn (b:=Bc) (j:=0) e0 _,Nn (b:=Bc) (j:=0) e1 _,Nn (b:=Bc) (j:=0) e2 _,Nn (b:=Bc) (j:=0) e3 _,Nn (b:=Bc) (j:=0) e4 _⟩ (fun hHeld=>?_);clear hK K;try simp only [Ep]
  refine Dn ?_;clear hHeld;go_wp2
  go_end0
  exact ⟨rfl,x0,xf,xC⟩
 go_simp
 refine (isBranch_any x.op x.a x.b x.c x.d _).mono ?_;rintro e W9 ⟨rfl,bi⟩;replace b0:=Kf bi (Lc hc) b0;replace hX:=Kc bi hX;replace e0:=Kc bi e0;replace e1:=Kc bi e1;replace e2:=Kc bi e2;replace e3:=Kc bi e3;replace e4:=Kc bi e4;replace hc:=Kc bi hc;have BB:=btr D bi;have g0:=bi.size;clear bi;refine hK.out _ _ ⟨hX,e0,e1,e2,e3,e4⟩ (fun hHeld=>?_);clear hK K;try simp only [Ep]
 refine Rdy2 0 7 rfl rfl (fun K hK=>?_) (fun K hK=>?_)
 ·go_simp
  refine hK.out _ _ hHeld (fun hHeld=>?_);clear hK K;try simp only [Ep]
  refine Rdy 7 rfl (fun K hK=>?_);go_simp
  refine (truthS_any (isBr x.op) _).mono ?_;rintro e f0 ⟨rfl,a0⟩;have hh:=a0.symm;subst hh;clear a0;rw [show tru (isBr x.op)=brI (isBr x.op) from rfl];refine hK.out _ _ hHeld (fun hHeld=>?_);clear hK K;try simp only [Ep]
  refine Rdy 8 rfl (fun K hK=>?_);go_simp
  refine hK.out _ _ hHeld (fun hHeld=>?_);clear hK K;try simp only [Ep]
  have ks:=Lc hc;have x0:=Tc W9 Bc 0 (.int .i64 ((n:Int)+brI (isBr x.op))) hc;have xf:=Fs (b:=⟨Bc,0,none⟩) b0 (.int .i64 ((n:Int)+brI (isBr x.op)));have xC:=(Cb (S:=fun q=>q=Bc) BB).setCell Bc 0 (.int .i64 ((n:Int)+brI (isBr x.op))) (fun _=>rfl);refine Rdy 9 rfl (fun K hK=>?_);go_simp
  try rw [c0]
  refine hK.out _ _ ⟨Nn (b:=Bc) (j:=0) hX _,Nn (b:=Bc) (j:=0) e0 _,Nn (b:=Bc) (j:=0) e1 _,Nn (b:=Bc) (j:=0) e2 _,Nn (b:=Bc) (j:=0) e3 _,Nn (b:=Bc) (j:=0) e4 _⟩ (fun hHeld=>?_);clear hK K;try simp only [Ep]
  refine Dn ?_;clear hHeld;go_wp2
  go_end0
  exact ⟨rfl,x0,xf,xC⟩
 go_simp
 refine (truthS_any (isBr x.op) _).mono ?_;rintro e f0 ⟨rfl,a0⟩;have hh:=a0.symm;subst hh;clear a0;rw [show tru (isBr x.op)=brI (isBr x.op) from rfl];refine hK.out _ _ hHeld (fun hHeld=>?_);clear hK K;try simp only [Ep]
 refine Rdy 0 rfl (fun K hK=>?_);go_simp
 refine hK.out _ _ hHeld (fun hHeld=>?_);clear hK K;try simp only [Ep]
 refine Rdy 8 rfl (fun K hK=>?_);go_simp
 refine hK.out _ _ hHeld (fun hHeld=>?_);clear hK K;try simp only [Ep]
 have ks:=Lc hc;have x0:=Tc W9 Bc 0 (.int .i64 ((n:Int)+brI (isBr x.op))) hc;have xf:=Fs (b:=⟨Bc,0,none⟩) b0 (.int .i64 ((n:Int)+brI (isBr x.op)));have xC:=(Cb (S:=fun q=>q=Bc) BB).setCell Bc 0 (.int .i64 ((n:Int)+brI (isBr x.op))) (fun _=>rfl);refine Rdy 9 rfl (fun K hK=>?_);go_simp
 try rw [c0]
 refine hK.out _ _ ⟨Nn (b:=Bc) (j:=0) hX _,Nn (b:=Bc) (j:=0) e0 _,Nn (b:=Bc) (j:=0) e1 _,Nn (b:=Bc) (j:=0) e2 _,Nn (b:=Bc) (j:=0) e3 _,Nn (b:=Bc) (j:=0) e4 _⟩ (fun hHeld=>?_);clear hK K;try simp only [Ep]
 refine Dn ?_;clear hHeld;go_wp2
 go_end0
 exact ⟨rfl,x0,xf,xC⟩
theorem cnt1_call (args:Array Value) (W:World):(callFunc 46 args).run Tryz.prog W=.ok (.enter 46 args) W:=by kernel_rfl
def cntR (c:Cd) (m:Mm):Int × Bool:=match finN c m with | some n=>((brN c (n+1) (ini m):Int),true) | none=>(0,false)
theorem cntR_no {c:Cd} {m:Mm} (h:finN c m=none):cntR c m=(0,false):=by unfold cntR;rw [h]
theorem cntR_yes {c:Cd} {m:Mm} {n:Nat} (h:finN c m=some n):cntR c m=((brN c (n+1) (ini m):Int),true):=by unfold cntR;rw [h]
theorem cnt_step (Bc X:Nat) (va vb vc u:Value) (c:Cd) (s:Ms) (n:Nat) (W:World) (hI:CI W Bc X va vb vc c s n) (hM:MsOk c (stN c n s)) (hn:n < 20000) (hXB:¬X=Bc) (hRB:∀ q,ReadB va vb vc c q→¬q=Bc) :
  Calls Tryz.prog 46 #[.int .i64 (stN c n s).pc,u,.pointer (some ⟨Bc,0,none⟩),.pointer (some ⟨X,0,none⟩)] W fun e W'=>e=.returned (.tuple #[])∧CI W' Bc X va vb vc c s (n+1)∧Chg (fun q=>q=Bc) W W':=by
 obtain ⟨k,hk⟩:∃ k:Nat,(stN c n s).pc=k:=⟨(stN c n s).pc.toNat,by have:=hM.pc0;omega⟩;have a0:k < c.list.length:=by have:=hM.pc1;omega
 have j0:opAt c s n=c.list[k].op:=by
  unfold opAt insAt
  rw [hk,Int.toNat_natCast,List.getElem?_eq_getElem a0];rfl
 have k0:=hI.rd.l;have hx:=hI.x2;obtain ⟨_,m0,aa,b0,b',d0,hv,i0,ha,g0⟩:=k0;obtain ⟨rfl,l0⟩:=ha (by omega);subst hv;have e0:=hRB b' (Or.inr (Or.inr ⟨d0,b0,by omega,rfl⟩));rw [hk];refine (cnt1_any Bc X b' d0 k b0 (brN c n s) u c W hI.c0 hI.f0 hx a0 (reads_Instr g0 k a0) (by have:=brN_le c s n;omega) e0).mono ?_;rintro e W' ⟨he,h0,h1,hC⟩;refine ⟨he,⟨?_,h1,Gc hC hx hXB,hI.rd.keep hC (fun q hq h=>hRB q hq h)⟩,hC⟩;rw [brN_succ,j0];exact h0
theorem iCount_any (va vb vc vx vy:Value) (c:Cd) (m:Mm) (w:World) (hr:ReadsC w va vb vc c) (hm:ReadsM w vx vy m) (hl:m.vals.length≤1048576) (hn:m.arrs.length≤1048576) (hp:pre2 m.arrs m.arrs.length≤1048576) :
  Calls Tryz.prog 13 #[.agg #[va,vb,vc],.agg #[vx,vy]] w fun e w'=>e=.returned (.tuple #[.int .i64 (cntR c m).1,.bool (cntR c m).2])∧Below w.heap.size w w':=by
 obtain ⟨a0,c0,a1,c1,a2,c2,rfl,rfl,rfl⟩:=hr.shape;obtain ⟨a3,c3,a4,c4,rfl,rfl⟩:=hm.shape;have o0:=hr.lt;obtain ⟨w1,f0⟩:∃ X,X=((w.alloc (.cells #[.slice a0 c.vars.length c0,.slice a1 c.arrays.length c1,.slice a2 c.list.length c2] 26)).alloc (.cells #[.slice a3 m.vals.length c3,.slice a4 m.arrs.length c4] 29)):=⟨_,rfl⟩;have i0:Below w.heap.size w w1:=by rw [f0];exact bal (bal (Bs w) _) _
 have l1:w.heap.size+2≤w1.heap.size:=by rw [f0];simp
 have n0:w1.cell? ⟨w.heap.size,0,none⟩=some (.slice a0 c.vars.length c0):=by rw [f0];exact Ac (Wc rfl rfl) _
 have n1:w1.cell? ⟨w.heap.size,1,none⟩=some (.slice a1 c.arrays.length c1):=by rw [f0];exact Ac (Wc rfl rfl) _
 have n2:w1.cell? ⟨w.heap.size,2,none⟩=some (.slice a2 c.list.length c2):=by rw [f0];exact Ac (Wc rfl rfl) _
 have mx:w1.cell? ⟨w.heap.size+1,0,none⟩=some (.slice a3 m.vals.length c3):=by rw [f0];exact Wc (by simp) rfl
 have my:w1.cell? ⟨w.heap.size+1,1,none⟩=some (.slice a4 m.arrs.length c4):=by rw [f0];exact Wc (by simp) rfl
 have HW:=Hi f0;have kn:=Lc n0;have km:=Lc mx;have h0:=iStart_any _ _ _ _ _ c m w1 (hr.below i0) (hm.below i0).x (hm.below i0).y hl hn hp;have y0:=Hi (fun W (hW:Below w1.heap.size w1 W)=>hr.below (btr i0 hW));clear f0 hm hl hn hp hr
 cases hg:goOk c m with
 | false =>
  rw [hg] at h0;have HF:=Hi (cntR_no (finN_no hg));have j0:=Hi h0;clear hg h0 o0 y0;generalize cntR c m=R at *
  go_enter Tryz.func13,Tryz.ntmps13
  go_upto_region 1 with (fail)
  rw [← HW.out];clear HW;go_wp2_with fail
  refine j0.out.mono ?_;rintro e w2 ⟨p0,n0',t0,p1,n1',t1,p2,n2',t2,rfl,_,k0⟩;have hB:=bal (btr i0 k0) (.cells #[.int .i64 0,.slice p0 n0' t0,.slice p1 n1' t1,.slice p2 n2' t2] 76);clear j0 n0 n1 n2 mx my;go_wp2
  exact bodyPost_ret (v:=.tuple #[.int .i64 0,.bool false]) (by simp [results,Tryz.results13,go_sem]) rfl (by rw [HF.out];exact ⟨rfl,hB⟩)
 | true =>
  rw [hg] at h0;have HY:=Hi (fun n (h:runR c (ini m)=some n)=>cntR_yes ((finN_yes hg).trans h));have HN:=Hi (fun (h:runR c (ini m)=none)=>cntR_no ((finN_yes hg).trans h));have w0:=Hi (ini_ok hg);have x0:=Hi (goOk_code hg);have j0:=Hi h0;clear hg h0;generalize cntR c m=R at *
  have q0:Hid ((ini m).regs=reg0∧(ini m).mem=m∧(ini m).pc=0):=Hi ⟨rfl,rfl,rfl⟩;generalize ini m=s at *
  go_enter Tryz.func13,Tryz.ntmps13
  go_upto_region 1 with (fail)
  rw [← HW.out];clear HW;go_wp2_with fail
  refine j0.out.mono ?_;rintro e w2 ⟨p0,n0',t0,p1,n1',t1,p2,n2',t2,rfl,hO,k0⟩;obtain ⟨us,OM⟩:=hO (by trivial);have iM:=OM.lt;have m1:=k0.size;obtain ⟨w4,e0⟩:∃ X,X=((w2.alloc (.cells #[.int .i64 0,.slice p0 n0' t0,.slice p1 n1' t1,.slice p2 n2' t2] 76)).alloc (.cells #[.int .i64 0] 3)):=⟨_,rfl⟩;have u0:Below w2.heap.size w2 w4:=by rw [e0];exact bal (bal (Bs w2) _) _
  have k1:w4.heap.size=w2.heap.size+1+1:=by rw [e0];simp
  have hz4l:w2.heap.size+2≤w4.heap.size:=by omega
  have hz4r:w4.heap.size≤w2.heap.size+2:=by omega
  have d0:w4.cell? ⟨w2.heap.size,0,none⟩=some (.int .i64 0):=by rw [e0];exact Ac (Wc rfl rfl) _
  have d1:w4.cell? ⟨w2.heap.size,1,none⟩=some (.slice p0 n0' t0):=by rw [e0];exact Ac (Wc rfl rfl) _
  have d2:w4.cell? ⟨w2.heap.size,2,none⟩=some (.slice p1 n1' t1):=by rw [e0];exact Ac (Wc rfl rfl) _
  have d3:w4.cell? ⟨w2.heap.size,3,none⟩=some (.slice p2 n2' t2):=by rw [e0];exact Ac (Wc rfl rfl) _
  have df:w4.frozen? ⟨w2.heap.size,0,none⟩=false:=by rw [e0];exact Fa (by simp) (Fn rfl) _
  have g0:w4.cell? ⟨w2.heap.size+1,0,none⟩=some (.int .i64 0):=by rw [e0];exact Wc (by simp) rfl
  have gf:w4.frozen? ⟨w2.heap.size+1,0,none⟩=false:=by rw [e0];exact Fn (by simp)
  have z0:=Hi e0
  have hS:OwnS w4 w1.heap.size w2.heap.size (.slice p0 n0' t0) (.slice p1 n1' t1) (.slice p2 n2' t2) us s:=by
   refine ⟨?_,d1,d2,d3,df,?_,fun h=>by have:=iM _ h;omega⟩
   ·rw [q0.out.2.2];exact d0
   rw [q0.out.1,q0.out.2.1];exact OM.below u0
  have b0:=btr k0 u0;have rc:=y0.out w4 b0
  have j1:¬(w.heap.size=w2.heap.size∨OwnMB (.slice p0 n0' t0) (.slice p1 n1' t1) (.slice p2 n2' t2) us w.heap.size):=by
   rintro (h | h)
   ·omega
   have:=iM _ h;omega
  have b1:¬(w2.heap.size+1=w2.heap.size∨OwnMB (.slice p0 n0' t0) (.slice p1 n1' t1) (.slice p2 n2' t2) us (w2.heap.size+1)):=by
   rintro (h | h)
   ·omega
   have:=iM _ h;omega
  have i1:∀ q,ReadB (.slice a0 c.vars.length c0) (.slice a1 c.arrays.length c1) (.slice a2 c.list.length c2) c q→¬(q=w2.heap.size∨OwnMB (.slice p0 n0' t0) (.slice p1 n1' t1) (.slice p2 n2' t2) us q):=fun q hq h=>by
   have h1:=o0 q hq;rcases h with h | h
   ·omega
   have:=iM _ h;omega
  have g1:∀ q,ReadB (.slice a0 c.vars.length c0) (.slice a1 c.arrays.length c1) (.slice a2 c.list.length c2) c q→¬q=w2.heap.size+1:=fun q hq h=>by
   have h1:=o0 q hq;omega
  have f1:=fun n=>stN_ok x0.out w0.out n
  have e1:=execute_any 46 #[.pointer (some ⟨w2.heap.size+1,0,none⟩),.pointer (some ⟨w.heap.size,0,none⟩)]
   (fun n W=>CI W (w2.heap.size+1) w.heap.size (.slice a0 c.vars.length c0) (.slice a1 c.arrays.length c1) (.slice a2 c.list.length c2) c s n)
   (w2.heap.size+1) w2.heap.size w1.heap.size _ _ _ _ _ _ us c s w4 cnt1_call rc hS w0.out x0.out (by omega) (fun h=>by have:=iM _ h;omega) (by omega)
   (fun q hq=>by have:=o0 q hq;exact ⟨by omega,fun h=>by have:=iM q h;omega,by omega⟩)
   ⟨g0,gf,Kc b0 n2,rc⟩
   (fun n W W' hI hC=>hI.keep hC b1 j1 i1)
   (fun n W u hn hI hN hE=>(cnt_step (w2.heap.size+1) w.heap.size _ _ _ u c s n W hI (f1 n) hn (by omega) g1).mono (fun e W' h=>⟨h.1,h.2.1,h.2.2.mono (fun q _ h=>Or.inl h)⟩))
  have v0:=Hi e1;clear e1 e0 k1 j0 hS rc OM j1 b1 i1 g1 f1;replace n0:=Kc b0 n0;replace n1:=Kc b0 n1;replace n2:=Kc b0 n2;have q1:=Lc n0;have kg:=Lc g0;have l0:=btr i0 b0;go_upto_region 5 with (fail)
  rw [← z0.out];clear z0 mx my d0 d1 d2 d3 df u0 k0;go_wp2_with fail
  refine v0.out.mono ?_;rintro e w5 ⟨rfl,s0,hC⟩;have o1:=hC.size
  have m0:=l0.trans (hC.below w.heap.size l0.size (fun q hq h=>by
   rcases h with h | h | h
   ·omega
   ·have:=iM _ h;omega
   omega))
  clear v0 hC g0 gf n0 n1 n2
  cases hR:runR c s with
  | none =>
   have r0:=Hi (HN.out hR);clear s0 hR;go_wp2
   exact bodyPost_ret (v:=.tuple #[.int .i64 0,.bool false]) (by simp [results,Tryz.results13,go_sem]) rfl (by rw [r0.out];exact ⟨rfl,m0⟩)
  | some n =>
   have r0:=Hi (HY.out n hR);obtain ⟨_,_,hI⟩:=s0 n hR;have h1:=hI.c0;have kh:=Lc h1;clear hR s0 hI;go_wp2
   exact bodyPost_ret (v:=.tuple #[.int .i64 (brN c (n+1) s),.bool true]) (by simp [results,Tryz.results13,go_sem]) rfl (by rw [r0.out];exact ⟨rfl,m0⟩)
def trw (ws:List Bool) (k:Nat):Nat:=(ws.take k).count true
theorem trw_succ (ws:List Bool) (k:Nat):trw ws (k+1)=trw ws k+(if wrAt ws k=true then 1 else 0):=by
 unfold trw wrAt
 by_cases h:k < ws.length
 ·rw [List.take_succ_eq_append_getElem h,List.count_append,List.getElem?_eq_getElem h];cases ws[k] <;> rfl
 rw [List.take_of_length_le (by omega),List.take_of_length_le (by omega),List.getElem?_eq_none (by omega)];rfl
theorem oth_fence {D:Cd} (hok:codeOk D=true) (hf:fencedAll D.list=true) {s:Ms} (hs:MsOk D s) (hb:isBr (insAt D s.pc).op=true):(insAt D (othS D s).pc).op=12:=by
 obtain ⟨k,b0⟩:∃ k:Nat,s.pc=k:=⟨s.pc.toNat,by have:=hs.pc0;omega⟩;have hk:k < D.list.length:=by have:=hs.pc1;omega
 have hi:insAt D s.pc=D.list[k]:=by rw [b0,insAt_eq hk]
 have ho:=oth_ok hok hs hb;rw [hi] at hb;obtain ⟨j,hj⟩:∃ j:Nat,(othS D s).pc=j:=⟨(othS D s).pc.toNat,by have:=ho.pc0;omega⟩;have a0:j < D.list.length:=by have:=ho.pc1;omega
 have c0:j=k+1∨j=D.list[k].b.toNat:=by
  have e:(othS D s).pc=othPc D.list[k] s.pc (stPc D.list[k] s):=by rw [← hi];rfl
  unfold othPc at e
  rw [hj,b0] at e;split at e <;> omega
 rw [hj,insAt_eq a0];have h1:=(fencedAll_iff _).1 hf j a0;have h2:=(marksOf_get D.list j a0).2 ⟨k,hk,hb,c0⟩;by_cases e:D.list[j].op=12
 ·exact e
 have:=(needAt_iff D.list j a0).2 ⟨h2,e⟩
 rw [h1] at this;cases this
theorem path_fence {D:Cd} {s:Ms} (h:(insAt D s.pc).op=12):pathE D s=[(5,s.pc)]:=by
 rw [path_some (n:=0) (by omega) (fun j hj=>by omega) (by unfold stopAt opAt;rw [show stN D 0 s=s from rfl,h];rfl),evN_one,stEvs_acc];unfold accE
 rw [h];rfl
theorem spN_fenced {D:Cd} (hok:codeOk D=true) (hf:fencedAll D.list=true) (ws:List Bool) {s:Ms} (hs:MsOk D s):∀ n,(spN D ws n s).length=(evN D n s).length+trw ws (brN D n s)∧prj (spN D ws n s)=prj (evN D n s):=by
 intro n
 induction n with
 | zero=>exact ⟨by simp [spN,evN,brN,trw],rfl⟩
 | succ n ih =>
  obtain ⟨h1,h2⟩:=ih;have ho:=stN_ok hok hs n;simp only [spN,evN,brN,List.length_append,prj_app];rw [h1,h2];unfold spX opAt
  by_cases hb:isBr (insAt D (stN D n s).pc).op=true
  ·rw [if_pos hb,if_pos hb,trw_succ];by_cases hw:wrAt ws (brN D n s)=true
   ·rw [if_pos hw,if_pos hw,path_fence (oth_fence hok hf ho hb)];exact ⟨by simp;omega,by simp [prj,wi]⟩
   rw [if_neg hw,if_neg hw];exact ⟨by simp;omega,by simp [prj]⟩
  rw [if_neg hb,if_neg hb];exact ⟨by simp;omega,by simp [prj]⟩
theorem law_specfenced {c D:Cd} (h:fenceR c=(D,true)) (m:Mm) (ws:List Bool):∃ k:Nat,cntR D m=((k:Int),runB D m)∧k≤20000∧(runB D m=true→(srE D m ws).length=(runE D m).length+trw ws k∧prj (srE D m ws)=prj (runE D m)):=by
 by_cases hc:codeOk c=true∧cnt c.list c.list.length≤400
 ·have hD:D=fenceC c:=by rw [fenceR_yes hc] at h;exact (congrArg Prod.fst h).symm
  have a0:codeOk D=true:=by rw [hD];exact fence_ok hc
  have hf:fencedAll D.list=true:=by rw [hD];exact fence_fenced hc.1
  clear hD
  cases hn:finN D m with
  | none=>exact ⟨0,by rw [cntR_no hn,(run_no hn).2.2];rfl,by omega,fun hp=>by rw [(run_no hn).2.2] at hp;cases hp⟩
  | some n =>
   have hg:=(finN_iff.1 hn).1;have hl:=finN_lt hn;have hb:=brN_le D (ini m) (n+1);refine ⟨brN D (n+1) (ini m),by rw [cntR_yes hn,(run_yes hn).2.2],by omega,fun _=>?_⟩;rw [(sr_yes hn).1,(run_yes hn).1];exact spN_fenced a0 hf ws (ini_ok hg) _
 rw [fenceR_no hc] at h;cases congrArg Prod.snd h
end Go.Proofs.YtnpidfbcbmeijaaGreat
