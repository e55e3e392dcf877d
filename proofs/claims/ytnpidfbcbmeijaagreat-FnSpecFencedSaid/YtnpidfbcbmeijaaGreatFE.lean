/-
 Parts of the proofs of the laws FnRemoveDead,FnRemoveDeadLeak,FnSpecFenced,FnSpecMemory.
-/
import Derived.Test.YtnpidfbcbmeijaaGreatNB
set_option maxHeartbeats 12800000
set_option maxRecDepth 100000
set_option linter.all false
namespace Go.Proofs.YtnpidfbcbmeijaaGreat
open Go.RowKit
theorem isBranch_any (op a b c d:Int) (w:World) :
  Calls Tryz.prog 44 #[.agg #[.int .i64 op,.int .i64 a,.int .i64 b,.int .i64 c,.int .i64 d]] w fun e w'=>e=.returned (.bool (isBr op))∧Below w.heap.size w w':=by
 have hc:(op == 9)=true∨((op == 9)=false∧((op == 10)=true∨(op == 10)=false)):=by
  cases (op == 9) <;> cases (op == 10) <;> simp
 have a0:=bal (Bs w) (.cells #[.int .i64 op,.int .i64 a,.int .i64 b,.int .i64 c,.int .i64 d] 62);rcases hc with h | ⟨h,h2 | h2⟩
 ·have HB:Hid (isBr op=true):=Hi (by unfold isBr;rw [h];rfl);go_enter Tryz.func44,Tryz.ntmps44
  go_wp2
  go_ret
  exact ⟨ret_bool HB.out.symm,a0⟩
 ·have HB:Hid (isBr op=true):=Hi (by unfold isBr;rw [h,h2];rfl);go_enter Tryz.func44,Tryz.ntmps44
  go_wp2
  go_ret
  exact ⟨ret_bool HB.out.symm,a0⟩
 have HB:Hid (isBr op=false):=Hi (by unfold isBr;rw [h,h2];rfl);go_enter Tryz.func44,Tryz.ntmps44
 go_wp2
 go_ret
 exact ⟨ret_bool HB.out.symm,a0⟩
theorem l11Branch_any (op a b c d:Int) (w:World) :
  Calls Tryz.prog 77 #[.agg #[.int .i64 op,.int .i64 a,.int .i64 b,.int .i64 c,.int .i64 d]] w fun e w'=>e=.returned (.bool (isBr op))∧Below w.heap.size w w':=by
 have hc:(op == 9)=true∨((op == 9)=false∧((op == 10)=true∨(op == 10)=false)):=by
  cases (op == 9) <;> cases (op == 10) <;> simp
 have a0:=bal (Bs w) (.cells #[.int .i64 op,.int .i64 a,.int .i64 b,.int .i64 c,.int .i64 d] 62);rcases hc with h | ⟨h,h2 | h2⟩
 ·have HB:Hid (isBr op=true):=Hi (by unfold isBr;rw [h];rfl);go_enter Tryz.func77,Tryz.ntmps77
  go_wp2
  go_ret
  exact ⟨ret_bool HB.out.symm,a0⟩
 ·have HB:Hid (isBr op=true):=Hi (by unfold isBr;rw [h,h2];rfl);go_enter Tryz.func77,Tryz.ntmps77
  go_wp2
  go_ret
  exact ⟨ret_bool HB.out.symm,a0⟩
 have HB:Hid (isBr op=false):=Hi (by unfold isBr;rw [h,h2];rfl);go_enter Tryz.func77,Tryz.ntmps77
 go_wp2
 go_ret
 exact ⟨ret_bool HB.out.symm,a0⟩
theorem brN_le (c:Cd) (s:Ms) (n:Nat):brN c n s≤n:=by
 induction n with
 | zero=>simp [brN]
 | succ n ih=>simp only [brN];split <;> omega
theorem iMOwn_any (vr vx vy:Value) (s:Ms) (w:World) (hs:ReadsS w vr vx vy s) (h0:s.regs.length≤1048576) (hl:s.mem.vals.length≤1048576) (hn:s.mem.arrs.length≤1048576) (hp:pre2 s.mem.arrs s.mem.arrs.length≤1048576) :
  Calls Tryz.prog 82 #[.agg #[.int .i64 s.pc,vr,vx,vy]] w fun e w'=>∃ ur ux uy us,e=.returned (.agg #[.int .i64 s.pc,ur,ux,uy])∧OwnMv w' w.heap.size ur ux uy us s.regs s.mem∧Below w.heap.size w w':=by
 obtain ⟨a5,c5,rfl⟩:=reads_shape hs.r;obtain ⟨a3,c3,a4,c4,rfl,rfl⟩:=hs.m.shape;have HS:=Hi (fun W (hW:Below w.heap.size w W)=>hs.below hW);have i1:=Hi (fun W (hW:Below w.heap.size w W)=>memOwn_any _ _ s.mem W (HS.out W hW).m.x (HS.out W hW).m.y hl hn hp);clear hs;go_enter Tryz.func82,Tryz.ntmps82
 go_upto_region 1 with (fail)
 obtain ⟨w1,o0,hb⟩:=nmw (World.alloc (World.alloc w (.cells #[.int .i64 s.pc,.slice a5 s.regs.length c5,.slice a3 s.mem.vals.length c3,.slice a4 s.mem.arrs.length c4] 76)) (.cells #[.int .i64 0,.slice none 0 0,.slice none 0 0,.slice none 0 0] 76));have q0:=hb.size;simp only [Sa] at q0;have l0:Bk w1 (w.heap.size) [.int .i64 s.pc,.slice a5 s.regs.length c5,.slice a3 s.mem.vals.length c3,.slice a4 s.mem.arrs.length c4]:=Bb (Bk.al (Bk.nw (by simp) rfl) (.cells #[.int .i64 0,.slice none 0 0,.slice none 0 0,.slice none 0 0] 76)) hb;have j0:Bk w1 (w.heap.size+1) [.int .i64 0,.slice none 0 0,.slice none 0 0,.slice none 0 0]:=Bb (Bk.nw (by simp) rfl) hb;have k0:=btr (bal (bal (Bs w) (.cells #[.int .i64 s.pc,.slice a5 s.regs.length c5,.slice a3 s.mem.vals.length c3,.slice a4 s.mem.arrs.length c4] 76)) (.cells #[.int .i64 0,.slice none 0 0,.slice none 0 0,.slice none 0 0] 76)) hb;clear hb;rw [← o0];clear o0;have r1:=Bk.lz l0;have s1:=Bk.lz j0;obtain ⟨e0,m0,f0,n0,a0,c0,b0,d0⟩:=Bk.f4 l0 0 1 2 3 rfl rfl rfl rfl;refine wp_region_noPanic ?_;refine wp_region_held_drew (S:=(fun W'=>W'.cell? ⟨w.heap.size,0,none⟩=some (.int .i64 s.pc)∧W'.cell? ⟨w.heap.size,1,none⟩=some (.slice a5 s.regs.length c5)∧W'.cell? ⟨w.heap.size,2,none⟩=some (.slice a3 s.mem.vals.length c3)∧W'.cell? ⟨w.heap.size,3,none⟩=some (.slice a4 s.mem.arrs.length c4))) (by kernel_rfl) ⟨Kc (Bd (Bs w1)) e0,Kc (Bd (Bs w1)) f0,Kc (Bd (Bs w1)) a0,Kc (Bd (Bs w1)) b0⟩ (fun hHeld=>?_);obtain ⟨w2,r0⟩:∃ X,X=World.drew w1:=⟨_,rfl⟩;rw [← r0] at hHeld ⊢;have hb:Below w1.heap.size w1 w2:=by rw [r0];exact Bd (Bs _)
 clear r0;have f1:=hb.size;replace m0:=Kf hb (Lc e0) m0;replace n0:=Kf hb (Lc f0) n0;replace c0:=Kf hb (Lc a0) c0;replace d0:=Kf hb (Lc b0) d0;replace e0:=Kc hb e0;replace f0:=Kc hb f0;replace a0:=Kc hb a0;replace b0:=Kc hb b0;replace l0:=Bb l0 hb;replace j0:=Bb j0 hb;replace k0:=btr k0 hb;clear hb;refine (tq 0 3 rfl rfl ?_ ?_ (tq 1 4 rfl rfl ?_ ?_ (tq 2 5 rfl rfl ?_ ?_ (tq 3 6 rfl rfl ?_ ?_ (tq 5 8 rfl rfl ?_ ?_ (tq 6 9 rfl rfl ?_ ?_ ?_))))));iterate 6 (rotate_left;intro W' hSw;(try dsimp only at hSw);go_simp;try with_reducible rfl)
 try simp only [Ep]
 refine Rdy 4 rfl (fun K hK=>?_);go_simp
 refine (clone_any _ s.regs _ (HS.out _ k0).r (by omega)).mono ?_;rintro e w3 ⟨ur,rfl,oR,hb⟩;obtain ⟨pr,tr,rfl⟩:=Oh oR;have g1:=hb.size;replace m0:=Kf hb (Lc e0) m0;replace n0:=Kf hb (Lc f0) n0;replace c0:=Kf hb (Lc a0) c0;replace d0:=Kf hb (Lc b0) d0;replace e0:=Kc hb e0;replace f0:=Kc hb f0;replace a0:=Kc hb a0;replace b0:=Kc hb b0;replace l0:=Bb l0 hb;replace j0:=Bb j0 hb;replace k0:=btr k0 hb;clear hb;have g0:=oR.lt;refine hK.out _ _ ⟨e0,f0,a0,b0⟩ (fun hHeld=>?_);clear hK K;try simp only [Ep]
 refine Rdy 7 rfl (fun K hK=>?_);go_simp
 refine (i1.out _ k0).mono ?_;rintro e w4 ⟨ux,uy,us,rfl,ox,oy,e1,hb⟩;obtain ⟨px,tx,rfl⟩:=Oh ox;obtain ⟨py,ty,rfl⟩:=Oh oy.out;have oM:OwnM w4 _ _ _ _ s.mem:=⟨ox,oy,e1⟩;clear ox oy e1;have h1:=hb.size;replace m0:=Kf hb (Lc e0) m0;replace n0:=Kf hb (Lc f0) n0;replace c0:=Kf hb (Lc a0) c0;replace d0:=Kf hb (Lc b0) d0;replace e0:=Kc hb e0;replace f0:=Kc hb f0;replace a0:=Kc hb a0;replace b0:=Kc hb b0;replace oR:=Ob oR hb;replace l0:=Bb l0 hb;replace j0:=Bb j0 hb;replace k0:=btr k0 hb;clear hb;have i0:=oM.lt;refine hK.out _ _ ⟨e0,f0,a0,b0⟩ (fun hHeld=>?_);clear hK K;try simp only [Ep]
 refine (tq 8 11 rfl rfl (.agg #[.int .i64 s.pc,.slice pr s.regs.length tr,.slice px s.mem.vals.length tx,.slice py s.mem.arrs.length ty]) (fun W' _=>by kernel_rfl) ?_);try simp only [Ep]
 refine Rdy 9 rfl (fun K hK=>?_);obtain ⟨s0,a1,t0,b1,u0,c1,v0,d1⟩:=Bk.f4 j0 0 1 2 3 rfl rfl rfl rfl;go_simp
 obtain ⟨w5,o0,hb⟩:=nmw (World.setCell (World.setCell (World.setCell (World.setCell w4 ⟨w.heap.size+1,0,none⟩ (.int .i64 s.pc)) ⟨w.heap.size+1,1,none⟩ (.slice pr s.regs.length tr)) ⟨w.heap.size+1,2,none⟩ (.slice px s.mem.vals.length tx)) ⟨w.heap.size+1,3,none⟩ (.slice py s.mem.arrs.length ty));have p0:=hb.size;simp only [Ss] at p0;clear a1 s0 b1 t0 c1 u0 d1 v0;replace m0:=Kf hb (Lc (Nn (Nn (Nn (Nn e0 _) _) _) _)) (Fs (Fs (Fs (Fs m0 _) _) _) _);replace n0:=Kf hb (Lc (Nn (Nn (Nn (Nn f0 _) _) _) _)) (Fs (Fs (Fs (Fs n0 _) _) _) _);replace c0:=Kf hb (Lc (Nn (Nn (Nn (Nn a0 _) _) _) _)) (Fs (Fs (Fs (Fs c0 _) _) _) _);replace d0:=Kf hb (Lc (Nn (Nn (Nn (Nn b0 _) _) _) _)) (Fs (Fs (Fs (Fs d0 _) _) _) _);replace e0:=Kc hb (Nn (Nn (Nn (Nn e0 _) _) _) _);replace f0:=Kc hb (Nn (Nn (Nn (Nn f0 _) _) _) _);replace a0:=Kc hb (Nn (Nn (Nn (Nn a0 _) _) _) _);replace b0:=Kc hb (Nn (Nn (Nn (Nn b0 _) _) _) _);replace oR:=Ob (Oe (Oe (Oe (Oe oR _ _ (fun h=>by have:=g0 _ h;omega) _) _ _ (fun h=>by have:=g0 _ h;omega) _) _ _ (fun h=>by have:=g0 _ h;omega) _) _ _ (fun h=>by have:=g0 _ h;omega) _) hb;replace oM:=((((oM.keep (C1 _ _ _) (fun gq h h2=>by have:=i0 gq h;omega)).keep (C1 _ _ _) (fun gq h h2=>by have:=i0 gq h;omega)).keep (C1 _ _ _) (fun gq h h2=>by have:=i0 gq h;omega)).keep (C1 _ _ _) (fun gq h h2=>by have:=i0 gq h;omega)).below hb;replace l0:=Bb (Bk.nn (Bk.nn (Bk.nn (Bk.nn l0 _) _) _) _) hb;replace j0:Bk w5 (w.heap.size+1) [.int .i64 s.pc,.slice pr s.regs.length tr,.slice px s.mem.vals.length tx,.slice py s.mem.arrs.length ty]:=Bb (Bk.at (Bk.at (Bk.at (Bk.at j0 0 (.int .i64 s.pc)) 1 (.slice pr s.regs.length tr)) 2 (.slice px s.mem.vals.length tx)) 3 (.slice py s.mem.arrs.length ty)) hb;replace k0:=btr (bst (bst (bst (bst k0 (w.heap.size+1) 0 (by omega) (.int .i64 s.pc)) (w.heap.size+1) 1 (by omega) (.slice pr s.regs.length tr)) (w.heap.size+1) 2 (by omega) (.slice px s.mem.vals.length tx)) (w.heap.size+1) 3 (by omega) (.slice py s.mem.arrs.length ty)) hb;clear hb;rw [← o0];clear o0;refine hK.out _ _ ⟨e0,f0,a0,b0⟩ (fun hHeld=>?_);clear hK K;try simp only [Ep]
 refine Dn ?_;clear hHeld;have OM:OwnMv w5 w.heap.size (.slice pr s.regs.length tr) (.slice px s.mem.vals.length tx) (.slice py s.mem.arrs.length ty) us s.regs s.mem:=⟨Om oR (by omega),Om oM.x (by omega),oM.y.mono (by omega),fun q h h2=>by have:=g0 q h;have:=i0 q (Or.inl h2);omega,fun q h h2=>by have:=g0 q h;have:=i0 q (Or.inr h2);omega,oM.ap⟩;obtain ⟨w0,j1,x0,k1,y0,l1,z0,m1⟩:=Bk.f4 j0 0 1 2 3 rfl rfl rfl rfl;have n1:=w0;have o1:=x0;have p1:=y0;have q1:=z0;have tt:=k0;go_wp2
 exact bodyPost_ret (v:=.agg #[.int .i64 s.pc,.slice pr s.regs.length tr,.slice px s.mem.vals.length tx,.slice py s.mem.arrs.length ty]) (by simp [results,Tryz.results82,go_sem,n1,o1,p1,q1]) rfl (by exact ⟨_,_,_,us,rfl,OM,tt⟩)
theorem path_some {c:Cd} {s:Ms} {n:Nat} (h1:n < 4) (h2:∀ j,j < n→stopAt c s j=false) (h3:stopAt c s n=true):pathE c s=evN c (n+1) s:=by
 have h:=fstH_some (p:=stopAt c s) 4 0 n h1 (fun j hj=>by rw [Nat.zero_add];exact h2 j hj) (by rw [Nat.zero_add];exact h3);unfold pathE pathN;rw [h,Nat.zero_add]
theorem path_none {c:Cd} {s:Ms} (h:∀ j,j < 4→stopAt c s j=false):pathE c s=evN c 4 s:=by
 have h:=fstH_none (p:=stopAt c s) 4 0 (fun j hj=>by rw [Nat.zero_add];exact h j hj);unfold pathE pathN;rw [h]
theorem pathE_len (c:Cd) (s:Ms):(pathE c s).length≤8:=by
 unfold pathE
 have h:=evN_len c s (pathN c s)
 have h2:pathN c s≤4:=by
  unfold pathN
  have hf:∀ (p:Nat→Bool) (f k n:Nat),fstH p f k=some n→n < k+f:=by
   intro p f
   induction f with
   | zero=>intro k n h;cases h
   | succ f ih =>
    intro k n h;rw [fstH] at h;split at h
    ·have:=Si h;omega
    have:=ih _ _ h;omega
  cases e:fstH (stopAt c s) 4 0 with
  | none=>exact Lr
  | some n=>have:=hf _ _ _ _ e;simp only;omega
 omega
theorem iPath_any (va vb vc vr vx vy:Value) (c:Cd) (s:Ms) (w:World) (hr:ReadsC w va vb vc c) (hs:ReadsS w vr vx vy s) (h0:s.regs.length≤1048576) (hl:s.mem.vals.length≤1048576) (hn:s.mem.arrs.length≤1048576) (hp:pre2 s.mem.arrs s.mem.arrs.length≤1048576) (hM:MsOk c s) (hok:codeOk c=true) :
  Calls Tryz.prog 45 #[.agg #[va,vb,vc],.agg #[.int .i64 s.pc,vr,vx,vy]] w fun e w'=>∃ u,e=.returned u∧w'.ownsRow w.heap.size 84 2 u (pathE c s).length (evs (pathE c s))∧Below w.heap.size w w':=by
 obtain ⟨a0,c0,a1,c1,a2,c2,rfl,rfl,rfl⟩:=hr.shape;obtain ⟨a5,c5,rfl⟩:=reads_shape hs.r;obtain ⟨a3,c3,a4,c4,rfl,rfl⟩:=hs.m.shape;have HR:=Hi (fun W (hW:Below w.heap.size w W)=>hr.below hW);have m2:=Hi (fun W (hW:Below w.heap.size w W)=>iMOwn_any _ _ _ s W (hs.below hW) h0 hl hn hp);have p2:=Hi (fun n=>stN_ok hok hM n);have l2:=Hi hok;have r1:=Hi (fun n h1 h2 h3=>path_some (c:=c) (s:=s) (n:=n) h1 h2 h3);have n2:=Hi (fun h=>path_none (c:=c) (s:=s) h);have m3:=(codeOk_len hok).1;clear hr hs h0 hl hn hp hM hok;generalize pathE c s=PE at *
 go_enter Tryz.func45,Tryz.ntmps45
 go_wp2_with fail
 refine (m2.out _ (bal (bal (Bs w) (.cells #[.slice a0 c.vars.length c0,.slice a1 c.arrays.length c1,.slice a2 c.list.length c2] 26)) (.cells #[.int .i64 s.pc,.slice a5 s.regs.length c5,.slice a3 s.mem.vals.length c3,.slice a4 s.mem.arrs.length c4] 76))).mono ?_;rintro e w1 ⟨ur,ux,uy,us,rfl,OM,hb⟩;obtain ⟨pr,tr,rfl⟩:=Oh OM.r;obtain ⟨px,tx,rfl⟩:=Oh OM.v;obtain ⟨py,ty,rfl⟩:=Oh OM.a.out;have o1:=hb.size;simp only [Sa] at o1;have j0:w1.cell? ⟨w.heap.size,0,none⟩=some (.slice a0 c.vars.length c0):=Kc hb (Ac (Wc (by simp) (by rfl)) _);have q0:w1.cell? ⟨w.heap.size,1,none⟩=some (.slice a1 c.arrays.length c1):=Kc hb (Ac (Wc (by simp) (by rfl)) _);have r0:w1.cell? ⟨w.heap.size,2,none⟩=some (.slice a2 c.list.length c2):=Kc hb (Ac (Wc (by simp) (by rfl)) _);have r2:w1.cell? ⟨w.heap.size+1,0,none⟩=some (.int .i64 s.pc):=Kc hb (Wc (by simp) (by rfl));have s2:w1.cell? ⟨w.heap.size+1,1,none⟩=some (.slice a5 s.regs.length c5):=Kc hb (Wc (by simp) (by rfl));have t2:w1.cell? ⟨w.heap.size+1,2,none⟩=some (.slice a3 s.mem.vals.length c3):=Kc hb (Wc (by simp) (by rfl));have v2:w1.cell? ⟨w.heap.size+1,3,none⟩=some (.slice a4 s.mem.arrs.length c4):=Kc hb (Wc (by simp) (by rfl));have k0:=btr (bal (bal (Bs w) (.cells #[.slice a0 c.vars.length c0,.slice a1 c.arrays.length c1,.slice a2 c.list.length c2] 26)) (.cells #[.int .i64 s.pc,.slice a5 s.regs.length c5,.slice a3 s.mem.vals.length c3,.slice a4 s.mem.arrs.length c4] 76)) hb;clear hb;clear r2 s2 t2 v2;have g3:=Lc j0;have s0:=OM.lt;try simp only [Sa] at s0
 go_upto_region 2 with (fail)
 obtain ⟨w2,f2,hb⟩:=nmw (World.alloc w1 (.cells #[.int .i64 s.pc,.slice pr s.regs.length tr,.slice px s.mem.vals.length tx,.slice py s.mem.arrs.length ty] 76));have b1:=hb.size;simp only [Sa] at b1;replace j0:=Kc hb (Ac j0 _);replace q0:=Kc hb (Ac q0 _);replace r0:=Kc hb (Ac r0 _);replace OM:=(OM.below (bal (Bs _) _)).below hb;have p0:w2.cell? ⟨w1.heap.size,0,none⟩=some (.int .i64 s.pc):=Kc hb (Wc (by simp) (by rfl));have w0:w2.frozen? ⟨w1.heap.size,0,none⟩=false:=Kf hb (by simp <;> omega) (Fn (by simp));have x0:w2.cell? ⟨w1.heap.size,1,none⟩=some (.slice pr s.regs.length tr):=Kc hb (Wc (by simp) (by rfl));have j1:w2.frozen? ⟨w1.heap.size,1,none⟩=false:=Kf hb (by simp <;> omega) (Fn (by simp));have y0:w2.cell? ⟨w1.heap.size,2,none⟩=some (.slice px s.mem.vals.length tx):=Kc hb (Wc (by simp) (by rfl));have k1:w2.frozen? ⟨w1.heap.size,2,none⟩=false:=Kf hb (by simp <;> omega) (Fn (by simp));have z0:w2.cell? ⟨w1.heap.size,3,none⟩=some (.slice py s.mem.arrs.length ty):=Kc hb (Wc (by simp) (by rfl));have l1:w2.frozen? ⟨w1.heap.size,3,none⟩=false:=Kf hb (by simp <;> omega) (Fn (by simp));replace k0:=btr (bal k0 _) hb;clear hb;rw [← f2];clear f2;replace g3:=Lc j0;have d3:=Lc p0;have y1:OwnS w2 w.heap.size (w1.heap.size) (.slice pr s.regs.length tr) (.slice px s.mem.vals.length tx) (.slice py s.mem.arrs.length ty) us (stN c 0 s):=⟨p0,x0,y0,z0,w0,OM.mono (by simp only [Sa];omega),fun h=>by have:=s0 _ h;omega⟩;have iM:=s0;have s1:=Hi y1;have HT:=Hi k0;have l3:w.heap.size+2≤w1.heap.size∧w1.heap.size < w2.heap.size:=by omega
 have q1:=Hi (fun q (h:OwnMB (.slice pr s.regs.length tr) (.slice px s.mem.vals.length tx) (.slice py s.mem.arrs.length ty) us q)=>(show w.heap.size+2≤q∧q < w2.heap.size∧¬q=w1.heap.size from by have:=iM q h;omega));clear iM;clear y1 k0 OM p0 w0 x0 j1 y0 k1 z0 l1;go_wp2_with fail
 go_loopw [6,10] (fun u t wr=>∃ n:Nat,n≤4∧t=.int .i64 n∧OwnS wr w.heap.size (w1.heap.size) (.slice pr s.regs.length tr) (.slice px s.mem.vals.length tx) (.slice py s.mem.arrs.length ty) us (stN c n s)∧wr.ownsRow w.heap.size 84 2 u (evN c n s).length (evs (evN c n s))∧(∀ q,u.ownBlock=some q→w.heap.size+2≤q∧¬q=w1.heap.size∧¬OwnMB (.slice pr s.regs.length tr) (.slice px s.mem.vals.length tx) (.slice py s.mem.arrs.length ty) us q)∧Hid (∀ j,j < n→stopAt c s j=false)∧Below (w.heap.size+2) w2 wr) (fun _ t _=>4-(intOf t).toNat)
 case atStart=>exact ⟨0,by omega,rfl,s1.out,World.ownsRow_nil _ _ _ _,fun q h=>by simp [Value.ownBlock] at h,Hi (fun j h=>by omega),Below.refl _ _⟩
 case round =>
  obtain ⟨n,o3,rfl,hS,hE,o0,d1,hB⟩:=hrel;clear s1;obtain ⟨pu,tu,rfl⟩:=Oh hE;have r3:=hB.size;have i0:=HT.out.trans (hB.mono (by omega:w.heap.size≤w.heap.size+2));have f0:∀ b0 j v,b0 < w.heap.size+2→w2.cell? ⟨b0,j,none⟩=some v→wr.cell? ⟨b0,j,none⟩=some v:=fun b0 j v h h2=>(hB.cell (p:=⟨b0,j,none⟩) h).trans h2
  replace j0:=f0 _ _ _ (by omega) j0;replace q0:=f0 _ _ _ (by omega) q0;replace r0:=f0 _ _ _ (by omega) r0;clear f0;by_cases hlt:n < 4
  ·have g1:=p2.out n;obtain ⟨k,hk⟩:∃ k:Nat,(stN c n s).pc=k:=⟨(stN c n s).pc.toNat,by have:=g1.pc0;omega⟩;have e2:k < c.list.length:=by have:=g1.pc1;omega
   have f1:Hid (opAt c s n=c.list[k].op):=Hi (by unfold opAt insAt;rw [hk,Int.toNat_natCast,List.getElem?_eq_getElem e2];rfl);have z2:=(HR.out wr i0).l;obtain ⟨_,hn,aa,k3,b0,s3,hv,y2,ha,d2⟩:=z2;simp only [Value.slice.injEq,true_and] at hv;obtain ⟨rfl,rfl⟩:=hv;obtain ⟨rfl,x2⟩:=ha (by omega);obtain ⟨e0,_⟩:=reads_Instr d2 k e2;have ke:=Lc e0;have p3:(k:Int) < (c.list.length:Int):=by omega
   have n3:=evN_len c s n;clear d2 ha x2;have d0:wr.cell? ⟨w1.heap.size,0,none⟩=some (.int .i64 (k:Int)):=by rw [← hk];exact hS.c0
   clear hk;obtain ⟨x,HX⟩:∃ x:Ins,Hid (x=c.list[k]):=⟨c.list[k],Hi rfl⟩;rw [← HX.out] at e0 f1;have q2:=Hi (step_any (w1.heap.size) w.heap.size _ _ _ _ _ _ us c (stN c n s) wr (HR.out wr i0) hS g1 l2.out);have i3:=Hi (evN_len c s n);have j3:=Hi hS.lt;clear g1 hS;have e3:=Lc d0;go_upto_region 6 with (fail)
   clear d0 e0;have iS:∀ q,(q=w1.heap.size∨OwnMB (.slice pr s.regs.length tr) (.slice px s.mem.vals.length tx) (.slice py s.mem.arrs.length ty) us q)→w.heap.size+2≤q∧q < wr.heap.size:=by rintro q (h | h);omega;(have:=q1.out q h;have:=hB.size;omega)
   have iE:=hE.lt;have b2:∀ q,(Value.slice pu (evN c n s).length tu).ownBlock=some q→(q=w1.heap.size∨OwnMB (.slice pr s.regs.length tr) (.slice px s.mem.vals.length tx) (.slice py s.mem.arrs.length ty) us q)→False:=fun q h h2=>by rcases h2 with h2 | h2;exact (o0 q h).2.1 h2;exact (o0 q h).2.2 h2
   go_wp2_with fail
   refine (q2.out).mono ?_;rintro e w3 ⟨u2,rfl,oU,m1,hC⟩;obtain ⟨pv,tv,rfl⟩:=Oh oU;have t1:Below (w.heap.size+2) w2 w3:=hB.trans (hC.below (w.heap.size+2) (by omega) (fun q hq h=>by have:=iS q h;omega));have g2:=hC.size;replace j0:=Gc hC j0 (fun h=>by have:=iS _ h;omega);replace q0:=Gc hC q0 (fun h=>by have:=iS _ h;omega);replace r0:=Gc hC r0 (fun h=>by have:=iS _ h;omega);replace hE:=Ow hE hC (fun gq h h2=>b2 gq h h2);replace k0:=i0.trans (hC.below w.heap.size (by have:=i0.size;omega) (fun gq hgq h=>by have:=iS gq h;omega));clear hC;clear j0 q0 r0;have p1:=oU.lt;have q3:=(stEvs_len (insAt c (stN c n s).pc) (stN c n s)).1;have hS2b:=m1;go_wp2_with (at_builtin;refine wpList_aps tEvs rfl _ _ rfl (w.heap.size) _ ((evN c n s).length) (evs (evN c n s)) rfl hE _ ((stEvs (insAt c (stN c n s).pc) (stN c n s)).length) (evs (stEvs (insAt c (stN c n s).pc) (stN c n s))) rfl (Ro oU (by omega)) (one_evs (stEvs (insAt c (stN c n s).pc) (stN c n s))) (by omega) (by first | omega | (simp only [Sa,Ss];omega)) ?_)
   intro vA w4 g0 hc x1 _;obtain ⟨m0,n0,rfl⟩:=Oh g0;have u1:Below (w.heap.size+2) w2 w4:=t1.trans (hc.below (w.heap.size+2) (by omega) (fun q hq h=>by have:=o0 q h;omega));have z1:=m1.keep hc (fun h=>(o0 _ h).2.1 rfl) (fun q h h2=>(o0 q h2).2.2 h);have v1:=x1;clear m1 hS2b t1;have i2:=hc.size;replace oU:=Ow oU hc (fun gq h h2=>by have:=p1 gq h;have:=iE gq h2;omega);replace k0:=k0.trans (hc.below w.heap.size (by have:=k0.size;omega) (fun gq hgq h=>by have:=iE gq h;omega));clear hc;have b3:=g0.lt;clear x1 hE;rw [← evs_append] at g0;have n1:(evN c n s++stEvs (insAt c (stN c n s).pc) (stN c n s)).length=(evN c n s).length+(stEvs (insAt c (stN c n s).pc) (stN c n s)).length:=List.length_append;have u0:Hid (w4.ownsRow w.heap.size 84 2 (.slice m0 ((evN c n s).length+(stEvs (insAt c (stN c n s).pc) (stN c n s)).length) n0) (evN c (n+1) s).length (evs (evN c (n+1) s))):=Hi (by have h:=g0;rw [← n1] at h;rw [← n1];exact h);have k2:Hid (∀ q,(Value.slice m0 ((evN c n s).length+(stEvs (insAt c (stN c n s).pc) (stN c n s)).length) n0).ownBlock=some q→w.heap.size+2≤q∧¬q=w1.heap.size∧¬OwnMB (.slice pr s.regs.length tr) (.slice px s.mem.vals.length tx) (.slice py s.mem.arrs.length ty) us q):=Hi (fun q h=>by rcases v1 with e | ⟨g,hg1,hg2⟩;(rw [e] at h;exact o0 q h);(rw [hg1] at h;have e1:=Si h;have:=hB.size;exact ⟨by omega,by omega,fun h2=>by have:=q1.out q h2;omega⟩));clear v1 n1 g0 o0 iE b2 iS;have o2:=Hi z1;clear z1;by_cases l0:x.op=12
   ·have l0:(x.op == 12)=true:=by simp [l0]
    have v0:=Hi (r1.out n hlt d1.out (by unfold stopAt;rw [f1.out,l0];rfl));have tt:=k0;go_wp2
    exact bodyPost_ret (v:=.slice m0 ((evN c n s).length+(stEvs (insAt c (stN c n s).pc) (stN c n s)).length) n0) (by simp [results,Tryz.results45,go_sem]) rfl (by exact by rw [v0.out];exact ⟨_,rfl,u0.out,tt⟩)
   by_cases t0:x.op=13
   ·have l0:(x.op == 12)=false:=by simp [l0]
    have t0:(x.op == 13)=true:=by simp [t0]
    have v0:=Hi (r1.out n hlt d1.out (by unfold stopAt;rw [f1.out,l0,t0];rfl));have tt:=k0;go_wp2
    exact bodyPost_ret (v:=.slice m0 ((evN c n s).length+(stEvs (insAt c (stN c n s).pc) (stN c n s)).length) n0) (by simp [results,Tryz.results45,go_sem]) rfl (by exact by rw [v0.out];exact ⟨_,rfl,u0.out,tt⟩)
   have l0:(x.op == 12)=false:=by simp [l0]
   have t0:(x.op == 13)=false:=by simp [t0]
   have i1:Hid (∀ j,j < n+1→stopAt c s j=false):=Hi (fun j hj=>by by_cases e:j=n;(subst e;unfold stopAt;rw [f1.out,l0,t0];rfl);exact d1.out j (by omega));have j2:=Hi u1;clear u1;go_wp2
   go_roundw
   case rel=>exact ⟨n+1,by omega,by go_num,o2.out,u0.out,k2.out,i1,j2.out⟩
   case measure=>simp [intOf];omega
  have en:n=4:=by omega
  subst en;have v0:=Hi (n2.out d1.out);have u0:=Hi hE;clear hE hS o0;have f3:=Lc j0;have tt:=i0;go_wp2
  exact bodyPost_ret (v:=.slice pu ((evN c 4 s).length) tu) (by simp [results,Tryz.results45,go_sem]) rfl (by exact by rw [v0.out];exact ⟨_,rfl,u0.out,tt⟩)
theorem spX_len (c:Cd) (ws:List Bool) (s:Ms) (n:Nat):(spX c ws s n).length≤8:=by
 unfold spX
 split
 ·split
  ·exact pathE_len _ _
  simp
 simp
theorem spN_len (c:Cd) (ws:List Bool) (s:Ms) (n:Nat):(spN c ws n s).length≤10*n:=by
 induction n with
 | zero=>simp [spN]
 | succ n ih =>
  have h1:=(stEvs_len (insAt c (stN c n s).pc) (stN c n s)).1;have h2:=spX_len c ws s n;simp only [spN,List.length_append];omega
theorem oth_ok {c:Cd} {s:Ms} (hok:codeOk c=true) (h:MsOk c s) (hb:isBr (insAt c s.pc).op=true):MsOk c (othS c s):=by
 have h1:=stp_ok hok h;have f0:=h.pc0;have g0:=h.pc1;obtain ⟨k,hk⟩:∃ k:Nat,s.pc=k:=⟨s.pc.toNat,by omega⟩;have d0:k < c.list.length:=by omega
 have c0:insAt c s.pc=c.list[k]:=by unfold insAt;rw [hk,Int.toNat_natCast,List.getElem?_eq_getElem d0];rfl
 have hi:=codeOk_all hok k d0;obtain ⟨hl,a0⟩:=codeOk_last hok
 have b0:(insAt c s.pc).op=9∨(insAt c s.pc).op=10:=by
  unfold isBr at hb;simpa using hb
 have hn:s.pc+1 < (c.list.length:Int):=by
  by_cases e:k=c.list.length-1
  ·subst e;rw [c0] at b0;rcases a0 with h3 | h3 <;> rcases b0 with h4 | h4 <;> rw [h3] at h4 <;> omega
  omega
 have hB:0≤(insAt c s.pc).b∧(insAt c s.pc).b < (c.list.length:Int):=by
  rw [c0] at b0 ⊢;generalize c.list[k]=x at *
  obtain ⟨op,a,b,d,f⟩:=x;obtain ⟨_,_,_,_,_,_,_,_,P9,e0,_⟩:=ins_parts hi;rcases b0 with h3 | h3
  ·exact (P9 h3).2
  exact (e0 h3).2
 refine ⟨?_,?_,h1.regs,h1.rv,h1.mem⟩
 ·show 0≤othPc _ _ _
  unfold othPc;split <;> omega
 show othPc _ _ _ < _
 unfold othPc;split <;> omega
theorem tgt_br {x:Ins} (h:isBr x.op=true):tgt x=x.b:=by
 have a0:x.op=9∨x.op=10:=by unfold isBr at h;simpa using h
 unfold tgt
 rcases a0 with h | h <;> simp [h]
theorem chg_then {S T:Nat→Prop} {w W W':World} (h:Chg S w W) (k:Chg T W W') (hs:∀ q,q < w.heap.size→T q→S q):Chg S w W':=
 ⟨k.os.trans h.os,k.tape.trans h.tape,k.output.trans h.output,Nat.le_trans h.size k.size,fun q hq hn=>(k.block q (Nat.lt_of_lt_of_le hq h.size) (fun h2=>hn (hs q hq h2))).trans (h.block q hq hn)⟩
def srX (c:Cd) (ws:List Bool) (s:Ms) (n:Nat):List Ev:=if isBr (insAt c s.pc).op=true then (if wrAt ws n=true then pathE c (othS c s) else []) else []
theorem srX_no {c:Cd} {ws:List Bool} {s:Ms} {n:Nat} (h:isBr (insAt c s.pc).op=false):srX c ws s n=[]:=by unfold srX;rw [h];rfl
theorem srX_right {c:Cd} {ws:List Bool} {s:Ms} {n:Nat} (h:isBr (insAt c s.pc).op=true) (h2:wrAt ws n=false):srX c ws s n=[]:=by unfold srX;rw [h,h2];rfl
theorem srX_wrong {c:Cd} {ws:List Bool} {s:Ms} {n:Nat} (h:isBr (insAt c s.pc).op=true) (h2:wrAt ws n=true):srX c ws s n=pathE c (othS c s):=by unfold srX;rw [h,h2];rfl
theorem wr_out {ws:List Bool} {n:Nat} (h:¬n < ws.length):wrAt ws n=false:=by unfold wrAt;rw [List.getElem?_eq_none (by omega)];rfl
theorem reads_wr {w:World} {aw:Option Addr} {cw n:Nat} {ws:List Bool} (h:Reads w 1 (.slice aw ws.length cw) ws.length (bools ws)) (hn:n < ws.length):∃ bw ow,aw=some ⟨bw,ow,none⟩∧w.cell? ⟨bw,ow+n,none⟩=some (.bool (wrAt ws n)):=by
 obtain ⟨_,_,a,b0,b,a0,hv,_,ha,hc⟩:=h;obtain ⟨rfl,_⟩:=ha (by omega);simp only [Value.slice.injEq,true_and] at hv;refine ⟨b,a0,hv.1,?_⟩;have h1:=hc n (by rw [bools_length];exact hn);rw [h1,bools_get];unfold wrAt
 rw [List.getElem?_eq_getElem hn];rfl
theorem own_readsS {w:World} {base:Nat} {vr vv va:Value} {us:List Value} {s:Ms} (h:OwnMv w base vr vv va us s.regs s.mem) (h0:s.regs.length≤1048576) (hl:s.mem.vals.length≤1048576) (hn:s.mem.arrs.length≤1048576) (hp:pre2 s.mem.arrs s.mem.arrs.length≤1048576):ReadsS w vr vv va s:=
 ⟨Ro h.r (by omega),h.toM.reads hl hn hp⟩
def srE (c:Cd) (m:Mm) (ws:List Bool):List Ev:=match finN c m with | some n=>spN c ws (n+1) (ini m) | none=>[]
theorem sr_no {c:Cd} {m:Mm} {ws:List Bool} (h:finN c m=none):srE c m ws=[]∧runM c m=⟨[],[]⟩∧runB c m=false:=⟨by unfold srE;rw [h],(run_no h).2⟩
theorem sr_yes {c:Cd} {m:Mm} {ws:List Bool} {n:Nat} (h:finN c m=some n):srE c m ws=spN c ws (n+1) (ini m)∧runM c m=(stN c (n+1) (ini m)).mem∧runB c m=true:=⟨by unfold srE;rw [h],(run_yes h).2⟩
theorem srE_len (c:Cd) (m:Mm) (ws:List Bool):(srE c m ws).length≤200000:=by
 cases h:finN c m with
 | none=>rw [(sr_no h).1];simp
 | some n=>rw [(sr_yes h).1];have:=spN_len c ws (ini m) (n+1);have:=finN_lt h;omega
def brI (b:Bool):Int:=if b=true then 1 else 0
theorem brN_succ (c:Cd) (n:Nat) (s:Ms):(brN c (n+1) s:Int)=(brN c n s:Int)+brI (isBr (opAt c s n)):=by
 simp only [brN,brI];split <;> simp
theorem run_pre {P:Program} {t e:TypeId} {z:Value} {size bytes:Nat} (T:SliceT P t e z size bytes) (a:Option Addr) (n c k:Nat) (hk:k≤c) (W:World) :
  (Instr.slice t (.slice a n c) none (some (.int .i64 (k:Int))) none).run P W=.ok (.slice a k c) W:=by
 obtain ⟨i,hi,a0,b0,c0⟩:=info_parts T.info;have h1:(0:Int)≤(k:Int)∧(k:Int)≤(c:Int):=by omega
 have ha:(if c=0 then a else Option.map (fun x=>x.add 0) a)=a:=by
  split
  ·rfl
  cases a <;> simp [Addr.add]
 simp [Instr.slice,Instr.sliceBounds,Instr.sliceBound,asIntOf,run_underlying T.under,sizeOf,typeInfo,hi,hk,ha]
end Go.Proofs.YtnpidfbcbmeijaaGreat
