/-
 Parts of the proofs of the laws FnCodeFenced,FnCountBranches.
-/
import Derived.Test.YtkjedgnepnbkpaaZPq1
import Derived.Test.YtkjedgnepnbkpaaME
import Derived.Test.YtkjedgnepnbkpaaML
set_option linter.all false
namespace Go.Proofs.Ytkjedgnepnbkpaa
open Go.RowKit
set_option maxHeartbeats 6400000 in
set_option maxRecDepth 100000 in
theorem iMOwn_any (vr vx vy:Value) (s:Ms) (w:World) (hs:ReadsS w vr vx vy s) (h0:s.regs.length≤1048576) (hl:s.mem.vals.length≤1048576) (hn:s.mem.arrs.length≤1048576) (hp:pre2 s.mem.arrs s.mem.arrs.length≤1048576) :
  Calls Try.prog 67 #[.agg #[.int .i64 s.pc,vr,vx,vy]] w fun e w'=>∃ ur ux uy us,e=.returned (.agg #[.int .i64 s.pc,ur,ux,uy])∧OwnMv w' w.heap.size ur ux uy us s.regs s.mem∧Below w.heap.size w w':=by
 obtain ⟨a5,c5,rfl⟩:=reads_shape hs.r
 obtain ⟨a3,c3,a4,c4,rfl,rfl⟩:=hs.m.shape
 have HS:=Lib.hid (fun W (hW:Below w.heap.size w W)=>hs.below hW)
 have i1:=Lib.hid (fun W (hW:Below w.heap.size w W)=>memOwn_any _ _ s.mem W (HS.out W hW).m.x (HS.out W hW).m.y hl hn hp)
 clear hs
 go_enter Try.func67,Try.ntmps67
 go_upto_region 1 with (fail)
 obtain ⟨w1,o0,hb⟩:=nmw (World.alloc (World.alloc w (.cells #[.int .i64 s.pc,.slice a5 s.regs.length c5,.slice a3 s.mem.vals.length c3,.slice a4 s.mem.arrs.length c4] 39)) (.cells #[.int .i64 0,.slice none 0 0,.slice none 0 0,.slice none 0 0] 39))
 have q0:=hb.size
 simp only [Sa] at q0
 have l0:Bk w1 (w.heap.size) [.int .i64 s.pc,.slice a5 s.regs.length c5,.slice a3 s.mem.vals.length c3,.slice a4 s.mem.arrs.length c4]:=Bk.below (Bk.al (Bk.nw (by simp) rfl) (.cells #[.int .i64 0,.slice none 0 0,.slice none 0 0,.slice none 0 0] 39)) hb
 have j0:Bk w1 (w.heap.size+1) [.int .i64 0,.slice none 0 0,.slice none 0 0,.slice none 0 0]:=Bk.below (Bk.nw (by simp) rfl) hb
 have k0:=btr (bal (bal (Bs w) (.cells #[.int .i64 s.pc,.slice a5 s.regs.length c5,.slice a3 s.mem.vals.length c3,.slice a4 s.mem.arrs.length c4] 39)) (.cells #[.int .i64 0,.slice none 0 0,.slice none 0 0,.slice none 0 0] 39)) hb
 clear hb
 rw [← o0]
 clear o0
 have r1:=Bk.lz l0
 have s1:=Bk.lz j0
 obtain ⟨e0,m0,f0,n0,a0,c0,b0,d0⟩:=Bk.f4 l0 0 1 2 3 rfl rfl rfl rfl
 refine wp_region_noPanic ?_
 refine wp_region_held_drew (S:=(fun W'=>W'.cell? ⟨w.heap.size,0,none⟩=some (.int .i64 s.pc)∧W'.cell? ⟨w.heap.size,1,none⟩=some (.slice a5 s.regs.length c5)∧W'.cell? ⟨w.heap.size,2,none⟩=some (.slice a3 s.mem.vals.length c3)∧W'.cell? ⟨w.heap.size,3,none⟩=some (.slice a4 s.mem.arrs.length c4))) (by kernel_rfl) ⟨Kc (Below.drew (Bs w1)) e0,Kc (Below.drew (Bs w1)) f0,Kc (Below.drew (Bs w1)) a0,Kc (Below.drew (Bs w1)) b0⟩ (fun hHeld=>?_)
 obtain ⟨w2,r0⟩:∃ X,X=World.drew w1:=⟨_,rfl⟩
 rw [← r0] at hHeld ⊢
 have hb:Below w1.heap.size w1 w2:=by rw [r0];exact Below.drew (Bs _)
 clear r0
 have f1:=hb.size
 replace m0:=Kf hb (Lc e0) m0
 replace n0:=Kf hb (Lc f0) n0
 replace c0:=Kf hb (Lc a0) c0
 replace d0:=Kf hb (Lc b0) d0
 replace e0:=Kc hb e0
 replace f0:=Kc hb f0
 replace a0:=Kc hb a0
 replace b0:=Kc hb b0
 replace l0:=Bk.below l0 hb
 replace j0:=Bk.below j0 hb
 replace k0:=btr k0 hb
 clear hb
 refine (tq 0 3 rfl rfl ?_ ?_ (tq 1 4 rfl rfl ?_ ?_ (tq 2 5 rfl rfl ?_ ?_ (tq 3 6 rfl rfl ?_ ?_ (tq 5 8 rfl rfl ?_ ?_ (tq 6 9 rfl rfl ?_ ?_ ?_))))))
 iterate 6 (rotate_left;intro W' hSw;(try dsimp only at hSw);go_simp;try with_reducible rfl)
 try simp only [Ep]
 refine Rdy 4 rfl (fun K hK=>?_)
 go_simp
 refine (clone_any _ s.regs _ (HS.out _ k0).r (by omega)).mono ?_
 rintro e w3 ⟨ur,rfl,oR,hb⟩
 obtain ⟨pr,tr,rfl⟩:=Oh oR
 have g1:=hb.size
 replace m0:=Kf hb (Lc e0) m0
 replace n0:=Kf hb (Lc f0) n0
 replace c0:=Kf hb (Lc a0) c0
 replace d0:=Kf hb (Lc b0) d0
 replace e0:=Kc hb e0
 replace f0:=Kc hb f0
 replace a0:=Kc hb a0
 replace b0:=Kc hb b0
 replace l0:=Bk.below l0 hb
 replace j0:=Bk.below j0 hb
 replace k0:=btr k0 hb
 clear hb
 have g0:=oR.lt
 refine hK.out _ _ ⟨e0,f0,a0,b0⟩ (fun hHeld=>?_)
 clear hK K
 try simp only [Ep]
 refine Rdy 7 rfl (fun K hK=>?_)
 go_simp
 refine (i1.out _ k0).mono ?_
 rintro e w4 ⟨ux,uy,us,rfl,ox,oy,e1,hb⟩
 obtain ⟨px,tx,rfl⟩:=Oh ox
 obtain ⟨py,ty,rfl⟩:=Oh oy.out
 have oM:OwnM w4 _ _ _ _ s.mem:=⟨ox,oy,e1⟩
 clear ox oy e1
 have h1:=hb.size
 replace m0:=Kf hb (Lc e0) m0
 replace n0:=Kf hb (Lc f0) n0
 replace c0:=Kf hb (Lc a0) c0
 replace d0:=Kf hb (Lc b0) d0
 replace e0:=Kc hb e0
 replace f0:=Kc hb f0
 replace a0:=Kc hb a0
 replace b0:=Kc hb b0
 replace oR:=Ob oR hb
 replace l0:=Bk.below l0 hb
 replace j0:=Bk.below j0 hb
 replace k0:=btr k0 hb
 clear hb
 have i0:=oM.lt
 refine hK.out _ _ ⟨e0,f0,a0,b0⟩ (fun hHeld=>?_)
 clear hK K
 try simp only [Ep]
 refine (tq 8 11 rfl rfl (.agg #[.int .i64 s.pc,.slice pr s.regs.length tr,.slice px s.mem.vals.length tx,.slice py s.mem.arrs.length ty]) (fun W' _=>by kernel_rfl) ?_)
 try simp only [Ep]
 refine Rdy 9 rfl (fun K hK=>?_)
 obtain ⟨s0,a1,t0,b1,u0,c1,v0,d1⟩:=Bk.f4 j0 0 1 2 3 rfl rfl rfl rfl
 go_simp
 obtain ⟨w5,o0,hb⟩:=nmw (World.setCell (World.setCell (World.setCell (World.setCell w4 ⟨w.heap.size+1,0,none⟩ (.int .i64 s.pc)) ⟨w.heap.size+1,1,none⟩ (.slice pr s.regs.length tr)) ⟨w.heap.size+1,2,none⟩ (.slice px s.mem.vals.length tx)) ⟨w.heap.size+1,3,none⟩ (.slice py s.mem.arrs.length ty))
 have p0:=hb.size
 simp only [Ss] at p0
 clear a1 s0 b1 t0 c1 u0 d1 v0
 replace m0:=Kf hb (Lc (Nn (Nn (Nn (Nn e0 _) _) _) _)) (Fs (Fs (Fs (Fs m0 _) _) _) _)
 replace n0:=Kf hb (Lc (Nn (Nn (Nn (Nn f0 _) _) _) _)) (Fs (Fs (Fs (Fs n0 _) _) _) _)
 replace c0:=Kf hb (Lc (Nn (Nn (Nn (Nn a0 _) _) _) _)) (Fs (Fs (Fs (Fs c0 _) _) _) _)
 replace d0:=Kf hb (Lc (Nn (Nn (Nn (Nn b0 _) _) _) _)) (Fs (Fs (Fs (Fs d0 _) _) _) _)
 replace e0:=Kc hb (Nn (Nn (Nn (Nn e0 _) _) _) _)
 replace f0:=Kc hb (Nn (Nn (Nn (Nn f0 _) _) _) _)
 replace a0:=Kc hb (Nn (Nn (Nn (Nn a0 _) _) _) _)
 replace b0:=Kc hb (Nn (Nn (Nn (Nn b0 _) _) _) _)
 replace oR:=Ob (Oe (Oe (Oe (Oe oR _ _ (fun h=>by have:=g0 _ h;omega) _) _ _ (fun h=>by have:=g0 _ h;omega) _) _ _ (fun h=>by have:=g0 _ h;omega) _) _ _ (fun h=>by have:=g0 _ h;omega) _) hb
 replace oM:=((((oM.keep (C1 _ _ _) (fun gq h h2=>by have:=i0 gq h;omega)).keep (C1 _ _ _) (fun gq h h2=>by have:=i0 gq h;omega)).keep (C1 _ _ _) (fun gq h h2=>by have:=i0 gq h;omega)).keep (C1 _ _ _) (fun gq h h2=>by have:=i0 gq h;omega)).below hb
 replace l0:=Bk.below (Bk.nn (Bk.nn (Bk.nn (Bk.nn l0 _) _) _) _) hb
 replace j0:Bk w5 (w.heap.size+1) [.int .i64 s.pc,.slice pr s.regs.length tr,.slice px s.mem.vals.length tx,.slice py s.mem.arrs.length ty]:=Bk.below (Bk.at (Bk.at (Bk.at (Bk.at j0 0 (.int .i64 s.pc)) 1 (.slice pr s.regs.length tr)) 2 (.slice px s.mem.vals.length tx)) 3 (.slice py s.mem.arrs.length ty)) hb
 replace k0:=btr (bst (bst (bst (bst k0 (w.heap.size+1) 0 (by omega) (.int .i64 s.pc)) (w.heap.size+1) 1 (by omega) (.slice pr s.regs.length tr)) (w.heap.size+1) 2 (by omega) (.slice px s.mem.vals.length tx)) (w.heap.size+1) 3 (by omega) (.slice py s.mem.arrs.length ty)) hb
 clear hb
 rw [← o0]
 clear o0
 refine hK.out _ _ ⟨e0,f0,a0,b0⟩ (fun hHeld=>?_)
 clear hK K
 try simp only [Ep]
 refine Dn ?_
 clear hHeld
 have OM:OwnMv w5 w.heap.size (.slice pr s.regs.length tr) (.slice px s.mem.vals.length tx) (.slice py s.mem.arrs.length ty) us s.regs s.mem:=⟨Om oR (by omega),Om oM.x (by omega),oM.y.mono (by omega),fun q h h2=>by have:=g0 q h;have:=i0 q (Or.inl h2);omega,fun q h h2=>by have:=g0 q h;have:=i0 q (Or.inr h2);omega,oM.ap⟩
 obtain ⟨w0,j1,x0,k1,y0,l1,z0,m1⟩:=Bk.f4 j0 0 1 2 3 rfl rfl rfl rfl
 have n1:=w0
 have o1:=x0
 have p1:=y0
 have q1:=z0
 have tt:=k0
 go_wp2
 exact bodyPost_ret (v:=.agg #[.int .i64 s.pc,.slice pr s.regs.length tr,.slice px s.mem.vals.length tx,.slice py s.mem.arrs.length ty]) (by simp [results,Try.results67,go_sem,n1,o1,p1,q1]) rfl (by exact ⟨_,_,_,us,rfl,OM,tt⟩)
end Go.Proofs.Ytkjedgnepnbkpaa
