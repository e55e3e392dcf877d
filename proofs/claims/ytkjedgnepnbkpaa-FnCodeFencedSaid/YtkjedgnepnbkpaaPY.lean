/-
 Parts of the proofs of the laws FnCodeFenced,FnCountBranches.
-/
import Derived.Test.YtkjedgnepnbkpaaPX
set_option maxHeartbeats 12800000
set_option maxRecDepth 100000
set_option linter.all false
namespace Go.Proofs.Ytkjedgnepnbkpaa
open Go.RowKit
theorem l3Value_any (B g p:Nat) (w:World) (hR:Rnd w B g p) (hp:p+1≤1000000000) :
  Calls Try.prog 137 #[.pointer (some ⟨g,0,none⟩)] w fun r w'=>∃ v:Int,r=.returned (.int .i64 v)∧(0≤v∧v < 256)∧Rnd w' B g (p+1)∧Chg (fun q=>q=g) w w':=by
 have hg:=hR.lt
 have hC:Chg (fun k=>k=g) w w:=Chg.refl _ _
 have d0:∀ q,(fun k=>k=g) q→q=g:=fun q h=>h
 go_enter Try.func137,Try.ntmps137
 go_wp2_with fail
 refine (num_any _ [0,1,2,3,255,128,7,4,100] _ B g (p) (hR.below (bal (Bs _) (.cells #[.int .i64 0,.int .i64 1,.int .i64 2,.int .i64 3,.int .i64 255,.int .i64 128,.int .i64 7,.int .i64 4,.int .i64 100] 3))) (Ro (World.ownsRow_lit (base:=(w).heap.size) (e:=3) (size:=1) (w) #[.int .i64 0,.int .i64 1,.int .i64 2,.int .i64 3,.int .i64 255,.int .i64 128,.int .i64 7,.int .i64 4,.int .i64 100] 9 (Nat.le_refl _) (by unfold maxLen;omega) (by simp)) (by simp)) (fun b o c hb=>by simp at hb;omega) (by simp) (by simp) (by omega)).mono ?_
 rintro e w1 ⟨v,vm,rfl,b0,hc⟩
 replace hC:=((hC.trans (Chg.of_below (bal (Bs _) _)))).trans hc
 replace hR:=b0;clear b0
 have a0:=hc.size
 simp only [Sa] at a0
 have c0:Bk w1 (w.heap.size) [.int .i64 0,.int .i64 1,.int .i64 2,.int .i64 3,.int .i64 255,.int .i64 128,.int .i64 7,.int .i64 4,.int .i64 100]:=Bk.kg (Bk.nw (by simp) rfl) hc
 clear hc
 clear c0
 have HV:Hid (0≤v∧v < 256):=Lib.hid (by simp only [List.mem_cons,List.not_mem_nil,or_false] at vm;omega)
 clear vm
 have tC:=hC;have tR:=hR
 have tt:=True.intro
 go_wp2
 exact bodyPost_ret (v:=.int .i64 v) (by simp [results,Try.results137,go_sem]) rfl (by exact ⟨v,rfl,HV.out,tR,tC⟩)
theorem l2Small_any (pv pa:Option Addr) (nv cv na ca:Nat) (vb:Value) (B g p:Nat) (w:World) (hR:Rnd w B g p) (hp:p+10100≤1000000000) (hnv:1≤nv) (hnb:nv≤1000∧na≤1000) :
  Calls Try.prog 169 #[.pointer (some ⟨g,0,none⟩),.agg #[.slice pv nv cv,.slice pa na ca,vb]] w fun r w'=>∃ (n:En) (e:Ex) (p':Nat),r=.returned (.agg #[.int .i64 n.k,.int .i64 n.v,.slice n.p n.n n.c])∧ExAt w' (fun q=>w.heap.size≤q) 5 n e∧Thin 5 e∧Rnd w' B g p'∧p'≤p+10100∧Chg (fun q=>q=g) w w':=by
 have hg:=hR.lt
 have hC:Chg (fun k=>k=g) w w:=Chg.refl _ _
 have w0:∀ q,(fun k=>k=g) q→q=g:=fun q h=>h
 go_enter Try.func169,Try.ntmps169
 go_upto_region 1 with (fail)
 obtain ⟨w1,i0,hb⟩:=nmw (World.alloc (World.alloc w (.cells #[.slice pv nv cv,.slice pa na ca,vb] 110)) (.cells #[.int .i64 0,.int .i64 0,.slice none 0 0] 161))
 replace hC:=(((hC.trans (Chg.of_below (bal (Bs _) _))).trans (Chg.of_below (bal (Bs _) _)))).trans (Chg.of_below hb)
 replace hR:=((hR.below (bal (Bs _) _)).below (bal (Bs _) _)).below hb
 have j2:=hb.size
 simp only [Sa] at j2
 have g0:Bk w1 (w.heap.size) [.slice pv nv cv,.slice pa na ca,vb]:=Bk.below (Bk.al (Bk.nw (by simp) rfl) (.cells #[.int .i64 0,.int .i64 0,.slice none 0 0] 161)) hb
 have h0:Bk w1 (w.heap.size+1) [.int .i64 0,.int .i64 0,.slice none 0 0]:=Bk.below (Bk.nw (by simp) rfl) hb
 clear hb
 rw [← i0]
 clear i0
 have l1:=Bk.lz g0
 have m1:=Bk.lz h0
 go_cut [5] (fun s wx=>∃ (n:En) (e:Ex) (b5 pk lo hi:Nat),s=.pointer (some ⟨b5,0,none⟩)∧Bk wx b5 [.int .i64 n.k,.int .i64 n.v,.slice n.p n.n n.c]∧Bk wx (w.heap.size) [.slice pv nv cv,.slice pa na ca,vb]∧Bk wx (w.heap.size+1) [.int .i64 0,.int .i64 0,.slice none 0 0]∧ExAt wx (fun q=>lo≤q∧q < hi) 5 n e∧Thin 5 e∧(w1.heap.size≤lo∧hi≤wx.heap.size∧(b5 < lo∨hi≤b5)∧w1.heap.size≤b5)∧Rnd wx B g pk∧pk≤p+10050∧Chg (fun q=>q=g) w wx∧w1.heap.size≤wx.heap.size)
 case first =>
  have a0:=Bk.cell g0 0 (v:=.slice pv nv cv) rfl
  have b0:=Bk.cell g0 1 (v:=.slice pa na ca) rfl
  have c0:=Bk.cell g0 2 (v:=vb) rfl
  refine wp_region_noPanic ?_
  refine wp_region_held_drew (S:=(fun W'=>W'.cell? ⟨w.heap.size,0,none⟩=some (.slice pv nv cv)∧W'.cell? ⟨w.heap.size,1,none⟩=some (.slice pa na ca)∧W'.cell? ⟨w.heap.size,2,none⟩=some (vb))) (by kernel_rfl) ⟨Kc (Below.drew (Bs w1)) a0,Kc (Below.drew (Bs w1)) b0,Kc (Below.drew (Bs w1)) c0⟩ (fun hHeld=>?_)
  obtain ⟨w2,m2⟩:∃ X,X=World.drew w1:=⟨_,rfl⟩
  rw [← m2] at hHeld ⊢
  have hb:Below w1.heap.size w1 w2:=by rw [m2];exact Below.drew (Bs _)
  clear m2
  replace hC:=(hC).trans (Chg.of_below hb)
  replace hR:=hR.below hb
  have x4:=hb.size
  replace a0:=Kc hb a0
  replace b0:=Kc hb b0
  replace c0:=Kc hb c0
  replace g0:=Bk.below g0 hb
  replace h0:=Bk.below h0 hb
  clear hb
  replace l1:=Bk.lz g0
  replace m1:=Bk.lz h0
  refine (tq 0 6 rfl rfl ?_ ?_ (tq 1 7 rfl rfl ?_ ?_ (tq 2 8 rfl rfl ?_ ?_ ?_)))
  iterate 3 (rotate_left;intro W' hSw;(try dsimp only at hSw);go_simp;try with_reducible rfl)
  try simp only [Ep]
  refine Rdy2 3 6 rfl rfl (fun K hK=>?_) (fun K hK=>?_)
  ·go_simp
   obtain ⟨w3,i0,hb⟩:=nmw (World.alloc w2 (.cells #[.int .i64 2,.int .i64 3,.int .i64 2,.int .i64 1,.int .i64 4] 3))
   replace hC:=((hC.trans (Chg.of_below (bal (Bs _) _)))).trans (Chg.of_below hb)
   replace hR:=(hR.below (bal (Bs _) _)).below hb
   have e0:=Ob (World.ownsRow_lit (base:=(w2).heap.size) (e:=3) (size:=1) (w2) #[.int .i64 2,.int .i64 3,.int .i64 2,.int .i64 1,.int .i64 4] 5 (Nat.le_refl _) (by unfold maxLen;omega) (by simp)) hb
   try simp only [Sa,Ss] at e0
   have a1:=hb.size
   simp only [Sa] at a1
   replace a0:=Kc hb (Ac a0 _)
   replace b0:=Kc hb (Ac b0 _)
   replace c0:=Kc hb (Ac c0 _)
   replace g0:=Bk.below (Bk.al g0 _) hb
   replace h0:=Bk.below (Bk.al h0 _) hb
   have f0:Bk w3 (w2.heap.size) [.int .i64 2,.int .i64 3,.int .i64 2,.int .i64 1,.int .i64 4]:=Bk.below (Bk.nw (by simp) rfl) hb
   clear hb
   have j0:=e0.lt
   try simp only [Sa] at j0
   rw [← i0]
   clear i0
   replace l1:=Bk.lz g0
   replace m1:=Bk.lz h0
   have k1:=Bk.lz f0
   refine hK.out _ _ ⟨a0,b0,c0⟩ (fun hHeld=>?_)
   clear hK K
   try simp only [Ep]
   refine Rdy2 4 6 rfl rfl (fun K hK=>?_) (fun K hK=>?_)
   ·go_simp
    refine (num_any _ [2,3,2,1,4] _ B g (p) hR (Ro e0 (by simp)) (fun b o c hb=>by simp at hb;omega) (by simp) (by simp) (by omega)).mono ?_
    rintro e w4 ⟨d0,d0m,rfl,l0,hc⟩
    replace hC:=(hC).trans hc
    replace hR:=l0;clear l0
    have c4:=hc.size
    replace a0:=Gg hc a0
    replace b0:=Gg hc b0
    replace c0:=Gg hc c0
    replace e0:=Ow e0 hc (fun gq h h2=>by have:=j0 gq h;have:=w0 gq h2;omega)
    replace g0:=Bk.kg g0 hc
    replace h0:=Bk.kg h0 hc
    replace f0:=Bk.kg f0 hc
    clear hc
    obtain ⟨d,hd,u0⟩:∃ d:Nat,d0=d∧d≤4:=⟨d0.toNat,by simp only [List.mem_cons,List.not_mem_nil,or_false] at d0m;omega,by simp only [List.mem_cons,List.not_mem_nil,or_false] at d0m;omega⟩
    subst hd
    clear d0m
    have b4:=dcost_le u0
    replace l1:=Bk.lz g0
    replace m1:=Bk.lz h0
    replace k1:=Bk.lz f0
    refine hK.out _ _ ⟨a0,b0,c0⟩ (fun hHeld=>?_)
    clear hK K
    try simp only [Ep]
    refine Rdy2 5 6 rfl rfl (fun K hK=>?_) (fun K hK=>?_)
    ·go_simp
     refine (l2Draw_any pv pa nv cv na ca vb B g hnv hnb d (p+1) _ u0 hR (by omega)).mono ?_
     rintro e w5 ⟨n,e,p1,rfl,hE,s0,l0,i2,hc⟩
     replace hC:=(hC).trans hc
     replace hR:=l0;clear l0
     have d4:=hc.size
     replace a0:=Gg hc a0
     replace b0:=Gg hc b0
     replace c0:=Gg hc c0
     replace e0:=Ow e0 hc (fun gq h h2=>by have:=j0 gq h;have:=w0 gq h2;omega)
     replace g0:=Bk.kg g0 hc
     replace h0:=Bk.kg h0 hc
     replace f0:=Bk.kg f0 hc
     clear hc
     replace hE:=ExAt.keep (S:=fun _=>False) (Chg.refl _ _) (fun _ _ _=>id) (fun q (hq:w4.heap.size≤q) hlt=>(show w4.heap.size≤q∧q < w5.heap.size from ⟨hq,hlt⟩)) (Nat.le_refl _) hE
     replace l1:=Bk.lz g0
     replace m1:=Bk.lz h0
     replace k1:=Bk.lz f0
     refine hK.out _ _ ⟨a0,b0,c0⟩ (fun hHeld=>?_)
     clear hK K
     try simp only [Ep]
     refine Rdy 6 rfl (fun K hK=>?_)
     go_simp
     obtain ⟨w6,i0,hb⟩:=nmw (World.alloc w5 (.cells #[.int .i64 0,.int .i64 0,.slice none 0 0] 161))
     replace hC:=((hC.trans (Chg.of_below (bal (Bs _) _)))).trans (Chg.of_below hb)
     replace hR:=(hR.below (bal (Bs _) _)).below hb
     replace hE:=((hE.below (bal (Bs _) _)).below hb)
     have b1:=hb.size
     simp only [Sa] at b1
     replace a0:=Kc hb (Ac a0 _)
     replace b0:=Kc hb (Ac b0 _)
     replace c0:=Kc hb (Ac c0 _)
     replace e0:=Ob (Ob e0 (bal (Bs _) _)) hb
     replace g0:=Bk.below (Bk.al g0 _) hb
     replace h0:=Bk.below (Bk.al h0 _) hb
     replace f0:=Bk.below (Bk.al f0 _) hb
     have q0:Bk w6 (w5.heap.size) [.int .i64 0,.int .i64 0,.slice none 0 0]:=Bk.below (Bk.nw (by simp) rfl) hb
     clear hb
     rw [← i0]
     clear i0
     have y4:=Bk.lz q0
     refine hK.out _ _ ⟨a0,b0,c0⟩ (fun hHeld=>?_)
     clear hK K
     try simp only [Ep]
     refine Rdy 7 rfl (fun K hK=>?_)
     obtain ⟨n2,e3,o2,g3,q2,h3⟩:=Bk.f3 q0 0 1 2 rfl rfl rfl
     go_simp
     obtain ⟨w7,i0,hb⟩:=nmw (World.setCell (World.setCell (World.setCell w6 ⟨w5.heap.size,0,none⟩ (.int .i64 n.k)) ⟨w5.heap.size,1,none⟩ (.int .i64 n.v)) ⟨w5.heap.size,2,none⟩ (.slice n.p n.n n.c))
     replace hC:=((((hC.sN _ _ _).sN _ _ _).sN _ _ _)).trans (Chg.of_below hb)
     replace hR:=(((hR.kC _ _ _).kC _ _ _).kC _ _ _).below hb
     replace hE:=((ExAt.kI (C1 _ _ _) (fun q _ _ h=>by omega) (ExAt.kI (C1 _ _ _) (fun q _ _ h=>by omega) (ExAt.kI (C1 _ _ _) (fun q _ _ h=>by omega) hE))).below hb)
     have c1:=hb.size
     simp only [Ss] at c1
     clear e3 n2 g3 o2 h3 q2
     replace a0:=Kc hb (Nn (Nn (Nn a0 _) _) _)
     replace b0:=Kc hb (Nn (Nn (Nn b0 _) _) _)
     replace c0:=Kc hb (Nn (Nn (Nn c0 _) _) _)
     replace e0:=Ob (Oe (Oe (Oe e0 _ _ (fun h=>by have:=j0 _ h;omega) _) _ _ (fun h=>by have:=j0 _ h;omega) _) _ _ (fun h=>by have:=j0 _ h;omega) _) hb
     replace g0:=Bk.below (Bk.nn (Bk.nn (Bk.nn g0 _) _) _) hb
     replace h0:=Bk.below (Bk.nn (Bk.nn (Bk.nn h0 _) _) _) hb
     replace f0:=Bk.below (Bk.nn (Bk.nn (Bk.nn f0 _) _) _) hb
     replace q0:Bk w7 (w5.heap.size) [.int .i64 n.k,.int .i64 n.v,.slice n.p n.n n.c]:=Bk.below (Bk.at (Bk.at (Bk.at q0 0 (.int .i64 n.k)) 1 (.int .i64 n.v)) 2 (.slice n.p n.n n.c)) hb
     clear hb
     rw [← i0]
     clear i0
     refine hK.out _ _ ⟨a0,b0,c0⟩ (fun hHeld=>?_)
     clear hK K
     try simp only [Ep]
     refine Dn ?_
     clear hHeld
     have v0:=ExAt.keep (S:=fun _=>False) (Chg.refl _ _) (fun _ _ _=>id) (fun _ h _=>h) (by omega:d+1≤5) hE;have t0:=Thin.mono (by omega:d+1≤5) s0
     obtain ⟨h5,t5,i5,u5,j5,v5⟩:=Bk.f3 q0 0 1 2 rfl rfl rfl
     go_wp2_with fail
     go_meet
     exact ⟨n,e,_,_,w4.heap.size,w5.heap.size,rfl,q0,g0,h0,v0,t0,by omega,hR,by omega,hC,by omega⟩
    go_simp
    obtain ⟨w5,i0,hb⟩:=nmw (World.alloc w4 (.cells #[.int .i64 0,.int .i64 0,.slice none 0 0] 161))
    replace hC:=((hC.trans (Chg.of_below (bal (Bs _) _)))).trans (Chg.of_below hb)
    replace hR:=(hR.below (bal (Bs _) _)).below hb
    have d1:=hb.size
    simp only [Sa] at d1
    replace a0:=Kc hb (Ac a0 _)
    replace b0:=Kc hb (Ac b0 _)
    replace c0:=Kc hb (Ac c0 _)
    replace e0:=Ob (Ob e0 (bal (Bs _) _)) hb
    replace g0:=Bk.below (Bk.al g0 _) hb
    replace h0:=Bk.below (Bk.al h0 _) hb
    replace f0:=Bk.below (Bk.al f0 _) hb
    have o0:Bk w5 (w4.heap.size) [.int .i64 0,.int .i64 0,.slice none 0 0]:=Bk.below (Bk.nw (by simp) rfl) hb
    clear hb
    rw [← i0]
    clear i0
    have z4:=Bk.lz o0
    refine hK.out _ _ ⟨a0,b0,c0⟩ (fun hHeld=>?_)
    clear hK K
    try simp only [Ep]
    refine Rdy 5 rfl (fun K hK=>?_)
    go_simp
    refine (l2Draw_any pv pa nv cv na ca vb B g hnv hnb d (p+1) _ u0 hR (by omega)).mono ?_
    rintro e w6 ⟨n,e,p1,rfl,hE,s0,l0,i2,hc⟩
    replace hC:=(hC).trans hc
    replace hR:=l0;clear l0
    have e4:=hc.size
    replace a0:=Gg hc a0
    replace b0:=Gg hc b0
    replace c0:=Gg hc c0
    replace e0:=Ow e0 hc (fun gq h h2=>by have:=j0 gq h;have:=w0 gq h2;omega)
    replace g0:=Bk.kg g0 hc
    replace h0:=Bk.kg h0 hc
    replace f0:=Bk.kg f0 hc
    replace o0:=Bk.kg o0 hc
    clear hc
    replace hE:=ExAt.keep (S:=fun _=>False) (Chg.refl _ _) (fun _ _ _=>id) (fun q (hq:w5.heap.size≤q) hlt=>(show w5.heap.size≤q∧q < w6.heap.size from ⟨hq,hlt⟩)) (Nat.le_refl _) hE
    refine hK.out _ _ ⟨a0,b0,c0⟩ (fun hHeld=>?_)
    clear hK K
    try simp only [Ep]
    refine Rdy 7 rfl (fun K hK=>?_)
    obtain ⟨r2,i3,s2,j3,t2,k3⟩:=Bk.f3 o0 0 1 2 rfl rfl rfl
    go_simp
    obtain ⟨w7,i0,hb⟩:=nmw (World.setCell (World.setCell (World.setCell w6 ⟨w4.heap.size,0,none⟩ (.int .i64 n.k)) ⟨w4.heap.size,1,none⟩ (.int .i64 n.v)) ⟨w4.heap.size,2,none⟩ (.slice n.p n.n n.c))
    replace hC:=((((hC.sN _ _ _).sN _ _ _).sN _ _ _)).trans (Chg.of_below hb)
    replace hR:=(((hR.kC _ _ _).kC _ _ _).kC _ _ _).below hb
    replace hE:=((ExAt.kI (C1 _ _ _) (fun q _ _ h=>by omega) (ExAt.kI (C1 _ _ _) (fun q _ _ h=>by omega) (ExAt.kI (C1 _ _ _) (fun q _ _ h=>by omega) hE))).below hb)
    have e1:=hb.size
    simp only [Ss] at e1
    clear i3 r2 j3 s2 k3 t2
    replace a0:=Kc hb (Nn (Nn (Nn a0 _) _) _)
    replace b0:=Kc hb (Nn (Nn (Nn b0 _) _) _)
    replace c0:=Kc hb (Nn (Nn (Nn c0 _) _) _)
    replace e0:=Ob (Oe (Oe (Oe e0 _ _ (fun h=>by have:=j0 _ h;omega) _) _ _ (fun h=>by have:=j0 _ h;omega) _) _ _ (fun h=>by have:=j0 _ h;omega) _) hb
    replace g0:=Bk.below (Bk.nn (Bk.nn (Bk.nn g0 _) _) _) hb
    replace h0:=Bk.below (Bk.nn (Bk.nn (Bk.nn h0 _) _) _) hb
    replace f0:=Bk.below (Bk.nn (Bk.nn (Bk.nn f0 _) _) _) hb
    replace o0:Bk w7 (w4.heap.size) [.int .i64 n.k,.int .i64 n.v,.slice n.p n.n n.c]:=Bk.below (Bk.at (Bk.at (Bk.at o0 0 (.int .i64 n.k)) 1 (.int .i64 n.v)) 2 (.slice n.p n.n n.c)) hb
    clear hb
    rw [← i0]
    clear i0
    refine hK.out _ _ ⟨a0,b0,c0⟩ (fun hHeld=>?_)
    clear hK K
    try simp only [Ep]
    refine Dn ?_
    clear hHeld
    have v0:=ExAt.keep (S:=fun _=>False) (Chg.refl _ _) (fun _ _ _=>id) (fun _ h _=>h) (by omega:d+1≤5) hE;have t0:=Thin.mono (by omega:d+1≤5) s0
    obtain ⟨k5,x5,l5,y5,m5,z5⟩:=Bk.f3 o0 0 1 2 rfl rfl rfl
    go_wp2_with fail
    go_meet
    exact ⟨n,e,_,_,w5.heap.size,w6.heap.size,rfl,o0,g0,h0,v0,t0,by omega,hR,by omega,hC,by omega⟩
   go_simp
   obtain ⟨w4,i0,hb⟩:=nmw (World.alloc w3 (.cells #[.int .i64 0,.int .i64 0,.slice none 0 0] 161))
   replace hC:=((hC.trans (Chg.of_below (bal (Bs _) _)))).trans (Chg.of_below hb)
   replace hR:=(hR.below (bal (Bs _) _)).below hb
   have f1:=hb.size
   simp only [Sa] at f1
   replace a0:=Kc hb (Ac a0 _)
   replace b0:=Kc hb (Ac b0 _)
   replace c0:=Kc hb (Ac c0 _)
   replace e0:=Ob (Ob e0 (bal (Bs _) _)) hb
   replace g0:=Bk.below (Bk.al g0 _) hb
   replace h0:=Bk.below (Bk.al h0 _) hb
   replace f0:=Bk.below (Bk.al f0 _) hb
   have m0:Bk w4 (w3.heap.size) [.int .i64 0,.int .i64 0,.slice none 0 0]:=Bk.below (Bk.nw (by simp) rfl) hb
   clear hb
   rw [← i0]
   clear i0
   have a5:=Bk.lz m0
   refine hK.out _ _ ⟨a0,b0,c0⟩ (fun hHeld=>?_)
   clear hK K
   try simp only [Ep]
   refine Rdy 4 rfl (fun K hK=>?_)
   go_simp
   refine (num_any _ [2,3,2,1,4] _ B g (p) hR (Ro e0 (by simp)) (fun b o c hb=>by simp at hb;omega) (by simp) (by simp) (by omega)).mono ?_
   rintro e w5 ⟨d0,d0m,rfl,l0,hc⟩
   replace hC:=(hC).trans hc
   replace hR:=l0;clear l0
   have f4:=hc.size
   replace a0:=Gg hc a0
   replace b0:=Gg hc b0
   replace c0:=Gg hc c0
   replace e0:=Ow e0 hc (fun gq h h2=>by have:=j0 gq h;have:=w0 gq h2;omega)
   replace g0:=Bk.kg g0 hc
   replace h0:=Bk.kg h0 hc
   replace f0:=Bk.kg f0 hc
   replace m0:=Bk.kg m0 hc
   clear hc
   obtain ⟨d,hd,u0⟩:∃ d:Nat,d0=d∧d≤4:=⟨d0.toNat,by simp only [List.mem_cons,List.not_mem_nil,or_false] at d0m;omega,by simp only [List.mem_cons,List.not_mem_nil,or_false] at d0m;omega⟩
   subst hd
   clear d0m
   have b4:=dcost_le u0
   refine hK.out _ _ ⟨a0,b0,c0⟩ (fun hHeld=>?_)
   clear hK K
   try simp only [Ep]
   refine Rdy 5 rfl (fun K hK=>?_)
   go_simp
   refine (l2Draw_any pv pa nv cv na ca vb B g hnv hnb d (p+1) _ u0 hR (by omega)).mono ?_
   rintro e w6 ⟨n,e,p1,rfl,hE,s0,l0,i2,hc⟩
   replace hC:=(hC).trans hc
   replace hR:=l0;clear l0
   have g4:=hc.size
   replace a0:=Gg hc a0
   replace b0:=Gg hc b0
   replace c0:=Gg hc c0
   replace e0:=Ow e0 hc (fun gq h h2=>by have:=j0 gq h;have:=w0 gq h2;omega)
   replace g0:=Bk.kg g0 hc
   replace h0:=Bk.kg h0 hc
   replace f0:=Bk.kg f0 hc
   replace m0:=Bk.kg m0 hc
   clear hc
   replace hE:=ExAt.keep (S:=fun _=>False) (Chg.refl _ _) (fun _ _ _=>id) (fun q (hq:w5.heap.size≤q) hlt=>(show w5.heap.size≤q∧q < w6.heap.size from ⟨hq,hlt⟩)) (Nat.le_refl _) hE
   refine hK.out _ _ ⟨a0,b0,c0⟩ (fun hHeld=>?_)
   clear hK K
   try simp only [Ep]
   refine Rdy 7 rfl (fun K hK=>?_)
   obtain ⟨u2,l3,v2,m3,x2,n3⟩:=Bk.f3 m0 0 1 2 rfl rfl rfl
   go_simp
   obtain ⟨w7,i0,hb⟩:=nmw (World.setCell (World.setCell (World.setCell w6 ⟨w3.heap.size,0,none⟩ (.int .i64 n.k)) ⟨w3.heap.size,1,none⟩ (.int .i64 n.v)) ⟨w3.heap.size,2,none⟩ (.slice n.p n.n n.c))
   replace hC:=((((hC.sN _ _ _).sN _ _ _).sN _ _ _)).trans (Chg.of_below hb)
   replace hR:=(((hR.kC _ _ _).kC _ _ _).kC _ _ _).below hb
   replace hE:=((ExAt.kI (C1 _ _ _) (fun q _ _ h=>by omega) (ExAt.kI (C1 _ _ _) (fun q _ _ h=>by omega) (ExAt.kI (C1 _ _ _) (fun q _ _ h=>by omega) hE))).below hb)
   have g1:=hb.size
   simp only [Ss] at g1
   clear l3 u2 m3 v2 n3 x2
   replace a0:=Kc hb (Nn (Nn (Nn a0 _) _) _)
   replace b0:=Kc hb (Nn (Nn (Nn b0 _) _) _)
   replace c0:=Kc hb (Nn (Nn (Nn c0 _) _) _)
   replace e0:=Ob (Oe (Oe (Oe e0 _ _ (fun h=>by have:=j0 _ h;omega) _) _ _ (fun h=>by have:=j0 _ h;omega) _) _ _ (fun h=>by have:=j0 _ h;omega) _) hb
   replace g0:=Bk.below (Bk.nn (Bk.nn (Bk.nn g0 _) _) _) hb
   replace h0:=Bk.below (Bk.nn (Bk.nn (Bk.nn h0 _) _) _) hb
   replace f0:=Bk.below (Bk.nn (Bk.nn (Bk.nn f0 _) _) _) hb
   replace m0:Bk w7 (w3.heap.size) [.int .i64 n.k,.int .i64 n.v,.slice n.p n.n n.c]:=Bk.below (Bk.at (Bk.at (Bk.at m0 0 (.int .i64 n.k)) 1 (.int .i64 n.v)) 2 (.slice n.p n.n n.c)) hb
   clear hb
   rw [← i0]
   clear i0
   refine hK.out _ _ ⟨a0,b0,c0⟩ (fun hHeld=>?_)
   clear hK K
   try simp only [Ep]
   refine Dn ?_
   clear hHeld
   have v0:=ExAt.keep (S:=fun _=>False) (Chg.refl _ _) (fun _ _ _=>id) (fun _ h _=>h) (by omega:d+1≤5) hE;have t0:=Thin.mono (by omega:d+1≤5) s0
   obtain ⟨n5,a6,o5,b6,p5,c6⟩:=Bk.f3 m0 0 1 2 rfl rfl rfl
   go_wp2_with fail
   go_meet
   exact ⟨n,e,_,_,w5.heap.size,w6.heap.size,rfl,m0,g0,h0,v0,t0,by omega,hR,by omega,hC,by omega⟩
  go_simp
  obtain ⟨w3,i0,hb⟩:=nmw (World.alloc w2 (.cells #[.int .i64 0,.int .i64 0,.slice none 0 0] 161))
  replace hC:=((hC.trans (Chg.of_below (bal (Bs _) _)))).trans (Chg.of_below hb)
  replace hR:=(hR.below (bal (Bs _) _)).below hb
  have h1:=hb.size
  simp only [Sa] at h1
  replace a0:=Kc hb (Ac a0 _)
  replace b0:=Kc hb (Ac b0 _)
  replace c0:=Kc hb (Ac c0 _)
  replace g0:=Bk.below (Bk.al g0 _) hb
  replace h0:=Bk.below (Bk.al h0 _) hb
  have k0:Bk w3 (w2.heap.size) [.int .i64 0,.int .i64 0,.slice none 0 0]:=Bk.below (Bk.nw (by simp) rfl) hb
  clear hb
  rw [← i0]
  clear i0
  replace l1:=Bk.lz g0
  replace m1:=Bk.lz h0
  have c5:=Bk.lz k0
  refine hK.out _ _ ⟨a0,b0,c0⟩ (fun hHeld=>?_)
  clear hK K
  try simp only [Ep]
  refine Rdy 3 rfl (fun K hK=>?_)
  go_simp
  obtain ⟨w4,i0,hb⟩:=nmw (World.alloc w3 (.cells #[.int .i64 2,.int .i64 3,.int .i64 2,.int .i64 1,.int .i64 4] 3))
  replace hC:=((hC.trans (Chg.of_below (bal (Bs _) _)))).trans (Chg.of_below hb)
  replace hR:=(hR.below (bal (Bs _) _)).below hb
  have n0:=Ob (World.ownsRow_lit (base:=(w3).heap.size) (e:=3) (size:=1) (w3) #[.int .i64 2,.int .i64 3,.int .i64 2,.int .i64 1,.int .i64 4] 5 (Nat.le_refl _) (by unfold maxLen;omega) (by simp)) hb
  try simp only [Sa,Ss] at n0
  have i1:=hb.size
  simp only [Sa] at i1
  replace a0:=Kc hb (Ac a0 _)
  replace b0:=Kc hb (Ac b0 _)
  replace c0:=Kc hb (Ac c0 _)
  replace g0:=Bk.below (Bk.al g0 _) hb
  replace h0:=Bk.below (Bk.al h0 _) hb
  replace k0:=Bk.below (Bk.al k0 _) hb
  have p0:Bk w4 (w3.heap.size) [.int .i64 2,.int .i64 3,.int .i64 2,.int .i64 1,.int .i64 4]:=Bk.below (Bk.nw (by simp) rfl) hb
  clear hb
  have r0:=n0.lt
  try simp only [Sa] at r0
  rw [← i0]
  clear i0
  have d5:=Bk.lz p0
  refine hK.out _ _ ⟨a0,b0,c0⟩ (fun hHeld=>?_)
  clear hK K
  try simp only [Ep]
  refine Rdy 4 rfl (fun K hK=>?_)
  go_simp
  refine (num_any _ [2,3,2,1,4] _ B g (p) hR (Ro n0 (by simp)) (fun b o c hb=>by simp at hb;omega) (by simp) (by simp) (by omega)).mono ?_
  rintro e w5 ⟨d0,d0m,rfl,l0,hc⟩
  replace hC:=(hC).trans hc
  replace hR:=l0;clear l0
  have h4:=hc.size
  replace a0:=Gg hc a0
  replace b0:=Gg hc b0
  replace c0:=Gg hc c0
  replace n0:=Ow n0 hc (fun gq h h2=>by have:=r0 gq h;have:=w0 gq h2;omega)
  replace g0:=Bk.kg g0 hc
  replace h0:=Bk.kg h0 hc
  replace k0:=Bk.kg k0 hc
  replace p0:=Bk.kg p0 hc
  clear hc
  obtain ⟨d,hd,u0⟩:∃ d:Nat,d0=d∧d≤4:=⟨d0.toNat,by simp only [List.mem_cons,List.not_mem_nil,or_false] at d0m;omega,by simp only [List.mem_cons,List.not_mem_nil,or_false] at d0m;omega⟩
  subst hd
  clear d0m
  have b4:=dcost_le u0
  refine hK.out _ _ ⟨a0,b0,c0⟩ (fun hHeld=>?_)
  clear hK K
  try simp only [Ep]
  refine Rdy 5 rfl (fun K hK=>?_)
  go_simp
  refine (l2Draw_any pv pa nv cv na ca vb B g hnv hnb d (p+1) _ u0 hR (by omega)).mono ?_
  rintro e w6 ⟨n,e,p1,rfl,hE,s0,l0,i2,hc⟩
  replace hC:=(hC).trans hc
  replace hR:=l0;clear l0
  have i4:=hc.size
  replace a0:=Gg hc a0
  replace b0:=Gg hc b0
  replace c0:=Gg hc c0
  replace n0:=Ow n0 hc (fun gq h h2=>by have:=r0 gq h;have:=w0 gq h2;omega)
  replace g0:=Bk.kg g0 hc
  replace h0:=Bk.kg h0 hc
  replace k0:=Bk.kg k0 hc
  replace p0:=Bk.kg p0 hc
  clear hc
  replace hE:=ExAt.keep (S:=fun _=>False) (Chg.refl _ _) (fun _ _ _=>id) (fun q (hq:w5.heap.size≤q) hlt=>(show w5.heap.size≤q∧q < w6.heap.size from ⟨hq,hlt⟩)) (Nat.le_refl _) hE
  refine hK.out _ _ ⟨a0,b0,c0⟩ (fun hHeld=>?_)
  clear hK K
  try simp only [Ep]
  refine Rdy 7 rfl (fun K hK=>?_)
  obtain ⟨y2,o3,z2,p3,a3,q3⟩:=Bk.f3 k0 0 1 2 rfl rfl rfl
  go_simp
  obtain ⟨w7,i0,hb⟩:=nmw (World.setCell (World.setCell (World.setCell w6 ⟨w2.heap.size,0,none⟩ (.int .i64 n.k)) ⟨w2.heap.size,1,none⟩ (.int .i64 n.v)) ⟨w2.heap.size,2,none⟩ (.slice n.p n.n n.c))
  replace hC:=((((hC.sN _ _ _).sN _ _ _).sN _ _ _)).trans (Chg.of_below hb)
  replace hR:=(((hR.kC _ _ _).kC _ _ _).kC _ _ _).below hb
  replace hE:=((ExAt.kI (C1 _ _ _) (fun q _ _ h=>by omega) (ExAt.kI (C1 _ _ _) (fun q _ _ h=>by omega) (ExAt.kI (C1 _ _ _) (fun q _ _ h=>by omega) hE))).below hb)
  have j1:=hb.size
  simp only [Ss] at j1
  clear o3 y2 p3 z2 q3 a3
  replace a0:=Kc hb (Nn (Nn (Nn a0 _) _) _)
  replace b0:=Kc hb (Nn (Nn (Nn b0 _) _) _)
  replace c0:=Kc hb (Nn (Nn (Nn c0 _) _) _)
  replace n0:=Ob (Oe (Oe (Oe n0 _ _ (fun h=>by have:=r0 _ h;omega) _) _ _ (fun h=>by have:=r0 _ h;omega) _) _ _ (fun h=>by have:=r0 _ h;omega) _) hb
  replace g0:=Bk.below (Bk.nn (Bk.nn (Bk.nn g0 _) _) _) hb
  replace h0:=Bk.below (Bk.nn (Bk.nn (Bk.nn h0 _) _) _) hb
  replace k0:Bk w7 (w2.heap.size) [.int .i64 n.k,.int .i64 n.v,.slice n.p n.n n.c]:=Bk.below (Bk.at (Bk.at (Bk.at k0 0 (.int .i64 n.k)) 1 (.int .i64 n.v)) 2 (.slice n.p n.n n.c)) hb
  replace p0:=Bk.below (Bk.nn (Bk.nn (Bk.nn p0 _) _) _) hb
  clear hb
  rw [← i0]
  clear i0
  refine hK.out _ _ ⟨a0,b0,c0⟩ (fun hHeld=>?_)
  clear hK K
  try simp only [Ep]
  refine Dn ?_
  clear hHeld
  have v0:=ExAt.keep (S:=fun _=>False) (Chg.refl _ _) (fun _ _ _=>id) (fun _ h _=>h) (by omega:d+1≤5) hE;have t0:=Thin.mono (by omega:d+1≤5) s0
  obtain ⟨q5,d6,r5,e6,s5,f6⟩:=Bk.f3 k0 0 1 2 rfl rfl rfl
  go_wp2_with fail
  go_meet
  exact ⟨n,e,_,_,w5.heap.size,w6.heap.size,rfl,k0,g0,h0,v0,t0,by omega,hR,by omega,hC,by omega⟩
 obtain ⟨w3,rfl⟩:∃ W,W=wc:=⟨_,rfl⟩
 clear hR hC g0 h0
 obtain ⟨n,e,b5,pk,lo,hi,rfl,z0,x0,y0,hE,s0,g6,hR,i6,hC,j6⟩:=hcut
 have t0:=Lib.hid s0;clear s0
 have e5:=Bk.lz z0
 have f5:=Bk.lz x0
 have g5:=Bk.lz y0
 have v4:=Lib.hid (l2Right_any pv pa nv cv na ca vb _ 5 n e _ hE)
 obtain ⟨b3,r3,c3,s3,d3,t3⟩:=Bk.f3 z0 0 1 2 rfl rfl rfl
 obtain ⟨n1,b2,o1,c2,q1,d2⟩:=Bk.f3 x0 0 1 2 rfl rfl rfl
 go_wp2_with fail
 refine (v4.out).mono ?_
 rintro e w4 ⟨rfl,hb⟩
 replace hC:=(hC).trans (Chg.of_below hb)
 replace hR:=hR.below hb
 replace hE:=(hE.below hb)
 have k2:=hb.size
 clear r3 b3 s3 c3 t3 d3 b2 n1 c2 o1 d2 q1
 replace z0:=Bk.below z0 hb
 replace x0:=Bk.below x0 hb
 replace y0:=Bk.below y0 hb
 clear hb
 cases hx:exRight nv na e with
 | true =>
  have tE:=Lib.hid (ExAt.keep (C1 (w.heap.size+1) (2) (.slice n.p n.n n.c)) (fun q (hq:lo≤q∧q < hi) _ (h:q=(w.heap.size+1))=>by omega) (fun _ h _=>h) (Nat.le_refl _) (ExAt.keep (C1 (w.heap.size+1) (1) (.int .i64 n.v)) (fun q (hq:lo≤q∧q < hi) _ (h:q=(w.heap.size+1))=>by omega) (fun _ h _=>h) (Nat.le_refl _) (ExAt.keep (C1 (w.heap.size+1) (0) (.int .i64 n.k)) (fun q (hq:lo≤q∧q < hi) _ (h:q=(w.heap.size+1))=>by omega) (fun _ h _=>h) (Nat.le_refl _) hE)))
  clear hE
  have tC:=(((hC.sN (w.heap.size+1) (0) (.int .i64 n.k)).sN (w.heap.size+1) (1) (.int .i64 n.v)).sN (w.heap.size+1) (2) (.slice n.p n.n n.c));have tR:=(((hR.kC (w.heap.size+1) (0) (.int .i64 n.k)).kC (w.heap.size+1) (1) (.int .i64 n.v)).kC (w.heap.size+1) (2) (.slice n.p n.n n.c))
  obtain ⟨j4,m4,k4,n4,l4,o4⟩:=Bk.f3 z0 0 1 2 rfl rfl rfl
  obtain ⟨r1,p4,s1,q4,t1,r4⟩:=Bk.f3 y0 0 1 2 rfl rfl rfl
  have u3:=(Nn (b:=(w.heap.size+1)) (j:=2) (Nn (b:=(w.heap.size+1)) (j:=1) (Tc _ (w.heap.size+1) 0 (.int .i64 n.k) r1) (.int .i64 n.v)) (.slice n.p n.n n.c))
  have v3:=(Nn (b:=(w.heap.size+1)) (j:=2) (Tc _ (w.heap.size+1) 1 (.int .i64 n.v) (Nn (b:=(w.heap.size+1)) (j:=0) s1 (.int .i64 n.k))) (.slice n.p n.n n.c))
  have x3:=(Tc _ (w.heap.size+1) 2 (.slice n.p n.n n.c) (Nn (b:=(w.heap.size+1)) (j:=1) (Nn (b:=(w.heap.size+1)) (j:=0) t1 (.int .i64 n.k)) (.int .i64 n.v)))
  have tt:=True.intro
  go_wp2
  exact bodyPost_ret (v:=.agg #[.int .i64 n.k,.int .i64 n.v,.slice n.p n.n n.c]) (by simp [results,Try.results169,go_sem,u3,v3,x3]) rfl (by exact ⟨n,e,_,rfl,ExAt.keep (S:=fun _=>False) (Chg.refl _ _) (fun _ _ _=>id) (fun q (hq:lo≤q∧q < hi) _=>by show w.heap.size≤q;omega) (Nat.le_refl _) tE.out,t0.out,tR,by omega,tC⟩)
 | false =>
  clear hE
  obtain ⟨u1,e2,v1,f2,x1,g2⟩:=Bk.f3 x0 0 1 2 rfl rfl rfl
  go_wp2_with fail
  refine (l2DrawAtom_any pv pa nv cv na ca vb B g (pk) _ hR (by omega) hnv hnb).mono ?_
  rintro e w5 ⟨k,v,p2,rfl,l0,h6,hc⟩
  replace hC:=(hC).trans hc
  replace hR:=l0;clear l0
  have l2:=hc.size
  clear e2 u1 f2 v1 g2 x1
  replace z0:=Bk.kg z0 hc
  replace x0:=Bk.kg x0 hc
  replace y0:=Bk.kg y0 hc
  clear hc
  have tC:=(((hC.sN (w.heap.size+1) (0) (.int .i64 k)).sN (w.heap.size+1) (1) (.int .i64 v)).sN (w.heap.size+1) (2) (.slice none 0 0));have tR:=(((hR.kC (w.heap.size+1) (0) (.int .i64 k)).kC (w.heap.size+1) (1) (.int .i64 v)).kC (w.heap.size+1) (2) (.slice none 0 0))
  obtain ⟨y1,s4,z1,t4,a2,u4⟩:=Bk.f3 y0 0 1 2 rfl rfl rfl
  have y3:=(Nn (b:=(w.heap.size+1)) (j:=2) (Nn (b:=(w.heap.size+1)) (j:=1) (Tc _ (w.heap.size+1) 0 (.int .i64 k) y1) (.int .i64 v)) (.slice none 0 0))
  have z3:=(Nn (b:=(w.heap.size+1)) (j:=2) (Tc _ (w.heap.size+1) 1 (.int .i64 v) (Nn (b:=(w.heap.size+1)) (j:=0) z1 (.int .i64 k))) (.slice none 0 0))
  have a4:=(Tc _ (w.heap.size+1) 2 (.slice none 0 0) (Nn (b:=(w.heap.size+1)) (j:=1) (Nn (b:=(w.heap.size+1)) (j:=0) a2 (.int .i64 k)) (.int .i64 v)))
  have tt:=True.intro
  go_wp2
  exact bodyPost_ret (v:=.agg #[.int .i64 k,.int .i64 v,.slice none 0 0]) (by simp [results,Try.results169,go_sem,y3,z3,a4]) rfl (by exact ⟨⟨k,v,none,0,0⟩,.mk k v [],_,rfl,ExAt.leaf k v,Thin.mono (by omega:1≤5) ⟨by simp [Ex.kids],fun x hx=>by simp [Ex.kids] at hx⟩,tR,by omega,tC⟩)
end Go.Proofs.Ytkjedgnepnbkpaa
