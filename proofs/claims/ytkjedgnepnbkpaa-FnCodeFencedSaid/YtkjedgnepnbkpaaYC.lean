/-
 Parts of the proofs of the laws FnCodeFenced,FnCountBranches.
-/
import Derived.Test.YtkjedgnepnbkpaaQI
import Derived.Test.YtkjedgnepnbkpaaYB
set_option linter.all false
namespace Go.Proofs.Ytkjedgnepnbkpaa
open Go.RowKit
set_option maxHeartbeats 6400000 in
set_option maxRecDepth 100000 in
theorem l6Code_any (B g p:Nat) (w:World) (hR:Rnd w B g p) (hp:p+3001000≤1000000000) :
  Calls Try.prog 105 #[.pointer (some ⟨g,0,none⟩)] w fun r w'=>∃ (va vb vl:Value) (nv na n p':Nat),r=.returned (.agg #[va,vb,vl])∧DrawC w' w.heap.size va vb vl nv na n∧(1≤nv∧nv≤5)∧na≤2∧(1≤n∧n≤12)∧Rnd w' B g p'∧p'≤p+3001000∧Chg (fun q=>q=g) w w':=by
 have hg:=hR.lt
 have hC:Chg (fun k=>k=g) w w:=Chg.refl _ _
 have z2:∀ q,(fun k=>k=g) q→q=g:=fun q h=>h
 go_enter Try.func105,Try.ntmps105
 go_wp2_with fail
 refine (l2Program_any B g (p) _ (hR.below (bal (Bs _) (.cells #[.slice none 0 0,.slice none 0 0,.slice none 0 0] 26))) (by omega)).mono ?_
 rintro e w1 ⟨a0,a1,a2,c0,c1,c2,us,ys,L,p1,rfl,oV,oA,u6,v6,x6,i1,v8,x8,b9,p0,y9,hc⟩
 have hd:=HeadD.of oV oA u6
 try simp only [Sa,Ss] at hd
 have l0:1≤us.length∧us.length≤5:=⟨v6,x6⟩
 clear oV oA u6 v8 b9 x8 v6 x6
 generalize us.length=nv at *
 generalize ys.length=na at *
 generalize L.length=nl at *
 clear us ys L
 replace hC:=((hC.trans (Chg.of_below (bal (Bs _) _)))).trans hc
 replace hR:=p0;clear p0
 have s5:=hc.size
 simp only [Sa] at s5
 have u2:Bk w1 (w.heap.size) [.slice none 0 0,.slice none 0 0,.slice none 0 0]:=Bk.kg (Bk.nw (by simp) rfl) hc
 clear hc
 have o5:=hd.lt
 try simp only [Sa] at o5
 have l7:=Bk.lz u2
 go_upto_region 3 with (fail)
 obtain ⟨w2,i0,hb⟩:=nmw (World.alloc (World.alloc w1 (.cells #[.slice a0 nv c0,.slice a1 na c1,.slice a2 nl c2] 110)) (.cells #[.slice a0 nv c0,.slice a1 na c1,.slice none 0 0] 26))
 replace hC:=(((hC.trans (Chg.of_below (bal (Bs _) _))).trans (Chg.of_below (bal (Bs _) _)))).trans (Chg.of_below hb)
 replace hR:=((hR.below (bal (Bs _) _)).below (bal (Bs _) _)).below hb
 have t5:=hb.size
 simp only [Sa] at t5
 replace hd:=((hd.below (bal (Bs _) _)).below (bal (Bs _) _)).below hb
 replace u2:=Bk.below (Bk.al (Bk.al u2 _) _) hb
 have i4:Bk w2 (w1.heap.size) [.slice a0 nv c0,.slice a1 na c1,.slice a2 nl c2]:=Bk.below (Bk.al (Bk.nw (by simp) rfl) (.cells #[.slice a0 nv c0,.slice a1 na c1,.slice none 0 0] 26)) hb
 have g4:Bk w2 (w1.heap.size+1) [.slice a0 nv c0,.slice a1 na c1,.slice none 0 0]:=Bk.below (Bk.nw (by simp) rfl) hb
 clear hb
 rw [← i0]
 clear i0
 replace l7:=Bk.lz u2
 have h9:=Bk.lz i4
 have j9:=Bk.lz g4
 go_wp2_with fail
 refine (num_any _ [6,8,4,10,1,12] _ B g (p1) (hR.below (bal (Bs _) (.cells #[.int .i64 6,.int .i64 8,.int .i64 4,.int .i64 10,.int .i64 1,.int .i64 12] 3))) (Ro (World.ownsRow_lit (base:=(w2).heap.size) (e:=3) (size:=1) (w2) #[.int .i64 6,.int .i64 8,.int .i64 4,.int .i64 10,.int .i64 1,.int .i64 12] 6 (Nat.le_refl _) (by unfold maxLen;omega) (by simp)) (by simp)) (fun b o c hb=>by simp at hb;omega) (by simp) (by simp) (by omega)).mono ?_
 rintro e w3 ⟨t0,t0m,rfl,p0,hc⟩
 replace hC:=((hC.trans (Chg.of_below (bal (Bs _) _)))).trans hc
 replace hR:=p0;clear p0
 have v4:=hc.size
 simp only [Sa] at v4
 replace hd:=(hd.below (bal (Bs _) _)).keep hc (fun gq h h2=>by have:=o5 gq h;have:=z2 gq h2;omega)
 replace u2:=Bk.kg (Bk.al u2 _) hc
 replace i4:=Bk.kg (Bk.al i4 _) hc
 replace g4:=Bk.kg (Bk.al g4 _) hc
 have m3:Bk w3 (w2.heap.size) [.int .i64 6,.int .i64 8,.int .i64 4,.int .i64 10,.int .i64 1,.int .i64 12]:=Bk.kg (Bk.nw (by simp) rfl) hc
 clear hc
 have z5:=Bk.lz m3
 obtain ⟨t,rfl,ht⟩:∃ t:Nat,t0=t∧1≤t∧t≤12:=by simp only [List.mem_cons,List.not_mem_nil,or_false] at t0m;exact ⟨t0.toNat,by omega,by omega,by omega⟩
 go_upto_region 4 with (fail)
 replace l7:=Bk.lz u2
 replace h9:=Bk.lz i4
 replace j9:=Bk.lz g4
 replace z5:=Bk.lz m3
 clear i4
 clear m3
 have t6:Hid (∃ (k pk:Nat) (xs:List Ins) (a:Option Addr) (c:Nat),Value.int .i64 0=.int .i64 k∧k+1≤t∧Hid (xs.length=k)∧w3.ownsRow w3.heap.size 32 5 (.slice a k c) k (inss xs)∧Bk w3 (w1.heap.size+1) [.slice a0 nv c0,.slice a1 na c1,.slice a k c]∧Bk w3 (w.heap.size) [.slice none 0 0,.slice none 0 0,.slice none 0 0]∧HeadD w3 (w.heap.size+1) (.slice a0 nv c0) (.slice a1 na c1) nv na∧(∀ q,((Value.slice a0 nv c0).ownBlock=some q∨(Value.slice a1 na c1).ownBlock=some q)→q < w3.heap.size∧¬q=w1.heap.size+1)∧Rnd w3 B g pk∧pk≤p1+1+5*k∧Chg (fun q=>q=g) w w3∧w3.heap.size≤w3.heap.size):=Lib.hid ⟨0,p1+1,[],none,0,rfl,by omega,Lib.hid rfl,World.ownsRow_nil _ _ _ _,g4,u2,HeadD.mono hd (by omega),fun q h=>by have:=o5 q h;omega,hR,by omega,hC,Nat.le_refl _⟩
 have c9:w.heap.size≤w.heap.size∧w.heap.size < w3.heap.size∧w.heap.size≤w1.heap.size+1∧w1.heap.size+1 < w3.heap.size∧¬w.heap.size=w1.heap.size+1:=by omega
 clear hR hC u2 hd g4 o5
 go_wp2_with fail
 go_loopw [6] (fun i wr=>∃ (k pk:Nat) (xs:List Ins) (a:Option Addr) (c:Nat),i=.int .i64 k∧k+1≤t∧Hid (xs.length=k)∧wr.ownsRow w3.heap.size 32 5 (.slice a k c) k (inss xs)∧Bk wr (w1.heap.size+1) [.slice a0 nv c0,.slice a1 na c1,.slice a k c]∧Bk wr (w.heap.size) [.slice none 0 0,.slice none 0 0,.slice none 0 0]∧HeadD wr (w.heap.size+1) (.slice a0 nv c0) (.slice a1 na c1) nv na∧(∀ q,((Value.slice a0 nv c0).ownBlock=some q∨(Value.slice a1 na c1).ownBlock=some q)→q < w3.heap.size∧¬q=w1.heap.size+1)∧Rnd wr B g pk∧pk≤p1+1+5*k∧Chg (fun q=>q=g) w wr∧w3.heap.size≤wr.heap.size) (fun i _=>t-(intOf i).toNat)
 case atStart=>exact t6.out
 case round =>
  obtain ⟨k,pk,xs,a,c,rfl,hk,h4,oX,b0,d0,hd,y0,hR,x9,hC,bA⟩:=hrel
  clear t6
  obtain ⟨wl,rfl⟩:∃ X,X=wr:=⟨_,rfl⟩
  have iH:∀ q,((Value.slice a0 nv c0).ownBlock=some q∨(Value.slice a1 na c1).ownBlock=some q)→q < w3.heap.size∧w.heap.size+1≤q∧¬q=w1.heap.size+1:=fun q h=>by have:=y0 q h;have:=hd.lt q h;omega
  have iX:=oX.lt
  clear y0
  have n0:=Bk.lz b0
  have o0:=Bk.lz d0
  by_cases hlt:k+1 < t
  ·have y6:(k:Int) < (t:Int)-1:=by omega
   go_upto_region 7 with (fail)
   have e0:=Bk.cell b0 0 (v:=.slice a0 nv c0) rfl
   have f0:=Bk.cell b0 1 (v:=.slice a1 na c1) rfl
   refine wp_region_noPanic ?_
   refine wp_region_held_drew (S:=(fun W'=>True)) (by kernel_rfl) trivial (fun hHeld=>?_)
   obtain ⟨w4,q3⟩:∃ X,X=World.drew wl:=⟨_,rfl⟩
   rw [← q3]
   have hb:Below wl.heap.size wl w4:=by rw [q3];exact Below.drew (Bs _)
   clear q3
   replace hC:=(hC).trans (Chg.of_below hb)
   replace hR:=hR.below hb
   have a7:=hb.size
   replace hd:=hd.below hb
   replace oX:=Ob oX hb
   replace e0:=Kc hb e0
   replace f0:=Kc hb f0
   replace b0:=Bk.below b0 hb
   replace d0:=Bk.below d0 hb
   clear hb
   replace n0:=Bk.lz b0
   replace o0:=Bk.lz d0
   refine (tq 0 23 rfl rfl ?_ ?_ (tq 2 25 rfl rfl ?_ ?_ (tq 4 27 rfl rfl ?_ ?_ (tq 5 28 rfl rfl ?_ ?_ ?_))))
   iterate 4 (rotate_left;intro W' hSw;clear hSw;go_simp;try with_reducible rfl)
   try simp only [Ep]
   refine Rdy2 1 3 rfl rfl (fun K hK=>?_) (fun K hK=>?_)
   ·obtain ⟨b6,k6⟩:=Bk.cf b0 2 rfl
    go_simp
    refine hK.out _ _ trivial (fun hHeld=>?_)
    clear hK K
    try simp only [Ep]
    refine Rdy 3 rfl (fun K hK=>?_)
    go_simp
    refine hK.out _ _ trivial (fun hHeld=>?_)
    clear hK K
    try simp only [Ep]
    refine Rdy 6 rfl (fun K hK=>?_)
    go_simp
    refine (l6Random_any a0 a1 _ nv c0 na c1 _ _ B g (pk) k t _ hR (by omega) (by omega) (by omega) hlt (by omega)).mono ?_
    rintro e w5 ⟨x0,x1,x2,x3,x4,p3,rfl,p0,z6,hc⟩
    replace hC:=(hC).trans hc
    replace hR:=p0;clear p0
    have b7:=hc.size
    clear k6 b6
    replace hd:=hd.keep hc (fun gq h h2=>by have:=iH gq h;have:=z2 gq h2;omega)
    replace oX:=Ow oX hc (fun gq h h2=>by have:=iX gq h;have:=z2 gq h2;omega)
    replace e0:=Gg hc e0
    replace f0:=Gg hc f0
    replace b0:=Bk.kg b0 hc
    replace d0:=Bk.kg d0 hc
    clear hc
    replace n0:=Bk.lz b0
    replace o0:=Bk.lz d0
    refine hK.out _ _ trivial (fun hHeld=>?_)
    clear hK K
    try simp only [Ep]
    refine Rdy 7 rfl (fun K hK=>?_)
    go_simp
    obtain ⟨w6,i0,hb⟩:=nmw (World.alloc w5 (.cells #[.int .i64 x0,.int .i64 x1,.int .i64 x2,.int .i64 x3,.int .i64 x4] 32))
    replace hC:=((hC.trans (Chg.of_below (bal (Bs _) _)))).trans (Chg.of_below hb)
    replace hR:=(hR.below (bal (Bs _) _)).below hb
    have r0:=Ob (World.ownsRow_lit (base:=(w5).heap.size) (e:=32) (size:=5) (w5) #[.int .i64 x0,.int .i64 x1,.int .i64 x2,.int .i64 x3,.int .i64 x4] 1 (Nat.le_refl _) (by unfold maxLen;omega) (by simp)) hb
    try simp only [Sa,Ss] at r0
    have y4:=hb.size
    simp only [Sa] at y4
    replace hd:=(hd.below (bal (Bs _) _)).below hb
    replace oX:=Ob (Ob oX (bal (Bs _) _)) hb
    replace e0:=Kc hb (Ac e0 _)
    replace f0:=Kc hb (Ac f0 _)
    replace b0:=Bk.below (Bk.al b0 _) hb
    replace d0:=Bk.below (Bk.al d0 _) hb
    have j1:Bk w6 (w5.heap.size) [.int .i64 x0,.int .i64 x1,.int .i64 x2,.int .i64 x3,.int .i64 x4]:=Bk.below (Bk.nw (by simp) rfl) hb
    clear hb
    have r3:=r0.lt
    try simp only [Sa] at r3
    rw [← i0]
    clear i0
    replace n0:=Bk.lz b0
    replace o0:=Bk.lz d0
    have e9:=Bk.lz j1
    refine hK.out _ _ trivial (fun hHeld=>?_)
    clear hK K
    try simp only [Ep]
    refine Rdy 8 rfl (fun K hK=>?_)
    refine step_aps tInstrs rfl _ _ rfl (w3.heap.size) _ k (inss xs) rfl oX _ 1 (insc ⟨x0,x1,x2,x3,x4⟩) rfl ((Ro r0 (by simp))) (one_insc ⟨x0,x1,x2,x3,x4⟩) (by omega) (by first | omega | (simp only [Sa,Ss];omega)) ?_
    intro vA w7 d1 hc y2 _
    obtain ⟨v3,c4,rfl⟩:=Oh d1
    replace hC:=chg_app hC hc (fun q hq h=>by have:=iX q h;omega)
    replace hR:=hR.keep hc (fun h=>by have:=iX _ h;omega) (fun k hk h=>by have:=iX _ h;omega)
    have c7:=hc.size
    replace hd:=hd.keep hc (fun gq h h2=>by have:=iH gq h;have:=iX gq h2;omega)
    replace e0:=Gc hc e0 (fun h=>by have:=iX _ h;omega)
    replace f0:=Gc hc f0 (fun h=>by have:=iX _ h;omega)
    replace r0:=Ow r0 hc (fun gq h h2=>by have:=r3 gq h;have:=iX gq h2;omega)
    replace b0:=Bk.keep b0 hc (fun h=>by have:=iX _ h;omega)
    replace d0:=Bk.keep d0 hc (fun h=>by have:=iX _ h;omega)
    replace j1:=Bk.keep j1 hc (fun h=>by have:=iX _ h;omega)
    clear hc
    have u5:=d1.lt
    clear y2 oX
    refine hK.out _ _ trivial (fun hHeld=>?_)
    clear hK K
    try simp only [Ep]
    refine (tq 9 32 rfl rfl ?_ ?_ ?_)
    (rotate_left;intro W' hSw;clear hSw;go_simp;try with_reducible rfl)
    try simp only [Ep]
    refine Rdy 10 rfl (fun K hK=>?_)
    obtain ⟨c6,l6⟩:=Bk.cf b0 2 rfl
    go_simp
    obtain ⟨w8,i0,hb⟩:=nmw (World.setCell w7 ⟨w1.heap.size+1,2,none⟩ (.slice v3 (k+1) c4))
    replace hC:=((hC.sN _ _ _)).trans (Chg.of_below hb)
    replace hR:=(hR.kC _ _ _).below hb
    have z4:=hb.size
    simp only [Ss] at z4
    clear l6 c6
    replace hd:=(hd.keep (C1 _ _ _) (fun gq h h2=>by have:=iH gq h;omega)).below hb
    replace e0:=Kc hb (Nn e0 _)
    replace f0:=Kc hb (Nn f0 _)
    replace r0:=Ob (Oe r0 _ _ (fun h=>by have:=r3 _ h;omega) _) hb
    replace d1:=Ob (Oe d1 _ _ (fun h=>by have:=u5 _ h;omega) _) hb
    replace b0:Bk w8 (w1.heap.size+1) [.slice a0 nv c0,.slice a1 na c1,.slice v3 (k+1) c4]:=Bk.below (Bk.at b0 2 (.slice v3 (k+1) c4)) hb
    replace d0:=Bk.below (Bk.nn d0 _) hb
    replace j1:=Bk.below (Bk.nn j1 _) hb
    clear hb
    rw [← i0]
    clear i0
    refine hK.out _ _ trivial (fun hHeld=>?_)
    clear hK K
    try simp only [Ep]
    refine Dn ?_
    clear hHeld
    have HO:=Lib.hid (show w8.ownsRow w3.heap.size 32 5 _ (k+1) (inss (xs++[⟨x0,x1,x2,x3,x4⟩])) from by rw [inss,rows_append];exact d1)
    have q0:Hid ((xs++([⟨x0,x1,x2,x3,x4⟩]:List Ins)).length=k+1):=Lib.hid (by rw [List.length_append,h4.out];rfl)
    have HH:=Lib.hid (And.intro hR (And.intro hC hd));clear hR hC hd d1
    have y0:∀ q,((Value.slice a0 nv c0).ownBlock=some q∨(Value.slice a1 na c1).ownBlock=some q)→q < w3.heap.size∧¬q=w1.heap.size+1:=fun q h=>by have:=iH q h;omega
    have l3:=Lib.hid y0;clear y0
    obtain ⟨l9,p9⟩:=Bk.cf b0 2 rfl
    go_wp2
    go_roundw
    case rel=>exact ⟨k+1,p3,xs++[⟨x0,x1,x2,x3,x4⟩],_,_,by go_num,by omega,q0,HO.out,b0,d0,HH.out.2.2,l3.out,HH.out.1,by omega,HH.out.2.1,by omega⟩
    case measure=>simp [intOf];omega
   obtain ⟨j5,k5⟩:=Bk.cf b0 2 rfl
   go_simp
   replace n0:=Bk.lz b0
   replace o0:=Bk.lz d0
   refine hK.out _ _ trivial (fun hHeld=>?_)
   clear hK K
   try simp only [Ep]
   refine Rdy2 1 6 rfl rfl (fun K hK=>?_) (fun K hK=>?_)
   ·go_simp
    refine hK.out _ _ trivial (fun hHeld=>?_)
    clear hK K
    try simp only [Ep]
    refine Rdy 6 rfl (fun K hK=>?_)
    go_simp
    refine (l6Random_any a0 a1 _ nv c0 na c1 _ _ B g (pk) k t _ hR (by omega) (by omega) (by omega) hlt (by omega)).mono ?_
    rintro e w5 ⟨x0,x1,x2,x3,x4,p3,rfl,p0,z6,hc⟩
    replace hC:=(hC).trans hc
    replace hR:=p0;clear p0
    have d7:=hc.size
    clear k5 j5
    replace hd:=hd.keep hc (fun gq h h2=>by have:=iH gq h;have:=z2 gq h2;omega)
    replace oX:=Ow oX hc (fun gq h h2=>by have:=iX gq h;have:=z2 gq h2;omega)
    replace e0:=Gg hc e0
    replace f0:=Gg hc f0
    replace b0:=Bk.kg b0 hc
    replace d0:=Bk.kg d0 hc
    clear hc
    replace n0:=Bk.lz b0
    replace o0:=Bk.lz d0
    refine hK.out _ _ trivial (fun hHeld=>?_)
    clear hK K
    try simp only [Ep]
    refine Rdy 7 rfl (fun K hK=>?_)
    go_simp
    obtain ⟨w6,i0,hb⟩:=nmw (World.alloc w5 (.cells #[.int .i64 x0,.int .i64 x1,.int .i64 x2,.int .i64 x3,.int .i64 x4] 32))
    replace hC:=((hC.trans (Chg.of_below (bal (Bs _) _)))).trans (Chg.of_below hb)
    replace hR:=(hR.below (bal (Bs _) _)).below hb
    have s0:=Ob (World.ownsRow_lit (base:=(w5).heap.size) (e:=32) (size:=5) (w5) #[.int .i64 x0,.int .i64 x1,.int .i64 x2,.int .i64 x3,.int .i64 x4] 1 (Nat.le_refl _) (by unfold maxLen;omega) (by simp)) hb
    try simp only [Sa,Ss] at s0
    have a5:=hb.size
    simp only [Sa] at a5
    replace hd:=(hd.below (bal (Bs _) _)).below hb
    replace oX:=Ob (Ob oX (bal (Bs _) _)) hb
    replace e0:=Kc hb (Ac e0 _)
    replace f0:=Kc hb (Ac f0 _)
    replace b0:=Bk.below (Bk.al b0 _) hb
    replace d0:=Bk.below (Bk.al d0 _) hb
    have k1:Bk w6 (w5.heap.size) [.int .i64 x0,.int .i64 x1,.int .i64 x2,.int .i64 x3,.int .i64 x4]:=Bk.below (Bk.nw (by simp) rfl) hb
    clear hb
    have s3:=s0.lt
    try simp only [Sa] at s3
    rw [← i0]
    clear i0
    replace n0:=Bk.lz b0
    replace o0:=Bk.lz d0
    have f9:=Bk.lz k1
    refine hK.out _ _ trivial (fun hHeld=>?_)
    clear hK K
    try simp only [Ep]
    refine Rdy 8 rfl (fun K hK=>?_)
    refine step_aps tInstrs rfl _ _ rfl (w3.heap.size) _ k (inss xs) rfl oX _ 1 (insc ⟨x0,x1,x2,x3,x4⟩) rfl ((Ro s0 (by simp))) (one_insc ⟨x0,x1,x2,x3,x4⟩) (by omega) (by first | omega | (simp only [Sa,Ss];omega)) ?_
    intro vA w7 e1 hc y2 _
    obtain ⟨y3,d4,rfl⟩:=Oh e1
    replace hC:=chg_app hC hc (fun q hq h=>by have:=iX q h;omega)
    replace hR:=hR.keep hc (fun h=>by have:=iX _ h;omega) (fun k hk h=>by have:=iX _ h;omega)
    have e7:=hc.size
    replace hd:=hd.keep hc (fun gq h h2=>by have:=iH gq h;have:=iX gq h2;omega)
    replace e0:=Gc hc e0 (fun h=>by have:=iX _ h;omega)
    replace f0:=Gc hc f0 (fun h=>by have:=iX _ h;omega)
    replace s0:=Ow s0 hc (fun gq h h2=>by have:=s3 gq h;have:=iX gq h2;omega)
    replace b0:=Bk.keep b0 hc (fun h=>by have:=iX _ h;omega)
    replace d0:=Bk.keep d0 hc (fun h=>by have:=iX _ h;omega)
    replace k1:=Bk.keep k1 hc (fun h=>by have:=iX _ h;omega)
    clear hc
    have v5:=e1.lt
    clear y2 oX
    refine hK.out _ _ trivial (fun hHeld=>?_)
    clear hK K
    try simp only [Ep]
    refine (tq 9 32 rfl rfl ?_ ?_ ?_)
    (rotate_left;intro W' hSw;clear hSw;go_simp;try with_reducible rfl)
    try simp only [Ep]
    refine Rdy 10 rfl (fun K hK=>?_)
    obtain ⟨d6,m6⟩:=Bk.cf b0 2 rfl
    go_simp
    obtain ⟨w8,i0,hb⟩:=nmw (World.setCell w7 ⟨w1.heap.size+1,2,none⟩ (.slice y3 (k+1) d4))
    replace hC:=((hC.sN _ _ _)).trans (Chg.of_below hb)
    replace hR:=(hR.kC _ _ _).below hb
    have b5:=hb.size
    simp only [Ss] at b5
    clear m6 d6
    replace hd:=(hd.keep (C1 _ _ _) (fun gq h h2=>by have:=iH gq h;omega)).below hb
    replace e0:=Kc hb (Nn e0 _)
    replace f0:=Kc hb (Nn f0 _)
    replace s0:=Ob (Oe s0 _ _ (fun h=>by have:=s3 _ h;omega) _) hb
    replace e1:=Ob (Oe e1 _ _ (fun h=>by have:=v5 _ h;omega) _) hb
    replace b0:Bk w8 (w1.heap.size+1) [.slice a0 nv c0,.slice a1 na c1,.slice y3 (k+1) d4]:=Bk.below (Bk.at b0 2 (.slice y3 (k+1) d4)) hb
    replace d0:=Bk.below (Bk.nn d0 _) hb
    replace k1:=Bk.below (Bk.nn k1 _) hb
    clear hb
    rw [← i0]
    clear i0
    refine hK.out _ _ trivial (fun hHeld=>?_)
    clear hK K
    try simp only [Ep]
    refine Dn ?_
    clear hHeld
    have HO:=Lib.hid (show w8.ownsRow w3.heap.size 32 5 _ (k+1) (inss (xs++[⟨x0,x1,x2,x3,x4⟩])) from by rw [inss,rows_append];exact e1)
    have q0:Hid ((xs++([⟨x0,x1,x2,x3,x4⟩]:List Ins)).length=k+1):=Lib.hid (by rw [List.length_append,h4.out];rfl)
    have HH:=Lib.hid (And.intro hR (And.intro hC hd));clear hR hC hd e1
    have y0:∀ q,((Value.slice a0 nv c0).ownBlock=some q∨(Value.slice a1 na c1).ownBlock=some q)→q < w3.heap.size∧¬q=w1.heap.size+1:=fun q h=>by have:=iH q h;omega
    have l3:=Lib.hid y0;clear y0
    obtain ⟨m9,q9⟩:=Bk.cf b0 2 rfl
    go_wp2
    go_roundw
    case rel=>exact ⟨k+1,p3,xs++[⟨x0,x1,x2,x3,x4⟩],_,_,by go_num,by omega,q0,HO.out,b0,d0,HH.out.2.2,l3.out,HH.out.1,by omega,HH.out.2.1,by omega⟩
    case measure=>simp [intOf];omega
   go_simp
   refine (l6Random_any a0 a1 _ nv c0 na c1 _ _ B g (pk) k t _ hR (by omega) (by omega) (by omega) hlt (by omega)).mono ?_
   rintro e w5 ⟨x0,x1,x2,x3,x4,p3,rfl,p0,z6,hc⟩
   replace hC:=(hC).trans hc
   replace hR:=p0;clear p0
   have f7:=hc.size
   clear k5 j5
   replace hd:=hd.keep hc (fun gq h h2=>by have:=iH gq h;have:=z2 gq h2;omega)
   replace oX:=Ow oX hc (fun gq h h2=>by have:=iX gq h;have:=z2 gq h2;omega)
   replace e0:=Gg hc e0
   replace f0:=Gg hc f0
   replace b0:=Bk.kg b0 hc
   replace d0:=Bk.kg d0 hc
   clear hc
   replace n0:=Bk.lz b0
   replace o0:=Bk.lz d0
   refine hK.out _ _ trivial (fun hHeld=>?_)
   clear hK K
   try simp only [Ep]
   refine Rdy2 1 7 rfl rfl (fun K hK=>?_) (fun K hK=>?_)
   ·obtain ⟨e6,n6⟩:=Bk.cf b0 2 rfl
    go_simp
    replace n0:=Bk.lz b0
    replace o0:=Bk.lz d0
    refine hK.out _ _ trivial (fun hHeld=>?_)
    clear hK K
    try simp only [Ep]
    refine Rdy 7 rfl (fun K hK=>?_)
    go_simp
    obtain ⟨w6,i0,hb⟩:=nmw (World.alloc w5 (.cells #[.int .i64 x0,.int .i64 x1,.int .i64 x2,.int .i64 x3,.int .i64 x4] 32))
    replace hC:=((hC.trans (Chg.of_below (bal (Bs _) _)))).trans (Chg.of_below hb)
    replace hR:=(hR.below (bal (Bs _) _)).below hb
    have u0:=Ob (World.ownsRow_lit (base:=(w5).heap.size) (e:=32) (size:=5) (w5) #[.int .i64 x0,.int .i64 x1,.int .i64 x2,.int .i64 x3,.int .i64 x4] 1 (Nat.le_refl _) (by unfold maxLen;omega) (by simp)) hb
    try simp only [Sa,Ss] at u0
    have c5:=hb.size
    simp only [Sa] at c5
    clear n6 e6
    replace hd:=(hd.below (bal (Bs _) _)).below hb
    replace oX:=Ob (Ob oX (bal (Bs _) _)) hb
    replace e0:=Kc hb (Ac e0 _)
    replace f0:=Kc hb (Ac f0 _)
    replace b0:=Bk.below (Bk.al b0 _) hb
    replace d0:=Bk.below (Bk.al d0 _) hb
    have l1:Bk w6 (w5.heap.size) [.int .i64 x0,.int .i64 x1,.int .i64 x2,.int .i64 x3,.int .i64 x4]:=Bk.below (Bk.nw (by simp) rfl) hb
    clear hb
    have t3:=u0.lt
    try simp only [Sa] at t3
    rw [← i0]
    clear i0
    replace n0:=Bk.lz b0
    replace o0:=Bk.lz d0
    have g9:=Bk.lz l1
    refine hK.out _ _ trivial (fun hHeld=>?_)
    clear hK K
    try simp only [Ep]
    refine Rdy 8 rfl (fun K hK=>?_)
    refine step_aps tInstrs rfl _ _ rfl (w3.heap.size) _ k (inss xs) rfl oX _ 1 (insc ⟨x0,x1,x2,x3,x4⟩) rfl ((Ro u0 (by simp))) (one_insc ⟨x0,x1,x2,x3,x4⟩) (by omega) (by first | omega | (simp only [Sa,Ss];omega)) ?_
    intro vA w7 f1 hc y2 _
    obtain ⟨a4,e4,rfl⟩:=Oh f1
    replace hC:=chg_app hC hc (fun q hq h=>by have:=iX q h;omega)
    replace hR:=hR.keep hc (fun h=>by have:=iX _ h;omega) (fun k hk h=>by have:=iX _ h;omega)
    have g7:=hc.size
    replace hd:=hd.keep hc (fun gq h h2=>by have:=iH gq h;have:=iX gq h2;omega)
    replace e0:=Gc hc e0 (fun h=>by have:=iX _ h;omega)
    replace f0:=Gc hc f0 (fun h=>by have:=iX _ h;omega)
    replace u0:=Ow u0 hc (fun gq h h2=>by have:=t3 gq h;have:=iX gq h2;omega)
    replace b0:=Bk.keep b0 hc (fun h=>by have:=iX _ h;omega)
    replace d0:=Bk.keep d0 hc (fun h=>by have:=iX _ h;omega)
    replace l1:=Bk.keep l1 hc (fun h=>by have:=iX _ h;omega)
    clear hc
    have x5:=f1.lt
    clear y2 oX
    refine hK.out _ _ trivial (fun hHeld=>?_)
    clear hK K
    try simp only [Ep]
    refine (tq 9 32 rfl rfl ?_ ?_ ?_)
    (rotate_left;intro W' hSw;clear hSw;go_simp;try with_reducible rfl)
    try simp only [Ep]
    refine Rdy 10 rfl (fun K hK=>?_)
    obtain ⟨f6,o6⟩:=Bk.cf b0 2 rfl
    go_simp
    obtain ⟨w8,i0,hb⟩:=nmw (World.setCell w7 ⟨w1.heap.size+1,2,none⟩ (.slice a4 (k+1) e4))
    replace hC:=((hC.sN _ _ _)).trans (Chg.of_below hb)
    replace hR:=(hR.kC _ _ _).below hb
    have d5:=hb.size
    simp only [Ss] at d5
    clear o6 f6
    replace hd:=(hd.keep (C1 _ _ _) (fun gq h h2=>by have:=iH gq h;omega)).below hb
    replace e0:=Kc hb (Nn e0 _)
    replace f0:=Kc hb (Nn f0 _)
    replace u0:=Ob (Oe u0 _ _ (fun h=>by have:=t3 _ h;omega) _) hb
    replace f1:=Ob (Oe f1 _ _ (fun h=>by have:=x5 _ h;omega) _) hb
    replace b0:Bk w8 (w1.heap.size+1) [.slice a0 nv c0,.slice a1 na c1,.slice a4 (k+1) e4]:=Bk.below (Bk.at b0 2 (.slice a4 (k+1) e4)) hb
    replace d0:=Bk.below (Bk.nn d0 _) hb
    replace l1:=Bk.below (Bk.nn l1 _) hb
    clear hb
    rw [← i0]
    clear i0
    refine hK.out _ _ trivial (fun hHeld=>?_)
    clear hK K
    try simp only [Ep]
    refine Dn ?_
    clear hHeld
    have HO:=Lib.hid (show w8.ownsRow w3.heap.size 32 5 _ (k+1) (inss (xs++[⟨x0,x1,x2,x3,x4⟩])) from by rw [inss,rows_append];exact f1)
    have q0:Hid ((xs++([⟨x0,x1,x2,x3,x4⟩]:List Ins)).length=k+1):=Lib.hid (by rw [List.length_append,h4.out];rfl)
    have HH:=Lib.hid (And.intro hR (And.intro hC hd));clear hR hC hd f1
    have y0:∀ q,((Value.slice a0 nv c0).ownBlock=some q∨(Value.slice a1 na c1).ownBlock=some q)→q < w3.heap.size∧¬q=w1.heap.size+1:=fun q h=>by have:=iH q h;omega
    have l3:=Lib.hid y0;clear y0
    obtain ⟨n9,r9⟩:=Bk.cf b0 2 rfl
    go_wp2
    go_roundw
    case rel=>exact ⟨k+1,p3,xs++[⟨x0,x1,x2,x3,x4⟩],_,_,by go_num,by omega,q0,HO.out,b0,d0,HH.out.2.2,l3.out,HH.out.1,by omega,HH.out.2.1,by omega⟩
    case measure=>simp [intOf];omega
   go_simp
   obtain ⟨w6,i0,hb⟩:=nmw (World.alloc w5 (.cells #[.int .i64 x0,.int .i64 x1,.int .i64 x2,.int .i64 x3,.int .i64 x4] 32))
   replace hC:=((hC.trans (Chg.of_below (bal (Bs _) _)))).trans (Chg.of_below hb)
   replace hR:=(hR.below (bal (Bs _) _)).below hb
   have v0:=Ob (World.ownsRow_lit (base:=(w5).heap.size) (e:=32) (size:=5) (w5) #[.int .i64 x0,.int .i64 x1,.int .i64 x2,.int .i64 x3,.int .i64 x4] 1 (Nat.le_refl _) (by unfold maxLen;omega) (by simp)) hb
   try simp only [Sa,Ss] at v0
   have e5:=hb.size
   simp only [Sa] at e5
   replace hd:=(hd.below (bal (Bs _) _)).below hb
   replace oX:=Ob (Ob oX (bal (Bs _) _)) hb
   replace e0:=Kc hb (Ac e0 _)
   replace f0:=Kc hb (Ac f0 _)
   replace b0:=Bk.below (Bk.al b0 _) hb
   replace d0:=Bk.below (Bk.al d0 _) hb
   have b1:Bk w6 (w5.heap.size) [.int .i64 x0,.int .i64 x1,.int .i64 x2,.int .i64 x3,.int .i64 x4]:=Bk.below (Bk.nw (by simp) rfl) hb
   clear hb
   have u3:=v0.lt
   try simp only [Sa] at u3
   rw [← i0]
   clear i0
   have a6:=Bk.lz b1
   refine hK.out _ _ trivial (fun hHeld=>?_)
   clear hK K
   try simp only [Ep]
   refine Rdy 1 rfl (fun K hK=>?_)
   obtain ⟨g6,p6⟩:=Bk.cf b0 2 rfl
   go_simp
   replace n0:=Bk.lz b0
   replace o0:=Bk.lz d0
   replace a6:=Bk.lz b1
   refine hK.out _ _ trivial (fun hHeld=>?_)
   clear hK K
   try simp only [Ep]
   refine Rdy 8 rfl (fun K hK=>?_)
   refine step_aps tInstrs rfl _ _ rfl (w3.heap.size) _ k (inss xs) rfl oX _ 1 (insc ⟨x0,x1,x2,x3,x4⟩) rfl ((Ro v0 (by simp))) (one_insc ⟨x0,x1,x2,x3,x4⟩) (by omega) (by first | omega | (simp only [Sa,Ss];omega)) ?_
   intro vA w7 g1 hc y2 _
   obtain ⟨b4,f4,rfl⟩:=Oh g1
   replace hC:=chg_app hC hc (fun q hq h=>by have:=iX q h;omega)
   replace hR:=hR.keep hc (fun h=>by have:=iX _ h;omega) (fun k hk h=>by have:=iX _ h;omega)
   have h7:=hc.size
   clear p6 g6
   replace hd:=hd.keep hc (fun gq h h2=>by have:=iH gq h;have:=iX gq h2;omega)
   replace e0:=Gc hc e0 (fun h=>by have:=iX _ h;omega)
   replace f0:=Gc hc f0 (fun h=>by have:=iX _ h;omega)
   replace v0:=Ow v0 hc (fun gq h h2=>by have:=u3 gq h;have:=iX gq h2;omega)
   replace b0:=Bk.keep b0 hc (fun h=>by have:=iX _ h;omega)
   replace d0:=Bk.keep d0 hc (fun h=>by have:=iX _ h;omega)
   replace b1:=Bk.keep b1 hc (fun h=>by have:=iX _ h;omega)
   clear hc
   have y5:=g1.lt
   clear y2 oX
   refine hK.out _ _ trivial (fun hHeld=>?_)
   clear hK K
   try simp only [Ep]
   refine (tq 9 32 rfl rfl ?_ ?_ ?_)
   (rotate_left;intro W' hSw;clear hSw;go_simp;try with_reducible rfl)
   try simp only [Ep]
   refine Rdy 10 rfl (fun K hK=>?_)
   obtain ⟨h6,q6⟩:=Bk.cf b0 2 rfl
   go_simp
   obtain ⟨w8,i0,hb⟩:=nmw (World.setCell w7 ⟨w1.heap.size+1,2,none⟩ (.slice b4 (k+1) f4))
   replace hC:=((hC.sN _ _ _)).trans (Chg.of_below hb)
   replace hR:=(hR.kC _ _ _).below hb
   have f5:=hb.size
   simp only [Ss] at f5
   clear q6 h6
   replace hd:=(hd.keep (C1 _ _ _) (fun gq h h2=>by have:=iH gq h;omega)).below hb
   replace e0:=Kc hb (Nn e0 _)
   replace f0:=Kc hb (Nn f0 _)
   replace v0:=Ob (Oe v0 _ _ (fun h=>by have:=u3 _ h;omega) _) hb
   replace g1:=Ob (Oe g1 _ _ (fun h=>by have:=y5 _ h;omega) _) hb
   replace b0:Bk w8 (w1.heap.size+1) [.slice a0 nv c0,.slice a1 na c1,.slice b4 (k+1) f4]:=Bk.below (Bk.at b0 2 (.slice b4 (k+1) f4)) hb
   replace d0:=Bk.below (Bk.nn d0 _) hb
   replace b1:=Bk.below (Bk.nn b1 _) hb
   clear hb
   rw [← i0]
   clear i0
   refine hK.out _ _ trivial (fun hHeld=>?_)
   clear hK K
   try simp only [Ep]
   refine Dn ?_
   clear hHeld
   have HO:=Lib.hid (show w8.ownsRow w3.heap.size 32 5 _ (k+1) (inss (xs++[⟨x0,x1,x2,x3,x4⟩])) from by rw [inss,rows_append];exact g1)
   have q0:Hid ((xs++([⟨x0,x1,x2,x3,x4⟩]:List Ins)).length=k+1):=Lib.hid (by rw [List.length_append,h4.out];rfl)
   have HH:=Lib.hid (And.intro hR (And.intro hC hd));clear hR hC hd g1
   have y0:∀ q,((Value.slice a0 nv c0).ownBlock=some q∨(Value.slice a1 na c1).ownBlock=some q)→q < w3.heap.size∧¬q=w1.heap.size+1:=fun q h=>by have:=iH q h;omega
   have l3:=Lib.hid y0;clear y0
   obtain ⟨o9,s9⟩:=Bk.cf b0 2 rfl
   go_wp2
   go_roundw
   case rel=>exact ⟨k+1,p3,xs++[⟨x0,x1,x2,x3,x4⟩],_,_,by go_num,by omega,q0,HO.out,b0,d0,HH.out.2.2,l3.out,HH.out.1,by omega,HH.out.2.1,by omega⟩
   case measure=>simp [intOf];omega
  have y6:decide ((k:Int) < (t:Int)-1)=false:=decide_eq_false (by omega)
  have z8:¬(k:Int) < (t:Int)-1:=by omega
  go_upto_region 8 with (fail)
  replace n0:=Bk.lz b0
  replace o0:=Bk.lz d0
  have y8:t=k+1:=by omega
  clear y6 z8 hlt
  subst y8
  obtain ⟨i6,r6⟩:=Bk.cf b0 2 rfl
  go_wp2_with (at_builtin;refine wpList_aps tInstrs rfl _ _ rfl (w3.heap.size) _ k (inss xs) rfl (Ob oX (bal (Bs _) (.cells #[.int .i64 13,.int .i64 0,.int .i64 0,.int .i64 0,.int .i64 0] 32))) _ 1 (insc ⟨13,0,0,0,0⟩) rfl ((Ro (World.ownsRow_lit (base:=(wl).heap.size) (e:=32) (size:=5) (wl) #[.int .i64 13,.int .i64 0,.int .i64 0,.int .i64 0,.int .i64 0] 1 (Nat.le_refl _) (by unfold maxLen;omega) (by simp)) (by simp))) (one_insc ⟨13,0,0,0,0⟩) (by omega) (by first | omega | (simp only [Sa,Ss];omega)) ?_)
  intro vA w4 s2 hc y2 _
  obtain ⟨k9,g0,rfl⟩:=Oh s2
  replace hC:=chg_app (hC.trans (Chg.of_below (bal (Bs _) _))) hc (fun q hq h=>by have:=iX q h;omega)
  replace hR:=(hR.below (bal (Bs _) _)).keep hc (fun h=>by have:=iX _ h;omega) (fun k hk h=>by have:=iX _ h;omega)
  have g5:=hc.size
  simp only [Sa] at g5
  clear r6 i6
  replace hd:=(hd.below (bal (Bs _) _)).keep hc (fun gq h h2=>by have:=iH gq h;have:=iX gq h2;omega)
  replace b0:=Bk.keep (Bk.al b0 _) hc (fun h=>by have:=iX _ h;omega)
  replace d0:=Bk.keep (Bk.al d0 _) hc (fun h=>by have:=iX _ h;omega)
  have v2:Bk w4 (wl.heap.size) [.int .i64 13,.int .i64 0,.int .i64 0,.int .i64 0,.int .i64 0]:=Bk.keep (Bk.nw (by simp) rfl) hc (fun h=>by have:=iX _ h;omega)
  clear hc
  have i5:=s2.lt
  try simp only [Sa] at i5
  clear y2 oX
  have h0:=HeadD.code (n:=k+1) (show HeadD _ w.heap.size _ _ _ _ from HeadD.mono hd (by omega)) (xs:=xs++[⟨13,0,0,0,0⟩]) (by rw [List.length_append,h4.out];rfl) (Om (show w4.ownsRow w3.heap.size 32 5 _ (k+1) (inss (xs++[⟨13,0,0,0,0⟩])) from by rw [inss,rows_append];exact s2) (by omega))
  obtain ⟨gl,rfl⟩:=h0.pos (by omega)
  have iD:∀ q,OwnB (.slice a0 nv c0) (.slice a1 na c1) (.slice (some ⟨gl,0,none⟩) (k+1) g0) q→w.heap.size≤q∧q < w4.heap.size∧¬q=w1.heap.size+1∧¬q=w.heap.size:=fun q h=>by
   have h1:=h0.lt q h
   rcases h with h | h | h
   ·have:=iH q (Or.inl h);omega
   ·have:=iH q (Or.inr h);omega
   have:=s2.lt q h;omega
  have v9:=iD gl (Or.inr (Or.inr rfl))
  clear hd iH s2 i5
  have i9:=Bk.lz v2
  obtain ⟨j6,s6⟩:=Bk.cf b0 2 rfl
  go_upto_region 9 with (fail)
  obtain ⟨w5,i0,hb⟩:=nmw (World.setCell w4 ⟨w1.heap.size+1,2,none⟩ (.slice (some ⟨gl,0,none⟩) (k+1) g0))
  replace hC:=((hC.sN _ _ _)).trans (Chg.of_below hb)
  replace hR:=(hR.kC _ _ _).below hb
  replace h0:=DrawC.below (DrawC.keep h0 (C1 _ _ _) (fun gq h h2=>by have:=iD gq h;omega)) hb
  have h5:=hb.size
  simp only [Ss] at h5
  clear s6 j6
  replace b0:Bk w5 (w1.heap.size+1) [.slice a0 nv c0,.slice a1 na c1,.slice (some ⟨gl,0,none⟩) (k+1) g0]:=Bk.below (Bk.at b0 2 (.slice (some ⟨gl,0,none⟩) (k+1) g0)) hb
  replace d0:=Bk.below (Bk.nn d0 _) hb
  replace v2:=Bk.below (Bk.nn v2 _) hb
  clear hb
  rw [← i0]
  clear i0
  clear v2
  have u9:=Lib.hid (show ∀ q,OwnB (.slice a0 nv c0) (.slice a1 na c1) (.slice (some ⟨gl,0,none⟩) (k+1) g0) q→¬q=w.heap.size from fun q h=>by have:=iD q h;omega)
  by_cases h3:3 < k+1
  ·skip
   have a9:(3:Int) < ((k+1:Nat):Int):=by omega
   go_wp2_with fail
   refine (pick_any _ _ B g (pk) hR (by omega) (by omega) (by omega)).mono ?_
   rintro e w6 ⟨z,z0,z1,rfl,p0,hc⟩
   replace hC:=(hC).trans hc
   replace hR:=p0;clear p0
   replace h0:=DrawC.keep h0 hc (fun q h h2=>by have:=iD q h;have:=z2 q h2;omega)
   have i7:=hc.size
   replace b0:=Bk.kg b0 hc
   replace d0:=Bk.kg d0 hc
   clear hc
   by_cases hz:z=0
   ·skip
    subst hz
    go_upto_region 10 with (fail)
    have m0:=Bk.cell b0 2 (v:=.slice (some ⟨gl,0,none⟩) (k+1) g0) rfl
    refine wp_region_noPanic ?_
    refine wp_region_held_drew (S:=(fun W'=>W'.cell? ⟨w1.heap.size+1,2,none⟩=some (.slice (some ⟨gl,0,none⟩) (k+1) g0))) (by kernel_rfl) (Kc (Below.drew (Bs w6)) m0) (fun hHeld=>?_)
    obtain ⟨w7,q3⟩:∃ X,X=World.drew w6:=⟨_,rfl⟩
    rw [← q3] at hHeld ⊢
    have hb:Below w6.heap.size w6 w7:=by rw [q3];exact Below.drew (Bs _)
    clear q3
    replace hC:=(hC).trans (Chg.of_below hb)
    replace hR:=hR.below hb
    replace h0:=DrawC.below h0 hb
    have j7:=hb.size
    replace m0:=Kc hb m0
    replace b0:=Bk.below b0 hb
    replace d0:=Bk.below d0 hb
    clear hb
    refine (tq 0 46 rfl rfl ?_ ?_ (tq 1 47 rfl rfl ?_ ?_ (tq 2 48 rfl rfl ?_ ?_ ?_)))
    iterate 3 (rotate_left;intro W' hSw;(try dsimp only at hSw);go_simp;try with_reducible rfl)
    try simp only [Ep]
    refine Rdy 3 rfl (fun K hK=>?_)
    go_simp
    refine (pick_any _ _ B g (pk+1) hR (by omega) (by omega) (by omega)).mono ?_
    rintro e w8 ⟨z3,cA,dA,rfl,p0,hc⟩
    replace hC:=(hC).trans hc
    replace hR:=p0;clear p0
    replace h0:=DrawC.keep h0 hc (fun q h h2=>by have:=iD q h;have:=z2 q h2;omega)
    have k7:=hc.size
    replace m0:=Gg hc m0
    replace b0:=Bk.kg b0 hc
    replace d0:=Bk.kg d0 hc
    clear hc
    refine hK.out _ _ (m0) (fun hHeld=>?_)
    clear hK K
    try simp only [Ep]
    refine (tq 4 50 rfl rfl ?_ ?_ (tq 5 51 rfl rfl (.agg #[.int .i64 1,.int .i64 5,.int .i64 (IntKind.i64.wrap (1+z3)),.int .i64 0,.int .i64 0]) (fun W' _=>by kernel_rfl) (tq 6 52 rfl rfl ?_ ?_ ?_)))
    iterate 2 (rotate_left;intro W' hSw;(try dsimp only at hSw);go_simp;try with_reducible rfl)
    try simp only [Ep]
    refine Rdy 7 rfl (fun K hK=>?_)
    obtain ⟨⟨p5,i3⟩,b3⟩:=h0.at (0) 0 (by omega) (by omega)
    replace i3:w8.cell? ⟨gl,0,none⟩=some (.int .i64 p5):=i3;replace b3:w8.frozen? ⟨gl,0,none⟩=false:=b3
    obtain ⟨⟨q5,j3⟩,c3⟩:=h0.at (0) 1 (by omega) (by omega)
    replace j3:w8.cell? ⟨gl,1,none⟩=some (.int .i64 q5):=j3;replace c3:w8.frozen? ⟨gl,1,none⟩=false:=c3
    obtain ⟨⟨r5,k3⟩,d3⟩:=h0.at (0) 2 (by omega) (by omega)
    replace k3:w8.cell? ⟨gl,2,none⟩=some (.int .i64 r5):=k3;replace d3:w8.frozen? ⟨gl,2,none⟩=false:=d3
    obtain ⟨⟨j4,e2⟩,m1⟩:=h0.at (0) 3 (by omega) (by omega)
    replace e2:w8.cell? ⟨gl,3,none⟩=some (.int .i64 j4):=e2;replace m1:w8.frozen? ⟨gl,3,none⟩=false:=m1
    obtain ⟨⟨k4,g2⟩,n1⟩:=h0.at (0) 4 (by omega) (by omega)
    replace g2:w8.cell? ⟨gl,4,none⟩=some (.int .i64 k4):=g2;replace n1:w8.frozen? ⟨gl,4,none⟩=false:=n1
    go_simp
    obtain ⟨w9,i0,hb⟩:=nmw (World.setCell (World.setCell (World.setCell (World.setCell (World.setCell w8 ⟨gl,0,none⟩ (.int .i64 1)) ⟨gl,1,none⟩ (.int .i64 5)) ⟨gl,2,none⟩ (.int .i64 (IntKind.i64.wrap (1+z3)))) ⟨gl,3,none⟩ (.int .i64 0)) ⟨gl,4,none⟩ (.int .i64 0))
    replace hC:=((((((hC.sN _ _ _).sN _ _ _).sN _ _ _).sN _ _ _).sN _ _ _)).trans (Chg.of_below hb)
    replace hR:=(((((hR.kC _ _ _).kC _ _ _).kC _ _ _).kC _ _ _).kC _ _ _).below hb
    replace h0:=DrawC.below (DrawC.put (DrawC.put (DrawC.put (DrawC.put (DrawC.put h0 0 0 (by omega) (by omega) (1)) 0 1 (by omega) (by omega) (5)) 0 2 (by omega) (by omega) ((IntKind.i64.wrap (1+z3)))) 0 3 (by omega) (by omega) (0)) 0 4 (by omega) (by omega) (0)) hb
    have n3:=hb.size
    simp only [Ss] at n3
    replace m0:=Kc hb (Nn (Nn (Nn (Nn (Nn m0 _) _) _) _) _)
    replace b0:=Bk.below (Bk.nn (Bk.nn (Bk.nn (Bk.nn (Bk.nn b0 _) _) _) _) _) hb
    replace d0:=Bk.below (Bk.nn (Bk.nn (Bk.nn (Bk.nn (Bk.nn d0 _) _) _) _) _) hb
    clear hb
    rw [← i0]
    clear i0
    refine hK.out _ _ (m0) (fun hHeld=>?_)
    clear hK K
    try simp only [Ep]
    refine Dn ?_
    clear hHeld
    obtain ⟨t2,d9⟩:∃ t2:Nat,k=t2+1:=⟨k-1,by omega⟩
    subst d9
    have aA:(((t2+1+1:Nat):Int)-2)=(t2:Int):=by omega
    obtain ⟨⟨l4,i2⟩,o1⟩:=h0.at (0) 0 (by omega) (by omega)
    replace i2:w9.cell? ⟨gl,0,none⟩=some (.int .i64 l4):=i2;replace o1:w9.frozen? ⟨gl,0,none⟩=false:=o1
    obtain ⟨⟨m4,j2⟩,q1⟩:=h0.at (0) 1 (by omega) (by omega)
    replace j2:w9.cell? ⟨gl,1,none⟩=some (.int .i64 m4):=j2;replace q1:w9.frozen? ⟨gl,1,none⟩=false:=q1
    obtain ⟨⟨n4,k2⟩,r1⟩:=h0.at (0) 2 (by omega) (by omega)
    replace k2:w9.cell? ⟨gl,2,none⟩=some (.int .i64 n4):=k2;replace r1:w9.frozen? ⟨gl,2,none⟩=false:=r1
    obtain ⟨⟨o4,l2⟩,s1⟩:=h0.at (0) 3 (by omega) (by omega)
    replace l2:w9.cell? ⟨gl,3,none⟩=some (.int .i64 o4):=l2;replace s1:w9.frozen? ⟨gl,3,none⟩=false:=s1
    obtain ⟨⟨p4,m2⟩,t1⟩:=h0.at (0) 4 (by omega) (by omega)
    replace m2:w9.cell? ⟨gl,4,none⟩=some (.int .i64 p4):=m2;replace t1:w9.frozen? ⟨gl,4,none⟩=false:=t1
    obtain ⟨⟨q4,n2⟩,u1⟩:=h0.at (t2) 0 (by omega) (by omega)
    replace n2:w9.cell? ⟨gl,t2*5,none⟩=some (.int .i64 q4):=n2;replace u1:w9.frozen? ⟨gl,t2*5,none⟩=false:=u1
    obtain ⟨⟨r4,o2⟩,v1⟩:=h0.at (t2) 1 (by omega) (by omega)
    replace o2:w9.cell? ⟨gl,t2*5+1,none⟩=some (.int .i64 r4):=o2;replace v1:w9.frozen? ⟨gl,t2*5+1,none⟩=false:=v1
    obtain ⟨⟨s4,p2⟩,y1⟩:=h0.at (t2) 2 (by omega) (by omega)
    replace p2:w9.cell? ⟨gl,t2*5+2,none⟩=some (.int .i64 s4):=p2;replace y1:w9.frozen? ⟨gl,t2*5+2,none⟩=false:=y1
    obtain ⟨⟨t4,q2⟩,b2⟩:=h0.at (t2) 3 (by omega) (by omega)
    replace q2:w9.cell? ⟨gl,t2*5+3,none⟩=some (.int .i64 t4):=q2;replace b2:w9.frozen? ⟨gl,t2*5+3,none⟩=false:=b2
    obtain ⟨⟨u4,r2⟩,d2⟩:=h0.at (t2) 4 (by omega) (by omega)
    replace r2:w9.cell? ⟨gl,t2*5+4,none⟩=some (.int .i64 u4):=r2;replace d2:w9.frozen? ⟨gl,t2*5+4,none⟩=false:=d2
    go_upto_region 12 with (fail)
    obtain ⟨t9,i0,hb⟩:=nmw (World.setCell (World.setCell (World.setCell (World.setCell (World.setCell w9 ⟨gl,t2*5,none⟩ (.int .i64 10)) ⟨gl,t2*5+1,none⟩ (.int .i64 5)) ⟨gl,t2*5+2,none⟩ (.int .i64 1)) ⟨gl,t2*5+3,none⟩ (.int .i64 0)) ⟨gl,t2*5+4,none⟩ (.int .i64 0))
    replace hC:=((((((hC.sN _ _ _).sN _ _ _).sN _ _ _).sN _ _ _).sN _ _ _)).trans (Chg.of_below hb)
    replace hR:=(((((hR.kC _ _ _).kC _ _ _).kC _ _ _).kC _ _ _).kC _ _ _).below hb
    replace h0:=DrawC.below (DrawC.put (DrawC.put (DrawC.put (DrawC.put (DrawC.put h0 (t2) 0 (by omega) (by omega) (10)) (t2) 1 (by omega) (by omega) (5)) (t2) 2 (by omega) (by omega) (1)) (t2) 3 (by omega) (by omega) (0)) (t2) 4 (by omega) (by omega) (0)) hb
    have o3:=hb.size
    simp only [Ss] at o3
    replace m0:=Kc hb (Nn (Nn (Nn (Nn (Nn m0 _) _) _) _) _)
    replace b0:=Bk.below (Bk.nn (Bk.nn (Bk.nn (Bk.nn (Bk.nn b0 _) _) _) _) _) hb
    replace d0:=Bk.below (Bk.nn (Bk.nn (Bk.nn (Bk.nn (Bk.nn d0 _) _) _) _) _) hb
    clear hb
    rw [← i0]
    clear i0
    have w0:=Lib.hid (DrawC.keep (DrawC.keep (DrawC.keep h0 (C1 (w.heap.size) (0) (.slice a0 nv c0)) (fun gq h h2=>by have:=iD gq h;omega)) (C1 (w.heap.size) (1) (.slice a1 na c1)) (fun gq h h2=>by have:=iD gq h;omega)) (C1 (w.heap.size) (2) (.slice (some ⟨gl,0,none⟩) ((t2+1)+1) g0)) (fun gq h h2=>by have:=iD gq h;omega));clear h0 iD
    obtain ⟨m7,e8,n7,f8⟩:=Bk.f2 b0 0 1 rfl rfl
    obtain ⟨o7,g8,p7,h8,q7,i8⟩:=Bk.f3 d0 0 1 2 rfl rfl rfl
    have a3:=((((Chg.refl (fun q=>q=w.heap.size) t9).setCell (w.heap.size) 0 (.slice a0 nv c0) (fun _=>rfl)).setCell (w.heap.size) 1 (.slice a1 na c1) (fun _=>rfl)).setCell (w.heap.size) 2 (.slice (some ⟨gl,0,none⟩) ((t2+1)+1) g0) (fun _=>rfl))
    have e3:=(Bk.at (Bk.at (Bk.at d0 0 (.slice a0 nv c0)) 1 (.slice a1 na c1)) 2 (.slice (some ⟨gl,0,none⟩) ((t2+1)+1) g0))
    obtain ⟨l5,m5,n5⟩:=Bk.g3 e3
    have j0:=Lib.hid a3;clear a3 e3
    have k0:=Lib.hid (And.intro hC hR);clear hC hR
    go_wp2
    exact bodyPost_ret (v:=.agg #[.slice a0 nv c0,.slice a1 na c1,.slice (some ⟨gl,0,none⟩) ((t2+1)+1) g0]) (by simp [results,Try.results105,go_sem,l5,m5,n5]) rfl (by exact (by first | exact ⟨_,_,_,nv,na,(t2+1)+1,pk+1+1,rfl,w0.out,l0,i1,by omega,k0.out.2.keep j0.out (fun h=>by omega) (fun k hk h=>by omega),by omega,chg_app k0.out.1 j0.out (fun q hq h=>by omega)⟩ | exact ⟨_,_,_,rfl,nv,na,(t2+1)+1,pk+1+1,w0.out,l0,i1,by omega,k0.out.2.keep j0.out (fun h=>by omega) (fun k hk h=>by omega),by omega,chg_app k0.out.1 j0.out (fun q hq h=>by omega)⟩ | exact ⟨_,_,_,rfl,nv,na,(t2+1)+1,w0.out,l0,i1,by omega,pk+1+1,k0.out.2.keep j0.out (fun h=>by omega) (fun k hk h=>by omega),by omega,chg_app k0.out.1 j0.out (fun q hq h=>by omega)⟩ | exact ⟨⟨_,_,_,rfl⟩,nv,na,(t2+1)+1,w0.out,l0,i1,by omega,pk+1+1,k0.out.2.keep j0.out (fun h=>by omega) (fun k hk h=>by omega),by omega,chg_app k0.out.1 j0.out (fun q hq h=>by omega)⟩))
   skip
   have z9:(z == 0)=false:=by simp [hz]
   go_upto_region 12 with (fail)
   have w0:=Lib.hid (DrawC.keep (DrawC.keep (DrawC.keep h0 (C1 (w.heap.size) (0) (.slice a0 nv c0)) (fun gq h h2=>by have:=iD gq h;omega)) (C1 (w.heap.size) (1) (.slice a1 na c1)) (fun gq h h2=>by have:=iD gq h;omega)) (C1 (w.heap.size) (2) (.slice (some ⟨gl,0,none⟩) (k+1) g0)) (fun gq h h2=>by have:=iD gq h;omega));clear h0 iD
   obtain ⟨r7,j8,s7,k8,t7,l8⟩:=Bk.f3 b0 0 1 2 rfl rfl rfl
   obtain ⟨u7,m8,v7,n8,x7,o8⟩:=Bk.f3 d0 0 1 2 rfl rfl rfl
   have a3:=((((Chg.refl (fun q=>q=w.heap.size) w6).setCell (w.heap.size) 0 (.slice a0 nv c0) (fun _=>rfl)).setCell (w.heap.size) 1 (.slice a1 na c1) (fun _=>rfl)).setCell (w.heap.size) 2 (.slice (some ⟨gl,0,none⟩) (k+1) g0) (fun _=>rfl))
   have e3:=(Bk.at (Bk.at (Bk.at d0 0 (.slice a0 nv c0)) 1 (.slice a1 na c1)) 2 (.slice (some ⟨gl,0,none⟩) (k+1) g0))
   obtain ⟨l5,m5,n5⟩:=Bk.g3 e3
   have j0:=Lib.hid a3;clear a3 e3
   have k0:=Lib.hid (And.intro hC hR);clear hC hR
   go_wp2
   exact bodyPost_ret (v:=.agg #[.slice a0 nv c0,.slice a1 na c1,.slice (some ⟨gl,0,none⟩) (k+1) g0]) (by simp [results,Try.results105,go_sem,l5,m5,n5]) rfl (by exact (by first | exact ⟨_,_,_,nv,na,k+1,pk+1,rfl,w0.out,l0,i1,by omega,k0.out.2.keep j0.out (fun h=>by omega) (fun k hk h=>by omega),by omega,chg_app k0.out.1 j0.out (fun q hq h=>by omega)⟩ | exact ⟨_,_,_,rfl,nv,na,k+1,pk+1,w0.out,l0,i1,by omega,k0.out.2.keep j0.out (fun h=>by omega) (fun k hk h=>by omega),by omega,chg_app k0.out.1 j0.out (fun q hq h=>by omega)⟩ | exact ⟨_,_,_,rfl,nv,na,k+1,w0.out,l0,i1,by omega,pk+1,k0.out.2.keep j0.out (fun h=>by omega) (fun k hk h=>by omega),by omega,chg_app k0.out.1 j0.out (fun q hq h=>by omega)⟩ | exact ⟨⟨_,_,_,rfl⟩,nv,na,k+1,w0.out,l0,i1,by omega,pk+1,k0.out.2.keep j0.out (fun h=>by omega) (fun k hk h=>by omega),by omega,chg_app k0.out.1 j0.out (fun q hq h=>by omega)⟩))
  skip
  have a9:decide ((3:Int) < ((k+1:Nat):Int))=false:=decide_eq_false (by omega)
  go_upto_region 12 with (fail)
  have w0:=Lib.hid (DrawC.keep (DrawC.keep (DrawC.keep h0 (C1 (w.heap.size) (0) (.slice a0 nv c0)) (fun gq h h2=>by have:=iD gq h;omega)) (C1 (w.heap.size) (1) (.slice a1 na c1)) (fun gq h h2=>by have:=iD gq h;omega)) (C1 (w.heap.size) (2) (.slice (some ⟨gl,0,none⟩) (k+1) g0)) (fun gq h h2=>by have:=iD gq h;omega));clear h0 iD
  obtain ⟨y7,p8,z7,q8,a8,r8⟩:=Bk.f3 b0 0 1 2 rfl rfl rfl
  obtain ⟨b8,s8,c8,t8,d8,u8⟩:=Bk.f3 d0 0 1 2 rfl rfl rfl
  have a3:=((((Chg.refl (fun q=>q=w.heap.size) w5).setCell (w.heap.size) 0 (.slice a0 nv c0) (fun _=>rfl)).setCell (w.heap.size) 1 (.slice a1 na c1) (fun _=>rfl)).setCell (w.heap.size) 2 (.slice (some ⟨gl,0,none⟩) (k+1) g0) (fun _=>rfl))
  have e3:=(Bk.at (Bk.at (Bk.at d0 0 (.slice a0 nv c0)) 1 (.slice a1 na c1)) 2 (.slice (some ⟨gl,0,none⟩) (k+1) g0))
  obtain ⟨l5,m5,n5⟩:=Bk.g3 e3
  have j0:=Lib.hid a3;clear a3 e3
  have k0:=Lib.hid (And.intro hC hR);clear hC hR
  go_wp2
  exact bodyPost_ret (v:=.agg #[.slice a0 nv c0,.slice a1 na c1,.slice (some ⟨gl,0,none⟩) (k+1) g0]) (by simp [results,Try.results105,go_sem,l5,m5,n5]) rfl (by exact (by first | exact ⟨_,_,_,nv,na,k+1,pk,rfl,w0.out,l0,i1,by omega,k0.out.2.keep j0.out (fun h=>by omega) (fun k hk h=>by omega),by omega,chg_app k0.out.1 j0.out (fun q hq h=>by omega)⟩ | exact ⟨_,_,_,rfl,nv,na,k+1,pk,w0.out,l0,i1,by omega,k0.out.2.keep j0.out (fun h=>by omega) (fun k hk h=>by omega),by omega,chg_app k0.out.1 j0.out (fun q hq h=>by omega)⟩ | exact ⟨_,_,_,rfl,nv,na,k+1,w0.out,l0,i1,by omega,pk,k0.out.2.keep j0.out (fun h=>by omega) (fun k hk h=>by omega),by omega,chg_app k0.out.1 j0.out (fun q hq h=>by omega)⟩ | exact ⟨⟨_,_,_,rfl⟩,nv,na,k+1,w0.out,l0,i1,by omega,pk,k0.out.2.keep j0.out (fun h=>by omega) (fun k hk h=>by omega),by omega,chg_app k0.out.1 j0.out (fun q hq h=>by omega)⟩))
end Go.Proofs.Ytkjedgnepnbkpaa
