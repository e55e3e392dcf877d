/-
 Parts of the proofs of the laws FnCompactRegs,FnFenceCode,FnRunTimeSteps.
-/
import Derived.Test.YtkjedgnepnbkpaaGreatNB
set_option linter.all false
namespace Go.Proofs.YtkjedgnepnbkpaaGreat
open Go.RowKit
set_option maxHeartbeats 6400000 in
set_option maxRecDepth 100000 in
theorem l3Memory_any (pv pa:Option Addr) (nv cv na ca:Nat) (vb:Value) (B g p:Nat) (w:World) (hR:Rnd w B g p) (hp:p+5000≤1000000000) (hnv:nv≤1000) (hna:na≤1000) :
  Calls Tryz.prog 49 #[.pointer (some ⟨g,0,none⟩),.agg #[.slice pv nv cv,.slice pa na ca,vb]] w fun r w'=>∃ (vx vy:Value) (us:List Value) (m:Mm) (p':Nat),r=.returned (.agg #[vx,vy])∧OwnM w' w.heap.size vx vy us m∧m.vals.length=nv∧m.arrs.length=na∧(∀ r ∈ m.arrs,r.length=4)∧Rnd w' B g p'∧p'≤p+5000∧Chg (fun q=>q=g) w w':=by
 have hg:=hR.lt
 have hC:Chg (fun k=>k=g) w w:=Chg.refl _ _
 have y1:∀ q,(fun k=>k=g) q→q=g:=fun q h=>h
 go_enter Tryz.func49,Tryz.ntmps49
 go_upto_region 2 with (fail)
 obtain ⟨w1,d0,hb⟩:=nmw (World.alloc (World.alloc (World.alloc w (.cells #[.slice pv nv cv,.slice pa na ca,vb] 83)) (.cells #[.slice none 0 0,.slice none 0 0] 29)) (.cells #[.slice none 0 0,.slice none 0 0] 29))
 replace hC:=((((hC.trans (Chg.of_below (bal (Bs _) _))).trans (Chg.of_below (bal (Bs _) _))).trans (Chg.of_below (bal (Bs _) _)))).trans (Chg.of_below hb)
 replace hR:=(((hR.below (bal (Bs _) _)).below (bal (Bs _) _)).below (bal (Bs _) _)).below hb
 have e3:=hb.size
 simp only [Sa] at e3
 have u2:Bk w1 (w.heap.size) [.slice pv nv cv,.slice pa na ca,vb]:=Bk.below (Bk.al (Bk.al (Bk.nw (by simp) rfl) (.cells #[.slice none 0 0,.slice none 0 0] 29)) (.cells #[.slice none 0 0,.slice none 0 0] 29)) hb
 have v2:Bk w1 (w.heap.size+1) [.slice none 0 0,.slice none 0 0]:=Bk.below (Bk.al (Bk.nw (by simp) rfl) (.cells #[.slice none 0 0,.slice none 0 0] 29)) hb
 have x2:Bk w1 (w.heap.size+1+1) [.slice none 0 0,.slice none 0 0]:=Bk.below (Bk.nw (by simp) rfl) hb
 clear hb
 rw [← d0]
 clear d0
 have r6:=Bk.lz u2
 have s6:=Bk.lz v2
 have t6:=Bk.lz x2
 have k4:Hid (∃ (k pk:Nat) (xs:List Int) (a:Option Addr) (c:Nat),Value.int .i64 0=.int .i64 k∧k≤nv∧Hid (xs.length=k)∧w1.ownsRow w1.heap.size 3 1 (.slice a k c) k (ints xs)∧Bk w1 (w.heap.size+1+1) [.slice a k c,.slice none 0 0]∧Bk w1 (w.heap.size) [.slice pv nv cv,.slice pa na ca,vb]∧Bk w1 (w.heap.size+1) [.slice none 0 0,.slice none 0 0]∧Rnd w1 B g pk∧pk≤p+k∧Chg (fun q=>q=g) w w1∧w1.heap.size≤w1.heap.size):=Lib.hid ⟨0,p,[],none,0,rfl,by omega,Lib.hid rfl,World.ownsRow_nil _ _ _ _,x2,u2,v2,hR,by omega,hC,Nat.le_refl _⟩
 have o5:w.heap.size≤w.heap.size∧w.heap.size < w1.heap.size∧w.heap.size+1 < w1.heap.size∧w.heap.size+1+1 < w1.heap.size∧g < w.heap.size:=by omega
 clear hR hC u2 v2 x2
 go_wp2_with fail
 go_loopw [6] (fun i wr=>∃ (k pk:Nat) (xs:List Int) (a:Option Addr) (c:Nat),i=.int .i64 k∧k≤nv∧Hid (xs.length=k)∧wr.ownsRow w1.heap.size 3 1 (.slice a k c) k (ints xs)∧Bk wr (w.heap.size+1+1) [.slice a k c,.slice none 0 0]∧Bk wr (w.heap.size) [.slice pv nv cv,.slice pa na ca,vb]∧Bk wr (w.heap.size+1) [.slice none 0 0,.slice none 0 0]∧Rnd wr B g pk∧pk≤p+k∧Chg (fun q=>q=g) w wr∧w1.heap.size≤wr.heap.size) (fun i _=>nv-(intOf i).toNat)
 case atStart=>exact k4.out
 case round =>
  obtain ⟨k,pk,xs,a,c,rfl,hk,z0,oX,a0,b0,c0,hR,p6,hC,q6⟩:=hrel
  clear k4
  obtain ⟨wl,rfl⟩:∃ X,X=wr:=⟨_,rfl⟩
  have iX:=oX.lt
  have x0:=Bk.lz a0
  have y0:=Bk.lz b0
  have g0:=Bk.lz c0
  by_cases hlt:k < nv
  ·have m1:(k:Int) < (nv:Int):=by omega
   obtain ⟨m3,y3⟩:=Bk.cf b0 0 rfl
   go_upto_region 5 with (fail)
   clear y3 m3
   refine wp_region_noPanic ?_
   refine wp_region_held_drew (S:=(fun W'=>True)) (by kernel_rfl) trivial (fun hHeld=>?_)
   obtain ⟨w2,f3⟩:∃ X,X=World.drew wl:=⟨_,rfl⟩
   rw [← f3]
   have hb:Below wl.heap.size wl w2:=by rw [f3];exact Below.drew (Bs _)
   clear f3
   replace hC:=(hC).trans (Chg.of_below hb)
   replace hR:=hR.below hb
   have r4:=hb.size
   replace oX:=Ob oX hb
   replace a0:=Bk.below a0 hb
   replace b0:=Bk.below b0 hb
   replace c0:=Bk.below c0 hb
   clear hb
   replace x0:=Bk.lz a0
   replace y0:=Bk.lz b0
   replace g0:=Bk.lz c0
   refine (tq 0 18 rfl rfl ?_ ?_ (tq 2 20 rfl rfl ?_ ?_ ?_))
   iterate 2 (rotate_left;intro W' hSw;clear hSw;go_simp;try with_reducible rfl)
   try simp only [Ep]
   refine Rdy2 1 3 rfl rfl (fun K hK=>?_) (fun K hK=>?_)
   ·obtain ⟨n3,z3⟩:=Bk.cf a0 0 rfl
    go_simp
    refine hK.out _ _ trivial (fun hHeld=>?_)
    clear hK K
    try simp only [Ep]
    refine Rdy 3 rfl (fun K hK=>?_)
    go_simp
    refine (l3Value_any B g (pk) _ hR (by omega)).mono ?_
    rintro e w3 ⟨z1,rfl,b5,w0,hc⟩
    replace hC:=(hC).trans hc
    replace hR:=w0;clear w0
    have s4:=hc.size
    clear z3 n3
    replace oX:=Ow oX hc (fun gq h h2=>by have:=iX gq h;have:=y1 gq h2;omega)
    replace a0:=Bk.kg a0 hc
    replace b0:=Bk.kg b0 hc
    replace c0:=Bk.kg c0 hc
    clear hc
    replace x0:=Bk.lz a0
    replace y0:=Bk.lz b0
    replace g0:=Bk.lz c0
    refine hK.out _ _ trivial (fun hHeld=>?_)
    clear hK K
    try simp only [Ep]
    refine Rdy 4 rfl (fun K hK=>?_)
    go_simp
    obtain ⟨w4,d0,hb⟩:=nmw (World.alloc w3 (.cells #[.int .i64 z1] 3))
    replace hC:=((hC.trans (Chg.of_below (bal (Bs _) _)))).trans (Chg.of_below hb)
    replace hR:=(hR.below (bal (Bs _) _)).below hb
    have j0:=Ob (World.ownsRow_lit (base:=(w3).heap.size) (e:=3) (size:=1) (w3) #[.int .i64 z1] 1 (Nat.le_refl _) (by unfold maxLen;omega) (by simp)) hb
    try simp only [Sa,Ss] at j0
    have o1:=hb.size
    simp only [Sa] at o1
    replace oX:=Ob (Ob oX (bal (Bs _) _)) hb
    replace a0:=Bk.below (Bk.al a0 _) hb
    replace b0:=Bk.below (Bk.al b0 _) hb
    replace c0:=Bk.below (Bk.al c0 _) hb
    have h0:w4.cell? ⟨w3.heap.size,0,none⟩=some (.int .i64 z1):=Kc hb (Wc (by simp) (by rfl))
    have q0:w4.frozen? ⟨w3.heap.size,0,none⟩=false:=Kf hb (by simp <;> omega) (Fn (by simp))
    clear hb
    have b1:=j0.lt
    try simp only [Sa] at b1
    rw [← d0]
    clear d0
    replace x0:=Bk.lz a0
    replace y0:=Bk.lz b0
    replace g0:=Bk.lz c0
    have s5:=Lc h0
    refine hK.out _ _ trivial (fun hHeld=>?_)
    clear hK K
    try simp only [Ep]
    refine Rdy 5 rfl (fun K hK=>?_)
    refine step_aps tInts rfl _ _ rfl (w1.heap.size) _ k (ints xs) rfl oX _ 1 (ints [z1]) rfl ((Ro j0 (by simp))) (one_ints [z1]) (by omega) (by first | omega | (simp only [Sa,Ss];omega)) ?_
    intro vA w5 m0 hc t0 _
    obtain ⟨e1,h1,rfl⟩:=Oh m0
    replace hC:=chg_app hC hc (fun q hq h=>by have:=iX q h;omega)
    replace hR:=hR.keep hc (fun h=>by have:=iX _ h;omega) (fun k hk h=>by have:=iX _ h;omega)
    have t4:=hc.size
    replace q0:=Gf hc (Lc h0) q0 (fun h=>by have:=iX _ h;omega)
    replace h0:=Gc hc h0 (fun h=>by have:=iX _ h;omega)
    replace j0:=Ow j0 hc (fun gq h h2=>by have:=b1 gq h;have:=iX gq h2;omega)
    replace a0:=Bk.keep a0 hc (fun h=>by have:=iX _ h;omega)
    replace b0:=Bk.keep b0 hc (fun h=>by have:=iX _ h;omega)
    replace c0:=Bk.keep c0 hc (fun h=>by have:=iX _ h;omega)
    clear hc
    have g3:=m0.lt
    clear t0 oX
    refine hK.out _ _ trivial (fun hHeld=>?_)
    clear hK K
    try simp only [Ep]
    refine (tq 6 24 rfl rfl ?_ ?_ ?_)
    (rotate_left;intro W' hSw;clear hSw;go_simp;try with_reducible rfl)
    try simp only [Ep]
    refine Rdy 7 rfl (fun K hK=>?_)
    obtain ⟨o3,a4⟩:=Bk.cf a0 0 rfl
    go_simp
    obtain ⟨w6,d0,hb⟩:=nmw (World.setCell w5 ⟨w.heap.size+1+1,0,none⟩ (.slice e1 (k+1) h1))
    replace hC:=((hC.sN _ _ _)).trans (Chg.of_below hb)
    replace hR:=(hR.kC _ _ _).below hb
    have p1:=hb.size
    simp only [Ss] at p1
    clear a4 o3
    replace q0:=Kf hb (Lc (Nn h0 _)) (Fs q0 _)
    replace h0:=Kc hb (Nn h0 _)
    replace j0:=Ob (Oe j0 _ _ (fun h=>by have:=b1 _ h;omega) _) hb
    replace m0:=Ob (Oe m0 _ _ (fun h=>by have:=g3 _ h;omega) _) hb
    replace a0:Bk w6 (w.heap.size+1+1) [.slice e1 (k+1) h1,.slice none 0 0]:=Bk.below (Bk.at a0 0 (.slice e1 (k+1) h1)) hb
    replace b0:=Bk.below (Bk.nn b0 _) hb
    replace c0:=Bk.below (Bk.nn c0 _) hb
    clear hb
    rw [← d0]
    clear d0
    refine hK.out _ _ trivial (fun hHeld=>?_)
    clear hK K
    try simp only [Ep]
    refine Dn ?_
    clear hHeld
    have HO:=Lib.hid (show w6.ownsRow w1.heap.size 3 1 _ (k+1) (ints (xs++[z1])) from by rw [ints_append];exact m0)
    have p0:Hid ((xs++([z1]:List Int)).length=k+1):=Lib.hid (by rw [List.length_append,z0.out];rfl)
    have HH:=Lib.hid (And.intro hR hC);clear hR hC m0
    obtain ⟨z5,f6⟩:=Bk.cf a0 0 rfl
    go_wp2
    go_roundw
    case rel=>exact ⟨k+1,pk+1,xs++[z1],_,_,by go_num,by omega,p0,HO.out,a0,b0,c0,HH.out.1,by omega,HH.out.2,by omega⟩
    case measure=>simp [intOf];omega
   obtain ⟨p3,b4⟩:=Bk.cf a0 0 rfl
   go_simp
   refine (l3Value_any B g (pk) _ hR (by omega)).mono ?_
   rintro e w3 ⟨z1,rfl,b5,w0,hc⟩
   replace hC:=(hC).trans hc
   replace hR:=w0;clear w0
   have u4:=hc.size
   clear b4 p3
   replace oX:=Ow oX hc (fun gq h h2=>by have:=iX gq h;have:=y1 gq h2;omega)
   replace a0:=Bk.kg a0 hc
   replace b0:=Bk.kg b0 hc
   replace c0:=Bk.kg c0 hc
   clear hc
   replace x0:=Bk.lz a0
   replace y0:=Bk.lz b0
   replace g0:=Bk.lz c0
   refine hK.out _ _ trivial (fun hHeld=>?_)
   clear hK K
   try simp only [Ep]
   refine Rdy2 1 4 rfl rfl (fun K hK=>?_) (fun K hK=>?_)
   ·obtain ⟨q3,c4⟩:=Bk.cf a0 0 rfl
    go_simp
    replace x0:=Bk.lz a0
    replace y0:=Bk.lz b0
    replace g0:=Bk.lz c0
    refine hK.out _ _ trivial (fun hHeld=>?_)
    clear hK K
    try simp only [Ep]
    refine Rdy 4 rfl (fun K hK=>?_)
    go_simp
    obtain ⟨w4,d0,hb⟩:=nmw (World.alloc w3 (.cells #[.int .i64 z1] 3))
    replace hC:=((hC.trans (Chg.of_below (bal (Bs _) _)))).trans (Chg.of_below hb)
    replace hR:=(hR.below (bal (Bs _) _)).below hb
    have k0:=Ob (World.ownsRow_lit (base:=(w3).heap.size) (e:=3) (size:=1) (w3) #[.int .i64 z1] 1 (Nat.le_refl _) (by unfold maxLen;omega) (by simp)) hb
    try simp only [Sa,Ss] at k0
    have q1:=hb.size
    simp only [Sa] at q1
    clear c4 q3
    replace oX:=Ob (Ob oX (bal (Bs _) _)) hb
    replace a0:=Bk.below (Bk.al a0 _) hb
    replace b0:=Bk.below (Bk.al b0 _) hb
    replace c0:=Bk.below (Bk.al c0 _) hb
    have i0:w4.cell? ⟨w3.heap.size,0,none⟩=some (.int .i64 z1):=Kc hb (Wc (by simp) (by rfl))
    have r0:w4.frozen? ⟨w3.heap.size,0,none⟩=false:=Kf hb (by simp <;> omega) (Fn (by simp))
    clear hb
    have c1:=k0.lt
    try simp only [Sa] at c1
    rw [← d0]
    clear d0
    replace x0:=Bk.lz a0
    replace y0:=Bk.lz b0
    replace g0:=Bk.lz c0
    have t5:=Lc i0
    refine hK.out _ _ trivial (fun hHeld=>?_)
    clear hK K
    try simp only [Ep]
    refine Rdy 5 rfl (fun K hK=>?_)
    refine step_aps tInts rfl _ _ rfl (w1.heap.size) _ k (ints xs) rfl oX _ 1 (ints [z1]) rfl ((Ro k0 (by simp))) (one_ints [z1]) (by omega) (by first | omega | (simp only [Sa,Ss];omega)) ?_
    intro vA w5 n0 hc t0 _
    obtain ⟨f1,i1,rfl⟩:=Oh n0
    replace hC:=chg_app hC hc (fun q hq h=>by have:=iX q h;omega)
    replace hR:=hR.keep hc (fun h=>by have:=iX _ h;omega) (fun k hk h=>by have:=iX _ h;omega)
    have v4:=hc.size
    replace r0:=Gf hc (Lc i0) r0 (fun h=>by have:=iX _ h;omega)
    replace i0:=Gc hc i0 (fun h=>by have:=iX _ h;omega)
    replace k0:=Ow k0 hc (fun gq h h2=>by have:=c1 gq h;have:=iX gq h2;omega)
    replace a0:=Bk.keep a0 hc (fun h=>by have:=iX _ h;omega)
    replace b0:=Bk.keep b0 hc (fun h=>by have:=iX _ h;omega)
    replace c0:=Bk.keep c0 hc (fun h=>by have:=iX _ h;omega)
    clear hc
    have h3:=n0.lt
    clear t0 oX
    refine hK.out _ _ trivial (fun hHeld=>?_)
    clear hK K
    try simp only [Ep]
    refine (tq 6 24 rfl rfl ?_ ?_ ?_)
    (rotate_left;intro W' hSw;clear hSw;go_simp;try with_reducible rfl)
    try simp only [Ep]
    refine Rdy 7 rfl (fun K hK=>?_)
    obtain ⟨r3,d4⟩:=Bk.cf a0 0 rfl
    go_simp
    obtain ⟨w6,d0,hb⟩:=nmw (World.setCell w5 ⟨w.heap.size+1+1,0,none⟩ (.slice f1 (k+1) i1))
    replace hC:=((hC.sN _ _ _)).trans (Chg.of_below hb)
    replace hR:=(hR.kC _ _ _).below hb
    have r1:=hb.size
    simp only [Ss] at r1
    clear d4 r3
    replace r0:=Kf hb (Lc (Nn i0 _)) (Fs r0 _)
    replace i0:=Kc hb (Nn i0 _)
    replace k0:=Ob (Oe k0 _ _ (fun h=>by have:=c1 _ h;omega) _) hb
    replace n0:=Ob (Oe n0 _ _ (fun h=>by have:=h3 _ h;omega) _) hb
    replace a0:Bk w6 (w.heap.size+1+1) [.slice f1 (k+1) i1,.slice none 0 0]:=Bk.below (Bk.at a0 0 (.slice f1 (k+1) i1)) hb
    replace b0:=Bk.below (Bk.nn b0 _) hb
    replace c0:=Bk.below (Bk.nn c0 _) hb
    clear hb
    rw [← d0]
    clear d0
    refine hK.out _ _ trivial (fun hHeld=>?_)
    clear hK K
    try simp only [Ep]
    refine Dn ?_
    clear hHeld
    have HO:=Lib.hid (show w6.ownsRow w1.heap.size 3 1 _ (k+1) (ints (xs++[z1])) from by rw [ints_append];exact n0)
    have p0:Hid ((xs++([z1]:List Int)).length=k+1):=Lib.hid (by rw [List.length_append,z0.out];rfl)
    have HH:=Lib.hid (And.intro hR hC);clear hR hC n0
    obtain ⟨a6,g6⟩:=Bk.cf a0 0 rfl
    go_wp2
    go_roundw
    case rel=>exact ⟨k+1,pk+1,xs++[z1],_,_,by go_num,by omega,p0,HO.out,a0,b0,c0,HH.out.1,by omega,HH.out.2,by omega⟩
    case measure=>simp [intOf];omega
   go_simp
   obtain ⟨w4,d0,hb⟩:=nmw (World.alloc w3 (.cells #[.int .i64 z1] 3))
   replace hC:=((hC.trans (Chg.of_below (bal (Bs _) _)))).trans (Chg.of_below hb)
   replace hR:=(hR.below (bal (Bs _) _)).below hb
   have l0:=Ob (World.ownsRow_lit (base:=(w3).heap.size) (e:=3) (size:=1) (w3) #[.int .i64 z1] 1 (Nat.le_refl _) (by unfold maxLen;omega) (by simp)) hb
   try simp only [Sa,Ss] at l0
   have s1:=hb.size
   simp only [Sa] at s1
   replace oX:=Ob (Ob oX (bal (Bs _) _)) hb
   replace a0:=Bk.below (Bk.al a0 _) hb
   replace b0:=Bk.below (Bk.al b0 _) hb
   replace c0:=Bk.below (Bk.al c0 _) hb
   have f0:w4.cell? ⟨w3.heap.size,0,none⟩=some (.int .i64 z1):=Kc hb (Wc (by simp) (by rfl))
   have s0:w4.frozen? ⟨w3.heap.size,0,none⟩=false:=Kf hb (by simp <;> omega) (Fn (by simp))
   clear hb
   have d1:=l0.lt
   try simp only [Sa] at d1
   rw [← d0]
   clear d0
   have l3:=Lc f0
   refine hK.out _ _ trivial (fun hHeld=>?_)
   clear hK K
   try simp only [Ep]
   refine Rdy 1 rfl (fun K hK=>?_)
   obtain ⟨s3,e4⟩:=Bk.cf a0 0 rfl
   go_simp
   replace x0:=Bk.lz a0
   replace y0:=Bk.lz b0
   replace g0:=Bk.lz c0
   replace l3:=Lc f0
   refine hK.out _ _ trivial (fun hHeld=>?_)
   clear hK K
   try simp only [Ep]
   refine Rdy 5 rfl (fun K hK=>?_)
   refine step_aps tInts rfl _ _ rfl (w1.heap.size) _ k (ints xs) rfl oX _ 1 (ints [z1]) rfl ((Ro l0 (by simp))) (one_ints [z1]) (by omega) (by first | omega | (simp only [Sa,Ss];omega)) ?_
   intro vA w5 o0 hc t0 _
   obtain ⟨g1,j1,rfl⟩:=Oh o0
   replace hC:=chg_app hC hc (fun q hq h=>by have:=iX q h;omega)
   replace hR:=hR.keep hc (fun h=>by have:=iX _ h;omega) (fun k hk h=>by have:=iX _ h;omega)
   have x4:=hc.size
   clear e4 s3
   replace s0:=Gf hc (Lc f0) s0 (fun h=>by have:=iX _ h;omega)
   replace f0:=Gc hc f0 (fun h=>by have:=iX _ h;omega)
   replace l0:=Ow l0 hc (fun gq h h2=>by have:=d1 gq h;have:=iX gq h2;omega)
   replace a0:=Bk.keep a0 hc (fun h=>by have:=iX _ h;omega)
   replace b0:=Bk.keep b0 hc (fun h=>by have:=iX _ h;omega)
   replace c0:=Bk.keep c0 hc (fun h=>by have:=iX _ h;omega)
   clear hc
   have i3:=o0.lt
   clear t0 oX
   refine hK.out _ _ trivial (fun hHeld=>?_)
   clear hK K
   try simp only [Ep]
   refine (tq 6 24 rfl rfl ?_ ?_ ?_)
   (rotate_left;intro W' hSw;clear hSw;go_simp;try with_reducible rfl)
   try simp only [Ep]
   refine Rdy 7 rfl (fun K hK=>?_)
   obtain ⟨t3,f4⟩:=Bk.cf a0 0 rfl
   go_simp
   obtain ⟨w6,d0,hb⟩:=nmw (World.setCell w5 ⟨w.heap.size+1+1,0,none⟩ (.slice g1 (k+1) j1))
   replace hC:=((hC.sN _ _ _)).trans (Chg.of_below hb)
   replace hR:=(hR.kC _ _ _).below hb
   have t1:=hb.size
   simp only [Ss] at t1
   clear f4 t3
   replace s0:=Kf hb (Lc (Nn f0 _)) (Fs s0 _)
   replace f0:=Kc hb (Nn f0 _)
   replace l0:=Ob (Oe l0 _ _ (fun h=>by have:=d1 _ h;omega) _) hb
   replace o0:=Ob (Oe o0 _ _ (fun h=>by have:=i3 _ h;omega) _) hb
   replace a0:Bk w6 (w.heap.size+1+1) [.slice g1 (k+1) j1,.slice none 0 0]:=Bk.below (Bk.at a0 0 (.slice g1 (k+1) j1)) hb
   replace b0:=Bk.below (Bk.nn b0 _) hb
   replace c0:=Bk.below (Bk.nn c0 _) hb
   clear hb
   rw [← d0]
   clear d0
   refine hK.out _ _ trivial (fun hHeld=>?_)
   clear hK K
   try simp only [Ep]
   refine Dn ?_
   clear hHeld
   have HO:=Lib.hid (show w6.ownsRow w1.heap.size 3 1 _ (k+1) (ints (xs++[z1])) from by rw [ints_append];exact o0)
   have p0:Hid ((xs++([z1]:List Int)).length=k+1):=Lib.hid (by rw [List.length_append,z0.out];rfl)
   have HH:=Lib.hid (And.intro hR hC);clear hR hC o0
   obtain ⟨b6,h6⟩:=Bk.cf a0 0 rfl
   go_wp2
   go_roundw
   case rel=>exact ⟨k+1,pk+1,xs++[z1],_,_,by go_num,by omega,p0,HO.out,a0,b0,c0,HH.out.1,by omega,HH.out.2,by omega⟩
   case measure=>simp [intOf];omega
  have m1:decide ((k:Int) < (nv:Int))=false:=decide_eq_false (by omega)
  have d3:¬(k:Int) < (nv:Int):=by omega
  obtain ⟨u3,g4⟩:=Bk.cf b0 0 rfl
  go_upto_region 6 with (fail)
  replace x0:=Bk.lz a0
  replace y0:=Bk.lz b0
  replace g0:=Bk.lz c0
  have m5:k=nv:=by omega
  clear m1 d3 hlt
  subst m5
  have l4:Hid (∃ (j pj:Nat) (us:List Value) (L:List (List Int)) (a2:Option Addr) (c2:Nat),Value.int .i64 0=.int .i64 j∧j≤na∧Hid (L.length=j)∧Hid (∀ r ∈ L,r.length=4)∧Own2I wl wl.heap.size (.slice a2 j c2) us L∧Bk wl (w.heap.size+1+1) [.slice a k c,.slice a2 j c2]∧Bk wl (w.heap.size) [.slice pv k cv,.slice pa na ca,vb]∧Bk wl (w.heap.size+1) [.slice none 0 0,.slice none 0 0]∧wl.ownsRow w1.heap.size 3 1 (.slice a k c) k (ints xs)∧Rnd wl B g pj∧pj≤pk+4*j∧Chg (fun q=>q=g) w wl∧wl.heap.size≤wl.heap.size):=Lib.hid ⟨0,pk,[],[],none,0,rfl,by omega,Lib.hid rfl,Lib.hid (fun r hr=>by cases hr),⟨rfl,World.ownsRow_nil _ _ _ _,fun k u r hu=>by simp at hu,fun j k u u' hu=>by simp at hu⟩,a0,b0,c0,oX,hR,by omega,hC,Nat.le_refl _⟩
  have a1:∀ q,(Value.slice a k c).ownBlock=some q→w1.heap.size≤q∧q < wl.heap.size:=fun q h=>by have:=iX q h;omega
  have z4:w1.heap.size≤wl.heap.size:=by omega
  clear hR hC iX a0 b0 c0 oX u3 g4
  go_wp2_with fail
  go_loopw [7] (fun i wr=>∃ (j pj:Nat) (us:List Value) (L:List (List Int)) (a2:Option Addr) (c2:Nat),i=.int .i64 j∧j≤na∧Hid (L.length=j)∧Hid (∀ r ∈ L,r.length=4)∧Own2I wr wl.heap.size (.slice a2 j c2) us L∧Bk wr (w.heap.size+1+1) [.slice a k c,.slice a2 j c2]∧Bk wr (w.heap.size) [.slice pv k cv,.slice pa na ca,vb]∧Bk wr (w.heap.size+1) [.slice none 0 0,.slice none 0 0]∧wr.ownsRow w1.heap.size 3 1 (.slice a k c) k (ints xs)∧Rnd wr B g pj∧pj≤pk+4*j∧Chg (fun q=>q=g) w wr∧wl.heap.size≤wr.heap.size) (fun i _=>na-(intOf i).toNat)
  case atStart=>exact l4.out
  case round =>
   obtain ⟨j,pj,us,L,a2,c2,rfl,hj,n1,m2,hY,a0,b0,c0,oX,hR,o6,hC,p5⟩:=hrel
   clear l4
   obtain ⟨wm,rfl⟩:∃ X,X=wr:=⟨_,rfl⟩
   have iY:=hY.lt
   have b2:=Bk.lz a0
   have d2:=Bk.lz b0
   have e2:=Bk.lz c0
   by_cases hlt2:j < na
   ·have m1:(j:Int) < (na:Int):=by omega
    obtain ⟨v3,h4⟩:=Bk.cf b0 1 rfl
    go_upto_region 10 with (fail)
    obtain ⟨w2,d0,hb⟩:=nmw (World.alloc wm (.cells #[] 3))
    replace hC:=((hC.trans (Chg.of_below (bal (Bs _) _)))).trans (Chg.of_below hb)
    replace hR:=(hR.below (bal (Bs _) _)).below hb
    have v0:=Ob (World.ownsRow_lit (base:=(wm).heap.size) (e:=3) (size:=1) (wm) #[] 0 (Nat.le_refl _) (by unfold maxLen;omega) (by simp)) hb
    try simp only [Sa,Ss] at v0
    have u1:=hb.size
    simp only [Sa] at u1
    clear h4 v3
    replace oX:=Ob (Ob oX (bal (Bs _) _)) hb
    replace hY:=(hY.below (bal (Bs _) _)).below hb
    replace a0:=Bk.below (Bk.al a0 _) hb
    replace b0:=Bk.below (Bk.al b0 _) hb
    replace c0:=Bk.below (Bk.al c0 _) hb
    clear hb
    have j3:=v0.lt
    try simp only [Sa] at j3
    rw [← d0]
    clear d0
    replace b2:=Bk.lz a0
    replace d2:=Bk.lz b0
    replace e2:=Bk.lz c0
    have n2:∀ q,OwnB2 (.slice a2 j c2) us q→wl.heap.size≤q∧q < wm.heap.size:=fun q h=>by have:=iY q h;omega
    have a5:wl.heap.size≤wm.heap.size∧wm.heap.size≤w2.heap.size:=by omega
    have m4:Hid (∃ (e pe:Nat) (ys:List Int) (a3:Option Addr) (c3:Nat),Value.slice (some ⟨wm.heap.size,0,none⟩) 0 0=.slice a3 e c3∧Value.int .i64 0=.int .i64 e∧e≤4∧Hid (ys.length=e)∧w2.ownsRow wm.heap.size 3 1 (.slice a3 e c3) e (ints ys)∧Own2I w2 wl.heap.size (.slice a2 j c2) us L∧Bk w2 (w.heap.size+1+1) [.slice a k c,.slice a2 j c2]∧Bk w2 (w.heap.size) [.slice pv k cv,.slice pa na ca,vb]∧Bk w2 (w.heap.size+1) [.slice none 0 0,.slice none 0 0]∧w2.ownsRow w1.heap.size 3 1 (.slice a k c) k (ints xs)∧Rnd w2 B g pe∧pe≤pj+e∧Chg (fun q=>q=g) w w2∧w2.heap.size≤w2.heap.size):=Lib.hid ⟨0,pj,[],_,_,rfl,rfl,by omega,Lib.hid rfl,v0,hY,a0,b0,c0,oX,hR,by omega,hC,Nat.le_refl _⟩
    clear hR hC iY a0 b0 c0 oX hY v0
    go_wp2_with fail
    go_loopw [8,9] (fun v i wr=>∃ (e pe:Nat) (ys:List Int) (a3:Option Addr) (c3:Nat),v=.slice a3 e c3∧i=.int .i64 e∧e≤4∧Hid (ys.length=e)∧wr.ownsRow wm.heap.size 3 1 (.slice a3 e c3) e (ints ys)∧Own2I wr wl.heap.size (.slice a2 j c2) us L∧Bk wr (w.heap.size+1+1) [.slice a k c,.slice a2 j c2]∧Bk wr (w.heap.size) [.slice pv k cv,.slice pa na ca,vb]∧Bk wr (w.heap.size+1) [.slice none 0 0,.slice none 0 0]∧wr.ownsRow w1.heap.size 3 1 (.slice a k c) k (ints xs)∧Rnd wr B g pe∧pe≤pj+e∧Chg (fun q=>q=g) w wr∧w2.heap.size≤wr.heap.size) (fun _ i _=>4-(intOf i).toNat)
    case atStart=>exact m4.out
    case round =>
     obtain ⟨e,pe,ys,a3,c3,rfl,rfl,he,s2,oR,hY,a0,b0,c0,oX,hR,n6,hC,q5⟩:=hrel
     clear m4
     obtain ⟨wn,rfl⟩:∃ X,X=wr:=⟨_,rfl⟩
     have iR:=oR.lt
     have i2:=Bk.lz a0
     have j2:=Bk.lz b0
     have k2:=Bk.lz c0
     by_cases hlt3:e < 4
     ·have q4:(e:Int) < 4:=by omega
      go_wp2_with fail
      refine (l3Value_any B g (pe) _ hR (by omega)).mono ?_
      rintro e w3 ⟨z1,rfl,b5,w0,hc⟩
      replace hC:=(hC).trans hc
      replace hR:=w0;clear w0
      have y4:=hc.size
      replace oX:=Ow oX hc (fun gq h h2=>by have:=a1 gq h;have:=y1 gq h2;omega)
      replace hY:=hY.keep hc (fun gq h h2=>by have:=n2 gq h;have:=y1 gq h2;omega)
      replace oR:=Ow oR hc (fun gq h h2=>by have:=iR gq h;have:=y1 gq h2;omega)
      replace a0:=Bk.kg a0 hc
      replace b0:=Bk.kg b0 hc
      replace c0:=Bk.kg c0 hc
      clear hc
      replace i2:=Bk.lz a0
      replace j2:=Bk.lz b0
      replace k2:=Bk.lz c0
      go_wp2_with (at_builtin;refine wpList_aps tInts rfl _ _ rfl (wm.heap.size) _ e (ints ys) rfl (Ob oR (bal (Bs _) (.cells #[.int .i64 z1] 3))) _ 1 (ints [z1]) rfl ((Ro (World.ownsRow_lit (base:=(w3).heap.size) (e:=3) (size:=1) (w3) #[.int .i64 z1] 1 (Nat.le_refl _) (by unfold maxLen;omega) (by simp)) (by simp))) (one_ints [z1]) (by omega) (by first | omega | (simp only [Sa,Ss];omega)) ?_)
      intro vA w4 u0 hc t0 _
      obtain ⟨x5,y5,rfl⟩:=Oh u0
      replace hC:=chg_app (hC.trans (Chg.of_below (bal (Bs _) _))) hc (fun q hq h=>by have:=iR q h;omega)
      replace hR:=(hR.below (bal (Bs _) _)).keep hc (fun h=>by have:=iR _ h;omega) (fun k hk h=>by have:=iR _ h;omega)
      have v1:=hc.size
      simp only [Sa] at v1
      replace oX:=Ow (Ob oX (bal (Bs _) _)) hc (fun gq h h2=>by have:=a1 gq h;have:=iR gq h2;omega)
      replace hY:=(hY.below (bal (Bs _) _)).keep hc (fun gq h h2=>by have:=n2 gq h;have:=iR gq h2;omega)
      replace a0:=Bk.keep (Bk.al a0 _) hc (fun h=>by have:=iR _ h;omega)
      replace b0:=Bk.keep (Bk.al b0 _) hc (fun h=>by have:=iR _ h;omega)
      replace c0:=Bk.keep (Bk.al c0 _) hc (fun h=>by have:=iR _ h;omega)
      have y2:w4.cell? ⟨w3.heap.size,0,none⟩=some (.int .i64 z1):=Gc hc (Wc (by simp) (by rfl)) (fun h=>by have:=iR _ h;omega)
      have i5:w4.frozen? ⟨w3.heap.size,0,none⟩=false:=Gf hc (by simp <;> omega) (Fn (by simp)) (fun h=>by have:=iR _ h;omega)
      clear hc
      have k3:=u0.lt
      try simp only [Sa] at k3
      clear t0 oR
      have u5:=Lc y2
      have HO:=Lib.hid (show w4.ownsRow wm.heap.size 3 1 _ (e+1) (ints (ys++[z1])) from by rw [ints_append];exact u0)
      have t2:Hid ((ys++([z1]:List Int)).length=e+1):=Lib.hid (by rw [List.length_append,s2.out];rfl)
      have HH:=Lib.hid (And.intro hR (And.intro hC hY));clear hR hC hY u0
      go_wp2
      go_roundw
      case rel=>exact ⟨e+1,pe+1,ys++[z1],_,_,rfl,by go_num,by omega,t2,HO.out,HH.out.2.2,a0,b0,c0,oX,HH.out.1,by omega,HH.out.2.1,by omega⟩
      case measure=>simp [intOf];omega
     have q4:decide ((e:Int) < 4)=false:=decide_eq_false (by omega)
     have n5:¬(e:Int) < 4:=by omega
     go_upto_region 14 with (fail)
     replace i2:=Bk.lz a0
     replace j2:=Bk.lz b0
     replace k2:=Bk.lz c0
     have k5:e=4:=by omega
     clear q4 n5 hlt3 m1
     subst k5
     have l2:=(hY.below (bal (Bs _) (.cells #[.slice a3 4 c3] 23))).outAt;have e0:=fun q (h:(Value.slice a2 j c2).ownBlock=some q)=>n2 q (Or.inl h)
     have p4:=(hY.below (bal (Bs _) (.cells #[.slice a3 4 c3] 23)))
     have o4:=(Ob oR (bal (Bs _) (.cells #[.slice a3 4 c3] 23)))
     obtain ⟨x3,i4⟩:=Bk.cf a0 1 rfl
     go_wp2_with (at_builtin;refine wpList_aps tIntSS rfl _ _ rfl (wl.heap.size) _ j (us) rfl l2 _ 1 [.slice a3 4 c3] rfl (Ro (World.ownsRow_lit (base:=(wn).heap.size) (e:=23) (size:=1) (wn) #[.slice a3 4 c3] 1 (Nat.le_refl _) (by unfold maxLen;omega) (by simp)) (by simp)) (fun u hu=>by rw [List.mem_singleton.1 hu];rfl) (by omega) (by first | omega | (simp only [Sa,Ss];omega)) ?_)
     intro vA w3 oA hc t0 _
     obtain ⟨pA,tA,rfl⟩:=Oh oA
     have b3:=Own2.push (r:=ys) p4 (own_cast oA (by rw [n1.out])) hc (own_cast (Om o4 (by omega)) s2.out.symm) (fun q h h2=>by have:=iR q h;have:=n2 q h2;omega) (by decide)
     have p2:Hid (∀ r ∈ L++[ys],r.length=4):=Lib.hid (fun r hr=>by rcases List.mem_append.1 hr with h | h;(exact m2.out r h);(rw [List.mem_singleton.1 h];exact s2.out))
     have q2:Hid ((L++[ys]).length=j+1):=Lib.hid (by rw [List.length_append,n1.out];rfl)
     have r5:=b3.lt
     replace hC:=chg_app (hC.trans (Chg.of_below (bal (Bs _) _))) hc (fun q hq h=>by have:=e0 q h;omega)
     replace hR:=(hR.below (bal (Bs _) _)).keep hc (fun h=>by have:=e0 _ h;omega) (fun k hk h=>by have:=e0 _ h;omega)
     have x1:=hc.size
     simp only [Sa] at x1
     clear i4 x3
     replace oX:=Ow (Ob oX (bal (Bs _) _)) hc (fun gq h h2=>by have:=a1 gq h;have:=e0 gq h2;omega)
     replace a0:=Bk.keep (Bk.al a0 _) hc (fun h=>by have:=e0 _ h;omega)
     replace b0:=Bk.keep (Bk.al b0 _) hc (fun h=>by have:=e0 _ h;omega)
     replace c0:=Bk.keep (Bk.al c0 _) hc (fun h=>by have:=e0 _ h;omega)
     have z2:w3.cell? ⟨wn.heap.size,0,none⟩=some (.slice a3 4 c3):=Gc hc (Wc (by simp) (by rfl)) (fun h=>by have:=e0 _ h;omega)
     have j5:w3.frozen? ⟨wn.heap.size,0,none⟩=false:=Gf hc (by simp <;> omega) (Fn (by simp)) (fun h=>by have:=e0 _ h;omega)
     clear hc
     clear t0 l2 oA p4 o4
     have v5:=Lc z2
     obtain ⟨c6,i6⟩:=Bk.cf a0 1 rfl
     have HY:=Lib.hid (b3.keep (C1 (w.heap.size+1+1) 1 (.slice pA (j+1) tA)) (fun gq h h2=>by have:=r5 gq h;omega))
     have HX:=Lib.hid (Oe oX (w.heap.size+1+1) 1 (fun h=>by have:=a1 _ h;omega) (.slice pA (j+1) tA))
     have o2:=Lib.hid (And.intro (Bk.at a0 1 (.slice pA (j+1) tA)) (And.intro (Bk.nn (b':=(w.heap.size+1+1)) (j':=1) b0 (.slice pA (j+1) tA)) (Bk.nn (b':=(w.heap.size+1+1)) (j':=1) c0 (.slice pA (j+1) tA))))
     have HH:=Lib.hid (And.intro (hR.kC (w.heap.size+1+1) (1) (.slice pA (j+1) tA)) (hC.sN (w.heap.size+1+1) (1) (.slice pA (j+1) tA)));clear hR hC b3 oX
     go_wp2
     go_roundw
     case rel=>exact ⟨j+1,pe,_,L++[ys],_,_,by go_num,by omega,q2,p2,HY.out,o2.out.1,o2.out.2.1,o2.out.2.2,HX.out,HH.out.1,by omega,HH.out.2,by simp only [Ss];omega⟩
     case measure=>simp [intOf];omega
   have m1:decide ((j:Int) < (na:Int))=false:=decide_eq_false (by omega)
   have d3:¬(j:Int) < (na:Int):=by omega
   obtain ⟨d6,j6⟩:=Bk.cf b0 1 rfl
   go_upto_region 15 with (fail)
   replace b2:=Bk.lz a0
   replace d2:=Bk.lz b0
   replace e2:=Bk.lz c0
   have l5:j=na:=by omega
   clear m1 d3 hlt2
   subst l5
   have r2:Hid (OwnM _ w.heap.size (.slice a k c) (.slice a2 j c2) us ⟨xs,L⟩):=Lib.hid ⟨own_cast (Om (Oe (Oe oX (w.heap.size+1) 0 (fun h=>by have:=a1 _ h;omega) (.slice a k c)) (w.heap.size+1) 1 (fun h=>by have:=a1 _ h;omega) (.slice a2 j c2)) (by omega)) z0.out.symm,Own2.mono ((hY.keep (C1 (w.heap.size+1) 0 (.slice a k c)) (fun gq h h2=>by have:=iY gq h;omega)).keep (C1 (w.heap.size+1) 1 (.slice a2 j c2)) (fun gq h h2=>by have:=iY gq h;omega)) (by omega),fun q h h2=>by have:=a1 q h;have:=iY q h2;omega⟩
   clear oX hY
   obtain ⟨e6,k6,c5,f5⟩:=Bk.f2 a0 0 1 rfl rfl
   obtain ⟨d5,g5,e5,h5⟩:=Bk.f2 c0 0 1 rfl rfl
   have j4:=(((Chg.refl (fun q=>q=w.heap.size+1) wm).setCell (w.heap.size+1) 0 (.slice a k c) (fun _=>rfl)).setCell (w.heap.size+1) 1 (.slice a2 j c2) (fun _=>rfl))
   have n4:=(Bk.at (Bk.at c0 0 (.slice a k c)) 1 (.slice a2 j c2))
   obtain ⟨l6,m6⟩:=Bk.g2 n4
   have k1:=Lib.hid j4;clear j4 n4
   have l1:=Lib.hid (And.intro hC hR);clear hC hR
   go_wp2
   exact bodyPost_ret (v:=.agg #[.slice a k c,.slice a2 j c2]) (by simp [results,Tryz.results49,go_sem,l6,m6]) rfl (by exact (by first | exact ⟨_,_,us,⟨xs,L⟩,pj,rfl,r2.out,z0.out,n1.out,m2.out,l1.out.2.keep k1.out (fun h=>by omega) (fun k hk h=>by omega),by omega,chg_app l1.out.1 k1.out (fun q hq h=>by omega)⟩ | exact ⟨_,_,rfl,us,⟨xs,L⟩,r2.out,z0.out,n1.out,m2.out,pj,l1.out.2.keep k1.out (fun h=>by omega) (fun k hk h=>by omega),by omega,chg_app l1.out.1 k1.out (fun q hq h=>by omega)⟩ | exact ⟨⟨_,_,rfl⟩,us,⟨xs,L⟩,r2.out,z0.out,n1.out,m2.out,pj,l1.out.2.keep k1.out (fun h=>by omega) (fun k hk h=>by omega),by omega,chg_app l1.out.1 k1.out (fun q hq h=>by omega)⟩))
end Go.Proofs.YtkjedgnepnbkpaaGreat
