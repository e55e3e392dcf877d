/-
 Parts of the proofs of the laws FnCodeFenced,FnCountBranches.
-/
import Derived.Test.YtkjedgnepnbkpaaNB
import Derived.Test.YtkjedgnepnbkpaaQN
set_option linter.all false
namespace Go.Proofs.Ytkjedgnepnbkpaa
open Go.RowKit
set_option maxHeartbeats 6400000 in
set_option maxRecDepth 100000 in
theorem CompileProgram_any (va vb u:Value) (xs ys:List Int) (A:Nat→Prop) (D:Nat) (L:List St) (w:World) (hr:Reads w 1 va xs.length (ints xs)) (hs:Reads w 1 vb ys.length (ints ys)) (hx:BlAt w A D u L) (hA:∀ q,A q→q < w.heap.size) (hL4:L.length≤4) (hsm:∀ x ∈ L,SmS 3 x) (hx1:xs.length≤1000) (hy1:ys.length≤1000) :
  Calls Try.prog 106 #[.agg #[va,vb,u]] w fun r w'=>∃ (p0 p1 p2:Option Addr) (t0 t1 t2 n0 n1 n2:Nat) (ok:Bool),r=.returned (.tuple #[.agg #[.slice p0 n0 t0,.slice p1 n1 t1,.slice p2 n2 t2],.bool ok])∧(ok=true→DrawC w' w.heap.size (.slice p0 n0 t0) (.slice p1 n1 t1) (.slice p2 n2 t2) n0 n1 n2∧n0≤xs.length∧n1≤ys.length∧1≤n2∧n2≤400)∧Below w.heap.size w w':=by
 obtain ⟨a0,c0,rfl⟩:=reads_shape hr
 obtain ⟨a1,c1,rfl⟩:=reads_shape hs
 have j3:=Lib.hid (fun W (hW:Below w.heap.size w W)=>hr.below hW)
 have k3:=Lib.hid (fun W (hW:Below w.heap.size w W)=>hs.below hW)
 have a5:=Lib.hid (fun W (hW:Below w.heap.size w W)=>l7Compile_any _ _ u xs ys A D L W (hr.below hW) (hs.below hW) (hx.below hW) (fun q h=>by have:=hA q h;have:=hW.size;omega) hL4 hsm)
 clear hr hs hx hA hL4 hsm
 go_enter Try.func106,Try.ntmps106
 go_wp2_with fail
 refine (a5.out _ (bal (bal (Bs w) (.cells #[.slice a0 xs.length c0,.slice a1 ys.length c1,u] 110)) (.cells #[.slice none 0 0,.slice none 0 0,.slice none 0 0] 26))).mono ?_
 rintro e w1 ⟨la,fa,lc,fc,k,ap,ok,rfl,oL,hk,m2,hb⟩
 simp only [Sa] at oL
 have l3:=hb.size
 simp only [Sa] at l3
 have i0:Bk w1 (w.heap.size) [.slice a0 xs.length c0,.slice a1 ys.length c1,u]:=Bk.below (Bk.al (Bk.nw (by simp) rfl) (.cells #[.slice none 0 0,.slice none 0 0,.slice none 0 0] 26)) hb
 have g0:Bk w1 (w.heap.size+1) [.slice none 0 0,.slice none 0 0,.slice none 0 0]:=Bk.below (Bk.nw (by simp) rfl) hb
 have h0:=btr (bal (bal (Bs w) (.cells #[.slice a0 xs.length c0,.slice a1 ys.length c1,u] 110)) (.cells #[.slice none 0 0,.slice none 0 0,.slice none 0 0] 26)) hb
 clear hb
 have d2:=Bk.lz i0
 have e2:=Bk.lz g0
 have b1:=oL.lt
 try simp only [Sa] at b1
 cases ok with
 | false =>
  obtain ⟨h5,b6,i5,j5,s3,k5⟩:=Bk.f3 g0 0 1 2 rfl rfl rfl
  have r5:=(Ac (Nn (b:=(w.heap.size+1)) (j:=2) (Nn (b:=(w.heap.size+1)) (j:=1) (Tc _ (w.heap.size+1) 0 (.slice none 0 0) h5) (.slice none 0 0)) (.slice none 0 0)) (.cells #[.slice la k lc,.slice fa k fc,.int .i64 ap] 155))
  have s5:=(Ac (Nn (b:=(w.heap.size+1)) (j:=2) (Tc _ (w.heap.size+1) 1 (.slice none 0 0) (Nn (b:=(w.heap.size+1)) (j:=0) i5 (.slice none 0 0))) (.slice none 0 0)) (.cells #[.slice la k lc,.slice fa k fc,.int .i64 ap] 155))
  have t5:=(Ac (Tc _ (w.heap.size+1) 2 (.slice none 0 0) (Nn (b:=(w.heap.size+1)) (j:=1) (Nn (b:=(w.heap.size+1)) (j:=0) s3 (.slice none 0 0)) (.slice none 0 0))) (.cells #[.slice la k lc,.slice fa k fc,.int .i64 ap] 155))
  have tt:=(bal (bst (bst (bst h0 (w.heap.size+1) 0 (by omega) (.slice none 0 0)) (w.heap.size+1) 1 (by omega) (.slice none 0 0)) (w.heap.size+1) 2 (by omega) (.slice none 0 0)) (.cells #[.slice la k lc,.slice fa k fc,.int .i64 ap] 155))
  go_wp2
  exact bodyPost_ret (v:=.tuple #[.agg #[.slice none 0 0,.slice none 0 0,.slice none 0 0],.bool false]) (by simp [results,Try.results106,go_sem,r5,s5,t5]) rfl (by exact ⟨_,_,_,_,_,_,_,_,_,false,rfl,(fun h=>by cases h),tt⟩)
 | true =>
  go_upto_region 4 with (fail)
  obtain ⟨w2,j0,hb⟩:=nmw (World.alloc w1 (.cells #[.slice la k lc,.slice fa k fc,.int .i64 ap] 155))
  have o2:=hb.size
  simp only [Sa] at o2
  replace oL:=(oL.below (bal (Bs _) _)).below hb
  replace i0:=Bk.below (Bk.al i0 _) hb
  replace g0:=Bk.below (Bk.al g0 _) hb
  have f0:Bk w2 (w1.heap.size) [.slice la k lc,.slice fa k fc,.int .i64 ap]:=Bk.below (Bk.nw (by simp) rfl) hb
  replace h0:=btr (bal h0 _) hb
  clear hb
  rw [← j0]
  clear j0
  have b0:=Bk.cell i0 0 (v:=.slice a0 xs.length c0) rfl
  have d0:=Bk.cell i0 1 (v:=.slice a1 ys.length c1) rfl
  have e0:=Bk.cell f0 0 (v:=.slice la k lc) rfl
  have u0:=Bk.lz f0
  refine wp_region_noPanic ?_
  refine wp_region_held_drew (S:=(fun W'=>W'.cell? ⟨w.heap.size,0,none⟩=some (.slice a0 xs.length c0)∧W'.cell? ⟨w.heap.size,1,none⟩=some (.slice a1 ys.length c1)∧W'.cell? ⟨w1.heap.size,0,none⟩=some (.slice la k lc))) (by kernel_rfl) ⟨Kc (Below.drew (Bs w2)) b0,Kc (Below.drew (Bs w2)) d0,Kc (Below.drew (Bs w2)) e0⟩ (fun hHeld=>?_)
  obtain ⟨w3,m3⟩:∃ X,X=World.drew w2:=⟨_,rfl⟩
  rw [← m3] at hHeld ⊢
  have hb:Below w2.heap.size w2 w3:=by rw [m3];exact Below.drew (Bs _)
  clear m3
  have p4:=hb.size
  replace oL:=oL.below hb
  replace b0:=Kc hb b0
  replace d0:=Kc hb d0
  replace e0:=Kc hb e0
  replace i0:=Bk.below i0 hb
  replace g0:=Bk.below g0 hb
  replace f0:=Bk.below f0 hb
  replace h0:=btr h0 hb
  clear hb
  replace d2:=Bk.lz i0
  replace e2:=Bk.lz g0
  replace u0:=Bk.lz f0
  refine (tq 1 15 rfl rfl ?_ ?_ (tq 2 16 rfl rfl ?_ ?_ (tq 5 19 rfl rfl ?_ ?_ (tq 6 20 rfl rfl ?_ ?_ (tq 8 22 rfl rfl ?_ ?_ (tq 9 23 rfl rfl ?_ ?_ ?_))))))
  iterate 6 (rotate_left;intro W' hSw;(try dsimp only at hSw);go_simp;try with_reducible rfl)
  try simp only [Ep]
  refine Rdy2 0 4 rfl rfl (fun K hK=>?_) (fun K hK=>?_)
  ·go_simp
   obtain ⟨w4,j0,hb⟩:=nmw (World.alloc w3 (.cells #[] 3))
   have y0:=Ob (World.ownsRow_lit (base:=(w3).heap.size) (e:=3) (size:=1) (w3) #[] 0 (Nat.le_refl _) (by unfold maxLen;omega) (by simp)) hb
   try simp only [Sa,Ss] at y0
   have q2:=hb.size
   simp only [Sa] at q2
   replace oL:=(oL.below (bal (Bs _) _)).below hb
   replace b0:=Kc hb (Ac b0 _)
   replace d0:=Kc hb (Ac d0 _)
   replace e0:=Kc hb (Ac e0 _)
   replace i0:=Bk.below (Bk.al i0 _) hb
   replace g0:=Bk.below (Bk.al g0 _) hb
   replace f0:=Bk.below (Bk.al f0 _) hb
   replace h0:=btr (bal h0 _) hb
   clear hb
   have n3:=y0.lt
   try simp only [Sa] at n3
   rw [← j0]
   clear j0
   replace d2:=Bk.lz i0
   replace e2:=Bk.lz g0
   replace u0:=Bk.lz f0
   refine hK.out _ _ ⟨b0,d0,e0⟩ (fun hHeld=>?_)
   clear hK K
   try simp only [Ep]
   refine Rdy2 3 4 rfl rfl (fun K hK=>?_) (fun K hK=>?_)
   ·have s0:∀ q,(Value.slice (some ⟨w3.heap.size,0,none⟩) 0 0).ownBlock=some q→q=w3.heap.size:=fun q h=>(Option.some.inj h).symm
    refine step_aps tInts rfl _ _ rfl (w3.heap.size) _ 0 ([]) rfl y0 _ xs.length (ints xs) rfl ((j3.out _ h0)) (one_ints xs) (by omega) (by first | omega | (simp only [Sa,Ss];omega)) ?_
    intro vA w5 m0 hc x0 _
    try simp only [Nat.zero_add,List.nil_append] at m0
    obtain ⟨g1,m1,rfl⟩:=Oh m0
    have x1:∀ q,(Value.slice g1 xs.length m1).ownBlock=some q→(q=w3.heap.size∨w4.heap.size≤q)∧q < w5.heap.size:=fun q h=>⟨by rcases x0 with e | ⟨g,e,hg⟩;(rw [e] at h;exact Or.inl (s0 q h));(rw [e] at h;have:=Option.some.inj h;omega),(m0.lt q h).2⟩
    have q4:=hc.size
    replace oL:=oL.keep hc (fun gq h h2=>by have:=b1 gq h;have:=s0 gq h2;omega)
    replace b0:=Gc hc b0 (fun h=>by have:=s0 _ h;omega)
    replace d0:=Gc hc d0 (fun h=>by have:=s0 _ h;omega)
    replace e0:=Gc hc e0 (fun h=>by have:=s0 _ h;omega)
    replace i0:=Bk.keep i0 hc (fun h=>by have:=s0 _ h;omega)
    replace g0:=Bk.keep g0 hc (fun h=>by have:=s0 _ h;omega)
    replace f0:=Bk.keep f0 hc (fun h=>by have:=s0 _ h;omega)
    replace h0:=h0.trans (hc.below w.heap.size (by have:=h0.size;omega) (fun gq hgq h=>by have:=s0 gq h;omega))
    clear hc
    have b5:=m0.lt
    clear x0 y0
    replace d2:=Bk.lz i0
    replace e2:=Bk.lz g0
    replace u0:=Bk.lz f0
    refine hK.out _ _ ⟨b0,d0,e0⟩ (fun hHeld=>?_)
    clear hK K
    try simp only [Ep]
    refine Rdy 4 rfl (fun K hK=>?_)
    go_simp
    obtain ⟨w6,j0,hb⟩:=nmw (World.alloc w5 (.cells #[] 3))
    have f2:=Ob (World.ownsRow_lit (base:=(w5).heap.size) (e:=3) (size:=1) (w5) #[] 0 (Nat.le_refl _) (by unfold maxLen;omega) (by simp)) hb
    try simp only [Sa,Ss] at f2
    have r2:=hb.size
    simp only [Sa] at r2
    replace oL:=(oL.below (bal (Bs _) _)).below hb
    replace b0:=Kc hb (Ac b0 _)
    replace d0:=Kc hb (Ac d0 _)
    replace e0:=Kc hb (Ac e0 _)
    replace m0:=Ob (Ob m0 (bal (Bs _) _)) hb
    replace i0:=Bk.below (Bk.al i0 _) hb
    replace g0:=Bk.below (Bk.al g0 _) hb
    replace f0:=Bk.below (Bk.al f0 _) hb
    replace h0:=btr (bal h0 _) hb
    clear hb
    have o3:=f2.lt
    try simp only [Sa] at o3
    rw [← j0]
    clear j0
    replace d2:=Bk.lz i0
    replace e2:=Bk.lz g0
    replace u0:=Bk.lz f0
    refine hK.out _ _ ⟨b0,d0,e0⟩ (fun hHeld=>?_)
    clear hK K
    try simp only [Ep]
    refine Rdy 7 rfl (fun K hK=>?_)
    have o0:∀ q,(Value.slice (some ⟨w5.heap.size,0,none⟩) 0 0).ownBlock=some q→q=w5.heap.size:=fun q h=>(Option.some.inj h).symm
    refine step_aps tInts rfl _ _ rfl (w5.heap.size) _ 0 ([]) rfl f2 _ ys.length (ints ys) rfl ((k3.out _ h0)) (one_ints ys) (by omega) (by first | omega | (simp only [Sa,Ss];omega)) ?_
    intro vA w7 d1 hc x0 _
    try simp only [Nat.zero_add,List.nil_append] at d1
    obtain ⟨h1,o1,rfl⟩:=Oh d1
    have a2:∀ q,(Value.slice h1 ys.length o1).ownBlock=some q→(q=w5.heap.size∨w6.heap.size≤q)∧q < w7.heap.size:=fun q h=>⟨by rcases x0 with e | ⟨g,e,hg⟩;(rw [e] at h;exact Or.inl (o0 q h));(rw [e] at h;have:=Option.some.inj h;omega),(d1.lt q h).2⟩
    have r4:=hc.size
    replace oL:=oL.keep hc (fun gq h h2=>by have:=b1 gq h;have:=o0 gq h2;omega)
    replace b0:=Gc hc b0 (fun h=>by have:=o0 _ h;omega)
    replace d0:=Gc hc d0 (fun h=>by have:=o0 _ h;omega)
    replace e0:=Gc hc e0 (fun h=>by have:=o0 _ h;omega)
    replace m0:=Ow m0 hc (fun gq h h2=>by have:=x1 gq h;have:=o0 gq h2;omega)
    replace i0:=Bk.keep i0 hc (fun h=>by have:=o0 _ h;omega)
    replace g0:=Bk.keep g0 hc (fun h=>by have:=o0 _ h;omega)
    replace f0:=Bk.keep f0 hc (fun h=>by have:=o0 _ h;omega)
    replace h0:=h0.trans (hc.below w.heap.size (by have:=h0.size;omega) (fun gq hgq h=>by have:=o0 gq h;omega))
    clear hc
    have c5:=d1.lt
    clear x0 f2
    refine hK.out _ _ ⟨b0,d0,e0⟩ (fun hHeld=>?_)
    clear hK K
    try simp only [Ep]
    refine (tq 10 24 rfl rfl (.agg #[.slice g1 xs.length m1,.slice h1 ys.length o1,.slice la k lc]) (fun W' _=>by kernel_rfl) ?_)
    try simp only [Ep]
    refine Rdy 11 rfl (fun K hK=>?_)
    obtain ⟨t3,g4,u3,h4,v3,i4⟩:=Bk.f3 g0 0 1 2 rfl rfl rfl
    go_simp
    obtain ⟨w8,j0,hb⟩:=nmw (World.setCell (World.setCell (World.setCell w7 ⟨w.heap.size+1,0,none⟩ (.slice g1 xs.length m1)) ⟨w.heap.size+1,1,none⟩ (.slice h1 ys.length o1)) ⟨w.heap.size+1,2,none⟩ (.slice la k lc))
    have s2:=hb.size
    simp only [Ss] at s2
    clear g4 t3 h4 u3 i4 v3
    replace oL:=(((oL.keep (C1 _ _ _) (fun gq h h2=>by have:=b1 gq h;omega)).keep (C1 _ _ _) (fun gq h h2=>by have:=b1 gq h;omega)).keep (C1 _ _ _) (fun gq h h2=>by have:=b1 gq h;omega)).below hb
    replace b0:=Kc hb (Nn (Nn (Nn b0 _) _) _)
    replace d0:=Kc hb (Nn (Nn (Nn d0 _) _) _)
    replace e0:=Kc hb (Nn (Nn (Nn e0 _) _) _)
    replace m0:=Ob (Oe (Oe (Oe m0 _ _ (fun h=>by have:=x1 _ h;omega) _) _ _ (fun h=>by have:=x1 _ h;omega) _) _ _ (fun h=>by have:=x1 _ h;omega) _) hb
    replace d1:=Ob (Oe (Oe (Oe d1 _ _ (fun h=>by have:=a2 _ h;omega) _) _ _ (fun h=>by have:=a2 _ h;omega) _) _ _ (fun h=>by have:=a2 _ h;omega) _) hb
    replace i0:=Bk.below (Bk.nn (Bk.nn (Bk.nn i0 _) _) _) hb
    replace g0:Bk w8 (w.heap.size+1) [.slice g1 xs.length m1,.slice h1 ys.length o1,.slice la k lc]:=Bk.below (Bk.at (Bk.at (Bk.at g0 0 (.slice g1 xs.length m1)) 1 (.slice h1 ys.length o1)) 2 (.slice la k lc)) hb
    replace f0:=Bk.below (Bk.nn (Bk.nn (Bk.nn f0 _) _) _) hb
    replace h0:=btr (bst (bst (bst h0 (w.heap.size+1) 0 (by omega) (.slice g1 xs.length m1)) (w.heap.size+1) 1 (by omega) (.slice h1 ys.length o1)) (w.heap.size+1) 2 (by omega) (.slice la k lc)) hb
    clear hb
    rw [← j0]
    clear j0
    refine hK.out _ _ ⟨b0,d0,e0⟩ (fun hHeld=>?_)
    clear hK K
    try simp only [Ep]
    refine (tq 12 3 rfl rfl ?_ ?_ ?_)
    (rotate_left;intro W' hSw;(try dsimp only at hSw);go_simp;try with_reducible rfl)
    try simp only [Ep]
    refine Dn ?_
    clear hHeld
    obtain ⟨il,k2,oI⟩:=oL.l
    have j2:DrawC _ w.heap.size _ _ _ xs.length ys.length k:=⟨⟨xs,ys,il⟩,rfl,rfl,k2,⟨Om m0 (by omega),Om d1 (by omega),own_cast (Om oI (by omega)) k2.symm,fun q h h2=>by have:=x1 q h;have:=a2 q h2;omega⟩⟩
    have i2:=Lib.hid j2;clear j2 oI
    obtain ⟨x3,l5,y3,m5,z3,n5⟩:=Bk.f3 g0 0 1 2 rfl rfl rfl
    have u5:=x3
    have v5:=y3
    have x5:=z3
    have tt:=h0
    go_wp2
    exact bodyPost_ret (v:=.tuple #[.agg #[.slice g1 xs.length m1,.slice h1 ys.length o1,.slice la k lc],.bool true]) (by simp [results,Try.results106,go_sem,u5,v5,x5]) rfl (by exact (by first | exact ⟨_,_,_,_,_,_,_,_,_,true,rfl,(fun _=>⟨i2.out,Nat.le_refl _,Nat.le_refl _,m2 rfl,hk⟩),tt⟩ | exact ⟨_,_,_,_,_,_,_,_,_,true,rfl,(fun _=>⟨i2.out,Nat.le_refl _,Nat.le_refl _,m2 trivial,hk⟩),tt⟩))
   go_simp
   obtain ⟨w5,j0,hb⟩:=nmw (World.alloc w4 (.cells #[] 3))
   have v1:=Ob (World.ownsRow_lit (base:=(w4).heap.size) (e:=3) (size:=1) (w4) #[] 0 (Nat.le_refl _) (by unfold maxLen;omega) (by simp)) hb
   try simp only [Sa,Ss] at v1
   have u2:=hb.size
   simp only [Sa] at u2
   replace oL:=(oL.below (bal (Bs _) _)).below hb
   replace b0:=Kc hb (Ac b0 _)
   replace d0:=Kc hb (Ac d0 _)
   replace e0:=Kc hb (Ac e0 _)
   replace y0:=Ob (Ob y0 (bal (Bs _) _)) hb
   replace i0:=Bk.below (Bk.al i0 _) hb
   replace g0:=Bk.below (Bk.al g0 _) hb
   replace f0:=Bk.below (Bk.al f0 _) hb
   replace h0:=btr (bal h0 _) hb
   clear hb
   have p3:=v1.lt
   try simp only [Sa] at p3
   rw [← j0]
   clear j0
   replace d2:=Bk.lz i0
   replace e2:=Bk.lz g0
   replace u0:=Bk.lz f0
   refine hK.out _ _ ⟨b0,d0,e0⟩ (fun hHeld=>?_)
   clear hK K
   try simp only [Ep]
   refine Rdy 3 rfl (fun K hK=>?_)
   have q0:∀ q,(Value.slice (some ⟨w3.heap.size,0,none⟩) 0 0).ownBlock=some q→q=w3.heap.size:=fun q h=>(Option.some.inj h).symm
   have k0:∀ q,(Value.slice (some ⟨w4.heap.size,0,none⟩) 0 0).ownBlock=some q→q=w4.heap.size:=fun q h=>(Option.some.inj h).symm
   refine step_aps tInts rfl _ _ rfl (w3.heap.size) _ 0 ([]) rfl y0 _ xs.length (ints xs) rfl ((j3.out _ h0)) (one_ints xs) (by omega) (by first | omega | (simp only [Sa,Ss];omega)) ?_
   intro vA w6 v0 hc x0 _
   try simp only [Nat.zero_add,List.nil_append] at v0
   obtain ⟨i1,q1,rfl⟩:=Oh v0
   have y1:∀ q,(Value.slice i1 xs.length q1).ownBlock=some q→(q=w3.heap.size∨w5.heap.size≤q)∧q < w6.heap.size:=fun q h=>⟨by rcases x0 with e | ⟨g,e,hg⟩;(rw [e] at h;exact Or.inl (q0 q h));(rw [e] at h;have:=Option.some.inj h;omega),(v0.lt q h).2⟩
   have s4:=hc.size
   replace oL:=oL.keep hc (fun gq h h2=>by have:=b1 gq h;have:=q0 gq h2;omega)
   replace b0:=Gc hc b0 (fun h=>by have:=q0 _ h;omega)
   replace d0:=Gc hc d0 (fun h=>by have:=q0 _ h;omega)
   replace e0:=Gc hc e0 (fun h=>by have:=q0 _ h;omega)
   replace v1:=Ow v1 hc (fun gq h h2=>by have:=k0 gq h;have:=q0 gq h2;omega)
   replace i0:=Bk.keep i0 hc (fun h=>by have:=q0 _ h;omega)
   replace g0:=Bk.keep g0 hc (fun h=>by have:=q0 _ h;omega)
   replace f0:=Bk.keep f0 hc (fun h=>by have:=q0 _ h;omega)
   replace h0:=h0.trans (hc.below w.heap.size (by have:=h0.size;omega) (fun gq hgq h=>by have:=q0 gq h;omega))
   clear hc
   have d5:=v0.lt
   clear x0 y0
   replace d2:=Bk.lz i0
   replace e2:=Bk.lz g0
   replace u0:=Bk.lz f0
   refine hK.out _ _ ⟨b0,d0,e0⟩ (fun hHeld=>?_)
   clear hK K
   try simp only [Ep]
   refine Rdy 7 rfl (fun K hK=>?_)
   refine step_aps tInts rfl _ _ rfl (w4.heap.size) _ 0 ([]) rfl v1 _ ys.length (ints ys) rfl ((k3.out _ h0)) (one_ints ys) (by omega) (by first | omega | (simp only [Sa,Ss];omega)) ?_
   intro vA w7 e1 hc x0 _
   try simp only [Nat.zero_add,List.nil_append] at e1
   obtain ⟨j1,r1,rfl⟩:=Oh e1
   have b2:∀ q,(Value.slice j1 ys.length r1).ownBlock=some q→(q=w4.heap.size∨w6.heap.size≤q)∧q < w7.heap.size:=fun q h=>⟨by rcases x0 with e | ⟨g,e,hg⟩;(rw [e] at h;exact Or.inl (k0 q h));(rw [e] at h;have:=Option.some.inj h;omega),(e1.lt q h).2⟩
   have t4:=hc.size
   replace oL:=oL.keep hc (fun gq h h2=>by have:=b1 gq h;have:=k0 gq h2;omega)
   replace b0:=Gc hc b0 (fun h=>by have:=k0 _ h;omega)
   replace d0:=Gc hc d0 (fun h=>by have:=k0 _ h;omega)
   replace e0:=Gc hc e0 (fun h=>by have:=k0 _ h;omega)
   replace v0:=Ow v0 hc (fun gq h h2=>by have:=y1 gq h;have:=k0 gq h2;omega)
   replace i0:=Bk.keep i0 hc (fun h=>by have:=k0 _ h;omega)
   replace g0:=Bk.keep g0 hc (fun h=>by have:=k0 _ h;omega)
   replace f0:=Bk.keep f0 hc (fun h=>by have:=k0 _ h;omega)
   replace h0:=h0.trans (hc.below w.heap.size (by have:=h0.size;omega) (fun gq hgq h=>by have:=k0 gq h;omega))
   clear hc
   have e5:=e1.lt
   clear x0 v1
   refine hK.out _ _ ⟨b0,d0,e0⟩ (fun hHeld=>?_)
   clear hK K
   try simp only [Ep]
   refine (tq 10 24 rfl rfl (.agg #[.slice i1 xs.length q1,.slice j1 ys.length r1,.slice la k lc]) (fun W' _=>by kernel_rfl) ?_)
   try simp only [Ep]
   refine Rdy 11 rfl (fun K hK=>?_)
   obtain ⟨a4,j4,b4,k4,c4,l4⟩:=Bk.f3 g0 0 1 2 rfl rfl rfl
   go_simp
   obtain ⟨w8,j0,hb⟩:=nmw (World.setCell (World.setCell (World.setCell w7 ⟨w.heap.size+1,0,none⟩ (.slice i1 xs.length q1)) ⟨w.heap.size+1,1,none⟩ (.slice j1 ys.length r1)) ⟨w.heap.size+1,2,none⟩ (.slice la k lc))
   have v2:=hb.size
   simp only [Ss] at v2
   clear j4 a4 k4 b4 l4 c4
   replace oL:=(((oL.keep (C1 _ _ _) (fun gq h h2=>by have:=b1 gq h;omega)).keep (C1 _ _ _) (fun gq h h2=>by have:=b1 gq h;omega)).keep (C1 _ _ _) (fun gq h h2=>by have:=b1 gq h;omega)).below hb
   replace b0:=Kc hb (Nn (Nn (Nn b0 _) _) _)
   replace d0:=Kc hb (Nn (Nn (Nn d0 _) _) _)
   replace e0:=Kc hb (Nn (Nn (Nn e0 _) _) _)
   replace v0:=Ob (Oe (Oe (Oe v0 _ _ (fun h=>by have:=y1 _ h;omega) _) _ _ (fun h=>by have:=y1 _ h;omega) _) _ _ (fun h=>by have:=y1 _ h;omega) _) hb
   replace e1:=Ob (Oe (Oe (Oe e1 _ _ (fun h=>by have:=b2 _ h;omega) _) _ _ (fun h=>by have:=b2 _ h;omega) _) _ _ (fun h=>by have:=b2 _ h;omega) _) hb
   replace i0:=Bk.below (Bk.nn (Bk.nn (Bk.nn i0 _) _) _) hb
   replace g0:Bk w8 (w.heap.size+1) [.slice i1 xs.length q1,.slice j1 ys.length r1,.slice la k lc]:=Bk.below (Bk.at (Bk.at (Bk.at g0 0 (.slice i1 xs.length q1)) 1 (.slice j1 ys.length r1)) 2 (.slice la k lc)) hb
   replace f0:=Bk.below (Bk.nn (Bk.nn (Bk.nn f0 _) _) _) hb
   replace h0:=btr (bst (bst (bst h0 (w.heap.size+1) 0 (by omega) (.slice i1 xs.length q1)) (w.heap.size+1) 1 (by omega) (.slice j1 ys.length r1)) (w.heap.size+1) 2 (by omega) (.slice la k lc)) hb
   clear hb
   rw [← j0]
   clear j0
   refine hK.out _ _ ⟨b0,d0,e0⟩ (fun hHeld=>?_)
   clear hK K
   try simp only [Ep]
   refine (tq 12 3 rfl rfl ?_ ?_ ?_)
   (rotate_left;intro W' hSw;(try dsimp only at hSw);go_simp;try with_reducible rfl)
   try simp only [Ep]
   refine Dn ?_
   clear hHeld
   obtain ⟨il,k2,oI⟩:=oL.l
   have j2:DrawC _ w.heap.size _ _ _ xs.length ys.length k:=⟨⟨xs,ys,il⟩,rfl,rfl,k2,⟨Om v0 (by omega),Om e1 (by omega),own_cast (Om oI (by omega)) k2.symm,fun q h h2=>by have:=y1 q h;have:=b2 q h2;omega⟩⟩
   have i2:=Lib.hid j2;clear j2 oI
   obtain ⟨d4,o5,e4,p5,f4,q5⟩:=Bk.f3 g0 0 1 2 rfl rfl rfl
   have y5:=d4
   have z5:=e4
   have a6:=f4
   have tt:=h0
   go_wp2
   exact bodyPost_ret (v:=.tuple #[.agg #[.slice i1 xs.length q1,.slice j1 ys.length r1,.slice la k lc],.bool true]) (by simp [results,Try.results106,go_sem,y5,z5,a6]) rfl (by exact (by first | exact ⟨_,_,_,_,_,_,_,_,_,true,rfl,(fun _=>⟨i2.out,Nat.le_refl _,Nat.le_refl _,m2 rfl,hk⟩),tt⟩ | exact ⟨_,_,_,_,_,_,_,_,_,true,rfl,(fun _=>⟨i2.out,Nat.le_refl _,Nat.le_refl _,m2 trivial,hk⟩),tt⟩))
  go_simp
  obtain ⟨w4,j0,hb⟩:=nmw (World.alloc w3 (.cells #[] 3))
  have z0:=Ob (World.ownsRow_lit (base:=(w3).heap.size) (e:=3) (size:=1) (w3) #[] 0 (Nat.le_refl _) (by unfold maxLen;omega) (by simp)) hb
  try simp only [Sa,Ss] at z0
  have x2:=hb.size
  simp only [Sa] at x2
  replace oL:=(oL.below (bal (Bs _) _)).below hb
  replace b0:=Kc hb (Ac b0 _)
  replace d0:=Kc hb (Ac d0 _)
  replace e0:=Kc hb (Ac e0 _)
  replace i0:=Bk.below (Bk.al i0 _) hb
  replace g0:=Bk.below (Bk.al g0 _) hb
  replace f0:=Bk.below (Bk.al f0 _) hb
  replace h0:=btr (bal h0 _) hb
  clear hb
  have q3:=z0.lt
  try simp only [Sa] at q3
  rw [← j0]
  clear j0
  replace d2:=Bk.lz i0
  replace e2:=Bk.lz g0
  replace u0:=Bk.lz f0
  refine hK.out _ _ ⟨b0,d0,e0⟩ (fun hHeld=>?_)
  clear hK K
  try simp only [Ep]
  refine Rdy 0 rfl (fun K hK=>?_)
  go_simp
  obtain ⟨w5,j0,hb⟩:=nmw (World.alloc w4 (.cells #[] 3))
  have g2:=Ob (World.ownsRow_lit (base:=(w4).heap.size) (e:=3) (size:=1) (w4) #[] 0 (Nat.le_refl _) (by unfold maxLen;omega) (by simp)) hb
  try simp only [Sa,Ss] at g2
  have y2:=hb.size
  simp only [Sa] at y2
  replace oL:=(oL.below (bal (Bs _) _)).below hb
  replace b0:=Kc hb (Ac b0 _)
  replace d0:=Kc hb (Ac d0 _)
  replace e0:=Kc hb (Ac e0 _)
  replace z0:=Ob (Ob z0 (bal (Bs _) _)) hb
  replace i0:=Bk.below (Bk.al i0 _) hb
  replace g0:=Bk.below (Bk.al g0 _) hb
  replace f0:=Bk.below (Bk.al f0 _) hb
  replace h0:=btr (bal h0 _) hb
  clear hb
  have r3:=g2.lt
  try simp only [Sa] at r3
  rw [← j0]
  clear j0
  replace d2:=Bk.lz i0
  replace e2:=Bk.lz g0
  replace u0:=Bk.lz f0
  refine hK.out _ _ ⟨b0,d0,e0⟩ (fun hHeld=>?_)
  clear hK K
  try simp only [Ep]
  refine Rdy 3 rfl (fun K hK=>?_)
  have l0:∀ q,(Value.slice (some ⟨w3.heap.size,0,none⟩) 0 0).ownBlock=some q→q=w3.heap.size:=fun q h=>(Option.some.inj h).symm
  have r0:∀ q,(Value.slice (some ⟨w4.heap.size,0,none⟩) 0 0).ownBlock=some q→q=w4.heap.size:=fun q h=>(Option.some.inj h).symm
  refine step_aps tInts rfl _ _ rfl (w4.heap.size) _ 0 ([]) rfl g2 _ xs.length (ints xs) rfl ((j3.out _ h0)) (one_ints xs) (by omega) (by first | omega | (simp only [Sa,Ss];omega)) ?_
  intro vA w6 w0 hc x0 _
  try simp only [Nat.zero_add,List.nil_append] at w0
  obtain ⟨k1,s1,rfl⟩:=Oh w0
  have z1:∀ q,(Value.slice k1 xs.length s1).ownBlock=some q→(q=w4.heap.size∨w5.heap.size≤q)∧q < w6.heap.size:=fun q h=>⟨by rcases x0 with e | ⟨g,e,hg⟩;(rw [e] at h;exact Or.inl (r0 q h));(rw [e] at h;have:=Option.some.inj h;omega),(w0.lt q h).2⟩
  have u4:=hc.size
  replace oL:=oL.keep hc (fun gq h h2=>by have:=b1 gq h;have:=r0 gq h2;omega)
  replace b0:=Gc hc b0 (fun h=>by have:=r0 _ h;omega)
  replace d0:=Gc hc d0 (fun h=>by have:=r0 _ h;omega)
  replace e0:=Gc hc e0 (fun h=>by have:=r0 _ h;omega)
  replace z0:=Ow z0 hc (fun gq h h2=>by have:=l0 gq h;have:=r0 gq h2;omega)
  replace i0:=Bk.keep i0 hc (fun h=>by have:=r0 _ h;omega)
  replace g0:=Bk.keep g0 hc (fun h=>by have:=r0 _ h;omega)
  replace f0:=Bk.keep f0 hc (fun h=>by have:=r0 _ h;omega)
  replace h0:=h0.trans (hc.below w.heap.size (by have:=h0.size;omega) (fun gq hgq h=>by have:=r0 gq h;omega))
  clear hc
  have f5:=w0.lt
  clear x0 g2
  replace d2:=Bk.lz i0
  replace e2:=Bk.lz g0
  replace u0:=Bk.lz f0
  refine hK.out _ _ ⟨b0,d0,e0⟩ (fun hHeld=>?_)
  clear hK K
  try simp only [Ep]
  refine Rdy 7 rfl (fun K hK=>?_)
  refine step_aps tInts rfl _ _ rfl (w3.heap.size) _ 0 ([]) rfl z0 _ ys.length (ints ys) rfl ((k3.out _ h0)) (one_ints ys) (by omega) (by first | omega | (simp only [Sa,Ss];omega)) ?_
  intro vA w7 f1 hc x0 _
  try simp only [Nat.zero_add,List.nil_append] at f1
  obtain ⟨l1,u1,rfl⟩:=Oh f1
  have c2:∀ q,(Value.slice l1 ys.length u1).ownBlock=some q→(q=w3.heap.size∨w6.heap.size≤q)∧q < w7.heap.size:=fun q h=>⟨by rcases x0 with e | ⟨g,e,hg⟩;(rw [e] at h;exact Or.inl (l0 q h));(rw [e] at h;have:=Option.some.inj h;omega),(f1.lt q h).2⟩
  have v4:=hc.size
  replace oL:=oL.keep hc (fun gq h h2=>by have:=b1 gq h;have:=l0 gq h2;omega)
  replace b0:=Gc hc b0 (fun h=>by have:=l0 _ h;omega)
  replace d0:=Gc hc d0 (fun h=>by have:=l0 _ h;omega)
  replace e0:=Gc hc e0 (fun h=>by have:=l0 _ h;omega)
  replace w0:=Ow w0 hc (fun gq h h2=>by have:=z1 gq h;have:=l0 gq h2;omega)
  replace i0:=Bk.keep i0 hc (fun h=>by have:=l0 _ h;omega)
  replace g0:=Bk.keep g0 hc (fun h=>by have:=l0 _ h;omega)
  replace f0:=Bk.keep f0 hc (fun h=>by have:=l0 _ h;omega)
  replace h0:=h0.trans (hc.below w.heap.size (by have:=h0.size;omega) (fun gq hgq h=>by have:=l0 gq h;omega))
  clear hc
  have g5:=f1.lt
  clear x0 z0
  refine hK.out _ _ ⟨b0,d0,e0⟩ (fun hHeld=>?_)
  clear hK K
  try simp only [Ep]
  refine (tq 10 24 rfl rfl (.agg #[.slice k1 xs.length s1,.slice l1 ys.length u1,.slice la k lc]) (fun W' _=>by kernel_rfl) ?_)
  try simp only [Ep]
  refine Rdy 11 rfl (fun K hK=>?_)
  obtain ⟨z2,g3,a3,h3,b3,i3⟩:=Bk.f3 g0 0 1 2 rfl rfl rfl
  go_simp
  obtain ⟨w8,j0,hb⟩:=nmw (World.setCell (World.setCell (World.setCell w7 ⟨w.heap.size+1,0,none⟩ (.slice k1 xs.length s1)) ⟨w.heap.size+1,1,none⟩ (.slice l1 ys.length u1)) ⟨w.heap.size+1,2,none⟩ (.slice la k lc))
  have l2:=hb.size
  simp only [Ss] at l2
  clear g3 z2 h3 a3 i3 b3
  replace oL:=(((oL.keep (C1 _ _ _) (fun gq h h2=>by have:=b1 gq h;omega)).keep (C1 _ _ _) (fun gq h h2=>by have:=b1 gq h;omega)).keep (C1 _ _ _) (fun gq h h2=>by have:=b1 gq h;omega)).below hb
  replace b0:=Kc hb (Nn (Nn (Nn b0 _) _) _)
  replace d0:=Kc hb (Nn (Nn (Nn d0 _) _) _)
  replace e0:=Kc hb (Nn (Nn (Nn e0 _) _) _)
  replace w0:=Ob (Oe (Oe (Oe w0 _ _ (fun h=>by have:=z1 _ h;omega) _) _ _ (fun h=>by have:=z1 _ h;omega) _) _ _ (fun h=>by have:=z1 _ h;omega) _) hb
  replace f1:=Ob (Oe (Oe (Oe f1 _ _ (fun h=>by have:=c2 _ h;omega) _) _ _ (fun h=>by have:=c2 _ h;omega) _) _ _ (fun h=>by have:=c2 _ h;omega) _) hb
  replace i0:=Bk.below (Bk.nn (Bk.nn (Bk.nn i0 _) _) _) hb
  replace g0:Bk w8 (w.heap.size+1) [.slice k1 xs.length s1,.slice l1 ys.length u1,.slice la k lc]:=Bk.below (Bk.at (Bk.at (Bk.at g0 0 (.slice k1 xs.length s1)) 1 (.slice l1 ys.length u1)) 2 (.slice la k lc)) hb
  replace f0:=Bk.below (Bk.nn (Bk.nn (Bk.nn f0 _) _) _) hb
  replace h0:=btr (bst (bst (bst h0 (w.heap.size+1) 0 (by omega) (.slice k1 xs.length s1)) (w.heap.size+1) 1 (by omega) (.slice l1 ys.length u1)) (w.heap.size+1) 2 (by omega) (.slice la k lc)) hb
  clear hb
  rw [← j0]
  clear j0
  refine hK.out _ _ ⟨b0,d0,e0⟩ (fun hHeld=>?_)
  clear hK K
  try simp only [Ep]
  refine (tq 12 3 rfl rfl ?_ ?_ ?_)
  (rotate_left;intro W' hSw;(try dsimp only at hSw);go_simp;try with_reducible rfl)
  try simp only [Ep]
  refine Dn ?_
  clear hHeld
  obtain ⟨il,k2,oI⟩:=oL.l
  have j2:DrawC _ w.heap.size _ _ _ xs.length ys.length k:=⟨⟨xs,ys,il⟩,rfl,rfl,k2,⟨Om w0 (by omega),Om f1 (by omega),own_cast (Om oI (by omega)) k2.symm,fun q h h2=>by have:=z1 q h;have:=c2 q h2;omega⟩⟩
  have i2:=Lib.hid j2;clear j2 oI
  obtain ⟨c3,x4,d3,y4,e3,z4⟩:=Bk.f3 g0 0 1 2 rfl rfl rfl
  have m4:=c3
  have n4:=d3
  have o4:=e3
  have tt:=h0
  go_wp2
  exact bodyPost_ret (v:=.tuple #[.agg #[.slice k1 xs.length s1,.slice l1 ys.length u1,.slice la k lc],.bool true]) (by simp [results,Try.results106,go_sem,m4,n4,o4]) rfl (by exact (by first | exact ⟨_,_,_,_,_,_,_,_,_,true,rfl,(fun _=>⟨i2.out,Nat.le_refl _,Nat.le_refl _,m2 rfl,hk⟩),tt⟩ | exact ⟨_,_,_,_,_,_,_,_,_,true,rfl,(fun _=>⟨i2.out,Nat.le_refl _,Nat.le_refl _,m2 trivial,hk⟩),tt⟩))
end Go.Proofs.Ytkjedgnepnbkpaa
