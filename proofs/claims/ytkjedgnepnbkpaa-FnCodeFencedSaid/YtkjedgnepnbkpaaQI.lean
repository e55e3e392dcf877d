/-
 Parts of the proofs of the laws FnCodeFenced,FnCountBranches.
-/
import Derived.Test.YtkjedgnepnbkpaaQE
import Derived.Test.YtkjedgnepnbkpaaQG
set_option linter.all false
namespace Go.Proofs.Ytkjedgnepnbkpaa
open Go.RowKit
theorem bl_one {w:World} {B:Nat→Prop} {base:Nat} {b:Nat} (h:w.ownsRow base 163 11 (.slice (some ⟨b,0,none⟩) 1 1) 1 [.int .i64 1,.int .i64 1,.int .i64 0,.int .i64 0,.slice none 0 0,.int .i64 2,.int .i64 0,.slice none 0 0,.int .i64 0,.slice none 0 0,.slice none 0 0]) (hB:∀ q,base≤q→B q) :
  BlAt w B 3 (.slice (some ⟨b,0,none⟩) 1 1) [.mk 1 1 (.mk 0 0 []) (.mk 2 0 []) 0 [] []]:=
 RowOf.of_own (rs:=[⟨1,1,⟨0,0,none,0,0⟩,⟨2,0,none,0,0⟩,0,none,0,0,none,0,0⟩]) rfl h (by simp) (fun q hq _=>hB q hq) (fun j h1 h2=>by
  have hj:j=0:=by simp at h1;omega
  subst hj
  exact ⟨rfl,rfl,rfl,⟨1,ExAt.leaf 0 0⟩,⟨1,ExAt.leaf 2 0⟩,RowOf.nil,RowOf.nil⟩)
theorem small_one:∀ x ∈ [St.mk 1 1 (.mk 0 0 []) (.mk 2 0 []) 0 [] []],SmS 3 x:=fun x hx=>by
 rw [List.mem_singleton.1 hx]
 exact ⟨thin_leaf 0 0,thin_leaf 2 0,by simp,by simp,(fun _ h=>by cases h),(fun _ h=>by cases h)⟩
set_option maxHeartbeats 6400000 in
set_option maxRecDepth 100000 in
theorem l2Program_any (B g p:Nat) (w:World) (hR:Rnd w B g p) (hp:p+3000000≤1000000000) :
  Calls Try.prog 107 #[.pointer (some ⟨g,0,none⟩)] w fun r w'=>∃ (a0 a1 a2:Option Addr) (c0 c1 c2:Nat) (xs ys:List Int) (L:List St) (p':Nat),r=.returned (.agg #[.slice a0 xs.length c0,.slice a1 ys.length c1,.slice a2 L.length c2])∧w'.ownsRow w.heap.size 3 1 (.slice a0 xs.length c0) xs.length (ints xs)∧w'.ownsRow w.heap.size 3 1 (.slice a1 ys.length c1) ys.length (ints ys)∧(∀ q,(Value.slice a0 xs.length c0).ownBlock=some q→¬(Value.slice a1 ys.length c1).ownBlock=some q)∧1≤xs.length∧xs.length≤5∧ys.length≤2∧BlAt w' (fun q=>w.heap.size≤q) 3 (.slice a2 L.length c2) L∧L.length≤4∧(∀ x ∈ L,SmS 3 x)∧Rnd w' B g p'∧p'≤p+3000000∧Chg (fun q=>q=g) w w':=by
 have hg:=hR.lt
 have hC:Chg (fun k=>k=g) w w:=Chg.refl _ _
 have o0:∀ q,(fun k=>k=g) q→q=g:=fun q h=>h
 go_enter Try.func107,Try.ntmps107
 go_wp2_with fail
 have k9:=num_any _ [3,4,2,5] _ B g (p) (((hR.below (bal (Bs _) (.cells #[.slice none 0 0,.slice none 0 0,.slice none 0 0] 110))).below (bal (Bs _) (.cells #[.slice none 0 0,.slice none 0 0,.slice none 0 0] 110))).below (bal (Bs _) (.cells #[.int .i64 3,.int .i64 4,.int .i64 2,.int .i64 5] 3))) (Ro (World.ownsRow_lit (base:=((World.alloc (World.alloc w (.cells #[.slice none 0 0,.slice none 0 0,.slice none 0 0] 110)) (.cells #[.slice none 0 0,.slice none 0 0,.slice none 0 0] 110))).heap.size) (e:=3) (size:=1) ((World.alloc (World.alloc w (.cells #[.slice none 0 0,.slice none 0 0,.slice none 0 0] 110)) (.cells #[.slice none 0 0,.slice none 0 0,.slice none 0 0] 110))) #[.int .i64 3,.int .i64 4,.int .i64 2,.int .i64 5] 4 (Nat.le_refl _) (by unfold maxLen;omega) (by simp)) (by simp)) (fun b o c hb=>by simp at hb;omega) (by simp) (by simp) (by omega)
 simp only [Sa] at k9
 refine (k9).mono ?_
 rintro e w1 ⟨n0,n0m,rfl,l0,hc⟩
 clear k9
 replace hC:=((((hC.trans (Chg.of_below (bal (Bs _) _))).trans (Chg.of_below (bal (Bs _) _))).trans (Chg.of_below (bal (Bs _) _)))).trans hc
 replace hR:=l0;clear l0
 have v9:=hc.size
 simp only [Sa] at v9
 have c9:Bk w1 (w.heap.size) [.slice none 0 0,.slice none 0 0,.slice none 0 0]:=Bk.keep (Bk.al (Bk.al (Bk.nw (by simp) rfl) (.cells #[.slice none 0 0,.slice none 0 0,.slice none 0 0] 110)) (.cells #[.int .i64 3,.int .i64 4,.int .i64 2,.int .i64 5] 3)) hc (fun h=>by have:=o0 _ h;omega)
 have d9:Bk w1 (w.heap.size+1) [.slice none 0 0,.slice none 0 0,.slice none 0 0]:=Bk.kg (Bk.al (Bk.nw (by simp) rfl) (.cells #[.int .i64 3,.int .i64 4,.int .i64 2,.int .i64 5] 3)) hc
 have gD:Bk w1 (w.heap.size+1+1) [.int .i64 3,.int .i64 4,.int .i64 2,.int .i64 5]:=Bk.kg (Bk.nw (by simp) rfl) hc
 clear hc
 clear gD
 have dE:=Bk.lz c9
 have eE:=Bk.lz d9
 obtain ⟨t0,rfl,yD,aE⟩:∃ t:Nat,n0=t∧2≤t∧t≤5:=by simp only [List.mem_cons,List.not_mem_nil,or_false] at n0m;exact ⟨n0.toNat,by omega,by omega,by omega⟩
 have r5:Hid (∃ (k m:Nat) (xs:List Int) (a:Option Addr) (c pk:Nat),Value.int .i64 (t0:Nat)=.int .i64 k∧m+k=t0∧Hid (xs.length=m)∧w1.ownsRow w1.heap.size 3 1 (.slice a m c) m (ints xs)∧Bk w1 (w.heap.size+1) [.slice a m c,.slice none 0 0,.slice none 0 0]∧Bk w1 (w.heap.size) [.slice none 0 0,.slice none 0 0,.slice none 0 0]∧Rnd w1 B g pk∧pk≤p+1+m∧Chg (fun q=>q=g) w w1∧w1.heap.size≤w1.heap.size):=Lib.hid ⟨t0,0,[],none,0,p+1,rfl,by omega,Lib.hid rfl,World.ownsRow_nil _ _ _ _,d9,c9,hR,by omega,hC,Nat.le_refl _⟩
 have uB:w.heap.size≤w.heap.size+1∧w.heap.size+1 < w1.heap.size∧w.heap.size≤w.heap.size∧w.heap.size < w1.heap.size∧¬w.heap.size=w.heap.size+1:=by omega
 clear hR hC c9 d9
 go_wp2_with fail
 go_loopw [4] (fun i wr=>∃ (k m:Nat) (xs:List Int) (a:Option Addr) (c pk:Nat),i=.int .i64 k∧m+k=t0∧Hid (xs.length=m)∧wr.ownsRow w1.heap.size 3 1 (.slice a m c) m (ints xs)∧Bk wr (w.heap.size+1) [.slice a m c,.slice none 0 0,.slice none 0 0]∧Bk wr (w.heap.size) [.slice none 0 0,.slice none 0 0,.slice none 0 0]∧Rnd wr B g pk∧pk≤p+1+m∧Chg (fun q=>q=g) w wr∧w1.heap.size≤wr.heap.size) (fun i _=>(intOf i).toNat)
 case atStart=>exact r5.out
 case round =>
  obtain ⟨k,m,xs,a,c,pk,rfl,u5,y2,oX,b0,d0,hR,j9,hC,cA⟩:=hrel
  clear r5
  obtain ⟨q5,rfl⟩:∃ X,X=wr:=⟨_,rfl⟩
  have k3:=Bk.lt b0 (show 0 < 3 by decide);have k2:=Bk.lt d0 (show 0 < 3 by decide);have iX:=oX.lt
  have j4:m≤5∧k≤5:=by omega
  have q2:=Lib.hid u5;clear u5
  by_cases hk0:0 < k
  ·have hD:(0:Int) < (k:Int):=by omega
   go_upto_region 5 with (fail)
   have g3:=Bk.lz b0
   have h3:=Bk.lz d0
   refine wp_region_noPanic ?_
   refine wp_region_held_drew (S:=(fun W'=>True)) (by kernel_rfl) trivial (fun hHeld=>?_)
   obtain ⟨w2,a3⟩:∃ X,X=World.drew q5:=⟨_,rfl⟩
   rw [← a3]
   have hb:Below q5.heap.size q5 w2:=by rw [a3];exact Below.drew (Bs _)
   clear a3
   replace hC:=(hC).trans (Chg.of_below hb)
   replace hR:=hR.below hb
   have lB:=hb.size
   replace oX:=Ob oX hb
   replace b0:=Bk.below b0 hb
   replace d0:=Bk.below d0 hb
   clear hb
   replace g3:=Bk.lz b0
   replace h3:=Bk.lz d0
   refine (tq 0 14 rfl rfl ?_ ?_ (tq 2 16 rfl rfl ?_ ?_ ?_))
   iterate 2 (rotate_left;intro W' hSw;clear hSw;go_simp;try with_reducible rfl)
   try simp only [Ep]
   refine Rdy2 1 3 rfl rfl (fun K hK=>?_) (fun K hK=>?_)
   ·obtain ⟨jA,tA⟩:=Bk.cf b0 0 rfl
    go_simp
    replace g3:=Bk.lz b0
    replace h3:=Bk.lz d0
    refine hK.out _ _ trivial (fun hHeld=>?_)
    clear hK K
    try simp only [Ep]
    refine Rdy 3 rfl (fun K hK=>?_)
    go_simp
    obtain ⟨w3,g0,hb⟩:=nmw (World.alloc w2 (.cells #[.int .i64 0,.int .i64 1,.int .i64 0,.int .i64 1,.int .i64 2,.int .i64 3] 3))
    replace hC:=((hC.trans (Chg.of_below (bal (Bs _) _)))).trans (Chg.of_below hb)
    replace hR:=(hR.below (bal (Bs _) _)).below hb
    have i1:=Ob (World.ownsRow_lit (base:=(w2).heap.size) (e:=3) (size:=1) (w2) #[.int .i64 0,.int .i64 1,.int .i64 0,.int .i64 1,.int .i64 2,.int .i64 3] 6 (Nat.le_refl _) (by unfold maxLen;omega) (by simp)) hb
    try simp only [Sa,Ss] at i1
    have y5:=hb.size
    simp only [Sa] at y5
    clear tA jA
    replace oX:=Ob (Ob oX (bal (Bs _) _)) hb
    replace b0:=Bk.below (Bk.al b0 _) hb
    replace d0:=Bk.below (Bk.al d0 _) hb
    have w0:Bk w3 (w2.heap.size) [.int .i64 0,.int .i64 1,.int .i64 0,.int .i64 1,.int .i64 2,.int .i64 3]:=Bk.below (Bk.nw (by simp) rfl) hb
    clear hb
    have a4:=i1.lt
    try simp only [Sa] at a4
    rw [← g0]
    clear g0
    have p6:=Bk.lz w0
    refine hK.out _ _ trivial (fun hHeld=>?_)
    clear hK K
    try simp only [Ep]
    refine Rdy 4 rfl (fun K hK=>?_)
    go_simp
    refine (num_any _ [0,1,0,1,2,3] _ B g (pk) hR (Ro i1 (by simp)) (fun b o c hb=>by simp at hb;omega) (by simp) (by simp) (by omega)).mono ?_
    rintro e w4 ⟨rr,p3,rfl,l0,hc⟩
    replace hC:=(hC).trans hc
    replace hR:=l0;clear l0
    have mB:=hc.size
    replace oX:=Ow oX hc (fun gq h h2=>by have:=iX gq h;have:=o0 gq h2;omega)
    replace i1:=Ow i1 hc (fun gq h h2=>by have:=a4 gq h;have:=o0 gq h2;omega)
    replace b0:=Bk.kg b0 hc
    replace d0:=Bk.kg d0 hc
    replace w0:=Bk.kg w0 hc
    clear hc
    clear p3
    replace g3:=Bk.lz b0
    replace h3:=Bk.lz d0
    replace p6:=Bk.lz w0
    refine hK.out _ _ trivial (fun hHeld=>?_)
    clear hK K
    try simp only [Ep]
    refine Rdy 5 rfl (fun K hK=>?_)
    go_simp
    obtain ⟨w5,g0,hb⟩:=nmw (World.alloc w4 (.cells #[.int .i64 rr] 3))
    replace hC:=((hC.trans (Chg.of_below (bal (Bs _) _)))).trans (Chg.of_below hb)
    replace hR:=(hR.below (bal (Bs _) _)).below hb
    have d2:=Ob (World.ownsRow_lit (base:=(w4).heap.size) (e:=3) (size:=1) (w4) #[.int .i64 rr] 1 (Nat.le_refl _) (by unfold maxLen;omega) (by simp)) hb
    try simp only [Sa,Ss] at d2
    have z5:=hb.size
    simp only [Sa] at z5
    replace oX:=Ob (Ob oX (bal (Bs _) _)) hb
    replace i1:=Ob (Ob i1 (bal (Bs _) _)) hb
    replace b0:=Bk.below (Bk.al b0 _) hb
    replace d0:=Bk.below (Bk.al d0 _) hb
    replace w0:=Bk.below (Bk.al w0 _) hb
    have v1:w5.cell? ⟨w4.heap.size,0,none⟩=some (.int .i64 rr):=Kc hb (Wc (by simp) (by rfl))
    have u3:w5.frozen? ⟨w4.heap.size,0,none⟩=false:=Kf hb (by simp <;> omega) (Fn (by simp))
    clear hb
    have d5:=d2.lt
    try simp only [Sa] at d5
    rw [← g0]
    clear g0
    replace g3:=Bk.lz b0
    replace h3:=Bk.lz d0
    replace p6:=Bk.lz w0
    have iD:=Lc v1
    refine hK.out _ _ trivial (fun hHeld=>?_)
    clear hK K
    try simp only [Ep]
    refine Rdy 6 rfl (fun K hK=>?_)
    refine step_aps tInts rfl _ _ rfl (w1.heap.size) _ m (ints xs) rfl oX _ 1 (ints [rr]) rfl ((Ro d2 (by simp))) (one_ints [rr]) (by omega) (by first | omega | (simp only [Sa,Ss];omega)) ?_
    intro vA w6 s2 hc z1 _
    obtain ⟨h5,l5,rfl⟩:=Oh s2
    replace hC:=chg_app hC hc (fun q hq h=>by have:=iX q h;omega)
    replace hR:=hR.keep hc (fun h=>by have:=iX _ h;omega) (fun k hk h=>by have:=iX _ h;omega)
    have nB:=hc.size
    replace u3:=Gf hc (Lc v1) u3 (fun h=>by have:=iX _ h;omega)
    replace i1:=Ow i1 hc (fun gq h h2=>by have:=a4 gq h;have:=iX gq h2;omega)
    replace v1:=Gc hc v1 (fun h=>by have:=iX _ h;omega)
    replace d2:=Ow d2 hc (fun gq h h2=>by have:=d5 gq h;have:=iX gq h2;omega)
    replace b0:=Bk.keep b0 hc (fun h=>by have:=iX _ h;omega)
    replace d0:=Bk.keep d0 hc (fun h=>by have:=iX _ h;omega)
    replace w0:=Bk.keep w0 hc (fun h=>by have:=iX _ h;omega)
    clear hc
    have eA:=s2.lt
    clear z1 oX
    refine hK.out _ _ trivial (fun hHeld=>?_)
    clear hK K
    try simp only [Ep]
    refine (tq 7 21 rfl rfl ?_ ?_ ?_)
    (rotate_left;intro W' hSw;clear hSw;go_simp;try with_reducible rfl)
    try simp only [Ep]
    refine Rdy 8 rfl (fun K hK=>?_)
    obtain ⟨kA,uA⟩:=Bk.cf b0 0 rfl
    go_simp
    obtain ⟨w7,g0,hb⟩:=nmw (World.setCell w6 ⟨w.heap.size+1,0,none⟩ (.slice h5 (m+1) l5))
    replace hC:=((hC.sN _ _ _)).trans (Chg.of_below hb)
    replace hR:=(hR.kC _ _ _).below hb
    have a6:=hb.size
    simp only [Ss] at a6
    clear uA kA
    replace u3:=Kf hb (Lc (Nn v1 _)) (Fs u3 _)
    replace i1:=Ob (Oe i1 _ _ (fun h=>by have:=a4 _ h;omega) _) hb
    replace v1:=Kc hb (Nn v1 _)
    replace d2:=Ob (Oe d2 _ _ (fun h=>by have:=d5 _ h;omega) _) hb
    replace s2:=Ob (Oe s2 _ _ (fun h=>by have:=eA _ h;omega) _) hb
    replace b0:Bk w7 (w.heap.size+1) [.slice h5 (m+1) l5,.slice none 0 0,.slice none 0 0]:=Bk.below (Bk.at b0 0 (.slice h5 (m+1) l5)) hb
    replace d0:=Bk.below (Bk.nn d0 _) hb
    replace w0:=Bk.below (Bk.nn w0 _) hb
    clear hb
    rw [← g0]
    clear g0
    refine hK.out _ _ trivial (fun hHeld=>?_)
    clear hK K
    try simp only [Ep]
    refine Dn ?_
    clear hHeld
    have HO:=Lib.hid (show w7.ownsRow w1.heap.size 3 1 _ (m+1) (ints (xs++[rr])) from by rw [ints_append];exact s2)
    have q0:Hid ((xs++[rr]).length=m+1):=Lib.hid (by rw [List.length_append,y2.out];rfl)
    have HH:=Lib.hid (And.intro hR hC);clear hR hC s2
    obtain ⟨nD,rD⟩:=Bk.cf b0 0 rfl
    go_wp2
    go_roundw
    case rel=>exact ⟨k-1,m+1,xs++[rr],_,_,pk+1,by congr 1;omega,by have:=q2.out;omega,q0,HO.out,b0,d0,HH.out.1,by omega,HH.out.2,by omega⟩
    case measure=>simp [intOf];omega
   obtain ⟨lA,wA⟩:=Bk.cf b0 0 rfl
   go_simp
   obtain ⟨w3,g0,hb⟩:=nmw (World.alloc w2 (.cells #[.int .i64 0,.int .i64 1,.int .i64 0,.int .i64 1,.int .i64 2,.int .i64 3] 3))
   replace hC:=((hC.trans (Chg.of_below (bal (Bs _) _)))).trans (Chg.of_below hb)
   replace hR:=(hR.below (bal (Bs _) _)).below hb
   have i0:=Ob (World.ownsRow_lit (base:=(w2).heap.size) (e:=3) (size:=1) (w2) #[.int .i64 0,.int .i64 1,.int .i64 0,.int .i64 1,.int .i64 2,.int .i64 3] 6 (Nat.le_refl _) (by unfold maxLen;omega) (by simp)) hb
   try simp only [Sa,Ss] at i0
   have b6:=hb.size
   simp only [Sa] at b6
   clear wA lA
   replace oX:=Ob (Ob oX (bal (Bs _) _)) hb
   replace b0:=Bk.below (Bk.al b0 _) hb
   replace d0:=Bk.below (Bk.al d0 _) hb
   have h0:Bk w3 (w2.heap.size) [.int .i64 0,.int .i64 1,.int .i64 0,.int .i64 1,.int .i64 2,.int .i64 3]:=Bk.below (Bk.nw (by simp) rfl) hb
   clear hb
   have s1:=i0.lt
   try simp only [Sa] at s1
   rw [← g0]
   clear g0
   replace g3:=Bk.lz b0
   replace h3:=Bk.lz d0
   have r2:=Bk.lz h0
   refine hK.out _ _ trivial (fun hHeld=>?_)
   clear hK K
   try simp only [Ep]
   refine Rdy2 1 4 rfl rfl (fun K hK=>?_) (fun K hK=>?_)
   ·obtain ⟨mA,xA⟩:=Bk.cf b0 0 rfl
    go_simp
    refine hK.out _ _ trivial (fun hHeld=>?_)
    clear hK K
    try simp only [Ep]
    refine Rdy 4 rfl (fun K hK=>?_)
    go_simp
    refine (num_any _ [0,1,0,1,2,3] _ B g (pk) hR (Ro i0 (by simp)) (fun b o c hb=>by simp at hb;omega) (by simp) (by simp) (by omega)).mono ?_
    rintro e w4 ⟨rr,p3,rfl,l0,hc⟩
    replace hC:=(hC).trans hc
    replace hR:=l0;clear l0
    have oB:=hc.size
    clear xA mA
    replace oX:=Ow oX hc (fun gq h h2=>by have:=iX gq h;have:=o0 gq h2;omega)
    replace i0:=Ow i0 hc (fun gq h h2=>by have:=s1 gq h;have:=o0 gq h2;omega)
    replace b0:=Bk.kg b0 hc
    replace d0:=Bk.kg d0 hc
    replace h0:=Bk.kg h0 hc
    clear hc
    clear p3
    replace g3:=Bk.lz b0
    replace h3:=Bk.lz d0
    replace r2:=Bk.lz h0
    refine hK.out _ _ trivial (fun hHeld=>?_)
    clear hK K
    try simp only [Ep]
    refine Rdy 5 rfl (fun K hK=>?_)
    go_simp
    obtain ⟨w5,g0,hb⟩:=nmw (World.alloc w4 (.cells #[.int .i64 rr] 3))
    replace hC:=((hC.trans (Chg.of_below (bal (Bs _) _)))).trans (Chg.of_below hb)
    replace hR:=(hR.below (bal (Bs _) _)).below hb
    have e2:=Ob (World.ownsRow_lit (base:=(w4).heap.size) (e:=3) (size:=1) (w4) #[.int .i64 rr] 1 (Nat.le_refl _) (by unfold maxLen;omega) (by simp)) hb
    try simp only [Sa,Ss] at e2
    have c6:=hb.size
    simp only [Sa] at c6
    replace oX:=Ob (Ob oX (bal (Bs _) _)) hb
    replace i0:=Ob (Ob i0 (bal (Bs _) _)) hb
    replace b0:=Bk.below (Bk.al b0 _) hb
    replace d0:=Bk.below (Bk.al d0 _) hb
    replace h0:=Bk.below (Bk.al h0 _) hb
    have x1:w5.cell? ⟨w4.heap.size,0,none⟩=some (.int .i64 rr):=Kc hb (Wc (by simp) (by rfl))
    have v3:w5.frozen? ⟨w4.heap.size,0,none⟩=false:=Kf hb (by simp <;> omega) (Fn (by simp))
    clear hb
    have e5:=e2.lt
    try simp only [Sa] at e5
    rw [← g0]
    clear g0
    replace g3:=Bk.lz b0
    replace h3:=Bk.lz d0
    replace r2:=Bk.lz h0
    have jD:=Lc x1
    refine hK.out _ _ trivial (fun hHeld=>?_)
    clear hK K
    try simp only [Ep]
    refine Rdy 6 rfl (fun K hK=>?_)
    refine step_aps tInts rfl _ _ rfl (w1.heap.size) _ m (ints xs) rfl oX _ 1 (ints [rr]) rfl ((Ro e2 (by simp))) (one_ints [rr]) (by omega) (by first | omega | (simp only [Sa,Ss];omega)) ?_
    intro vA w6 u2 hc z1 _
    obtain ⟨i5,m5,rfl⟩:=Oh u2
    replace hC:=chg_app hC hc (fun q hq h=>by have:=iX q h;omega)
    replace hR:=hR.keep hc (fun h=>by have:=iX _ h;omega) (fun k hk h=>by have:=iX _ h;omega)
    have pB:=hc.size
    replace v3:=Gf hc (Lc x1) v3 (fun h=>by have:=iX _ h;omega)
    replace i0:=Ow i0 hc (fun gq h h2=>by have:=s1 gq h;have:=iX gq h2;omega)
    replace x1:=Gc hc x1 (fun h=>by have:=iX _ h;omega)
    replace e2:=Ow e2 hc (fun gq h h2=>by have:=e5 gq h;have:=iX gq h2;omega)
    replace b0:=Bk.keep b0 hc (fun h=>by have:=iX _ h;omega)
    replace d0:=Bk.keep d0 hc (fun h=>by have:=iX _ h;omega)
    replace h0:=Bk.keep h0 hc (fun h=>by have:=iX _ h;omega)
    clear hc
    have fA:=u2.lt
    clear z1 oX
    refine hK.out _ _ trivial (fun hHeld=>?_)
    clear hK K
    try simp only [Ep]
    refine (tq 7 21 rfl rfl ?_ ?_ ?_)
    (rotate_left;intro W' hSw;clear hSw;go_simp;try with_reducible rfl)
    try simp only [Ep]
    refine Rdy 8 rfl (fun K hK=>?_)
    obtain ⟨nA,yA⟩:=Bk.cf b0 0 rfl
    go_simp
    obtain ⟨w7,g0,hb⟩:=nmw (World.setCell w6 ⟨w.heap.size+1,0,none⟩ (.slice i5 (m+1) m5))
    replace hC:=((hC.sN _ _ _)).trans (Chg.of_below hb)
    replace hR:=(hR.kC _ _ _).below hb
    have d6:=hb.size
    simp only [Ss] at d6
    clear yA nA
    replace v3:=Kf hb (Lc (Nn x1 _)) (Fs v3 _)
    replace i0:=Ob (Oe i0 _ _ (fun h=>by have:=s1 _ h;omega) _) hb
    replace x1:=Kc hb (Nn x1 _)
    replace e2:=Ob (Oe e2 _ _ (fun h=>by have:=e5 _ h;omega) _) hb
    replace u2:=Ob (Oe u2 _ _ (fun h=>by have:=fA _ h;omega) _) hb
    replace b0:Bk w7 (w.heap.size+1) [.slice i5 (m+1) m5,.slice none 0 0,.slice none 0 0]:=Bk.below (Bk.at b0 0 (.slice i5 (m+1) m5)) hb
    replace d0:=Bk.below (Bk.nn d0 _) hb
    replace h0:=Bk.below (Bk.nn h0 _) hb
    clear hb
    rw [← g0]
    clear g0
    refine hK.out _ _ trivial (fun hHeld=>?_)
    clear hK K
    try simp only [Ep]
    refine Dn ?_
    clear hHeld
    have HO:=Lib.hid (show w7.ownsRow w1.heap.size 3 1 _ (m+1) (ints (xs++[rr])) from by rw [ints_append];exact u2)
    have q0:Hid ((xs++[rr]).length=m+1):=Lib.hid (by rw [List.length_append,y2.out];rfl)
    have HH:=Lib.hid (And.intro hR hC);clear hR hC u2
    obtain ⟨oD,sD⟩:=Bk.cf b0 0 rfl
    go_wp2
    go_roundw
    case rel=>exact ⟨k-1,m+1,xs++[rr],_,_,pk+1,by congr 1;omega,by have:=q2.out;omega,q0,HO.out,b0,d0,HH.out.1,by omega,HH.out.2,by omega⟩
    case measure=>simp [intOf];omega
   go_simp
   refine (num_any _ [0,1,0,1,2,3] _ B g (pk) hR (Ro i0 (by simp)) (fun b o c hb=>by simp at hb;omega) (by simp) (by simp) (by omega)).mono ?_
   rintro e w4 ⟨rr,p3,rfl,l0,hc⟩
   replace hC:=(hC).trans hc
   replace hR:=l0;clear l0
   have qB:=hc.size
   replace oX:=Ow oX hc (fun gq h h2=>by have:=iX gq h;have:=o0 gq h2;omega)
   replace i0:=Ow i0 hc (fun gq h h2=>by have:=s1 gq h;have:=o0 gq h2;omega)
   replace b0:=Bk.kg b0 hc
   replace d0:=Bk.kg d0 hc
   replace h0:=Bk.kg h0 hc
   clear hc
   clear p3
   replace g3:=Bk.lz b0
   replace h3:=Bk.lz d0
   replace r2:=Bk.lz h0
   refine hK.out _ _ trivial (fun hHeld=>?_)
   clear hK K
   try simp only [Ep]
   refine Rdy2 1 5 rfl rfl (fun K hK=>?_) (fun K hK=>?_)
   ·obtain ⟨oA,zA⟩:=Bk.cf b0 0 rfl
    go_simp
    replace g3:=Bk.lz b0
    replace h3:=Bk.lz d0
    replace r2:=Bk.lz h0
    refine hK.out _ _ trivial (fun hHeld=>?_)
    clear hK K
    try simp only [Ep]
    refine Rdy 5 rfl (fun K hK=>?_)
    go_simp
    obtain ⟨w5,g0,hb⟩:=nmw (World.alloc w4 (.cells #[.int .i64 rr] 3))
    replace hC:=((hC.trans (Chg.of_below (bal (Bs _) _)))).trans (Chg.of_below hb)
    replace hR:=(hR.below (bal (Bs _) _)).below hb
    have f2:=Ob (World.ownsRow_lit (base:=(w4).heap.size) (e:=3) (size:=1) (w4) #[.int .i64 rr] 1 (Nat.le_refl _) (by unfold maxLen;omega) (by simp)) hb
    try simp only [Sa,Ss] at f2
    have e6:=hb.size
    simp only [Sa] at e6
    clear zA oA
    replace oX:=Ob (Ob oX (bal (Bs _) _)) hb
    replace i0:=Ob (Ob i0 (bal (Bs _) _)) hb
    replace b0:=Bk.below (Bk.al b0 _) hb
    replace d0:=Bk.below (Bk.al d0 _) hb
    replace h0:=Bk.below (Bk.al h0 _) hb
    have y1:w5.cell? ⟨w4.heap.size,0,none⟩=some (.int .i64 rr):=Kc hb (Wc (by simp) (by rfl))
    have x3:w5.frozen? ⟨w4.heap.size,0,none⟩=false:=Kf hb (by simp <;> omega) (Fn (by simp))
    clear hb
    have f5:=f2.lt
    try simp only [Sa] at f5
    rw [← g0]
    clear g0
    replace g3:=Bk.lz b0
    replace h3:=Bk.lz d0
    replace r2:=Bk.lz h0
    have kD:=Lc y1
    refine hK.out _ _ trivial (fun hHeld=>?_)
    clear hK K
    try simp only [Ep]
    refine Rdy 6 rfl (fun K hK=>?_)
    refine step_aps tInts rfl _ _ rfl (w1.heap.size) _ m (ints xs) rfl oX _ 1 (ints [rr]) rfl ((Ro f2 (by simp))) (one_ints [rr]) (by omega) (by first | omega | (simp only [Sa,Ss];omega)) ?_
    intro vA w6 v2 hc z1 _
    obtain ⟨j5,n5,rfl⟩:=Oh v2
    replace hC:=chg_app hC hc (fun q hq h=>by have:=iX q h;omega)
    replace hR:=hR.keep hc (fun h=>by have:=iX _ h;omega) (fun k hk h=>by have:=iX _ h;omega)
    have rB:=hc.size
    replace x3:=Gf hc (Lc y1) x3 (fun h=>by have:=iX _ h;omega)
    replace i0:=Ow i0 hc (fun gq h h2=>by have:=s1 gq h;have:=iX gq h2;omega)
    replace y1:=Gc hc y1 (fun h=>by have:=iX _ h;omega)
    replace f2:=Ow f2 hc (fun gq h h2=>by have:=f5 gq h;have:=iX gq h2;omega)
    replace b0:=Bk.keep b0 hc (fun h=>by have:=iX _ h;omega)
    replace d0:=Bk.keep d0 hc (fun h=>by have:=iX _ h;omega)
    replace h0:=Bk.keep h0 hc (fun h=>by have:=iX _ h;omega)
    clear hc
    have gA:=v2.lt
    clear z1 oX
    refine hK.out _ _ trivial (fun hHeld=>?_)
    clear hK K
    try simp only [Ep]
    refine (tq 7 21 rfl rfl ?_ ?_ ?_)
    (rotate_left;intro W' hSw;clear hSw;go_simp;try with_reducible rfl)
    try simp only [Ep]
    refine Rdy 8 rfl (fun K hK=>?_)
    obtain ⟨pA,aB⟩:=Bk.cf b0 0 rfl
    go_simp
    obtain ⟨w7,g0,hb⟩:=nmw (World.setCell w6 ⟨w.heap.size+1,0,none⟩ (.slice j5 (m+1) n5))
    replace hC:=((hC.sN _ _ _)).trans (Chg.of_below hb)
    replace hR:=(hR.kC _ _ _).below hb
    have f6:=hb.size
    simp only [Ss] at f6
    clear aB pA
    replace x3:=Kf hb (Lc (Nn y1 _)) (Fs x3 _)
    replace i0:=Ob (Oe i0 _ _ (fun h=>by have:=s1 _ h;omega) _) hb
    replace y1:=Kc hb (Nn y1 _)
    replace f2:=Ob (Oe f2 _ _ (fun h=>by have:=f5 _ h;omega) _) hb
    replace v2:=Ob (Oe v2 _ _ (fun h=>by have:=gA _ h;omega) _) hb
    replace b0:Bk w7 (w.heap.size+1) [.slice j5 (m+1) n5,.slice none 0 0,.slice none 0 0]:=Bk.below (Bk.at b0 0 (.slice j5 (m+1) n5)) hb
    replace d0:=Bk.below (Bk.nn d0 _) hb
    replace h0:=Bk.below (Bk.nn h0 _) hb
    clear hb
    rw [← g0]
    clear g0
    refine hK.out _ _ trivial (fun hHeld=>?_)
    clear hK K
    try simp only [Ep]
    refine Dn ?_
    clear hHeld
    have HO:=Lib.hid (show w7.ownsRow w1.heap.size 3 1 _ (m+1) (ints (xs++[rr])) from by rw [ints_append];exact v2)
    have q0:Hid ((xs++[rr]).length=m+1):=Lib.hid (by rw [List.length_append,y2.out];rfl)
    have HH:=Lib.hid (And.intro hR hC);clear hR hC v2
    obtain ⟨pD,tD⟩:=Bk.cf b0 0 rfl
    go_wp2
    go_roundw
    case rel=>exact ⟨k-1,m+1,xs++[rr],_,_,pk+1,by congr 1;omega,by have:=q2.out;omega,q0,HO.out,b0,d0,HH.out.1,by omega,HH.out.2,by omega⟩
    case measure=>simp [intOf];omega
   go_simp
   obtain ⟨w5,g0,hb⟩:=nmw (World.alloc w4 (.cells #[.int .i64 rr] 3))
   replace hC:=((hC.trans (Chg.of_below (bal (Bs _) _)))).trans (Chg.of_below hb)
   replace hR:=(hR.below (bal (Bs _) _)).below hb
   have g2:=Ob (World.ownsRow_lit (base:=(w4).heap.size) (e:=3) (size:=1) (w4) #[.int .i64 rr] 1 (Nat.le_refl _) (by unfold maxLen;omega) (by simp)) hb
   try simp only [Sa,Ss] at g2
   have g6:=hb.size
   simp only [Sa] at g6
   replace oX:=Ob (Ob oX (bal (Bs _) _)) hb
   replace i0:=Ob (Ob i0 (bal (Bs _) _)) hb
   replace b0:=Bk.below (Bk.al b0 _) hb
   replace d0:=Bk.below (Bk.al d0 _) hb
   replace h0:=Bk.below (Bk.al h0 _) hb
   have u1:w5.cell? ⟨w4.heap.size,0,none⟩=some (.int .i64 rr):=Kc hb (Wc (by simp) (by rfl))
   have y3:w5.frozen? ⟨w4.heap.size,0,none⟩=false:=Kf hb (by simp <;> omega) (Fn (by simp))
   clear hb
   have g5:=g2.lt
   try simp only [Sa] at g5
   rw [← g0]
   clear g0
   have iA:=Lc u1
   refine hK.out _ _ trivial (fun hHeld=>?_)
   clear hK K
   try simp only [Ep]
   refine Rdy 1 rfl (fun K hK=>?_)
   obtain ⟨qA,bB⟩:=Bk.cf b0 0 rfl
   go_simp
   replace g3:=Bk.lz b0
   replace h3:=Bk.lz d0
   replace r2:=Bk.lz h0
   replace iA:=Lc u1
   refine hK.out _ _ trivial (fun hHeld=>?_)
   clear hK K
   try simp only [Ep]
   refine Rdy 6 rfl (fun K hK=>?_)
   refine step_aps tInts rfl _ _ rfl (w1.heap.size) _ m (ints xs) rfl oX _ 1 (ints [rr]) rfl ((Ro g2 (by simp))) (one_ints [rr]) (by omega) (by first | omega | (simp only [Sa,Ss];omega)) ?_
   intro vA w6 x2 hc z1 _
   obtain ⟨k5,o5,rfl⟩:=Oh x2
   replace hC:=chg_app hC hc (fun q hq h=>by have:=iX q h;omega)
   replace hR:=hR.keep hc (fun h=>by have:=iX _ h;omega) (fun k hk h=>by have:=iX _ h;omega)
   have sB:=hc.size
   clear bB qA
   replace y3:=Gf hc (Lc u1) y3 (fun h=>by have:=iX _ h;omega)
   replace i0:=Ow i0 hc (fun gq h h2=>by have:=s1 gq h;have:=iX gq h2;omega)
   replace u1:=Gc hc u1 (fun h=>by have:=iX _ h;omega)
   replace g2:=Ow g2 hc (fun gq h h2=>by have:=g5 gq h;have:=iX gq h2;omega)
   replace b0:=Bk.keep b0 hc (fun h=>by have:=iX _ h;omega)
   replace d0:=Bk.keep d0 hc (fun h=>by have:=iX _ h;omega)
   replace h0:=Bk.keep h0 hc (fun h=>by have:=iX _ h;omega)
   clear hc
   have hA:=x2.lt
   clear z1 oX
   refine hK.out _ _ trivial (fun hHeld=>?_)
   clear hK K
   try simp only [Ep]
   refine (tq 7 21 rfl rfl ?_ ?_ ?_)
   (rotate_left;intro W' hSw;clear hSw;go_simp;try with_reducible rfl)
   try simp only [Ep]
   refine Rdy 8 rfl (fun K hK=>?_)
   obtain ⟨rA,cB⟩:=Bk.cf b0 0 rfl
   go_simp
   obtain ⟨w7,g0,hb⟩:=nmw (World.setCell w6 ⟨w.heap.size+1,0,none⟩ (.slice k5 (m+1) o5))
   replace hC:=((hC.sN _ _ _)).trans (Chg.of_below hb)
   replace hR:=(hR.kC _ _ _).below hb
   have h6:=hb.size
   simp only [Ss] at h6
   clear cB rA
   replace y3:=Kf hb (Lc (Nn u1 _)) (Fs y3 _)
   replace i0:=Ob (Oe i0 _ _ (fun h=>by have:=s1 _ h;omega) _) hb
   replace u1:=Kc hb (Nn u1 _)
   replace g2:=Ob (Oe g2 _ _ (fun h=>by have:=g5 _ h;omega) _) hb
   replace x2:=Ob (Oe x2 _ _ (fun h=>by have:=hA _ h;omega) _) hb
   replace b0:Bk w7 (w.heap.size+1) [.slice k5 (m+1) o5,.slice none 0 0,.slice none 0 0]:=Bk.below (Bk.at b0 0 (.slice k5 (m+1) o5)) hb
   replace d0:=Bk.below (Bk.nn d0 _) hb
   replace h0:=Bk.below (Bk.nn h0 _) hb
   clear hb
   rw [← g0]
   clear g0
   refine hK.out _ _ trivial (fun hHeld=>?_)
   clear hK K
   try simp only [Ep]
   refine Dn ?_
   clear hHeld
   have HO:=Lib.hid (show w7.ownsRow w1.heap.size 3 1 _ (m+1) (ints (xs++[rr])) from by rw [ints_append];exact x2)
   have q0:Hid ((xs++[rr]).length=m+1):=Lib.hid (by rw [List.length_append,y2.out];rfl)
   have HH:=Lib.hid (And.intro hR hC);clear hR hC x2
   obtain ⟨qD,uD⟩:=Bk.cf b0 0 rfl
   go_wp2
   go_roundw
   case rel=>exact ⟨k-1,m+1,xs++[rr],_,_,pk+1,by congr 1;omega,by have:=q2.out;omega,q0,HO.out,b0,d0,HH.out.1,by omega,HH.out.2,by omega⟩
   case measure=>simp [intOf];omega
  have i4:k=0:=by omega
  subst i4
  have k4:m=t0:=by have:=q2.out;omega
  have h9:1≤m∧m≤5:=by omega
  clear k4 q2 hk0 j4
  obtain ⟨nv,i9⟩:∃ X,X=m:=⟨_,rfl⟩;subst i9
  obtain ⟨us,bA⟩:∃ X,X=xs:=⟨_,rfl⟩;subst bA
  obtain ⟨av,f9⟩:∃ X,X=a:=⟨_,rfl⟩;subst f9
  obtain ⟨cv,g9⟩:∃ X,X=c:=⟨_,rfl⟩;subst g9
  obtain ⟨b9,v5⟩:∃ X,X=pk:=⟨_,rfl⟩;subst v5
  have vD:=j9;have fD:=y2;clear y2 j9
  obtain ⟨oV,bE⟩:=And.intro oX cA;clear oX iX cA
  have dA:=oV.lt
  go_wp2_with fail
  refine (num_any _ [1,2,0,1] _ B g (b9) (hR.below (bal (Bs _) (.cells #[.int .i64 1,.int .i64 2,.int .i64 0,.int .i64 1] 3))) (Ro (World.ownsRow_lit (base:=(q5).heap.size) (e:=3) (size:=1) (q5) #[.int .i64 1,.int .i64 2,.int .i64 0,.int .i64 1] 4 (Nat.le_refl _) (by unfold maxLen;omega) (by simp)) (by simp)) (fun b o c hb=>by simp at hb;omega) (by simp) (by simp) (by omega)).mono ?_
  rintro e w2 ⟨n1,n1m,rfl,l0,hc⟩
  replace hC:=((hC.trans (Chg.of_below (bal (Bs _) _)))).trans hc
  replace hR:=l0;clear l0
  have i6:=hc.size
  simp only [Sa] at i6
  replace oV:=Ow (Ob oV (bal (Bs _) _)) hc (fun gq h h2=>by have:=dA gq h;have:=o0 gq h2;omega)
  replace b0:=Bk.kg (Bk.al b0 _) hc
  replace d0:=Bk.kg (Bk.al d0 _) hc
  have e9:Bk w2 (q5.heap.size) [.int .i64 1,.int .i64 2,.int .i64 0,.int .i64 1]:=Bk.kg (Bk.nw (by simp) rfl) hc
  clear hc
  clear e9
  have lD:=Bk.lz b0
  have mD:=Bk.lz d0
  obtain ⟨t1,rfl,zD⟩:∃ t:Nat,n1=t∧t≤2:=by simp only [List.mem_cons,List.not_mem_nil,or_false] at n1m;exact ⟨n1.toNat,by omega,by omega⟩
  have iV:∀ q,(Value.slice av nv cv).ownBlock=some q→w1.heap.size≤q∧q < w2.heap.size:=fun q hq=>by have:=dA q hq;omega
  clear dA
  have r5:Hid (∃ (k m:Nat) (xs:List Int) (a:Option Addr) (c pk:Nat),Value.int .i64 (t1:Nat)=.int .i64 k∧m+k=t1∧Hid (xs.length=m)∧w2.ownsRow w2.heap.size 3 1 (.slice a m c) m (ints xs)∧Bk w2 (w.heap.size+1) [.slice av nv cv,.slice a m c,.slice none 0 0]∧Bk w2 (w.heap.size) [.slice none 0 0,.slice none 0 0,.slice none 0 0]∧w2.ownsRow w1.heap.size 3 1 (.slice av nv cv) nv (ints us)∧Rnd w2 B g pk∧pk≤b9+1+m∧Chg (fun q=>q=g) w w2∧w2.heap.size≤w2.heap.size):=Lib.hid ⟨t1,0,[],none,0,b9+1,rfl,by omega,Lib.hid rfl,World.ownsRow_nil _ _ _ _,b0,d0,oV,hR,by omega,hC,Nat.le_refl _⟩
  have vB:w.heap.size≤w.heap.size+1∧w.heap.size+1 < w2.heap.size∧w.heap.size≤w.heap.size∧w.heap.size < w2.heap.size∧¬w.heap.size=w.heap.size+1:=by omega
  clear hR hC b0 d0 oV
  go_wp2_with fail
  go_loopw [5] (fun i wr=>∃ (k m:Nat) (xs:List Int) (a:Option Addr) (c pk:Nat),i=.int .i64 k∧m+k=t1∧Hid (xs.length=m)∧wr.ownsRow w2.heap.size 3 1 (.slice a m c) m (ints xs)∧Bk wr (w.heap.size+1) [.slice av nv cv,.slice a m c,.slice none 0 0]∧Bk wr (w.heap.size) [.slice none 0 0,.slice none 0 0,.slice none 0 0]∧wr.ownsRow w1.heap.size 3 1 (.slice av nv cv) nv (ints us)∧Rnd wr B g pk∧pk≤b9+1+m∧Chg (fun q=>q=g) w wr∧w2.heap.size≤wr.heap.size) (fun i _=>(intOf i).toNat)
  case atStart=>exact r5.out
  case round =>
   obtain ⟨k,m,xs,a,c,pk,rfl,u5,y2,oX,b0,d0,oV,hR,j9,hC,cA⟩:=hrel
   clear r5
   obtain ⟨z2,rfl⟩:∃ X,X=wr:=⟨_,rfl⟩
   have k3:=Bk.lt b0 (show 0 < 3 by decide);have k2:=Bk.lt d0 (show 0 < 3 by decide);have iX:=oX.lt
   have j4:m≤5∧k≤5:=by omega
   have q2:=Lib.hid u5;clear u5
   by_cases hk0:0 < k
   ·have hD:(0:Int) < (k:Int):=by omega
    go_upto_region 9 with (fail)
    have e1:=Bk.lz b0
    have f1:=Bk.lz d0
    refine wp_region_noPanic ?_
    refine wp_region_held_drew (S:=(fun W'=>True)) (by kernel_rfl) trivial (fun hHeld=>?_)
    obtain ⟨w3,a3⟩:∃ X,X=World.drew z2:=⟨_,rfl⟩
    rw [← a3]
    have hb:Below z2.heap.size z2 w3:=by rw [a3];exact Below.drew (Bs _)
    clear a3
    replace hC:=(hC).trans (Chg.of_below hb)
    replace hR:=hR.below hb
    have tB:=hb.size
    replace oX:=Ob oX hb
    replace oV:=Ob oV hb
    replace b0:=Bk.below b0 hb
    replace d0:=Bk.below d0 hb
    clear hb
    replace e1:=Bk.lz b0
    replace f1:=Bk.lz d0
    refine (tq 0 29 rfl rfl ?_ ?_ (tq 2 31 rfl rfl ?_ ?_ ?_))
    iterate 2 (rotate_left;intro W' hSw;clear hSw;go_simp;try with_reducible rfl)
    try simp only [Ep]
    refine Rdy2 1 3 rfl rfl (fun K hK=>?_) (fun K hK=>?_)
    ·obtain ⟨sA,dB⟩:=Bk.cf b0 1 rfl
     go_simp
     replace e1:=Bk.lz b0
     replace f1:=Bk.lz d0
     refine hK.out _ _ trivial (fun hHeld=>?_)
     clear hK K
     try simp only [Ep]
     refine Rdy 3 rfl (fun K hK=>?_)
     go_simp
     obtain ⟨w4,g0,hb⟩:=nmw (World.alloc w3 (.cells #[.int .i64 0,.int .i64 1,.int .i64 0,.int .i64 1,.int .i64 3] 3))
     replace hC:=((hC.trans (Chg.of_below (bal (Bs _) _)))).trans (Chg.of_below hb)
     replace hR:=(hR.below (bal (Bs _) _)).below hb
     have p0:=Ob (World.ownsRow_lit (base:=(w3).heap.size) (e:=3) (size:=1) (w3) #[.int .i64 0,.int .i64 1,.int .i64 0,.int .i64 1,.int .i64 3] 5 (Nat.le_refl _) (by unfold maxLen;omega) (by simp)) hb
     try simp only [Sa,Ss] at p0
     have n4:=hb.size
     simp only [Sa] at n4
     clear dB sA
     replace oX:=Ob (Ob oX (bal (Bs _) _)) hb
     replace oV:=Ob (Ob oV (bal (Bs _) _)) hb
     replace b0:=Bk.below (Bk.al b0 _) hb
     replace d0:=Bk.below (Bk.al d0 _) hb
     have m0:Bk w4 (w3.heap.size) [.int .i64 0,.int .i64 1,.int .i64 0,.int .i64 1,.int .i64 3]:=Bk.below (Bk.nw (by simp) rfl) hb
     clear hb
     have o2:=p0.lt
     try simp only [Sa] at o2
     rw [← g0]
     clear g0
     have e4:=Bk.lz m0
     refine hK.out _ _ trivial (fun hHeld=>?_)
     clear hK K
     try simp only [Ep]
     refine Rdy 4 rfl (fun K hK=>?_)
     go_simp
     refine (num_any _ [0,1,0,1,3] _ B g (pk) hR (Ro p0 (by simp)) (fun b o c hb=>by simp at hb;omega) (by simp) (by simp) (by omega)).mono ?_
     rintro e w5 ⟨rr,p3,rfl,l0,hc⟩
     replace hC:=(hC).trans hc
     replace hR:=l0;clear l0
     have l9:=hc.size
     replace oX:=Ow oX hc (fun gq h h2=>by have:=iX gq h;have:=o0 gq h2;omega)
     replace oV:=Ow oV hc (fun gq h h2=>by have:=iV gq h;have:=o0 gq h2;omega)
     replace p0:=Ow p0 hc (fun gq h h2=>by have:=o2 gq h;have:=o0 gq h2;omega)
     replace b0:=Bk.kg b0 hc
     replace d0:=Bk.kg d0 hc
     replace m0:=Bk.kg m0 hc
     clear hc
     clear p3
     replace e1:=Bk.lz b0
     replace f1:=Bk.lz d0
     replace e4:=Bk.lz m0
     refine hK.out _ _ trivial (fun hHeld=>?_)
     clear hK K
     try simp only [Ep]
     refine Rdy 5 rfl (fun K hK=>?_)
     go_simp
     obtain ⟨w6,g0,hb⟩:=nmw (World.alloc w5 (.cells #[.int .i64 rr] 3))
     replace hC:=((hC.trans (Chg.of_below (bal (Bs _) _)))).trans (Chg.of_below hb)
     replace hR:=(hR.below (bal (Bs _) _)).below hb
     have g1:=Ob (World.ownsRow_lit (base:=(w5).heap.size) (e:=3) (size:=1) (w5) #[.int .i64 rr] 1 (Nat.le_refl _) (by unfold maxLen;omega) (by simp)) hb
     try simp only [Sa,Ss] at g1
     have o4:=hb.size
     simp only [Sa] at o4
     replace oX:=Ob (Ob oX (bal (Bs _) _)) hb
     replace oV:=Ob (Ob oV (bal (Bs _) _)) hb
     replace p0:=Ob (Ob p0 (bal (Bs _) _)) hb
     replace b0:=Bk.below (Bk.al b0 _) hb
     replace d0:=Bk.below (Bk.al d0 _) hb
     replace m0:=Bk.below (Bk.al m0 _) hb
     have y0:w6.cell? ⟨w5.heap.size,0,none⟩=some (.int .i64 rr):=Kc hb (Wc (by simp) (by rfl))
     have i2:w6.frozen? ⟨w5.heap.size,0,none⟩=false:=Kf hb (by simp <;> omega) (Fn (by simp))
     clear hb
     have b3:=g1.lt
     try simp only [Sa] at b3
     rw [← g0]
     clear g0
     replace e1:=Bk.lz b0
     replace f1:=Bk.lz d0
     replace e4:=Bk.lz m0
     have wB:=Lc y0
     refine hK.out _ _ trivial (fun hHeld=>?_)
     clear hK K
     try simp only [Ep]
     refine Rdy 6 rfl (fun K hK=>?_)
     refine step_aps tInts rfl _ _ rfl (w2.heap.size) _ m (ints xs) rfl oX _ 1 (ints [rr]) rfl ((Ro g1 (by simp))) (one_ints [rr]) (by omega) (by first | omega | (simp only [Sa,Ss];omega)) ?_
     intro vA w7 o1 hc z1 _
     obtain ⟨l3,q3,rfl⟩:=Oh o1
     replace hC:=chg_app hC hc (fun q hq h=>by have:=iX q h;omega)
     replace hR:=hR.keep hc (fun h=>by have:=iX _ h;omega) (fun k hk h=>by have:=iX _ h;omega)
     have m9:=hc.size
     replace i2:=Gf hc (Lc y0) i2 (fun h=>by have:=iX _ h;omega)
     replace oV:=Ow oV hc (fun gq h h2=>by have:=iV gq h;have:=iX gq h2;omega)
     replace p0:=Ow p0 hc (fun gq h h2=>by have:=o2 gq h;have:=iX gq h2;omega)
     replace y0:=Gc hc y0 (fun h=>by have:=iX _ h;omega)
     replace g1:=Ow g1 hc (fun gq h h2=>by have:=b3 gq h;have:=iX gq h2;omega)
     replace b0:=Bk.keep b0 hc (fun h=>by have:=iX _ h;omega)
     replace d0:=Bk.keep d0 hc (fun h=>by have:=iX _ h;omega)
     replace m0:=Bk.keep m0 hc (fun h=>by have:=iX _ h;omega)
     clear hc
     have k6:=o1.lt
     clear z1 oX
     refine hK.out _ _ trivial (fun hHeld=>?_)
     clear hK K
     try simp only [Ep]
     refine (tq 7 36 rfl rfl ?_ ?_ ?_)
     (rotate_left;intro W' hSw;clear hSw;go_simp;try with_reducible rfl)
     try simp only [Ep]
     refine Rdy 8 rfl (fun K hK=>?_)
     obtain ⟨s6,a8⟩:=Bk.cf b0 1 rfl
     go_simp
     obtain ⟨w8,g0,hb⟩:=nmw (World.setCell w7 ⟨w.heap.size+1,1,none⟩ (.slice l3 (m+1) q3))
     replace hC:=((hC.sN _ _ _)).trans (Chg.of_below hb)
     replace hR:=(hR.kC _ _ _).below hb
     have p4:=hb.size
     simp only [Ss] at p4
     clear a8 s6
     replace i2:=Kf hb (Lc (Nn y0 _)) (Fs i2 _)
     replace oV:=Ob (Oe oV _ _ (fun h=>by have:=iV _ h;omega) _) hb
     replace p0:=Ob (Oe p0 _ _ (fun h=>by have:=o2 _ h;omega) _) hb
     replace y0:=Kc hb (Nn y0 _)
     replace g1:=Ob (Oe g1 _ _ (fun h=>by have:=b3 _ h;omega) _) hb
     replace o1:=Ob (Oe o1 _ _ (fun h=>by have:=k6 _ h;omega) _) hb
     replace b0:Bk w8 (w.heap.size+1) [.slice av nv cv,.slice l3 (m+1) q3,.slice none 0 0]:=Bk.below (Bk.at b0 1 (.slice l3 (m+1) q3)) hb
     replace d0:=Bk.below (Bk.nn d0 _) hb
     replace m0:=Bk.below (Bk.nn m0 _) hb
     clear hb
     rw [← g0]
     clear g0
     refine hK.out _ _ trivial (fun hHeld=>?_)
     clear hK K
     try simp only [Ep]
     refine Dn ?_
     clear hHeld
     have HO:=Lib.hid (show w8.ownsRow w2.heap.size 3 1 _ (m+1) (ints (xs++[rr])) from by rw [ints_append];exact o1)
     have q0:Hid ((xs++[rr]).length=m+1):=Lib.hid (by rw [List.length_append,y2.out];rfl)
     have HH:=Lib.hid (And.intro hR hC);clear hR hC o1
     obtain ⟨bC,nC⟩:=Bk.cf b0 1 rfl
     go_wp2
     go_roundw
     case rel=>exact ⟨k-1,m+1,xs++[rr],_,_,pk+1,by congr 1;omega,by have:=q2.out;omega,q0,HO.out,b0,d0,oV,HH.out.1,by omega,HH.out.2,by omega⟩
     case measure=>simp [intOf];omega
    obtain ⟨t6,b8⟩:=Bk.cf b0 1 rfl
    go_simp
    obtain ⟨w4,g0,hb⟩:=nmw (World.alloc w3 (.cells #[.int .i64 0,.int .i64 1,.int .i64 0,.int .i64 1,.int .i64 3] 3))
    replace hC:=((hC.trans (Chg.of_below (bal (Bs _) _)))).trans (Chg.of_below hb)
    replace hR:=(hR.below (bal (Bs _) _)).below hb
    have f0:=Ob (World.ownsRow_lit (base:=(w3).heap.size) (e:=3) (size:=1) (w3) #[.int .i64 0,.int .i64 1,.int .i64 0,.int .i64 1,.int .i64 3] 5 (Nat.le_refl _) (by unfold maxLen;omega) (by simp)) hb
    try simp only [Sa,Ss] at f0
    have q4:=hb.size
    simp only [Sa] at q4
    clear b8 t6
    replace oX:=Ob (Ob oX (bal (Bs _) _)) hb
    replace oV:=Ob (Ob oV (bal (Bs _) _)) hb
    replace b0:=Bk.below (Bk.al b0 _) hb
    replace d0:=Bk.below (Bk.al d0 _) hb
    have e0:Bk w4 (w3.heap.size) [.int .i64 0,.int .i64 1,.int .i64 0,.int .i64 1,.int .i64 3]:=Bk.below (Bk.nw (by simp) rfl) hb
    clear hb
    have r0:=f0.lt
    try simp only [Sa] at r0
    rw [← g0]
    clear g0
    replace e1:=Bk.lz b0
    replace f1:=Bk.lz d0
    have m1:=Bk.lz e0
    refine hK.out _ _ trivial (fun hHeld=>?_)
    clear hK K
    try simp only [Ep]
    refine Rdy2 1 4 rfl rfl (fun K hK=>?_) (fun K hK=>?_)
    ·obtain ⟨u6,c8⟩:=Bk.cf b0 1 rfl
     go_simp
     refine hK.out _ _ trivial (fun hHeld=>?_)
     clear hK K
     try simp only [Ep]
     refine Rdy 4 rfl (fun K hK=>?_)
     go_simp
     refine (num_any _ [0,1,0,1,3] _ B g (pk) hR (Ro f0 (by simp)) (fun b o c hb=>by simp at hb;omega) (by simp) (by simp) (by omega)).mono ?_
     rintro e w5 ⟨rr,p3,rfl,l0,hc⟩
     replace hC:=(hC).trans hc
     replace hR:=l0;clear l0
     have n9:=hc.size
     clear c8 u6
     replace oX:=Ow oX hc (fun gq h h2=>by have:=iX gq h;have:=o0 gq h2;omega)
     replace oV:=Ow oV hc (fun gq h h2=>by have:=iV gq h;have:=o0 gq h2;omega)
     replace f0:=Ow f0 hc (fun gq h h2=>by have:=r0 gq h;have:=o0 gq h2;omega)
     replace b0:=Bk.kg b0 hc
     replace d0:=Bk.kg d0 hc
     replace e0:=Bk.kg e0 hc
     clear hc
     clear p3
     replace e1:=Bk.lz b0
     replace f1:=Bk.lz d0
     replace m1:=Bk.lz e0
     refine hK.out _ _ trivial (fun hHeld=>?_)
     clear hK K
     try simp only [Ep]
     refine Rdy 5 rfl (fun K hK=>?_)
     go_simp
     obtain ⟨w6,g0,hb⟩:=nmw (World.alloc w5 (.cells #[.int .i64 rr] 3))
     replace hC:=((hC.trans (Chg.of_below (bal (Bs _) _)))).trans (Chg.of_below hb)
     replace hR:=(hR.below (bal (Bs _) _)).below hb
     have j1:=Ob (World.ownsRow_lit (base:=(w5).heap.size) (e:=3) (size:=1) (w5) #[.int .i64 rr] 1 (Nat.le_refl _) (by unfold maxLen;omega) (by simp)) hb
     try simp only [Sa,Ss] at j1
     have r4:=hb.size
     simp only [Sa] at r4
     replace oX:=Ob (Ob oX (bal (Bs _) _)) hb
     replace oV:=Ob (Ob oV (bal (Bs _) _)) hb
     replace f0:=Ob (Ob f0 (bal (Bs _) _)) hb
     replace b0:=Bk.below (Bk.al b0 _) hb
     replace d0:=Bk.below (Bk.al d0 _) hb
     replace e0:=Bk.below (Bk.al e0 _) hb
     have z0:w6.cell? ⟨w5.heap.size,0,none⟩=some (.int .i64 rr):=Kc hb (Wc (by simp) (by rfl))
     have j2:w6.frozen? ⟨w5.heap.size,0,none⟩=false:=Kf hb (by simp <;> omega) (Fn (by simp))
     clear hb
     have c3:=j1.lt
     try simp only [Sa] at c3
     rw [← g0]
     clear g0
     replace e1:=Bk.lz b0
     replace f1:=Bk.lz d0
     replace m1:=Bk.lz e0
     have xB:=Lc z0
     refine hK.out _ _ trivial (fun hHeld=>?_)
     clear hK K
     try simp only [Ep]
     refine Rdy 6 rfl (fun K hK=>?_)
     refine step_aps tInts rfl _ _ rfl (w2.heap.size) _ m (ints xs) rfl oX _ 1 (ints [rr]) rfl ((Ro j1 (by simp))) (one_ints [rr]) (by omega) (by first | omega | (simp only [Sa,Ss];omega)) ?_
     intro vA w7 p1 hc z1 _
     obtain ⟨m3,r3,rfl⟩:=Oh p1
     replace hC:=chg_app hC hc (fun q hq h=>by have:=iX q h;omega)
     replace hR:=hR.keep hc (fun h=>by have:=iX _ h;omega) (fun k hk h=>by have:=iX _ h;omega)
     have o9:=hc.size
     replace j2:=Gf hc (Lc z0) j2 (fun h=>by have:=iX _ h;omega)
     replace oV:=Ow oV hc (fun gq h h2=>by have:=iV gq h;have:=iX gq h2;omega)
     replace f0:=Ow f0 hc (fun gq h h2=>by have:=r0 gq h;have:=iX gq h2;omega)
     replace z0:=Gc hc z0 (fun h=>by have:=iX _ h;omega)
     replace j1:=Ow j1 hc (fun gq h h2=>by have:=c3 gq h;have:=iX gq h2;omega)
     replace b0:=Bk.keep b0 hc (fun h=>by have:=iX _ h;omega)
     replace d0:=Bk.keep d0 hc (fun h=>by have:=iX _ h;omega)
     replace e0:=Bk.keep e0 hc (fun h=>by have:=iX _ h;omega)
     clear hc
     have l6:=p1.lt
     clear z1 oX
     refine hK.out _ _ trivial (fun hHeld=>?_)
     clear hK K
     try simp only [Ep]
     refine (tq 7 36 rfl rfl ?_ ?_ ?_)
     (rotate_left;intro W' hSw;clear hSw;go_simp;try with_reducible rfl)
     try simp only [Ep]
     refine Rdy 8 rfl (fun K hK=>?_)
     obtain ⟨v6,d8⟩:=Bk.cf b0 1 rfl
     go_simp
     obtain ⟨w8,g0,hb⟩:=nmw (World.setCell w7 ⟨w.heap.size+1,1,none⟩ (.slice m3 (m+1) r3))
     replace hC:=((hC.sN _ _ _)).trans (Chg.of_below hb)
     replace hR:=(hR.kC _ _ _).below hb
     have s4:=hb.size
     simp only [Ss] at s4
     clear d8 v6
     replace j2:=Kf hb (Lc (Nn z0 _)) (Fs j2 _)
     replace oV:=Ob (Oe oV _ _ (fun h=>by have:=iV _ h;omega) _) hb
     replace f0:=Ob (Oe f0 _ _ (fun h=>by have:=r0 _ h;omega) _) hb
     replace z0:=Kc hb (Nn z0 _)
     replace j1:=Ob (Oe j1 _ _ (fun h=>by have:=c3 _ h;omega) _) hb
     replace p1:=Ob (Oe p1 _ _ (fun h=>by have:=l6 _ h;omega) _) hb
     replace b0:Bk w8 (w.heap.size+1) [.slice av nv cv,.slice m3 (m+1) r3,.slice none 0 0]:=Bk.below (Bk.at b0 1 (.slice m3 (m+1) r3)) hb
     replace d0:=Bk.below (Bk.nn d0 _) hb
     replace e0:=Bk.below (Bk.nn e0 _) hb
     clear hb
     rw [← g0]
     clear g0
     refine hK.out _ _ trivial (fun hHeld=>?_)
     clear hK K
     try simp only [Ep]
     refine Dn ?_
     clear hHeld
     have HO:=Lib.hid (show w8.ownsRow w2.heap.size 3 1 _ (m+1) (ints (xs++[rr])) from by rw [ints_append];exact p1)
     have q0:Hid ((xs++[rr]).length=m+1):=Lib.hid (by rw [List.length_append,y2.out];rfl)
     have HH:=Lib.hid (And.intro hR hC);clear hR hC p1
     obtain ⟨cC,oC⟩:=Bk.cf b0 1 rfl
     go_wp2
     go_roundw
     case rel=>exact ⟨k-1,m+1,xs++[rr],_,_,pk+1,by congr 1;omega,by have:=q2.out;omega,q0,HO.out,b0,d0,oV,HH.out.1,by omega,HH.out.2,by omega⟩
     case measure=>simp [intOf];omega
    go_simp
    refine (num_any _ [0,1,0,1,3] _ B g (pk) hR (Ro f0 (by simp)) (fun b o c hb=>by simp at hb;omega) (by simp) (by simp) (by omega)).mono ?_
    rintro e w5 ⟨rr,p3,rfl,l0,hc⟩
    replace hC:=(hC).trans hc
    replace hR:=l0;clear l0
    have p9:=hc.size
    replace oX:=Ow oX hc (fun gq h h2=>by have:=iX gq h;have:=o0 gq h2;omega)
    replace oV:=Ow oV hc (fun gq h h2=>by have:=iV gq h;have:=o0 gq h2;omega)
    replace f0:=Ow f0 hc (fun gq h h2=>by have:=r0 gq h;have:=o0 gq h2;omega)
    replace b0:=Bk.kg b0 hc
    replace d0:=Bk.kg d0 hc
    replace e0:=Bk.kg e0 hc
    clear hc
    clear p3
    replace e1:=Bk.lz b0
    replace f1:=Bk.lz d0
    replace m1:=Bk.lz e0
    refine hK.out _ _ trivial (fun hHeld=>?_)
    clear hK K
    try simp only [Ep]
    refine Rdy2 1 5 rfl rfl (fun K hK=>?_) (fun K hK=>?_)
    ·obtain ⟨x6,e8⟩:=Bk.cf b0 1 rfl
     go_simp
     replace e1:=Bk.lz b0
     replace f1:=Bk.lz d0
     replace m1:=Bk.lz e0
     refine hK.out _ _ trivial (fun hHeld=>?_)
     clear hK K
     try simp only [Ep]
     refine Rdy 5 rfl (fun K hK=>?_)
     go_simp
     obtain ⟨w6,g0,hb⟩:=nmw (World.alloc w5 (.cells #[.int .i64 rr] 3))
     replace hC:=((hC.trans (Chg.of_below (bal (Bs _) _)))).trans (Chg.of_below hb)
     replace hR:=(hR.below (bal (Bs _) _)).below hb
     have k1:=Ob (World.ownsRow_lit (base:=(w5).heap.size) (e:=3) (size:=1) (w5) #[.int .i64 rr] 1 (Nat.le_refl _) (by unfold maxLen;omega) (by simp)) hb
     try simp only [Sa,Ss] at k1
     have t4:=hb.size
     simp only [Sa] at t4
     clear e8 x6
     replace oX:=Ob (Ob oX (bal (Bs _) _)) hb
     replace oV:=Ob (Ob oV (bal (Bs _) _)) hb
     replace f0:=Ob (Ob f0 (bal (Bs _) _)) hb
     replace b0:=Bk.below (Bk.al b0 _) hb
     replace d0:=Bk.below (Bk.al d0 _) hb
     replace e0:=Bk.below (Bk.al e0 _) hb
     have b1:w6.cell? ⟨w5.heap.size,0,none⟩=some (.int .i64 rr):=Kc hb (Wc (by simp) (by rfl))
     have l2:w6.frozen? ⟨w5.heap.size,0,none⟩=false:=Kf hb (by simp <;> omega) (Fn (by simp))
     clear hb
     have d3:=k1.lt
     try simp only [Sa] at d3
     rw [← g0]
     clear g0
     replace e1:=Bk.lz b0
     replace f1:=Bk.lz d0
     replace m1:=Bk.lz e0
     have yB:=Lc b1
     refine hK.out _ _ trivial (fun hHeld=>?_)
     clear hK K
     try simp only [Ep]
     refine Rdy 6 rfl (fun K hK=>?_)
     refine step_aps tInts rfl _ _ rfl (w2.heap.size) _ m (ints xs) rfl oX _ 1 (ints [rr]) rfl ((Ro k1 (by simp))) (one_ints [rr]) (by omega) (by first | omega | (simp only [Sa,Ss];omega)) ?_
     intro vA w7 q1 hc z1 _
     obtain ⟨n3,s3,rfl⟩:=Oh q1
     replace hC:=chg_app hC hc (fun q hq h=>by have:=iX q h;omega)
     replace hR:=hR.keep hc (fun h=>by have:=iX _ h;omega) (fun k hk h=>by have:=iX _ h;omega)
     have q9:=hc.size
     replace l2:=Gf hc (Lc b1) l2 (fun h=>by have:=iX _ h;omega)
     replace oV:=Ow oV hc (fun gq h h2=>by have:=iV gq h;have:=iX gq h2;omega)
     replace f0:=Ow f0 hc (fun gq h h2=>by have:=r0 gq h;have:=iX gq h2;omega)
     replace b1:=Gc hc b1 (fun h=>by have:=iX _ h;omega)
     replace k1:=Ow k1 hc (fun gq h h2=>by have:=d3 gq h;have:=iX gq h2;omega)
     replace b0:=Bk.keep b0 hc (fun h=>by have:=iX _ h;omega)
     replace d0:=Bk.keep d0 hc (fun h=>by have:=iX _ h;omega)
     replace e0:=Bk.keep e0 hc (fun h=>by have:=iX _ h;omega)
     clear hc
     have m6:=q1.lt
     clear z1 oX
     refine hK.out _ _ trivial (fun hHeld=>?_)
     clear hK K
     try simp only [Ep]
     refine (tq 7 36 rfl rfl ?_ ?_ ?_)
     (rotate_left;intro W' hSw;clear hSw;go_simp;try with_reducible rfl)
     try simp only [Ep]
     refine Rdy 8 rfl (fun K hK=>?_)
     obtain ⟨y6,f8⟩:=Bk.cf b0 1 rfl
     go_simp
     obtain ⟨w8,g0,hb⟩:=nmw (World.setCell w7 ⟨w.heap.size+1,1,none⟩ (.slice n3 (m+1) s3))
     replace hC:=((hC.sN _ _ _)).trans (Chg.of_below hb)
     replace hR:=(hR.kC _ _ _).below hb
     have u4:=hb.size
     simp only [Ss] at u4
     clear f8 y6
     replace l2:=Kf hb (Lc (Nn b1 _)) (Fs l2 _)
     replace oV:=Ob (Oe oV _ _ (fun h=>by have:=iV _ h;omega) _) hb
     replace f0:=Ob (Oe f0 _ _ (fun h=>by have:=r0 _ h;omega) _) hb
     replace b1:=Kc hb (Nn b1 _)
     replace k1:=Ob (Oe k1 _ _ (fun h=>by have:=d3 _ h;omega) _) hb
     replace q1:=Ob (Oe q1 _ _ (fun h=>by have:=m6 _ h;omega) _) hb
     replace b0:Bk w8 (w.heap.size+1) [.slice av nv cv,.slice n3 (m+1) s3,.slice none 0 0]:=Bk.below (Bk.at b0 1 (.slice n3 (m+1) s3)) hb
     replace d0:=Bk.below (Bk.nn d0 _) hb
     replace e0:=Bk.below (Bk.nn e0 _) hb
     clear hb
     rw [← g0]
     clear g0
     refine hK.out _ _ trivial (fun hHeld=>?_)
     clear hK K
     try simp only [Ep]
     refine Dn ?_
     clear hHeld
     have HO:=Lib.hid (show w8.ownsRow w2.heap.size 3 1 _ (m+1) (ints (xs++[rr])) from by rw [ints_append];exact q1)
     have q0:Hid ((xs++[rr]).length=m+1):=Lib.hid (by rw [List.length_append,y2.out];rfl)
     have HH:=Lib.hid (And.intro hR hC);clear hR hC q1
     obtain ⟨dC,pC⟩:=Bk.cf b0 1 rfl
     go_wp2
     go_roundw
     case rel=>exact ⟨k-1,m+1,xs++[rr],_,_,pk+1,by congr 1;omega,by have:=q2.out;omega,q0,HO.out,b0,d0,oV,HH.out.1,by omega,HH.out.2,by omega⟩
     case measure=>simp [intOf];omega
    go_simp
    obtain ⟨w6,g0,hb⟩:=nmw (World.alloc w5 (.cells #[.int .i64 rr] 3))
    replace hC:=((hC.trans (Chg.of_below (bal (Bs _) _)))).trans (Chg.of_below hb)
    replace hR:=(hR.below (bal (Bs _) _)).below hb
    have l1:=Ob (World.ownsRow_lit (base:=(w5).heap.size) (e:=3) (size:=1) (w5) #[.int .i64 rr] 1 (Nat.le_refl _) (by unfold maxLen;omega) (by simp)) hb
    try simp only [Sa,Ss] at l1
    have v4:=hb.size
    simp only [Sa] at v4
    replace oX:=Ob (Ob oX (bal (Bs _) _)) hb
    replace oV:=Ob (Ob oV (bal (Bs _) _)) hb
    replace f0:=Ob (Ob f0 (bal (Bs _) _)) hb
    replace b0:=Bk.below (Bk.al b0 _) hb
    replace d0:=Bk.below (Bk.al d0 _) hb
    replace e0:=Bk.below (Bk.al e0 _) hb
    have u0:w6.cell? ⟨w5.heap.size,0,none⟩=some (.int .i64 rr):=Kc hb (Wc (by simp) (by rfl))
    have m2:w6.frozen? ⟨w5.heap.size,0,none⟩=false:=Kf hb (by simp <;> omega) (Fn (by simp))
    clear hb
    have e3:=l1.lt
    try simp only [Sa] at e3
    rw [← g0]
    clear g0
    have o6:=Lc u0
    refine hK.out _ _ trivial (fun hHeld=>?_)
    clear hK K
    try simp only [Ep]
    refine Rdy 1 rfl (fun K hK=>?_)
    obtain ⟨z6,g8⟩:=Bk.cf b0 1 rfl
    go_simp
    replace e1:=Bk.lz b0
    replace f1:=Bk.lz d0
    replace m1:=Bk.lz e0
    replace o6:=Lc u0
    refine hK.out _ _ trivial (fun hHeld=>?_)
    clear hK K
    try simp only [Ep]
    refine Rdy 6 rfl (fun K hK=>?_)
    refine step_aps tInts rfl _ _ rfl (w2.heap.size) _ m (ints xs) rfl oX _ 1 (ints [rr]) rfl ((Ro l1 (by simp))) (one_ints [rr]) (by omega) (by first | omega | (simp only [Sa,Ss];omega)) ?_
    intro vA w7 r1 hc z1 _
    obtain ⟨o3,t3,rfl⟩:=Oh r1
    replace hC:=chg_app hC hc (fun q hq h=>by have:=iX q h;omega)
    replace hR:=hR.keep hc (fun h=>by have:=iX _ h;omega) (fun k hk h=>by have:=iX _ h;omega)
    have r9:=hc.size
    clear g8 z6
    replace m2:=Gf hc (Lc u0) m2 (fun h=>by have:=iX _ h;omega)
    replace oV:=Ow oV hc (fun gq h h2=>by have:=iV gq h;have:=iX gq h2;omega)
    replace f0:=Ow f0 hc (fun gq h h2=>by have:=r0 gq h;have:=iX gq h2;omega)
    replace u0:=Gc hc u0 (fun h=>by have:=iX _ h;omega)
    replace l1:=Ow l1 hc (fun gq h h2=>by have:=e3 gq h;have:=iX gq h2;omega)
    replace b0:=Bk.keep b0 hc (fun h=>by have:=iX _ h;omega)
    replace d0:=Bk.keep d0 hc (fun h=>by have:=iX _ h;omega)
    replace e0:=Bk.keep e0 hc (fun h=>by have:=iX _ h;omega)
    clear hc
    have n6:=r1.lt
    clear z1 oX
    refine hK.out _ _ trivial (fun hHeld=>?_)
    clear hK K
    try simp only [Ep]
    refine (tq 7 36 rfl rfl ?_ ?_ ?_)
    (rotate_left;intro W' hSw;clear hSw;go_simp;try with_reducible rfl)
    try simp only [Ep]
    refine Rdy 8 rfl (fun K hK=>?_)
    obtain ⟨a7,h8⟩:=Bk.cf b0 1 rfl
    go_simp
    obtain ⟨w8,g0,hb⟩:=nmw (World.setCell w7 ⟨w.heap.size+1,1,none⟩ (.slice o3 (m+1) t3))
    replace hC:=((hC.sN _ _ _)).trans (Chg.of_below hb)
    replace hR:=(hR.kC _ _ _).below hb
    have x4:=hb.size
    simp only [Ss] at x4
    clear h8 a7
    replace m2:=Kf hb (Lc (Nn u0 _)) (Fs m2 _)
    replace oV:=Ob (Oe oV _ _ (fun h=>by have:=iV _ h;omega) _) hb
    replace f0:=Ob (Oe f0 _ _ (fun h=>by have:=r0 _ h;omega) _) hb
    replace u0:=Kc hb (Nn u0 _)
    replace l1:=Ob (Oe l1 _ _ (fun h=>by have:=e3 _ h;omega) _) hb
    replace r1:=Ob (Oe r1 _ _ (fun h=>by have:=n6 _ h;omega) _) hb
    replace b0:Bk w8 (w.heap.size+1) [.slice av nv cv,.slice o3 (m+1) t3,.slice none 0 0]:=Bk.below (Bk.at b0 1 (.slice o3 (m+1) t3)) hb
    replace d0:=Bk.below (Bk.nn d0 _) hb
    replace e0:=Bk.below (Bk.nn e0 _) hb
    clear hb
    rw [← g0]
    clear g0
    refine hK.out _ _ trivial (fun hHeld=>?_)
    clear hK K
    try simp only [Ep]
    refine Dn ?_
    clear hHeld
    have HO:=Lib.hid (show w8.ownsRow w2.heap.size 3 1 _ (m+1) (ints (xs++[rr])) from by rw [ints_append];exact r1)
    have q0:Hid ((xs++[rr]).length=m+1):=Lib.hid (by rw [List.length_append,y2.out];rfl)
    have HH:=Lib.hid (And.intro hR hC);clear hR hC r1
    obtain ⟨eC,qC⟩:=Bk.cf b0 1 rfl
    go_wp2
    go_roundw
    case rel=>exact ⟨k-1,m+1,xs++[rr],_,_,pk+1,by congr 1;omega,by have:=q2.out;omega,q0,HO.out,b0,d0,oV,HH.out.1,by omega,HH.out.2,by omega⟩
    case measure=>simp [intOf];omega
   have i4:k=0:=by omega
   subst i4
   have k4:m=t1:=by have:=q2.out;omega
   have xD:m≤2:=by omega
   clear k4 q2 hk0 j4
   have wD:w1.heap.size≤w2.heap.size:=by omega
   go_upto_region 10 with (fail)
   have f4:=Bk.lz b0
   have g4:=Bk.lz d0
   go_cut [41] (fun _ wx=>∃ (aL:Option Addr) (cL pL:Nat) (L:List St),Bk wx (w.heap.size+1) [.slice av nv cv,.slice a m c,.slice aL L.length cL]∧Bk wx (w.heap.size) [.slice none 0 0,.slice none 0 0,.slice none 0 0]∧wx.ownsRow w1.heap.size 3 1 (.slice av nv cv) nv (ints us)∧wx.ownsRow w2.heap.size 3 1 (.slice a m c) m (ints xs)∧BlAt wx (fun q=>z2.heap.size≤q∧q < wx.heap.size) 3 (.slice aL L.length cL) L∧L.length≤4∧Hid (∀ x ∈ L,SmS 3 x)∧Rnd wx B g pL∧pL≤p+2600000∧Chg (fun q=>q=g) w wx∧z2.heap.size≤wx.heap.size)
   case first =>
    refine wp_region_noPanic ?_
    refine wp_region_held_drew (S:=(fun W'=>True)) (by kernel_rfl) trivial (fun hHeld=>?_)
    obtain ⟨w3,a3⟩:∃ X,X=World.drew z2:=⟨_,rfl⟩
    rw [← a3]
    have hb:Below z2.heap.size z2 w3:=by rw [a3];exact Below.drew (Bs _)
    clear a3
    replace hC:=(hC).trans (Chg.of_below hb)
    replace hR:=hR.below hb
    have s9:=hb.size
    replace oX:=Ob oX hb
    replace oV:=Ob oV hb
    replace b0:=Bk.below b0 hb
    replace d0:=Bk.below d0 hb
    clear hb
    replace f4:=Bk.lz b0
    replace g4:=Bk.lz d0
    refine (tq 0 37 rfl rfl ?_ ?_ (tq 2 39 rfl rfl ?_ ?_ ?_))
    iterate 2 (rotate_left;intro W' hSw;clear hSw;go_simp;try with_reducible rfl)
    try simp only [Ep]
    refine Rdy2 1 3 rfl rfl (fun K hK=>?_) (fun K hK=>?_)
    ·obtain ⟨b7,i8,c7,j8,d7,k8⟩:=Bk.f3 b0 0 1 2 rfl rfl rfl
     go_simp
     replace f4:=Bk.lz b0
     replace g4:=Bk.lz d0
     refine hK.out _ _ trivial (fun hHeld=>?_)
     clear hK K
     try simp only [Ep]
     refine Rdy 3 rfl (fun K hK=>?_)
     go_simp
     obtain ⟨w4,g0,hb⟩:=nmw (World.alloc w3 (.cells #[.int .i64 2,.int .i64 3,.int .i64 1,.int .i64 4] 3))
     replace hC:=((hC.trans (Chg.of_below (bal (Bs _) _)))).trans (Chg.of_below hb)
     replace hR:=(hR.below (bal (Bs _) _)).below hb
     have s0:=Ob (World.ownsRow_lit (base:=(w3).heap.size) (e:=3) (size:=1) (w3) #[.int .i64 2,.int .i64 3,.int .i64 1,.int .i64 4] 4 (Nat.le_refl _) (by unfold maxLen;omega) (by simp)) hb
     try simp only [Sa,Ss] at s0
     have y4:=hb.size
     simp only [Sa] at y4
     clear i8 b7 j8 c7 k8 d7
     replace oX:=Ob (Ob oX (bal (Bs _) _)) hb
     replace oV:=Ob (Ob oV (bal (Bs _) _)) hb
     replace b0:=Bk.below (Bk.al b0 _) hb
     replace d0:=Bk.below (Bk.al d0 _) hb
     have x0:Bk w4 (w3.heap.size) [.int .i64 2,.int .i64 3,.int .i64 1,.int .i64 4]:=Bk.below (Bk.nw (by simp) rfl) hb
     clear hb
     have p2:=s0.lt
     try simp only [Sa] at p2
     rw [← g0]
     clear g0
     have zB:=Bk.lz x0
     refine hK.out _ _ trivial (fun hHeld=>?_)
     clear hK K
     try simp only [Ep]
     refine Rdy 4 rfl (fun K hK=>?_)
     go_simp
     refine (num_any _ [2,3,1,4] _ B g (pk) hR (Ro s0 (by simp)) (fun b o c hb=>by simp at hb;omega) (by simp) (by simp) (by omega)).mono ?_
     rintro e w5 ⟨n2,n2m,rfl,l0,hc⟩
     replace hC:=(hC).trans hc
     replace hR:=l0;clear l0
     have t9:=hc.size
     replace oX:=Ow oX hc (fun gq h h2=>by have:=iX gq h;have:=o0 gq h2;omega)
     replace oV:=Ow oV hc (fun gq h h2=>by have:=iV gq h;have:=o0 gq h2;omega)
     replace s0:=Ow s0 hc (fun gq h h2=>by have:=p2 gq h;have:=o0 gq h2;omega)
     replace b0:=Bk.kg b0 hc
     replace d0:=Bk.kg d0 hc
     replace x0:=Bk.kg x0 hc
     clear hc
     obtain ⟨t2,rfl,d4⟩:∃ t:Nat,n2=t∧t≤4:=by simp only [List.mem_cons,List.not_mem_nil,or_false] at n2m;exact ⟨n2.toNat,by omega,by omega⟩
     refine hK.out _ _ trivial (fun hHeld=>?_)
     clear hK K
     try simp only [Ep]
     refine Rdy 5 rfl (fun K hK=>?_)
     go_simp
     have j6:t2*scost 3≤4*630000:=Nat.mul_le_mul d4 (by decide)
     have b4:=Lib.hid ((l2DrawBoth av a nv cv m c (.slice none 0 0) B g h9.1 ⟨by omega,by omega⟩ 2 (by omega)).2 t2 (pk+1) _ d4 hR (by show pk+1+t2*scost 3≤_;omega))
     refine (b4.out).mono ?_
     rintro e w6 ⟨aL,cL,L,pL,rfl,v0,t5,c4,l0,z3,hc⟩
     replace hC:=(hC).trans hc
     replace hR:=l0;clear l0
     have u9:=hc.size
     replace oX:=Ow oX hc (fun gq h h2=>by have:=iX gq h;have:=o0 gq h2;omega)
     replace oV:=Ow oV hc (fun gq h h2=>by have:=iV gq h;have:=o0 gq h2;omega)
     replace s0:=Ow s0 hc (fun gq h h2=>by have:=p2 gq h;have:=o0 gq h2;omega)
     replace b0:=Bk.kg b0 hc
     replace d0:=Bk.kg d0 hc
     replace x0:=Bk.kg x0 hc
     clear hc
     clear b4
     have h4:=Lib.hid c4;have b2:L.length≤4:=(by omega);have x5:pL≤pk+1+4*630000:=by have:pL≤pk+1+t2*scost 3:=z3;omega
     clear t5 c4 z3 j6
     replace v0:=BlAt.keep2 (S:=fun _=>False) (Chg.refl _ _) (fun _ _ _=>id) (fun q (hq:w5.heap.size≤q) hlt=>(show w5.heap.size≤q∧q < w6.heap.size from ⟨hq,hlt⟩)) (Nat.le_refl _) v0
     refine hK.out _ _ trivial (fun hHeld=>?_)
     clear hK K
     try simp only [Ep]
     refine (tq 6 43 rfl rfl ?_ ?_ ?_)
     (rotate_left;intro W' hSw;clear hSw;go_simp;try with_reducible rfl)
     try simp only [Ep]
     refine Rdy 7 rfl (fun K hK=>?_)
     obtain ⟨e7,l8⟩:=Bk.cf b0 2 rfl
     go_simp
     obtain ⟨w7,g0,hb⟩:=nmw (World.setCell w6 ⟨w.heap.size+1,2,none⟩ (.slice aL L.length cL))
     replace hC:=((hC.sN _ _ _)).trans (Chg.of_below hb)
     replace hR:=(hR.kC _ _ _).below hb
     replace v0:=((BlAt.keep2 (C1 _ _ _) (fun q (hq:w5.heap.size≤q∧q < w6.heap.size) _ (h:q=(w.heap.size+1))=>by omega) (fun _ h _=>h) (Nat.le_refl _) v0).below hb)
     have z4:=hb.size
     simp only [Ss] at z4
     clear l8 e7
     replace oX:=Ob (Oe oX _ _ (fun h=>by have:=iX _ h;omega) _) hb
     replace oV:=Ob (Oe oV _ _ (fun h=>by have:=iV _ h;omega) _) hb
     replace s0:=Ob (Oe s0 _ _ (fun h=>by have:=p2 _ h;omega) _) hb
     replace b0:Bk w7 (w.heap.size+1) [.slice av nv cv,.slice a m c,.slice aL L.length cL]:=Bk.below (Bk.at b0 2 (.slice aL L.length cL)) hb
     replace d0:=Bk.below (Bk.nn d0 _) hb
     replace x0:=Bk.below (Bk.nn x0 _) hb
     clear hb
     rw [← g0]
     clear g0
     refine hK.out _ _ trivial (fun hHeld=>?_)
     clear hK K
     try simp only [Ep]
     refine Dn ?_
     clear hHeld
     obtain ⟨fC,rC⟩:=Bk.cf b0 2 rfl
     go_wp2_with fail
     go_meet
     exact ⟨aL,cL,pL,L,b0,d0,oV,oX,BlAt.keep2 (S:=fun _=>False) (Chg.refl _ _) (fun _ _ _=>id) (fun q (hq:w5.heap.size≤q∧q < w6.heap.size) hlt=>⟨by omega,hlt⟩) (Nat.le_refl _) v0,b2,h4,hR,by omega,hC,by omega⟩
    obtain ⟨f7,m8,g7,n8,h7,o8⟩:=Bk.f3 b0 0 1 2 rfl rfl rfl
    go_simp
    obtain ⟨w4,g0,hb⟩:=nmw (World.alloc w3 (.cells #[.int .i64 2,.int .i64 3,.int .i64 1,.int .i64 4] 3))
    replace hC:=((hC.trans (Chg.of_below (bal (Bs _) _)))).trans (Chg.of_below hb)
    replace hR:=(hR.below (bal (Bs _) _)).below hb
    have j0:=Ob (World.ownsRow_lit (base:=(w3).heap.size) (e:=3) (size:=1) (w3) #[.int .i64 2,.int .i64 3,.int .i64 1,.int .i64 4] 4 (Nat.le_refl _) (by unfold maxLen;omega) (by simp)) hb
    try simp only [Sa,Ss] at j0
    have a5:=hb.size
    simp only [Sa] at a5
    clear m8 f7 n8 g7 o8 h7
    replace oX:=Ob (Ob oX (bal (Bs _) _)) hb
    replace oV:=Ob (Ob oV (bal (Bs _) _)) hb
    replace b0:=Bk.below (Bk.al b0 _) hb
    replace d0:=Bk.below (Bk.al d0 _) hb
    have k0:Bk w4 (w3.heap.size) [.int .i64 2,.int .i64 3,.int .i64 1,.int .i64 4]:=Bk.below (Bk.nw (by simp) rfl) hb
    clear hb
    have d1:=j0.lt
    try simp only [Sa] at d1
    rw [← g0]
    clear g0
    have aC:=Bk.lz k0
    refine hK.out _ _ trivial (fun hHeld=>?_)
    clear hK K
    try simp only [Ep]
    refine Rdy2 1 4 rfl rfl (fun K hK=>?_) (fun K hK=>?_)
    ·obtain ⟨i7,p8,j7,q8,k7,r8⟩:=Bk.f3 b0 0 1 2 rfl rfl rfl
     go_simp
     refine hK.out _ _ trivial (fun hHeld=>?_)
     clear hK K
     try simp only [Ep]
     refine Rdy 4 rfl (fun K hK=>?_)
     go_simp
     refine (num_any _ [2,3,1,4] _ B g (pk) hR (Ro j0 (by simp)) (fun b o c hb=>by simp at hb;omega) (by simp) (by simp) (by omega)).mono ?_
     rintro e w5 ⟨n2,n2m,rfl,l0,hc⟩
     replace hC:=(hC).trans hc
     replace hR:=l0;clear l0
     have w9:=hc.size
     clear p8 i7 q8 j7 r8 k7
     replace oX:=Ow oX hc (fun gq h h2=>by have:=iX gq h;have:=o0 gq h2;omega)
     replace oV:=Ow oV hc (fun gq h h2=>by have:=iV gq h;have:=o0 gq h2;omega)
     replace j0:=Ow j0 hc (fun gq h h2=>by have:=d1 gq h;have:=o0 gq h2;omega)
     replace b0:=Bk.kg b0 hc
     replace d0:=Bk.kg d0 hc
     replace k0:=Bk.kg k0 hc
     clear hc
     obtain ⟨t2,rfl,d4⟩:∃ t:Nat,n2=t∧t≤4:=by simp only [List.mem_cons,List.not_mem_nil,or_false] at n2m;exact ⟨n2.toNat,by omega,by omega⟩
     refine hK.out _ _ trivial (fun hHeld=>?_)
     clear hK K
     try simp only [Ep]
     refine Rdy 5 rfl (fun K hK=>?_)
     go_simp
     have j6:t2*scost 3≤4*630000:=Nat.mul_le_mul d4 (by decide)
     have b4:=Lib.hid ((l2DrawBoth av a nv cv m c (.slice none 0 0) B g h9.1 ⟨by omega,by omega⟩ 2 (by omega)).2 t2 (pk+1) _ d4 hR (by show pk+1+t2*scost 3≤_;omega))
     refine (b4.out).mono ?_
     rintro e w6 ⟨aL,cL,L,pL,rfl,v0,t5,c4,l0,z3,hc⟩
     replace hC:=(hC).trans hc
     replace hR:=l0;clear l0
     have x9:=hc.size
     replace oX:=Ow oX hc (fun gq h h2=>by have:=iX gq h;have:=o0 gq h2;omega)
     replace oV:=Ow oV hc (fun gq h h2=>by have:=iV gq h;have:=o0 gq h2;omega)
     replace j0:=Ow j0 hc (fun gq h h2=>by have:=d1 gq h;have:=o0 gq h2;omega)
     replace b0:=Bk.kg b0 hc
     replace d0:=Bk.kg d0 hc
     replace k0:=Bk.kg k0 hc
     clear hc
     clear b4
     have h4:=Lib.hid c4;have b2:L.length≤4:=(by omega);have x5:pL≤pk+1+4*630000:=by have:pL≤pk+1+t2*scost 3:=z3;omega
     clear t5 c4 z3 j6
     replace v0:=BlAt.keep2 (S:=fun _=>False) (Chg.refl _ _) (fun _ _ _=>id) (fun q (hq:w5.heap.size≤q) hlt=>(show w5.heap.size≤q∧q < w6.heap.size from ⟨hq,hlt⟩)) (Nat.le_refl _) v0
     refine hK.out _ _ trivial (fun hHeld=>?_)
     clear hK K
     try simp only [Ep]
     refine (tq 6 43 rfl rfl ?_ ?_ ?_)
     (rotate_left;intro W' hSw;clear hSw;go_simp;try with_reducible rfl)
     try simp only [Ep]
     refine Rdy 7 rfl (fun K hK=>?_)
     obtain ⟨l7,s8⟩:=Bk.cf b0 2 rfl
     go_simp
     obtain ⟨w7,g0,hb⟩:=nmw (World.setCell w6 ⟨w.heap.size+1,2,none⟩ (.slice aL L.length cL))
     replace hC:=((hC.sN _ _ _)).trans (Chg.of_below hb)
     replace hR:=(hR.kC _ _ _).below hb
     replace v0:=((BlAt.keep2 (C1 _ _ _) (fun q (hq:w5.heap.size≤q∧q < w6.heap.size) _ (h:q=(w.heap.size+1))=>by omega) (fun _ h _=>h) (Nat.le_refl _) v0).below hb)
     have b5:=hb.size
     simp only [Ss] at b5
     clear s8 l7
     replace oX:=Ob (Oe oX _ _ (fun h=>by have:=iX _ h;omega) _) hb
     replace oV:=Ob (Oe oV _ _ (fun h=>by have:=iV _ h;omega) _) hb
     replace j0:=Ob (Oe j0 _ _ (fun h=>by have:=d1 _ h;omega) _) hb
     replace b0:Bk w7 (w.heap.size+1) [.slice av nv cv,.slice a m c,.slice aL L.length cL]:=Bk.below (Bk.at b0 2 (.slice aL L.length cL)) hb
     replace d0:=Bk.below (Bk.nn d0 _) hb
     replace k0:=Bk.below (Bk.nn k0 _) hb
     clear hb
     rw [← g0]
     clear g0
     refine hK.out _ _ trivial (fun hHeld=>?_)
     clear hK K
     try simp only [Ep]
     refine Dn ?_
     clear hHeld
     obtain ⟨gC,sC⟩:=Bk.cf b0 2 rfl
     go_wp2_with fail
     go_meet
     exact ⟨aL,cL,pL,L,b0,d0,oV,oX,BlAt.keep2 (S:=fun _=>False) (Chg.refl _ _) (fun _ _ _=>id) (fun q (hq:w5.heap.size≤q∧q < w6.heap.size) hlt=>⟨by omega,hlt⟩) (Nat.le_refl _) v0,b2,h4,hR,by omega,hC,by omega⟩
    go_simp
    refine (num_any _ [2,3,1,4] _ B g (pk) hR (Ro j0 (by simp)) (fun b o c hb=>by simp at hb;omega) (by simp) (by simp) (by omega)).mono ?_
    rintro e w5 ⟨n2,n2m,rfl,l0,hc⟩
    replace hC:=(hC).trans hc
    replace hR:=l0;clear l0
    have y9:=hc.size
    replace oX:=Ow oX hc (fun gq h h2=>by have:=iX gq h;have:=o0 gq h2;omega)
    replace oV:=Ow oV hc (fun gq h h2=>by have:=iV gq h;have:=o0 gq h2;omega)
    replace j0:=Ow j0 hc (fun gq h h2=>by have:=d1 gq h;have:=o0 gq h2;omega)
    replace b0:=Bk.kg b0 hc
    replace d0:=Bk.kg d0 hc
    replace k0:=Bk.kg k0 hc
    clear hc
    obtain ⟨t2,rfl,d4⟩:∃ t:Nat,n2=t∧t≤4:=by simp only [List.mem_cons,List.not_mem_nil,or_false] at n2m;exact ⟨n2.toNat,by omega,by omega⟩
    refine hK.out _ _ trivial (fun hHeld=>?_)
    clear hK K
    try simp only [Ep]
    refine Rdy 1 rfl (fun K hK=>?_)
    obtain ⟨m7,t8,n7,u8,o7,v8⟩:=Bk.f3 b0 0 1 2 rfl rfl rfl
    go_simp
    refine hK.out _ _ trivial (fun hHeld=>?_)
    clear hK K
    try simp only [Ep]
    refine Rdy 5 rfl (fun K hK=>?_)
    go_simp
    have j6:t2*scost 3≤4*630000:=Nat.mul_le_mul d4 (by decide)
    have b4:=Lib.hid ((l2DrawBoth av a nv cv m c (.slice none 0 0) B g h9.1 ⟨by omega,by omega⟩ 2 (by omega)).2 t2 (pk+1) _ d4 hR (by show pk+1+t2*scost 3≤_;omega))
    refine (b4.out).mono ?_
    rintro e w6 ⟨aL,cL,L,pL,rfl,v0,t5,c4,l0,z3,hc⟩
    replace hC:=(hC).trans hc
    replace hR:=l0;clear l0
    have z9:=hc.size
    clear t8 m7 u8 n7 v8 o7
    replace oX:=Ow oX hc (fun gq h h2=>by have:=iX gq h;have:=o0 gq h2;omega)
    replace oV:=Ow oV hc (fun gq h h2=>by have:=iV gq h;have:=o0 gq h2;omega)
    replace j0:=Ow j0 hc (fun gq h h2=>by have:=d1 gq h;have:=o0 gq h2;omega)
    replace b0:=Bk.kg b0 hc
    replace d0:=Bk.kg d0 hc
    replace k0:=Bk.kg k0 hc
    clear hc
    clear b4
    have h4:=Lib.hid c4;have b2:L.length≤4:=(by omega);have x5:pL≤pk+1+4*630000:=by have:pL≤pk+1+t2*scost 3:=z3;omega
    clear t5 c4 z3 j6
    replace v0:=BlAt.keep2 (S:=fun _=>False) (Chg.refl _ _) (fun _ _ _=>id) (fun q (hq:w5.heap.size≤q) hlt=>(show w5.heap.size≤q∧q < w6.heap.size from ⟨hq,hlt⟩)) (Nat.le_refl _) v0
    refine hK.out _ _ trivial (fun hHeld=>?_)
    clear hK K
    try simp only [Ep]
    refine (tq 6 43 rfl rfl ?_ ?_ ?_)
    (rotate_left;intro W' hSw;clear hSw;go_simp;try with_reducible rfl)
    try simp only [Ep]
    refine Rdy 7 rfl (fun K hK=>?_)
    obtain ⟨p7,x8⟩:=Bk.cf b0 2 rfl
    go_simp
    obtain ⟨w7,g0,hb⟩:=nmw (World.setCell w6 ⟨w.heap.size+1,2,none⟩ (.slice aL L.length cL))
    replace hC:=((hC.sN _ _ _)).trans (Chg.of_below hb)
    replace hR:=(hR.kC _ _ _).below hb
    replace v0:=((BlAt.keep2 (C1 _ _ _) (fun q (hq:w5.heap.size≤q∧q < w6.heap.size) _ (h:q=(w.heap.size+1))=>by omega) (fun _ h _=>h) (Nat.le_refl _) v0).below hb)
    have c5:=hb.size
    simp only [Ss] at c5
    clear x8 p7
    replace oX:=Ob (Oe oX _ _ (fun h=>by have:=iX _ h;omega) _) hb
    replace oV:=Ob (Oe oV _ _ (fun h=>by have:=iV _ h;omega) _) hb
    replace j0:=Ob (Oe j0 _ _ (fun h=>by have:=d1 _ h;omega) _) hb
    replace b0:Bk w7 (w.heap.size+1) [.slice av nv cv,.slice a m c,.slice aL L.length cL]:=Bk.below (Bk.at b0 2 (.slice aL L.length cL)) hb
    replace d0:=Bk.below (Bk.nn d0 _) hb
    replace k0:=Bk.below (Bk.nn k0 _) hb
    clear hb
    rw [← g0]
    clear g0
    refine hK.out _ _ trivial (fun hHeld=>?_)
    clear hK K
    try simp only [Ep]
    refine Dn ?_
    clear hHeld
    obtain ⟨iC,uC⟩:=Bk.cf b0 2 rfl
    go_wp2_with fail
    go_meet
    exact ⟨aL,cL,pL,L,b0,d0,oV,oX,BlAt.keep2 (S:=fun _=>False) (Chg.refl _ _) (fun _ _ _=>id) (fun q (hq:w5.heap.size≤q∧q < w6.heap.size) hlt=>⟨by omega,hlt⟩) (Nat.le_refl _) v0,b2,h4,hR,by omega,hC,by omega⟩
   obtain ⟨w4,rfl⟩:∃ W,W=wc:=⟨_,rfl⟩
   clear hR hC b0 d0 oX oV
   obtain ⟨aL,cL,pL,L,b0,d0,oV,oX,v0,b2,h4,hR,z3,hC,cE⟩:=hcut
   have iX:=oX.lt
   have q6:=Bk.lz b0
   have r6:=Bk.lz d0
   have p5:=fD;have s5:=y2
   have kB:=Lib.hid (ProgramValid_b (.slice av nv cv) (.slice a m c) us xs _ 3 _ L _ (by have h:=Ro oV (by omega);rw [p5.out];exact h) (by have h:=Ro oX (by omega);rw [s5.out];exact h) v0)
   obtain ⟨q7,y8,r7,z8,s7,a9⟩:=Bk.f3 b0 0 1 2 rfl rfl rfl
   go_wp2_with fail
   refine (kB.out).mono ?_
   rintro e w5 ⟨pb,rfl,hb⟩
   replace hC:=(hC).trans (Chg.of_below hb)
   replace hR:=hR.below hb
   replace v0:=(v0.below hb)
   have aA:=hb.size
   clear y8 q7 z8 r7 a9 s7
   replace oV:=Ob oV hb
   replace oX:=Ob oX hb
   replace b0:=Bk.below b0 hb
   replace d0:=Bk.below d0 hb
   clear hb
   clear kB
   replace q6:=Bk.lz b0
   replace r6:=Bk.lz d0
   cases pb with
   | true =>
    have HF:=Lib.hid (And.intro (Oe (Oe (Oe oV (w.heap.size) 0 (fun h=>by have:=iV _ h;omega) (.slice av nv cv)) (w.heap.size) 1 (fun h=>by have:=iV _ h;omega) (.slice a m c)) (w.heap.size) 2 (fun h=>by have:=iV _ h;omega) (.slice aL L.length cL)) (And.intro (Oe (Oe (Oe oX (w.heap.size) 0 (fun h=>by have:=iX _ h;omega) (.slice av nv cv)) (w.heap.size) 1 (fun h=>by have:=iX _ h;omega) (.slice a m c)) (w.heap.size) 2 (fun h=>by have:=iX _ h;omega) (.slice aL L.length cL)) (BlAt.keep2 (S:=fun _=>False) (Chg.refl _ _) (fun _ _ _=>id) (fun q (hq:z2.heap.size≤q∧q < w4.heap.size) _=>(show w.heap.size≤q by omega)) (Nat.le_refl _) (BlAt.keep2 (C1 (w.heap.size) (2) (.slice aL L.length cL)) (fun q (hq:z2.heap.size≤q∧q < w4.heap.size) _ (h:q=(w.heap.size))=>by omega) (fun _ h _=>h) (Nat.le_refl _) (BlAt.keep2 (C1 (w.heap.size) (1) (.slice a m c)) (fun q (hq:z2.heap.size≤q∧q < w4.heap.size) _ (h:q=(w.heap.size))=>by omega) (fun _ h _=>h) (Nat.le_refl _) (BlAt.keep2 (C1 (w.heap.size) (0) (.slice av nv cv)) (fun q (hq:z2.heap.size≤q∧q < w4.heap.size) _ (h:q=(w.heap.size))=>by omega) (fun _ h _=>h) (Nat.le_refl _) v0))))))
    have eD:=Lib.hid (show ∀ q,(Value.slice av nv cv).ownBlock=some q→(Value.slice a m c).ownBlock=some q→False from fun q h1 h2=>by have:=iV q h1;have:=iX q h2;omega)
    clear oV oX v0
    have tC:=(((hC.sN (w.heap.size) (0) (.slice av nv cv)).sN (w.heap.size) (1) (.slice a m c)).sN (w.heap.size) (2) (.slice aL L.length cL));have tR:=(((hR.kC (w.heap.size) (0) (.slice av nv cv)).kC (w.heap.size) (1) (.slice a m c)).kC (w.heap.size) (2) (.slice aL L.length cL))
    obtain ⟨jC,vC,lC,wC,mC,xC⟩:=Bk.f3 b0 0 1 2 rfl rfl rfl
    obtain ⟨t7,yC,u7,zC,v7,aD⟩:=Bk.f3 d0 0 1 2 rfl rfl rfl
    have eB:=(Nn (b:=(w.heap.size)) (j:=2) (Nn (b:=(w.heap.size)) (j:=1) (Tc _ (w.heap.size) 0 (.slice av nv cv) t7) (.slice a m c)) (.slice aL L.length cL))
    have fB:=(Nn (b:=(w.heap.size)) (j:=2) (Tc _ (w.heap.size) 1 (.slice a m c) (Nn (b:=(w.heap.size)) (j:=0) u7 (.slice av nv cv))) (.slice aL L.length cL))
    have gB:=(Tc _ (w.heap.size) 2 (.slice aL L.length cL) (Nn (b:=(w.heap.size)) (j:=1) (Nn (b:=(w.heap.size)) (j:=0) v7 (.slice av nv cv)) (.slice a m c)))
    have tt:=True.intro
    go_wp2
    exact bodyPost_ret (v:=.agg #[.slice av nv cv,.slice a m c,.slice aL L.length cL]) (by simp [results,Try.results107,go_sem,eB,fB,gB]) rfl (by exact ⟨av,a,aL,cv,c,cL,us,xs,L,_,by rw [p5.out,s5.out],by rw [p5.out];exact Om HF.out.1 (by omega),by rw [s5.out];exact Om HF.out.2.1 (by omega),by rw [p5.out,s5.out];exact fun q h1 h2=>eD.out q h1 h2,by rw [p5.out];omega,by rw [p5.out];omega,by rw [s5.out];omega,HF.out.2.2,b2,h4.out,tR,by omega,tC⟩)
   | false =>
    clear oV oX v0
    have i3:=Om (base':=w.heap.size) (Ob (World.ownsRow_lit (base:=((World.setCell (World.setCell (World.setCell w5 ⟨w.heap.size,0,none⟩ (.slice (some ⟨w5.heap.size,0,none⟩) 2 2)) ⟨w.heap.size,1,none⟩ (.slice none 0 0)) ⟨w.heap.size,2,none⟩ (.slice (some ⟨w5.heap.size+1,0,none⟩) 1 1))).heap.size) (e:=3) (size:=1) ((World.setCell (World.setCell (World.setCell w5 ⟨w.heap.size,0,none⟩ (.slice (some ⟨w5.heap.size,0,none⟩) 2 2)) ⟨w.heap.size,1,none⟩ (.slice none 0 0)) ⟨w.heap.size,2,none⟩ (.slice (some ⟨w5.heap.size+1,0,none⟩) 1 1))) #[.int .i64 0,.int .i64 1] 2 (Nat.le_refl _) (by unfold maxLen;omega) (by simp)) (bal (Bs _) (.cells #[.int .i64 1,.int .i64 1,.int .i64 0,.int .i64 0,.slice none 0 0,.int .i64 2,.int .i64 0,.slice none 0 0,.int .i64 0,.slice none 0 0,.slice none 0 0] 163))) (by first | omega | (simp only [Sa,Ss];omega))
    simp only [Sa,Ss] at i3
    have l4:=Lib.hid i3;clear i3
    have j3:=Om (base':=w.heap.size) (World.ownsRow_lit (base:=((World.alloc (World.setCell (World.setCell (World.setCell w5 ⟨w.heap.size,0,none⟩ (.slice (some ⟨w5.heap.size,0,none⟩) 2 2)) ⟨w.heap.size,1,none⟩ (.slice none 0 0)) ⟨w.heap.size,2,none⟩ (.slice (some ⟨w5.heap.size+1,0,none⟩) 1 1)) (.cells #[.int .i64 0,.int .i64 1] 3))).heap.size) (e:=163) (size:=11) ((World.alloc (World.setCell (World.setCell (World.setCell w5 ⟨w.heap.size,0,none⟩ (.slice (some ⟨w5.heap.size,0,none⟩) 2 2)) ⟨w.heap.size,1,none⟩ (.slice none 0 0)) ⟨w.heap.size,2,none⟩ (.slice (some ⟨w5.heap.size+1,0,none⟩) 1 1)) (.cells #[.int .i64 0,.int .i64 1] 3))) #[.int .i64 1,.int .i64 1,.int .i64 0,.int .i64 0,.slice none 0 0,.int .i64 2,.int .i64 0,.slice none 0 0,.int .i64 0,.slice none 0 0,.slice none 0 0] 1 (Nat.le_refl _) (by unfold maxLen;omega) (by simp)) (by first | omega | (simp only [Sa,Ss];omega))
    simp only [Sa,Ss] at j3
    have m4:=Lib.hid j3;clear j3
    have tC:=(((((hC.sN (w.heap.size) (0) (.slice (some ⟨w5.heap.size,0,none⟩) 2 2)).sN (w.heap.size) (1) (.slice none 0 0)).sN (w.heap.size) (2) (.slice (some ⟨w5.heap.size+1,0,none⟩) 1 1)).trans (Chg.of_below (bal (Bs _) (.cells #[.int .i64 0,.int .i64 1] 3)))).trans (Chg.of_below (bal (Bs _) (.cells #[.int .i64 1,.int .i64 1,.int .i64 0,.int .i64 0,.slice none 0 0,.int .i64 2,.int .i64 0,.slice none 0 0,.int .i64 0,.slice none 0 0,.slice none 0 0] 163))));have tR:=(((((hR.kC (w.heap.size) (0) (.slice (some ⟨w5.heap.size,0,none⟩) 2 2)).kC (w.heap.size) (1) (.slice none 0 0)).kC (w.heap.size) (2) (.slice (some ⟨w5.heap.size+1,0,none⟩) 1 1)).below (bal (Bs _) (.cells #[.int .i64 0,.int .i64 1] 3))).below (bal (Bs _) (.cells #[.int .i64 1,.int .i64 1,.int .i64 0,.int .i64 0,.slice none 0 0,.int .i64 2,.int .i64 0,.slice none 0 0,.int .i64 0,.slice none 0 0,.slice none 0 0] 163)))
    obtain ⟨x7,bD,y7,cD,z7,dD⟩:=Bk.f3 d0 0 1 2 rfl rfl rfl
    have hB:=(Ac (Ac (Nn (b:=(w.heap.size)) (j:=2) (Nn (b:=(w.heap.size)) (j:=1) (Tc _ (w.heap.size) 0 (.slice (some ⟨w5.heap.size,0,none⟩) 2 2) x7) (.slice none 0 0)) (.slice (some ⟨w5.heap.size+1,0,none⟩) 1 1)) (.cells #[.int .i64 0,.int .i64 1] 3)) (.cells #[.int .i64 1,.int .i64 1,.int .i64 0,.int .i64 0,.slice none 0 0,.int .i64 2,.int .i64 0,.slice none 0 0,.int .i64 0,.slice none 0 0,.slice none 0 0] 163))
    have iB:=(Ac (Ac (Nn (b:=(w.heap.size)) (j:=2) (Tc _ (w.heap.size) 1 (.slice none 0 0) (Nn (b:=(w.heap.size)) (j:=0) y7 (.slice (some ⟨w5.heap.size,0,none⟩) 2 2))) (.slice (some ⟨w5.heap.size+1,0,none⟩) 1 1)) (.cells #[.int .i64 0,.int .i64 1] 3)) (.cells #[.int .i64 1,.int .i64 1,.int .i64 0,.int .i64 0,.slice none 0 0,.int .i64 2,.int .i64 0,.slice none 0 0,.int .i64 0,.slice none 0 0,.slice none 0 0] 163))
    have jB:=(Ac (Ac (Tc _ (w.heap.size) 2 (.slice (some ⟨w5.heap.size+1,0,none⟩) 1 1) (Nn (b:=(w.heap.size)) (j:=1) (Nn (b:=(w.heap.size)) (j:=0) z7 (.slice (some ⟨w5.heap.size,0,none⟩) 2 2)) (.slice none 0 0))) (.cells #[.int .i64 0,.int .i64 1] 3)) (.cells #[.int .i64 1,.int .i64 1,.int .i64 0,.int .i64 0,.slice none 0 0,.int .i64 2,.int .i64 0,.slice none 0 0,.int .i64 0,.slice none 0 0,.slice none 0 0] 163))
    have tt:=True.intro
    go_wp2
    exact bodyPost_ret (v:=.agg #[.slice (some ⟨w5.heap.size,0,none⟩) 2 2,.slice none 0 0,.slice (some ⟨w5.heap.size+1,0,none⟩) 1 1]) (by simp [results,Try.results107,go_sem,hB,iB,jB]) rfl (by exact ⟨some ⟨w5.heap.size,0,none⟩,none,some ⟨w5.heap.size+1,0,none⟩,2,0,1,[0,1],[],_,_,rfl,l4.out,World.ownsRow_nil _ _ _ _,(fun q _ h2=>by simp [Value.ownBlock] at h2),by simp,by simp,by simp,bl_one m4.out (fun q hq=>hq),by simp,small_one,tR,by omega,tC⟩)
end Go.Proofs.Ytkjedgnepnbkpaa
