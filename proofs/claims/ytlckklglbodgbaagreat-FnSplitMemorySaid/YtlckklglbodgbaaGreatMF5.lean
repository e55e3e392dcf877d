/-
 Parts of the proofs of the laws FnPairMemory,FnSplitMemory.
-/
import Derived.Test.YtlckklglbodgbaaGreatZM
set_option linter.all false
namespace Go.Proofs.YtlckklglbodgbaaGreat
open Go.RowKit
structure DrP (w:World) (base:Nat) (D:Nat) (va vb vu:Value) (zs us:List Int) (L:List St):Prop where
 r:ReadsP w (fun q=>base≤q) D va vb vu zs us L
 a:Abv base va
 b:Abv base vb
 n:zs.length≤13∧us.length≤2∧stNs L≤1048576
section
variable {w w':World} {base base':Nat} {D:Nat} {va vb vu:Value} {zs us:List Int} {L:List St}
theorem DrP.keep (h:DrP w base D va vb vu zs us L) {S:Nat→Prop} (hc:Chg S w w') (hs:∀ q,base≤q→¬S q):DrP w' base D va vb vu zs us L:=
 ⟨⟨h.r.a.keep hc (fun b o c _ hv=>hs b (h.a _ _ _ _ hv)),h.r.b.keep hc (fun b o c _ hv=>hs b (h.b _ _ _ _ hv)),h.r.t.keep hc (fun q hq _=>hs q hq) (fun q hq _=>hq) Lr⟩,h.a,h.b,h.n⟩
theorem DrP.below (h:DrP w base D va vb vu zs us L) (hb:Below w.heap.size w w'):DrP w' base D va vb vu zs us L:=⟨h.r.below hb,h.a,h.b,h.n⟩
theorem DrP.mono (h:DrP w base D va vb vu zs us L) (hb:base'≤base):DrP w base' D va vb vu zs us L:=⟨⟨h.r.a,h.r.b,blAt_mono h.r.t (fun q hq _=>Nat.le_trans hb hq)⟩,h.a.mono hb,h.b.mono hb,h.n⟩
end
end Go.Proofs.YtlckklglbodgbaaGreat
namespace Go.Proofs.YtlckklglbodgbaaGreat
open Go.RowKit
set_option maxHeartbeats 6400000 in
set_option maxRecDepth 100000 in
theorem l3Memory_any (pv pa:Option Addr) (nv cv na ca:Nat) (vb:Value) (B g p:Nat) (w:World) (hR:Rnd w B g p) (hp:p+5000≤1000000000) (hnv:nv≤1000) (hna:na≤1000) :
  Calls Tryz.prog 24 #[.pointer (some ⟨g,0,none⟩),.agg #[.slice pv nv cv,.slice pa na ca,vb]] w fun r w'=>∃ (vx vy:Value) (us:List Value) (m:Mm) (p':Nat),r=.returned (.agg #[vx,vy])∧OwnM w' w.heap.size vx vy us m∧m.vals.length=nv∧m.arrs.length=na∧(∀ r ∈ m.arrs,r.length=4)∧Rnd w' B g p'∧p'≤p+5000∧Chg (fun q=>q=g) w w':=by
 have hg:=hR.lt;have hC:Chg (fun k=>k=g) w w:=Chg.refl _ _;have k1:∀ q,(fun k=>k=g) q→q=g:=fun q h=>h
 go_enter Tryz.func24,Tryz.ntmps24
 go_upto_region 2 with (fail)
 generalize hnw:World.alloc _ _=w1;have hb:=nmh hnw;clear hnw
 replace hC:=((((hC.trans (Cb (bal (Bs _) _))).trans (Cb (bal (Bs _) _))).trans (Cb (bal (Bs _) _)))).trans (Cb hb);replace hR:=(((hR.below (bal (Bs _) _)).below (bal (Bs _) _)).below (bal (Bs _) _)).below hb;have e2:=hb.size;simp only [Sa] at e2;have s1:=Bb (Bk.al (Bk.al (Bk.n3 (w.heap.size)) (.cells #[.slice none 0 0,.slice none 0 0] 29)) (.cells #[.slice none 0 0,.slice none 0 0] 29)) hb;have t1:=Bb (Bk.al (Bk.n2 (w.heap.size+1)) (.cells #[.slice none 0 0,.slice none 0 0] 29)) hb;have v1:=Bb (Bk.n2 (w.heap.size+1+1)) hb;clear hb;have k5:=Bk.lz s1;have l5:=Bk.lz t1;have m5:=Bk.lz v1;have b3:Hid (∃ (k pk:Nat) (xs:List Int) (a:Option Addr) (c:Nat),Value.int .i64 0=.int .i64 k∧k≤nv∧Hid (xs.length=k)∧w1.ownsRow w1.heap.size 3 1 (.slice a k c) k (ints xs)∧Bk w1 (w.heap.size+1+1) [.slice a k c,.slice none 0 0]∧Bk w1 (w.heap.size) [.slice pv nv cv,.slice pa na ca,vb]∧Bk w1 (w.heap.size+1) [.slice none 0 0,.slice none 0 0]∧Rnd w1 B g pk∧pk≤p+k∧Chg (fun q=>q=g) w w1∧w1.heap.size≤w1.heap.size):=Hi ⟨0,p,[],none,0,rfl,by omega,Hi rfl,World.ownsRow_nil _ _ _ _,v1,s1,t1,hR,by omega,hC,Lr⟩;have x3:w.heap.size≤w.heap.size∧w.heap.size < w1.heap.size∧w.heap.size+1 < w1.heap.size∧w.heap.size+1+1 < w1.heap.size∧g < w.heap.size:=by omega
 clear hR hC s1 t1 v1;go_wp2_with fail
 go_loopw [6] (fun i wr=>∃ (k pk:Nat) (xs:List Int) (a:Option Addr) (c:Nat),i=.int .i64 k∧k≤nv∧Hid (xs.length=k)∧wr.ownsRow w1.heap.size 3 1 (.slice a k c) k (ints xs)∧Bk wr (w.heap.size+1+1) [.slice a k c,.slice none 0 0]∧Bk wr (w.heap.size) [.slice pv nv cv,.slice pa na ca,vb]∧Bk wr (w.heap.size+1) [.slice none 0 0,.slice none 0 0]∧Rnd wr B g pk∧pk≤p+k∧Chg (fun q=>q=g) w wr∧w1.heap.size≤wr.heap.size) (fun i _=>nv-(intOf i).toNat)
 case atStart=>exact b3.out
 case round =>
  obtain ⟨k,pk,xs,a,c,rfl,hk,z0,oX,a0,b0,c0,hR,i5,hC,j5⟩:=hrel;clear b3;obtain ⟨wl,rfl⟩:∃ X,X=wr:=⟨_,rfl⟩;have iX:=oX.lt;have n5:=Bk.lz a0;have o5:=Bk.lz b0;have c4:=Bk.lz c0;by_cases hlt:k < nv
  ·have x0:(k:Int) < (nv:Int):=by omega
   obtain ⟨j2,q2⟩:=Bk.cf b0 0 rfl;go_upto_region 5 with (fail)
   clear q2 j2;refine Rgl (S:=fun W'=>W'.cell? ⟨w.heap.size+1+1,0,none⟩=some (.slice a k c)) 7 (fun W d=>(Bk.kc a0 d 0)) (fun w2 j0 hHeld=>?_);replace hC:=(hC).trans (Cb j0);replace hR:=hR.below j0;have i3:=j0.size;replace oX:=Ob oX j0;refine (Lq1 0 18 rfl rfl ?_ ?_ (Lq1 1 19 rfl rfl ?_ ?_ (Lq1 2 20 rfl rfl ?_ ?_ ?_)));iterate 3 (rotate_left;intro W' hSw;(try dsimp only at hSw);go_simp;try with_reducible rfl)
   try simp only [Ep]
   refine Lrdy 3 rfl (fun K hK=>?_);replace a0:=Bb a0 j0;obtain ⟨k2,r2⟩:=Bk.cf a0 0 rfl;go_simp
   refine (l3Value_any B g (pk) _ hR (by omega)).mono ?_;rintro e w3 ⟨z1,rfl,y3,b1,l0⟩;replace hC:=(hC).trans l0;replace hR:=b1;clear b1;have j3:=l0.size;clear r2 k2;replace oX:=Ow oX l0 (fun gq h h2=>by have:=iX gq h;have:=k1 gq h2;omega);replace a0:=Bk.kg a0 l0;refine hK.out _ _ (Bk.ce a0 0) (fun hHeld=>?_);clear hK K;try simp only [Ep]
   refine Lrdy 4 rfl (fun K hK=>?_);go_simp
   generalize hnw:World.alloc _ _=w4;have d0:=nmh hnw;clear hnw
   replace hC:=((hC.trans (Cb (bal (Bs _) _)))).trans (Cb d0);replace hR:=(hR.below (bal (Bs _) _)).below d0;have k0:=Ob (World.ownsRow_lit (base:=(w3).heap.size) (e:=3) (size:=1) (w3) #[.int .i64 z1] 1 Lr (by unfold maxLen;omega) (by simp)) d0;try simp only [Sa,Ss] at k0
   have c1:=d0.size;simp only [Sa] at c1;replace oX:=Ob (Ob oX (bal (Bs _) _)) d0;have i0:w4.cell? ⟨w3.heap.size,0,none⟩=some (.int .i64 z1):=Kc d0 (Wc (by simp) (by rfl));have n0:w4.frozen? ⟨w3.heap.size,0,none⟩=false:=Kf d0 (by simp <;> omega) (Fn (by simp));have t0:=k0.lt;try simp only [Sa] at t0
   have d4:=Lc i0;replace a0:=Bb (Bk.al a0 _) d0;refine hK.out _ _ (Bk.ce a0 0) (fun hHeld=>?_);clear hK K;try simp only [Ep]
   refine Lrdy 5 rfl (fun K hK=>?_);refine step_aps tInts rfl _ _ rfl (w1.heap.size) _ k (ints xs) rfl oX _ 1 (ints [z1]) rfl ((Ro k0 (by simp))) (one_ints [z1]) (by omega) (by first | omega | (simp only [Sa,Ss];omega)) ?_;intro vA w5 m0 hc a1 _;obtain ⟨q0,r0,rfl⟩:=Oh m0;replace hC:=chg_app hC hc (fun q hq h=>by have:=iX q h;omega);replace hR:=hR.keep hc (fun h=>by have:=iX _ h;omega) (fun k hk h=>by have:=iX _ h;omega);have k3:=hc.size;replace n0:=Gf hc (Lc i0) n0 (fun h=>by have:=iX _ h;omega);replace i0:=Gc hc i0 (fun h=>by have:=iX _ h;omega);replace k0:=Ow k0 hc (fun gq h h2=>by have:=t0 gq h;have:=iX gq h2;omega);replace a0:=Bk.keep a0 hc (fun h=>by have:=iX _ h;omega);replace b0:=Bb (Bk.al (Bk.kg (Bb b0 j0) l0) _) d0;replace b0:=Bk.keep b0 hc (fun h=>by have:=iX _ h;omega);replace c0:=Bb (Bk.al (Bk.kg (Bb c0 j0) l0) _) d0;replace c0:=Bk.keep c0 hc (fun h=>by have:=iX _ h;omega);clear hc;have f2:=m0.lt;clear a1 oX;refine hK.out _ _ (Bk.ce a0 0) (fun hHeld=>?_);clear hK K;try simp only [Ep]
   refine (Lq1 6 24 rfl rfl ?_ ?_ ?_);(rotate_left;intro W' hSw;(try dsimp only at hSw);go_simp;try with_reducible rfl)
   try simp only [Ep]
   refine Lend 7 rfl (fun K hK=>?_);obtain ⟨l2,s2⟩:=Bk.cf a0 0 rfl;go_simp
   generalize hnw:World.setCell _ _ _=w6;have e0:=nmh hnw;clear hnw
   replace hC:=((hC.sN _ _ _)).trans (Cb e0);replace hR:=(hR.kC _ _ _).below e0;have d1:=e0.size;simp only [Ss] at d1;clear s2 l2;replace n0:=Kf e0 (Lc (Nn i0 _)) (Fs n0 _);replace i0:=Kc e0 (Nn i0 _);replace k0:=Ob (Oe k0 _ _ (fun h=>by have:=t0 _ h;omega) _) e0;replace m0:=Ob (Oe m0 _ _ (fun h=>by have:=f2 _ h;omega) _) e0;refine hK.out _ _ trivial (fun hHeld=>?_);clear hK K;try simp only [Ep]
   refine Dn ?_;clear hHeld;have HO:=Hi (show w6.ownsRow w1.heap.size 3 1 _ (k+1) (ints (xs++[z1])) from by rw [ints_append];exact m0);have p1:Hid ((xs++([z1]:List Int)).length=k+1):=Hi (by rw [List.length_append,z0.out];rfl);have HH:=Hi (Ai hR hC);clear hR hC m0;replace a0:Bk w6 (w.heap.size+1+1) [.slice q0 (k+1) r0,.slice none 0 0]:=Bb (Bk.at a0 0 (.slice q0 (k+1) r0)) e0;obtain ⟨o4,x4⟩:=Bk.cf a0 0 rfl;go_wp2
   go_roundw
   case rel=>exact ⟨k+1,pk+1,xs++[z1],_,_,by go_num,by omega,p1,HO.out,a0,(Bb (Bk.nn (b':=(w.heap.size+1+1)) (j':=0) b0 (.slice q0 (k+1) r0)) e0),(Bb (Bk.nn (b':=(w.heap.size+1+1)) (j':=0) c0 (.slice q0 (k+1) r0)) e0),HH.out.1,by omega,HH.out.2,by omega⟩
   case measure=>simp [intOf];omega
  have x0:decide ((k:Int) < (nv:Int))=false:=decide_eq_false (by omega);have d2:¬(k:Int) < (nv:Int):=by omega
  obtain ⟨m2,t2⟩:=Bk.cf b0 0 rfl;go_upto_region 6 with (fail)
  have t3:k=nv:=by omega
  clear x0 d2 hlt;subst t3;have d3:Hid (∃ (j pj:Nat) (us:List Value) (L:List (List Int)) (a2:Option Addr) (c2:Nat),Value.int .i64 0=.int .i64 j∧j≤na∧Hid (L.length=j)∧Hid (∀ r ∈ L,r.length=4)∧Own2I wl wl.heap.size (.slice a2 j c2) us L∧Bk wl (w.heap.size+1+1) [.slice a k c,.slice a2 j c2]∧Bk wl (w.heap.size) [.slice pv k cv,.slice pa na ca,vb]∧Bk wl (w.heap.size+1) [.slice none 0 0,.slice none 0 0]∧wl.ownsRow w1.heap.size 3 1 (.slice a k c) k (ints xs)∧Rnd wl B g pj∧pj≤pk+4*j∧Chg (fun q=>q=g) w wl∧wl.heap.size≤wl.heap.size):=Hi ⟨0,pk,[],[],none,0,rfl,by omega,Hi rfl,Hi (fun r hr=>by cases hr),⟨rfl,World.ownsRow_nil _ _ _ _,fun k u r hu=>by simp at hu,fun j k u u' hu=>by simp at hu⟩,a0,b0,c0,oX,hR,by omega,hC,Lr⟩;have s0:∀ q,(Value.slice a k c).ownBlock=some q→w1.heap.size≤q∧q < wl.heap.size:=fun q h=>by have:=iX q h;omega
  have m3:w1.heap.size≤wl.heap.size:=by omega
  clear hR hC iX a0 b0 c0 oX m2 t2;go_wp2_with fail
  go_loopw [7] (fun i wr=>∃ (j pj:Nat) (us:List Value) (L:List (List Int)) (a2:Option Addr) (c2:Nat),i=.int .i64 j∧j≤na∧Hid (L.length=j)∧Hid (∀ r ∈ L,r.length=4)∧Own2I wr wl.heap.size (.slice a2 j c2) us L∧Bk wr (w.heap.size+1+1) [.slice a k c,.slice a2 j c2]∧Bk wr (w.heap.size) [.slice pv k cv,.slice pa na ca,vb]∧Bk wr (w.heap.size+1) [.slice none 0 0,.slice none 0 0]∧wr.ownsRow w1.heap.size 3 1 (.slice a k c) k (ints xs)∧Rnd wr B g pj∧pj≤pk+4*j∧Chg (fun q=>q=g) w wr∧wl.heap.size≤wr.heap.size) (fun i _=>na-(intOf i).toNat)
  case atStart=>exact d3.out
  case round =>
   obtain ⟨j,pj,us,L,a2,c2,rfl,hj,y0,i1,hY,a0,b0,c0,oX,hR,h5,hC,z3⟩:=hrel;clear d3;obtain ⟨wm,rfl⟩:∃ X,X=wr:=⟨_,rfl⟩;have iY:=hY.lt;have e4:=Bk.lz a0;have f4:=Bk.lz b0;have g4:=Bk.lz c0;by_cases hlt2:j < na
   ·have x0:(j:Int) < (na:Int):=by omega
    obtain ⟨o2,v2⟩:=Bk.cf b0 1 rfl;go_upto_region 10 with (fail)
    generalize hnw:World.alloc _ _=w2;have f0:=nmh hnw;clear hnw
    replace hC:=((hC.trans (Cb (bal (Bs _) _)))).trans (Cb f0);replace hR:=(hR.below (bal (Bs _) _)).below f0;have p0:=Ob (World.ownsRow_lit (base:=(wm).heap.size) (e:=3) (size:=1) (wm) #[] 0 Lr (by unfold maxLen;omega) (by simp)) f0;try simp only [Sa,Ss] at p0
    have e1:=f0.size;simp only [Sa] at e1;clear v2 o2;replace oX:=Ob (Ob oX (bal (Bs _) _)) f0;replace hY:=(hY.below (bal (Bs _) _)).below f0;have g2:=p0.lt;try simp only [Sa] at g2
    have j1:∀ q,OwnB2 (.slice a2 j c2) us q→wl.heap.size≤q∧q < wm.heap.size:=fun q h=>by have:=iY q h;omega
    have o3:wl.heap.size≤wm.heap.size∧wm.heap.size≤w2.heap.size:=by omega
    replace a0:=Bb (Bk.al a0 _) f0;replace b0:=Bb (Bk.al b0 _) f0;replace c0:=Bb (Bk.al c0 _) f0;have e3:Hid (∃ (e pe:Nat) (ys:List Int) (a3:Option Addr) (c3:Nat),Value.slice (some ⟨wm.heap.size,0,none⟩) 0 0=.slice a3 e c3∧Value.int .i64 0=.int .i64 e∧e≤4∧Hid (ys.length=e)∧w2.ownsRow wm.heap.size 3 1 (.slice a3 e c3) e (ints ys)∧Own2I w2 wl.heap.size (.slice a2 j c2) us L∧Bk w2 (w.heap.size+1+1) [.slice a k c,.slice a2 j c2]∧Bk w2 (w.heap.size) [.slice pv k cv,.slice pa na ca,vb]∧Bk w2 (w.heap.size+1) [.slice none 0 0,.slice none 0 0]∧w2.ownsRow w1.heap.size 3 1 (.slice a k c) k (ints xs)∧Rnd w2 B g pe∧pe≤pj+e∧Chg (fun q=>q=g) w w2∧w2.heap.size≤w2.heap.size):=Hi ⟨0,pj,[],_,_,rfl,rfl,by omega,Hi rfl,p0,hY,a0,b0,c0,oX,hR,by omega,hC,Lr⟩;clear hR hC iY a0 b0 c0 oX hY p0;go_wp2_with fail
    go_loopw [8,9] (fun v i wr=>∃ (e pe:Nat) (ys:List Int) (a3:Option Addr) (c3:Nat),v=.slice a3 e c3∧i=.int .i64 e∧e≤4∧Hid (ys.length=e)∧wr.ownsRow wm.heap.size 3 1 (.slice a3 e c3) e (ints ys)∧Own2I wr wl.heap.size (.slice a2 j c2) us L∧Bk wr (w.heap.size+1+1) [.slice a k c,.slice a2 j c2]∧Bk wr (w.heap.size) [.slice pv k cv,.slice pa na ca,vb]∧Bk wr (w.heap.size+1) [.slice none 0 0,.slice none 0 0]∧wr.ownsRow w1.heap.size 3 1 (.slice a k c) k (ints xs)∧Rnd wr B g pe∧pe≤pj+e∧Chg (fun q=>q=g) w wr∧w2.heap.size≤wr.heap.size) (fun _ i _=>4-(intOf i).toNat)
    case atStart=>exact e3.out
    case round =>
     obtain ⟨e,pe,ys,a3,c3,rfl,rfl,he,q1,oR,hY,a0,b0,c0,oX,hR,g5,hC,a4⟩:=hrel;clear e3;obtain ⟨wn,rfl⟩:∃ X,X=wr:=⟨_,rfl⟩;have iR:=oR.lt;have h4:=Bk.lz a0;have i4:=Bk.lz b0;have j4:=Bk.lz c0;by_cases hlt3:e < 4
     ·have h3:(e:Int) < 4:=by omega
      go_wp2_with fail
      refine (l3Value_any B g (pe) _ hR (by omega)).mono ?_;rintro e w3 ⟨z1,rfl,y3,b1,h0⟩;replace hC:=(hC).trans h0;replace hR:=b1;clear b1;have l3:=h0.size;replace oX:=Ow oX h0 (fun gq h h2=>by have:=s0 gq h;have:=k1 gq h2;omega);replace hY:=hY.keep h0 (fun gq h h2=>by have:=j1 gq h;have:=k1 gq h2;omega);replace oR:=Ow oR h0 (fun gq h h2=>by have:=iR gq h;have:=k1 gq h2;omega);go_wp2_with (at_builtin;refine wpList_aps tInts rfl _ _ rfl (wm.heap.size) _ e (ints ys) rfl (Ob oR (bal (Bs _) (.cells #[.int .i64 z1] 3))) _ 1 (ints [z1]) rfl ((Ro (World.ownsRow_lit (base:=(w3).heap.size) (e:=3) (size:=1) (w3) #[.int .i64 z1] 1 Lr (by unfold maxLen;omega) (by simp)) (by simp))) (one_ints [z1]) (by omega) (by first | omega | (simp only [Sa,Ss];omega)) ?_)
      intro vA w4 o0 hc a1 _;obtain ⟨m4,n4,rfl⟩:=Oh o0;replace hC:=chg_app (hC.trans (Cb (bal (Bs _) _))) hc (fun q hq h=>by have:=iR q h;omega);replace hR:=(hR.below (bal (Bs _) _)).keep hc (fun h=>by have:=iR _ h;omega) (fun k hk h=>by have:=iR _ h;omega);have f1:=hc.size;simp only [Sa] at f1;replace oX:=Ow (Ob oX (bal (Bs _) _)) hc (fun gq h h2=>by have:=s0 gq h;have:=iR gq h2;omega);replace hY:=(hY.below (bal (Bs _) _)).keep hc (fun gq h h2=>by have:=j1 gq h;have:=iR gq h2;omega);replace a0:=Bk.kg a0 h0;replace a0:=Bk.keep (Bk.al a0 _) hc (fun h=>by have:=iR _ h;omega);replace b0:=Bk.kg b0 h0;replace b0:=Bk.keep (Bk.al b0 _) hc (fun h=>by have:=iR _ h;omega);replace c0:=Bk.kg c0 h0;replace c0:=Bk.keep (Bk.al c0 _) hc (fun h=>by have:=iR _ h;omega);have x1:w4.cell? ⟨w3.heap.size,0,none⟩=some (.int .i64 z1):=Gc hc (Wc (by simp) (by rfl)) (fun h=>by have:=iR _ h;omega);have p3:w4.frozen? ⟨w3.heap.size,0,none⟩=false:=Gf hc (by simp <;> omega) (Fn (by simp)) (fun h=>by have:=iR _ h;omega);clear hc;have i2:=o0.lt;try simp only [Sa] at i2
      clear a1 oR;have k4:=Lc x1;have HO:=Hi (show w4.ownsRow wm.heap.size 3 1 _ (e+1) (ints (ys++[z1])) from by rw [ints_append];exact o0);have r1:Hid ((ys++([z1]:List Int)).length=e+1):=Hi (by rw [List.length_append,q1.out];rfl);have HH:=Hi (Ai hR (Ai hC hY));clear hR hC hY o0;go_wp2
      go_roundw
      case rel=>exact ⟨e+1,pe+1,ys++[z1],_,_,rfl,by go_num,by omega,r1,HO.out,HH.out.2.2,a0,b0,c0,oX,HH.out.1,by omega,HH.out.2.1,by omega⟩
      case measure=>simp [intOf];omega
     have h3:decide ((e:Int) < 4)=false:=decide_eq_false (by omega);have v3:¬(e:Int) < 4:=by omega
     go_upto_region 14 with (fail)
     have r3:e=4:=by omega
     clear h3 v3 hlt3 x0;subst r3;have h1:=(hY.below (bal (Bs _) (.cells #[.slice a3 4 c3] 23))).outAt;have g0:=fun q (h:(Value.slice a2 j c2).ownBlock=some q)=>j1 q (Or.inl h)
     have g3:=(hY.below (bal (Bs _) (.cells #[.slice a3 4 c3] 23)));have f3:=(Ob oR (bal (Bs _) (.cells #[.slice a3 4 c3] 23)));obtain ⟨p2,y2⟩:=Bk.cf a0 1 rfl;go_wp2_with (at_builtin;refine wpList_aps tIntSS rfl _ _ rfl (wl.heap.size) _ j (us) rfl h1 _ 1 [.slice a3 4 c3] rfl (Ro (World.ownsRow_lit (base:=(wn).heap.size) (e:=23) (size:=1) (wn) #[.slice a3 4 c3] 1 Lr (by unfold maxLen;omega) (by simp)) (by simp)) (fun u hu=>by rw [List.mem_singleton.1 hu];rfl) (by omega) (by first | omega | (simp only [Sa,Ss];omega)) ?_)
     intro vA w3 oA hc a1 _;obtain ⟨pA,tA,rfl⟩:=Oh oA;have b2:=Own2.push (r:=ys) g3 (own_cast oA (by rw [y0.out])) hc (own_cast (Om f3 (by omega)) q1.out.symm) (fun q h h2=>by have:=iR q h;have:=j1 q h2;omega) (by decide);have m1:Hid (∀ r ∈ L++[ys],r.length=4):=Hi (fun r hr=>by rcases List.mem_append.1 hr with h | h;(exact i1.out r h);(rw [List.mem_singleton.1 h];exact q1.out));have n1:Hid ((L++[ys]).length=j+1):=Hi (by rw [List.length_append,y0.out];rfl);have b4:=b2.lt;replace hC:=chg_app (hC.trans (Cb (bal (Bs _) _))) hc (fun q hq h=>by have:=g0 q h;omega);replace hR:=(hR.below (bal (Bs _) _)).keep hc (fun h=>by have:=g0 _ h;omega) (fun k hk h=>by have:=g0 _ h;omega);have g1:=hc.size;simp only [Sa] at g1;clear y2 p2;replace oX:=Ow (Ob oX (bal (Bs _) _)) hc (fun gq h h2=>by have:=s0 gq h;have:=g0 gq h2;omega);replace a0:=Bk.keep (Bk.al a0 _) hc (fun h=>by have:=g0 _ h;omega);replace b0:=Bk.keep (Bk.al b0 _) hc (fun h=>by have:=g0 _ h;omega);replace c0:=Bk.keep (Bk.al c0 _) hc (fun h=>by have:=g0 _ h;omega);have y1:w3.cell? ⟨wn.heap.size,0,none⟩=some (.slice a3 4 c3):=Gc hc (Wc (by simp) (by rfl)) (fun h=>by have:=g0 _ h;omega);have q3:w3.frozen? ⟨wn.heap.size,0,none⟩=false:=Gf hc (by simp <;> omega) (Fn (by simp)) (fun h=>by have:=g0 _ h;omega);clear hc;clear a1 h1 oA g3 f3;have l4:=Lc y1;obtain ⟨p4,y4⟩:=Bk.cf a0 1 rfl;have HY:=Hi (b2.keep (C1 (w.heap.size+1+1) 1 (.slice pA (j+1) tA)) (fun gq h h2=>by have:=b4 gq h;omega));have HX:=Hi (Oe oX (w.heap.size+1+1) 1 (fun h=>by have:=s0 _ h;omega) (.slice pA (j+1) tA));have l1:=Hi (Ai (Bk.at a0 1 (.slice pA (j+1) tA)) (Ai (Bk.nn (b':=(w.heap.size+1+1)) (j':=1) b0 (.slice pA (j+1) tA)) (Bk.nn (b':=(w.heap.size+1+1)) (j':=1) c0 (.slice pA (j+1) tA))));have HH:=Hi (Ai (hR.kC (w.heap.size+1+1) (1) (.slice pA (j+1) tA)) (hC.sN (w.heap.size+1+1) (1) (.slice pA (j+1) tA)));clear hR hC b2 oX;go_wp2
     go_roundw
     case rel=>exact ⟨j+1,pe,_,L++[ys],_,_,by go_num,by omega,n1,m1,HY.out,l1.out.1,l1.out.2.1,l1.out.2.2,HX.out,HH.out.1,by omega,HH.out.2,by simp only [Ss];omega⟩
     case measure=>simp [intOf];omega
   have x0:decide ((j:Int) < (na:Int))=false:=decide_eq_false (by omega);have d2:¬(j:Int) < (na:Int):=by omega
   obtain ⟨q4,z4⟩:=Bk.cf b0 1 rfl;go_upto_region 15 with (fail)
   have s3:j=na:=by omega
   clear x0 d2 hlt2;subst s3;have o1:Hid (OwnM _ w.heap.size (.slice a k c) (.slice a2 j c2) us ⟨xs,L⟩):=Hi ⟨own_cast (Om (Oe (Oe oX (w.heap.size+1) 0 (fun h=>by have:=s0 _ h;omega) (.slice a k c)) (w.heap.size+1) 1 (fun h=>by have:=s0 _ h;omega) (.slice a2 j c2)) (by omega)) z0.out.symm,Own2.mono ((hY.keep (C1 (w.heap.size+1) 0 (.slice a k c)) (fun gq h h2=>by have:=iY gq h;omega)).keep (C1 (w.heap.size+1) 1 (.slice a2 j c2)) (fun gq h h2=>by have:=iY gq h;omega)) (by omega),fun q h h2=>by have:=s0 q h;have:=iY q h2;omega⟩;clear oX hY;obtain ⟨r4,a5,s4,b5⟩:=Bk.h2 a0;obtain ⟨t4,c5,v4,d5⟩:=Bk.h2 c0;obtain ⟨z2,e5,f5⟩:=Bk.x2 c0 (.slice a k c) (.slice a2 j c2);have v0:=Hi z2;clear z2;have w0:=Hi (Ai hC hR);clear hC hR;go_wp2
   exact bodyPost_ret (v:=.agg #[.slice a k c,.slice a2 j c2]) (by simp [results,Tryz.results24,go_sem,e5,f5]) rfl (by exact (by first | exact ⟨_,_,us,⟨xs,L⟩,pj,rfl,o1.out,z0.out,y0.out,i1.out,w0.out.2.keep v0.out (fun h=>by omega) (fun k hk h=>by omega),by omega,chg_app w0.out.1 v0.out (fun q hq h=>by omega)⟩ | exact ⟨_,_,rfl,us,⟨xs,L⟩,o1.out,z0.out,y0.out,i1.out,pj,w0.out.2.keep v0.out (fun h=>by omega) (fun k hk h=>by omega),by omega,chg_app w0.out.1 v0.out (fun q hq h=>by omega)⟩ | exact ⟨⟨_,_,rfl⟩,us,⟨xs,L⟩,o1.out,z0.out,y0.out,i1.out,pj,w0.out.2.keep v0.out (fun h=>by omega) (fun k hk h=>by omega),by omega,chg_app w0.out.1 v0.out (fun q hq h=>by omega)⟩))
end Go.Proofs.YtlckklglbodgbaaGreat
