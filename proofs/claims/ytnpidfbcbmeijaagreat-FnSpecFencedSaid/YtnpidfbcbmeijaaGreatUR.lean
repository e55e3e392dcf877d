/-
 Parts of the proofs of the laws FnRemoveDead,FnRemoveDeadLeak,FnSpecFenced,FnSpecMemory.
-/
import Derived.Test.YtnpidfbcbmeijaaGreatZA
import Derived.Test.YtnpidfbcbmeijaaGreatZE
import Derived.Test.YtnpidfbcbmeijaaGreatZB
set_option maxHeartbeats 12800000
set_option maxRecDepth 100000
set_option linter.all false
namespace Go.Proofs.YtnpidfbcbmeijaaGreat
open Go.RowKit
def WrongP (B g p:Nat) (w:World) (r:Ending) (w':World):Prop:=∃ (a:Option Addr) (n c:Nat) (ws:List Bool) (p':Nat),r=.returned (.slice a n c)∧Hid (ws.length=n)∧n≤8∧w'.ownsRow w.heap.size 4 1 (.slice a n c) n (bools ws)∧Rnd w' B g p'∧p'≤p+20∧Chg (fun q=>q=g) w w'
theorem l11Wrong_any (B g p:Nat) (w:World) (hR:Rnd w B g p) (hp:p+20≤1000000000) :
  Calls Tryz.prog 28 #[.pointer (some ⟨g,0,none⟩)] w fun r w'=>WrongP B g p w r w':=by
 have hg:=hR.lt;have hC:Chg (fun k=>k=g) w w:=Chg.refl _ _;have m0:∀ q,(fun k=>k=g) q→q=g:=fun q h=>h
 go_enter Tryz.func28,Tryz.ntmps28
 go_wp2_with fail
 have f0:=num_any _ [3,5,2,1,0,8] _ B g (p) ((hR.below (bal (Bs _) (.cells #[] 4))).below (bal (Bs _) (.cells #[.int .i64 3,.int .i64 5,.int .i64 2,.int .i64 1,.int .i64 0,.int .i64 8] 3))) (Ro (World.ownsRow_lit (base:=((World.alloc w (.cells #[] 4))).heap.size) (e:=3) (size:=1) ((World.alloc w (.cells #[] 4))) #[.int .i64 3,.int .i64 5,.int .i64 2,.int .i64 1,.int .i64 0,.int .i64 8] 6 Lr (by unfold maxLen;omega) (by simp)) (by simp)) (fun b o c hb=>by simp at hb;omega) (by simp) (by simp) (by omega);simp only [Sa] at f0;refine (f0).mono ?_;rintro e w1 ⟨n0,n0m,rfl,a0,hc⟩;clear f0;replace hC:=(((hC.trans (Cb (bal (Bs _) _))).trans (Cb (bal (Bs _) _)))).trans hc;replace hR:=a0;clear a0;have d0:=Ow (Ob (World.ownsRow_lit (base:=(w).heap.size) (e:=4) (size:=1) (w) #[] 0 Lr (by unfold maxLen;omega) (by simp)) (bal (Bs _) (.cells #[.int .i64 3,.int .i64 5,.int .i64 2,.int .i64 1,.int .i64 0,.int .i64 8] 3))) hc (fun gq h h2=>by have e1:=Si h;simp only [Sa,Ss] at e1;have:=m0 gq h2;omega);try simp only [Sa,Ss] at d0
 have g0:=hc.size;simp only [Sa] at g0;have l0:Bk w1 (w.heap.size+1) [.int .i64 3,.int .i64 5,.int .i64 2,.int .i64 1,.int .i64 0,.int .i64 8]:=Bk.kg (Bk.nw (by simp) rfl) hc;clear hc;have w0:=d0.lt;try simp only [Sa] at w0
 have c1:=Bk.lz l0;obtain ⟨t0,rfl,a1⟩:∃ t:Nat,n0=t∧t≤8:=by simp only [List.mem_cons,List.not_mem_nil,or_false] at n0m;exact ⟨n0.toNat,by omega,by omega⟩
 clear n0m;have j0:Hid (∃ (k m:Nat) (xs:List Bool) (a:Option Addr) (c pk:Nat),Value.slice (some ⟨w.heap.size,0,none⟩) 0 0=.slice a m c∧Value.int .i64 (t0:Nat)=.int .i64 k∧m+k≤8∧Hid (xs.length=m)∧w1.ownsRow w.heap.size 4 1 (.slice a m c) m (bools xs)∧Rnd w1 B g pk∧pk+k≤p+12∧Chg (fun q=>q=g) w w1∧w1.heap.size≤w1.heap.size):=Hi ⟨t0,0,[],_,_,p+1,rfl,rfl,by omega,Hi rfl,Om d0 (by omega),hR,by omega,hC,Lr⟩;clear hR hC l0 d0;go_wp2_with fail
 go_loopw [3,4] (fun x i wr=>∃ (k m:Nat) (xs:List Bool) (a:Option Addr) (c pk:Nat),x=.slice a m c∧i=.int .i64 k∧m+k≤8∧Hid (xs.length=m)∧wr.ownsRow w.heap.size 4 1 (.slice a m c) m (bools xs)∧Rnd wr B g pk∧pk+k≤p+12∧Chg (fun q=>q=g) w wr∧w1.heap.size≤wr.heap.size) (fun _ i _=>(intOf i).toNat)
 case atStart=>exact j0.out
 case round =>
  obtain ⟨k,m,xs,a,c,pk,rfl,rfl,x0,k0,oX,hR,y0,hC,b1⟩:=hrel;clear j0;obtain ⟨wl,rfl⟩:∃ X,X=wr:=⟨_,rfl⟩;have iX:=oX.lt;by_cases hk0:0 < k
  ·have s0:(0:Int) < (k:Int):=by omega
   go_wp2_with fail
   refine (pick_any _ _ B g (pk) hR (by omega) (by omega) (by omega)).mono ?_;rintro e w2 ⟨z,z0,z1,rfl,a0,hc⟩;replace hC:=(hC).trans hc;replace hR:=a0;clear a0;have v0:=hc.size;replace oX:=Ow oX hc (fun gq h h2=>by have:=iX gq h;have:=m0 gq h2;omega);clear hc;go_wp2_with (at_builtin;refine wpList_aps tBools rfl _ _ rfl (w.heap.size) _ m (bools xs) rfl (Ob oX (bal (Bs _) (.cells #[.bool (z == 0)] 4))) _ 1 (bools [(z == 0)]) rfl ((Ro (World.ownsRow_lit (base:=(w2).heap.size) (e:=4) (size:=1) (w2) #[.bool (z == 0)] 1 Lr (by unfold maxLen;omega) (by simp)) (by simp))) (one_bools [(z == 0)]) (by omega) (by first | omega | (simp only [Sa,Ss];omega)) ?_)
   intro vA w3 c0 hc r0 _;obtain ⟨d1,f1,rfl⟩:=Oh c0;replace hC:=chg_app (hC.trans (Cb (bal (Bs _) _))) hc (fun q hq h=>by have:=iX q h;omega);replace hR:=(hR.below (bal (Bs _) _)).keep hc (fun h=>by have:=iX _ h;omega) (fun k hk h=>by have:=iX _ h;omega);have o0:=Ow (World.ownsRow_lit (base:=(w2).heap.size) (e:=4) (size:=1) (w2) #[.bool (z == 0)] 1 Lr (by unfold maxLen;omega) (by simp)) hc (fun gq h h2=>by have e1:=Si h;simp only [Sa,Ss] at e1;have:=iX gq h2;omega);try simp only [Sa,Ss] at o0
   have b0:=hc.size;simp only [Sa] at b0;have q0:w3.cell? ⟨w2.heap.size,0,none⟩=some (.bool (z == 0)):=Gc hc (Wc (by simp) (by rfl)) (fun h=>by have:=iX _ h;omega);have p0:w3.frozen? ⟨w2.heap.size,0,none⟩=false:=Gf hc (by simp <;> omega) (Fn (by simp)) (fun h=>by have:=iX _ h;omega);clear hc;have h0:=o0.lt;try simp only [Sa] at h0
   have i0:=c0.lt;try simp only [Sa] at i0
   clear r0 oX;have HO:=Hi (show w3.ownsRow w.heap.size 4 1 _ (m+1) (bools (xs++[(z == 0)])) from by have h9:=c0;simpa [bools] using h9);have e0:Hid ((xs++[(z == 0)]).length=m+1):=Hi (by rw [List.length_append,k0.out];rfl);have HH:=Hi (Ai hR hC);clear hR hC c0;go_wp2
   go_roundw
   case rel=>exact ⟨k-1,m+1,_,_,_,pk+1,rfl,by congr 1;omega,by omega,e0,HO.out,HH.out.1,by omega,HH.out.2,by omega⟩
   case measure=>simp [intOf];omega
  have s0:decide ((0:Int) < (k:Int))=false:=decide_eq_false (by omega);have u0:¬(0:Int) < (k:Int):=by omega
  have HO:=Hi (Ai oX (Ai hR hC));clear oX hR hC;go_wp2
  exact bodyPost_ret (v:=.slice a m c) (by simp [results,Tryz.results28,go_sem]) rfl (by unfold WrongP;exact ⟨a,m,c,xs,pk,rfl,k0,by omega,HO.out.1,HO.out.2.1,by omega,HO.out.2.2⟩)
def DrawCMWP (w:World) (r:Ending) (w':World):Prop:=∃ (va vb vc vx vy vw:Value) (nv na nl:Nat) (m:Mm) (ws:List Bool),r=.returned (.tuple #[.agg #[va,vb,vc],.agg #[vx,vy],vw])∧DrawC w' w.heap.size va vb vc nv na nl∧(nv≤1000∧na≤1000∧nl≤1000)∧DrM w' w.heap.size vx vy m∧(Reads w' 1 vw ws.length (bools ws)∧ws.length≤8)∧Below w.heap.size w w'
theorem DrawSpecRun_any (v:Value) (n:Nat) (vs:List Int) (w:World) (hr:Reads w 1 v n (vs.map (Value.int .u8))) (hv:∀ x ∈ vs,0≤x∧x < 256) (hn:n≤1048576) :
  Calls Tryz.prog 7 #[v] w fun r w'=>DrawCMWP w r w':=by
 go_enter Tryz.func7,Tryz.ntmps7
 go_wp2_with fail
 refine (l17Open_any v n vs _ (hr.below (bal (bal (Bs w) (.cells #[.slice none 0 0,.slice none 0 0,.slice none 0 0] 26)) (.cells #[.slice none 0 0,.slice none 0 0] 29))) hv hn).mono ?_;rintro e w1 ⟨g,rfl,hR,hb⟩;try simp only [Sa] at hR
 have l1:=hb.size;simp only [Sa] at l1;have b0:Bk w1 (w.heap.size) [.slice none 0 0,.slice none 0 0,.slice none 0 0]:=Bb (Bk.al (Bk.nw (by simp) rfl) (.cells #[.slice none 0 0,.slice none 0 0] 29)) hb;have c0:Bk w1 (w.heap.size+1) [.slice none 0 0,.slice none 0 0]:=Bb (Bk.nw (by simp) rfl) hb;have y2:=btr (bal (bal (Bs w) (.cells #[.slice none 0 0,.slice none 0 0,.slice none 0 0] 26)) (.cells #[.slice none 0 0,.slice none 0 0] 29)) hb;clear hb;have j1:=Bk.lz b0;have k1:=Bk.lz c0;obtain ⟨B,hB⟩:∃ B,w.heap.size+1+1=B:=⟨_,rfl⟩;rw [hB] at hR;have x4:w.heap.size+1+1≤B:=(by omega);clear hB hr hv;have hg:=hR.lt;have hC:Chg (fun k=>k=g) w w1:=Cb y2;have d1:∀ q,(fun k=>k=g) q→q=g:=fun q h=>h
 clear y2;have k4:w.heap.size≤g:=by omega
 go_wp2_with fail
 refine (l8Jumps_any B g (0) _ hR (by omega)).mono ?_;rintro e w2 ⟨y4,a5,c5,p3,n3,o3,q1,rfl,c1,u4,i4,l4,k0,s4,hc⟩;try simp only [Sa,Ss] at c1
 obtain ⟨c4,f4,d4,g4,e4,h4,rfl,rfl,rfl⟩:=c1.shape;replace hC:=(hC).trans hc;replace hR:=k0;clear k0;have i3:=hc.size;replace b0:=Bk.kg b0 hc;replace c0:=Bk.kg c0 hc;clear hc;have l3:=c1.lt;replace j1:=Bk.lz b0;replace k1:=Bk.lz c0;go_wp2_with fail
 refine (l6Mutate_of _ _ _ p3 n3 o3 _ B g (q1) _ c1 (by omega) (by omega) (by omega) (by omega) hR (by omega)).mono ?_;rintro e w3 ⟨z4,b5,d5,s0,r0,x0,q2,rfl,j0,v4,j4,m4,k0,t4,hc⟩;try simp only [Sa,Ss] at j0
 obtain ⟨n0,p0,o0,q0,t0,u0,rfl,rfl,rfl⟩:=j0.shape;replace hC:=(hC).trans hc;replace hR:=k0;clear k0;have j3:=hc.size;replace c1:=c1.keep hc (fun gq h h2=>by have:=l3 gq h;have:=d1 gq h2;omega);replace b0:=Bk.kg b0 hc;replace c0:=Bk.kg c0 hc;clear hc;have w0:=j0.lt;replace j1:=Bk.lz b0;replace k1:=Bk.lz c0;clear c1;go_wp2_with fail
 refine (l6Heads_any n0 o0 t0 s0 r0 x0 p0 q0 u0 _).mono ?_;rintro e w4 ⟨rfl,hb⟩;replace hC:=((hC.trans (Cb (bal (Bs _) _)))).trans (Cb hb);replace hR:=(hR.below (bal (Bs _) _)).below hb;have e1:=hb.size;simp only [Sa] at e1;replace j0:=(j0.below (bal (Bs _) _)).below hb;replace b0:=Bb (Bk.al b0 _) hb;replace c0:=Bb (Bk.al c0 _) hb;have a0:Bk w4 (w3.heap.size) [.slice n0 s0 p0,.slice o0 r0 q0,.slice t0 x0 u0]:=Bb (Bk.nw (by simp) rfl) hb;clear hb;replace j1:=Bk.lz b0;replace k1:=Bk.lz c0;have i1:=Bk.lz a0;go_wp2_with fail
 refine (l3Memory_any n0 o0 s0 p0 r0 q0 (.slice none 0 0) B g (q2) _ hR (by omega) (by omega) (by omega)).mono ?_;rintro e w5 ⟨ux,uy,us,m,p1,rfl,oM,d3,e3,s2,k0,p4,hc⟩;try simp only [Sa,Ss] at oM
 obtain ⟨px,tx,py,ty,rfl,rfl⟩:=oM.shape;have p2:Hid (∀ r ∈ m.arrs,3≤r.length∧r.length≤4):=Hi (fun r hr=>by have:=s2 r hr;omega);clear s2;have g3:m.vals.length≤1000:=by omega
 have h3:m.arrs.length≤1000:=by omega
 clear d3 e3;replace hC:=(hC).trans hc;replace hR:=k0;clear k0;have t2:=hc.size;replace j0:=j0.keep hc (fun gq h h2=>by have:=w0 gq h;have:=d1 gq h2;omega);replace b0:=Bk.kg b0 hc;replace c0:=Bk.kg c0 hc;replace a0:=Bk.kg a0 hc;clear hc;have n1:=oM.lt;replace j1:=Bk.lz b0;replace k1:=Bk.lz c0;replace i1:=Bk.lz a0;go_wp2_with fail
 refine (l3Bend_any _ _ m B g (p1) _ (DrM.of oM (by omega) (by omega) p2.out).reads (by omega) (by omega) p2.out hR (by omega)).mono ?_;rintro e w6 ⟨ua,ub,m2,p8,rfl,l0,n4,o4,k0,q4,hc⟩;try simp only [Sa,Ss] at l0
 obtain ⟨y0,a1,z0,b1,rfl,rfl⟩:=l0.reads.shape;replace hC:=(hC).trans hc;replace hR:=k0;clear k0;have u2:=hc.size;replace j0:=j0.keep hc (fun gq h h2=>by have:=w0 gq h;have:=d1 gq h2;omega);replace oM:=oM.keep hc (fun gq h h2=>by have:=n1 gq h;have:=d1 gq h2;omega);replace b0:=Bk.kg b0 hc;replace c0:=Bk.kg c0 hc;replace a0:=Bk.kg a0 hc;clear hc;replace j1:=Bk.lz b0;replace k1:=Bk.lz c0;replace i1:=Bk.lz a0;clear oM;go_upto_region 4 with (fail)
 obtain ⟨w7,v0,hb⟩:=nmw (World.alloc w6 (.cells #[.slice y0 m2.vals.length a1,.slice z0 m2.arrs.length b1] 29));replace hC:=((hC.trans (Cb (bal (Bs _) _)))).trans (Cb hb);replace hR:=(hR.below (bal (Bs _) _)).below hb;have f1:=hb.size;simp only [Sa] at f1;replace j0:=(j0.below (bal (Bs _) _)).below hb;replace l0:=(l0.below (bal (Bs _) _)).below hb;replace b0:=Bb (Bk.al b0 _) hb;replace c0:=Bb (Bk.al c0 _) hb;replace a0:=Bb (Bk.al a0 _) hb;have i0:Bk w7 (w6.heap.size) [.slice y0 m2.vals.length a1,.slice z0 m2.arrs.length b1]:=Bb (Bk.nw (by simp) rfl) hb;clear hb;rw [← v0];clear v0;have d0:=Bk.cell a0 0 (v:=.slice n0 s0 p0) rfl;have e0:=Bk.cell a0 1 (v:=.slice o0 r0 q0) rfl;have f0:=Bk.cell a0 2 (v:=.slice t0 x0 u0) rfl;have g0:=Bk.cell i0 0 (v:=.slice y0 m2.vals.length a1) rfl;have h0:=Bk.cell i0 1 (v:=.slice z0 m2.arrs.length b1) rfl;have m3:=Bk.lz i0;refine wp_region_noPanic ?_;refine wp_region_held_drew (S:=(fun W'=>W'.cell? ⟨w3.heap.size,0,none⟩=some (.slice n0 s0 p0)∧W'.cell? ⟨w3.heap.size,1,none⟩=some (.slice o0 r0 q0)∧W'.cell? ⟨w3.heap.size,2,none⟩=some (.slice t0 x0 u0)∧W'.cell? ⟨w6.heap.size,0,none⟩=some (.slice y0 m2.vals.length a1)∧W'.cell? ⟨w6.heap.size,1,none⟩=some (.slice z0 m2.arrs.length b1))) (by kernel_rfl) ⟨Kc (Bd (Bs w7)) d0,Kc (Bd (Bs w7)) e0,Kc (Bd (Bs w7)) f0,Kc (Bd (Bs w7)) g0,Kc (Bd (Bs w7)) h0⟩ (fun hHeld=>?_);obtain ⟨w8,m1⟩:∃ X,X=World.drew w7:=⟨_,rfl⟩;rw [← m1] at hHeld ⊢;have hb:Below w7.heap.size w7 w8:=by rw [m1];exact Bd (Bs _)
 clear m1;replace hC:=(hC).trans (Cb hb);replace hR:=hR.below hb;have v2:=hb.size;replace j0:=j0.below hb;replace l0:=l0.below hb;replace d0:=Kc hb d0;replace e0:=Kc hb e0;replace f0:=Kc hb f0;replace g0:=Kc hb g0;replace h0:=Kc hb h0;replace b0:=Bb b0 hb;replace c0:=Bb c0 hb;replace a0:=Bb a0 hb;replace i0:=Bb i0 hb;clear hb;refine (tq 0 20 rfl rfl ?_ ?_ (tq 1 21 rfl rfl ?_ ?_ (tq 2 22 rfl rfl ?_ ?_ ?_)));iterate 3 (rotate_left;intro W' hSw;(try dsimp only at hSw);go_simp;try with_reducible rfl)
 try simp only [Ep]
 refine Rdy 3 rfl (fun K hK=>?_);go_simp
 refine (l11Wrong_any B g (p8) _ hR (by omega)).mono ?_;rintro e w9 ⟨aw,nw,cw,ws,pw,rfl,r2,k3,oW,k0,r4,hc⟩;replace hC:=(hC).trans hc;replace hR:=k0;clear k0;have x2:=hc.size;replace j0:=j0.keep hc (fun gq h h2=>by have:=w0 gq h;have:=d1 gq h2;omega);replace l0:=l0.keep hc (fun gq h h2=>by have:=(fun q (h:w5.heap.size≤q)=>h) gq h;have:=d1 gq h2;omega);replace d0:=Gg hc d0;replace e0:=Gg hc e0;replace f0:=Gg hc f0;replace g0:=Gg hc g0;replace h0:=Gg hc h0;replace b0:=Bk.kg b0 hc;replace c0:=Bk.kg c0 hc;replace a0:=Bk.kg a0 hc;replace i0:=Bk.kg i0 hc;clear hc;have m0:=oW.lt;clear hR;refine hK.out _ _ ⟨d0,e0,f0,g0,h0⟩ (fun hHeld=>?_);clear hK K;try simp only [Ep]
 refine Rdy 4 rfl (fun K hK=>?_);obtain ⟨o1,e2,r1,g2,s1,i2⟩:=Bk.f3 b0 0 1 2 rfl rfl rfl;go_simp
 obtain ⟨z2,v0,hb⟩:=nmw (World.setCell (World.setCell (World.setCell w9 ⟨w.heap.size,0,none⟩ (.slice n0 s0 p0)) ⟨w.heap.size,1,none⟩ (.slice o0 r0 q0)) ⟨w.heap.size,2,none⟩ (.slice t0 x0 u0));replace hC:=((((hC.sN _ _ _).sN _ _ _).sN _ _ _)).trans (Cb hb);have g1:=hb.size;simp only [Ss] at g1;clear e2 o1 g2 r1 i2 s1;replace j0:=(((j0.keep (C1 _ _ _) (fun gq h h2=>by have:=w0 gq h;omega)).keep (C1 _ _ _) (fun gq h h2=>by have:=w0 gq h;omega)).keep (C1 _ _ _) (fun gq h h2=>by have:=w0 gq h;omega)).below hb;replace l0:=(((l0.keep (C1 _ _ _) (fun gq h h2=>by have:=(fun q (h:w5.heap.size≤q)=>h) gq h;omega)).keep (C1 _ _ _) (fun gq h h2=>by have:=(fun q (h:w5.heap.size≤q)=>h) gq h;omega)).keep (C1 _ _ _) (fun gq h h2=>by have:=(fun q (h:w5.heap.size≤q)=>h) gq h;omega)).below hb;replace d0:=Kc hb (Nn (Nn (Nn d0 _) _) _);replace e0:=Kc hb (Nn (Nn (Nn e0 _) _) _);replace f0:=Kc hb (Nn (Nn (Nn f0 _) _) _);replace g0:=Kc hb (Nn (Nn (Nn g0 _) _) _);replace h0:=Kc hb (Nn (Nn (Nn h0 _) _) _);replace oW:=Ob (Oe (Oe (Oe oW _ _ (fun h=>by have:=m0 _ h;omega) _) _ _ (fun h=>by have:=m0 _ h;omega) _) _ _ (fun h=>by have:=m0 _ h;omega) _) hb;replace b0:Bk z2 (w.heap.size) [.slice n0 s0 p0,.slice o0 r0 q0,.slice t0 x0 u0]:=Bb (Bk.at (Bk.at (Bk.at b0 0 (.slice n0 s0 p0)) 1 (.slice o0 r0 q0)) 2 (.slice t0 x0 u0)) hb;replace c0:=Bb (Bk.nn (Bk.nn (Bk.nn c0 _) _) _) hb;replace a0:=Bb (Bk.nn (Bk.nn (Bk.nn a0 _) _) _) hb;replace i0:=Bb (Bk.nn (Bk.nn (Bk.nn i0 _) _) _) hb;clear hb;rw [← v0];clear v0;refine hK.out _ _ ⟨d0,e0,f0,g0,h0⟩ (fun hHeld=>?_);clear hK K;try simp only [Ep]
 refine Rdy 5 rfl (fun K hK=>?_);obtain ⟨t1,j2,u1,k2,v1,l2⟩:=Bk.f3 b0 0 1 2 rfl rfl rfl;obtain ⟨x1,n2,y1,o2⟩:=Bk.f2 c0 0 1 rfl rfl;go_simp
 obtain ⟨v3,v0,hb⟩:=nmw (World.setCell (World.setCell z2 ⟨w.heap.size+1,0,none⟩ (.slice y0 m2.vals.length a1)) ⟨w.heap.size+1,1,none⟩ (.slice z0 m2.arrs.length b1));replace hC:=(((hC.sN _ _ _).sN _ _ _)).trans (Cb hb);have h1:=hb.size;simp only [Ss] at h1;clear j2 t1 k2 u1 l2 v1 n2 x1 o2 y1;replace j0:=((j0.keep (C1 _ _ _) (fun gq h h2=>by have:=w0 gq h;omega)).keep (C1 _ _ _) (fun gq h h2=>by have:=w0 gq h;omega)).below hb;replace l0:=((l0.keep (C1 _ _ _) (fun gq h h2=>by have:=(fun q (h:w5.heap.size≤q)=>h) gq h;omega)).keep (C1 _ _ _) (fun gq h h2=>by have:=(fun q (h:w5.heap.size≤q)=>h) gq h;omega)).below hb;replace d0:=Kc hb (Nn (Nn d0 _) _);replace e0:=Kc hb (Nn (Nn e0 _) _);replace f0:=Kc hb (Nn (Nn f0 _) _);replace g0:=Kc hb (Nn (Nn g0 _) _);replace h0:=Kc hb (Nn (Nn h0 _) _);replace oW:=Ob (Oe (Oe oW _ _ (fun h=>by have:=m0 _ h;omega) _) _ _ (fun h=>by have:=m0 _ h;omega) _) hb;replace b0:=Bb (Bk.nn (Bk.nn b0 _) _) hb;replace c0:Bk v3 (w.heap.size+1) [.slice y0 m2.vals.length a1,.slice z0 m2.arrs.length b1]:=Bb (Bk.at (Bk.at c0 0 (.slice y0 m2.vals.length a1)) 1 (.slice z0 m2.arrs.length b1)) hb;replace a0:=Bb (Bk.nn (Bk.nn a0 _) _) hb;replace i0:=Bb (Bk.nn (Bk.nn i0 _) _) hb;clear hb;rw [← v0];clear v0;refine hK.out _ _ ⟨d0,e0,f0,g0,h0⟩ (fun hHeld=>?_);clear hK K;try simp only [Ep]
 refine (tq 6 4 rfl rfl ?_ ?_ ?_);(rotate_left;intro W' hSw;(try dsimp only at hSw);go_simp;try with_reducible rfl)
 try simp only [Ep]
 refine Dn ?_;clear hHeld;have tC:=hC;have tb:=tC.below w.heap.size Lr (fun k hk h=>by have:=d1 k h;omega);have TB:=Hi tb;clear tC tb hC;have a3:=Hi (DrawC.mono j0 (show w.heap.size≤_ by omega));have b3:=Hi (DrM.mono l0 (show w.heap.size≤_ by omega));have c3:=Hi (Ro oW (by omega));clear j0 l0 oW;obtain ⟨z1,q3,a2,r3,b2,s3⟩:=Bk.f3 b0 0 1 2 rfl rfl rfl;obtain ⟨c2,t3,d2,u3⟩:=Bk.f2 c0 0 1 rfl rfl;have x3:=z1;have y3:=a2;have z3:=b2;have a4:=c2;have b4:=d2;have tt:=True.intro;go_wp2
 exact bodyPost_ret (v:=.tuple #[.agg #[.slice n0 s0 p0,.slice o0 r0 q0,.slice t0 x0 u0],.agg #[.slice y0 m2.vals.length a1,.slice z0 m2.arrs.length b1],.slice aw nw cw]) (by simp [results,Tryz.results7,go_sem,x3,y3,z3,a4,b4]) rfl (by exact by unfold DrawCMWP;exact ⟨_,_,_,_,_,_,_,_,_,m2,ws,rfl,a3.out,⟨by omega,by omega,by omega⟩,b3.out,⟨by rw [r2.out];exact c3.out,by rw [r2.out];exact k3⟩,TB.out⟩)
theorem execute2_any (F:FuncId) (caps:Array Value) (I:Nat→World→Prop) (B:Nat→Prop) (b base:Nat) (va vb vc vr vv vA:Value) (us:List Value) (c:Cd) (s:Ms) (w:World)
  (hF:∀ (args:Array Value) (W:World),(callFunc F args).run Tryz.prog W=.ok (.enter F args) W) (hr:ReadsC w va vb vc c) (hS:OwnS w base b vr vv vA us s) (hM:MsOk c s) (hok:codeOk c=true) (hBb:¬B b) (hBM:∀ q,OwnMB vr vv vA us q→¬B q) (hBl:∀ q,B q→q < w.heap.size)
  (hsep:∀ q,ReadB va vb vc c q→¬q=b∧¬OwnMB vr vv vA us q∧¬B q) (h0:I 0 w)
  (hkeep:∀ (n:Nat) (W W':World),I n W→Chg (fun q=>q=b∨OwnMB vr vv vA us q) W W'→I n W')
  (hcall:∀ (n:Nat) (W:World) (u:Value),n < 20000→I n W→w.heap.size+1≤W.heap.size→W.ownsRow (w.heap.size+1) 84 2 u (stEvs (insAt c (stN c n s).pc) (stN c n s)).length (evs (stEvs (insAt c (stN c n s).pc) (stN c n s)))→OwnS W base b vr vv vA us (stN c (n+1) s)→ReadsC W va vb vc c→(∀ q,u.ownBlock=some q→¬OwnMB vr vv vA us q∧¬q=b) →
   Calls Tryz.prog F (#[.int .i64 (stN c n s).pc,u]++caps) W fun e W'=>e=.returned (.tuple #[])∧I (n+1) W'∧Chg (fun q=>B q∨w.heap.size+1≤q) W W') :
  Calls Tryz.prog 42 #[.agg #[va,vb,vc],.pointer (some ⟨b,0,none⟩),.func (.func F) #[] caps] w fun e w'=>e=.returned (.bool (runR c s).isSome)∧(∀ n,runR c s=some n→n < 20000∧OwnS w' base b vr vv vA us (stN c (n+1) s)∧I (n+1) w')∧Chg (fun q=>q=b∨OwnMB vr vv vA us q∨B q) w w':=by
 obtain ⟨a0,c0,a1,c1,a2,c2,rfl,rfl,rfl⟩:=hr.shape;have v1:=Hi (fun n h1 h2 h3=>runR_some (c:=c) (s:=s) (n:=n) h1 h2 h3);have u1:=Hi (fun h=>runR_none (c:=c) (s:=s) h);generalize runR c s=R at *
 obtain ⟨l1,l2⟩:=codeOk_len hok;have z1:=hr.l;obtain ⟨_,hn,aa,g2,b',l0,hv,y1,ha,e1⟩:=z1;simp only [Value.slice.injEq,true_and] at hv;obtain ⟨rfl,rfl⟩:=hv;obtain ⟨rfl,i2⟩:=ha (by omega);have HC:=Hi (reads_Instr e1);have x1:=Hi hsep;have hb'n:=hsep b' (Or.inr (Or.inr ⟨l0,c2,by omega,rfl⟩));obtain ⟨w1,f0⟩:∃ X,X=w.alloc (.cells #[.slice a0 c.vars.length c0,.slice a1 c.arrays.length c1,.slice (some ⟨b',l0,none⟩) c.list.length c2] 26):=⟨_,rfl⟩;have b0:Below w.heap.size w w1:=by rw [f0];exact bal (Bs w) _
 have b2:w1.heap.size=w.heap.size+1:=by rw [f0];simp
 have n0:w1.cell? ⟨w.heap.size,0,none⟩=some (.slice a0 c.vars.length c0):=by rw [f0];exact Wc rfl rfl
 have n1:w1.cell? ⟨w.heap.size,1,none⟩=some (.slice a1 c.arrays.length c1):=by rw [f0];exact Wc rfl rfl
 have n2:w1.cell? ⟨w.heap.size,2,none⟩=some (.slice (some ⟨b',l0,none⟩) c.list.length c2):=by rw [f0];exact Wc rfl rfl
 have hz1l:w.heap.size+1≤w1.heap.size:=by omega
 have hz1r:w1.heap.size≤w.heap.size+1:=by omega
 have HW:=Hi f0;have lS:=hS.lt;have d2:=hr.lt;have iS:=hS.own.lt
 have t0:¬(w.heap.size=b∨OwnMB vr vv vA us w.heap.size∨B w.heap.size∨w1.heap.size≤w.heap.size):=by
  rintro (h | h | h | h)
  ·omega
  ·have:=iS _ h;omega
  ·have:=hBl _ h;omega
  omega
 have f1:∀ q,ReadB (.slice a0 c.vars.length c0) (.slice a1 c.arrays.length c1) (.slice (some ⟨b',l0,none⟩) c.list.length c2) c q→¬(q=b∨OwnMB vr vv vA us q∨B q∨w1.heap.size≤q):=by
  intro q hq;obtain ⟨h1,h2,h3⟩:=hsep q hq;have h4:=d2 q hq;rintro (h | h | h | h)
  ·exact h1 h
  ·exact h2 h
  ·exact h3 h
  omega
 have x0:=Hi f1;have hb'c:=f1 b' (Or.inr (Or.inr ⟨l0,c2,by omega,rfl⟩));have k1:=Hi hBM;have q1:=Hi iS;have S1:=hS.below b0;have I1:=hkeep 0 w w1 h0 (Cb b0);have r1:=hr.below b0;have HK:=Hi hkeep;have p1:=Hi hcall;have t1:=Hi (fun n=>stN_ok hok hM n);have s1:=Hi hok;clear f0 b2 e1 ha hr hS h0 hkeep hcall hM hsep;go_enter Tryz.func42,Tryz.ntmps42
 go_upto_region 1 with (fail)
 rw [← HW.out];clear HW;go_wp2_with fail
 go_loopw [8] (fun t wr=>∃ n:Nat,n≤20000∧t=.int .i64 n∧OwnS wr base b vr vv vA us (stN c n s)∧I n wr∧Hid (∀ j,j < n→¬opAt c s j=13)∧Chg (fun q=>q=b∨OwnMB vr vv vA us q∨B q∨w1.heap.size≤q) w1 wr) (fun t _=>20000-(intOf t).toNat)
 case atStart=>exact ⟨0,by omega,rfl,S1,I1,Hi (fun j h=>by omega),Chg.refl _ _⟩
 case round =>
  obtain ⟨n,j2,rfl,hS,hI,o0,hC⟩:=hrel;clear S1 I1;have r2:=hC.size
  have d1:Chg (fun q=>q=b∨OwnMB vr vv vA us q∨B q) w wr:=⟨hC.os.trans b0.os,hC.tape.trans b0.tape,hC.output.trans b0.output,by omega,fun q hq hn=>(hC.block q (by omega) (fun h=>by
   rcases h with h | h | h | h
   ·exact hn (Or.inl h)
   ·exact hn (Or.inr (Or.inl h))
   ·exact hn (Or.inr (Or.inr h))
   omega)).trans (b0.block q hq)⟩
  by_cases hlt:n < 20000
  ·have q0:=t1.out n;obtain ⟨k,hk⟩:∃ k:Nat,(stN c n s).pc=k:=⟨(stN c n s).pc.toNat,by have:=q0.pc0;omega⟩;have g1:k < c.list.length:=by have:=q0.pc1;omega
   have c0':=hS.c0;rw [hk] at c0';have kb:=Lc c0';have m0:=Gc hC n0 t0;have m1:=Gc hC n1 t0;have m2:=Gc hC n2 t0;have km:=Lc m0;have rc:=r1.keep hC x0.out;have z0:=Hi (step_any b base _ _ _ vr vv vA us c (stN c n s) wr rc hS q0 s1.out);clear q0 rc;go_wp2_with fail
   refine z0.out.mono ?_;rintro e w4 ⟨u,rfl,oE,r0,g0⟩;have I4:=HK.out n wr w4 hI g0;have o2:=g0.size;have j1:=Om oE (base':=w.heap.size+1) (by omega);have i0:=hC.trans (g0.mono (T:=fun q=>q=b∨OwnMB vr vv vA us q∨B q∨w1.heap.size≤q) (fun q _ h=>by rcases h with h | h;exact Or.inl h;exact Or.inr (Or.inl h)));have w0:=oE.lt;have e2:=hS.lt;have i1:=hS.own.lt;have u0:=Hi (p1.out n w4 u hlt I4 (by omega) j1 r0 (r1.keep i0 x0.out) (fun q hq=>⟨fun h=>by have:=w0 q hq;have:=i1 q h;omega,fun h=>by have:=w0 q hq;omega⟩));clear i0 w0 e2 i1;rw [hk] at u0;have j0:opAt c s n=c.list[k].op:=by unfold opAt insAt;rw [hk,Int.toNat_natCast,List.getElem?_eq_getElem g1];rfl
   have k0:stp (insAt c (stN c n s).pc) (stN c n s)=stN c (n+1) s:=rfl;rw [k0] at r0;have y0:=Hi j0;have f2:=Hi hk;have b1:=hC.trans (g0.mono (T:=fun q=>q=b∨OwnMB vr vv vA us q∨B q∨w1.heap.size≤q) (fun q _ h=>by rcases h with h | h;exact Or.inl h;exact Or.inr (Or.inl h)));clear j0 k0 oE j1 I4 z0 hS hI hC g0 c0' hk;go_wp2_with fail
   refine u0.out.mono ?_;rintro e w5 ⟨rfl,I5,p0⟩;have q2:=p0.size;have s0:=r0.keep p0 (fun h=>by rcases h with h | h;exact hBb h;omega) (fun q hq h=>by rcases h with h | h;exact k1.out q hq h;have:=q1.out q hq;omega);have d0:=b1.trans (p0.mono (T:=fun q=>q=b∨OwnMB vr vv vA us q∨B q∨w1.heap.size≤q) (fun q _ h=>by rcases h with h | h;exact Or.inr (Or.inr (Or.inl h));exact Or.inr (Or.inr (Or.inr (by omega)))));have p2:=Gc d0 n2 t0;have kp:=Lc p2;obtain ⟨e0,_⟩:=HC.out k g1;replace e0:=Gc d0 (Kc b0 e0) hb'c;have ke:=Lc e0;have k2:(k:Int) < (c.list.length:Int):=by omega
   generalize c.list[k]=x at *
   have o1:Hid (Chg (fun q=>q=b∨OwnMB vr vv vA us q∨B q) w w5):=Hi ⟨d0.os.trans b0.os,d0.tape.trans b0.tape,d0.output.trans b0.output,by have:=d0.size;omega,fun q hq hn=>(d0.block q (by omega) (fun h=>by
    rcases h with h | h | h | h
    ·exact hn (Or.inl h)
    ·exact hn (Or.inr (Or.inl h))
    ·exact hn (Or.inr (Or.inr h))
    omega)).trans (b0.block q hq)⟩
   clear r0 b1 p0 u0 m0 m1 m2 d1;by_cases h13:x.op=13
   ·have HR:Hid (R=some n):=Hi (v1.out n hlt o0.out (by rw [y0.out];exact h13));rw [h13] at e0;have HH:=Hi (Ai s0 I5);clear h13 s0 I5 d0;go_wp2
    go_ret
    exact ⟨ret_bool (by rw [HR.out];rfl),fun n' hn'=>by rw [HR.out] at hn';obtain rfl:=Si hn';exact ⟨hlt,HH.out.1,HH.out.2⟩,o1.out⟩
   have v0:Hid (∀ j,j < n+1→¬opAt c s j=13):=Hi (fun j hj=>by
    by_cases e:j=n
    ·subst e;rw [y0.out];exact h13
    exact o0.out j (by omega))
   have hx:(x.op == 13)=false:=by simp [h13]
   have HH:=Hi (Ai s0 I5);clear h13 s0 I5;go_wp2
   go_roundw
   case rel=>exact ⟨n+1,by omega,by go_num,HH.out.1,HH.out.2,v0,d0⟩
   case measure=>simp [intOf];omega
  have en:n=20000:=by omega
  subst en;have HR:Hid (R=none):=Hi (u1.out o0.out);clear hS hI o0;go_wp2
  go_ret
  exact ⟨ret_bool (by rw [HR.out];rfl),(fun n' hn'=>(by rw [HR.out] at hn';cases hn')),d1⟩
end Go.Proofs.YtnpidfbcbmeijaaGreat
