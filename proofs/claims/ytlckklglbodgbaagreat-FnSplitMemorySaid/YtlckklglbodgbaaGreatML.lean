/-
 Parts of the proofs of the laws FnPairMemory,FnSplitMemory.
-/
import Derived.Test.YtlckklglbodgbaaGreatOW
set_option linter.all false
namespace Go.Proofs.YtlckklglbodgbaaGreat
open Go.RowKit
set_option maxHeartbeats 12800000 in
set_option maxRecDepth 100000 in
theorem l3Copy_any (vx vy:Value) (m:Mm) (w:World) (hx:Reads w 1 vx m.vals.length (ints m.vals)) (hy:Reads2 ints w vy m.arrs) (hl:m.vals.length≤1048576) (hn:m.arrs.length≤1048576) (hp:pre2 m.arrs m.arrs.length≤1048576) :
  Calls Tryz.prog 30 #[.agg #[vx,vy]] w fun e w'=>∃ ux uy us,e=.returned (.agg #[ux,uy])∧w'.ownsRow w.heap.size 3 1 ux m.vals.length (ints m.vals)∧Own2I w' w.heap.size uy us m.arrs∧(∀ q,ux.ownBlock=some q→¬OwnB2 uy us q)∧Below w.heap.size w w':=by
 obtain ⟨a2,c2,rfl⟩:=reads_shape hx;obtain ⟨a3,c3,rfl⟩:=hy.shape;obtain ⟨w1,t0⟩:∃ X,X=(w.alloc (.cells #[.slice a2 m.vals.length c2,.slice a3 m.arrs.length c3] 29)).alloc (.cells #[.slice none 0 0,.slice none 0 0] 29):=⟨_,rfl⟩;have e1:Below w.heap.size w w1:=by rw [t0];exact bal (bal (Bs w) _) _
 have d2:w1.heap.size=w.heap.size+1+1:=by rw [t0];simp
 have b0:w1.cell? ⟨w.heap.size,0,none⟩=some (.slice a2 m.vals.length c2):=by rw [t0];exact Ac (Wc rfl rfl) _
 have b1:w1.cell? ⟨w.heap.size,1,none⟩=some (.slice a3 m.arrs.length c3):=by rw [t0];exact Ac (Wc rfl rfl) _
 have r0:w1.cell? ⟨w.heap.size+1,0,none⟩=some (.slice none 0 0):=by rw [t0];exact Wc (by simp) rfl
 have r1:w1.cell? ⟨w.heap.size+1,1,none⟩=some (.slice none 0 0):=by rw [t0];exact Wc (by simp) rfl
 have q0:w1.frozen? ⟨w.heap.size+1,0,none⟩=false:=by rw [t0];exact Fn (by simp)
 have q1:w1.frozen? ⟨w.heap.size+1,1,none⟩=false:=by rw [t0];exact Fn (by simp)
 have k1:=Lc b1;have HW:=Hi t0;have HZ:=Hi d2;have hz1':w.heap.size+2≤w1.heap.size:=by omega
 have HY:=Hi (fun W (hW:Below w.heap.size w W)=>hy.below hW);have i2:=Hi (fun k (h:k < m.arrs.length)=>pre2_all m.arrs k h m.arrs.length h);have z0:=hx.below (btr e1 (bal (Bs w1) (.cells #[] 3)));have g2:=own_nil_rows w1 3 1;clear t0 d2 hx hy;go_enter Tryz.func30,Tryz.ntmps30
 go_upto_region 1 with (fail)
 rw [← HW.out];clear HW;go_wp2_with (at_builtin;refine wpList_aps tInts rfl _ _ rfl w1.heap.size _ 0 [] rfl g2 _ m.vals.length _ rfl z0 (one_ints m.vals) (by omega) (by simp) ?_)
 intro vX w2 oX j1 j2 _;try simp only [Nat.zero_add,List.nil_append] at oX
 obtain ⟨pX,tX,rfl⟩:=Oh oX;have v0:Below w1.heap.size w1 w2:=(bal (Bs w1) (.cells #[] 3)).trans (j1.below w1.heap.size (by simp) (fun q hq h=>by have e:w1.heap.size=q:=Si h;omega));have n2:=v0.size;replace b1:=Kc v0 b1;replace q0:=Kf v0 (Lc r0) q0;replace r0:=Kc v0 r0;replace q1:=Kf v0 (Lc r1) q1;replace r1:=Kc v0 r1;have a1:=btr e1 v0;have iX:=oX.lt;clear j1 j2 g2 z0 e1 v0 b0 k1;obtain ⟨w3,y0⟩:∃ X,X=World.alloc w2 (.cells #[.slice pX m.vals.length tX,.slice none 0 0] 29):=⟨_,rfl⟩;have w0:Below w2.heap.size w2 w3:=by rw [y0];exact bal (Bs _) _
 have o2:w2.heap.size+1≤w3.heap.size:=by rw [y0];simp
 have d0:w3.cell? ⟨w2.heap.size,0,none⟩=some (.slice pX m.vals.length tX):=by rw [y0];exact Wc rfl rfl
 have d1:w3.cell? ⟨w2.heap.size,1,none⟩=some (.slice none 0 0):=by rw [y0];exact Wc rfl rfl
 have f1:w3.frozen? ⟨w2.heap.size,1,none⟩=false:=by rw [y0];exact Fn rfl
 replace b1:=Kc w0 b1;replace q0:=Kf w0 (Lc r0) q0;replace r0:=Kc w0 r0;replace q1:=Kf w0 (Lc r1) q1;replace r1:=Kc w0 r1;replace oX:=Ob oX w0;replace a1:=btr a1 w0;have i1:∀ q,(Value.slice pX m.vals.length tX).ownBlock=some q→w1.heap.size≤q∧q < w2.heap.size:=fun q h=>by have:=iX q h;omega
 have l1:Own2I w3 w3.heap.size (.slice none 0 0) [] (m.arrs.take 0):=⟨rfl,World.ownsRow_nil _ _ _ _,fun k u r h=>by simp at h,fun j k u u' h=>by simp at h⟩;have kb:=Lc b1;have kd:=Lc d0;go_upto_region 2 with (fail)
 rw [← y0];clear y0 w0;go_wp2_with fail
 go_loopw [4] (fun t wr=>∃ k:Nat,k≤m.arrs.length∧t=.int .i64 k∧(∃ pa ta us,wr.cell? ⟨w2.heap.size,1,none⟩=some (.slice pa k ta)∧Own2I wr w3.heap.size (.slice pa k ta) us (m.arrs.take k))∧wr.cell? ⟨w2.heap.size,0,none⟩=some (.slice pX m.vals.length tX)∧wr.frozen? ⟨w2.heap.size,1,none⟩=false∧Chg (fun q=>q=w2.heap.size) w3 wr) (fun t _=>m.arrs.length-(intOf t).toNat)
 case atStart=>exact ⟨0,Nat.zero_le _,rfl,⟨_,_,_,d1,l1⟩,d0,f1,Chg.refl _ _⟩
 case round =>
  obtain ⟨k,hk,rfl,⟨pa,ta,us,g1,hO⟩,g0,gf,hC⟩:=hrel;have q2:=hC.size;have hB:=a1.trans (hC.below w.heap.size a1.size (fun q hq h=>by omega));have m1:=Gc hC b1 (by omega);have km:=Lc m1;have kg:=Lc g1;have iO:=hO.lt;clear l1 d0 d1 f1;by_cases hlt:k < m.arrs.length
  ·obtain ⟨b,f2,u,rfl,k2,p1,b2⟩:=(HY.out w (Bs w)).at k hlt;have hc:=Kc hB p1;have hu:=b2.below hB;clear p1 b2;have m2:=i2.out k hlt;have t1:(m.arrs.take k).length=k:=by rw [List.length_take];omega
   have y1:m.arrs.take k++[m.arrs[k]]=m.arrs.take (k+1):=(List.take_succ_eq_append_getElem hlt).symm;obtain ⟨pu,tu,rfl⟩:=reads_shape hu;generalize hr:m.arrs[k]=r at *
   have n0:=Hi t1;have o0:=Hi y1;clear t1 y1 hr;have kc:=Lc hc;have l2:(k:Int) < (m.arrs.length:Int):=by omega
   go_upto_region 5 with (fail)
   refine wp_region_noPanic ?_;refine wp_region_held_drew (S:=(fun W'=>W'.cell? ⟨w.heap.size,1,none⟩=some (.slice (some ⟨b,f2,none⟩) m.arrs.length c3)∧W'.cell? ⟨b,f2+k,none⟩=some (.slice pu r.length tu))) (by kernel_rfl) ⟨Kc (Bd (Bs wr)) m1,Kc (Bd (Bs wr)) hc⟩ (fun hHeld=>?_);obtain ⟨wd,h1⟩:∃ X,X=World.drew wr:=⟨_,rfl⟩;rw [← h1] at hHeld ⊢;have D:Below wr.heap.size wr wd:=by rw [h1];exact Bd (Bs _)
   clear h1;replace g1:=Kc D g1;replace m1:=Kc D m1;replace hc:=Kc D hc;replace g0:=Kc D g0;replace gf:=Kf D (by omega) gf;replace hO:=hO.below D;replace hu:=hu.below D;have p0:=hC.trans (Cb (S:=fun q=>q=w2.heap.size) D);have p2:=D.size;clear D hC;refine tq 0 17 rfl rfl ?_ ?_ ?_;rotate_left
   ·intro W' hSw;obtain ⟨s0,s1⟩:=hSw;go_simp;try with_reducible rfl
   try simp only [Ep]
   refine tq 3 20 rfl rfl ?_ ?_ ?_;rotate_left
   ·intro W' hSw;obtain ⟨s0,s1⟩:=hSw;go_simp;try with_reducible rfl
   try simp only [Ep]
   refine tq 4 21 rfl rfl ?_ ?_ ?_;rotate_left
   ·intro W' hSw;obtain ⟨s0,s1⟩:=hSw;go_simp;try with_reducible rfl
   try simp only [Ep]
   refine tq 5 22 rfl rfl ?_ ?_ ?_;rotate_left
   ·intro W' hSw;obtain ⟨s0,s1⟩:=hSw;go_simp;try with_reducible rfl
   try simp only [Ep]
   refine Rdy3 1 2 6 rfl rfl rfl (fun K hK=>?_) (fun K hK=>?_) (fun K hK=>?_)
   ·go_simp
    refine hK.out _ _ hHeld (fun hHeld=>?_);clear hK K;try simp only [Ep]
    refine Rdy2 2 6 rfl rfl (fun K hK=>?_) (fun K hK=>?_)
    ·go_simp
     obtain ⟨v1,hv⟩:∃ X,X=World.alloc wd (.cells #[] 3):=⟨_,rfl⟩;rw [← hv];have o1:v1.ownsRow wd.heap.size 3 1 (.slice (some ⟨wd.heap.size,0,none⟩) 0 0) 0 []:=by rw [hv];exact own_nil_rows _ _ _
     have B1:Below wd.heap.size wd v1:=by rw [hv];exact bal (Bs _) _
     have z1:wd.heap.size+1≤v1.heap.size:=by rw [hv];simp
     clear hv;replace g1:=Kc B1 g1;replace m1:=Kc B1 m1;replace hc:=Kc B1 hc;refine hK.out _ _ ⟨m1,hc⟩ (fun hHeld=>?_);clear hK K;try simp only [Ep]
     refine Rdy 6 rfl (fun K hK=>?_);go_simp
     refine hK.out _ _ hHeld (fun hHeld=>?_);clear hK K;try simp only [Ep]
     refine tq 7 24 rfl rfl ?_ ?_ ?_;rotate_left
     ·intro W' hSw;obtain ⟨s0,s1⟩:=hSw;go_simp;try with_reducible rfl
     try simp only [Ep]
     refine Rdy 8 rfl (fun K hK=>?_);refine step_aps tInts rfl _ _ rfl wd.heap.size _ 0 [] rfl o1 _ _ _ rfl (hu.below B1) (one_ints r) (by omega) (by omega) ?_;intro vR v2 oR h0 m0 _;try simp only [Nat.zero_add,List.nil_append] at oR
     obtain ⟨pR,tR,rfl⟩:=Oh oR;have B2:Below wd.heap.size wd v2:=B1.trans (h0.below wd.heap.size (by omega) (fun q hq h=>by have e:wd.heap.size=q:=Si h;omega));have l0:=oR.lt;have z2:=h0.size;replace g1:=Gc h0 g1 (fun h=>by have e:wd.heap.size=w2.heap.size:=Si h;omega);replace m1:=Gc h0 m1 (fun h=>by have e:wd.heap.size=w.heap.size:=Si h;omega);replace hc:=Gc h0 hc (fun h=>by have e:wd.heap.size=b:=Si h;omega);clear h0 m0 B1 o1;refine hK.out _ _ ⟨m1,hc⟩ (fun hHeld=>?_);clear hK K;try simp only [Act.put,sb]
     refine Rdy 9 rfl (fun K hK=>?_);go_simp
     obtain ⟨v3,hv⟩:∃ X,X=World.alloc v2 (.cells #[.slice pR r.length tR] 23):=⟨_,rfl⟩;rw [← hv];have c0:Below v2.heap.size v2 v3:=by rw [hv];exact bal (Bs _) _
     have RN:Reads v3 1 (.slice (some ⟨v2.heap.size,0,none⟩) 1 1) 1 [.slice pR r.length tR]:=by rw [hv];exact reads_new v2 [.slice pR r.length tR] 23 1 rfl
     clear hv;have z3:=c0.size;replace oR:=Ob oR c0;have B3:=btr B2 c0;replace g1:=Kc c0 g1;replace m1:=Kc c0 m1;replace hc:=Kc c0 hc;replace hO:=hO.below B3;have f0:=hO.outAt;clear B2 c0;refine hK.out _ _ ⟨m1,hc⟩ (fun hHeld=>?_);clear hK K;try simp only [Ep]
     refine Rdy 10 rfl (fun K hK=>?_);refine step_aps tIntSS rfl _ _ rfl w3.heap.size _ k us rfl f0 _ 1 _ rfl RN (by intro x hx;simp at hx;subst hx;rfl) (by omega) (by omega) ?_;intro vA v4 oA a0 k0 _;obtain ⟨pB,tB,rfl⟩:=Oh oA;have z4:=a0.size;have e0:∀ q,(Value.slice pa k ta).ownBlock=some q→w3.heap.size≤q∧q < wr.heap.size:=fun q h=>iO q (Or.inl h)
     have hP:=hO.push (v':=.slice pB (k+1) tB) (u:=.slice pR r.length tR) (r:=r) (by rw [n0.out];exact oA) a0 (Om oR (by omega)) (fun q h h2=>by have:=l0 q h;have:=iO q h2;omega) (by decide);rw [o0.out] at hP;replace g1:=Gc a0 g1 (fun h=>by have:=e0 _ h;omega);replace m1:=Gc a0 m1 (fun h=>by have:=e0 _ h;omega);replace hc:=Gc a0 hc (fun h=>by have:=e0 _ h;omega);have g0':=Gc a0 (Kc B3 g0) (fun h=>by have:=e0 _ h;omega);have gf':=Gf a0 (by omega) (Kf B3 (by omega) gf) (fun h=>by have:=e0 _ h;omega)
     have hD:Chg (fun q=>q=w2.heap.size) w3 v4:=by
      have h3:=p0.trans (Cb (S:=fun q=>q=w2.heap.size) B3);exact ⟨a0.os.trans h3.os,a0.tape.trans h3.tape,a0.output.trans h3.output,by omega,fun q hq hn=>(a0.block q (by have:=h3.size;omega) (fun h=>by have:=e0 q h;omega)).trans (h3.block q hq hn)⟩
     clear hO f0 RN oR oA a0 k0 B3 e0;refine hK.out _ _ ⟨m1,hc⟩ (fun hHeld=>?_);clear hK K;try simp only [Act.put,sb]
     refine tq 11 28 rfl rfl ?_ ?_ ?_;rotate_left
     ·intro W' hSw;obtain ⟨s0,s1⟩:=hSw;go_simp;try with_reducible rfl
     try simp only [Act.put]
     have x0:=Nn (b:=w2.heap.size) (j:=1) g0' (.slice pB (k+1) tB);have x1:=Tc v4 w2.heap.size 1 (.slice pB (k+1) tB) g1;have xf:=Fs (b:=⟨w2.heap.size,1,none⟩) gf' (.slice pB (k+1) tB);have hE:=hD.setCell w2.heap.size 1 (.slice pB (k+1) tB) (fun _=>rfl);have j0:=hP.lt;have i0:=hP.keep ((Chg.refl (fun q=>q=w2.heap.size) v4).setCell w2.heap.size 1 (.slice pB (k+1) tB) (fun _=>rfl)) (fun q h e=>by have:=j0 q h;omega);have HK:=Hi (Ai x0 (Ai x1 (Ai xf (Ai hE i0))));clear x0 x1 xf hE i0 hP hD j0;refine Rdy 12 rfl (fun K hK=>?_);go_simp
     refine hK.out _ _ ⟨Nn (b:=w2.heap.size) (j:=1) m1 _,Nn (b:=w2.heap.size) (j:=1) hc _⟩ (fun hHeld=>?_);clear hK K;refine Dn ?_;clear hHeld g1 m1 hc g0' gf';go_wp2
     go_roundw
     case rel=>exact ⟨k+1,by omega,by go_num,⟨_,_,_,HK.out.2.1,HK.out.2.2.2.2⟩,HK.out.1,HK.out.2.2.1,HK.out.2.2.2.1⟩
     case measure=>simp [intOf];omega
    go_simp
    refine hK.out _ _ hHeld (fun hHeld=>?_);clear hK K;try simp only [Ep]
    refine tq 7 24 rfl rfl ?_ ?_ ?_;rotate_left
    ·intro W' hSw;obtain ⟨s0,s1⟩:=hSw;go_simp;try with_reducible rfl
    try simp only [Ep]
    refine Rdy 2 rfl (fun K hK=>?_);go_simp
    obtain ⟨v1,hv⟩:∃ X,X=World.alloc wd (.cells #[] 3):=⟨_,rfl⟩;rw [← hv];have o1:v1.ownsRow wd.heap.size 3 1 (.slice (some ⟨wd.heap.size,0,none⟩) 0 0) 0 []:=by rw [hv];exact own_nil_rows _ _ _
    have B1:Below wd.heap.size wd v1:=by rw [hv];exact bal (Bs _) _
    have z1:wd.heap.size+1≤v1.heap.size:=by rw [hv];simp
    clear hv;replace g1:=Kc B1 g1;replace m1:=Kc B1 m1;replace hc:=Kc B1 hc;refine hK.out _ _ ⟨m1,hc⟩ (fun hHeld=>?_);clear hK K;try simp only [Ep]
    refine Rdy 8 rfl (fun K hK=>?_);refine step_aps tInts rfl _ _ rfl wd.heap.size _ 0 [] rfl o1 _ _ _ rfl (hu.below B1) (one_ints r) (by omega) (by omega) ?_;intro vR v2 oR h0 m0 _;try simp only [Nat.zero_add,List.nil_append] at oR
    obtain ⟨pR,tR,rfl⟩:=Oh oR;have B2:Below wd.heap.size wd v2:=B1.trans (h0.below wd.heap.size (by omega) (fun q hq h=>by have e:wd.heap.size=q:=Si h;omega));have l0:=oR.lt;have z2:=h0.size;replace g1:=Gc h0 g1 (fun h=>by have e:wd.heap.size=w2.heap.size:=Si h;omega);replace m1:=Gc h0 m1 (fun h=>by have e:wd.heap.size=w.heap.size:=Si h;omega);replace hc:=Gc h0 hc (fun h=>by have e:wd.heap.size=b:=Si h;omega);clear h0 m0 B1 o1;refine hK.out _ _ ⟨m1,hc⟩ (fun hHeld=>?_);clear hK K;try simp only [Act.put,sb]
    refine Rdy 9 rfl (fun K hK=>?_);go_simp
    obtain ⟨v3,hv⟩:∃ X,X=World.alloc v2 (.cells #[.slice pR r.length tR] 23):=⟨_,rfl⟩;rw [← hv];have c0:Below v2.heap.size v2 v3:=by rw [hv];exact bal (Bs _) _
    have RN:Reads v3 1 (.slice (some ⟨v2.heap.size,0,none⟩) 1 1) 1 [.slice pR r.length tR]:=by rw [hv];exact reads_new v2 [.slice pR r.length tR] 23 1 rfl
    clear hv;have z3:=c0.size;replace oR:=Ob oR c0;have B3:=btr B2 c0;replace g1:=Kc c0 g1;replace m1:=Kc c0 m1;replace hc:=Kc c0 hc;replace hO:=hO.below B3;have f0:=hO.outAt;clear B2 c0;refine hK.out _ _ ⟨m1,hc⟩ (fun hHeld=>?_);clear hK K;try simp only [Ep]
    refine Rdy 10 rfl (fun K hK=>?_);refine step_aps tIntSS rfl _ _ rfl w3.heap.size _ k us rfl f0 _ 1 _ rfl RN (by intro x hx;simp at hx;subst hx;rfl) (by omega) (by omega) ?_;intro vA v4 oA a0 k0 _;obtain ⟨pB,tB,rfl⟩:=Oh oA;have z4:=a0.size;have e0:∀ q,(Value.slice pa k ta).ownBlock=some q→w3.heap.size≤q∧q < wr.heap.size:=fun q h=>iO q (Or.inl h)
    have hP:=hO.push (v':=.slice pB (k+1) tB) (u:=.slice pR r.length tR) (r:=r) (by rw [n0.out];exact oA) a0 (Om oR (by omega)) (fun q h h2=>by have:=l0 q h;have:=iO q h2;omega) (by decide);rw [o0.out] at hP;replace g1:=Gc a0 g1 (fun h=>by have:=e0 _ h;omega);replace m1:=Gc a0 m1 (fun h=>by have:=e0 _ h;omega);replace hc:=Gc a0 hc (fun h=>by have:=e0 _ h;omega);have g0':=Gc a0 (Kc B3 g0) (fun h=>by have:=e0 _ h;omega);have gf':=Gf a0 (by omega) (Kf B3 (by omega) gf) (fun h=>by have:=e0 _ h;omega)
    have hD:Chg (fun q=>q=w2.heap.size) w3 v4:=by
     have h3:=p0.trans (Cb (S:=fun q=>q=w2.heap.size) B3);exact ⟨a0.os.trans h3.os,a0.tape.trans h3.tape,a0.output.trans h3.output,by omega,fun q hq hn=>(a0.block q (by have:=h3.size;omega) (fun h=>by have:=e0 q h;omega)).trans (h3.block q hq hn)⟩
    clear hO f0 RN oR oA a0 k0 B3 e0;refine hK.out _ _ ⟨m1,hc⟩ (fun hHeld=>?_);clear hK K;try simp only [Act.put,sb]
    refine tq 11 28 rfl rfl ?_ ?_ ?_;rotate_left
    ·intro W' hSw;obtain ⟨s0,s1⟩:=hSw;go_simp;try with_reducible rfl
    try simp only [Act.put]
    have x0:=Nn (b:=w2.heap.size) (j:=1) g0' (.slice pB (k+1) tB);have x1:=Tc v4 w2.heap.size 1 (.slice pB (k+1) tB) g1;have xf:=Fs (b:=⟨w2.heap.size,1,none⟩) gf' (.slice pB (k+1) tB);have hE:=hD.setCell w2.heap.size 1 (.slice pB (k+1) tB) (fun _=>rfl);have j0:=hP.lt;have i0:=hP.keep ((Chg.refl (fun q=>q=w2.heap.size) v4).setCell w2.heap.size 1 (.slice pB (k+1) tB) (fun _=>rfl)) (fun q h e=>by have:=j0 q h;omega);have HK:=Hi (Ai x0 (Ai x1 (Ai xf (Ai hE i0))));clear x0 x1 xf hE i0 hP hD j0;refine Rdy 12 rfl (fun K hK=>?_);go_simp
    refine hK.out _ _ ⟨Nn (b:=w2.heap.size) (j:=1) m1 _,Nn (b:=w2.heap.size) (j:=1) hc _⟩ (fun hHeld=>?_);clear hK K;refine Dn ?_;clear hHeld g1 m1 hc g0' gf';go_wp2
    go_roundw
    case rel=>exact ⟨k+1,by omega,by go_num,⟨_,_,_,HK.out.2.1,HK.out.2.2.2.2⟩,HK.out.1,HK.out.2.2.1,HK.out.2.2.2.1⟩
    case measure=>simp [intOf];omega
   ·go_simp
    obtain ⟨v1,hv⟩:∃ X,X=World.alloc wd (.cells #[] 3):=⟨_,rfl⟩;rw [← hv];have o1:v1.ownsRow wd.heap.size 3 1 (.slice (some ⟨wd.heap.size,0,none⟩) 0 0) 0 []:=by rw [hv];exact own_nil_rows _ _ _
    have B1:Below wd.heap.size wd v1:=by rw [hv];exact bal (Bs _) _
    have z1:wd.heap.size+1≤v1.heap.size:=by rw [hv];simp
    clear hv;replace g1:=Kc B1 g1;replace m1:=Kc B1 m1;replace hc:=Kc B1 hc;refine hK.out _ _ ⟨m1,hc⟩ (fun hHeld=>?_);clear hK K;try simp only [Ep]
    refine Rdy2 1 6 rfl rfl (fun K hK=>?_) (fun K hK=>?_)
    ·go_simp
     refine hK.out _ _ hHeld (fun hHeld=>?_);clear hK K;try simp only [Ep]
     refine Rdy 6 rfl (fun K hK=>?_);go_simp
     refine hK.out _ _ hHeld (fun hHeld=>?_);clear hK K;try simp only [Ep]
     refine tq 7 24 rfl rfl ?_ ?_ ?_;rotate_left
     ·intro W' hSw;obtain ⟨s0,s1⟩:=hSw;go_simp;try with_reducible rfl
     try simp only [Ep]
     refine Rdy 8 rfl (fun K hK=>?_);refine step_aps tInts rfl _ _ rfl wd.heap.size _ 0 [] rfl o1 _ _ _ rfl (hu.below B1) (one_ints r) (by omega) (by omega) ?_;intro vR v2 oR h0 m0 _;try simp only [Nat.zero_add,List.nil_append] at oR
     obtain ⟨pR,tR,rfl⟩:=Oh oR;have B2:Below wd.heap.size wd v2:=B1.trans (h0.below wd.heap.size (by omega) (fun q hq h=>by have e:wd.heap.size=q:=Si h;omega));have l0:=oR.lt;have z2:=h0.size;replace g1:=Gc h0 g1 (fun h=>by have e:wd.heap.size=w2.heap.size:=Si h;omega);replace m1:=Gc h0 m1 (fun h=>by have e:wd.heap.size=w.heap.size:=Si h;omega);replace hc:=Gc h0 hc (fun h=>by have e:wd.heap.size=b:=Si h;omega);clear h0 m0 B1 o1;refine hK.out _ _ ⟨m1,hc⟩ (fun hHeld=>?_);clear hK K;try simp only [Act.put,sb]
     refine Rdy 9 rfl (fun K hK=>?_);go_simp
     obtain ⟨v3,hv⟩:∃ X,X=World.alloc v2 (.cells #[.slice pR r.length tR] 23):=⟨_,rfl⟩;rw [← hv];have c0:Below v2.heap.size v2 v3:=by rw [hv];exact bal (Bs _) _
     have RN:Reads v3 1 (.slice (some ⟨v2.heap.size,0,none⟩) 1 1) 1 [.slice pR r.length tR]:=by rw [hv];exact reads_new v2 [.slice pR r.length tR] 23 1 rfl
     clear hv;have z3:=c0.size;replace oR:=Ob oR c0;have B3:=btr B2 c0;replace g1:=Kc c0 g1;replace m1:=Kc c0 m1;replace hc:=Kc c0 hc;replace hO:=hO.below B3;have f0:=hO.outAt;clear B2 c0;refine hK.out _ _ ⟨m1,hc⟩ (fun hHeld=>?_);clear hK K;try simp only [Ep]
     refine Rdy 10 rfl (fun K hK=>?_);refine step_aps tIntSS rfl _ _ rfl w3.heap.size _ k us rfl f0 _ 1 _ rfl RN (by intro x hx;simp at hx;subst hx;rfl) (by omega) (by omega) ?_;intro vA v4 oA a0 k0 _;obtain ⟨pB,tB,rfl⟩:=Oh oA;have z4:=a0.size;have e0:∀ q,(Value.slice pa k ta).ownBlock=some q→w3.heap.size≤q∧q < wr.heap.size:=fun q h=>iO q (Or.inl h)
     have hP:=hO.push (v':=.slice pB (k+1) tB) (u:=.slice pR r.length tR) (r:=r) (by rw [n0.out];exact oA) a0 (Om oR (by omega)) (fun q h h2=>by have:=l0 q h;have:=iO q h2;omega) (by decide);rw [o0.out] at hP;replace g1:=Gc a0 g1 (fun h=>by have:=e0 _ h;omega);replace m1:=Gc a0 m1 (fun h=>by have:=e0 _ h;omega);replace hc:=Gc a0 hc (fun h=>by have:=e0 _ h;omega);have g0':=Gc a0 (Kc B3 g0) (fun h=>by have:=e0 _ h;omega);have gf':=Gf a0 (by omega) (Kf B3 (by omega) gf) (fun h=>by have:=e0 _ h;omega)
     have hD:Chg (fun q=>q=w2.heap.size) w3 v4:=by
      have h3:=p0.trans (Cb (S:=fun q=>q=w2.heap.size) B3);exact ⟨a0.os.trans h3.os,a0.tape.trans h3.tape,a0.output.trans h3.output,by omega,fun q hq hn=>(a0.block q (by have:=h3.size;omega) (fun h=>by have:=e0 q h;omega)).trans (h3.block q hq hn)⟩
     clear hO f0 RN oR oA a0 k0 B3 e0;refine hK.out _ _ ⟨m1,hc⟩ (fun hHeld=>?_);clear hK K;try simp only [Act.put,sb]
     refine tq 11 28 rfl rfl ?_ ?_ ?_;rotate_left
     ·intro W' hSw;obtain ⟨s0,s1⟩:=hSw;go_simp;try with_reducible rfl
     try simp only [Act.put]
     have x0:=Nn (b:=w2.heap.size) (j:=1) g0' (.slice pB (k+1) tB);have x1:=Tc v4 w2.heap.size 1 (.slice pB (k+1) tB) g1;have xf:=Fs (b:=⟨w2.heap.size,1,none⟩) gf' (.slice pB (k+1) tB);have hE:=hD.setCell w2.heap.size 1 (.slice pB (k+1) tB) (fun _=>rfl);have j0:=hP.lt;have i0:=hP.keep ((Chg.refl (fun q=>q=w2.heap.size) v4).setCell w2.heap.size 1 (.slice pB (k+1) tB) (fun _=>rfl)) (fun q h e=>by have:=j0 q h;omega);have HK:=Hi (Ai x0 (Ai x1 (Ai xf (Ai hE i0))));clear x0 x1 xf hE i0 hP hD j0;refine Rdy 12 rfl (fun K hK=>?_);go_simp
     refine hK.out _ _ ⟨Nn (b:=w2.heap.size) (j:=1) m1 _,Nn (b:=w2.heap.size) (j:=1) hc _⟩ (fun hHeld=>?_);clear hK K;refine Dn ?_;clear hHeld g1 m1 hc g0' gf';go_wp2
     go_roundw
     case rel=>exact ⟨k+1,by omega,by go_num,⟨_,_,_,HK.out.2.1,HK.out.2.2.2.2⟩,HK.out.1,HK.out.2.2.1,HK.out.2.2.2.1⟩
     case measure=>simp [intOf];omega
    go_simp
    refine hK.out _ _ hHeld (fun hHeld=>?_);clear hK K;try simp only [Ep]
    refine tq 7 24 rfl rfl ?_ ?_ ?_;rotate_left
    ·intro W' hSw;obtain ⟨s0,s1⟩:=hSw;go_simp;try with_reducible rfl
    try simp only [Ep]
    refine Rdy2 1 8 rfl rfl (fun K hK=>?_) (fun K hK=>?_)
    ·go_simp
     refine hK.out _ _ hHeld (fun hHeld=>?_);clear hK K;try simp only [Ep]
     refine Rdy 8 rfl (fun K hK=>?_);refine step_aps tInts rfl _ _ rfl wd.heap.size _ 0 [] rfl o1 _ _ _ rfl (hu.below B1) (one_ints r) (by omega) (by omega) ?_;intro vR v2 oR h0 m0 _;try simp only [Nat.zero_add,List.nil_append] at oR
     obtain ⟨pR,tR,rfl⟩:=Oh oR;have B2:Below wd.heap.size wd v2:=B1.trans (h0.below wd.heap.size (by omega) (fun q hq h=>by have e:wd.heap.size=q:=Si h;omega));have l0:=oR.lt;have z2:=h0.size;replace g1:=Gc h0 g1 (fun h=>by have e:wd.heap.size=w2.heap.size:=Si h;omega);replace m1:=Gc h0 m1 (fun h=>by have e:wd.heap.size=w.heap.size:=Si h;omega);replace hc:=Gc h0 hc (fun h=>by have e:wd.heap.size=b:=Si h;omega);clear h0 m0 B1 o1;refine hK.out _ _ ⟨m1,hc⟩ (fun hHeld=>?_);clear hK K;try simp only [Act.put,sb]
     refine Rdy 9 rfl (fun K hK=>?_);go_simp
     obtain ⟨v3,hv⟩:∃ X,X=World.alloc v2 (.cells #[.slice pR r.length tR] 23):=⟨_,rfl⟩;rw [← hv];have c0:Below v2.heap.size v2 v3:=by rw [hv];exact bal (Bs _) _
     have RN:Reads v3 1 (.slice (some ⟨v2.heap.size,0,none⟩) 1 1) 1 [.slice pR r.length tR]:=by rw [hv];exact reads_new v2 [.slice pR r.length tR] 23 1 rfl
     clear hv;have z3:=c0.size;replace oR:=Ob oR c0;have B3:=btr B2 c0;replace g1:=Kc c0 g1;replace m1:=Kc c0 m1;replace hc:=Kc c0 hc;replace hO:=hO.below B3;have f0:=hO.outAt;clear B2 c0;refine hK.out _ _ ⟨m1,hc⟩ (fun hHeld=>?_);clear hK K;try simp only [Ep]
     refine Rdy 10 rfl (fun K hK=>?_);refine step_aps tIntSS rfl _ _ rfl w3.heap.size _ k us rfl f0 _ 1 _ rfl RN (by intro x hx;simp at hx;subst hx;rfl) (by omega) (by omega) ?_;intro vA v4 oA a0 k0 _;obtain ⟨pB,tB,rfl⟩:=Oh oA;have z4:=a0.size;have e0:∀ q,(Value.slice pa k ta).ownBlock=some q→w3.heap.size≤q∧q < wr.heap.size:=fun q h=>iO q (Or.inl h)
     have hP:=hO.push (v':=.slice pB (k+1) tB) (u:=.slice pR r.length tR) (r:=r) (by rw [n0.out];exact oA) a0 (Om oR (by omega)) (fun q h h2=>by have:=l0 q h;have:=iO q h2;omega) (by decide);rw [o0.out] at hP;replace g1:=Gc a0 g1 (fun h=>by have:=e0 _ h;omega);replace m1:=Gc a0 m1 (fun h=>by have:=e0 _ h;omega);replace hc:=Gc a0 hc (fun h=>by have:=e0 _ h;omega);have g0':=Gc a0 (Kc B3 g0) (fun h=>by have:=e0 _ h;omega);have gf':=Gf a0 (by omega) (Kf B3 (by omega) gf) (fun h=>by have:=e0 _ h;omega)
     have hD:Chg (fun q=>q=w2.heap.size) w3 v4:=by
      have h3:=p0.trans (Cb (S:=fun q=>q=w2.heap.size) B3);exact ⟨a0.os.trans h3.os,a0.tape.trans h3.tape,a0.output.trans h3.output,by omega,fun q hq hn=>(a0.block q (by have:=h3.size;omega) (fun h=>by have:=e0 q h;omega)).trans (h3.block q hq hn)⟩
     clear hO f0 RN oR oA a0 k0 B3 e0;refine hK.out _ _ ⟨m1,hc⟩ (fun hHeld=>?_);clear hK K;try simp only [Act.put,sb]
     refine tq 11 28 rfl rfl ?_ ?_ ?_;rotate_left
     ·intro W' hSw;obtain ⟨s0,s1⟩:=hSw;go_simp;try with_reducible rfl
     try simp only [Act.put]
     have x0:=Nn (b:=w2.heap.size) (j:=1) g0' (.slice pB (k+1) tB);have x1:=Tc v4 w2.heap.size 1 (.slice pB (k+1) tB) g1;have xf:=Fs (b:=⟨w2.heap.size,1,none⟩) gf' (.slice pB (k+1) tB);have hE:=hD.setCell w2.heap.size 1 (.slice pB (k+1) tB) (fun _=>rfl);have j0:=hP.lt;have i0:=hP.keep ((Chg.refl (fun q=>q=w2.heap.size) v4).setCell w2.heap.size 1 (.slice pB (k+1) tB) (fun _=>rfl)) (fun q h e=>by have:=j0 q h;omega);have HK:=Hi (Ai x0 (Ai x1 (Ai xf (Ai hE i0))));clear x0 x1 xf hE i0 hP hD j0;refine Rdy 12 rfl (fun K hK=>?_);go_simp
     refine hK.out _ _ ⟨Nn (b:=w2.heap.size) (j:=1) m1 _,Nn (b:=w2.heap.size) (j:=1) hc _⟩ (fun hHeld=>?_);clear hK K;refine Dn ?_;clear hHeld g1 m1 hc g0' gf';go_wp2
     go_roundw
     case rel=>exact ⟨k+1,by omega,by go_num,⟨_,_,_,HK.out.2.1,HK.out.2.2.2.2⟩,HK.out.1,HK.out.2.2.1,HK.out.2.2.2.1⟩
     case measure=>simp [intOf];omega
    refine step_aps tInts rfl _ _ rfl wd.heap.size _ 0 [] rfl o1 _ _ _ rfl (hu.below B1) (one_ints r) (by omega) (by omega) ?_;intro vR v2 oR h0 m0 _;try simp only [Nat.zero_add,List.nil_append] at oR
    obtain ⟨pR,tR,rfl⟩:=Oh oR;have B2:Below wd.heap.size wd v2:=B1.trans (h0.below wd.heap.size (by omega) (fun q hq h=>by have e:wd.heap.size=q:=Si h;omega));have l0:=oR.lt;have z2:=h0.size;replace g1:=Gc h0 g1 (fun h=>by have e:wd.heap.size=w2.heap.size:=Si h;omega);replace m1:=Gc h0 m1 (fun h=>by have e:wd.heap.size=w.heap.size:=Si h;omega);replace hc:=Gc h0 hc (fun h=>by have e:wd.heap.size=b:=Si h;omega);clear h0 m0 B1 o1;refine hK.out _ _ ⟨m1,hc⟩ (fun hHeld=>?_);clear hK K;try simp only [Act.put,sb]
    refine Rdy2 1 9 rfl rfl (fun K hK=>?_) (fun K hK=>?_)
    ·go_simp
     refine hK.out _ _ hHeld (fun hHeld=>?_);clear hK K;try simp only [Ep]
     refine Rdy 9 rfl (fun K hK=>?_);go_simp
     obtain ⟨v3,hv⟩:∃ X,X=World.alloc v2 (.cells #[.slice pR r.length tR] 23):=⟨_,rfl⟩;rw [← hv];have c0:Below v2.heap.size v2 v3:=by rw [hv];exact bal (Bs _) _
     have RN:Reads v3 1 (.slice (some ⟨v2.heap.size,0,none⟩) 1 1) 1 [.slice pR r.length tR]:=by rw [hv];exact reads_new v2 [.slice pR r.length tR] 23 1 rfl
     clear hv;have z3:=c0.size;replace oR:=Ob oR c0;have B3:=btr B2 c0;replace g1:=Kc c0 g1;replace m1:=Kc c0 m1;replace hc:=Kc c0 hc;replace hO:=hO.below B3;have f0:=hO.outAt;clear B2 c0;refine hK.out _ _ ⟨m1,hc⟩ (fun hHeld=>?_);clear hK K;try simp only [Ep]
     refine Rdy 10 rfl (fun K hK=>?_);refine step_aps tIntSS rfl _ _ rfl w3.heap.size _ k us rfl f0 _ 1 _ rfl RN (by intro x hx;simp at hx;subst hx;rfl) (by omega) (by omega) ?_;intro vA v4 oA a0 k0 _;obtain ⟨pB,tB,rfl⟩:=Oh oA;have z4:=a0.size;have e0:∀ q,(Value.slice pa k ta).ownBlock=some q→w3.heap.size≤q∧q < wr.heap.size:=fun q h=>iO q (Or.inl h)
     have hP:=hO.push (v':=.slice pB (k+1) tB) (u:=.slice pR r.length tR) (r:=r) (by rw [n0.out];exact oA) a0 (Om oR (by omega)) (fun q h h2=>by have:=l0 q h;have:=iO q h2;omega) (by decide);rw [o0.out] at hP;replace g1:=Gc a0 g1 (fun h=>by have:=e0 _ h;omega);replace m1:=Gc a0 m1 (fun h=>by have:=e0 _ h;omega);replace hc:=Gc a0 hc (fun h=>by have:=e0 _ h;omega);have g0':=Gc a0 (Kc B3 g0) (fun h=>by have:=e0 _ h;omega);have gf':=Gf a0 (by omega) (Kf B3 (by omega) gf) (fun h=>by have:=e0 _ h;omega)
     have hD:Chg (fun q=>q=w2.heap.size) w3 v4:=by
      have h3:=p0.trans (Cb (S:=fun q=>q=w2.heap.size) B3);exact ⟨a0.os.trans h3.os,a0.tape.trans h3.tape,a0.output.trans h3.output,by omega,fun q hq hn=>(a0.block q (by have:=h3.size;omega) (fun h=>by have:=e0 q h;omega)).trans (h3.block q hq hn)⟩
     clear hO f0 RN oR oA a0 k0 B3 e0;refine hK.out _ _ ⟨m1,hc⟩ (fun hHeld=>?_);clear hK K;try simp only [Act.put,sb]
     refine tq 11 28 rfl rfl ?_ ?_ ?_;rotate_left
     ·intro W' hSw;obtain ⟨s0,s1⟩:=hSw;go_simp;try with_reducible rfl
     try simp only [Act.put]
     have x0:=Nn (b:=w2.heap.size) (j:=1) g0' (.slice pB (k+1) tB);have x1:=Tc v4 w2.heap.size 1 (.slice pB (k+1) tB) g1;have xf:=Fs (b:=⟨w2.heap.size,1,none⟩) gf' (.slice pB (k+1) tB);have hE:=hD.setCell w2.heap.size 1 (.slice pB (k+1) tB) (fun _=>rfl);have j0:=hP.lt;have i0:=hP.keep ((Chg.refl (fun q=>q=w2.heap.size) v4).setCell w2.heap.size 1 (.slice pB (k+1) tB) (fun _=>rfl)) (fun q h e=>by have:=j0 q h;omega);have HK:=Hi (Ai x0 (Ai x1 (Ai xf (Ai hE i0))));clear x0 x1 xf hE i0 hP hD j0;refine Rdy 12 rfl (fun K hK=>?_);go_simp
     refine hK.out _ _ ⟨Nn (b:=w2.heap.size) (j:=1) m1 _,Nn (b:=w2.heap.size) (j:=1) hc _⟩ (fun hHeld=>?_);clear hK K;refine Dn ?_;clear hHeld g1 m1 hc g0' gf';go_wp2
     go_roundw
     case rel=>exact ⟨k+1,by omega,by go_num,⟨_,_,_,HK.out.2.1,HK.out.2.2.2.2⟩,HK.out.1,HK.out.2.2.1,HK.out.2.2.2.1⟩
     case measure=>simp [intOf];omega
    go_simp
    obtain ⟨v3,hv⟩:∃ X,X=World.alloc v2 (.cells #[.slice pR r.length tR] 23):=⟨_,rfl⟩;rw [← hv];have c0:Below v2.heap.size v2 v3:=by rw [hv];exact bal (Bs _) _
    have RN:Reads v3 1 (.slice (some ⟨v2.heap.size,0,none⟩) 1 1) 1 [.slice pR r.length tR]:=by rw [hv];exact reads_new v2 [.slice pR r.length tR] 23 1 rfl
    clear hv;have z3:=c0.size;replace oR:=Ob oR c0;have B3:=btr B2 c0;replace g1:=Kc c0 g1;replace m1:=Kc c0 m1;replace hc:=Kc c0 hc;replace hO:=hO.below B3;have f0:=hO.outAt;clear B2 c0;refine hK.out _ _ ⟨m1,hc⟩ (fun hHeld=>?_);clear hK K;try simp only [Ep]
    refine Rdy 1 rfl (fun K hK=>?_);go_simp
    refine hK.out _ _ hHeld (fun hHeld=>?_);clear hK K;try simp only [Ep]
    refine Rdy 10 rfl (fun K hK=>?_);refine step_aps tIntSS rfl _ _ rfl w3.heap.size _ k us rfl f0 _ 1 _ rfl RN (by intro x hx;simp at hx;subst hx;rfl) (by omega) (by omega) ?_;intro vA v4 oA a0 k0 _;obtain ⟨pB,tB,rfl⟩:=Oh oA;have z4:=a0.size;have e0:∀ q,(Value.slice pa k ta).ownBlock=some q→w3.heap.size≤q∧q < wr.heap.size:=fun q h=>iO q (Or.inl h)
    have hP:=hO.push (v':=.slice pB (k+1) tB) (u:=.slice pR r.length tR) (r:=r) (by rw [n0.out];exact oA) a0 (Om oR (by omega)) (fun q h h2=>by have:=l0 q h;have:=iO q h2;omega) (by decide);rw [o0.out] at hP;replace g1:=Gc a0 g1 (fun h=>by have:=e0 _ h;omega);replace m1:=Gc a0 m1 (fun h=>by have:=e0 _ h;omega);replace hc:=Gc a0 hc (fun h=>by have:=e0 _ h;omega);have g0':=Gc a0 (Kc B3 g0) (fun h=>by have:=e0 _ h;omega);have gf':=Gf a0 (by omega) (Kf B3 (by omega) gf) (fun h=>by have:=e0 _ h;omega)
    have hD:Chg (fun q=>q=w2.heap.size) w3 v4:=by
     have h3:=p0.trans (Cb (S:=fun q=>q=w2.heap.size) B3);exact ⟨a0.os.trans h3.os,a0.tape.trans h3.tape,a0.output.trans h3.output,by omega,fun q hq hn=>(a0.block q (by have:=h3.size;omega) (fun h=>by have:=e0 q h;omega)).trans (h3.block q hq hn)⟩
    clear hO f0 RN oR oA a0 k0 B3 e0;refine hK.out _ _ ⟨m1,hc⟩ (fun hHeld=>?_);clear hK K;try simp only [Act.put,sb]
    refine tq 11 28 rfl rfl ?_ ?_ ?_;rotate_left
    ·intro W' hSw;obtain ⟨s0,s1⟩:=hSw;go_simp;try with_reducible rfl
    try simp only [Act.put]
    have x0:=Nn (b:=w2.heap.size) (j:=1) g0' (.slice pB (k+1) tB);have x1:=Tc v4 w2.heap.size 1 (.slice pB (k+1) tB) g1;have xf:=Fs (b:=⟨w2.heap.size,1,none⟩) gf' (.slice pB (k+1) tB);have hE:=hD.setCell w2.heap.size 1 (.slice pB (k+1) tB) (fun _=>rfl);have j0:=hP.lt;have i0:=hP.keep ((Chg.refl (fun q=>q=w2.heap.size) v4).setCell w2.heap.size 1 (.slice pB (k+1) tB) (fun _=>rfl)) (fun q h e=>by have:=j0 q h;omega);have HK:=Hi (Ai x0 (Ai x1 (Ai xf (Ai hE i0))));clear x0 x1 xf hE i0 hP hD j0;refine Rdy 12 rfl (fun K hK=>?_);go_simp
    refine hK.out _ _ ⟨Nn (b:=w2.heap.size) (j:=1) m1 _,Nn (b:=w2.heap.size) (j:=1) hc _⟩ (fun hHeld=>?_);clear hK K;refine Dn ?_;clear hHeld g1 m1 hc g0' gf';go_wp2
    go_roundw
    case rel=>exact ⟨k+1,by omega,by go_num,⟨_,_,_,HK.out.2.1,HK.out.2.2.2.2⟩,HK.out.1,HK.out.2.2.1,HK.out.2.2.2.1⟩
    case measure=>simp [intOf];omega
   go_simp
   refine hK.out _ _ hHeld (fun hHeld=>?_);clear hK K;try simp only [Ep]
   refine tq 7 24 rfl rfl ?_ ?_ ?_;rotate_left
   ·intro W' hSw;obtain ⟨s0,s1⟩:=hSw;go_simp;try with_reducible rfl
   try simp only [Ep]
   refine Rdy2 1 2 rfl rfl (fun K hK=>?_) (fun K hK=>?_)
   ·go_simp
    refine hK.out _ _ hHeld (fun hHeld=>?_);clear hK K;try simp only [Ep]
    refine Rdy 2 rfl (fun K hK=>?_);go_simp
    obtain ⟨v1,hv⟩:∃ X,X=World.alloc wd (.cells #[] 3):=⟨_,rfl⟩;rw [← hv];have o1:v1.ownsRow wd.heap.size 3 1 (.slice (some ⟨wd.heap.size,0,none⟩) 0 0) 0 []:=by rw [hv];exact own_nil_rows _ _ _
    have B1:Below wd.heap.size wd v1:=by rw [hv];exact bal (Bs _) _
    have z1:wd.heap.size+1≤v1.heap.size:=by rw [hv];simp
    clear hv;replace g1:=Kc B1 g1;replace m1:=Kc B1 m1;replace hc:=Kc B1 hc;refine hK.out _ _ ⟨m1,hc⟩ (fun hHeld=>?_);clear hK K;try simp only [Ep]
    refine Rdy 8 rfl (fun K hK=>?_);refine step_aps tInts rfl _ _ rfl wd.heap.size _ 0 [] rfl o1 _ _ _ rfl (hu.below B1) (one_ints r) (by omega) (by omega) ?_;intro vR v2 oR h0 m0 _;try simp only [Nat.zero_add,List.nil_append] at oR
    obtain ⟨pR,tR,rfl⟩:=Oh oR;have B2:Below wd.heap.size wd v2:=B1.trans (h0.below wd.heap.size (by omega) (fun q hq h=>by have e:wd.heap.size=q:=Si h;omega));have l0:=oR.lt;have z2:=h0.size;replace g1:=Gc h0 g1 (fun h=>by have e:wd.heap.size=w2.heap.size:=Si h;omega);replace m1:=Gc h0 m1 (fun h=>by have e:wd.heap.size=w.heap.size:=Si h;omega);replace hc:=Gc h0 hc (fun h=>by have e:wd.heap.size=b:=Si h;omega);clear h0 m0 B1 o1;refine hK.out _ _ ⟨m1,hc⟩ (fun hHeld=>?_);clear hK K;try simp only [Act.put,sb]
    refine Rdy 9 rfl (fun K hK=>?_);go_simp
    obtain ⟨v3,hv⟩:∃ X,X=World.alloc v2 (.cells #[.slice pR r.length tR] 23):=⟨_,rfl⟩;rw [← hv];have c0:Below v2.heap.size v2 v3:=by rw [hv];exact bal (Bs _) _
    have RN:Reads v3 1 (.slice (some ⟨v2.heap.size,0,none⟩) 1 1) 1 [.slice pR r.length tR]:=by rw [hv];exact reads_new v2 [.slice pR r.length tR] 23 1 rfl
    clear hv;have z3:=c0.size;replace oR:=Ob oR c0;have B3:=btr B2 c0;replace g1:=Kc c0 g1;replace m1:=Kc c0 m1;replace hc:=Kc c0 hc;replace hO:=hO.below B3;have f0:=hO.outAt;clear B2 c0;refine hK.out _ _ ⟨m1,hc⟩ (fun hHeld=>?_);clear hK K;try simp only [Ep]
    refine Rdy 10 rfl (fun K hK=>?_);refine step_aps tIntSS rfl _ _ rfl w3.heap.size _ k us rfl f0 _ 1 _ rfl RN (by intro x hx;simp at hx;subst hx;rfl) (by omega) (by omega) ?_;intro vA v4 oA a0 k0 _;obtain ⟨pB,tB,rfl⟩:=Oh oA;have z4:=a0.size;have e0:∀ q,(Value.slice pa k ta).ownBlock=some q→w3.heap.size≤q∧q < wr.heap.size:=fun q h=>iO q (Or.inl h)
    have hP:=hO.push (v':=.slice pB (k+1) tB) (u:=.slice pR r.length tR) (r:=r) (by rw [n0.out];exact oA) a0 (Om oR (by omega)) (fun q h h2=>by have:=l0 q h;have:=iO q h2;omega) (by decide);rw [o0.out] at hP;replace g1:=Gc a0 g1 (fun h=>by have:=e0 _ h;omega);replace m1:=Gc a0 m1 (fun h=>by have:=e0 _ h;omega);replace hc:=Gc a0 hc (fun h=>by have:=e0 _ h;omega);have g0':=Gc a0 (Kc B3 g0) (fun h=>by have:=e0 _ h;omega);have gf':=Gf a0 (by omega) (Kf B3 (by omega) gf) (fun h=>by have:=e0 _ h;omega)
    have hD:Chg (fun q=>q=w2.heap.size) w3 v4:=by
     have h3:=p0.trans (Cb (S:=fun q=>q=w2.heap.size) B3);exact ⟨a0.os.trans h3.os,a0.tape.trans h3.tape,a0.output.trans h3.output,by omega,fun q hq hn=>(a0.block q (by have:=h3.size;omega) (fun h=>by have:=e0 q h;omega)).trans (h3.block q hq hn)⟩
    clear hO f0 RN oR oA a0 k0 B3 e0;refine hK.out _ _ ⟨m1,hc⟩ (fun hHeld=>?_);clear hK K;try simp only [Act.put,sb]
    refine tq 11 28 rfl rfl ?_ ?_ ?_;rotate_left
    ·intro W' hSw;obtain ⟨s0,s1⟩:=hSw;go_simp;try with_reducible rfl
    try simp only [Act.put]
    have x0:=Nn (b:=w2.heap.size) (j:=1) g0' (.slice pB (k+1) tB);have x1:=Tc v4 w2.heap.size 1 (.slice pB (k+1) tB) g1;have xf:=Fs (b:=⟨w2.heap.size,1,none⟩) gf' (.slice pB (k+1) tB);have hE:=hD.setCell w2.heap.size 1 (.slice pB (k+1) tB) (fun _=>rfl);have j0:=hP.lt;have i0:=hP.keep ((Chg.refl (fun q=>q=w2.heap.size) v4).setCell w2.heap.size 1 (.slice pB (k+1) tB) (fun _=>rfl)) (fun q h e=>by have:=j0 q h;omega);have HK:=Hi (Ai x0 (Ai x1 (Ai xf (Ai hE i0))));clear x0 x1 xf hE i0 hP hD j0;refine Rdy 12 rfl (fun K hK=>?_);go_simp
    refine hK.out _ _ ⟨Nn (b:=w2.heap.size) (j:=1) m1 _,Nn (b:=w2.heap.size) (j:=1) hc _⟩ (fun hHeld=>?_);clear hK K;refine Dn ?_;clear hHeld g1 m1 hc g0' gf';go_wp2
    go_roundw
    case rel=>exact ⟨k+1,by omega,by go_num,⟨_,_,_,HK.out.2.1,HK.out.2.2.2.2⟩,HK.out.1,HK.out.2.2.1,HK.out.2.2.2.1⟩
    case measure=>simp [intOf];omega
   go_simp
   obtain ⟨v1,hv⟩:∃ X,X=World.alloc wd (.cells #[] 3):=⟨_,rfl⟩;rw [← hv];have o1:v1.ownsRow wd.heap.size 3 1 (.slice (some ⟨wd.heap.size,0,none⟩) 0 0) 0 []:=by rw [hv];exact own_nil_rows _ _ _
   have B1:Below wd.heap.size wd v1:=by rw [hv];exact bal (Bs _) _
   have z1:wd.heap.size+1≤v1.heap.size:=by rw [hv];simp
   clear hv;replace g1:=Kc B1 g1;replace m1:=Kc B1 m1;replace hc:=Kc B1 hc;refine hK.out _ _ ⟨m1,hc⟩ (fun hHeld=>?_);clear hK K;try simp only [Ep]
   refine Rdy2 1 8 rfl rfl (fun K hK=>?_) (fun K hK=>?_)
   ·go_simp
    refine hK.out _ _ hHeld (fun hHeld=>?_);clear hK K;try simp only [Ep]
    refine Rdy 8 rfl (fun K hK=>?_);refine step_aps tInts rfl _ _ rfl wd.heap.size _ 0 [] rfl o1 _ _ _ rfl (hu.below B1) (one_ints r) (by omega) (by omega) ?_;intro vR v2 oR h0 m0 _;try simp only [Nat.zero_add,List.nil_append] at oR
    obtain ⟨pR,tR,rfl⟩:=Oh oR;have B2:Below wd.heap.size wd v2:=B1.trans (h0.below wd.heap.size (by omega) (fun q hq h=>by have e:wd.heap.size=q:=Si h;omega));have l0:=oR.lt;have z2:=h0.size;replace g1:=Gc h0 g1 (fun h=>by have e:wd.heap.size=w2.heap.size:=Si h;omega);replace m1:=Gc h0 m1 (fun h=>by have e:wd.heap.size=w.heap.size:=Si h;omega);replace hc:=Gc h0 hc (fun h=>by have e:wd.heap.size=b:=Si h;omega);clear h0 m0 B1 o1;refine hK.out _ _ ⟨m1,hc⟩ (fun hHeld=>?_);clear hK K;try simp only [Act.put,sb]
    refine Rdy 9 rfl (fun K hK=>?_);go_simp
    obtain ⟨v3,hv⟩:∃ X,X=World.alloc v2 (.cells #[.slice pR r.length tR] 23):=⟨_,rfl⟩;rw [← hv];have c0:Below v2.heap.size v2 v3:=by rw [hv];exact bal (Bs _) _
    have RN:Reads v3 1 (.slice (some ⟨v2.heap.size,0,none⟩) 1 1) 1 [.slice pR r.length tR]:=by rw [hv];exact reads_new v2 [.slice pR r.length tR] 23 1 rfl
    clear hv;have z3:=c0.size;replace oR:=Ob oR c0;have B3:=btr B2 c0;replace g1:=Kc c0 g1;replace m1:=Kc c0 m1;replace hc:=Kc c0 hc;replace hO:=hO.below B3;have f0:=hO.outAt;clear B2 c0;refine hK.out _ _ ⟨m1,hc⟩ (fun hHeld=>?_);clear hK K;try simp only [Ep]
    refine Rdy 10 rfl (fun K hK=>?_);refine step_aps tIntSS rfl _ _ rfl w3.heap.size _ k us rfl f0 _ 1 _ rfl RN (by intro x hx;simp at hx;subst hx;rfl) (by omega) (by omega) ?_;intro vA v4 oA a0 k0 _;obtain ⟨pB,tB,rfl⟩:=Oh oA;have z4:=a0.size;have e0:∀ q,(Value.slice pa k ta).ownBlock=some q→w3.heap.size≤q∧q < wr.heap.size:=fun q h=>iO q (Or.inl h)
    have hP:=hO.push (v':=.slice pB (k+1) tB) (u:=.slice pR r.length tR) (r:=r) (by rw [n0.out];exact oA) a0 (Om oR (by omega)) (fun q h h2=>by have:=l0 q h;have:=iO q h2;omega) (by decide);rw [o0.out] at hP;replace g1:=Gc a0 g1 (fun h=>by have:=e0 _ h;omega);replace m1:=Gc a0 m1 (fun h=>by have:=e0 _ h;omega);replace hc:=Gc a0 hc (fun h=>by have:=e0 _ h;omega);have g0':=Gc a0 (Kc B3 g0) (fun h=>by have:=e0 _ h;omega);have gf':=Gf a0 (by omega) (Kf B3 (by omega) gf) (fun h=>by have:=e0 _ h;omega)
    have hD:Chg (fun q=>q=w2.heap.size) w3 v4:=by
     have h3:=p0.trans (Cb (S:=fun q=>q=w2.heap.size) B3);exact ⟨a0.os.trans h3.os,a0.tape.trans h3.tape,a0.output.trans h3.output,by omega,fun q hq hn=>(a0.block q (by have:=h3.size;omega) (fun h=>by have:=e0 q h;omega)).trans (h3.block q hq hn)⟩
    clear hO f0 RN oR oA a0 k0 B3 e0;refine hK.out _ _ ⟨m1,hc⟩ (fun hHeld=>?_);clear hK K;try simp only [Act.put,sb]
    refine tq 11 28 rfl rfl ?_ ?_ ?_;rotate_left
    ·intro W' hSw;obtain ⟨s0,s1⟩:=hSw;go_simp;try with_reducible rfl
    try simp only [Act.put]
    have x0:=Nn (b:=w2.heap.size) (j:=1) g0' (.slice pB (k+1) tB);have x1:=Tc v4 w2.heap.size 1 (.slice pB (k+1) tB) g1;have xf:=Fs (b:=⟨w2.heap.size,1,none⟩) gf' (.slice pB (k+1) tB);have hE:=hD.setCell w2.heap.size 1 (.slice pB (k+1) tB) (fun _=>rfl);have j0:=hP.lt;have i0:=hP.keep ((Chg.refl (fun q=>q=w2.heap.size) v4).setCell w2.heap.size 1 (.slice pB (k+1) tB) (fun _=>rfl)) (fun q h e=>by have:=j0 q h;omega);have HK:=Hi (Ai x0 (Ai x1 (Ai xf (Ai hE i0))));clear x0 x1 xf hE i0 hP hD j0;refine Rdy 12 rfl (fun K hK=>?_);go_simp
    refine hK.out _ _ ⟨Nn (b:=w2.heap.size) (j:=1) m1 _,Nn (b:=w2.heap.size) (j:=1) hc _⟩ (fun hHeld=>?_);clear hK K;refine Dn ?_;clear hHeld g1 m1 hc g0' gf';go_wp2
    go_roundw
    case rel=>exact ⟨k+1,by omega,by go_num,⟨_,_,_,HK.out.2.1,HK.out.2.2.2.2⟩,HK.out.1,HK.out.2.2.1,HK.out.2.2.2.1⟩
    case measure=>simp [intOf];omega
   refine step_aps tInts rfl _ _ rfl wd.heap.size _ 0 [] rfl o1 _ _ _ rfl (hu.below B1) (one_ints r) (by omega) (by omega) ?_;intro vR v2 oR h0 m0 _;try simp only [Nat.zero_add,List.nil_append] at oR
   obtain ⟨pR,tR,rfl⟩:=Oh oR;have B2:Below wd.heap.size wd v2:=B1.trans (h0.below wd.heap.size (by omega) (fun q hq h=>by have e:wd.heap.size=q:=Si h;omega));have l0:=oR.lt;have z2:=h0.size;replace g1:=Gc h0 g1 (fun h=>by have e:wd.heap.size=w2.heap.size:=Si h;omega);replace m1:=Gc h0 m1 (fun h=>by have e:wd.heap.size=w.heap.size:=Si h;omega);replace hc:=Gc h0 hc (fun h=>by have e:wd.heap.size=b:=Si h;omega);clear h0 m0 B1 o1;refine hK.out _ _ ⟨m1,hc⟩ (fun hHeld=>?_);clear hK K;try simp only [Act.put,sb]
   refine Rdy2 1 9 rfl rfl (fun K hK=>?_) (fun K hK=>?_)
   ·go_simp
    refine hK.out _ _ hHeld (fun hHeld=>?_);clear hK K;try simp only [Ep]
    refine Rdy 9 rfl (fun K hK=>?_);go_simp
    obtain ⟨v3,hv⟩:∃ X,X=World.alloc v2 (.cells #[.slice pR r.length tR] 23):=⟨_,rfl⟩;rw [← hv];have c0:Below v2.heap.size v2 v3:=by rw [hv];exact bal (Bs _) _
    have RN:Reads v3 1 (.slice (some ⟨v2.heap.size,0,none⟩) 1 1) 1 [.slice pR r.length tR]:=by rw [hv];exact reads_new v2 [.slice pR r.length tR] 23 1 rfl
    clear hv;have z3:=c0.size;replace oR:=Ob oR c0;have B3:=btr B2 c0;replace g1:=Kc c0 g1;replace m1:=Kc c0 m1;replace hc:=Kc c0 hc;replace hO:=hO.below B3;have f0:=hO.outAt;clear B2 c0;refine hK.out _ _ ⟨m1,hc⟩ (fun hHeld=>?_);clear hK K;try simp only [Ep]
    refine Rdy 10 rfl (fun K hK=>?_);refine step_aps tIntSS rfl _ _ rfl w3.heap.size _ k us rfl f0 _ 1 _ rfl RN (by intro x hx;simp at hx;subst hx;rfl) (by omega) (by omega) ?_;intro vA v4 oA a0 k0 _;obtain ⟨pB,tB,rfl⟩:=Oh oA;have z4:=a0.size;have e0:∀ q,(Value.slice pa k ta).ownBlock=some q→w3.heap.size≤q∧q < wr.heap.size:=fun q h=>iO q (Or.inl h)
    have hP:=hO.push (v':=.slice pB (k+1) tB) (u:=.slice pR r.length tR) (r:=r) (by rw [n0.out];exact oA) a0 (Om oR (by omega)) (fun q h h2=>by have:=l0 q h;have:=iO q h2;omega) (by decide);rw [o0.out] at hP;replace g1:=Gc a0 g1 (fun h=>by have:=e0 _ h;omega);replace m1:=Gc a0 m1 (fun h=>by have:=e0 _ h;omega);replace hc:=Gc a0 hc (fun h=>by have:=e0 _ h;omega);have g0':=Gc a0 (Kc B3 g0) (fun h=>by have:=e0 _ h;omega);have gf':=Gf a0 (by omega) (Kf B3 (by omega) gf) (fun h=>by have:=e0 _ h;omega)
    have hD:Chg (fun q=>q=w2.heap.size) w3 v4:=by
     have h3:=p0.trans (Cb (S:=fun q=>q=w2.heap.size) B3);exact ⟨a0.os.trans h3.os,a0.tape.trans h3.tape,a0.output.trans h3.output,by omega,fun q hq hn=>(a0.block q (by have:=h3.size;omega) (fun h=>by have:=e0 q h;omega)).trans (h3.block q hq hn)⟩
    clear hO f0 RN oR oA a0 k0 B3 e0;refine hK.out _ _ ⟨m1,hc⟩ (fun hHeld=>?_);clear hK K;try simp only [Act.put,sb]
    refine tq 11 28 rfl rfl ?_ ?_ ?_;rotate_left
    ·intro W' hSw;obtain ⟨s0,s1⟩:=hSw;go_simp;try with_reducible rfl
    try simp only [Act.put]
    have x0:=Nn (b:=w2.heap.size) (j:=1) g0' (.slice pB (k+1) tB);have x1:=Tc v4 w2.heap.size 1 (.slice pB (k+1) tB) g1;have xf:=Fs (b:=⟨w2.heap.size,1,none⟩) gf' (.slice pB (k+1) tB);have hE:=hD.setCell w2.heap.size 1 (.slice pB (k+1) tB) (fun _=>rfl);have j0:=hP.lt;have i0:=hP.keep ((Chg.refl (fun q=>q=w2.heap.size) v4).setCell w2.heap.size 1 (.slice pB (k+1) tB) (fun _=>rfl)) (fun q h e=>by have:=j0 q h;omega);have HK:=Hi (Ai x0 (Ai x1 (Ai xf (Ai hE i0))));clear x0 x1 xf hE i0 hP hD j0;refine Rdy 12 rfl (fun K hK=>?_);go_simp
    refine hK.out _ _ ⟨Nn (b:=w2.heap.size) (j:=1) m1 _,Nn (b:=w2.heap.size) (j:=1) hc _⟩ (fun hHeld=>?_);clear hK K;refine Dn ?_;clear hHeld g1 m1 hc g0' gf';go_wp2
    go_roundw
    case rel=>exact ⟨k+1,by omega,by go_num,⟨_,_,_,HK.out.2.1,HK.out.2.2.2.2⟩,HK.out.1,HK.out.2.2.1,HK.out.2.2.2.1⟩
    case measure=>simp [intOf];omega
   go_simp
   obtain ⟨v3,hv⟩:∃ X,X=World.alloc v2 (.cells #[.slice pR r.length tR] 23):=⟨_,rfl⟩;rw [← hv];have c0:Below v2.heap.size v2 v3:=by rw [hv];exact bal (Bs _) _
   have RN:Reads v3 1 (.slice (some ⟨v2.heap.size,0,none⟩) 1 1) 1 [.slice pR r.length tR]:=by rw [hv];exact reads_new v2 [.slice pR r.length tR] 23 1 rfl
   clear hv;have z3:=c0.size;replace oR:=Ob oR c0;have B3:=btr B2 c0;replace g1:=Kc c0 g1;replace m1:=Kc c0 m1;replace hc:=Kc c0 hc;replace hO:=hO.below B3;have f0:=hO.outAt;clear B2 c0;refine hK.out _ _ ⟨m1,hc⟩ (fun hHeld=>?_);clear hK K;try simp only [Ep]
   refine Rdy 1 rfl (fun K hK=>?_);go_simp
   refine hK.out _ _ hHeld (fun hHeld=>?_);clear hK K;try simp only [Ep]
   refine Rdy 10 rfl (fun K hK=>?_);refine step_aps tIntSS rfl _ _ rfl w3.heap.size _ k us rfl f0 _ 1 _ rfl RN (by intro x hx;simp at hx;subst hx;rfl) (by omega) (by omega) ?_;intro vA v4 oA a0 k0 _;obtain ⟨pB,tB,rfl⟩:=Oh oA;have z4:=a0.size;have e0:∀ q,(Value.slice pa k ta).ownBlock=some q→w3.heap.size≤q∧q < wr.heap.size:=fun q h=>iO q (Or.inl h)
   have hP:=hO.push (v':=.slice pB (k+1) tB) (u:=.slice pR r.length tR) (r:=r) (by rw [n0.out];exact oA) a0 (Om oR (by omega)) (fun q h h2=>by have:=l0 q h;have:=iO q h2;omega) (by decide);rw [o0.out] at hP;replace g1:=Gc a0 g1 (fun h=>by have:=e0 _ h;omega);replace m1:=Gc a0 m1 (fun h=>by have:=e0 _ h;omega);replace hc:=Gc a0 hc (fun h=>by have:=e0 _ h;omega);have g0':=Gc a0 (Kc B3 g0) (fun h=>by have:=e0 _ h;omega);have gf':=Gf a0 (by omega) (Kf B3 (by omega) gf) (fun h=>by have:=e0 _ h;omega)
   have hD:Chg (fun q=>q=w2.heap.size) w3 v4:=by
    have h3:=p0.trans (Cb (S:=fun q=>q=w2.heap.size) B3);exact ⟨a0.os.trans h3.os,a0.tape.trans h3.tape,a0.output.trans h3.output,by omega,fun q hq hn=>(a0.block q (by have:=h3.size;omega) (fun h=>by have:=e0 q h;omega)).trans (h3.block q hq hn)⟩
   clear hO f0 RN oR oA a0 k0 B3 e0;refine hK.out _ _ ⟨m1,hc⟩ (fun hHeld=>?_);clear hK K;try simp only [Act.put,sb]
   refine tq 11 28 rfl rfl ?_ ?_ ?_;rotate_left
   ·intro W' hSw;obtain ⟨s0,s1⟩:=hSw;go_simp;try with_reducible rfl
   try simp only [Act.put]
   have x0:=Nn (b:=w2.heap.size) (j:=1) g0' (.slice pB (k+1) tB);have x1:=Tc v4 w2.heap.size 1 (.slice pB (k+1) tB) g1;have xf:=Fs (b:=⟨w2.heap.size,1,none⟩) gf' (.slice pB (k+1) tB);have hE:=hD.setCell w2.heap.size 1 (.slice pB (k+1) tB) (fun _=>rfl);have j0:=hP.lt;have i0:=hP.keep ((Chg.refl (fun q=>q=w2.heap.size) v4).setCell w2.heap.size 1 (.slice pB (k+1) tB) (fun _=>rfl)) (fun q h e=>by have:=j0 q h;omega);have HK:=Hi (Ai x0 (Ai x1 (Ai xf (Ai hE i0))));clear x0 x1 xf hE i0 hP hD j0;refine Rdy 12 rfl (fun K hK=>?_);go_simp
   refine hK.out _ _ ⟨Nn (b:=w2.heap.size) (j:=1) m1 _,Nn (b:=w2.heap.size) (j:=1) hc _⟩ (fun hHeld=>?_);clear hK K;refine Dn ?_;clear hHeld g1 m1 hc g0' gf';go_wp2
   go_roundw
   case rel=>exact ⟨k+1,by omega,by go_num,⟨_,_,_,HK.out.2.1,HK.out.2.2.2.2⟩,HK.out.1,HK.out.2.2.1,HK.out.2.2.2.1⟩
   case measure=>simp [intOf];omega
  have ek:k=m.arrs.length:=by omega
  subst ek;rw [List.take_length] at hO;have s0:=Gc hC r0 (by omega);have r2:=Gf hC (by have:=Lc r0;omega) q0 (by omega);have s1:=Gc hC r1 (by omega);have s2:=Gf hC (by have:=Lc r1;omega) q1 (by omega);have e2:=Ow oX hC (fun q h e=>by have:=i1 q h;omega);have ks:=Lc s0;have x0:=Nn (b:=w.heap.size+1) (j:=1) (Tc _ (w.heap.size+1) 0 (.slice pX m.vals.length tX) s0) (.slice pa m.arrs.length ta);have x1:=Tc _ (w.heap.size+1) 1 (.slice pa m.arrs.length ta) (Nn (b:=w.heap.size+1) (j:=0) s1 (.slice pX m.vals.length tX));have c1:Chg (fun q=>q=w.heap.size+1) wr ((wr.setCell ⟨w.heap.size+1,0,none⟩ (.slice pX m.vals.length tX)).setCell ⟨w.heap.size+1,1,none⟩ (.slice pa m.arrs.length ta)):=((Chg.refl (fun q=>q=w.heap.size+1) wr).setCell (w.heap.size+1) 0 (.slice pX m.vals.length tX) (fun _=>rfl)).setCell (w.heap.size+1) 1 (.slice pa m.arrs.length ta) (fun _=>rfl);have yO:=(hO.keep c1 (fun q h e=>by have:=iO q h;omega)).mono (base':=w.heap.size) (by omega);have yX:=Om (Ow e2 c1 (fun q h e=>by have:=i1 q h;omega)) (base':=w.heap.size) (by omega);have n1:∀ q,(Value.slice pX m.vals.length tX).ownBlock=some q→¬OwnB2 (.slice pa m.arrs.length ta) us q:=fun q h h2=>by have:=i1 q h;have:=iO q h2;omega
  have zB:=bst (bst hB (w.heap.size+1) 0 (by omega) (.slice pX m.vals.length tX)) (w.heap.size+1) 1 (by omega) (.slice pa m.arrs.length ta);have HE:=Hi (Ai yX (Ai yO (Ai n1 zB)));clear hO hC c1 yO yX e2 n1 zB;go_wp2
  exact bodyPost_ret (v:=.agg #[.slice pX m.vals.length tX,.slice pa m.arrs.length ta]) (by simp [results,Tryz.results30,go_sem,x0,x1]) rfl (by exact ⟨_,_,_,rfl,HE.out.1,HE.out.2.1,HE.out.2.2.1,HE.out.2.2.2⟩)
end Go.Proofs.YtlckklglbodgbaaGreat
