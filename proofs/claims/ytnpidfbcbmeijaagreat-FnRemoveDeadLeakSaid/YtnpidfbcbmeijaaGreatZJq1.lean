/-
 Parts of the proofs of the laws FnRemoveDead,FnRemoveDeadLeak,FnSpecFenced,FnSpecMemory.
-/
import Derived.Test.YtnpidfbcbmeijaaGreatWB
set_option linter.all false
namespace Go.Proofs.YtnpidfbcbmeijaaGreat
open Go.RowKit
theorem rd_at {w:World} {a:Option Addr} {c:Nat} {zs:List Int} (h:Reads w 1 (.slice a zs.length c) zs.length (ints zs)) (k:Nat) (hk:k < zs.length):∃ b o,a=some ⟨b,o,none⟩∧b < w.heap.size∧∃ y:Int,w.cell? ⟨b,o+k,none⟩=some (.int .i64 y):=by
 obtain ⟨_,_,a',c',b,o,hv,_,ha,a0⟩:=h;simp only [Value.slice.injEq,true_and] at hv;obtain ⟨rfl,rfl⟩:=hv;obtain ⟨e,hb⟩:=ha (by omega);exact ⟨b,o,e,hb,zs[k],by rw [a0 k (by simp [ints];exact hk)];simp [ints]⟩
section
variable {w:World} {base n g c:Nat} {v:Value} {us:List Value}
theorem OwnY.pos (h:OwnY w base v us n) (hn:0 < n):∃ g c,v=.slice (some ⟨g,0,none⟩) n c:=by
 obtain ⟨L,rfl,_,h3⟩:=h.h;exact own_pos h3.out hn
theorem OwnY.cellU (h:OwnY w base (.slice (some ⟨g,0,none⟩) n c) us n) {k:Nat} {u:Value} (hu:us[k]? = some u):w.cell? ⟨g,k,none⟩=some u:=by
 obtain ⟨L,rfl,_,h3⟩:=h.h;have hk:k < us.length:=(List.getElem?_eq_some_iff.1 hu).1;have hl:=h3.len;rw [h3.outAt.cellAt k (by omega)];exact hu
theorem OwnY.intAt {k gr l t:Nat} (h:OwnY w base v us n) (hu:us[k]? = some (.slice (some ⟨gr,0,none⟩) l t)) (j:Nat) (hj:j < l):(∃ x:Int,w.cell? ⟨gr,j,none⟩=some (.int .i64 x))∧w.frozen? ⟨gr,j,none⟩=false:=by
 obtain ⟨L,_,_,h3⟩:=h.h;have hk:k < us.length:=(List.getElem?_eq_some_iff.1 hu).1;have a0:k < L.length:=by rw [← h3.len];exact hk
 have ho:=h3.row k _ _ hu (List.getElem?_eq_getElem a0);have e:l=L[k].length:=by obtain ⟨a',c',hs⟩:=Oh ho;simp only [Value.slice.injEq] at hs;exact hs.2.1
 subst e;exact ⟨⟨L[k][j],by rw [ho.cellAt j (by omega),ints_at _ _ hj]⟩,ho.frozenAt j⟩
end
def SecP (n0 n1 B g p:Nat) (w:World) (r:Ending) (w':World):Prop:=∃ (ux uy:Value) (m':Mm) (p':Nat),r=.returned (.agg #[ux,uy])∧DrM w' w.heap.size ux uy m'∧m'.vals.length≤n0∧m'.arrs.length≤n1∧Rnd w' B g p'∧p'≤p+6000∧Chg (fun q=>q=g) w w'
set_option maxHeartbeats 6400000 in
set_option maxRecDepth 100000 in
theorem l3Secrets_any (va vb u0:Value) (zs ys:List Int) (vx vy:Value) (m:Mm) (bit:Int) (B g p:Nat) (w:World) (ra:Reads w 1 va zs.length (ints zs)) (rb:Reads w 1 vb ys.length (ints ys)) (ha:∀ b o c,va=.slice (some ⟨b,o,none⟩) zs.length c→¬b=g) (hb:∀ b o c,vb=.slice (some ⟨b,o,none⟩) ys.length c→¬b=g) (hm:ReadsM w vx vy m) (h0:m.vals.length≤1005) (h1:m.arrs.length≤1005) (h2:∀ r ∈ m.arrs,3≤r.length∧r.length≤4) (hR:Rnd w B g p) (hp:p+6000≤1000000000) :
  Calls Tryz.prog 52 #[.pointer (some ⟨g,0,none⟩),.agg #[va,vb,u0],.agg #[vx,vy],.int .i64 bit] w fun r w'=>SecP m.vals.length m.arrs.length B g p w r w':=by
 obtain ⟨a0,c0,a1,c1,rfl,rfl⟩:=hm.shape;obtain ⟨z0,t0,rfl⟩:=reads_shape ra;obtain ⟨z1,t1,rfl⟩:=reads_shape rb;have iA:∀ b o c,0 < zs.length→Value.slice z0 zs.length t0=.slice (some ⟨b,o,none⟩) zs.length c→b < w.heap.size∧¬b=g:=fun b o c h e=>⟨reads_lt ra b o c h e,ha b o c e⟩
 have iB:∀ b o c,0 < ys.length→Value.slice z1 ys.length t1=.slice (some ⟨b,o,none⟩) ys.length c→b < w.heap.size∧¬b=g:=fun b o c h e=>⟨reads_lt rb b o c h e,hb b o c e⟩
 have x2:pre2 m.arrs m.arrs.length≤4*m.arrs.length:=pre2_le m.arrs 4 (fun k r hr=>(h2 r (List.mem_of_getElem? hr)).2) _ Lr;have HM:=Hi (fun W (hW:Below w.heap.size w W)=>hm.below hW);have H2:=Hi h2;clear hm h2 ha hb;obtain ⟨xs,L⟩:=m;simp only at h0 h1 x2 HM H2 ⊢
 generalize hxx:xs.length=n0 at *
 generalize hll:L.length=n1 at *
 have o1:=Hi hxx;have m1:=Hi hll;clear hxx hll;have hg:=hR.lt;have hC:Chg (fun k=>k=g) w w:=Chg.refl _ _;have w0:∀ q,(fun k=>k=g) q→q=g:=fun q h=>h
 go_enter Tryz.func52,Tryz.ntmps52
 go_wp2_with fail
 refine (l3Copy_any _ _ ⟨xs,L⟩ _ (HM.out _ (bal (bal (bal (Bs w) (.cells #[.slice z0 zs.length t0,.slice z1 ys.length t1,u0] 57)) (.cells #[.slice a0 n0 c0,.slice a1 n1 c1] 29)) (.cells #[.slice none 0 0,.slice none 0 0] 29))).x (HM.out _ (bal (bal (bal (Bs w) (.cells #[.slice z0 zs.length t0,.slice z1 ys.length t1,u0] 57)) (.cells #[.slice a0 n0 c0,.slice a1 n1 c1] 29)) (.cells #[.slice none 0 0,.slice none 0 0] 29))).y (by simp only;rw [o1.out];omega) (by simp only;rw [m1.out];omega) (by simp only;rw [m1.out];omega)).mono ?_;rintro e w1 ⟨ux,uy,us,rfl,y1,a2,s2,hb⟩;simp only [Sa] at y1 a2;have oX:OwnR w1 _ _ n0:=⟨xs,o1.out,by have:=y1;rw [o1.out] at this;exact this⟩;have oY:OwnY w1 _ _ us n1:=⟨L,m1.out,H2.out,a2⟩;clear y1 a2 H2 HM x2 o1 m1;clear xs L;obtain ⟨px,tx,rfl⟩:∃ a c,ux=.slice a n0 c:=by obtain ⟨zz,_,h2⟩:=oX.h;exact Oh h2
 obtain ⟨py,ty,rfl⟩:∃ a c,uy=.slice a n1 c:=by obtain ⟨zz,h1,_,h2⟩:=oY.h;rw [← h1];exact h2.shape
 replace hC:=((((hC.trans (Cb (bal (Bs _) _))).trans (Cb (bal (Bs _) _))).trans (Cb (bal (Bs _) _)))).trans (Cb hb);replace hR:=(((hR.below (bal (Bs _) _)).below (bal (Bs _) _)).below (bal (Bs _) _)).below hb;have u1:=hb.size;simp only [Sa] at u1;replace ra:=(((ra.below (bal (Bs _) _)).below (bal (Bs _) _)).below (bal (Bs _) _)).below hb;replace rb:=(((rb.below (bal (Bs _) _)).below (bal (Bs _) _)).below (bal (Bs _) _)).below hb;have f1:Bk w1 (w.heap.size) [.slice z0 zs.length t0,.slice z1 ys.length t1,u0]:=Bb (Bk.al (Bk.al (Bk.nw (by simp) rfl) (.cells #[.slice a0 n0 c0,.slice a1 n1 c1] 29)) (.cells #[.slice none 0 0,.slice none 0 0] 29)) hb;have p1:Bk w1 (w.heap.size+1) [.slice a0 n0 c0,.slice a1 n1 c1]:=Bb (Bk.al (Bk.nw (by simp) rfl) (.cells #[.slice none 0 0,.slice none 0 0] 29)) hb;have g1:Bk w1 (w.heap.size+1+1) [.slice none 0 0,.slice none 0 0]:=Bb (Bk.nw (by simp) rfl) hb;clear hb;have o5:=Bk.lz f1;have p5:=Bk.lz p1;have q5:=Bk.lz g1;have iX:=oX.lt;have iY:=oY.lt;go_upto_region 2 with (fail)
 obtain ⟨w2,s0,hb⟩:=nmw (World.alloc w1 (.cells #[.slice px n0 tx,.slice py n1 ty] 29));replace hC:=((hC.trans (Cb (bal (Bs _) _)))).trans (Cb hb);replace hR:=(hR.below (bal (Bs _) _)).below hb;replace oX:=(oX.below (bal (Bs _) _)).below hb;replace oY:=(oY.below (bal (Bs _) _)).below hb;have v1:=hb.size;simp only [Sa] at v1;replace ra:=(ra.below (bal (Bs _) _)).below hb;replace rb:=(rb.below (bal (Bs _) _)).below hb;replace f1:=Bb (Bk.al f1 _) hb;replace p1:=Bb (Bk.al p1 _) hb;replace g1:=Bb (Bk.al g1 _) hb;have r1:Bk w2 (w1.heap.size) [.slice px n0 tx,.slice py n1 ty]:=Bb (Bk.nw (by simp) rfl) hb;clear hb;rw [← s0];clear s0;have n3:=Bk.lz r1;clear p1;have x1:∀ q,(Value.slice px n0 tx).ownBlock=some q→w.heap.size+1+1+1≤q∧q < w2.heap.size∧¬q=w.heap.size∧¬q=w.heap.size+1+1∧¬q=w1.heap.size:=fun q h=>by have:=iX q h;omega
 have q1:∀ q,OwnB2 (.slice py n1 ty) us q→w.heap.size+1+1+1≤q∧q < w2.heap.size∧¬q=w.heap.size∧¬q=w.heap.size+1+1∧¬q=w1.heap.size:=fun q h=>by have:=iY q h;omega
 clear iX iY;have k3:w.heap.size < w2.heap.size∧w.heap.size+1+1 < w2.heap.size∧w1.heap.size < w2.heap.size∧w.heap.size≤w.heap.size∧w.heap.size≤w.heap.size+1+1∧w.heap.size≤w1.heap.size∧g < w.heap.size∧w.heap.size≤w2.heap.size:=by omega
 have g0:w2.heap.size≤w2.heap.size:=Lr;have d0:=f1;clear f1;have f0:=g1;clear g1;have b0:=r1;clear r1;go_upto_block 0 with (fail)
 go_cut [] (fun wx=>∃ pk:Nat,OwnR wx (w.heap.size+1+1+1) (.slice px n0 tx) n0∧OwnY wx (w.heap.size+1+1+1) (.slice py n1 ty) us n1∧Bk wx (w.heap.size) [.slice z0 zs.length t0,.slice z1 ys.length t1,u0]∧Bk wx (w.heap.size+1+1) [.slice none 0 0,.slice none 0 0]∧Bk wx (w1.heap.size) [.slice px n0 tx,.slice py n1 ty]∧Reads wx 1 (.slice z0 zs.length t0) zs.length (ints zs)∧Reads wx 1 (.slice z1 ys.length t1) ys.length (ints ys)∧Rnd wx B g pk∧pk≤p+n0∧Chg (fun q=>q=g) w wx∧w2.heap.size≤wx.heap.size)
 case first =>
  have o3:=Bk.lz d0;have p3:=Bk.lz f0;have q3:=Bk.lz b0;have r0:Hid (∃ (k pk:Nat),Value.int .i64 0=.int .i64 k∧k≤n0∧OwnR w2 (w.heap.size+1+1+1) (.slice px n0 tx) n0∧OwnY w2 (w.heap.size+1+1+1) (.slice py n1 ty) us n1∧Bk w2 (w.heap.size) [.slice z0 zs.length t0,.slice z1 ys.length t1,u0]∧Bk w2 (w.heap.size+1+1) [.slice none 0 0,.slice none 0 0]∧Bk w2 (w1.heap.size) [.slice px n0 tx,.slice py n1 ty]∧Reads w2 1 (.slice z0 zs.length t0) zs.length (ints zs)∧Reads w2 1 (.slice z1 ys.length t1) ys.length (ints ys)∧Rnd w2 B g pk∧pk≤p+k∧Chg (fun q=>q=g) w w2∧w2.heap.size≤w2.heap.size):=Hi ⟨0,p,rfl,Nat.zero_le _,oX,oY,d0,f0,b0,ra,rb,hR,by omega,hC,g0⟩;clear hR hC g0 oX oY d0 f0 b0 ra rb;go_wp2_with fail
  go_loopw [10] (fun i wr=>∃ (k pk:Nat),i=.int .i64 k∧k≤n0∧OwnR wr (w.heap.size+1+1+1) (.slice px n0 tx) n0∧OwnY wr (w.heap.size+1+1+1) (.slice py n1 ty) us n1∧Bk wr (w.heap.size) [.slice z0 zs.length t0,.slice z1 ys.length t1,u0]∧Bk wr (w.heap.size+1+1) [.slice none 0 0,.slice none 0 0]∧Bk wr (w1.heap.size) [.slice px n0 tx,.slice py n1 ty]∧Reads wr 1 (.slice z0 zs.length t0) zs.length (ints zs)∧Reads wr 1 (.slice z1 ys.length t1) ys.length (ints ys)∧Rnd wr B g pk∧pk≤p+k∧Chg (fun q=>q=g) w wr∧w2.heap.size≤wr.heap.size) (fun i _=>n0-(intOf i).toNat)
  case atStart=>exact r0.out
  case round =>
   obtain ⟨k,pk,rfl,hk,oX,oY,d0,f0,b0,ra,rb,hR,v0,hC,g0⟩:=hrel;clear r0;obtain ⟨wl,rfl⟩:∃ X,X=wr:=⟨_,rfl⟩;have r3:=Bk.lz d0;have s3:=Bk.lz f0;have t3:=Bk.lz b0;by_cases hl1:k < n0
   ·have i4:(k:Int) < (n0:Int):=by omega
    by_cases hl2:k < zs.length
    ·have j4:(k:Int) < (zs.length:Int):=by omega
     obtain ⟨bz,oz,s1,g3,y,e1⟩:=rd_at ra k hl2;subst s1;obtain ⟨gX,cX,q0⟩:=oX.pos (by omega);obtain ⟨rfl,rfl⟩:px=some ⟨gX,0,none⟩∧tx=cX:=by simp only [Value.slice.injEq] at q0;exact ⟨q0.1,q0.2.2⟩
     clear q0;have j5:=x1 gX rfl;have d3:∀ q,OwnB2 (.slice py n1 ty) us q→(w.heap.size+1+1+1≤q∧q < w2.heap.size∧¬q=w.heap.size∧¬q=w.heap.size+1+1∧¬q=w1.heap.size)∧¬q=gX:=fun q h=>⟨q1 q h,fun e=>s2 gX rfl (by rw [← e];exact h)⟩
     obtain ⟨cb,h3⟩:∃ b,(bits .and .i64 y bit != 0)=b:=⟨_,rfl⟩
     cases cb with
     | true =>
      obtain ⟨b2,l2⟩:=Bk.cf d0 0 rfl;obtain ⟨c2,n2⟩:=Bk.cf b0 0 rfl;go_upto_region 6 with (fail)
      clear l2 b2 n2 c2;have j0:=Bk.cell b0 0 (v:=.slice (some ⟨gX,0,none⟩) n0 tx) rfl;refine wp_region_noPanic ?_;refine wp_region_held_drew (S:=(fun W'=>W'.cell? ⟨w1.heap.size,0,none⟩=some (.slice (some ⟨gX,0,none⟩) n0 tx))) (by kernel_rfl) (Kc (Bd (Bs wl)) j0) (fun hHeld=>?_);obtain ⟨w3,y0⟩:∃ X,X=World.drew wl:=⟨_,rfl⟩;rw [← y0] at hHeld ⊢;have hb:Below wl.heap.size wl w3:=by rw [y0];exact Bd (Bs _)
      clear y0;replace hC:=(hC).trans (Cb hb);replace hR:=hR.below hb;replace oX:=oX.below hb;replace oY:=oY.below hb;have y2:=hb.size;replace ra:=ra.below hb;replace rb:=rb.below hb;replace j0:=Kc hb j0;replace d0:=Bb d0 hb;replace f0:=Bb f0 hb;replace b0:=Bb b0 hb;clear hb;refine (tq 0 37 rfl rfl ?_ ?_ (tq 1 38 rfl rfl ?_ ?_ (tq 2 39 rfl rfl ?_ ?_ (tq 3 40 rfl rfl ?_ ?_ ?_))));iterate 4 (rotate_left;intro W' hSw;(try dsimp only at hSw);go_simp;try with_reducible rfl)
      try simp only [Ep]
      refine Rdy 4 rfl (fun K hK=>?_);go_simp
      refine (l3Value_any B g (pk) _ hR (by omega)).mono ?_;rintro e w4 ⟨v,rfl,l3,i1,hc⟩;replace hC:=(hC).trans hc;replace hR:=i1;clear i1;replace oX:=oX.keep hc (fun gq h h2=>by have:=x1 gq h;have:=w0 gq h2;omega);replace oY:=oY.keep hc (fun gq h h2=>by have:=d3 gq h;have:=w0 gq h2;omega);have z2:=hc.size;replace ra:=ra.keep hc (fun b _ _ h0 h h2=>by have:=iA b _ _ h0 h;have:=w0 b h2;omega);replace rb:=rb.keep hc (fun b _ _ h0 h h2=>by have:=iB b _ _ h0 h;have:=w0 b h2;omega);replace j0:=Gg hc j0;replace d0:=Bk.kg d0 hc;replace f0:=Bk.kg f0 hc;replace b0:=Bk.kg b0 hc;clear hc;obtain ⟨⟨x0,m3⟩,f3⟩:=oX.at k hl1;refine hK.out _ _ (j0) (fun hHeld=>?_);clear hK K;try simp only [Ep]
      refine (tq 5 42 rfl rfl ?_ ?_ ?_);(rotate_left;intro W' hSw;(try dsimp only at hSw);go_simp;try with_reducible rfl)
      try simp only [Ep]
      refine Rdy 6 rfl (fun K hK=>?_);go_simp
      obtain ⟨w5,s0,hb⟩:=nmw (World.setCell w4 ⟨gX,k,none⟩ (.int .i64 v));replace hC:=((hC.sN _ _ _)).trans (Cb hb);replace hR:=(hR.kC _ _ _).below hb;replace oX:=(oX.put rfl (k) (v)).below hb;replace oY:=(oY.keep (C1 _ _ _) (fun gq h h2=>by have:=d3 gq h;omega)).below hb;have k1:=hb.size;simp only [Ss] at k1;replace ra:=(ra.keep (C1 _ _ _) (fun b _ _ h0 h h2=>by have:=iA b _ _ h0 h;omega)).below hb;replace rb:=(rb.keep (C1 _ _ _) (fun b _ _ h0 h h2=>by have:=iB b _ _ h0 h;omega)).below hb;replace j0:=Kc hb (Nn j0 _);replace d0:=Bb (Bk.nn d0 _) hb;replace f0:=Bb (Bk.nn f0 _) hb;replace b0:=Bb (Bk.nn b0 _) hb;clear hb;rw [← s0];clear s0;refine hK.out _ _ (j0) (fun hHeld=>?_);clear hK K;try simp only [Ep]
      refine Dn ?_;clear hHeld;have e0:=Hi (Ai oX (Ai oY (Ai d0 (Ai f0 (Ai b0 (Ai ra (Ai rb (Ai hR hC))))))));clear hR hC oX oY d0 f0 b0 ra rb;go_wp2_with fail
      go_roundw
      case rel=>exact ⟨k+1,_,by go_num,by omega,e0.out.1,e0.out.2.1,e0.out.2.2.1,e0.out.2.2.2.1,e0.out.2.2.2.2.1,e0.out.2.2.2.2.2.1,e0.out.2.2.2.2.2.2.1,e0.out.2.2.2.2.2.2.2.1,by omega,e0.out.2.2.2.2.2.2.2.2,by omega⟩
      case measure=>simp [intOf];omega
     | false =>
      obtain ⟨n4,v4⟩:=Bk.cf d0 0 rfl;obtain ⟨o4,x4⟩:=Bk.cf b0 0 rfl;have e0:=Hi (Ai oX (Ai oY (Ai d0 (Ai f0 (Ai b0 (Ai ra (Ai rb (Ai hR hC))))))));clear hR hC oX oY ra rb;go_wp2_with fail
      go_roundw
      case rel=>exact ⟨k+1,_,by go_num,by omega,e0.out.1,e0.out.2.1,e0.out.2.2.1,e0.out.2.2.2.1,e0.out.2.2.2.2.1,e0.out.2.2.2.2.2.1,e0.out.2.2.2.2.2.2.1,e0.out.2.2.2.2.2.2.2.1,by omega,e0.out.2.2.2.2.2.2.2.2,g0⟩
      case measure=>simp [intOf];omega
    have j4:decide ((k:Int) < (zs.length:Int))=false:=decide_eq_false (by omega);have s5:¬(k:Int) < (zs.length:Int):=by omega
    obtain ⟨b1,d1⟩:=Bk.cf b0 0 rfl;obtain ⟨k2,q2⟩:=Bk.cf d0 0 rfl;go_wp2_with fail
    go_meet
    exact ⟨pk,oX,oY,d0,f0,b0,ra,rb,hR,by omega,hC,g0⟩
   have i4:decide ((k:Int) < (n0:Int))=false:=decide_eq_false (by omega);have r5:¬(k:Int) < (n0:Int):=by omega
   obtain ⟨b1,d1⟩:=Bk.cf b0 0 rfl;go_wp2_with fail
   go_meet
   exact ⟨pk,oX,oY,d0,f0,b0,ra,rb,hR,by omega,hC,g0⟩
 clear hR hC g0 oX oY d0 f0 b0 ra rb;obtain ⟨pk,oX,oY,d0,f0,b0,ra,rb,hR,v0,hC,g0⟩:=hcut;obtain ⟨wm,rfl⟩:∃ W,W=wc:=⟨_,rfl⟩;have u3:=Bk.lz d0;have v3:=Bk.lz f0;have x3:=Bk.lz b0;go_upto_block 2 with (fail)
 have j1:pk≤p+n0:=v0;go_cut [] (fun wx=>∃ pk:Nat,OwnR wx (w.heap.size+1+1+1) (.slice px n0 tx) n0∧OwnY wx (w.heap.size+1+1+1) (.slice py n1 ty) us n1∧Bk wx (w.heap.size) [.slice z0 zs.length t0,.slice z1 ys.length t1,u0]∧Bk wx (w.heap.size+1+1) [.slice none 0 0,.slice none 0 0]∧Bk wx (w1.heap.size) [.slice px n0 tx,.slice py n1 ty]∧Reads wx 1 (.slice z0 zs.length t0) zs.length (ints zs)∧Reads wx 1 (.slice z1 ys.length t1) ys.length (ints ys)∧Rnd wx B g pk∧pk≤p+n0+4*n1∧Chg (fun q=>q=g) w wx∧w2.heap.size≤wx.heap.size)
 case first =>
  have r0:Hid (∃ (k pk:Nat),Value.int .i64 0=.int .i64 k∧k≤n1∧OwnR wm (w.heap.size+1+1+1) (.slice px n0 tx) n0∧OwnY wm (w.heap.size+1+1+1) (.slice py n1 ty) us n1∧Bk wm (w.heap.size) [.slice z0 zs.length t0,.slice z1 ys.length t1,u0]∧Bk wm (w.heap.size+1+1) [.slice none 0 0,.slice none 0 0]∧Bk wm (w1.heap.size) [.slice px n0 tx,.slice py n1 ty]∧Reads wm 1 (.slice z0 zs.length t0) zs.length (ints zs)∧Reads wm 1 (.slice z1 ys.length t1) ys.length (ints ys)∧Rnd wm B g pk∧pk≤p+n0+4*k∧Chg (fun q=>q=g) w wm∧w2.heap.size≤wm.heap.size):=Hi ⟨0,pk,rfl,Nat.zero_le _,oX,oY,d0,f0,b0,ra,rb,hR,by omega,hC,g0⟩;clear hR hC g0 oX oY d0 f0 b0 ra rb;go_wp2_with fail
  go_loopw [11] (fun i wr=>∃ (k pk:Nat),i=.int .i64 k∧k≤n1∧OwnR wr (w.heap.size+1+1+1) (.slice px n0 tx) n0∧OwnY wr (w.heap.size+1+1+1) (.slice py n1 ty) us n1∧Bk wr (w.heap.size) [.slice z0 zs.length t0,.slice z1 ys.length t1,u0]∧Bk wr (w.heap.size+1+1) [.slice none 0 0,.slice none 0 0]∧Bk wr (w1.heap.size) [.slice px n0 tx,.slice py n1 ty]∧Reads wr 1 (.slice z0 zs.length t0) zs.length (ints zs)∧Reads wr 1 (.slice z1 ys.length t1) ys.length (ints ys)∧Rnd wr B g pk∧pk≤p+n0+4*k∧Chg (fun q=>q=g) w wr∧w2.heap.size≤wr.heap.size) (fun i _=>n1-(intOf i).toNat)
  case atStart=>exact r0.out
  case round =>
   clear r0 v0 j1;obtain ⟨i0,pk,rfl,hk,oX,oY,d0,f0,b0,ra,rb,hR,v0,hC,g0⟩:=hrel;obtain ⟨wl,rfl⟩:∃ X,X=wr:=⟨_,rfl⟩;have y3:=Bk.lz d0;have z3:=Bk.lz f0;have a4:=Bk.lz b0;by_cases hl1:i0 < n1
   ·have k4:(i0:Int) < (n1:Int):=by omega
    by_cases hl2:i0 < ys.length
    ·have l4:(i0:Int) < (ys.length:Int):=by omega
     obtain ⟨gY,cY,q0⟩:=oY.pos (by omega);obtain ⟨rfl,rfl⟩:py=some ⟨gY,0,none⟩∧ty=cY:=by simp only [Value.slice.injEq] at q0;exact ⟨q0.1,q0.2.2⟩
     clear q0;obtain ⟨gr,l,tr,hu,m5,n5,e2,l5,i3⟩:=oY.rowK i0 hl1;clear i3 e2;have k5:=q1 gY (Or.inl rfl);have j3:=q1 gr (Or.inr ⟨_,_,hu,rfl⟩);have c3:∀ q,(Value.slice px n0 tx).ownBlock=some q→(w.heap.size+1+1+1≤q∧q < w2.heap.size∧¬q=w.heap.size∧¬q=w.heap.size+1+1∧¬q=w1.heap.size)∧¬q=gr:=fun q h=>⟨x1 q h,fun e=>s2 q h (by rw [e];exact Or.inr ⟨_,_,hu,rfl⟩)⟩
     have r0:Hid (∃ (j pk:Nat),Value.int .i64 0=.int .i64 j∧j≤l∧OwnR wl (w.heap.size+1+1+1) (.slice px n0 tx) n0∧OwnY wl (w.heap.size+1+1+1) (.slice (some ⟨gY,0,none⟩) n1 ty) us n1∧Bk wl (w.heap.size) [.slice z0 zs.length t0,.slice z1 ys.length t1,u0]∧Bk wl (w.heap.size+1+1) [.slice none 0 0,.slice none 0 0]∧Bk wl (w1.heap.size) [.slice px n0 tx,.slice (some ⟨gY,0,none⟩) n1 ty]∧Reads wl 1 (.slice z0 zs.length t0) zs.length (ints zs)∧Reads wl 1 (.slice z1 ys.length t1) ys.length (ints ys)∧Rnd wl B g pk∧pk≤p+n0+4*i0+j∧Chg (fun q=>q=g) w wl∧w2.heap.size≤wl.heap.size):=Hi ⟨0,pk,rfl,Nat.zero_le _,oX,oY,d0,f0,b0,ra,rb,hR,by omega,hC,g0⟩;obtain ⟨l0,m0⟩:=Bk.cf b0 1 rfl;obtain ⟨o0,p0⟩:=Bk.cf d0 1 rfl;clear hR hC g0 oX oY ra rb;obtain ⟨p4,y4⟩:=Bk.cf d0 1 rfl;obtain ⟨q4,z4⟩:=Bk.cf b0 1 rfl;go_wp2_with fail
     go_loopw [12] (fun i wr=>∃ (j pk:Nat),i=.int .i64 j∧j≤l∧OwnR wr (w.heap.size+1+1+1) (.slice px n0 tx) n0∧OwnY wr (w.heap.size+1+1+1) (.slice (some ⟨gY,0,none⟩) n1 ty) us n1∧Bk wr (w.heap.size) [.slice z0 zs.length t0,.slice z1 ys.length t1,u0]∧Bk wr (w.heap.size+1+1) [.slice none 0 0,.slice none 0 0]∧Bk wr (w1.heap.size) [.slice px n0 tx,.slice (some ⟨gY,0,none⟩) n1 ty]∧Reads wr 1 (.slice z0 zs.length t0) zs.length (ints zs)∧Reads wr 1 (.slice z1 ys.length t1) ys.length (ints ys)∧Rnd wr B g pk∧pk≤p+n0+4*i0+j∧Chg (fun q=>q=g) w wr∧w2.heap.size≤wr.heap.size) (fun i _=>l-(intOf i).toNat)
     case atStart=>exact r0.out
     case round =>
      clear r0 v0 d0 f0 b0 l0 m0 o0 p0;obtain ⟨j,pk,rfl,hj,oX,oY,d0,f0,b0,ra,rb,hR,v0,hC,g0⟩:=hrel;obtain ⟨wj,rfl⟩:∃ X,X=wr:=⟨_,rfl⟩;have b4:=Bk.lz d0;have c4:=Bk.lz f0;have d4:=Bk.lz b0;have e2:=oY.cellU hu;by_cases hjl:j < l
      ·have m4:(j:Int) < (l:Int):=by omega
       obtain ⟨bz,oz,s1,g3,yv,e1⟩:=rd_at rb i0 hl2;subst s1;obtain ⟨cb,h3⟩:∃ b,(bits .and .i64 yv bit != 0)=b:=⟨_,rfl⟩
       cases cb with
       | true =>
        obtain ⟨d2,o2⟩:=Bk.cf d0 1 rfl;obtain ⟨g2,p2⟩:=Bk.cf b0 1 rfl;go_upto_region 14 with (fail)
        clear o2 d2 p2 g2;have k0:=Bk.cell b0 1 (v:=.slice (some ⟨gY,0,none⟩) n1 ty) rfl;have e4:=Lc e2;refine wp_region_noPanic ?_;refine wp_region_held_drew (S:=(fun W'=>W'.cell? ⟨w1.heap.size,1,none⟩=some (.slice (some ⟨gY,0,none⟩) n1 ty)∧W'.cell? ⟨gY,i0,none⟩=some (.slice (some ⟨gr,0,none⟩) l tr))) (by kernel_rfl) ⟨Kc (Bd (Bs wj)) k0,Kc (Bd (Bs wj)) e2⟩ (fun hHeld=>?_);obtain ⟨w3,y0⟩:∃ X,X=World.drew wj:=⟨_,rfl⟩;rw [← y0] at hHeld ⊢;have hb:Below wj.heap.size wj w3:=by rw [y0];exact Bd (Bs _)
        clear y0;replace hC:=(hC).trans (Cb hb);replace hR:=hR.below hb;replace oX:=oX.below hb;replace oY:=oY.below hb;have a3:=hb.size;replace ra:=ra.below hb;replace rb:=rb.below hb;replace e2:=Kc hb e2;replace k0:=Kc hb k0;replace d0:=Bb d0 hb;replace f0:=Bb f0 hb;replace b0:=Bb b0 hb;clear hb;refine (tq 0 75 rfl rfl ?_ ?_ (tq 1 76 rfl rfl ?_ ?_ (tq 2 77 rfl rfl ?_ ?_ (tq 3 78 rfl rfl ?_ ?_ (tq 4 79 rfl rfl ?_ ?_ (tq 5 80 rfl rfl ?_ ?_ (tq 6 81 rfl rfl ?_ ?_ ?_)))))));iterate 7 (rotate_left;intro W' hSw;(try dsimp only at hSw);go_simp;try with_reducible rfl)
        try simp only [Ep]
        refine Rdy 7 rfl (fun K hK=>?_);go_simp
        refine (l3Value_any B g (pk) _ hR (by omega)).mono ?_;rintro e w4 ⟨v,rfl,l3,i1,hc⟩;replace hC:=(hC).trans hc;replace hR:=i1;clear i1;replace oX:=oX.keep hc (fun gq h h2=>by have:=c3 gq h;have:=w0 gq h2;omega);replace oY:=oY.keep hc (fun gq h h2=>by have:=q1 gq h;have:=w0 gq h2;omega);have b3:=hc.size;replace ra:=ra.keep hc (fun b _ _ h0 h h2=>by have:=iA b _ _ h0 h;have:=w0 b h2;omega);replace rb:=rb.keep hc (fun b _ _ h0 h h2=>by have:=iB b _ _ h0 h;have:=w0 b h2;omega);replace e2:=Gg hc e2;replace k0:=Gg hc k0;replace d0:=Bk.kg d0 hc;replace f0:=Bk.kg f0 hc;replace b0:=Bk.kg b0 hc;clear hc;obtain ⟨⟨x0,m3⟩,f3⟩:=oY.intAt hu j hjl;refine hK.out _ _ ⟨k0,e2⟩ (fun hHeld=>?_);clear hK K;try simp only [Ep]
        refine (tq 8 83 rfl rfl ?_ ?_ ?_);(rotate_left;intro W' hSw;(try dsimp only at hSw);go_simp;try with_reducible rfl)
        try simp only [Ep]
        refine Rdy 9 rfl (fun K hK=>?_);go_simp
        obtain ⟨w5,s0,hb⟩:=nmw (World.setCell w4 ⟨gr,j,none⟩ (.int .i64 v));replace hC:=((hC.sN _ _ _)).trans (Cb hb);replace hR:=(hR.kC _ _ _).below hb;replace oX:=(oX.keep (C1 _ _ _) (fun gq h h2=>by have:=c3 gq h;omega)).below hb;replace oY:=(oY.putK hu (j) (v)).below hb;have l1:=hb.size;simp only [Ss] at l1;replace ra:=(ra.keep (C1 _ _ _) (fun b _ _ h0 h h2=>by have:=iA b _ _ h0 h;omega)).below hb;replace rb:=(rb.keep (C1 _ _ _) (fun b _ _ h0 h h2=>by have:=iB b _ _ h0 h;omega)).below hb;replace e2:=Kc hb (Nn e2 _);replace k0:=Kc hb (Nn k0 _);replace d0:=Bb (Bk.nn d0 _) hb;replace f0:=Bb (Bk.nn f0 _) hb;replace b0:=Bb (Bk.nn b0 _) hb;clear hb;rw [← s0];clear s0;refine hK.out _ _ ⟨k0,e2⟩ (fun hHeld=>?_);clear hK K;try simp only [Ep]
        refine Dn ?_;clear hHeld;have e0:=Hi (Ai oX (Ai oY (Ai d0 (Ai f0 (Ai b0 (Ai ra (Ai rb (Ai hR hC))))))));clear hR hC oX oY d0 f0 b0 ra rb;go_wp2_with fail
        go_roundw
        case rel=>exact ⟨j+1,_,by go_num,by omega,e0.out.1,e0.out.2.1,e0.out.2.2.1,e0.out.2.2.2.1,e0.out.2.2.2.2.1,e0.out.2.2.2.2.2.1,e0.out.2.2.2.2.2.2.1,e0.out.2.2.2.2.2.2.2.1,by omega,e0.out.2.2.2.2.2.2.2.2,by omega⟩
        case measure=>simp [intOf];omega
       | false =>
        obtain ⟨r4,a5⟩:=Bk.cf d0 1 rfl;obtain ⟨s4,b5⟩:=Bk.cf b0 1 rfl;have e0:=Hi (Ai oX (Ai oY (Ai d0 (Ai f0 (Ai b0 (Ai ra (Ai rb (Ai hR hC))))))));clear hR hC oX oY ra rb;go_wp2_with fail
        go_roundw
        case rel=>exact ⟨j+1,_,by go_num,by omega,e0.out.1,e0.out.2.1,e0.out.2.2.1,e0.out.2.2.2.1,e0.out.2.2.2.2.1,e0.out.2.2.2.2.2.1,e0.out.2.2.2.2.2.2.1,e0.out.2.2.2.2.2.2.2.1,by omega,e0.out.2.2.2.2.2.2.2.2,g0⟩
        case measure=>simp [intOf];omega
      have m4:decide ((j:Int) < (l:Int))=false:=decide_eq_false (by omega);have v5:¬(j:Int) < (l:Int):=by omega
      obtain ⟨l0,m0⟩:=Bk.cf b0 1 rfl;have e0:=Hi (Ai oX (Ai oY (Ai d0 (Ai f0 (Ai b0 (Ai ra (Ai rb (Ai hR hC))))))));clear hR hC oX oY ra rb;go_wp2_with fail
      go_roundw
      case rel=>exact ⟨i0+1,_,by go_num,by omega,e0.out.1,e0.out.2.1,e0.out.2.2.1,e0.out.2.2.2.1,e0.out.2.2.2.2.1,e0.out.2.2.2.2.2.1,e0.out.2.2.2.2.2.2.1,e0.out.2.2.2.2.2.2.2.1,by omega,e0.out.2.2.2.2.2.2.2.2,g0⟩
      case measure=>simp [intOf];omega
    have l4:decide ((i0:Int) < (ys.length:Int))=false:=decide_eq_false (by omega);have u5:¬(i0:Int) < (ys.length:Int):=by omega
    obtain ⟨l0,m0⟩:=Bk.cf b0 1 rfl;obtain ⟨o0,p0⟩:=Bk.cf d0 1 rfl;go_wp2_with fail
    go_meet
    exact ⟨pk,oX,oY,d0,f0,b0,ra,rb,hR,by omega,hC,g0⟩
   have k4:decide ((i0:Int) < (n1:Int))=false:=decide_eq_false (by omega);have t5:¬(i0:Int) < (n1:Int):=by omega
   obtain ⟨l0,m0⟩:=Bk.cf b0 1 rfl;go_wp2_with fail
   go_meet
   exact ⟨pk,oX,oY,d0,f0,b0,ra,rb,hR,by omega,hC,g0⟩
 clear hR hC g0 oX oY d0 f0 b0 ra rb v0 j1;obtain ⟨pk,oX,oY,d0,f0,b0,ra,rb,hR,v0,hC,g0⟩:=hcut;obtain ⟨we,rfl⟩:∃ W,W=wc:=⟨_,rfl⟩;have f4:=Bk.lz d0;have g4:=Bk.lz f0;have h4:=Bk.lz b0;obtain ⟨m2,t2,u2,v2⟩:∃ m:Mm,DrM we (w.heap.size+1+1+1) (.slice px n0 tx) (.slice py n1 ty) m∧m.vals.length=n0∧m.arrs.length=n1:=by obtain ⟨zz,h5,h6⟩:=oX.h;exact DrM.parts h6 h5 oY (by omega) (by omega)
 clear oX oY;have r2:=Hi (Ai u2 v2);clear u2 v2;have e3:=Hi (DrM.mono ((t2.keep (C1 (w.heap.size+1+1) 0 (.slice px n0 tx)) (fun gq h h2=>by have:=(fun q (h:w.heap.size+1+1+1≤q)=>h) gq h;omega)).keep (C1 (w.heap.size+1+1) 1 (.slice py n1 ty)) (fun gq h h2=>by have:=(fun q (h:w.heap.size+1+1+1≤q)=>h) gq h;omega)) (show w.heap.size≤w.heap.size+1+1+1 by omega));clear t2;have tC:=((hC.sN (w.heap.size+1+1) (0) (.slice px n0 tx)).sN (w.heap.size+1+1) (1) (.slice py n1 ty));have tR:=((hR.kC (w.heap.size+1+1) (0) (.slice px n0 tx)).kC (w.heap.size+1+1) (1) (.slice py n1 ty));obtain ⟨i2,c5,j2,d5⟩:=Bk.f2 f0 0 1 rfl rfl;obtain ⟨t4,e5,u4,f5⟩:=Bk.f2 b0 0 1 rfl rfl;have g5:=(Nn (b:=(w.heap.size+1+1)) (j:=1) (Tc _ (w.heap.size+1+1) 0 (.slice px n0 tx) i2) (.slice py n1 ty));have i5:=(Tc _ (w.heap.size+1+1) 1 (.slice py n1 ty) (Nn (b:=(w.heap.size+1+1)) (j:=0) j2 (.slice px n0 tx)));have tt:=True.intro;go_wp2
 exact bodyPost_ret (v:=.agg #[.slice px n0 tx,.slice py n1 ty]) (by simp [results,Tryz.results52,go_sem,g5,i5]) rfl (by exact by unfold SecP;exact ⟨_,_,m2,pk,rfl,e3.out,by have:=r2.out;omega,by have:=r2.out;omega,tR,by omega,tC⟩)
end Go.Proofs.YtnpidfbcbmeijaaGreat
