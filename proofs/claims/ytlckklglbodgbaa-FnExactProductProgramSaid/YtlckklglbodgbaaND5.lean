/-
 Parts of the proofs of the laws FnExactProductProgram.
-/
import Derived.Test.YtlckklglbodgbaaNC5
set_option linter.all false
namespace Go.Proofs.Ytlckklglbodgbaa
open Go.RowKit
def ownN (k lv li gx gy:Int) (rv:Bool) (pc:Int) (st:Bool):Int:=
 if k=1∧floB (lbo lv pc) gx=false then 1
 else if k=2∧floB (lbo (lbo lv li) pc) gy=false then 1
 else if k=5∧(truB lv&&pc == 0)=false then 2
 else if k=3∧(st&&secB lv)=true then 3
 else if (st&&((!(k == 4)&&rv)||(k == 2&&secB li)))=true then 4
 else 0
theorem ownF_eq (xs ys:List Int) (k t c:Int) (ix v:Ex) (b e:List St) (pc:Int) (st:Bool):ownF xs ys (.mk k t ix v c b e) pc st=ownN k (labE xs ys v) (labE xs ys ix) (gi xs t) (gi ys t) (srdE xs ys v) pc st:=rfl
set_option maxHeartbeats 6400000 in
set_option maxRecDepth 100000 in
theorem l4Own_eq (xs ys:List Int) (pv pa pu:Option Addr) (cv ca nu cu:Nat) (d:Nat) (A:Nat→Prop) (D:Nat) (n:Sn) (s:St) (pc:Int) (st:Bool) (w:World) (hr:Reads w 1 (.slice pv xs.length cv) xs.length (ints xs)) (hs:Reads w 1 (.slice pa ys.length ca) ys.length (ints ys)) (hx:StAt w A D n s) (hok:stOk xs.length ys.length (d+1) s=true) :
  Calls Try.prog 104 #[.agg #[.slice pv xs.length cv,.slice pa ys.length ca,.slice pu nu cu],.agg #[.int .i64 n.k,.int .i64 n.t,.int .i64 n.ix.k,.int .i64 n.ix.v,.slice n.ix.p n.ix.n n.ix.c,.int .i64 n.val.k,.int .i64 n.val.v,.slice n.val.p n.val.n n.val.c,.int .i64 n.c,.slice n.bp n.bn n.bc,.slice n.ep n.en n.ec],.int .i64 pc,.bool st] w fun r w'=>r=.returned (.int .i64 (ownF xs ys s pc st))∧Below w.heap.size w w':=by
 cases D with
 | zero=>cases hx
 | succ D =>
  obtain ⟨k,t,ix,val,c,b6,p9⟩:=s;obtain ⟨q1,q2,q3,⟨D1,hi⟩,⟨D2,hv⟩,_,_⟩:=hx;have hc:=st_cases hok;have y5:=Hi (fun W (hW:Below w.heap.size w W)=>Ai (hr.below hW) (hs.below hW));have s1:Hid (exOk xs.length ys.length 5 val=true→∀ W,Below w.heap.size w W→Calls Try.prog 105 #[.agg #[.slice pv xs.length cv,.slice pa ys.length ca,.slice pu nu cu],.agg #[.int .i64 n.val.k,.int .i64 n.val.v,.slice n.val.p n.val.n n.val.c]] W fun r w'=>r=.returned (.int .i64 (labE xs ys val))∧Below W.heap.size W w'):=Hi (fun h W hW=>l4Label_any xs ys pv pa pu cv ca nu cu 5 A D2 n.val val W (hr.below hW) (hs.below hW) (hv.below hW) h);have x5:Hid (exOk xs.length ys.length 5 ix=true→∀ W,Below w.heap.size w W→Calls Try.prog 105 #[.agg #[.slice pv xs.length cv,.slice pa ys.length ca,.slice pu nu cu],.agg #[.int .i64 n.ix.k,.int .i64 n.ix.v,.slice n.ix.p n.ix.n n.ix.c]] W fun r w'=>r=.returned (.int .i64 (labE xs ys ix))∧Below W.heap.size W w'):=Hi (fun h W hW=>l4Label_any xs ys pv pa pu cv ca nu cu 5 A D1 n.ix ix W (hr.below hW) (hs.below hW) (hi.below hW) h);have y1:Hid (exOk xs.length ys.length 5 val=true→∀ W,Below w.heap.size w W→Calls Try.prog 129 #[.agg #[.slice pv xs.length cv,.slice pa ys.length ca,.slice pu nu cu],.agg #[.int .i64 n.val.k,.int .i64 n.val.v,.slice n.val.p n.val.n n.val.c]] W fun r w'=>r=.returned (.bool (srdE xs ys val))∧Below W.heap.size W w'):=Hi (fun h W hW=>l4Secret_any xs ys pv pa pu cv ca nu cu 5 A D2 n.val val W (hr.below hW) (hs.below hW) (hv.below hW) h);clear hr hs hi hv hok q3;obtain ⟨Q,hQ⟩:∃ Q,ownF xs ys (.mk k t ix val c b6 p9) pc st=Q:=⟨_,rfl⟩;rw [hQ];rw [ownF_eq] at hQ;generalize labE xs ys val=lv at *
  generalize labE xs ys ix=li at *
  generalize srdE xs ys val=rv at *
  obtain ⟨nk,nt,d0,a0,r0,q0,p0,o0,u0,t0,s0⟩:=n;simp only at q1 q2 s1 x5 y1
  subst q1 q2;rcases hc with ⟨hk,ht0,ht1,hov,_,_⟩ | ⟨rfl,ht0,ht1,hoi,hov,_,_⟩ | ⟨rfl,hov,_,_⟩ | ⟨rfl,_,_,_⟩
  ·rcases hk with rfl | rfl
   ·skip
    obtain ⟨iv,rfl⟩:=Int.eq_ofNat_of_zero_le ht0;have s8:(iv:Int) < (xs.length:Int):=by omega
    obtain ⟨jb,jo,hj,t8,ej⟩:=gi_at (y5.out _ (Bs w)).1 iv (by omega);subst hj;clear ht0 ht1;generalize gi xs (iv:Int)=gv at ej hQ
    have HQ:=Hi hQ;clear hQ
    cases st with
    | false =>
     go_enter Try.func104,Try.ntmps104
     have d2:=Lc ej;go_upto_region 3 with (fail)
     generalize hnw:World.alloc _ _=w1;have hb:=nmh hnw;clear hnw
     have c6:=hb.size;simp only [Sa] at c6;replace ej:=Kc hb (Ac (Ac ej _) _);have n0:=Bb (Bk.al (Bk.n3 (w.heap.size)) (.cells #[.int .i64 1,.int .i64 iv,.int .i64 d0.k,.int .i64 d0.v,.slice d0.p d0.n d0.c,.int .i64 a0.k,.int .i64 a0.v,.slice a0.p a0.n a0.c,.int .i64 r0,.slice q0 p0 o0,.slice u0 t0 s0] 51)) hb;have j0:=Bb (Bk.n11 (w.heap.size+1)) hb;have f0:=btr (bal (bal (Bs w) (.cells #[.slice (some ⟨jb,jo,none⟩) xs.length cv,.slice pa ys.length ca,.slice pu nu cu] 26)) (.cells #[.int .i64 1,.int .i64 iv,.int .i64 d0.k,.int .i64 d0.v,.slice d0.p d0.n d0.c,.int .i64 a0.k,.int .i64 a0.v,.slice a0.p a0.n a0.c,.int .i64 r0,.slice q0 p0 o0,.slice u0 t0 s0] 51)) hb;clear hb;have dA:=Lc ej;have eA:=Bk.lz n0;have fA:=Bk.lz j0;refine Rgh (S:=fun W'=>W'.cell? ⟨w.heap.size,0,none⟩=some (.slice (some ⟨jb,jo,none⟩) xs.length cv)∧W'.cell? ⟨w.heap.size,1,none⟩=some (.slice pa ys.length ca)∧W'.cell? ⟨w.heap.size,2,none⟩=some (.slice pu nu cu)∧W'.cell? ⟨w.heap.size+1,5,none⟩=some (.int .i64 a0.k)∧W'.cell? ⟨w.heap.size+1,6,none⟩=some (.int .i64 a0.v)∧W'.cell? ⟨w.heap.size+1,7,none⟩=some (.slice a0.p a0.n a0.c)∧W'.cell? ⟨w.heap.size+1,1,none⟩=some (.int .i64 iv)∧W'.cell? ⟨jb,jo+iv,none⟩=some (.int .i64 gv)) (fun W d=>⟨Bk.kc n0 d 0,Bk.kc n0 d 1,Bk.kc n0 d 2,Bk.kc j0 d 5,Bk.kc j0 d 6,Bk.kc j0 d 7,Bk.kc j0 d 1,Kc d ej⟩) (fun w2 z1 hHeld=>?_);have q9:=z1.size;replace ej:=Kc z1 ej;replace f0:=btr f0 z1;refine (tq 0 13 rfl rfl ?_ ?_ (tq 1 14 rfl rfl ?_ ?_ (tq 2 15 rfl rfl ?_ ?_ (tq 4 17 rfl rfl ?_ ?_ (tq 6 19 rfl rfl ?_ ?_ (tq 7 20 rfl rfl ?_ ?_ (tq 8 21 rfl rfl ?_ ?_ (tq 9 22 rfl rfl ?_ ?_ (tq 10 23 rfl rfl ?_ ?_ (tq 11 24 rfl rfl ?_ ?_ ?_))))))))));iterate 10 (rotate_left;intro W' hSw;(try dsimp only at hSw);go_simp;try with_reducible rfl)
     try simp only [Ep]
     refine Rdy 3 rfl (fun K hK=>?_);replace n0:=Bb n0 z1;obtain ⟨bA,s7,s6,t7,t6,u7⟩:=Bk.h3 n0;replace j0:=Bb j0 z1;obtain ⟨u6,v7,v6,x7,x6,y7,y6,z7⟩:=Bk.f4 j0 1 5 6 7 rfl rfl rfl rfl;go_simp
     refine (s1.out hov _ f0).mono ?_;rintro e w3 ⟨rfl,k1⟩;have u8:=k1.size;clear s7 bA t7 s6 u7 t6 v7 u6 x7 v6 y7 x6 z7 y6;replace ej:=Kc k1 ej;replace f0:=btr f0 k1;replace n0:=Bb n0 k1;replace j0:=Bb j0 k1;refine hK.out _ _ ⟨Bk.ce n0 0,Bk.ce n0 1,Bk.ce n0 2,Bk.ce j0 5,Bk.ce j0 6,Bk.ce j0 7,Bk.ce j0 1,ej⟩ (fun hHeld=>?_);clear hK K;try simp only [Ep]
     refine (tq 5 18 rfl rfl ?_ ?_ ?_);(rotate_left;intro W' hSw;(try dsimp only at hSw);go_simp;try with_reducible rfl)
     try simp only [Ep]
     refine Rdy 12 rfl (fun K hK=>?_);go_simp
     refine (sFlows_any ((bits .or .i64 lv pc)) (gv) _).mono ?_;rintro e w4 ⟨rfl,d1⟩;have v8:=d1.size;replace ej:=Kc d1 ej;replace f0:=btr f0 d1
     cases hc27:floB ((bits .or .i64 lv pc)) (gv) with
     | false =>
      replace n0:=Bb n0 d1;replace j0:=Bb j0 d1;refine hK.out _ _ ⟨Bk.ce n0 0,Bk.ce n0 1,Bk.ce n0 2,Bk.ce j0 5,Bk.ce j0 6,Bk.ce j0 7,Bk.ce j0 1,ej⟩ (fun hHeld=>?_);clear hK K;try simp only [Ep]
      refine (tq 13 26 rfl rfl ?_ ?_ ?_);(rotate_left;intro W' hSw;(try dsimp only at hSw);go_simp;try with_reducible rfl)
      try simp only [Ep]
      refine Dn ?_;clear hHeld;have tt:=f0;go_wp2
      exact bodyPost_ret (v:=.int .i64 1) (by simp [results,Try.results104,go_sem]) rfl (by exact ⟨by rw [← HQ.out];simp [ownN,lbo,hc27],tt⟩)
     | true =>
      replace n0:=Bb n0 d1;replace j0:=Bb j0 d1;refine hK.out _ _ ⟨Bk.ce n0 0,Bk.ce n0 1,Bk.ce n0 2,Bk.ce j0 5,Bk.ce j0 6,Bk.ce j0 7,Bk.ce j0 1,ej⟩ (fun hHeld=>?_);clear hK K;try simp only [Ep]
      refine (tq 13 26 rfl rfl ?_ ?_ ?_);(rotate_left;intro W' hSw;(try dsimp only at hSw);go_simp;try with_reducible rfl)
      try simp only [Ep]
      refine Dn ?_;clear hHeld;have tt:=f0;go_wp2
      exact bodyPost_ret (v:=.int .i64 0) (by simp [results,Try.results104,go_sem]) rfl (by exact ⟨by rw [← HQ.out];simp [ownN,lbo,hc27],tt⟩)
    | true =>
     go_enter Try.func104,Try.ntmps104
     have d2:=Lc ej;go_upto_region 3 with (fail)
     generalize hnw:World.alloc _ _=w1;have hb:=nmh hnw;clear hnw
     have a2:=hb.size;simp only [Sa] at a2;replace ej:=Kc hb (Ac (Ac ej _) _);have i0:=Bb (Bk.al (Bk.n3 (w.heap.size)) (.cells #[.int .i64 1,.int .i64 iv,.int .i64 d0.k,.int .i64 d0.v,.slice d0.p d0.n d0.c,.int .i64 a0.k,.int .i64 a0.v,.slice a0.p a0.n a0.c,.int .i64 r0,.slice q0 p0 o0,.slice u0 t0 s0] 51)) hb;have h0:=Bb (Bk.n11 (w.heap.size+1)) hb;have f0:=btr (bal (bal (Bs w) (.cells #[.slice (some ⟨jb,jo,none⟩) xs.length cv,.slice pa ys.length ca,.slice pu nu cu] 26)) (.cells #[.int .i64 1,.int .i64 iv,.int .i64 d0.k,.int .i64 d0.v,.slice d0.p d0.n d0.c,.int .i64 a0.k,.int .i64 a0.v,.slice a0.p a0.n a0.c,.int .i64 r0,.slice q0 p0 o0,.slice u0 t0 s0] 51)) hb;clear hb;have r9:=Lc ej;have s9:=Bk.lz i0;have t9:=Bk.lz h0;refine Rgh (S:=fun W'=>W'.cell? ⟨w.heap.size,0,none⟩=some (.slice (some ⟨jb,jo,none⟩) xs.length cv)∧W'.cell? ⟨w.heap.size,1,none⟩=some (.slice pa ys.length ca)∧W'.cell? ⟨w.heap.size,2,none⟩=some (.slice pu nu cu)∧W'.cell? ⟨w.heap.size+1,5,none⟩=some (.int .i64 a0.k)∧W'.cell? ⟨w.heap.size+1,6,none⟩=some (.int .i64 a0.v)∧W'.cell? ⟨w.heap.size+1,7,none⟩=some (.slice a0.p a0.n a0.c)∧W'.cell? ⟨w.heap.size+1,1,none⟩=some (.int .i64 iv)∧W'.cell? ⟨jb,jo+iv,none⟩=some (.int .i64 gv)) (fun W d=>⟨Bk.kc i0 d 0,Bk.kc i0 d 1,Bk.kc i0 d 2,Bk.kc h0 d 5,Bk.kc h0 d 6,Bk.kc h0 d 7,Bk.kc h0 d 1,Kc d ej⟩) (fun w2 m1 hHeld=>?_);have x8:=m1.size;replace ej:=Kc m1 ej;replace f0:=btr f0 m1;refine (tq 0 13 rfl rfl ?_ ?_ (tq 1 14 rfl rfl ?_ ?_ (tq 2 15 rfl rfl ?_ ?_ (tq 4 17 rfl rfl ?_ ?_ (tq 6 19 rfl rfl ?_ ?_ (tq 7 20 rfl rfl ?_ ?_ (tq 8 21 rfl rfl ?_ ?_ (tq 9 22 rfl rfl ?_ ?_ (tq 10 23 rfl rfl ?_ ?_ (tq 11 24 rfl rfl ?_ ?_ ?_))))))))));iterate 10 (rotate_left;intro W' hSw;(try dsimp only at hSw);go_simp;try with_reducible rfl)
     try simp only [Ep]
     refine Rdy 3 rfl (fun K hK=>?_);replace i0:=Bb i0 m1;obtain ⟨z6,a8,a7,b8,b7,c8⟩:=Bk.h3 i0;replace h0:=Bb h0 m1;obtain ⟨c7,d8,d7,e8,e7,f8,g7,g8⟩:=Bk.f4 h0 1 5 6 7 rfl rfl rfl rfl;go_simp
     refine (s1.out hov _ f0).mono ?_;rintro e w3 ⟨rfl,n1⟩;have y8:=n1.size;clear a8 z6 b8 a7 c8 b7 d8 c7 e8 d7 f8 e7 g8 g7;replace ej:=Kc n1 ej;replace f0:=btr f0 n1;replace i0:=Bb i0 n1;replace h0:=Bb h0 n1;refine hK.out _ _ ⟨Bk.ce i0 0,Bk.ce i0 1,Bk.ce i0 2,Bk.ce h0 5,Bk.ce h0 6,Bk.ce h0 7,Bk.ce h0 1,ej⟩ (fun hHeld=>?_);clear hK K;try simp only [Ep]
     refine (tq 5 18 rfl rfl ?_ ?_ ?_);(rotate_left;intro W' hSw;(try dsimp only at hSw);go_simp;try with_reducible rfl)
     try simp only [Ep]
     refine Rdy 12 rfl (fun K hK=>?_);go_simp
     refine (sFlows_any ((bits .or .i64 lv pc)) (gv) _).mono ?_;rintro e w4 ⟨rfl,e1⟩;have z8:=e1.size;replace ej:=Kc e1 ej;replace f0:=btr f0 e1
     cases hc54:floB ((bits .or .i64 lv pc)) (gv) with
     | false =>
      replace i0:=Bb i0 e1;replace h0:=Bb h0 e1;refine hK.out _ _ ⟨Bk.ce i0 0,Bk.ce i0 1,Bk.ce i0 2,Bk.ce h0 5,Bk.ce h0 6,Bk.ce h0 7,Bk.ce h0 1,ej⟩ (fun hHeld=>?_);clear hK K;try simp only [Ep]
      refine (tq 13 26 rfl rfl ?_ ?_ ?_);(rotate_left;intro W' hSw;(try dsimp only at hSw);go_simp;try with_reducible rfl)
      try simp only [Ep]
      refine Dn ?_;clear hHeld;have tt:=f0;go_wp2
      exact bodyPost_ret (v:=.int .i64 1) (by simp [results,Try.results104,go_sem]) rfl (by exact ⟨by rw [← HQ.out];simp [ownN,lbo,hc54],tt⟩)
     | true =>
      replace i0:=Bb i0 e1;replace h0:=Bb h0 e1;refine hK.out _ _ ⟨Bk.ce i0 0,Bk.ce i0 1,Bk.ce i0 2,Bk.ce h0 5,Bk.ce h0 6,Bk.ce h0 7,Bk.ce h0 1,ej⟩ (fun hHeld=>?_);clear hK K;try simp only [Ep]
      refine (tq 13 26 rfl rfl ?_ ?_ ?_);(rotate_left;intro W' hSw;(try dsimp only at hSw);go_simp;try with_reducible rfl)
      try simp only [Ep]
      refine Dn ?_;clear hHeld;obtain ⟨h7,h8,i7,i8,j7,j8⟩:=Bk.h3 i0;obtain ⟨k7,k8,l7,l8,m7,m8,n7,n8⟩:=Bk.f4 h0 0 5 6 7 rfl rfl rfl rfl;go_wp2_with fail
      refine (y1.out hov _ f0).mono ?_;rintro e w5 ⟨rfl,r1⟩;have a9:=r1.size;clear h8 h7 i8 i7 j8 j7 k8 k7 l8 l7 m8 m7 n8 n7;replace ej:=Kc r1 ej;replace f0:=btr f0 r1
      cases hq71:rv with
      | false =>
       replace h0:=Bb h0 r1;obtain ⟨aA,cA⟩:=Bk.cf h0 0 rfl;have tt:=f0;go_wp2
       exact bodyPost_ret (v:=.int .i64 0) (by simp [results,Try.results104,go_sem]) rfl (by exact ⟨by rw [← HQ.out];simp [ownN,lbo,hc54,hq71],tt⟩)
      | true =>
       have tt:=f0;go_wp2
       exact bodyPost_ret (v:=.int .i64 4) (by simp [results,Try.results104,go_sem]) rfl (by exact ⟨by rw [← HQ.out];simp [ownN,lbo,hc54,hq71],tt⟩)
   skip
   obtain ⟨iv,rfl⟩:=Int.eq_ofNat_of_zero_le ht0;have s8:(iv:Int) < (xs.length:Int):=by omega
   obtain ⟨jb,jo,hj,t8,ej⟩:=gi_at (y5.out _ (Bs w)).1 iv (by omega);subst hj;clear ht0 ht1;generalize gi xs (iv:Int)=gv at ej hQ
   have HQ:=Hi hQ;clear hQ
   cases st with
   | false =>
    go_enter Try.func104,Try.ntmps104
    have d2:=Lc ej;go_wp2_with fail
    refine (s1.out hov _ (bal (bal (Bs w) (.cells #[.slice (some ⟨jb,jo,none⟩) xs.length cv,.slice pa ys.length ca,.slice pu nu cu] 26)) (.cells #[.int .i64 5,.int .i64 iv,.int .i64 d0.k,.int .i64 d0.v,.slice d0.p d0.n d0.c,.int .i64 a0.k,.int .i64 a0.v,.slice a0.p a0.n a0.c,.int .i64 r0,.slice q0 p0 o0,.slice u0 t0 s0] 51))).mono ?_;rintro e w1 ⟨rfl,hb⟩;have b2:=hb.size;simp only [Sa] at b2;replace ej:=Kc hb (Ac (Ac ej _) _);have z5:=Bb (Bk.al (Bk.n3 (w.heap.size)) (.cells #[.int .i64 5,.int .i64 iv,.int .i64 d0.k,.int .i64 d0.v,.slice d0.p d0.n d0.c,.int .i64 a0.k,.int .i64 a0.v,.slice a0.p a0.n a0.c,.int .i64 r0,.slice q0 p0 o0,.slice u0 t0 s0] 51)) hb;have a6:=Bb (Bk.n11 (w.heap.size+1)) hb;have f0:=btr (bal (bal (Bs w) (.cells #[.slice (some ⟨jb,jo,none⟩) xs.length cv,.slice pa ys.length ca,.slice pu nu cu] 26)) (.cells #[.int .i64 5,.int .i64 iv,.int .i64 d0.k,.int .i64 d0.v,.slice d0.p d0.n d0.c,.int .i64 a0.k,.int .i64 a0.v,.slice a0.p a0.n a0.c,.int .i64 r0,.slice q0 p0 o0,.slice u0 t0 s0] 51)) hb;clear hb;have u9:=Lc ej;have v9:=Bk.lz z5;have w9:=Bk.lz a6;go_wp2_with fail
    refine (sTrusted_any (lv) _).mono ?_;rintro e w2 ⟨rfl,t1⟩;have b9:=t1.size;replace ej:=Kc t1 ej;replace f0:=btr f0 t1
    cases hq82:truB (lv) with
    | false =>
     have tt:=f0;go_wp2
     exact bodyPost_ret (v:=.int .i64 2) (by simp [results,Try.results104,go_sem]) rfl (by exact ⟨by rw [← HQ.out];simp [ownN,lbo,hq82],tt⟩)
    | true =>
     by_cases hs58:¬pc=0
     ·skip
      have r6:(pc != 0)=true:=by simp [hs58]
      have tt:=f0;go_wp2
      exact bodyPost_ret (v:=.int .i64 2) (by simp [results,Try.results104,go_sem]) rfl (by exact ⟨by rw [← HQ.out];simp [ownN,lbo,hq82,hs58],tt⟩)
     skip
     have r6:(pc != 0)=false:=by rw [bne_eq_false_iff_eq];exact Decidable.not_not.1 hs58
     have tt:=f0;go_wp2
     exact bodyPost_ret (v:=.int .i64 0) (by simp [results,Try.results104,go_sem]) rfl (by exact ⟨by rw [← HQ.out];simp [ownN,lbo,hq82,hs58],tt⟩)
   | true =>
    go_enter Try.func104,Try.ntmps104
    have d2:=Lc ej;go_wp2_with fail
    refine (s1.out hov _ (bal (bal (Bs w) (.cells #[.slice (some ⟨jb,jo,none⟩) xs.length cv,.slice pa ys.length ca,.slice pu nu cu] 26)) (.cells #[.int .i64 5,.int .i64 iv,.int .i64 d0.k,.int .i64 d0.v,.slice d0.p d0.n d0.c,.int .i64 a0.k,.int .i64 a0.v,.slice a0.p a0.n a0.c,.int .i64 r0,.slice q0 p0 o0,.slice u0 t0 s0] 51))).mono ?_;rintro e w1 ⟨rfl,hb⟩;have c2:=hb.size;simp only [Sa] at c2;replace ej:=Kc hb (Ac (Ac ej _) _);have p1:=Bb (Bk.al (Bk.n3 (w.heap.size)) (.cells #[.int .i64 5,.int .i64 iv,.int .i64 d0.k,.int .i64 d0.v,.slice d0.p d0.n d0.c,.int .i64 a0.k,.int .i64 a0.v,.slice a0.p a0.n a0.c,.int .i64 r0,.slice q0 p0 o0,.slice u0 t0 s0] 51)) hb;have c1:=Bb (Bk.n11 (w.heap.size+1)) hb;have f0:=btr (bal (bal (Bs w) (.cells #[.slice (some ⟨jb,jo,none⟩) xs.length cv,.slice pa ys.length ca,.slice pu nu cu] 26)) (.cells #[.int .i64 5,.int .i64 iv,.int .i64 d0.k,.int .i64 d0.v,.slice d0.p d0.n d0.c,.int .i64 a0.k,.int .i64 a0.v,.slice a0.p a0.n a0.c,.int .i64 r0,.slice q0 p0 o0,.slice u0 t0 s0] 51)) hb;clear hb;have x9:=Lc ej;have y9:=Bk.lz p1;have z9:=Bk.lz c1;go_wp2_with fail
    refine (sTrusted_any (lv) _).mono ?_;rintro e w2 ⟨rfl,o1⟩;have c9:=o1.size;replace ej:=Kc o1 ej;replace f0:=btr f0 o1
    cases hq91:truB (lv) with
    | false =>
     have tt:=f0;go_wp2
     exact bodyPost_ret (v:=.int .i64 2) (by simp [results,Try.results104,go_sem]) rfl (by exact ⟨by rw [← HQ.out];simp [ownN,lbo,hq91],tt⟩)
    | true =>
     by_cases hs58:¬pc=0
     ·skip
      have r6:(pc != 0)=true:=by simp [hs58]
      have tt:=f0;go_wp2
      exact bodyPost_ret (v:=.int .i64 2) (by simp [results,Try.results104,go_sem]) rfl (by exact ⟨by rw [← HQ.out];simp [ownN,lbo,hq91,hs58],tt⟩)
     skip
     have r6:(pc != 0)=false:=by rw [bne_eq_false_iff_eq];exact Decidable.not_not.1 hs58
     replace p1:=Bb p1 o1;obtain ⟨o7,o8,p7,p8,q7,q8⟩:=Bk.h3 p1;replace c1:=Bb c1 o1;obtain ⟨r7,r8,e2,c4,f2,d4,g2,e4⟩:=Bk.f4 c1 0 5 6 7 rfl rfl rfl rfl;go_wp2_with fail
     refine (y1.out hov _ f0).mono ?_;rintro e w3 ⟨rfl,g1⟩;have d6:=g1.size;clear o8 o7 p8 p7 q8 q7 r8 r7 c4 e2 d4 f2 e4 g2;replace ej:=Kc g1 ej;replace f0:=btr f0 g1
     cases hq108:rv with
     | false =>
      replace c1:=Bb c1 g1;obtain ⟨l9,n9⟩:=Bk.cf c1 0 rfl;have tt:=f0;go_wp2
      exact bodyPost_ret (v:=.int .i64 0) (by simp [results,Try.results104,go_sem]) rfl (by exact ⟨by rw [← HQ.out];simp [ownN,lbo,hq91,hs58,hq108],tt⟩)
     | true =>
      have tt:=f0;go_wp2
      exact bodyPost_ret (v:=.int .i64 4) (by simp [results,Try.results104,go_sem]) rfl (by exact ⟨by rw [← HQ.out];simp [ownN,lbo,hq91,hs58,hq108],tt⟩)
  ·skip
   obtain ⟨iv,rfl⟩:=Int.eq_ofNat_of_zero_le ht0;have s8:(iv:Int) < (ys.length:Int):=by omega
   obtain ⟨jb,jo,hj,t8,ej⟩:=gi_at (y5.out _ (Bs w)).2 iv (by omega);subst hj;clear ht0 ht1;generalize gi ys (iv:Int)=gv at ej hQ
   have HQ:=Hi hQ;clear hQ
   cases st with
   | false =>
    go_enter Try.func104,Try.ntmps104
    have d2:=Lc ej;go_upto_region 6 with (fail)
    generalize hnw:World.alloc _ _=w1;have hb:=nmh hnw;clear hnw
    have u1:=hb.size;simp only [Sa] at u1;replace ej:=Kc hb (Ac (Ac ej _) _);have g0:=Bb (Bk.al (Bk.n3 (w.heap.size)) (.cells #[.int .i64 2,.int .i64 iv,.int .i64 d0.k,.int .i64 d0.v,.slice d0.p d0.n d0.c,.int .i64 a0.k,.int .i64 a0.v,.slice a0.p a0.n a0.c,.int .i64 r0,.slice q0 p0 o0,.slice u0 t0 s0] 51)) hb;have c0:=Bb (Bk.n11 (w.heap.size+1)) hb;have f0:=btr (bal (bal (Bs w) (.cells #[.slice pv xs.length cv,.slice (some ⟨jb,jo,none⟩) ys.length ca,.slice pu nu cu] 26)) (.cells #[.int .i64 2,.int .i64 iv,.int .i64 d0.k,.int .i64 d0.v,.slice d0.p d0.n d0.c,.int .i64 a0.k,.int .i64 a0.v,.slice a0.p a0.n a0.c,.int .i64 r0,.slice q0 p0 o0,.slice u0 t0 s0] 51)) hb;clear hb;have d9:=Lc ej;have e9:=Bk.lz g0;have f9:=Bk.lz c0;refine Rgh (S:=fun W'=>W'.cell? ⟨w.heap.size,0,none⟩=some (.slice pv xs.length cv)∧W'.cell? ⟨w.heap.size,1,none⟩=some (.slice (some ⟨jb,jo,none⟩) ys.length ca)∧W'.cell? ⟨w.heap.size,2,none⟩=some (.slice pu nu cu)∧W'.cell? ⟨w.heap.size+1,5,none⟩=some (.int .i64 a0.k)∧W'.cell? ⟨w.heap.size+1,6,none⟩=some (.int .i64 a0.v)∧W'.cell? ⟨w.heap.size+1,7,none⟩=some (.slice a0.p a0.n a0.c)∧W'.cell? ⟨w.heap.size+1,2,none⟩=some (.int .i64 d0.k)∧W'.cell? ⟨w.heap.size+1,3,none⟩=some (.int .i64 d0.v)∧W'.cell? ⟨w.heap.size+1,4,none⟩=some (.slice d0.p d0.n d0.c)∧W'.cell? ⟨w.heap.size+1,1,none⟩=some (.int .i64 iv)∧W'.cell? ⟨jb,jo+iv,none⟩=some (.int .i64 gv)) (fun W d=>⟨Bk.kc g0 d 0,Bk.kc g0 d 1,Bk.kc g0 d 2,Bk.kc c0 d 5,Bk.kc c0 d 6,Bk.kc c0 d 7,Bk.kc c0 d 2,Bk.kc c0 d 3,Bk.kc c0 d 4,Bk.kc c0 d 1,Kc d ej⟩) (fun w2 v0 hHeld=>?_);have e6:=v0.size;replace ej:=Kc v0 ej;replace f0:=btr f0 v0;refine (tq 0 29 rfl rfl ?_ ?_ (tq 1 30 rfl rfl ?_ ?_ (tq 2 31 rfl rfl ?_ ?_ (tq 4 33 rfl rfl ?_ ?_ (tq 5 34 rfl rfl ?_ ?_ (tq 6 35 rfl rfl ?_ ?_ (tq 9 38 rfl rfl ?_ ?_ (tq 11 40 rfl rfl ?_ ?_ (tq 12 41 rfl rfl ?_ ?_ (tq 13 42 rfl rfl ?_ ?_ (tq 14 43 rfl rfl ?_ ?_ (tq 15 44 rfl rfl ?_ ?_ (tq 16 45 rfl rfl ?_ ?_ ?_)))))))))))));iterate 13 (rotate_left;intro W' hSw;(try dsimp only at hSw);go_simp;try with_reducible rfl)
    try simp only [Ep]
    refine Rdy 3 rfl (fun K hK=>?_);replace g0:=Bb g0 v0;obtain ⟨h2,g4,i2,h4,j2,i4⟩:=Bk.h3 g0;replace c0:=Bb c0 v0;obtain ⟨k2,j4,l2,k4,m2,l4,n2,m4,o2,n4,p2,o4,r2,p4⟩:=Bk.f7 c0 1 2 3 4 5 6 7 rfl rfl rfl rfl rfl rfl rfl;go_simp
    refine (s1.out hov _ f0).mono ?_;rintro e w3 ⟨rfl,w0⟩;have f6:=w0.size;clear g4 h2 h4 i2 i4 j2 j4 k2 k4 l2 l4 m2 m4 n2 n4 o2 o4 p2 p4 r2;replace ej:=Kc w0 ej;replace f0:=btr f0 w0;replace g0:=Bb g0 w0;replace c0:=Bb c0 w0;refine hK.out _ _ ⟨Bk.ce g0 0,Bk.ce g0 1,Bk.ce g0 2,Bk.ce c0 5,Bk.ce c0 6,Bk.ce c0 7,Bk.ce c0 2,Bk.ce c0 3,Bk.ce c0 4,Bk.ce c0 1,ej⟩ (fun hHeld=>?_);clear hK K;try simp only [Ep]
    refine Rdy 7 rfl (fun K hK=>?_);go_simp
    refine (x5.out hoi _ f0).mono ?_;rintro e w4 ⟨rfl,x0⟩;have g6:=x0.size;replace ej:=Kc x0 ej;replace f0:=btr f0 x0;replace g0:=Bb g0 x0;replace c0:=Bb c0 x0;refine hK.out _ _ ⟨Bk.ce g0 0,Bk.ce g0 1,Bk.ce g0 2,Bk.ce c0 5,Bk.ce c0 6,Bk.ce c0 7,Bk.ce c0 2,Bk.ce c0 3,Bk.ce c0 4,Bk.ce c0 1,ej⟩ (fun hHeld=>?_);clear hK K;try simp only [Ep]
    refine (tq 8 37 rfl rfl ?_ ?_ (tq 10 39 rfl rfl ?_ ?_ ?_));iterate 2 (rotate_left;intro W' hSw;(try dsimp only at hSw);go_simp;try with_reducible rfl)
    try simp only [Ep]
    refine Rdy 17 rfl (fun K hK=>?_);go_simp
    refine (sFlows_any ((bits .or .i64 (bits .or .i64 lv li) pc)) (gv) _).mono ?_;rintro e w5 ⟨rfl,l0⟩;have h6:=l0.size;replace ej:=Kc l0 ej;replace f0:=btr f0 l0
    cases hc145:floB ((bits .or .i64 (bits .or .i64 lv li) pc)) (gv) with
    | false =>
     replace g0:=Bb g0 l0;replace c0:=Bb c0 l0;refine hK.out _ _ ⟨Bk.ce g0 0,Bk.ce g0 1,Bk.ce g0 2,Bk.ce c0 5,Bk.ce c0 6,Bk.ce c0 7,Bk.ce c0 2,Bk.ce c0 3,Bk.ce c0 4,Bk.ce c0 1,ej⟩ (fun hHeld=>?_);clear hK K;try simp only [Ep]
     refine (tq 18 47 rfl rfl ?_ ?_ ?_);(rotate_left;intro W' hSw;(try dsimp only at hSw);go_simp;try with_reducible rfl)
     try simp only [Ep]
     refine Dn ?_;clear hHeld;have tt:=f0;go_wp2
     exact bodyPost_ret (v:=.int .i64 1) (by simp [results,Try.results104,go_sem]) rfl (by exact ⟨by rw [← HQ.out];simp [ownN,lbo,hc145],tt⟩)
    | true =>
     replace g0:=Bb g0 l0;replace c0:=Bb c0 l0;refine hK.out _ _ ⟨Bk.ce g0 0,Bk.ce g0 1,Bk.ce g0 2,Bk.ce c0 5,Bk.ce c0 6,Bk.ce c0 7,Bk.ce c0 2,Bk.ce c0 3,Bk.ce c0 4,Bk.ce c0 1,ej⟩ (fun hHeld=>?_);clear hK K;try simp only [Ep]
     refine (tq 18 47 rfl rfl ?_ ?_ ?_);(rotate_left;intro W' hSw;(try dsimp only at hSw);go_simp;try with_reducible rfl)
     try simp only [Ep]
     refine Dn ?_;clear hHeld;have tt:=f0;go_wp2
     exact bodyPost_ret (v:=.int .i64 0) (by simp [results,Try.results104,go_sem]) rfl (by exact ⟨by rw [← HQ.out];simp [ownN,lbo,hc145],tt⟩)
   | true =>
    go_enter Try.func104,Try.ntmps104
    have d2:=Lc ej;go_upto_region 6 with (fail)
    generalize hnw:World.alloc _ _=w1;have hb:=nmh hnw;clear hnw
    have v1:=hb.size;simp only [Sa] at v1;replace ej:=Kc hb (Ac (Ac ej _) _);have e0:=Bb (Bk.al (Bk.n3 (w.heap.size)) (.cells #[.int .i64 2,.int .i64 iv,.int .i64 d0.k,.int .i64 d0.v,.slice d0.p d0.n d0.c,.int .i64 a0.k,.int .i64 a0.v,.slice a0.p a0.n a0.c,.int .i64 r0,.slice q0 p0 o0,.slice u0 t0 s0] 51)) hb;have b0:=Bb (Bk.n11 (w.heap.size+1)) hb;have f0:=btr (bal (bal (Bs w) (.cells #[.slice pv xs.length cv,.slice (some ⟨jb,jo,none⟩) ys.length ca,.slice pu nu cu] 26)) (.cells #[.int .i64 2,.int .i64 iv,.int .i64 d0.k,.int .i64 d0.v,.slice d0.p d0.n d0.c,.int .i64 a0.k,.int .i64 a0.v,.slice a0.p a0.n a0.c,.int .i64 r0,.slice q0 p0 o0,.slice u0 t0 s0] 51)) hb;clear hb;have g9:=Lc ej;have h9:=Bk.lz e0;have i9:=Bk.lz b0;refine Rgh (S:=fun W'=>W'.cell? ⟨w.heap.size,0,none⟩=some (.slice pv xs.length cv)∧W'.cell? ⟨w.heap.size,1,none⟩=some (.slice (some ⟨jb,jo,none⟩) ys.length ca)∧W'.cell? ⟨w.heap.size,2,none⟩=some (.slice pu nu cu)∧W'.cell? ⟨w.heap.size+1,5,none⟩=some (.int .i64 a0.k)∧W'.cell? ⟨w.heap.size+1,6,none⟩=some (.int .i64 a0.v)∧W'.cell? ⟨w.heap.size+1,7,none⟩=some (.slice a0.p a0.n a0.c)∧W'.cell? ⟨w.heap.size+1,2,none⟩=some (.int .i64 d0.k)∧W'.cell? ⟨w.heap.size+1,3,none⟩=some (.int .i64 d0.v)∧W'.cell? ⟨w.heap.size+1,4,none⟩=some (.slice d0.p d0.n d0.c)∧W'.cell? ⟨w.heap.size+1,1,none⟩=some (.int .i64 iv)∧W'.cell? ⟨jb,jo+iv,none⟩=some (.int .i64 gv)) (fun W d=>⟨Bk.kc e0 d 0,Bk.kc e0 d 1,Bk.kc e0 d 2,Bk.kc b0 d 5,Bk.kc b0 d 6,Bk.kc b0 d 7,Bk.kc b0 d 2,Bk.kc b0 d 3,Bk.kc b0 d 4,Bk.kc b0 d 1,Kc d ej⟩) (fun w2 y0 hHeld=>?_);have i6:=y0.size;replace ej:=Kc y0 ej;replace f0:=btr f0 y0;refine (tq 0 29 rfl rfl ?_ ?_ (tq 1 30 rfl rfl ?_ ?_ (tq 2 31 rfl rfl ?_ ?_ (tq 4 33 rfl rfl ?_ ?_ (tq 5 34 rfl rfl ?_ ?_ (tq 6 35 rfl rfl ?_ ?_ (tq 9 38 rfl rfl ?_ ?_ (tq 11 40 rfl rfl ?_ ?_ (tq 12 41 rfl rfl ?_ ?_ (tq 13 42 rfl rfl ?_ ?_ (tq 14 43 rfl rfl ?_ ?_ (tq 15 44 rfl rfl ?_ ?_ (tq 16 45 rfl rfl ?_ ?_ ?_)))))))))))));iterate 13 (rotate_left;intro W' hSw;(try dsimp only at hSw);go_simp;try with_reducible rfl)
    try simp only [Ep]
    refine Rdy 3 rfl (fun K hK=>?_);replace e0:=Bb e0 y0;obtain ⟨s2,q4,t2,r4,u2,s4⟩:=Bk.h3 e0;replace b0:=Bb b0 y0;obtain ⟨v2,t4,x2,u4,y2,v4,z2,x4,a3,y4,b3,z4,c3,a5⟩:=Bk.f7 b0 1 2 3 4 5 6 7 rfl rfl rfl rfl rfl rfl rfl;go_simp
    refine (s1.out hov _ f0).mono ?_;rintro e w3 ⟨rfl,z0⟩;have j6:=z0.size;clear q4 s2 r4 t2 s4 u2 t4 v2 u4 x2 v4 y2 x4 z2 y4 a3 z4 b3 a5 c3;replace ej:=Kc z0 ej;replace f0:=btr f0 z0;replace e0:=Bb e0 z0;replace b0:=Bb b0 z0;refine hK.out _ _ ⟨Bk.ce e0 0,Bk.ce e0 1,Bk.ce e0 2,Bk.ce b0 5,Bk.ce b0 6,Bk.ce b0 7,Bk.ce b0 2,Bk.ce b0 3,Bk.ce b0 4,Bk.ce b0 1,ej⟩ (fun hHeld=>?_);clear hK K;try simp only [Ep]
    refine Rdy 7 rfl (fun K hK=>?_);go_simp
    refine (x5.out hoi _ f0).mono ?_;rintro e w4 ⟨rfl,a1⟩;have k6:=a1.size;replace ej:=Kc a1 ej;replace f0:=btr f0 a1;replace e0:=Bb e0 a1;replace b0:=Bb b0 a1;refine hK.out _ _ ⟨Bk.ce e0 0,Bk.ce e0 1,Bk.ce e0 2,Bk.ce b0 5,Bk.ce b0 6,Bk.ce b0 7,Bk.ce b0 2,Bk.ce b0 3,Bk.ce b0 4,Bk.ce b0 1,ej⟩ (fun hHeld=>?_);clear hK K;try simp only [Ep]
    refine (tq 8 37 rfl rfl ?_ ?_ (tq 10 39 rfl rfl ?_ ?_ ?_));iterate 2 (rotate_left;intro W' hSw;(try dsimp only at hSw);go_simp;try with_reducible rfl)
    try simp only [Ep]
    refine Rdy 17 rfl (fun K hK=>?_);go_simp
    refine (sFlows_any ((bits .or .i64 (bits .or .i64 lv li) pc)) (gv) _).mono ?_;rintro e w5 ⟨rfl,m0⟩;have l6:=m0.size;replace ej:=Kc m0 ej;replace f0:=btr f0 m0
    cases hc180:floB ((bits .or .i64 (bits .or .i64 lv li) pc)) (gv) with
    | false =>
     replace e0:=Bb e0 m0;replace b0:=Bb b0 m0;refine hK.out _ _ ⟨Bk.ce e0 0,Bk.ce e0 1,Bk.ce e0 2,Bk.ce b0 5,Bk.ce b0 6,Bk.ce b0 7,Bk.ce b0 2,Bk.ce b0 3,Bk.ce b0 4,Bk.ce b0 1,ej⟩ (fun hHeld=>?_);clear hK K;try simp only [Ep]
     refine (tq 18 47 rfl rfl ?_ ?_ ?_);(rotate_left;intro W' hSw;(try dsimp only at hSw);go_simp;try with_reducible rfl)
     try simp only [Ep]
     refine Dn ?_;clear hHeld;have tt:=f0;go_wp2
     exact bodyPost_ret (v:=.int .i64 1) (by simp [results,Try.results104,go_sem]) rfl (by exact ⟨by rw [← HQ.out];simp [ownN,lbo,hc180],tt⟩)
    | true =>
     replace e0:=Bb e0 m0;replace b0:=Bb b0 m0;refine hK.out _ _ ⟨Bk.ce e0 0,Bk.ce e0 1,Bk.ce e0 2,Bk.ce b0 5,Bk.ce b0 6,Bk.ce b0 7,Bk.ce b0 2,Bk.ce b0 3,Bk.ce b0 4,Bk.ce b0 1,ej⟩ (fun hHeld=>?_);clear hK K;try simp only [Ep]
     refine (tq 18 47 rfl rfl ?_ ?_ ?_);(rotate_left;intro W' hSw;(try dsimp only at hSw);go_simp;try with_reducible rfl)
     try simp only [Ep]
     refine Dn ?_;clear hHeld;obtain ⟨d3,b5,e3,c5,f3,d5⟩:=Bk.h3 e0;obtain ⟨g3,e5,i3,f5,j3,g5,k3,h5⟩:=Bk.f4 b0 0 5 6 7 rfl rfl rfl rfl;go_wp2_with fail
     refine (y1.out hov _ f0).mono ?_;rintro e w6 ⟨rfl,b1⟩;have m6:=b1.size;clear b5 d3 c5 e3 d5 f3 e5 g3 f5 i3 g5 j3 h5 k3;replace ej:=Kc b1 ej;replace f0:=btr f0 b1
     cases hq197:rv with
     | false =>
      replace e0:=Bb e0 b1;obtain ⟨l3,i5,m3,j5,o3,k5⟩:=Bk.h3 e0;replace b0:=Bb b0 b1;obtain ⟨p3,l5,r3,m5,s3,n5,t3,o5⟩:=Bk.f4 b0 0 2 3 4 rfl rfl rfl rfl;go_wp2_with fail
      refine (x5.out hoi _ f0).mono ?_;rintro e w7 ⟨rfl,i1⟩;have n6:=i1.size;clear i5 l3 j5 m3 k5 o3 l5 p3 m5 r3 n5 s3 o5 t3;replace ej:=Kc i1 ej;replace f0:=btr f0 i1;go_wp2_with fail
      refine (sSecret_any (li) _).mono ?_;rintro e w8 ⟨rfl,j1⟩;have o6:=j1.size;replace ej:=Kc j1 ej;replace f0:=btr f0 j1
      cases hq216:secB (li) with
      | false =>
       have tt:=f0;go_wp2
       exact bodyPost_ret (v:=.int .i64 0) (by simp [results,Try.results104,go_sem]) rfl (by exact ⟨by rw [← HQ.out];simp [ownN,lbo,hc180,hq197,hq216],tt⟩)
      | true =>
       have tt:=f0;go_wp2
       exact bodyPost_ret (v:=.int .i64 4) (by simp [results,Try.results104,go_sem]) rfl (by exact ⟨by rw [← HQ.out];simp [ownN,lbo,hc180,hq197,hq216],tt⟩)
     | true =>
      have tt:=f0;go_wp2
      exact bodyPost_ret (v:=.int .i64 4) (by simp [results,Try.results104,go_sem]) rfl (by exact ⟨by rw [← HQ.out];simp [ownN,lbo,hc180,hq197],tt⟩)
  ·skip
   have HQ:=Hi hQ;clear hQ
   cases st with
   | false =>
    go_enter Try.func104,Try.ntmps104
    have tt:=(bal (bal (Bs w) (.cells #[.slice pv xs.length cv,.slice pa ys.length ca,.slice pu nu cu] 26)) (.cells #[.int .i64 3,.int .i64 nt,.int .i64 d0.k,.int .i64 d0.v,.slice d0.p d0.n d0.c,.int .i64 a0.k,.int .i64 a0.v,.slice a0.p a0.n a0.c,.int .i64 r0,.slice q0 p0 o0,.slice u0 t0 s0] 51));go_wp2
    exact bodyPost_ret (v:=.int .i64 0) (by simp [results,Try.results104,go_sem]) rfl (by exact ⟨by rw [← HQ.out];simp [ownN,lbo],tt⟩)
   | true =>
    go_enter Try.func104,Try.ntmps104
    go_wp2_with fail
    refine (s1.out hov _ (bal (bal (Bs w) (.cells #[.slice pv xs.length cv,.slice pa ys.length ca,.slice pu nu cu] 26)) (.cells #[.int .i64 3,.int .i64 nt,.int .i64 d0.k,.int .i64 d0.v,.slice d0.p d0.n d0.c,.int .i64 a0.k,.int .i64 a0.v,.slice a0.p a0.n a0.c,.int .i64 r0,.slice q0 p0 o0,.slice u0 t0 s0] 51))).mono ?_;rintro e w1 ⟨rfl,hb⟩;have x1:=hb.size;simp only [Sa] at x1;have f1:=Bb (Bk.al (Bk.n3 (w.heap.size)) (.cells #[.int .i64 3,.int .i64 nt,.int .i64 d0.k,.int .i64 d0.v,.slice d0.p d0.n d0.c,.int .i64 a0.k,.int .i64 a0.v,.slice a0.p a0.n a0.c,.int .i64 r0,.slice q0 p0 o0,.slice u0 t0 s0] 51)) hb;have k0:=Bb (Bk.n11 (w.heap.size+1)) hb;have f0:=btr (bal (bal (Bs w) (.cells #[.slice pv xs.length cv,.slice pa ys.length ca,.slice pu nu cu] 26)) (.cells #[.int .i64 3,.int .i64 nt,.int .i64 d0.k,.int .i64 d0.v,.slice d0.p d0.n d0.c,.int .i64 a0.k,.int .i64 a0.v,.slice a0.p a0.n a0.c,.int .i64 r0,.slice q0 p0 o0,.slice u0 t0 s0] 51)) hb;clear hb;have j9:=Bk.lz f1;have k9:=Bk.lz k0;go_wp2_with fail
    refine (sSecret_any (lv) _).mono ?_;rintro e w2 ⟨rfl,h1⟩;have p6:=h1.size;replace f0:=btr f0 h1
    cases hq224:secB (lv) with
    | false =>
     replace f1:=Bb f1 h1;obtain ⟨u3,p5,v3,q5,x3,r5⟩:=Bk.h3 f1;replace k0:=Bb k0 h1;obtain ⟨y3,s5,z3,t5,a4,u5,b4,v5⟩:=Bk.f4 k0 0 5 6 7 rfl rfl rfl rfl;go_wp2_with fail
     refine (y1.out hov _ f0).mono ?_;rintro e w3 ⟨rfl,l1⟩;have q6:=l1.size;clear p5 u3 q5 v3 r5 x3 s5 y3 t5 z3 u5 a4 v5 b4;replace f0:=btr f0 l1
     cases hq241:rv with
     | false =>
      replace k0:=Bb k0 l1;obtain ⟨m9,o9⟩:=Bk.cf k0 0 rfl;have tt:=f0;go_wp2
      exact bodyPost_ret (v:=.int .i64 0) (by simp [results,Try.results104,go_sem]) rfl (by exact ⟨by rw [← HQ.out];simp [ownN,lbo,hq224,hq241],tt⟩)
     | true =>
      have tt:=f0;go_wp2
      exact bodyPost_ret (v:=.int .i64 4) (by simp [results,Try.results104,go_sem]) rfl (by exact ⟨by rw [← HQ.out];simp [ownN,lbo,hq224,hq241],tt⟩)
    | true =>
     have tt:=f0;go_wp2
     exact bodyPost_ret (v:=.int .i64 3) (by simp [results,Try.results104,go_sem]) rfl (by exact ⟨by rw [← HQ.out];simp [ownN,lbo,hq224],tt⟩)
  skip
  have HQ:=Hi hQ;clear hQ
  cases st with
  | false =>
   go_enter Try.func104,Try.ntmps104
   have tt:=(bal (bal (Bs w) (.cells #[.slice pv xs.length cv,.slice pa ys.length ca,.slice pu nu cu] 26)) (.cells #[.int .i64 4,.int .i64 nt,.int .i64 d0.k,.int .i64 d0.v,.slice d0.p d0.n d0.c,.int .i64 a0.k,.int .i64 a0.v,.slice a0.p a0.n a0.c,.int .i64 r0,.slice q0 p0 o0,.slice u0 t0 s0] 51));go_wp2
   exact bodyPost_ret (v:=.int .i64 0) (by simp [results,Try.results104,go_sem]) rfl (by exact ⟨by rw [← HQ.out];simp [ownN,lbo],tt⟩)
  | true =>
   go_enter Try.func104,Try.ntmps104
   have tt:=(bal (bal (Bs w) (.cells #[.slice pv xs.length cv,.slice pa ys.length ca,.slice pu nu cu] 26)) (.cells #[.int .i64 4,.int .i64 nt,.int .i64 d0.k,.int .i64 d0.v,.slice d0.p d0.n d0.c,.int .i64 a0.k,.int .i64 a0.v,.slice a0.p a0.n a0.c,.int .i64 r0,.slice q0 p0 o0,.slice u0 t0 s0] 51));go_wp2
   exact bodyPost_ret (v:=.int .i64 0) (by simp [results,Try.results104,go_sem]) rfl (by exact ⟨by rw [← HQ.out];simp [ownN,lbo],tt⟩)
end Go.Proofs.Ytlckklglbodgbaa
