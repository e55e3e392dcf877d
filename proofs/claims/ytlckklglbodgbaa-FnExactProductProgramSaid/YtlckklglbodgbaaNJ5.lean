/-
 Parts of the proofs of the laws FnExactProductProgram.
-/
import Derived.Test.YtlckklglbodgbaaNF5
import Derived.Test.YtlckklglbodgbaaNG5
set_option linter.all false
namespace Go.Proofs.Ytlckklglbodgbaa
open Go.RowKit
set_option maxHeartbeats 6400000 in
set_option maxRecDepth 100000 in
theorem iFlow_any (xs ys:List Int) (pv pa pu:Option Addr) (cv ca nu cu:Nat) (d:Nat) (A:Nat→Prop) (D:Nat) (n:Sn) (s:St) (pc:Int) (w:World) (hr:Reads w 1 (.slice pv xs.length cv) xs.length (ints xs)) (hs:Reads w 1 (.slice pa ys.length ca) ys.length (ints ys)) (hx:StAt w A D n s) (hok:stOk xs.length ys.length (d+1) s=true) (lx:LabsP xs) (ly:LabsP ys) (lp:IsLb pc) :
  Calls Try.prog 88 #[.agg #[.slice pv xs.length cv,.slice pa ys.length ca,.slice pu nu cu],.agg #[.int .i64 n.k,.int .i64 n.t,.int .i64 n.ix.k,.int .i64 n.ix.v,.slice n.ix.p n.ix.n n.ix.c,.int .i64 n.val.k,.int .i64 n.val.v,.slice n.val.p n.val.n n.val.c,.int .i64 n.c,.slice n.bp n.bn n.bc,.slice n.ep n.en n.ec],.int .i64 pc] w fun r w'=>r=.returned (.int .i64 (ownF xs ys s pc false))∧Below w.heap.size w w':=by
 cases D with
 | zero=>cases hx
 | succ D =>
  have x7:=Hi (fun (hk:s.k=1∨s.k=2) W (hW:Below w.heap.size w W)=>iStored_any xs ys pv pa pu cv ca nu cu d A (D+1) n s pc W (hr.below hW) (hs.below hW) (StAt.keep (S:=fun _=>False) (Cb hW) (fun _ _ _=>id) (fun _ h _=>h) Lr hx) hok hk);obtain ⟨k,t,ix,val,c,l1,y7⟩:=s;obtain ⟨q1,q2,q3,⟨D1,hi⟩,⟨D2,hv⟩,_,_⟩:=hx;have hc:=st_cases hok;have a8:=Hi (fun W (hW:Below w.heap.size w W)=>Ai (hr.below hW) (hs.below hW));have kA:Hid (exOk xs.length ys.length 5 val=true→∀ W,Below w.heap.size w W→Calls Try.prog 55 #[.agg #[.slice pv xs.length cv,.slice pa ys.length ca,.slice pu nu cu],.agg #[.int .i64 n.val.k,.int .i64 n.val.v,.slice n.val.p n.val.n n.val.c]] W fun r w'=>r=.returned (.int .i64 (labE xs ys val))∧Below W.heap.size W w'):=Hi (fun h W hW=>iLabel_any xs ys pv pa pu cv ca nu cu 5 A D2 n.val val W (hr.below hW) (hs.below hW) (hv.below hW) h);have z7:=labE_lab lx ly val;have sA:=labE_lab lx ly ix;have e1:Hid (k=1→stoF xs ys (.mk k t ix val c l1 y7) pc=lbo (labE xs ys val) pc):=Hi (fun h=>by subst h;rfl);have f1:Hid (k=2→stoF xs ys (.mk k t ix val c l1 y7) pc=lbo (lbo (labE xs ys val) (labE xs ys ix)) pc):=Hi (fun h=>by subst h;exact (lbo_swap z7 lp sA));clear hr hs hi hv hok q3;obtain ⟨Q,hQ⟩:∃ Q,ownF xs ys (.mk k t ix val c l1 y7) pc false=Q:=⟨_,rfl⟩;rw [hQ];rw [ownF_eq] at hQ;simp only [St.k] at x7;generalize stoF xs ys (.mk k t ix val c l1 y7) pc=sv at *
  generalize labE xs ys val=lv at *
  generalize labE xs ys ix=li at *
  generalize srdE xs ys val=rv at *
  obtain ⟨nk,nt,c0,b0,r0,q0,p0,o0,u0,t0,s0⟩:=n;simp only at q1 q2 kA x7
  subst q1 q2;rcases hc with ⟨hk,ht0,ht1,hov,_,_⟩ | ⟨rfl,ht0,ht1,hoi,hov,_,_⟩ | ⟨rfl,hov,_,_⟩ | ⟨rfl,_,_,_⟩
  ·rcases hk with rfl | rfl
   ·skip
    obtain ⟨iv,rfl⟩:=Int.eq_ofNat_of_zero_le ht0;have lA:(iv:Int) < (xs.length:Int):=by omega
    obtain ⟨jb,jo,hj,mA,ej⟩:=gi_at (a8.out _ (Bs w)).1 iv (by omega);subst hj;clear ht0 ht1;have r1:=lx.el (iv:Int);generalize gi xs (iv:Int)=gv at ej hQ r1
    have HQ:=Hi hQ;clear hQ;have m1:=e1.out rfl;have o8:IsLb sv:=by rw [m1];exact (lbo_lab z7 lp).1
    have s1:=Hi m1.symm;clear m1 e1 f1;go_enter Try.func88,Try.ntmps88
    have rA:=Lc ej;go_upto_region 1 with (fail)
    generalize hnw:World.alloc _ _=w1;have hb:=nmh hnw;clear hnw
    have b8:=hb.size;simp only [Sa] at b8;replace ej:=Kc hb (Ac (Ac ej _) _);have l0:=Bb (Bk.al (Bk.n3 (w.heap.size)) (.cells #[.int .i64 1,.int .i64 iv,.int .i64 c0.k,.int .i64 c0.v,.slice c0.p c0.n c0.c,.int .i64 b0.k,.int .i64 b0.v,.slice b0.p b0.n b0.c,.int .i64 r0,.slice q0 p0 o0,.slice u0 t0 s0] 51)) hb;have g0:=Bb (Bk.n11 (w.heap.size+1)) hb;have i0:=btr (bal (bal (Bs w) (.cells #[.slice (some ⟨jb,jo,none⟩) xs.length cv,.slice pa ys.length ca,.slice pu nu cu] 26)) (.cells #[.int .i64 1,.int .i64 iv,.int .i64 c0.k,.int .i64 c0.v,.slice c0.p c0.n c0.c,.int .i64 b0.k,.int .i64 b0.v,.slice b0.p b0.n b0.c,.int .i64 r0,.slice q0 p0 o0,.slice u0 t0 s0] 51)) hb;clear hb;have oE:=Lc ej;have pE:=Bk.lz l0;have qE:=Bk.lz g0;refine Rgh (S:=fun W'=>W'.cell? ⟨w.heap.size+1,0,none⟩=some (.int .i64 1)∧W'.cell? ⟨w.heap.size,0,none⟩=some (.slice (some ⟨jb,jo,none⟩) xs.length cv)∧W'.cell? ⟨w.heap.size,1,none⟩=some (.slice pa ys.length ca)∧W'.cell? ⟨w.heap.size,2,none⟩=some (.slice pu nu cu)∧W'.cell? ⟨w.heap.size+1,1,none⟩=some (.int .i64 iv)∧W'.cell? ⟨w.heap.size+1,2,none⟩=some (.int .i64 c0.k)∧W'.cell? ⟨w.heap.size+1,3,none⟩=some (.int .i64 c0.v)∧W'.cell? ⟨w.heap.size+1,4,none⟩=some (.slice c0.p c0.n c0.c)∧W'.cell? ⟨w.heap.size+1,5,none⟩=some (.int .i64 b0.k)∧W'.cell? ⟨w.heap.size+1,6,none⟩=some (.int .i64 b0.v)∧W'.cell? ⟨w.heap.size+1,7,none⟩=some (.slice b0.p b0.n b0.c)∧W'.cell? ⟨w.heap.size+1,8,none⟩=some (.int .i64 r0)∧W'.cell? ⟨w.heap.size+1,9,none⟩=some (.slice q0 p0 o0)∧W'.cell? ⟨w.heap.size+1,10,none⟩=some (.slice u0 t0 s0)∧W'.cell? ⟨jb,jo+iv,none⟩=some (.int .i64 gv)) (fun W d=>⟨Bk.kc g0 d 0,Bk.kc l0 d 0,Bk.kc l0 d 1,Bk.kc l0 d 2,Bk.kc g0 d 1,Bk.kc g0 d 2,Bk.kc g0 d 3,Bk.kc g0 d 4,Bk.kc g0 d 5,Bk.kc g0 d 6,Bk.kc g0 d 7,Bk.kc g0 d 8,Bk.kc g0 d 9,Bk.kc g0 d 10,Kc d ej⟩) (fun w2 t1 hHeld=>?_);have gD:=t1.size;replace ej:=Kc t1 ej;replace i0:=btr i0 t1;refine (tq 0 8 rfl rfl ?_ ?_ (tq 1 9 rfl rfl ?_ ?_ (tq 2 10 rfl rfl ?_ ?_ (tq 3 11 rfl rfl ?_ ?_ ?_))));iterate 4 (rotate_left;intro W' hSw;(try dsimp only at hSw);go_simp;try with_reducible rfl)
    try simp only [Ep]
    refine (tq 4 12 rfl rfl ?_ ?_ (tq 5 13 rfl rfl ?_ ?_ (tq 6 14 rfl rfl ?_ ?_ ?_)));iterate 3 (rotate_left;intro W' hSw;(try dsimp only at hSw);go_simp;try with_reducible rfl)
    try simp only [Ep]
    refine (tq 8 16 rfl rfl ?_ ?_ (tq 9 17 rfl rfl ?_ ?_ (tq 10 18 rfl rfl ?_ ?_ ?_)));iterate 3 (rotate_left;intro W' hSw;(try dsimp only at hSw);go_simp;try with_reducible rfl)
    try simp only [Ep]
    refine (tq 11 19 rfl rfl ?_ ?_ (tq 12 20 rfl rfl ?_ ?_ (tq 13 21 rfl rfl ?_ ?_ ?_)));iterate 3 (rotate_left;intro W' hSw;(try dsimp only at hSw);go_simp;try with_reducible rfl)
    try simp only [Ep]
    refine Rdy 7 rfl (fun K hK=>?_);replace l0:=Bb l0 t1;obtain ⟨zD,m9,p8,n9,q8,o9⟩:=Bk.h3 l0;replace g0:=Bb g0 t1;obtain ⟨r8,p9,s8,q9,t8,r9,u8,s9,v8,t9,w8,u9,x8,v9,y8,w9⟩:=Bk.h8 g0;obtain ⟨z8,x9,a9,y9,b9,z9⟩:=Bk.f3 g0 8 9 10 rfl rfl rfl;go_simp
    refine (x7.out (Or.inl rfl) _ i0).mono ?_;rintro e w3 ⟨rfl,i1⟩;have nA:=i1.size;clear m9 zD n9 p8 o9 q8 p9 r8 q9 s8 r9 t8 s9 u8 t9 v8 u9 w8 v9 x8 w9 y8 x9 z8 y9 a9 z9 b9;replace ej:=Kc i1 ej;replace i0:=btr i0 i1;replace l0:=Bb l0 i1;replace g0:=Bb g0 i1;refine hK.out _ _ ⟨Bk.ce g0 0,Bk.ce l0 0,Bk.ce l0 1,Bk.ce l0 2,Bk.ce g0 1,Bk.ce g0 2,Bk.ce g0 3,Bk.ce g0 4,Bk.ce g0 5,Bk.ce g0 6,Bk.ce g0 7,Bk.ce g0 8,Bk.ce g0 9,Bk.ce g0 10,ej⟩ (fun hHeld=>?_);clear hK K;try simp only [Ep]
    refine Rdy 14 rfl (fun K hK=>?_);go_simp
    refine (iFlows_any sv gv o8 r1 _).mono ?_;rintro e w4 ⟨rfl,z0⟩;have oA:=z0.size;replace ej:=Kc z0 ej;replace i0:=btr i0 z0
    cases hc41:floB sv gv with
    | false =>
     replace l0:=Bb l0 z0;replace g0:=Bb g0 z0;refine hK.out _ _ ⟨Bk.ce g0 0,Bk.ce l0 0,Bk.ce l0 1,Bk.ce l0 2,Bk.ce g0 1,Bk.ce g0 2,Bk.ce g0 3,Bk.ce g0 4,Bk.ce g0 5,Bk.ce g0 6,Bk.ce g0 7,Bk.ce g0 8,Bk.ce g0 9,Bk.ce g0 10,ej⟩ (fun hHeld=>?_);clear hK K;try simp only [Ep]
     refine (tq 15 23 rfl rfl ?_ ?_ (tq 16 24 rfl rfl ?_ ?_ (tq 17 7 rfl rfl ?_ ?_ ?_)));iterate 3 (rotate_left;intro W' hSw;(try dsimp only at hSw);go_simp;try with_reducible rfl)
     try simp only [Ep]
     refine Dn ?_;clear hHeld;have tt:=i0;go_wp2
     exact bodyPost_ret (v:=.int .i64 1) (by simp [results,Try.results88,go_sem]) rfl (by exact ⟨by rw [← HQ.out];simp [ownN,s1.out,hc41],tt⟩)
    | true =>
     replace l0:=Bb l0 z0;replace g0:=Bb g0 z0;refine hK.out _ _ ⟨Bk.ce g0 0,Bk.ce l0 0,Bk.ce l0 1,Bk.ce l0 2,Bk.ce g0 1,Bk.ce g0 2,Bk.ce g0 3,Bk.ce g0 4,Bk.ce g0 5,Bk.ce g0 6,Bk.ce g0 7,Bk.ce g0 8,Bk.ce g0 9,Bk.ce g0 10,ej⟩ (fun hHeld=>?_);clear hK K;try simp only [Ep]
     refine (tq 15 23 rfl rfl ?_ ?_ (tq 16 24 rfl rfl ?_ ?_ (tq 17 7 rfl rfl ?_ ?_ ?_)));iterate 3 (rotate_left;intro W' hSw;(try dsimp only at hSw);go_simp;try with_reducible rfl)
     try simp only [Ep]
     refine Dn ?_;clear hHeld;go_upto_region 3 with (fail)
     refine Rgh (S:=fun W'=>W'.cell? ⟨w.heap.size+1,0,none⟩=some (.int .i64 1)∧W'.cell? ⟨w.heap.size,0,none⟩=some (.slice (some ⟨jb,jo,none⟩) xs.length cv)∧W'.cell? ⟨w.heap.size,1,none⟩=some (.slice pa ys.length ca)∧W'.cell? ⟨w.heap.size,2,none⟩=some (.slice pu nu cu)∧W'.cell? ⟨w.heap.size+1,1,none⟩=some (.int .i64 iv)∧W'.cell? ⟨w.heap.size+1,2,none⟩=some (.int .i64 c0.k)∧W'.cell? ⟨w.heap.size+1,3,none⟩=some (.int .i64 c0.v)∧W'.cell? ⟨w.heap.size+1,4,none⟩=some (.slice c0.p c0.n c0.c)∧W'.cell? ⟨w.heap.size+1,5,none⟩=some (.int .i64 b0.k)∧W'.cell? ⟨w.heap.size+1,6,none⟩=some (.int .i64 b0.v)∧W'.cell? ⟨w.heap.size+1,7,none⟩=some (.slice b0.p b0.n b0.c)∧W'.cell? ⟨w.heap.size+1,8,none⟩=some (.int .i64 r0)∧W'.cell? ⟨w.heap.size+1,9,none⟩=some (.slice q0 p0 o0)∧W'.cell? ⟨w.heap.size+1,10,none⟩=some (.slice u0 t0 s0)) (fun W d=>⟨Bk.kc g0 d 0,Bk.kc l0 d 0,Bk.kc l0 d 1,Bk.kc l0 d 2,Bk.kc g0 d 1,Bk.kc g0 d 2,Bk.kc g0 d 3,Bk.kc g0 d 4,Bk.kc g0 d 5,Bk.kc g0 d 6,Bk.kc g0 d 7,Bk.kc g0 d 8,Bk.kc g0 d 9,Bk.kc g0 d 10⟩) (fun w5 j1 hHeld=>?_);have pA:=j1.size;replace ej:=Kc j1 ej;replace i0:=btr i0 j1;refine (tq 0 26 rfl rfl ?_ ?_ (tq 1 27 rfl rfl ?_ ?_ (tq 2 28 rfl rfl ?_ ?_ (tq 3 29 rfl rfl ?_ ?_ ?_))));iterate 4 (rotate_left;intro W' hSw;(try dsimp only at hSw);go_simp;try with_reducible rfl)
     try simp only [Ep]
     refine (tu 4 30 rfl rfl (tu 5 31 rfl rfl (tu 6 32 rfl rfl (tu 7 33 rfl rfl ?_))));try simp only [Ep]
     refine (tu 8 34 rfl rfl (tu 9 35 rfl rfl (tu 10 36 rfl rfl (tu 11 37 rfl rfl ?_))));try simp only [Ep]
     refine (tu 12 38 rfl rfl (tu 13 39 rfl rfl (tu 14 40 rfl rfl (tu 15 41 rfl rfl ?_))));try simp only [Ep]
     refine (tq 16 42 rfl rfl ?_ ?_ (tq 17 25 rfl rfl ?_ ?_ ?_));iterate 2 (rotate_left;intro W' hSw;(try dsimp only at hSw);go_simp;try with_reducible rfl)
     try simp only [Ep]
     refine Dn ?_;clear hHeld;replace l0:=Bb l0 j1;obtain ⟨lD,aE,mD,bE,nD,cE⟩:=Bk.h3 l0;replace g0:=Bb g0 j1;obtain ⟨oD,dE,pD,eE,qD,fE,rD,gE,sD,hE,tD,iE,uD,jE,vD,kE⟩:=Bk.h8 g0;obtain ⟨wD,lE,xD,mE,yD,nE⟩:=Bk.f3 g0 8 9 10 rfl rfl rfl;have tt:=i0;go_wp2
     exact bodyPost_ret (v:=.int .i64 0) (by simp [results,Try.results88,go_sem]) rfl (by exact ⟨by rw [← HQ.out];simp [ownN,s1.out,hc41],tt⟩)
   skip
   obtain ⟨iv,rfl⟩:=Int.eq_ofNat_of_zero_le ht0;have lA:(iv:Int) < (xs.length:Int):=by omega
   obtain ⟨jb,jo,hj,mA,ej⟩:=gi_at (a8.out _ (Bs w)).1 iv (by omega);subst hj;clear ht0 ht1;have r1:=lx.el (iv:Int);generalize gi xs (iv:Int)=gv at ej hQ r1
   have HQ:=Hi hQ;clear hQ;clear e1 f1;go_enter Try.func88,Try.ntmps88
   have rA:=Lc ej;go_upto_region 1 with (fail)
   generalize hnw:World.alloc _ _=w1;have hb:=nmh hnw;clear hnw
   have u1:=hb.size;simp only [Sa] at u1;replace ej:=Kc hb (Ac (Ac ej _) _);have m0:=Bb (Bk.al (Bk.n3 (w.heap.size)) (.cells #[.int .i64 5,.int .i64 iv,.int .i64 c0.k,.int .i64 c0.v,.slice c0.p c0.n c0.c,.int .i64 b0.k,.int .i64 b0.v,.slice b0.p b0.n b0.c,.int .i64 r0,.slice q0 p0 o0,.slice u0 t0 s0] 51)) hb;have h0:=Bb (Bk.n11 (w.heap.size+1)) hb;have i0:=btr (bal (bal (Bs w) (.cells #[.slice (some ⟨jb,jo,none⟩) xs.length cv,.slice pa ys.length ca,.slice pu nu cu] 26)) (.cells #[.int .i64 5,.int .i64 iv,.int .i64 c0.k,.int .i64 c0.v,.slice c0.p c0.n c0.c,.int .i64 b0.k,.int .i64 b0.v,.slice b0.p b0.n b0.c,.int .i64 r0,.slice q0 p0 o0,.slice u0 t0 s0] 51)) hb;clear hb;have hD:=Lc ej;have iD:=Bk.lz m0;have jD:=Bk.lz h0;refine Rgh (S:=fun W'=>W'.cell? ⟨w.heap.size+1,0,none⟩=some (.int .i64 5)∧W'.cell? ⟨w.heap.size,0,none⟩=some (.slice (some ⟨jb,jo,none⟩) xs.length cv)∧W'.cell? ⟨w.heap.size,1,none⟩=some (.slice pa ys.length ca)∧W'.cell? ⟨w.heap.size,2,none⟩=some (.slice pu nu cu)∧W'.cell? ⟨w.heap.size+1,1,none⟩=some (.int .i64 iv)∧W'.cell? ⟨w.heap.size+1,2,none⟩=some (.int .i64 c0.k)∧W'.cell? ⟨w.heap.size+1,3,none⟩=some (.int .i64 c0.v)∧W'.cell? ⟨w.heap.size+1,4,none⟩=some (.slice c0.p c0.n c0.c)∧W'.cell? ⟨w.heap.size+1,5,none⟩=some (.int .i64 b0.k)∧W'.cell? ⟨w.heap.size+1,6,none⟩=some (.int .i64 b0.v)∧W'.cell? ⟨w.heap.size+1,7,none⟩=some (.slice b0.p b0.n b0.c)∧W'.cell? ⟨w.heap.size+1,8,none⟩=some (.int .i64 r0)∧W'.cell? ⟨w.heap.size+1,9,none⟩=some (.slice q0 p0 o0)∧W'.cell? ⟨w.heap.size+1,10,none⟩=some (.slice u0 t0 s0)∧W'.cell? ⟨jb,jo+iv,none⟩=some (.int .i64 gv)) (fun W d=>⟨Bk.kc h0 d 0,Bk.kc m0 d 0,Bk.kc m0 d 1,Bk.kc m0 d 2,Bk.kc h0 d 1,Bk.kc h0 d 2,Bk.kc h0 d 3,Bk.kc h0 d 4,Bk.kc h0 d 5,Bk.kc h0 d 6,Bk.kc h0 d 7,Bk.kc h0 d 8,Bk.kc h0 d 9,Bk.kc h0 d 10,Kc d ej⟩) (fun w2 k1 hHeld=>?_);have qA:=k1.size;replace ej:=Kc k1 ej;replace i0:=btr i0 k1;refine (tq 0 8 rfl rfl ?_ ?_ (tq 1 9 rfl rfl ?_ ?_ (tq 2 10 rfl rfl ?_ ?_ (tq 3 11 rfl rfl ?_ ?_ ?_))));iterate 4 (rotate_left;intro W' hSw;(try dsimp only at hSw);go_simp;try with_reducible rfl)
   try simp only [Ep]
   refine (tu 4 12 rfl rfl (tu 5 13 rfl rfl (tu 6 14 rfl rfl (tu 7 15 rfl rfl ?_))));try simp only [Ep]
   refine (tu 8 16 rfl rfl (tu 9 17 rfl rfl (tu 10 18 rfl rfl (tu 11 19 rfl rfl ?_))));try simp only [Ep]
   refine (tu 12 20 rfl rfl (tu 13 21 rfl rfl (tu 14 22 rfl rfl (tu 15 23 rfl rfl ?_))));try simp only [Ep]
   refine (tq 16 24 rfl rfl ?_ ?_ (tq 17 7 rfl rfl ?_ ?_ ?_));iterate 2 (rotate_left;intro W' hSw;(try dsimp only at hSw);go_simp;try with_reducible rfl)
   try simp only [Ep]
   refine Dn ?_;clear hHeld;replace m0:=Bb m0 k1;obtain ⟨c9,aA,d9,bA,e9,cA⟩:=Bk.h3 m0;replace h0:=Bb h0 k1;obtain ⟨f9,dA,g9,eA,h9,fA,i9,gA,j9,hA,k9,iA,l9,jA,v1,a5⟩:=Bk.h8 h0;obtain ⟨x1,b5,y1,c5,z1,d5⟩:=Bk.f3 h0 8 9 10 rfl rfl rfl;go_upto_region 3 with (fail)
   clear aA c9 bA d9 cA e9 dA f9 eA g9 fA h9 gA i9 hA j9 iA k9 jA l9 a5 v1 b5 x1 c5 y1 d5 z1;refine Rgh (S:=fun W'=>W'.cell? ⟨w.heap.size+1,0,none⟩=some (.int .i64 5)∧W'.cell? ⟨w.heap.size,0,none⟩=some (.slice (some ⟨jb,jo,none⟩) xs.length cv)∧W'.cell? ⟨w.heap.size,1,none⟩=some (.slice pa ys.length ca)∧W'.cell? ⟨w.heap.size,2,none⟩=some (.slice pu nu cu)∧W'.cell? ⟨w.heap.size+1,1,none⟩=some (.int .i64 iv)∧W'.cell? ⟨w.heap.size+1,2,none⟩=some (.int .i64 c0.k)∧W'.cell? ⟨w.heap.size+1,3,none⟩=some (.int .i64 c0.v)∧W'.cell? ⟨w.heap.size+1,4,none⟩=some (.slice c0.p c0.n c0.c)∧W'.cell? ⟨w.heap.size+1,5,none⟩=some (.int .i64 b0.k)∧W'.cell? ⟨w.heap.size+1,6,none⟩=some (.int .i64 b0.v)∧W'.cell? ⟨w.heap.size+1,7,none⟩=some (.slice b0.p b0.n b0.c)∧W'.cell? ⟨w.heap.size+1,8,none⟩=some (.int .i64 r0)∧W'.cell? ⟨w.heap.size+1,9,none⟩=some (.slice q0 p0 o0)∧W'.cell? ⟨w.heap.size+1,10,none⟩=some (.slice u0 t0 s0)) (fun W d=>⟨Bk.kc h0 d 0,Bk.kc m0 d 0,Bk.kc m0 d 1,Bk.kc m0 d 2,Bk.kc h0 d 1,Bk.kc h0 d 2,Bk.kc h0 d 3,Bk.kc h0 d 4,Bk.kc h0 d 5,Bk.kc h0 d 6,Bk.kc h0 d 7,Bk.kc h0 d 8,Bk.kc h0 d 9,Bk.kc h0 d 10⟩) (fun w3 v0 hHeld=>?_);have c8:=v0.size;replace ej:=Kc v0 ej;replace i0:=btr i0 v0;refine (tq 0 26 rfl rfl ?_ ?_ (tq 1 27 rfl rfl ?_ ?_ (tq 2 28 rfl rfl ?_ ?_ (tq 3 29 rfl rfl ?_ ?_ ?_))));iterate 4 (rotate_left;intro W' hSw;(try dsimp only at hSw);go_simp;try with_reducible rfl)
   try simp only [Ep]
   refine (tu 4 30 rfl rfl (tu 5 31 rfl rfl (tu 6 32 rfl rfl (tu 7 33 rfl rfl ?_))));try simp only [Ep]
   refine (tu 8 34 rfl rfl (tu 9 35 rfl rfl (tu 10 36 rfl rfl (tu 11 37 rfl rfl ?_))));try simp only [Ep]
   refine (tu 12 38 rfl rfl (tu 13 39 rfl rfl (tu 14 40 rfl rfl (tu 15 41 rfl rfl ?_))));try simp only [Ep]
   refine (tq 16 42 rfl rfl ?_ ?_ (tq 17 25 rfl rfl ?_ ?_ ?_));iterate 2 (rotate_left;intro W' hSw;(try dsimp only at hSw);go_simp;try with_reducible rfl)
   try simp only [Ep]
   refine Dn ?_;clear hHeld;replace m0:=Bb m0 v0;obtain ⟨a2,e5,b2,f5,c2,g5⟩:=Bk.h3 m0;replace h0:=Bb h0 v0;obtain ⟨d2,h5,e2,i5,f2,j5,g2,k5,h2,l5,i2,m5,j2,n5,k2,o5⟩:=Bk.h8 h0;obtain ⟨l2,p5,m2,q5,n2,r5⟩:=Bk.f3 h0 8 9 10 rfl rfl rfl;go_wp2_with fail
   refine (kA.out hov _ i0).mono ?_;rintro e w4 ⟨rfl,g1⟩;have d8:=g1.size;clear e5 a2 f5 b2 g5 c2 h5 d2 i5 e2 j5 f2 k5 g2 l5 h2 m5 i2 n5 j2 o5 k2 p5 l2 q5 m2 r5 n2;replace ej:=Kc g1 ej;replace i0:=btr i0 g1;go_wp2_with fail
   refine (iTrusted_any lv z7 _).mono ?_;rintro e w5 ⟨rfl,h1⟩;have e8:=h1.size;replace ej:=Kc h1 ej;replace i0:=btr i0 h1
   cases hq142:truB lv with
   | false =>
    have tt:=i0;go_wp2
    exact bodyPost_ret (v:=.int .i64 2) (by simp [results,Try.results88,go_sem]) rfl (by exact ⟨by rw [← HQ.out];simp [ownN,hq142],tt⟩)
   | true =>
    by_cases hs56:¬pc=0
    ·skip
     have kD:(pc != 0)=true:=by simp [hs56]
     have tt:=i0;go_wp2
     exact bodyPost_ret (v:=.int .i64 2) (by simp [results,Try.results88,go_sem]) rfl (by exact ⟨by rw [← HQ.out];simp [ownN,hq142,hs56],tt⟩)
    skip
    have kD:(pc != 0)=false:=by rw [bne_eq_false_iff_eq];exact Decidable.not_not.1 hs56
    have tt:=i0;go_wp2
    exact bodyPost_ret (v:=.int .i64 0) (by simp [results,Try.results88,go_sem]) rfl (by exact ⟨by rw [← HQ.out];simp [ownN,hq142,hs56],tt⟩)
  ·skip
   obtain ⟨iv,rfl⟩:=Int.eq_ofNat_of_zero_le ht0;have lA:(iv:Int) < (ys.length:Int):=by omega
   obtain ⟨jb,jo,hj,mA,ej⟩:=gi_at (a8.out _ (Bs w)).2 iv (by omega);subst hj;clear ht0 ht1;have r1:=ly.el (iv:Int);generalize gi ys (iv:Int)=gv at ej hQ r1
   have HQ:=Hi hQ;clear hQ;have m1:=f1.out rfl;have o8:IsLb sv:=by rw [m1];exact (lbo_lab (lbo_lab z7 sA).1 lp).1
   have s1:=Hi m1.symm;clear m1 e1 f1;go_enter Try.func88,Try.ntmps88
   have rA:=Lc ej;go_upto_region 1 with (fail)
   generalize hnw:World.alloc _ _=w1;have hb:=nmh hnw;clear hnw
   have n1:=hb.size;simp only [Sa] at n1;replace ej:=Kc hb (Ac (Ac ej _) _);have f0:=Bb (Bk.al (Bk.n3 (w.heap.size)) (.cells #[.int .i64 2,.int .i64 iv,.int .i64 c0.k,.int .i64 c0.v,.slice c0.p c0.n c0.c,.int .i64 b0.k,.int .i64 b0.v,.slice b0.p b0.n b0.c,.int .i64 r0,.slice q0 p0 o0,.slice u0 t0 s0] 51)) hb;have a0:=Bb (Bk.n11 (w.heap.size+1)) hb;have i0:=btr (bal (bal (Bs w) (.cells #[.slice pv xs.length cv,.slice (some ⟨jb,jo,none⟩) ys.length ca,.slice pu nu cu] 26)) (.cells #[.int .i64 2,.int .i64 iv,.int .i64 c0.k,.int .i64 c0.v,.slice c0.p c0.n c0.c,.int .i64 b0.k,.int .i64 b0.v,.slice b0.p b0.n b0.c,.int .i64 r0,.slice q0 p0 o0,.slice u0 t0 s0] 51)) hb;clear hb;have tA:=Lc ej;have uA:=Bk.lz f0;have vA:=Bk.lz a0;refine Rgh (S:=fun W'=>W'.cell? ⟨w.heap.size+1,0,none⟩=some (.int .i64 2)∧W'.cell? ⟨w.heap.size,0,none⟩=some (.slice pv xs.length cv)∧W'.cell? ⟨w.heap.size,1,none⟩=some (.slice (some ⟨jb,jo,none⟩) ys.length ca)∧W'.cell? ⟨w.heap.size,2,none⟩=some (.slice pu nu cu)∧W'.cell? ⟨w.heap.size+1,1,none⟩=some (.int .i64 iv)∧W'.cell? ⟨w.heap.size+1,2,none⟩=some (.int .i64 c0.k)∧W'.cell? ⟨w.heap.size+1,3,none⟩=some (.int .i64 c0.v)∧W'.cell? ⟨w.heap.size+1,4,none⟩=some (.slice c0.p c0.n c0.c)∧W'.cell? ⟨w.heap.size+1,5,none⟩=some (.int .i64 b0.k)∧W'.cell? ⟨w.heap.size+1,6,none⟩=some (.int .i64 b0.v)∧W'.cell? ⟨w.heap.size+1,7,none⟩=some (.slice b0.p b0.n b0.c)∧W'.cell? ⟨w.heap.size+1,8,none⟩=some (.int .i64 r0)∧W'.cell? ⟨w.heap.size+1,9,none⟩=some (.slice q0 p0 o0)∧W'.cell? ⟨w.heap.size+1,10,none⟩=some (.slice u0 t0 s0)) (fun W d=>⟨Bk.kc a0 d 0,Bk.kc f0 d 0,Bk.kc f0 d 1,Bk.kc f0 d 2,Bk.kc a0 d 1,Bk.kc a0 d 2,Bk.kc a0 d 3,Bk.kc a0 d 4,Bk.kc a0 d 5,Bk.kc a0 d 6,Bk.kc a0 d 7,Bk.kc a0 d 8,Bk.kc a0 d 9,Bk.kc a0 d 10⟩) (fun w2 w0 hHeld=>?_);have f8:=w0.size;replace ej:=Kc w0 ej;replace i0:=btr i0 w0;refine (tq 0 8 rfl rfl ?_ ?_ (tq 1 9 rfl rfl ?_ ?_ (tq 2 10 rfl rfl ?_ ?_ (tq 3 11 rfl rfl ?_ ?_ ?_))));iterate 4 (rotate_left;intro W' hSw;(try dsimp only at hSw);go_simp;try with_reducible rfl)
   try simp only [Ep]
   refine (tu 4 12 rfl rfl (tu 5 13 rfl rfl (tu 6 14 rfl rfl (tu 7 15 rfl rfl ?_))));try simp only [Ep]
   refine (tu 8 16 rfl rfl (tu 9 17 rfl rfl (tu 10 18 rfl rfl (tu 11 19 rfl rfl ?_))));try simp only [Ep]
   refine (tu 12 20 rfl rfl (tu 13 21 rfl rfl (tu 14 22 rfl rfl (tu 15 23 rfl rfl ?_))));try simp only [Ep]
   refine (tq 16 24 rfl rfl ?_ ?_ (tq 17 7 rfl rfl ?_ ?_ ?_));iterate 2 (rotate_left;intro W' hSw;(try dsimp only at hSw);go_simp;try with_reducible rfl)
   try simp only [Ep]
   refine Dn ?_;clear hHeld;replace f0:=Bb f0 w0;obtain ⟨o2,s5,p2,t5,r2,u5⟩:=Bk.h3 f0;replace a0:=Bb a0 w0;obtain ⟨s2,v5,t2,x5,u2,y5,v2,z5,x2,a6,y2,b6,z2,c6,a3,d6⟩:=Bk.h8 a0;obtain ⟨b3,e6,c3,f6,d3,g6⟩:=Bk.f3 a0 8 9 10 rfl rfl rfl;go_upto_region 3 with (fail)
   clear s5 o2 t5 p2 u5 r2 v5 s2 x5 t2 y5 u2 z5 v2 a6 x2 b6 y2 c6 z2 d6 a3 e6 b3 f6 c3 g6 d3;refine Rgh (S:=fun W'=>W'.cell? ⟨w.heap.size+1,0,none⟩=some (.int .i64 2)∧W'.cell? ⟨w.heap.size,0,none⟩=some (.slice pv xs.length cv)∧W'.cell? ⟨w.heap.size,1,none⟩=some (.slice (some ⟨jb,jo,none⟩) ys.length ca)∧W'.cell? ⟨w.heap.size,2,none⟩=some (.slice pu nu cu)∧W'.cell? ⟨w.heap.size+1,1,none⟩=some (.int .i64 iv)∧W'.cell? ⟨w.heap.size+1,2,none⟩=some (.int .i64 c0.k)∧W'.cell? ⟨w.heap.size+1,3,none⟩=some (.int .i64 c0.v)∧W'.cell? ⟨w.heap.size+1,4,none⟩=some (.slice c0.p c0.n c0.c)∧W'.cell? ⟨w.heap.size+1,5,none⟩=some (.int .i64 b0.k)∧W'.cell? ⟨w.heap.size+1,6,none⟩=some (.int .i64 b0.v)∧W'.cell? ⟨w.heap.size+1,7,none⟩=some (.slice b0.p b0.n b0.c)∧W'.cell? ⟨w.heap.size+1,8,none⟩=some (.int .i64 r0)∧W'.cell? ⟨w.heap.size+1,9,none⟩=some (.slice q0 p0 o0)∧W'.cell? ⟨w.heap.size+1,10,none⟩=some (.slice u0 t0 s0)∧W'.cell? ⟨jb,jo+iv,none⟩=some (.int .i64 gv)) (fun W d=>⟨Bk.kc a0 d 0,Bk.kc f0 d 0,Bk.kc f0 d 1,Bk.kc f0 d 2,Bk.kc a0 d 1,Bk.kc a0 d 2,Bk.kc a0 d 3,Bk.kc a0 d 4,Bk.kc a0 d 5,Bk.kc a0 d 6,Bk.kc a0 d 7,Bk.kc a0 d 8,Bk.kc a0 d 9,Bk.kc a0 d 10,Kc d ej⟩) (fun w3 x0 hHeld=>?_);have g8:=x0.size;replace ej:=Kc x0 ej;replace i0:=btr i0 x0;refine (tq 0 26 rfl rfl ?_ ?_ (tq 1 27 rfl rfl ?_ ?_ (tq 2 28 rfl rfl ?_ ?_ (tq 3 29 rfl rfl ?_ ?_ ?_))));iterate 4 (rotate_left;intro W' hSw;(try dsimp only at hSw);go_simp;try with_reducible rfl)
   try simp only [Ep]
   refine (tq 4 30 rfl rfl ?_ ?_ (tq 5 31 rfl rfl ?_ ?_ (tq 6 32 rfl rfl ?_ ?_ ?_)));iterate 3 (rotate_left;intro W' hSw;(try dsimp only at hSw);go_simp;try with_reducible rfl)
   try simp only [Ep]
   refine (tq 8 34 rfl rfl ?_ ?_ (tq 9 35 rfl rfl ?_ ?_ (tq 10 36 rfl rfl ?_ ?_ ?_)));iterate 3 (rotate_left;intro W' hSw;(try dsimp only at hSw);go_simp;try with_reducible rfl)
   try simp only [Ep]
   refine (tq 11 37 rfl rfl ?_ ?_ (tq 12 38 rfl rfl ?_ ?_ (tq 13 39 rfl rfl ?_ ?_ ?_)));iterate 3 (rotate_left;intro W' hSw;(try dsimp only at hSw);go_simp;try with_reducible rfl)
   try simp only [Ep]
   refine Rdy 7 rfl (fun K hK=>?_);replace f0:=Bb f0 x0;obtain ⟨e3,h6,g3,i6,i3,j6⟩:=Bk.h3 f0;replace a0:=Bb a0 x0;obtain ⟨j3,k6,k3,l6,l3,m6,m3,n6,o3,o6,p3,p6,r3,q6,s3,r6⟩:=Bk.h8 a0;obtain ⟨t3,s6,u3,t6,v3,u6⟩:=Bk.f3 a0 8 9 10 rfl rfl rfl;go_simp
   refine (x7.out (Or.inr rfl) _ i0).mono ?_;rintro e w4 ⟨rfl,y0⟩;have i8:=y0.size;clear h6 e3 i6 g3 j6 i3 k6 j3 l6 k3 m6 l3 n6 m3 o6 o3 p6 p3 q6 r3 r6 s3 s6 t3 t6 u3 u6 v3;replace ej:=Kc y0 ej;replace i0:=btr i0 y0;replace f0:=Bb f0 y0;replace a0:=Bb a0 y0;refine hK.out _ _ ⟨Bk.ce a0 0,Bk.ce f0 0,Bk.ce f0 1,Bk.ce f0 2,Bk.ce a0 1,Bk.ce a0 2,Bk.ce a0 3,Bk.ce a0 4,Bk.ce a0 5,Bk.ce a0 6,Bk.ce a0 7,Bk.ce a0 8,Bk.ce a0 9,Bk.ce a0 10,ej⟩ (fun hHeld=>?_);clear hK K;try simp only [Ep]
   refine Rdy 14 rfl (fun K hK=>?_);go_simp
   refine (iFlows_any sv gv o8 r1 _).mono ?_;rintro e w5 ⟨rfl,n0⟩;have j8:=n0.size;replace ej:=Kc n0 ej;replace i0:=btr i0 n0
   cases hc213:floB sv gv with
   | false =>
    replace f0:=Bb f0 n0;replace a0:=Bb a0 n0;refine hK.out _ _ ⟨Bk.ce a0 0,Bk.ce f0 0,Bk.ce f0 1,Bk.ce f0 2,Bk.ce a0 1,Bk.ce a0 2,Bk.ce a0 3,Bk.ce a0 4,Bk.ce a0 5,Bk.ce a0 6,Bk.ce a0 7,Bk.ce a0 8,Bk.ce a0 9,Bk.ce a0 10,ej⟩ (fun hHeld=>?_);clear hK K;try simp only [Ep]
    refine (tq 15 41 rfl rfl ?_ ?_ (tq 16 42 rfl rfl ?_ ?_ (tq 17 25 rfl rfl ?_ ?_ ?_)));iterate 3 (rotate_left;intro W' hSw;(try dsimp only at hSw);go_simp;try with_reducible rfl)
    try simp only [Ep]
    refine Dn ?_;clear hHeld;have tt:=i0;go_wp2
    exact bodyPost_ret (v:=.int .i64 1) (by simp [results,Try.results88,go_sem]) rfl (by exact ⟨by rw [← HQ.out];simp [ownN,s1.out,hc213],tt⟩)
   | true =>
    replace f0:=Bb f0 n0;replace a0:=Bb a0 n0;refine hK.out _ _ ⟨Bk.ce a0 0,Bk.ce f0 0,Bk.ce f0 1,Bk.ce f0 2,Bk.ce a0 1,Bk.ce a0 2,Bk.ce a0 3,Bk.ce a0 4,Bk.ce a0 5,Bk.ce a0 6,Bk.ce a0 7,Bk.ce a0 8,Bk.ce a0 9,Bk.ce a0 10,ej⟩ (fun hHeld=>?_);clear hK K;try simp only [Ep]
    refine (tq 15 41 rfl rfl ?_ ?_ (tq 16 42 rfl rfl ?_ ?_ (tq 17 25 rfl rfl ?_ ?_ ?_)));iterate 3 (rotate_left;intro W' hSw;(try dsimp only at hSw);go_simp;try with_reducible rfl)
    try simp only [Ep]
    refine Dn ?_;clear hHeld;obtain ⟨aB,dC⟩:=Bk.cf a0 0 rfl;have tt:=i0;go_wp2
    exact bodyPost_ret (v:=.int .i64 0) (by simp [results,Try.results88,go_sem]) rfl (by exact ⟨by rw [← HQ.out];simp [ownN,s1.out,hc213],tt⟩)
  ·skip
   have HQ:=Hi hQ;clear hQ;clear e1 f1;go_enter Try.func88,Try.ntmps88
   go_upto_region 1 with (fail)
   generalize hnw:World.alloc _ _=w1;have hb:=nmh hnw;clear hnw
   have o1:=hb.size;simp only [Sa] at o1;have j0:=Bb (Bk.al (Bk.n3 (w.heap.size)) (.cells #[.int .i64 3,.int .i64 nt,.int .i64 c0.k,.int .i64 c0.v,.slice c0.p c0.n c0.c,.int .i64 b0.k,.int .i64 b0.v,.slice b0.p b0.n b0.c,.int .i64 r0,.slice q0 p0 o0,.slice u0 t0 s0] 51)) hb;have d0:=Bb (Bk.n11 (w.heap.size+1)) hb;have i0:=btr (bal (bal (Bs w) (.cells #[.slice pv xs.length cv,.slice pa ys.length ca,.slice pu nu cu] 26)) (.cells #[.int .i64 3,.int .i64 nt,.int .i64 c0.k,.int .i64 c0.v,.slice c0.p c0.n c0.c,.int .i64 b0.k,.int .i64 b0.v,.slice b0.p b0.n b0.c,.int .i64 r0,.slice q0 p0 o0,.slice u0 t0 s0] 51)) hb;clear hb;have wA:=Bk.lz j0;have xA:=Bk.lz d0;refine Rgh (S:=fun W'=>W'.cell? ⟨w.heap.size+1,0,none⟩=some (.int .i64 3)∧W'.cell? ⟨w.heap.size,0,none⟩=some (.slice pv xs.length cv)∧W'.cell? ⟨w.heap.size,1,none⟩=some (.slice pa ys.length ca)∧W'.cell? ⟨w.heap.size,2,none⟩=some (.slice pu nu cu)∧W'.cell? ⟨w.heap.size+1,1,none⟩=some (.int .i64 nt)∧W'.cell? ⟨w.heap.size+1,2,none⟩=some (.int .i64 c0.k)∧W'.cell? ⟨w.heap.size+1,3,none⟩=some (.int .i64 c0.v)∧W'.cell? ⟨w.heap.size+1,4,none⟩=some (.slice c0.p c0.n c0.c)∧W'.cell? ⟨w.heap.size+1,5,none⟩=some (.int .i64 b0.k)∧W'.cell? ⟨w.heap.size+1,6,none⟩=some (.int .i64 b0.v)∧W'.cell? ⟨w.heap.size+1,7,none⟩=some (.slice b0.p b0.n b0.c)∧W'.cell? ⟨w.heap.size+1,8,none⟩=some (.int .i64 r0)∧W'.cell? ⟨w.heap.size+1,9,none⟩=some (.slice q0 p0 o0)∧W'.cell? ⟨w.heap.size+1,10,none⟩=some (.slice u0 t0 s0)) (fun W d=>⟨Bk.kc d0 d 0,Bk.kc j0 d 0,Bk.kc j0 d 1,Bk.kc j0 d 2,Bk.kc d0 d 1,Bk.kc d0 d 2,Bk.kc d0 d 3,Bk.kc d0 d 4,Bk.kc d0 d 5,Bk.kc d0 d 6,Bk.kc d0 d 7,Bk.kc d0 d 8,Bk.kc d0 d 9,Bk.kc d0 d 10⟩) (fun w2 a1 hHeld=>?_);have k8:=a1.size;replace i0:=btr i0 a1;refine (tq 0 8 rfl rfl ?_ ?_ (tq 1 9 rfl rfl ?_ ?_ (tq 2 10 rfl rfl ?_ ?_ (tq 3 11 rfl rfl ?_ ?_ ?_))));iterate 4 (rotate_left;intro W' hSw;(try dsimp only at hSw);go_simp;try with_reducible rfl)
   try simp only [Ep]
   refine (tu 4 12 rfl rfl (tu 5 13 rfl rfl (tu 6 14 rfl rfl (tu 7 15 rfl rfl ?_))));try simp only [Ep]
   refine (tu 8 16 rfl rfl (tu 9 17 rfl rfl (tu 10 18 rfl rfl (tu 11 19 rfl rfl ?_))));try simp only [Ep]
   refine (tu 12 20 rfl rfl (tu 13 21 rfl rfl (tu 14 22 rfl rfl (tu 15 23 rfl rfl ?_))));try simp only [Ep]
   refine (tq 16 24 rfl rfl ?_ ?_ (tq 17 7 rfl rfl ?_ ?_ ?_));iterate 2 (rotate_left;intro W' hSw;(try dsimp only at hSw);go_simp;try with_reducible rfl)
   try simp only [Ep]
   refine Dn ?_;clear hHeld;replace j0:=Bb j0 a1;obtain ⟨x3,v6,y3,w6,z3,x6⟩:=Bk.h3 j0;replace d0:=Bb d0 a1;obtain ⟨a4,y6,b4,z6,c4,a7,d4,b7,e4,c7,f4,d7,g4,e7,h4,f7⟩:=Bk.h8 d0;obtain ⟨i4,g7,j4,h7,k4,i7⟩:=Bk.f3 d0 8 9 10 rfl rfl rfl;go_upto_region 3 with (fail)
   clear v6 x3 w6 y3 x6 z3 y6 a4 z6 b4 a7 c4 b7 d4 c7 e4 d7 f4 e7 g4 f7 h4 g7 i4 h7 j4 i7 k4;refine Rgh (S:=fun W'=>W'.cell? ⟨w.heap.size+1,0,none⟩=some (.int .i64 3)∧W'.cell? ⟨w.heap.size,0,none⟩=some (.slice pv xs.length cv)∧W'.cell? ⟨w.heap.size,1,none⟩=some (.slice pa ys.length ca)∧W'.cell? ⟨w.heap.size,2,none⟩=some (.slice pu nu cu)∧W'.cell? ⟨w.heap.size+1,1,none⟩=some (.int .i64 nt)∧W'.cell? ⟨w.heap.size+1,2,none⟩=some (.int .i64 c0.k)∧W'.cell? ⟨w.heap.size+1,3,none⟩=some (.int .i64 c0.v)∧W'.cell? ⟨w.heap.size+1,4,none⟩=some (.slice c0.p c0.n c0.c)∧W'.cell? ⟨w.heap.size+1,5,none⟩=some (.int .i64 b0.k)∧W'.cell? ⟨w.heap.size+1,6,none⟩=some (.int .i64 b0.v)∧W'.cell? ⟨w.heap.size+1,7,none⟩=some (.slice b0.p b0.n b0.c)∧W'.cell? ⟨w.heap.size+1,8,none⟩=some (.int .i64 r0)∧W'.cell? ⟨w.heap.size+1,9,none⟩=some (.slice q0 p0 o0)∧W'.cell? ⟨w.heap.size+1,10,none⟩=some (.slice u0 t0 s0)) (fun W d=>⟨Bk.kc d0 d 0,Bk.kc j0 d 0,Bk.kc j0 d 1,Bk.kc j0 d 2,Bk.kc d0 d 1,Bk.kc d0 d 2,Bk.kc d0 d 3,Bk.kc d0 d 4,Bk.kc d0 d 5,Bk.kc d0 d 6,Bk.kc d0 d 7,Bk.kc d0 d 8,Bk.kc d0 d 9,Bk.kc d0 d 10⟩) (fun w3 b1 hHeld=>?_);have l8:=b1.size;replace i0:=btr i0 b1;refine (tq 0 26 rfl rfl ?_ ?_ (tq 1 27 rfl rfl ?_ ?_ (tq 2 28 rfl rfl ?_ ?_ (tq 3 29 rfl rfl ?_ ?_ ?_))));iterate 4 (rotate_left;intro W' hSw;(try dsimp only at hSw);go_simp;try with_reducible rfl)
   try simp only [Ep]
   refine (tu 4 30 rfl rfl (tu 5 31 rfl rfl (tu 6 32 rfl rfl (tu 7 33 rfl rfl ?_))));try simp only [Ep]
   refine (tu 8 34 rfl rfl (tu 9 35 rfl rfl (tu 10 36 rfl rfl (tu 11 37 rfl rfl ?_))));try simp only [Ep]
   refine (tu 12 38 rfl rfl (tu 13 39 rfl rfl (tu 14 40 rfl rfl (tu 15 41 rfl rfl ?_))));try simp only [Ep]
   refine (tq 16 42 rfl rfl ?_ ?_ (tq 17 25 rfl rfl ?_ ?_ ?_));iterate 2 (rotate_left;intro W' hSw;(try dsimp only at hSw);go_simp;try with_reducible rfl)
   try simp only [Ep]
   refine Dn ?_;clear hHeld;replace j0:=Bb j0 b1;obtain ⟨bB,eC,cB,fC,dB,gC⟩:=Bk.h3 j0;replace d0:=Bb d0 b1;obtain ⟨eB,hC,fB,iC,gB,jC,hB,kC,iB,lC,jB,mC,kB,nC,lB,oC⟩:=Bk.h8 d0;obtain ⟨mB,pC,nB,qC,oB,rC⟩:=Bk.f3 d0 8 9 10 rfl rfl rfl;have tt:=i0;go_wp2
   exact bodyPost_ret (v:=.int .i64 0) (by simp [results,Try.results88,go_sem]) rfl (by exact ⟨by rw [← HQ.out];simp [ownN],tt⟩)
  skip
  have HQ:=Hi hQ;clear hQ;clear e1 f1;go_enter Try.func88,Try.ntmps88
  go_upto_region 1 with (fail)
  generalize hnw:World.alloc _ _=w1;have hb:=nmh hnw;clear hnw
  have p1:=hb.size;simp only [Sa] at p1;have k0:=Bb (Bk.al (Bk.n3 (w.heap.size)) (.cells #[.int .i64 4,.int .i64 nt,.int .i64 c0.k,.int .i64 c0.v,.slice c0.p c0.n c0.c,.int .i64 b0.k,.int .i64 b0.v,.slice b0.p b0.n b0.c,.int .i64 r0,.slice q0 p0 o0,.slice u0 t0 s0] 51)) hb;have e0:=Bb (Bk.n11 (w.heap.size+1)) hb;have i0:=btr (bal (bal (Bs w) (.cells #[.slice pv xs.length cv,.slice pa ys.length ca,.slice pu nu cu] 26)) (.cells #[.int .i64 4,.int .i64 nt,.int .i64 c0.k,.int .i64 c0.v,.slice c0.p c0.n c0.c,.int .i64 b0.k,.int .i64 b0.v,.slice b0.p b0.n b0.c,.int .i64 r0,.slice q0 p0 o0,.slice u0 t0 s0] 51)) hb;clear hb;have yA:=Bk.lz k0;have zA:=Bk.lz e0;refine Rgh (S:=fun W'=>W'.cell? ⟨w.heap.size+1,0,none⟩=some (.int .i64 4)∧W'.cell? ⟨w.heap.size,0,none⟩=some (.slice pv xs.length cv)∧W'.cell? ⟨w.heap.size,1,none⟩=some (.slice pa ys.length ca)∧W'.cell? ⟨w.heap.size,2,none⟩=some (.slice pu nu cu)∧W'.cell? ⟨w.heap.size+1,1,none⟩=some (.int .i64 nt)∧W'.cell? ⟨w.heap.size+1,2,none⟩=some (.int .i64 c0.k)∧W'.cell? ⟨w.heap.size+1,3,none⟩=some (.int .i64 c0.v)∧W'.cell? ⟨w.heap.size+1,4,none⟩=some (.slice c0.p c0.n c0.c)∧W'.cell? ⟨w.heap.size+1,5,none⟩=some (.int .i64 b0.k)∧W'.cell? ⟨w.heap.size+1,6,none⟩=some (.int .i64 b0.v)∧W'.cell? ⟨w.heap.size+1,7,none⟩=some (.slice b0.p b0.n b0.c)∧W'.cell? ⟨w.heap.size+1,8,none⟩=some (.int .i64 r0)∧W'.cell? ⟨w.heap.size+1,9,none⟩=some (.slice q0 p0 o0)∧W'.cell? ⟨w.heap.size+1,10,none⟩=some (.slice u0 t0 s0)) (fun W d=>⟨Bk.kc e0 d 0,Bk.kc k0 d 0,Bk.kc k0 d 1,Bk.kc k0 d 2,Bk.kc e0 d 1,Bk.kc e0 d 2,Bk.kc e0 d 3,Bk.kc e0 d 4,Bk.kc e0 d 5,Bk.kc e0 d 6,Bk.kc e0 d 7,Bk.kc e0 d 8,Bk.kc e0 d 9,Bk.kc e0 d 10⟩) (fun w2 c1 hHeld=>?_);have m8:=c1.size;replace i0:=btr i0 c1;refine (tq 0 8 rfl rfl ?_ ?_ (tq 1 9 rfl rfl ?_ ?_ (tq 2 10 rfl rfl ?_ ?_ (tq 3 11 rfl rfl ?_ ?_ ?_))));iterate 4 (rotate_left;intro W' hSw;(try dsimp only at hSw);go_simp;try with_reducible rfl)
  try simp only [Ep]
  refine (tu 4 12 rfl rfl (tu 5 13 rfl rfl (tu 6 14 rfl rfl (tu 7 15 rfl rfl ?_))));try simp only [Ep]
  refine (tu 8 16 rfl rfl (tu 9 17 rfl rfl (tu 10 18 rfl rfl (tu 11 19 rfl rfl ?_))));try simp only [Ep]
  refine (tu 12 20 rfl rfl (tu 13 21 rfl rfl (tu 14 22 rfl rfl (tu 15 23 rfl rfl ?_))));try simp only [Ep]
  refine (tq 16 24 rfl rfl ?_ ?_ (tq 17 7 rfl rfl ?_ ?_ ?_));iterate 2 (rotate_left;intro W' hSw;(try dsimp only at hSw);go_simp;try with_reducible rfl)
  try simp only [Ep]
  refine Dn ?_;clear hHeld;replace k0:=Bb k0 c1;obtain ⟨l4,j7,m4,k7,n4,l7⟩:=Bk.h3 k0;replace e0:=Bb e0 c1;obtain ⟨o4,m7,p4,n7,q4,o7,r4,p7,s4,q7,t4,r7,u4,s7,v4,t7⟩:=Bk.h8 e0;obtain ⟨x4,u7,y4,v7,z4,w7⟩:=Bk.f3 e0 8 9 10 rfl rfl rfl;go_upto_region 3 with (fail)
  clear j7 l4 k7 m4 l7 n4 m7 o4 n7 p4 o7 q4 p7 r4 q7 s4 r7 t4 s7 u4 t7 v4 u7 x4 v7 y4 w7 z4;refine Rgh (S:=fun W'=>W'.cell? ⟨w.heap.size+1,0,none⟩=some (.int .i64 4)∧W'.cell? ⟨w.heap.size,0,none⟩=some (.slice pv xs.length cv)∧W'.cell? ⟨w.heap.size,1,none⟩=some (.slice pa ys.length ca)∧W'.cell? ⟨w.heap.size,2,none⟩=some (.slice pu nu cu)∧W'.cell? ⟨w.heap.size+1,1,none⟩=some (.int .i64 nt)∧W'.cell? ⟨w.heap.size+1,2,none⟩=some (.int .i64 c0.k)∧W'.cell? ⟨w.heap.size+1,3,none⟩=some (.int .i64 c0.v)∧W'.cell? ⟨w.heap.size+1,4,none⟩=some (.slice c0.p c0.n c0.c)∧W'.cell? ⟨w.heap.size+1,5,none⟩=some (.int .i64 b0.k)∧W'.cell? ⟨w.heap.size+1,6,none⟩=some (.int .i64 b0.v)∧W'.cell? ⟨w.heap.size+1,7,none⟩=some (.slice b0.p b0.n b0.c)∧W'.cell? ⟨w.heap.size+1,8,none⟩=some (.int .i64 r0)∧W'.cell? ⟨w.heap.size+1,9,none⟩=some (.slice q0 p0 o0)∧W'.cell? ⟨w.heap.size+1,10,none⟩=some (.slice u0 t0 s0)) (fun W d=>⟨Bk.kc e0 d 0,Bk.kc k0 d 0,Bk.kc k0 d 1,Bk.kc k0 d 2,Bk.kc e0 d 1,Bk.kc e0 d 2,Bk.kc e0 d 3,Bk.kc e0 d 4,Bk.kc e0 d 5,Bk.kc e0 d 6,Bk.kc e0 d 7,Bk.kc e0 d 8,Bk.kc e0 d 9,Bk.kc e0 d 10⟩) (fun w3 d1 hHeld=>?_);have n8:=d1.size;replace i0:=btr i0 d1;refine (tq 0 26 rfl rfl ?_ ?_ (tq 1 27 rfl rfl ?_ ?_ (tq 2 28 rfl rfl ?_ ?_ (tq 3 29 rfl rfl ?_ ?_ ?_))));iterate 4 (rotate_left;intro W' hSw;(try dsimp only at hSw);go_simp;try with_reducible rfl)
  try simp only [Ep]
  refine (tu 4 30 rfl rfl (tu 5 31 rfl rfl (tu 6 32 rfl rfl (tu 7 33 rfl rfl ?_))));try simp only [Ep]
  refine (tu 8 34 rfl rfl (tu 9 35 rfl rfl (tu 10 36 rfl rfl (tu 11 37 rfl rfl ?_))));try simp only [Ep]
  refine (tu 12 38 rfl rfl (tu 13 39 rfl rfl (tu 14 40 rfl rfl (tu 15 41 rfl rfl ?_))));try simp only [Ep]
  refine (tq 16 42 rfl rfl ?_ ?_ (tq 17 25 rfl rfl ?_ ?_ ?_));iterate 2 (rotate_left;intro W' hSw;(try dsimp only at hSw);go_simp;try with_reducible rfl)
  try simp only [Ep]
  refine Dn ?_;clear hHeld;replace k0:=Bb k0 d1;obtain ⟨pB,sC,qB,tC,rB,uC⟩:=Bk.h3 k0;replace e0:=Bb e0 d1;obtain ⟨sB,vC,tB,wC,uB,xC,vB,yC,wB,zC,xB,aD,yB,bD,zB,cD⟩:=Bk.h8 e0;obtain ⟨aC,dD,bC,eD,cC,fD⟩:=Bk.f3 e0 8 9 10 rfl rfl rfl;have tt:=i0;go_wp2
  exact bodyPost_ret (v:=.int .i64 0) (by simp [results,Try.results88,go_sem]) rfl (by exact ⟨by rw [← HQ.out];simp [ownN],tt⟩)
end Go.Proofs.Ytlckklglbodgbaa
