/-
 Parts of the proofs of the laws FnExactProductProgram.
-/
import Derived.Test.YtlckklglbodgbaaNK5
set_option maxHeartbeats 12800000
set_option maxRecDepth 100000
set_option linter.all false
namespace Go.Proofs.Ytlckklglbodgbaa
open Go.RowKit
def leakN (k lv li:Int) (rv:Bool):Int:=if k=3∧secB lv=true then 3 else if (k=2∧secB li=true)∨rv=true then 4 else 0
theorem leakF_eq (xs ys:List Int) (k t c:Int) (ix v:Ex) (b e:List St):leakF xs ys (.mk k t ix v c b e)=leakN k (labE xs ys v) (labE xs ys ix) (srdE xs ys v):=rfl
theorem iSecretRead_nil (xs ys:List Int) (pv pa pu:Option Addr) (cv ca nu cu:Nat) (np:Option Addr) (nc:Nat) (w:World) :
  Calls Try.prog 91 #[.agg #[.slice pv xs.length cv,.slice pa ys.length ca,.slice pu nu cu],.agg #[.int .i64 0,.int .i64 0,.slice np 0 nc]] w fun r w'=>r=.returned (.bool false)∧Below w.heap.size w w':=by
 have p0:=Hi (fun W (hW:Below w.heap.size w W)=>hasE_any (.agg #[.slice pv xs.length cv,.slice pa ys.length ca,.slice pu nu cu]) xs ys np [] nc W (Hi (fun W2 hW2 j hj=>by cases hj)) (by simp));go_enter Try.func91,Try.ntmps91
 go_upto_region 1 with (fail)
 generalize hnw:World.alloc _ _=w1;have hb:=nmh hnw;clear hnw
 have f0:=hb.size;simp only [Sa] at f0;have a0:=Bb (Bk.al (Bk.n3 (w.heap.size)) (.cells #[.int .i64 0,.int .i64 0,.slice np 0 nc] 49)) hb;have b0:=Bb (Bk.n3 (w.heap.size+1)) hb;have d0:=btr (bal (bal (Bs w) (.cells #[.slice pv xs.length cv,.slice pa ys.length ca,.slice pu nu cu] 26)) (.cells #[.int .i64 0,.int .i64 0,.slice np 0 nc] 49)) hb;clear hb;have t0:=Bk.lz a0;have u0:=Bk.lz b0;refine Rgh (S:=fun W'=>W'.cell? ⟨w.heap.size+1,0,none⟩=some (.int .i64 0)∧W'.cell? ⟨w.heap.size,0,none⟩=some (.slice pv xs.length cv)∧W'.cell? ⟨w.heap.size,1,none⟩=some (.slice pa ys.length ca)∧W'.cell? ⟨w.heap.size,2,none⟩=some (.slice pu nu cu)∧W'.cell? ⟨w.heap.size+1,2,none⟩=some (.slice np 0 nc)) (fun W d=>⟨Bk.kc b0 d 0,Bk.kc a0 d 0,Bk.kc a0 d 1,Bk.kc a0 d 2,Bk.kc b0 d 2⟩) (fun w2 e0 hHeld=>?_);have q0:=e0.size;replace d0:=btr d0 e0;refine (tq 0 5 rfl rfl ?_ ?_ (tq 1 6 rfl rfl ?_ ?_ (tq 2 7 rfl rfl ?_ ?_ (tq 3 8 rfl rfl ?_ ?_ ?_))));iterate 4 (rotate_left;intro W' hSw;(try dsimp only at hSw);go_simp;try with_reducible rfl)
 try simp only [Ep]
 refine (tu 4 9 rfl rfl (tu 5 10 rfl rfl (tu 6 11 rfl rfl (tu 7 12 rfl rfl ?_))));try simp only [Ep]
 refine (tu 8 13 rfl rfl (tu 9 14 rfl rfl (tu 10 15 rfl rfl (tq 11 16 rfl rfl ?_ ?_ (tq 12 17 rfl rfl ?_ ?_ ?_)))));iterate 2 (rotate_left;intro W' hSw;(try dsimp only at hSw);go_simp;try with_reducible rfl)
 try simp only [Ep]
 refine (tq 13 18 rfl rfl ?_ ?_ (tq 14 19 rfl rfl ?_ ?_ (tq 15 20 rfl rfl ?_ ?_ ?_)));iterate 3 (rotate_left;intro W' hSw;(try dsimp only at hSw);go_simp;try with_reducible rfl)
 try simp only [Ep]
 refine (tq 16 21 rfl rfl ?_ ?_ ?_);(rotate_left;intro W' hSw;(try dsimp only at hSw);go_simp;try with_reducible rfl)
 try simp only [Ep]
 refine Rdy 17 rfl (fun K hK=>?_);replace a0:=Bb a0 e0;obtain ⟨r0,s0,g0,k0,h0,l0⟩:=Bk.h3 a0;replace b0:=Bb b0 e0;obtain ⟨i0,m0,j0,n0⟩:=Bk.f2 b0 0 2 rfl rfl;go_simp
 refine (p0.out _ d0).mono ?_;rintro e w3 ⟨rfl,c0⟩;have o0:=c0.size;clear s0 r0 k0 g0 l0 h0 m0 i0 n0 j0;replace d0:=btr d0 c0;rw [show srdL xs ys []=false from rfl];replace a0:=Bb a0 c0;replace b0:=Bb b0 c0;refine hK.out _ _ ⟨Bk.ce b0 0,Bk.ce a0 0,Bk.ce a0 1,Bk.ce a0 2,Bk.ce b0 2⟩ (fun hHeld=>?_);clear hK K;try simp only [Ep]
 refine (tq 18 23 rfl rfl ?_ ?_ (tq 19 4 rfl rfl ?_ ?_ ?_));iterate 2 (rotate_left;intro W' hSw;(try dsimp only at hSw);go_simp;try with_reducible rfl)
 try simp only [Ep]
 refine Dn ?_;clear hHeld;have tt:=d0;go_wp2
 exact bodyPost_ret (v:=.bool false) (by simp [results,Try.results91,go_sem]) rfl (by exact ⟨rfl,tt⟩)
theorem iLeak_any (xs ys:List Int) (pv pa pu:Option Addr) (cv ca nu cu:Nat) (d:Nat) (A:Nat→Prop) (D:Nat) (n:Sn) (s:St) (pc:Int) (w:World) (hr:Reads w 1 (.slice pv xs.length cv) xs.length (ints xs)) (hs:Reads w 1 (.slice pa ys.length ca) ys.length (ints ys)) (hx:StAt w A D n s) (hok:stOk xs.length ys.length (d+1) s=true) (lx:LabsP xs) (ly:LabsP ys) :
  Calls Try.prog 63 #[.agg #[.slice pv xs.length cv,.slice pa ys.length ca,.slice pu nu cu],.agg #[.int .i64 n.k,.int .i64 n.t,.int .i64 n.ix.k,.int .i64 n.ix.v,.slice n.ix.p n.ix.n n.ix.c,.int .i64 n.val.k,.int .i64 n.val.v,.slice n.val.p n.val.n n.val.c,.int .i64 n.c,.slice n.bp n.bn n.bc,.slice n.ep n.en n.ec],.int .i64 pc] w fun r w'=>r=.returned (.int .i64 (leakF xs ys s))∧Below w.heap.size w w':=by
 cases D with
 | zero=>cases hx
 | succ D =>
  obtain ⟨k,t,ix,val,c,a1,o2⟩:=s;obtain ⟨q1,q2,q3,⟨D1,hi⟩,⟨D2,hv⟩,_,_⟩:=hx;have hc:=st_cases hok;have h2:Hid (exOk xs.length ys.length 5 val=true→∀ W,Below w.heap.size w W→Calls Try.prog 55 #[.agg #[.slice pv xs.length cv,.slice pa ys.length ca,.slice pu nu cu],.agg #[.int .i64 n.val.k,.int .i64 n.val.v,.slice n.val.p n.val.n n.val.c]] W fun r w'=>r=.returned (.int .i64 (labE xs ys val))∧Below W.heap.size W w'):=Hi (fun h W hW=>iLabel_any xs ys pv pa pu cv ca nu cu 5 A D2 n.val val W (hr.below hW) (hs.below hW) (hv.below hW) h);have g2:Hid (exOk xs.length ys.length 5 ix=true→∀ W,Below w.heap.size w W→Calls Try.prog 55 #[.agg #[.slice pv xs.length cv,.slice pa ys.length ca,.slice pu nu cu],.agg #[.int .i64 n.ix.k,.int .i64 n.ix.v,.slice n.ix.p n.ix.n n.ix.c]] W fun r w'=>r=.returned (.int .i64 (labE xs ys ix))∧Below W.heap.size W w'):=Hi (fun h W hW=>iLabel_any xs ys pv pa pu cv ca nu cu 5 A D1 n.ix ix W (hr.below hW) (hs.below hW) (hi.below hW) h)
  have q0:Hid ((exOk xs.length ys.length 5 val=true∨noneE val=true)→∀ W,Below w.heap.size w W→Calls Try.prog 91 #[.agg #[.slice pv xs.length cv,.slice pa ys.length ca,.slice pu nu cu],.agg #[.int .i64 n.val.k,.int .i64 n.val.v,.slice n.val.p n.val.n n.val.c]] W fun r w'=>r=.returned (.bool (srdE xs ys val))∧Below W.heap.size W w'):=Hi (fun h W hW=>by
   rcases h with h | h
   ·exact iSecretRead_any xs ys pv pa pu cv ca nu cu lx ly 5 A D2 n.val val W (hr.below hW) (hs.below hW) (hv.below hW) h
   have e:=none_eq h;subst e;obtain ⟨z1,z2,z3⟩:=hv.shape;rw [z1,z2,z3];exact iSecretRead_nil xs ys pv pa pu cv ca nu cu _ _ W)
  have r2:=labE_lab lx ly val;have p2:=labE_lab lx ly ix;clear hr hs hi hv hok q3;obtain ⟨Q,hQ⟩:∃ Q,leakF xs ys (.mk k t ix val c a1 o2)=Q:=⟨_,rfl⟩;rw [hQ];rw [leakF_eq] at hQ;generalize labE xs ys val=lv at *
  generalize labE xs ys ix=li at *
  generalize srdE xs ys val=rv at *
  obtain ⟨nk,nt,b0,a0,g0,f0,e0,d0,j0,i0,h0⟩:=n;simp only at q1 q2 h2 g2 q0
  subst q1 q2;have HQ:=Hi hQ;clear hQ;rcases hc with ⟨hk,ht0,ht1,hov,_,_⟩ | ⟨rfl,ht0,ht1,hoi,hov,_,_⟩ | ⟨rfl,hov,_,_⟩ | ⟨rfl,_,_,hno⟩
  ·rcases hk with rfl | rfl
   ·skip
    go_enter Try.func63,Try.ntmps63
    go_wp2_with fail
    refine (q0.out (Or.inl hov) _ (bal (bal (Bs w) (.cells #[.slice pv xs.length cv,.slice pa ys.length ca,.slice pu nu cu] 26)) (.cells #[.int .i64 1,.int .i64 nt,.int .i64 b0.k,.int .i64 b0.v,.slice b0.p b0.n b0.c,.int .i64 a0.k,.int .i64 a0.v,.slice a0.p a0.n a0.c,.int .i64 g0,.slice f0 e0 d0,.slice j0 i0 h0] 51))).mono ?_;rintro e w1 ⟨rfl,hb⟩;have b1:=hb.size;simp only [Sa] at b1;have i2:=Bb (Bk.al (Bk.n3 (w.heap.size)) (.cells #[.int .i64 1,.int .i64 nt,.int .i64 b0.k,.int .i64 b0.v,.slice b0.p b0.n b0.c,.int .i64 a0.k,.int .i64 a0.v,.slice a0.p a0.n a0.c,.int .i64 g0,.slice f0 e0 d0,.slice j0 i0 h0] 51)) hb;have j2:=Bb (Bk.n11 (w.heap.size+1)) hb;have c0:=btr (bal (bal (Bs w) (.cells #[.slice pv xs.length cv,.slice pa ys.length ca,.slice pu nu cu] 26)) (.cells #[.int .i64 1,.int .i64 nt,.int .i64 b0.k,.int .i64 b0.v,.slice b0.p b0.n b0.c,.int .i64 a0.k,.int .i64 a0.v,.slice a0.p a0.n a0.c,.int .i64 g0,.slice f0 e0 d0,.slice j0 i0 h0] 51)) hb;clear hb
    cases hq4:rv with
    | false =>
     have i3:=Bk.lz i2;have j3:=Bk.lz j2;have tt:=c0;go_wp2
     exact bodyPost_ret (v:=.int .i64 0) (by simp [results,Try.results63,go_sem]) rfl (by exact ⟨by rw [← HQ.out];simp [leakN,hq4],tt⟩)
    | true =>
     have k3:=Bk.lz i2;have l3:=Bk.lz j2;have tt:=c0;go_wp2
     exact bodyPost_ret (v:=.int .i64 4) (by simp [results,Try.results63,go_sem]) rfl (by exact ⟨by rw [← HQ.out];simp [leakN,hq4],tt⟩)
   skip
   go_enter Try.func63,Try.ntmps63
   go_wp2_with fail
   refine (q0.out (Or.inl hov) _ (bal (bal (Bs w) (.cells #[.slice pv xs.length cv,.slice pa ys.length ca,.slice pu nu cu] 26)) (.cells #[.int .i64 5,.int .i64 nt,.int .i64 b0.k,.int .i64 b0.v,.slice b0.p b0.n b0.c,.int .i64 a0.k,.int .i64 a0.v,.slice a0.p a0.n a0.c,.int .i64 g0,.slice f0 e0 d0,.slice j0 i0 h0] 51))).mono ?_;rintro e w1 ⟨rfl,hb⟩;have c1:=hb.size;simp only [Sa] at c1;have r0:=Bb (Bk.al (Bk.n3 (w.heap.size)) (.cells #[.int .i64 5,.int .i64 nt,.int .i64 b0.k,.int .i64 b0.v,.slice b0.p b0.n b0.c,.int .i64 a0.k,.int .i64 a0.v,.slice a0.p a0.n a0.c,.int .i64 g0,.slice f0 e0 d0,.slice j0 i0 h0] 51)) hb;have s0:=Bb (Bk.n11 (w.heap.size+1)) hb;have c0:=btr (bal (bal (Bs w) (.cells #[.slice pv xs.length cv,.slice pa ys.length ca,.slice pu nu cu] 26)) (.cells #[.int .i64 5,.int .i64 nt,.int .i64 b0.k,.int .i64 b0.v,.slice b0.p b0.n b0.c,.int .i64 a0.k,.int .i64 a0.v,.slice a0.p a0.n a0.c,.int .i64 g0,.slice f0 e0 d0,.slice j0 i0 h0] 51)) hb;clear hb
   cases hq12:rv with
   | false =>
    have s2:=Bk.lz r0;have t2:=Bk.lz s0;have tt:=c0;go_wp2
    exact bodyPost_ret (v:=.int .i64 0) (by simp [results,Try.results63,go_sem]) rfl (by exact ⟨by rw [← HQ.out];simp [leakN,hq12],tt⟩)
   | true =>
    have u2:=Bk.lz r0;have v2:=Bk.lz s0;have tt:=c0;go_wp2
    exact bodyPost_ret (v:=.int .i64 4) (by simp [results,Try.results63,go_sem]) rfl (by exact ⟨by rw [← HQ.out];simp [leakN,hq12],tt⟩)
  ·skip
   go_enter Try.func63,Try.ntmps63
   go_wp2_with fail
   refine (g2.out hoi _ (bal (bal (Bs w) (.cells #[.slice pv xs.length cv,.slice pa ys.length ca,.slice pu nu cu] 26)) (.cells #[.int .i64 2,.int .i64 nt,.int .i64 b0.k,.int .i64 b0.v,.slice b0.p b0.n b0.c,.int .i64 a0.k,.int .i64 a0.v,.slice a0.p a0.n a0.c,.int .i64 g0,.slice f0 e0 d0,.slice j0 i0 h0] 51))).mono ?_;rintro e w1 ⟨rfl,hb⟩;have x0:=hb.size;simp only [Sa] at x0;have k0:=Bb (Bk.al (Bk.n3 (w.heap.size)) (.cells #[.int .i64 2,.int .i64 nt,.int .i64 b0.k,.int .i64 b0.v,.slice b0.p b0.n b0.c,.int .i64 a0.k,.int .i64 a0.v,.slice a0.p a0.n a0.c,.int .i64 g0,.slice f0 e0 d0,.slice j0 i0 h0] 51)) hb;have l0:=Bb (Bk.n11 (w.heap.size+1)) hb;have c0:=btr (bal (bal (Bs w) (.cells #[.slice pv xs.length cv,.slice pa ys.length ca,.slice pu nu cu] 26)) (.cells #[.int .i64 2,.int .i64 nt,.int .i64 b0.k,.int .i64 b0.v,.slice b0.p b0.n b0.c,.int .i64 a0.k,.int .i64 a0.v,.slice a0.p a0.n a0.c,.int .i64 g0,.slice f0 e0 d0,.slice j0 i0 h0] 51)) hb;clear hb;have x2:=Bk.lz k0;have y2:=Bk.lz l0;go_wp2_with fail
   refine (iSecret_any li p2 _).mono ?_;rintro e w2 ⟨rfl,o0⟩;have k2:=o0.size;replace c0:=btr c0 o0
   cases hq24:secB li with
   | false =>
    replace k0:=Bb k0 o0;obtain ⟨d1,r1,e1,s1,f1,t1⟩:=Bk.h3 k0;replace l0:=Bb l0 o0;obtain ⟨g1,u1,h1,v1,i1,x1⟩:=Bk.f3 l0 5 6 7 rfl rfl rfl;go_wp2_with fail
    refine (q0.out (Or.inl hov) _ c0).mono ?_;rintro e w3 ⟨rfl,v0⟩;have l2:=v0.size;clear r1 d1 s1 e1 t1 f1 u1 g1 v1 h1 x1 i1;replace c0:=btr c0 v0
    cases hq39:rv with
    | false =>
     have tt:=c0;go_wp2
     exact bodyPost_ret (v:=.int .i64 0) (by simp [results,Try.results63,go_sem]) rfl (by exact ⟨by rw [← HQ.out];simp [leakN,hq24,hq39],tt⟩)
    | true =>
     have tt:=c0;go_wp2
     exact bodyPost_ret (v:=.int .i64 4) (by simp [results,Try.results63,go_sem]) rfl (by exact ⟨by rw [← HQ.out];simp [leakN,hq24,hq39],tt⟩)
   | true =>
    have tt:=c0;go_wp2
    exact bodyPost_ret (v:=.int .i64 4) (by simp [results,Try.results63,go_sem]) rfl (by exact ⟨by rw [← HQ.out];simp [leakN,hq24],tt⟩)
  ·skip
   go_enter Try.func63,Try.ntmps63
   go_wp2_with fail
   refine (h2.out hov _ (bal (bal (Bs w) (.cells #[.slice pv xs.length cv,.slice pa ys.length ca,.slice pu nu cu] 26)) (.cells #[.int .i64 3,.int .i64 nt,.int .i64 b0.k,.int .i64 b0.v,.slice b0.p b0.n b0.c,.int .i64 a0.k,.int .i64 a0.v,.slice a0.p a0.n a0.c,.int .i64 g0,.slice f0 e0 d0,.slice j0 i0 h0] 51))).mono ?_;rintro e w1 ⟨rfl,hb⟩;have y0:=hb.size;simp only [Sa] at y0;have m0:=Bb (Bk.al (Bk.n3 (w.heap.size)) (.cells #[.int .i64 3,.int .i64 nt,.int .i64 b0.k,.int .i64 b0.v,.slice b0.p b0.n b0.c,.int .i64 a0.k,.int .i64 a0.v,.slice a0.p a0.n a0.c,.int .i64 g0,.slice f0 e0 d0,.slice j0 i0 h0] 51)) hb;have n0:=Bb (Bk.n11 (w.heap.size+1)) hb;have c0:=btr (bal (bal (Bs w) (.cells #[.slice pv xs.length cv,.slice pa ys.length ca,.slice pu nu cu] 26)) (.cells #[.int .i64 3,.int .i64 nt,.int .i64 b0.k,.int .i64 b0.v,.slice b0.p b0.n b0.c,.int .i64 a0.k,.int .i64 a0.v,.slice a0.p a0.n a0.c,.int .i64 g0,.slice f0 e0 d0,.slice j0 i0 h0] 51)) hb;clear hb;have a3:=Bk.lz m0;have b3:=Bk.lz n0;go_wp2_with fail
   refine (iSecret_any lv r2 _).mono ?_;rintro e w2 ⟨rfl,p0⟩;have m2:=p0.size;replace c0:=btr c0 p0
   cases hq47:secB lv with
   | false =>
    replace m0:=Bb m0 p0;obtain ⟨j1,y1,k1,a2,l1,b2⟩:=Bk.h3 m0;replace n0:=Bb n0 p0;obtain ⟨m1,c2,n1,d2,o1,e2,p1,f2⟩:=Bk.f4 n0 0 5 6 7 rfl rfl rfl rfl;go_wp2_with fail
    refine (q0.out (Or.inl hov) _ c0).mono ?_;rintro e w3 ⟨rfl,w0⟩;have n2:=w0.size;clear y1 j1 a2 k1 b2 l1 c2 m1 d2 n1 e2 o1 f2 p1;replace c0:=btr c0 w0
    cases hq64:rv with
    | false =>
     have tt:=c0;go_wp2
     exact bodyPost_ret (v:=.int .i64 0) (by simp [results,Try.results63,go_sem]) rfl (by exact ⟨by rw [← HQ.out];simp [leakN,hq47,hq64],tt⟩)
    | true =>
     have tt:=c0;go_wp2
     exact bodyPost_ret (v:=.int .i64 4) (by simp [results,Try.results63,go_sem]) rfl (by exact ⟨by rw [← HQ.out];simp [leakN,hq47,hq64],tt⟩)
   | true =>
    have tt:=c0;go_wp2
    exact bodyPost_ret (v:=.int .i64 3) (by simp [results,Try.results63,go_sem]) rfl (by exact ⟨by rw [← HQ.out];simp [leakN,hq47],tt⟩)
  skip
  go_enter Try.func63,Try.ntmps63
  go_wp2_with fail
  refine (q0.out (Or.inr hno) _ (bal (bal (Bs w) (.cells #[.slice pv xs.length cv,.slice pa ys.length ca,.slice pu nu cu] 26)) (.cells #[.int .i64 4,.int .i64 nt,.int .i64 b0.k,.int .i64 b0.v,.slice b0.p b0.n b0.c,.int .i64 a0.k,.int .i64 a0.v,.slice a0.p a0.n a0.c,.int .i64 g0,.slice f0 e0 d0,.slice j0 i0 h0] 51))).mono ?_;rintro e w1 ⟨rfl,hb⟩;have z0:=hb.size;simp only [Sa] at z0;have t0:=Bb (Bk.al (Bk.n3 (w.heap.size)) (.cells #[.int .i64 4,.int .i64 nt,.int .i64 b0.k,.int .i64 b0.v,.slice b0.p b0.n b0.c,.int .i64 a0.k,.int .i64 a0.v,.slice a0.p a0.n a0.c,.int .i64 g0,.slice f0 e0 d0,.slice j0 i0 h0] 51)) hb;have u0:=Bb (Bk.n11 (w.heap.size+1)) hb;have c0:=btr (bal (bal (Bs w) (.cells #[.slice pv xs.length cv,.slice pa ys.length ca,.slice pu nu cu] 26)) (.cells #[.int .i64 4,.int .i64 nt,.int .i64 b0.k,.int .i64 b0.v,.slice b0.p b0.n b0.c,.int .i64 a0.k,.int .i64 a0.v,.slice a0.p a0.n a0.c,.int .i64 g0,.slice f0 e0 d0,.slice j0 i0 h0] 51)) hb;clear hb
  cases hq68:rv with
  | false =>
   have c3:=Bk.lz t0;have d3:=Bk.lz u0;have tt:=c0;go_wp2
   exact bodyPost_ret (v:=.int .i64 0) (by simp [results,Try.results63,go_sem]) rfl (by exact ⟨by rw [← HQ.out];simp [leakN,hq68],tt⟩)
  | true =>
   have e3:=Bk.lz t0;have g3:=Bk.lz u0;have tt:=c0;go_wp2
   exact bodyPost_ret (v:=.int .i64 4) (by simp [results,Try.results63,go_sem]) rfl (by exact ⟨by rw [← HQ.out];simp [leakN,hq68],tt⟩)
end Go.Proofs.Ytlckklglbodgbaa
