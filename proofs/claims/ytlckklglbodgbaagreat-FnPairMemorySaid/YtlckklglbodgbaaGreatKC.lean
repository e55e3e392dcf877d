/-
 Parts of the proofs of the laws FnPairMemory,FnSplitMemory.
-/
import Derived.Test.YtlckklglbodgbaaGreatKB
set_option linter.all false
namespace Go.Proofs.YtlckklglbodgbaaGreat
open Go.RowKit
theorem sFlows_any (a b:Int) (w:World):Calls Tryz.prog 129 #[.int .i64 a,.int .i64 b] w fun e w'=>e=.returned (.bool (floB a b))∧Below w.heap.size w w':=by
 have HL:=Hi sLabelValid_any;go_enter Tryz.func129,Tryz.ntmps129
 go_wp2_with fail
 refine (HL.out a _).mono ?_;rintro e w1 ⟨rfl,hb⟩;have b0:=hb.size;have a0:=btr (Bs w) hb;clear hb
 cases h0:labOk a with
 | false =>
  have tt:=a0;go_wp2
  exact bodyPost_ret (v:=.bool false) (by simp [results,Tryz.results129,go_sem]) rfl (by exact ⟨by simp [floB,lbo,h0],tt⟩)
 | true =>
  go_wp2_with fail
  refine (HL.out b _).mono ?_;rintro e w2 ⟨rfl,hb⟩;have c0:=hb.size;replace a0:=btr a0 hb;clear hb
  cases h1:labOk b with
  | false =>
   have tt:=a0;go_wp2
   exact bodyPost_ret (v:=.bool false) (by simp [results,Tryz.results129,go_sem]) rfl (by exact ⟨by simp [floB,lbo,h0,h1],tt⟩)
  | true =>
   have tt:=a0;go_wp2
   exact bodyPost_ret (v:=.bool (bits .or .i64 a b == b)) (by simp [results,Tryz.results129,go_sem]) rfl (by exact ⟨by simp [floB,lbo,h0,h1],tt⟩)
theorem sTrusted_any (a:Int) (w:World):Calls Tryz.prog 130 #[.int .i64 a] w fun e w'=>e=.returned (.bool (truB a))∧Below w.heap.size w w':=by
 have HL:=Hi sLabelValid_any;go_enter Tryz.func130,Tryz.ntmps130
 go_wp2_with fail
 refine (HL.out a _).mono ?_;rintro e w1 ⟨rfl,hb⟩;have b0:=hb.size;have a0:=btr (Bs w) hb;clear hb
 cases h0:labOk a with
 | false =>
  have tt:=a0;go_wp2
  exact bodyPost_ret (v:=.bool false) (by simp [results,Tryz.results130,go_sem]) rfl (by exact ⟨by simp [truB,h0],tt⟩)
 | true =>
  have tt:=a0;go_wp2
  exact bodyPost_ret (v:=.bool (bits .and .i64 a 2 == 0)) (by simp [results,Tryz.results130,go_sem]) rfl (by exact ⟨by simp [truB,h0],tt⟩)
theorem sSecret_any (a:Int) (w:World):Calls Tryz.prog 106 #[.int .i64 a] w fun e w'=>e=.returned (.bool (secB a))∧Below w.heap.size w w':=by
 have HL:=Hi sLabelValid_any;go_enter Tryz.func106,Tryz.ntmps106
 go_wp2_with fail
 refine (HL.out a _).mono ?_;rintro e w1 ⟨rfl,hb⟩;have b0:=hb.size;have a0:=btr (Bs w) hb;clear hb
 cases h0:labOk a with
 | false =>
  have tt:=a0;go_wp2
  exact bodyPost_ret (v:=.bool false) (by simp [results,Tryz.results106,go_sem]) rfl (by exact ⟨by simp [secB,h0],tt⟩)
 | true =>
  have tt:=a0;go_wp2
  exact bodyPost_ret (v:=.bool (bits .and .i64 a 1 == 1)) (by simp [results,Tryz.results106,go_sem]) rfl (by exact ⟨by simp [secB,h0],tt⟩)
theorem st_cases {nv na d:Nat} {k t c:Int} {ix val:Ex} {body els:List St} (h:stOk nv na (d+1) (.mk k t ix val c body els)=true) :
  ((k=1∨k=5)∧0≤t∧t < nv∧exOk nv na 5 val=true∧body=[]∧els=[])∨(k=2∧0≤t∧t < na∧exOk nv na 5 ix=true∧exOk nv na 5 val=true∧body=[]∧els=[]) ∨
  (k=3∧exOk nv na 5 val=true∧body.all (stOk nv na d)=true∧els.all (stOk nv na d)=true)∨(k=4∧body.all (stOk nv na d)=true∧els=[]∧noneE val=true):=by
 have hx:∀ e,exRight nv na e=true→exOk nv na 5 e=true:=fun e h=>by unfold exRight at h;simp only [Bool.and_eq_true] at h;exact h.1
 have hn:∀ l:List St,decide (l.length=0)=true→l=[]:=fun l h=>List.eq_nil_of_length_eq_zero (of_decide_eq_true h)
 have hw:∀ a b c:Int,wi a b c=true→b≤a∧a≤c:=fun a b c h=>by simpa [wi] using h
 by_cases h1:(k == 1||k == 5)=true
 ·rw [stOk_as h1] at h;simp only [Bool.and_eq_true] at h;obtain ⟨⟨g1,g2,g3,g4,g5,g6⟩,_⟩:=h;have:=hw _ _ _ g1
  exact Or.inl ⟨by simpa using h1,by omega,by omega,hx _ g6,hn _ g3,hn _ g4⟩
 by_cases h2:(k == 2)=true
 ·rw [stOk_st h2] at h;simp only [Bool.and_eq_true] at h;obtain ⟨⟨g1,g2,g3,g4,g5,g6,g7⟩,_⟩:=h;have:=hw _ _ _ g1
  exact Or.inr (Or.inl ⟨by simpa using h2,by omega,by omega,hx _ g5,hx _ g7,hn _ g3,hn _ g4⟩)
 by_cases h3:(k == 3)=true
 ·rw [stOk_if h3] at h;simp only [Bool.and_eq_true] at h;obtain ⟨⟨_,_,_,g6⟩,g7,g8⟩:=h;exact Or.inr (Or.inr (Or.inl ⟨by simpa using h3,hx _ g6,g7,g8⟩))
 by_cases h4:(k == 4)=true
 ·rw [stOk_re h4] at h;simp only [Bool.and_eq_true] at h;obtain ⟨⟨_,_,g3,_,g5⟩,g7,_⟩:=h;exact Or.inr (Or.inr (Or.inr ⟨by simpa using h4,g7,hn _ g3,g5⟩))
 rw [stOk_no (by simp at h1 h2 h3 h4;omega)] at h;cases h
def AnyI (w:World) (r:Ending) (w':World):Prop:=∃ z:Int,r=.returned (.int .i64 z)∧Below w.heap.size w w'
set_option maxHeartbeats 6400000 in
set_option maxRecDepth 100000 in
theorem l4Own_any (xs ys:List Int) (pv pa pu:Option Addr) (cv ca nu cu:Nat) (d:Nat) (A:Nat→Prop) (D:Nat) (n:Sn) (s:St) (pc:Int) (w:World) (hr:Reads w 1 (.slice pv xs.length cv) xs.length (ints xs)) (hs:Reads w 1 (.slice pa ys.length ca) ys.length (ints ys)) (hx:StAt w A D n s) (hok:stOk xs.length ys.length (d+1) s=true) :
  Calls Tryz.prog 115 #[.agg #[.slice pv xs.length cv,.slice pa ys.length ca,.slice pu nu cu],.agg #[.int .i64 n.k,.int .i64 n.t,.int .i64 n.ix.k,.int .i64 n.ix.v,.slice n.ix.p n.ix.n n.ix.c,.int .i64 n.val.k,.int .i64 n.val.v,.slice n.val.p n.val.n n.val.c,.int .i64 n.c,.slice n.bp n.bn n.bc,.slice n.ep n.en n.ec],.int .i64 pc,.bool false] w fun r w'=>AnyI w r w':=by
 cases D with
 | zero=>cases hx
 | succ D =>
  obtain ⟨k,t,ix,val,c,z2,k3⟩:=s;obtain ⟨q1,q2,q3,⟨D1,hi⟩,⟨D2,hv⟩,_,_⟩:=hx;have hc:=st_cases hok;have z0:=Hi (fun W (hW:Below w.heap.size w W)=>Ai (hr.below hW) (hs.below hW));have y0:Hid (exOk xs.length ys.length 5 val=true→∀ W,Below w.heap.size w W→Calls Tryz.prog 107 #[.agg #[.slice pv xs.length cv,.slice pa ys.length ca,.slice pu nu cu],.agg #[.int .i64 n.val.k,.int .i64 n.val.v,.slice n.val.p n.val.n n.val.c]] W fun r w'=>r=.returned (.int .i64 (labE xs ys val))∧Below W.heap.size W w'):=Hi (fun h W hW=>l4Label_any xs ys pv pa pu cv ca nu cu 5 A D2 n.val val W (hr.below hW) (hs.below hW) (hv.below hW) h);have m2:Hid (exOk xs.length ys.length 5 ix=true→∀ W,Below w.heap.size w W→Calls Tryz.prog 107 #[.agg #[.slice pv xs.length cv,.slice pa ys.length ca,.slice pu nu cu],.agg #[.int .i64 n.ix.k,.int .i64 n.ix.v,.slice n.ix.p n.ix.n n.ix.c]] W fun r w'=>r=.returned (.int .i64 (labE xs ys ix))∧Below W.heap.size W w'):=Hi (fun h W hW=>l4Label_any xs ys pv pa pu cv ca nu cu 5 A D1 n.ix ix W (hr.below hW) (hs.below hW) (hi.below hW) h);clear hr hs hi hv hok q3;generalize labE xs ys val=lv at *
  generalize labE xs ys ix=li at *
  obtain ⟨nk,nt,d0,a0,q0,p0,o0,n0,t0,s0,r0⟩:=n;simp only at q1 q2 y0 m2
  subst q1 q2;rcases hc with ⟨hk,ht0,ht1,hov,_,_⟩ | ⟨rfl,ht0,ht1,hoi,hov,_,_⟩ | ⟨rfl,hov,_,_⟩ | ⟨rfl,_,_,_⟩
  ·rcases hk with rfl | rfl
   ·skip
    obtain ⟨iv,rfl⟩:=Int.eq_ofNat_of_zero_le ht0;have n2:(iv:Int) < (xs.length:Int):=by omega
    obtain ⟨jb,jo,hj,o2,ej⟩:=gi_at (z0.out _ (Bs w)).1 iv (by omega);subst hj;clear ht0 ht1;generalize gi xs (iv:Int)=gv at ej
    go_enter Tryz.func115,Tryz.ntmps115
    have y2:=Lc ej;go_upto_region 3 with (fail)
    generalize hnw:World.alloc _ _=w1;have hb:=nmh hnw;clear hnw
    have c1:=hb.size;simp only [Sa] at c1;replace ej:=Kc hb (Ac (Ac ej _) _);have g0:=Bb (Bk.al (Bk.n3 (w.heap.size)) (.cells #[.int .i64 1,.int .i64 iv,.int .i64 d0.k,.int .i64 d0.v,.slice d0.p d0.n d0.c,.int .i64 a0.k,.int .i64 a0.v,.slice a0.p a0.n a0.c,.int .i64 q0,.slice p0 o0 n0,.slice t0 s0 r0] 75)) hb;have f0:=Bb (Bk.n11 (w.heap.size+1)) hb;have e0:=btr (bal (bal (Bs w) (.cells #[.slice (some ⟨jb,jo,none⟩) xs.length cv,.slice pa ys.length ca,.slice pu nu cu] 26)) (.cells #[.int .i64 1,.int .i64 iv,.int .i64 d0.k,.int .i64 d0.v,.slice d0.p d0.n d0.c,.int .i64 a0.k,.int .i64 a0.v,.slice a0.p a0.n a0.c,.int .i64 q0,.slice p0 o0 n0,.slice t0 s0 r0] 75)) hb;clear hb;have l3:=Lc ej;have m3:=Bk.lz g0;have o3:=Bk.lz f0;refine Rgh (S:=fun W'=>W'.cell? ⟨w.heap.size,0,none⟩=some (.slice (some ⟨jb,jo,none⟩) xs.length cv)∧W'.cell? ⟨w.heap.size,1,none⟩=some (.slice pa ys.length ca)∧W'.cell? ⟨w.heap.size,2,none⟩=some (.slice pu nu cu)∧W'.cell? ⟨w.heap.size+1,5,none⟩=some (.int .i64 a0.k)∧W'.cell? ⟨w.heap.size+1,6,none⟩=some (.int .i64 a0.v)∧W'.cell? ⟨w.heap.size+1,7,none⟩=some (.slice a0.p a0.n a0.c)∧W'.cell? ⟨w.heap.size+1,1,none⟩=some (.int .i64 iv)∧W'.cell? ⟨jb,jo+iv,none⟩=some (.int .i64 gv)) (fun W d=>⟨Bk.kc g0 d 0,Bk.kc g0 d 1,Bk.kc g0 d 2,Bk.kc f0 d 5,Bk.kc f0 d 6,Bk.kc f0 d 7,Bk.kc f0 d 1,Kc d ej⟩) (fun w2 v0 hHeld=>?_);have a3:=v0.size;replace ej:=Kc v0 ej;replace e0:=btr e0 v0;refine (tq 0 13 rfl rfl ?_ ?_ (tq 1 14 rfl rfl ?_ ?_ (tq 2 15 rfl rfl ?_ ?_ (tq 4 17 rfl rfl ?_ ?_ (tq 6 19 rfl rfl ?_ ?_ (tq 7 20 rfl rfl ?_ ?_ (tq 8 21 rfl rfl ?_ ?_ (tq 9 22 rfl rfl ?_ ?_ (tq 10 23 rfl rfl ?_ ?_ (tq 11 24 rfl rfl ?_ ?_ ?_))))))))));iterate 10 (rotate_left;intro W' hSw;(try dsimp only at hSw);go_simp;try with_reducible rfl)
    try simp only [Ep]
    refine Rdy 3 rfl (fun K hK=>?_);replace g0:=Bb g0 v0;obtain ⟨j3,u1,d1,v1,e1,x1⟩:=Bk.h3 g0;replace f0:=Bb f0 v0;obtain ⟨f1,y1,g1,z1,h1,a2,i1,b2⟩:=Bk.f4 f0 1 5 6 7 rfl rfl rfl rfl;go_simp
    refine (y0.out hov _ e0).mono ?_;rintro e w3 ⟨rfl,j0⟩;have p2:=j0.size;clear u1 j3 v1 d1 x1 e1 y1 f1 z1 g1 a2 h1 b2 i1;replace ej:=Kc j0 ej;replace e0:=btr e0 j0;replace g0:=Bb g0 j0;replace f0:=Bb f0 j0;refine hK.out _ _ ⟨Bk.ce g0 0,Bk.ce g0 1,Bk.ce g0 2,Bk.ce f0 5,Bk.ce f0 6,Bk.ce f0 7,Bk.ce f0 1,ej⟩ (fun hHeld=>?_);clear hK K;try simp only [Ep]
    refine (tq 5 18 rfl rfl ?_ ?_ ?_);(rotate_left;intro W' hSw;(try dsimp only at hSw);go_simp;try with_reducible rfl)
    try simp only [Ep]
    refine Rdy 12 rfl (fun K hK=>?_);go_simp
    refine (sFlows_any ((bits .or .i64 lv pc)) (gv) _).mono ?_;rintro e w4 ⟨rfl,h0⟩;have r2:=h0.size;replace ej:=Kc h0 ej;replace e0:=btr e0 h0
    cases hc27:floB ((bits .or .i64 lv pc)) (gv) with
    | false =>
     replace g0:=Bb g0 h0;replace f0:=Bb f0 h0;refine hK.out _ _ ⟨Bk.ce g0 0,Bk.ce g0 1,Bk.ce g0 2,Bk.ce f0 5,Bk.ce f0 6,Bk.ce f0 7,Bk.ce f0 1,ej⟩ (fun hHeld=>?_);clear hK K;try simp only [Ep]
     refine (tq 13 26 rfl rfl ?_ ?_ ?_);(rotate_left;intro W' hSw;(try dsimp only at hSw);go_simp;try with_reducible rfl)
     try simp only [Ep]
     refine Dn ?_;clear hHeld;have tt:=e0;go_wp2
     exact bodyPost_ret (v:=.int .i64 1) (by simp [results,Tryz.results115,go_sem]) rfl (by exact (by unfold AnyI;exact ⟨_,rfl,tt⟩))
    | true =>
     replace g0:=Bb g0 h0;replace f0:=Bb f0 h0;refine hK.out _ _ ⟨Bk.ce g0 0,Bk.ce g0 1,Bk.ce g0 2,Bk.ce f0 5,Bk.ce f0 6,Bk.ce f0 7,Bk.ce f0 1,ej⟩ (fun hHeld=>?_);clear hK K;try simp only [Ep]
     refine (tq 13 26 rfl rfl ?_ ?_ ?_);(rotate_left;intro W' hSw;(try dsimp only at hSw);go_simp;try with_reducible rfl)
     try simp only [Ep]
     refine Dn ?_;clear hHeld;have tt:=e0;go_wp2
     exact bodyPost_ret (v:=.int .i64 0) (by simp [results,Tryz.results115,go_sem]) rfl (by exact (by unfold AnyI;exact ⟨_,rfl,tt⟩))
   skip
   obtain ⟨iv,rfl⟩:=Int.eq_ofNat_of_zero_le ht0;have n2:(iv:Int) < (xs.length:Int):=by omega
   obtain ⟨jb,jo,hj,o2,ej⟩:=gi_at (z0.out _ (Bs w)).1 iv (by omega);subst hj;clear ht0 ht1;generalize gi xs (iv:Int)=gv at ej
   go_enter Tryz.func115,Tryz.ntmps115
   have y2:=Lc ej;go_wp2_with fail
   refine (y0.out hov _ (bal (bal (Bs w) (.cells #[.slice (some ⟨jb,jo,none⟩) xs.length cv,.slice pa ys.length ca,.slice pu nu cu] 26)) (.cells #[.int .i64 5,.int .i64 iv,.int .i64 d0.k,.int .i64 d0.v,.slice d0.p d0.n d0.c,.int .i64 a0.k,.int .i64 a0.v,.slice a0.p a0.n a0.c,.int .i64 q0,.slice p0 o0 n0,.slice t0 s0 r0] 75))).mono ?_;rintro e w1 ⟨rfl,hb⟩;have w0:=hb.size;simp only [Sa] at w0;replace ej:=Kc hb (Ac (Ac ej _) _);have a1:=Bb (Bk.al (Bk.n3 (w.heap.size)) (.cells #[.int .i64 5,.int .i64 iv,.int .i64 d0.k,.int .i64 d0.v,.slice d0.p d0.n d0.c,.int .i64 a0.k,.int .i64 a0.v,.slice a0.p a0.n a0.c,.int .i64 q0,.slice p0 o0 n0,.slice t0 s0 r0] 75)) hb;have b1:=Bb (Bk.n11 (w.heap.size+1)) hb;have e0:=btr (bal (bal (Bs w) (.cells #[.slice (some ⟨jb,jo,none⟩) xs.length cv,.slice pa ys.length ca,.slice pu nu cu] 26)) (.cells #[.int .i64 5,.int .i64 iv,.int .i64 d0.k,.int .i64 d0.v,.slice d0.p d0.n d0.c,.int .i64 a0.k,.int .i64 a0.v,.slice a0.p a0.n a0.c,.int .i64 q0,.slice p0 o0 n0,.slice t0 s0 r0] 75)) hb;clear hb;have b3:=Lc ej;have c3:=Bk.lz a1;have d3:=Bk.lz b1;go_wp2_with fail
   refine (sTrusted_any (lv) _).mono ?_;rintro e w2 ⟨rfl,u0⟩;have s2:=u0.size;replace ej:=Kc u0 ej;replace e0:=btr e0 u0
   cases hq:truB (lv) with
   | false =>
    have tt:=e0;go_wp2
    exact bodyPost_ret (v:=.int .i64 2) (by simp [results,Tryz.results115,go_sem]) rfl (by exact (by unfold AnyI;exact ⟨_,rfl,tt⟩))
   | true =>
    by_cases hs58:¬pc=0
    ·skip
     have i3:(pc != 0)=true:=by simp [hs58]
     have tt:=e0;go_wp2
     exact bodyPost_ret (v:=.int .i64 2) (by simp [results,Tryz.results115,go_sem]) rfl (by exact (by unfold AnyI;exact ⟨_,rfl,tt⟩))
    skip
    have i3:(pc != 0)=false:=by rw [bne_eq_false_iff_eq];exact Decidable.not_not.1 hs58
    have tt:=e0;go_wp2
    exact bodyPost_ret (v:=.int .i64 0) (by simp [results,Tryz.results115,go_sem]) rfl (by exact (by unfold AnyI;exact ⟨_,rfl,tt⟩))
  ·skip
   obtain ⟨iv,rfl⟩:=Int.eq_ofNat_of_zero_le ht0;have n2:(iv:Int) < (ys.length:Int):=by omega
   obtain ⟨jb,jo,hj,o2,ej⟩:=gi_at (z0.out _ (Bs w)).2 iv (by omega);subst hj;clear ht0 ht1;generalize gi ys (iv:Int)=gv at ej
   go_enter Tryz.func115,Tryz.ntmps115
   have y2:=Lc ej;go_upto_region 6 with (fail)
   generalize hnw:World.alloc _ _=w1;have hb:=nmh hnw;clear hnw
   have x0:=hb.size;simp only [Sa] at x0;replace ej:=Kc hb (Ac (Ac ej _) _);have c0:=Bb (Bk.al (Bk.n3 (w.heap.size)) (.cells #[.int .i64 2,.int .i64 iv,.int .i64 d0.k,.int .i64 d0.v,.slice d0.p d0.n d0.c,.int .i64 a0.k,.int .i64 a0.v,.slice a0.p a0.n a0.c,.int .i64 q0,.slice p0 o0 n0,.slice t0 s0 r0] 75)) hb;have b0:=Bb (Bk.n11 (w.heap.size+1)) hb;have e0:=btr (bal (bal (Bs w) (.cells #[.slice pv xs.length cv,.slice (some ⟨jb,jo,none⟩) ys.length ca,.slice pu nu cu] 26)) (.cells #[.int .i64 2,.int .i64 iv,.int .i64 d0.k,.int .i64 d0.v,.slice d0.p d0.n d0.c,.int .i64 a0.k,.int .i64 a0.v,.slice a0.p a0.n a0.c,.int .i64 q0,.slice p0 o0 n0,.slice t0 s0 r0] 75)) hb;clear hb;have e3:=Lc ej;have f3:=Bk.lz c0;have g3:=Bk.lz b0;refine Rgh (S:=fun W'=>W'.cell? ⟨w.heap.size,0,none⟩=some (.slice pv xs.length cv)∧W'.cell? ⟨w.heap.size,1,none⟩=some (.slice (some ⟨jb,jo,none⟩) ys.length ca)∧W'.cell? ⟨w.heap.size,2,none⟩=some (.slice pu nu cu)∧W'.cell? ⟨w.heap.size+1,5,none⟩=some (.int .i64 a0.k)∧W'.cell? ⟨w.heap.size+1,6,none⟩=some (.int .i64 a0.v)∧W'.cell? ⟨w.heap.size+1,7,none⟩=some (.slice a0.p a0.n a0.c)∧W'.cell? ⟨w.heap.size+1,2,none⟩=some (.int .i64 d0.k)∧W'.cell? ⟨w.heap.size+1,3,none⟩=some (.int .i64 d0.v)∧W'.cell? ⟨w.heap.size+1,4,none⟩=some (.slice d0.p d0.n d0.c)∧W'.cell? ⟨w.heap.size+1,1,none⟩=some (.int .i64 iv)∧W'.cell? ⟨jb,jo+iv,none⟩=some (.int .i64 gv)) (fun W d=>⟨Bk.kc c0 d 0,Bk.kc c0 d 1,Bk.kc c0 d 2,Bk.kc b0 d 5,Bk.kc b0 d 6,Bk.kc b0 d 7,Bk.kc b0 d 2,Bk.kc b0 d 3,Bk.kc b0 d 4,Bk.kc b0 d 1,Kc d ej⟩) (fun w2 k0 hHeld=>?_);have t2:=k0.size;replace ej:=Kc k0 ej;replace e0:=btr e0 k0;refine (tq 0 29 rfl rfl ?_ ?_ (tq 1 30 rfl rfl ?_ ?_ (tq 2 31 rfl rfl ?_ ?_ (tq 4 33 rfl rfl ?_ ?_ (tq 5 34 rfl rfl ?_ ?_ (tq 6 35 rfl rfl ?_ ?_ (tq 9 38 rfl rfl ?_ ?_ (tq 11 40 rfl rfl ?_ ?_ (tq 12 41 rfl rfl ?_ ?_ (tq 13 42 rfl rfl ?_ ?_ (tq 14 43 rfl rfl ?_ ?_ (tq 15 44 rfl rfl ?_ ?_ (tq 16 45 rfl rfl ?_ ?_ ?_)))))))))))));iterate 13 (rotate_left;intro W' hSw;(try dsimp only at hSw);go_simp;try with_reducible rfl)
   try simp only [Ep]
   refine Rdy 3 rfl (fun K hK=>?_);replace c0:=Bb c0 k0;obtain ⟨j1,c2,k1,d2,l1,e2⟩:=Bk.h3 c0;replace b0:=Bb b0 k0;obtain ⟨m1,f2,n1,g2,o1,h2,p1,i2,r1,j2,s1,k2,t1,l2⟩:=Bk.f7 b0 1 2 3 4 5 6 7 rfl rfl rfl rfl rfl rfl rfl;go_simp
   refine (y0.out hov _ e0).mono ?_;rintro e w3 ⟨rfl,l0⟩;have u2:=l0.size;clear c2 j1 d2 k1 e2 l1 f2 m1 g2 n1 h2 o1 i2 p1 j2 r1 k2 s1 l2 t1;replace ej:=Kc l0 ej;replace e0:=btr e0 l0;replace c0:=Bb c0 l0;replace b0:=Bb b0 l0;refine hK.out _ _ ⟨Bk.ce c0 0,Bk.ce c0 1,Bk.ce c0 2,Bk.ce b0 5,Bk.ce b0 6,Bk.ce b0 7,Bk.ce b0 2,Bk.ce b0 3,Bk.ce b0 4,Bk.ce b0 1,ej⟩ (fun hHeld=>?_);clear hK K;try simp only [Ep]
   refine Rdy 7 rfl (fun K hK=>?_);go_simp
   refine (m2.out hoi _ e0).mono ?_;rintro e w4 ⟨rfl,m0⟩;have v2:=m0.size;replace ej:=Kc m0 ej;replace e0:=btr e0 m0;replace c0:=Bb c0 m0;replace b0:=Bb b0 m0;refine hK.out _ _ ⟨Bk.ce c0 0,Bk.ce c0 1,Bk.ce c0 2,Bk.ce b0 5,Bk.ce b0 6,Bk.ce b0 7,Bk.ce b0 2,Bk.ce b0 3,Bk.ce b0 4,Bk.ce b0 1,ej⟩ (fun hHeld=>?_);clear hK K;try simp only [Ep]
   refine (tq 8 37 rfl rfl ?_ ?_ (tq 10 39 rfl rfl ?_ ?_ ?_));iterate 2 (rotate_left;intro W' hSw;(try dsimp only at hSw);go_simp;try with_reducible rfl)
   try simp only [Ep]
   refine Rdy 17 rfl (fun K hK=>?_);go_simp
   refine (sFlows_any ((bits .or .i64 (bits .or .i64 lv li) pc)) (gv) _).mono ?_;rintro e w5 ⟨rfl,i0⟩;have x2:=i0.size;replace ej:=Kc i0 ej;replace e0:=btr e0 i0
   cases hc70:floB ((bits .or .i64 (bits .or .i64 lv li) pc)) (gv) with
   | false =>
    replace c0:=Bb c0 i0;replace b0:=Bb b0 i0;refine hK.out _ _ ⟨Bk.ce c0 0,Bk.ce c0 1,Bk.ce c0 2,Bk.ce b0 5,Bk.ce b0 6,Bk.ce b0 7,Bk.ce b0 2,Bk.ce b0 3,Bk.ce b0 4,Bk.ce b0 1,ej⟩ (fun hHeld=>?_);clear hK K;try simp only [Ep]
    refine (tq 18 47 rfl rfl ?_ ?_ ?_);(rotate_left;intro W' hSw;(try dsimp only at hSw);go_simp;try with_reducible rfl)
    try simp only [Ep]
    refine Dn ?_;clear hHeld;have tt:=e0;go_wp2
    exact bodyPost_ret (v:=.int .i64 1) (by simp [results,Tryz.results115,go_sem]) rfl (by exact (by unfold AnyI;exact ⟨_,rfl,tt⟩))
   | true =>
    replace c0:=Bb c0 i0;replace b0:=Bb b0 i0;refine hK.out _ _ ⟨Bk.ce c0 0,Bk.ce c0 1,Bk.ce c0 2,Bk.ce b0 5,Bk.ce b0 6,Bk.ce b0 7,Bk.ce b0 2,Bk.ce b0 3,Bk.ce b0 4,Bk.ce b0 1,ej⟩ (fun hHeld=>?_);clear hK K;try simp only [Ep]
    refine (tq 18 47 rfl rfl ?_ ?_ ?_);(rotate_left;intro W' hSw;(try dsimp only at hSw);go_simp;try with_reducible rfl)
    try simp only [Ep]
    refine Dn ?_;clear hHeld;have tt:=e0;go_wp2
    exact bodyPost_ret (v:=.int .i64 0) (by simp [results,Tryz.results115,go_sem]) rfl (by exact (by unfold AnyI;exact ⟨_,rfl,tt⟩))
  ·skip
   go_enter Tryz.func115,Tryz.ntmps115
   have tt:=(bal (bal (Bs w) (.cells #[.slice pv xs.length cv,.slice pa ys.length ca,.slice pu nu cu] 26)) (.cells #[.int .i64 3,.int .i64 nt,.int .i64 d0.k,.int .i64 d0.v,.slice d0.p d0.n d0.c,.int .i64 a0.k,.int .i64 a0.v,.slice a0.p a0.n a0.c,.int .i64 q0,.slice p0 o0 n0,.slice t0 s0 r0] 75));go_wp2
   exact bodyPost_ret (v:=.int .i64 0) (by simp [results,Tryz.results115,go_sem]) rfl (by exact (by unfold AnyI;exact ⟨_,rfl,tt⟩))
  skip
  go_enter Tryz.func115,Tryz.ntmps115
  have tt:=(bal (bal (Bs w) (.cells #[.slice pv xs.length cv,.slice pa ys.length ca,.slice pu nu cu] 26)) (.cells #[.int .i64 4,.int .i64 nt,.int .i64 d0.k,.int .i64 d0.v,.slice d0.p d0.n d0.c,.int .i64 a0.k,.int .i64 a0.v,.slice a0.p a0.n a0.c,.int .i64 q0,.slice p0 o0 n0,.slice t0 s0 r0] 75));go_wp2
  exact bodyPost_ret (v:=.int .i64 0) (by simp [results,Tryz.results115,go_sem]) rfl (by exact (by unfold AnyI;exact ⟨_,rfl,tt⟩))
end Go.Proofs.YtlckklglbodgbaaGreat
