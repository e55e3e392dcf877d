/-
 Parts of the proofs of the laws FnExactProductProgram.
-/
import Derived.Test.YtlckklglbodgbaaNF5
import Derived.Test.YtlckklglbodgbaaNG5
set_option maxHeartbeats 12800000
set_option maxRecDepth 100000
set_option linter.all false
namespace Go.Proofs.Ytlckklglbodgbaa
open Go.RowKit
def SrK (pp:Value) (xs ys:List Int) (np:Option Addr) (L:List Ex) (W:World):Prop:=∀ j (h:j < L.length),∃ (b o:Nat) (m:En),np=some ⟨b,o,none⟩∧b < W.heap.size∧W.cell? ⟨b,o+j*3,none⟩=some (.int .i64 m.k)∧W.cell? ⟨b,o+j*3+1,none⟩=some (.int .i64 m.v)∧W.cell? ⟨b,o+j*3+2,none⟩=some (.slice m.p m.n m.c) ∧
 Calls Try.prog 91 #[pp,.agg #[.int .i64 m.k,.int .i64 m.v,.slice m.p m.n m.c]] W fun r w'=>r=.returned (.bool (srdE xs ys L[j]))∧Below W.heap.size W w'
theorem idxE_any (pp:Value) (xs ys:List Int) (np:Option Addr) (L:List Ex) (nc:Nat) (w:World) (HK:Hid (∀ W,Below w.heap.size w W→SrK pp xs ys np L W)) (hl63:L.length≤9223372036854775807) :
  Calls Try.prog 130 #[.slice np L.length nc,.func (.func 91) #[pp] #[]] w fun e w'=>∃ r:Int,e=.returned (.int .i64 r)∧decide (0≤r)=srdL xs ys L∧Below w.heap.size w w':=by
 go_enter Try.func130,Try.ntmps130
 go_wp2
 go_loopw [8] (fun i wr=>∃ k:Nat,k≤L.length∧i=.int .i64 k∧Hid (srdL xs ys (L.take k)=false)∧Below w.heap.size w wr) (fun i _=>L.length-(intOf i).toNat)
 case atStart=>exact ⟨0,Nat.zero_le _,rfl,Hi rfl,Below.refl _ _⟩
 case round =>
  obtain ⟨k,hk,rfl,HX,a0⟩:=hrel;by_cases hlt:k < L.length
  ·have hq:(k:Int) < (L.length:Int):=by omega
   obtain ⟨b,o,m,rfl,f0,h0,h1,h2,b0⟩:=HK.out wr a0 k hlt;have HC:=Hi b0;clear b0;have HS:Hid (srdL xs ys (L.take (k+1))=(srdL xs ys (L.take k)||srdE xs ys L[k])):=Hi (srdL_take hlt);have HY:Hid (srdE xs ys L[k]=true→srdL xs ys L=true):=Hi (srdL_yes hlt);generalize L[k]=y at *
   go_wp2_with fail
   refine HC.out.mono ?_;rintro e w1 ⟨rfl,hb⟩;have d0:=btr a0 hb;clear hb a0 HC HK
   cases hsy:srdE xs ys y with
   | false =>
    have c0:Hid (srdL xs ys (L.take (k+1))=false):=Hi (by rw [HS.out,HX.out,hsy];rfl);clear HS HY HX hsy;go_wp2
    go_roundw
    case rel=>exact ⟨k+1,by omega,by go_num,c0,d0⟩
    case measure=>simp [intOf];omega
   | true =>
    have c0:Hid (srdL xs ys L=true):=Hi (HY.out hsy);clear HS HY HX hsy;go_wp2
    go_ret
    exact ⟨(k:Int),rfl,by rw [c0.out];simp,d0⟩
  have e0:k=L.length:=by omega
  have hq:decide ((k:Int) < (L.length:Int))=false:=decide_eq_false (by omega);have g0:¬(k:Int) < (L.length:Int):=by omega
  have HT:Hid (srdL xs ys L=false):=Hi (by have:=HX.out;rw [e0,List.take_of_length_le Lr] at this;exact this);clear HK HX e0;go_wp2
  go_ret
  exact ⟨-1,rfl,by rw [HT.out];rfl,a0⟩
theorem hasE_any (pp:Value) (xs ys:List Int) (np:Option Addr) (L:List Ex) (nc:Nat) (w:World) (HK:Hid (∀ W,Below w.heap.size w W→SrK pp xs ys np L W)) (hl63:L.length≤9223372036854775807) :
  Calls Try.prog 110 #[.slice np L.length nc,.func (.func 91) #[pp] #[]] w fun e w'=>e=.returned (.bool (srdL xs ys L))∧Below w.heap.size w w':=by
 go_enter Try.func110,Try.ntmps110
 go_wp2_with fail
 refine (idxE_any pp xs ys np L nc _ HK hl63).mono ?_;rintro e w1 ⟨r,rfl,a0,hb⟩;have HR:=Hi a0;clear a0 HK;go_wp2
 go_ret
 exact ⟨by rw [← HR.out];rfl,hb⟩
theorem iSecretRead_any (xs ys:List Int) (pv pa pu:Option Addr) (cv ca nu cu:Nat) (lx:LabsP xs) (ly:LabsP ys):∀ (d:Nat) (A:Nat→Prop) (D:Nat) (n:En) (e:Ex) (w:World),Reads w 1 (.slice pv xs.length cv) xs.length (ints xs)→Reads w 1 (.slice pa ys.length ca) ys.length (ints ys)→ExAt w A D n e→exOk xs.length ys.length d e=true →
  Calls Try.prog 91 #[.agg #[.slice pv xs.length cv,.slice pa ys.length ca,.slice pu nu cu],.agg #[.int .i64 n.k,.int .i64 n.v,.slice n.p n.n n.c]] w fun r w'=>r=.returned (.bool (srdE xs ys e))∧Below w.heap.size w w':=by
 intro d
 induction d with
 | zero=>intro A D n e w _ _ _ h;cases h
 | succ d IH0 =>
  intro A D n e w hr hs hx z0
  cases D with
  | zero=>cases hx
  | succ D =>
   obtain ⟨ek,ev,L⟩:=e;have hn:=hx.shape;have HK:=Hi (fun W (hW:Below w.heap.size w W) j hj=>(hx.below hW).kidm j hj);have w0:=Hi (exOk_kids z0);have x0:Hid (ek=3→0 < L.length):=Hi (fun h=>by subst h;exact exOk_one z0);have y0:L.length≤9223372036854775807:=by obtain ⟨_,_,_,_,h,_⟩:=hx;exact h.2.1
   have r0:=Hi (fun W (hW:Below w.heap.size w W)=>Ai (hr.below hW) (hs.below hW));have IH:=Hi IH0;clear IH0 z0 hx hr hs;obtain ⟨nk,n0,np,d3,nc⟩:=n;simp only [Ex.k,Ex.v,Ex.kids] at hn;obtain ⟨rfl,rfl,rfl⟩:=hn;have j2:Hid (∀ W,Below w.heap.size w W→SrK (.agg #[.slice pv xs.length cv,.slice pa ys.length ca,.slice pu nu cu]) xs ys np L W):=Hi (fun W hW j hj=>by obtain ⟨b,o,m,hp,_,hkb,hm,e0,e1,e2⟩:=HK.out W hW j hj;exact ⟨b,o,m,hp,hkb,e0,e1,e2,IH.out A D m L[j] W (r0.out W hW).1 (r0.out W hW).2 hm (w0.out _ (List.getElem_mem _))⟩);have h2:=Hi (fun W (hW:Below w.heap.size w W)=>hasE_any (.agg #[.slice pv xs.length cv,.slice pa ys.length ca,.slice pu nu cu]) xs ys np L nc W (Hi (fun W2 hW2=>j2.out W2 (btr hW hW2))) y0);clear j2 IH;by_cases h3:nk=3
   ·skip
    subst h3;have h0:=x0.out rfl;obtain ⟨t0,u0,m0,l2,_,s2,k2,f0,f1,f2⟩:=HK.out w (Bs w) 0 h0;try simp only at l2
    subst l2;have i2:=Hi k2;clear k2;have s0:Hid (srdE xs ys (.mk 3 n0 L)=(secB (labE xs ys L[0])||srdL xs ys L)):=Hi (srdE_head h0);have r2:=Hi (fun W (hW:Below w.heap.size w W)=>iLabel_any xs ys pv pa pu cv ca nu cu d A D m0 L[0] W (r0.out _ hW).1 (r0.out _ hW).2 (i2.out.below hW) (w0.out _ (List.getElem_mem _)));clear i2;have u2:=labE_lab lx ly L[0];generalize labE xs ys L[0]=lv at *
    have z2:(0:Int) < (L.length:Int):=by omega
    clear HK w0 x0 r0;go_enter Try.func91,Try.ntmps91
    go_upto_region 1 with (fail)
    generalize hnw:World.alloc _ _=w1;have hb:=nmh hnw;clear hnw
    have a1:=hb.size;simp only [Sa] at a1;replace f0:=Kc hb (Ac (Ac f0 _) _);replace f1:=Kc hb (Ac (Ac f1 _) _);replace f2:=Kc hb (Ac (Ac f2 _) _);have b0:=Bb (Bk.al (Bk.n3 (w.heap.size)) (.cells #[.int .i64 3,.int .i64 n0,.slice (some ⟨t0,u0,none⟩) L.length nc] 49)) hb;have d0:=Bb (Bk.n3 (w.heap.size+1)) hb;have g0:=btr (bal (bal (Bs w) (.cells #[.slice pv xs.length cv,.slice pa ys.length ca,.slice pu nu cu] 26)) (.cells #[.int .i64 3,.int .i64 n0,.slice (some ⟨t0,u0,none⟩) L.length nc] 49)) hb;clear hb;have a3:=Lc f0;have b3:=Bk.lz b0;have c3:=Bk.lz d0;refine Rgh (S:=fun W'=>W'.cell? ⟨w.heap.size+1,0,none⟩=some (.int .i64 3)∧W'.cell? ⟨w.heap.size,0,none⟩=some (.slice pv xs.length cv)∧W'.cell? ⟨w.heap.size,1,none⟩=some (.slice pa ys.length ca)∧W'.cell? ⟨w.heap.size,2,none⟩=some (.slice pu nu cu)∧W'.cell? ⟨w.heap.size+1,2,none⟩=some (.slice (some ⟨t0,u0,none⟩) L.length nc)∧W'.cell? ⟨t0,u0,none⟩=some (.int .i64 m0.k)∧W'.cell? ⟨t0,u0+1,none⟩=some (.int .i64 m0.v)∧W'.cell? ⟨t0,u0+2,none⟩=some (.slice m0.p m0.n m0.c)) (fun W d=>⟨Bk.kc d0 d 0,Bk.kc b0 d 0,Bk.kc b0 d 1,Bk.kc b0 d 2,Bk.kc d0 d 2,Kc d f0,Kc d f1,Kc d f2⟩) (fun w2 q0 hHeld=>?_);have t2:=q0.size;replace f0:=Kc q0 f0;replace f1:=Kc q0 f1;replace f2:=Kc q0 f2;replace g0:=btr g0 q0;refine (tq 0 5 rfl rfl ?_ ?_ (tq 1 6 rfl rfl ?_ ?_ (tq 2 7 rfl rfl ?_ ?_ (tq 3 8 rfl rfl ?_ ?_ ?_))));iterate 4 (rotate_left;intro W' hSw;(try dsimp only at hSw);go_simp;try with_reducible rfl)
    try simp only [Ep]
    refine (tq 4 9 rfl rfl ?_ ?_ (tq 5 10 rfl rfl ?_ ?_ (tq 6 11 rfl rfl ?_ ?_ ?_)));iterate 3 (rotate_left;intro W' hSw;(try dsimp only at hSw);go_simp;try with_reducible rfl)
    try simp only [Ep]
    refine (tq 7 12 rfl rfl ?_ ?_ (tq 8 13 rfl rfl ?_ ?_ ?_));iterate 2 (rotate_left;intro W' hSw;(try dsimp only at hSw);go_simp;try with_reducible rfl)
    try simp only [Ep]
    refine Rdy 9 rfl (fun K hK=>?_);replace b0:=Bb b0 q0;obtain ⟨y2,q1,b1,r1,c1,s1⟩:=Bk.h3 b0;replace d0:=Bb d0 q0;obtain ⟨d1,t1,g1,u1⟩:=Bk.f2 d0 0 2 rfl rfl;go_simp
    refine (r2.out _ g0).mono ?_;rintro e w3 ⟨rfl,k0⟩;have m2:=k0.size;clear q1 y2 r1 b1 s1 c1 t1 d1 u1 g1;replace f0:=Kc k0 f0;replace f1:=Kc k0 f1;replace f2:=Kc k0 f2;replace g0:=btr g0 k0;replace b0:=Bb b0 k0;replace d0:=Bb d0 k0;refine hK.out _ _ ⟨Bk.ce d0 0,Bk.ce b0 0,Bk.ce b0 1,Bk.ce b0 2,Bk.ce d0 2,f0,f1,f2⟩ (fun hHeld=>?_);clear hK K;try simp only [Ep]
    refine Rdy 10 rfl (fun K hK=>?_);go_simp
    refine (iSecret_any lv u2 _).mono ?_;rintro e w4 ⟨rfl,i0⟩;have n2:=i0.size;replace f0:=Kc i0 f0;replace f1:=Kc i0 f1;replace f2:=Kc i0 f2;replace g0:=btr g0 i0
    cases hsec:secB lv with
    | false =>
     replace b0:=Bb b0 i0;replace d0:=Bb d0 i0;refine hK.out _ _ ⟨Bk.ce d0 0,Bk.ce b0 0,Bk.ce b0 1,Bk.ce b0 2,Bk.ce d0 2,f0,f1,f2⟩ (fun hHeld=>?_);clear hK K;try simp only [Ep]
     refine (tq 11 16 rfl rfl ?_ ?_ (tq 12 17 rfl rfl ?_ ?_ ?_));iterate 2 (rotate_left;intro W' hSw;(try dsimp only at hSw);go_simp;try with_reducible rfl)
     try simp only [Ep]
     refine (tq 13 18 rfl rfl ?_ ?_ (tq 14 19 rfl rfl ?_ ?_ (tq 15 20 rfl rfl ?_ ?_ ?_)));iterate 3 (rotate_left;intro W' hSw;(try dsimp only at hSw);go_simp;try with_reducible rfl)
     try simp only [Ep]
     refine (tq 16 21 rfl rfl ?_ ?_ ?_);(rotate_left;intro W' hSw;(try dsimp only at hSw);go_simp;try with_reducible rfl)
     try simp only [Ep]
     refine Rdy 17 rfl (fun K hK=>?_);obtain ⟨h1,v1,i1,x1,j1,y1⟩:=Bk.h3 b0;obtain ⟨k1,z1⟩:=Bk.cf d0 2 rfl;go_simp
     refine (h2.out _ g0).mono ?_;rintro e w5 ⟨rfl,j0⟩;have o2:=j0.size;clear v1 h1 x1 i1 y1 j1 z1 k1;replace f0:=Kc j0 f0;replace f1:=Kc j0 f1;replace f2:=Kc j0 f2;replace g0:=btr g0 j0
     cases hsl:srdL xs ys L with
     | false =>
      replace b0:=Bb b0 j0;replace d0:=Bb d0 j0;refine hK.out _ _ ⟨Bk.ce d0 0,Bk.ce b0 0,Bk.ce b0 1,Bk.ce b0 2,Bk.ce d0 2,f0,f1,f2⟩ (fun hHeld=>?_);clear hK K;try simp only [Ep]
      refine (tq 18 23 rfl rfl ?_ ?_ (tq 19 4 rfl rfl ?_ ?_ ?_));iterate 2 (rotate_left;intro W' hSw;(try dsimp only at hSw);go_simp;try with_reducible rfl)
      try simp only [Ep]
      refine Dn ?_;clear hHeld;have o0:Hid (srdE xs ys (.mk 3 n0 L)=false):=Hi (by rw [s0.out];simp [*]);have tt:=g0;go_wp2
      exact bodyPost_ret (v:=.bool false) (by simp [results,Try.results91,go_sem]) rfl (by exact ⟨by rw [o0.out],tt⟩)
     | true =>
      replace b0:=Bb b0 j0;replace d0:=Bb d0 j0;refine hK.out _ _ ⟨Bk.ce d0 0,Bk.ce b0 0,Bk.ce b0 1,Bk.ce b0 2,Bk.ce d0 2,f0,f1,f2⟩ (fun hHeld=>?_);clear hK K;try simp only [Ep]
      refine (tq 18 23 rfl rfl ?_ ?_ (tq 19 4 rfl rfl ?_ ?_ ?_));iterate 2 (rotate_left;intro W' hSw;(try dsimp only at hSw);go_simp;try with_reducible rfl)
      try simp only [Ep]
      refine Dn ?_;clear hHeld;have o0:Hid (srdE xs ys (.mk 3 n0 L)=true):=Hi (by rw [s0.out];simp [*]);have tt:=g0;go_wp2
      exact bodyPost_ret (v:=.bool true) (by simp [results,Try.results91,go_sem]) rfl (by exact ⟨by rw [o0.out],tt⟩)
    | true =>
     replace b0:=Bb b0 i0;replace d0:=Bb d0 i0;refine hK.out _ _ ⟨Bk.ce d0 0,Bk.ce b0 0,Bk.ce b0 1,Bk.ce b0 2,Bk.ce d0 2,f0,f1,f2⟩ (fun hHeld=>?_);clear hK K;try simp only [Ep]
     refine (tq 11 16 rfl rfl ?_ ?_ (tq 12 17 rfl rfl ?_ ?_ ?_));iterate 2 (rotate_left;intro W' hSw;(try dsimp only at hSw);go_simp;try with_reducible rfl)
     try simp only [Ep]
     refine (tu 13 18 rfl rfl (tu 14 19 rfl rfl (tu 15 20 rfl rfl (tu 16 21 rfl rfl ?_))));try simp only [Ep]
     refine (tu 17 22 rfl rfl (tq 18 23 rfl rfl ?_ ?_ (tq 19 4 rfl rfl ?_ ?_ ?_)));iterate 2 (rotate_left;intro W' hSw;(try dsimp only at hSw);go_simp;try with_reducible rfl)
     try simp only [Ep]
     refine Dn ?_;clear hHeld;have o0:Hid (srdE xs ys (.mk 3 n0 L)=true):=Hi (by rw [s0.out];simp [*]);have tt:=g0;go_wp2
     exact bodyPost_ret (v:=.bool true) (by simp [results,Try.results91,go_sem]) rfl (by exact ⟨by rw [o0.out],tt⟩)
   skip
   have s0:Hid (srdE xs ys (.mk nk n0 L)=(false||srdL xs ys L)):=Hi (by rw [srdE_tail h3];rfl);clear HK w0 x0 r0;go_enter Try.func91,Try.ntmps91
   have q7:(nk == 3)=false:=by simp [h3]
   go_upto_region 1 with (fail)
   generalize hnw:World.alloc _ _=w1;have hb:=nmh hnw;clear hnw
   have v0:=hb.size;simp only [Sa] at v0;have a0:=Bb (Bk.al (Bk.n3 (w.heap.size)) (.cells #[.int .i64 nk,.int .i64 n0,.slice np L.length nc] 49)) hb;have c0:=Bb (Bk.n3 (w.heap.size+1)) hb;have g0:=btr (bal (bal (Bs w) (.cells #[.slice pv xs.length cv,.slice pa ys.length ca,.slice pu nu cu] 26)) (.cells #[.int .i64 nk,.int .i64 n0,.slice np L.length nc] 49)) hb;clear hb;have v2:=Bk.lz a0;have x2:=Bk.lz c0;refine Rgh (S:=fun W'=>W'.cell? ⟨w.heap.size+1,0,none⟩=some (.int .i64 nk)∧W'.cell? ⟨w.heap.size,0,none⟩=some (.slice pv xs.length cv)∧W'.cell? ⟨w.heap.size,1,none⟩=some (.slice pa ys.length ca)∧W'.cell? ⟨w.heap.size,2,none⟩=some (.slice pu nu cu)∧W'.cell? ⟨w.heap.size+1,2,none⟩=some (.slice np L.length nc)) (fun W d=>⟨Bk.kc c0 d 0,Bk.kc a0 d 0,Bk.kc a0 d 1,Bk.kc a0 d 2,Bk.kc c0 d 2⟩) (fun w2 p0 hHeld=>?_);have p2:=p0.size;replace g0:=btr g0 p0;refine (tq 0 5 rfl rfl ?_ ?_ (tq 1 6 rfl rfl ?_ ?_ (tq 2 7 rfl rfl ?_ ?_ (tq 3 8 rfl rfl ?_ ?_ ?_))));iterate 4 (rotate_left;intro W' hSw;(try dsimp only at hSw);go_simp;try with_reducible rfl)
   try simp only [Ep]
   refine (tu 4 9 rfl rfl (tu 5 10 rfl rfl (tu 6 11 rfl rfl (tu 7 12 rfl rfl ?_))));try simp only [Ep]
   refine (tu 8 13 rfl rfl (tu 9 14 rfl rfl (tu 10 15 rfl rfl (tq 11 16 rfl rfl ?_ ?_ (tq 12 17 rfl rfl ?_ ?_ ?_)))));iterate 2 (rotate_left;intro W' hSw;(try dsimp only at hSw);go_simp;try with_reducible rfl)
   try simp only [Ep]
   refine (tq 13 18 rfl rfl ?_ ?_ (tq 14 19 rfl rfl ?_ ?_ (tq 15 20 rfl rfl ?_ ?_ ?_)));iterate 3 (rotate_left;intro W' hSw;(try dsimp only at hSw);go_simp;try with_reducible rfl)
   try simp only [Ep]
   refine (tq 16 21 rfl rfl ?_ ?_ ?_);(rotate_left;intro W' hSw;(try dsimp only at hSw);go_simp;try with_reducible rfl)
   try simp only [Ep]
   refine Rdy 17 rfl (fun K hK=>?_);replace a0:=Bb a0 p0;obtain ⟨l1,a2,m1,b2,n1,c2⟩:=Bk.h3 a0;replace c0:=Bb c0 p0;obtain ⟨o1,d2,p1,g2⟩:=Bk.f2 c0 0 2 rfl rfl;go_simp
   refine (h2.out _ g0).mono ?_;rintro e w3 ⟨rfl,l0⟩;have q2:=l0.size;clear a2 l1 b2 m1 c2 n1 d2 o1 g2 p1;replace g0:=btr g0 l0
   cases hsl:srdL xs ys L with
   | false =>
    replace a0:=Bb a0 l0;replace c0:=Bb c0 l0;refine hK.out _ _ ⟨Bk.ce c0 0,Bk.ce a0 0,Bk.ce a0 1,Bk.ce a0 2,Bk.ce c0 2⟩ (fun hHeld=>?_);clear hK K;try simp only [Ep]
    refine (tq 18 23 rfl rfl ?_ ?_ (tq 19 4 rfl rfl ?_ ?_ ?_));iterate 2 (rotate_left;intro W' hSw;(try dsimp only at hSw);go_simp;try with_reducible rfl)
    try simp only [Ep]
    refine Dn ?_;clear hHeld;have o0:Hid (srdE xs ys (.mk nk n0 L)=false):=Hi (by rw [s0.out];simp [*]);have tt:=g0;go_wp2
    exact bodyPost_ret (v:=.bool false) (by simp [results,Try.results91,go_sem]) rfl (by exact ⟨by rw [o0.out],tt⟩)
   | true =>
    replace a0:=Bb a0 l0;replace c0:=Bb c0 l0;refine hK.out _ _ ⟨Bk.ce c0 0,Bk.ce a0 0,Bk.ce a0 1,Bk.ce a0 2,Bk.ce c0 2⟩ (fun hHeld=>?_);clear hK K;try simp only [Ep]
    refine (tq 18 23 rfl rfl ?_ ?_ (tq 19 4 rfl rfl ?_ ?_ ?_));iterate 2 (rotate_left;intro W' hSw;(try dsimp only at hSw);go_simp;try with_reducible rfl)
    try simp only [Ep]
    refine Dn ?_;clear hHeld;have o0:Hid (srdE xs ys (.mk nk n0 L)=true):=Hi (by rw [s0.out];simp [*]);have tt:=g0;go_wp2
    exact bodyPost_ret (v:=.bool true) (by simp [results,Try.results91,go_sem]) rfl (by exact ⟨by rw [o0.out],tt⟩)
end Go.Proofs.Ytlckklglbodgbaa
