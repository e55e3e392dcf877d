/-
 Parts of the proofs of the laws FnExactProductProgram.
-/
import Derived.Test.YtlckklglbodgbaaQG
set_option linter.all false
namespace Go.Proofs.Ytlckklglbodgbaa
open Go.RowKit
theorem gi_at {w:World} {a:Option Addr} {c:Nat} {xs:List Int} (h:Reads w 1 (.slice a xs.length c) xs.length (ints xs)) (i:Nat) (hi:i < xs.length):∃ b off,a=some ⟨b,off,none⟩∧b < w.heap.size∧w.cell? ⟨b,off+i,none⟩=some (.int .i64 (gi xs i)):=by
 obtain ⟨_,_,a',c',b,off,hv,_,ha,a0⟩:=h;simp only [Value.slice.injEq,true_and] at hv;obtain ⟨rfl,rfl⟩:=hv;obtain ⟨rfl,hb⟩:=ha (by omega);refine ⟨b,off,rfl,hb,?_⟩;have:=a0 i (by rw [ints_length];exact hi)
 rw [this,ints_get];unfold gi
 rw [Int.toNat_natCast,List.getElem?_eq_getElem hi];rfl
theorem exOk_lim {nv na d:Nat} {k v:Int} {l:List Ex} (h:exOk nv na (d+1) (.mk k v l)=true):0≤v∧v < limitOf nv na k:=by
 simp only [exOk,Ex.k,Ex.v,Bool.and_eq_true] at h;exact ⟨of_decide_eq_true h.2.1,of_decide_eq_true h.2.2.1⟩
theorem exOk_kids {nv na d:Nat} {k v:Int} {l:List Ex} (h:exOk nv na (d+1) (.mk k v l)=true):∀ y ∈ l,exOk nv na d y=true:=by
 simp only [exOk,Ex.kids,Bool.and_eq_true,List.all_eq_true] at h;exact h.2.2.2.1
set_option maxHeartbeats 6400000 in
set_option maxRecDepth 100000 in
theorem l4Label_any (xs ys:List Int) (pv pa pu:Option Addr) (cv ca nu cu:Nat):∀ (d:Nat) (A:Nat→Prop) (D:Nat) (n:En) (e:Ex) (w:World),Reads w 1 (.slice pv xs.length cv) xs.length (ints xs)→Reads w 1 (.slice pa ys.length ca) ys.length (ints ys)→ExAt w A D n e→exOk xs.length ys.length d e=true →
  Calls Try.prog 105 #[.agg #[.slice pv xs.length cv,.slice pa ys.length ca,.slice pu nu cu],.agg #[.int .i64 n.k,.int .i64 n.v,.slice n.p n.n n.c]] w fun r w'=>r=.returned (.int .i64 (labE xs ys e))∧Below w.heap.size w w':=by
 intro d
 induction d with
 | zero=>intro A D n e w _ _ _ h;cases h
 | succ d IH0 =>
  intro A D n e w hr hs hx h1
  cases D with
  | zero=>cases hx
  | succ D =>
   obtain ⟨ek,ev,L⟩:=e;have hn:=hx.shape;have HK:=Hi (fun W (hW:Below w.heap.size w W) j hj=>(hx.below hW).kidm j hj);have k0:=Hi (exOk_kids h1);have g1:=exOk_lim h1;have a3:L.length≤9223372036854775807:=by obtain ⟨_,_,_,_,h,_⟩:=hx;exact h.2.1
   have h0:=Hi (fun W (hW:Below w.heap.size w W)=>Ai (hr.below hW) (hs.below hW));have IH:=Hi IH0;clear IH0 h1 hx;obtain ⟨nk,z3,np,y3,nc⟩:=n;simp only [Ex.k,Ex.v,Ex.kids] at hn;obtain ⟨rfl,rfl,rfl⟩:=hn;obtain ⟨q2,r2⟩:=g1;obtain ⟨iv,rfl⟩:=Int.eq_ofNat_of_zero_le q2;obtain ⟨a0,i2⟩:∃ a,a=lbl0 xs ys nk (iv:Int):=⟨_,rfl⟩;have j0:=Hi i2;clear i2 q2;go_enter Try.func105,Try.ntmps105
   go_upto_region 2 with (fail)
   generalize hnw:World.alloc _ _=w1;have hb:=nmh hnw;clear hnw
   have i1:=hb.size;simp only [Sa] at i1;have l0:=Bb (Bk.al (Bk.n3 (w.heap.size)) (.cells #[.int .i64 nk,.int .i64 (iv:Int),.slice np L.length nc] 49)) hb;have i0:=Bb (Bk.n3 (w.heap.size+1)) hb;have g0:=btr (bal (bal (Bs w) (.cells #[.slice pv xs.length cv,.slice pa ys.length ca,.slice pu nu cu] 26)) (.cells #[.int .i64 nk,.int .i64 (iv:Int),.slice np L.length nc] 49)) hb;clear hb;have v3:=Bk.lz l0;have x3:=Bk.lz i0;by_cases h2:nk=2
   ·subst h2;have y2:(iv:Int) < (xs.length:Int):=by simp [limitOf] at r2;omega
    obtain ⟨jb,jo,hj,z2,ej⟩:=gi_at (h0.out _ g0).1 iv (by omega);subst hj;have hg:gi xs (iv:Int)=a0:=by rw [j0.out];simp [lbl0]
    rw [hg] at ej;clear hg;obtain ⟨x2,q3⟩:=Bk.cf l0 0 rfl;obtain ⟨p3,r3,j1,n1⟩:=Bk.h2 i0;go_upto_region 7 with (fail)
    have b3:=Lc ej;obtain ⟨s0,o1,t0,p1⟩:=Bk.f2 l0 1 2 rfl rfl;obtain ⟨v0,q1⟩:=Bk.cf i0 2 rfl;have HC:=Hi (fun W (hW:Below w1.heap.size w1 W)=>show _∧_∧_∧_ from ⟨Kc hW x2,Kc hW s0,Kc hW t0,Kc hW v0⟩);have p0:=Hi g0;clear g0 l0 i0 ej x2 q3 p3 r3 j1 n1 s0 o1 t0 p1 v0 q1;go_wp2_with fail
    go_loopw [5,6] (fun m i wr=>∃ (k:Nat) (x:Int),k≤L.length∧i=.int .i64 k∧m=.int .i64 x∧Hid (x=labL xs ys a0 (L.take k))∧Below w1.heap.size w1 wr) (fun _ i _=>L.length-(intOf i).toNat)
    case atStart=>exact ⟨0,a0,Nat.zero_le _,rfl,rfl,Hi rfl,Bs _⟩
    case round =>
     obtain ⟨k,x,hk,rfl,rfl,HX,hB⟩:=hrel;obtain ⟨c0,c1,c2,c3⟩:=HC.out _ hB;have t2:=Lc c0;have v2:=Lc c3;have b0:=btr p0.out hB;have s2:=hB.size;by_cases hlt:k < L.length
     ·have r0:(k:Int) < (L.length:Int):=by omega
      obtain ⟨kb,ko,m,hp,_,j2,hm,e0,e1,e2⟩:=HK.out wr b0 k hlt;try simp only at hp
      subst hp;have HM:=Hi hm;have HS:Hid (labL xs ys a0 (L.take (k+1))=bits .or .i64 (labL xs ys a0 (L.take k)) (labE xs ys L[k])):=Hi (labL_take hlt a0);have m0:Hid (exOk xs.length ys.length d L[k]=true):=Hi (k0.out _ (List.getElem_mem _));clear hm;generalize L[k]=y at *
      have ke:=Lc e0;have n0:=Hi (fun W (hW:Below wr.heap.size wr W)=>IH.out A D m y W (h0.out _ (btr b0 hW)).1 (h0.out _ (btr b0 hW)).2 (HM.out.below hW) m0.out);clear HM HK k0 m0;go_upto_region 10 with (fail)
      have d3:=Lc c0;have e3:=Lc c3;have f3:=Lc e0;refine Rgh (S:=fun W'=>W'.cell? ⟨w.heap.size,0,none⟩=some (.slice (some ⟨jb,jo,none⟩) xs.length cv)∧W'.cell? ⟨w.heap.size,1,none⟩=some (.slice pa ys.length ca)∧W'.cell? ⟨w.heap.size,2,none⟩=some (.slice pu nu cu)∧W'.cell? ⟨w.heap.size+1,2,none⟩=some (.slice (some ⟨kb,ko,none⟩) L.length nc)∧W'.cell? ⟨kb,ko+k*3,none⟩=some (.int .i64 m.k)∧W'.cell? ⟨kb,ko+k*3+1,none⟩=some (.int .i64 m.v)∧W'.cell? ⟨kb,ko+k*3+2,none⟩=some (.slice m.p m.n m.c)) (fun W d=>⟨Kc d c0,Kc d c1,Kc d c2,Kc d c3,Kc d e0,Kc d e1,Kc d e2⟩) (fun w2 hb hHeld=>?_);have f0:=btr (Bs wr) hb;have k2:=hb.size;replace c0:=Kc hb c0;replace c1:=Kc hb c1;replace c2:=Kc hb c2;replace c3:=Kc hb c3;replace e0:=Kc hb e0;replace e1:=Kc hb e1;replace e2:=Kc hb e2;replace g0:=btr b0 hb;clear hb;have d0:=f0;clear f0;refine (tq 0 32 rfl rfl ?_ ?_ (tq 1 33 rfl rfl ?_ ?_ (tq 2 34 rfl rfl ?_ ?_ (tq 3 35 rfl rfl ?_ ?_ (tq 4 36 rfl rfl ?_ ?_ (tq 5 37 rfl rfl ?_ ?_ (tq 6 38 rfl rfl ?_ ?_ ?_)))))));iterate 7 (rotate_left;intro W' hSw;(try dsimp only at hSw);go_simp;try with_reducible rfl)
      try simp only [Ep]
      refine Rdy 7 rfl (fun K hK=>?_);go_simp
      refine (n0.out _ d0).mono ?_;rintro e w3 ⟨rfl,hb⟩;have f0:=btr d0 hb;have l2:=hb.size;replace c0:=Kc hb c0;replace c1:=Kc hb c1;replace c2:=Kc hb c2;replace c3:=Kc hb c3;replace e0:=Kc hb e0;replace e1:=Kc hb e1;replace e2:=Kc hb e2;replace g0:=btr g0 hb;clear hb;clear d0;have d0:=f0;clear f0;refine hK.out _ _ ⟨c0,c1,c2,c3,e0,e1,e2⟩ (fun hHeld=>?_);clear hK K;try simp only [Ep]
      refine (tq 8 40 rfl rfl ?_ ?_ (tq 9 5 rfl rfl ?_ ?_ ?_));iterate 2 (rotate_left;intro W' hSw;(try dsimp only at hSw);go_simp;try with_reducible rfl)
      try simp only [Ep]
      refine Dn ?_;clear hHeld;have o0:Hid (bits .or .i64 x (labE xs ys y)=labL xs ys a0 (L.take (k+1))):=Hi (by rw [HS.out,HX.out]);clear HS HX;go_wp2
      go_roundw
      case rel=>exact ⟨k+1,_,by omega,by go_num,rfl,o0,btr hB d0⟩
      case measure=>simp [intOf];omega
     have q0:k=L.length:=by omega
     subst q0;have r0:decide (((L.length:Nat):Int) < (L.length:Int))=false:=decide_eq_false (by omega);have HR:Hid (x=labE xs ys (.mk 2 iv L)):=Hi (by rw [HX.out,List.take_of_length_le Lr,j0.out];rfl);clear HC HX HK k0 IH j0 h0;go_wp2
     go_ret
     exact ⟨by rw [← HR.out];rfl,b0⟩
   by_cases h3:nk=3
   ·subst h3;have y2:(iv:Int) < (ys.length:Int):=by simp [limitOf] at r2;omega
    obtain ⟨jb,jo,hj,z2,ej⟩:=gi_at (h0.out _ g0).2 iv (by omega);subst hj;have hg:gi ys (iv:Int)=a0:=by rw [j0.out];simp [lbl0]
    rw [hg] at ej;clear hg;obtain ⟨w0,r1⟩:=Bk.cf l0 1 rfl;obtain ⟨k1,s1,l1,t1⟩:=Bk.h2 i0;go_upto_region 7 with (fail)
    have g3:=Lc ej;obtain ⟨x0,v1,y0,x1⟩:=Bk.f2 l0 0 2 rfl rfl;obtain ⟨z0,y1⟩:=Bk.cf i0 2 rfl;have HC:=Hi (fun W (hW:Below w1.heap.size w1 W)=>show _∧_∧_∧_ from ⟨Kc hW x0,Kc hW w0,Kc hW y0,Kc hW z0⟩);have p0:=Hi g0;clear g0 l0 i0 ej w0 r1 k1 s1 l1 t1 x0 v1 y0 x1 z0 y1;go_wp2_with fail
    go_loopw [5,6] (fun m i wr=>∃ (k:Nat) (x:Int),k≤L.length∧i=.int .i64 k∧m=.int .i64 x∧Hid (x=labL xs ys a0 (L.take k))∧Below w1.heap.size w1 wr) (fun _ i _=>L.length-(intOf i).toNat)
    case atStart=>exact ⟨0,a0,Nat.zero_le _,rfl,rfl,Hi rfl,Bs _⟩
    case round =>
     obtain ⟨k,x,hk,rfl,rfl,HX,hB⟩:=hrel;obtain ⟨c0,c1,c2,c3⟩:=HC.out _ hB;have t2:=Lc c0;have v2:=Lc c3;have b0:=btr p0.out hB;have s2:=hB.size;by_cases hlt:k < L.length
     ·have r0:(k:Int) < (L.length:Int):=by omega
      obtain ⟨kb,ko,m,hp,_,j2,hm,e0,e1,e2⟩:=HK.out wr b0 k hlt;try simp only at hp
      subst hp;have HM:=Hi hm;have HS:Hid (labL xs ys a0 (L.take (k+1))=bits .or .i64 (labL xs ys a0 (L.take k)) (labE xs ys L[k])):=Hi (labL_take hlt a0);have m0:Hid (exOk xs.length ys.length d L[k]=true):=Hi (k0.out _ (List.getElem_mem _));clear hm;generalize L[k]=y at *
      have ke:=Lc e0;have n0:=Hi (fun W (hW:Below wr.heap.size wr W)=>IH.out A D m y W (h0.out _ (btr b0 hW)).1 (h0.out _ (btr b0 hW)).2 (HM.out.below hW) m0.out);clear HM HK k0 m0;go_upto_region 10 with (fail)
      have i3:=Lc c0;have j3:=Lc c3;have k3:=Lc e0;refine Rgh (S:=fun W'=>W'.cell? ⟨w.heap.size,0,none⟩=some (.slice pv xs.length cv)∧W'.cell? ⟨w.heap.size,1,none⟩=some (.slice (some ⟨jb,jo,none⟩) ys.length ca)∧W'.cell? ⟨w.heap.size,2,none⟩=some (.slice pu nu cu)∧W'.cell? ⟨w.heap.size+1,2,none⟩=some (.slice (some ⟨kb,ko,none⟩) L.length nc)∧W'.cell? ⟨kb,ko+k*3,none⟩=some (.int .i64 m.k)∧W'.cell? ⟨kb,ko+k*3+1,none⟩=some (.int .i64 m.v)∧W'.cell? ⟨kb,ko+k*3+2,none⟩=some (.slice m.p m.n m.c)) (fun W d=>⟨Kc d c0,Kc d c1,Kc d c2,Kc d c3,Kc d e0,Kc d e1,Kc d e2⟩) (fun w2 hb hHeld=>?_);have f0:=btr (Bs wr) hb;have m2:=hb.size;replace c0:=Kc hb c0;replace c1:=Kc hb c1;replace c2:=Kc hb c2;replace c3:=Kc hb c3;replace e0:=Kc hb e0;replace e1:=Kc hb e1;replace e2:=Kc hb e2;replace g0:=btr b0 hb;clear hb;have d0:=f0;clear f0;refine (tq 0 32 rfl rfl ?_ ?_ (tq 1 33 rfl rfl ?_ ?_ (tq 2 34 rfl rfl ?_ ?_ (tq 3 35 rfl rfl ?_ ?_ (tq 4 36 rfl rfl ?_ ?_ (tq 5 37 rfl rfl ?_ ?_ (tq 6 38 rfl rfl ?_ ?_ ?_)))))));iterate 7 (rotate_left;intro W' hSw;(try dsimp only at hSw);go_simp;try with_reducible rfl)
      try simp only [Ep]
      refine Rdy 7 rfl (fun K hK=>?_);go_simp
      refine (n0.out _ d0).mono ?_;rintro e w3 ⟨rfl,hb⟩;have f0:=btr d0 hb;have n2:=hb.size;replace c0:=Kc hb c0;replace c1:=Kc hb c1;replace c2:=Kc hb c2;replace c3:=Kc hb c3;replace e0:=Kc hb e0;replace e1:=Kc hb e1;replace e2:=Kc hb e2;replace g0:=btr g0 hb;clear hb;clear d0;have d0:=f0;clear f0;refine hK.out _ _ ⟨c0,c1,c2,c3,e0,e1,e2⟩ (fun hHeld=>?_);clear hK K;try simp only [Ep]
      refine (tq 8 40 rfl rfl ?_ ?_ (tq 9 5 rfl rfl ?_ ?_ ?_));iterate 2 (rotate_left;intro W' hSw;(try dsimp only at hSw);go_simp;try with_reducible rfl)
      try simp only [Ep]
      refine Dn ?_;clear hHeld;have o0:Hid (bits .or .i64 x (labE xs ys y)=labL xs ys a0 (L.take (k+1))):=Hi (by rw [HS.out,HX.out]);clear HS HX;go_wp2
      go_roundw
      case rel=>exact ⟨k+1,_,by omega,by go_num,rfl,o0,btr hB d0⟩
      case measure=>simp [intOf];omega
     have q0:k=L.length:=by omega
     subst q0;have r0:decide (((L.length:Nat):Int) < (L.length:Int))=false:=decide_eq_false (by omega);have HR:Hid (x=labE xs ys (.mk 3 iv L)):=Hi (by rw [HX.out,List.take_of_length_le Lr,j0.out];rfl);clear HC HX HK k0 IH j0 h0;go_wp2
     go_ret
     exact ⟨by rw [← HR.out];rfl,b0⟩
   have s3:(nk == 2)=false:=by rw [beq_eq_false_iff_ne];exact h2
   have t3:(nk == 3)=false:=by rw [beq_eq_false_iff_ne];exact h3
   have HZ:Hid ((0:Int)=a0):=Hi (by rw [j0.out];simp [lbl0,h2,h3]);clear h2 h3;obtain ⟨m1,z1⟩:=Bk.cf i0 0 rfl;go_upto_region 7 with (fail)
   obtain ⟨a1,a2,b1,b2,d1,d2⟩:=Bk.h3 l0;obtain ⟨f1,g2⟩:=Bk.cf i0 2 rfl;have HC:=Hi (fun W (hW:Below w1.heap.size w1 W)=>show _∧_∧_∧_ from ⟨Kc hW a1,Kc hW b1,Kc hW d1,Kc hW f1⟩);have p0:=Hi g0;clear g0 l0 i0 m1 z1 a1 a2 b1 b2 d1 d2 f1 g2;go_wp2_with fail
   go_loopw [5,6] (fun m i wr=>∃ (k:Nat) (x:Int),k≤L.length∧i=.int .i64 k∧m=.int .i64 x∧Hid (x=labL xs ys a0 (L.take k))∧Below w1.heap.size w1 wr) (fun _ i _=>L.length-(intOf i).toNat)
   case atStart=>exact ⟨0,a0,Nat.zero_le _,rfl,(by rw [HZ.out]),Hi rfl,Bs _⟩
   case round =>
    obtain ⟨k,x,hk,rfl,rfl,HX,hB⟩:=hrel;obtain ⟨c0,c1,c2,c3⟩:=HC.out _ hB;have t2:=Lc c0;have v2:=Lc c3;have b0:=btr p0.out hB;have s2:=hB.size;by_cases hlt:k < L.length
    ·have r0:(k:Int) < (L.length:Int):=by omega
     obtain ⟨kb,ko,m,hp,_,j2,hm,e0,e1,e2⟩:=HK.out wr b0 k hlt;try simp only at hp
     subst hp;have HM:=Hi hm;have HS:Hid (labL xs ys a0 (L.take (k+1))=bits .or .i64 (labL xs ys a0 (L.take k)) (labE xs ys L[k])):=Hi (labL_take hlt a0);have m0:Hid (exOk xs.length ys.length d L[k]=true):=Hi (k0.out _ (List.getElem_mem _));clear hm;generalize L[k]=y at *
     have ke:=Lc e0;have n0:=Hi (fun W (hW:Below wr.heap.size wr W)=>IH.out A D m y W (h0.out _ (btr b0 hW)).1 (h0.out _ (btr b0 hW)).2 (HM.out.below hW) m0.out);clear HM HK k0 m0;go_upto_region 10 with (fail)
     have l3:=Lc c0;have m3:=Lc c3;have o3:=Lc e0;refine Rgh (S:=fun W'=>W'.cell? ⟨w.heap.size,0,none⟩=some (.slice pv xs.length cv)∧W'.cell? ⟨w.heap.size,1,none⟩=some (.slice pa ys.length ca)∧W'.cell? ⟨w.heap.size,2,none⟩=some (.slice pu nu cu)∧W'.cell? ⟨w.heap.size+1,2,none⟩=some (.slice (some ⟨kb,ko,none⟩) L.length nc)∧W'.cell? ⟨kb,ko+k*3,none⟩=some (.int .i64 m.k)∧W'.cell? ⟨kb,ko+k*3+1,none⟩=some (.int .i64 m.v)∧W'.cell? ⟨kb,ko+k*3+2,none⟩=some (.slice m.p m.n m.c)) (fun W d=>⟨Kc d c0,Kc d c1,Kc d c2,Kc d c3,Kc d e0,Kc d e1,Kc d e2⟩) (fun w2 hb hHeld=>?_);have f0:=btr (Bs wr) hb;have o2:=hb.size;replace c0:=Kc hb c0;replace c1:=Kc hb c1;replace c2:=Kc hb c2;replace c3:=Kc hb c3;replace e0:=Kc hb e0;replace e1:=Kc hb e1;replace e2:=Kc hb e2;replace g0:=btr b0 hb;clear hb;have d0:=f0;clear f0;refine (tq 0 32 rfl rfl ?_ ?_ (tq 1 33 rfl rfl ?_ ?_ (tq 2 34 rfl rfl ?_ ?_ (tq 3 35 rfl rfl ?_ ?_ (tq 4 36 rfl rfl ?_ ?_ (tq 5 37 rfl rfl ?_ ?_ (tq 6 38 rfl rfl ?_ ?_ ?_)))))));iterate 7 (rotate_left;intro W' hSw;(try dsimp only at hSw);go_simp;try with_reducible rfl)
     try simp only [Ep]
     refine Rdy 7 rfl (fun K hK=>?_);go_simp
     refine (n0.out _ d0).mono ?_;rintro e w3 ⟨rfl,hb⟩;have f0:=btr d0 hb;have p2:=hb.size;replace c0:=Kc hb c0;replace c1:=Kc hb c1;replace c2:=Kc hb c2;replace c3:=Kc hb c3;replace e0:=Kc hb e0;replace e1:=Kc hb e1;replace e2:=Kc hb e2;replace g0:=btr g0 hb;clear hb;clear d0;have d0:=f0;clear f0;refine hK.out _ _ ⟨c0,c1,c2,c3,e0,e1,e2⟩ (fun hHeld=>?_);clear hK K;try simp only [Ep]
     refine (tq 8 40 rfl rfl ?_ ?_ (tq 9 5 rfl rfl ?_ ?_ ?_));iterate 2 (rotate_left;intro W' hSw;(try dsimp only at hSw);go_simp;try with_reducible rfl)
     try simp only [Ep]
     refine Dn ?_;clear hHeld;have o0:Hid (bits .or .i64 x (labE xs ys y)=labL xs ys a0 (L.take (k+1))):=Hi (by rw [HS.out,HX.out]);clear HS HX;go_wp2
     go_roundw
     case rel=>exact ⟨k+1,_,by omega,by go_num,rfl,o0,btr hB d0⟩
     case measure=>simp [intOf];omega
    have q0:k=L.length:=by omega
    subst q0;have r0:decide (((L.length:Nat):Int) < (L.length:Int))=false:=decide_eq_false (by omega);have HR:Hid (x=labE xs ys (.mk nk iv L)):=Hi (by rw [HX.out,List.take_of_length_le Lr,j0.out];rfl);clear HC HX HK k0 IH j0 h0;go_wp2
    go_ret
    exact ⟨by rw [← HR.out];rfl,b0⟩
end Go.Proofs.Ytlckklglbodgbaa
