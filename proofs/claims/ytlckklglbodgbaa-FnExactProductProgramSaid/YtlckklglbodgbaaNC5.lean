/-
 Parts of the proofs of the laws FnExactProductProgram.
-/
import Derived.Test.YtlckklglbodgbaaKC
set_option linter.all false
namespace Go.Proofs.Ytlckklglbodgbaa
open Go.RowKit
theorem srdL_take {xs ys:List Int}:∀ {l:List Ex} {k:Nat} (h:k < l.length),srdL xs ys (l.take (k+1))=(srdL xs ys (l.take k)||srdE xs ys l[k])
 | e::l,0,_=>by simp [srdL]
 | e::l,k+1,h=>by
  have h2:k < l.length:=by simpa using h
  simp only [List.take_succ_cons,srdL,List.getElem_cons_succ];rw [srdL_take h2,Bool.or_assoc]
theorem srdL_yes {xs ys:List Int}:∀ {l:List Ex} {k:Nat} (h:k < l.length),srdE xs ys l[k]=true→srdL xs ys l=true
 | e::l,0,_,hs=>by simp only [List.getElem_cons_zero] at hs;simp [srdL,hs]
 | e::l,k+1,h,hs=>by
  have h2:k < l.length:=by simpa using h
  simp only [srdL];rw [srdL_yes h2 (by simpa using hs),Bool.or_true]
theorem exOk_one {nv na d:Nat} {v:Int} {l:List Ex} (h:exOk nv na (d+1) (.mk 3 v l)=true):0 < l.length:=by
 simp only [exOk,Ex.k,Ex.kids,Bool.and_eq_true,beq_iff_eq] at h;have:=h.1
 simp [arity] at this;omega
theorem srdE_head {xs ys:List Int} {v:Int} {l:List Ex} (h:0 < l.length):srdE xs ys (.mk 3 v l)=(secB (labE xs ys l[0])||srdL xs ys l):=by
 cases l with
 | nil=>cases h
 | cons a l=>simp [srdE]
theorem srdE_tail {xs ys:List Int} {k v:Int} {l:List Ex} (h:¬k=3):srdE xs ys (.mk k v l)=srdL xs ys l:=by
 simp [srdE,h]
set_option maxHeartbeats 6400000 in
set_option maxRecDepth 100000 in
theorem l4Secret_any (xs ys:List Int) (pv pa pu:Option Addr) (cv ca nu cu:Nat):∀ (d:Nat) (A:Nat→Prop) (D:Nat) (n:En) (e:Ex) (w:World),Reads w 1 (.slice pv xs.length cv) xs.length (ints xs)→Reads w 1 (.slice pa ys.length ca) ys.length (ints ys)→ExAt w A D n e→exOk xs.length ys.length d e=true →
  Calls Try.prog 129 #[.agg #[.slice pv xs.length cv,.slice pa ys.length ca,.slice pu nu cu],.agg #[.int .i64 n.k,.int .i64 n.v,.slice n.p n.n n.c]] w fun r w'=>r=.returned (.bool (srdE xs ys e))∧Below w.heap.size w w':=by
 intro d
 induction d with
 | zero=>intro A D n e w _ _ _ h;cases h
 | succ d IH0 =>
  intro A D n e w hr hs hx r1
  cases D with
  | zero=>cases hx
  | succ D =>
   obtain ⟨ek,ev,L⟩:=e;have hn:=hx.shape;have HK:=Hi (fun W (hW:Below w.heap.size w W) j hj=>(hx.below hW).kidm j hj);have s0:=Hi (exOk_kids r1);have e3:Hid (ek=3→0 < L.length):=Hi (fun h=>by subst h;exact exOk_one r1);have i3:L.length≤9223372036854775807:=by obtain ⟨_,_,_,_,h,_⟩:=hx;exact h.2.1
   have r0:=Hi (fun W (hW:Below w.heap.size w W)=>Ai (hr.below hW) (hs.below hW));have IH:=Hi IH0;clear IH0 r1 hx hr hs;obtain ⟨nk,o0,np,d4,nc⟩:=n;simp only [Ex.k,Ex.v,Ex.kids] at hn;obtain ⟨rfl,rfl,rfl⟩:=hn;by_cases h3:nk=3
   ·skip
    subst h3;have h0:=e3.out rfl;obtain ⟨w0,x0,m0,s2,_,g3,r2,f0,f1,f2⟩:=HK.out w (Bs w) 0 h0;try simp only at s2
    subst s2;have q2:=Hi r2;clear r2;have t0:Hid (srdE xs ys (.mk 3 o0 L)=(secB (labE xs ys L[0])||srdL xs ys L)):=Hi (srdE_head h0);have d3:=Hi (fun W (hW:Below w.heap.size w W)=>l4Label_any xs ys pv pa pu cv ca nu cu d A D m0 L[0] W (r0.out _ hW).1 (r0.out _ hW).2 (q2.out.below hW) (s0.out _ (List.getElem_mem _)));clear q2;generalize labE xs ys L[0]=lv at *
    have a4:(0:Int) < (L.length:Int):=by omega
    go_enter Try.func129,Try.ntmps129
    go_upto_region 1 with (fail)
    generalize hnw:World.alloc _ _=w1;have hb:=nmh hnw;clear hnw
    have t1:=hb.size;simp only [Sa] at t1;replace f0:=Kc hb (Ac (Ac f0 _) _);replace f1:=Kc hb (Ac (Ac f1 _) _);replace f2:=Kc hb (Ac (Ac f2 _) _);have b0:=Bb (Bk.al (Bk.n3 (w.heap.size)) (.cells #[.int .i64 3,.int .i64 o0,.slice (some ⟨w0,x0,none⟩) L.length nc] 49)) hb;have g0:=Bb (Bk.n3 (w.heap.size+1)) hb;have d0:=btr (bal (bal (Bs w) (.cells #[.slice pv xs.length cv,.slice pa ys.length ca,.slice pu nu cu] 26)) (.cells #[.int .i64 3,.int .i64 o0,.slice (some ⟨w0,x0,none⟩) L.length nc] 49)) hb;clear hb;have s3:=Lc f0;have b4:=Bk.lz b0;have c4:=Bk.lz g0;refine Rgh (S:=fun W'=>W'.cell? ⟨w.heap.size+1,0,none⟩=some (.int .i64 3)∧W'.cell? ⟨w.heap.size,0,none⟩=some (.slice pv xs.length cv)∧W'.cell? ⟨w.heap.size,1,none⟩=some (.slice pa ys.length ca)∧W'.cell? ⟨w.heap.size,2,none⟩=some (.slice pu nu cu)∧W'.cell? ⟨w.heap.size+1,2,none⟩=some (.slice (some ⟨w0,x0,none⟩) L.length nc)∧W'.cell? ⟨w0,x0,none⟩=some (.int .i64 m0.k)∧W'.cell? ⟨w0,x0+1,none⟩=some (.int .i64 m0.v)∧W'.cell? ⟨w0,x0+2,none⟩=some (.slice m0.p m0.n m0.c)) (fun W d=>⟨Bk.kc g0 d 0,Bk.kc b0 d 0,Bk.kc b0 d 1,Bk.kc b0 d 2,Bk.kc g0 d 2,Kc d f0,Kc d f1,Kc d f2⟩) (fun w2 v0 hHeld=>?_);have j3:=v0.size;replace f0:=Kc v0 f0;replace f1:=Kc v0 f1;replace f2:=Kc v0 f2;replace d0:=btr d0 v0;refine (tq 0 6 rfl rfl ?_ ?_ (tq 1 7 rfl rfl ?_ ?_ (tq 2 8 rfl rfl ?_ ?_ (tq 3 9 rfl rfl ?_ ?_ ?_))));iterate 4 (rotate_left;intro W' hSw;(try dsimp only at hSw);go_simp;try with_reducible rfl)
    try simp only [Ep]
    refine (tq 4 10 rfl rfl ?_ ?_ (tq 5 11 rfl rfl ?_ ?_ (tq 6 12 rfl rfl ?_ ?_ ?_)));iterate 3 (rotate_left;intro W' hSw;(try dsimp only at hSw);go_simp;try with_reducible rfl)
    try simp only [Ep]
    refine (tq 7 13 rfl rfl ?_ ?_ (tq 8 14 rfl rfl ?_ ?_ ?_));iterate 2 (rotate_left;intro W' hSw;(try dsimp only at hSw);go_simp;try with_reducible rfl)
    try simp only [Ep]
    refine Rdy 9 rfl (fun K hK=>?_);replace b0:=Bb b0 v0;obtain ⟨z3,a2,v1,b2,x1,d2⟩:=Bk.h3 b0;replace g0:=Bb g0 v0;obtain ⟨y1,g2,z1,h2⟩:=Bk.f2 g0 0 2 rfl rfl;go_simp
    refine (d3.out _ d0).mono ?_;rintro e w3 ⟨rfl,l0⟩;have t2:=l0.size;clear a2 z3 b2 v1 d2 x1 g2 y1 h2 z1;replace f0:=Kc l0 f0;replace f1:=Kc l0 f1;replace f2:=Kc l0 f2;replace d0:=btr d0 l0;replace b0:=Bb b0 l0;replace g0:=Bb g0 l0;refine hK.out _ _ ⟨Bk.ce g0 0,Bk.ce b0 0,Bk.ce b0 1,Bk.ce b0 2,Bk.ce g0 2,f0,f1,f2⟩ (fun hHeld=>?_);clear hK K;try simp only [Ep]
    refine Rdy 10 rfl (fun K hK=>?_);go_simp
    refine (sSecret_any lv _).mono ?_;rintro e w4 ⟨rfl,i0⟩;have v2:=i0.size;replace f0:=Kc i0 f0;replace f1:=Kc i0 f1;replace f2:=Kc i0 f2;replace d0:=btr d0 i0
    cases hsec:secB lv with
    | false =>
     replace b0:=Bb b0 i0;replace g0:=Bb g0 i0;refine hK.out _ _ ⟨Bk.ce g0 0,Bk.ce b0 0,Bk.ce b0 1,Bk.ce b0 2,Bk.ce g0 2,f0,f1,f2⟩ (fun hHeld=>?_);clear hK K;try simp only [Ep]
     refine (tq 11 17 rfl rfl ?_ ?_ ?_);(rotate_left;intro W' hSw;(try dsimp only at hSw);go_simp;try with_reducible rfl)
     try simp only [Ep]
     refine Dn ?_;clear hHeld;have a1:Hid (srdE xs ys (.mk 3 o0 L)=(false||srdL xs ys L)):=Hi (by rw [t0.out,hsec]);clear t0 hsec;obtain ⟨d1,i2,g1,j2,h1,k2⟩:=Bk.h3 b0;obtain ⟨i1,l2⟩:=Bk.cf g0 2 rfl;have HC:=Hi (fun W (hW:Below w4.heap.size w4 W)=>show _∧_∧_∧_ from ⟨Kc hW d1,Kc hW g1,Kc hW h1,Kc hW i1⟩);have p1:=Hi d0;clear d0 f0 f1 f2 b0 g0 d1 i2 g1 j2 h1 k2 i1 l2;go_wp2_with fail
     go_loopw [5] (fun i wr=>∃ (k:Nat),k≤L.length∧i=.int .i64 k∧Hid (srdL xs ys (L.take k)=false)∧Below w4.heap.size w4 wr) (fun i _=>L.length-(intOf i).toNat)
     case atStart=>exact ⟨0,Nat.zero_le _,rfl,Hi rfl,Bs _⟩
     case round =>
      obtain ⟨k,hk,rfl,HX,hB⟩:=hrel;obtain ⟨c0,c1,c2,c3⟩:=HC.out _ hB;have l3:=Lc c0;have m3:=Lc c3;have a0:=btr p1.out hB;have k3:=hB.size;by_cases hlt:k < L.length
      ·have s1:(k:Int) < (L.length:Int):=by omega
       obtain ⟨kb,ko,m,hp,_,f3,hm,e0,e1,e2⟩:=HK.out wr a0 k hlt;try simp only at hp
       simp only [Option.some.injEq,Addr.mk.injEq,and_true] at hp;obtain ⟨rfl,rfl⟩:=hp;have HM:=Hi hm;have HS:Hid (srdL xs ys (L.take (k+1))=(srdL xs ys (L.take k)||srdE xs ys L[k])):=Hi (srdL_take hlt);have HY:Hid (srdE xs ys L[k]=true→srdL xs ys L=true):=Hi (srdL_yes hlt);have y0:Hid (exOk xs.length ys.length d L[k]=true):=Hi (s0.out _ (List.getElem_mem _));clear hm;generalize L[k]=y at *
       have ke:=Lc e0;have n1:=Hi (fun W (hW:Below wr.heap.size wr W)=>IH.out A D m y W (r0.out _ (btr a0 hW)).1 (r0.out _ (btr a0 hW)).2 (HM.out.below hW) y0.out);clear HM HK s0 y0;go_upto_region 6 with (fail)
       have o3:=Lc c0;have p3:=Lc c3;have q3:=Lc e0;refine Rgh (S:=fun W'=>W'.cell? ⟨w.heap.size,0,none⟩=some (.slice pv xs.length cv)∧W'.cell? ⟨w.heap.size,1,none⟩=some (.slice pa ys.length ca)∧W'.cell? ⟨w.heap.size,2,none⟩=some (.slice pu nu cu)∧W'.cell? ⟨w.heap.size+1,2,none⟩=some (.slice (some ⟨w0,x0,none⟩) L.length nc)) (fun W d=>⟨Kc d c0,Kc d c1,Kc d c2,Kc d c3⟩) (fun w5 hb hHeld=>?_);have p0:=btr (Bs wr) hb;have x2:=hb.size;replace c0:=Kc hb c0;replace c1:=Kc hb c1;replace c2:=Kc hb c2;replace c3:=Kc hb c3;replace e0:=Kc hb e0;replace e1:=Kc hb e1;replace e2:=Kc hb e2;replace d0:=btr a0 hb;clear hb;have n0:=p0;clear p0;refine (tq 0 25 rfl rfl ?_ ?_ (tq 1 26 rfl rfl ?_ ?_ (tq 2 27 rfl rfl ?_ ?_ (tq 3 28 rfl rfl ?_ ?_ (tq 4 29 rfl rfl ?_ ?_ ?_)))));iterate 5 (rotate_left;intro W' hSw;(try dsimp only at hSw);go_simp;try with_reducible rfl)
       try simp only [Ep]
       refine Rdy 5 rfl (fun K hK=>?_);go_simp
       refine hK.out _ _ ⟨c0,c1,c2,c3⟩ (fun hHeld=>?_);clear hK K;try simp only [Ep]
       refine Rdy 6 rfl (fun K hK=>?_);go_simp
       refine (n1.out _ n0).mono ?_;rintro e w6 ⟨rfl,hb⟩;have p0:=btr n0 hb;have y2:=hb.size;replace c0:=Kc hb c0;replace c1:=Kc hb c1;replace c2:=Kc hb c2;replace c3:=Kc hb c3;replace e0:=Kc hb e0;replace e1:=Kc hb e1;replace e2:=Kc hb e2;replace d0:=btr d0 hb;clear hb;clear n0;have n0:=p0;clear p0
       cases hsy:srdE xs ys y with
       | false =>
        refine hK.out _ _ ⟨c0,c1,c2,c3⟩ (fun hHeld=>?_);clear hK K;try simp only [Ep]
        refine Dn ?_;clear hHeld;have o1:Hid (srdL xs ys (L.take (k+1))=false):=Hi (by rw [HS.out,HX.out,hsy];rfl);clear HS HX HY hsy;go_wp2
        go_roundw
        case rel=>exact ⟨k+1,by omega,by go_num,o1,btr hB n0⟩
        case measure=>simp [intOf];omega
       | true =>
        refine hK.out _ _ ⟨c0,c1,c2,c3⟩ (fun hHeld=>?_);clear hK K;try simp only [Ep]
        refine Dn ?_;clear hHeld;have z0:Hid (srdE xs ys (.mk 3 o0 L)=true):=Hi (by rw [a1.out,HY.out hsy,Bool.or_true]);have tt:=d0;go_wp2
        exact bodyPost_ret (v:=.bool true) (by simp [results,Try.results129,go_sem]) rfl (by exact ⟨by rw [z0.out],btr a0 n0⟩)
      have q1:k=L.length:=by omega
      subst q1;have s1:decide (((L.length:Nat):Int) < (L.length:Int))=false:=decide_eq_false (by omega);have HR:Hid (srdE xs ys (.mk 3 o0 L)=false):=Hi (by have:=HX.out;rw [List.take_of_length_le Lr] at this;rw [a1.out,this];rfl);clear HC HX HK s0 IH r0;go_wp2
      go_ret
      exact ⟨by rw [HR.out];rfl,a0⟩
    | true =>
     replace s3:=Lc f0;replace b0:=Bb b0 i0;replace g0:=Bb g0 i0;refine hK.out _ _ ⟨Bk.ce g0 0,Bk.ce b0 0,Bk.ce b0 1,Bk.ce b0 2,Bk.ce g0 2,f0,f1,f2⟩ (fun hHeld=>?_);clear hK K;try simp only [Ep]
     refine (tq 11 17 rfl rfl ?_ ?_ ?_);(rotate_left;intro W' hSw;(try dsimp only at hSw);go_simp;try with_reducible rfl)
     try simp only [Ep]
     refine Dn ?_;clear hHeld;have z0:Hid (srdE xs ys (.mk 3 o0 L)=true):=Hi (by rw [t0.out,hsec];rfl);have tt:=d0;go_wp2
     exact bodyPost_ret (v:=.bool true) (by simp [results,Try.results129,go_sem]) rfl (by exact ⟨by rw [z0.out],tt⟩)
   skip
   have a1:Hid (srdE xs ys (.mk nk o0 L)=(false||srdL xs ys L)):=Hi (by rw [srdE_tail h3];rfl);go_enter Try.func129,Try.ntmps129
   have q8:(nk == 3)=false:=by simp [h3]
   go_upto_region 1 with (fail)
   generalize hnw:World.alloc _ _=w1;have hb:=nmh hnw;clear hnw
   have b1:=hb.size;simp only [Sa] at b1;have j0:=Bb (Bk.al (Bk.n3 (w.heap.size)) (.cells #[.int .i64 nk,.int .i64 o0,.slice np L.length nc] 49)) hb;have k0:=Bb (Bk.n3 (w.heap.size+1)) hb;have d0:=btr (bal (bal (Bs w) (.cells #[.slice pv xs.length cv,.slice pa ys.length ca,.slice pu nu cu] 26)) (.cells #[.int .i64 nk,.int .i64 o0,.slice np L.length nc] 49)) hb;clear hb;have r3:=Bk.lz j0;have t3:=Bk.lz k0;refine Rgh (S:=fun W'=>W'.cell? ⟨w.heap.size+1,0,none⟩=some (.int .i64 nk)∧W'.cell? ⟨w.heap.size,0,none⟩=some (.slice pv xs.length cv)∧W'.cell? ⟨w.heap.size,1,none⟩=some (.slice pa ys.length ca)∧W'.cell? ⟨w.heap.size,2,none⟩=some (.slice pu nu cu)∧W'.cell? ⟨w.heap.size+1,2,none⟩=some (.slice np L.length nc)) (fun W d=>⟨Bk.kc k0 d 0,Bk.kc j0 d 0,Bk.kc j0 d 1,Bk.kc j0 d 2,Bk.kc k0 d 2⟩) (fun w2 q0 hHeld=>?_);have z2:=q0.size;replace d0:=btr d0 q0;refine (tq 0 6 rfl rfl ?_ ?_ (tq 1 7 rfl rfl ?_ ?_ (tq 2 8 rfl rfl ?_ ?_ (tq 3 9 rfl rfl ?_ ?_ ?_))));iterate 4 (rotate_left;intro W' hSw;(try dsimp only at hSw);go_simp;try with_reducible rfl)
   try simp only [Ep]
   refine (tu 4 10 rfl rfl (tu 5 11 rfl rfl (tu 6 12 rfl rfl (tu 7 13 rfl rfl ?_))));try simp only [Ep]
   refine (tu 8 14 rfl rfl (tu 9 15 rfl rfl (tu 10 16 rfl rfl (tq 11 17 rfl rfl ?_ ?_ ?_))));(rotate_left;intro W' hSw;(try dsimp only at hSw);go_simp;try with_reducible rfl)
   try simp only [Ep]
   refine Dn ?_;clear hHeld;replace j0:=Bb j0 q0;obtain ⟨j1,m2,k1,n2,l1,o2⟩:=Bk.h3 j0;replace k0:=Bb k0 q0;obtain ⟨m1,p2⟩:=Bk.cf k0 2 rfl;have HC:=Hi (fun W (hW:Below w2.heap.size w2 W)=>show _∧_∧_∧_ from ⟨Kc hW j1,Kc hW k1,Kc hW l1,Kc hW m1⟩);have p1:=Hi d0;clear d0 j0 k0 j1 m2 k1 n2 l1 o2 m1 p2;go_wp2_with fail
   go_loopw [5] (fun i wr=>∃ (k:Nat),k≤L.length∧i=.int .i64 k∧Hid (srdL xs ys (L.take k)=false)∧Below w2.heap.size w2 wr) (fun i _=>L.length-(intOf i).toNat)
   case atStart=>exact ⟨0,Nat.zero_le _,rfl,Hi rfl,Bs _⟩
   case round =>
    obtain ⟨k,hk,rfl,HX,hB⟩:=hrel;obtain ⟨c0,c1,c2,c3⟩:=HC.out _ hB;have l3:=Lc c0;have m3:=Lc c3;have a0:=btr p1.out hB;have k3:=hB.size;by_cases hlt:k < L.length
    ·have s1:(k:Int) < (L.length:Int):=by omega
     obtain ⟨kb,ko,m,hp,_,f3,hm,e0,e1,e2⟩:=HK.out wr a0 k hlt;try simp only at hp
     subst hp;have HM:=Hi hm;have HS:Hid (srdL xs ys (L.take (k+1))=(srdL xs ys (L.take k)||srdE xs ys L[k])):=Hi (srdL_take hlt);have HY:Hid (srdE xs ys L[k]=true→srdL xs ys L=true):=Hi (srdL_yes hlt);have y0:Hid (exOk xs.length ys.length d L[k]=true):=Hi (s0.out _ (List.getElem_mem _));clear hm;generalize L[k]=y at *
     have ke:=Lc e0;have n1:=Hi (fun W (hW:Below wr.heap.size wr W)=>IH.out A D m y W (r0.out _ (btr a0 hW)).1 (r0.out _ (btr a0 hW)).2 (HM.out.below hW) y0.out);clear HM HK s0 y0;go_upto_region 6 with (fail)
     have v3:=Lc c0;have x3:=Lc c3;have y3:=Lc e0;refine Rgh (S:=fun W'=>W'.cell? ⟨w.heap.size,0,none⟩=some (.slice pv xs.length cv)∧W'.cell? ⟨w.heap.size,1,none⟩=some (.slice pa ys.length ca)∧W'.cell? ⟨w.heap.size,2,none⟩=some (.slice pu nu cu)∧W'.cell? ⟨w.heap.size+1,2,none⟩=some (.slice (some ⟨kb,ko,none⟩) L.length nc)∧W'.cell? ⟨kb,ko+k*3,none⟩=some (.int .i64 m.k)∧W'.cell? ⟨kb,ko+k*3+1,none⟩=some (.int .i64 m.v)∧W'.cell? ⟨kb,ko+k*3+2,none⟩=some (.slice m.p m.n m.c)) (fun W d=>⟨Kc d c0,Kc d c1,Kc d c2,Kc d c3,Kc d e0,Kc d e1,Kc d e2⟩) (fun w3 hb hHeld=>?_);have p0:=btr (Bs wr) hb;have a3:=hb.size;replace c0:=Kc hb c0;replace c1:=Kc hb c1;replace c2:=Kc hb c2;replace c3:=Kc hb c3;replace e0:=Kc hb e0;replace e1:=Kc hb e1;replace e2:=Kc hb e2;replace d0:=btr a0 hb;clear hb;have n0:=p0;clear p0;refine (tq 0 25 rfl rfl ?_ ?_ (tq 1 26 rfl rfl ?_ ?_ (tq 2 27 rfl rfl ?_ ?_ (tq 3 28 rfl rfl ?_ ?_ (tq 4 29 rfl rfl ?_ ?_ (tq 5 30 rfl rfl ?_ ?_ ?_))))));iterate 6 (rotate_left;intro W' hSw;(try dsimp only at hSw);go_simp;try with_reducible rfl)
     try simp only [Ep]
     refine Rdy 6 rfl (fun K hK=>?_);go_simp
     refine (n1.out _ n0).mono ?_;rintro e w4 ⟨rfl,hb⟩;have p0:=btr n0 hb;have b3:=hb.size;replace c0:=Kc hb c0;replace c1:=Kc hb c1;replace c2:=Kc hb c2;replace c3:=Kc hb c3;replace e0:=Kc hb e0;replace e1:=Kc hb e1;replace e2:=Kc hb e2;replace d0:=btr d0 hb;clear hb;clear n0;have n0:=p0;clear p0
     cases hsy:srdE xs ys y with
     | false =>
      refine hK.out _ _ ⟨c0,c1,c2,c3,e0,e1,e2⟩ (fun hHeld=>?_);clear hK K;try simp only [Ep]
      refine Dn ?_;clear hHeld;have o1:Hid (srdL xs ys (L.take (k+1))=false):=Hi (by rw [HS.out,HX.out,hsy];rfl);clear HS HX HY hsy;go_wp2
      go_roundw
      case rel=>exact ⟨k+1,by omega,by go_num,o1,btr hB n0⟩
      case measure=>simp [intOf];omega
     | true =>
      refine hK.out _ _ ⟨c0,c1,c2,c3,e0,e1,e2⟩ (fun hHeld=>?_);clear hK K;try simp only [Ep]
      refine Dn ?_;clear hHeld;have z0:Hid (srdE xs ys (.mk nk o0 L)=true):=Hi (by rw [a1.out,HY.out hsy,Bool.or_true]);have tt:=d0;go_wp2
      exact bodyPost_ret (v:=.bool true) (by simp [results,Try.results129,go_sem]) rfl (by exact ⟨by rw [z0.out],btr a0 n0⟩)
    have q1:k=L.length:=by omega
    subst q1;have s1:decide (((L.length:Nat):Int) < (L.length:Int))=false:=decide_eq_false (by omega);have HR:Hid (srdE xs ys (.mk nk o0 L)=false):=Hi (by have:=HX.out;rw [List.take_of_length_le Lr] at this;rw [a1.out,this];rfl);clear HC HX HK s0 IH r0;go_wp2
    go_ret
    exact ⟨by rw [HR.out];rfl,a0⟩
end Go.Proofs.Ytlckklglbodgbaa
