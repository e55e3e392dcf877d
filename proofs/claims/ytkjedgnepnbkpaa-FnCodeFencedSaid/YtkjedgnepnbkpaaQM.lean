/-
  Parts of the proofs of the laws FnCodeFenced,FnCountBranches.
-/
import Derived.Test.YtkjedgnepnbkpaaQL
set_option linter.all false
namespace Go.Proofs.Ytkjedgnepnbkpaa
open Go.RowKit
set_option maxHeartbeats 6400000 in
set_option maxRecDepth 100000 in
theorem l7Block_of (base : Nat) (A : Nat → Prop) (hA : ∀ q, A q → q < base) (d : Nat) (Hs : ∀ (D : Nat) (n : Sn) (s : St) (la fa : Option Addr) (lc fc k : Nat) (ap dep : Int) (w : World), L7 w base la fa k lc fc → base ≤ w.heap.size → k + sbd d ≤ 1000000 → StAt w A D n s → SmS d s →
      Calls Try.prog 167 #[.agg #[.slice la k lc,.slice fa k fc,.int .i64 ap],.agg #[.int .i64 n.k,.int .i64 n.t,.int .i64 n.ix.k,.int .i64 n.ix.v,.slice n.ix.p n.ix.n n.ix.c,.int .i64 n.val.k,.int .i64 n.val.v,.slice n.val.p n.val.n n.val.c,.int .i64 n.c,.slice n.bp n.bn n.bc,.slice n.ep n.en n.ec],.int .i64 dep] w fun r w'=>∃ (la' fa':Option Addr) (lc' fc' k':Nat) (ap':Int),r=.returned (.agg #[.slice la' k' lc',.slice fa' k' fc',.int .i64 ap'])∧L7 w' base la' fa' k' lc' fc'∧(∀ q,L7B la' fa' q→L7B la fa q∨w.heap.size≤q)∧k≤k'∧k'≤k+sbd d∧Chg (fun q=>L7B la fa q) w w')
    (D:Nat) (a:Option Addr) (c:Nat) (L:List St) (la fa:Option Addr) (lc fc k:Nat) (ap dep:Int) (w:World) (hL:L7 w base la fa k lc fc) (hb:base≤w.heap.size) (hk:k+L.length*sbd d≤1000000) (hx:BlAt w A D (.slice a L.length c) L) (hs:∀ x ∈ L,SmS d x) :
    Calls Try.prog 162 #[.agg #[.slice la k lc,.slice fa k fc,.int .i64 ap],.slice a L.length c,.int .i64 dep] w fun r w'=>∃ (la' fa':Option Addr) (lc' fc' k':Nat) (ap':Int),r=.returned (.agg #[.slice la' k' lc',.slice fa' k' fc',.int .i64 ap'])∧L7 w' base la' fa' k' lc' fc'∧(∀ q,L7B la' fa' q→L7B la fa q∨w.heap.size≤q)∧k≤k'∧k'≤k+L.length*sbd d∧Chg (fun q=>L7B la fa q) w w':=by
  have s2:L.length≤9223372036854775807:=by obtain ⟨_,_,h,_⟩:=hx;exact h.2.1
  have HX:=Lib.hid (fun W (hD:Chg (fun q=>L7B la fa q) w W) j (hj:j < L.length)=>(hx.keep hD (fun q hq _ h=>by have:=hA q hq;have:=hL.lt q h;omega) (fun _ h _=>h) (Nat.le_refl _)).stmt j hj)
  have HT:=Lib.hid hs;clear hs hx
  have n2:=Lib.hid Hs;clear Hs
  have j2:=Lib.hid (fun j (hj:j < L.length)=>(Nat.mul_le_mul_right (sbd d) (by omega:j+1≤L.length)))
  have l2:=Lib.hid (fun j=>show (j+1)*sbd d=j*sbd d+sbd d from Nat.succ_mul j _)
  have HK:=Lib.hid hk;clear hk
  generalize hSB:sbd d=SB at *
  clear hSB
  have c2:∀ q,L7B la fa q→(q < w.heap.size∨w.heap.size+2≤q)∧q < w.heap.size∧base≤q:=fun q h=>by have:=hL.lt q h;omega
  have u1:∀ q,L7B la fa q→L7B la fa q∨w.heap.size≤q:=fun q h=>Or.inl h
  have hD:Chg (fun q=>L7B la fa q) w w:=Chg.refl _ _
  have oL:=hL;clear hL
  go_enter Try.func162,Try.ntmps162
  go_upto_region 1 with (fail)
  obtain ⟨w1,q0,hb⟩:=nmw (World.alloc (World.alloc w (.cells #[.slice la k lc,.slice fa k fc,.int .i64 ap] 155)) (.cells #[.slice none 0 0,.slice none 0 0,.int .i64 0] 155))
  have h0:=((hD.trans (Chg.of_below (bal (Bs _) (.cells #[.slice la k lc,.slice fa k fc,.int .i64 ap] 155)))).trans (Chg.of_below (bal (Bs _) (.cells #[.slice none 0 0,.slice none 0 0,.int .i64 0] 155)))).trans (Chg.of_below hb)
  have y0:=hb.size
  simp only [Sa] at y0
  replace oL:=((oL.below (bal (Bs _) _)).below (bal (Bs _) _)).below hb
  have w0:Bk w1 (w.heap.size) [.slice la k lc,.slice fa k fc,.int .i64 ap]:=Bk.below (Bk.al (Bk.nw (by simp) rfl) (.cells #[.slice none 0 0,.slice none 0 0,.int .i64 0] 155)) hb
  have x0:Bk w1 (w.heap.size+1) [.slice none 0 0,.slice none 0 0,.int .i64 0]:=Bk.below (Bk.nw (by simp) rfl) hb
  clear hb
  clear hD
  have hD:=h0;clear h0
  rw [← q0]
  clear q0
  have k4:=Bk.lz w0
  have l4:=Bk.lz x0
  have p1:Hid (∃ (j:Nat) (c0 b0:Option Addr) (j0 g0 k1:Nat) (l0:Int),j≤L.length∧Value.int .i64 0=.int .i64 j∧Bk w1 (w.heap.size) [.slice c0 k1 j0,.slice b0 k1 g0,.int .i64 l0]∧Bk w1 (w.heap.size+1) [.slice none 0 0,.slice none 0 0,.int .i64 0]∧L7 w1 base c0 b0 k1 j0 g0∧(∀ q,L7B c0 b0 q→L7B la fa q∨w.heap.size≤q)∧(∀ q,L7B c0 b0 q→(q < w.heap.size∨w.heap.size+2≤q)∧q < w1.heap.size∧base≤q)∧k≤k1∧k1≤k+j*SB∧Chg (fun q=>L7B la fa q) w w1∧w1.heap.size≤w1.heap.size):=Lib.hid ⟨0,la,fa,lc,fc,k,ap,Nat.zero_le _,rfl,w0,x0,oL,u1,fun q h=>by have:=c2 q h;omega,Nat.le_refl _,by omega,hD,Nat.le_refl _⟩
  have v2:w.heap.size+2≤w1.heap.size:=by omega
  clear hD c2 u1 oL w0 x0
  go_wp2_with fail
  go_loopw [7] (fun i wr=>∃ (j:Nat) (c0 b0:Option Addr) (j0 g0 k1:Nat) (l0:Int),j≤L.length∧i=.int .i64 j∧Bk wr (w.heap.size) [.slice c0 k1 j0,.slice b0 k1 g0,.int .i64 l0]∧Bk wr (w.heap.size+1) [.slice none 0 0,.slice none 0 0,.int .i64 0]∧L7 wr base c0 b0 k1 j0 g0∧(∀ q,L7B c0 b0 q→L7B la fa q∨w.heap.size≤q)∧(∀ q,L7B c0 b0 q→(q < w.heap.size∨w.heap.size+2≤q)∧q < wr.heap.size∧base≤q)∧k≤k1∧k1≤k+j*SB∧Chg (fun q=>L7B la fa q) w wr∧w1.heap.size≤wr.heap.size) (fun i _=>L.length-(intOf i).toNat)
  case atStart=>exact p1.out
  case round =>
    obtain ⟨j,c0,b0,j0,g0,k1,l0,hj,rfl,d0,i0,oL,u0,a0,b4,x1,hD,j4⟩:=hrel
    clear p1
    have x2:=Bk.lz d0
    have y2:=Bk.lz i0
    by_cases hlt:j < L.length
    · have h4:(j:Int) < (L.length:Int):=by omega
      obtain ⟨kb,ko,a4,m,hp,q1,g4,hm,f0⟩:=HX.out wr hD j hlt
      have f4:=hA kb q1;clear q1
      have b2:=HT.out _ (List.getElem_mem hlt)
      have o2:=Lib.hid b2;clear b2
      simp only [Value.slice.injEq,true_and] at hp
      obtain ⟨rfl,rfl⟩:=hp
      have e0:wr.cell? ⟨kb,ko+j*11,none⟩=some (.int .i64 m.k):=by have h:=f0 0 (by omega);exact h
      have e1:wr.cell? ⟨kb,ko+j*11+1,none⟩=some (.int .i64 m.t):=by have h:=f0 1 (by omega);rw [← Nat.add_assoc] at h;exact h
      have e2:wr.cell? ⟨kb,ko+j*11+2,none⟩=some (.int .i64 m.ix.k):=by have h:=f0 2 (by omega);rw [← Nat.add_assoc] at h;exact h
      have e3:wr.cell? ⟨kb,ko+j*11+3,none⟩=some (.int .i64 m.ix.v):=by have h:=f0 3 (by omega);rw [← Nat.add_assoc] at h;exact h
      have e4:wr.cell? ⟨kb,ko+j*11+4,none⟩=some (.slice m.ix.p m.ix.n m.ix.c):=by have h:=f0 4 (by omega);rw [← Nat.add_assoc] at h;exact h
      have e5:wr.cell? ⟨kb,ko+j*11+5,none⟩=some (.int .i64 m.val.k):=by have h:=f0 5 (by omega);rw [← Nat.add_assoc] at h;exact h
      have e6:wr.cell? ⟨kb,ko+j*11+6,none⟩=some (.int .i64 m.val.v):=by have h:=f0 6 (by omega);rw [← Nat.add_assoc] at h;exact h
      have e7:wr.cell? ⟨kb,ko+j*11+7,none⟩=some (.slice m.val.p m.val.n m.val.c):=by have h:=f0 7 (by omega);rw [← Nat.add_assoc] at h;exact h
      have e8:wr.cell? ⟨kb,ko+j*11+8,none⟩=some (.int .i64 m.c):=by have h:=f0 8 (by omega);rw [← Nat.add_assoc] at h;exact h
      have e9:wr.cell? ⟨kb,ko+j*11+9,none⟩=some (.slice m.bp m.bn m.bc):=by have h:=f0 9 (by omega);rw [← Nat.add_assoc] at h;exact h
      have k0:wr.cell? ⟨kb,ko+j*11+10,none⟩=some (.slice m.ep m.en m.ec):=by have h:=f0 10 (by omega);rw [← Nat.add_assoc] at h;exact h
      clear f0
      generalize L[j]=y at *
      have t2:=j2.out j hlt;have z1:=l2.out j;have r2:k1+SB≤1000000:=by have:=HK.out;omega
      have i2:=Lib.hid z1;clear t2 z1
      have f2:=Lib.hid (fun W (hW:Below wr.heap.size wr W) la fa lc fc k ap h1 h2 h3=>n2.out D m y la fa lc fc k ap dep W h1 h2 h3 (StAt.keep (S:=fun _=>False) (Chg.of_below hW) (fun _ _ _=>id) (fun _ h _=>h) (Nat.le_refl _) hm) o2.out)
      clear hm
      go_upto_region 4 with (fail)
      have z2:=Lc e0
      refine wp_region_noPanic ?_
      refine wp_region_held_drew (S:=(fun W'=>W'.cell? ⟨kb,ko+j*11,none⟩=some (.int .i64 m.k)∧W'.cell? ⟨kb,ko+j*11+1,none⟩=some (.int .i64 m.t)∧W'.cell? ⟨kb,ko+j*11+2,none⟩=some (.int .i64 m.ix.k)∧W'.cell? ⟨kb,ko+j*11+3,none⟩=some (.int .i64 m.ix.v)∧W'.cell? ⟨kb,ko+j*11+4,none⟩=some (.slice m.ix.p m.ix.n m.ix.c)∧W'.cell? ⟨kb,ko+j*11+5,none⟩=some (.int .i64 m.val.k)∧W'.cell? ⟨kb,ko+j*11+6,none⟩=some (.int .i64 m.val.v)∧W'.cell? ⟨kb,ko+j*11+7,none⟩=some (.slice m.val.p m.val.n m.val.c)∧W'.cell? ⟨kb,ko+j*11+8,none⟩=some (.int .i64 m.c)∧W'.cell? ⟨kb,ko+j*11+9,none⟩=some (.slice m.bp m.bn m.bc)∧W'.cell? ⟨kb,ko+j*11+10,none⟩=some (.slice m.ep m.en m.ec))) (by kernel_rfl) ⟨Kc (Below.drew (Bs wr)) e0,Kc (Below.drew (Bs wr)) e1,Kc (Below.drew (Bs wr)) e2,Kc (Below.drew (Bs wr)) e3,Kc (Below.drew (Bs wr)) e4,Kc (Below.drew (Bs wr)) e5,Kc (Below.drew (Bs wr)) e6,Kc (Below.drew (Bs wr)) e7,Kc (Below.drew (Bs wr)) e8,Kc (Below.drew (Bs wr)) e9,Kc (Below.drew (Bs wr)) k0⟩ (fun hHeld=>?_)
      obtain ⟨w2,z0⟩:∃ X,X=World.drew wr:=⟨_,rfl⟩
      rw [← z0] at hHeld ⊢
      have hb:Below wr.heap.size wr w2:=by rw [z0];exact Below.drew (Bs _)
      clear z0
      have s1:=btr (Bs wr) hb
      have h0:=hD.trans (Chg.of_below hb)
      have u2:=hb.size
      replace oL:=oL.below hb
      replace e0:=Kc hb e0
      replace e1:=Kc hb e1
      replace e2:=Kc hb e2
      replace e3:=Kc hb e3
      replace e4:=Kc hb e4
      replace e5:=Kc hb e5
      replace e6:=Kc hb e6
      replace e7:=Kc hb e7
      replace e8:=Kc hb e8
      replace e9:=Kc hb e9
      replace k0:=Kc hb k0
      replace d0:=Bk.below d0 hb
      replace i0:=Bk.below i0 hb
      clear hb
      clear hD
      have hD:=h0;clear h0
      have p2:=s1;clear s1
      refine (tq 1 15 rfl rfl ?_ ?_ (tq 2 16 rfl rfl ?_ ?_ (tq 3 17 rfl rfl ?_ ?_ (tq 4 18 rfl rfl ?_ ?_ (tq 5 19 rfl rfl ?_ ?_ ?_)))))
      iterate 5 (rotate_left;intro W' hSw;(try dsimp only at hSw);go_simp;try with_reducible rfl)
      try simp only [Ep]
      refine Rdy 0 rfl (fun K hK=>?_)
      obtain ⟨a1,i1,b1,j1,c1,l1⟩:=Bk.f3 d0 0 1 2 rfl rfl rfl
      go_simp
      replace x2:=Bk.lz d0
      replace y2:=Bk.lz i0
      replace z2:=Lc e0
      refine hK.out _ _ ⟨e0,e1,e2,e3,e4,e5,e6,e7,e8,e9,k0⟩ (fun hHeld=>?_)
      clear hK K
      try simp only [Ep]
      refine Rdy 6 rfl (fun K hK=>?_)
      go_simp
      refine (f2.out _ p2 _ _ _ _ k1 _ oL (by omega) r2).mono ?_
      rintro e w3 ⟨n0,m0,s0,p0,k2,o0,rfl,t1,t0,c4,d4,hb⟩
      have h0:=chg_app hD hb (fun q hq h=>by rcases u0 q h with h1 | h1;exact h1;omega)
      have a2:=hb.size
      clear i1 a1 j1 b1 l1 c1
      replace e0:=Gc hb e0 (fun h=>by have:=a0 _ h;omega)
      replace e1:=Gc hb e1 (fun h=>by have:=a0 _ h;omega)
      replace e2:=Gc hb e2 (fun h=>by have:=a0 _ h;omega)
      replace e3:=Gc hb e3 (fun h=>by have:=a0 _ h;omega)
      replace e4:=Gc hb e4 (fun h=>by have:=a0 _ h;omega)
      replace e5:=Gc hb e5 (fun h=>by have:=a0 _ h;omega)
      replace e6:=Gc hb e6 (fun h=>by have:=a0 _ h;omega)
      replace e7:=Gc hb e7 (fun h=>by have:=a0 _ h;omega)
      replace e8:=Gc hb e8 (fun h=>by have:=a0 _ h;omega)
      replace e9:=Gc hb e9 (fun h=>by have:=a0 _ h;omega)
      replace k0:=Gc hb k0 (fun h=>by have:=a0 _ h;omega)
      replace d0:=Bk.keep d0 hb (fun h=>by have:=a0 _ h;omega)
      replace i0:=Bk.keep i0 hb (fun h=>by have:=a0 _ h;omega)
      clear hb
      clear hD
      have hD:=h0;clear h0
      try simp only [Sa,Ss] at t0
      clear oL
      have oL:=t1;clear t1
      have q2:∀ q,L7B n0 m0 q→L7B la fa q∨w.heap.size≤q:=fun q h=>by rcases t0 q h with h1 | h1;exact u0 q h1;exact Or.inr (by omega)
      have v0:∀ q,L7B n0 m0 q→(q < w.heap.size∨w.heap.size+2≤q)∧q < w3.heap.size∧base≤q:=fun q h=>by have h2:=oL.lt q h;rcases t0 q h with h1 | h1;(have:=a0 q h1;omega);omega
      clear t0 a0 u0
      refine hK.out _ _ ⟨e0,e1,e2,e3,e4,e5,e6,e7,e8,e9,k0⟩ (fun hHeld=>?_)
      clear hK K
      try simp only [Ep]
      refine Rdy 7 rfl (fun K hK=>?_)
      obtain ⟨d1,m1,f1,n1,g1,o1⟩:=Bk.f3 d0 0 1 2 rfl rfl rfl
      go_simp
      obtain ⟨w4,q0,hb⟩:=nmw (World.setCell (World.setCell (World.setCell w3 ⟨w.heap.size,0,none⟩ (.slice n0 k2 s0)) ⟨w.heap.size,1,none⟩ (.slice m0 k2 p0)) ⟨w.heap.size,2,none⟩ (.int .i64 o0))
      have h0:=(((hD.sN (w.heap.size) 0 (.slice n0 k2 s0)).sN (w.heap.size) 1 (.slice m0 k2 p0)).sN (w.heap.size) 2 (.int .i64 o0)).trans (Chg.of_below hb)
      have r0:=hb.size
      simp only [Ss] at r0
      clear m1 d1 n1 f1 o1 g1
      replace oL:=(((oL.keep (C1 _ _ _) (fun gq h h2=>by have:=v0 gq h;omega)).keep (C1 _ _ _) (fun gq h h2=>by have:=v0 gq h;omega)).keep (C1 _ _ _) (fun gq h h2=>by have:=v0 gq h;omega)).below hb
      replace e0:=Kc hb (Nn (Nn (Nn e0 _) _) _)
      replace e1:=Kc hb (Nn (Nn (Nn e1 _) _) _)
      replace e2:=Kc hb (Nn (Nn (Nn e2 _) _) _)
      replace e3:=Kc hb (Nn (Nn (Nn e3 _) _) _)
      replace e4:=Kc hb (Nn (Nn (Nn e4 _) _) _)
      replace e5:=Kc hb (Nn (Nn (Nn e5 _) _) _)
      replace e6:=Kc hb (Nn (Nn (Nn e6 _) _) _)
      replace e7:=Kc hb (Nn (Nn (Nn e7 _) _) _)
      replace e8:=Kc hb (Nn (Nn (Nn e8 _) _) _)
      replace e9:=Kc hb (Nn (Nn (Nn e9 _) _) _)
      replace k0:=Kc hb (Nn (Nn (Nn k0 _) _) _)
      replace d0:Bk w4 (w.heap.size) [.slice n0 k2 s0,.slice m0 k2 p0,.int .i64 o0]:=Bk.below (Bk.at (Bk.at (Bk.at d0 0 (.slice n0 k2 s0)) 1 (.slice m0 k2 p0)) 2 (.int .i64 o0)) hb
      replace i0:=Bk.below (Bk.nn (Bk.nn (Bk.nn i0 _) _) _) hb
      clear hb
      clear hD
      have hD:=h0;clear h0
      rw [← q0]
      clear q0
      refine hK.out _ _ ⟨e0,e1,e2,e3,e4,e5,e6,e7,e8,e9,k0⟩ (fun hHeld=>?_)
      clear hK K
      try simp only [Ep]
      refine Dn ?_
      clear hHeld
      have HH:=Lib.hid (And.intro oL hD);clear oL hD
      obtain ⟨a3,n3,b3,o3,c3,p3⟩:=Bk.f3 d0 0 1 2 rfl rfl rfl
      go_wp2
      go_roundw
      case rel=>exact ⟨j+1,n0,m0,s0,p0,k2,o0,by omega,by go_num,d0,i0,HH.out.1,q2,fun q h=>by have:=v0 q h;omega,by omega,by have:=i2.out;omega,HH.out.2,by omega⟩
      case measure=>simp [intOf];omega
    have v1:j=L.length:=by omega
    have y1:k1≤k+L.length*SB:=by rw [← v1];exact x1
    have i4:¬(j:Int) < (L.length:Int):=by omega
    have g2:=Lib.hid y1;clear x1 v1 y1
    obtain ⟨d3,q3,i3,r3,j3,s3⟩:=Bk.f3 d0 0 1 2 rfl rfl rfl
    obtain ⟨k3,t3,l3,u3,m3,v3⟩:=Bk.f3 i0 0 1 2 rfl rfl rfl
    have r1:=(Bk.at (Bk.at (Bk.at i0 0 (.slice c0 k1 j0)) 1 (.slice b0 k1 g0)) 2 (.int .i64 l0))
    obtain ⟨x3,y3,z3⟩:=Bk.g3 r1
    clear r1
    have d2:=Lib.hid (((hD.sN (w.heap.size+1) 0 (.slice c0 k1 j0)).sN (w.heap.size+1) 1 (.slice b0 k1 g0)).sN (w.heap.size+1) 2 (.int .i64 l0))
    have m2:=Lib.hid (((oL.keep (C1 (w.heap.size+1) 0 (.slice c0 k1 j0)) (fun gq h h2=>by have:=a0 gq h;omega)).keep (C1 (w.heap.size+1) 1 (.slice b0 k1 g0)) (fun gq h h2=>by have:=a0 gq h;omega)).keep (C1 (w.heap.size+1) 2 (.int .i64 l0)) (fun gq h h2=>by have:=a0 gq h;omega))
    clear hD oL
    go_wp2
    exact bodyPost_ret (v:=.agg #[.slice c0 k1 j0,.slice b0 k1 g0,.int .i64 l0]) (by simp [results,Try.results162,go_sem,x3,y3,z3]) rfl (by exact ⟨c0,b0,j0,g0,k1,⟨l0,rfl⟩,m2.out,u0,by omega,g2.out,d2.out⟩)
theorem l7Both (base:Nat) (A:Nat→Prop) (hA:∀ q,A q→q < base):∀ (d:Nat),(∀ (D:Nat) (n:Sn) (s:St) (la fa:Option Addr) (lc fc k:Nat) (ap dep:Int) (w:World),L7 w base la fa k lc fc→base≤w.heap.size→k+sbd d≤1000000→StAt w A D n s→SmS d s→Calls Try.prog 167 #[.agg #[.slice la k lc,.slice fa k fc,.int .i64 ap],.agg #[.int .i64 n.k,.int .i64 n.t,.int .i64 n.ix.k,.int .i64 n.ix.v,.slice n.ix.p n.ix.n n.ix.c,.int .i64 n.val.k,.int .i64 n.val.v,.slice n.val.p n.val.n n.val.c,.int .i64 n.c,.slice n.bp n.bn n.bc,.slice n.ep n.en n.ec],.int .i64 dep] w fun r w'=>∃ (la' fa':Option Addr) (lc' fc' k':Nat) (ap':Int),r=.returned (.agg #[.slice la' k' lc',.slice fa' k' fc',.int .i64 ap'])∧L7 w' base la' fa' k' lc' fc'∧(∀ q,L7B la' fa' q→L7B la fa q∨w.heap.size≤q)∧k≤k'∧k'≤k+sbd d∧Chg (fun q=>L7B la fa q) w w')∧(∀ (D:Nat) (a:Option Addr) (c:Nat) (L:List St) (la fa:Option Addr) (lc fc k:Nat) (ap dep:Int) (w:World),L7 w base la fa k lc fc→base≤w.heap.size→k+L.length*sbd d≤1000000→BlAt w A D (.slice a L.length c) L→(∀ x ∈ L,SmS d x)→Calls Try.prog 162 #[.agg #[.slice la k lc,.slice fa k fc,.int .i64 ap],.slice a L.length c,.int .i64 dep] w fun r w'=>∃ (la' fa':Option Addr) (lc' fc' k':Nat) (ap':Int),r=.returned (.agg #[.slice la' k' lc',.slice fa' k' fc',.int .i64 ap'])∧L7 w' base la' fa' k' lc' fc'∧(∀ q,L7B la' fa' q→L7B la fa q∨w.heap.size≤q)∧k≤k'∧k'≤k+L.length*sbd d∧Chg (fun q=>L7B la fa q) w w'):=by
  intro d
  induction d with
  | zero =>
    have hs:(∀ (D:Nat) (n:Sn) (s:St) (la fa:Option Addr) (lc fc k:Nat) (ap dep:Int) (w:World),L7 w base la fa k lc fc→base≤w.heap.size→k+sbd 0≤1000000→StAt w A D n s→SmS 0 s→Calls Try.prog 167 #[.agg #[.slice la k lc,.slice fa k fc,.int .i64 ap],.agg #[.int .i64 n.k,.int .i64 n.t,.int .i64 n.ix.k,.int .i64 n.ix.v,.slice n.ix.p n.ix.n n.ix.c,.int .i64 n.val.k,.int .i64 n.val.v,.slice n.val.p n.val.n n.val.c,.int .i64 n.c,.slice n.bp n.bn n.bc,.slice n.ep n.en n.ec],.int .i64 dep] w fun r w'=>∃ (la' fa':Option Addr) (lc' fc' k':Nat) (ap':Int),r=.returned (.agg #[.slice la' k' lc',.slice fa' k' fc',.int .i64 ap'])∧L7 w' base la' fa' k' lc' fc'∧(∀ q,L7B la' fa' q→L7B la fa q∨w.heap.size≤q)∧k≤k'∧k'≤k+sbd 0∧Chg (fun q=>L7B la fa q) w w'):=fun D n s la fa lc fc k ap dep w _ _ _ _ h=>h.elim
    exact ⟨hs,fun D a c L la fa lc fc k ap dep w h1 h2 h3 h4 h5=>l7Block_of base A hA 0 hs D a c L la fa lc fc k ap dep w h1 h2 h3 h4 h5⟩
  | succ d ih =>
    have hs:(∀ (D:Nat) (n:Sn) (s:St) (la fa:Option Addr) (lc fc k:Nat) (ap dep:Int) (w:World),L7 w base la fa k lc fc→base≤w.heap.size→k+sbd (d+1)≤1000000→StAt w A D n s→SmS (d+1) s→Calls Try.prog 167 #[.agg #[.slice la k lc,.slice fa k fc,.int .i64 ap],.agg #[.int .i64 n.k,.int .i64 n.t,.int .i64 n.ix.k,.int .i64 n.ix.v,.slice n.ix.p n.ix.n n.ix.c,.int .i64 n.val.k,.int .i64 n.val.v,.slice n.val.p n.val.n n.val.c,.int .i64 n.c,.slice n.bp n.bn n.bc,.slice n.ep n.en n.ec],.int .i64 dep] w fun r w'=>∃ (la' fa':Option Addr) (lc' fc' k':Nat) (ap':Int),r=.returned (.agg #[.slice la' k' lc',.slice fa' k' fc',.int .i64 ap'])∧L7 w' base la' fa' k' lc' fc'∧(∀ q,L7B la' fa' q→L7B la fa q∨w.heap.size≤q)∧k≤k'∧k'≤k+sbd (d+1)∧Chg (fun q=>L7B la fa q) w w'):=fun D n s la fa lc fc k ap dep w h1 h2 h3 h4 h5=>l7Stmt_of base A hA d ih.2 D n s la fa lc fc k ap dep w h1 h2 h3 h4 h5
    exact ⟨hs,fun D a c L la fa lc fc k ap dep w h1 h2 h3 h4 h5=>l7Block_of base A hA (d+1) hs D a c L la fa lc fc k ap dep w h1 h2 h3 h4 h5⟩
end Go.Proofs.Ytkjedgnepnbkpaa
