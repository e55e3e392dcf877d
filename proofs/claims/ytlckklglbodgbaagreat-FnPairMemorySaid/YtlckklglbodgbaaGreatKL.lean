/-
 Parts of the proofs of the laws FnPairMemory,FnSplitMemory.
-/
import Derived.Test.YtlckklglbodgbaaGreatKB
import Derived.Test.YtlckklglbodgbaaGreatGC
set_option maxHeartbeats 12800000
set_option maxRecDepth 100000
set_option linter.all false
namespace Go.Proofs.YtlckklglbodgbaaGreat
open Go.RowKit
theorem l2Ints_d (va vb:Value) (xs ys:List Int) (w:World) (ha:Reads w 1 va xs.length (ints xs)) (hb:Reads w 1 vb ys.length (ints ys)) :
  Calls Tryz.prog 135 #[va,vb] w fun e w'=>e=.returned (.bool (decide (xs=ys)))∧∃ k,w'=w.drewN k:=by
 obtain ⟨_,hn,a,g0,b,i0,rfl,f0,ha,a0⟩:=ha;obtain ⟨_,hn',a',cap',b',off',rfl,hcap',ha',b0⟩:=hb;by_cases hl:xs.length=ys.length
 ·have e0:((xs.length:Int) != (ys.length:Int))=false:=by simp [hl]
  have HL:=Hi hl;clear hl;go_enter Tryz.func135,Tryz.ntmps135
  go_wp2
  go_loopw [5] (fun i wr=>∃ k:Nat,k≤xs.length∧i=.int .i64 k∧xs.take k=ys.take k∧∃ d,wr=w.drewN d) (fun i _=>xs.length-(intOf i).toNat)
  case atStart=>exact ⟨0,Nat.zero_le _,rfl,rfl,0,rfl⟩
  case round =>
   obtain ⟨k,hk,rfl,he,d,rfl⟩:=hrel;have HE:=Hi he;clear he;by_cases hlt:k < xs.length
   ·obtain ⟨rfl,h0⟩:=ha (by omega);obtain ⟨rfl,hbs'⟩:=ha' (by have:=HL.out;omega);have hlt':k < ys.length:=by have:=HL.out;omega
    have c0:=a0 k (by simpa [ints] using hlt);have d0:=b0 k (by simpa [ints] using hlt');rw [ints_get] at c0 d0;clear a0 b0 ha ha';by_cases hxy:xs[k]=ys[k]
    ·have e1:(xs[k] != ys[k])=false:=by simp [hxy]
     clear hxy;go_wp2
     go_quiet (fail)
     go_wp2
     go_roundw
     case rel=>exact ⟨k+1,by omega,by go_num,take_succ_eq hlt hlt' HE.out (by simpa using e1),_,rfl⟩
     case measure=>simp [intOf];omega
    have e1:(xs[k] != ys[k])=true:=by simp [hxy]
    have HX:=Hi hxy;clear hxy;go_wp2
    go_quiet (fail)
    go_wp2
    go_ret
    exact ⟨ret_bool (decide_eq_false (fun h=>HX.out (by subst h;rfl))).symm,_,World.drewN_drewN ..⟩
   go_wp2
   go_ret
   exact ⟨ret_bool (decide_eq_true (by have h:=HE.out;rwa [List.take_of_length_le (by omega),List.take_of_length_le (by have:=HL.out;omega)] at h)).symm,_,rfl⟩
 have e0:((xs.length:Int) != (ys.length:Int))=true:=by simp;omega
 have HL:=Hi hl;clear hl;go_enter Tryz.func135,Tryz.ntmps135
 go_wp2
 go_ret
 exact ⟨ret_bool (decide_eq_false (fun h=>HL.out (by rw [h]))).symm,0,rfl⟩
theorem l2Ints_any (va vb:Value) (xs ys:List Int) (w:World) (ha:Reads w 1 va xs.length (ints xs)) (hb:Reads w 1 vb ys.length (ints ys)) :
  Calls Tryz.prog 135 #[va,vb] w fun e w'=>e=.returned (.bool (decide (xs=ys)))∧Below w.heap.size w w':=
 (l2Ints_d va vb xs ys w ha hb).mono fun _ _ ⟨h,k,hk⟩=>⟨h,hk ▸ below_drewN' w k⟩
def TruP (w:World) (e:Ending) (w':World):Prop:=e=.returned (.bool true)∧Below w.heap.size w w'
theorem exprSame_any (B B':Nat→Prop):∀ (D:Nat) (n m:En) (e:Ex) (w:World),ExAt w B D n e→ExAt w B' D m e→Calls Tryz.prog 142 #[.agg #[.int .i64 n.k,.int .i64 n.v,.slice n.p n.n n.c],.agg #[.int .i64 m.k,.int .i64 m.v,.slice m.p m.n m.c]] w fun r w'=>TruP w r w':=by
 intro D
 induction D with
 | zero=>intro n m e w h;cases h
 | succ D IH0 =>
  intro n m e w hx hy;obtain ⟨ek,ev,L⟩:=e;have hn:=hx.shape;have hm:=hy.shape;have HX:=Hi (fun W (hW:Below w.heap.size w W) j hj=>(hx.below hW).kidm j hj);have HY:=Hi (fun W (hW:Below w.heap.size w W) j hj=>(hy.below hW).kidm j hj);have v0:L.length≤9223372036854775807:=by obtain ⟨_,_,_,_,h,_⟩:=hx;exact h.2.1
  have IH:=Hi IH0;clear IH0 hx hy;obtain ⟨nk,o1,np,n1,nc⟩:=n;obtain ⟨mk,k0,mp,m1,mc⟩:=m;simp only [Ex.k,Ex.v,Ex.kids] at hn hm;obtain ⟨rfl,rfl,rfl⟩:=hn;obtain ⟨rfl,rfl,rfl⟩:=hm;go_enter Tryz.func142,Tryz.ntmps142
  go_upto_region 3 with (fail)
  generalize hnw:World.alloc _ _=w1;have hb:=nmh hnw;clear hnw
  have j0:=hb.size;simp only [Sa] at j0;have h0:=Bb (Bk.al (Bk.n3 (w.heap.size)) (.cells #[.int .i64 mk,.int .i64 k0,.slice mp L.length mc] 73)) hb;have i0:=Bb (Bk.n3 (w.heap.size+1)) hb;have g0:=btr (bal (bal (Bs w) (.cells #[.int .i64 mk,.int .i64 k0,.slice np L.length nc] 73)) (.cells #[.int .i64 mk,.int .i64 k0,.slice mp L.length mc] 73)) hb;clear hb;have k1:=Bk.lz h0;have l1:=Bk.lz i0;obtain ⟨p0,b1⟩:=Bk.cf h0 2 rfl;obtain ⟨q0,f1⟩:=Bk.cf i0 2 rfl;have HC:=Hi (fun W (hW:Below w1.heap.size w1 W)=>Ai (Kc hW p0) (Kc hW q0));have s0:=Hi g0;clear g0 h0 i0 p0 b1 q0 f1;go_wp2_with fail
  go_loopw [5] (fun i wr=>∃ k:Nat,k≤L.length∧i=.int .i64 k∧Below w1.heap.size w1 wr) (fun i _=>L.length-(intOf i).toNat)
  case atStart=>exact ⟨0,Nat.zero_le _,rfl,Bs _⟩
  case round =>
   obtain ⟨k,hk,rfl,hB⟩:=hrel;obtain ⟨c0,c1⟩:=HC.out _ hB;have i1:=Lc c0;have j1:=Lc c1;have a0:=btr s0.out hB;by_cases hlt:k < L.length
   ·have w0:(k:Int) < (L.length:Int):=by omega
    obtain ⟨kb,ko,x,hp,_,h1,l0,e0,e1,e2⟩:=HX.out wr a0 k hlt;obtain ⟨jb,jo,y,hq,_,g1,m0,d0,d1,d2⟩:=HY.out wr a0 k hlt;try simp only at hp hq
    subst hp hq;generalize L[k]=z at *
    have r0:=Hi (fun W (hW:Below wr.heap.size wr W)=>IH.out x y z W (l0.below hW) (m0.below hW));clear l0 m0;have ke:=Lc e0;have kd:=Lc d0;go_upto_region 6 with (fail)
    have x0:=Lc c0;have y0:=Lc c1;have z0:=Lc e0;have a1:=Lc d0;refine Rgh (S:=fun W'=>W'.cell? ⟨w.heap.size,2,none⟩=some (.slice (some ⟨kb,ko,none⟩) L.length nc)∧W'.cell? ⟨kb,ko+k*3,none⟩=some (.int .i64 x.k)∧W'.cell? ⟨kb,ko+k*3+1,none⟩=some (.int .i64 x.v)∧W'.cell? ⟨kb,ko+k*3+2,none⟩=some (.slice x.p x.n x.c)∧W'.cell? ⟨w.heap.size+1,2,none⟩=some (.slice (some ⟨jb,jo,none⟩) L.length mc)∧W'.cell? ⟨jb,jo+k*3,none⟩=some (.int .i64 y.k)∧W'.cell? ⟨jb,jo+k*3+1,none⟩=some (.int .i64 y.v)∧W'.cell? ⟨jb,jo+k*3+2,none⟩=some (.slice y.p y.n y.c)) (fun W d=>⟨Kc d c0,Kc d e0,Kc d e1,Kc d e2,Kc d c1,Kc d d0,Kc d d1,Kc d d2⟩) (fun w2 hb hHeld=>?_);have f0:=btr (Bs wr) hb;have n0:=hb.size;replace c0:=Kc hb c0;replace c1:=Kc hb c1;replace e0:=Kc hb e0;replace e1:=Kc hb e1;replace e2:=Kc hb e2;replace d0:=Kc hb d0;replace d1:=Kc hb d1;replace d2:=Kc hb d2;replace g0:=btr a0 hb;clear hb;have b0:=f0;clear f0;refine (tq 0 34 rfl rfl ?_ ?_ (tq 1 35 rfl rfl ?_ ?_ (tq 2 36 rfl rfl ?_ ?_ (tq 3 37 rfl rfl ?_ ?_ (tq 4 38 rfl rfl ?_ ?_ (tq 5 39 rfl rfl ?_ ?_ (tq 6 40 rfl rfl ?_ ?_ (tq 7 41 rfl rfl ?_ ?_ (tq 8 42 rfl rfl ?_ ?_ (tq 9 43 rfl rfl ?_ ?_ ?_))))))))));iterate 10 (rotate_left;intro W' hSw;(try dsimp only at hSw);go_simp;try with_reducible rfl)
    try simp only [Ep]
    refine Rdy 10 rfl (fun K hK=>?_);go_simp
    refine (r0.out _ b0).mono ?_;rintro e w3 ⟨rfl,hb⟩;have f0:=btr b0 hb;have o0:=hb.size;replace c0:=Kc hb c0;replace c1:=Kc hb c1;replace e0:=Kc hb e0;replace e1:=Kc hb e1;replace e2:=Kc hb e2;replace d0:=Kc hb d0;replace d1:=Kc hb d1;replace d2:=Kc hb d2;replace g0:=btr g0 hb;clear hb;clear b0;have b0:=f0;clear f0;refine hK.out _ _ ⟨c0,e0,e1,e2,c1,d0,d1,d2⟩ (fun hHeld=>?_);clear hK K;try simp only [Ep]
    refine (tq 11 45 rfl rfl ?_ ?_ ?_);(rotate_left;intro W' hSw;(try dsimp only at hSw);go_simp;try with_reducible rfl)
    try simp only [Ep]
    refine Dn ?_;clear hHeld;go_wp2
    go_roundw
    case rel=>exact ⟨k+1,by omega,by go_num,btr hB b0⟩
    case measure=>simp [intOf];omega
   have t0:k=L.length:=by omega
   subst t0;have w0:decide (((L.length:Nat):Int) < (L.length:Int))=false:=decide_eq_false (by omega);clear HX HY IH;go_wp2
   go_ret
   exact (by unfold TruP;exact ⟨rfl,a0⟩)
theorem sameStmt_of (B B':Nat→Prop) (D:Nat) (IH0:∀ (u v:Value) (L:List St) (w:World),BlAt w B D u L→BlAt w B' D v L→Calls Tryz.prog 136 #[u,v] w fun r w'=>TruP w r w') (n m:Sn) (e:St) (w:World) (hx:StAt w B (D+1) n e) (hy:StAt w B' (D+1) m e) :
  Calls Tryz.prog 141 #[.agg #[.int .i64 n.k,.int .i64 n.t,.int .i64 n.ix.k,.int .i64 n.ix.v,.slice n.ix.p n.ix.n n.ix.c,.int .i64 n.val.k,.int .i64 n.val.v,.slice n.val.p n.val.n n.val.c,.int .i64 n.c,.slice n.bp n.bn n.bc,.slice n.ep n.en n.ec],.agg #[.int .i64 m.k,.int .i64 m.t,.int .i64 m.ix.k,.int .i64 m.ix.v,.slice m.ix.p m.ix.n m.ix.c,.int .i64 m.val.k,.int .i64 m.val.v,.slice m.val.p m.val.n m.val.c,.int .i64 m.c,.slice m.bp m.bn m.bc,.slice m.ep m.en m.ec]] w fun r w'=>TruP w r w':=by
 obtain ⟨k,t,ix,val,c,m0,v1⟩:=e;obtain ⟨q1,q2,q3,⟨D1,hi⟩,⟨D2,hv⟩,hb,he⟩:=hx;obtain ⟨p1,p2,p3,⟨E1,hj⟩,⟨E2,hu⟩,hb',he'⟩:=hy;have k0:∀ {w:World} {B:Nat→Prop} {n:En} {e:Ex} {d d':Nat},d≤d'→ExAt w B d n e→ExAt w B d' n e:=fun hd h=>ExAt.keep (S:=fun _=>False) (Chg.refl _ _) (fun _ _ _=>id) (fun _ h _=>h) hd h
 have HI:=Hi (fun W (hW:Below w.heap.size w W)=>exprSame_any B B' (max D1 E1) n.ix m.ix ix W (k0 (Nat.le_max_left _ _) (hi.below hW)) (k0 (Nat.le_max_right _ _) (hj.below hW)));have HV:=Hi (fun W (hW:Below w.heap.size w W)=>exprSame_any B B' (max D2 E2) n.val m.val val W (k0 (Nat.le_max_left _ _) (hv.below hW)) (k0 (Nat.le_max_right _ _) (hu.below hW)));have HB:=Hi (fun W (hW:Below w.heap.size w W)=>IH0 _ _ m0 W (BlAt.below hb hW) (BlAt.below hb' hW));have HE:=Hi (fun W (hW:Below w.heap.size w W)=>IH0 _ _ v1 W (BlAt.below he hW) (BlAt.below he' hW));clear IH0 hi hv hb he hj hu hb' he' k0;obtain ⟨nk,nt,d0,b0,d2,r1,o1,n1,u1,t1,s1⟩:=n;obtain ⟨mk,mt,c0,a0,l0,q0,p0,o0,t0,s0,r0⟩:=m;simp only at q1 q2 q3 p1 p2 p3 HI HV HB HE
 subst q1 q2 q3 p1 p2 p3;go_enter Tryz.func141,Tryz.ntmps141
 go_wp2_with fail
 refine (HI.out _ (bal (bal (Bs w) (.cells #[.int .i64 mk,.int .i64 mt,.int .i64 d0.k,.int .i64 d0.v,.slice d0.p d0.n d0.c,.int .i64 b0.k,.int .i64 b0.v,.slice b0.p b0.n b0.c,.int .i64 l0,.slice r1 o1 n1,.slice u1 t1 s1] 75)) (.cells #[.int .i64 mk,.int .i64 mt,.int .i64 c0.k,.int .i64 c0.v,.slice c0.p c0.n c0.c,.int .i64 a0.k,.int .i64 a0.v,.slice a0.p a0.n a0.c,.int .i64 l0,.slice q0 p0 o0,.slice t0 s0 r0] 75))).mono ?_;rintro e w1 ⟨rfl,hb⟩;have n0:=hb.size;simp only [Sa] at n0;have h0:=Bb (Bk.al (Bk.n11 (w.heap.size)) (.cells #[.int .i64 mk,.int .i64 mt,.int .i64 c0.k,.int .i64 c0.v,.slice c0.p c0.n c0.c,.int .i64 a0.k,.int .i64 a0.v,.slice a0.p a0.n a0.c,.int .i64 l0,.slice q0 p0 o0,.slice t0 s0 r0] 75)) hb;have i0:=Bb (Bk.n11 (w.heap.size+1)) hb;have e0:=btr (bal (bal (Bs w) (.cells #[.int .i64 mk,.int .i64 mt,.int .i64 d0.k,.int .i64 d0.v,.slice d0.p d0.n d0.c,.int .i64 b0.k,.int .i64 b0.v,.slice b0.p b0.n b0.c,.int .i64 l0,.slice r1 o1 n1,.slice u1 t1 s1] 75)) (.cells #[.int .i64 mk,.int .i64 mt,.int .i64 c0.k,.int .i64 c0.v,.slice c0.p c0.n c0.c,.int .i64 a0.k,.int .i64 a0.v,.slice a0.p a0.n a0.c,.int .i64 l0,.slice q0 p0 o0,.slice t0 s0 r0] 75)) hb;clear hb;have b2:=Bk.lz h0;have c2:=Bk.lz i0;obtain ⟨x1,z1,y1,a2,u0,c1⟩:=Bk.f3 h0 5 6 7 rfl rfl rfl;obtain ⟨v0,d1,w0,e1,x0,f1⟩:=Bk.f3 i0 5 6 7 rfl rfl rfl;go_wp2_with fail
 refine (HV.out _ e0).mono ?_;rintro e w2 ⟨rfl,f0⟩;have k1:=f0.size;clear z1 x1 a2 y1 c1 u0 d1 v0 e1 w0 f1 x0;replace e0:=btr e0 f0;replace h0:=Bb h0 f0;obtain ⟨y0,g1⟩:=Bk.cf h0 9 rfl;replace i0:=Bb i0 f0;obtain ⟨z0,h1⟩:=Bk.cf i0 9 rfl;go_wp2_with fail
 refine (HB.out _ e0).mono ?_;rintro e w3 ⟨rfl,g0⟩;have l1:=g0.size;clear g1 y0 h1 z0;replace e0:=btr e0 g0;replace h0:=Bb h0 g0;obtain ⟨a1,i1⟩:=Bk.cf h0 10 rfl;replace i0:=Bb i0 g0;obtain ⟨b1,j1⟩:=Bk.cf i0 10 rfl;go_wp2_with fail
 refine (HE.out _ e0).mono ?_;rintro e w4 ⟨rfl,j0⟩;have m1:=j0.size;clear i1 a1 j1 b1;replace e0:=btr e0 j0;have tt:=e0;go_wp2
 exact bodyPost_ret (v:=.bool true) (by simp [results,Tryz.results141,go_sem]) rfl (by exact (by unfold TruP;exact ⟨rfl,tt⟩))
theorem sameBlock_of (B B':Nat→Prop) (D:Nat) (H0:∀ (n m:Sn) (e:St) (w:World),StAt w B D n e→StAt w B' D m e→Calls Tryz.prog 141 #[.agg #[.int .i64 n.k,.int .i64 n.t,.int .i64 n.ix.k,.int .i64 n.ix.v,.slice n.ix.p n.ix.n n.ix.c,.int .i64 n.val.k,.int .i64 n.val.v,.slice n.val.p n.val.n n.val.c,.int .i64 n.c,.slice n.bp n.bn n.bc,.slice n.ep n.en n.ec],.agg #[.int .i64 m.k,.int .i64 m.t,.int .i64 m.ix.k,.int .i64 m.ix.v,.slice m.ix.p m.ix.n m.ix.c,.int .i64 m.val.k,.int .i64 m.val.v,.slice m.val.p m.val.n m.val.c,.int .i64 m.c,.slice m.bp m.bn m.bc,.slice m.ep m.en m.ec]] w fun r w'=>TruP w r w') (u v:Value) (L:List St) (w:World) (hx:BlAt w B D u L) (hy:BlAt w B' D v L) :
  Calls Tryz.prog 136 #[u,v] w fun r w'=>TruP w r w':=by
 obtain ⟨np,nc,rfl⟩:=RowOf.shape hx;obtain ⟨mp,mc,rfl⟩:=RowOf.shape hy;have HX:=Hi (fun W (hW:Below w.heap.size w W)=>szSt_at (hx.below hW));have HY:=Hi (fun W (hW:Below w.heap.size w W)=>szSt_at (hy.below hW));have m0:L.length≤9223372036854775807:=by obtain ⟨_,_,h,_⟩:=hx;exact h.2.1
 have IH:=Hi H0;clear H0 hx hy;go_enter Tryz.func136,Tryz.ntmps136
 go_wp2_with fail
 go_loopw [5] (fun i wr=>∃ k:Nat,k≤L.length∧i=.int .i64 k∧Below w.heap.size w wr) (fun i _=>L.length-(intOf i).toNat)
 case atStart=>exact ⟨0,Nat.zero_le _,rfl,Bs _⟩
 case round =>
  obtain ⟨k,hk,rfl,hB⟩:=hrel;have a0:=hB;by_cases hlt:k < L.length
  ·have n0:(k:Int) < (L.length:Int):=by omega
   obtain ⟨kb,ko,x,hp,r0,h0,e0,e1,e2,e3,e4,e5,e6,e7,e8,e9,c0⟩:=HX.out wr a0 k hlt;obtain ⟨jb,jo,y,hq,q0,i0,d0,d1,d2,d3,d4,d5,d6,d7,d8,d9,b0⟩:=HY.out wr a0 k hlt;subst hp hq;generalize L[k]=z at *
   have k0:=Hi (fun W (hW:Below wr.heap.size wr W)=>IH.out x y z W (StAt.keep (S:=fun _=>False) (Cb hW) (fun _ _ _=>id) (fun _ h _=>h) Lr h0) (StAt.keep (S:=fun _=>False) (Cb hW) (fun _ _ _=>id) (fun _ h _=>h) Lr i0));clear h0 i0;have ke:=Lc e0;have kd:=Lc d0;go_upto_region 6 with (fail)
   have s0:=Lc e0;have t0:=Lc d0;refine Rgh (S:=fun W'=>W'.cell? ⟨kb,ko+k*11,none⟩=some (.int .i64 x.k)∧W'.cell? ⟨kb,ko+k*11+1,none⟩=some (.int .i64 x.t)∧W'.cell? ⟨kb,ko+k*11+2,none⟩=some (.int .i64 x.ix.k)∧W'.cell? ⟨kb,ko+k*11+3,none⟩=some (.int .i64 x.ix.v)∧W'.cell? ⟨kb,ko+k*11+4,none⟩=some (.slice x.ix.p x.ix.n x.ix.c)∧W'.cell? ⟨kb,ko+k*11+5,none⟩=some (.int .i64 x.val.k)∧W'.cell? ⟨kb,ko+k*11+6,none⟩=some (.int .i64 x.val.v)∧W'.cell? ⟨kb,ko+k*11+7,none⟩=some (.slice x.val.p x.val.n x.val.c)∧W'.cell? ⟨kb,ko+k*11+8,none⟩=some (.int .i64 x.c)∧W'.cell? ⟨kb,ko+k*11+9,none⟩=some (.slice x.bp x.bn x.bc)∧W'.cell? ⟨kb,ko+k*11+10,none⟩=some (.slice x.ep x.en x.ec)∧W'.cell? ⟨jb,jo+k*11,none⟩=some (.int .i64 y.k)∧W'.cell? ⟨jb,jo+k*11+1,none⟩=some (.int .i64 y.t)∧W'.cell? ⟨jb,jo+k*11+2,none⟩=some (.int .i64 y.ix.k)∧W'.cell? ⟨jb,jo+k*11+3,none⟩=some (.int .i64 y.ix.v)∧W'.cell? ⟨jb,jo+k*11+4,none⟩=some (.slice y.ix.p y.ix.n y.ix.c)∧W'.cell? ⟨jb,jo+k*11+5,none⟩=some (.int .i64 y.val.k)∧W'.cell? ⟨jb,jo+k*11+6,none⟩=some (.int .i64 y.val.v)∧W'.cell? ⟨jb,jo+k*11+7,none⟩=some (.slice y.val.p y.val.n y.val.c)∧W'.cell? ⟨jb,jo+k*11+8,none⟩=some (.int .i64 y.c)∧W'.cell? ⟨jb,jo+k*11+9,none⟩=some (.slice y.bp y.bn y.bc)∧W'.cell? ⟨jb,jo+k*11+10,none⟩=some (.slice y.ep y.en y.ec)) (fun W d=>⟨Kc d e0,Kc d e1,Kc d e2,Kc d e3,Kc d e4,Kc d e5,Kc d e6,Kc d e7,Kc d e8,Kc d e9,Kc d c0,Kc d d0,Kc d d1,Kc d d2,Kc d d3,Kc d d4,Kc d d5,Kc d d6,Kc d d7,Kc d d8,Kc d d9,Kc d b0⟩) (fun w1 hb hHeld=>?_);have g0:=btr (Bs wr) hb;have o0:=hb.size;replace e0:=Kc hb e0;replace e1:=Kc hb e1;replace e2:=Kc hb e2;replace e3:=Kc hb e3;replace e4:=Kc hb e4;replace e5:=Kc hb e5;replace e6:=Kc hb e6;replace e7:=Kc hb e7;replace e8:=Kc hb e8;replace e9:=Kc hb e9;replace c0:=Kc hb c0;replace d0:=Kc hb d0;replace d1:=Kc hb d1;replace d2:=Kc hb d2;replace d3:=Kc hb d3;replace d4:=Kc hb d4;replace d5:=Kc hb d5;replace d6:=Kc hb d6;replace d7:=Kc hb d7;replace d8:=Kc hb d8;replace d9:=Kc hb d9;replace b0:=Kc hb b0;replace j0:=btr a0 hb;clear hb;have f0:=g0;clear g0;refine (tq 0 17 rfl rfl ?_ ?_ (tq 1 18 rfl rfl ?_ ?_ (tq 2 19 rfl rfl ?_ ?_ (tq 3 20 rfl rfl ?_ ?_ (tq 4 21 rfl rfl ?_ ?_ (tq 5 22 rfl rfl ?_ ?_ (tq 6 23 rfl rfl ?_ ?_ (tq 7 24 rfl rfl ?_ ?_ ?_))))))));iterate 8 (rotate_left;intro W' hSw;(try dsimp only at hSw);go_simp;try with_reducible rfl)
   try simp only [Ep]
   refine Rdy 8 rfl (fun K hK=>?_);go_simp
   refine (k0.out _ f0).mono ?_;rintro e w2 ⟨rfl,hb⟩;have g0:=btr f0 hb;have p0:=hb.size;replace e0:=Kc hb e0;replace e1:=Kc hb e1;replace e2:=Kc hb e2;replace e3:=Kc hb e3;replace e4:=Kc hb e4;replace e5:=Kc hb e5;replace e6:=Kc hb e6;replace e7:=Kc hb e7;replace e8:=Kc hb e8;replace e9:=Kc hb e9;replace c0:=Kc hb c0;replace d0:=Kc hb d0;replace d1:=Kc hb d1;replace d2:=Kc hb d2;replace d3:=Kc hb d3;replace d4:=Kc hb d4;replace d5:=Kc hb d5;replace d6:=Kc hb d6;replace d7:=Kc hb d7;replace d8:=Kc hb d8;replace d9:=Kc hb d9;replace b0:=Kc hb b0;replace j0:=btr j0 hb;clear hb;clear f0;have f0:=g0;clear g0;refine hK.out _ _ ⟨e0,e1,e2,e3,e4,e5,e6,e7,e8,e9,c0,d0,d1,d2,d3,d4,d5,d6,d7,d8,d9,b0⟩ (fun hHeld=>?_);clear hK K;try simp only [Ep]
   refine (tq 9 26 rfl rfl ?_ ?_ ?_);(rotate_left;intro W' hSw;(try dsimp only at hSw);go_simp;try with_reducible rfl)
   try simp only [Ep]
   refine Dn ?_;clear hHeld;go_wp2
   go_roundw
   case rel=>exact ⟨k+1,by omega,by go_num,btr hB f0⟩
   case measure=>simp [intOf];omega
  have l0:k=L.length:=by omega
  subst l0;have n0:decide (((L.length:Nat):Int) < (L.length:Int))=false:=decide_eq_false (by omega);clear HX HY IH;go_wp2
  go_ret
  exact (by unfold TruP;exact ⟨rfl,a0⟩)
theorem sameBlock_any (B B':Nat→Prop):∀ (D:Nat) (u v:Value) (L:List St) (w:World),BlAt w B D u L→BlAt w B' D v L→Calls Tryz.prog 136 #[u,v] w fun r w'=>TruP w r w':=by
 intro D
 induction D with
 | zero=>exact sameBlock_of B B' 0 (fun n m e w h=>by cases h)
 | succ D ih=>exact sameBlock_of B B' (D+1) (sameStmt_of B B' D ih)
theorem programSame_any (B B':Nat→Prop) (D D':Nat) (xs ys zs us:List Int) (L:List St) (va vb vu ta tb tu:Value) (w:World) (h1:Reads w 1 va xs.length (ints xs)) (h2:Reads w 1 vb ys.length (ints ys)) (h3:BlAt w B D vu L) (k1:Reads w 1 ta zs.length (ints zs)) (k2:Reads w 1 tb us.length (ints us)) (k3:BlAt w B' D' tu L) :
  Calls Tryz.prog 121 #[.agg #[va,vb,vu],.agg #[ta,tb,tu]] w fun r w'=>r=.returned (.bool (decide (xs=zs∧ys=us)))∧Below w.heap.size w w':=by
 obtain ⟨pv,cv,rfl⟩:=reads_shape h1;obtain ⟨pa,ca,rfl⟩:=reads_shape h2;obtain ⟨pu,cu,rfl⟩:=RowOf.shape h3;obtain ⟨sv,dv,rfl⟩:=reads_shape k1;obtain ⟨sa,da,rfl⟩:=reads_shape k2;obtain ⟨su,du,rfl⟩:=RowOf.shape k3;have HA:=Hi (fun W (hW:Below w.heap.size w W)=>l2Ints_any _ _ xs zs W (h1.below hW) (k1.below hW));have HB:=Hi (fun W (hW:Below w.heap.size w W)=>l2Ints_any _ _ ys us W (h2.below hW) (k2.below hW));have HC:=Hi (fun W (hW:Below w.heap.size w W)=>sameBlock_any B B' (max D D') _ _ L W ((h3.below hW).keep (S:=fun _=>False) (Chg.refl _ _) (fun _ _ _=>id) (fun _ h _=>h) (Nat.le_max_left _ _)) ((k3.below hW).keep (S:=fun _=>False) (Chg.refl _ _) (fun _ _ _=>id) (fun _ h _=>h) (Nat.le_max_right _ _)));have HQ:Hid (decide (xs=zs∧ys=us)=(decide (xs=zs)&&decide (ys=us))):=Hi (by simp);clear h1 h2 h3 k1 k2 k3;generalize decide (xs=zs∧ys=us)=Q at *
 generalize decide (xs=zs)=X at *
 generalize decide (ys=us)=Y at *
 go_enter Tryz.func121,Tryz.ntmps121
 go_wp2_with fail
 refine (HA.out _ (bal (bal (Bs w) (.cells #[.slice pv xs.length cv,.slice pa ys.length ca,.slice pu L.length cu] 26)) (.cells #[.slice sv zs.length dv,.slice sa us.length da,.slice su L.length du] 26))).mono ?_;rintro e w1 ⟨rfl,hb⟩;have g0:=hb.size;simp only [Sa] at g0;have d0:=Bb (Bk.al (Bk.n3 (w.heap.size)) (.cells #[.slice sv zs.length dv,.slice sa us.length da,.slice su L.length du] 26)) hb;have e0:=Bb (Bk.n3 (w.heap.size+1)) hb;have b0:=btr (bal (bal (Bs w) (.cells #[.slice pv xs.length cv,.slice pa ys.length ca,.slice pu L.length cu] 26)) (.cells #[.slice sv zs.length dv,.slice sa us.length da,.slice su L.length du] 26)) hb;clear hb;have r0:=Bk.lz d0;have s0:=Bk.lz e0
 cases X with
 | false =>
  have c0:Hid (Q=false):=Hi (by rw [HQ.out];simp);have tt:=b0;go_wp2
  exact bodyPost_ret (v:=.bool false) (by simp [results,Tryz.results121,go_sem]) rfl (by exact (by rw [c0.out];exact ⟨rfl,tt⟩))
 | true =>
  obtain ⟨n0,p0⟩:=Bk.cf d0 1 rfl;obtain ⟨o0,q0⟩:=Bk.cf e0 1 rfl;go_wp2_with fail
  refine (HB.out _ b0).mono ?_;rintro e w2 ⟨rfl,a0⟩;have l0:=a0.size;clear p0 n0 q0 o0;replace b0:=btr b0 a0
  cases Y with
  | false =>
   have c0:Hid (Q=false):=Hi (by rw [HQ.out];simp);have tt:=b0;go_wp2
   exact bodyPost_ret (v:=.bool false) (by simp [results,Tryz.results121,go_sem]) rfl (by exact (by rw [c0.out];exact ⟨rfl,tt⟩))
  | true =>
   have c0:Hid (Q=true):=Hi (by rw [HQ.out];rfl);replace d0:=Bb d0 a0;obtain ⟨h0,j0⟩:=Bk.cf d0 2 rfl;replace e0:=Bb e0 a0;obtain ⟨i0,k0⟩:=Bk.cf e0 2 rfl;go_wp2_with fail
   refine (HC.out _ b0).mono ?_;rintro e w3 ⟨rfl,f0⟩;have m0:=f0.size;clear j0 h0 k0 i0;replace b0:=btr b0 f0;have tt:=b0;go_wp2
   exact bodyPost_ret (v:=.bool true) (by simp [results,Tryz.results121,go_sem]) rfl (by exact (by rw [c0.out];exact ⟨rfl,tt⟩))
structure OwnP0 (w:World) (base:Nat) (va vb u:Value) (D:Nat) (xs ys:List Int) (L:List St):Prop where
 a:w.ownsRow base 3 1 va xs.length (ints xs)
 b:w.ownsRow base 3 1 vb ys.length (ints ys)
 t:TrS w base D u L
 ab:∀ q,va.ownBlock=some q→vb.ownBlock=some q→False
structure ReadsP (w:World) (A:Nat→Prop) (D:Nat) (va vb u:Value) (xs ys:List Int) (L:List St):Prop where
 a:Reads w 1 va xs.length (ints xs)
 b:Reads w 1 vb ys.length (ints ys)
 t:BlAt w A D u L
def OwnPB (base top:Nat) (q:Nat):Prop:=base≤q∧q < top
def OwnP (w:World) (base top:Nat) (va vb u:Value) (D:Nat) (xs ys:List Int) (L:List St):Prop:=∃ w0:World,top=w0.heap.size∧OwnP0 w0 base va vb u D xs ys L∧Chg (fun q=>¬OwnPB base top q) w0 w
section
variable {w w':World} {base top base':Nat} {va vb u:Value} {D:Nat} {xs ys:List Int} {L:List St}
theorem OwnP.lt (h:OwnP w base top va vb u D xs ys L):∀ q,OwnPB base top q→base≤q∧q < w.heap.size:=by
 obtain ⟨w0,rfl,_,h⟩:=h;intro q hq;have:=h.size
 exact ⟨hq.1,by have:=hq.2;omega⟩
theorem OwnP.topl (h:OwnP w base top va vb u D xs ys L):top≤w.heap.size:=by
 obtain ⟨w0,rfl,_,h⟩:=h;exact h.size
theorem OwnP.keep (h:OwnP w base top va vb u D xs ys L) {S:Nat→Prop} (hc:Chg S w w') (hs:∀ q,OwnPB base top q→¬S q):OwnP w' base top va vb u D xs ys L:=by
 obtain ⟨w0,h1,h2,h3⟩:=h;exact ⟨w0,h1,h2,h3.trans (hc.mono (fun q _ h hq=>hs q hq h))⟩
theorem OwnP.below (h:OwnP w base top va vb u D xs ys L) (hb:Below w.heap.size w w'):OwnP w' base top va vb u D xs ys L:=h.keep (S:=fun _=>False) (Cb hb) (fun _ _=>id)
theorem OwnP0.now (h:OwnP0 w base va vb u D xs ys L):OwnP w base w.heap.size va vb u D xs ys L:=⟨w,rfl,h,Chg.refl _ _⟩
theorem OwnP0.mono (h:OwnP0 w base va vb u D xs ys L) (hb:base'≤base):OwnP0 w base' va vb u D xs ys L:=⟨Om h.a hb,Om h.b hb,h.t.mono hb,h.ab⟩
theorem OwnP.here (h:OwnP w base top va vb u D xs ys L):OwnP0 w base va vb u D xs ys L:=by
 obtain ⟨w0,rfl,h2,h3⟩:=h;have k:∀ q,base≤q→q < w0.heap.size→¬¬OwnPB base w0.heap.size q:=fun q h1 h2 h=>h ⟨h1,h2⟩
 exact ⟨Ow h2.a h3 (fun q hq=>k q (h2.a.lt q hq).1 (h2.a.lt q hq).2),Ow h2.b h3 (fun q hq=>k q (h2.b.lt q hq).1 (h2.b.lt q hq).2),h2.t.keep h3 k,h2.ab⟩
theorem OwnP.shs (h:OwnP w base top va vb u D xs ys L):ShS w base top D u L:=by
 obtain ⟨w0,rfl,h2,h3⟩:=h;exact h2.t.sh.keep h3 (fun q h1 h2 h=>h ⟨h1,h2⟩)
theorem OwnP0.reads (h:OwnP0 w base va vb u D xs ys L):ReadsP w (fun q=>base≤q) D va vb u xs ys L:=⟨Ro h.a (own_len h.a),Ro h.b (own_len h.b),h.t.row⟩
theorem OwnP.reads (h:OwnP w base top va vb u D xs ys L):ReadsP w (fun q=>base≤q) D va vb u xs ys L:=h.here.reads
theorem OwnP0.shape (h:OwnP0 w base va vb u D xs ys L):∃ a0 c0 a1 c1 a2 c2,va=.slice a0 xs.length c0∧vb=.slice a1 ys.length c1∧u=.slice a2 L.length c2:=by
 obtain ⟨a0,c0,h0⟩:=Oh h.a;obtain ⟨a1,c1,h1⟩:=Oh h.b;obtain ⟨a2,c2,h2⟩:=h.t.shape;exact ⟨a0,c0,a1,c1,a2,c2,h0,h1,h2⟩
theorem OwnP.shape (h:OwnP w base top va vb u D xs ys L):∃ a0 c0 a1 c1 a2 c2,va=.slice a0 xs.length c0∧vb=.slice a1 ys.length c1∧u=.slice a2 L.length c2:=h.here.shape
variable {A:Nat→Prop}
theorem ReadsP.below (h:ReadsP w A D va vb u xs ys L) (hb:Below w.heap.size w w'):ReadsP w' A D va vb u xs ys L:=⟨h.a.below hb,h.b.below hb,h.t.below hb⟩
theorem ReadsP.shape (h:ReadsP w A D va vb u xs ys L):∃ a0 c0 a1 c1 a2 c2,va=.slice a0 xs.length c0∧vb=.slice a1 ys.length c1∧u=.slice a2 L.length c2:=by
 obtain ⟨a0,c0,h0⟩:=reads_shape h.a;obtain ⟨a1,c1,h1⟩:=reads_shape h.b;obtain ⟨a2,c2,h2⟩:=RowOf.shape h.t;exact ⟨a0,c0,a1,c1,a2,c2,h0,h1,h2⟩
structure OwnRp (w:World) (base:Nat) (va vb:Value) (xs ys:List Int):Prop where
 a:w.ownsRow base 3 1 va xs.length (ints xs)
 b:w.ownsRow base 3 1 vb ys.length (ints ys)
 ab:∀ q,va.ownBlock=some q→vb.ownBlock=some q→False
def OwnRB (va vb:Value) (q:Nat):Prop:=va.ownBlock=some q∨vb.ownBlock=some q
theorem OwnRp.lt (h:OwnRp w base va vb xs ys):∀ q,OwnRB va vb q→base≤q∧q < w.heap.size:=by
 rintro q (hq | hq)
 ·exact h.a.lt q hq
 exact h.b.lt q hq
theorem OwnRp.keep (h:OwnRp w base va vb xs ys) {S:Nat→Prop} (hc:Chg S w w') (hs:∀ q,OwnRB va vb q→¬S q):OwnRp w' base va vb xs ys:=⟨Ow h.a hc (fun q hq=>hs q (Or.inl hq)),Ow h.b hc (fun q hq=>hs q (Or.inr hq)),h.ab⟩
theorem OwnRp.below (h:OwnRp w base va vb xs ys) (hb:Below w.heap.size w w'):OwnRp w' base va vb xs ys:=h.keep (S:=fun _=>False) (Cb hb) (fun _ _=>id)
theorem OwnRp.mono (h:OwnRp w base va vb xs ys) (hb:base'≤base):OwnRp w base' va vb xs ys:=⟨Om h.a hb,Om h.b hb,h.ab⟩
theorem OwnRp.shape (h:OwnRp w base va vb xs ys):∃ a0 c0 a1 c1,va=.slice a0 xs.length c0∧vb=.slice a1 ys.length c1:=by
 obtain ⟨a0,c0,h0⟩:=Oh h.a;obtain ⟨a1,c1,h1⟩:=Oh h.b;exact ⟨a0,c0,a1,c1,h0,h1⟩
theorem OwnRp.reads (h:OwnRp w base va vb xs ys):ReadsP w (fun _=>True) 0 va vb (.slice none 0 0) xs ys []:=⟨Ro h.a (own_len h.a),Ro h.b (own_len h.b),RowOf.nil⟩
theorem shE_off {b n:Nat} {v:Value} {zs:List Value} (ha:w.ownsRow b 3 1 v n zs) (hc:Chg (fun q=>v.ownBlock=some q) w w'):∀ {d:Nat} {u:Value} {L:List Ex},ShE w base top d u L→ShE w' base top d u L:=by
 intro d
 induction d with
 | zero =>
  intro u L h;obtain ⟨h1,xs,h2,a0⟩:=h;exact ⟨h1,xs,Ow h2 hc (fun q hq h=>own_diff h2 ha (by decide) q hq h),a0⟩
 | succ d ih =>
  intro u L h;obtain ⟨xs,⟨h2,a0⟩,h4⟩:=h
  exact ⟨xs,⟨Ow h2 hc (fun q hq h=>own_diff h2 ha (by decide) q hq h),a0⟩,fun j hj=>by
   obtain ⟨a1,a2,u',a3,a4⟩:=h4 j hj;exact ⟨a1,a2,u',a3,ih a4⟩⟩
theorem shS_off {b n:Nat} {v:Value} {zs:List Value} (ha:w.ownsRow b 3 1 v n zs) (hc:Chg (fun q=>v.ownBlock=some q) w w'):∀ {d:Nat} {u:Value} {L:List St},ShS w base top d u L→ShS w' base top d u L:=by
 intro d
 induction d with
 | zero =>
  intro u L h;obtain ⟨h1,xs,h2,a0⟩:=h;exact ⟨h1,xs,Ow h2 hc (fun q hq h=>own_diff h2 ha (by decide) q hq h),a0⟩
 | succ d ih =>
  intro u L h;obtain ⟨xs,⟨h2,a0⟩,h4⟩:=h
  exact ⟨xs,⟨Ow h2 hc (fun q hq h=>own_diff h2 ha (by decide) q hq h),a0⟩,fun j hj=>by
   obtain ⟨a1,⟨u1,D1,b1,c1⟩,⟨u2,D2,b2,c2⟩,⟨u3,b3,c3⟩,u4,b4,c4⟩:=h4 j hj;exact ⟨a1,⟨u1,D1,b1,shE_off ha hc c1⟩,⟨u2,D2,b2,shE_off ha hc c2⟩,⟨u3,b3,ih c3⟩,u4,b4,ih c4⟩⟩
theorem shS_nil (w:World):ShS w 0 0 0 (.slice none 0 0) []:=⟨rfl,[],World.ownsRow_nil _ _ _ _,fun q h=>by cases h⟩
theorem blAt_nilb (w:World) (A:Nat→Prop) (D:Nat):BlAt w A D (.slice none 0 0) []:=RowOf.nil
end
end Go.Proofs.YtlckklglbodgbaaGreat
namespace Go.Proofs.YtlckklglbodgbaaGreat
open Go.RowKit
structure LbR (w:World) (base:Nat) (va vb:Value) (n m:Nat) (xs ys:List Int):Prop where
 lx:xs.length=n
 ly:ys.length=m
 a:w.ownsRow base 3 1 va n (ints xs)
 b:w.ownsRow base 3 1 vb m (ints ys)
 ab:∀ q,va.ownBlock=some q→vb.ownBlock=some q→False
section
variable {w w':World} {base:Nat} {va vb:Value} {n m:Nat} {xs ys:List Int}
theorem LbR.lt (h:LbR w base va vb n m xs ys):∀ q,OwnRB va vb q→base≤q∧q < w.heap.size:=by
 rintro q (hq | hq)
 ·exact h.a.lt q hq
 exact h.b.lt q hq
theorem LbR.keep (h:LbR w base va vb n m xs ys) {S:Nat→Prop} (hc:Chg S w w') (hs:∀ q,OwnRB va vb q→¬S q):LbR w' base va vb n m xs ys:=⟨h.lx,h.ly,Ow h.a hc (fun q hq=>hs q (Or.inl hq)),Ow h.b hc (fun q hq=>hs q (Or.inr hq)),h.ab⟩
theorem LbR.below (h:LbR w base va vb n m xs ys) (hb:Below w.heap.size w w'):LbR w' base va vb n m xs ys:=h.keep (S:=fun _=>False) (Cb hb) (fun _ _=>id)
theorem LbR.putA {g c:Nat} (h:LbR w base (.slice (some ⟨g,0,none⟩) n c) vb n m xs ys) (i:Nat) (x:Int):LbR (w.setCell ⟨g,i,none⟩ (.int .i64 x)) base (.slice (some ⟨g,0,none⟩) n c) vb n m (xs.set i x) ys:=by
 have h1:=(h.a.stored i (.int .i64 x)).1;rw [ints_set] at h1;exact ⟨by rw [List.length_set];exact h.lx,h.ly,h1,Oe h.b g i (fun e=>h.ab g rfl e) _,h.ab⟩
theorem LbR.putB {g c:Nat} (h:LbR w base va (.slice (some ⟨g,0,none⟩) m c) n m xs ys) (i:Nat) (x:Int):LbR (w.setCell ⟨g,i,none⟩ (.int .i64 x)) base va (.slice (some ⟨g,0,none⟩) m c) n m xs (ys.set i x):=by
 have h1:=(h.b.stored i (.int .i64 x)).1;rw [ints_set] at h1;exact ⟨h.lx,by rw [List.length_set];exact h.ly,Oe h.a g i (fun e=>h.ab g e rfl) _,h1,h.ab⟩
theorem lb_cell {b n c:Nat} {zs:List Int} (h:w.ownsRow base 3 1 (.slice (some ⟨b,0,none⟩) n c) n (ints zs)) (hl:zs.length=n) (i:Nat) (hi:i < n):w.cell? ⟨b,i,none⟩=some (.int .i64 (gi zs i))∧w.frozen? ⟨b,i,none⟩=false:=by
 refine ⟨?_,h.frozenAt i⟩;rw [h.cellAt i (by omega),List.getElem?_eq_getElem (by rw [ints_length];omega),ints_get];unfold gi
 rw [Int.toNat_natCast,List.getElem?_eq_getElem (by omega)];rfl
end
def UpR (xs zs:List Int):Prop:=zs.length=xs.length∧LabsP zs∧∀ i:Nat,gi xs i≤gi zs i
theorem UpR.refl {xs:List Int} (h:LabsP xs):UpR xs xs:=⟨rfl,h,fun _=>Int.le_refl _⟩
theorem UpR.trans {xs ys zs:List Int} (h:UpR xs ys) (k:UpR ys zs):UpR xs zs:=⟨k.1.trans h.1,k.2.1,fun i=>Int.le_trans (h.2.2 i) (k.2.2 i)⟩
theorem gi_lset (xs:List Int) (i j:Nat) (x:Int) (hi:i < xs.length):gi (xs.set i x) j=if i=j then x else gi xs j:=by
 unfold gi
 rw [Int.toNat_natCast,List.getElem?_set];by_cases e:i=j
 ·subst e;simp [hi]
 simp [e]
theorem UpR.set {xs:List Int} (h:LabsP xs) {i:Nat} (hi:i < xs.length) {x:Int} (hx:IsLb x) (hge:gi xs i≤x):UpR xs (xs.set i x):=by
 refine ⟨List.length_set,fun y hy=>?_,fun j=>?_⟩
 ·rcases List.mem_or_eq_of_mem_set hy with h1 | h1
  ·exact h y h1
  subst h1;exact hx
 rw [gi_lset xs i j x hi];by_cases e:i=j
 ·subst e;rw [if_pos rfl];exact hge
 rw [if_neg e];exact Int.le_refl _
theorem l4Label_n {w:World} {base:Nat} {pv pa pu:Option Addr} {cv ca nu cu n m:Nat} {xs ys:List Int} (hL:LbR w base (.slice pv n cv) (.slice pa m ca) n m xs ys) {d D:Nat} {A:Nat→Prop} {nn:En} {e:Ex} (hx:ExAt w A D nn e) (hok:exOk n m d e=true) :
  Calls Tryz.prog 107 #[.agg #[.slice pv n cv,.slice pa m ca,.slice pu nu cu],.agg #[.int .i64 nn.k,.int .i64 nn.v,.slice nn.p nn.n nn.c]] w fun r w'=>r=.returned (.int .i64 (labE xs ys e))∧Below w.heap.size w w':=by
 obtain ⟨rfl,rfl,ha,hb,_⟩:=hL;exact l4Label_any xs ys pv pa pu cv ca nu cu d A D nn e w (Ro ha (own_len ha)) (Ro hb (own_len hb)) hx hok
def RaP (base:Nat) (va vb:Value) (n m:Nat) (xs ys:List Int) (w:World) (r:Ending) (w':World):Prop:=∃ xs' ys':List Int,r=.returned (.tuple #[])∧UpR xs xs'∧UpR ys ys'∧LbR w' base va vb n m xs' ys'∧Chg (fun q=>OwnRB va vb q) w w'
end Go.Proofs.YtlckklglbodgbaaGreat
