/-
 Parts of the proofs of the laws FnDoubleLabels.
-/
import Derived.Test.YtlckklglbodgbaaPW
import Derived.Test.YtlckklglbodgbaaTL
set_option maxHeartbeats 12800000
set_option maxRecDepth 100000
set_option linter.all false
namespace Go.Proofs.Ytlckklglbodgbaa
open Go.RowKit
theorem l2Ints_d (va vb:Value) (xs ys:List Int) (w:World) (ha:Reads w 1 va xs.length (ints xs)) (hb:Reads w 1 vb ys.length (ints ys)) :
  Calls Try.prog 141 #[va,vb] w fun e w'=>e=.returned (.bool (decide (xs=ys)))∧∃ k,w'=w.drewN k:=by
 obtain ⟨_,hn,a,g0,b,i0,rfl,f0,ha,a0⟩:=ha;obtain ⟨_,hn',a',cap',b',off',rfl,hcap',ha',b0⟩:=hb;by_cases hl:xs.length=ys.length
 ·have e0:((xs.length:Int) != (ys.length:Int))=false:=by simp [hl]
  have HL:=Hi hl;clear hl;go_enter Try.func141,Try.ntmps141
  go_wp2
  go_loopw [5] (fun i wr=>∃ k:Nat,k≤xs.length∧i=.int .i64 k∧xs.take k=ys.take k∧∃ d,wr=w.drewN d) (fun i _=>xs.length-(intOf i).toNat)
  case atStart=>exact ⟨0,Nat.zero_le _,rfl,rfl,0,rfl⟩
  case round =>
   obtain ⟨k,hk,rfl,he,d,rfl⟩:=hrel;have HE:=Hi he;clear he;by_cases hlt:k < xs.length
   ·obtain ⟨rfl,h0⟩:=ha (by omega);obtain ⟨rfl,hbs'⟩:=ha' (by have:=HL.out;omega);have hlt':k < ys.length:=by have:=HL.out;omega
    have c0:=a0 k (by simpa [ints] using hlt);have d0:=b0 k (by simpa [ints] using hlt');rw [ints_get] at c0 d0;clear a0 b0 ha ha';by_cases hxy:xs[k]=ys[k]
    ·have e1:(xs[k] != ys[k])=false:=by simp [hxy]
     clear hxy;go_wp2
     go_quiet (fail)
     go_wp2
     go_roundw
     case rel=>exact ⟨k+1,by omega,by go_num,take_succ_eq hlt hlt' HE.out (by simpa using e1),_,rfl⟩
     case measure=>simp [intOf];omega
    have e1:(xs[k] != ys[k])=true:=by simp [hxy]
    have HX:=Hi hxy;clear hxy;go_wp2
    go_quiet (fail)
    go_wp2
    go_ret
    exact ⟨ret_bool (decide_eq_false (fun h=>HX.out (by subst h;rfl))).symm,_,World.drewN_drewN ..⟩
   go_wp2
   go_ret
   exact ⟨ret_bool (decide_eq_true (by have h:=HE.out;rwa [List.take_of_length_le (by omega),List.take_of_length_le (by have:=HL.out;omega)] at h)).symm,_,rfl⟩
 have e0:((xs.length:Int) != (ys.length:Int))=true:=by simp;omega
 have HL:=Hi hl;clear hl;go_enter Try.func141,Try.ntmps141
 go_wp2
 go_ret
 exact ⟨ret_bool (decide_eq_false (fun h=>HL.out (by rw [h]))).symm,0,rfl⟩
theorem l2Ints_any (va vb:Value) (xs ys:List Int) (w:World) (ha:Reads w 1 va xs.length (ints xs)) (hb:Reads w 1 vb ys.length (ints ys)) :
  Calls Try.prog 141 #[va,vb] w fun e w'=>e=.returned (.bool (decide (xs=ys)))∧Below w.heap.size w w':=
 (l2Ints_d va vb xs ys w ha hb).mono fun _ _ ⟨h,k,hk⟩=>⟨h,hk ▸ below_drewN' w k⟩
def TruP (w:World) (e:Ending) (w':World):Prop:=e=.returned (.bool true)∧Below w.heap.size w w'
theorem exprSame_any (B B':Nat→Prop):∀ (D:Nat) (n m:En) (e:Ex) (w:World),ExAt w B D n e→ExAt w B' D m e→Calls Try.prog 145 #[.agg #[.int .i64 n.k,.int .i64 n.v,.slice n.p n.n n.c],.agg #[.int .i64 m.k,.int .i64 m.v,.slice m.p m.n m.c]] w fun r w'=>TruP w r w':=by
 intro D
 induction D with
 | zero=>intro n m e w h;cases h
 | succ D IH0 =>
  intro n m e w hx hy;obtain ⟨ek,ev,L⟩:=e;have hn:=hx.shape;have hm:=hy.shape;have HX:=Hi (fun W (hW:Below w.heap.size w W) j hj=>(hx.below hW).kidm j hj);have HY:=Hi (fun W (hW:Below w.heap.size w W) j hj=>(hy.below hW).kidm j hj);have u0:L.length≤9223372036854775807:=by obtain ⟨_,_,_,_,h,_⟩:=hx;exact h.2.1
  have IH:=Hi IH0;clear IH0 hx hy;obtain ⟨nk,n1,np,m1,nc⟩:=n;obtain ⟨mk,g0,mp,l1,mc⟩:=m;simp only [Ex.k,Ex.v,Ex.kids] at hn hm;obtain ⟨rfl,rfl,rfl⟩:=hn;obtain ⟨rfl,rfl,rfl⟩:=hm;go_enter Try.func145,Try.ntmps145
  go_upto_region 3 with (fail)
  generalize hnw:World.alloc _ _=w1;have hb:=nmh hnw;clear hnw
  have k0:=hb.size;simp only [Sa] at k0;have i0:Bk w1 (w.heap.size) [.int .i64 mk,.int .i64 g0,.slice np L.length nc]:=Bb (Bk.al (Bk.nw (by simp) rfl) (.cells #[.int .i64 mk,.int .i64 g0,.slice mp L.length mc] 49)) hb;have j0:Bk w1 (w.heap.size+1) [.int .i64 mk,.int .i64 g0,.slice mp L.length mc]:=Bb (Bk.nw (by simp) rfl) hb;have h0:=btr (bal (bal (Bs w) (.cells #[.int .i64 mk,.int .i64 g0,.slice np L.length nc] 49)) (.cells #[.int .i64 mk,.int .i64 g0,.slice mp L.length mc] 49)) hb;clear hb;have j1:=Bk.lz i0;have k1:=Bk.lz j0;obtain ⟨p0,a1⟩:=Bk.cf i0 2 rfl;obtain ⟨q0,b1⟩:=Bk.cf j0 2 rfl;have HC:=Hi (fun W (hW:Below w1.heap.size w1 W)=>Ai (Kc hW p0) (Kc hW q0));have s0:=Hi h0;clear h0 i0 j0 p0 a1 q0 b1;go_wp2_with fail
  go_loopw [5] (fun i wr=>∃ k:Nat,k≤L.length∧i=.int .i64 k∧Below w1.heap.size w1 wr) (fun i _=>L.length-(intOf i).toNat)
  case atStart=>exact ⟨0,Nat.zero_le _,rfl,Bs _⟩
  case round =>
   obtain ⟨k,hk,rfl,hB⟩:=hrel;obtain ⟨c0,c1⟩:=HC.out _ hB;have h1:=Lc c0;have i1:=Lc c1;have a0:=btr s0.out hB;by_cases hlt:k < L.length
   ·have v0:(k:Int) < (L.length:Int):=by omega
    obtain ⟨kb,ko,x,hp,_,g1,l0,e0,e1,e2⟩:=HX.out wr a0 k hlt;obtain ⟨jb,jo,y,hq,_,f1,m0,d0,d1,d2⟩:=HY.out wr a0 k hlt;try simp only at hp hq
    subst hp hq;generalize L[k]=z at *
    have r0:=Hi (fun W (hW:Below wr.heap.size wr W)=>IH.out x y z W (l0.below hW) (m0.below hW));clear l0 m0;have ke:=Lc e0;have kd:=Lc d0;go_upto_region 6 with (fail)
    have w0:=Lc c0;have x0:=Lc c1;have y0:=Lc e0;have z0:=Lc d0;refine Rgh (S:=fun W'=>W'.cell? ⟨w.heap.size,2,none⟩=some (.slice (some ⟨kb,ko,none⟩) L.length nc)∧W'.cell? ⟨kb,ko+k*3,none⟩=some (.int .i64 x.k)∧W'.cell? ⟨kb,ko+k*3+1,none⟩=some (.int .i64 x.v)∧W'.cell? ⟨kb,ko+k*3+2,none⟩=some (.slice x.p x.n x.c)∧W'.cell? ⟨w.heap.size+1,2,none⟩=some (.slice (some ⟨jb,jo,none⟩) L.length mc)∧W'.cell? ⟨jb,jo+k*3,none⟩=some (.int .i64 y.k)∧W'.cell? ⟨jb,jo+k*3+1,none⟩=some (.int .i64 y.v)∧W'.cell? ⟨jb,jo+k*3+2,none⟩=some (.slice y.p y.n y.c)) (fun W d=>⟨Kc d c0,Kc d e0,Kc d e1,Kc d e2,Kc d c1,Kc d d0,Kc d d1,Kc d d2⟩) (fun w2 hb hHeld=>?_);have f0:=btr (Bs wr) hb;have n0:=hb.size;replace c0:=Kc hb c0;replace c1:=Kc hb c1;replace e0:=Kc hb e0;replace e1:=Kc hb e1;replace e2:=Kc hb e2;replace d0:=Kc hb d0;replace d1:=Kc hb d1;replace d2:=Kc hb d2;replace h0:=btr a0 hb;clear hb;have b0:=f0;clear f0;refine (tq 0 34 rfl rfl ?_ ?_ (tq 1 35 rfl rfl ?_ ?_ (tq 2 36 rfl rfl ?_ ?_ (tq 3 37 rfl rfl ?_ ?_ (tq 4 38 rfl rfl ?_ ?_ (tq 5 39 rfl rfl ?_ ?_ (tq 6 40 rfl rfl ?_ ?_ (tq 7 41 rfl rfl ?_ ?_ (tq 8 42 rfl rfl ?_ ?_ (tq 9 43 rfl rfl ?_ ?_ ?_))))))))));iterate 10 (rotate_left;intro W' hSw;(try dsimp only at hSw);go_simp;try with_reducible rfl)
    try simp only [Ep]
    refine Rdy 10 rfl (fun K hK=>?_);go_simp
    refine (r0.out _ b0).mono ?_;rintro e w3 ⟨rfl,hb⟩;have f0:=btr b0 hb;have o0:=hb.size;replace c0:=Kc hb c0;replace c1:=Kc hb c1;replace e0:=Kc hb e0;replace e1:=Kc hb e1;replace e2:=Kc hb e2;replace d0:=Kc hb d0;replace d1:=Kc hb d1;replace d2:=Kc hb d2;replace h0:=btr h0 hb;clear hb;clear b0;have b0:=f0;clear f0;refine hK.out _ _ ⟨c0,e0,e1,e2,c1,d0,d1,d2⟩ (fun hHeld=>?_);clear hK K;try simp only [Ep]
    refine (tq 11 45 rfl rfl ?_ ?_ ?_);(rotate_left;intro W' hSw;(try dsimp only at hSw);go_simp;try with_reducible rfl)
    try simp only [Ep]
    refine Dn ?_;clear hHeld;go_wp2
    go_roundw
    case rel=>exact ⟨k+1,by omega,by go_num,btr hB b0⟩
    case measure=>simp [intOf];omega
   have t0:k=L.length:=by omega
   subst t0;have v0:decide (((L.length:Nat):Int) < (L.length:Int))=false:=decide_eq_false (by omega);clear HX HY IH;go_wp2
   go_ret
   exact (by unfold TruP;exact ⟨rfl,a0⟩)
theorem sameStmt_of (B B':Nat→Prop) (D:Nat) (IH0:∀ (u v:Value) (L:List St) (w:World),BlAt w B D u L→BlAt w B' D v L→Calls Try.prog 142 #[u,v] w fun r w'=>TruP w r w') (n m:Sn) (e:St) (w:World) (hx:StAt w B (D+1) n e) (hy:StAt w B' (D+1) m e) :
  Calls Try.prog 144 #[.agg #[.int .i64 n.k,.int .i64 n.t,.int .i64 n.ix.k,.int .i64 n.ix.v,.slice n.ix.p n.ix.n n.ix.c,.int .i64 n.val.k,.int .i64 n.val.v,.slice n.val.p n.val.n n.val.c,.int .i64 n.c,.slice n.bp n.bn n.bc,.slice n.ep n.en n.ec],.agg #[.int .i64 m.k,.int .i64 m.t,.int .i64 m.ix.k,.int .i64 m.ix.v,.slice m.ix.p m.ix.n m.ix.c,.int .i64 m.val.k,.int .i64 m.val.v,.slice m.val.p m.val.n m.val.c,.int .i64 m.c,.slice m.bp m.bn m.bc,.slice m.ep m.en m.ec]] w fun r w'=>TruP w r w':=by
 obtain ⟨k,t,ix,val,c,p0,s1⟩:=e;obtain ⟨q1,q2,q3,⟨D1,hi⟩,⟨D2,hv⟩,hb,he⟩:=hx;obtain ⟨p1,p2,p3,⟨E1,hj⟩,⟨E2,hu⟩,hb',he'⟩:=hy;have i0:∀ {w:World} {B:Nat→Prop} {n:En} {e:Ex} {d d':Nat},d≤d'→ExAt w B d n e→ExAt w B d' n e:=fun hd h=>ExAt.keep (S:=fun _=>False) (Chg.refl _ _) (fun _ _ _=>id) (fun _ h _=>h) hd h
 have HI:=Hi (fun W (hW:Below w.heap.size w W)=>exprSame_any B B' (max D1 E1) n.ix m.ix ix W (i0 (Nat.le_max_left _ _) (hi.below hW)) (i0 (Nat.le_max_right _ _) (hj.below hW)));have HV:=Hi (fun W (hW:Below w.heap.size w W)=>exprSame_any B B' (max D2 E2) n.val m.val val W (i0 (Nat.le_max_left _ _) (hv.below hW)) (i0 (Nat.le_max_right _ _) (hu.below hW)));have HB:=Hi (fun W (hW:Below w.heap.size w W)=>IH0 _ _ p0 W (BlAt.below hb hW) (BlAt.below hb' hW));have HE:=Hi (fun W (hW:Below w.heap.size w W)=>IH0 _ _ s1 W (BlAt.below he hW) (BlAt.below he' hW));clear IH0 hi hv hb he hj hu hb' he' i0;obtain ⟨nk,nt,d0,b0,a2,t0,s0,r0,w0,v0,u0⟩:=n;obtain ⟨mk,mt,c0,a0,h0,l0,k0,j0,o0,n0,m0⟩:=m;simp only at q1 q2 q3 p1 p2 p3 HI HV HB HE
 subst q1 q2 q3 p1 p2 p3;go_enter Try.func144,Try.ntmps144
 go_wp2_with fail
 refine (HI.out _ (bal (bal (Bs w) (.cells #[.int .i64 mk,.int .i64 mt,.int .i64 d0.k,.int .i64 d0.v,.slice d0.p d0.n d0.c,.int .i64 b0.k,.int .i64 b0.v,.slice b0.p b0.n b0.c,.int .i64 h0,.slice t0 s0 r0,.slice w0 v0 u0] 51)) (.cells #[.int .i64 mk,.int .i64 mt,.int .i64 c0.k,.int .i64 c0.v,.slice c0.p c0.n c0.c,.int .i64 a0.k,.int .i64 a0.v,.slice a0.p a0.n a0.c,.int .i64 h0,.slice l0 k0 j0,.slice o0 n0 m0] 51))).mono ?_;rintro e w1 ⟨rfl,hb⟩;have q0:=hb.size;simp only [Sa] at q0;have e0:Bk w1 (w.heap.size) [.int .i64 mk,.int .i64 mt,.int .i64 d0.k,.int .i64 d0.v,.slice d0.p d0.n d0.c,.int .i64 b0.k,.int .i64 b0.v,.slice b0.p b0.n b0.c,.int .i64 h0,.slice t0 s0 r0,.slice w0 v0 u0]:=Bb (Bk.al (Bk.nw (by simp) rfl) (.cells #[.int .i64 mk,.int .i64 mt,.int .i64 c0.k,.int .i64 c0.v,.slice c0.p c0.n c0.c,.int .i64 a0.k,.int .i64 a0.v,.slice a0.p a0.n a0.c,.int .i64 h0,.slice l0 k0 j0,.slice o0 n0 m0] 51)) hb;have f0:Bk w1 (w.heap.size+1) [.int .i64 mk,.int .i64 mt,.int .i64 c0.k,.int .i64 c0.v,.slice c0.p c0.n c0.c,.int .i64 a0.k,.int .i64 a0.v,.slice a0.p a0.n a0.c,.int .i64 h0,.slice l0 k0 j0,.slice o0 n0 m0]:=Bb (Bk.nw (by simp) rfl) hb;have g0:=btr (bal (bal (Bs w) (.cells #[.int .i64 mk,.int .i64 mt,.int .i64 d0.k,.int .i64 d0.v,.slice d0.p d0.n d0.c,.int .i64 b0.k,.int .i64 b0.v,.slice b0.p b0.n b0.c,.int .i64 h0,.slice t0 s0 r0,.slice w0 v0 u0] 51)) (.cells #[.int .i64 mk,.int .i64 mt,.int .i64 c0.k,.int .i64 c0.v,.slice c0.p c0.n c0.c,.int .i64 a0.k,.int .i64 a0.v,.slice a0.p a0.n a0.c,.int .i64 h0,.slice l0 k0 j0,.slice o0 n0 m0] 51)) hb;clear hb;have y1:=Bk.lz e0;have z1:=Bk.lz f0;obtain ⟨t1,v1,u1,x1,x0,f1⟩:=Bk.f3 e0 5 6 7 rfl rfl rfl;obtain ⟨y0,g1,z0,h1,a1,i1⟩:=Bk.f3 f0 5 6 7 rfl rfl rfl;go_wp2_with fail
 refine (HV.out _ g0).mono ?_;rintro e w2 ⟨rfl,hb⟩;have n1:=hb.size;clear v1 t1 x1 u1 f1 x0 g1 y0 h1 z0 i1 a1;replace e0:=Bb e0 hb;replace f0:=Bb f0 hb;replace g0:=btr g0 hb;clear hb;obtain ⟨b1,j1⟩:=Bk.cf e0 9 rfl;obtain ⟨c1,k1⟩:=Bk.cf f0 9 rfl;go_wp2_with fail
 refine (HB.out _ g0).mono ?_;rintro e w3 ⟨rfl,hb⟩;have o1:=hb.size;clear j1 b1 k1 c1;replace e0:=Bb e0 hb;replace f0:=Bb f0 hb;replace g0:=btr g0 hb;clear hb;obtain ⟨d1,l1⟩:=Bk.cf e0 10 rfl;obtain ⟨e1,m1⟩:=Bk.cf f0 10 rfl;go_wp2_with fail
 refine (HE.out _ g0).mono ?_;rintro e w4 ⟨rfl,hb⟩;have r1:=hb.size;clear l1 d1 m1 e1;replace e0:=Bb e0 hb;replace f0:=Bb f0 hb;replace g0:=btr g0 hb;clear hb;have tt:=g0;go_wp2
 exact bodyPost_ret (v:=.bool true) (by simp [results,Try.results144,go_sem]) rfl (by exact (by unfold TruP;exact ⟨rfl,tt⟩))
theorem sameBlock_of (B B':Nat→Prop) (D:Nat) (H0:∀ (n m:Sn) (e:St) (w:World),StAt w B D n e→StAt w B' D m e→Calls Try.prog 144 #[.agg #[.int .i64 n.k,.int .i64 n.t,.int .i64 n.ix.k,.int .i64 n.ix.v,.slice n.ix.p n.ix.n n.ix.c,.int .i64 n.val.k,.int .i64 n.val.v,.slice n.val.p n.val.n n.val.c,.int .i64 n.c,.slice n.bp n.bn n.bc,.slice n.ep n.en n.ec],.agg #[.int .i64 m.k,.int .i64 m.t,.int .i64 m.ix.k,.int .i64 m.ix.v,.slice m.ix.p m.ix.n m.ix.c,.int .i64 m.val.k,.int .i64 m.val.v,.slice m.val.p m.val.n m.val.c,.int .i64 m.c,.slice m.bp m.bn m.bc,.slice m.ep m.en m.ec]] w fun r w'=>TruP w r w') (u v:Value) (L:List St) (w:World) (hx:BlAt w B D u L) (hy:BlAt w B' D v L) :
  Calls Try.prog 142 #[u,v] w fun r w'=>TruP w r w':=by
 obtain ⟨np,nc,rfl⟩:=RowOf.shape hx;obtain ⟨mp,mc,rfl⟩:=RowOf.shape hy;have HX:=Hi (fun W (hW:Below w.heap.size w W)=>szSt_at (hx.below hW));have HY:=Hi (fun W (hW:Below w.heap.size w W)=>szSt_at (hy.below hW));have m0:L.length≤9223372036854775807:=by obtain ⟨_,_,h,_⟩:=hx;exact h.2.1
 have IH:=Hi H0;clear H0 hx hy;go_enter Try.func142,Try.ntmps142
 go_wp2_with fail
 go_loopw [5] (fun i wr=>∃ k:Nat,k≤L.length∧i=.int .i64 k∧Below w.heap.size w wr) (fun i _=>L.length-(intOf i).toNat)
 case atStart=>exact ⟨0,Nat.zero_le _,rfl,Bs _⟩
 case round =>
  obtain ⟨k,hk,rfl,hB⟩:=hrel;have a0:=hB;by_cases hlt:k < L.length
  ·have n0:(k:Int) < (L.length:Int):=by omega
   obtain ⟨kb,ko,x,hp,r0,h0,e0,e1,e2,e3,e4,e5,e6,e7,e8,e9,c0⟩:=HX.out wr a0 k hlt;obtain ⟨jb,jo,y,hq,q0,i0,d0,d1,d2,d3,d4,d5,d6,d7,d8,d9,b0⟩:=HY.out wr a0 k hlt;subst hp hq;generalize L[k]=z at *
   have k0:=Hi (fun W (hW:Below wr.heap.size wr W)=>IH.out x y z W (StAt.keep (S:=fun _=>False) (Cb hW) (fun _ _ _=>id) (fun _ h _=>h) Lr h0) (StAt.keep (S:=fun _=>False) (Cb hW) (fun _ _ _=>id) (fun _ h _=>h) Lr i0));clear h0 i0;have ke:=Lc e0;have kd:=Lc d0;go_upto_region 6 with (fail)
   have s0:=Lc e0;have t0:=Lc d0;refine Rgh (S:=fun W'=>W'.cell? ⟨kb,ko+k*11,none⟩=some (.int .i64 x.k)∧W'.cell? ⟨kb,ko+k*11+1,none⟩=some (.int .i64 x.t)∧W'.cell? ⟨kb,ko+k*11+2,none⟩=some (.int .i64 x.ix.k)∧W'.cell? ⟨kb,ko+k*11+3,none⟩=some (.int .i64 x.ix.v)∧W'.cell? ⟨kb,ko+k*11+4,none⟩=some (.slice x.ix.p x.ix.n x.ix.c)∧W'.cell? ⟨kb,ko+k*11+5,none⟩=some (.int .i64 x.val.k)∧W'.cell? ⟨kb,ko+k*11+6,none⟩=some (.int .i64 x.val.v)∧W'.cell? ⟨kb,ko+k*11+7,none⟩=some (.slice x.val.p x.val.n x.val.c)∧W'.cell? ⟨kb,ko+k*11+8,none⟩=some (.int .i64 x.c)∧W'.cell? ⟨kb,ko+k*11+9,none⟩=some (.slice x.bp x.bn x.bc)∧W'.cell? ⟨kb,ko+k*11+10,none⟩=some (.slice x.ep x.en x.ec)∧W'.cell? ⟨jb,jo+k*11,none⟩=some (.int .i64 y.k)∧W'.cell? ⟨jb,jo+k*11+1,none⟩=some (.int .i64 y.t)∧W'.cell? ⟨jb,jo+k*11+2,none⟩=some (.int .i64 y.ix.k)∧W'.cell? ⟨jb,jo+k*11+3,none⟩=some (.int .i64 y.ix.v)∧W'.cell? ⟨jb,jo+k*11+4,none⟩=some (.slice y.ix.p y.ix.n y.ix.c)∧W'.cell? ⟨jb,jo+k*11+5,none⟩=some (.int .i64 y.val.k)∧W'.cell? ⟨jb,jo+k*11+6,none⟩=some (.int .i64 y.val.v)∧W'.cell? ⟨jb,jo+k*11+7,none⟩=some (.slice y.val.p y.val.n y.val.c)∧W'.cell? ⟨jb,jo+k*11+8,none⟩=some (.int .i64 y.c)∧W'.cell? ⟨jb,jo+k*11+9,none⟩=some (.slice y.bp y.bn y.bc)∧W'.cell? ⟨jb,jo+k*11+10,none⟩=some (.slice y.ep y.en y.ec)) (fun W d=>⟨Kc d e0,Kc d e1,Kc d e2,Kc d e3,Kc d e4,Kc d e5,Kc d e6,Kc d e7,Kc d e8,Kc d e9,Kc d c0,Kc d d0,Kc d d1,Kc d d2,Kc d d3,Kc d d4,Kc d d5,Kc d d6,Kc d d7,Kc d d8,Kc d d9,Kc d b0⟩) (fun w1 hb hHeld=>?_);have g0:=btr (Bs wr) hb;have o0:=hb.size;replace e0:=Kc hb e0;replace e1:=Kc hb e1;replace e2:=Kc hb e2;replace e3:=Kc hb e3;replace e4:=Kc hb e4;replace e5:=Kc hb e5;replace e6:=Kc hb e6;replace e7:=Kc hb e7;replace e8:=Kc hb e8;replace e9:=Kc hb e9;replace c0:=Kc hb c0;replace d0:=Kc hb d0;replace d1:=Kc hb d1;replace d2:=Kc hb d2;replace d3:=Kc hb d3;replace d4:=Kc hb d4;replace d5:=Kc hb d5;replace d6:=Kc hb d6;replace d7:=Kc hb d7;replace d8:=Kc hb d8;replace d9:=Kc hb d9;replace b0:=Kc hb b0;replace j0:=btr a0 hb;clear hb;have f0:=g0;clear g0;refine (tq 0 17 rfl rfl ?_ ?_ (tq 1 18 rfl rfl ?_ ?_ (tq 2 19 rfl rfl ?_ ?_ (tq 3 20 rfl rfl ?_ ?_ (tq 4 21 rfl rfl ?_ ?_ (tq 5 22 rfl rfl ?_ ?_ (tq 6 23 rfl rfl ?_ ?_ (tq 7 24 rfl rfl ?_ ?_ ?_))))))));iterate 8 (rotate_left;intro W' hSw;(try dsimp only at hSw);go_simp;try with_reducible rfl)
   try simp only [Ep]
   refine Rdy 8 rfl (fun K hK=>?_);go_simp
   refine (k0.out _ f0).mono ?_;rintro e w2 ⟨rfl,hb⟩;have g0:=btr f0 hb;have p0:=hb.size;replace e0:=Kc hb e0;replace e1:=Kc hb e1;replace e2:=Kc hb e2;replace e3:=Kc hb e3;replace e4:=Kc hb e4;replace e5:=Kc hb e5;replace e6:=Kc hb e6;replace e7:=Kc hb e7;replace e8:=Kc hb e8;replace e9:=Kc hb e9;replace c0:=Kc hb c0;replace d0:=Kc hb d0;replace d1:=Kc hb d1;replace d2:=Kc hb d2;replace d3:=Kc hb d3;replace d4:=Kc hb d4;replace d5:=Kc hb d5;replace d6:=Kc hb d6;replace d7:=Kc hb d7;replace d8:=Kc hb d8;replace d9:=Kc hb d9;replace b0:=Kc hb b0;replace j0:=btr j0 hb;clear hb;clear f0;have f0:=g0;clear g0;refine hK.out _ _ ⟨e0,e1,e2,e3,e4,e5,e6,e7,e8,e9,c0,d0,d1,d2,d3,d4,d5,d6,d7,d8,d9,b0⟩ (fun hHeld=>?_);clear hK K;try simp only [Ep]
   refine (tq 9 26 rfl rfl ?_ ?_ ?_);(rotate_left;intro W' hSw;(try dsimp only at hSw);go_simp;try with_reducible rfl)
   try simp only [Ep]
   refine Dn ?_;clear hHeld;go_wp2
   go_roundw
   case rel=>exact ⟨k+1,by omega,by go_num,btr hB f0⟩
   case measure=>simp [intOf];omega
  have l0:k=L.length:=by omega
  subst l0;have n0:decide (((L.length:Nat):Int) < (L.length:Int))=false:=decide_eq_false (by omega);clear HX HY IH;go_wp2
  go_ret
  exact (by unfold TruP;exact ⟨rfl,a0⟩)
theorem sameBlock_any (B B':Nat→Prop):∀ (D:Nat) (u v:Value) (L:List St) (w:World),BlAt w B D u L→BlAt w B' D v L→Calls Try.prog 142 #[u,v] w fun r w'=>TruP w r w':=by
 intro D
 induction D with
 | zero=>exact sameBlock_of B B' 0 (fun n m e w h=>by cases h)
 | succ D ih=>exact sameBlock_of B B' (D+1) (sameStmt_of B B' D ih)
theorem programSame_any (B B':Nat→Prop) (D D':Nat) (xs ys zs us:List Int) (L:List St) (va vb vu ta tb tu:Value) (w:World) (h1:Reads w 1 va xs.length (ints xs)) (h2:Reads w 1 vb ys.length (ints ys)) (h3:BlAt w B D vu L) (k1:Reads w 1 ta zs.length (ints zs)) (k2:Reads w 1 tb us.length (ints us)) (k3:BlAt w B' D' tu L) :
  Calls Try.prog 132 #[.agg #[va,vb,vu],.agg #[ta,tb,tu]] w fun r w'=>r=.returned (.bool (decide (xs=zs∧ys=us)))∧Below w.heap.size w w':=by
 obtain ⟨pv,cv,rfl⟩:=reads_shape h1;obtain ⟨pa,ca,rfl⟩:=reads_shape h2;obtain ⟨pu,cu,rfl⟩:=RowOf.shape h3;obtain ⟨sv,dv,rfl⟩:=reads_shape k1;obtain ⟨sa,da,rfl⟩:=reads_shape k2;obtain ⟨su,du,rfl⟩:=RowOf.shape k3;have HA:=Hi (fun W (hW:Below w.heap.size w W)=>l2Ints_any _ _ xs zs W (h1.below hW) (k1.below hW));have HB:=Hi (fun W (hW:Below w.heap.size w W)=>l2Ints_any _ _ ys us W (h2.below hW) (k2.below hW));have HC:=Hi (fun W (hW:Below w.heap.size w W)=>sameBlock_any B B' (max D D') _ _ L W ((h3.below hW).keep (S:=fun _=>False) (Chg.refl _ _) (fun _ _ _=>id) (fun _ h _=>h) (Nat.le_max_left _ _)) ((k3.below hW).keep (S:=fun _=>False) (Chg.refl _ _) (fun _ _ _=>id) (fun _ h _=>h) (Nat.le_max_right _ _)));have HQ:Hid (decide (xs=zs∧ys=us)=(decide (xs=zs)&&decide (ys=us))):=Hi (by simp);clear h1 h2 h3 k1 k2 k3;generalize decide (xs=zs∧ys=us)=Q at *
 generalize decide (xs=zs)=X at *
 generalize decide (ys=us)=Y at *
 go_enter Try.func132,Try.ntmps132
 go_wp2_with fail
 refine (HA.out _ (bal (bal (Bs w) (.cells #[.slice pv xs.length cv,.slice pa ys.length ca,.slice pu L.length cu] 26)) (.cells #[.slice sv zs.length dv,.slice sa us.length da,.slice su L.length du] 26))).mono ?_;rintro e w1 ⟨rfl,hb⟩;have e0:=hb.size;simp only [Sa] at e0;have b0:Bk w1 (w.heap.size) [.slice pv xs.length cv,.slice pa ys.length ca,.slice pu L.length cu]:=Bb (Bk.al (Bk.nw (by simp) rfl) (.cells #[.slice sv zs.length dv,.slice sa us.length da,.slice su L.length du] 26)) hb;have c0:Bk w1 (w.heap.size+1) [.slice sv zs.length dv,.slice sa us.length da,.slice su L.length du]:=Bb (Bk.nw (by simp) rfl) hb;have a0:=btr (bal (bal (Bs w) (.cells #[.slice pv xs.length cv,.slice pa ys.length ca,.slice pu L.length cu] 26)) (.cells #[.slice sv zs.length dv,.slice sa us.length da,.slice su L.length du] 26)) hb;clear hb;have p0:=Bk.lz b0;have q0:=Bk.lz c0
 cases X with
 | false =>
  have d0:Hid (Q=false):=Hi (by rw [HQ.out];simp);have tt:=a0;go_wp2
  exact bodyPost_ret (v:=.bool false) (by simp [results,Try.results132,go_sem]) rfl (by exact (by rw [d0.out];exact ⟨rfl,tt⟩))
 | true =>
  obtain ⟨l0,n0⟩:=Bk.cf b0 1 rfl;obtain ⟨m0,o0⟩:=Bk.cf c0 1 rfl;go_wp2_with fail
  refine (HB.out _ a0).mono ?_;rintro e w2 ⟨rfl,hb⟩;have j0:=hb.size;clear n0 l0 o0 m0;replace b0:=Bb b0 hb;replace c0:=Bb c0 hb;replace a0:=btr a0 hb;clear hb
  cases Y with
  | false =>
   have d0:Hid (Q=false):=Hi (by rw [HQ.out];simp);have tt:=a0;go_wp2
   exact bodyPost_ret (v:=.bool false) (by simp [results,Try.results132,go_sem]) rfl (by exact (by rw [d0.out];exact ⟨rfl,tt⟩))
  | true =>
   have d0:Hid (Q=true):=Hi (by rw [HQ.out];rfl);obtain ⟨f0,h0⟩:=Bk.cf b0 2 rfl;obtain ⟨g0,i0⟩:=Bk.cf c0 2 rfl;go_wp2_with fail
   refine (HC.out _ a0).mono ?_;rintro e w3 ⟨rfl,hb⟩;have k0:=hb.size;clear h0 f0 i0 g0;replace b0:=Bb b0 hb;replace c0:=Bb c0 hb;replace a0:=btr a0 hb;clear hb;have tt:=a0;go_wp2
   exact bodyPost_ret (v:=.bool true) (by simp [results,Try.results132,go_sem]) rfl (by exact (by rw [d0.out];exact ⟨rfl,tt⟩))
end Go.Proofs.Ytlckklglbodgbaa
