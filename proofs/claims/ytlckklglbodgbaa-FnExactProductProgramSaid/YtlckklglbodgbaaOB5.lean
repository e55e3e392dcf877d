/-
 Parts of the proofs of the laws FnExactProductProgram.
-/
import Derived.Test.YtlckklglbodgbaaLB5
import Derived.Test.YtlckklglbodgbaaGR
set_option maxHeartbeats 12800000
set_option maxRecDepth 100000
set_option linter.all false
namespace Go.Proofs.Ytlckklglbodgbaa
open Go.RowKit
theorem sProduct_any (xs ys:List Int) (A:Nat→Prop) (D:Nat) (va vb u:Value) (L:List St) (w:World) (hr:Reads w 1 va xs.length (ints xs)) (hs:Reads w 1 vb ys.length (ints ys)) (hx:BlAt w A D u L) (hn:stNs L≤1048576) (hb:xs.length≤1000000000∧ys.length≤1000000000) :
  Calls Try.prog 12 #[.agg #[va,vb,u]] w fun r w'=>PrS w.heap.size (prodR xs ys L) xs ys L r w'∧Below w.heap.size w w':=by
 obtain ⟨pv,cv,rfl⟩:=reads_shape hr;obtain ⟨pa,ca,rfl⟩:=reads_shape hs;obtain ⟨pu,cu,rfl⟩:=RowOf.shape hx;have i0:=Hi (fun W (hW:Below w.heap.size w W)=>Ai (hr.below hW) (Ai (hs.below hW) (hx.below hW)));have f4:=Hi (fun W (hW:Below w.heap.size w W)=>BlAt.keep (B':=fun q=>q < w.heap.size) hx (S:=fun _=>False) (Cb hW) (fun _ _ _=>id) (fun q _ h=>h) Lr);obtain ⟨Dd,n0⟩:∃ Dd,Dd=dblR xs ys L:=⟨_,rfl⟩;obtain ⟨X,hX⟩:∃ X,X=dX Dd xs:=⟨_,rfl⟩;obtain ⟨Y,hY⟩:∃ Y,Y=dX Dd ys:=⟨_,rfl⟩;obtain ⟨Lp,o0⟩:∃ Lp,Lp=prL xs.length ys.length L:=⟨_,rfl⟩;obtain ⟨Q,hQ⟩:∃ Q,Q=prodR xs ys L:=⟨_,rfl⟩;rw [← hQ];have HQ:Hid (Q=(Dd&&(ctB xs ys L&&pvR (xs++xs) (ys++ys) Lp))):=Hi (by rw [hQ,n0,o0];rfl);have t1:Hid (Dd=true→pvR xs ys L=true):=Hi (fun h=>dbl_pv (by rw [← n0];exact h));have v1:Hid (Dd=true→stNs Lp≤3600):=Hi (fun h=>by rw [o0];exact prL_small (dbl_pv (by rw [← n0];exact h)))
 have HD:=Hi (fun W (hW:Below w.heap.size w W)=>show Calls Try.prog 7 #[.agg #[.slice pv xs.length cv,.slice pa ys.length ca,.slice pu L.length cu]] W fun r W'=>∃ (g1 g2:Option Addr) (c1 c2:Nat),r=.returned (.tuple #[.agg #[.slice g1 X.length c1,.slice g2 Y.length c2,.slice none 0 0],.bool Dd])∧W'.ownsRow W.heap.size 3 1 (.slice g1 X.length c1) X.length (ints X)∧W'.ownsRow W.heap.size 3 1 (.slice g2 Y.length c2) Y.length (ints Y)∧(∀ q,(Value.slice g1 X.length c1).ownBlock=some q→(Value.slice g2 Y.length c2).ownBlock=some q→False)∧Below W.heap.size W W' from
  (sDouble_any _ _ xs ys A D _ L W (i0.out W hW).1 (i0.out W hW).2.1 (i0.out W hW).2.2 hb hn).mono (fun r W' h=>by
   obtain ⟨⟨ua,ub,h1,h2,h3,h4⟩,h5⟩:=h;rw [← n0] at h1 h2 h3;rw [← hX] at h2;rw [← hY] at h3;obtain ⟨g1,c1,rfl⟩:=Oh h2;obtain ⟨g2,c2,rfl⟩:=Oh h3;exact ⟨g1,g2,c1,c2,h1,h2,h3,h4,h5⟩))
 have HC:=Hi (fun W (hW:Below w.heap.size w W)=>sCT_any xs ys A D _ _ _ L W (i0.out W hW).1 (i0.out W hW).2.1 (i0.out W hW).2.2 hn);have HO:=Hi (fun (h:Dd=true) W (hW:Below w.heap.size w W)=>show Calls Try.prog 30 #[.agg #[.slice pv xs.length cv,.slice pa ys.length ca,.slice pu L.length cu],.slice pu L.length cu] W fun r W'=>CpB D Lp W r W' from by rw [o0];exact l13Block_any pv pa pu cv ca L.length cu xs.length ys.length hb A D 5 _ L W (i0.out W hW).2.2 (pvR_n (t1.out h)).2.2 hn);have q1:Hid (Dd=true→X=xs++xs∧Y=ys++ys):=Hi (fun h=>by rw [hX,hY,h];exact ⟨rfl,rfl⟩);have x1:Hid (Dd=true→X.length≤12∧Y.length≤2):=Hi (fun h=>by have h2:=q1.out h;rw [h2.1,h2.2,List.length_append,List.length_append];have h3:=n0;rw [h] at h3;have h4:=h3.symm;unfold dblR at h4;simp only [Bool.and_eq_true,decide_eq_true_eq] at h4;omega);have u1:=Hi o0;have HB:=Hi hb;clear hr hs hx hX hY o0 hQ n0 hb;go_enter Try.func12,Try.ntmps12
 go_wp2_with fail
 refine (HD.out _ (bal (bal (Bs w) (.cells #[.slice pv xs.length cv,.slice pa ys.length ca,.slice pu L.length cu] 26)) (.cells #[.slice none 0 0,.slice none 0 0,.slice none 0 0] 26))).mono ?_;rintro e w1 ⟨g1,g2,c1,c2,rfl,oA,oB,r1,hb⟩;have u0:=hb.size;simp only [Sa] at u0;have m0:=Bb (Bk.al (Bk.n3 (w.heap.size)) (.cells #[.slice none 0 0,.slice none 0 0,.slice none 0 0] 26)) hb;have b0:=Bb (Bk.n3 (w.heap.size+1)) hb;have f0:=btr (bal (bal (Bs w) (.cells #[.slice pv xs.length cv,.slice pa ys.length ca,.slice pu L.length cu] 26)) (.cells #[.slice none 0 0,.slice none 0 0,.slice none 0 0] 26)) hb;clear hb;have b2:=Bk.lz m0;have j4:=Bk.lz b0;have j0:=oA.lt;try simp only [Sa] at j0
 have k0:=oB.lt;try simp only [Sa] at k0
 have d4:=Hi r1;clear r1;replace b2:=Bk.lz m0;obtain ⟨v2,f1,w0,i1,x0,j1⟩:=Bk.h3 m0;go_wp2_with fail
 refine (HC.out _ (bal f0 (.cells #[.slice g1 X.length c1,.slice g2 Y.length c2,.slice none 0 0] 26))).mono ?_;rintro e w2 ⟨t0,g4,rfl,hz,a0⟩;have HZ:=Hi hz;clear hz;have p0:=a0.size;simp only [Sa] at p0;clear f1 v2 i1 w0 j1 x0;replace oA:=Ob (Ob oA (bal (Bs _) _)) a0;replace oB:=Ob (Ob oB (bal (Bs _) _)) a0;have d0:=Bb (Bk.n3 (w1.heap.size)) a0;replace f0:=btr (bal f0 _) a0;have a2:=Bk.lz d0
 cases hd:Dd with
 | false =>
  have g0:=Hi hd;clear hd;have h0:Hid (Q=false):=Hi (by rw [HQ.out,g0.out];simp);clear oA oB;replace b0:=Bb (Bk.al b0 _) a0;obtain ⟨e2,x2,f2,y2,i2,z2⟩:=Bk.h3 b0;obtain ⟨p3,q3,r3⟩:=Bk.g3 (Bk.t3 b0 (.slice none 0 0) (.slice none 0 0) (.slice none 0 0));have tt:=(bst (bst (bst f0 (w.heap.size+1) 0 (by omega) (.slice none 0 0)) (w.heap.size+1) 1 (by omega) (.slice none 0 0)) (w.heap.size+1) 2 (by omega) (.slice none 0 0));go_wp2
  exact bodyPost_ret (v:=.tuple #[.agg #[.slice none 0 0,.slice none 0 0,.slice none 0 0],.bool false]) (by simp [results,Try.results12,go_sem,p3,q3,r3]) rfl (by exact ⟨prs_no h0,tt⟩)
 | true =>
  have g0:=Hi hd;clear hd;by_cases h:t0=0
  ·have d2:(t0 != 0)=false:=by simp [h]
   have r0:Hid (ctB xs ys L=true):=Hi (HZ.out.1 h);clear h;go_upto_region 5 with (fail)
   replace m0:=Bb (Bk.al m0 _) a0;obtain ⟨y0,k1,z0,l1,a1,m1⟩:=Bk.h3 m0;go_wp2_with fail
   refine (HO.out g0.out _ f0).mono ?_;rintro e w3 ⟨ga,gc,i4,rfl,hO,e0⟩;replace hO:=CpB.bl (w:=w) hO;have s1:=e0.size;clear k1 y0 l1 z0 m1 a1;replace oA:=Ob oA e0;replace oB:=Ob oB e0;replace f0:=btr f0 e0;have e4:Hid (∀ q,w2.heap.size≤q→w.heap.size≤q∧¬(Value.slice g1 X.length c1).ownBlock=some q∧¬(Value.slice g2 Y.length c2).ownBlock=some q):=Hi (fun q hq=>⟨by omega,fun h=>by have:=j0 q h;omega,fun h=>by have:=k0 q h;omega⟩);obtain ⟨v0,z1⟩:=x1.out g0.out;have y1:=v1.out g0.out;replace d0:=Bb d0 e0;obtain ⟨b1,n1,d1,o1,e1,p1⟩:=Bk.h3 d0;go_wp2_with fail
   refine (sProgramValid_any _ _ X Y (fun q=>w2.heap.size≤q) D _ Lp _ (Ro (Oe oA (w1.heap.size) 2 (fun h=>by have:=j0 _ h;omega) (.slice ga Lp.length gc)) (by omega)) (Ro (Oe oB (w1.heap.size) 2 (fun h=>by have:=k0 _ h;omega) (.slice ga Lp.length gc)) (by omega)) (BlAt.keep hO (C1 (w1.heap.size) (2) (.slice ga Lp.length gc)) (fun q (hq:w2.heap.size≤q) _ (h:q=(w1.heap.size))=>by omega) (fun _ h _=>h) Lr) (by omega)).mono ?_;rintro e w4 ⟨rfl,c0⟩;clear v0 z1 y1;replace hO:=BlAt.below (BlAt.keep hO (C1 _ _ _) (fun q (hq:w2.heap.size≤q) _ (h:q=(w1.heap.size))=>by omega) (fun _ h _=>h) Lr) c0;have q0:=c0.size;simp only [Ss] at q0;clear n1 b1 o1 d1 p1 e1;replace oA:=Ob (Oe oA _ _ (fun h=>by have:=j0 _ h;omega) _) c0;replace oB:=Ob (Oe oB _ _ (fun h=>by have:=k0 _ h;omega) _) c0;replace f0:=btr (bst f0 (w1.heap.size) 2 (by omega) (.slice ga Lp.length gc)) c0;have l0:=Hi (q1.out g0.out)
   cases hV:pvR X Y Lp with
   | false =>
    have s0:Hid (pvR (xs++xs) (ys++ys) Lp=false):=Hi (by rw [← l0.out.1,← l0.out.2];exact hV);clear hV;clear hO;have h0:Hid (Q=false):=Hi (by rw [HQ.out,g0.out,r0.out,s0.out];simp);clear oA oB;replace b0:=Bb (Bk.nn (Bb (Bb (Bk.al b0 _) a0) e0) _) c0;obtain ⟨j2,a3,k2,b3,l2,c3⟩:=Bk.h3 b0;obtain ⟨s3,u3,v3⟩:=Bk.g3 (Bk.t3 b0 (.slice none 0 0) (.slice none 0 0) (.slice none 0 0));have tt:=(bst (bst (bst f0 (w.heap.size+1) 0 (by omega) (.slice none 0 0)) (w.heap.size+1) 1 (by omega) (.slice none 0 0)) (w.heap.size+1) 2 (by omega) (.slice none 0 0));go_wp2
    exact bodyPost_ret (v:=.tuple #[.agg #[.slice none 0 0,.slice none 0 0,.slice none 0 0],.bool false]) (by simp [results,Try.results12,go_sem,s3,u3,v3]) rfl (by exact ⟨prs_no h0,tt⟩)
   | true =>
    have s0:Hid (pvR (xs++xs) (ys++ys) Lp=true):=Hi (by rw [← l0.out.1,← l0.out.2];exact hV);clear hV;have h0:Hid (Q=true):=Hi (by rw [HQ.out,g0.out,r0.out,s0.out];rfl);have HF:=Hi (Ai (Oe (Oe (Oe oA (w.heap.size+1) 0 (fun h=>by have:=j0 _ h;omega) (.slice g1 X.length c1)) (w.heap.size+1) 1 (fun h=>by have:=j0 _ h;omega) (.slice g2 Y.length c2)) (w.heap.size+1) 2 (fun h=>by have:=j0 _ h;omega) (.slice ga Lp.length gc)) (Ai (Oe (Oe (Oe oB (w.heap.size+1) 0 (fun h=>by have:=k0 _ h;omega) (.slice g1 X.length c1)) (w.heap.size+1) 1 (fun h=>by have:=k0 _ h;omega) (.slice g2 Y.length c2)) (w.heap.size+1) 2 (fun h=>by have:=k0 _ h;omega) (.slice ga Lp.length gc)) (BlAt.keep (BlAt.keep (BlAt.keep hO (C1 (w.heap.size+1) (0) (.slice g1 X.length c1)) (fun q (hq:w2.heap.size≤q) _ (h:q=(w.heap.size+1))=>by omega) (fun _ h _=>h) Lr) (C1 (w.heap.size+1) (1) (.slice g2 Y.length c2)) (fun q (hq:w2.heap.size≤q) _ (h:q=(w.heap.size+1))=>by omega) (fun _ h _=>h) Lr) (C1 (w.heap.size+1) (2) (.slice ga Lp.length gc)) (fun q (hq:w2.heap.size≤q) _ (h:q=(w.heap.size+1))=>by omega) (fun _ h _=>h) Lr)));clear oA oB hO;replace b0:=Bb (Bk.nn (Bb (Bb (Bk.al b0 _) a0) e0) _) c0;obtain ⟨m2,d3,n2,e3,o2,f3⟩:=Bk.h3 b0;replace d0:Bk w4 (w1.heap.size) [.slice g1 X.length c1,.slice g2 Y.length c2,.slice ga Lp.length gc]:=Bb (Bk.at d0 2 (.slice ga Lp.length gc)) c0;obtain ⟨p2,i3,q2,j3,r2,k3⟩:=Bk.h3 d0;obtain ⟨x3,y3,z3⟩:=Bk.g3 (Bk.t3 b0 (.slice g1 X.length c1) (.slice g2 Y.length c2) (.slice ga Lp.length gc));have tt:=(bst (bst (bst f0 (w.heap.size+1) 0 (by omega) (.slice g1 X.length c1)) (w.heap.size+1) 1 (by omega) (.slice g2 Y.length c2)) (w.heap.size+1) 2 (by omega) (.slice ga Lp.length gc));go_wp2
    exact bodyPost_ret (v:=.tuple #[.agg #[.slice g1 X.length c1,.slice g2 Y.length c2,.slice ga Lp.length gc],.bool true]) (by simp [results,Try.results12,go_sem,x3,y3,z3]) rfl (by exact ⟨prs_yes h0 (Hi l0.out.1) (Hi l0.out.2) u1 (Om HF.out.1 (by (try simp only [Sa]);omega)) (Om HF.out.2.1 (by (try simp only [Sa]);omega)) HF.out.2.2 (by omega),tt⟩)
  have d2:(t0 != 0)=true:=by simp [h]
  have r0:Hid (ctB xs ys L=false):=Hi (by cases hv:ctB xs ys L with | false=>rfl | true=>exact absurd (HZ.out.2 hv) h);clear h;have h0:Hid (Q=false):=Hi (by rw [HQ.out,g0.out,r0.out];simp);clear oA oB;replace b0:=Bb (Bk.al b0 _) a0;obtain ⟨s2,l3,t2,m3,u2,o3⟩:=Bk.h3 b0;obtain ⟨a4,b4,c4⟩:=Bk.g3 (Bk.t3 b0 (.slice none 0 0) (.slice none 0 0) (.slice none 0 0));have tt:=(bst (bst (bst f0 (w.heap.size+1) 0 (by omega) (.slice none 0 0)) (w.heap.size+1) 1 (by omega) (.slice none 0 0)) (w.heap.size+1) 2 (by omega) (.slice none 0 0));go_wp2
  exact bodyPost_ret (v:=.tuple #[.agg #[.slice none 0 0,.slice none 0 0,.slice none 0 0],.bool false]) (by simp [results,Try.results12,go_sem,a4,b4,c4]) rfl (by exact ⟨prs_no h0,tt⟩)
theorem exX_pos {d:Nat} {W:World} {P:Nat→Prop} {n:En} {e:Ex} (h:ExX d W P n e):∃ d',d=d'+1:=by
 cases d with
 | zero=>cases h
 | succ d=>exact ⟨d,rfl⟩
theorem stX_pos {d:Nat} {W:World} {P:Nat→Prop} {n:Sn} {e:St} (h:StX d W P n e):∃ d',d=d'+1:=by
 cases d with
 | zero=>cases h
 | succ d=>exact ⟨d,rfl⟩
theorem markExprS_xof (d:Nat) (IH0:∀ d',d=d'+1→∀ (P:Nat→Prop) (u:Value) (L:List Ex) (k:Int) (w:World),RowD enc 3 49 (ExX d') w P u L→0≤k→k+2*(exNs L:Int)≤1000000000→Calls Try.prog 67 #[u,.int .i64 k] w fun r w'=>MxE d' P u L k w r w') (P:Nat→Prop) (u:Value) (L:List Ex) (k:Int) (w:World) (hx:RowD enc 3 49 (ExX d) w P u L) (h0:0≤k) (hk:k+2*(exNs L:Int)≤1000000000):Calls Try.prog 67 #[u,.int .i64 k] w fun r w'=>MxE d P u L k w r w':=by
 have IH:=Hi IH0;clear IH0;obtain ⟨pu,cu,rfl⟩:=rowD_shape hx;have t1:=rowD_len hx;obtain ⟨M,j0⟩:∃ M,M=mrL k L:=⟨_,rfl⟩;have g1:Hid (∀ j (h:j < L.length) (h2:j < M.length),M[j]=mrE (k+2*(exNs (L.take j):Int)) L[j]):=Hi (fun j h h2=>by subst j0;exact mrL_get L k j h h2);have g0:Hid (M.length=L.length):=Hi (by rw [j0];exact mrL_len k L);have i1:=Hi j0;clear j0;have k1:=Hi (fun j (h:j < L.length)=>Ai (exNs_take h) (exNs_le L (j+1) h));have j1:=Hi (exNs_all L);have d0:RowD enc 3 49 (ExX d) w P (.slice pu L.length cu) (mix 0 M L):=by unfold mix;simpa using hx
 clear hx;go_enter Try.func67,Try.ntmps67
 go_wp2
 go_loopw [1,5] (fun m i wr=>∃ (j:Nat) (x:Int),j≤L.length∧i=.int .i64 j∧m=.int .i64 x∧Hid (x=k+2*(exNs (L.take j):Int))∧RowD enc 3 49 (ExX d) wr P (.slice pu L.length cu) (mix j M L)∧Chg P w wr) (fun _ i _=>L.length-(intOf i).toNat)
 case atStart=>exact ⟨0,k,Nat.zero_le _,rfl,rfl,Hi (by simp [exNs,szML]),d0,Chg.refl _ _⟩
 case round =>
  obtain ⟨j,x,hj,rfl,rfl,HX,hR,hC⟩:=hrel;clear d0;by_cases hlt:j < L.length
  ·have p1:(j:Int) < (L.length:Int):=by omega
   obtain ⟨p0,a1⟩:=k1.out j hlt;rw [p0] at a1;have s0:=Hi p0;clear p0;have q1:=HX.out;have v1:0≤x:=by omega
   have r1:x+2*(1+(exN L[j]:Int))≤1000000000:=by omega
   clear a1 q1;have b0:=mix_len j g0.out hj;have m0:j < M.length:=by rw [g0.out];exact hlt
   obtain ⟨bs,rs,A,n,i0,ho,hn,hA,hP,x0⟩:=rowD_open hR j (by rw [b0];exact hlt);rw [mix_get g0.out hlt] at hn;rw [b0] at ho
   have b1:Hid (∀ W' n',Chg (fun q=>A q∨(Value.slice pu L.length cu).ownBlock=some q) wr W'→W'.ownsRow bs 49 3 (.slice pu L.length cu) L.length (rows enc (rs.set j n'))→ExX d W' A n' (mrE x L[j])→RowD enc 3 49 (ExX d) W' P (.slice pu L.length cu) (mix (j+1) M L)):=Hi (fun W' n' h1 h2 h3=>by
    have h4:=x0 W' n' M[j] (kpX d) h1 (by rw [b0];exact h2) (by rw [g1.out j hlt m0,← HX.out];exact h3);rw [mix_set g0.out hlt m0] at h4;exact h4)
   clear x0 hR b0 m0;obtain ⟨g,c9,z0⟩:∃ g c9,Value.slice pu L.length cu=.slice (some ⟨g,0,none⟩) L.length c9:=own_pos ho (by omega);simp only [Value.slice.injEq,true_and] at z0;obtain ⟨rfl,rfl⟩:=z0;have l1:Hid (∀ q,(A q∨(Value.slice (some ⟨g,0,none⟩) L.length cu).ownBlock=some q)→P q):=Hi (fun q h=>h.elim (fun h=>(hA q h).1) (fun h=>(hP q h).1));have t0:∀ q,A q→¬q=g:=fun q h e=>(hA q h).2.2 (by rw [e];rfl)
   have s1:=(hP g rfl).2;clear hP hA;generalize L[j]=y at *
   obtain ⟨d',hd⟩:=exX_pos hn;have o1:=Hi (IH.out d' hd);obtain ⟨ya,yb,yl⟩:=y;subst hd;obtain ⟨_,_,a0⟩:=hn;simp only [exN] at r1 s0;have e0:Chg (fun q=>A q∨q=g) wr wr:=Chg.refl _ _;have c0:wr.cell? ⟨g,j*3,none⟩=some (.int .i64 (n.k)):=by have h:=own_row enc_len ho j (by simpa using i0) 0 (by omega);rw [List.getElem_set_self] at h;exact h
   have f0:wr.frozen? ⟨g,j*3,none⟩=false:=ho.frozenAt _;have c1:wr.cell? ⟨g,j*3+1,none⟩=some (.int .i64 (n.v)):=by have h:=own_row enc_len ho j (by simpa using i0) 1 (by omega);rw [List.getElem_set_self] at h;exact h
   have f1:wr.frozen? ⟨g,j*3+1,none⟩=false:=ho.frozenAt _;have c2:wr.cell? ⟨g,j*3+2,none⟩=some (.slice n.p n.n n.c):=by have h:=own_row enc_len ho j (by simpa using i0) 2 (by omega);rw [List.getElem_set_self] at h;exact h
   have l0:g < wr.heap.size:=Lc c2;have o0:World.ownsRow (World.setCell (World.setCell wr ⟨g,j*3,none⟩ (.int .i64 (x))) ⟨g,j*3+1,none⟩ (.int .i64 (x+1))) bs 49 3 (.slice (some ⟨g,0,none⟩) L.length cu) L.length (rows enc (rs.set j ⟨x,x+1,n.p,n.n,n.c⟩)):=(own_num enc_len (m:=_) (own_num enc_len (m:=_) ho i0 0 (by omega) (.int .i64 (x)) ⟨x,n.v,n.p,n.n,n.c⟩ rfl) i0 1 (by omega) (.int .i64 (x+1)) ⟨x,x+1,n.p,n.n,n.c⟩ rfl);have n0:Chg (fun q=>q=g) wr (World.setCell (World.setCell wr ⟨g,j*3,none⟩ (.int .i64 (x))) ⟨g,j*3+1,none⟩ (.int .i64 (x+1))):=(((Chg.refl (fun q=>q=g) wr).setCell g (j*3) (.int .i64 (x)) (fun _=>rfl)).setCell g (j*3+1) (.int .i64 (x+1)) (fun _=>rfl));replace a0:=rowD_keep a0 (kpX d') n0 (fun q h _ e=>t0 q h e) (fun _ h _=>h);have v0:=e0.trans (n0.mono (fun q _ h=>Or.inr h));clear e0 n0 ho;have r0:=Hi o0;have q0:=Hi v0;clear o0 v0;go_wp2_with fail
   refine (o1.out A _ yl (x+1+1) _ a0 (by omega) (by omega)).mono ?_;rintro e w1 ⟨rfl,w0,k0⟩;clear a0 c0 c1 c2 f0 f1 l0;have e1:=Hi w0;clear w0;have y0:=Ow r0.out k0 (fun q hq h=>t0 q h (Si hq).symm);clear r0;have e0:=q0.out.trans (k0.mono (fun q _ h=>Or.inl (h)));clear q0 k0;have HN:Hid (RowD enc 3 49 (ExX (d'+1)) w1 P (.slice (some ⟨g,0,none⟩) L.length cu) (mix (j+1) M L)):=Hi (b1.out w1 ⟨x,x+1,n.p,n.n,n.c⟩ (e0.mono (fun q _ h=>h.imp id (fun h=>by rw [h];rfl))) y0 ⟨rfl,rfl,by have h:=e1.out;rw [show x+1+1=x+2 by omega] at h;exact h⟩);have d1:Hid (Chg P w w1):=Hi (hC.trans (e0.mono (fun q _ h=>l1.out q (h.imp id (fun h=>by rw [h];rfl)))));have m1:Hid (x+1+1+2*(exNs yl:Int)=k+2*(exNs (L.take (j+1)):Int)):=Hi (by rw [s0.out];have:=HX.out;omega);clear e0 hC y0;go_wp2
   go_roundw
   case rel=>exact ⟨j+1,_,by omega,by go_num,rfl,m1,HN.out,d1.out⟩
   case measure=>simp [intOf];omega
  have e:j=L.length:=by omega
  subst e;have p1:decide (((L.length:Nat):Int) < (L.length:Int))=false:=decide_eq_false (by omega);rw [mix_all g0.out] at hR;have HR:=Hi hR;clear hR;have n1:Hid (x=k+2*(exNs L:Int)):=Hi (by have:=HX.out;rw [j1.out] at this;exact this);go_wp2
  go_ret
  exact (by unfold MxE;rw [← i1.out];exact ⟨by rw [n1.out];rfl,HR.out,hC⟩)
theorem markExprS_x:∀ (d:Nat) (P:Nat→Prop) (u:Value) (L:List Ex) (k:Int) (w:World),RowD enc 3 49 (ExX d) w P u L→0≤k→k+2*(exNs L:Int)≤1000000000→Calls Try.prog 67 #[u,.int .i64 k] w fun r w'=>MxE d P u L k w r w':=by
 intro d
 induction d with
 | zero=>exact markExprS_xof 0 (fun d' h=>by omega)
 | succ d ih =>
  refine markExprS_xof (d+1) (fun d' h=>?_);obtain rfl:d=d':=by omega
  exact ih
end Go.Proofs.Ytlckklglbodgbaa
