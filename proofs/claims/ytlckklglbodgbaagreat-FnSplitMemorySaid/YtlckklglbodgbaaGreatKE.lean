/-
  Parts of the proofs of the laws FnPairMemory,FnSplitMemory.
-/
import Derived.Test.YtlckklglbodgbaaGreatKC
set_option maxHeartbeats 12800000
set_option maxRecDepth 100000
set_option linter.all false
namespace Go.Proofs.YtlckklglbodgbaaGreat
open Go.RowKit
def AnyII (w:World) (r:Ending) (w':World):Prop:=∃ c a:Int,r=.returned (.tuple #[.int .i64 c,.int .i64 a])∧Below w.heap.size w w'
theorem stOk_pos {nv na d:Nat} {s:St} (h:stOk nv na d s=true):∃ e,d=e+1:=by
  cases d with
  | zero=>simp [stOk] at h
  | succ d=>exact ⟨d,rfl⟩
theorem stAt_pos {w:World} {A:Nat→Prop} {D:Nat} {n:Sn} {s:St} (h:StAt w A D n s):∃ e,D=e+1:=by
  cases D with
  | zero=>cases h
  | succ d=>exact ⟨d,rfl⟩
theorem stAt_val {w:World} {A:Nat→Prop} {D:Nat} {n:Sn} {s:St} (h:StAt w A (D+1) n s):n.k=s.k∧(∃ D1,ExAt w A D1 n.val s.val)∧BlAt w A D (.slice n.bp n.bn n.bc) s.body∧BlAt w A D (.slice n.ep n.en n.ec) s.els:=by
  obtain ⟨k,t,ix,val,c,body,els⟩:=s;obtain ⟨h1,_,_,_,h5,h6,h7⟩:=h;exact ⟨h1,h5,h6,h7⟩
theorem stOk_val {nv na d:Nat} {s:St} (h:stOk nv na (d+1) s=true) (hk:s.k=3):exOk nv na 5 s.val=true:=by
  obtain ⟨k,t,ix,val,c,a0,b0⟩:=s;rcases st_cases h with ⟨h1,_,_,h4,_⟩ | ⟨h1,_⟩ | ⟨_,h4,_⟩ | ⟨h1,_⟩
  · exact h4
  · simp only [St.k] at hk;omega
  · exact h4
  simp only [St.k] at hk;omega
theorem l4Block_of (xs ys:List Int) (pv pa pu:Option Addr) (cv ca nu cu:Nat) (d:Nat) (IH0:∀ dd,d=dd+1→∀ (A:Nat→Prop) (D:Nat) (u:Value) (L:List St) (pc at0:Int) (w:World),Reads w 1 (.slice pv xs.length cv) xs.length (ints xs)→Reads w 1 (.slice pa ys.length ca) ys.length (ints ys)→BlAt w A D u L→L.all (stOk xs.length ys.length dd)=true→Calls Tryz.prog 89 #[.agg #[.slice pv xs.length cv,.slice pa ys.length ca,.slice pu nu cu],u,.int .i64 pc,.int .i64 at0,.bool false] w fun r w'=>AnyII w r w')
    (A:Nat→Prop) (D:Nat) (u:Value) (L:List St) (pc at0:Int) (w:World) (hr:Reads w 1 (.slice pv xs.length cv) xs.length (ints xs)) (hs:Reads w 1 (.slice pa ys.length ca) ys.length (ints ys)) (hx:BlAt w A D u L) (hok:L.all (stOk xs.length ys.length d)=true) :
    Calls Tryz.prog 89 #[.agg #[.slice pv xs.length cv,.slice pa ys.length ca,.slice pu nu cu],u,.int .i64 pc,.int .i64 at0,.bool false] w fun r w'=>AnyII w r w':=by
  obtain ⟨pl,cl,rfl⟩:=RowOf.shape hx;have HX:=Hi (fun W (hW:Below w.heap.size w W)=>szSt_at (hx.below hW));have h2:=Hi (fun W (hW:Below w.heap.size w W)=>Ai (hr.below hW) (hs.below hW));have d2:=Hi (fun k (h:k < L.length)=>List.all_eq_true.1 hok _ (List.getElem_mem h));have a3:L.length≤9223372036854775807:=by obtain ⟨_,_,h,_⟩:=hx;exact h.2.1
  have IH:=Hi IH0;clear IH0 hr hs hx hok;go_enter Tryz.func89,Tryz.ntmps89
  go_upto_region 1 with (fail)
  generalize hnw:World.alloc _ _=w1;have hb:=nmh hnw;clear hnw
  have x0:=hb.size;simp only [Sa] at x0;have t0:=Bb (Bk.n3 (w.heap.size)) hb;have j0:=btr (bal (Bs w) (.cells #[.slice pv xs.length cv,.slice pa ys.length ca,.slice pu nu cu] 26)) hb;clear hb;have q3:=Bk.lz t0;obtain ⟨q2,j3,r2,k3,s2,l3⟩:=Bk.h3 t0;have HC:=Hi (fun W (hW:Below w1.heap.size w1 W)=>show _∧_∧_ from ⟨Kc hW q2,Kc hW r2,Kc hW s2⟩);have v2:=Hi j0;clear j0 t0 q2 j3 r2 k3 s2 l3;go_wp2_with fail
  go_loopw [3,12] (fun m i wr=>∃ (k:Nat) (z:Int),k≤L.length∧i=.int .i64 k∧m=.int .i64 z∧Below w1.heap.size w1 wr) (fun _ i _=>L.length-(intOf i).toNat)
  case atStart=>exact ⟨0,at0,Nat.zero_le _,rfl,rfl,Bs _⟩
  case round =>
    obtain ⟨k,z,hk,rfl,rfl,hB⟩:=hrel;obtain ⟨c0,c1,c2⟩:=HC.out _ hB;have p3:=Lc c0;have n0:=btr v2.out hB;have o3:=hB.size;by_cases hlt:k < L.length
    · have b3:(k:Int) < (L.length:Int):=by omega
      obtain ⟨kb,ko,m,hp,m3,hm,e0,e1,e2,e3,e4,e5,e6,e7,e8,e9,l0⟩:=HX.out wr n0 k hlt;subst hp;have o0:=d2.out k hlt;clear HX;generalize L[k]=y at *
      obtain ⟨dd,w0⟩:=stOk_pos o0;have s0:=Hi (IH.out dd w0);clear IH;obtain ⟨E,rfl⟩:=stAt_pos hm;rw [w0] at o0;clear w0;have m0:=Hi (fun W (hW:Below wr.heap.size wr W)=>h2.out _ (btr n0 hW));have r0:=Hi (fun W (hW:Below wr.heap.size wr W)=>l4Own_any xs ys pv pa pu cv ca nu cu dd A (E+1) m y pc W (m0.out W hW).1 (m0.out W hW).2 (StAt.keep (S:=fun _=>False) (Cb hW) (fun _ _ _=>id) (fun _ h _=>h) Lr hm) o0);obtain ⟨k2,⟨D1,hv⟩,i2,j2⟩:=stAt_val hm;have v0:=stOk_bodies o0;have t2:=Hi (fun (h3:m.k=3) W (hW:Below wr.heap.size wr W)=>l4Label_any xs ys pv pa pu cv ca nu cu 5 A D1 m.val y.val W (m0.out W hW).1 (m0.out W hW).2 (hv.below hW) (stOk_val o0 (k2.symm.trans h3)));have z1:=Hi (fun (pc at0:Int) W (hW:Below wr.heap.size wr W)=>s0.out A E _ y.body pc at0 W (m0.out W hW).1 (m0.out W hW).2 (i2.below hW) v0.1);have b2:=Hi (fun (pc at0:Int) W (hW:Below wr.heap.size wr W)=>s0.out A E _ y.els pc at0 W (m0.out W hW).1 (m0.out W hW).2 (j2.below hW) v0.2);clear hm o0 k2 hv i2 j2 v0 s0 m0;have ke:=Lc e0;go_wp2_with fail
      refine (r0.out _ (bal (Bs wr) (.cells #[.int .i64 m.k,.int .i64 m.t,.int .i64 m.ix.k,.int .i64 m.ix.v,.slice m.ix.p m.ix.n m.ix.c,.int .i64 m.val.k,.int .i64 m.val.v,.slice m.val.p m.val.n m.val.c,.int .i64 m.c,.slice m.bp m.bn m.bc,.slice m.ep m.en m.ec] 75))).mono ?_;rintro e w2 ⟨r,rfl,hb⟩;have k0:=btr (bal (Bs wr) (.cells #[.int .i64 m.k,.int .i64 m.t,.int .i64 m.ix.k,.int .i64 m.ix.v,.slice m.ix.p m.ix.n m.ix.c,.int .i64 m.val.k,.int .i64 m.val.v,.slice m.val.p m.val.n m.val.c,.int .i64 m.c,.slice m.bp m.bn m.bc,.slice m.ep m.en m.ec] 75)) hb;have p0:=hb.size;simp only [Sa] at p0;replace c0:=Kc hb (Ac c0 _);replace c1:=Kc hb (Ac c1 _);replace c2:=Kc hb (Ac c2 _);replace e0:=Kc hb (Ac e0 _);replace e1:=Kc hb (Ac e1 _);replace e2:=Kc hb (Ac e2 _);replace e3:=Kc hb (Ac e3 _);replace e4:=Kc hb (Ac e4 _);replace e5:=Kc hb (Ac e5 _);replace e6:=Kc hb (Ac e6 _);replace e7:=Kc hb (Ac e7 _);replace e8:=Kc hb (Ac e8 _);replace e9:=Kc hb (Ac e9 _);replace l0:=Kc hb (Ac l0 _);have h0:=Bb (Bk.n11 (wr.heap.size)) hb;replace j0:=btr (bal n0 _) hb;clear hb;have i0:=k0;clear k0;have c3:=Lc c0;have d3:=Lc e0;have f3:=Bk.lz h0;by_cases hz32:r=0
      · have g3:(r != 0)=false:=by simp [hz32]
        by_cases h3:m.k=3
        · have i3:(m.k == 3)=true:=by simp [h3]
          obtain ⟨z0,m1,b1,n1,d1,o1,f1,p1⟩:=Bk.f4 h0 0 5 6 7 rfl rfl rfl rfl;go_wp2_with fail
          refine (t2.out h3 _ i0).mono ?_;rintro e w3 ⟨rfl,a0⟩;have k0:=btr i0 a0;have l2:=a0.size;clear m1 z0 n1 b1 o1 d1 p1 f1;replace c0:=Kc a0 c0;replace c1:=Kc a0 c1;replace c2:=Kc a0 c2;replace e0:=Kc a0 e0;replace e1:=Kc a0 e1;replace e2:=Kc a0 e2;replace e3:=Kc a0 e3;replace e4:=Kc a0 e4;replace e5:=Kc a0 e5;replace e6:=Kc a0 e6;replace e7:=Kc a0 e7;replace e8:=Kc a0 e8;replace e9:=Kc a0 e9;replace l0:=Kc a0 l0;replace j0:=btr j0 a0;clear i0;have i0:=k0;clear k0;replace h0:=Bb h0 a0;obtain ⟨h1,q1⟩:=Bk.cf h0 9 rfl;go_wp2_with fail
          refine (z1.out _ _ _ i0).mono ?_;rintro e w4 ⟨x1,a1,rfl,b0⟩;have k0:=btr i0 b0;have m2:=b0.size;clear q1 h1;replace c0:=Kc b0 c0;replace c1:=Kc b0 c1;replace c2:=Kc b0 c2;replace e0:=Kc b0 e0;replace e1:=Kc b0 e1;replace e2:=Kc b0 e2;replace e3:=Kc b0 e3;replace e4:=Kc b0 e4;replace e5:=Kc b0 e5;replace e6:=Kc b0 e6;replace e7:=Kc b0 e7;replace e8:=Kc b0 e8;replace e9:=Kc b0 e9;replace l0:=Kc b0 l0;replace j0:=btr j0 b0;clear i0;have i0:=k0;clear k0;by_cases hz58:x1=0
          · have y0:(x1 == 0)=true:=by simp [hz58]
            replace h0:=Bb h0 b0;obtain ⟨i1,r1⟩:=Bk.cf h0 10 rfl;go_wp2_with fail
            refine (b2.out _ _ _ i0).mono ?_;rintro e w5 ⟨y1,g1,rfl,f0⟩;have k0:=btr i0 f0;have n2:=f0.size;clear r1 i1;replace c0:=Kc f0 c0;replace c1:=Kc f0 c1;replace c2:=Kc f0 c2;replace e0:=Kc f0 e0;replace e1:=Kc f0 e1;replace e2:=Kc f0 e2;replace e3:=Kc f0 e3;replace e4:=Kc f0 e4;replace e5:=Kc f0 e5;replace e6:=Kc f0 e6;replace e7:=Kc f0 e7;replace e8:=Kc f0 e8;replace e9:=Kc f0 e9;replace l0:=Kc f0 l0;replace j0:=btr j0 f0;clear i0;have i0:=k0;clear k0;by_cases hz70:y1=0
            · have q0:(y1 != 0)=false:=by simp [hz70]
              have HB:=Hi (btr hB i0);go_wp2
              go_roundw
              case rel=>exact ⟨k+1,_,by omega,by go_num,rfl,HB.out⟩
              case measure=>simp [intOf];omega
            have q0:(y1 != 0)=true:=by simp [hz70]
            have tt:=j0;go_wp2
            exact bodyPost_ret (v:=.tuple #[.int .i64 y1,.int .i64 g1]) (by simp [results,Tryz.results89,go_sem]) rfl (by exact (by unfold AnyII;exact ⟨_,_,rfl,tt⟩))
          have y0:(x1 == 0)=false:=by simp [hz58]
          have q0:(x1 != 0)=true:=by simp [hz58]
          have tt:=j0;go_wp2
          exact bodyPost_ret (v:=.tuple #[.int .i64 x1,.int .i64 a1]) (by simp [results,Tryz.results89,go_sem]) rfl (by exact (by unfold AnyII;exact ⟨_,_,rfl,tt⟩))
        have i3:(m.k == 3)=false:=by simp [h3]
        obtain ⟨j1,s1,k1,t1⟩:=Bk.f2 h0 0 9 rfl rfl;go_wp2_with fail
        refine (z1.out _ _ _ i0).mono ?_;rintro e w3 ⟨x2,a2,rfl,d0⟩;have k0:=btr i0 d0;have o2:=d0.size;clear s1 j1 t1 k1;replace c0:=Kc d0 c0;replace c1:=Kc d0 c1;replace c2:=Kc d0 c2;replace e0:=Kc d0 e0;replace e1:=Kc d0 e1;replace e2:=Kc d0 e2;replace e3:=Kc d0 e3;replace e4:=Kc d0 e4;replace e5:=Kc d0 e5;replace e6:=Kc d0 e6;replace e7:=Kc d0 e7;replace e8:=Kc d0 e8;replace e9:=Kc d0 e9;replace l0:=Kc d0 l0;replace j0:=btr j0 d0;clear i0;have i0:=k0;clear k0;by_cases hz58:x2=0
        · have y0:(x2 == 0)=true:=by simp [hz58]
          replace h0:=Bb h0 d0;obtain ⟨l1,v1⟩:=Bk.cf h0 10 rfl;go_wp2_with fail
          refine (b2.out _ _ _ i0).mono ?_;rintro e w4 ⟨y2,g2,rfl,g0⟩;have k0:=btr i0 g0;have p2:=g0.size;clear v1 l1;replace c0:=Kc g0 c0;replace c1:=Kc g0 c1;replace c2:=Kc g0 c2;replace e0:=Kc g0 e0;replace e1:=Kc g0 e1;replace e2:=Kc g0 e2;replace e3:=Kc g0 e3;replace e4:=Kc g0 e4;replace e5:=Kc g0 e5;replace e6:=Kc g0 e6;replace e7:=Kc g0 e7;replace e8:=Kc g0 e8;replace e9:=Kc g0 e9;replace l0:=Kc g0 l0;replace j0:=btr j0 g0;clear i0;have i0:=k0;clear k0;by_cases hz70:y2=0
          · have q0:(y2 != 0)=false:=by simp [hz70]
            have HB:=Hi (btr hB i0);go_wp2
            go_roundw
            case rel=>exact ⟨k+1,_,by omega,by go_num,rfl,HB.out⟩
            case measure=>simp [intOf];omega
          have q0:(y2 != 0)=true:=by simp [hz70]
          have tt:=j0;go_wp2
          exact bodyPost_ret (v:=.tuple #[.int .i64 y2,.int .i64 g2]) (by simp [results,Tryz.results89,go_sem]) rfl (by exact (by unfold AnyII;exact ⟨_,_,rfl,tt⟩))
        have y0:(x2 == 0)=false:=by simp [hz58]
        have q0:(x2 != 0)=true:=by simp [hz58]
        have tt:=j0;go_wp2
        exact bodyPost_ret (v:=.tuple #[.int .i64 x2,.int .i64 a2]) (by simp [results,Tryz.results89,go_sem]) rfl (by exact (by unfold AnyII;exact ⟨_,_,rfl,tt⟩))
      have g3:(r != 0)=true:=by simp [hz32]
      have tt:=j0;go_wp2
      exact bodyPost_ret (v:=.tuple #[.int .i64 r,.int .i64 z]) (by simp [results,Tryz.results89,go_sem]) rfl (by exact (by unfold AnyII;exact ⟨_,_,rfl,tt⟩))
    have z2:k=L.length:=by omega
    subst z2;have b3:decide (((L.length:Nat):Int) < (L.length:Int))=false:=decide_eq_false (by omega);clear HX d2 IH h2 HC;have tt:=n0;go_wp2
    exact bodyPost_ret (v:=.tuple #[.int .i64 0,.int .i64 z]) (by simp [results,Tryz.results89,go_sem]) rfl (by exact (by unfold AnyII;exact ⟨_,_,rfl,tt⟩))
theorem l4Block_any (xs ys:List Int) (pv pa pu:Option Addr) (cv ca nu cu:Nat):∀ d:Nat,∀ (A:Nat→Prop) (D:Nat) (u:Value) (L:List St) (pc at0:Int) (w:World),Reads w 1 (.slice pv xs.length cv) xs.length (ints xs)→Reads w 1 (.slice pa ys.length ca) ys.length (ints ys)→BlAt w A D u L→L.all (stOk xs.length ys.length d)=true→Calls Tryz.prog 89 #[.agg #[.slice pv xs.length cv,.slice pa ys.length ca,.slice pu nu cu],u,.int .i64 pc,.int .i64 at0,.bool false] w fun r w'=>AnyII w r w':=by
  intro d
  induction d with
  | zero=>exact l4Block_of xs ys pv pa pu cv ca nu cu 0 (fun dd h=>by omega)
  | succ d ih => exact l4Block_of xs ys pv pa pu cv ca nu cu (d + 1) (fun dd h => by obtain rfl : d = dd := by omega
                                                                                     exact ih)
def CkP (xs ys:List Int) (L:List St) (w:World) (r:Ending) (w':World):Prop:=∃ c a:Int,r=.returned (.tuple #[.int .i64 c,.int .i64 a])∧(c=0→pvR xs ys L=true)∧Below w.heap.size w w'
theorem l4Check_any (xs ys:List Int) (A:Nat→Prop) (D:Nat) (va vb u:Value) (L:List St) (w:World) (hr:Reads w 1 va xs.length (ints xs)) (hs:Reads w 1 vb ys.length (ints ys)) (hx:BlAt w A D u L) (hn:stNs L≤1048576) :
    Calls Tryz.prog 62 #[.agg #[va,vb,u],.bool false] w fun r w'=>CkP xs ys L w r w':=by
  obtain ⟨pv,cv,rfl⟩:=reads_shape hr;obtain ⟨pa,ca,rfl⟩:=reads_shape hs;obtain ⟨pu,cu,rfl⟩:=RowOf.shape hx;have HV:=Hi (fun W (hW:Below w.heap.size w W)=>sProgramValid_any _ _ xs ys A D _ L W (hr.below hW) (hs.below hW) (hx.below hW) hn);have HB:=Hi (fun (h:pvR xs ys L=true) W (hW:Below w.heap.size w W)=>l4Block_any xs ys pv pa pu cv ca L.length cu 5 A D _ L 0 0 W (hr.below hW) (hs.below hW) (hx.below hW) (by rw [pvR_spec] at h;simp only [Bool.and_eq_true] at h;exact h.2.1));clear hr hs hx hn;generalize hX:pvR xs ys L=X at *
  have HX:=Hi hX;clear hX;go_enter Tryz.func62,Tryz.ntmps62
  go_wp2_with fail
  refine (HV.out _ (bal (Bs w) (.cells #[.slice pv xs.length cv,.slice pa ys.length ca,.slice pu L.length cu] 26))).mono ?_;rintro e w1 ⟨rfl,hb⟩;have c0:=hb.size;simp only [Sa] at c0;have d0:=Bb (Bk.n3 (w.heap.size)) hb;have a0:=btr (bal (Bs w) (.cells #[.slice pv xs.length cv,.slice pa ys.length ca,.slice pu L.length cu] 26)) hb;clear hb;have n0:=Bk.lz d0
  cases X with
  | false =>
    have tt:=a0;go_wp2
    exact bodyPost_ret (v:=.tuple #[.int .i64 5,.int .i64 (-1)]) (by simp [results,Tryz.results62,go_sem]) rfl (by exact (by unfold CkP;exact ⟨_,_,rfl,fun h=>absurd h (by omega),tt⟩))
  | true =>
    obtain ⟨h0,k0,i0,l0,j0,m0⟩:=Bk.h3 d0;go_wp2_with fail
    refine (HB.out (by first | rfl | trivial) _ a0).mono ?_;rintro e w2 ⟨c,a,rfl,b0⟩;have e0:=b0.size;clear k0 h0 l0 i0 m0 j0;replace a0:=btr a0 b0;by_cases hc:c=0
    · have g0:(c == 0)=true:=by simp [hc]
      have f0:=Hi hc;clear hc;have tt:=a0;go_wp2
      exact bodyPost_ret (v:=.tuple #[.int .i64 c,.int .i64 (-1)]) (by simp [results,Tryz.results62,go_sem]) rfl (by exact (by unfold CkP;exact ⟨_,_,rfl,fun _=>HX.out,tt⟩))
    have g0:(c == 0)=false:=by simp [hc]
    have f0:=Hi hc;clear hc;have tt:=a0;go_wp2
    exact bodyPost_ret (v:=.tuple #[.int .i64 c,.int .i64 a]) (by simp [results,Tryz.results62,go_sem]) rfl (by exact (by unfold CkP;exact ⟨_,_,rfl,fun _=>HX.out,tt⟩))
theorem CheckFlow_any (xs ys:List Int) (A:Nat→Prop) (D:Nat) (va vb u:Value) (L:List St) (w:World) (hr:Reads w 1 va xs.length (ints xs)) (hs:Reads w 1 vb ys.length (ints ys)) (hx:BlAt w A D u L) (hn:stNs L≤1048576) :
    Calls Tryz.prog 79 #[.agg #[va,vb,u]] w fun r w'=>CkP xs ys L w r w':=by
  obtain ⟨pv,cv,rfl⟩:=reads_shape hr;obtain ⟨pa,ca,rfl⟩:=reads_shape hs;obtain ⟨pu,cu,rfl⟩:=RowOf.shape hx;have HV:=Hi (fun W (hW:Below w.heap.size w W)=>l4Check_any xs ys A D _ _ _ L W (hr.below hW) (hs.below hW) (hx.below hW) hn);clear hr hs hx hn;go_enter Tryz.func79,Tryz.ntmps79
  go_wp2_with fail
  refine (HV.out _ (bal (Bs w) (.cells #[.slice pv xs.length cv,.slice pa ys.length ca,.slice pu L.length cu] 26))).mono ?_;rintro e w1 ⟨c,a,rfl,hc,hb⟩;have b0:=Hi hc;clear hc;have a0:=hb.size;simp only [Sa] at a0;have c0:=Bb (Bk.n3 (w.heap.size)) hb;have d0:=btr (bal (Bs w) (.cells #[.slice pv xs.length cv,.slice pa ys.length ca,.slice pu L.length cu] 26)) hb;clear hb;have e0:=Bk.lz c0;have tt:=d0;go_wp2
  exact bodyPost_ret (v:=.tuple #[.int .i64 c,.int .i64 a]) (by simp [results,Tryz.results79,go_sem]) rfl (by exact (by unfold CkP;exact ⟨_,_,rfl,b0.out,tt⟩))
structure ReadsM (w:World) (vx vy:Value) (m:Mm):Prop where
  x:Reads w 1 vx m.vals.length (ints m.vals)
  y:Reads2 ints w vy m.arrs
theorem ReadsM.below {w w':World} {vx vy:Value} {m:Mm} (h:ReadsM w vx vy m) (hb:Below w.heap.size w w'):ReadsM w' vx vy m:=⟨h.x.below hb,h.y.below hb⟩
theorem ReadsM.shape {w:World} {vx vy:Value} {m:Mm} (h:ReadsM w vx vy m):∃ a0 c0 a1 c1,vx=.slice a0 m.vals.length c0∧vy=.slice a1 m.arrs.length c1:=by
  obtain ⟨a0,c0,h0⟩:=reads_shape h.x;obtain ⟨a1,c1,h1⟩:=h.y.shape;exact ⟨a0,c0,a1,c1,h0,h1⟩
structure OwnM (w:World) (base:Nat) (vx vy:Value) (us:List Value) (m:Mm):Prop where
  x:w.ownsRow base 3 1 vx m.vals.length (ints m.vals)
  y:Own2I w base vy us m.arrs
  ap:∀ q,vx.ownBlock=some q→¬OwnB2 vy us q
def OwnBM (vx vy:Value) (us:List Value) (q:Nat):Prop:=vx.ownBlock=some q∨OwnB2 vy us q
section
variable {w w':World} {base base':Nat} {vx vy:Value} {us:List Value} {m:Mm}
theorem OwnM.lt (h:OwnM w base vx vy us m):∀ q,OwnBM vx vy us q→base≤q∧q < w.heap.size:=by
  rintro q (hq | hq)
  · exact h.x.lt q hq
  exact h.y.lt q hq
theorem OwnM.keep (h:OwnM w base vx vy us m) {S:Nat→Prop} (hc:Chg S w w') (hs:∀ q,OwnBM vx vy us q→¬S q):OwnM w' base vx vy us m:=
  ⟨Ow h.x hc (fun q hq=>hs q (Or.inl hq)),h.y.keep hc (fun q hq=>hs q (Or.inr hq)),h.ap⟩
theorem OwnM.below (h:OwnM w base vx vy us m) (hb:Below w.heap.size w w'):OwnM w' base vx vy us m:=h.keep (S:=fun _=>False) (Cb hb) (fun _ _=>id)
theorem OwnM.mono (h:OwnM w base vx vy us m) (hb:base'≤base):OwnM w base' vx vy us m:=⟨Om h.x hb,h.y.mono hb,h.ap⟩
theorem OwnM.reads (h:OwnM w base vx vy us m) (h0:m.vals.length≤1048576) (h1:m.arrs.length≤1048576) (h2:pre2 m.arrs m.arrs.length≤1048576):ReadsM w vx vy m:=
  ⟨Ro h.x (by omega),h.y.reads (by omega) (fun k r hr=>by
    obtain ⟨hk,rfl⟩:=List.getElem?_eq_some_iff.1 hr;have:=pre2_all m.arrs k hk m.arrs.length hk
    omega)⟩
theorem OwnM.shape (h:OwnM w base vx vy us m):∃ a0 c0 a1 c1,vx=.slice a0 m.vals.length c0∧vy=.slice a1 m.arrs.length c1:=by
  obtain ⟨a0,c0,h0⟩:=Oh h.x;obtain ⟨a1,c1,h1⟩:=h.y.shape;exact ⟨a0,c0,a1,c1,h0,h1⟩
end
end Go.Proofs.YtlckklglbodgbaaGreat
namespace Go.Proofs.YtlckklglbodgbaaGreat
open Go.RowKit
theorem own2_one {w:World} {base:Nat} {v:Value} {vs:List Value} {rs:List (List Int)} (h:Own2I w base v vs rs):∀ u ∈ vs,u.oneCell'=true:=by
  intro u hu;obtain ⟨k,hk,rfl⟩:=List.mem_iff_getElem.1 hu;exact own_one (h.row k _ _ (List.getElem?_eq_getElem hk) (List.getElem?_eq_getElem (by rw [← h.len];exact hk)))
theorem own2_outr {w:World} {base:Nat} {v:Value} {vs:List Value} {rs:List (List Int)} (h:Own2I w base v vs rs) (hn:rs.length≤9223372036854775807):Reads w 1 v rs.length vs:=Ro h.out hn
theorem own2_join {w w':World} {base:Nat} {v v' v2:Value} {vs vs2:List Value} {rs rs2:List (List Int)} (h:Own2I w base v vs rs) (k:Own2I w base v2 vs2 rs2) (hap:∀ q,OwnB2 v vs q→¬OwnB2 v2 vs2 q)
    (ho:w'.ownsRow base 23 1 v' (rs.length+rs2.length) (vs++vs2)) (hC:Chg (fun q=>v.ownBlock=some q) w w'):Own2I w' base v' (vs++vs2) (rs++rs2):=by
  have hl:=h.len;have he:(23:TypeId)≠3:=by decide
  have a0:∀ (k:Nat) (x:Value),(vs++vs2)[k]? = some x→(k < rs.length∧vs[k]? = some x)∨(rs.length≤k∧vs2[k-rs.length]? = some x):=by
    intro k x hx;by_cases hk:k < vs.length
    · rw [List.getElem?_append_left hk] at hx;exact Or.inl ⟨by omega,hx⟩
    rw [List.getElem?_append_right (by omega)] at hx;exact Or.inr ⟨by omega,by rw [← hl];exact hx⟩
  refine ⟨by rw [List.length_append,List.length_append,h.len,k.len],by rw [List.length_append];exact ho,?_,?_⟩
  · intro j x r' hx hr'
    rcases a0 j x hx with ⟨hk,hx⟩ | ⟨hk,hx⟩
    · rw [List.getElem?_append_left hk] at hr'
      exact Ow (h.row j x r' hx hr') hC (fun q hq e=>h.outer he j x hx q e hq)
    rw [List.getElem?_append_right hk] at hr';exact Ow (k.row _ x r' hx hr') hC (fun q hq e=>hap q (Or.inl e) (Or.inr ⟨_,x,hx,hq⟩))
  intro i j u1 u2 h1 h2 d0 q b0 c0;rcases a0 i u1 h1 with ⟨ki,k1⟩ | ⟨ki,k1⟩
  · rcases a0 j u2 h2 with ⟨kj,k2⟩ | ⟨kj,k2⟩
    · exact h.apart i j u1 u2 k1 k2 d0 q b0 c0
    exact hap q (Or.inr ⟨i,u1,k1,b0⟩) (Or.inr ⟨_,u2,k2,c0⟩)
  rcases a0 j u2 h2 with ⟨kj,k2⟩ | ⟨kj,k2⟩
  · exact hap q (Or.inr ⟨j,u2,k2,c0⟩) (Or.inr ⟨_,u1,k1,b0⟩)
  exact k.apart _ _ u1 u2 k1 k2 (by omega) q b0 c0
theorem newOr_blk {w:World} {v v':Value} (h:NewOr w v v'):∀ q,v'.ownBlock=some q→v.ownBlock=some q∨w.heap.size≤q:=by
  intro q hq;rcases h with h | ⟨g,h,hg⟩
  · exact Or.inl (h ▸ hq)
  rw [hq] at h;cases h;exact Or.inr hg
section
variable {w w':World} {base:Nat} {ax ay bx by' v':Value} {us ub:List Value} {a b:Mm}
theorem valsJoin (h:OwnM w base ax ay us a) (k:OwnM w base bx by' ub b) (hap:∀ q,OwnBM ax ay us q→¬OwnBM bx by' ub q) (ho:w'.ownsRow base 3 1 v' (a.vals.length+b.vals.length) (ints a.vals++ints b.vals)) (hC:Chg (fun q=>ax.ownBlock=some q) w w') (hN:NewOr w ax v') :
    OwnM w' base v' ay us ⟨a.vals++b.vals,a.arrs⟩∧OwnM w' base bx by' ub b∧∀ q,OwnBM v' ay us q→¬OwnBM bx by' ub q:=by
  refine ⟨⟨?_,h.y.keep hC (fun q hq e=>h.ap q e hq),?_⟩,k.keep hC (fun q hq e=>hap q (Or.inl e) hq),?_⟩
  · show w'.ownsRow base 3 1 v' (a.vals++b.vals).length (ints (a.vals++b.vals))
    rw [List.length_append,ints_append];exact ho
  · intro q hq h2
    rcases newOr_blk hN q hq with h3 | h3
    · exact h.ap q h3 h2
    have:=(h.y.lt q h2).2;omega
  rintro q (hq | hq) h2
  · rcases newOr_blk hN q hq with h3 | h3
    · exact hap q (Or.inl h3) h2
    have:=(k.lt q h2).2;omega
  exact hap q (Or.inr hq) h2
theorem arrsJoin (h:OwnM w base ax ay us a) (k:OwnM w base bx by' ub b) (hap:∀ q,OwnBM ax ay us q→¬OwnBM bx by' ub q) (ho:w'.ownsRow base 23 1 v' (a.arrs.length+b.arrs.length) (us++ub)) (hC:Chg (fun q=>ay.ownBlock=some q) w w') (hN:NewOr w ay v') :
    OwnM w' base ax v' (us++ub) ⟨a.vals,a.arrs++b.arrs⟩∧w'.ownsRow base 3 1 bx b.vals.length (ints b.vals)∧∀ q,OwnBM ax v' (us++ub) q→¬bx.ownBlock=some q:=by
  have a0:∀ q,OwnB2 v' (us++ub) q→w.heap.size≤q∨OwnB2 ay us q∨∃ (k:Nat) (u:Value),ub[k]? = some u∧u.ownBlock=some q:=by
    rintro q (hq | ⟨j,u,hu,hq⟩)
    · rcases newOr_blk hN q hq with h3 | h3
      · exact Or.inr (Or.inl (Or.inl h3))
      exact Or.inl h3
    by_cases hj:j < us.length
    · rw [List.getElem?_append_left hj] at hu;exact Or.inr (Or.inl (Or.inr ⟨j,u,hu,hq⟩))
    rw [List.getElem?_append_right (by omega)] at hu;exact Or.inr (Or.inr ⟨_,u,hu,hq⟩)
  refine ⟨⟨Ow h.x hC (fun q hq e=>h.ap q hq (Or.inl e)),own2_join h.y k.y (fun q h1 h2=>hap q (Or.inr h1) (Or.inr h2)) ho hC,?_⟩,Ow k.x hC (fun q hq e=>hap q (Or.inr (Or.inl e)) (Or.inl hq)),?_⟩
  · intro q hq h2
    rcases a0 q h2 with h3 | h3 | ⟨j,u,hu,h3⟩
    · have:=(h.x.lt q hq).2;omega
    · exact h.ap q hq h3
    exact hap q (Or.inl hq) (Or.inr (Or.inr ⟨j,u,hu,h3⟩))
  rintro q (hq | hq) h2
  · exact hap q (Or.inl hq) (Or.inl h2)
  rcases a0 q hq with h3 | h3 | ⟨j,u,hu,h3⟩
  · have:=(k.x.lt q h2).2;omega
  · exact hap q (Or.inr h3) (Or.inl h2)
  exact k.ap q h2 (Or.inr ⟨j,u,hu,h3⟩)
theorem valsJoin2 {zs:List Int} (h:OwnM w base ax ay us a) (ho:w'.ownsRow base 3 1 v' (a.vals.length+zs.length) (ints a.vals++ints zs)) (hC:Chg (fun q=>ax.ownBlock=some q) w w') (hN:NewOr w ax v') :
    OwnM w' base v' ay us ⟨a.vals++zs,a.arrs⟩:=by
  refine ⟨?_,h.y.keep hC (fun q hq e=>h.ap q e hq),?_⟩
  · show w'.ownsRow base 3 1 v' (a.vals++zs).length (ints (a.vals++zs))
    rw [List.length_append,ints_append];exact ho
  intro q hq h2;rcases newOr_blk hN q hq with h3 | h3
  · exact h.ap q h3 h2
  have:=(h.y.lt q h2).2;omega
end
def pairR (ok:Bool) (a b:Mm):Mm:=match ok with | true=>⟨a.vals++b.vals,a.arrs++b.arrs⟩ | false=>⟨[],[]⟩
theorem ownM_nil (w:World) (base:Nat):OwnM w base (.slice none 0 0) (.slice none 0 0) [] ⟨[],[]⟩:=⟨World.ownsRow_nil _ _ _ _,⟨rfl,World.ownsRow_nil _ _ _ _,fun k u r h=>(by cases h),fun j k u u' h=>(by cases h)⟩,fun q h=>(by cases h)⟩
def MemP (base:Nat) (ok:Bool) (m:Mm) (r:Ending) (w':World):Prop:=∃ ux uy us,r=.returned (.tuple #[.agg #[ux,uy],.bool ok])∧OwnM w' base ux uy us m
end Go.Proofs.YtlckklglbodgbaaGreat
