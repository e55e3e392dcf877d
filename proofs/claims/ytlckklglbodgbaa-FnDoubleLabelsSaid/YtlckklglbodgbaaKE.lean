/-
  Parts of the proofs of the laws FnDoubleLabels.
-/
import Derived.Test.YtlckklglbodgbaaKC
set_option linter.all false
namespace Go.Proofs.Ytlckklglbodgbaa
open Go.RowKit
def AnyII (w:World) (r:Ending) (w':World):Prop:=∃ c a:Int,r=.returned (.tuple #[.int .i64 c,.int .i64 a])∧Below w.heap.size w w'
theorem stOk_pos {nv na d:Nat} {s:St} (h:stOk nv na d s=true):∃ e,d=e+1:=by
  cases d with
  | zero=>simp [stOk] at h
  | succ d=>exact ⟨d,rfl⟩
theorem stAt_pos {w:World} {A:Nat→Prop} {D:Nat} {n:Sn} {s:St} (h:StAt w A D n s):∃ e,D=e+1:=by
  cases D with
  | zero=>cases h
  | succ d=>exact ⟨d,rfl⟩
theorem stAt_val {w:World} {A:Nat→Prop} {D:Nat} {n:Sn} {s:St} (h:StAt w A (D+1) n s):n.k=s.k∧(∃ D1,ExAt w A D1 n.val s.val)∧BlAt w A D (.slice n.bp n.bn n.bc) s.body∧BlAt w A D (.slice n.ep n.en n.ec) s.els:=by
  obtain ⟨k,t,ix,val,c,body,els⟩:=s;obtain ⟨h1,_,_,_,h5,h6,h7⟩:=h;exact ⟨h1,h5,h6,h7⟩
theorem stOk_val {nv na d:Nat} {s:St} (h:stOk nv na (d+1) s=true) (hk:s.k=3):exOk nv na 5 s.val=true:=by
  obtain ⟨k,t,ix,val,c,body,els⟩:=s;rcases st_cases h with ⟨h1,_,_,h4,_⟩ | ⟨h1,_⟩ | ⟨_,h4,_⟩ | ⟨h1,_⟩
  · exact h4
  · simp only [St.k] at hk;omega
  · exact h4
  simp only [St.k] at hk;omega
set_option maxHeartbeats 6400000 in
set_option maxRecDepth 100000 in
theorem l4Block_of (xs ys:List Int) (pv pa pu:Option Addr) (cv ca nu cu:Nat) (d:Nat) (IH0:∀ dd,d=dd+1→∀ (A:Nat→Prop) (D:Nat) (u:Value) (L:List St) (pc at0:Int) (w:World),Reads w 1 (.slice pv xs.length cv) xs.length (ints xs)→Reads w 1 (.slice pa ys.length ca) ys.length (ints ys)→BlAt w A D u L→L.all (stOk xs.length ys.length dd)=true→Calls Try.prog 86 #[.agg #[.slice pv xs.length cv,.slice pa ys.length ca,.slice pu nu cu],u,.int .i64 pc,.int .i64 at0,.bool false] w fun r w'=>AnyII w r w')
    (A:Nat→Prop) (D:Nat) (u:Value) (L:List St) (pc at0:Int) (w:World) (hr:Reads w 1 (.slice pv xs.length cv) xs.length (ints xs)) (hs:Reads w 1 (.slice pa ys.length ca) ys.length (ints ys)) (hx:BlAt w A D u L) (hok:L.all (stOk xs.length ys.length d)=true) :
    Calls Try.prog 86 #[.agg #[.slice pv xs.length cv,.slice pa ys.length ca,.slice pu nu cu],u,.int .i64 pc,.int .i64 at0,.bool false] w fun r w'=>AnyII w r w':=by
  obtain ⟨pl,cl,rfl⟩:=RowOf.shape hx;have HX:=Hi (fun W (hW:Below w.heap.size w W)=>szSt_at (hx.below hW));have t1:=Hi (fun W (hW:Below w.heap.size w W)=>Ai (hr.below hW) (hs.below hW));have s1:=Hi (fun k (h:k < L.length)=>List.all_eq_true.1 hok _ (List.getElem_mem h));have q2:L.length≤9223372036854775807:=by obtain ⟨_,_,h,_⟩:=hx;exact h.2.1
  have IH:=Hi IH0;clear IH0 hr hs hx hok;go_enter Try.func86,Try.ntmps86
  go_upto_region 1 with (fail)
  generalize hnw:World.alloc _ _=w1;have hb:=nmh hnw;clear hnw
  have r0:=hb.size;simp only [Sa] at r0;have o0:Bk w1 (w.heap.size) [.slice pv xs.length cv,.slice pa ys.length ca,.slice pu nu cu]:=Bb (Bk.nw (by simp) rfl) hb;have d0:=btr (bal (Bs w) (.cells #[.slice pv xs.length cv,.slice pa ys.length ca,.slice pu nu cu] 26)) hb;clear hb;have j3:=Bk.lz o0;obtain ⟨k2,a3,l2,b3,m2,c3⟩:=Bk.f3 o0 0 1 2 rfl rfl rfl;have HC:=Hi (fun W (hW:Below w1.heap.size w1 W)=>show _∧_∧_ from ⟨Kc hW k2,Kc hW l2,Kc hW m2⟩);have o2:=Hi d0;clear d0 o0 k2 a3 l2 b3 m2 c3;go_wp2_with fail
  go_loopw [3,12] (fun m i wr=>∃ (k:Nat) (z:Int),k≤L.length∧i=.int .i64 k∧m=.int .i64 z∧Below w1.heap.size w1 wr) (fun _ i _=>L.length-(intOf i).toNat)
  case atStart=>exact ⟨0,at0,Nat.zero_le _,rfl,rfl,Bs _⟩
  case round =>
    obtain ⟨k,z,hk,rfl,rfl,hB⟩:=hrel;obtain ⟨c0,c1,c2⟩:=HC.out _ hB;have i3:=Lc c0;have i0:=btr o2.out hB;have g3:=hB.size;by_cases hlt:k < L.length
    · have r2:(k:Int) < (L.length:Int):=by omega
      obtain ⟨kb,ko,m,hp,d3,hm,e0,e1,e2,e3,e4,e5,e6,e7,e8,e9,g0⟩:=HX.out wr i0 k hlt;subst hp;have j0:=s1.out k hlt;clear HX;generalize L[k]=y at *
      obtain ⟨dd,q0⟩:=stOk_pos j0;have n0:=Hi (IH.out dd q0);clear IH;obtain ⟨E,rfl⟩:=stAt_pos hm;rw [q0] at j0;clear q0;have h0:=Hi (fun W (hW:Below wr.heap.size wr W)=>t1.out _ (btr i0 hW));have m0:=Hi (fun W (hW:Below wr.heap.size wr W)=>l4Own_any xs ys pv pa pu cv ca nu cu dd A (E+1) m y pc W (h0.out W hW).1 (h0.out W hW).2 (StAt.keep (S:=fun _=>False) (Cb hW) (fun _ _ _=>id) (fun _ h _=>h) Lr hm) j0);obtain ⟨z1,⟨D1,hv⟩,u1,v1⟩:=stAt_val hm;have p0:=stOk_bodies j0;have n2:=Hi (fun (h3:m.k=3) W (hW:Below wr.heap.size wr W)=>l4Label_any xs ys pv pa pu cv ca nu cu 5 A D1 m.val y.val W (h0.out W hW).1 (h0.out W hW).2 (hv.below hW) (stOk_val j0 (z1.symm.trans h3)));have q1:=Hi (fun (pc at0:Int) W (hW:Below wr.heap.size wr W)=>n0.out A E _ y.body pc at0 W (h0.out W hW).1 (h0.out W hW).2 (u1.below hW) p0.1);have r1:=Hi (fun (pc at0:Int) W (hW:Below wr.heap.size wr W)=>n0.out A E _ y.els pc at0 W (h0.out W hW).1 (h0.out W hW).2 (v1.below hW) p0.2);clear hm j0 z1 hv u1 v1 p0 n0 h0;have ke:=Lc e0;go_wp2_with fail
      refine (m0.out _ (bal (Bs wr) (.cells #[.int .i64 m.k,.int .i64 m.t,.int .i64 m.ix.k,.int .i64 m.ix.v,.slice m.ix.p m.ix.n m.ix.c,.int .i64 m.val.k,.int .i64 m.val.v,.slice m.val.p m.val.n m.val.c,.int .i64 m.c,.slice m.bp m.bn m.bc,.slice m.ep m.en m.ec] 51))).mono ?_;rintro e w2 ⟨r,rfl,hb⟩;have f0:=btr (bal (Bs wr) (.cells #[.int .i64 m.k,.int .i64 m.t,.int .i64 m.ix.k,.int .i64 m.ix.v,.slice m.ix.p m.ix.n m.ix.c,.int .i64 m.val.k,.int .i64 m.val.v,.slice m.val.p m.val.n m.val.c,.int .i64 m.c,.slice m.bp m.bn m.bc,.slice m.ep m.en m.ec] 51)) hb;have k0:=hb.size;simp only [Sa] at k0;replace c0:=Kc hb (Ac c0 _);replace c1:=Kc hb (Ac c1 _);replace c2:=Kc hb (Ac c2 _);replace e0:=Kc hb (Ac e0 _);replace e1:=Kc hb (Ac e1 _);replace e2:=Kc hb (Ac e2 _);replace e3:=Kc hb (Ac e3 _);replace e4:=Kc hb (Ac e4 _);replace e5:=Kc hb (Ac e5 _);replace e6:=Kc hb (Ac e6 _);replace e7:=Kc hb (Ac e7 _);replace e8:=Kc hb (Ac e8 _);replace e9:=Kc hb (Ac e9 _);replace g0:=Kc hb (Ac g0 _);have a0:Bk w2 (wr.heap.size) [.int .i64 m.k,.int .i64 m.t,.int .i64 m.ix.k,.int .i64 m.ix.v,.slice m.ix.p m.ix.n m.ix.c,.int .i64 m.val.k,.int .i64 m.val.v,.slice m.val.p m.val.n m.val.c,.int .i64 m.c,.slice m.bp m.bn m.bc,.slice m.ep m.en m.ec]:=Bb (Bk.nw (by simp) rfl) hb;replace d0:=btr (bal i0 _) hb;clear hb;have b0:=f0;clear f0;have s2:=Lc c0;have t2:=Lc e0;have u2:=Bk.lz a0;by_cases hz32:r=0
      · have v2:(r != 0)=false:=by simp [hz32]
        by_cases h3:m.k=3
        · have z2:(m.k == 3)=true:=by simp [h3]
          obtain ⟨t0,f1,u0,i1,v0,j1,w0,k1⟩:=Bk.f4 a0 0 5 6 7 rfl rfl rfl rfl;go_wp2_with fail
          refine (n2.out h3 _ b0).mono ?_;rintro e w3 ⟨rfl,hb⟩;have f0:=btr b0 hb;have b2:=hb.size;clear f1 t0 i1 u0 j1 v0 k1 w0;replace c0:=Kc hb c0;replace c1:=Kc hb c1;replace c2:=Kc hb c2;replace e0:=Kc hb e0;replace e1:=Kc hb e1;replace e2:=Kc hb e2;replace e3:=Kc hb e3;replace e4:=Kc hb e4;replace e5:=Kc hb e5;replace e6:=Kc hb e6;replace e7:=Kc hb e7;replace e8:=Kc hb e8;replace e9:=Kc hb e9;replace g0:=Kc hb g0;replace a0:=Bb a0 hb;replace d0:=btr d0 hb;clear hb;clear b0;have b0:=f0;clear f0;obtain ⟨x0,l1⟩:=Bk.cf a0 9 rfl;go_wp2_with fail
          refine (q1.out _ _ _ b0).mono ?_;rintro e w4 ⟨x1,a1,rfl,hb⟩;have f0:=btr b0 hb;have d2:=hb.size;clear l1 x0;replace c0:=Kc hb c0;replace c1:=Kc hb c1;replace c2:=Kc hb c2;replace e0:=Kc hb e0;replace e1:=Kc hb e1;replace e2:=Kc hb e2;replace e3:=Kc hb e3;replace e4:=Kc hb e4;replace e5:=Kc hb e5;replace e6:=Kc hb e6;replace e7:=Kc hb e7;replace e8:=Kc hb e8;replace e9:=Kc hb e9;replace g0:=Kc hb g0;replace a0:=Bb a0 hb;replace d0:=btr d0 hb;clear hb;clear b0;have b0:=f0;clear f0;by_cases hz58:x1=0
          · have s0:(x1 == 0)=true:=by simp [hz58]
            obtain ⟨y0,m1⟩:=Bk.cf a0 10 rfl;go_wp2_with fail
            refine (r1.out _ _ _ b0).mono ?_;rintro e w5 ⟨y1,g1,rfl,hb⟩;have f0:=btr b0 hb;have h2:=hb.size;clear m1 y0;replace c0:=Kc hb c0;replace c1:=Kc hb c1;replace c2:=Kc hb c2;replace e0:=Kc hb e0;replace e1:=Kc hb e1;replace e2:=Kc hb e2;replace e3:=Kc hb e3;replace e4:=Kc hb e4;replace e5:=Kc hb e5;replace e6:=Kc hb e6;replace e7:=Kc hb e7;replace e8:=Kc hb e8;replace e9:=Kc hb e9;replace g0:=Kc hb g0;replace a0:=Bb a0 hb;replace d0:=btr d0 hb;clear hb;clear b0;have b0:=f0;clear f0;by_cases hz70:y1=0
            · have l0:(y1 != 0)=false:=by simp [hz70]
              have HB:=Hi (btr hB b0);go_wp2
              go_roundw
              case rel=>exact ⟨k+1,_,by omega,by go_num,rfl,HB.out⟩
              case measure=>simp [intOf];omega
            have l0:(y1 != 0)=true:=by simp [hz70]
            have tt:=d0;go_wp2
            exact bodyPost_ret (v:=.tuple #[.int .i64 y1,.int .i64 g1]) (by simp [results,Try.results86,go_sem]) rfl (by exact (by unfold AnyII;exact ⟨_,_,rfl,tt⟩))
          have s0:(x1 == 0)=false:=by simp [hz58]
          have l0:(x1 != 0)=true:=by simp [hz58]
          have tt:=d0;go_wp2
          exact bodyPost_ret (v:=.tuple #[.int .i64 x1,.int .i64 a1]) (by simp [results,Try.results86,go_sem]) rfl (by exact (by unfold AnyII;exact ⟨_,_,rfl,tt⟩))
        have z2:(m.k == 3)=false:=by simp [h3]
        obtain ⟨z0,n1,b1,o1⟩:=Bk.f2 a0 0 9 rfl rfl;go_wp2_with fail
        refine (q1.out _ _ _ b0).mono ?_;rintro e w3 ⟨x2,a2,rfl,hb⟩;have f0:=btr b0 hb;have i2:=hb.size;clear n1 z0 o1 b1;replace c0:=Kc hb c0;replace c1:=Kc hb c1;replace c2:=Kc hb c2;replace e0:=Kc hb e0;replace e1:=Kc hb e1;replace e2:=Kc hb e2;replace e3:=Kc hb e3;replace e4:=Kc hb e4;replace e5:=Kc hb e5;replace e6:=Kc hb e6;replace e7:=Kc hb e7;replace e8:=Kc hb e8;replace e9:=Kc hb e9;replace g0:=Kc hb g0;replace a0:=Bb a0 hb;replace d0:=btr d0 hb;clear hb;clear b0;have b0:=f0;clear f0;by_cases hz58:x2=0
        · have s0:(x2 == 0)=true:=by simp [hz58]
          obtain ⟨d1,p1⟩:=Bk.cf a0 10 rfl;go_wp2_with fail
          refine (r1.out _ _ _ b0).mono ?_;rintro e w4 ⟨y2,g2,rfl,hb⟩;have f0:=btr b0 hb;have j2:=hb.size;clear p1 d1;replace c0:=Kc hb c0;replace c1:=Kc hb c1;replace c2:=Kc hb c2;replace e0:=Kc hb e0;replace e1:=Kc hb e1;replace e2:=Kc hb e2;replace e3:=Kc hb e3;replace e4:=Kc hb e4;replace e5:=Kc hb e5;replace e6:=Kc hb e6;replace e7:=Kc hb e7;replace e8:=Kc hb e8;replace e9:=Kc hb e9;replace g0:=Kc hb g0;replace a0:=Bb a0 hb;replace d0:=btr d0 hb;clear hb;clear b0;have b0:=f0;clear f0;by_cases hz70:y2=0
          · have l0:(y2 != 0)=false:=by simp [hz70]
            have HB:=Hi (btr hB b0);go_wp2
            go_roundw
            case rel=>exact ⟨k+1,_,by omega,by go_num,rfl,HB.out⟩
            case measure=>simp [intOf];omega
          have l0:(y2 != 0)=true:=by simp [hz70]
          have tt:=d0;go_wp2
          exact bodyPost_ret (v:=.tuple #[.int .i64 y2,.int .i64 g2]) (by simp [results,Try.results86,go_sem]) rfl (by exact (by unfold AnyII;exact ⟨_,_,rfl,tt⟩))
        have s0:(x2 == 0)=false:=by simp [hz58]
        have l0:(x2 != 0)=true:=by simp [hz58]
        have tt:=d0;go_wp2
        exact bodyPost_ret (v:=.tuple #[.int .i64 x2,.int .i64 a2]) (by simp [results,Try.results86,go_sem]) rfl (by exact (by unfold AnyII;exact ⟨_,_,rfl,tt⟩))
      have v2:(r != 0)=true:=by simp [hz32]
      have tt:=d0;go_wp2
      exact bodyPost_ret (v:=.tuple #[.int .i64 r,.int .i64 z]) (by simp [results,Try.results86,go_sem]) rfl (by exact (by unfold AnyII;exact ⟨_,_,rfl,tt⟩))
    have p2:k=L.length:=by omega
    subst p2;have r2:decide (((L.length:Nat):Int) < (L.length:Int))=false:=decide_eq_false (by omega);clear HX s1 IH t1 HC;have tt:=i0;go_wp2
    exact bodyPost_ret (v:=.tuple #[.int .i64 0,.int .i64 z]) (by simp [results,Try.results86,go_sem]) rfl (by exact (by unfold AnyII;exact ⟨_,_,rfl,tt⟩))
theorem l4Block_any (xs ys:List Int) (pv pa pu:Option Addr) (cv ca nu cu:Nat):∀ d:Nat,∀ (A:Nat→Prop) (D:Nat) (u:Value) (L:List St) (pc at0:Int) (w:World),Reads w 1 (.slice pv xs.length cv) xs.length (ints xs)→Reads w 1 (.slice pa ys.length ca) ys.length (ints ys)→BlAt w A D u L→L.all (stOk xs.length ys.length d)=true→Calls Try.prog 86 #[.agg #[.slice pv xs.length cv,.slice pa ys.length ca,.slice pu nu cu],u,.int .i64 pc,.int .i64 at0,.bool false] w fun r w'=>AnyII w r w':=by
  intro d
  induction d with
  | zero=>exact l4Block_of xs ys pv pa pu cv ca nu cu 0 (fun dd h=>by omega)
  | succ d ih => exact l4Block_of xs ys pv pa pu cv ca nu cu (d + 1) (fun dd h => by obtain rfl : d = dd := by omega
                                                                                     exact ih)
end Go.Proofs.Ytlckklglbodgbaa
