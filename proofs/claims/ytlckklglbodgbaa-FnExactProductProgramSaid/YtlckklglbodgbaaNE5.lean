/-
 Parts of the proofs of the laws FnExactProductProgram.
-/
import Derived.Test.YtlckklglbodgbaaKM
import Derived.Test.YtlckklglbodgbaaND5
set_option linter.all false
namespace Go.Proofs.Ytlckklglbodgbaa
open Go.RowKit
def allX (xs ys:List Int) (st:Bool) (l:List (St × Int)):Bool:=l.all (fun x=>decide (ownF xs ys x.1 x.2 st=0))
def allL (xs ys:List Int) (st:Bool) (pc:Int) (L:List St):Bool:=allX xs ys st (eachL xs ys pc L)
def allS (xs ys:List Int) (st:Bool) (pc:Int) (s:St):Bool:=allX xs ys st (eachS xs ys pc s)
theorem eachL_app (xs ys:List Int) (pc:Int) (a b:List St):eachL xs ys pc (a++b)=eachL xs ys pc a++eachL xs ys pc b:=by
 induction a with
 | nil=>rfl
 | cons s a ih=>simp only [List.cons_append,eachL,ih,List.append_assoc]
theorem allL_take {xs ys:List Int} {st:Bool} {pc:Int} {L:List St} {k:Nat} (h:k < L.length):allL xs ys st pc (L.take (k+1))=(allL xs ys st pc (L.take k)&&allS xs ys st pc L[k]):=by
 unfold allL allS allX
 rw [List.take_succ_eq_append_getElem h,eachL_app,List.all_append];simp [eachL]
theorem allL_no {xs ys:List Int} {st:Bool} {pc:Int} {L:List St} {k:Nat} (h:k < L.length) (hs:allS xs ys st pc L[k]=false):allL xs ys st pc L=false:=by
 unfold allL allS allX at *
 rw [← List.take_append_drop (k+1) L,List.take_succ_eq_append_getElem h,eachL_app,eachL_app,List.all_append,List.all_append];simp [eachL,hs]
theorem allS_eq (xs ys:List Int) (st:Bool) (pc:Int) (s:St):allS xs ys st pc s=(decide (ownF xs ys s pc st=0)&&(allL xs ys st (innF xs ys s pc) s.body&&allL xs ys st (innF xs ys s pc) s.els)):=by
 obtain ⟨k,t,ix,v,c,b,e⟩:=s;simp only [allS,allL,allX,eachS,List.all_cons,List.all_append,St.body,St.els]
theorem inn_no {xs ys:List Int} {s:St} {pc:Int} (h:¬s.k=3):innF xs ys s pc=pc:=by unfold innF;rw [if_neg h]
theorem inn_yes {xs ys:List Int} {s:St} {pc:Int} (h:s.k=3):innF xs ys s pc=bits .or .i64 pc (labE xs ys s.val):=by unfold innF lbo;rw [if_pos h]
def CkB (xs ys:List Int) (st:Bool) (pc:Int) (L:List St) (w:World) (r:Ending) (w':World):Prop:=∃ c a:Int,r=.returned (.tuple #[.int .i64 c,.int .i64 a])∧(c=0 ↔ allL xs ys st pc L=true)∧Below w.heap.size w w'
set_option maxHeartbeats 6400000 in
set_option maxRecDepth 100000 in
theorem l4BlockX_of (xs ys:List Int) (pv pa pu:Option Addr) (cv ca nu cu:Nat) (st:Bool) (d:Nat) (IH0:∀ dd,d=dd+1→∀ (A:Nat→Prop) (D:Nat) (u:Value) (L:List St) (pc at0:Int) (w:World),Reads w 1 (.slice pv xs.length cv) xs.length (ints xs)→Reads w 1 (.slice pa ys.length ca) ys.length (ints ys)→BlAt w A D u L→L.all (stOk xs.length ys.length dd)=true→Calls Try.prog 86 #[.agg #[.slice pv xs.length cv,.slice pa ys.length ca,.slice pu nu cu],u,.int .i64 pc,.int .i64 at0,.bool st] w fun r w'=>CkB xs ys st pc L w r w')
  (A:Nat→Prop) (D:Nat) (u:Value) (L:List St) (pc at0:Int) (w:World) (hr:Reads w 1 (.slice pv xs.length cv) xs.length (ints xs)) (hs:Reads w 1 (.slice pa ys.length ca) ys.length (ints ys)) (hx:BlAt w A D u L) (hok:L.all (stOk xs.length ys.length d)=true) :
  Calls Try.prog 86 #[.agg #[.slice pv xs.length cv,.slice pa ys.length ca,.slice pu nu cu],u,.int .i64 pc,.int .i64 at0,.bool st] w fun r w'=>CkB xs ys st pc L w r w':=by
 obtain ⟨pl,cl,rfl⟩:=RowOf.shape hx;have HX:=Hi (fun W (hW:Below w.heap.size w W)=>szSt_at (hx.below hW));have r2:=Hi (fun W (hW:Below w.heap.size w W)=>Ai (hr.below hW) (hs.below hW));have q2:=Hi (fun k (h:k < L.length)=>List.all_eq_true.1 hok _ (List.getElem_mem h));have l3:L.length≤9223372036854775807:=by obtain ⟨_,_,h,_⟩:=hx;exact h.2.1
 have IH:=Hi IH0;clear IH0 hr hs hx hok;go_enter Try.func86,Try.ntmps86
 go_upto_region 1 with (fail)
 generalize hnw:World.alloc _ _=w1;have hb:=nmh hnw;clear hnw
 have k1:=hb.size;simp only [Sa] at k1;have d1:=Bb (Bk.n3 (w.heap.size)) hb;have j0:=btr (bal (Bs w) (.cells #[.slice pv xs.length cv,.slice pa ys.length ca,.slice pu nu cu] 26)) hb;clear hb;have b4:=Bk.lz d1;obtain ⟨d3,t3,f3,v3,g3,x3⟩:=Bk.h3 d1;have HC:=Hi (fun W (hW:Below w1.heap.size w1 W)=>show _∧_∧_ from ⟨Kc hW d3,Kc hW f3,Kc hW g3⟩);have j3:=Hi j0;clear j0 d1 d3 t3 f3 v3 g3 x3;go_wp2_with fail
 go_loopw [3,12] (fun m i wr=>∃ (k:Nat) (z:Int),k≤L.length∧i=.int .i64 k∧m=.int .i64 z∧Hid (allL xs ys st pc (L.take k)=true)∧Below w1.heap.size w1 wr) (fun _ i _=>L.length-(intOf i).toNat)
 case atStart=>exact ⟨0,at0,Nat.zero_le _,rfl,rfl,Hi rfl,Bs _⟩
 case round =>
  obtain ⟨k,z,hk,rfl,rfl,HA,hB⟩:=hrel;obtain ⟨c0,c1,c2⟩:=HC.out _ hB;have a4:=Lc c0;have n0:=btr j3.out hB;have z3:=hB.size;by_cases hlt:k < L.length
  ·have m3:(k:Int) < (L.length:Int):=by omega
   obtain ⟨kb,ko,m,hp,y3,hm,e0,e1,e2,e3,e4,e5,e6,e7,e8,e9,l0⟩:=HX.out wr n0 k hlt;subst hp;have p0:=q2.out k hlt;have HS:Hid (allL xs ys st pc (L.take (k+1))=(allL xs ys st pc (L.take k)&&allS xs ys st pc L[k])):=Hi (allL_take hlt);have HY:Hid (allS xs ys st pc L[k]=false→allL xs ys st pc L=false):=Hi (allL_no hlt);clear HX;generalize L[k]=y at *
   obtain ⟨dd,h1⟩:=stOk_pos p0;have b1:=Hi (IH.out dd h1);clear IH;obtain ⟨E,rfl⟩:=stAt_pos hm;rw [h1] at p0;clear h1;have m0:=Hi (fun W (hW:Below wr.heap.size wr W)=>r2.out _ (btr n0 hW));have y0:=Hi (fun W (hW:Below wr.heap.size wr W)=>l4Own_eq xs ys pv pa pu cv ca nu cu dd A (E+1) m y pc st W (m0.out W hW).1 (m0.out W hW).2 (StAt.keep (S:=fun _=>False) (Cb hW) (fun _ _ _=>id) (fun _ h _=>h) Lr hm) p0);obtain ⟨i1,⟨D1,hv⟩,s2,t2⟩:=stAt_val hm;have f1:=stOk_bodies p0;have i3:=Hi (fun (h3:m.k=3) W (hW:Below wr.heap.size wr W)=>l4Label_any xs ys pv pa pu cv ca nu cu 5 A D1 m.val y.val W (m0.out W hW).1 (m0.out W hW).2 (hv.below hW) (stOk_val p0 (i1.symm.trans h3)));have n2:=Hi (fun (pc at0:Int) W (hW:Below wr.heap.size wr W)=>b1.out A E _ y.body pc at0 W (m0.out W hW).1 (m0.out W hW).2 (s2.below hW) f1.1);have o2:=Hi (fun (pc at0:Int) W (hW:Below wr.heap.size wr W)=>b1.out A E _ y.els pc at0 W (m0.out W hW).1 (m0.out W hW).2 (t2.below hW) f1.2);have HE:Hid (allS xs ys st pc y=(decide (ownF xs ys y pc st=0)&&(allL xs ys st (innF xs ys y pc) y.body&&allL xs ys st (innF xs ys y pc) y.els))):=Hi (allS_eq xs ys st pc y);have p2:=Hi i1;clear hm p0 i1 hv s2 t2 f1 b1 m0;have ke:=Lc e0;go_wp2_with fail
   refine (y0.out _ (bal (Bs wr) (.cells #[.int .i64 m.k,.int .i64 m.t,.int .i64 m.ix.k,.int .i64 m.ix.v,.slice m.ix.p m.ix.n m.ix.c,.int .i64 m.val.k,.int .i64 m.val.v,.slice m.val.p m.val.n m.val.c,.int .i64 m.c,.slice m.bp m.bn m.bc,.slice m.ep m.en m.ec] 51))).mono ?_;rintro e w2 ⟨rfl,hb⟩;have k0:=btr (bal (Bs wr) (.cells #[.int .i64 m.k,.int .i64 m.t,.int .i64 m.ix.k,.int .i64 m.ix.v,.slice m.ix.p m.ix.n m.ix.c,.int .i64 m.val.k,.int .i64 m.val.v,.slice m.val.p m.val.n m.val.c,.int .i64 m.c,.slice m.bp m.bn m.bc,.slice m.ep m.en m.ec] 51)) hb;have s0:=hb.size;simp only [Sa] at s0;replace c0:=Kc hb (Ac c0 _);replace c1:=Kc hb (Ac c1 _);replace c2:=Kc hb (Ac c2 _);replace e0:=Kc hb (Ac e0 _);replace e1:=Kc hb (Ac e1 _);replace e2:=Kc hb (Ac e2 _);replace e3:=Kc hb (Ac e3 _);replace e4:=Kc hb (Ac e4 _);replace e5:=Kc hb (Ac e5 _);replace e6:=Kc hb (Ac e6 _);replace e7:=Kc hb (Ac e7 _);replace e8:=Kc hb (Ac e8 _);replace e9:=Kc hb (Ac e9 _);replace l0:=Kc hb (Ac l0 _);have h0:=Bb (Bk.n11 (wr.heap.size)) hb;replace j0:=btr (bal n0 _) hb;clear hb;have i0:=k0;clear k0;have o3:=Lc c0;have p3:=Lc e0;have q3:=Bk.lz h0;obtain ⟨r,j1⟩:∃ r,ownF xs ys y pc st=r:=⟨_,rfl⟩;rw [j1];have z0:=Hi j1;clear j1;by_cases hz32:r=0
   ·have r3:(r != 0)=false:=by simp [hz32]
    by_cases h3:m.k=3
    ·have s3:(m.k == 3)=true:=by simp [h3]
     have o0:Hid (innF xs ys y pc=bits .or .i64 pc (labE xs ys y.val)):=Hi (inn_yes (p2.out.symm.trans h3));obtain ⟨m1,z1,n1,b2,o1,d2,p1,h2⟩:=Bk.f4 h0 0 5 6 7 rfl rfl rfl rfl;go_wp2_with fail
     refine (i3.out h3 _ i0).mono ?_;rintro e w3 ⟨rfl,a0⟩;have k0:=btr i0 a0;have v2:=a0.size;clear z1 m1 b2 n1 d2 o1 h2 p1;replace c0:=Kc a0 c0;replace c1:=Kc a0 c1;replace c2:=Kc a0 c2;replace e0:=Kc a0 e0;replace e1:=Kc a0 e1;replace e2:=Kc a0 e2;replace e3:=Kc a0 e3;replace e4:=Kc a0 e4;replace e5:=Kc a0 e5;replace e6:=Kc a0 e6;replace e7:=Kc a0 e7;replace e8:=Kc a0 e8;replace e9:=Kc a0 e9;replace l0:=Kc a0 l0;replace j0:=btr j0 a0;clear i0;have i0:=k0;clear k0;replace h0:=Bb h0 a0;obtain ⟨q1,i2⟩:=Bk.cf h0 9 rfl;go_wp2_with fail
     refine (n2.out _ _ _ i0).mono ?_;rintro e w4 ⟨x1,a1,rfl,t0,b0⟩;have k0:=btr i0 b0;have z2:=b0.size;clear i2 q1;replace c0:=Kc b0 c0;replace c1:=Kc b0 c1;replace c2:=Kc b0 c2;replace e0:=Kc b0 e0;replace e1:=Kc b0 e1;replace e2:=Kc b0 e2;replace e3:=Kc b0 e3;replace e4:=Kc b0 e4;replace e5:=Kc b0 e5;replace e6:=Kc b0 e6;replace e7:=Kc b0 e7;replace e8:=Kc b0 e8;replace e9:=Kc b0 e9;replace l0:=Kc b0 l0;replace j0:=btr j0 b0;clear i0;have i0:=k0;clear k0;have q0:=Hi t0;clear t0;by_cases hz58:x1=0
     ·have l1:(x1 == 0)=true:=by simp [hz58]
      replace h0:=Bb h0 b0;obtain ⟨r1,j2⟩:=Bk.cf h0 10 rfl;go_wp2_with fail
      refine (o2.out _ _ _ i0).mono ?_;rintro e w5 ⟨y1,g1,rfl,v0,f0⟩;have k0:=btr i0 f0;have a3:=f0.size;clear j2 r1;replace c0:=Kc f0 c0;replace c1:=Kc f0 c1;replace c2:=Kc f0 c2;replace e0:=Kc f0 e0;replace e1:=Kc f0 e1;replace e2:=Kc f0 e2;replace e3:=Kc f0 e3;replace e4:=Kc f0 e4;replace e5:=Kc f0 e5;replace e6:=Kc f0 e6;replace e7:=Kc f0 e7;replace e8:=Kc f0 e8;replace e9:=Kc f0 e9;replace l0:=Kc f0 l0;replace j0:=btr j0 f0;clear i0;have i0:=k0;clear k0;have r0:=Hi v0;clear v0;by_cases hz70:y1=0
      ·have w0:(y1 != 0)=false:=by simp [hz70]
       have x0:Hid (allL xs ys st pc (L.take (k+1))=true):=Hi (by rw [HS.out,HA.out,HE.out,o0.out,z0.out,q0.out.1 hz58,r0.out.1 hz70,hz32];rfl);have HB:=Hi (btr hB i0);go_wp2
       go_roundw
       case rel=>exact ⟨k+1,_,by omega,by go_num,rfl,x0,HB.out⟩
       case measure=>simp [intOf];omega
      have w0:(y1 != 0)=true:=by simp [hz70]
      have HF:Hid (allL xs ys st pc L=false):=Hi (HY.out (by rw [HE.out];rw [o0.out,Bool.eq_false_iff.2 (fun h=>hz70 (r0.out.2 h))];simp));have tt:=j0;go_wp2
      exact bodyPost_ret (v:=.tuple #[.int .i64 y1,.int .i64 g1]) (by simp [results,Try.results86,go_sem]) rfl (by exact (by unfold CkB;exact ⟨_,_,rfl,⟨fun h=>absurd h hz70,fun h=>by rw [HF.out] at h;cases h⟩,tt⟩))
     have l1:(x1 == 0)=false:=by simp [hz58]
     have w0:(x1 != 0)=true:=by simp [hz58]
     have HF:Hid (allL xs ys st pc L=false):=Hi (HY.out (by rw [HE.out];rw [o0.out,Bool.eq_false_iff.2 (fun h=>hz58 (q0.out.2 h))];simp));have tt:=j0;go_wp2
     exact bodyPost_ret (v:=.tuple #[.int .i64 x1,.int .i64 a1]) (by simp [results,Try.results86,go_sem]) rfl (by exact (by unfold CkB;exact ⟨_,_,rfl,⟨fun h=>absurd h hz58,fun h=>by rw [HF.out] at h;cases h⟩,tt⟩))
    have s3:(m.k == 3)=false:=by simp [h3]
    have o0:Hid (innF xs ys y pc=pc):=Hi (inn_no (fun h=>h3 (p2.out.trans h)));obtain ⟨s1,k2,t1,l2⟩:=Bk.f2 h0 0 9 rfl rfl;go_wp2_with fail
    refine (n2.out _ _ _ i0).mono ?_;rintro e w3 ⟨x2,a2,rfl,t0,d0⟩;have k0:=btr i0 d0;have b3:=d0.size;clear k2 s1 l2 t1;replace c0:=Kc d0 c0;replace c1:=Kc d0 c1;replace c2:=Kc d0 c2;replace e0:=Kc d0 e0;replace e1:=Kc d0 e1;replace e2:=Kc d0 e2;replace e3:=Kc d0 e3;replace e4:=Kc d0 e4;replace e5:=Kc d0 e5;replace e6:=Kc d0 e6;replace e7:=Kc d0 e7;replace e8:=Kc d0 e8;replace e9:=Kc d0 e9;replace l0:=Kc d0 l0;replace j0:=btr j0 d0;clear i0;have i0:=k0;clear k0;have q0:=Hi t0;clear t0;by_cases hz58:x2=0
    ·have l1:(x2 == 0)=true:=by simp [hz58]
     replace h0:=Bb h0 d0;obtain ⟨v1,m2⟩:=Bk.cf h0 10 rfl;go_wp2_with fail
     refine (o2.out _ _ _ i0).mono ?_;rintro e w4 ⟨y2,g2,rfl,v0,g0⟩;have k0:=btr i0 g0;have c3:=g0.size;clear m2 v1;replace c0:=Kc g0 c0;replace c1:=Kc g0 c1;replace c2:=Kc g0 c2;replace e0:=Kc g0 e0;replace e1:=Kc g0 e1;replace e2:=Kc g0 e2;replace e3:=Kc g0 e3;replace e4:=Kc g0 e4;replace e5:=Kc g0 e5;replace e6:=Kc g0 e6;replace e7:=Kc g0 e7;replace e8:=Kc g0 e8;replace e9:=Kc g0 e9;replace l0:=Kc g0 l0;replace j0:=btr j0 g0;clear i0;have i0:=k0;clear k0;have r0:=Hi v0;clear v0;by_cases hz70:y2=0
     ·have w0:(y2 != 0)=false:=by simp [hz70]
      have x0:Hid (allL xs ys st pc (L.take (k+1))=true):=Hi (by rw [HS.out,HA.out,HE.out,o0.out,z0.out,q0.out.1 hz58,r0.out.1 hz70,hz32];rfl);have HB:=Hi (btr hB i0);go_wp2
      go_roundw
      case rel=>exact ⟨k+1,_,by omega,by go_num,rfl,x0,HB.out⟩
      case measure=>simp [intOf];omega
     have w0:(y2 != 0)=true:=by simp [hz70]
     have HF:Hid (allL xs ys st pc L=false):=Hi (HY.out (by rw [HE.out];rw [o0.out,Bool.eq_false_iff.2 (fun h=>hz70 (r0.out.2 h))];simp));have tt:=j0;go_wp2
     exact bodyPost_ret (v:=.tuple #[.int .i64 y2,.int .i64 g2]) (by simp [results,Try.results86,go_sem]) rfl (by exact (by unfold CkB;exact ⟨_,_,rfl,⟨fun h=>absurd h hz70,fun h=>by rw [HF.out] at h;cases h⟩,tt⟩))
    have l1:(x2 == 0)=false:=by simp [hz58]
    have w0:(x2 != 0)=true:=by simp [hz58]
    have HF:Hid (allL xs ys st pc L=false):=Hi (HY.out (by rw [HE.out];rw [o0.out,Bool.eq_false_iff.2 (fun h=>hz58 (q0.out.2 h))];simp));have tt:=j0;go_wp2
    exact bodyPost_ret (v:=.tuple #[.int .i64 x2,.int .i64 a2]) (by simp [results,Try.results86,go_sem]) rfl (by exact (by unfold CkB;exact ⟨_,_,rfl,⟨fun h=>absurd h hz58,fun h=>by rw [HF.out] at h;cases h⟩,tt⟩))
   have r3:(r != 0)=true:=by simp [hz32]
   have HF:Hid (allL xs ys st pc L=false):=Hi (HY.out (by rw [HE.out];rw [z0.out,decide_eq_false hz32];rfl));have tt:=j0;go_wp2
   exact bodyPost_ret (v:=.tuple #[.int .i64 r,.int .i64 z]) (by simp [results,Try.results86,go_sem]) rfl (by exact (by unfold CkB;exact ⟨_,_,rfl,⟨fun h=>absurd h hz32,fun h=>by rw [HF.out] at h;cases h⟩,tt⟩))
  have k3:k=L.length:=by omega
  subst k3;have m3:decide (((L.length:Nat):Int) < (L.length:Int))=false:=decide_eq_false (by omega);have HT:Hid (allL xs ys st pc L=true):=Hi (by have:=HA.out;rw [List.take_of_length_le Lr] at this;exact this);clear HX q2 IH r2 HC HA;have tt:=n0;go_wp2
  exact bodyPost_ret (v:=.tuple #[.int .i64 0,.int .i64 z]) (by simp [results,Try.results86,go_sem]) rfl (by exact (by unfold CkB;exact ⟨_,_,rfl,⟨fun _=>HT.out,fun _=>rfl⟩,tt⟩))
theorem l4BlockX_any (xs ys:List Int) (pv pa pu:Option Addr) (cv ca nu cu:Nat) (st:Bool):∀ d:Nat,∀ (A:Nat→Prop) (D:Nat) (u:Value) (L:List St) (pc at0:Int) (w:World),Reads w 1 (.slice pv xs.length cv) xs.length (ints xs)→Reads w 1 (.slice pa ys.length ca) ys.length (ints ys)→BlAt w A D u L→L.all (stOk xs.length ys.length d)=true→Calls Try.prog 86 #[.agg #[.slice pv xs.length cv,.slice pa ys.length ca,.slice pu nu cu],u,.int .i64 pc,.int .i64 at0,.bool st] w fun r w'=>CkB xs ys st pc L w r w':=by
 intro d
 induction d with
 | zero=>exact l4BlockX_of xs ys pv pa pu cv ca nu cu st 0 (fun dd h=>by omega)
 | succ d ih=>exact l4BlockX_of xs ys pv pa pu cv ca nu cu st (d+1) (fun dd h=>by obtain rfl:d=dd:=(by omega);exact ih)
end Go.Proofs.Ytlckklglbodgbaa
