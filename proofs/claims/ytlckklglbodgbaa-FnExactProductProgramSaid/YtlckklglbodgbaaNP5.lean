/-
 Parts of the proofs of the laws FnExactProductProgram.
-/
import Derived.Test.YtlckklglbodgbaaKM
import Derived.Test.YtlckklglbodgbaaNG5
import Derived.Test.YtlckklglbodgbaaNO5
set_option linter.all false
namespace Go.Proofs.Ytlckklglbodgbaa
open Go.RowKit
theorem fsc_below {W W':World} {bc br bn ba:Nat} {fv:Value} {c a k:Int} (h:FsC W bc br bn ba fv c a k) (hb:Below W.heap.size W W'):FsC W' bc br bn ba fv c a k:=
 ⟨Kc hb h.hc,Kf hb (Lc h.hc) h.fc,Kc hb h.hr,Kc hb h.hn,Kf hb (Lc h.hn) h.fn,Kc hb h.ha,Kf hb (Lc h.ha) h.fa⟩
def FsE (f:St→Int→Int) (l:List (St × Int)) (N:Nat) (bc br bn ba:Nat) (fv:Value) (c a k:Int) (w:World) (r:Ending) (w':World):Prop:=∃ c' a' k':Int,r=.returned (.tuple #[])∧fstF f l (c,a,k)=(c',a',k')∧(k≤k'∧k'≤k+N)∧FsC w' bc br bn ba fv c' a' k'∧Chg (FsB bc bn ba) w w'
theorem eachL_app (xs ys:List Int) (pc:Int) (a b:List St):eachL xs ys pc (a++b)=eachL xs ys pc a++eachL xs ys pc b:=by
 induction a with
 | nil=>rfl
 | cons s a ih=>simp only [List.cons_append,eachL,ih,List.append_assoc]
theorem eachL_take (xs ys:List Int) (pc:Int) {L:List St} {j:Nat} (h:j < L.length):eachL xs ys pc (L.take (j+1))=eachL xs ys pc (L.take j)++eachS xs ys pc L[j]:=by
 rw [List.take_succ_eq_append_getElem h,eachL_app];simp [eachL]
theorem fstF_one (f:St→Int→Int) (x:St × Int) (c a k:Int):fstF f [x] (c,a,k)=(if c=0 then f x.1 x.2 else c,if c=0∧¬f x.1 x.2=0 then k else a,k+1):=by
 simp only [fstF];by_cases hc:c=0
 ·by_cases hf:f x.1 x.2=0 <;> simp [hc,hf]
 simp [hc]
theorem fstF_stmt (f:St→Int→Int) (xs ys:List Int) (pc:Int) (y:St) {l:List (St × Int)} {r0:Int × Int × Int} {c a k c1 a1 k1 c2 a2 k2 c3 a3 k3:Int} (h0:fstF f l r0=(c,a,k)) (h1:fstF f [(y,pc)] (c,a,k)=(c1,a1,k1)) {pi:Int} (hp:innF xs ys y pc=pi)
  (h2:fstF f (eachL xs ys pi y.body) (c1,a1,k1)=(c2,a2,k2)) (h3:fstF f (eachL xs ys pi y.els) (c2,a2,k2)=(c3,a3,k3)):fstF f (l++eachS xs ys pc y) r0=(c3,a3,k3):=by
 obtain ⟨k',t,ix,v,cc,b,e⟩:=y;subst hp;rw [fstF_app,h0];have:eachS xs ys pc (.mk k' t ix v cc b e)=[(.mk k' t ix v cc b e,pc)]++(eachL xs ys (innF xs ys (.mk k' t ix v cc b e) pc) b++eachL xs ys (innF xs ys (.mk k' t ix v cc b e) pc) e):=by simp [eachS]
 rw [this,fstF_app,h1,fstF_app];simp only [St.body,St.els] at h2 h3;rw [h2,h3]
set_option maxHeartbeats 6400000 in
set_option maxRecDepth 100000 in
theorem each_any (xs ys:List Int) (pv pa pu:Option Addr) (cv ca nu cu:Nat) (lx:LabsP xs) (ly:LabsP ys) (f:St→Int→Int) (fv:Value) (bc br bn ba:Nat) (B:Nat→Prop) (hB:∀ q,B q→¬FsB bc bn ba q) (w0:World)
  (HR:Hid (∀ W,Chg (FsB bc bn ba) w0 W→Reads W 1 (.slice pv xs.length cv) xs.length (ints xs)∧Reads W 1 (.slice pa ys.length ca) ys.length (ints ys)))
  (HT:Hid (∀ (d D:Nat) (n:Sn) (s:St) (pc c a k:Int) (W:World),Chg (FsB bc bn ba) w0 W→StAt W B D n s→stOk xs.length ys.length (d+1) s=true→IsLb pc→(0≤k∧k≤1000000000)→FsC W bc br bn ba fv c a k →
   Calls Try.prog 89 #[.agg #[.int .i64 n.k,.int .i64 n.t,.int .i64 n.ix.k,.int .i64 n.ix.v,.slice n.ix.p n.ix.n n.ix.c,.int .i64 n.val.k,.int .i64 n.val.v,.slice n.val.p n.val.n n.val.c,.int .i64 n.c,.slice n.bp n.bn n.bc,.slice n.ep n.en n.ec],.int .i64 pc,.pointer (some ⟨bc,0,none⟩),.pointer (some ⟨br,0,none⟩),.pointer (some ⟨bn,0,none⟩),.pointer (some ⟨ba,0,none⟩)] W fun r w'=>FsP bc br bn ba fv (if c=0 then f s pc else c) (if c=0∧¬f s pc=0 then k else a) (k+1) W r w')) :
  ∀ (d D:Nat) (u:Value) (L:List St) (pc c a k:Int) (w:World),Chg (FsB bc bn ba) w0 w→BlAt w B D u L→L.all (stOk xs.length ys.length d)=true→IsLb pc→0≤k→k+stNs L≤1000000000→FsC w bc br bn ba fv c a k →
  Calls Try.prog 25 #[.agg #[.slice pv xs.length cv,.slice pa ys.length ca,.slice pu nu cu],u,.int .i64 pc,.func (.func 89) #[] #[.pointer (some ⟨bc,0,none⟩),.pointer (some ⟨br,0,none⟩),.pointer (some ⟨bn,0,none⟩),.pointer (some ⟨ba,0,none⟩)]] w fun r w'=>FsE f (eachL xs ys pc L) (stNs L) bc br bn ba fv c a k w r w':=by
 have x0:=Hi hB;clear hB;have LX:=Hi (Ai lx ly);clear lx ly;intro d
 induction d with
 | zero =>
  intro D u L pc c a k w h0 hx hL lp hk x4 hF
  cases L with
  | cons s l=>simp [stOk] at hL
  | nil =>
  obtain ⟨pz,cz,rfl⟩:=hx.shape;clear hx hL x4;have hC:Chg (FsB bc bn ba) w w:=Chg.refl _ _;have j0:∀ q,FsB bc bn ba q→q=bc∨q=bn∨q=ba:=fun q h=>h
  have x5:=Lc hF.hc;have y5:=Lc hF.hn;have v5:=Lc hF.ha;go_enter Try.func25,Try.ntmps25
  go_upto_region 1 with (fail)
  generalize hnw:World.alloc _ _=w1;have hb:=nmh hnw;clear hnw
  replace hF:=fsc_below (fsc_below hF (bal (Bs _) _)) hb;replace hC:=((hC.trans (Cb (bal (Bs _) _)))).trans (Cb hb);have t0:=hb.size;simp only [Sa] at t0;have z0:=Bb (Bk.n3 (w.heap.size)) hb;clear hb;have t5:=Bk.lz z0;go_wp2_with fail
  go_loopw [13] (fun i wr=>i=.int .i64 0∧FsC wr bc br bn ba fv c a k∧Chg (FsB bc bn ba) w wr) (fun i _=>0)
  case atStart=>exact ⟨rfl,hF,hC⟩
  case round =>
   obtain ⟨rfl,t4,s4⟩:=hrel;have HE:=Hi (Ai t4 s4);clear hF hC t4 s4;go_wp2
   go_end0
   exact (by unfold FsE;exact ⟨c,a,k,rfl,rfl,⟨by omega,by simp [stNs]⟩,HE.out.1,HE.out.2⟩)
 | succ d IH0 =>
  intro D u L pc c0 a0 k0 w h0 hx hL lp hk x4 hF;have n4:=Hi h0;clear h0;have IH:=Hi IH0;clear IH0;obtain ⟨pz,cz,rfl⟩:=hx.shape;have HK:=Hi (fun W (hW:Chg (FsB bc bn ba) w W) j hj=>szSt_at (BlAt.keep (show BlAt w B D _ L from hx) hW (fun q hq _ h=>x0.out q hq h) (fun _ h _=>h) Lr) j hj);have c6:L.length≤9223372036854775807:=by obtain ⟨_,_,h,_⟩:=hx;exact h.2.1
  have m1:=Hi (List.all_eq_true.1 hL);clear hL hx;have i1:=Hi lp;clear lp;have hC:Chg (FsB bc bn ba) w w:=Chg.refl _ _;have j0:∀ q,FsB bc bn ba q→q=bc∨q=bn∨q=ba:=fun q h=>h
  have x5:=Lc hF.hc;have y5:=Lc hF.hn;have v5:=Lc hF.ha;go_enter Try.func25,Try.ntmps25
  go_upto_region 1 with (fail)
  generalize hnw:World.alloc _ _=w1;have hb:=nmh hnw;clear hnw
  replace hF:=fsc_below (fsc_below hF (bal (Bs _) _)) hb;replace hC:=((hC.trans (Cb (bal (Bs _) _)))).trans (Cb hb);have t0:=hb.size;simp only [Sa] at t0;have z0:=Bb (Bk.n3 (w.heap.size)) hb;clear hb;have t5:=Bk.lz z0;go_wp2_with fail
  go_loopw [13] (fun i wr=>∃ (j:Nat) (c a k:Int),j≤L.length∧i=.int .i64 j∧FsC wr bc br bn ba fv c a k∧Hid (fstF f (eachL xs ys pc (L.take j)) (c0,a0,k0)=(c,a,k))∧(k0≤k∧k≤k0+stNs (L.take j))∧Chg (FsB bc bn ba) w wr∧Bk wr (w.heap.size) [.slice pv xs.length cv,.slice pa ys.length ca,.slice pu nu cu]) (fun i _=>L.length-(intOf i).toNat)
  case atStart=>exact ⟨0,c0,a0,k0,Nat.zero_le _,rfl,hF,Hi rfl,⟨by omega,by simp [stNs]⟩,hC,z0⟩
  case round =>
   clear hC hF z0;obtain ⟨j,c,a,k,hj,rfl,hF,o1,⟨a6,j5⟩,hC,b0⟩:=hrel;obtain ⟨wl,rfl⟩:∃ X,X=wr:=⟨_,rfl⟩;have o5:=hC.size;have n5:=stNs_le L j hj;by_cases hlt:j < L.length
   ·have l5:(j:Int) < (L.length:Int):=by omega
    obtain ⟨kb,ko,m,hp,b6,hm,e0,e1,e2,e3,e4,e5,e6,e7,e8,e9,h5⟩:=HK.out wl hC j hlt;subst hp;have r4:=Hi (eachL_take xs ys pc hlt);have y4:=stNs_take hlt;have d6:=stNs_le L (j+1) hlt;have l1:=Hi (m1.out _ (List.getElem_mem hlt));generalize L[j]=y at *
    have v0:=Hi (n4.out.trans hC);have HM:=Hi (fun W (hW:Chg (FsB bc bn ba) wl W)=>StAt.keep hW (fun q hq _ h=>x0.out q hq h) (fun _ h _=>h) Lr hm);obtain ⟨E,hE⟩:=stAt_pos hm;subst hE;obtain ⟨ky,ty,yx,yv,cy,yb,ye⟩:=y;have m5:=stN_parts (.mk ky ty yx yv cy yb ye);simp only [St.ix,St.val,St.body,St.els] at m5;have k5:=hm;obtain ⟨q1,q2,q3,⟨D1,hi⟩,⟨D2,hv⟩,v4,n0⟩:=k5;clear q2 q3 hi;have m4:=Hi (fun W (hW:Chg (FsB bc bn ba) wl W)=>BlAt.keep v4 hW (fun q hq _ h=>x0.out q hq h) (fun _ h _=>h) Lr);have o4:=Hi (fun W (hW:Chg (FsB bc bn ba) wl W)=>BlAt.keep n0 hW (fun q hq _ h=>x0.out q hq h) (fun _ h _=>h) Lr);have s0:Hid (ky=3→∀ W,Chg (FsB bc bn ba) wl W→Calls Try.prog 55 #[.agg #[.slice pv xs.length cv,.slice pa ys.length ca,.slice pu nu cu],.agg #[.int .i64 m.val.k,.int .i64 m.val.v,.slice m.val.p m.val.n m.val.c]] W fun r w'=>r=.returned (.int .i64 (labE xs ys yv))∧Below W.heap.size W w'):=Hi (fun h W hW=>iLabel_any xs ys pv pa pu cv ca nu cu 5 B D2 m.val yv W (HR.out W (v0.out.trans hW)).1 (HR.out W (v0.out.trans hW)).2 (ExAt.keep hW (fun q hq _ h=>x0.out q hq h) (fun _ h _=>h) Lr hv) (by subst h;rcases st_cases l1.out with ⟨h9,_⟩ | ⟨h9,_⟩ | ⟨_,h9,_⟩ | ⟨h9,_⟩ <;> first | exact h9 | omega));have t1:=labE_lab LX.out.1 LX.out.2 yv;have g1:Hid (innF xs ys (.mk ky ty yx yv cy yb ye) pc=if ky=3 then lbo pc (labE xs ys yv) else pc):=Hi rfl;generalize labE xs ys yv=lv at *
    have f1:=Hi (stOk_bodies l1.out);have p4:=Hi q1;clear q1 hm hv v4 n0;have hD:Chg (FsB bc bn ba) wl wl:=Chg.refl _ _;have f6:=Bk.lz b0;have g6:=Lc e0;go_wp2_with fail
    refine (HT.out d (E+1) m (.mk ky ty yx yv cy yb ye) pc c a k _ (n4.out.trans (hC.trans (Cb (bal (Bs _) (.cells #[.int .i64 m.k,.int .i64 m.t,.int .i64 m.ix.k,.int .i64 m.ix.v,.slice m.ix.p m.ix.n m.ix.c,.int .i64 m.val.k,.int .i64 m.val.v,.slice m.val.p m.val.n m.val.c,.int .i64 m.c,.slice m.bp m.bn m.bc,.slice m.ep m.en m.ec] 51))))) (HM.out _ (Cb (bal (Bs wl) (.cells #[.int .i64 m.k,.int .i64 m.t,.int .i64 m.ix.k,.int .i64 m.ix.v,.slice m.ix.p m.ix.n m.ix.c,.int .i64 m.val.k,.int .i64 m.val.v,.slice m.val.p m.val.n m.val.c,.int .i64 m.c,.slice m.bp m.bn m.bc,.slice m.ep m.en m.ec] 51)))) l1.out i1.out ⟨by omega,by omega⟩ (fsc_below hF (bal (Bs _) (.cells #[.int .i64 m.k,.int .i64 m.t,.int .i64 m.ix.k,.int .i64 m.ix.v,.slice m.ix.p m.ix.n m.ix.c,.int .i64 m.val.k,.int .i64 m.val.v,.slice m.val.p m.val.n m.val.c,.int .i64 m.c,.slice m.bp m.bn m.bc,.slice m.ep m.en m.ec] 51)))).mono ?_;rintro e w2 ⟨rfl,hF,n0⟩;obtain ⟨c1,r1⟩:∃ X,X=(if c=0 then f (.mk ky ty yx yv cy yb ye) pc else c):=⟨_,rfl⟩;obtain ⟨a1,p1⟩:∃ X,X=(if c=0∧¬f (.mk ky ty yx yv cy yb ye) pc=0 then k else a):=⟨_,rfl⟩;rw [← r1,← p1] at hF;have q4:Hid (fstF f [(St.mk ky ty yx yv cy yb ye,pc)] (c,a,k)=(c1,a1,k+1)):=Hi (by rw [fstF_one,r1,p1]);clear r1 p1 e0 e1 e2 e3 e4 e5 e6 e7 e8 e9 h5;replace hD:=((hD.trans (Cb (bal (Bs _) _)))).trans n0;replace hC:=((hC.trans (Cb (bal (Bs _) _)))).trans n0;have s1:=n0.size;simp only [Sa] at s1;have f0:Bk w2 (wl.heap.size) [.int .i64 m.k,.int .i64 m.t,.int .i64 m.ix.k,.int .i64 m.ix.v,.slice m.ix.p m.ix.n m.ix.c,.int .i64 m.val.k,.int .i64 m.val.v,.slice m.val.p m.val.n m.val.c,.int .i64 m.c,.slice m.bp m.bn m.bc,.slice m.ep m.en m.ec]:=Bk.keep (Bk.n11 (wl.heap.size)) n0 (fun h=>by have:=j0 _ h;omega);have h6:=Bk.lz f0;by_cases h3:m.k=3
    ·skip
     have z5:(m.k == 3)=true:=by simp [h3]
     have f5:ky=3:=by rw [← p4.out];exact h3
     replace b0:=Bk.keep (Bk.al b0 _) n0 (fun h=>by have:=j0 _ h;omega);obtain ⟨v1,g3,x1,i3,y1,j3⟩:=Bk.h3 b0;obtain ⟨z1,l3,b2,m3,d2,o3,g2,p3⟩:=Bk.f4 f0 0 5 6 7 rfl rfl rfl rfl;go_wp2_with fail
     refine (s0.out f5 _ hD).mono ?_;rintro e w3 ⟨rfl,d0⟩;replace hD:=(hD).trans (Cb d0);replace hF:=fsc_below hF d0;replace hC:=(hC).trans (Cb d0);have z4:=d0.size;clear g3 v1 i3 x1 j3 y1 l3 z1 m3 b2 o3 d2 p3 g2;have d1:IsLb (bits .or .i64 pc lv):=(lbo_lab i1.out t1).1;have n1:Hid (innF xs ys (.mk ky ty yx yv cy yb ye) pc=(bits .or .i64 pc lv)):=Hi (by rw [g1.out,if_pos f5];rfl);have y0:=Hi d1;clear d1 t1 h3 g1 s0;replace b0:=Bb b0 d0;obtain ⟨i2,r3,j2,s3,l2,t3⟩:=Bk.h3 b0;replace f0:=Bb f0 d0;obtain ⟨m2,v3⟩:=Bk.cf f0 9 rfl;go_wp2_with fail
     refine (IH.out E _ yb (bits .or .i64 pc lv) c1 a1 (k+1) _ (v0.out.trans hD) (m4.out _ hD) f1.out.1 y0.out (by omega) (by omega) hF).mono ?_;rintro e w4 ⟨c2,a2,k2,rfl,p0,⟨p5,r5⟩,hF,g0⟩;replace p0:=Hi p0;replace hD:=(hD).trans g0;replace hC:=(hC).trans g0;have a5:=g0.size;clear r3 i2 s3 j2 t3 l2 v3 m2;replace b0:=Bk.keep b0 g0 (fun h=>by have:=j0 _ h;omega);obtain ⟨n2,x3,o2,y3,p2,z3⟩:=Bk.h3 b0;replace f0:=Bk.keep f0 g0 (fun h=>by have:=j0 _ h;omega);obtain ⟨r2,a4⟩:=Bk.cf f0 10 rfl;go_wp2_with fail
     refine (IH.out E _ ye (bits .or .i64 pc lv) c2 a2 k2 _ (v0.out.trans hD) (o4.out _ hD) f1.out.2 y0.out (by omega) (by omega) hF).mono ?_;rintro e w5 ⟨c3,a3,k3,rfl,q0,⟨q5,s5⟩,hF,m0⟩;replace q0:=Hi q0;replace hD:=(hD).trans m0;replace hC:=(hC).trans m0;have b5:=m0.size;clear x3 n2 y3 o2 z3 p2 a4 r2;have j1:Hid (fstF f (eachL xs ys pc (L.take (j+1))) (c0,a0,k0)=(c3,a3,k3)):=Hi (by rw [r4.out];exact fstF_stmt f xs ys pc _ o1.out q4.out n1.out p0.out q0.out);have b1:k0≤k3∧k3≤k0+(stNs (L.take (j+1)):Nat):=by rw [y4];omega
     replace b0:=Bk.keep b0 m0 (fun h=>by have:=j0 _ h;omega);have l0:=Hi (Ai hF (Ai b1 (Ai hC b0)));clear b1;go_wp2
     go_roundw
     case rel=>exact ⟨j+1,c3,a3,k3,by omega,by go_num,l0.out.1,j1,l0.out.2.1,l0.out.2.2.1,l0.out.2.2.2⟩
     case measure=>simp [intOf];omega
    skip
    have z5:(m.k == 3)=false:=by simp [h3]
    have d1:=i1.out;have n1:Hid (innF xs ys (.mk ky ty yx yv cy yb ye) pc=pc):=Hi (by rw [g1.out,if_neg (fun h=>h3 (by rw [p4.out];exact h))]);have y0:=Hi d1;clear d1 t1 h3 g1 s0;replace b0:=Bk.keep (Bk.al b0 _) n0 (fun h=>by have:=j0 _ h;omega);obtain ⟨s2,b4,t2,c4,v2,d4⟩:=Bk.h3 b0;obtain ⟨x2,g4,y2,h4⟩:=Bk.f2 f0 0 9 rfl rfl;go_wp2_with fail
    refine (IH.out E _ yb pc c1 a1 (k+1) _ (v0.out.trans hD) (m4.out _ hD) f1.out.1 y0.out (by omega) (by omega) hF).mono ?_;rintro e w3 ⟨c2,a2,k2,rfl,p0,⟨p5,r5⟩,hF,i0⟩;replace p0:=Hi p0;replace hD:=(hD).trans i0;replace hC:=(hC).trans i0;have c5:=i0.size;clear b4 s2 c4 t2 d4 v2 g4 x2 h4 y2;replace b0:=Bk.keep b0 i0 (fun h=>by have:=j0 _ h;omega);obtain ⟨z2,i4,b3,j4,d3,k4⟩:=Bk.h3 b0;replace f0:=Bk.keep f0 i0 (fun h=>by have:=j0 _ h;omega);obtain ⟨f3,l4⟩:=Bk.cf f0 10 rfl;go_wp2_with fail
    refine (IH.out E _ ye pc c2 a2 k2 _ (v0.out.trans hD) (o4.out _ hD) f1.out.2 y0.out (by omega) (by omega) hF).mono ?_;rintro e w4 ⟨c3,a3,k3,rfl,q0,⟨q5,s5⟩,hF,o0⟩;replace q0:=Hi q0;replace hD:=(hD).trans o0;replace hC:=(hC).trans o0;have d5:=o0.size;clear i4 z2 j4 b3 k4 d3 l4 f3;have j1:Hid (fstF f (eachL xs ys pc (L.take (j+1))) (c0,a0,k0)=(c3,a3,k3)):=Hi (by rw [r4.out];exact fstF_stmt f xs ys pc _ o1.out q4.out n1.out p0.out q0.out);have b1:k0≤k3∧k3≤k0+(stNs (L.take (j+1)):Nat):=by rw [y4];omega
    replace b0:=Bk.keep b0 o0 (fun h=>by have:=j0 _ h;omega);have l0:=Hi (Ai hF (Ai b1 (Ai hC b0)));clear b1;go_wp2
    go_roundw
    case rel=>exact ⟨j+1,c3,a3,k3,by omega,by go_num,l0.out.1,j1,l0.out.2.1,l0.out.2.2.1,l0.out.2.2.2⟩
    case measure=>simp [intOf];omega
   have i5:j=L.length:=by omega
   subst i5;have l5:decide (((L.length:Nat):Int) < (L.length:Int))=false:=decide_eq_false (by omega);rw [stNs_all] at j5;have g5:Hid (fstF f (eachL xs ys pc L) (c0,a0,k0)=(c,a,k)):=Hi (by have h:=o1.out;rw [List.take_of_length_le Lr] at h;exact h);have HE:=Hi (Ai hF hC);clear hF hC;go_wp2
   go_end0
   exact (by unfold FsE;exact ⟨c,a,k,rfl,g5.out,⟨by omega,by omega⟩,HE.out.1,HE.out.2⟩)
end Go.Proofs.Ytlckklglbodgbaa
