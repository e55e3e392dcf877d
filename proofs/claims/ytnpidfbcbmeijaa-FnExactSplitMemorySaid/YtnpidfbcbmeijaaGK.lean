/-
 Parts of the proofs of the laws FnExactSplitMemory.
-/
import Derived.Test.YtnpidfbcbmeijaaQA
set_option linter.all false
namespace Go.Proofs.Ytnpidfbcbmeijaa
open Go.RowKit
def stC:Nat→St→Int
 | 0,_=>1
 | d+1,s=>1+((s.body.map (stC d)).sum+(s.els.map (stC d)).sum)
def blC (d:Nat) (L:List St) (k:Nat):Int:=((L.take k).map (stC d)).sum
theorem sum_ge0 {α:Type} (f:α→Int) (h:∀ x,0≤f x) (l:List α):0≤(l.map f).sum:=by
 induction l with
 | nil=>simp
 | cons x l ih=>simp only [List.map_cons,List.sum_cons];have:=h x;omega
theorem stC_ge (d:Nat):∀ s:St,1≤stC d s:=by
 induction d with
 | zero=>intro s;simp [stC]
 | succ d ih =>
  intro s;have h1:=sum_ge0 (stC d) (fun x=>by have:=ih x;omega) s.body;have h2:=sum_ge0 (stC d) (fun x=>by have:=ih x;omega) s.els;simp only [stC];omega
theorem blC_succ (d:Nat) (L:List St) (k:Nat) (h:k < L.length):blC d L (k+1)=blC d L k+stC d L[k]:=by
 unfold blC;rw [List.take_succ_eq_append_getElem h,List.map_append,List.sum_append];simp
theorem blC_ge (d:Nat) (L:List St) (k:Nat):0≤blC d L k∧blC d L k≤blC d L L.length:=by
 have h0:∀ x:St,0≤stC d x:=fun x=>by have:=stC_ge d x;omega
 refine ⟨sum_ge0 _ h0 _,?_⟩;have h1:L=L.take k++L.drop k:=(List.take_append_drop k L).symm
 have h2:blC d L L.length=blC d L k+((L.drop k).map (stC d)).sum:=by
  unfold blC
  rw [List.take_of_length_le Lr];conv=>lhs;rw [h1]
  rw [List.map_append,List.sum_append]
 have:=sum_ge0 (stC d) h0 (L.drop k)
 omega
def stR (nv na d:Nat) (c:Int) (s:St):Bool:=stOk nv na d s&&decide (c+stC d s≤60)
def blR (nv na d:Nat) (c:Int) (L:List St):Bool:=L.all (stOk nv na d)&&decide (c+blC d L L.length≤60)
set_option maxHeartbeats 6400000 in
set_option maxRecDepth 100000 in
theorem stmts_of (cb:Nat) (pv pa:Option Addr) (nv cv na ca:Nat) (vb:Value) (B:Nat→Prop) (hB:∀ q,B q→¬q=cb) (hnv:nv≤1000000000∧na≤1000000000) (d:Nat) (hd:d≤5) (H:∀ (D:Nat) (n:Sn) (s:St) (c dp:Int) (w:World),dp=6-(d:Int)→StAt w B D n s→w.cell? ⟨cb,0,none⟩=some (.int .i64 c)→w.frozen? ⟨cb,0,none⟩=false→0≤c→c≤60 →
  Calls Try.prog 83 #[.agg #[.slice pv nv cv,.slice pa na ca,vb],.agg #[.int .i64 n.k,.int .i64 n.t,.int .i64 n.ix.k,.int .i64 n.ix.v,.slice n.ix.p n.ix.n n.ix.c,.int .i64 n.val.k,.int .i64 n.val.v,.slice n.val.p n.val.n n.val.c,.int .i64 n.c,.slice n.bp n.bn n.bc,.slice n.ep n.en n.ec],.int .i64 dp,.pointer (some ⟨cb,0,none⟩)] w fun r w'=>ScP cb c (stC d s) (stR nv na d c s) w r w')
  (D:Nat) (u:Value) (L:List St) (c dp:Int) (w:World) (hdp:dp=6-(d:Int)) (hx:BlAt w B D u L) (hc:w.cell? ⟨cb,0,none⟩=some (.int .i64 c)) (hf:w.frozen? ⟨cb,0,none⟩=false) (hc0:0≤c) (hc1:c≤60) :
  Calls Try.prog 58 #[.agg #[.slice pv nv cv,.slice pa na ca,vb],u,.int .i64 dp,.pointer (some ⟨cb,0,none⟩)] w fun r w'=>ScP cb c (blC d L L.length) (blR nv na d c L) w r w':=by
 have b1:=Hi hB;clear hB;have IH:=Hi H;clear H;have c1:=Hi hdp;clear hdp;obtain ⟨pu,cu,rfl⟩:=hx.shape;have HK:=Hi (fun W (hW:Chg (fun q=>q=cb) w W) j hj=>szSt_at (BlAt.keep (show BlAt w B D _ L from hx) hW (fun q hq _ h=>b1.out q hq h) (fun _ h _=>h) Lr) j hj);have a2:L.length≤9223372036854775807:=by obtain ⟨_,_,h,_⟩:=hx;exact h.2.1
 clear hx;obtain ⟨Q,hQ⟩:∃ Q,blR nv na d c L=Q:=⟨_,rfl⟩;have d1:Hid (Q=(L.all (stOk nv na d)&&decide (c+blC d L L.length≤60))):=Hi (by rw [← hQ];rfl);rw [hQ];clear hQ;have hC:Chg (fun k=>k=cb) w w:=Chg.refl _ _;have i0:∀ q,(fun k=>k=cb) q→q=cb:=fun q h=>h
 have b2:=Lc hc;go_enter Try.func58,Try.ntmps58
 go_upto_region 1 with (fail)
 obtain ⟨w1,i1,hb⟩:=nmw (World.alloc w (.cells #[.slice pv nv cv,.slice pa na ca,vb] 29));replace hC:=((hC.trans (Cb (bal (Bs _) _)))).trans (Cb hb);have p0:=hb.size;simp only [Sa] at p0;replace hf:=Kf hb (Lc (Ac hc _)) (Fa (Lc hc) hf _);replace hc:=Kc hb (Ac hc _);have m0:Bk w1 (w.heap.size) [.slice pv nv cv,.slice pa na ca,vb]:=Bb (Bk.nw (by simp) rfl) hb;clear hb;rw [← i1];clear i1;have c2:=Lc hc;have d2:=Bk.lz m0;have p1:=Hi (fun k=>blC_ge d L k);go_wp2_with fail
 go_loopw [13] (fun i wr=>∃ (j:Nat) (x:Int),j≤L.length∧i=.int .i64 j∧wr.cell? ⟨cb,0,none⟩=some (.int .i64 x)∧wr.frozen? ⟨cb,0,none⟩=false∧Hid (x=c+blC d L j∧blTo nv na d L j=true)∧(0≤x∧x≤60)∧Chg (fun k=>k=cb) w wr∧Bk wr (w.heap.size) [.slice pv nv cv,.slice pa na ca,vb]) (fun i _=>L.length-(intOf i).toNat)
 case atStart=>exact ⟨0,c,Nat.zero_le _,rfl,hc,hf,Hi ⟨by simp [blC],rfl⟩,⟨by omega,by omega⟩,hC,m0⟩
 case round =>
  clear hC hc hf m0;obtain ⟨j,x,hj,rfl,hc,hf,d0,q0,hC,a0⟩:=hrel;obtain ⟨wl,rfl⟩:∃ X,X=wr:=⟨_,rfl⟩;obtain ⟨j1,k1⟩:=q0;have v1:=hC.size;by_cases hlt:j < L.length
  ·have u1:(j:Int) < (L.length:Int):=by omega
   obtain ⟨kb,ko,m,hp,z1,hm,e0,e1,e2,e3,e4,e5,e6,e7,e8,e9,f1⟩:=HK.out wl hC j hlt;subst hp;have HM:=Hi (fun W (hW:Chg (fun q=>q=cb) wl W)=>StAt.keep hW (fun q hq _ h=>b1.out q hq h) (fun _ h _=>h) Lr hm);have k0:Hid (stR nv na d x L[j]=false→Q=false):=Hi (fun h=>by rw [d1.out];unfold stR at h;have h1:=blC_succ d L j hlt;have h2:=(p1.out (j+1)).2;have h3:=d0.out.1;cases hy:stOk nv na d L[j] with | false=>rw [blTo_no hlt hy];rfl | true=>rw [hy,Bool.true_and] at h;have:=of_decide_eq_false h;rw [decide_eq_false (by omega)];simp);have o1:Hid (stR nv na d x L[j]=true→blTo nv na d L (j+1)=true∧x+stC d L[j]≤60∧x+stC d L[j]=c+blC d L (j+1)):=Hi (fun h=>by unfold stR at h;rw [Bool.and_eq_true] at h;have h1:=blC_succ d L j hlt;refine ⟨by rw [blTo_succ hlt,d0.out.2,h.1];rfl,of_decide_eq_true h.2,by rw [h1,d0.out.1];omega⟩);have n1:=Hi (stC_ge d L[j]);clear hm;generalize L[j]=y at *
   have m1:=Lc hc;have f2:=Bk.lz a0;have i2:=Lc e0
   cases hz:stR nv na d x y with
   | false =>
    obtain ⟨x1,y1,r0,w0,s0,x0⟩:=Bk.f3 a0 0 1 2 rfl rfl rfl;go_wp2_with fail
    have c0:=IH.out D m y x dp _ c1.out (HM.out _ (Cb (bal (Bs wl) (.cells #[.int .i64 m.k,.int .i64 m.t,.int .i64 m.ix.k,.int .i64 m.ix.v,.slice m.ix.p m.ix.n m.ix.c,.int .i64 m.val.k,.int .i64 m.val.v,.slice m.val.p m.val.n m.val.c,.int .i64 m.c,.slice m.bp m.bn m.bc,.slice m.ep m.en m.ec] 81)))) (Ac hc (.cells #[.int .i64 m.k,.int .i64 m.t,.int .i64 m.ix.k,.int .i64 m.ix.v,.slice m.ix.p m.ix.n m.ix.c,.int .i64 m.val.k,.int .i64 m.val.v,.slice m.val.p m.val.n m.val.c,.int .i64 m.c,.slice m.bp m.bn m.bc,.slice m.ep m.en m.ec] 81)) (Fa (Lc hc) hf (.cells #[.int .i64 m.k,.int .i64 m.t,.int .i64 m.ix.k,.int .i64 m.ix.v,.slice m.ix.p m.ix.n m.ix.c,.int .i64 m.val.k,.int .i64 m.val.v,.slice m.val.p m.val.n m.val.c,.int .i64 m.c,.slice m.bp m.bn m.bc,.slice m.ep m.en m.ec] 81)) j1 k1;rw [hz] at c0;clear e0 e1 e2 e3 e4 e5 e6 e7 e8 e9 f1 hc hf;refine (c0).mono ?_;rintro e w2 ⟨x2,rfl,hc,hf,o0,hb⟩;clear c0;replace hC:=((hC.trans (Cb (bal (Bs _) _)))).trans hb;have g0:=hb.size;simp only [Sa] at g0;clear y1 x1 w0 r0 x0 s0;replace a0:=Bk.keep (Bk.al a0 _) hb (fun h=>by have:=i0 _ h;omega);have l0:Bk w2 (wl.heap.size) [.int .i64 m.k,.int .i64 m.t,.int .i64 m.ix.k,.int .i64 m.ix.v,.slice m.ix.p m.ix.n m.ix.c,.int .i64 m.val.k,.int .i64 m.val.v,.slice m.val.p m.val.n m.val.c,.int .i64 m.c,.slice m.bp m.bn m.bc,.slice m.ep m.en m.ec]:=Bk.keep (Bk.nw (by simp) rfl) hb (fun h=>by have:=i0 _ h;omega);clear hb;clear l0;replace m1:=Lc hc;have HZ:=Hi hz;clear hz;have j0:Hid (Q=false):=Hi (k0.out HZ.out);have X1:=hc;have X2:=hf;have X3:=hC;have b0:=Hi (Ai X1 (Ai X2 X3));clear X1 X2 X3 hC;go_wp2
    exact bodyPost_ret (v:=.bool false) (by simp [results,Try.results58,go_sem]) rfl (by rw [j0.out];unfold ScP;exact ⟨_,rfl,b0.out.1,b0.out.2.1,(fun h=>(by cases h)),b0.out.2.2⟩)
   | true =>
    obtain ⟨t0,y0,u0,z0,v0,a1⟩:=Bk.f3 a0 0 1 2 rfl rfl rfl;go_wp2_with fail
    have c0:=IH.out D m y x dp _ c1.out (HM.out _ (Cb (bal (Bs wl) (.cells #[.int .i64 m.k,.int .i64 m.t,.int .i64 m.ix.k,.int .i64 m.ix.v,.slice m.ix.p m.ix.n m.ix.c,.int .i64 m.val.k,.int .i64 m.val.v,.slice m.val.p m.val.n m.val.c,.int .i64 m.c,.slice m.bp m.bn m.bc,.slice m.ep m.en m.ec] 81)))) (Ac hc (.cells #[.int .i64 m.k,.int .i64 m.t,.int .i64 m.ix.k,.int .i64 m.ix.v,.slice m.ix.p m.ix.n m.ix.c,.int .i64 m.val.k,.int .i64 m.val.v,.slice m.val.p m.val.n m.val.c,.int .i64 m.c,.slice m.bp m.bn m.bc,.slice m.ep m.en m.ec] 81)) (Fa (Lc hc) hf (.cells #[.int .i64 m.k,.int .i64 m.t,.int .i64 m.ix.k,.int .i64 m.ix.v,.slice m.ix.p m.ix.n m.ix.c,.int .i64 m.val.k,.int .i64 m.val.v,.slice m.val.p m.val.n m.val.c,.int .i64 m.c,.slice m.bp m.bn m.bc,.slice m.ep m.en m.ec] 81)) j1 k1;rw [hz] at c0;clear e0 e1 e2 e3 e4 e5 e6 e7 e8 e9 f1 hc hf;refine (c0).mono ?_;rintro e w2 ⟨x2,rfl,hc,hf,o0,hb⟩;clear c0;replace hC:=((hC.trans (Cb (bal (Bs _) _)))).trans hb;have h0:=hb.size;simp only [Sa] at h0;clear y0 t0 z0 u0 a1 v0;replace a0:=Bk.keep (Bk.al a0 _) hb (fun h=>by have:=i0 _ h;omega);have n0:Bk w2 (wl.heap.size) [.int .i64 m.k,.int .i64 m.t,.int .i64 m.ix.k,.int .i64 m.ix.v,.slice m.ix.p m.ix.n m.ix.c,.int .i64 m.val.k,.int .i64 m.val.v,.slice m.val.p m.val.n m.val.c,.int .i64 m.c,.slice m.bp m.bn m.bc,.slice m.ep m.en m.ec]:=Bk.keep (Bk.nw (by simp) rfl) hb (fun h=>by have:=i0 _ h;omega);clear hb;clear n0;replace m1:=Lc hc;have HZ:=Hi hz;clear hz;obtain ⟨g1,g2,g3⟩:=o1.out HZ.out;have l1:=o0 rfl;have q1:Hid (x2=c+blC d L (j+1)∧blTo nv na d L (j+1)=true):=Hi ⟨by rw [l1,g3],g1⟩;have s1:=n1.out;have r1:0≤x2∧x2≤60:=by omega
    clear g1 g2 g3 l1 o0 s1;have f0:=Hi (Ai hc (Ai hf (Ai r1 (Ai hC a0))));go_wp2
    go_roundw
    case rel=>exact ⟨j+1,x2,by omega,by go_num,f0.out.1,f0.out.2.1,q1,f0.out.2.2.1,f0.out.2.2.2.1,f0.out.2.2.2.2⟩
    case measure=>simp [intOf];omega
  have t1:j=L.length:=by omega
  subst t1;have u1:decide (((L.length:Nat):Int) < (L.length:Int))=false:=decide_eq_false (by omega);have j0:Hid (Q=true):=Hi (by rw [d1.out];have h1:=d0.out.2;rw [blTo_all] at h1;rw [h1,decide_eq_true (by have:=d0.out.1;omega)];rfl);have X1:=hc;have X2:=hf;have X3:=hC;have b0:=Hi (Ai X1 (Ai X2 X3));clear X1 X2 X3 hC;go_wp2
  exact bodyPost_ret (v:=.bool true) (by simp [results,Try.results58,go_sem]) rfl (by rw [j0.out];unfold ScP;exact ⟨_,rfl,b0.out.1,b0.out.2.1,(fun _=>d0.out.1),b0.out.2.2⟩)
end Go.Proofs.Ytnpidfbcbmeijaa
