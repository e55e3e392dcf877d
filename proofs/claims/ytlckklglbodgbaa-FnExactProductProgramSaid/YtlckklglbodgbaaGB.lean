/-
 Parts of the proofs of the laws FnExactProductProgram.
-/
import Derived.Test.YtlckklglbodgbaaPT
set_option maxHeartbeats 12800000
set_option maxRecDepth 100000
set_option linter.all false
namespace Go.Proofs.Ytlckklglbodgbaa
open Go.RowKit
def SzP (N:Nat) (left:Int) (w:World) (e:Ending) (w':World):Prop:=∃ r:Int,e=.returned (.int .i64 r)∧(r=-1∨(0≤r∧r=left-N))∧Below w.heap.size w w'
theorem szExpr_of (B:Nat→Prop) (D:Nat) (IH:∀ (u:Value) (L:List Ex) (left:Int) (w:World),RowOf enc 3 w B (ExAt w B D) u L→0≤left→left≤1048576→Calls Try.prog 103 #[u,.int .i64 left] w fun e w'=>SzP (exNs L) left w e w')
  (n:En) (e:Ex) (left:Int) (w:World) (hx:ExAt w B (D+1) n e) (h0:0≤left) (h1:left≤1048576) :
  Calls Try.prog 85 #[.agg #[.int .i64 n.k,.int .i64 n.v,.slice n.p n.n n.c],.int .i64 left] w fun r w'=>SzP (exN e) left w r w':=by
 have HX:=Hi (fun W (hW:Below w.heap.size w W)=>(ExAt.below hx hW).2.2);have c0:=Hi IH;have HN:=Hi (exN_kids e);clear IH hx;go_enter Try.func85,Try.ntmps85
 go_wp2_with fail
 refine (c0.out _ _ left _ (HX.out _ (bal (Bs w) (.cells #[.int .i64 n.k,.int .i64 n.v,.slice n.p n.n n.c] 79))) h0 h1).mono ?_;rintro e w1 ⟨r,rfl,hr,hb⟩;have a0:=hb.size;simp only [Sa] at a0;have d0:w1.cell? ⟨w.heap.size,0,none⟩=some (.int .i64 n.k):=Kc hb (Wc (by simp) (by rfl));have e0:w1.cell? ⟨w.heap.size,1,none⟩=some (.int .i64 n.v):=Kc hb (Wc (by simp) (by rfl));have f0:w1.cell? ⟨w.heap.size,2,none⟩=some (.slice n.p n.n n.c):=Kc hb (Wc (by simp) (by rfl));have b0:=btr (bal (Bs w) (.cells #[.int .i64 n.k,.int .i64 n.v,.slice n.p n.n n.c] 79)) hb;clear hb;clear d0 e0 f0;rcases hr with rfl | ⟨hr0,hr1⟩
 ·have hq:(-1:Int) < 0:=by omega
  have tt:=b0;go_wp2
  exact bodyPost_ret (v:=.int .i64 (-1)) (by simp [results,Try.results85,go_sem]) rfl (by exact (by unfold SzP;exact ⟨_,rfl,Or.inl rfl,tt⟩))
 have g0:=Hi hr1;clear hr1;have i0:¬r < 0:=by omega
 have tt:=b0;go_wp2
 exact bodyPost_ret (v:=.int .i64 r) (by simp [results,Try.results85,go_sem]) rfl (by exact (by unfold SzP;exact ⟨_,rfl,Or.inr ⟨hr0,by rw [HN.out];exact g0.out⟩,tt⟩))
theorem szRow_at {w:World} {B:Nat→Prop} {D:Nat} {pu:Option Addr} {cu:Nat} {L:List Ex} (hx:RowOf enc 3 w B (ExAt w B D) (.slice pu L.length cu) L) (j:Nat) (hj:j < L.length) :
  ∃ b o m,pu=some ⟨b,o,none⟩∧b < w.heap.size∧ExAt w B D m L[j]∧w.cell? ⟨b,o+j*3,none⟩=some (.int .i64 m.k)∧w.cell? ⟨b,o+j*3+1,none⟩=some (.int .i64 m.v)∧w.cell? ⟨b,o+j*3+2,none⟩=some (.slice m.p m.n m.c):=by
 have h:ExAt w B (D+1) ⟨0,0,pu,L.length,cu⟩ (.mk 0 0 L):=⟨rfl,rfl,hx⟩;obtain ⟨b,o,m,h1,_,h2,h3,h4,h5,h6⟩:=h.kidm j hj;exact ⟨b,o,m,h1,h2,h3,h4,h5,h6⟩
theorem szSt_at {w:World} {B:Nat→Prop} {D:Nat} {pu:Option Addr} {cu:Nat} {L:List St} (hx:RowOf snc 11 w B (StAt w B D) (.slice pu L.length cu) L) (j:Nat) (hj:j < L.length) :
  ∃ b o m,pu=some ⟨b,o,none⟩∧b < w.heap.size∧StAt w B D m L[j]∧w.cell? ⟨b,o+j*11,none⟩=some (.int .i64 m.k)∧w.cell? ⟨b,o+j*11+1,none⟩=some (.int .i64 m.t)∧w.cell? ⟨b,o+j*11+2,none⟩=some (.int .i64 m.ix.k)∧w.cell? ⟨b,o+j*11+3,none⟩=some (.int .i64 m.ix.v)∧w.cell? ⟨b,o+j*11+4,none⟩=some (.slice m.ix.p m.ix.n m.ix.c)∧w.cell? ⟨b,o+j*11+5,none⟩=some (.int .i64 m.val.k)∧w.cell? ⟨b,o+j*11+6,none⟩=some (.int .i64 m.val.v)∧w.cell? ⟨b,o+j*11+7,none⟩=some (.slice m.val.p m.val.n m.val.c)∧w.cell? ⟨b,o+j*11+8,none⟩=some (.int .i64 m.c)∧w.cell? ⟨b,o+j*11+9,none⟩=some (.slice m.bp m.bn m.bc)∧w.cell? ⟨b,o+j*11+10,none⟩=some (.slice m.ep m.en m.ec):=by
 obtain ⟨b,o,c,m,h1,_,h2,h3,h4⟩:=BlAt.stmt (show BlAt w B D _ L from hx) j hj;simp only [Value.slice.injEq] at h1;have g:=fun i hi=>h4 i hi
 exact ⟨b,o,m,h1.1,h2,h3,g 0 (by omega),g 1 (by omega),g 2 (by omega),g 3 (by omega),g 4 (by omega),g 5 (by omega),g 6 (by omega),g 7 (by omega),g 8 (by omega),g 9 (by omega),g 10 (by omega)⟩
theorem szExprS_of (B:Nat→Prop) (D:Nat) (H:∀ (n:En) (e:Ex) (left:Int) (w:World),ExAt w B D n e→0≤left→left≤1048576→Calls Try.prog 85 #[.agg #[.int .i64 n.k,.int .i64 n.v,.slice n.p n.n n.c],.int .i64 left] w fun r w'=>SzP (exN e) left w r w')
  (u:Value) (L:List Ex) (left:Int) (w:World) (hx:RowOf enc 3 w B (ExAt w B D) u L) (h0:0≤left) (h1:left≤1048576) :
  Calls Try.prog 103 #[u,.int .i64 left] w fun e w'=>SzP (exNs L) left w e w':=by
 obtain ⟨pu,cu,rfl⟩:=hx.shape;have HX:=Hi (fun W (hW:Below w.heap.size w W)=>szRow_at (RowOf.keep (S:=fun _=>False) hx (Cb hW) (fun _ _ _=>id) (fun _ h _=>h) (fun _ _ h=>ExAt.below h hW)));have HH:=Hi H;have a0:=Hi (fun k (h:k < L.length)=>exNs_take h);have c0:=Hi (exNs_all L);have p0:L.length≤9223372036854775807:=by obtain ⟨_,_,h,_⟩:=hx;exact h.2.1
 clear H hx;by_cases hneg:left-(L.length:Int) < 0
 ·clear HX HH a0 c0;go_enter Try.func103,Try.ntmps103
  have tt:=(Bs w);go_wp2
  exact bodyPost_ret (v:=.int .i64 (-1)) (by simp [results,Try.results103,go_sem]) rfl (by exact (by unfold SzP;exact ⟨_,rfl,Or.inl rfl,tt⟩))
 go_enter Try.func103,Try.ntmps103
 go_wp2_with fail
 go_loopw [1,5] (fun m i wr=>∃ (k:Nat) (x:Int),k≤L.length∧i=.int .i64 k∧m=.int .i64 x∧0≤x∧x≤1048576∧Hid (x=left-L.length-exNs (L.take k)+k)∧Below w.heap.size w wr) (fun _ i _=>L.length-(intOf i).toNat)
 case atStart=>exact ⟨0,left-L.length,Nat.zero_le _,rfl,rfl,by omega,by omega,Hi (by simp [exNs]),Bs _⟩
 case round =>
  obtain ⟨k,x,hk,rfl,rfl,g0,m0,b0,hB⟩:=hrel;by_cases hlt:k < L.length
  ·have k0:(k:Int) < (L.length:Int):=by omega
   obtain ⟨kb,ko,m,hp,o0,hm,e0,e1,e2⟩:=HX.out wr hB k hlt;subst hp;have HM:=Hi hm;have HS:=Hi (a0.out k hlt);clear hm a0;generalize L[k]=y at *
   have ke:=Lc e0;go_wp2_with fail
   refine (HH.out m y x _ HM.out g0 m0).mono ?_;rintro e w1 ⟨r,rfl,hr,hb⟩;have l0:=hb.size;replace e0:=Kc hb e0;replace e1:=Kc hb e1;replace e2:=Kc hb e2;replace i0:=btr hB hb;clear hb;clear e0 e1 e2;rcases hr with rfl | ⟨hr0,hr1⟩
   ·have hq:(-1:Int) < 0:=by omega
    have tt:=i0;go_wp2
    exact bodyPost_ret (v:=.int .i64 (-1)) (by simp [results,Try.results103,go_sem]) rfl (by exact (by unfold SzP;exact ⟨_,rfl,Or.inl rfl,tt⟩))
   have f0:=Hi hr1;clear hr1;have q0:¬r < 0:=by omega
   have d0:Hid (r=left-L.length-exNs (L.take (k+1))+(k+1:Nat)):=Hi (by rw [f0.out,b0.out,HS.out];omega);clear f0;have n0:r≤1048576:=by have:=d0.out;have:=b0.out;have:=HS.out;omega
   have HB:=Hi i0;go_wp2
   go_roundw
   case rel=>exact ⟨k+1,r,by omega,by go_num,rfl,hr0,n0,d0,HB.out⟩
   case measure=>simp [intOf];omega
  have j0:k=L.length:=by omega
  subst j0;have k0:decide (((L.length:Nat):Int) < (L.length:Int))=false:=decide_eq_false (by omega);have HR:Hid (x=left-exNs L):=Hi (by rw [b0.out,c0.out];omega);clear b0 a0 HX HH;have tt:=hB;go_wp2
  exact bodyPost_ret (v:=.int .i64 x) (by simp [results,Try.results103,go_sem]) rfl (by exact (by unfold SzP;exact ⟨_,rfl,Or.inr ⟨g0,HR.out⟩,tt⟩))
theorem szEx_both (B:Nat→Prop):∀ D:Nat,(∀ (n:En) (e:Ex) (left:Int) (w:World),ExAt w B D n e→0≤left→left≤1048576→Calls Try.prog 85 #[.agg #[.int .i64 n.k,.int .i64 n.v,.slice n.p n.n n.c],.int .i64 left] w fun r w'=>SzP (exN e) left w r w')∧(∀ (u:Value) (L:List Ex) (left:Int) (w:World),RowOf enc 3 w B (ExAt w B D) u L→0≤left→left≤1048576→Calls Try.prog 103 #[u,.int .i64 left] w fun e w'=>SzP (exNs L) left w e w'):=by
 intro D
 induction D with
 | zero =>
  have h:∀ (n:En) (e:Ex) (left:Int) (w:World),ExAt w B 0 n e→0≤left→left≤1048576→Calls Try.prog 85 #[.agg #[.int .i64 n.k,.int .i64 n.v,.slice n.p n.n n.c],.int .i64 left] w fun r w'=>SzP (exN e) left w r w':=fun n e left w hx=>(by cases hx)
  exact ⟨h,szExprS_of B 0 h⟩
 | succ D ih =>
  have h:∀ (n:En) (e:Ex) (left:Int) (w:World),ExAt w B (D+1) n e→0≤left→left≤1048576→Calls Try.prog 85 #[.agg #[.int .i64 n.k,.int .i64 n.v,.slice n.p n.n n.c],.int .i64 left] w fun r w'=>SzP (exN e) left w r w':=fun n e left w hx h0 h1=>szExpr_of B D ih.2 n e left w hx h0 h1
  exact ⟨h,szExprS_of B (D+1) h⟩
theorem szStmt_of (B:Nat→Prop) (D:Nat) (HE:∀ (D:Nat) (n:En) (e:Ex) (left:Int) (w:World),ExAt w B D n e→0≤left→left≤1048576→Calls Try.prog 85 #[.agg #[.int .i64 n.k,.int .i64 n.v,.slice n.p n.n n.c],.int .i64 left] w fun r w'=>SzP (exN e) left w r w') (IH:∀ (u:Value) (L:List St) (left:Int) (w:World),RowOf snc 11 w B (StAt w B D) u L→0≤left→left≤1048576→Calls Try.prog 28 #[u,.int .i64 left] w fun e w'=>SzP (stNs L) left w e w')
  (n:Sn) (e:St) (left:Int) (w:World) (hx:StAt w B (D+1) n e) (h0:0≤left) (h1:left≤1048576) :
  Calls Try.prog 56 #[.agg #[.int .i64 n.k,.int .i64 n.t,.int .i64 n.ix.k,.int .i64 n.ix.v,.slice n.ix.p n.ix.n n.ix.c,.int .i64 n.val.k,.int .i64 n.val.v,.slice n.val.p n.val.n n.val.c,.int .i64 n.c,.slice n.bp n.bn n.bc,.slice n.ep n.en n.ec],.int .i64 left] w fun r w'=>SzP (stN1 e) left w r w':=by
 obtain ⟨k,t,ix,val,c,body,els⟩:=e;obtain ⟨q1,q2,q3,⟨D1,hi⟩,⟨D2,hv⟩,s0,t0⟩:=hx;clear q1 q2 q3;have HI:=Hi (fun W (hW:Below w.heap.size w W)=>ExAt.below hi hW);have HV:=Hi (fun W (hW:Below w.heap.size w W)=>ExAt.below hv hW);have y0:=Hi (fun W (hW:Below w.heap.size w W)=>(BlAt.below s0 hW:RowOf _ _ _ _ _ _ _));have z0:=Hi (fun W (hW:Below w.heap.size w W)=>(BlAt.below t0 hW:RowOf _ _ _ _ _ _ _));have q0:=Hi HE;have r0:=Hi IH;have HN:=Hi (stN_parts (.mk k t ix val c body els));clear IH HE hi hv s0 t0;go_enter Try.func56,Try.ntmps56
 go_wp2_with fail
 refine (q0.out D1 _ ix left _ (HI.out _ (bal (Bs w) (.cells #[.int .i64 n.k,.int .i64 n.t,.int .i64 n.ix.k,.int .i64 n.ix.v,.slice n.ix.p n.ix.n n.ix.c,.int .i64 n.val.k,.int .i64 n.val.v,.slice n.val.p n.val.n n.val.c,.int .i64 n.c,.slice n.bp n.bn n.bc,.slice n.ep n.en n.ec] 81))) h0 h1).mono ?_;rintro e w1 ⟨ra,rfl,hr,hb⟩;have o0:=hb.size;simp only [Sa] at o0;have e0:w1.cell? ⟨w.heap.size,0,none⟩=some (.int .i64 n.k):=Kc hb (Wc (by simp) (by rfl));have f0:w1.cell? ⟨w.heap.size,1,none⟩=some (.int .i64 n.t):=Kc hb (Wc (by simp) (by rfl));have g0:w1.cell? ⟨w.heap.size,2,none⟩=some (.int .i64 n.ix.k):=Kc hb (Wc (by simp) (by rfl));have i0:w1.cell? ⟨w.heap.size,3,none⟩=some (.int .i64 n.ix.v):=Kc hb (Wc (by simp) (by rfl));have j0:w1.cell? ⟨w.heap.size,4,none⟩=some (.slice n.ix.p n.ix.n n.ix.c):=Kc hb (Wc (by simp) (by rfl));have k0:w1.cell? ⟨w.heap.size,5,none⟩=some (.int .i64 n.val.k):=Kc hb (Wc (by simp) (by rfl));have l0:w1.cell? ⟨w.heap.size,6,none⟩=some (.int .i64 n.val.v):=Kc hb (Wc (by simp) (by rfl));have m0:w1.cell? ⟨w.heap.size,7,none⟩=some (.slice n.val.p n.val.n n.val.c):=Kc hb (Wc (by simp) (by rfl));have a0:w1.cell? ⟨w.heap.size,8,none⟩=some (.int .i64 n.c):=Kc hb (Wc (by simp) (by rfl));have b0:w1.cell? ⟨w.heap.size,9,none⟩=some (.slice n.bp n.bn n.bc):=Kc hb (Wc (by simp) (by rfl));have c0:w1.cell? ⟨w.heap.size,10,none⟩=some (.slice n.ep n.en n.ec):=Kc hb (Wc (by simp) (by rfl));have d0:=btr (bal (Bs w) (.cells #[.int .i64 n.k,.int .i64 n.t,.int .i64 n.ix.k,.int .i64 n.ix.v,.slice n.ix.p n.ix.n n.ix.c,.int .i64 n.val.k,.int .i64 n.val.v,.slice n.val.p n.val.n n.val.c,.int .i64 n.c,.slice n.bp n.bn n.bc,.slice n.ep n.en n.ec] 81)) hb;clear hb;have e1:=Lc e0;rcases hr with rfl | ⟨ra0,ra1⟩
 ·have hq:(-1:Int) < 0:=by omega
  have tt:=d0;go_wp2
  exact bodyPost_ret (v:=.int .i64 (-1)) (by simp [results,Try.results56,go_sem]) rfl (by exact (by unfold SzP;exact ⟨_,rfl,Or.inl rfl,tt⟩))
 have n0:=Hi ra1;clear ra1;have a1:¬ra < 0:=by omega
 go_wp2_with fail
 refine (q0.out D2 _ val ra _ (HV.out _ d0) ra0 (by have:=n0.out;omega)).mono ?_;rintro e w2 ⟨rb,rfl,hr,hb⟩;have u0:=hb.size;replace e0:=Kc hb e0;replace f0:=Kc hb f0;replace g0:=Kc hb g0;replace i0:=Kc hb i0;replace j0:=Kc hb j0;replace k0:=Kc hb k0;replace l0:=Kc hb l0;replace m0:=Kc hb m0;replace a0:=Kc hb a0;replace b0:=Kc hb b0;replace c0:=Kc hb c0;replace d0:=btr d0 hb;clear hb;rcases hr with rfl | ⟨rb0,rb1⟩
 ·have hq:(-1:Int) < 0:=by omega
  have tt:=d0;go_wp2
  exact bodyPost_ret (v:=.int .i64 (-1)) (by simp [results,Try.results56,go_sem]) rfl (by exact (by unfold SzP;exact ⟨_,rfl,Or.inl rfl,tt⟩))
 have p0:=Hi rb1;clear rb1;have b1:¬rb < 0:=by omega
 go_wp2_with fail
 refine (r0.out _ body rb _ (y0.out _ d0) rb0 (by have:=n0.out;have:=p0.out;omega)).mono ?_;rintro e w3 ⟨rc,rfl,hr,hb⟩;have v0:=hb.size;replace e0:=Kc hb e0;replace f0:=Kc hb f0;replace g0:=Kc hb g0;replace i0:=Kc hb i0;replace j0:=Kc hb j0;replace k0:=Kc hb k0;replace l0:=Kc hb l0;replace m0:=Kc hb m0;replace a0:=Kc hb a0;replace b0:=Kc hb b0;replace c0:=Kc hb c0;replace d0:=btr d0 hb;clear hb;rcases hr with rfl | ⟨rc0,rc1⟩
 ·have hq:(-1:Int) < 0:=by omega
  have tt:=d0;go_wp2
  exact bodyPost_ret (v:=.int .i64 (-1)) (by simp [results,Try.results56,go_sem]) rfl (by exact (by unfold SzP;exact ⟨_,rfl,Or.inl rfl,tt⟩))
 have x0:=Hi rc1;clear rc1;have c1:¬rc < 0:=by omega
 go_wp2_with fail
 refine (r0.out _ els rc _ (z0.out _ d0) rc0 (by have:=n0.out;have:=p0.out;have:=x0.out;omega)).mono ?_;rintro e w4 ⟨rd,rfl,hr,hb⟩;have w0:=hb.size;replace e0:=Kc hb e0;replace f0:=Kc hb f0;replace g0:=Kc hb g0;replace i0:=Kc hb i0;replace j0:=Kc hb j0;replace k0:=Kc hb k0;replace l0:=Kc hb l0;replace m0:=Kc hb m0;replace a0:=Kc hb a0;replace b0:=Kc hb b0;replace c0:=Kc hb c0;replace d0:=btr d0 hb;clear hb;clear e0 f0 g0 i0 j0 k0 l0 m0 a0 b0 c0;rcases hr with rfl | ⟨rd0,rd1⟩
 ·have hq:(-1:Int) < 0:=by omega
  have tt:=d0;go_wp2
  exact bodyPost_ret (v:=.int .i64 (-1)) (by simp [results,Try.results56,go_sem]) rfl (by exact (by unfold SzP;exact ⟨_,rfl,Or.inl rfl,tt⟩))
 have f1:=Hi rd1;clear rd1;have d1:¬rd < 0:=by omega
 have tt:=d0;go_wp2
 exact bodyPost_ret (v:=.int .i64 rd) (by simp [results,Try.results56,go_sem]) rfl (by exact (by unfold SzP;exact ⟨_,rfl,Or.inr ⟨rd0,by rw [HN.out];simp only [St.ix,St.val,St.body,St.els];have:=n0.out;have:=p0.out;have:=x0.out;have:=f1.out;omega⟩,tt⟩))
theorem szStmtS_of (B:Nat→Prop) (D:Nat) (H:∀ (n:Sn) (e:St) (left:Int) (w:World),StAt w B D n e→0≤left→left≤1048576→Calls Try.prog 56 #[.agg #[.int .i64 n.k,.int .i64 n.t,.int .i64 n.ix.k,.int .i64 n.ix.v,.slice n.ix.p n.ix.n n.ix.c,.int .i64 n.val.k,.int .i64 n.val.v,.slice n.val.p n.val.n n.val.c,.int .i64 n.c,.slice n.bp n.bn n.bc,.slice n.ep n.en n.ec],.int .i64 left] w fun r w'=>SzP (stN1 e) left w r w')
  (u:Value) (L:List St) (left:Int) (w:World) (hx:RowOf snc 11 w B (StAt w B D) u L) (h0:0≤left) (h1:left≤1048576) :
  Calls Try.prog 28 #[u,.int .i64 left] w fun e w'=>SzP (stNs L) left w e w':=by
 obtain ⟨pu,cu,rfl⟩:=hx.shape;have HX:=Hi (fun W (hW:Below w.heap.size w W)=>szSt_at (BlAt.below (show BlAt w B D _ L from hx) hW));have HH:=Hi H;have a0:=Hi (fun k (h:k < L.length)=>stNs_take h);have d0:=Hi (stNs_all L);have q0:L.length≤9223372036854775807:=by obtain ⟨_,_,h,_⟩:=hx;exact h.2.1
 clear H hx;by_cases hneg:left-(L.length:Int) < 0
 ·clear HX HH a0 d0;go_enter Try.func28,Try.ntmps28
  have tt:=(Bs w);go_wp2
  exact bodyPost_ret (v:=.int .i64 (-1)) (by simp [results,Try.results28,go_sem]) rfl (by exact (by unfold SzP;exact ⟨_,rfl,Or.inl rfl,tt⟩))
 go_enter Try.func28,Try.ntmps28
 go_wp2_with fail
 go_loopw [1,5] (fun m i wr=>∃ (k:Nat) (x:Int),k≤L.length∧i=.int .i64 k∧m=.int .i64 x∧0≤x∧x≤1048576∧Hid (x=left-L.length-stNs (L.take k)+k)∧Below w.heap.size w wr) (fun _ i _=>L.length-(intOf i).toNat)
 case atStart=>exact ⟨0,left-L.length,Nat.zero_le _,rfl,rfl,by omega,by omega,Hi (by simp [stNs]),Bs _⟩
 case round =>
  obtain ⟨k,x,hk,rfl,rfl,i0,n0,b0,hB⟩:=hrel;by_cases hlt:k < L.length
  ·have l0:(k:Int) < (L.length:Int):=by omega
   obtain ⟨kb,ko,m,hp,p0,hm,e0,e1,e2,e3,e4,e5,e6,e7,e8,e9,c0⟩:=HX.out wr hB k hlt;subst hp;have HM:=Hi hm;have HS:=Hi (a0.out k hlt);clear hm a0;generalize L[k]=y at *
   have ke:=Lc e0;go_wp2_with fail
   refine (HH.out m y x _ HM.out i0 n0).mono ?_;rintro e w1 ⟨r,rfl,hr,hb⟩;have m0:=hb.size;replace e0:=Kc hb e0;replace e1:=Kc hb e1;replace e2:=Kc hb e2;replace e3:=Kc hb e3;replace e4:=Kc hb e4;replace e5:=Kc hb e5;replace e6:=Kc hb e6;replace e7:=Kc hb e7;replace e8:=Kc hb e8;replace e9:=Kc hb e9;replace c0:=Kc hb c0;replace j0:=btr hB hb;clear hb;clear e0 e1 e2 e3 e4 e5 e6 e7 e8 e9 c0;rcases hr with rfl | ⟨hr0,hr1⟩
   ·have hq:(-1:Int) < 0:=by omega
    have tt:=j0;go_wp2
    exact bodyPost_ret (v:=.int .i64 (-1)) (by simp [results,Try.results28,go_sem]) rfl (by exact (by unfold SzP;exact ⟨_,rfl,Or.inl rfl,tt⟩))
   have g0:=Hi hr1;clear hr1;have r0:¬r < 0:=by omega
   have f0:Hid (r=left-L.length-stNs (L.take (k+1))+(k+1:Nat)):=Hi (by rw [g0.out,b0.out,HS.out];omega);clear g0;have o0:r≤1048576:=by have:=f0.out;have:=b0.out;have:=HS.out;omega
   have HB:=Hi j0;go_wp2
   go_roundw
   case rel=>exact ⟨k+1,r,by omega,by go_num,rfl,hr0,o0,f0,HB.out⟩
   case measure=>simp [intOf];omega
  have k0:k=L.length:=by omega
  subst k0;have l0:decide (((L.length:Nat):Int) < (L.length:Int))=false:=decide_eq_false (by omega);have HR:Hid (x=left-stNs L):=Hi (by rw [b0.out,d0.out];omega);clear b0 a0 HX HH;have tt:=hB;go_wp2
  exact bodyPost_ret (v:=.int .i64 x) (by simp [results,Try.results28,go_sem]) rfl (by exact (by unfold SzP;exact ⟨_,rfl,Or.inr ⟨i0,HR.out⟩,tt⟩))
theorem szSt_both (B:Nat→Prop):∀ D:Nat,(∀ (n:Sn) (e:St) (left:Int) (w:World),StAt w B D n e→0≤left→left≤1048576→Calls Try.prog 56 #[.agg #[.int .i64 n.k,.int .i64 n.t,.int .i64 n.ix.k,.int .i64 n.ix.v,.slice n.ix.p n.ix.n n.ix.c,.int .i64 n.val.k,.int .i64 n.val.v,.slice n.val.p n.val.n n.val.c,.int .i64 n.c,.slice n.bp n.bn n.bc,.slice n.ep n.en n.ec],.int .i64 left] w fun r w'=>SzP (stN1 e) left w r w')∧(∀ (u:Value) (L:List St) (left:Int) (w:World),RowOf snc 11 w B (StAt w B D) u L→0≤left→left≤1048576→Calls Try.prog 28 #[u,.int .i64 left] w fun e w'=>SzP (stNs L) left w e w'):=by
 intro D
 induction D with
 | zero =>
  have h:∀ (n:Sn) (e:St) (left:Int) (w:World),StAt w B 0 n e→0≤left→left≤1048576→Calls Try.prog 56 #[.agg #[.int .i64 n.k,.int .i64 n.t,.int .i64 n.ix.k,.int .i64 n.ix.v,.slice n.ix.p n.ix.n n.ix.c,.int .i64 n.val.k,.int .i64 n.val.v,.slice n.val.p n.val.n n.val.c,.int .i64 n.c,.slice n.bp n.bn n.bc,.slice n.ep n.en n.ec],.int .i64 left] w fun r w'=>SzP (stN1 e) left w r w':=fun n e left w hx=>(by cases hx)
  exact ⟨h,szStmtS_of B 0 h⟩
 | succ D ih =>
  have h:∀ (n:Sn) (e:St) (left:Int) (w:World),StAt w B (D+1) n e→0≤left→left≤1048576→Calls Try.prog 56 #[.agg #[.int .i64 n.k,.int .i64 n.t,.int .i64 n.ix.k,.int .i64 n.ix.v,.slice n.ix.p n.ix.n n.ix.c,.int .i64 n.val.k,.int .i64 n.val.v,.slice n.val.p n.val.n n.val.c,.int .i64 n.c,.slice n.bp n.bn n.bc,.slice n.ep n.en n.ec],.int .i64 left] w fun r w'=>SzP (stN1 e) left w r w':=fun n e left w hx h0 h1=>szStmt_of B D (fun D=>(szEx_both B D).1) ih.2 n e left w hx h0 h1
  exact ⟨h,szStmtS_of B (D+1) h⟩
end Go.Proofs.Ytlckklglbodgbaa
