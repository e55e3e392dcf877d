/-
 Parts of the proofs of the laws FnDoubleLabels.
-/
import Derived.Test.YtlckklglbodgbaaGA
import Derived.Test.YtlckklglbodgbaaGI
import Derived.Test.YtlckklglbodgbaaRI
set_option maxHeartbeats 12800000
set_option maxRecDepth 100000
set_option linter.all false
namespace Go.Proofs.Ytlckklglbodgbaa
open Go.RowKit
def exRight (nv na:Nat) (e:Ex):Bool:=exOk nv na 5 e&&decide (exCnt 5 e≤15)
theorem chg_app {S T:Nat→Prop} {w W W':World} (h:Chg S w W) (k:Chg T W W') (hs:∀ q,q < w.heap.size→T q→S q):Chg S w W':=
 ⟨k.os.trans h.os,k.tape.trans h.tape,k.output.trans h.output,Nat.le_trans h.size k.size,fun q hq hn=>(k.block q (Nat.lt_of_lt_of_le hq h.size) (fun h2=>hn (hs q hq h2))).trans (h.block q hq hn)⟩
def dcost:Nat→Nat
 | 0=>8
 | d+1=>8+3*dcost d
theorem l2Right_any (pv pa:Option Addr) (nv cv na ca:Nat) (vb:Value) (B:Nat→Prop) (D:Nat) (n:En) (e:Ex) (w:World) (hx:ExAt w B D n e) :
  Calls Try.prog 99 #[.agg #[.slice pv nv cv,.slice pa na ca,vb],.agg #[.int .i64 n.k,.int .i64 n.v,.slice n.p n.n n.c]] w fun r w'=>r=.returned (.bool (exRight nv na e))∧Below w.heap.size w w':=by
 have HX:=Hi (fun W (hW:Below w.heap.size w W)=>hx.below hW);have HN:Hid (exOk nv na 5 e=false→exRight nv na e=false):=Hi (fun h=>by unfold exRight;rw [h];rfl);have HY:Hid (exOk nv na 5 e=true→exRight nv na e=decide (exCnt 5 e≤15)):=Hi (fun h=>by unfold exRight;rw [h];rfl);have HS:=Hi (fun W (hW:Below w.heap.size w W)=>l2Shape_any pv pa nv cv na ca vb B 5 D n e W (by omega) (HX.out W hW));have HC:=Hi (fun (h:exOk nv na 5 e=true) W (hW:Below w.heap.size w W)=>l2Count_any B 5 D 5 n e W (by omega) (HX.out W hW) (exOk_thin (nv:=nv) (na:=na) h));clear hx HX;generalize exRight nv na e=X at *
 generalize exCnt 5 e=Y at *
 go_enter Try.func99,Try.ntmps99
 go_wp2_with fail
 refine (HS.out _ (bal (bal (Bs w) (.cells #[.slice pv nv cv,.slice pa na ca,vb] 26)) (.cells #[.int .i64 n.k,.int .i64 n.v,.slice n.p n.n n.c] 49))).mono ?_;rintro e w1 ⟨rfl,hb⟩;have c0:=hb.size;simp only [Sa] at c0;have g0:Bk w1 (w.heap.size) [.slice pv nv cv,.slice pa na ca,vb]:=Bb (Bk.al (Bk.nw (by simp) rfl) (.cells #[.int .i64 n.k,.int .i64 n.v,.slice n.p n.n n.c] 49)) hb;have a0:Bk w1 (w.heap.size+1) [.int .i64 n.k,.int .i64 n.v,.slice n.p n.n n.c]:=Bb (Bk.nw (by simp) rfl) hb;have b0:=btr (bal (bal (Bs w) (.cells #[.slice pv nv cv,.slice pa na ca,vb] 26)) (.cells #[.int .i64 n.k,.int .i64 n.v,.slice n.p n.n n.c] 49)) hb;clear hb;clear g0;have m0:=Bk.lz a0
 cases hc:exOk nv na 5 e with
 | false =>
  have HR:=Hi (HN.out hc);clear HN HY HC HS hc;have tt:=b0;go_wp2
  exact bodyPost_ret (v:=.bool false) (by simp [results,Try.results99,go_sem]) rfl (by exact by rw [HR.out];exact ⟨rfl,tt⟩)
 | true =>
  have HR:=Hi (HY.out hc);have f0:=Hi (HC.out hc);clear HN HY HC HS hc;obtain ⟨h0,k0,i0,l0,j0,d0⟩:=Bk.f3 a0 0 1 2 rfl rfl rfl;go_wp2_with fail
  refine (f0.out _ b0).mono ?_;rintro e w2 ⟨rfl,hb⟩;have e0:=hb.size;clear k0 h0 l0 i0 d0 j0;replace a0:=Bb a0 hb;replace b0:=btr b0 hb;clear hb;clear a0;have tt:=b0;go_wp2
  exact bodyPost_ret (v:=.bool (decide (Y≤15))) (by simp [results,Try.results99,go_sem]) rfl (by exact by rw [HR.out];exact ⟨rfl,tt⟩)
theorem l2DrawAtom_any (pv pa:Option Addr) (nv cv na ca:Nat) (vb:Value) (B g p:Nat) (w:World) (hR:Rnd w B g p) (hp:p+2≤1000000000) (hnv:1≤nv) (hnb:nv≤1000∧na≤1000) :
  Calls Try.prog 133 #[.pointer (some ⟨g,0,none⟩),.agg #[.slice pv nv cv,.slice pa na ca,vb]] w fun r w'=>∃ (k v:Int) (p':Nat),r=.returned (.agg #[.int .i64 k,.int .i64 v,.slice none 0 0])∧Rnd w' B g p'∧p'≤p+2∧Chg (fun q=>q=g) w w':=by
 have hg:=hR.lt;have hC:Chg (fun k=>k=g) w w:=Chg.refl _ _;have f1:∀ q,(fun k=>k=g) q→q=g:=fun q h=>h
 go_enter Try.func133,Try.ntmps133
 go_wp2_with fail
 refine (pick_any _ _ B g (p) ((hR.below (bal (Bs _) (.cells #[.slice pv nv cv,.slice pa na ca,vb] 26))).below (bal (Bs _) (.cells #[.int .i64 0,.int .i64 0,.slice none 0 0] 49))) (by omega) (by omega) (by omega)).mono ?_;rintro e w1 ⟨r,r0,r1,rfl,a0,hc⟩;replace hC:=(((hC.trans (Cb (bal (Bs _) _))).trans (Cb (bal (Bs _) _)))).trans hc;replace hR:=a0;clear a0;have d0:=hc.size;simp only [Sa] at d0;have b0:Bk w1 (w.heap.size) [.slice pv nv cv,.slice pa na ca,vb]:=Bk.kg (Bk.al (Bk.nw (by simp) rfl) (.cells #[.int .i64 0,.int .i64 0,.slice none 0 0] 49)) hc;have c0:Bk w1 (w.heap.size+1) [.int .i64 0,.int .i64 0,.slice none 0 0]:=Bk.kg (Bk.nw (by simp) rfl) hc;clear hc;have g1:=Bk.lz b0;have h1:=Bk.lz c0;by_cases h0:r=0
 ·subst h0;go_wp2_with fail
  refine (num_any _ [1,0,2,3,255,7,128] _ B g (p+1) (hR.below (bal (Bs _) (.cells #[.int .i64 1,.int .i64 0,.int .i64 2,.int .i64 3,.int .i64 255,.int .i64 7,.int .i64 128] 3))) (Ro (World.ownsRow_lit (base:=(w1).heap.size) (e:=3) (size:=1) (w1) #[.int .i64 1,.int .i64 0,.int .i64 2,.int .i64 3,.int .i64 255,.int .i64 7,.int .i64 128] 7 Lr (by unfold maxLen;omega) (by simp)) (by simp)) (fun b o c hb=>by simp at hb;omega) (by simp) (by simp) (by omega)).mono ?_;rintro e w2 ⟨v,vm,rfl,a0,hc⟩;replace hC:=((hC.trans (Cb (bal (Bs _) _)))).trans hc;replace hR:=a0;clear a0;have e0:=hc.size;simp only [Sa] at e0;replace b0:=Bk.kg (Bk.al b0 _) hc;replace c0:=Bk.kg (Bk.al c0 _) hc;have o0:Bk w2 (w1.heap.size) [.int .i64 1,.int .i64 0,.int .i64 2,.int .i64 3,.int .i64 255,.int .i64 7,.int .i64 128]:=Bk.kg (Bk.nw (by simp) rfl) hc;clear hc;clear o0;have tC:=(((hC.sN (w.heap.size+1) (0) (.int .i64 1)).sN (w.heap.size+1) (1) (.int .i64 v)).sN (w.heap.size+1) (2) (.slice none 0 0));have tR:=(((hR.kC (w.heap.size+1) (0) (.int .i64 1)).kC (w.heap.size+1) (1) (.int .i64 v)).kC (w.heap.size+1) (2) (.slice none 0 0));obtain ⟨p0,s0,f0,t0,g0,u0⟩:=Bk.f3 c0 0 1 2 rfl rfl rfl;have z0:=(Nn (b:=(w.heap.size+1)) (j:=2) (Nn (b:=(w.heap.size+1)) (j:=1) (Tc _ (w.heap.size+1) 0 (.int .i64 1) p0) (.int .i64 v)) (.slice none 0 0));have a1:=(Nn (b:=(w.heap.size+1)) (j:=2) (Tc _ (w.heap.size+1) 1 (.int .i64 v) (Nn (b:=(w.heap.size+1)) (j:=0) f0 (.int .i64 1))) (.slice none 0 0));have b1:=(Tc _ (w.heap.size+1) 2 (.slice none 0 0) (Nn (b:=(w.heap.size+1)) (j:=1) (Nn (b:=(w.heap.size+1)) (j:=0) g0 (.int .i64 1)) (.int .i64 v)));have tt:=True.intro;go_wp2
  exact bodyPost_ret (v:=.agg #[.int .i64 1,.int .i64 v,.slice none 0 0]) (by simp [results,Try.results133,go_sem,z0,a1,b1]) rfl (by exact ⟨_,_,_,rfl,tR,by omega,tC⟩)
 have q0:(r == 0)=false:=by simpa using h0
 obtain ⟨i0,m0⟩:=Bk.cf b0 0 rfl;go_wp2_with fail
 refine (pick_any _ _ B g (p+1) hR (by omega) (by omega) (by omega)).mono ?_;rintro e w2 ⟨v,v0,v1,rfl,a0,hc⟩;replace hC:=(hC).trans hc;replace hR:=a0;clear a0;have n0:=hc.size;clear m0 i0;replace b0:=Bk.kg b0 hc;replace c0:=Bk.kg c0 hc;clear hc;clear b0;have tC:=(((hC.sN (w.heap.size+1) (0) (.int .i64 2)).sN (w.heap.size+1) (1) (.int .i64 v)).sN (w.heap.size+1) (2) (.slice none 0 0));have tR:=(((hR.kC (w.heap.size+1) (0) (.int .i64 2)).kC (w.heap.size+1) (1) (.int .i64 v)).kC (w.heap.size+1) (2) (.slice none 0 0));obtain ⟨j0,w0,k0,x0,l0,y0⟩:=Bk.f3 c0 0 1 2 rfl rfl rfl;have c1:=(Nn (b:=(w.heap.size+1)) (j:=2) (Nn (b:=(w.heap.size+1)) (j:=1) (Tc _ (w.heap.size+1) 0 (.int .i64 2) j0) (.int .i64 v)) (.slice none 0 0));have d1:=(Nn (b:=(w.heap.size+1)) (j:=2) (Tc _ (w.heap.size+1) 1 (.int .i64 v) (Nn (b:=(w.heap.size+1)) (j:=0) k0 (.int .i64 2))) (.slice none 0 0));have e1:=(Tc _ (w.heap.size+1) 2 (.slice none 0 0) (Nn (b:=(w.heap.size+1)) (j:=1) (Nn (b:=(w.heap.size+1)) (j:=0) l0 (.int .i64 2)) (.int .i64 v)));have tt:=True.intro;go_wp2
 exact bodyPost_ret (v:=.agg #[.int .i64 2,.int .i64 v,.slice none 0 0]) (by simp [results,Try.results133,go_sem,c1,d1,e1]) rfl (by exact ⟨_,_,_,rfl,tR,by omega,tC⟩)
theorem expr_any (pv pa:Option Addr) (nv cv na ca:Nat) (vb:Value) (hnv:nv≤1000000000∧na≤1000000000) (B:Nat→Prop) (D:Nat) (n:En) (e:Ex) (w:World) (hx:ExAt w B D n e) :
  Calls Try.prog 82 #[.agg #[.slice pv nv cv,.slice pa na ca,vb],.agg #[.int .i64 n.k,.int .i64 n.v,.slice n.p n.n n.c]] w fun r w'=>r=.returned (.bool (exRight nv na e))∧Below w.heap.size w w':=by
 have v0:ExAt w (fun q=>q < w.heap.size) D n e:=ExAt.keep (S:=fun _=>False) (Chg.refl _ _) (fun _ _ _=>id) (fun q _ h=>h) Lr hx;have HX:=Hi (fun W (hW:Below w.heap.size w W)=>ExAt.below v0 hW);have HQ:Hid (exRight nv na e=scR nv na 5 0 e):=Hi (by unfold exRight scR;simp);generalize exRight nv na e=Q at *
 clear hx v0;go_enter Try.func82,Try.ntmps82
 go_upto_region 2 with (fail)
 obtain ⟨w1,t0,hb⟩:=nmw (World.alloc (World.alloc (World.alloc w (.cells #[.slice pv nv cv,.slice pa na ca,vb] 26)) (.cells #[.int .i64 n.k,.int .i64 n.v,.slice n.p n.n n.c] 49)) (.cells #[.int .i64 0] 3));have f0:=hb.size;simp only [Sa] at f0;have b0:Bk w1 (w.heap.size) [.slice pv nv cv,.slice pa na ca,vb]:=Bb (Bk.al (Bk.al (Bk.nw (by simp) rfl) (.cells #[.int .i64 n.k,.int .i64 n.v,.slice n.p n.n n.c] 49)) (.cells #[.int .i64 0] 3)) hb;have c0:Bk w1 (w.heap.size+1) [.int .i64 n.k,.int .i64 n.v,.slice n.p n.n n.c]:=Bb (Bk.al (Bk.nw (by simp) rfl) (.cells #[.int .i64 0] 3)) hb;have d0:w1.cell? ⟨w.heap.size+1+1,0,none⟩=some (.int .i64 0):=Kc hb (Wc (by simp) (by rfl));have s0:w1.frozen? ⟨w.heap.size+1+1,0,none⟩=false:=Kf hb (by simp <;> omega) (Fn (by simp));have a0:=btr (bal (bal (bal (Bs w) (.cells #[.slice pv nv cv,.slice pa na ca,vb] 26)) (.cells #[.int .i64 n.k,.int .i64 n.v,.slice n.p n.n n.c] 49)) (.cells #[.int .i64 0] 3)) hb;clear hb;rw [← t0];clear t0;have a1:=Bk.lz b0;have b1:=Bk.lz c0;have c1:=Lc d0;have g0:∀ q,(fun k=>k=w.heap.size+1+1) q→q=w.heap.size+1+1:=fun q h=>h
 obtain ⟨z0,m0,h0,n0,i0,o0⟩:=Bk.f3 b0 0 1 2 rfl rfl rfl;obtain ⟨j0,p0,k0,q0,l0,r0⟩:=Bk.f3 c0 0 1 2 rfl rfl rfl;go_wp2_with fail
 have e0:=scan_any (w.heap.size+1+1) pv pa nv cv na ca vb (fun q=>q < w.heap.size) (fun q h e=>by omega) hnv 5 D n e 0 1 _ (by omega) (by omega) (HX.out _ a0) d0 s0 (by omega) (by omega);rw [← HQ.out] at e0;clear d0 s0;refine (e0).mono ?_;rintro e w2 ⟨c2,rfl,w0,y0,x0,hb⟩;clear e0 w0 y0 x0;have u0:=hb.size;clear m0 z0 n0 h0 o0 i0 p0 j0 q0 k0 r0 l0;replace b0:=Bk.keep b0 hb (fun h=>by have:=g0 _ h;omega);replace c0:=Bk.keep c0 hb (fun h=>by have:=g0 _ h;omega);replace a0:=a0.trans (hb.below w.heap.size (by have:=a0.size;omega) (fun gq hgq h=>by have:=g0 gq h;omega));clear hb;have tt:=a0;go_wp2
 exact bodyPost_ret (v:=.bool Q) (by simp [results,Try.results82,go_sem]) rfl (by exact ⟨rfl,tt⟩)
theorem szSt_at {w:World} {B:Nat→Prop} {D:Nat} {pu:Option Addr} {cu:Nat} {L:List St} (hx:RowOf snc 11 w B (StAt w B D) (.slice pu L.length cu) L) (j:Nat) (hj:j < L.length) :
  ∃ b o m,pu=some ⟨b,o,none⟩∧b < w.heap.size∧StAt w B D m L[j]∧w.cell? ⟨b,o+j*11,none⟩=some (.int .i64 m.k)∧w.cell? ⟨b,o+j*11+1,none⟩=some (.int .i64 m.t)∧w.cell? ⟨b,o+j*11+2,none⟩=some (.int .i64 m.ix.k)∧w.cell? ⟨b,o+j*11+3,none⟩=some (.int .i64 m.ix.v)∧w.cell? ⟨b,o+j*11+4,none⟩=some (.slice m.ix.p m.ix.n m.ix.c)∧w.cell? ⟨b,o+j*11+5,none⟩=some (.int .i64 m.val.k)∧w.cell? ⟨b,o+j*11+6,none⟩=some (.int .i64 m.val.v)∧w.cell? ⟨b,o+j*11+7,none⟩=some (.slice m.val.p m.val.n m.val.c)∧w.cell? ⟨b,o+j*11+8,none⟩=some (.int .i64 m.c)∧w.cell? ⟨b,o+j*11+9,none⟩=some (.slice m.bp m.bn m.bc)∧w.cell? ⟨b,o+j*11+10,none⟩=some (.slice m.ep m.en m.ec):=by
 obtain ⟨b,o,c,m,h1,_,h2,h3,h4⟩:=BlAt.stmt (show BlAt w B D _ L from hx) j hj;simp only [Value.slice.injEq] at h1;have g:=fun i hi=>h4 i hi
 exact ⟨b,o,m,h1.1,h2,h3,g 0 (by omega),g 1 (by omega),g 2 (by omega),g 3 (by omega),g 4 (by omega),g 5 (by omega),g 6 (by omega),g 7 (by omega),g 8 (by omega),g 9 (by omega),g 10 (by omega)⟩
end Go.Proofs.Ytlckklglbodgbaa
