/-
 Parts of the proofs of the laws FnRemoveDead,FnRemoveDeadLeak,FnSpecFenced,FnSpecMemory.
-/
import Derived.Test.YtnpidfbcbmeijaaGreatPV
set_option maxHeartbeats 12800000
set_option maxRecDepth 100000
set_option linter.all false
namespace Go.Proofs.YtnpidfbcbmeijaaGreat
open Go.RowKit
def exRight (nv na:Nat) (e:Ex):Bool:=exOk nv na 5 e&&decide (exCnt 5 e≤15)
theorem chg_app {S T:Nat→Prop} {w W W':World} (h:Chg S w W) (k:Chg T W W') (hs:∀ q,q < w.heap.size→T q→S q):Chg S w W':=
 ⟨k.os.trans h.os,k.tape.trans h.tape,k.output.trans h.output,Nat.le_trans h.size k.size,fun q hq hn=>(k.block q (Nat.lt_of_lt_of_le hq h.size) (fun h2=>hn (hs q hq h2))).trans (h.block q hq hn)⟩
def dcost:Nat→Nat
 | 0=>8
 | d+1=>8+3*dcost d
theorem l2Right_any (pv pa:Option Addr) (nv cv na ca:Nat) (vb:Value) (B:Nat→Prop) (D:Nat) (n:En) (e:Ex) (w:World) (hx:ExAt w B D n e) :
  Calls Tryz.prog 141 #[.agg #[.slice pv nv cv,.slice pa na ca,vb],.agg #[.int .i64 n.k,.int .i64 n.v,.slice n.p n.n n.c]] w fun r w'=>r=.returned (.bool (exRight nv na e))∧Below w.heap.size w w':=by
 have HX:=Hi (fun W (hW:Below w.heap.size w W)=>hx.below hW);have HN:Hid (exOk nv na 5 e=false→exRight nv na e=false):=Hi (fun h=>by unfold exRight;rw [h];rfl);have HY:Hid (exOk nv na 5 e=true→exRight nv na e=decide (exCnt 5 e≤15)):=Hi (fun h=>by unfold exRight;rw [h];rfl);have HS:=Hi (fun W (hW:Below w.heap.size w W)=>l2Shape_any pv pa nv cv na ca vb B 5 D n e W (by omega) (HX.out W hW));have HC:=Hi (fun (h:exOk nv na 5 e=true) W (hW:Below w.heap.size w W)=>l2Count_any B 5 D 5 n e W (by omega) (HX.out W hW) (exOk_thin (nv:=nv) (na:=na) h));clear hx HX;generalize exRight nv na e=X at *
 generalize exCnt 5 e=Y at *
 go_enter Tryz.func141,Tryz.ntmps141
 go_wp2_with fail
 refine (HS.out _ (bal (bal (Bs w) (.cells #[.slice pv nv cv,.slice pa na ca,vb] 57)) (.cells #[.int .i64 n.k,.int .i64 n.v,.slice n.p n.n n.c] 141))).mono ?_;rintro e w1 ⟨rfl,hb⟩;have c0:=hb.size;simp only [Sa] at c0;have g0:Bk w1 (w.heap.size) [.slice pv nv cv,.slice pa na ca,vb]:=Bb (Bk.al (Bk.nw (by simp) rfl) (.cells #[.int .i64 n.k,.int .i64 n.v,.slice n.p n.n n.c] 141)) hb;have a0:Bk w1 (w.heap.size+1) [.int .i64 n.k,.int .i64 n.v,.slice n.p n.n n.c]:=Bb (Bk.nw (by simp) rfl) hb;have b0:=btr (bal (bal (Bs w) (.cells #[.slice pv nv cv,.slice pa na ca,vb] 57)) (.cells #[.int .i64 n.k,.int .i64 n.v,.slice n.p n.n n.c] 141)) hb;clear hb;clear g0;have m0:=Bk.lz a0
 cases hc:exOk nv na 5 e with
 | false =>
  have HR:=Hi (HN.out hc);clear HN HY HC HS hc;have tt:=b0;go_wp2
  exact bodyPost_ret (v:=.bool false) (by simp [results,Tryz.results141,go_sem]) rfl (by exact by rw [HR.out];exact ⟨rfl,tt⟩)
 | true =>
  have HR:=Hi (HY.out hc);have f0:=Hi (HC.out hc);clear HN HY HC HS hc;obtain ⟨h0,k0,i0,l0,j0,d0⟩:=Bk.f3 a0 0 1 2 rfl rfl rfl;go_wp2_with fail
  refine (f0.out _ b0).mono ?_;rintro e w2 ⟨rfl,hb⟩;have e0:=hb.size;clear k0 h0 l0 i0 d0 j0;replace a0:=Bb a0 hb;replace b0:=btr b0 hb;clear hb;clear a0;have tt:=b0;go_wp2
  exact bodyPost_ret (v:=.bool (decide (Y≤15))) (by simp [results,Tryz.results141,go_sem]) rfl (by exact by rw [HR.out];exact ⟨rfl,tt⟩)
theorem l2DrawAtom_any (pv pa:Option Addr) (nv cv na ca:Nat) (vb:Value) (B g p:Nat) (w:World) (hR:Rnd w B g p) (hp:p+2≤1000000000) (hnv:1≤nv) (hnb:nv≤1000∧na≤1000) :
  Calls Tryz.prog 136 #[.pointer (some ⟨g,0,none⟩),.agg #[.slice pv nv cv,.slice pa na ca,vb]] w fun r w'=>∃ (k v:Int) (p':Nat),r=.returned (.agg #[.int .i64 k,.int .i64 v,.slice none 0 0])∧Rnd w' B g p'∧p'≤p+2∧Chg (fun q=>q=g) w w':=by
 have hg:=hR.lt;have hC:Chg (fun k=>k=g) w w:=Chg.refl _ _;have f1:∀ q,(fun k=>k=g) q→q=g:=fun q h=>h
 go_enter Tryz.func136,Tryz.ntmps136
 go_wp2_with fail
 refine (pick_any _ _ B g (p) ((hR.below (bal (Bs _) (.cells #[.slice pv nv cv,.slice pa na ca,vb] 57))).below (bal (Bs _) (.cells #[.int .i64 0,.int .i64 0,.slice none 0 0] 141))) (by omega) (by omega) (by omega)).mono ?_;rintro e w1 ⟨r,r0,r1,rfl,a0,hc⟩;replace hC:=(((hC.trans (Cb (bal (Bs _) _))).trans (Cb (bal (Bs _) _)))).trans hc;replace hR:=a0;clear a0;have d0:=hc.size;simp only [Sa] at d0;have b0:Bk w1 (w.heap.size) [.slice pv nv cv,.slice pa na ca,vb]:=Bk.kg (Bk.al (Bk.nw (by simp) rfl) (.cells #[.int .i64 0,.int .i64 0,.slice none 0 0] 141)) hc;have c0:Bk w1 (w.heap.size+1) [.int .i64 0,.int .i64 0,.slice none 0 0]:=Bk.kg (Bk.nw (by simp) rfl) hc;clear hc;have g1:=Bk.lz b0;have h1:=Bk.lz c0;by_cases h0:r=0
 ·subst h0;go_wp2_with fail
  refine (num_any _ [1,0,2,3,255,7,128] _ B g (p+1) (hR.below (bal (Bs _) (.cells #[.int .i64 1,.int .i64 0,.int .i64 2,.int .i64 3,.int .i64 255,.int .i64 7,.int .i64 128] 3))) (Ro (World.ownsRow_lit (base:=(w1).heap.size) (e:=3) (size:=1) (w1) #[.int .i64 1,.int .i64 0,.int .i64 2,.int .i64 3,.int .i64 255,.int .i64 7,.int .i64 128] 7 Lr (by unfold maxLen;omega) (by simp)) (by simp)) (fun b o c hb=>by simp at hb;omega) (by simp) (by simp) (by omega)).mono ?_;rintro e w2 ⟨v,vm,rfl,a0,hc⟩;replace hC:=((hC.trans (Cb (bal (Bs _) _)))).trans hc;replace hR:=a0;clear a0;have e0:=hc.size;simp only [Sa] at e0;replace b0:=Bk.kg (Bk.al b0 _) hc;replace c0:=Bk.kg (Bk.al c0 _) hc;have o0:Bk w2 (w1.heap.size) [.int .i64 1,.int .i64 0,.int .i64 2,.int .i64 3,.int .i64 255,.int .i64 7,.int .i64 128]:=Bk.kg (Bk.nw (by simp) rfl) hc;clear hc;clear o0;have tC:=(((hC.sN (w.heap.size+1) (0) (.int .i64 1)).sN (w.heap.size+1) (1) (.int .i64 v)).sN (w.heap.size+1) (2) (.slice none 0 0));have tR:=(((hR.kC (w.heap.size+1) (0) (.int .i64 1)).kC (w.heap.size+1) (1) (.int .i64 v)).kC (w.heap.size+1) (2) (.slice none 0 0));obtain ⟨p0,s0,f0,t0,g0,u0⟩:=Bk.f3 c0 0 1 2 rfl rfl rfl;have z0:=(Nn (b:=(w.heap.size+1)) (j:=2) (Nn (b:=(w.heap.size+1)) (j:=1) (Tc _ (w.heap.size+1) 0 (.int .i64 1) p0) (.int .i64 v)) (.slice none 0 0));have a1:=(Nn (b:=(w.heap.size+1)) (j:=2) (Tc _ (w.heap.size+1) 1 (.int .i64 v) (Nn (b:=(w.heap.size+1)) (j:=0) f0 (.int .i64 1))) (.slice none 0 0));have b1:=(Tc _ (w.heap.size+1) 2 (.slice none 0 0) (Nn (b:=(w.heap.size+1)) (j:=1) (Nn (b:=(w.heap.size+1)) (j:=0) g0 (.int .i64 1)) (.int .i64 v)));have tt:=True.intro;go_wp2
  exact bodyPost_ret (v:=.agg #[.int .i64 1,.int .i64 v,.slice none 0 0]) (by simp [results,Tryz.results136,go_sem,z0,a1,b1]) rfl (by exact ⟨_,_,_,rfl,tR,by omega,tC⟩)
 have q0:(r == 0)=false:=by simpa using h0
 obtain ⟨i0,m0⟩:=Bk.cf b0 0 rfl;go_wp2_with fail
 refine (pick_any _ _ B g (p+1) hR (by omega) (by omega) (by omega)).mono ?_;rintro e w2 ⟨v,v0,v1,rfl,a0,hc⟩;replace hC:=(hC).trans hc;replace hR:=a0;clear a0;have n0:=hc.size;clear m0 i0;replace b0:=Bk.kg b0 hc;replace c0:=Bk.kg c0 hc;clear hc;clear b0;have tC:=(((hC.sN (w.heap.size+1) (0) (.int .i64 2)).sN (w.heap.size+1) (1) (.int .i64 v)).sN (w.heap.size+1) (2) (.slice none 0 0));have tR:=(((hR.kC (w.heap.size+1) (0) (.int .i64 2)).kC (w.heap.size+1) (1) (.int .i64 v)).kC (w.heap.size+1) (2) (.slice none 0 0));obtain ⟨j0,w0,k0,x0,l0,y0⟩:=Bk.f3 c0 0 1 2 rfl rfl rfl;have c1:=(Nn (b:=(w.heap.size+1)) (j:=2) (Nn (b:=(w.heap.size+1)) (j:=1) (Tc _ (w.heap.size+1) 0 (.int .i64 2) j0) (.int .i64 v)) (.slice none 0 0));have d1:=(Nn (b:=(w.heap.size+1)) (j:=2) (Tc _ (w.heap.size+1) 1 (.int .i64 v) (Nn (b:=(w.heap.size+1)) (j:=0) k0 (.int .i64 2))) (.slice none 0 0));have e1:=(Tc _ (w.heap.size+1) 2 (.slice none 0 0) (Nn (b:=(w.heap.size+1)) (j:=1) (Nn (b:=(w.heap.size+1)) (j:=0) l0 (.int .i64 2)) (.int .i64 v)));have tt:=True.intro;go_wp2
 exact bodyPost_ret (v:=.agg #[.int .i64 2,.int .i64 v,.slice none 0 0]) (by simp [results,Tryz.results136,go_sem,c1,d1,e1]) rfl (by exact ⟨_,_,_,rfl,tR,by omega,tC⟩)
end Go.Proofs.YtnpidfbcbmeijaaGreat
