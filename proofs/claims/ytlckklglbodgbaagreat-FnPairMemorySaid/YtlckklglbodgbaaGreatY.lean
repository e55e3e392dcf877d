/-
 Parts of the proofs of the laws FnPairMemory,FnSplitMemory.
-/
import Derived.Test.YtlckklglbodgbaaGreatGI
import Derived.Test.YtlckklglbodgbaaGreatID
set_option maxHeartbeats 12800000
set_option maxRecDepth 100000
set_option linter.all false
namespace Go.Proofs.YtlckklglbodgbaaGreat
open Go.RowKit
def Rnd (w:World) (B g p:Nat):Prop:=
 ∃ a L cap,w.cell? ⟨g,0,none⟩=some (.slice a L cap)∧w.cell? ⟨g,1,none⟩=some (.int .i64 p)∧w.frozen? ⟨g,1,none⟩=false∧L≤1048576∧B≤g∧B≤w.heap.size ∧
  (0 < L→∃ b off,a=some ⟨b,off,none⟩∧b < B∧∀ j,j < L→∃ x:Int,0≤x∧x < 256∧w.cell? ⟨b,off+j,none⟩=some (.int .u8 x))
theorem Rnd.keep {w w':World} {B g p:Nat} (h:Rnd w B g p) {S:Nat→Prop} (hc:Chg S w w') (hg:¬S g) (hB:∀ k,k < B→¬S k):Rnd w' B g p:=by
 obtain ⟨a,L,d0,h0,h1,hf,hL,e0,f0,hb⟩:=h;have hl:=Lc h0;refine ⟨a,L,d0,(hc.cell 0 hl hg).trans h0,(hc.cell 1 hl hg).trans h1,(hc.frozen 1 hl hg).trans hf,hL,e0,Nat.le_trans f0 hc.size,fun h0=>?_⟩;obtain ⟨b,c0,ha,b0,a0⟩:=hb h0;refine ⟨b,c0,ha,b0,fun j hj=>?_⟩;obtain ⟨x,g0,i0,hx⟩:=a0 j hj;exact ⟨x,g0,i0,(hc.cell (c0+j) (by omega) (hB b b0)).trans hx⟩
theorem Rnd.kC {w:World} {B g p:Nat} (h:Rnd w B g p) (b j:Nat) (v:Value) (hg:¬g=b:=by omega) (hB:∀ k,k < B→¬k=b:=by intro _ _;omega):Rnd (w.setCell ⟨b,j,none⟩ v) B g p:=h.keep (C1 b j v) hg hB
theorem Rnd.below {w w':World} {B g p:Nat} (h:Rnd w B g p) (hb:Below w.heap.size w w'):Rnd w' B g p:=h.keep (S:=fun _=>False) (Cb hb) id (fun _ _=>id)
theorem Rnd.lt {w:World} {B g p:Nat} (h:Rnd w B g p):B≤g∧g < w.heap.size:=by
 obtain ⟨a,L,b0,h0,h1,hf,hL,a0,_⟩:=h;exact ⟨a0,Lc h0⟩
theorem i64_xor_nn (a b:Int) (h1:0≤a) (h2:a < 4611686018427387904) (h3:0≤b) (h4:b < 4611686018427387904):0≤bits .xor .i64 a b∧bits .xor .i64 a b < 4611686018427387904:=by
 obtain ⟨A,rfl⟩:=Int.eq_ofNat_of_zero_le h1;obtain ⟨B,rfl⟩:=Int.eq_ofNat_of_zero_le h3;have hA:A < 2 ^ 62:=by omega
 have hB:B < 2 ^ 62:=by omega
 have hx:A ^^^ B < 2 ^ 62:=Nat.xor_lt_two_pow hA hB;have hA':A % 2 ^ 64=A:=Nat.mod_eq_of_lt (by omega);have hB':B % 2 ^ 64=B:=Nat.mod_eq_of_lt (by omega)
 have e:bits .xor .i64 (A:Int) (B:Int)=IntKind.i64.wrap ((A ^^^ B:Nat):Int):=by
  show IntKind.i64.wrap ((BitVec.ofInt 64 (A:Int) ^^^ BitVec.ofInt 64 (B:Int)).toNat:Int)=_
  rw [BitVec.toNat_xor,BitVec.ofInt_natCast,BitVec.ofInt_natCast,BitVec.toNat_ofNat,BitVec.toNat_ofNat,hA',hB']
 rw [e,IntWalk.i64_in _ (by omega)];omega
theorem pick_any (n:Int) (w:World) (B g p:Nat) (hr:Rnd w B g p) (hn:1≤n) (hn2:n≤9223372036854775807) (hp:p≤1099511627776) :
  Calls Tryz.prog 47 #[.pointer (some ⟨g,0,none⟩),.int .i64 n] w fun e w'=>∃ r:Int,0≤r∧r < n∧e=.returned (.int .i64 r)∧Rnd w' B g (p+1)∧Chg (fun k=>k=g) w w':=by
 have w0:=hr;obtain ⟨a,L,m0,h0,h1,hf,hL,n0,o0,hb⟩:=hr;have hl:=Lc h0
 have c0:Rnd (w.setCell ⟨g,1,none⟩ (.int .i64 ((p:Int)+1))) B g (p+1):=by
  refine ⟨a,L,m0,?_,?_,by rw [froz_set];exact hf,hL,n0,by simpa using o0,fun h0=>?_⟩
  ·rw [World.cell?_setCell_other _ _ _ _ (by simp)];exact h0
  ·rw [Tc _ _ _ _ h1];simp
  obtain ⟨b,l0,ha,k0,a0⟩:=hb h0;refine ⟨b,l0,ha,k0,fun j hj=>?_⟩;obtain ⟨x,g0,i0,hx⟩:=a0 j hj;exact ⟨x,g0,i0,(cell_far _ _ _ _ _ _ (by omega)).trans hx⟩
 have b0:Chg (fun k=>k=g) w (w.setCell ⟨g,1,none⟩ (.int .i64 ((p:Int)+1))):=(Chg.refl (fun k=>k=g) w).setCell g 1 _ (fun _=>rfl);by_cases hL0:L=0
 ·subst hL0;clear hb;go_enter Tryz.func47,Tryz.ntmps47
  go_wp2
  go_ret
  exact ⟨0,by omega,by omega,rfl,c0,b0⟩
 obtain ⟨b,l0,rfl,k0,a0⟩:=hb (by omega);have f0:(0:Int) < (L:Int):=by omega
 have r0:((L:Int) == 0)=false:=by simp;omega
 have t0:¬b=g:=by omega
 have hne':¬g=b:=by omega
 by_cases hpl:p < L
 ·obtain ⟨x,g0,i0,hx⟩:=a0 p hpl;clear a0 hb;go_enter Tryz.func47,Tryz.ntmps47
  go_wp2
  go_ret
  exact ⟨x % n,Int.emod_nonneg _ (by omega),Int.emod_lt_of_pos _ (by omega),rfl,c0,b0⟩
 have q0:¬((p:Int) < (L:Int)):=by omega
 obtain ⟨x,g0,i0,hx⟩:=a0 (p % L) (Nat.mod_lt _ (by omega));obtain ⟨y,x0,y0,hy⟩:=a0 ((p*7+3) % L) (Nat.mod_lt _ (by omega));have e1:((p:Int) % (L:Int)).toNat=p % L:=by rw [← Int.natCast_emod,Int.toNat_natCast]
 have e0:(L:Int)≠0:=Int.ne_of_gt f0;have i1:(0:Int)≤(p:Int) % (L:Int):=Int.emod_nonneg _ e0;have i2:(p:Int) % (L:Int) < (L:Int):=Int.emod_lt_of_pos _ f0
 have e2:(((p:Int)*7+3) % (L:Int)).toNat=(p*7+3) % L:=by
  have h:((p:Int)*7+3)=((p*7+3:Nat):Int):=by omega
  rw [h,← Int.natCast_emod,Int.toNat_natCast]
 have j1:(0:Int)≤((p:Int)*7+3) % (L:Int):=Int.emod_nonneg _ e0;have j2:((p:Int)*7+3) % (L:Int) < (L:Int):=Int.emod_lt_of_pos _ f0;have d0:(0:Int)≤(p:Int) / (L:Int):=Int.ediv_nonneg (Int.natCast_nonneg _) (Int.natCast_nonneg _);have d1:(p:Int) / (L:Int)≤1099511627776:=Int.le_trans (Int.ediv_le_self _ (Int.natCast_nonneg _)) (by omega);have m1:IntKind.i64.wrap ((p:Int)*7)=(p:Int)*7:=IntWalk.i64_in _ (by omega);have m2:IntKind.i64.wrap ((p:Int)*7+3)=(p:Int)*7+3:=IntWalk.i64_in _ (by omega);have m3:IntKind.i64.wrap (x*131)=x*131:=IntWalk.i64_in _ (by omega);have m4:IntKind.i64.wrap (y*1117)=y*1117:=IntWalk.i64_in _ (by omega);have m5:IntKind.i64.wrap (x*131+y*1117)=x*131+y*1117:=IntWalk.i64_in _ (by omega);have m6:IntKind.i64.wrap ((p:Int)*29)=(p:Int)*29:=IntWalk.i64_in _ (by omega);have m7:IntKind.i64.wrap (x*131+y*1117+(p:Int)*29)=x*131+y*1117+(p:Int)*29:=IntWalk.i64_in _ (by omega);have m8:IntKind.i64.wrap ((p:Int) / (L:Int)*53)=(p:Int) / (L:Int)*53:=IntWalk.i64_in _ (by omega);have m9:IntKind.i64.wrap (x*131+y*1117+(p:Int)*29+(p:Int) / (L:Int)*53)=x*131+y*1117+(p:Int)*29+(p:Int) / (L:Int)*53:=IntWalk.i64_in _ (by omega);clear a0 hb;go_enter Tryz.func47,Tryz.ntmps47
 go_wp2
 go_quiet (fail)
 have p0:0≤x*131+y*1117+(p:Int)*29+(p:Int) / (L:Int)*53:=by omega
 have s0:x*131+y*1117+(p:Int)*29+(p:Int) / (L:Int)*53≤1000000000000000:=by omega
 clear e0 m1 m2 m3 m4 m5 m6 m7 m8 m9 e1 e2 i1 i2 j1 j2;generalize x*131+y*1117+(p:Int)*29+(p:Int) / (L:Int)*53=X at *
 have j0:=i64_xor_nn X (X / 64) p0 (by omega) (by omega) (by omega);obtain ⟨u0,v0⟩:=j0;go_wp2
 generalize bits BinOp.xor IntKind.i64 X (X / 64)=Y at *
 go_ret
 refine ⟨Y % n,Int.emod_nonneg _ (by omega),Int.emod_lt_of_pos _ (by omega),?_,c0.below (below_drewN' _ nq),b0.trans (Cb (below_drewN' _ nq))⟩;rfl
theorem num_any (v:Value) (xs:List Int) (w:World) (B g p:Nat) (hr:Rnd w B g p) (hx:Reads w 1 v xs.length (ints xs)) (hd:∀ b o c,v=.slice (some ⟨b,o,none⟩) xs.length c→¬b=g) (h1:1≤xs.length) (h2:xs.length≤1073741824) (hp:p≤1099511627776) :
  Calls Tryz.prog 48 #[.pointer (some ⟨g,0,none⟩),v] w fun e w'=>∃ r:Int,r ∈ xs∧e=.returned (.int .i64 r)∧Rnd w' B g (p+1)∧Chg (fun k=>k=g) w w':=by
 have i0:=hx;obtain ⟨_,hn,a,d0,b,c0,rfl,g0,ha,b0⟩:=hx;obtain ⟨rfl,hb⟩:=ha h1;have e0:=hd b c0 d0 rfl;clear hd;go_enter Tryz.func48,Tryz.ntmps48
 go_wp2_with fail
 refine (pick_any _ w B g p hr (by omega) (by omega) hp).mono ?_;rintro e w1 ⟨r,h0,j0,rfl,hr',hc⟩;obtain ⟨k,rfl⟩:=Int.eq_ofNat_of_zero_le h0;have hk:k < xs.length:=by omega
 have f0:=(hc.cell (c0+k) hb e0).trans (b0 k (by simpa [ints] using hk));rw [ints_get] at f0;have a0:xs[k] ∈ xs:=List.getElem_mem hk;clear b0 i0;go_wp2
 go_ret
 exact ⟨xs[k],a0,rfl,hr',hc⟩
theorem rnd_new (w:World) (a:Option Addr) (b off L cap:Nat) (t:TypeId) (vs:List Int) (hl:L≤vs.length) (hL:L≤1048576) (hv:∀ x ∈ vs,0≤x∧x < 256) (ha:0 < L→a=some ⟨b,off,none⟩∧b < w.heap.size)
  (hc:∀ j (h:j < vs.length),w.cell? ⟨b,off+j,none⟩=some (.int .u8 vs[j])):Rnd (w.alloc (.cells #[.slice a L cap,.int .i64 0] t)) w.heap.size w.heap.size 0:=by
 have hb:=bal (Bs w) (.cells #[.slice a L cap,.int .i64 0] t);refine ⟨a,L,cap,?_,?_,froz_new _ _ _ _,hL,Lr,hb.size,fun h0=>?_⟩
 ·rw [cell_of_row _ _ 0 _ t (0,0) (heap_alloc_new w _)];rfl
 ·rw [cell_of_row _ _ 1 _ t (0,0) (heap_alloc_new w _)];rfl
 obtain ⟨h1,h2⟩:=ha h0;refine ⟨b,off,h1,h2,fun j hj=>⟨vs[j]'(by omega),(hv _ (List.getElem_mem _)).1,(hv _ (List.getElem_mem _)).2,?_⟩⟩;exact (hb.cell (p:=⟨b,off+j,none⟩) h2).trans (hc j (by omega))
theorem l17Open_any (v:Value) (n:Nat) (vs:List Int) (w:World) (hr:Reads w 1 v n (vs.map (Value.int .u8))) (hv:∀ x ∈ vs,0≤x∧x < 256) (hn:n≤1048576) :
  Calls Tryz.prog 21 #[v] w fun e w'=>∃ g,e=.returned (.pointer (some ⟨g,0,none⟩))∧Rnd w' w.heap.size g 0∧Below w.heap.size w w':=by
 obtain ⟨hl,_,a,a0,b,b0,rfl,⟨d0,e0⟩,ha,c0⟩:=hr
 have hc:∀ j (h:j < vs.length),w.cell? ⟨b,b0+j,none⟩=some (.int .u8 vs[j]):=fun j h=>by
  rw [c0 j (by simpa using h)];simp
 clear c0;by_cases h2:2000 < n
 ·obtain ⟨rfl,hb⟩:=ha (by omega);have h3:(2000:Int) < (n:Int):=by omega
  have f0:2000≤a0:=by omega
  go_enter Tryz.func21,Tryz.ntmps21
  go_wp2
  go_ret
  exact ⟨_,rfl,rnd_new w _ b b0 2000 a0 _ vs (by simp at hl;omega) (by omega) hv (fun _=>⟨rfl,hb⟩) hc,bal (Bs w) _⟩
 have h3:¬(2000:Int) < (n:Int):=by omega
 go_enter Tryz.func21,Tryz.ntmps21
 go_wp2
 go_ret
 exact ⟨_,rfl,rnd_new w _ b b0 n a0 _ vs (by simp at hl;omega) hn hv ha hc,bal (Bs w) _⟩
def exRight (nv na:Nat) (e:Ex):Bool:=exOk nv na 5 e&&decide (exCnt 5 e≤15)
theorem chg_app {S T:Nat→Prop} {w W W':World} (h:Chg S w W) (k:Chg T W W') (hs:∀ q,q < w.heap.size→T q→S q):Chg S w W':=
 ⟨k.os.trans h.os,k.tape.trans h.tape,k.output.trans h.output,Nat.le_trans h.size k.size,fun q hq hn=>(k.block q (Nat.lt_of_lt_of_le hq h.size) (fun h2=>hn (hs q hq h2))).trans (h.block q hq hn)⟩
def dcost:Nat→Nat
 | 0=>8
 | d+1=>8+3*dcost d
theorem l2Right_any (pv pa:Option Addr) (nv cv na ca:Nat) (vb:Value) (B:Nat→Prop) (D:Nat) (n:En) (e:Ex) (w:World) (hx:ExAt w B D n e) :
  Calls Tryz.prog 117 #[.agg #[.slice pv nv cv,.slice pa na ca,vb],.agg #[.int .i64 n.k,.int .i64 n.v,.slice n.p n.n n.c]] w fun r w'=>r=.returned (.bool (exRight nv na e))∧Below w.heap.size w w':=by
 have HX:=Hi (fun W (hW:Below w.heap.size w W)=>hx.below hW);have HN:Hid (exOk nv na 5 e=false→exRight nv na e=false):=Hi (fun h=>by unfold exRight;rw [h];rfl);have HY:Hid (exOk nv na 5 e=true→exRight nv na e=decide (exCnt 5 e≤15)):=Hi (fun h=>by unfold exRight;rw [h];rfl);have HS:=Hi (fun W (hW:Below w.heap.size w W)=>l2Shape_any pv pa nv cv na ca vb B 5 D n e W (by omega) (HX.out W hW));have HC:=Hi (fun (h:exOk nv na 5 e=true) W (hW:Below w.heap.size w W)=>l2Count_any B 5 D 5 n e W (by omega) (HX.out W hW) (exOk_thin (nv:=nv) (na:=na) h));clear hx HX;generalize exRight nv na e=X at *
 generalize exCnt 5 e=Y at *
 go_enter Tryz.func117,Tryz.ntmps117
 go_wp2_with fail
 refine (HS.out _ (bal (bal (Bs w) (.cells #[.slice pv nv cv,.slice pa na ca,vb] 26)) (.cells #[.int .i64 n.k,.int .i64 n.v,.slice n.p n.n n.c] 73))).mono ?_;rintro e w1 ⟨rfl,hb⟩;have c0:=hb.size;simp only [Sa] at c0;have g0:Bk w1 (w.heap.size) [.slice pv nv cv,.slice pa na ca,vb]:=Bb (Bk.al (Bk.nw (by simp) rfl) (.cells #[.int .i64 n.k,.int .i64 n.v,.slice n.p n.n n.c] 73)) hb;have a0:Bk w1 (w.heap.size+1) [.int .i64 n.k,.int .i64 n.v,.slice n.p n.n n.c]:=Bb (Bk.nw (by simp) rfl) hb;have b0:=btr (bal (bal (Bs w) (.cells #[.slice pv nv cv,.slice pa na ca,vb] 26)) (.cells #[.int .i64 n.k,.int .i64 n.v,.slice n.p n.n n.c] 73)) hb;clear hb;clear g0;have m0:=Bk.lz a0
 cases hc:exOk nv na 5 e with
 | false =>
  have HR:=Hi (HN.out hc);clear HN HY HC HS hc;have tt:=b0;go_wp2
  exact bodyPost_ret (v:=.bool false) (by simp [results,Tryz.results117,go_sem]) rfl (by exact by rw [HR.out];exact ⟨rfl,tt⟩)
 | true =>
  have HR:=Hi (HY.out hc);have f0:=Hi (HC.out hc);clear HN HY HC HS hc;obtain ⟨h0,k0,i0,l0,j0,d0⟩:=Bk.h3 a0;go_wp2_with fail
  refine (f0.out _ b0).mono ?_;rintro e w2 ⟨rfl,hb⟩;have e0:=hb.size;clear k0 h0 l0 i0 d0 j0;replace a0:=Bb a0 hb;replace b0:=btr b0 hb;clear hb;clear a0;have tt:=b0;go_wp2
  exact bodyPost_ret (v:=.bool (decide (Y≤15))) (by simp [results,Tryz.results117,go_sem]) rfl (by exact by rw [HR.out];exact ⟨rfl,tt⟩)
theorem l2DrawAtom_any (pv pa:Option Addr) (nv cv na ca:Nat) (vb:Value) (B g p:Nat) (w:World) (hR:Rnd w B g p) (hp:p+2≤1000000000) (hnv:1≤nv) (hnb:nv≤1000∧na≤1000) :
  Calls Tryz.prog 122 #[.pointer (some ⟨g,0,none⟩),.agg #[.slice pv nv cv,.slice pa na ca,vb]] w fun r w'=>∃ (k v:Int) (p':Nat),r=.returned (.agg #[.int .i64 k,.int .i64 v,.slice none 0 0])∧Rnd w' B g p'∧p'≤p+2∧Chg (fun q=>q=g) w w':=by
 have hg:=hR.lt;have hC:Chg (fun k=>k=g) w w:=Chg.refl _ _;have h1:∀ q,(fun k=>k=g) q→q=g:=fun q h=>h
 go_enter Tryz.func122,Tryz.ntmps122
 go_wp2_with fail
 refine (pick_any _ _ B g (p) ((hR.below (bal (Bs _) (.cells #[.slice pv nv cv,.slice pa na ca,vb] 26))).below (bal (Bs _) (.cells #[.int .i64 0,.int .i64 0,.slice none 0 0] 73))) (by omega) (by omega) (by omega)).mono ?_;rintro e w1 ⟨r,r0,r1,rfl,b0,hc⟩;replace hC:=(((hC.trans (Cb (bal (Bs _) _))).trans (Cb (bal (Bs _) _)))).trans hc;replace hR:=b0;clear b0;have f0:=hc.size;simp only [Sa] at f0;have e0:Bk w1 (w.heap.size) [.slice pv nv cv,.slice pa na ca,vb]:=Bk.kg (Bk.al (Bk.n3 (w.heap.size)) (.cells #[.int .i64 0,.int .i64 0,.slice none 0 0] 73)) hc;have a0:Bk w1 (w.heap.size+1) [.int .i64 0,.int .i64 0,.slice none 0 0]:=Bk.kg (Bk.n3 (w.heap.size+1)) hc;clear hc;have i1:=Bk.lz e0;have j1:=Bk.lz a0;by_cases h0:r=0
 ·subst h0;go_wp2_with fail
  refine (num_any _ [1,0,2,3,255,7,128] _ B g (p+1) (hR.below (bal (Bs _) (.cells #[.int .i64 1,.int .i64 0,.int .i64 2,.int .i64 3,.int .i64 255,.int .i64 7,.int .i64 128] 3))) (Ro (World.ownsRow_lit (base:=(w1).heap.size) (e:=3) (size:=1) (w1) #[.int .i64 1,.int .i64 0,.int .i64 2,.int .i64 3,.int .i64 255,.int .i64 7,.int .i64 128] 7 Lr (by unfold maxLen;omega) (by simp)) (by simp)) (fun b o c hb=>by simp at hb;omega) (by simp) (by simp) (by omega)).mono ?_;rintro e w2 ⟨v,vm,rfl,b0,d0⟩;replace hC:=((hC.trans (Cb (bal (Bs _) _)))).trans d0;replace hR:=b0;clear b0;have g0:=d0.size;simp only [Sa] at g0;have l0:Bk w2 (w1.heap.size) [.int .i64 1,.int .i64 0,.int .i64 2,.int .i64 3,.int .i64 255,.int .i64 7,.int .i64 128]:=Bk.kg (Bk.n7 (w1.heap.size)) d0;clear l0;have tC:=(((hC.sN (w.heap.size+1) (0) (.int .i64 1)).sN (w.heap.size+1) (1) (.int .i64 v)).sN (w.heap.size+1) (2) (.slice none 0 0));have tR:=(((hR.kC (w.heap.size+1) (0) (.int .i64 1)).kC (w.heap.size+1) (1) (.int .i64 v)).kC (w.heap.size+1) (2) (.slice none 0 0));replace a0:=Bk.kg (Bk.al a0 _) d0;obtain ⟨m0,u0,n0,w0,o0,x0⟩:=Bk.h3 a0;obtain ⟨b1,c1,d1⟩:=Bk.g3 (Bk.t3 a0 (.int .i64 1) (.int .i64 v) (.slice none 0 0));have tt:=True.intro;go_wp2
  exact bodyPost_ret (v:=.agg #[.int .i64 1,.int .i64 v,.slice none 0 0]) (by simp [results,Tryz.results122,go_sem,b1,c1,d1]) rfl (by exact ⟨_,_,_,rfl,tR,by omega,tC⟩)
 have q0:(r == 0)=false:=by simpa using h0
 obtain ⟨i0,j0⟩:=Bk.cf e0 0 rfl;go_wp2_with fail
 refine (pick_any _ _ B g (p+1) hR (by omega) (by omega) (by omega)).mono ?_;rintro e w2 ⟨v,v0,v1,rfl,b0,c0⟩;replace hC:=(hC).trans c0;replace hR:=b0;clear b0;have k0:=c0.size;clear j0 i0;clear e0;have tC:=(((hC.sN (w.heap.size+1) (0) (.int .i64 2)).sN (w.heap.size+1) (1) (.int .i64 v)).sN (w.heap.size+1) (2) (.slice none 0 0));have tR:=(((hR.kC (w.heap.size+1) (0) (.int .i64 2)).kC (w.heap.size+1) (1) (.int .i64 v)).kC (w.heap.size+1) (2) (.slice none 0 0));replace a0:=Bk.kg a0 c0;obtain ⟨p0,y0,s0,z0,t0,a1⟩:=Bk.h3 a0;obtain ⟨e1,f1,g1⟩:=Bk.g3 (Bk.t3 a0 (.int .i64 2) (.int .i64 v) (.slice none 0 0));have tt:=True.intro;go_wp2
 exact bodyPost_ret (v:=.agg #[.int .i64 2,.int .i64 v,.slice none 0 0]) (by simp [results,Tryz.results122,go_sem,e1,f1,g1]) rfl (by exact ⟨_,_,_,rfl,tR,by omega,tC⟩)
theorem expr_any (pv pa:Option Addr) (nv cv na ca:Nat) (vb:Value) (hnv:nv≤1000000000∧na≤1000000000) (B:Nat→Prop) (D:Nat) (n:En) (e:Ex) (w:World) (hx:ExAt w B D n e) :
  Calls Tryz.prog 112 #[.agg #[.slice pv nv cv,.slice pa na ca,vb],.agg #[.int .i64 n.k,.int .i64 n.v,.slice n.p n.n n.c]] w fun r w'=>r=.returned (.bool (exRight nv na e))∧Below w.heap.size w w':=by
 have v0:ExAt w (fun q=>q < w.heap.size) D n e:=ExAt.keep (S:=fun _=>False) (Chg.refl _ _) (fun _ _ _=>id) (fun q _ h=>h) Lr hx;have HX:=Hi (fun W (hW:Below w.heap.size w W)=>ExAt.below v0 hW);have HQ:Hid (exRight nv na e=scR nv na 5 0 e):=Hi (by unfold exRight scR;simp);generalize exRight nv na e=Q at *
 clear hx v0;go_enter Tryz.func112,Tryz.ntmps112
 go_upto_region 2 with (fail)
 obtain ⟨w1,t0,hb⟩:=nmw (World.alloc (World.alloc (World.alloc w (.cells #[.slice pv nv cv,.slice pa na ca,vb] 26)) (.cells #[.int .i64 n.k,.int .i64 n.v,.slice n.p n.n n.c] 73)) (.cells #[.int .i64 0] 3));have f0:=hb.size;simp only [Sa] at f0;have b0:Bk w1 (w.heap.size) [.slice pv nv cv,.slice pa na ca,vb]:=Bb (Bk.al (Bk.al (Bk.nw (by simp) rfl) (.cells #[.int .i64 n.k,.int .i64 n.v,.slice n.p n.n n.c] 73)) (.cells #[.int .i64 0] 3)) hb;have c0:Bk w1 (w.heap.size+1) [.int .i64 n.k,.int .i64 n.v,.slice n.p n.n n.c]:=Bb (Bk.al (Bk.nw (by simp) rfl) (.cells #[.int .i64 0] 3)) hb;have d0:w1.cell? ⟨w.heap.size+1+1,0,none⟩=some (.int .i64 0):=Kc hb (Wc (by simp) (by rfl));have s0:w1.frozen? ⟨w.heap.size+1+1,0,none⟩=false:=Kf hb (by simp <;> omega) (Fn (by simp));have a0:=btr (bal (bal (bal (Bs w) (.cells #[.slice pv nv cv,.slice pa na ca,vb] 26)) (.cells #[.int .i64 n.k,.int .i64 n.v,.slice n.p n.n n.c] 73)) (.cells #[.int .i64 0] 3)) hb;clear hb;rw [← t0];clear t0;have a1:=Bk.lz b0;have b1:=Bk.lz c0;have c1:=Lc d0;have g0:∀ q,(fun k=>k=w.heap.size+1+1) q→q=w.heap.size+1+1:=fun q h=>h
 obtain ⟨z0,m0,h0,n0,i0,o0⟩:=Bk.h3 b0;obtain ⟨j0,p0,k0,q0,l0,r0⟩:=Bk.h3 c0;go_wp2_with fail
 have e0:=scan_any (w.heap.size+1+1) pv pa nv cv na ca vb (fun q=>q < w.heap.size) (fun q h e=>by omega) hnv 5 D n e 0 1 _ (by omega) (by omega) (HX.out _ a0) d0 s0 (by omega) (by omega);rw [← HQ.out] at e0;clear d0 s0;refine (e0).mono ?_;rintro e w2 ⟨c2,rfl,w0,y0,x0,hb⟩;clear e0 w0 y0 x0;have u0:=hb.size;clear m0 z0 n0 h0 o0 i0 p0 j0 q0 k0 r0 l0;replace b0:=Bk.keep b0 hb (fun h=>by have:=g0 _ h;omega);replace c0:=Bk.keep c0 hb (fun h=>by have:=g0 _ h;omega);replace a0:=a0.trans (hb.below w.heap.size (by have:=a0.size;omega) (fun gq hgq h=>by have:=g0 gq h;omega));clear hb;have tt:=a0;go_wp2
 exact bodyPost_ret (v:=.bool Q) (by simp [results,Tryz.results112,go_sem]) rfl (by exact ⟨rfl,tt⟩)
theorem szSt_at {w:World} {B:Nat→Prop} {D:Nat} {pu:Option Addr} {cu:Nat} {L:List St} (hx:RowOf snc 11 w B (StAt w B D) (.slice pu L.length cu) L) (j:Nat) (hj:j < L.length) :
  ∃ b o m,pu=some ⟨b,o,none⟩∧b < w.heap.size∧StAt w B D m L[j]∧w.cell? ⟨b,o+j*11,none⟩=some (.int .i64 m.k)∧w.cell? ⟨b,o+j*11+1,none⟩=some (.int .i64 m.t)∧w.cell? ⟨b,o+j*11+2,none⟩=some (.int .i64 m.ix.k)∧w.cell? ⟨b,o+j*11+3,none⟩=some (.int .i64 m.ix.v)∧w.cell? ⟨b,o+j*11+4,none⟩=some (.slice m.ix.p m.ix.n m.ix.c)∧w.cell? ⟨b,o+j*11+5,none⟩=some (.int .i64 m.val.k)∧w.cell? ⟨b,o+j*11+6,none⟩=some (.int .i64 m.val.v)∧w.cell? ⟨b,o+j*11+7,none⟩=some (.slice m.val.p m.val.n m.val.c)∧w.cell? ⟨b,o+j*11+8,none⟩=some (.int .i64 m.c)∧w.cell? ⟨b,o+j*11+9,none⟩=some (.slice m.bp m.bn m.bc)∧w.cell? ⟨b,o+j*11+10,none⟩=some (.slice m.ep m.en m.ec):=by
 obtain ⟨b,o,c,m,h1,_,h2,h3,h4⟩:=BlAt.stmt (show BlAt w B D _ L from hx) j hj;simp only [Value.slice.injEq] at h1;have g:=fun i hi=>h4 i hi
 exact ⟨b,o,m,h1.1,h2,h3,g 0 (by omega),g 1 (by omega),g 2 (by omega),g 3 (by omega),g 4 (by omega),g 5 (by omega),g 6 (by omega),g 7 (by omega),g 8 (by omega),g 9 (by omega),g 10 (by omega)⟩
end Go.Proofs.YtlckklglbodgbaaGreat
