/-
 Parts of the proofs of the laws FnCodeFenced,FnCountBranches.
-/
import Derived.Test.YtkjedgnepnbkpaaTK
import Derived.Test.YtkjedgnepnbkpaaPV
set_option maxHeartbeats 12800000
set_option maxRecDepth 100000
set_option linter.all false
namespace Go.Proofs.Ytkjedgnepnbkpaa
open Go.RowKit
def Rnd (w:World) (B g p:Nat):Prop:=
 ∃ a L cap,w.cell? ⟨g,0,none⟩=some (.slice a L cap)∧w.cell? ⟨g,1,none⟩=some (.int .i64 p)∧w.frozen? ⟨g,1,none⟩=false∧L≤1048576∧B≤g∧B≤w.heap.size ∧
  (0 < L→∃ b off,a=some ⟨b,off,none⟩∧b < B∧∀ j,j < L→∃ x:Int,0≤x∧x < 256∧w.cell? ⟨b,off+j,none⟩=some (.int .u8 x))
theorem Rnd.keep {w w':World} {B g p:Nat} (h:Rnd w B g p) {S:Nat→Prop} (hc:Chg S w w') (hg:¬S g) (hB:∀ k,k < B→¬S k):Rnd w' B g p:=by
 obtain ⟨a,L,d0,h0,h1,hf,hL,e0,f0,hb⟩:=h
 have hl:=Lc h0
 refine ⟨a,L,d0,(hc.cell 0 hl hg).trans h0,(hc.cell 1 hl hg).trans h1,(hc.frozen 1 hl hg).trans hf,hL,e0,Nat.le_trans f0 hc.size,fun h0=>?_⟩
 obtain ⟨b,c0,ha,b0,a0⟩:=hb h0
 refine ⟨b,c0,ha,b0,fun j hj=>?_⟩
 obtain ⟨x,g0,i0,hx⟩:=a0 j hj
 exact ⟨x,g0,i0,(hc.cell (c0+j) (by omega) (hB b b0)).trans hx⟩
theorem Rnd.kC {w:World} {B g p:Nat} (h:Rnd w B g p) (b j:Nat) (v:Value) (hg:¬g=b:=by omega) (hB:∀ k,k < B→¬k=b:=by intro _ _;omega):Rnd (w.setCell ⟨b,j,none⟩ v) B g p:=h.keep (C1 b j v) hg hB
theorem Rnd.below {w w':World} {B g p:Nat} (h:Rnd w B g p) (hb:Below w.heap.size w w'):Rnd w' B g p:=h.keep (S:=fun _=>False) (Chg.of_below hb) id (fun _ _=>id)
theorem Rnd.lt {w:World} {B g p:Nat} (h:Rnd w B g p):B≤g∧g < w.heap.size:=by
 obtain ⟨a,L,b0,h0,h1,hf,hL,a0,_⟩:=h
 exact ⟨a0,Lc h0⟩
theorem i64_xor_nn (a b:Int) (h1:0≤a) (h2:a < 4611686018427387904) (h3:0≤b) (h4:b < 4611686018427387904):0≤bits .xor .i64 a b∧bits .xor .i64 a b < 4611686018427387904:=by
 obtain ⟨A,rfl⟩:=Int.eq_ofNat_of_zero_le h1
 obtain ⟨B,rfl⟩:=Int.eq_ofNat_of_zero_le h3
 have hA:A < 2 ^ 62:=by omega
 have hB:B < 2 ^ 62:=by omega
 have hx:A ^^^ B < 2 ^ 62:=Nat.xor_lt_two_pow hA hB
 have hA':A % 2 ^ 64=A:=Nat.mod_eq_of_lt (by omega)
 have hB':B % 2 ^ 64=B:=Nat.mod_eq_of_lt (by omega)
 have e:bits .xor .i64 (A:Int) (B:Int)=IntKind.i64.wrap ((A ^^^ B:Nat):Int):=by
  show IntKind.i64.wrap ((BitVec.ofInt 64 (A:Int) ^^^ BitVec.ofInt 64 (B:Int)).toNat:Int)=_
  rw [BitVec.toNat_xor,BitVec.ofInt_natCast,BitVec.ofInt_natCast,BitVec.toNat_ofNat,BitVec.toNat_ofNat,hA',hB']
 rw [e,IntWalk.i64_in _ (by omega)]
 omega
theorem pick_any (n:Int) (w:World) (B g p:Nat) (hr:Rnd w B g p) (hn:1≤n) (hn2:n≤9223372036854775807) (hp:p≤1099511627776) :
  Calls Try.prog 51 #[.pointer (some ⟨g,0,none⟩),.int .i64 n] w fun e w'=>∃ r:Int,0≤r∧r < n∧e=.returned (.int .i64 r)∧Rnd w' B g (p+1)∧Chg (fun k=>k=g) w w':=by
 have w0:=hr
 obtain ⟨a,L,m0,h0,h1,hf,hL,n0,o0,hb⟩:=hr
 have hl:=Lc h0
 have c0:Rnd (w.setCell ⟨g,1,none⟩ (.int .i64 ((p:Int)+1))) B g (p+1):=by
  refine ⟨a,L,m0,?_,?_,by rw [froz_set];exact hf,hL,n0,by simpa using o0,fun h0=>?_⟩
  ·rw [World.cell?_setCell_other _ _ _ _ (by simp)];exact h0
  ·rw [Tc _ _ _ _ h1];simp
  obtain ⟨b,l0,ha,k0,a0⟩:=hb h0
  refine ⟨b,l0,ha,k0,fun j hj=>?_⟩
  obtain ⟨x,g0,i0,hx⟩:=a0 j hj
  exact ⟨x,g0,i0,(cell_far _ _ _ _ _ _ (by omega)).trans hx⟩
 have b0:Chg (fun k=>k=g) w (w.setCell ⟨g,1,none⟩ (.int .i64 ((p:Int)+1))):=(Chg.refl (fun k=>k=g) w).setCell g 1 _ (fun _=>rfl)
 by_cases hL0:L=0
 ·subst hL0
  clear hb
  go_enter Try.func51,Try.ntmps51
  go_wp2
  go_ret
  exact ⟨0,by omega,by omega,rfl,c0,b0⟩
 obtain ⟨b,l0,rfl,k0,a0⟩:=hb (by omega)
 have f0:(0:Int) < (L:Int):=by omega
 have r0:((L:Int) == 0)=false:=by simp;omega
 have t0:¬b=g:=by omega
 have hne':¬g=b:=by omega
 by_cases hpl:p < L
 ·obtain ⟨x,g0,i0,hx⟩:=a0 p hpl
  clear a0 hb
  go_enter Try.func51,Try.ntmps51
  go_wp2
  go_ret
  exact ⟨x % n,Int.emod_nonneg _ (by omega),Int.emod_lt_of_pos _ (by omega),rfl,c0,b0⟩
 have q0:¬((p:Int) < (L:Int)):=by omega
 obtain ⟨x,g0,i0,hx⟩:=a0 (p % L) (Nat.mod_lt _ (by omega))
 obtain ⟨y,x0,y0,hy⟩:=a0 ((p*7+3) % L) (Nat.mod_lt _ (by omega))
 have e1:((p:Int) % (L:Int)).toNat=p % L:=by rw [← Int.natCast_emod,Int.toNat_natCast]
 have e0:(L:Int)≠0:=Int.ne_of_gt f0
 have i1:(0:Int)≤(p:Int) % (L:Int):=Int.emod_nonneg _ e0
 have i2:(p:Int) % (L:Int) < (L:Int):=Int.emod_lt_of_pos _ f0
 have e2:(((p:Int)*7+3) % (L:Int)).toNat=(p*7+3) % L:=by
  have h:((p:Int)*7+3)=((p*7+3:Nat):Int):=by omega
  rw [h,← Int.natCast_emod,Int.toNat_natCast]
 have j1:(0:Int)≤((p:Int)*7+3) % (L:Int):=Int.emod_nonneg _ e0
 have j2:((p:Int)*7+3) % (L:Int) < (L:Int):=Int.emod_lt_of_pos _ f0
 have d0:(0:Int)≤(p:Int) / (L:Int):=Int.ediv_nonneg (Int.natCast_nonneg _) (Int.natCast_nonneg _)
 have d1:(p:Int) / (L:Int)≤1099511627776:=Int.le_trans (Int.ediv_le_self _ (Int.natCast_nonneg _)) (by omega)
 have m1:IntKind.i64.wrap ((p:Int)*7)=(p:Int)*7:=IntWalk.i64_in _ (by omega)
 have m2:IntKind.i64.wrap ((p:Int)*7+3)=(p:Int)*7+3:=IntWalk.i64_in _ (by omega)
 have m3:IntKind.i64.wrap (x*131)=x*131:=IntWalk.i64_in _ (by omega)
 have m4:IntKind.i64.wrap (y*1117)=y*1117:=IntWalk.i64_in _ (by omega)
 have m5:IntKind.i64.wrap (x*131+y*1117)=x*131+y*1117:=IntWalk.i64_in _ (by omega)
 have m6:IntKind.i64.wrap ((p:Int)*29)=(p:Int)*29:=IntWalk.i64_in _ (by omega)
 have m7:IntKind.i64.wrap (x*131+y*1117+(p:Int)*29)=x*131+y*1117+(p:Int)*29:=IntWalk.i64_in _ (by omega)
 have m8:IntKind.i64.wrap ((p:Int) / (L:Int)*53)=(p:Int) / (L:Int)*53:=IntWalk.i64_in _ (by omega)
 have m9:IntKind.i64.wrap (x*131+y*1117+(p:Int)*29+(p:Int) / (L:Int)*53)=x*131+y*1117+(p:Int)*29+(p:Int) / (L:Int)*53:=IntWalk.i64_in _ (by omega)
 clear a0 hb
 go_enter Try.func51,Try.ntmps51
 go_wp2
 go_quiet (fail)
 have p0:0≤x*131+y*1117+(p:Int)*29+(p:Int) / (L:Int)*53:=by omega
 have s0:x*131+y*1117+(p:Int)*29+(p:Int) / (L:Int)*53≤1000000000000000:=by omega
 clear e0 m1 m2 m3 m4 m5 m6 m7 m8 m9 e1 e2 i1 i2 j1 j2
 generalize x*131+y*1117+(p:Int)*29+(p:Int) / (L:Int)*53=X at *
 have j0:=i64_xor_nn X (X / 64) p0 (by omega) (by omega) (by omega)
 obtain ⟨u0,v0⟩:=j0
 go_wp2
 generalize bits BinOp.xor IntKind.i64 X (X / 64)=Y at *
 go_ret
 refine ⟨Y % n,Int.emod_nonneg _ (by omega),Int.emod_lt_of_pos _ (by omega),?_,c0.below (below_drewN' _ nq),b0.trans (Chg.of_below (below_drewN' _ nq))⟩
 rfl
theorem num_any (v:Value) (xs:List Int) (w:World) (B g p:Nat) (hr:Rnd w B g p) (hx:Reads w 1 v xs.length (ints xs)) (hd:∀ b o c,v=.slice (some ⟨b,o,none⟩) xs.length c→¬b=g) (h1:1≤xs.length) (h2:xs.length≤1073741824) (hp:p≤1099511627776) :
  Calls Try.prog 104 #[.pointer (some ⟨g,0,none⟩),v] w fun e w'=>∃ r:Int,r ∈ xs∧e=.returned (.int .i64 r)∧Rnd w' B g (p+1)∧Chg (fun k=>k=g) w w':=by
 have i0:=hx
 obtain ⟨_,hn,a,d0,b,c0,rfl,g0,ha,b0⟩:=hx
 obtain ⟨rfl,hb⟩:=ha h1
 have e0:=hd b c0 d0 rfl
 clear hd
 go_enter Try.func104,Try.ntmps104
 go_wp2_with fail
 refine (pick_any _ w B g p hr (by omega) (by omega) hp).mono ?_
 rintro e w1 ⟨r,h0,j0,rfl,hr',hc⟩
 obtain ⟨k,rfl⟩:=Int.eq_ofNat_of_zero_le h0
 have hk:k < xs.length:=by omega
 have f0:=(hc.cell (c0+k) hb e0).trans (b0 k (by simpa [ints] using hk))
 rw [ints_get] at f0
 have a0:xs[k] ∈ xs:=List.getElem_mem hk
 clear b0 i0
 go_wp2
 go_ret
 exact ⟨xs[k],a0,rfl,hr',hc⟩
theorem rnd_new (w:World) (a:Option Addr) (b off L cap:Nat) (t:TypeId) (vs:List Int) (hl:L≤vs.length) (hL:L≤1048576) (hv:∀ x ∈ vs,0≤x∧x < 256) (ha:0 < L→a=some ⟨b,off,none⟩∧b < w.heap.size)
  (hc:∀ j (h:j < vs.length),w.cell? ⟨b,off+j,none⟩=some (.int .u8 vs[j])):Rnd (w.alloc (.cells #[.slice a L cap,.int .i64 0] t)) w.heap.size w.heap.size 0:=by
 have hb:=bal (Bs w) (.cells #[.slice a L cap,.int .i64 0] t)
 refine ⟨a,L,cap,?_,?_,froz_new _ _ _ _,hL,Nat.le_refl _,hb.size,fun h0=>?_⟩
 ·rw [cell_of_row _ _ 0 _ t (0,0) (heap_alloc_new w _)];rfl
 ·rw [cell_of_row _ _ 1 _ t (0,0) (heap_alloc_new w _)];rfl
 obtain ⟨h1,h2⟩:=ha h0
 refine ⟨b,off,h1,h2,fun j hj=>⟨vs[j]'(by omega),(hv _ (List.getElem_mem _)).1,(hv _ (List.getElem_mem _)).2,?_⟩⟩
 exact (hb.cell (p:=⟨b,off+j,none⟩) h2).trans (hc j (by omega))
theorem l17Open_any (v:Value) (n:Nat) (vs:List Int) (w:World) (hr:Reads w 1 v n (vs.map (Value.int .u8))) (hv:∀ x ∈ vs,0≤x∧x < 256) (hn:n≤1048576) :
  Calls Try.prog 47 #[v] w fun e w'=>∃ g,e=.returned (.pointer (some ⟨g,0,none⟩))∧Rnd w' w.heap.size g 0∧Below w.heap.size w w':=by
 obtain ⟨hl,_,a,a0,b,b0,rfl,⟨d0,e0⟩,ha,c0⟩:=hr
 have hc:∀ j (h:j < vs.length),w.cell? ⟨b,b0+j,none⟩=some (.int .u8 vs[j]):=fun j h=>by
  rw [c0 j (by simpa using h)];simp
 clear c0
 by_cases h2:2000 < n
 ·obtain ⟨rfl,hb⟩:=ha (by omega)
  have h3:(2000:Int) < (n:Int):=by omega
  have f0:2000≤a0:=by omega
  go_enter Try.func47,Try.ntmps47
  go_wp2
  go_ret
  exact ⟨_,rfl,rnd_new w _ b b0 2000 a0 _ vs (by simp at hl;omega) (by omega) hv (fun _=>⟨rfl,hb⟩) hc,bal (Bs w) _⟩
 have h3:¬(2000:Int) < (n:Int):=by omega
 go_enter Try.func47,Try.ntmps47
 go_wp2
 go_ret
 exact ⟨_,rfl,rnd_new w _ b b0 n a0 _ vs (by simp at hl;omega) hn hv ha hc,bal (Bs w) _⟩
def exRight (nv na:Nat) (e:Ex):Bool:=exOk nv na 5 e&&decide (exCnt 5 e≤15)
theorem chg_app {S T:Nat→Prop} {w W W':World} (h:Chg S w W) (k:Chg T W W') (hs:∀ q,q < w.heap.size→T q→S q):Chg S w W':=
 ⟨k.os.trans h.os,k.tape.trans h.tape,k.output.trans h.output,Nat.le_trans h.size k.size,fun q hq hn=>(k.block q (Nat.lt_of_lt_of_le hq h.size) (fun h2=>hn (hs q hq h2))).trans (h.block q hq hn)⟩
def dcost:Nat→Nat
 | 0=>8
 | d+1=>8+3*dcost d
theorem l2Right_any (pv pa:Option Addr) (nv cv na ca:Nat) (vb:Value) (B:Nat→Prop) (D:Nat) (n:En) (e:Ex) (w:World) (hx:ExAt w B D n e) :
  Calls Try.prog 173 #[.agg #[.slice pv nv cv,.slice pa na ca,vb],.agg #[.int .i64 n.k,.int .i64 n.v,.slice n.p n.n n.c]] w fun r w'=>r=.returned (.bool (exRight nv na e))∧Below w.heap.size w w':=by
 have HX:=Lib.hid (fun W (hW:Below w.heap.size w W)=>hx.below hW)
 have HN:Hid (exOk nv na 5 e=false→exRight nv na e=false):=Lib.hid (fun h=>by unfold exRight;rw [h];rfl)
 have HY:Hid (exOk nv na 5 e=true→exRight nv na e=decide (exCnt 5 e≤15)):=Lib.hid (fun h=>by unfold exRight;rw [h];rfl)
 have HS:=Lib.hid (fun W (hW:Below w.heap.size w W)=>l2Shape_any pv pa nv cv na ca vb B 5 D n e W (by omega) (HX.out W hW))
 have HC:=Lib.hid (fun (h:exOk nv na 5 e=true) W (hW:Below w.heap.size w W)=>l2Count_any B 5 D 5 n e W (by omega) (HX.out W hW) (exOk_thin (nv:=nv) (na:=na) h))
 clear hx HX
 generalize exRight nv na e=X at *
 generalize exCnt 5 e=Y at *
 go_enter Try.func173,Try.ntmps173
 go_wp2_with fail
 refine (HS.out _ (bal (bal (Bs w) (.cells #[.slice pv nv cv,.slice pa na ca,vb] 110)) (.cells #[.int .i64 n.k,.int .i64 n.v,.slice n.p n.n n.c] 161))).mono ?_
 rintro e w1 ⟨rfl,hb⟩
 have c0:=hb.size
 simp only [Sa] at c0
 have g0:Bk w1 (w.heap.size) [.slice pv nv cv,.slice pa na ca,vb]:=Bk.below (Bk.al (Bk.nw (by simp) rfl) (.cells #[.int .i64 n.k,.int .i64 n.v,.slice n.p n.n n.c] 161)) hb
 have a0:Bk w1 (w.heap.size+1) [.int .i64 n.k,.int .i64 n.v,.slice n.p n.n n.c]:=Bk.below (Bk.nw (by simp) rfl) hb
 have b0:=btr (bal (bal (Bs w) (.cells #[.slice pv nv cv,.slice pa na ca,vb] 110)) (.cells #[.int .i64 n.k,.int .i64 n.v,.slice n.p n.n n.c] 161)) hb
 clear hb
 clear g0
 have m0:=Bk.lz a0
 cases hc:exOk nv na 5 e with
 | false =>
  have HR:=Lib.hid (HN.out hc);clear HN HY HC HS hc
  have tt:=b0
  go_wp2
  exact bodyPost_ret (v:=.bool false) (by simp [results,Try.results173,go_sem]) rfl (by exact by rw [HR.out];exact ⟨rfl,tt⟩)
 | true =>
  have HR:=Lib.hid (HY.out hc);have f0:=Lib.hid (HC.out hc);clear HN HY HC HS hc
  obtain ⟨h0,k0,i0,l0,j0,d0⟩:=Bk.f3 a0 0 1 2 rfl rfl rfl
  go_wp2_with fail
  refine (f0.out _ b0).mono ?_
  rintro e w2 ⟨rfl,hb⟩
  have e0:=hb.size
  clear k0 h0 l0 i0 d0 j0
  replace a0:=Bk.below a0 hb
  replace b0:=btr b0 hb
  clear hb
  clear a0
  have tt:=b0
  go_wp2
  exact bodyPost_ret (v:=.bool (decide (Y≤15))) (by simp [results,Try.results173,go_sem]) rfl (by exact by rw [HR.out];exact ⟨rfl,tt⟩)
theorem l2DrawAtom_any (pv pa:Option Addr) (nv cv na ca:Nat) (vb:Value) (B g p:Nat) (w:World) (hR:Rnd w B g p) (hp:p+2≤1000000000) (hnv:1≤nv) (hnb:nv≤1000∧na≤1000) :
  Calls Try.prog 168 #[.pointer (some ⟨g,0,none⟩),.agg #[.slice pv nv cv,.slice pa na ca,vb]] w fun r w'=>∃ (k v:Int) (p':Nat),r=.returned (.agg #[.int .i64 k,.int .i64 v,.slice none 0 0])∧Rnd w' B g p'∧p'≤p+2∧Chg (fun q=>q=g) w w':=by
 have hg:=hR.lt
 have hC:Chg (fun k=>k=g) w w:=Chg.refl _ _
 have f1:∀ q,(fun k=>k=g) q→q=g:=fun q h=>h
 go_enter Try.func168,Try.ntmps168
 go_wp2_with fail
 refine (pick_any _ _ B g (p) ((hR.below (bal (Bs _) (.cells #[.slice pv nv cv,.slice pa na ca,vb] 110))).below (bal (Bs _) (.cells #[.int .i64 0,.int .i64 0,.slice none 0 0] 161))) (by omega) (by omega) (by omega)).mono ?_
 rintro e w1 ⟨r,r0,r1,rfl,a0,hc⟩
 replace hC:=(((hC.trans (Chg.of_below (bal (Bs _) _))).trans (Chg.of_below (bal (Bs _) _)))).trans hc
 replace hR:=a0;clear a0
 have d0:=hc.size
 simp only [Sa] at d0
 have b0:Bk w1 (w.heap.size) [.slice pv nv cv,.slice pa na ca,vb]:=Bk.kg (Bk.al (Bk.nw (by simp) rfl) (.cells #[.int .i64 0,.int .i64 0,.slice none 0 0] 161)) hc
 have c0:Bk w1 (w.heap.size+1) [.int .i64 0,.int .i64 0,.slice none 0 0]:=Bk.kg (Bk.nw (by simp) rfl) hc
 clear hc
 have g1:=Bk.lz b0
 have h1:=Bk.lz c0
 by_cases h0:r=0
 ·subst h0
  go_wp2_with fail
  refine (num_any _ [1,0,2,3,255,7,128] _ B g (p+1) (hR.below (bal (Bs _) (.cells #[.int .i64 1,.int .i64 0,.int .i64 2,.int .i64 3,.int .i64 255,.int .i64 7,.int .i64 128] 3))) (Ro (World.ownsRow_lit (base:=(w1).heap.size) (e:=3) (size:=1) (w1) #[.int .i64 1,.int .i64 0,.int .i64 2,.int .i64 3,.int .i64 255,.int .i64 7,.int .i64 128] 7 (Nat.le_refl _) (by unfold maxLen;omega) (by simp)) (by simp)) (fun b o c hb=>by simp at hb;omega) (by simp) (by simp) (by omega)).mono ?_
  rintro e w2 ⟨v,vm,rfl,a0,hc⟩
  replace hC:=((hC.trans (Chg.of_below (bal (Bs _) _)))).trans hc
  replace hR:=a0;clear a0
  have e0:=hc.size
  simp only [Sa] at e0
  replace b0:=Bk.kg (Bk.al b0 _) hc
  replace c0:=Bk.kg (Bk.al c0 _) hc
  have o0:Bk w2 (w1.heap.size) [.int .i64 1,.int .i64 0,.int .i64 2,.int .i64 3,.int .i64 255,.int .i64 7,.int .i64 128]:=Bk.kg (Bk.nw (by simp) rfl) hc
  clear hc
  clear o0
  have tC:=(((hC.sN (w.heap.size+1) (0) (.int .i64 1)).sN (w.heap.size+1) (1) (.int .i64 v)).sN (w.heap.size+1) (2) (.slice none 0 0));have tR:=(((hR.kC (w.heap.size+1) (0) (.int .i64 1)).kC (w.heap.size+1) (1) (.int .i64 v)).kC (w.heap.size+1) (2) (.slice none 0 0))
  obtain ⟨p0,s0,f0,t0,g0,u0⟩:=Bk.f3 c0 0 1 2 rfl rfl rfl
  have z0:=(Nn (b:=(w.heap.size+1)) (j:=2) (Nn (b:=(w.heap.size+1)) (j:=1) (Tc _ (w.heap.size+1) 0 (.int .i64 1) p0) (.int .i64 v)) (.slice none 0 0))
  have a1:=(Nn (b:=(w.heap.size+1)) (j:=2) (Tc _ (w.heap.size+1) 1 (.int .i64 v) (Nn (b:=(w.heap.size+1)) (j:=0) f0 (.int .i64 1))) (.slice none 0 0))
  have b1:=(Tc _ (w.heap.size+1) 2 (.slice none 0 0) (Nn (b:=(w.heap.size+1)) (j:=1) (Nn (b:=(w.heap.size+1)) (j:=0) g0 (.int .i64 1)) (.int .i64 v)))
  have tt:=True.intro
  go_wp2
  exact bodyPost_ret (v:=.agg #[.int .i64 1,.int .i64 v,.slice none 0 0]) (by simp [results,Try.results168,go_sem,z0,a1,b1]) rfl (by exact ⟨_,_,_,rfl,tR,by omega,tC⟩)
 have q0:(r == 0)=false:=by simpa using h0
 obtain ⟨i0,m0⟩:=Bk.cf b0 0 rfl
 go_wp2_with fail
 refine (pick_any _ _ B g (p+1) hR (by omega) (by omega) (by omega)).mono ?_
 rintro e w2 ⟨v,v0,v1,rfl,a0,hc⟩
 replace hC:=(hC).trans hc
 replace hR:=a0;clear a0
 have n0:=hc.size
 clear m0 i0
 replace b0:=Bk.kg b0 hc
 replace c0:=Bk.kg c0 hc
 clear hc
 clear b0
 have tC:=(((hC.sN (w.heap.size+1) (0) (.int .i64 2)).sN (w.heap.size+1) (1) (.int .i64 v)).sN (w.heap.size+1) (2) (.slice none 0 0));have tR:=(((hR.kC (w.heap.size+1) (0) (.int .i64 2)).kC (w.heap.size+1) (1) (.int .i64 v)).kC (w.heap.size+1) (2) (.slice none 0 0))
 obtain ⟨j0,w0,k0,x0,l0,y0⟩:=Bk.f3 c0 0 1 2 rfl rfl rfl
 have c1:=(Nn (b:=(w.heap.size+1)) (j:=2) (Nn (b:=(w.heap.size+1)) (j:=1) (Tc _ (w.heap.size+1) 0 (.int .i64 2) j0) (.int .i64 v)) (.slice none 0 0))
 have d1:=(Nn (b:=(w.heap.size+1)) (j:=2) (Tc _ (w.heap.size+1) 1 (.int .i64 v) (Nn (b:=(w.heap.size+1)) (j:=0) k0 (.int .i64 2))) (.slice none 0 0))
 have e1:=(Tc _ (w.heap.size+1) 2 (.slice none 0 0) (Nn (b:=(w.heap.size+1)) (j:=1) (Nn (b:=(w.heap.size+1)) (j:=0) l0 (.int .i64 2)) (.int .i64 v)))
 have tt:=True.intro
 go_wp2
 exact bodyPost_ret (v:=.agg #[.int .i64 2,.int .i64 v,.slice none 0 0]) (by simp [results,Try.results168,go_sem,c1,d1,e1]) rfl (by exact ⟨_,_,_,rfl,tR,by omega,tC⟩)
end Go.Proofs.Ytkjedgnepnbkpaa
