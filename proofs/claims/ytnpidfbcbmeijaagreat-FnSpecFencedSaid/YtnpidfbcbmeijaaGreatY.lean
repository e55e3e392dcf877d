/-
 Parts of the proofs of the laws FnRemoveDead,FnRemoveDeadLeak,FnSpecFenced,FnSpecMemory.
-/
import Derived.Test.YtnpidfbcbmeijaaGreatMR
set_option linter.all false
namespace Go.Proofs.YtnpidfbcbmeijaaGreat
open Go.RowKit
def Rnd (w:World) (B g p:Nat):Prop:=
 ∃ a L cap,w.cell? ⟨g,0,none⟩=some (.slice a L cap)∧w.cell? ⟨g,1,none⟩=some (.int .i64 p)∧w.frozen? ⟨g,1,none⟩=false∧L≤1048576∧B≤g∧B≤w.heap.size ∧
  (0 < L→∃ b off,a=some ⟨b,off,none⟩∧b < B∧∀ j,j < L→∃ x:Int,0≤x∧x < 256∧w.cell? ⟨b,off+j,none⟩=some (.int .u8 x))
theorem Rnd.keep {w w':World} {B g p:Nat} (h:Rnd w B g p) {S:Nat→Prop} (hc:Chg S w w') (hg:¬S g) (hB:∀ k,k < B→¬S k):Rnd w' B g p:=by
 obtain ⟨a,L,d0,h0,h1,hf,hL,e0,f0,hb⟩:=h;have hl:=Lc h0;refine ⟨a,L,d0,(hc.cell 0 hl hg).trans h0,(hc.cell 1 hl hg).trans h1,(hc.frozen 1 hl hg).trans hf,hL,e0,Nat.le_trans f0 hc.size,fun h0=>?_⟩;obtain ⟨b,c0,ha,b0,a0⟩:=hb h0;refine ⟨b,c0,ha,b0,fun j hj=>?_⟩;obtain ⟨x,g0,i0,hx⟩:=a0 j hj;exact ⟨x,g0,i0,(hc.cell (c0+j) (by omega) (hB b b0)).trans hx⟩
theorem Rnd.kC {w:World} {B g p:Nat} (h:Rnd w B g p) (b j:Nat) (v:Value) (hg:¬g=b:=by omega) (hB:∀ k,k < B→¬k=b:=by intro _ _;omega):Rnd (w.setCell ⟨b,j,none⟩ v) B g p:=h.keep (C1 b j v) hg hB
theorem Rnd.below {w w':World} {B g p:Nat} (h:Rnd w B g p) (hb:Below w.heap.size w w'):Rnd w' B g p:=h.keep (S:=fun _=>False) (Cb hb) id (fun _ _=>id)
theorem Rnd.lt {w:World} {B g p:Nat} (h:Rnd w B g p):B≤g∧g < w.heap.size:=by
 obtain ⟨a,L,b0,h0,h1,hf,hL,a0,_⟩:=h;exact ⟨a0,Lc h0⟩
theorem i64_xor_nn (a b:Int) (h1:0≤a) (h2:a < 4611686018427387904) (h3:0≤b) (h4:b < 4611686018427387904):0≤bits .xor .i64 a b∧bits .xor .i64 a b < 4611686018427387904:=by
 obtain ⟨A,rfl⟩:=Int.eq_ofNat_of_zero_le h1;obtain ⟨B,rfl⟩:=Int.eq_ofNat_of_zero_le h3;have hA:A < 2 ^ 62:=by omega
 have hB:B < 2 ^ 62:=by omega
 have hx:A ^^^ B < 2 ^ 62:=Nat.xor_lt_two_pow hA hB;have hA':A % 2 ^ 64=A:=Nat.mod_eq_of_lt (by omega);have hB':B % 2 ^ 64=B:=Nat.mod_eq_of_lt (by omega)
 have e:bits .xor .i64 (A:Int) (B:Int)=IntKind.i64.wrap ((A ^^^ B:Nat):Int):=by
  show IntKind.i64.wrap ((BitVec.ofInt 64 (A:Int) ^^^ BitVec.ofInt 64 (B:Int)).toNat:Int)=_
  rw [BitVec.toNat_xor,BitVec.ofInt_natCast,BitVec.ofInt_natCast,BitVec.toNat_ofNat,BitVec.toNat_ofNat,hA',hB']
 rw [e,IntWalk.i64_in _ (by omega)];omega
set_option maxHeartbeats 1600000 in
theorem pick_any (n:Int) (w:World) (B g p:Nat) (hr:Rnd w B g p) (hn:1≤n) (hn2:n≤9223372036854775807) (hp:p≤1099511627776) :
  Calls Tryz.prog 67 #[.pointer (some ⟨g,0,none⟩),.int .i64 n] w fun e w'=>∃ r:Int,0≤r∧r < n∧e=.returned (.int .i64 r)∧Rnd w' B g (p+1)∧Chg (fun k=>k=g) w w':=by
 have w0:=hr;obtain ⟨a,L,m0,h0,h1,hf,hL,n0,o0,hb⟩:=hr;have hl:=Lc h0
 have c0:Rnd (w.setCell ⟨g,1,none⟩ (.int .i64 ((p:Int)+1))) B g (p+1):=by
  refine ⟨a,L,m0,?_,?_,by rw [froz_set];exact hf,hL,n0,by simpa using o0,fun h0=>?_⟩
  ·rw [World.cell?_setCell_other _ _ _ _ (by simp)];exact h0
  ·rw [Tc _ _ _ _ h1];simp
  obtain ⟨b,l0,ha,k0,a0⟩:=hb h0;refine ⟨b,l0,ha,k0,fun j hj=>?_⟩;obtain ⟨x,g0,i0,hx⟩:=a0 j hj;exact ⟨x,g0,i0,(cell_far _ _ _ _ _ _ (by omega)).trans hx⟩
 have b0:Chg (fun k=>k=g) w (w.setCell ⟨g,1,none⟩ (.int .i64 ((p:Int)+1))):=(Chg.refl (fun k=>k=g) w).setCell g 1 _ (fun _=>rfl);by_cases hL0:L=0
 ·subst hL0;clear hb;go_enter Tryz.func67,Tryz.ntmps67
  go_wp2
  go_ret
  exact ⟨0,by omega,by omega,rfl,c0,b0⟩
 obtain ⟨b,l0,rfl,k0,a0⟩:=hb (by omega);have f0:(0:Int) < (L:Int):=by omega
 have r0:((L:Int) == 0)=false:=by simp;omega
 have t0:¬b=g:=by omega
 have hne':¬g=b:=by omega
 by_cases hpl:p < L
 ·obtain ⟨x,g0,i0,hx⟩:=a0 p hpl;clear a0 hb;go_enter Tryz.func67,Tryz.ntmps67
  go_wp2
  go_ret
  exact ⟨x % n,Int.emod_nonneg _ (by omega),Int.emod_lt_of_pos _ (by omega),rfl,c0,b0⟩
 have q0:¬((p:Int) < (L:Int)):=by omega
 obtain ⟨x,g0,i0,hx⟩:=a0 (p % L) (Nat.mod_lt _ (by omega));obtain ⟨y,x0,y0,hy⟩:=a0 ((p*7+3) % L) (Nat.mod_lt _ (by omega));have e1:((p:Int) % (L:Int)).toNat=p % L:=by rw [← Int.natCast_emod,Int.toNat_natCast]
 have e0:(L:Int)≠0:=Int.ne_of_gt f0;have i1:(0:Int)≤(p:Int) % (L:Int):=Int.emod_nonneg _ e0;have i2:(p:Int) % (L:Int) < (L:Int):=Int.emod_lt_of_pos _ f0
 have e2:(((p:Int)*7+3) % (L:Int)).toNat=(p*7+3) % L:=by
  have h:((p:Int)*7+3)=((p*7+3:Nat):Int):=by omega
  rw [h,← Int.natCast_emod,Int.toNat_natCast]
 have j1:(0:Int)≤((p:Int)*7+3) % (L:Int):=Int.emod_nonneg _ e0;have j2:((p:Int)*7+3) % (L:Int) < (L:Int):=Int.emod_lt_of_pos _ f0;have d0:(0:Int)≤(p:Int) / (L:Int):=Int.ediv_nonneg (Int.natCast_nonneg _) (Int.natCast_nonneg _);have d1:(p:Int) / (L:Int)≤1099511627776:=Int.le_trans (Int.ediv_le_self _ (Int.natCast_nonneg _)) (by omega);have m1:IntKind.i64.wrap ((p:Int)*7)=(p:Int)*7:=IntWalk.i64_in _ (by omega);have m2:IntKind.i64.wrap ((p:Int)*7+3)=(p:Int)*7+3:=IntWalk.i64_in _ (by omega);have m3:IntKind.i64.wrap (x*131)=x*131:=IntWalk.i64_in _ (by omega);have m4:IntKind.i64.wrap (y*1117)=y*1117:=IntWalk.i64_in _ (by omega);have m5:IntKind.i64.wrap (x*131+y*1117)=x*131+y*1117:=IntWalk.i64_in _ (by omega);have m6:IntKind.i64.wrap ((p:Int)*29)=(p:Int)*29:=IntWalk.i64_in _ (by omega);have m7:IntKind.i64.wrap (x*131+y*1117+(p:Int)*29)=x*131+y*1117+(p:Int)*29:=IntWalk.i64_in _ (by omega);have m8:IntKind.i64.wrap ((p:Int) / (L:Int)*53)=(p:Int) / (L:Int)*53:=IntWalk.i64_in _ (by omega);have m9:IntKind.i64.wrap (x*131+y*1117+(p:Int)*29+(p:Int) / (L:Int)*53)=x*131+y*1117+(p:Int)*29+(p:Int) / (L:Int)*53:=IntWalk.i64_in _ (by omega);clear a0 hb;go_enter Tryz.func67,Tryz.ntmps67
 go_wp2
 go_quiet (fail)
 have p0:0≤x*131+y*1117+(p:Int)*29+(p:Int) / (L:Int)*53:=by omega
 have s0:x*131+y*1117+(p:Int)*29+(p:Int) / (L:Int)*53≤1000000000000000:=by omega
 clear e0 m1 m2 m3 m4 m5 m6 m7 m8 m9 e1 e2 i1 i2 j1 j2;generalize x*131+y*1117+(p:Int)*29+(p:Int) / (L:Int)*53=X at *
 have j0:=i64_xor_nn X (X / 64) p0 (by omega) (by omega) (by omega);obtain ⟨u0,v0⟩:=j0;go_wp2
 generalize bits BinOp.xor IntKind.i64 X (X / 64)=Y at *
 go_ret
 refine ⟨Y % n,Int.emod_nonneg _ (by omega),Int.emod_lt_of_pos _ (by omega),?_,c0.below (below_drewN' _ nq),b0.trans (Cb (below_drewN' _ nq))⟩;rfl
theorem num_any (v:Value) (xs:List Int) (w:World) (B g p:Nat) (hr:Rnd w B g p) (hx:Reads w 1 v xs.length (ints xs)) (hd:∀ b o c,v=.slice (some ⟨b,o,none⟩) xs.length c→¬b=g) (h1:1≤xs.length) (h2:xs.length≤1073741824) (hp:p≤1099511627776) :
  Calls Tryz.prog 68 #[.pointer (some ⟨g,0,none⟩),v] w fun e w'=>∃ r:Int,r ∈ xs∧e=.returned (.int .i64 r)∧Rnd w' B g (p+1)∧Chg (fun k=>k=g) w w':=by
 have i0:=hx;obtain ⟨_,hn,a,d0,b,c0,rfl,g0,ha,b0⟩:=hx;obtain ⟨rfl,hb⟩:=ha h1;have e0:=hd b c0 d0 rfl;clear hd;go_enter Tryz.func68,Tryz.ntmps68
 go_wp2_with fail
 refine (pick_any _ w B g p hr (by omega) (by omega) hp).mono ?_;rintro e w1 ⟨r,h0,j0,rfl,hr',hc⟩;obtain ⟨k,rfl⟩:=Int.eq_ofNat_of_zero_le h0;have hk:k < xs.length:=by omega
 have f0:=(hc.cell (c0+k) hb e0).trans (b0 k (by simpa [ints] using hk));rw [ints_get] at f0;have a0:xs[k] ∈ xs:=List.getElem_mem hk;clear b0 i0;go_wp2
 go_ret
 exact ⟨xs[k],a0,rfl,hr',hc⟩
theorem rnd_new (w:World) (a:Option Addr) (b off L cap:Nat) (t:TypeId) (vs:List Int) (hl:L≤vs.length) (hL:L≤1048576) (hv:∀ x ∈ vs,0≤x∧x < 256) (ha:0 < L→a=some ⟨b,off,none⟩∧b < w.heap.size)
  (hc:∀ j (h:j < vs.length),w.cell? ⟨b,off+j,none⟩=some (.int .u8 vs[j])):Rnd (w.alloc (.cells #[.slice a L cap,.int .i64 0] t)) w.heap.size w.heap.size 0:=by
 have hb:=bal (Bs w) (.cells #[.slice a L cap,.int .i64 0] t);refine ⟨a,L,cap,?_,?_,froz_new _ _ _ _,hL,Lr,hb.size,fun h0=>?_⟩
 ·rw [cell_of_row _ _ 0 _ t (0,0) (heap_alloc_new w _)];rfl
 ·rw [cell_of_row _ _ 1 _ t (0,0) (heap_alloc_new w _)];rfl
 obtain ⟨h1,h2⟩:=ha h0;refine ⟨b,off,h1,h2,fun j hj=>⟨vs[j]'(by omega),(hv _ (List.getElem_mem _)).1,(hv _ (List.getElem_mem _)).2,?_⟩⟩;exact (hb.cell (p:=⟨b,off+j,none⟩) h2).trans (hc j (by omega))
theorem l17Open_any (v:Value) (n:Nat) (vs:List Int) (w:World) (hr:Reads w 1 v n (vs.map (Value.int .u8))) (hv:∀ x ∈ vs,0≤x∧x < 256) (hn:n≤1048576) :
  Calls Tryz.prog 22 #[v] w fun e w'=>∃ g,e=.returned (.pointer (some ⟨g,0,none⟩))∧Rnd w' w.heap.size g 0∧Below w.heap.size w w':=by
 obtain ⟨hl,_,a,a0,b,b0,rfl,⟨d0,e0⟩,ha,c0⟩:=hr
 have hc:∀ j (h:j < vs.length),w.cell? ⟨b,b0+j,none⟩=some (.int .u8 vs[j]):=fun j h=>by
  rw [c0 j (by simpa using h)];simp
 clear c0;by_cases h2:2000 < n
 ·obtain ⟨rfl,hb⟩:=ha (by omega);have h3:(2000:Int) < (n:Int):=by omega
  have f0:2000≤a0:=by omega
  go_enter Tryz.func22,Tryz.ntmps22
  go_wp2
  go_ret
  exact ⟨_,rfl,rnd_new w _ b b0 2000 a0 _ vs (by simp at hl;omega) (by omega) hv (fun _=>⟨rfl,hb⟩) hc,bal (Bs w) _⟩
 have h3:¬(2000:Int) < (n:Int):=by omega
 go_enter Tryz.func22,Tryz.ntmps22
 go_wp2
 go_ret
 exact ⟨_,rfl,rnd_new w _ b b0 n a0 _ vs (by simp at hl;omega) hn hv ha hc,bal (Bs w) _⟩
theorem info_ev:(Tryz.prog.info? 84).map (fun i=>(i.zero,i.size,i.bytes))=some (some (.agg #[.int .i64 0,.int .i64 0]),2,16):=by kernel_rfl
theorem tEvs:SliceT Tryz.prog 36 84 (.agg #[.int .i64 0,.int .i64 0]) 2 16:=⟨Tryz.underlying36,info_ev,rfl,by omega,by omega⟩
theorem one_ev (a b:Int):∀ u ∈ [Value.int .i64 a,Value.int .i64 b],u.oneCell'=true:=one_evs [(a,b)]
theorem truthS_any (b:Bool) (w:World):Calls Tryz.prog 30 #[.bool b] w fun e w'=>e=.returned (.int .i64 (tru b))∧w'=w:=by
 cases b
 all_goals
  go_enter Tryz.func30,Tryz.ntmps30
  go_wp2
  go_ret
  exact ⟨rfl,rfl⟩
theorem opr_cases {k:Int} (h:4≤k∧k≤10):k=4∨k=5∨k=6∨k=7∨k=8∨k=9∨k=10:=by omega
theorem mul_small {a b:Int} (ha:0≤a∧a≤255) (hb:0≤b∧b≤255):0≤a*b∧a*b≤65025:=by
 obtain ⟨m,rfl⟩:∃ m:Nat,a=m:=⟨a.toNat,by omega⟩;obtain ⟨n,rfl⟩:∃ n:Nat,b=n:=⟨b.toNat,by omega⟩;have h:m*n≤255*255:=Nat.mul_le_mul (by omega) (by omega);have e:((m:Int)*(n:Int))=((m*n:Nat):Int):=by simp
 rw [e];omega
theorem mul_rem {a b:Int} (ha:0≤a∧a≤255) (hb:0≤b∧b≤255):(wrap64 (a*b)).tmod 256=(a*b) % 256:=by
 obtain ⟨h0,h1⟩:=mul_small ha hb;have hw:wrap64 (a*b)=a*b:=by unfold wrap64;omega
 rw [hw,Int.tmod_eq_emod_of_nonneg h0]
theorem address_any (a i:Int) (w:World) (ha:0≤a∧a≤1048576) (hi:0≤i∧i≤255) :
  Calls Tryz.prog 113 #[.int .i64 a,.int .i64 i] w fun e w'=>e=.returned (.int .i64 (adr a i))∧w'=w:=by
 go_enter Tryz.func113,Tryz.ntmps113
 go_wp2
 go_ret
 exact ⟨rfl,rfl⟩
set_option maxHeartbeats 3200000 in
theorem operate_any (k a b:Int) (w:World) (hk:4≤k∧k≤10) (ha:0≤a∧a≤255) (hb:0≤b∧b≤255) :
  Calls Tryz.prog 114 #[.int .i64 k,.int .i64 a,.int .i64 b] w fun e w'=>e=.returned (.int .i64 (opr k a b))∧w'=w:=by
 have HM:=Hi (mul_rem ha hb);rcases opr_cases hk with rfl | rfl | rfl | rfl | rfl | rfl | rfl
 ·clear hk;go_enter Tryz.func114,Tryz.ntmps114
  go_wp2
  go_ret
  exact ⟨rfl,rfl⟩
 ·clear hk;go_enter Tryz.func114,Tryz.ntmps114
  go_wp2
  go_ret
  exact ⟨rfl,rfl⟩
 ·clear hk;go_enter Tryz.func114,Tryz.ntmps114
  go_wp2
  go_ret
  exact ⟨ret_int HM.out,rfl⟩
 ·clear hk;go_enter Tryz.func114,Tryz.ntmps114
  go_wp2
  go_ret
  exact ⟨rfl,rfl⟩
 ·clear hk;go_enter Tryz.func114,Tryz.ntmps114
  go_wp2
  go_ret
  exact ⟨rfl,rfl⟩
 ·clear hk;have HO:Hid (opr 9 a b=tru (a == b)):=Hi rfl;obtain ⟨q,hq⟩:∃ q:Bool,(a == b)=q:=⟨_,rfl⟩;rw [hq] at HO;go_enter Tryz.func114,Tryz.ntmps114
  go_wp2_with fail
  refine (truthS_any q _).mono ?_;rintro e w1 ⟨rfl,rfl⟩;clear hq;cases q
  all_goals
   go_wp2
   go_ret
   exact ⟨ret_int HO.out.symm,rfl⟩
 clear hk;have HO:Hid (opr 10 a b=tru (decide (a < b))):=Hi rfl;obtain ⟨q,hq⟩:∃ q:Bool,(decide (a < b))=q:=⟨_,rfl⟩;rw [hq] at HO;go_enter Tryz.func114,Tryz.ntmps114
 go_wp2_with fail
 refine (truthS_any q _).mono ?_;rintro e w1 ⟨rfl,rfl⟩;clear hq;cases q
 all_goals
  go_wp2
  go_ret
  exact ⟨ret_int HO.out.symm,rfl⟩
structure OwnS (w:World) (base b:Nat) (vr vv va:Value) (us:List Value) (s:Ms):Prop where
 c0:w.cell? ⟨b,0,none⟩=some (.int .i64 s.pc)
 c1:w.cell? ⟨b,1,none⟩=some vr
 c2:w.cell? ⟨b,2,none⟩=some vv
 c3:w.cell? ⟨b,3,none⟩=some va
 f0:w.frozen? ⟨b,0,none⟩=false
 own:OwnMv w base vr vv va us s.regs s.mem
 ob:¬OwnMB vr vv va us b
theorem OwnS.keep {w w':World} {base b:Nat} {vr vv va:Value} {us:List Value} {s:Ms} (h:OwnS w base b vr vv va us s) {S:Nat→Prop} (hc:Chg S w w') (hb:¬S b) (hs:∀ q,OwnMB vr vv va us q→¬S q):OwnS w' base b vr vv va us s:=
 ⟨Gc hc h.c0 hb,Gc hc h.c1 hb,Gc hc h.c2 hb,Gc hc h.c3 hb,Gf hc (Lc h.c0) h.f0 hb,h.own.keep hc hs,h.ob⟩
theorem OwnS.below {w w':World} {base b:Nat} {vr vv va:Value} {us:List Value} {s:Ms} (h:OwnS w base b vr vv va us s) (hb:Below w.heap.size w w'):OwnS w' base b vr vv va us s:=h.keep (S:=fun _=>False) (Cb hb) id (fun _ _=>id)
theorem OwnS.lt {w:World} {base b:Nat} {vr vv va:Value} {us:List Value} {s:Ms} (h:OwnS w base b vr vv va us s):b < w.heap.size:=Lc h.c0
theorem memOk_parts {nv na:Nat} {m:Mm} (h:memOk nv na m=true):m.vals.length=nv∧m.arrs.length=na∧(∀ n ∈ m.vals,0≤n∧n < 256)∧∀ a ∈ m.arrs,a.length=4∧∀ n ∈ a,0≤n∧n < 256:=by
 unfold memOk at h
 simp only [Bool.and_eq_true,decide_eq_true_eq] at h
 have hv:∀ xs:List Int,valsOk xs=true→∀ n ∈ xs,0≤n∧n < 256:=fun xs hx n hn=>by
  have h1:=List.all_eq_true.1 hx n hn;have h2:0≤n∧n≤255:=of_decide_eq_true h1;omega
 refine ⟨h.1,h.2.1,hv _ h.2.2.1,fun a ha=>?_⟩;have h1:=List.all_eq_true.1 h.2.2.2 a ha;simp only [Bool.and_eq_true,decide_eq_true_eq] at h1;exact ⟨h1.1,hv _ h1.2⟩
theorem own_evt (w:World) (k v:Int):(w.alloc (.cells #[.int .i64 k,.int .i64 v] 84)).ownsRow w.heap.size 84 2 (.slice (some ⟨w.heap.size,0,none⟩) 1 1) 1 (evs [(k,v)]):=by
 have h:=World.ownsRow_lit (base:=w.heap.size) (e:=84) (size:=2) w #[.int .i64 k,.int .i64 v] 1 Lr (by unfold maxLen;omega) (by simp);exact h
theorem ins_parts {nv na nl:Nat} {op a b c d:Int} (h:insOk nv na nl ⟨op,a,b,c,d⟩=true) :
  (op=1→(0≤a∧a < 14)∧0≤b∧b≤255)∧(op=2→(0≤a∧a < 14)∧0≤b∧b < nv)∧(op=3→(0≤a∧a < nv)∧0≤b∧b < 14)∧(op=4→(0≤a∧a < 14)∧(0≤b∧b < na)∧0≤c∧c < 14)
  ∧ (op=5→(0≤a∧a < na)∧(0≤b∧b < 14)∧0≤c∧c < 14)∧(op=6→(0≤a∧a < 14)∧(4≤b∧b≤10)∧(0≤c∧c < 14)∧0≤d∧d < 14)∧(op=7→(0≤a∧a < 14)∧(0≤b∧b < 14)∧(0≤c∧c < 14)∧0≤d∧d < 14)
  ∧ (op=8→0≤a∧a < nl)∧(op=9→(0≤a∧a < 14)∧0≤b∧b < nl)∧(op=10→(0≤a∧a < 14)∧0≤b∧b < nl)∧(op=11→0≤a∧a < 14):=by
 refine ⟨?_,?_,?_,?_,?_,?_,?_,?_,?_,?_,?_⟩
 all_goals
  intro a0;subst a0;unfold insOk at h
  simp [shp,flds,fOk,wi] at h
  omega
structure StepW (S:Nat→Prop) (w W:World) (base b:Nat) (vr vv va:Value) (us:List Value) (rs:List Int) (m:Mm) (tb:Nat) (u:Value) (E:List Ev) (pc:Int):Prop where
 c0:W.cell? ⟨b,0,none⟩=some (.int .i64 pc)
 c1:W.cell? ⟨b,1,none⟩=some vr
 c2:W.cell? ⟨b,2,none⟩=some vv
 c3:W.cell? ⟨b,3,none⟩=some va
 f0:W.frozen? ⟨b,0,none⟩=false
 own:OwnMv W base vr vv va us rs m
 ob:¬OwnMB vr vv va us b
 ev:W.ownsRow tb 84 2 u E.length (evs E)
 eb:∀ q,u.ownBlock=some q→¬q=b∧¬OwnMB vr vv va us q∧(S q∨w.heap.size≤q)
 sb:S b∨w.heap.size≤b
 sm:∀ q,OwnMB vr vv va us q→S q
 chg:Chg S w W
section
variable {S:Nat→Prop} {w W W':World} {base b tb:Nat} {vr vv va u:Value} {us:List Value} {rs:List Int} {m:Mm} {E:List Ev} {pc:Int}
theorem Chg.setNew {S:Nat→Prop} {w W:World} (h:Chg S w W) (b j:Nat) (x:Value) (hs:S b∨w.heap.size≤b):Chg S w (W.setCell ⟨b,j,none⟩ x):=by
 refine ⟨h.os,h.tape,h.output,by simp only [Ss];exact h.size,fun k hk hn=>?_⟩
 have a0:k≠b:=fun e=>by
  rcases hs with hs | hs
  ·exact hn (e ▸ hs)
  omega
 rw [← h.block k hk hn];exact Below.heap_setCell _ _ _ _ (by simpa using a0)
theorem Chg.sN {S:Nat→Prop} {w W:World} (h:Chg S w W) (b j:Nat) (x:Value) (hs:w.heap.size≤b:=by omega):Chg S w (W.setCell ⟨b,j,none⟩ x):=h.setNew b j x (Or.inr hs)
theorem StepW.keep (h:StepW S w W base b vr vv va us rs m tb u E pc) (hb:Below W.heap.size W W'):StepW S w W' base b vr vv va us rs m tb u E pc:=
 ⟨Kc hb h.c0,Kc hb h.c1,Kc hb h.c2,Kc hb h.c3,Kf hb (Lc h.c0) h.f0,h.own.below hb,h.ob,Ob h.ev hb,h.eb,h.sb,h.sm,h.chg.trans ((Cb hb).mono (fun _ _=>id):Chg S W W')⟩
theorem StepW.drew (h:StepW S w W base b vr vv va us rs m tb u E pc):StepW S w W.drew base b vr vv va us rs m tb u E pc:=h.keep (Bd (Bs W))
theorem StepW.put (h:StepW S w W base b vr vv va us rs m tb u E pc) (g j:Nat) (x:Value) (hg:OwnMB vr vv va us g) {rs':List Int} {m':Mm} (ho:OwnMv (W.setCell ⟨g,j,none⟩ x) base vr vv va us rs' m'):StepW S w (W.setCell ⟨g,j,none⟩ x) base b vr vv va us rs' m' tb u E pc:=by
 have a0:¬b=g:=fun e=>h.ob (e ▸ hg)
 exact ⟨Nc h.c0 (fun e=>a0 e.1) x,Nc h.c1 (fun e=>a0 e.1) x,Nc h.c2 (fun e=>a0 e.1) x,Nc h.c3 (fun e=>a0 e.1) x,Fs h.f0 x,ho,h.ob,Oe h.ev g j (fun e=>(h.eb g e).2.1 hg) x,h.eb,h.sb,h.sm,h.chg.setNew g j x (Or.inl (h.sm g hg))⟩
theorem StepW.reg {g n c:Nat} (h:StepW S w W base b (.slice (some ⟨g,0,none⟩) n c) vv va us rs m tb u E pc) (k:Nat) (x:Int):StepW S w (W.setCell ⟨g,k,none⟩ (.int .i64 x)) base b (.slice (some ⟨g,0,none⟩) n c) vv va us (rs.set k x) m tb u E pc:=
 h.put g k _ (Or.inl rfl) (h.own.setReg k x)
theorem StepW.val {g n c:Nat} (h:StepW S w W base b vr (.slice (some ⟨g,0,none⟩) n c) va us rs m tb u E pc) (k:Nat) (x:Int):StepW S w (W.setCell ⟨g,k,none⟩ (.int .i64 x)) base b vr (.slice (some ⟨g,0,none⟩) n c) va us rs ⟨m.vals.set k x,m.arrs⟩ tb u E pc:=
 h.put g k _ (Or.inr (Or.inl rfl)) (h.own.setVal k x)
theorem StepW.arr {i g n c:Nat} (h:StepW S w W base b vr vv va us rs m tb u E pc) (hu:us[i]? = some (.slice (some ⟨g,0,none⟩) n c)) (k:Nat) (x:Int):StepW S w (W.setCell ⟨g,k,none⟩ (.int .i64 x)) base b vr vv va us rs ⟨m.vals,m.arrs.set i ((gr m.arrs i).set k x)⟩ tb u E pc:=
 h.put g k _ (Or.inr (Or.inr (Or.inr ⟨i,_,hu,rfl⟩))) (h.own.setArr hu k x)
theorem StepW.event (h:StepW S w W base b vr vv va us rs m tb u E pc) {u':Value} {e:Ev} (ho:W'.ownsRow tb 84 2 u' (E.length+1) (evs E++[.int .i64 e.1,.int .i64 e.2])) (hC:Chg (fun q=>u.ownBlock=some q) W W') (hg:∀ q,u'.ownBlock=some q→u.ownBlock=some q∨W.heap.size≤q):StepW S w W' base b vr vv va us rs m tb u' (E++[e]) pc:=by
 have hb:¬u.ownBlock=some b:=fun e=>(h.eb b e).1 rfl
 have hm:∀ q,OwnMB vr vv va us q→¬u.ownBlock=some q:=fun q hq e=>(h.eb q e).2.1 hq
 have lb:=Lc h.c0;have lo:=h.own.lt;refine ⟨Gc hC h.c0 hb,Gc hC h.c1 hb,Gc hC h.c2 hb,Gc hC h.c3 hb,Gf hC lb h.f0 hb,h.own.keep hC hm,h.ob,by rw [List.length_append,evs_append];exact ho,?_,h.sb,h.sm,?_⟩
 ·intro q hq;rcases hg q hq with hq | hq
  ·exact h.eb q hq
  refine ⟨by omega,fun h2=>by have:=lo q h2;omega,Or.inr (Nat.le_trans h.chg.size hq)⟩
 refine ⟨hC.os.trans h.chg.os,hC.tape.trans h.chg.tape,hC.output.trans h.chg.output,Nat.le_trans h.chg.size hC.size,fun q hq hn=>?_⟩;have h1:=h.chg.size
 exact (hC.block q (by omega) (fun e=>by
  rcases (h.eb q e).2.2 with h2 | h2
  ·exact hn h2
  omega)).trans (h.chg.block q hq hn)
theorem StepW.fin (h:StepW S w W base b vr vv va us rs m tb u E pc) (p:Int) :
  (W.setCell ⟨b,0,none⟩ (.int .i64 p)).ownsRow tb 84 2 u E.length (evs E)∧OwnS (W.setCell ⟨b,0,none⟩ (.int .i64 p)) base b vr vv va us ⟨p,rs,m⟩∧Chg S w (W.setCell ⟨b,0,none⟩ (.int .i64 p)):=
 ⟨Oe h.ev b 0 (fun e=>(h.eb b e).1 rfl) _,⟨Tc W b 0 _ h.c0,Nc h.c1 (by simp) _,Nc h.c2 (by simp) _,Nc h.c3 (by simp) _,Fs h.f0 _,h.own.far b 0 _ h.ob,h.ob⟩,h.chg.setNew b 0 _ h.sb⟩
end
theorem gi_set (xs:List Int) (k:Nat) (h:k < xs.length) (v:Int):gi (xs.set k v) k=v:=by
 unfold gi;rw [Int.toNat_natCast,List.getElem?_set_self h];rfl
end Go.Proofs.YtnpidfbcbmeijaaGreat
