/-
 Parts of the proofs of the laws FnDoubleLabels.
-/
import Derived.Test.YtlckklglbodgbaaID
set_option linter.all false
namespace Go.Proofs.Ytlckklglbodgbaa
open Go.RowKit
abbrev Own2I:=Own2 ints 3 23
structure OwnMv (w:World) (base:Nat) (vr vv va:Value) (us:List Value) (rs:List Int) (m:Mm):Prop where
 r:w.ownsRow base 3 1 vr rs.length (ints rs)
 v:w.ownsRow base 3 1 vv m.vals.length (ints m.vals)
 a:Own2I w base va us m.arrs
 rv:∀ q,vr.ownBlock=some q→vv.ownBlock=some q→False
 ra:∀ q,vr.ownBlock=some q→¬OwnB2 va us q
 va:∀ q,vv.ownBlock=some q→¬OwnB2 va us q
def OwnMB (vr vv va:Value) (us:List Value) (q:Nat):Prop:=vr.ownBlock=some q∨vv.ownBlock=some q∨OwnB2 va us q
section
variable {w w':World} {base base':Nat} {vr vv va:Value} {us:List Value} {rs:List Int} {m:Mm}
theorem OwnMv.lt (h:OwnMv w base vr vv va us rs m):∀ q,OwnMB vr vv va us q→base≤q∧q < w.heap.size:=by
 rintro q (hq | hq | hq)
 ·exact h.r.lt q hq
 ·exact h.v.lt q hq
 exact h.a.lt q hq
theorem OwnMv.keep (h:OwnMv w base vr vv va us rs m) {S:Nat→Prop} (hc:Chg S w w') (hs:∀ q,OwnMB vr vv va us q→¬S q):OwnMv w' base vr vv va us rs m:=
 ⟨Ow h.r hc (fun q hq=>hs q (Or.inl hq)),Ow h.v hc (fun q hq=>hs q (Or.inr (Or.inl hq))),h.a.keep hc (fun q hq=>hs q (Or.inr (Or.inr hq))),h.rv,h.ra,h.va⟩
theorem OwnMv.below (h:OwnMv w base vr vv va us rs m) (hb:Below w.heap.size w w'):OwnMv w' base vr vv va us rs m:=h.keep (S:=fun _=>False) (Cb hb) (fun _ _=>id)
theorem OwnMv.mono (h:OwnMv w base vr vv va us rs m) (hb:base'≤base):OwnMv w base' vr vv va us rs m:=⟨Om h.r hb,Om h.v hb,h.a.mono hb,h.rv,h.ra,h.va⟩
theorem OwnMv.far (h:OwnMv w base vr vv va us rs m) (b j:Nat) (x:Value) (hb:¬OwnMB vr vv va us b):OwnMv (w.setCell ⟨b,j,none⟩ x) base vr vv va us rs m:=
 h.keep ((Chg.refl (fun q=>q=b) w).setCell b j x (fun _=>rfl)) (fun _ hq e=>hb (e ▸ hq))
theorem OwnMv.setReg {g n c:Nat} (h:OwnMv w base (.slice (some ⟨g,0,none⟩) n c) vv va us rs m) (k:Nat) (x:Int):OwnMv (w.setCell ⟨g,k,none⟩ (.int .i64 x)) base (.slice (some ⟨g,0,none⟩) n c) vv va us (rs.set k x) m:=by
 have hC:Chg (fun q=>q=g) w (w.setCell ⟨g,k,none⟩ (.int .i64 x)):=(Chg.refl _ _).setCell g k _ (fun _=>rfl)
 have hn:n=rs.length:=by
  obtain ⟨a,c',hs⟩:=Oh h.r;simp at hs;omega
 subst hn;refine ⟨?_,Ow h.v hC (fun q hq e=>h.rv q (by subst e;rfl) hq),h.a.keep hC (fun q hq e=>h.ra q (by subst e;rfl) hq),h.rv,h.ra,h.va⟩;have h1:=(h.r.stored k (.int .i64 x)).1;rw [ints_set] at h1;rw [List.length_set];exact h1
theorem OwnMv.setVal {g n c:Nat} (h:OwnMv w base vr (.slice (some ⟨g,0,none⟩) n c) va us rs m) (k:Nat) (x:Int):OwnMv (w.setCell ⟨g,k,none⟩ (.int .i64 x)) base vr (.slice (some ⟨g,0,none⟩) n c) va us rs ⟨m.vals.set k x,m.arrs⟩:=by
 have hC:Chg (fun q=>q=g) w (w.setCell ⟨g,k,none⟩ (.int .i64 x)):=(Chg.refl _ _).setCell g k _ (fun _=>rfl)
 have hn:n=m.vals.length:=by
  obtain ⟨a,c',hs⟩:=Oh h.v;simp at hs;omega
 subst hn;refine ⟨Ow h.r hC (fun q hq e=>h.rv q hq (by subst e;rfl)),?_,h.a.keep hC (fun q hq e=>h.va q (by subst e;rfl) hq),h.rv,h.ra,h.va⟩;have h1:=(h.v.stored k (.int .i64 x)).1;rw [ints_set] at h1;simp only [List.length_set];exact h1
theorem OwnMv.setArr {i g n c:Nat} (h:OwnMv w base vr vv va us rs m) (hu:us[i]? = some (.slice (some ⟨g,0,none⟩) n c)) (k:Nat) (x:Int):OwnMv (w.setCell ⟨g,k,none⟩ (.int .i64 x)) base vr vv va us rs ⟨m.vals,m.arrs.set i ((gr m.arrs i).set k x)⟩:=by
 have hC:Chg (fun q=>q=g) w (w.setCell ⟨g,k,none⟩ (.int .i64 x)):=(Chg.refl _ _).setCell g k _ (fun _=>rfl);have hi:i < m.arrs.length:=by rw [← h.a.len];exact (List.getElem?_eq_some_iff.1 hu).1
 have b0:gr m.arrs i=m.arrs[i]:=by unfold gr;rw [Int.toNat_natCast,List.getElem?_eq_getElem hi];rfl
 have a0:=h.a.row i _ _ hu (List.getElem?_eq_getElem hi)
 have hn:n=m.arrs[i].length:=by
  obtain ⟨a,c',hs⟩:=Oh a0;simp at hs;omega
 subst hn;have hg:OwnB2 va us g:=Or.inr ⟨i,_,hu,rfl⟩;have h1:=(a0.stored k (.int .i64 x)).1;rw [ints_set] at h1;refine ⟨Ow h.r hC (fun q hq e=>h.ra q hq (e ▸ hg)),Ow h.v hC (fun q hq e=>h.va q hq (e ▸ hg)),?_,h.rv,h.ra,h.va⟩;rw [b0];refine h.a.turn hu (r:=m.arrs[i].set k x) (by rw [List.length_set];exact h1) ?_ (by decide);exact (Chg.refl _ _).setCell g k _ (fun _=>rfl)
theorem OwnMv.regAt {g n c:Nat} (h:OwnMv w base (.slice (some ⟨g,0,none⟩) n c) vv va us rs m) (k:Nat) (hk:k < rs.length):w.cell? ⟨g,k,none⟩=some (.int .i64 (gi rs k)):=by
 have hn:n=rs.length:=by
  obtain ⟨a,c',hs⟩:=Oh h.r;simp at hs;omega
 subst hn;rw [h.r.cellAt k (by omega),ints_at _ _ hk];unfold gi;rw [Int.toNat_natCast,List.getElem?_eq_getElem hk];rfl
theorem OwnMv.valAt {g n c:Nat} (h:OwnMv w base vr (.slice (some ⟨g,0,none⟩) n c) va us rs m) (k:Nat) (hk:k < m.vals.length):w.cell? ⟨g,k,none⟩=some (.int .i64 (gi m.vals k)):=by
 have hn:n=m.vals.length:=by
  obtain ⟨a,c',hs⟩:=Oh h.v;simp at hs;omega
 subst hn;rw [h.v.cellAt k (by omega),ints_at _ _ hk];unfold gi;rw [Int.toNat_natCast,List.getElem?_eq_getElem hk];rfl
theorem OwnMv.arrAt {g n c:Nat} (h:OwnMv w base vr vv (.slice (some ⟨g,0,none⟩) n c) us rs m) (i:Nat) (hi:i < m.arrs.length) (hl:(gr m.arrs i).length=4) :
  ∃ ga ca,w.cell? ⟨g,i,none⟩=some (.slice (some ⟨ga,0,none⟩) 4 ca)∧us[i]? = some (.slice (some ⟨ga,0,none⟩) 4 ca)∧∀ k,k < 4→w.cell? ⟨ga,k,none⟩=some (.int .i64 (gi (gr m.arrs i) k))∧w.frozen? ⟨ga,k,none⟩=false:=by
 obtain ⟨u,hu,a0⟩:=h.a.rowAt i hi;have b0:gr m.arrs i=m.arrs[i]:=by unfold gr;rw [Int.toNat_natCast,List.getElem?_eq_getElem hi];rfl
 rw [b0] at hl ⊢;rw [hl] at a0;obtain ⟨ga,ca,rfl⟩:=own_pos a0 (by omega)
 have hn:n=m.arrs.length:=by
  obtain ⟨a,c',hs⟩:=Oh h.a.out;simp at hs;omega
 subst hn;refine ⟨ga,ca,?_,hu,fun k hk=>⟨?_,a0.frozenAt k⟩⟩
 ·rw [h.a.outAt.cellAt i (by omega)];exact hu
 rw [a0.cellAt k (by omega),ints_at _ _ (by omega)];unfold gi;rw [Int.toNat_natCast,List.getElem?_eq_getElem (by omega)];rfl
end
end Go.Proofs.Ytlckklglbodgbaa
namespace Go.Proofs.Ytlckklglbodgbaa
open Go.RowKit
structure OwnS (w:World) (base b:Nat) (vr vv va:Value) (us:List Value) (s:Ms):Prop where
 c0:w.cell? ⟨b,0,none⟩=some (.int .i64 s.pc)
 c1:w.cell? ⟨b,1,none⟩=some vr
 c2:w.cell? ⟨b,2,none⟩=some vv
 c3:w.cell? ⟨b,3,none⟩=some va
 f0:w.frozen? ⟨b,0,none⟩=false
 own:OwnMv w base vr vv va us s.regs s.mem
 ob:¬OwnMB vr vv va us b
theorem OwnS.keep {w w':World} {base b:Nat} {vr vv va:Value} {us:List Value} {s:Ms} (h:OwnS w base b vr vv va us s) {S:Nat→Prop} (hc:Chg S w w') (hb:¬S b) (hs:∀ q,OwnMB vr vv va us q→¬S q):OwnS w' base b vr vv va us s:=
 ⟨Gc hc h.c0 hb,Gc hc h.c1 hb,Gc hc h.c2 hb,Gc hc h.c3 hb,Gf hc (Lc h.c0) h.f0 hb,h.own.keep hc hs,h.ob⟩
theorem OwnS.below {w w':World} {base b:Nat} {vr vv va:Value} {us:List Value} {s:Ms} (h:OwnS w base b vr vv va us s) (hb:Below w.heap.size w w'):OwnS w' base b vr vv va us s:=h.keep (S:=fun _=>False) (Cb hb) id (fun _ _=>id)
theorem OwnS.lt {w:World} {base b:Nat} {vr vv va:Value} {us:List Value} {s:Ms} (h:OwnS w base b vr vv va us s):b < w.heap.size:=Lc h.c0
section
variable {S:Nat→Prop} {w W W':World} {base b tb:Nat} {vr vv va u:Value} {us:List Value} {rs:List Int} {m:Mm} {E:List Ev} {pc:Int}
theorem Chg.setNew {S:Nat→Prop} {w W:World} (h:Chg S w W) (b j:Nat) (x:Value) (hs:S b∨w.heap.size≤b):Chg S w (W.setCell ⟨b,j,none⟩ x):=by
 refine ⟨h.os,h.tape,h.output,by simp only [Ss];exact h.size,fun k hk hn=>?_⟩
 have a0:k≠b:=fun e=>by
  rcases hs with hs | hs
  ·exact hn (e ▸ hs)
  omega
 rw [← h.block k hk hn];exact Below.heap_setCell _ _ _ _ (by simpa using a0)
theorem Chg.sN {S:Nat→Prop} {w W:World} (h:Chg S w W) (b j:Nat) (x:Value) (hs:w.heap.size≤b:=by omega):Chg S w (W.setCell ⟨b,j,none⟩ x):=h.setNew b j x (Or.inr hs)
end
end Go.Proofs.Ytlckklglbodgbaa
namespace Go.Proofs.Ytlckklglbodgbaa
open Go.RowKit
def Rnd (w:World) (B g p:Nat):Prop:=
 ∃ a L cap,w.cell? ⟨g,0,none⟩=some (.slice a L cap)∧w.cell? ⟨g,1,none⟩=some (.int .i64 p)∧w.frozen? ⟨g,1,none⟩=false∧L≤1048576∧B≤g∧B≤w.heap.size ∧
  (0 < L→∃ b off,a=some ⟨b,off,none⟩∧b < B∧∀ j,j < L→∃ x:Int,0≤x∧x < 256∧w.cell? ⟨b,off+j,none⟩=some (.int .u8 x))
theorem Rnd.keep {w w':World} {B g p:Nat} (h:Rnd w B g p) {S:Nat→Prop} (hc:Chg S w w') (hg:¬S g) (hB:∀ k,k < B→¬S k):Rnd w' B g p:=by
 obtain ⟨a,L,d0,h0,h1,hf,hL,e0,f0,hb⟩:=h;have hl:=Lc h0;refine ⟨a,L,d0,(hc.cell 0 hl hg).trans h0,(hc.cell 1 hl hg).trans h1,(hc.frozen 1 hl hg).trans hf,hL,e0,Nat.le_trans f0 hc.size,fun h0=>?_⟩;obtain ⟨b,c0,ha,b0,a0⟩:=hb h0;refine ⟨b,c0,ha,b0,fun j hj=>?_⟩;obtain ⟨x,g0,i0,hx⟩:=a0 j hj;exact ⟨x,g0,i0,(hc.cell (c0+j) (by omega) (hB b b0)).trans hx⟩
theorem Rnd.kC {w:World} {B g p:Nat} (h:Rnd w B g p) (b j:Nat) (v:Value) (hg:¬g=b:=by omega) (hB:∀ k,k < B→¬k=b:=by intro _ _;omega):Rnd (w.setCell ⟨b,j,none⟩ v) B g p:=h.keep (C1 b j v) hg hB
theorem Rnd.below {w w':World} {B g p:Nat} (h:Rnd w B g p) (hb:Below w.heap.size w w'):Rnd w' B g p:=h.keep (S:=fun _=>False) (Cb hb) id (fun _ _=>id)
theorem Rnd.lt {w:World} {B g p:Nat} (h:Rnd w B g p):B≤g∧g < w.heap.size:=by
 obtain ⟨a,L,b0,h0,h1,hf,hL,a0,_⟩:=h;exact ⟨a0,Lc h0⟩
theorem i64_xor_nn (a b:Int) (h1:0≤a) (h2:a < 4611686018427387904) (h3:0≤b) (h4:b < 4611686018427387904):0≤bits .xor .i64 a b∧bits .xor .i64 a b < 4611686018427387904:=by
 obtain ⟨A,rfl⟩:=Int.eq_ofNat_of_zero_le h1;obtain ⟨B,rfl⟩:=Int.eq_ofNat_of_zero_le h3;have hA:A < 2 ^ 62:=by omega
 have hB:B < 2 ^ 62:=by omega
 have hx:A ^^^ B < 2 ^ 62:=Nat.xor_lt_two_pow hA hB;have hA':A % 2 ^ 64=A:=Nat.mod_eq_of_lt (by omega);have hB':B % 2 ^ 64=B:=Nat.mod_eq_of_lt (by omega)
 have e:bits .xor .i64 (A:Int) (B:Int)=IntKind.i64.wrap ((A ^^^ B:Nat):Int):=by
  show IntKind.i64.wrap ((BitVec.ofInt 64 (A:Int) ^^^ BitVec.ofInt 64 (B:Int)).toNat:Int)=_
  rw [BitVec.toNat_xor,BitVec.ofInt_natCast,BitVec.ofInt_natCast,BitVec.toNat_ofNat,BitVec.toNat_ofNat,hA',hB']
 rw [e,IntWalk.i64_in _ (by omega)];omega
set_option maxHeartbeats 1600000 in
theorem pick_any (n:Int) (w:World) (B g p:Nat) (hr:Rnd w B g p) (hn:1≤n) (hn2:n≤9223372036854775807) (hp:p≤1099511627776) :
  Calls Try.prog 70 #[.pointer (some ⟨g,0,none⟩),.int .i64 n] w fun e w'=>∃ r:Int,0≤r∧r < n∧e=.returned (.int .i64 r)∧Rnd w' B g (p+1)∧Chg (fun k=>k=g) w w':=by
 have w0:=hr;obtain ⟨a,L,m0,h0,h1,hf,hL,n0,o0,hb⟩:=hr;have hl:=Lc h0
 have c0:Rnd (w.setCell ⟨g,1,none⟩ (.int .i64 ((p:Int)+1))) B g (p+1):=by
  refine ⟨a,L,m0,?_,?_,by rw [froz_set];exact hf,hL,n0,by simpa using o0,fun h0=>?_⟩
  ·rw [World.cell?_setCell_other _ _ _ _ (by simp)];exact h0
  ·rw [Tc _ _ _ _ h1];simp
  obtain ⟨b,l0,ha,k0,a0⟩:=hb h0;refine ⟨b,l0,ha,k0,fun j hj=>?_⟩;obtain ⟨x,g0,i0,hx⟩:=a0 j hj;exact ⟨x,g0,i0,(cell_far _ _ _ _ _ _ (by omega)).trans hx⟩
 have b0:Chg (fun k=>k=g) w (w.setCell ⟨g,1,none⟩ (.int .i64 ((p:Int)+1))):=(Chg.refl (fun k=>k=g) w).setCell g 1 _ (fun _=>rfl);by_cases hL0:L=0
 ·subst hL0;clear hb;go_enter Try.func70,Try.ntmps70
  go_wp2
  go_ret
  exact ⟨0,by omega,by omega,rfl,c0,b0⟩
 obtain ⟨b,l0,rfl,k0,a0⟩:=hb (by omega);have f0:(0:Int) < (L:Int):=by omega
 have r0:((L:Int) == 0)=false:=by simp;omega
 have t0:¬b=g:=by omega
 have hne':¬g=b:=by omega
 by_cases hpl:p < L
 ·obtain ⟨x,g0,i0,hx⟩:=a0 p hpl;clear a0 hb;go_enter Try.func70,Try.ntmps70
  go_wp2
  go_ret
  exact ⟨x % n,Int.emod_nonneg _ (by omega),Int.emod_lt_of_pos _ (by omega),rfl,c0,b0⟩
 have q0:¬((p:Int) < (L:Int)):=by omega
 obtain ⟨x,g0,i0,hx⟩:=a0 (p % L) (Nat.mod_lt _ (by omega));obtain ⟨y,x0,y0,hy⟩:=a0 ((p*7+3) % L) (Nat.mod_lt _ (by omega));have e1:((p:Int) % (L:Int)).toNat=p % L:=by rw [← Int.natCast_emod,Int.toNat_natCast]
 have e0:(L:Int)≠0:=Int.ne_of_gt f0;have i1:(0:Int)≤(p:Int) % (L:Int):=Int.emod_nonneg _ e0;have i2:(p:Int) % (L:Int) < (L:Int):=Int.emod_lt_of_pos _ f0
 have e2:(((p:Int)*7+3) % (L:Int)).toNat=(p*7+3) % L:=by
  have h:((p:Int)*7+3)=((p*7+3:Nat):Int):=by omega
  rw [h,← Int.natCast_emod,Int.toNat_natCast]
 have j1:(0:Int)≤((p:Int)*7+3) % (L:Int):=Int.emod_nonneg _ e0;have j2:((p:Int)*7+3) % (L:Int) < (L:Int):=Int.emod_lt_of_pos _ f0;have d0:(0:Int)≤(p:Int) / (L:Int):=Int.ediv_nonneg (Int.natCast_nonneg _) (Int.natCast_nonneg _);have d1:(p:Int) / (L:Int)≤1099511627776:=Int.le_trans (Int.ediv_le_self _ (Int.natCast_nonneg _)) (by omega);have m1:IntKind.i64.wrap ((p:Int)*7)=(p:Int)*7:=IntWalk.i64_in _ (by omega);have m2:IntKind.i64.wrap ((p:Int)*7+3)=(p:Int)*7+3:=IntWalk.i64_in _ (by omega);have m3:IntKind.i64.wrap (x*131)=x*131:=IntWalk.i64_in _ (by omega);have m4:IntKind.i64.wrap (y*1117)=y*1117:=IntWalk.i64_in _ (by omega);have m5:IntKind.i64.wrap (x*131+y*1117)=x*131+y*1117:=IntWalk.i64_in _ (by omega);have m6:IntKind.i64.wrap ((p:Int)*29)=(p:Int)*29:=IntWalk.i64_in _ (by omega);have m7:IntKind.i64.wrap (x*131+y*1117+(p:Int)*29)=x*131+y*1117+(p:Int)*29:=IntWalk.i64_in _ (by omega);have m8:IntKind.i64.wrap ((p:Int) / (L:Int)*53)=(p:Int) / (L:Int)*53:=IntWalk.i64_in _ (by omega);have m9:IntKind.i64.wrap (x*131+y*1117+(p:Int)*29+(p:Int) / (L:Int)*53)=x*131+y*1117+(p:Int)*29+(p:Int) / (L:Int)*53:=IntWalk.i64_in _ (by omega);clear a0 hb;go_enter Try.func70,Try.ntmps70
 go_wp2
 go_quiet (fail)
 have p0:0≤x*131+y*1117+(p:Int)*29+(p:Int) / (L:Int)*53:=by omega
 have s0:x*131+y*1117+(p:Int)*29+(p:Int) / (L:Int)*53≤1000000000000000:=by omega
 clear e0 m1 m2 m3 m4 m5 m6 m7 m8 m9 e1 e2 i1 i2 j1 j2;generalize x*131+y*1117+(p:Int)*29+(p:Int) / (L:Int)*53=X at *
 have j0:=i64_xor_nn X (X / 64) p0 (by omega) (by omega) (by omega);obtain ⟨u0,v0⟩:=j0;go_wp2
 generalize bits BinOp.xor IntKind.i64 X (X / 64)=Y at *
 go_ret
 refine ⟨Y % n,Int.emod_nonneg _ (by omega),Int.emod_lt_of_pos _ (by omega),?_,c0.below (below_drewN' _ nq),b0.trans (Cb (below_drewN' _ nq))⟩;rfl
theorem num_any (v:Value) (xs:List Int) (w:World) (B g p:Nat) (hr:Rnd w B g p) (hx:Reads w 1 v xs.length (ints xs)) (hd:∀ b o c,v=.slice (some ⟨b,o,none⟩) xs.length c→¬b=g) (h1:1≤xs.length) (h2:xs.length≤1073741824) (hp:p≤1099511627776) :
  Calls Try.prog 72 #[.pointer (some ⟨g,0,none⟩),v] w fun e w'=>∃ r:Int,r ∈ xs∧e=.returned (.int .i64 r)∧Rnd w' B g (p+1)∧Chg (fun k=>k=g) w w':=by
 have i0:=hx;obtain ⟨_,hn,a,d0,b,c0,rfl,g0,ha,b0⟩:=hx;obtain ⟨rfl,hb⟩:=ha h1;have e0:=hd b c0 d0 rfl;clear hd;go_enter Try.func72,Try.ntmps72
 go_wp2_with fail
 refine (pick_any _ w B g p hr (by omega) (by omega) hp).mono ?_;rintro e w1 ⟨r,h0,j0,rfl,hr',hc⟩;obtain ⟨k,rfl⟩:=Int.eq_ofNat_of_zero_le h0;have hk:k < xs.length:=by omega
 have f0:=(hc.cell (c0+k) hb e0).trans (b0 k (by simpa [ints] using hk));rw [ints_get] at f0;have a0:xs[k] ∈ xs:=List.getElem_mem hk;clear b0 i0;go_wp2
 go_ret
 exact ⟨xs[k],a0,rfl,hr',hc⟩
theorem rnd_new (w:World) (a:Option Addr) (b off L cap:Nat) (t:TypeId) (vs:List Int) (hl:L≤vs.length) (hL:L≤1048576) (hv:∀ x ∈ vs,0≤x∧x < 256) (ha:0 < L→a=some ⟨b,off,none⟩∧b < w.heap.size)
  (hc:∀ j (h:j < vs.length),w.cell? ⟨b,off+j,none⟩=some (.int .u8 vs[j])):Rnd (w.alloc (.cells #[.slice a L cap,.int .i64 0] t)) w.heap.size w.heap.size 0:=by
 have hb:=bal (Bs w) (.cells #[.slice a L cap,.int .i64 0] t);refine ⟨a,L,cap,?_,?_,froz_new _ _ _ _,hL,Lr,hb.size,fun h0=>?_⟩
 ·rw [cell_of_row _ _ 0 _ t (0,0) (heap_alloc_new w _)];rfl
 ·rw [cell_of_row _ _ 1 _ t (0,0) (heap_alloc_new w _)];rfl
 obtain ⟨h1,h2⟩:=ha h0;refine ⟨b,off,h1,h2,fun j hj=>⟨vs[j]'(by omega),(hv _ (List.getElem_mem _)).1,(hv _ (List.getElem_mem _)).2,?_⟩⟩;exact (hb.cell (p:=⟨b,off+j,none⟩) h2).trans (hc j (by omega))
theorem l17Open_any (v:Value) (n:Nat) (vs:List Int) (w:World) (hr:Reads w 1 v n (vs.map (Value.int .u8))) (hv:∀ x ∈ vs,0≤x∧x < 256) (hn:n≤1048576) :
  Calls Try.prog 42 #[v] w fun e w'=>∃ g,e=.returned (.pointer (some ⟨g,0,none⟩))∧Rnd w' w.heap.size g 0∧Below w.heap.size w w':=by
 obtain ⟨hl,_,a,a0,b,b0,rfl,⟨d0,e0⟩,ha,c0⟩:=hr
 have hc:∀ j (h:j < vs.length),w.cell? ⟨b,b0+j,none⟩=some (.int .u8 vs[j]):=fun j h=>by
  rw [c0 j (by simpa using h)];simp
 clear c0;by_cases h2:2000 < n
 ·obtain ⟨rfl,hb⟩:=ha (by omega);have h3:(2000:Int) < (n:Int):=by omega
  have f0:2000≤a0:=by omega
  go_enter Try.func42,Try.ntmps42
  go_wp2
  go_ret
  exact ⟨_,rfl,rnd_new w _ b b0 2000 a0 _ vs (by simp at hl;omega) (by omega) hv (fun _=>⟨rfl,hb⟩) hc,bal (Bs w) _⟩
 have h3:¬(2000:Int) < (n:Int):=by omega
 go_enter Try.func42,Try.ntmps42
 go_wp2
 go_ret
 exact ⟨_,rfl,rnd_new w _ b b0 n a0 _ vs (by simp at hl;omega) hn hv ha hc,bal (Bs w) _⟩
end Go.Proofs.Ytlckklglbodgbaa
