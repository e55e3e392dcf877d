/-
 Parts of the proofs of the laws FnExactProductProgram.
-/
import Derived.Test.YtlckklglbodgbaaGI
import Derived.Test.YtlckklglbodgbaaID
set_option maxHeartbeats 12800000
set_option maxRecDepth 100000
set_option linter.all false
namespace Go.Proofs.Ytlckklglbodgbaa
open Go.RowKit
abbrev Own2I:=Own2 ints 3 23
structure OwnMv (w:World) (base:Nat) (vr vv va:Value) (us:List Value) (rs:List Int) (m:Mm):Prop where
 r:w.ownsRow base 3 1 vr rs.length (ints rs)
 v:w.ownsRow base 3 1 vv m.vals.length (ints m.vals)
 a:Own2I w base va us m.arrs
 rv:∀ q,vr.ownBlock=some q→vv.ownBlock=some q→False
 ra:∀ q,vr.ownBlock=some q→¬OwnB2 va us q
 va:∀ q,vv.ownBlock=some q→¬OwnB2 va us q
def OwnMB (vr vv va:Value) (us:List Value) (q:Nat):Prop:=vr.ownBlock=some q∨vv.ownBlock=some q∨OwnB2 va us q
section
variable {w w':World} {base base':Nat} {vr vv va:Value} {us:List Value} {rs:List Int} {m:Mm}
theorem OwnMv.lt (h:OwnMv w base vr vv va us rs m):∀ q,OwnMB vr vv va us q→base≤q∧q < w.heap.size:=by
 rintro q (hq | hq | hq)
 ·exact h.r.lt q hq
 ·exact h.v.lt q hq
 exact h.a.lt q hq
theorem OwnMv.keep (h:OwnMv w base vr vv va us rs m) {S:Nat→Prop} (hc:Chg S w w') (hs:∀ q,OwnMB vr vv va us q→¬S q):OwnMv w' base vr vv va us rs m:=
 ⟨Ow h.r hc (fun q hq=>hs q (Or.inl hq)),Ow h.v hc (fun q hq=>hs q (Or.inr (Or.inl hq))),h.a.keep hc (fun q hq=>hs q (Or.inr (Or.inr hq))),h.rv,h.ra,h.va⟩
theorem OwnMv.below (h:OwnMv w base vr vv va us rs m) (hb:Below w.heap.size w w'):OwnMv w' base vr vv va us rs m:=h.keep (S:=fun _=>False) (Cb hb) (fun _ _=>id)
theorem OwnMv.mono (h:OwnMv w base vr vv va us rs m) (hb:base'≤base):OwnMv w base' vr vv va us rs m:=⟨Om h.r hb,Om h.v hb,h.a.mono hb,h.rv,h.ra,h.va⟩
theorem OwnMv.far (h:OwnMv w base vr vv va us rs m) (b j:Nat) (x:Value) (hb:¬OwnMB vr vv va us b):OwnMv (w.setCell ⟨b,j,none⟩ x) base vr vv va us rs m:=
 h.keep ((Chg.refl (fun q=>q=b) w).setCell b j x (fun _=>rfl)) (fun _ hq e=>hb (e ▸ hq))
theorem OwnMv.setReg {g n c:Nat} (h:OwnMv w base (.slice (some ⟨g,0,none⟩) n c) vv va us rs m) (k:Nat) (x:Int):OwnMv (w.setCell ⟨g,k,none⟩ (.int .i64 x)) base (.slice (some ⟨g,0,none⟩) n c) vv va us (rs.set k x) m:=by
 have hC:Chg (fun q=>q=g) w (w.setCell ⟨g,k,none⟩ (.int .i64 x)):=(Chg.refl _ _).setCell g k _ (fun _=>rfl)
 have hn:n=rs.length:=by
  obtain ⟨a,c',hs⟩:=Oh h.r;simp at hs;omega
 subst hn;refine ⟨?_,Ow h.v hC (fun q hq e=>h.rv q (by subst e;rfl) hq),h.a.keep hC (fun q hq e=>h.ra q (by subst e;rfl) hq),h.rv,h.ra,h.va⟩;have h1:=(h.r.stored k (.int .i64 x)).1;rw [ints_set] at h1;rw [List.length_set];exact h1
theorem OwnMv.setVal {g n c:Nat} (h:OwnMv w base vr (.slice (some ⟨g,0,none⟩) n c) va us rs m) (k:Nat) (x:Int):OwnMv (w.setCell ⟨g,k,none⟩ (.int .i64 x)) base vr (.slice (some ⟨g,0,none⟩) n c) va us rs ⟨m.vals.set k x,m.arrs⟩:=by
 have hC:Chg (fun q=>q=g) w (w.setCell ⟨g,k,none⟩ (.int .i64 x)):=(Chg.refl _ _).setCell g k _ (fun _=>rfl)
 have hn:n=m.vals.length:=by
  obtain ⟨a,c',hs⟩:=Oh h.v;simp at hs;omega
 subst hn;refine ⟨Ow h.r hC (fun q hq e=>h.rv q hq (by subst e;rfl)),?_,h.a.keep hC (fun q hq e=>h.va q (by subst e;rfl) hq),h.rv,h.ra,h.va⟩;have h1:=(h.v.stored k (.int .i64 x)).1;rw [ints_set] at h1;simp only [List.length_set];exact h1
theorem OwnMv.setArr {i g n c:Nat} (h:OwnMv w base vr vv va us rs m) (hu:us[i]? = some (.slice (some ⟨g,0,none⟩) n c)) (k:Nat) (x:Int):OwnMv (w.setCell ⟨g,k,none⟩ (.int .i64 x)) base vr vv va us rs ⟨m.vals,m.arrs.set i ((gr m.arrs i).set k x)⟩:=by
 have hC:Chg (fun q=>q=g) w (w.setCell ⟨g,k,none⟩ (.int .i64 x)):=(Chg.refl _ _).setCell g k _ (fun _=>rfl);have hi:i < m.arrs.length:=by rw [← h.a.len];exact (List.getElem?_eq_some_iff.1 hu).1
 have b0:gr m.arrs i=m.arrs[i]:=by unfold gr;rw [Int.toNat_natCast,List.getElem?_eq_getElem hi];rfl
 have a0:=h.a.row i _ _ hu (List.getElem?_eq_getElem hi)
 have hn:n=m.arrs[i].length:=by
  obtain ⟨a,c',hs⟩:=Oh a0;simp at hs;omega
 subst hn;have hg:OwnB2 va us g:=Or.inr ⟨i,_,hu,rfl⟩;have h1:=(a0.stored k (.int .i64 x)).1;rw [ints_set] at h1;refine ⟨Ow h.r hC (fun q hq e=>h.ra q hq (e ▸ hg)),Ow h.v hC (fun q hq e=>h.va q hq (e ▸ hg)),?_,h.rv,h.ra,h.va⟩;rw [b0];refine h.a.turn hu (r:=m.arrs[i].set k x) (by rw [List.length_set];exact h1) ?_ (by decide);exact (Chg.refl _ _).setCell g k _ (fun _=>rfl)
theorem OwnMv.regAt {g n c:Nat} (h:OwnMv w base (.slice (some ⟨g,0,none⟩) n c) vv va us rs m) (k:Nat) (hk:k < rs.length):w.cell? ⟨g,k,none⟩=some (.int .i64 (gi rs k)):=by
 have hn:n=rs.length:=by
  obtain ⟨a,c',hs⟩:=Oh h.r;simp at hs;omega
 subst hn;rw [h.r.cellAt k (by omega),ints_at _ _ hk];unfold gi;rw [Int.toNat_natCast,List.getElem?_eq_getElem hk];rfl
theorem OwnMv.valAt {g n c:Nat} (h:OwnMv w base vr (.slice (some ⟨g,0,none⟩) n c) va us rs m) (k:Nat) (hk:k < m.vals.length):w.cell? ⟨g,k,none⟩=some (.int .i64 (gi m.vals k)):=by
 have hn:n=m.vals.length:=by
  obtain ⟨a,c',hs⟩:=Oh h.v;simp at hs;omega
 subst hn;rw [h.v.cellAt k (by omega),ints_at _ _ hk];unfold gi;rw [Int.toNat_natCast,List.getElem?_eq_getElem hk];rfl
theorem OwnMv.arrAt {g n c:Nat} (h:OwnMv w base vr vv (.slice (some ⟨g,0,none⟩) n c) us rs m) (i:Nat) (hi:i < m.arrs.length) (hl:(gr m.arrs i).length=4) :
  ∃ ga ca,w.cell? ⟨g,i,none⟩=some (.slice (some ⟨ga,0,none⟩) 4 ca)∧us[i]? = some (.slice (some ⟨ga,0,none⟩) 4 ca)∧∀ k,k < 4→w.cell? ⟨ga,k,none⟩=some (.int .i64 (gi (gr m.arrs i) k))∧w.frozen? ⟨ga,k,none⟩=false:=by
 obtain ⟨u,hu,a0⟩:=h.a.rowAt i hi;have b0:gr m.arrs i=m.arrs[i]:=by unfold gr;rw [Int.toNat_natCast,List.getElem?_eq_getElem hi];rfl
 rw [b0] at hl ⊢;rw [hl] at a0;obtain ⟨ga,ca,rfl⟩:=own_pos a0 (by omega)
 have hn:n=m.arrs.length:=by
  obtain ⟨a,c',hs⟩:=Oh h.a.out;simp at hs;omega
 subst hn;refine ⟨ga,ca,?_,hu,fun k hk=>⟨?_,a0.frozenAt k⟩⟩
 ·rw [h.a.outAt.cellAt i (by omega)];exact hu
 rw [a0.cellAt k (by omega),ints_at _ _ (by omega)];unfold gi;rw [Int.toNat_natCast,List.getElem?_eq_getElem (by omega)];rfl
end
end Go.Proofs.Ytlckklglbodgbaa
namespace Go.Proofs.Ytlckklglbodgbaa
open Go.RowKit
structure OwnS (w:World) (base b:Nat) (vr vv va:Value) (us:List Value) (s:Ms):Prop where
 c0:w.cell? ⟨b,0,none⟩=some (.int .i64 s.pc)
 c1:w.cell? ⟨b,1,none⟩=some vr
 c2:w.cell? ⟨b,2,none⟩=some vv
 c3:w.cell? ⟨b,3,none⟩=some va
 f0:w.frozen? ⟨b,0,none⟩=false
 own:OwnMv w base vr vv va us s.regs s.mem
 ob:¬OwnMB vr vv va us b
theorem OwnS.keep {w w':World} {base b:Nat} {vr vv va:Value} {us:List Value} {s:Ms} (h:OwnS w base b vr vv va us s) {S:Nat→Prop} (hc:Chg S w w') (hb:¬S b) (hs:∀ q,OwnMB vr vv va us q→¬S q):OwnS w' base b vr vv va us s:=
 ⟨Gc hc h.c0 hb,Gc hc h.c1 hb,Gc hc h.c2 hb,Gc hc h.c3 hb,Gf hc (Lc h.c0) h.f0 hb,h.own.keep hc hs,h.ob⟩
theorem OwnS.below {w w':World} {base b:Nat} {vr vv va:Value} {us:List Value} {s:Ms} (h:OwnS w base b vr vv va us s) (hb:Below w.heap.size w w'):OwnS w' base b vr vv va us s:=h.keep (S:=fun _=>False) (Cb hb) id (fun _ _=>id)
theorem OwnS.lt {w:World} {base b:Nat} {vr vv va:Value} {us:List Value} {s:Ms} (h:OwnS w base b vr vv va us s):b < w.heap.size:=Lc h.c0
section
variable {S:Nat→Prop} {w W W':World} {base b tb:Nat} {vr vv va u:Value} {us:List Value} {rs:List Int} {m:Mm} {E:List Ev} {pc:Int}
theorem Chg.setNew {S:Nat→Prop} {w W:World} (h:Chg S w W) (b j:Nat) (x:Value) (hs:S b∨w.heap.size≤b):Chg S w (W.setCell ⟨b,j,none⟩ x):=by
 refine ⟨h.os,h.tape,h.output,by simp only [Ss];exact h.size,fun k hk hn=>?_⟩
 have a0:k≠b:=fun e=>by
  rcases hs with hs | hs
  ·exact hn (e ▸ hs)
  omega
 rw [← h.block k hk hn];exact Below.heap_setCell _ _ _ _ (by simpa using a0)
theorem Chg.sN {S:Nat→Prop} {w W:World} (h:Chg S w W) (b j:Nat) (x:Value) (hs:w.heap.size≤b:=by omega):Chg S w (W.setCell ⟨b,j,none⟩ x):=h.setNew b j x (Or.inr hs)
end
end Go.Proofs.Ytlckklglbodgbaa
namespace Go.Proofs.Ytlckklglbodgbaa
open Go.RowKit
def Rnd (w:World) (B g p:Nat):Prop:=
 ∃ a L cap,w.cell? ⟨g,0,none⟩=some (.slice a L cap)∧w.cell? ⟨g,1,none⟩=some (.int .i64 p)∧w.frozen? ⟨g,1,none⟩=false∧L≤1048576∧B≤g∧B≤w.heap.size ∧
  (0 < L→∃ b off,a=some ⟨b,off,none⟩∧b < B∧∀ j,j < L→∃ x:Int,0≤x∧x < 256∧w.cell? ⟨b,off+j,none⟩=some (.int .u8 x))
theorem Rnd.keep {w w':World} {B g p:Nat} (h:Rnd w B g p) {S:Nat→Prop} (hc:Chg S w w') (hg:¬S g) (hB:∀ k,k < B→¬S k):Rnd w' B g p:=by
 obtain ⟨a,L,d0,h0,h1,hf,hL,e0,f0,hb⟩:=h;have hl:=Lc h0;refine ⟨a,L,d0,(hc.cell 0 hl hg).trans h0,(hc.cell 1 hl hg).trans h1,(hc.frozen 1 hl hg).trans hf,hL,e0,Nat.le_trans f0 hc.size,fun h0=>?_⟩;obtain ⟨b,c0,ha,b0,a0⟩:=hb h0;refine ⟨b,c0,ha,b0,fun j hj=>?_⟩;obtain ⟨x,g0,i0,hx⟩:=a0 j hj;exact ⟨x,g0,i0,(hc.cell (c0+j) (by omega) (hB b b0)).trans hx⟩
theorem Rnd.kC {w:World} {B g p:Nat} (h:Rnd w B g p) (b j:Nat) (v:Value) (hg:¬g=b:=by omega) (hB:∀ k,k < B→¬k=b:=by intro _ _;omega):Rnd (w.setCell ⟨b,j,none⟩ v) B g p:=h.keep (C1 b j v) hg hB
theorem Rnd.below {w w':World} {B g p:Nat} (h:Rnd w B g p) (hb:Below w.heap.size w w'):Rnd w' B g p:=h.keep (S:=fun _=>False) (Cb hb) id (fun _ _=>id)
theorem Rnd.lt {w:World} {B g p:Nat} (h:Rnd w B g p):B≤g∧g < w.heap.size:=by
 obtain ⟨a,L,b0,h0,h1,hf,hL,a0,_⟩:=h;exact ⟨a0,Lc h0⟩
def exRight (nv na:Nat) (e:Ex):Bool:=exOk nv na 5 e&&decide (exCnt 5 e≤15)
theorem l2Right_any (pv pa:Option Addr) (nv cv na ca:Nat) (vb:Value) (B:Nat→Prop) (D:Nat) (n:En) (e:Ex) (w:World) (hx:ExAt w B D n e) :
  Calls Try.prog 99 #[.agg #[.slice pv nv cv,.slice pa na ca,vb],.agg #[.int .i64 n.k,.int .i64 n.v,.slice n.p n.n n.c]] w fun r w'=>r=.returned (.bool (exRight nv na e))∧Below w.heap.size w w':=by
 have HX:=Hi (fun W (hW:Below w.heap.size w W)=>hx.below hW);have HN:Hid (exOk nv na 5 e=false→exRight nv na e=false):=Hi (fun h=>by unfold exRight;rw [h];rfl);have HY:Hid (exOk nv na 5 e=true→exRight nv na e=decide (exCnt 5 e≤15)):=Hi (fun h=>by unfold exRight;rw [h];rfl);have HS:=Hi (fun W (hW:Below w.heap.size w W)=>l2Shape_any pv pa nv cv na ca vb B 5 D n e W (by omega) (HX.out W hW));have HC:=Hi (fun (h:exOk nv na 5 e=true) W (hW:Below w.heap.size w W)=>l2Count_any B 5 D 5 n e W (by omega) (HX.out W hW) (exOk_thin (nv:=nv) (na:=na) h));clear hx HX;generalize exRight nv na e=X at *
 generalize exCnt 5 e=Y at *
 go_enter Try.func99,Try.ntmps99
 go_wp2_with fail
 refine (HS.out _ (bal (bal (Bs w) (.cells #[.slice pv nv cv,.slice pa na ca,vb] 26)) (.cells #[.int .i64 n.k,.int .i64 n.v,.slice n.p n.n n.c] 49))).mono ?_;rintro e w1 ⟨rfl,hb⟩;have c0:=hb.size;simp only [Sa] at c0;have g0:Bk w1 (w.heap.size) [.slice pv nv cv,.slice pa na ca,vb]:=Bb (Bk.al (Bk.nw (by simp) rfl) (.cells #[.int .i64 n.k,.int .i64 n.v,.slice n.p n.n n.c] 49)) hb;have a0:Bk w1 (w.heap.size+1) [.int .i64 n.k,.int .i64 n.v,.slice n.p n.n n.c]:=Bb (Bk.nw (by simp) rfl) hb;have b0:=btr (bal (bal (Bs w) (.cells #[.slice pv nv cv,.slice pa na ca,vb] 26)) (.cells #[.int .i64 n.k,.int .i64 n.v,.slice n.p n.n n.c] 49)) hb;clear hb;clear g0;have m0:=Bk.lz a0
 cases hc:exOk nv na 5 e with
 | false =>
  have HR:=Hi (HN.out hc);clear HN HY HC HS hc;have tt:=b0;go_wp2
  exact bodyPost_ret (v:=.bool false) (by simp [results,Try.results99,go_sem]) rfl (by exact by rw [HR.out];exact ⟨rfl,tt⟩)
 | true =>
  have HR:=Hi (HY.out hc);have f0:=Hi (HC.out hc);clear HN HY HC HS hc;obtain ⟨h0,k0,i0,l0,j0,d0⟩:=Bk.h3 a0;go_wp2_with fail
  refine (f0.out _ b0).mono ?_;rintro e w2 ⟨rfl,hb⟩;have e0:=hb.size;clear k0 h0 l0 i0 d0 j0;replace a0:=Bb a0 hb;replace b0:=btr b0 hb;clear hb;clear a0;have tt:=b0;go_wp2
  exact bodyPost_ret (v:=.bool (decide (Y≤15))) (by simp [results,Try.results99,go_sem]) rfl (by exact by rw [HR.out];exact ⟨rfl,tt⟩)
theorem expr_any (pv pa:Option Addr) (nv cv na ca:Nat) (vb:Value) (hnv:nv≤1000000000∧na≤1000000000) (B:Nat→Prop) (D:Nat) (n:En) (e:Ex) (w:World) (hx:ExAt w B D n e) :
  Calls Try.prog 82 #[.agg #[.slice pv nv cv,.slice pa na ca,vb],.agg #[.int .i64 n.k,.int .i64 n.v,.slice n.p n.n n.c]] w fun r w'=>r=.returned (.bool (exRight nv na e))∧Below w.heap.size w w':=by
 have v0:ExAt w (fun q=>q < w.heap.size) D n e:=ExAt.keep (S:=fun _=>False) (Chg.refl _ _) (fun _ _ _=>id) (fun q _ h=>h) Lr hx;have HX:=Hi (fun W (hW:Below w.heap.size w W)=>ExAt.below v0 hW);have HQ:Hid (exRight nv na e=scR nv na 5 0 e):=Hi (by unfold exRight scR;simp);generalize exRight nv na e=Q at *
 clear hx v0;go_enter Try.func82,Try.ntmps82
 go_upto_region 2 with (fail)
 obtain ⟨w1,t0,hb⟩:=nmw (World.alloc (World.alloc (World.alloc w (.cells #[.slice pv nv cv,.slice pa na ca,vb] 26)) (.cells #[.int .i64 n.k,.int .i64 n.v,.slice n.p n.n n.c] 49)) (.cells #[.int .i64 0] 3));have f0:=hb.size;simp only [Sa] at f0;have b0:Bk w1 (w.heap.size) [.slice pv nv cv,.slice pa na ca,vb]:=Bb (Bk.al (Bk.al (Bk.nw (by simp) rfl) (.cells #[.int .i64 n.k,.int .i64 n.v,.slice n.p n.n n.c] 49)) (.cells #[.int .i64 0] 3)) hb;have c0:Bk w1 (w.heap.size+1) [.int .i64 n.k,.int .i64 n.v,.slice n.p n.n n.c]:=Bb (Bk.al (Bk.nw (by simp) rfl) (.cells #[.int .i64 0] 3)) hb;have d0:w1.cell? ⟨w.heap.size+1+1,0,none⟩=some (.int .i64 0):=Kc hb (Wc (by simp) (by rfl));have s0:w1.frozen? ⟨w.heap.size+1+1,0,none⟩=false:=Kf hb (by simp <;> omega) (Fn (by simp));have a0:=btr (bal (bal (bal (Bs w) (.cells #[.slice pv nv cv,.slice pa na ca,vb] 26)) (.cells #[.int .i64 n.k,.int .i64 n.v,.slice n.p n.n n.c] 49)) (.cells #[.int .i64 0] 3)) hb;clear hb;rw [← t0];clear t0;have a1:=Bk.lz b0;have b1:=Bk.lz c0;have c1:=Lc d0;have g0:∀ q,(fun k=>k=w.heap.size+1+1) q→q=w.heap.size+1+1:=fun q h=>h
 obtain ⟨z0,m0,h0,n0,i0,o0⟩:=Bk.h3 b0;obtain ⟨j0,p0,k0,q0,l0,r0⟩:=Bk.h3 c0;go_wp2_with fail
 have e0:=scan_any (w.heap.size+1+1) pv pa nv cv na ca vb (fun q=>q < w.heap.size) (fun q h e=>by omega) hnv 5 D n e 0 1 _ (by omega) (by omega) (HX.out _ a0) d0 s0 (by omega) (by omega);rw [← HQ.out] at e0;clear d0 s0;refine (e0).mono ?_;rintro e w2 ⟨c2,rfl,w0,y0,x0,hb⟩;clear e0 w0 y0 x0;have u0:=hb.size;clear m0 z0 n0 h0 o0 i0 p0 j0 q0 k0 r0 l0;replace b0:=Bk.keep b0 hb (fun h=>by have:=g0 _ h;omega);replace c0:=Bk.keep c0 hb (fun h=>by have:=g0 _ h;omega);replace a0:=a0.trans (hb.below w.heap.size (by have:=a0.size;omega) (fun gq hgq h=>by have:=g0 gq h;omega));clear hb;have tt:=a0;go_wp2
 exact bodyPost_ret (v:=.bool Q) (by simp [results,Try.results82,go_sem]) rfl (by exact ⟨rfl,tt⟩)
end Go.Proofs.Ytlckklglbodgbaa
