/-
 Parts of the proofs of the laws FnPairMemory,FnSplitMemory.
-/
import Derived.Deep.Slices
import Derived.Lib.SmallJoins
import Derived.Test.YtlckklglbodgbaaGreatPU
set_option linter.all false
namespace Go.Proofs.YtlckklglbodgbaaGreat
open Go.RowKit
theorem ints_set (l:List Int) (k:Nat) (b:Int):(ints l).set k (.int .i64 b)=ints (l.set k b):=by simp [ints,List.map_set]
theorem ints_at (l:List Int) (k:Nat) (h:k < l.length):(ints l)[k]? = some (.int .i64 l[k]):=by simp [ints,h]
structure Mm where
 vals:List Int
 arrs:List (List Int)
deriving DecidableEq
structure Ms where
 pc:Int
 regs:List Int
 mem:Mm
deriving DecidableEq
def valOk (n:Int):Bool:=wi n 0 255
def valsOk (xs:List Int):Bool:=xs.all valOk
def memOk (nv na:Nat) (m:Mm):Bool:=decide (m.vals.length=nv)&&(decide (m.arrs.length=na)&&(valsOk m.vals&&m.arrs.all (fun a=>decide (a.length=4)&&valsOk a)))
def gi (xs:List Int) (i:Int):Int:=(xs[i.toNat]?).getD 0
def gr (rs:List (List Int)) (i:Int):List Int:=(rs[i.toNat]?).getD []
end Go.Proofs.YtlckklglbodgbaaGreat
namespace Go.Proofs.YtlckklglbodgbaaGreat
open Go.RowKit Go.ChangeShapes Go.WideShapes Go.Deep Go.Joins
def Reads2 {α:Type} (f:List α→List Value) (w:World) (v:Value) (rs:List (List α)):Prop:=
 ∃ vs:List Value,Reads w 1 v rs.length vs∧∀ (k:Nat) (u:Value) (r:List α),vs[k]? = some u→rs[k]? = some r→Reads w 1 u r.length (f r)
theorem Reads2.below {α:Type} {f:List α→List Value} {w w':World} {v:Value} {rs:List (List α)} (h:Reads2 f w v rs) (hb:Below w.heap.size w w'):Reads2 f w' v rs:=by
 obtain ⟨vs,h1,h2⟩:=h;exact ⟨vs,h1.below hb,fun k u r hu hr=>(h2 k u r hu hr).below hb⟩
theorem Reads2.shape {α:Type} {f:List α→List Value} {w:World} {v:Value} {rs:List (List α)} (h:Reads2 f w v rs):∃ a c,v=.slice a rs.length c:=by
 obtain ⟨vs,h1,h2⟩:=h;exact reads_shape h1
theorem Reads2.lenle {α:Type} {f:List α→List Value} {w:World} {v:Value} {rs:List (List α)} (h:Reads2 f w v rs):rs.length≤9223372036854775807:=by
 obtain ⟨vs,h1,h2⟩:=h;exact h1.2.1
theorem Reads2.at {α:Type} {f:List α→List Value} {w:World} {a:Option Addr} {n c:Nat} {rs:List (List α)} (h:Reads2 f w (.slice a n c) rs) (k:Nat) (hk:k < rs.length) :
  ∃ b off u,a=some ⟨b,off,none⟩∧b < w.heap.size∧w.cell? ⟨b,off+k,none⟩=some u∧Reads w 1 u rs[k].length (f rs[k]):=by
 obtain ⟨vs,⟨h0,hn,a',c',b,off,hv,hc,ha,a0⟩,h2⟩:=h;simp only [Value.slice.injEq] at hv;obtain ⟨rfl,rfl,rfl⟩:=hv;obtain ⟨rfl,hb⟩:=ha (by omega);have b0:k < vs.length:=by omega
 exact ⟨b,off,vs[k],rfl,hb,a0 k b0,h2 k _ _ (List.getElem?_eq_getElem b0) (List.getElem?_eq_getElem hk)⟩
structure Own2 {α:Type} (f:List α→List Value) (tr tq:TypeId) (w:World) (base:Nat) (v:Value) (vs:List Value) (rs:List (List α)):Prop where
 len:vs.length=rs.length
 out:w.ownsRow base tq 1 v rs.length vs
 row:∀ (k:Nat) (u:Value) (r:List α),vs[k]? = some u→rs[k]? = some r→w.ownsRow base tr 1 u r.length (f r)
 apart:∀ (j k:Nat) (u u':Value),vs[j]? = some u→vs[k]? = some u'→j≠k→∀ q,u.ownBlock=some q→u'.ownBlock=some q→False
def OwnB2 (v:Value) (vs:List Value) (q:Nat):Prop:=v.ownBlock=some q∨∃ (k:Nat) (u:Value),vs[k]? = some u∧u.ownBlock=some q
section
variable {α:Type} {f:List α→List Value} {tr tq:TypeId} {w w':World} {base base':Nat} {v:Value} {vs:List Value} {rs:List (List α)}
theorem Own2.rowAt (h:Own2 f tr tq w base v vs rs) (k:Nat) (hk:k < rs.length):∃ u,vs[k]? = some u∧w.ownsRow base tr 1 u rs[k].length (f rs[k]):=by
 have a0:k < vs.length:=by rw [h.len];exact hk
 exact ⟨vs[k],List.getElem?_eq_getElem a0,h.row k _ _ (List.getElem?_eq_getElem a0) (List.getElem?_eq_getElem hk)⟩
theorem Own2.outAt {a:Option Addr} {n c:Nat} (h:Own2 f tr tq w base (.slice a n c) vs rs):w.ownsRow base tq 1 (.slice a n c) n vs:=by
 have ho:=h.out;obtain ⟨a',c',hs⟩:=Oh ho;simp only [Value.slice.injEq] at hs;rw [← hs.2.1] at ho;exact ho
theorem Own2.lt (h:Own2 f tr tq w base v vs rs):∀ q,OwnB2 v vs q→base≤q∧q < w.heap.size:=by
 rintro q (hq | ⟨k,u,hu,hq⟩)
 ·exact h.out.lt q hq
 have hk:k < rs.length:=by rw [← h.len];exact (List.getElem?_eq_some_iff.1 hu).1
 exact (h.row k u _ hu (List.getElem?_eq_getElem hk)).lt q hq
theorem Own2.keep (h:Own2 f tr tq w base v vs rs) {S:Nat→Prop} (hc:Chg S w w') (hs:∀ q,OwnB2 v vs q→¬S q):Own2 f tr tq w' base v vs rs:=
 ⟨h.len,Ow h.out hc (fun q hq=>hs q (Or.inl hq)),fun k u r hu hr=>Ow (h.row k u r hu hr) hc (fun q hq=>hs q (Or.inr ⟨k,u,hu,hq⟩)),h.apart⟩
theorem Own2.below (h:Own2 f tr tq w base v vs rs) (hb:Below w.heap.size w w'):Own2 f tr tq w' base v vs rs:=h.keep (S:=fun _=>False) (Cb hb) (fun _ _=>id)
theorem Own2.mono (h:Own2 f tr tq w base v vs rs) (hb:base'≤base):Own2 f tr tq w base' v vs rs:=⟨h.len,Om h.out hb,fun k u r hu hr=>Om (h.row k u r hu hr) hb,h.apart⟩
theorem Own2.reads (h:Own2 f tr tq w base v vs rs) (h0:rs.length≤9223372036854775807) (h1:∀ (k:Nat) (r:List α),rs[k]? = some r→r.length≤9223372036854775807):Reads2 f w v rs:=
 ⟨vs,Ro h.out h0,fun k u r hu hr=>Ro (h.row k u r hu hr) (h1 k r hr)⟩
theorem Own2.shape (h:Own2 f tr tq w base v vs rs):∃ a c,v=.slice a rs.length c:=Oh h.out
theorem Own2.outer (h:Own2 f tr tq w base v vs rs) (he:tq≠tr):∀ (k:Nat) (u:Value),vs[k]? = some u→∀ q,v.ownBlock=some q→u.ownBlock=some q→False:=by
 intro k u hu q h1 h2;have hk:k < rs.length:=by rw [← h.len];exact (List.getElem?_eq_some_iff.1 hu).1
 exact own_diff h.out (h.row k u _ hu (List.getElem?_eq_getElem hk)) he q h1 h2
theorem Own2.put (h:Own2 f tr tq w base v vs rs) {g n c k:Nat} (hv:v=.slice (some ⟨g,0,none⟩) n c) (hk:k < rs.length) {u:Value} {r:List α} (hu:w.ownsRow base tr 1 u r.length (f r))
  (hg:∀ q,u.ownBlock=some q→¬OwnB2 v vs q) (he:tq≠tr):Own2 f tr tq (w.setCell ⟨g,k,none⟩ u) base v (vs.set k u) (rs.set k r):=by
 have hn:n=rs.length:=by
  obtain ⟨a,c',hs⟩:=Oh h.out;rw [hv] at hs;simp at hs;omega
 subst hn;have ho:=h.out;have a0:k < vs.length:=by rw [h.len];exact hk
 subst hv;have hC:Chg (fun q=>q=g) w (w.setCell ⟨g,k,none⟩ u):=(Chg.refl _ _).setCell g k u (fun _=>rfl);refine ⟨by simp [h.len],?_,?_,?_⟩
 ·rw [List.length_set];exact (ho.stored k u).1
 ·intro j u' r' hu' hr';by_cases e:k=j
  ·subst e;rw [List.getElem?_set_self a0] at hu';rw [List.getElem?_set_self hk] at hr';obtain rfl:=Si hu';obtain rfl:=Si hr';exact Ow hu hC (fun q hq e=>hg q hq (Or.inl (by subst e;rfl)))
  rw [List.getElem?_set_ne e] at hu' hr';exact Ow (h.row j u' r' hu' hr') hC (fun q hq e=>by subst e;exact h.outer he j u' hu' q rfl hq)
 intro i j u1 u2 h1 h2 d0 q b0 c0;by_cases e1:k=i
 ·subst e1;rw [List.getElem?_set_self a0] at h1;obtain rfl:=Si h1;rw [List.getElem?_set_ne d0] at h2;exact hg q b0 (Or.inr ⟨j,u2,h2,c0⟩)
 rw [List.getElem?_set_ne e1] at h1;by_cases e2:k=j
 ·subst e2;rw [List.getElem?_set_self a0] at h2;obtain rfl:=Si h2;exact hg q c0 (Or.inr ⟨i,u1,h1,b0⟩)
 rw [List.getElem?_set_ne e2] at h2;exact h.apart i j u1 u2 h1 h2 d0 q b0 c0
theorem Own2.turn (h:Own2 f tr tq w base v vs rs) {k:Nat} {u:Value} (hu:vs[k]? = some u) {r:List α} (hr:w'.ownsRow base tr 1 u r.length (f r)) (hC:Chg (fun q=>u.ownBlock=some q) w w') (he:tq≠tr) :
  Own2 f tr tq w' base v vs (rs.set k r):=by
 refine ⟨by simp [h.len],?_,?_,h.apart⟩
 ·rw [List.length_set];exact Ow h.out hC (fun q hq e=>h.outer he k u hu q hq e)
 intro j u' r' hu' hr';by_cases e:k=j
 ·subst e;have hk:k < rs.length:=by rw [← h.len];exact (List.getElem?_eq_some_iff.1 hu).1
  rw [List.getElem?_set_self hk] at hr';rw [hu] at hu';obtain rfl:=Si hu';obtain rfl:=Si hr';exact hr
 rw [List.getElem?_set_ne e] at hr';exact Ow (h.row j u' r' hu' hr') hC (fun q hq e2=>h.apart j k u' u hu' hu (fun x=>e x.symm) q hq e2)
theorem Own2.push (h:Own2 f tr tq w base v vs rs) {v' u:Value} {r:List α} (ho:w'.ownsRow base tq 1 v' (rs.length+1) (vs++[u])) (hC:Chg (fun q=>v.ownBlock=some q) w w') (hu:w.ownsRow base tr 1 u r.length (f r))
  (hg:∀ q,u.ownBlock=some q→¬OwnB2 v vs q) (he:tq≠tr):Own2 f tr tq w' base v' (vs++[u]) (rs++[r]):=by
 have hl:=h.len
 have a0:∀ (k:Nat) (x:Value),(vs++[u])[k]? = some x→(k < rs.length∧vs[k]? = some x)∨(k=rs.length∧x=u):=by
  intro k x hx;by_cases hk:k < vs.length
  ·rw [List.getElem?_append_left hk] at hx;exact Or.inl ⟨by omega,hx⟩
  rw [List.getElem?_append_right (by omega)] at hx;by_cases e:k=vs.length
  ·subst e;simp at hx;exact Or.inr ⟨hl,hx.symm⟩
  rw [List.getElem?_eq_none (by simp;omega)] at hx;cases hx
 refine ⟨by simp [hl],by rw [List.length_append];exact ho,?_,?_⟩
 ·intro k x r' hx hr';rcases a0 k x hx with ⟨hk,hx⟩ | ⟨rfl,rfl⟩
  ·rw [List.getElem?_append_left hk] at hr';exact Ow (h.row k x r' hx hr') hC (fun q hq e=>h.outer he k x hx q e hq)
  rw [List.getElem?_append_right Lr,Nat.sub_self] at hr';obtain rfl:=Si hr';exact Ow hu hC (fun q hq e=>hg q hq (Or.inl e))
 intro i j u1 u2 h1 h2 d0 q b0 c0;rcases a0 i u1 h1 with ⟨_,k1⟩ | ⟨rfl,rfl⟩
 ·rcases a0 j u2 h2 with ⟨_,k2⟩ | ⟨rfl,rfl⟩
  ·exact h.apart i j u1 u2 k1 k2 d0 q b0 c0
  exact hg q c0 (Or.inr ⟨i,u1,k1,b0⟩)
 rcases a0 j u2 h2 with ⟨_,k2⟩ | ⟨rfl,rfl⟩
 ·exact hg q b0 (Or.inr ⟨j,u2,k2,c0⟩)
 exact d0 rfl
theorem own2_nils (hf:f []=[]) (ho:w.ownsRow base tq 1 v rs.length (List.replicate rs.length (.slice none 0 0))) (hr:∀ (k:Nat) (r:List α),rs[k]? = some r→r=[]):Own2 f tr tq w base v (List.replicate rs.length (.slice none 0 0)) rs:=by
 refine ⟨by simp,ho,fun k u r hu hr'=>?_,fun j k u u' hu _ _ q hq _=>?_⟩
 ·obtain ⟨_,hu⟩:=List.getElem?_eq_some_iff.1 hu;rw [List.getElem_replicate] at hu;subst hu;obtain rfl:=hr k r hr';rw [hf];exact World.ownsRow_nil _ _ _ _
 obtain ⟨_,hu⟩:=List.getElem?_eq_some_iff.1 hu;rw [List.getElem_replicate] at hu;subst hu;simp [Value.ownBlock] at hq
end
def pre2 {α:Type} (rs:List (List α)) (k:Nat):Nat:=((rs.take k).map List.length).sum
theorem pre2_succ {α:Type} (rs:List (List α)) (k:Nat) (h:k < rs.length):pre2 rs (k+1)=pre2 rs k+rs[k].length:=by
 unfold pre2;rw [List.take_succ_eq_append_getElem h,List.map_append,List.sum_append];simp only [List.map_cons,List.map_nil,List.sum_cons,List.sum_nil,Nat.add_zero]
theorem pre2_all {α:Type} (rs:List (List α)) (k:Nat) (h:k < rs.length) (m:Nat) (hm:k < m):rs[k].length≤pre2 rs m:=by
 induction m with
 | zero=>omega
 | succ m ih =>
  by_cases hml:m < rs.length
  ·rw [pre2_succ rs m hml];by_cases e:k=m
   ·subst e;omega
   have:=ih (by omega);omega
  have h1:pre2 rs (m+1)=pre2 rs m:=by unfold pre2;rw [List.take_of_length_le (by omega),List.take_of_length_le (by omega)]
  rw [h1];exact ih (by omega)
theorem pre2_le {α:Type} (rs:List (List α)) (B:Nat) (h:∀ (k:Nat) (r:List α),rs[k]? = some r→r.length≤B) (k:Nat) (hk:k≤rs.length):pre2 rs k≤B*k:=by
 induction k with
 | zero=>simp [pre2]
 | succ k ih =>
  rw [pre2_succ rs k (by omega)];have h1:=h k _ (List.getElem?_eq_getElem (by omega));have h2:=ih (by omega);rw [Nat.mul_add];omega
end Go.Proofs.YtlckklglbodgbaaGreat
namespace Go.Proofs.YtlckklglbodgbaaGreat
open Go.RowKit
theorem info_ints:(Tryz.prog.info? 23).map (fun i=>(i.zero,i.size,i.bytes))=some (some (.slice none 0 0),1,24):=by kernel_rfl
theorem tIntSS:SliceT Tryz.prog 27 23 (.slice none 0 0) 1 24:=⟨Tryz.underlying27,info_ints,rfl,by omega,by omega⟩
abbrev Own2I:=Own2 ints 3 23
structure OwnMv (w:World) (base:Nat) (vr vv va:Value) (us:List Value) (rs:List Int) (m:Mm):Prop where
 r:w.ownsRow base 3 1 vr rs.length (ints rs)
 v:w.ownsRow base 3 1 vv m.vals.length (ints m.vals)
 a:Own2I w base va us m.arrs
 rv:∀ q,vr.ownBlock=some q→vv.ownBlock=some q→False
 ra:∀ q,vr.ownBlock=some q→¬OwnB2 va us q
 va:∀ q,vv.ownBlock=some q→¬OwnB2 va us q
def OwnMB (vr vv va:Value) (us:List Value) (q:Nat):Prop:=vr.ownBlock=some q∨vv.ownBlock=some q∨OwnB2 va us q
section
variable {w w':World} {base base':Nat} {vr vv va:Value} {us:List Value} {rs:List Int} {m:Mm}
theorem OwnMv.lt (h:OwnMv w base vr vv va us rs m):∀ q,OwnMB vr vv va us q→base≤q∧q < w.heap.size:=by
 rintro q (hq | hq | hq)
 ·exact h.r.lt q hq
 ·exact h.v.lt q hq
 exact h.a.lt q hq
theorem OwnMv.keep (h:OwnMv w base vr vv va us rs m) {S:Nat→Prop} (hc:Chg S w w') (hs:∀ q,OwnMB vr vv va us q→¬S q):OwnMv w' base vr vv va us rs m:=
 ⟨Ow h.r hc (fun q hq=>hs q (Or.inl hq)),Ow h.v hc (fun q hq=>hs q (Or.inr (Or.inl hq))),h.a.keep hc (fun q hq=>hs q (Or.inr (Or.inr hq))),h.rv,h.ra,h.va⟩
theorem OwnMv.below (h:OwnMv w base vr vv va us rs m) (hb:Below w.heap.size w w'):OwnMv w' base vr vv va us rs m:=h.keep (S:=fun _=>False) (Cb hb) (fun _ _=>id)
theorem OwnMv.mono (h:OwnMv w base vr vv va us rs m) (hb:base'≤base):OwnMv w base' vr vv va us rs m:=⟨Om h.r hb,Om h.v hb,h.a.mono hb,h.rv,h.ra,h.va⟩
theorem OwnMv.far (h:OwnMv w base vr vv va us rs m) (b j:Nat) (x:Value) (hb:¬OwnMB vr vv va us b):OwnMv (w.setCell ⟨b,j,none⟩ x) base vr vv va us rs m:=
 h.keep ((Chg.refl (fun q=>q=b) w).setCell b j x (fun _=>rfl)) (fun _ hq e=>hb (e ▸ hq))
theorem OwnMv.setReg {g n c:Nat} (h:OwnMv w base (.slice (some ⟨g,0,none⟩) n c) vv va us rs m) (k:Nat) (x:Int):OwnMv (w.setCell ⟨g,k,none⟩ (.int .i64 x)) base (.slice (some ⟨g,0,none⟩) n c) vv va us (rs.set k x) m:=by
 have hC:Chg (fun q=>q=g) w (w.setCell ⟨g,k,none⟩ (.int .i64 x)):=(Chg.refl _ _).setCell g k _ (fun _=>rfl)
 have hn:n=rs.length:=by
  obtain ⟨a,c',hs⟩:=Oh h.r;simp at hs;omega
 subst hn;refine ⟨?_,Ow h.v hC (fun q hq e=>h.rv q (by subst e;rfl) hq),h.a.keep hC (fun q hq e=>h.ra q (by subst e;rfl) hq),h.rv,h.ra,h.va⟩;have h1:=(h.r.stored k (.int .i64 x)).1;rw [ints_set] at h1;rw [List.length_set];exact h1
theorem OwnMv.setVal {g n c:Nat} (h:OwnMv w base vr (.slice (some ⟨g,0,none⟩) n c) va us rs m) (k:Nat) (x:Int):OwnMv (w.setCell ⟨g,k,none⟩ (.int .i64 x)) base vr (.slice (some ⟨g,0,none⟩) n c) va us rs ⟨m.vals.set k x,m.arrs⟩:=by
 have hC:Chg (fun q=>q=g) w (w.setCell ⟨g,k,none⟩ (.int .i64 x)):=(Chg.refl _ _).setCell g k _ (fun _=>rfl)
 have hn:n=m.vals.length:=by
  obtain ⟨a,c',hs⟩:=Oh h.v;simp at hs;omega
 subst hn;refine ⟨Ow h.r hC (fun q hq e=>h.rv q hq (by subst e;rfl)),?_,h.a.keep hC (fun q hq e=>h.va q (by subst e;rfl) hq),h.rv,h.ra,h.va⟩;have h1:=(h.v.stored k (.int .i64 x)).1;rw [ints_set] at h1;simp only [List.length_set];exact h1
theorem OwnMv.setArr {i g n c:Nat} (h:OwnMv w base vr vv va us rs m) (hu:us[i]? = some (.slice (some ⟨g,0,none⟩) n c)) (k:Nat) (x:Int):OwnMv (w.setCell ⟨g,k,none⟩ (.int .i64 x)) base vr vv va us rs ⟨m.vals,m.arrs.set i ((gr m.arrs i).set k x)⟩:=by
 have hC:Chg (fun q=>q=g) w (w.setCell ⟨g,k,none⟩ (.int .i64 x)):=(Chg.refl _ _).setCell g k _ (fun _=>rfl);have hi:i < m.arrs.length:=by rw [← h.a.len];exact (List.getElem?_eq_some_iff.1 hu).1
 have b0:gr m.arrs i=m.arrs[i]:=by unfold gr;rw [Int.toNat_natCast,List.getElem?_eq_getElem hi];rfl
 have a0:=h.a.row i _ _ hu (List.getElem?_eq_getElem hi)
 have hn:n=m.arrs[i].length:=by
  obtain ⟨a,c',hs⟩:=Oh a0;simp at hs;omega
 subst hn;have hg:OwnB2 va us g:=Or.inr ⟨i,_,hu,rfl⟩;have h1:=(a0.stored k (.int .i64 x)).1;rw [ints_set] at h1;refine ⟨Ow h.r hC (fun q hq e=>h.ra q hq (e ▸ hg)),Ow h.v hC (fun q hq e=>h.va q hq (e ▸ hg)),?_,h.rv,h.ra,h.va⟩;rw [b0];refine h.a.turn hu (r:=m.arrs[i].set k x) (by rw [List.length_set];exact h1) ?_ (by decide);exact (Chg.refl _ _).setCell g k _ (fun _=>rfl)
theorem OwnMv.regAt {g n c:Nat} (h:OwnMv w base (.slice (some ⟨g,0,none⟩) n c) vv va us rs m) (k:Nat) (hk:k < rs.length):w.cell? ⟨g,k,none⟩=some (.int .i64 (gi rs k)):=by
 have hn:n=rs.length:=by
  obtain ⟨a,c',hs⟩:=Oh h.r;simp at hs;omega
 subst hn;rw [h.r.cellAt k (by omega),ints_at _ _ hk];unfold gi;rw [Int.toNat_natCast,List.getElem?_eq_getElem hk];rfl
theorem OwnMv.valAt {g n c:Nat} (h:OwnMv w base vr (.slice (some ⟨g,0,none⟩) n c) va us rs m) (k:Nat) (hk:k < m.vals.length):w.cell? ⟨g,k,none⟩=some (.int .i64 (gi m.vals k)):=by
 have hn:n=m.vals.length:=by
  obtain ⟨a,c',hs⟩:=Oh h.v;simp at hs;omega
 subst hn;rw [h.v.cellAt k (by omega),ints_at _ _ hk];unfold gi;rw [Int.toNat_natCast,List.getElem?_eq_getElem hk];rfl
theorem OwnMv.arrAt {g n c:Nat} (h:OwnMv w base vr vv (.slice (some ⟨g,0,none⟩) n c) us rs m) (i:Nat) (hi:i < m.arrs.length) (hl:(gr m.arrs i).length=4) :
  ∃ ga ca,w.cell? ⟨g,i,none⟩=some (.slice (some ⟨ga,0,none⟩) 4 ca)∧us[i]? = some (.slice (some ⟨ga,0,none⟩) 4 ca)∧∀ k,k < 4→w.cell? ⟨ga,k,none⟩=some (.int .i64 (gi (gr m.arrs i) k))∧w.frozen? ⟨ga,k,none⟩=false:=by
 obtain ⟨u,hu,a0⟩:=h.a.rowAt i hi;have b0:gr m.arrs i=m.arrs[i]:=by unfold gr;rw [Int.toNat_natCast,List.getElem?_eq_getElem hi];rfl
 rw [b0] at hl ⊢;rw [hl] at a0;obtain ⟨ga,ca,rfl⟩:=own_pos a0 (by omega)
 have hn:n=m.arrs.length:=by
  obtain ⟨a,c',hs⟩:=Oh h.a.out;simp at hs;omega
 subst hn;refine ⟨ga,ca,?_,hu,fun k hk=>⟨?_,a0.frozenAt k⟩⟩
 ·rw [h.a.outAt.cellAt i (by omega)];exact hu
 rw [a0.cellAt k (by omega),ints_at _ _ (by omega)];unfold gi;rw [Int.toNat_natCast,List.getElem?_eq_getElem (by omega)];rfl
end
end Go.Proofs.YtlckklglbodgbaaGreat
namespace Go.Proofs.YtlckklglbodgbaaGreat
open Go.RowKit
structure OwnS (w:World) (base b:Nat) (vr vv va:Value) (us:List Value) (s:Ms):Prop where
 c0:w.cell? ⟨b,0,none⟩=some (.int .i64 s.pc)
 c1:w.cell? ⟨b,1,none⟩=some vr
 c2:w.cell? ⟨b,2,none⟩=some vv
 c3:w.cell? ⟨b,3,none⟩=some va
 f0:w.frozen? ⟨b,0,none⟩=false
 own:OwnMv w base vr vv va us s.regs s.mem
 ob:¬OwnMB vr vv va us b
theorem OwnS.keep {w w':World} {base b:Nat} {vr vv va:Value} {us:List Value} {s:Ms} (h:OwnS w base b vr vv va us s) {S:Nat→Prop} (hc:Chg S w w') (hb:¬S b) (hs:∀ q,OwnMB vr vv va us q→¬S q):OwnS w' base b vr vv va us s:=
 ⟨Gc hc h.c0 hb,Gc hc h.c1 hb,Gc hc h.c2 hb,Gc hc h.c3 hb,Gf hc (Lc h.c0) h.f0 hb,h.own.keep hc hs,h.ob⟩
theorem OwnS.below {w w':World} {base b:Nat} {vr vv va:Value} {us:List Value} {s:Ms} (h:OwnS w base b vr vv va us s) (hb:Below w.heap.size w w'):OwnS w' base b vr vv va us s:=h.keep (S:=fun _=>False) (Cb hb) id (fun _ _=>id)
theorem OwnS.lt {w:World} {base b:Nat} {vr vv va:Value} {us:List Value} {s:Ms} (h:OwnS w base b vr vv va us s):b < w.heap.size:=Lc h.c0
theorem memOk_parts {nv na:Nat} {m:Mm} (h:memOk nv na m=true):m.vals.length=nv∧m.arrs.length=na∧(∀ n ∈ m.vals,0≤n∧n < 256)∧∀ a ∈ m.arrs,a.length=4∧∀ n ∈ a,0≤n∧n < 256:=by
 unfold memOk at h
 simp only [Bool.and_eq_true,decide_eq_true_eq] at h
 have hv:∀ xs:List Int,valsOk xs=true→∀ n ∈ xs,0≤n∧n < 256:=fun xs hx n hn=>by
  have h1:=List.all_eq_true.1 hx n hn;have h2:0≤n∧n≤255:=of_decide_eq_true h1;omega
 refine ⟨h.1,h.2.1,hv _ h.2.2.1,fun a ha=>?_⟩;have h1:=List.all_eq_true.1 h.2.2.2 a ha;simp only [Bool.and_eq_true,decide_eq_true_eq] at h1;exact ⟨h1.1,hv _ h1.2⟩
section
variable {S:Nat→Prop} {w W W':World} {base b tb:Nat} {vr vv va u:Value} {us:List Value} {rs:List Int} {m:Mm} {E:List Ev} {pc:Int}
theorem Chg.setNew {S:Nat→Prop} {w W:World} (h:Chg S w W) (b j:Nat) (x:Value) (hs:S b∨w.heap.size≤b):Chg S w (W.setCell ⟨b,j,none⟩ x):=by
 refine ⟨h.os,h.tape,h.output,by simp only [Ss];exact h.size,fun k hk hn=>?_⟩
 have a0:k≠b:=fun e=>by
  rcases hs with hs | hs
  ·exact hn (e ▸ hs)
  omega
 rw [← h.block k hk hn];exact Below.heap_setCell _ _ _ _ (by simpa using a0)
theorem Chg.sN {S:Nat→Prop} {w W:World} (h:Chg S w W) (b j:Nat) (x:Value) (hs:w.heap.size≤b:=by omega):Chg S w (W.setCell ⟨b,j,none⟩ x):=h.setNew b j x (Or.inr hs)
end
end Go.Proofs.YtlckklglbodgbaaGreat
