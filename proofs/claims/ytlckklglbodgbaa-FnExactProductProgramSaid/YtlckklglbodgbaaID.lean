/-
 Parts of the proofs of the laws FnExactProductProgram.
-/
import Derived.Deep.Slices
import Derived.Lib.SmallJoins
import Derived.Test.YtlckklglbodgbaaPU
set_option linter.all false
namespace Go.Proofs.Ytlckklglbodgbaa
open Go.RowKit
theorem ints_set (l:List Int) (k:Nat) (b:Int):(ints l).set k (.int .i64 b)=ints (l.set k b):=by simp [ints,List.map_set]
theorem ints_at (l:List Int) (k:Nat) (h:k < l.length):(ints l)[k]? = some (.int .i64 l[k]):=by simp [ints,h]
structure Mm where
 vals:List Int
 arrs:List (List Int)
deriving DecidableEq
structure Ms where
 pc:Int
 regs:List Int
 mem:Mm
deriving DecidableEq
def gi (xs:List Int) (i:Int):Int:=(xs[i.toNat]?).getD 0
def gr (rs:List (List Int)) (i:Int):List Int:=(rs[i.toNat]?).getD []
end Go.Proofs.Ytlckklglbodgbaa
namespace Go.Proofs.Ytlckklglbodgbaa
open Go.RowKit Go.ChangeShapes Go.WideShapes Go.Deep Go.Joins
def Reads2 {α:Type} (f:List α→List Value) (w:World) (v:Value) (rs:List (List α)):Prop:=
 ∃ vs:List Value,Reads w 1 v rs.length vs∧∀ (k:Nat) (u:Value) (r:List α),vs[k]? = some u→rs[k]? = some r→Reads w 1 u r.length (f r)
theorem Reads2.below {α:Type} {f:List α→List Value} {w w':World} {v:Value} {rs:List (List α)} (h:Reads2 f w v rs) (hb:Below w.heap.size w w'):Reads2 f w' v rs:=by
 obtain ⟨vs,h1,h2⟩:=h;exact ⟨vs,h1.below hb,fun k u r hu hr=>(h2 k u r hu hr).below hb⟩
theorem Reads2.shape {α:Type} {f:List α→List Value} {w:World} {v:Value} {rs:List (List α)} (h:Reads2 f w v rs):∃ a c,v=.slice a rs.length c:=by
 obtain ⟨vs,h1,h2⟩:=h;exact reads_shape h1
theorem Reads2.at {α:Type} {f:List α→List Value} {w:World} {a:Option Addr} {n c:Nat} {rs:List (List α)} (h:Reads2 f w (.slice a n c) rs) (k:Nat) (hk:k < rs.length) :
  ∃ b off u,a=some ⟨b,off,none⟩∧b < w.heap.size∧w.cell? ⟨b,off+k,none⟩=some u∧Reads w 1 u rs[k].length (f rs[k]):=by
 obtain ⟨vs,⟨h0,hn,a',c',b,off,hv,hc,ha,a0⟩,h2⟩:=h;simp only [Value.slice.injEq] at hv;obtain ⟨rfl,rfl,rfl⟩:=hv;obtain ⟨rfl,hb⟩:=ha (by omega);have b0:k < vs.length:=by omega
 exact ⟨b,off,vs[k],rfl,hb,a0 k b0,h2 k _ _ (List.getElem?_eq_getElem b0) (List.getElem?_eq_getElem hk)⟩
structure Own2 {α:Type} (f:List α→List Value) (tr tq:TypeId) (w:World) (base:Nat) (v:Value) (vs:List Value) (rs:List (List α)):Prop where
 len:vs.length=rs.length
 out:w.ownsRow base tq 1 v rs.length vs
 row:∀ (k:Nat) (u:Value) (r:List α),vs[k]? = some u→rs[k]? = some r→w.ownsRow base tr 1 u r.length (f r)
 apart:∀ (j k:Nat) (u u':Value),vs[j]? = some u→vs[k]? = some u'→j≠k→∀ q,u.ownBlock=some q→u'.ownBlock=some q→False
def OwnB2 (v:Value) (vs:List Value) (q:Nat):Prop:=v.ownBlock=some q∨∃ (k:Nat) (u:Value),vs[k]? = some u∧u.ownBlock=some q
section
variable {α:Type} {f:List α→List Value} {tr tq:TypeId} {w w':World} {base base':Nat} {v:Value} {vs:List Value} {rs:List (List α)}
theorem Own2.rowAt (h:Own2 f tr tq w base v vs rs) (k:Nat) (hk:k < rs.length):∃ u,vs[k]? = some u∧w.ownsRow base tr 1 u rs[k].length (f rs[k]):=by
 have a0:k < vs.length:=by rw [h.len];exact hk
 exact ⟨vs[k],List.getElem?_eq_getElem a0,h.row k _ _ (List.getElem?_eq_getElem a0) (List.getElem?_eq_getElem hk)⟩
theorem Own2.outAt {a:Option Addr} {n c:Nat} (h:Own2 f tr tq w base (.slice a n c) vs rs):w.ownsRow base tq 1 (.slice a n c) n vs:=by
 have ho:=h.out;obtain ⟨a',c',hs⟩:=Oh ho;simp only [Value.slice.injEq] at hs;rw [← hs.2.1] at ho;exact ho
theorem Own2.lt (h:Own2 f tr tq w base v vs rs):∀ q,OwnB2 v vs q→base≤q∧q < w.heap.size:=by
 rintro q (hq | ⟨k,u,hu,hq⟩)
 ·exact h.out.lt q hq
 have hk:k < rs.length:=by rw [← h.len];exact (List.getElem?_eq_some_iff.1 hu).1
 exact (h.row k u _ hu (List.getElem?_eq_getElem hk)).lt q hq
theorem Own2.keep (h:Own2 f tr tq w base v vs rs) {S:Nat→Prop} (hc:Chg S w w') (hs:∀ q,OwnB2 v vs q→¬S q):Own2 f tr tq w' base v vs rs:=
 ⟨h.len,Ow h.out hc (fun q hq=>hs q (Or.inl hq)),fun k u r hu hr=>Ow (h.row k u r hu hr) hc (fun q hq=>hs q (Or.inr ⟨k,u,hu,hq⟩)),h.apart⟩
theorem Own2.below (h:Own2 f tr tq w base v vs rs) (hb:Below w.heap.size w w'):Own2 f tr tq w' base v vs rs:=h.keep (S:=fun _=>False) (Cb hb) (fun _ _=>id)
theorem Own2.mono (h:Own2 f tr tq w base v vs rs) (hb:base'≤base):Own2 f tr tq w base' v vs rs:=⟨h.len,Om h.out hb,fun k u r hu hr=>Om (h.row k u r hu hr) hb,h.apart⟩
theorem Own2.reads (h:Own2 f tr tq w base v vs rs) (h0:rs.length≤9223372036854775807) (h1:∀ (k:Nat) (r:List α),rs[k]? = some r→r.length≤9223372036854775807):Reads2 f w v rs:=
 ⟨vs,Ro h.out h0,fun k u r hu hr=>Ro (h.row k u r hu hr) (h1 k r hr)⟩
theorem Own2.shape (h:Own2 f tr tq w base v vs rs):∃ a c,v=.slice a rs.length c:=Oh h.out
theorem Own2.outer (h:Own2 f tr tq w base v vs rs) (he:tq≠tr):∀ (k:Nat) (u:Value),vs[k]? = some u→∀ q,v.ownBlock=some q→u.ownBlock=some q→False:=by
 intro k u hu q h1 h2;have hk:k < rs.length:=by rw [← h.len];exact (List.getElem?_eq_some_iff.1 hu).1
 exact own_diff h.out (h.row k u _ hu (List.getElem?_eq_getElem hk)) he q h1 h2
theorem Own2.put (h:Own2 f tr tq w base v vs rs) {g n c k:Nat} (hv:v=.slice (some ⟨g,0,none⟩) n c) (hk:k < rs.length) {u:Value} {r:List α} (hu:w.ownsRow base tr 1 u r.length (f r))
  (hg:∀ q,u.ownBlock=some q→¬OwnB2 v vs q) (he:tq≠tr):Own2 f tr tq (w.setCell ⟨g,k,none⟩ u) base v (vs.set k u) (rs.set k r):=by
 have hn:n=rs.length:=by
  obtain ⟨a,c',hs⟩:=Oh h.out;rw [hv] at hs;simp at hs;omega
 subst hn;have ho:=h.out;have a0:k < vs.length:=by rw [h.len];exact hk
 subst hv;have hC:Chg (fun q=>q=g) w (w.setCell ⟨g,k,none⟩ u):=(Chg.refl _ _).setCell g k u (fun _=>rfl);refine ⟨by simp [h.len],?_,?_,?_⟩
 ·rw [List.length_set];exact (ho.stored k u).1
 ·intro j u' r' hu' hr';by_cases e:k=j
  ·subst e;rw [List.getElem?_set_self a0] at hu';rw [List.getElem?_set_self hk] at hr';obtain rfl:=Si hu';obtain rfl:=Si hr';exact Ow hu hC (fun q hq e=>hg q hq (Or.inl (by subst e;rfl)))
  rw [List.getElem?_set_ne e] at hu' hr';exact Ow (h.row j u' r' hu' hr') hC (fun q hq e=>by subst e;exact h.outer he j u' hu' q rfl hq)
 intro i j u1 u2 h1 h2 d0 q b0 c0;by_cases e1:k=i
 ·subst e1;rw [List.getElem?_set_self a0] at h1;obtain rfl:=Si h1;rw [List.getElem?_set_ne d0] at h2;exact hg q b0 (Or.inr ⟨j,u2,h2,c0⟩)
 rw [List.getElem?_set_ne e1] at h1;by_cases e2:k=j
 ·subst e2;rw [List.getElem?_set_self a0] at h2;obtain rfl:=Si h2;exact hg q c0 (Or.inr ⟨i,u1,h1,b0⟩)
 rw [List.getElem?_set_ne e2] at h2;exact h.apart i j u1 u2 h1 h2 d0 q b0 c0
theorem Own2.turn (h:Own2 f tr tq w base v vs rs) {k:Nat} {u:Value} (hu:vs[k]? = some u) {r:List α} (hr:w'.ownsRow base tr 1 u r.length (f r)) (hC:Chg (fun q=>u.ownBlock=some q) w w') (he:tq≠tr) :
  Own2 f tr tq w' base v vs (rs.set k r):=by
 refine ⟨by simp [h.len],?_,?_,h.apart⟩
 ·rw [List.length_set];exact Ow h.out hC (fun q hq e=>h.outer he k u hu q hq e)
 intro j u' r' hu' hr';by_cases e:k=j
 ·subst e;have hk:k < rs.length:=by rw [← h.len];exact (List.getElem?_eq_some_iff.1 hu).1
  rw [List.getElem?_set_self hk] at hr';rw [hu] at hu';obtain rfl:=Si hu';obtain rfl:=Si hr';exact hr
 rw [List.getElem?_set_ne e] at hr';exact Ow (h.row j u' r' hu' hr') hC (fun q hq e2=>h.apart j k u' u hu' hu (fun x=>e x.symm) q hq e2)
theorem Own2.push (h:Own2 f tr tq w base v vs rs) {v' u:Value} {r:List α} (ho:w'.ownsRow base tq 1 v' (rs.length+1) (vs++[u])) (hC:Chg (fun q=>v.ownBlock=some q) w w') (hu:w.ownsRow base tr 1 u r.length (f r))
  (hg:∀ q,u.ownBlock=some q→¬OwnB2 v vs q) (he:tq≠tr):Own2 f tr tq w' base v' (vs++[u]) (rs++[r]):=by
 have hl:=h.len
 have a0:∀ (k:Nat) (x:Value),(vs++[u])[k]? = some x→(k < rs.length∧vs[k]? = some x)∨(k=rs.length∧x=u):=by
  intro k x hx;by_cases hk:k < vs.length
  ·rw [List.getElem?_append_left hk] at hx;exact Or.inl ⟨by omega,hx⟩
  rw [List.getElem?_append_right (by omega)] at hx;by_cases e:k=vs.length
  ·subst e;simp at hx;exact Or.inr ⟨hl,hx.symm⟩
  rw [List.getElem?_eq_none (by simp;omega)] at hx;cases hx
 refine ⟨by simp [hl],by rw [List.length_append];exact ho,?_,?_⟩
 ·intro k x r' hx hr';rcases a0 k x hx with ⟨hk,hx⟩ | ⟨rfl,rfl⟩
  ·rw [List.getElem?_append_left hk] at hr';exact Ow (h.row k x r' hx hr') hC (fun q hq e=>h.outer he k x hx q e hq)
  rw [List.getElem?_append_right Lr,Nat.sub_self] at hr';obtain rfl:=Si hr';exact Ow hu hC (fun q hq e=>hg q hq (Or.inl e))
 intro i j u1 u2 h1 h2 d0 q b0 c0;rcases a0 i u1 h1 with ⟨_,k1⟩ | ⟨rfl,rfl⟩
 ·rcases a0 j u2 h2 with ⟨_,k2⟩ | ⟨rfl,rfl⟩
  ·exact h.apart i j u1 u2 k1 k2 d0 q b0 c0
  exact hg q c0 (Or.inr ⟨i,u1,k1,b0⟩)
 rcases a0 j u2 h2 with ⟨_,k2⟩ | ⟨rfl,rfl⟩
 ·exact hg q b0 (Or.inr ⟨j,u2,k2,c0⟩)
 exact d0 rfl
theorem own2_nils (hf:f []=[]) (ho:w.ownsRow base tq 1 v rs.length (List.replicate rs.length (.slice none 0 0))) (hr:∀ (k:Nat) (r:List α),rs[k]? = some r→r=[]):Own2 f tr tq w base v (List.replicate rs.length (.slice none 0 0)) rs:=by
 refine ⟨by simp,ho,fun k u r hu hr'=>?_,fun j k u u' hu _ _ q hq _=>?_⟩
 ·obtain ⟨_,hu⟩:=List.getElem?_eq_some_iff.1 hu;rw [List.getElem_replicate] at hu;subst hu;obtain rfl:=hr k r hr';rw [hf];exact World.ownsRow_nil _ _ _ _
 obtain ⟨_,hu⟩:=List.getElem?_eq_some_iff.1 hu;rw [List.getElem_replicate] at hu;subst hu;simp [Value.ownBlock] at hq
end
def pre2 {α:Type} (rs:List (List α)) (k:Nat):Nat:=((rs.take k).map List.length).sum
theorem pre2_succ {α:Type} (rs:List (List α)) (k:Nat) (h:k < rs.length):pre2 rs (k+1)=pre2 rs k+rs[k].length:=by
 unfold pre2;rw [List.take_succ_eq_append_getElem h,List.map_append,List.sum_append];simp only [List.map_cons,List.map_nil,List.sum_cons,List.sum_nil,Nat.add_zero]
theorem pre2_all {α:Type} (rs:List (List α)) (k:Nat) (h:k < rs.length) (m:Nat) (hm:k < m):rs[k].length≤pre2 rs m:=by
 induction m with
 | zero=>omega
 | succ m ih =>
  by_cases hml:m < rs.length
  ·rw [pre2_succ rs m hml];by_cases e:k=m
   ·subst e;omega
   have:=ih (by omega);omega
  have h1:pre2 rs (m+1)=pre2 rs m:=by unfold pre2;rw [List.take_of_length_le (by omega),List.take_of_length_le (by omega)]
  rw [h1];exact ih (by omega)
end Go.Proofs.Ytlckklglbodgbaa
