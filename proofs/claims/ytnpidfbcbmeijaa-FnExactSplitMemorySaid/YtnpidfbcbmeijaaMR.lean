/-
 Parts of the proofs of the laws FnExactSplitMemory.
-/
import Derived.Test.YtnpidfbcbmeijaaID
import Derived.Test.YtnpidfbcbmeijaaRI
set_option linter.all false
namespace Go.Proofs.Ytnpidfbcbmeijaa
open Go.RowKit
structure OwnMv (w:World) (base:Nat) (vr vv va:Value) (us:List Value) (rs:List Int) (m:Mm):Prop where
 r:w.ownsRow base 3 1 vr rs.length (ints rs)
 v:w.ownsRow base 3 1 vv m.vals.length (ints m.vals)
 a:Own2I w base va us m.arrs
 rv:∀ q,vr.ownBlock=some q→vv.ownBlock=some q→False
 ra:∀ q,vr.ownBlock=some q→¬OwnB2 va us q
 va:∀ q,vv.ownBlock=some q→¬OwnB2 va us q
def OwnMB (vr vv va:Value) (us:List Value) (q:Nat):Prop:=vr.ownBlock=some q∨vv.ownBlock=some q∨OwnB2 va us q
section
variable {w w':World} {base base':Nat} {vr vv va:Value} {us:List Value} {rs:List Int} {m:Mm}
theorem OwnMv.lt (h:OwnMv w base vr vv va us rs m):∀ q,OwnMB vr vv va us q→base≤q∧q < w.heap.size:=by
 rintro q (hq | hq | hq)
 ·exact h.r.lt q hq
 ·exact h.v.lt q hq
 exact h.a.lt q hq
theorem OwnMv.keep (h:OwnMv w base vr vv va us rs m) {S:Nat→Prop} (hc:Chg S w w') (hs:∀ q,OwnMB vr vv va us q→¬S q):OwnMv w' base vr vv va us rs m:=
 ⟨Ow h.r hc (fun q hq=>hs q (Or.inl hq)),Ow h.v hc (fun q hq=>hs q (Or.inr (Or.inl hq))),h.a.keep hc (fun q hq=>hs q (Or.inr (Or.inr hq))),h.rv,h.ra,h.va⟩
theorem OwnMv.below (h:OwnMv w base vr vv va us rs m) (hb:Below w.heap.size w w'):OwnMv w' base vr vv va us rs m:=h.keep (S:=fun _=>False) (Cb hb) (fun _ _=>id)
theorem OwnMv.mono (h:OwnMv w base vr vv va us rs m) (hb:base'≤base):OwnMv w base' vr vv va us rs m:=⟨Om h.r hb,Om h.v hb,h.a.mono hb,h.rv,h.ra,h.va⟩
theorem OwnMv.far (h:OwnMv w base vr vv va us rs m) (b j:Nat) (x:Value) (hb:¬OwnMB vr vv va us b):OwnMv (w.setCell ⟨b,j,none⟩ x) base vr vv va us rs m:=
 h.keep ((Chg.refl (fun q=>q=b) w).setCell b j x (fun _=>rfl)) (fun _ hq e=>hb (e ▸ hq))
theorem OwnMv.setReg {g n c:Nat} (h:OwnMv w base (.slice (some ⟨g,0,none⟩) n c) vv va us rs m) (k:Nat) (x:Int):OwnMv (w.setCell ⟨g,k,none⟩ (.int .i64 x)) base (.slice (some ⟨g,0,none⟩) n c) vv va us (rs.set k x) m:=by
 have hC:Chg (fun q=>q=g) w (w.setCell ⟨g,k,none⟩ (.int .i64 x)):=(Chg.refl _ _).setCell g k _ (fun _=>rfl)
 have hn:n=rs.length:=by
  obtain ⟨a,c',hs⟩:=Oh h.r;simp at hs;omega
 subst hn;refine ⟨?_,Ow h.v hC (fun q hq e=>h.rv q (by subst e;rfl) hq),h.a.keep hC (fun q hq e=>h.ra q (by subst e;rfl) hq),h.rv,h.ra,h.va⟩;have h1:=(h.r.stored k (.int .i64 x)).1;rw [ints_set] at h1;rw [List.length_set];exact h1
theorem OwnMv.setVal {g n c:Nat} (h:OwnMv w base vr (.slice (some ⟨g,0,none⟩) n c) va us rs m) (k:Nat) (x:Int):OwnMv (w.setCell ⟨g,k,none⟩ (.int .i64 x)) base vr (.slice (some ⟨g,0,none⟩) n c) va us rs ⟨m.vals.set k x,m.arrs⟩:=by
 have hC:Chg (fun q=>q=g) w (w.setCell ⟨g,k,none⟩ (.int .i64 x)):=(Chg.refl _ _).setCell g k _ (fun _=>rfl)
 have hn:n=m.vals.length:=by
  obtain ⟨a,c',hs⟩:=Oh h.v;simp at hs;omega
 subst hn;refine ⟨Ow h.r hC (fun q hq e=>h.rv q hq (by subst e;rfl)),?_,h.a.keep hC (fun q hq e=>h.va q (by subst e;rfl) hq),h.rv,h.ra,h.va⟩;have h1:=(h.v.stored k (.int .i64 x)).1;rw [ints_set] at h1;simp only [List.length_set];exact h1
theorem OwnMv.setArr {i g n c:Nat} (h:OwnMv w base vr vv va us rs m) (hu:us[i]? = some (.slice (some ⟨g,0,none⟩) n c)) (k:Nat) (x:Int):OwnMv (w.setCell ⟨g,k,none⟩ (.int .i64 x)) base vr vv va us rs ⟨m.vals,m.arrs.set i ((gr m.arrs i).set k x)⟩:=by
 have hC:Chg (fun q=>q=g) w (w.setCell ⟨g,k,none⟩ (.int .i64 x)):=(Chg.refl _ _).setCell g k _ (fun _=>rfl);have hi:i < m.arrs.length:=by rw [← h.a.len];exact (List.getElem?_eq_some_iff.1 hu).1
 have b0:gr m.arrs i=m.arrs[i]:=by unfold gr;rw [Int.toNat_natCast,List.getElem?_eq_getElem hi];rfl
 have a0:=h.a.row i _ _ hu (List.getElem?_eq_getElem hi)
 have hn:n=m.arrs[i].length:=by
  obtain ⟨a,c',hs⟩:=Oh a0;simp at hs;omega
 subst hn;have hg:OwnB2 va us g:=Or.inr ⟨i,_,hu,rfl⟩;have h1:=(a0.stored k (.int .i64 x)).1;rw [ints_set] at h1;refine ⟨Ow h.r hC (fun q hq e=>h.ra q hq (e ▸ hg)),Ow h.v hC (fun q hq e=>h.va q hq (e ▸ hg)),?_,h.rv,h.ra,h.va⟩;rw [b0];refine h.a.turn hu (r:=m.arrs[i].set k x) (by rw [List.length_set];exact h1) ?_ (by decide);exact (Chg.refl _ _).setCell g k _ (fun _=>rfl)
theorem OwnMv.regAt {g n c:Nat} (h:OwnMv w base (.slice (some ⟨g,0,none⟩) n c) vv va us rs m) (k:Nat) (hk:k < rs.length):w.cell? ⟨g,k,none⟩=some (.int .i64 (gi rs k)):=by
 have hn:n=rs.length:=by
  obtain ⟨a,c',hs⟩:=Oh h.r;simp at hs;omega
 subst hn;rw [h.r.cellAt k (by omega),ints_at _ _ hk];unfold gi;rw [Int.toNat_natCast,List.getElem?_eq_getElem hk];rfl
theorem OwnMv.valAt {g n c:Nat} (h:OwnMv w base vr (.slice (some ⟨g,0,none⟩) n c) va us rs m) (k:Nat) (hk:k < m.vals.length):w.cell? ⟨g,k,none⟩=some (.int .i64 (gi m.vals k)):=by
 have hn:n=m.vals.length:=by
  obtain ⟨a,c',hs⟩:=Oh h.v;simp at hs;omega
 subst hn;rw [h.v.cellAt k (by omega),ints_at _ _ hk];unfold gi;rw [Int.toNat_natCast,List.getElem?_eq_getElem hk];rfl
theorem OwnMv.arrAt {g n c:Nat} (h:OwnMv w base vr vv (.slice (some ⟨g,0,none⟩) n c) us rs m) (i:Nat) (hi:i < m.arrs.length) (hl:(gr m.arrs i).length=4) :
  ∃ ga ca,w.cell? ⟨g,i,none⟩=some (.slice (some ⟨ga,0,none⟩) 4 ca)∧us[i]? = some (.slice (some ⟨ga,0,none⟩) 4 ca)∧∀ k,k < 4→w.cell? ⟨ga,k,none⟩=some (.int .i64 (gi (gr m.arrs i) k))∧w.frozen? ⟨ga,k,none⟩=false:=by
 obtain ⟨u,hu,a0⟩:=h.a.rowAt i hi;have b0:gr m.arrs i=m.arrs[i]:=by unfold gr;rw [Int.toNat_natCast,List.getElem?_eq_getElem hi];rfl
 rw [b0] at hl ⊢;rw [hl] at a0;obtain ⟨ga,ca,rfl⟩:=own_pos a0 (by omega)
 have hn:n=m.arrs.length:=by
  obtain ⟨a,c',hs⟩:=Oh h.a.out;simp at hs;omega
 subst hn;refine ⟨ga,ca,?_,hu,fun k hk=>⟨?_,a0.frozenAt k⟩⟩
 ·rw [h.a.outAt.cellAt i (by omega)];exact hu
 rw [a0.cellAt k (by omega),ints_at _ _ (by omega)];unfold gi;rw [Int.toNat_natCast,List.getElem?_eq_getElem (by omega)];rfl
end
end Go.Proofs.Ytnpidfbcbmeijaa
