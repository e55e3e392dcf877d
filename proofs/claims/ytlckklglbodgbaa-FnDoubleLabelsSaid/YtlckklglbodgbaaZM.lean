/-
 Parts of the proofs of the laws FnDoubleLabels.
-/
import Derived.Deep.CutBlock
import Derived.Test.YtlckklglbodgbaaKO
import Derived.Test.YtlckklglbodgbaaPY
set_option linter.all false
namespace Go.Proofs.Ytlckklglbodgbaa
open Go.RowKit
def Abv (base:Nat) (v:Value):Prop:=∀ b o n c,v=.slice (some ⟨b,o,none⟩) n c→base≤b
theorem Abv.mono {base base':Nat} {v:Value} (h:Abv base v) (hb:base'≤base):Abv base' v:=fun b o n c e=>Nat.le_trans hb (h b o n c e)
theorem Abv.nil (base:Nat):Abv base (.slice none 0 0):=fun b o n c e=>by simp at e
theorem Abv.own {w:World} {base:Nat} {e:TypeId} {sz n:Nat} {v:Value} {xs:List Value} (h:w.ownsRow base e sz v n xs):Abv base v:=fun b o m c hv=>by
 subst hv;exact (h.lt b rfl).1
structure DrM (w:World) (base:Nat) (vx vy:Value) (m:Mm):Prop where
 x:Reads w 1 vx m.vals.length (ints m.vals)
 xb:Abv base vx
 y:∃ vs:List Value,Reads w 1 vy m.arrs.length vs∧(∀ (k:Nat) (u:Value) (r:List Int),vs[k]? = some u→m.arrs[k]? = some r→Reads w 1 u r.length (ints r))∧∀ u ∈ vs,Abv base u
 yb:Abv base vy
 l0:m.vals.length≤1010
 l1:m.arrs.length≤1010
 l2:∀ r ∈ m.arrs,3≤r.length∧r.length≤4
section
variable {w w':World} {base base':Nat} {vx vy:Value} {m:Mm}
theorem DrM.keep (h:DrM w base vx vy m) {S:Nat→Prop} (hc:Chg S w w') (hs:∀ q,base≤q→¬S q):DrM w' base vx vy m:=by
 obtain ⟨vs,h1,h2,h3⟩:=h.y;have hl:vs.length=m.arrs.length:=by have:=h1.1;omega
 refine ⟨h.x.keep hc (fun b o c _ hv=>hs b (h.xb _ _ _ _ hv)),h.xb,⟨vs,h1.keep hc (fun b o c _ hv=>hs b (h.yb _ _ _ _ hv)),fun k u r hu hr=>(h2 k u r hu hr).keep hc (fun b o c _ hv=>hs b (h3 u (List.mem_of_getElem? hu) _ _ _ _ hv)),h3⟩,h.yb,h.l0,h.l1,h.l2⟩
theorem DrM.below (h:DrM w base vx vy m) (hb:Below w.heap.size w w'):DrM w' base vx vy m:=by
 obtain ⟨vs,h1,h2,h3⟩:=h.y;exact ⟨h.x.below hb,h.xb,⟨vs,h1.below hb,fun k u r hu hr=>(h2 k u r hu hr).below hb,h3⟩,h.yb,h.l0,h.l1,h.l2⟩
theorem DrM.mono (h:DrM w base vx vy m) (hb:base'≤base):DrM w base' vx vy m:=by
 obtain ⟨vs,h1,h2,h3⟩:=h.y;exact ⟨h.x,h.xb.mono hb,⟨vs,h1,h2,fun u hu=>(h3 u hu).mono hb⟩,h.yb.mono hb,h.l0,h.l1,h.l2⟩
theorem DrM.reads (h:DrM w base vx vy m):ReadsM w vx vy m:=by
 obtain ⟨vs,h1,h2,_⟩:=h.y;exact ⟨h.x,⟨vs,h1,h2⟩⟩
theorem DrM.pre (h:DrM w base vx vy m):pre2 m.arrs m.arrs.length≤4*m.arrs.length:=pre2_le m.arrs 4 (fun k r hr=>(h.l2 r (List.mem_of_getElem? hr)).2) _ Lr
theorem DrM.of {us:List Value} (h:OwnM w base vx vy us m) (l0:m.vals.length≤1010) (l1:m.arrs.length≤1010) (l2:∀ r ∈ m.arrs,3≤r.length∧r.length≤4):DrM w base vx vy m:=by
 refine ⟨Ro h.x (by omega),Abv.own h.x,⟨us,Ro h.y.out (by omega),fun k u r hu hr=>Ro (h.y.row k u r hu hr) (by have:=l2 r (List.mem_of_getElem? hr);omega),fun u hu=>?_⟩,Abv.own h.y.out,l0,l1,l2⟩;obtain ⟨k,hk,rfl⟩:=List.getElem_of_mem hu;have a0:k < m.arrs.length:=by rw [← h.y.len];exact hk
 exact Abv.own (h.y.row k _ _ (List.getElem?_eq_getElem hk) (List.getElem?_eq_getElem a0))
theorem DrM.nil (w:World) (base:Nat):DrM w base (.slice none 0 0) (.slice none 0 0) ⟨[],[]⟩:=
 ⟨Ro (World.ownsRow_nil w 0 0 1) (by simp),Abv.nil base,⟨[],Ro (World.ownsRow_nil w 0 0 1) (by simp),fun k u r hu=>by simp at hu,fun u hu=>by cases hu⟩,Abv.nil base,by simp,by simp,fun r hr=>by cases hr⟩
end
theorem reads_take {w:World} {a:Option Addr} {n c:Nat} {xs:List Value} (h:Reads w 1 (.slice a n c) n xs) (k:Nat) (hk:k≤n):Reads w 1 (.slice a k c) k (xs.take k):=by
 obtain ⟨h1,h2,a',d0,b,c0,hv,b0,ha,a0⟩:=h;simp only [Value.slice.injEq] at hv;obtain ⟨rfl,_,rfl⟩:=hv;refine ⟨by rw [List.length_take];omega,by omega,a,c,b,c0,rfl,⟨by omega,b0.2⟩,fun h0=>ha (by omega),fun j hj=>?_⟩;rw [List.length_take] at hj;rw [List.getElem_take];exact a0 j (by omega)
structure OwnI (w:World) (base b n c:Nat):Prop where
 h:∃ xs:List Int,xs.length=n∧w.ownsRow base 3 1 (.slice (some ⟨b,0,none⟩) n c) n (ints xs)
section
variable {w w':World} {base b n c:Nat}
theorem OwnI.keep (h:OwnI w base b n c) {S:Nat→Prop} (hc:Chg S w w') (hs:¬S b):OwnI w' base b n c:=by
 obtain ⟨xs,h1,h2⟩:=h.h;exact ⟨xs,h1,Ow h2 hc (fun q hq=>by have e:b=q:=Si hq;exact e ▸ hs)⟩
theorem OwnI.below (h:OwnI w base b n c) (hb:Below w.heap.size w w'):OwnI w' base b n c:=h.keep (S:=fun _=>False) (Cb hb) id
theorem OwnI.put (h:OwnI w base b n c) (k:Nat) (v:Int):OwnI (w.setCell ⟨b,k,none⟩ (.int .i64 v)) base b n c:=by
 obtain ⟨xs,h1,h2⟩:=h.h;have h3:=(h2.stored k (.int .i64 v)).1;rw [ints_set] at h3;exact ⟨xs.set k v,by rw [List.length_set];exact h1,h3⟩
theorem OwnI.at (h:OwnI w base b n c) (k:Nat) (hk:k < n):(∃ x:Int,w.cell? ⟨b,k,none⟩=some (.int .i64 x))∧w.frozen? ⟨b,k,none⟩=false:=by
 obtain ⟨xs,rfl,h2⟩:=h.h;exact ⟨⟨xs[k],by rw [h2.cellAt k (by omega),ints_at xs k hk]⟩,h2.frozenAt k⟩
theorem OwnI.lt (h:OwnI w base b n c):base≤b∧b < w.heap.size:=by
 obtain ⟨xs,_,h2⟩:=h.h;exact h2.lt b rfl
end
structure OwnY (w:World) (base:Nat) (v:Value) (us:List Value) (n:Nat):Prop where
 h:∃ L:List (List Int),L.length=n∧(∀ r ∈ L,3≤r.length∧r.length≤4)∧Own2I w base v us L
section
variable {w w':World} {base base' n:Nat} {v:Value} {us:List Value}
theorem OwnY.lt (h:OwnY w base v us n):∀ q,OwnB2 v us q→base≤q∧q < w.heap.size:=by
 obtain ⟨L,_,_,h3⟩:=h.h;exact h3.lt
theorem OwnY.keep (h:OwnY w base v us n) {S:Nat→Prop} (hc:Chg S w w') (hs:∀ q,OwnB2 v us q→¬S q):OwnY w' base v us n:=by
 obtain ⟨L,h1,h2,h3⟩:=h.h;exact ⟨L,h1,h2,h3.keep hc hs⟩
theorem OwnY.below (h:OwnY w base v us n) (hb:Below w.heap.size w w'):OwnY w' base v us n:=by
 obtain ⟨L,h1,h2,h3⟩:=h.h;exact ⟨L,h1,h2,h3.below hb⟩
theorem DrM.parts {vx:Value} {xs:List Int} {k:Nat} (hx:w.ownsRow base 3 1 vx k (ints xs)) (hk:xs.length=k) (hY:OwnY w base v us n) (l0:k≤1010) (l1:n≤1010):∃ m:Mm,DrM w base vx v m∧m.vals.length=k∧m.arrs.length=n:=by
 subst hk;obtain ⟨L,rfl,h2,h3⟩:=hY.h;refine ⟨⟨xs,L⟩,⟨Ro hx (by simp only;omega),Abv.own hx,⟨us,Ro h3.out (by simp only;omega),fun k u r hu hr=>Ro (h3.row k u r hu hr) (by have:=h2 r (List.mem_of_getElem? hr);omega),fun u hu=>?_⟩,Abv.own h3.out,l0,l1,h2⟩,rfl,rfl⟩;obtain ⟨k,hk,rfl⟩:=List.getElem_of_mem hu;have a0:k < L.length:=by rw [← h3.len];exact hk
 exact Abv.own (h3.row k _ _ (List.getElem?_eq_getElem hk) (List.getElem?_eq_getElem a0))
theorem DrM.partsI {b k c:Nat} (hx:OwnI w base b k c) (hY:OwnY w base v us n) (l0:k≤1010) (l1:n≤1010):∃ m:Mm,DrM w base (.slice (some ⟨b,0,none⟩) k c) v m∧m.vals.length=k∧m.arrs.length=n:=by
 obtain ⟨xs,h1,h2⟩:=hx.h;exact DrM.parts h2 h1 hY l0 l1
theorem OwnY.first {g c:Nat} (h:OwnY w base (.slice (some ⟨g,0,none⟩) n c) us n) (hn:0 < n):∃ p k t,us[0]? = some (.slice p k t)∧3≤k∧k≤4∧k≤t∧w.cell? ⟨g,0,none⟩=some (.slice p k t)∧w.frozen? ⟨g,0,none⟩=false:=by
 obtain ⟨L,rfl,h2,h3⟩:=h.h;obtain ⟨u,hu,ho⟩:=h3.rowAt 0 hn;have hl:=h2 L[0] (List.getElem_mem hn);obtain ⟨p,t,rfl⟩:=Oh ho;have hr:=Ro ho (by omega);obtain ⟨_,_,a,b0,b,c0,hv,a0,_⟩:=hr;simp only [Value.slice.injEq] at hv;obtain ⟨rfl,_,rfl⟩:=hv;refine ⟨p,_,t,hu,hl.1,hl.2,a0.1,?_,h3.outAt.frozenAt 0⟩;rw [h3.outAt.cellAt 0 (by omega)];exact hu
theorem DrM.cut {vx:Value} {xs:List Int} {k g c:Nat} {p:Option Addr} {e t:Nat} (hx:w.ownsRow base 3 1 vx k (ints xs)) (hk:xs.length=k) (hY:OwnY w base (.slice (some ⟨g,0,none⟩) n c) us n) (hd:∀ q,vx.ownBlock=some q→¬OwnB2 (.slice (some ⟨g,0,none⟩) n c) us q) (h0:us[0]? = some (.slice p e t)) (he:3≤e∧e≤4) (l0:k≤1010) (l1:n≤1010) :
  ∃ m:Mm,DrM (w.setCell ⟨g,0,none⟩ (.slice p 3 t)) base vx (.slice (some ⟨g,0,none⟩) n c) m∧m.vals.length=k∧m.arrs.length=n:=by
 subst hk;obtain ⟨L,rfl,h2,h3⟩:=hY.h;have hC:Chg (fun q=>q=g) w (w.setCell ⟨g,0,none⟩ (.slice p 3 t)):=(Chg.refl _ _).setCell g 0 _ (fun _=>rfl);have g0:0 < us.length:=(List.getElem?_eq_some_iff.1 h0).1;have d0:0 < L.length:=by rw [← h3.len];exact g0
 have j0:=h3.row 0 _ _ h0 (List.getElem?_eq_getElem d0)
 have c0:∀ (k:Nat) (u:Value) (r:List Int),us[k]? = some u→L[k]? = some r→Reads (w.setCell ⟨g,0,none⟩ (.slice p 3 t)) 1 u r.length (ints r):=fun k u r hu hr=>by
  have ho:=Ow (h3.row k u r hu hr) hC (fun q hq e2=>h3.outer (by decide) k u hu q (by subst e2;rfl) hq);exact Ro ho (by have:=h2 r (List.mem_of_getElem? hr);omega)
 have b0:∀ (k:Nat) (u:Value),us[k]? = some u→Abv base u:=fun k u hu=>by
  have i0:k < L.length:=by rw [← h3.len];exact (List.getElem?_eq_some_iff.1 hu).1
  exact Abv.own (h3.row k u _ hu (List.getElem?_eq_getElem i0))
 have f0:=(h3.out.stored 0 (.slice p 3 t)).1;have a0:(L.set 0 ((L[0]).take 3)).length=L.length:=List.length_set;have k0:=h2 L[0] (List.getElem_mem d0)
 have e4:e=(L[0]).length:=by
  obtain ⟨a',c',hs⟩:=Oh j0;simp only [Value.slice.injEq] at hs;exact hs.2.1
 refine ⟨⟨xs,L.set 0 ((L[0]).take 3)⟩,⟨Ro (Ow hx hC (fun q hq e2=>hd q hq (Or.inl (by subst e2;rfl)))) (by simp only;omega),Abv.own hx,⟨us.set 0 (.slice p 3 t),?_,fun k u r hu hr=>?_,fun u hu=>?_⟩,Abv.own h3.out,l0,by simp only [a0];exact l1,fun r hr=>?_⟩,rfl,a0⟩
 ·simp only [a0];exact Ro f0 (by omega)
 ·by_cases e0:k=0
  ·subst e0;rw [List.getElem?_set_self g0] at hu;rw [List.getElem?_set_self d0] at hr;obtain rfl:=Si hu;obtain rfl:=Si hr;have h5:=c0 0 _ _ h0 (List.getElem?_eq_getElem d0);rw [← e4] at h5;have h6:=reads_take h5 3 (by omega);rw [show (ints L[0]).take 3=ints ((L[0]).take 3) from by simp [ints]] at h6;rw [show ((L[0]).take 3).length=3 from by rw [List.length_take];omega];exact h6
  rw [List.getElem?_set_ne (fun h=>e0 h.symm)] at hu hr;exact c0 k u r hu hr
 ·rcases List.mem_or_eq_of_mem_set hu with h1 | rfl
  ·obtain ⟨k,hk,rfl⟩:=List.getElem_of_mem h1;exact b0 k _ (List.getElem?_eq_getElem hk)
  intro b o m c2 hv;have:=b0 0 _ h0
  simp only [Value.slice.injEq] at hv;exact this b o e t (by rw [hv.1])
 rcases List.mem_or_eq_of_mem_set hr with h1 | rfl
 ·exact h2 r h1
 rw [List.length_take];omega
end
end Go.Proofs.Ytlckklglbodgbaa
namespace Go.Proofs.Ytlckklglbodgbaa
open Go.RowKit
structure OwnR (w:World) (base:Nat) (v:Value) (n:Nat):Prop where
 h:∃ xs:List Int,xs.length=n∧w.ownsRow base 3 1 v n (ints xs)
section
variable {w w':World} {base n:Nat} {v:Value}
theorem OwnR.keep (h:OwnR w base v n) {S:Nat→Prop} (hc:Chg S w w') (hs:∀ q,v.ownBlock=some q→¬S q):OwnR w' base v n:=by
 obtain ⟨xs,h1,h2⟩:=h.h;exact ⟨xs,h1,Ow h2 hc hs⟩
theorem OwnR.below (h:OwnR w base v n) (hb:Below w.heap.size w w'):OwnR w' base v n:=h.keep (S:=fun _=>False) (Cb hb) (fun _ _=>id)
theorem OwnR.put {g c:Nat} (h:OwnR w base v n) (hv:v=.slice (some ⟨g,0,none⟩) n c) (k:Nat) (z:Int):OwnR (w.setCell ⟨g,k,none⟩ (.int .i64 z)) base v n:=by
 subst hv;obtain ⟨xs,h1,h2⟩:=h.h;have h3:=(h2.stored k (.int .i64 z)).1;rw [ints_set] at h3;exact ⟨xs.set k z,by rw [List.length_set];exact h1,h3⟩
theorem OwnR.pos (h:OwnR w base v n) (hn:0 < n):∃ g c,v=.slice (some ⟨g,0,none⟩) n c:=by
 obtain ⟨xs,_,h2⟩:=h.h;exact own_pos h2 hn
theorem OwnR.at {g c:Nat} (h:OwnR w base (.slice (some ⟨g,0,none⟩) n c) n) (k:Nat) (hk:k < n):(∃ x:Int,w.cell? ⟨g,k,none⟩=some (.int .i64 x))∧w.frozen? ⟨g,k,none⟩=false:=by
 obtain ⟨xs,rfl,h2⟩:=h.h;exact ⟨⟨xs[k],by rw [h2.cellAt k (by omega),ints_at xs k hk]⟩,h2.frozenAt k⟩
theorem OwnR.lt (h:OwnR w base v n):∀ q,v.ownBlock=some q→base≤q∧q < w.heap.size:=by
 obtain ⟨xs,_,h2⟩:=h.h;exact h2.lt
end
section
variable {w:World} {base n g c:Nat} {v:Value} {us:List Value}
theorem OwnY.pos (h:OwnY w base v us n) (hn:0 < n):∃ g c,v=.slice (some ⟨g,0,none⟩) n c:=by
 obtain ⟨L,rfl,_,h3⟩:=h.h;exact own_pos h3.out hn
theorem OwnY.cellU (h:OwnY w base (.slice (some ⟨g,0,none⟩) n c) us n) {k:Nat} {u:Value} (hu:us[k]? = some u):w.cell? ⟨g,k,none⟩=some u:=by
 obtain ⟨L,rfl,_,h3⟩:=h.h;have hk:k < us.length:=(List.getElem?_eq_some_iff.1 hu).1;have hl:=h3.len;rw [h3.outAt.cellAt k (by omega)];exact hu
theorem OwnY.intAt {k gr l t:Nat} (h:OwnY w base v us n) (hu:us[k]? = some (.slice (some ⟨gr,0,none⟩) l t)) (j:Nat) (hj:j < l):(∃ x:Int,w.cell? ⟨gr,j,none⟩=some (.int .i64 x))∧w.frozen? ⟨gr,j,none⟩=false:=by
 obtain ⟨L,_,_,h3⟩:=h.h;have hk:k < us.length:=(List.getElem?_eq_some_iff.1 hu).1;have a0:k < L.length:=by rw [← h3.len];exact hk
 have ho:=h3.row k _ _ hu (List.getElem?_eq_getElem a0);have e:l=L[k].length:=by obtain ⟨a',c',hs⟩:=Oh ho;simp only [Value.slice.injEq] at hs;exact hs.2.1
 subst e;exact ⟨⟨L[k][j],by rw [ho.cellAt j (by omega),ints_at _ _ hj]⟩,ho.frozenAt j⟩
end
end Go.Proofs.Ytlckklglbodgbaa
