/-
 Parts of the proofs of the laws FnPairMemory,FnSplitMemory.
-/
import Derived.Deep.CutBlock
import Derived.Test.YtlckklglbodgbaaGreatML
import Derived.Test.YtlckklglbodgbaaGreatLC5
set_option linter.all false
namespace Go.Proofs.YtlckklglbodgbaaGreat
open Go.RowKit
def Abv (base:Nat) (v:Value):Prop:=∀ b o n c,v=.slice (some ⟨b,o,none⟩) n c→base≤b
theorem Abv.mono {base base':Nat} {v:Value} (h:Abv base v) (hb:base'≤base):Abv base' v:=fun b o n c e=>Nat.le_trans hb (h b o n c e)
theorem Abv.nil (base:Nat):Abv base (.slice none 0 0):=fun b o n c e=>by simp at e
theorem Abv.own {w:World} {base:Nat} {e:TypeId} {sz n:Nat} {v:Value} {xs:List Value} (h:w.ownsRow base e sz v n xs):Abv base v:=fun b o m c hv=>by
 subst hv;exact (h.lt b rfl).1
structure DrM (w:World) (base:Nat) (vx vy:Value) (m:Mm):Prop where
 x:Reads w 1 vx m.vals.length (ints m.vals)
 xb:Abv base vx
 y:∃ vs:List Value,Reads w 1 vy m.arrs.length vs∧(∀ (k:Nat) (u:Value) (r:List Int),vs[k]? = some u→m.arrs[k]? = some r→Reads w 1 u r.length (ints r))∧∀ u ∈ vs,Abv base u
 yb:Abv base vy
 l0:m.vals.length≤1010
 l1:m.arrs.length≤1010
 l2:∀ r ∈ m.arrs,3≤r.length∧r.length≤4
section
variable {w w':World} {base base':Nat} {vx vy:Value} {m:Mm}
theorem DrM.keep (h:DrM w base vx vy m) {S:Nat→Prop} (hc:Chg S w w') (hs:∀ q,base≤q→¬S q):DrM w' base vx vy m:=by
 obtain ⟨vs,h1,h2,h3⟩:=h.y;have hl:vs.length=m.arrs.length:=by have:=h1.1;omega
 refine ⟨h.x.keep hc (fun b o c _ hv=>hs b (h.xb _ _ _ _ hv)),h.xb,⟨vs,h1.keep hc (fun b o c _ hv=>hs b (h.yb _ _ _ _ hv)),fun k u r hu hr=>(h2 k u r hu hr).keep hc (fun b o c _ hv=>hs b (h3 u (List.mem_of_getElem? hu) _ _ _ _ hv)),h3⟩,h.yb,h.l0,h.l1,h.l2⟩
theorem DrM.below (h:DrM w base vx vy m) (hb:Below w.heap.size w w'):DrM w' base vx vy m:=by
 obtain ⟨vs,h1,h2,h3⟩:=h.y;exact ⟨h.x.below hb,h.xb,⟨vs,h1.below hb,fun k u r hu hr=>(h2 k u r hu hr).below hb,h3⟩,h.yb,h.l0,h.l1,h.l2⟩
theorem DrM.mono (h:DrM w base vx vy m) (hb:base'≤base):DrM w base' vx vy m:=by
 obtain ⟨vs,h1,h2,h3⟩:=h.y;exact ⟨h.x,h.xb.mono hb,⟨vs,h1,h2,fun u hu=>(h3 u hu).mono hb⟩,h.yb.mono hb,h.l0,h.l1,h.l2⟩
theorem DrM.reads (h:DrM w base vx vy m):ReadsM w vx vy m:=by
 obtain ⟨vs,h1,h2,_⟩:=h.y;exact ⟨h.x,⟨vs,h1,h2⟩⟩
theorem DrM.pre (h:DrM w base vx vy m):pre2 m.arrs m.arrs.length≤4*m.arrs.length:=pre2_le m.arrs 4 (fun k r hr=>(h.l2 r (List.mem_of_getElem? hr)).2) _ Lr
theorem DrM.of {us:List Value} (h:OwnM w base vx vy us m) (l0:m.vals.length≤1010) (l1:m.arrs.length≤1010) (l2:∀ r ∈ m.arrs,3≤r.length∧r.length≤4):DrM w base vx vy m:=by
 refine ⟨Ro h.x (by omega),Abv.own h.x,⟨us,Ro h.y.out (by omega),fun k u r hu hr=>Ro (h.y.row k u r hu hr) (by have:=l2 r (List.mem_of_getElem? hr);omega),fun u hu=>?_⟩,Abv.own h.y.out,l0,l1,l2⟩;obtain ⟨k,hk,rfl⟩:=List.getElem_of_mem hu;have a0:k < m.arrs.length:=by rw [← h.y.len];exact hk
 exact Abv.own (h.y.row k _ _ (List.getElem?_eq_getElem hk) (List.getElem?_eq_getElem a0))
theorem DrM.nil (w:World) (base:Nat):DrM w base (.slice none 0 0) (.slice none 0 0) ⟨[],[]⟩:=
 ⟨Ro (World.ownsRow_nil w 0 0 1) (by simp),Abv.nil base,⟨[],Ro (World.ownsRow_nil w 0 0 1) (by simp),fun k u r hu=>by simp at hu,fun u hu=>by cases hu⟩,Abv.nil base,by simp,by simp,fun r hr=>by cases hr⟩
end
theorem reads_take {w:World} {a:Option Addr} {n c:Nat} {xs:List Value} (h:Reads w 1 (.slice a n c) n xs) (k:Nat) (hk:k≤n):Reads w 1 (.slice a k c) k (xs.take k):=by
 obtain ⟨h1,h2,a',d0,b,c0,hv,b0,ha,a0⟩:=h;simp only [Value.slice.injEq] at hv;obtain ⟨rfl,_,rfl⟩:=hv;refine ⟨by rw [List.length_take];omega,by omega,a,c,b,c0,rfl,⟨by omega,b0.2⟩,fun h0=>ha (by omega),fun j hj=>?_⟩;rw [List.length_take] at hj;rw [List.getElem_take];exact a0 j (by omega)
theorem own_cast {w:World} {base:Nat} {e:TypeId} {sz n m:Nat} {v:Value} {xs:List Value} (h:w.ownsRow base e sz v n xs) (e1:n=m):w.ownsRow base e sz v m xs:=e1 ▸ h
structure OwnI (w:World) (base b n c:Nat):Prop where
 h:∃ xs:List Int,xs.length=n∧w.ownsRow base 3 1 (.slice (some ⟨b,0,none⟩) n c) n (ints xs)
section
variable {w w':World} {base b n c:Nat}
theorem OwnI.keep (h:OwnI w base b n c) {S:Nat→Prop} (hc:Chg S w w') (hs:¬S b):OwnI w' base b n c:=by
 obtain ⟨xs,h1,h2⟩:=h.h;exact ⟨xs,h1,Ow h2 hc (fun q hq=>by have e:b=q:=Si hq;exact e ▸ hs)⟩
theorem OwnI.below (h:OwnI w base b n c) (hb:Below w.heap.size w w'):OwnI w' base b n c:=h.keep (S:=fun _=>False) (Cb hb) id
theorem OwnI.put (h:OwnI w base b n c) (k:Nat) (v:Int):OwnI (w.setCell ⟨b,k,none⟩ (.int .i64 v)) base b n c:=by
 obtain ⟨xs,h1,h2⟩:=h.h;have h3:=(h2.stored k (.int .i64 v)).1;rw [ints_set] at h3;exact ⟨xs.set k v,by rw [List.length_set];exact h1,h3⟩
theorem OwnI.at (h:OwnI w base b n c) (k:Nat) (hk:k < n):(∃ x:Int,w.cell? ⟨b,k,none⟩=some (.int .i64 x))∧w.frozen? ⟨b,k,none⟩=false:=by
 obtain ⟨xs,rfl,h2⟩:=h.h;exact ⟨⟨xs[k],by rw [h2.cellAt k (by omega),ints_at xs k hk]⟩,h2.frozenAt k⟩
theorem OwnI.lt (h:OwnI w base b n c):base≤b∧b < w.heap.size:=by
 obtain ⟨xs,_,h2⟩:=h.h;exact h2.lt b rfl
end
structure OwnY (w:World) (base:Nat) (v:Value) (us:List Value) (n:Nat):Prop where
 h:∃ L:List (List Int),L.length=n∧(∀ r ∈ L,3≤r.length∧r.length≤4)∧Own2I w base v us L
section
variable {w w':World} {base base' n:Nat} {v:Value} {us:List Value}
theorem OwnY.lt (h:OwnY w base v us n):∀ q,OwnB2 v us q→base≤q∧q < w.heap.size:=by
 obtain ⟨L,_,_,h3⟩:=h.h;exact h3.lt
theorem OwnY.keep (h:OwnY w base v us n) {S:Nat→Prop} (hc:Chg S w w') (hs:∀ q,OwnB2 v us q→¬S q):OwnY w' base v us n:=by
 obtain ⟨L,h1,h2,h3⟩:=h.h;exact ⟨L,h1,h2,h3.keep hc hs⟩
theorem OwnY.below (h:OwnY w base v us n) (hb:Below w.heap.size w w'):OwnY w' base v us n:=by
 obtain ⟨L,h1,h2,h3⟩:=h.h;exact ⟨L,h1,h2,h3.below hb⟩
theorem DrM.parts {vx:Value} {xs:List Int} {k:Nat} (hx:w.ownsRow base 3 1 vx k (ints xs)) (hk:xs.length=k) (hY:OwnY w base v us n) (l0:k≤1010) (l1:n≤1010):∃ m:Mm,DrM w base vx v m∧m.vals.length=k∧m.arrs.length=n:=by
 subst hk;obtain ⟨L,rfl,h2,h3⟩:=hY.h;refine ⟨⟨xs,L⟩,⟨Ro hx (by simp only;omega),Abv.own hx,⟨us,Ro h3.out (by simp only;omega),fun k u r hu hr=>Ro (h3.row k u r hu hr) (by have:=h2 r (List.mem_of_getElem? hr);omega),fun u hu=>?_⟩,Abv.own h3.out,l0,l1,h2⟩,rfl,rfl⟩;obtain ⟨k,hk,rfl⟩:=List.getElem_of_mem hu;have a0:k < L.length:=by rw [← h3.len];exact hk
 exact Abv.own (h3.row k _ _ (List.getElem?_eq_getElem hk) (List.getElem?_eq_getElem a0))
theorem DrM.partsI {b k c:Nat} (hx:OwnI w base b k c) (hY:OwnY w base v us n) (l0:k≤1010) (l1:n≤1010):∃ m:Mm,DrM w base (.slice (some ⟨b,0,none⟩) k c) v m∧m.vals.length=k∧m.arrs.length=n:=by
 obtain ⟨xs,h1,h2⟩:=hx.h;exact DrM.parts h2 h1 hY l0 l1
theorem OwnY.first {g c:Nat} (h:OwnY w base (.slice (some ⟨g,0,none⟩) n c) us n) (hn:0 < n):∃ p k t,us[0]? = some (.slice p k t)∧3≤k∧k≤4∧k≤t∧w.cell? ⟨g,0,none⟩=some (.slice p k t)∧w.frozen? ⟨g,0,none⟩=false:=by
 obtain ⟨L,rfl,h2,h3⟩:=h.h;obtain ⟨u,hu,ho⟩:=h3.rowAt 0 hn;have hl:=h2 L[0] (List.getElem_mem hn);obtain ⟨p,t,rfl⟩:=Oh ho;have hr:=Ro ho (by omega);obtain ⟨_,_,a,b0,b,c0,hv,a0,_⟩:=hr;simp only [Value.slice.injEq] at hv;obtain ⟨rfl,_,rfl⟩:=hv;refine ⟨p,_,t,hu,hl.1,hl.2,a0.1,?_,h3.outAt.frozenAt 0⟩;rw [h3.outAt.cellAt 0 (by omega)];exact hu
theorem DrM.cut {vx:Value} {xs:List Int} {k g c:Nat} {p:Option Addr} {e t:Nat} (hx:w.ownsRow base 3 1 vx k (ints xs)) (hk:xs.length=k) (hY:OwnY w base (.slice (some ⟨g,0,none⟩) n c) us n) (hd:∀ q,vx.ownBlock=some q→¬OwnB2 (.slice (some ⟨g,0,none⟩) n c) us q) (h0:us[0]? = some (.slice p e t)) (he:3≤e∧e≤4) (l0:k≤1010) (l1:n≤1010) :
  ∃ m:Mm,DrM (w.setCell ⟨g,0,none⟩ (.slice p 3 t)) base vx (.slice (some ⟨g,0,none⟩) n c) m∧m.vals.length=k∧m.arrs.length=n:=by
 subst hk;obtain ⟨L,rfl,h2,h3⟩:=hY.h;have hC:Chg (fun q=>q=g) w (w.setCell ⟨g,0,none⟩ (.slice p 3 t)):=(Chg.refl _ _).setCell g 0 _ (fun _=>rfl);have g0:0 < us.length:=(List.getElem?_eq_some_iff.1 h0).1;have d0:0 < L.length:=by rw [← h3.len];exact g0
 have j0:=h3.row 0 _ _ h0 (List.getElem?_eq_getElem d0)
 have c0:∀ (k:Nat) (u:Value) (r:List Int),us[k]? = some u→L[k]? = some r→Reads (w.setCell ⟨g,0,none⟩ (.slice p 3 t)) 1 u r.length (ints r):=fun k u r hu hr=>by
  have ho:=Ow (h3.row k u r hu hr) hC (fun q hq e2=>h3.outer (by decide) k u hu q (by subst e2;rfl) hq);exact Ro ho (by have:=h2 r (List.mem_of_getElem? hr);omega)
 have b0:∀ (k:Nat) (u:Value),us[k]? = some u→Abv base u:=fun k u hu=>by
  have i0:k < L.length:=by rw [← h3.len];exact (List.getElem?_eq_some_iff.1 hu).1
  exact Abv.own (h3.row k u _ hu (List.getElem?_eq_getElem i0))
 have f0:=(h3.out.stored 0 (.slice p 3 t)).1;have a0:(L.set 0 ((L[0]).take 3)).length=L.length:=List.length_set;have k0:=h2 L[0] (List.getElem_mem d0)
 have e4:e=(L[0]).length:=by
  obtain ⟨a',c',hs⟩:=Oh j0;simp only [Value.slice.injEq] at hs;exact hs.2.1
 refine ⟨⟨xs,L.set 0 ((L[0]).take 3)⟩,⟨Ro (Ow hx hC (fun q hq e2=>hd q hq (Or.inl (by subst e2;rfl)))) (by simp only;omega),Abv.own hx,⟨us.set 0 (.slice p 3 t),?_,fun k u r hu hr=>?_,fun u hu=>?_⟩,Abv.own h3.out,l0,by simp only [a0];exact l1,fun r hr=>?_⟩,rfl,a0⟩
 ·simp only [a0];exact Ro f0 (by omega)
 ·by_cases e0:k=0
  ·subst e0;rw [List.getElem?_set_self g0] at hu;rw [List.getElem?_set_self d0] at hr;obtain rfl:=Si hu;obtain rfl:=Si hr;have h5:=c0 0 _ _ h0 (List.getElem?_eq_getElem d0);rw [← e4] at h5;have h6:=reads_take h5 3 (by omega);rw [show (ints L[0]).take 3=ints ((L[0]).take 3) from by simp [ints]] at h6;rw [show ((L[0]).take 3).length=3 from by rw [List.length_take];omega];exact h6
  rw [List.getElem?_set_ne (fun h=>e0 h.symm)] at hu hr;exact c0 k u r hu hr
 ·rcases List.mem_or_eq_of_mem_set hu with h1 | rfl
  ·obtain ⟨k,hk,rfl⟩:=List.getElem_of_mem h1;exact b0 k _ (List.getElem?_eq_getElem hk)
  intro b o m c2 hv;have:=b0 0 _ h0
  simp only [Value.slice.injEq] at hv;exact this b o e t (by rw [hv.1])
 rcases List.mem_or_eq_of_mem_set hr with h1 | rfl
 ·exact h2 r h1
 rw [List.length_take];omega
end
end Go.Proofs.YtlckklglbodgbaaGreat
namespace Go.Proofs.YtlckklglbodgbaaGreat
open Go.RowKit
structure OwnR (w:World) (base:Nat) (v:Value) (n:Nat):Prop where
 h:∃ xs:List Int,xs.length=n∧w.ownsRow base 3 1 v n (ints xs)
section
variable {w w':World} {base n:Nat} {v:Value}
theorem OwnR.keep (h:OwnR w base v n) {S:Nat→Prop} (hc:Chg S w w') (hs:∀ q,v.ownBlock=some q→¬S q):OwnR w' base v n:=by
 obtain ⟨xs,h1,h2⟩:=h.h;exact ⟨xs,h1,Ow h2 hc hs⟩
theorem OwnR.below (h:OwnR w base v n) (hb:Below w.heap.size w w'):OwnR w' base v n:=h.keep (S:=fun _=>False) (Cb hb) (fun _ _=>id)
theorem OwnR.put {g c:Nat} (h:OwnR w base v n) (hv:v=.slice (some ⟨g,0,none⟩) n c) (k:Nat) (z:Int):OwnR (w.setCell ⟨g,k,none⟩ (.int .i64 z)) base v n:=by
 subst hv;obtain ⟨xs,h1,h2⟩:=h.h;have h3:=(h2.stored k (.int .i64 z)).1;rw [ints_set] at h3;exact ⟨xs.set k z,by rw [List.length_set];exact h1,h3⟩
theorem OwnR.pos (h:OwnR w base v n) (hn:0 < n):∃ g c,v=.slice (some ⟨g,0,none⟩) n c:=by
 obtain ⟨xs,_,h2⟩:=h.h;exact own_pos h2 hn
theorem OwnR.at {g c:Nat} (h:OwnR w base (.slice (some ⟨g,0,none⟩) n c) n) (k:Nat) (hk:k < n):(∃ x:Int,w.cell? ⟨g,k,none⟩=some (.int .i64 x))∧w.frozen? ⟨g,k,none⟩=false:=by
 obtain ⟨xs,rfl,h2⟩:=h.h;exact ⟨⟨xs[k],by rw [h2.cellAt k (by omega),ints_at xs k hk]⟩,h2.frozenAt k⟩
theorem OwnR.lt (h:OwnR w base v n):∀ q,v.ownBlock=some q→base≤q∧q < w.heap.size:=by
 obtain ⟨xs,_,h2⟩:=h.h;exact h2.lt
end
section
variable {w:World} {base n g c:Nat} {v:Value} {us:List Value}
theorem OwnY.pos (h:OwnY w base v us n) (hn:0 < n):∃ g c,v=.slice (some ⟨g,0,none⟩) n c:=by
 obtain ⟨L,rfl,_,h3⟩:=h.h;exact own_pos h3.out hn
theorem OwnY.cellU (h:OwnY w base (.slice (some ⟨g,0,none⟩) n c) us n) {k:Nat} {u:Value} (hu:us[k]? = some u):w.cell? ⟨g,k,none⟩=some u:=by
 obtain ⟨L,rfl,_,h3⟩:=h.h;have hk:k < us.length:=(List.getElem?_eq_some_iff.1 hu).1;have hl:=h3.len;rw [h3.outAt.cellAt k (by omega)];exact hu
theorem OwnY.intAt {k gr l t:Nat} (h:OwnY w base v us n) (hu:us[k]? = some (.slice (some ⟨gr,0,none⟩) l t)) (j:Nat) (hj:j < l):(∃ x:Int,w.cell? ⟨gr,j,none⟩=some (.int .i64 x))∧w.frozen? ⟨gr,j,none⟩=false:=by
 obtain ⟨L,_,_,h3⟩:=h.h;have hk:k < us.length:=(List.getElem?_eq_some_iff.1 hu).1;have a0:k < L.length:=by rw [← h3.len];exact hk
 have ho:=h3.row k _ _ hu (List.getElem?_eq_getElem a0);have e:l=L[k].length:=by obtain ⟨a',c',hs⟩:=Oh ho;simp only [Value.slice.injEq] at hs;exact hs.2.1
 subst e;exact ⟨⟨L[k][j],by rw [ho.cellAt j (by omega),ints_at _ _ hj]⟩,ho.frozenAt j⟩
end
end Go.Proofs.YtlckklglbodgbaaGreat
namespace Go.Proofs.YtlckklglbodgbaaGreat
open Go.RowKit
theorem rows_set1 {α:Type} {f:α→List Value} {sz:Nat} (hf:∀ x,(f x).length=sz) (l:List α) (k:Nat) (h:k < l.length) (i:Nat) (hi:i < sz) (v:Value) (x:α) (hx:f x=(f l[k]).set i v):(rows f l).set (k*sz+i) v=rows f (l.set k x):=by
 induction l generalizing k with
 | nil=>cases h
 | cons e l ih =>
  cases k with
  | zero =>
   simp only [List.getElem_cons_zero] at hx;simp only [rows,Nat.zero_mul,Nat.zero_add,List.set_cons_zero];rw [List.set_append_left _ _ (by rw [hf];exact hi),hx]
  | succ k =>
   have e1:(k+1)*sz+i=sz+(k*sz+i):=by rw [Nat.add_mul];omega
   simp only [rows,List.set_cons_succ];rw [List.set_append_right _ _ (by rw [hf,e1];omega),hf,e1,Nat.add_sub_cancel_left];rw [ih k (by simpa using h) (by simpa using hx)]
theorem st_upd (D:Nat) (n:Sn) (s:St) (i:Nat) (hi:i=0∨i=1∨i=6∨i=8) (z:Int):∃ (n':Sn) (s':St),snc n'=(snc n).set i (.int .i64 z)∧stN1 s'=stN1 s∧∀ (W:World) (A:Nat→Prop),StAt W A D n s→StAt W A D n' s':=by
 obtain ⟨k,t,ix,val,c,a0,b0⟩:=s;rcases hi with rfl | rfl | rfl | rfl
 ·refine ⟨{n with k:=z},.mk z t ix val c a0 b0,rfl,rfl,fun W A h=>?_⟩
  cases D with
  | zero=>exact h
  | succ D=>exact ⟨rfl,h.2⟩
 ·refine ⟨{n with t:=z},.mk k z ix val c a0 b0,rfl,rfl,fun W A h=>?_⟩
  cases D with
  | zero=>exact h
  | succ D=>exact ⟨h.1,rfl,h.2.2⟩
 ·obtain ⟨vk,vv,vl⟩:=val;refine ⟨{n with val:={n.val with v:=z}},.mk k t ix (.mk vk z vl) c a0 b0,rfl,by simp only [stN1,exN],fun W A h=>?_⟩
  cases D with
  | zero=>exact h
  | succ D =>
   obtain ⟨h1,h2,h3,h4,⟨D2,h5⟩,h6⟩:=h;refine ⟨h1,h2,h3,h4,⟨D2,?_⟩,h6⟩
   cases D2 with
   | zero=>exact h5
   | succ D2=>exact ⟨h5.1,rfl,h5.2.2⟩
 refine ⟨{n with c:=z},.mk k t ix val z a0 b0,rfl,rfl,fun W A h=>?_⟩
 cases D with
 | zero=>exact h
 | succ D=>exact ⟨h.1,h.2.1,rfl,h.2.2.2⟩
theorem stNs_set (L:List St) (j:Nat) (hj:j < L.length) (s:St) (h:stN1 s=stN1 L[j]):stNs (L.set j s)=stNs L:=by
 induction L generalizing j with
 | nil=>cases hj
 | cons e L ih =>
  cases j with
  | zero=>simp only [List.set_cons_zero,stNs];rw [h];rfl
  | succ j=>simp only [List.set_cons_succ,stNs];rw [ih j (by simpa using hj) (by simpa using h)]
def GrS (D:Nat) (P:Nat→Prop) (W:World) (b:Nat) (v:Value) (L:List St):Prop:=∃ rs,GrAt snc 11 75 (fun W A n x=>StAt W A D n x) P W b v rs L
section
variable {D:Nat} {P:Nat→Prop} {W W':World} {b:Nat} {v:Value} {L:List St}
theorem GrS.keep (h:GrS D P W b v L) {S:Nat→Prop} (hc:Chg S W W') (h1:∀ q,v.ownBlock=some q→¬S q) (h2:∀ q,P q→q < W.heap.size→¬S q):GrS D P W' b v L:=by
 obtain ⟨rs,h⟩:=h;exact ⟨rs,h.keep (kpS D) hc h1 h2⟩
theorem GrS.below (h:GrS D P W b v L) (hb:Below W.heap.size W W'):GrS D P W' b v L:=by
 obtain ⟨rs,h⟩:=h;exact ⟨rs,h.below (kpS D) hb⟩
theorem GrS.lt (h:GrS D P W b v L):∀ q,v.ownBlock=some q→b≤q∧q < W.heap.size:=by
 obtain ⟨rs,h⟩:=h;exact h.own.lt
theorem GrS.bl (h:GrS D P W b v L) (hP:∀ q,P q→b≤q):BlAt W (fun q=>b≤q) D v L:=by
 obtain ⟨rs,h⟩:=h;exact h.row (kpS D) (fun q h _=>h) (fun q h _=>hP q h)
theorem GrS.pos (h:GrS D P W b v L) (hn:0 < L.length):∃ g c,v=.slice (some ⟨g,0,none⟩) L.length c:=by
 obtain ⟨rs,h⟩:=h;exact own_pos h.own hn
theorem GrS.at {g c:Nat} (h:GrS D P W b (.slice (some ⟨g,0,none⟩) L.length c) L) (j:Nat) (hj:j < L.length) (i:Nat) (hi:i < 11):(∃ u,W.cell? ⟨g,j*11+i,none⟩=some u)∧W.frozen? ⟨g,j*11+i,none⟩=false:=by
 obtain ⟨rs,h⟩:=h;have hl:=rows_length snc_len rs;have hk:j*11+i < (rows snc rs).length:=by rw [hl,h.len];omega
 exact ⟨⟨(rows snc rs)[j*11+i],by rw [h.own.cellAt (j*11+i) (by omega)];exact List.getElem?_eq_getElem hk⟩,h.own.frozenAt _⟩
theorem GrS.put {g c:Nat} (h:GrS D P W b (.slice (some ⟨g,0,none⟩) L.length c) L) (j:Nat) (hj:j < L.length) (i:Nat) (hi:i=0∨i=1∨i=6∨i=8) (z:Int) :
  ∃ L',L'.length=L.length∧stNs L'=stNs L∧GrS D P (W.setCell ⟨g,j*11+i,none⟩ (.int .i64 z)) b (.slice (some ⟨g,0,none⟩) L'.length c) L':=by
 obtain ⟨rs,b0,ho,hk⟩:=h;have d0:j < rs.length:=by omega
 obtain ⟨n',s',e1,e2,e3⟩:=st_upd D rs[j] L[j] i hi z;have a0:(L.set j s').length=L.length:=List.length_set;refine ⟨L.set j s',a0,stNs_set L j hj s' e2,?_⟩;rw [a0];refine ⟨rs.set j n',by rw [List.length_set,a0,b0],?_,fun q h1 h2=>?_⟩
 ·have:=(ho.stored (j*11+i) (.int .i64 z)).1
  rw [rows_set1 snc_len rs j d0 i (by omega) _ n' e1] at this;rw [a0];exact this
 have f0:q < rs.length:=by simpa using h1
 have g0:q < L.length:=by simpa using h2
 have hc:Chg (fun k=>k=g) W (W.setCell ⟨g,j*11+i,none⟩ (.int .i64 z)):=(Chg.refl (fun k=>k=g) W).setCell g (j*11+i) (.int .i64 z) (fun _=>rfl);have e0:=hk q f0 g0;have c0:=kpS D W _ (fun k=>k=g) _ (fun q=>P q∧¬(Value.slice (some ⟨g,0,none⟩) L.length c).ownBlock=some q) _ _ hc (fun q hq _ e=>hq.2 (by rw [e];rfl)) (fun q hq _=>hq) e0;by_cases hqj:q=j
 ·subst hqj;simp only [List.getElem_set_self];exact e3 _ _ c0
 have:¬j=q:=fun e=>hqj e.symm
 simp only [List.getElem_set_ne this];exact c0
end
def GrN (D n N:Nat) (P:Nat→Prop) (W:World) (b:Nat) (v:Value):Prop:=∃ L,L.length=n∧stNs L=N∧GrS D P W b v L
section
variable {D n N:Nat} {P:Nat→Prop} {W W':World} {b:Nat} {v:Value}
theorem GrN.keep (h:GrN D n N P W b v) {S:Nat→Prop} (hc:Chg S W W') (h1:∀ q,v.ownBlock=some q→¬S q) (h2:∀ q,P q→q < W.heap.size→¬S q):GrN D n N P W' b v:=by
 obtain ⟨L,e1,e2,h⟩:=h;exact ⟨L,e1,e2,h.keep hc h1 h2⟩
theorem GrN.below (h:GrN D n N P W b v) (hb:Below W.heap.size W W'):GrN D n N P W' b v:=by
 obtain ⟨L,e1,e2,h⟩:=h;exact ⟨L,e1,e2,h.below hb⟩
theorem GrN.lt (h:GrN D n N P W b v):∀ q,v.ownBlock=some q→b≤q∧q < W.heap.size:=by
 obtain ⟨L,_,_,h⟩:=h;exact h.lt
theorem GrN.pos (h:GrN D n N P W b v) (hn:0 < n):∃ g c,v=.slice (some ⟨g,0,none⟩) n c:=by
 obtain ⟨L,rfl,_,h⟩:=h;exact h.pos hn
theorem GrN.at {g c:Nat} (h:GrN D n N P W b (.slice (some ⟨g,0,none⟩) n c)) (j:Nat) (hj:j < n) (i:Nat) (hi:i < 11):(∃ u,W.cell? ⟨g,j*11+i,none⟩=some u)∧W.frozen? ⟨g,j*11+i,none⟩=false:=by
 obtain ⟨L,rfl,_,h⟩:=h;exact h.at j hj i hi
theorem GrN.put {g c:Nat} (h:GrN D n N P W b (.slice (some ⟨g,0,none⟩) n c)) (j:Nat) (hj:j < n) (i:Nat) (hi:i=0∨i=1∨i=6∨i=8) (z:Int):GrN D n N P (W.setCell ⟨g,j*11+i,none⟩ (.int .i64 z)) b (.slice (some ⟨g,0,none⟩) n c):=by
 obtain ⟨L,rfl,e2,h⟩:=h;obtain ⟨L',e3,e4,h'⟩:=h.put j hj i hi z;rw [e3] at h';exact ⟨L',e3,e4.trans e2,h'⟩
end
theorem CpP.grs {D:Nat} {xs ys:List Int} {L:List St} {w w':World} {r:Ending} (h:CpP D xs ys L w r w'):∃ (pv pa a:Option Addr) (cv ca c:Nat),r=.returned (.agg #[.slice pv xs.length cv,.slice pa ys.length ca,.slice a L.length c]) ∧
  w'.ownsRow w.heap.size 3 1 (.slice pv xs.length cv) xs.length (ints xs)∧w'.ownsRow w.heap.size 3 1 (.slice pa ys.length ca) ys.length (ints ys)∧(∀ q,(Value.slice pv xs.length cv).ownBlock=some q→(Value.slice pa ys.length ca).ownBlock=some q→False) ∧
  GrN D L.length (stNs L) (fun q=>(w.heap.size≤q∧q < w'.heap.size)∧¬(Value.slice pv xs.length cv).ownBlock=some q) w' w.heap.size (.slice a L.length c)∧Below w.heap.size w w':=by
 obtain ⟨pv,pa,a,cv,ca,c,rs,h1,h2,h3,h4,h5,h6⟩:=h;refine ⟨pv,pa,a,cv,ca,c,h1,h2,h3,h4,⟨L,rfl,rfl,rs,h5.len,h5.own,fun j a c=>?_⟩,h6⟩;exact kpS D _ _ (fun _=>False) _ _ _ _ (Chg.refl _ _) (fun _ _ _=>id) (fun q hq hl=>⟨⟨⟨hq.1.1,hl⟩,hq.1.2.1⟩,hq.2⟩) (h5.kid j a c)
def MuTB (va0:Value) (lo hi q:Nat):Prop:=(lo≤q∧q < hi)∧¬va0.ownBlock=some q
structure MuT (D m k N lo hi:Nat) (va0:Value) (W:World) (vb vu:Value):Prop where
 a:OwnR W lo vb m
 ab:∀ q,vb.ownBlock=some q→MuTB va0 lo hi q
 s:GrN D k N (MuTB va0 lo hi) W lo vu
 sb:∀ q,vu.ownBlock=some q→MuTB va0 lo hi q∧¬vb.ownBlock=some q
 top:hi≤W.heap.size
def MuB (lo hi q:Nat):Prop:=lo≤q∧q < hi
structure MuS (D n m k N lo hi:Nat) (W:World) (va vb vu:Value):Prop where
 v:OwnR W lo va n
 vt:∀ q,va.ownBlock=some q→q < hi
 t:MuT D m k N lo hi va W vb vu
section
variable {D n m k N lo hi:Nat} {va0 va vb vu:Value} {W W':World}
theorem MuT.keep (h:MuT D m k N lo hi va0 W vb vu) {S:Nat→Prop} (hc:Chg S W W') (hs:∀ q,MuTB va0 lo hi q→¬S q):MuT D m k N lo hi va0 W' vb vu:=
 ⟨h.a.keep hc (fun q hq=>hs q (h.ab q hq)),h.ab,h.s.keep hc (fun q hq=>hs q (h.sb q hq).1) (fun q hq _=>hs q hq),h.sb,Nat.le_trans h.top hc.size⟩
theorem MuT.below (h:MuT D m k N lo hi va0 W vb vu) (hb:Below W.heap.size W W'):MuT D m k N lo hi va0 W' vb vu:=h.keep (S:=fun _=>False) (Cb hb) (fun _ _=>id)
theorem MuS.in (h:MuS D n m k N lo hi W va vb vu):∀ q,va.ownBlock=some q→MuB lo hi q:=fun q hq=>⟨(h.v.lt q hq).1,h.vt q hq⟩
theorem MuS.keep (h:MuS D n m k N lo hi W va vb vu) {S:Nat→Prop} (hc:Chg S W W') (hs:∀ q,MuB lo hi q→¬S q):MuS D n m k N lo hi W' va vb vu:=
 ⟨h.v.keep hc (fun q hq=>hs q (h.in q hq)),h.vt,h.t.keep hc (fun q hq=>hs q hq.1)⟩
theorem MuS.below (h:MuS D n m k N lo hi W va vb vu) (hb:Below W.heap.size W W'):MuS D n m k N lo hi W' va vb vu:=h.keep (S:=fun _=>False) (Cb hb) (fun _ _=>id)
theorem MuS.putV {g c:Nat} (h:MuS D n m k N lo hi W (.slice (some ⟨g,0,none⟩) n c) vb vu) (j:Nat) (z:Int):MuS D n m k N lo hi (W.setCell ⟨g,j,none⟩ (.int .i64 z)) (.slice (some ⟨g,0,none⟩) n c) vb vu:=
 ⟨h.v.put rfl j z,h.vt,h.t.keep ((Chg.refl (fun k=>k=g) W).setCell g j (.int .i64 z) (fun _=>rfl)) (fun q hq e=>hq.2 (by rw [e];rfl))⟩
theorem MuS.atV {g c:Nat} (h:MuS D n m k N lo hi W (.slice (some ⟨g,0,none⟩) n c) vb vu) (j:Nat) (hj:j < n):(∃ x:Int,W.cell? ⟨g,j,none⟩=some (.int .i64 x))∧W.frozen? ⟨g,j,none⟩=false:=h.v.at j hj
theorem MuS.putS {g c:Nat} (h:MuS D n m k N lo hi W va vb (.slice (some ⟨g,0,none⟩) k c)) (j:Nat) (hj:j < k) (i:Nat) (hi':i=0∨i=1∨i=6∨i=8) (z:Int):MuS D n m k N lo hi (W.setCell ⟨g,j*11+i,none⟩ (.int .i64 z)) va vb (.slice (some ⟨g,0,none⟩) k c):=by
 have hc:Chg (fun k=>k=g) W (W.setCell ⟨g,j*11+i,none⟩ (.int .i64 z)):=(Chg.refl (fun k=>k=g) W).setCell g (j*11+i) (.int .i64 z) (fun _=>rfl);have hg:=h.t.sb g rfl;exact ⟨h.v.keep hc (fun q hq e=>hg.1.2 (e ▸ hq)),h.vt,⟨h.t.a.keep hc (fun q hq e=>hg.2 (e ▸ hq)),h.t.ab,h.t.s.put j hj i hi' z,h.t.sb,Nat.le_trans h.t.top hc.size⟩⟩
theorem MuS.atS {g c:Nat} (h:MuS D n m k N lo hi W va vb (.slice (some ⟨g,0,none⟩) k c)) (j:Nat) (hj:j < k) (i:Nat) (hi':i < 11):(∃ u,W.cell? ⟨g,j*11+i,none⟩=some u)∧W.frozen? ⟨g,j*11+i,none⟩=false:=h.t.s.at j hj i hi'
theorem OwnR.abv {b:Nat} {v:Value} {W:World} (h:OwnR W b v n):Abv b v:=by
 obtain ⟨xs,_,h⟩:=h.h;exact Abv.own h
theorem tm_end {b:Nat} (v:OwnR W lo va n) (t:MuT D m k N lo hi va0 W vb vu) (hb:b≤lo) (h1:n≤13) (h2:m≤2) (h3:N≤1048576):∃ zs us L,ReadsP W (fun q=>b≤q) D va vb vu zs us L∧(zs.length≤13∧us.length≤2∧stNs L≤1048576)∧(Abv b va∧Abv b vb):=by
 have a1:=v.abv;have a2:=t.a.abv;obtain ⟨zs,rfl,o1⟩:=v.h;obtain ⟨us,rfl,o2⟩:=t.a.h;obtain ⟨L,rfl,rfl,hs⟩:=t.s;exact ⟨zs,us,L,⟨Ro o1 (own_len o1),Ro o2 (own_len o2),blAt_mono (hs.bl (fun q hq=>hq.1.1)) (fun q hq _=>Nat.le_trans hb hq)⟩,⟨h1,h2,h3⟩,a1.mono hb,a2.mono hb⟩
theorem MuS.end {b:Nat} (h:MuS D n m k N lo hi W va vb vu) (hb:b≤lo) (h1:n≤12) (h2:m≤2) (h3:N≤1048576):∃ zs us L,ReadsP W (fun q=>b≤q) D va vb vu zs us L∧(zs.length≤13∧us.length≤2∧stNs L≤1048576)∧(Abv b va∧Abv b vb):=tm_end h.v h.t hb (by omega) h2 h3
theorem tm_nil (W:World) (b:Nat):ReadsP W (fun q=>b≤q) 0 (.slice none 0 0) (.slice none 0 0) (.slice none 0 0) [] [] []∧(([]:List Int).length≤13∧([]:List Int).length≤2∧stNs []≤1048576)∧(Abv b (.slice none 0 0)∧Abv b (.slice none 0 0)):=
 ⟨⟨Ro (World.ownsRow_nil W 0 0 1) (by simp),Ro (World.ownsRow_nil W 0 0 1) (by simp),RowOf.nil⟩,⟨by decide,by decide,by decide⟩,Abv.nil b,Abv.nil b⟩
end
def CpQ (D n m k N:Nat) (w:World) (r:Ending) (w':World):Prop:=∃ (p1 p2 p3:Option Addr) (c1 c2 c3 hi:Nat),r=.returned (.agg #[.slice p1 n c1,.slice p2 m c2,.slice p3 k c3])∧(0 < n→∃ g,p1=some ⟨g,0,none⟩)∧(0 < k→∃ g,p3=some ⟨g,0,none⟩)∧MuS D n m k N w.heap.size hi w' (.slice p1 n c1) (.slice p2 m c2) (.slice p3 k c3)∧Below w.heap.size w w'
theorem copy_mu {w:World} {lo hi:Nat} {va vb vu:Value} {n m:Nat} {zs us:List Int} {D:Nat} {L:List St} (h:PdR w lo hi va vb vu n m zs us D L) (hn:stNs L≤1048576) (h1:n≤1048576) (h2:m≤1048576) :
  Calls Tryz.prog 50 #[.agg #[va,vb,vu]] w fun r w'=>CpQ D n m L.length (stNs L) w r w':=by
 have ha:=h.ra;have hb:=h.rb;obtain ⟨⟨rfl,rfl,_,_,_⟩,_,ht,_⟩:=h;refine (l2Copy_any zs us _ D va vb vu L w ha hb ht hn h1 h2).mono (fun r w' hc=>?_);obtain ⟨pv,pa,a,cv,ca,c,e1,o1,o2,a0,hg,b0⟩:=hc.grs;have c0:=hg.lt;refine ⟨pv,pa,a,cv,ca,c,w'.heap.size,e1,fun hp=>?_,fun hp=>?_,⟨⟨zs,rfl,o1⟩,fun q hq=>(o1.lt q hq).2,⟨⟨us,rfl,o2⟩,fun q hq=>⟨o2.lt q hq,fun hq2=>a0 q hq2 hq⟩,?_,fun q hq=>?_,Lr⟩⟩,b0⟩
 ·obtain ⟨g,c,e⟩:=own_pos o1 hp;simp only [Value.slice.injEq] at e;exact ⟨g,e.1⟩
 ·obtain ⟨g,c,e⟩:=hg.pos hp;simp only [Value.slice.injEq] at e;exact ⟨g,e.1⟩
 ·exact hg
 obtain ⟨L',hl,_,rs,d0⟩:=hg;have ho:=d0.own;rw [hl] at ho;exact ⟨⟨c0 q hq,own_diff ho o1 (by decide) q hq⟩,own_diff ho o2 (by decide) q hq⟩
def TzP (d B g p:Nat) (w:World) (r:Ending) (w':World):Prop:=∃ (a0 a1 a2:Option Addr) (c0 c1 c2 n m hi:Nat) (zs us:List Int) (D:Nat) (L:List St) (p':Nat),r=.returned (.agg #[.slice a0 n c0,.slice a1 m c1,.slice a2 L.length c2])∧PdR w' w.heap.size hi (.slice a0 n c0) (.slice a1 m c1) (.slice a2 L.length c2) n m zs us D L∧(n≤12∧m≤2∧stNs L≤1048576)∧Rnd w' B g p'∧p'≤p+d∧Chg (fun q=>q=g) w w'
def TmP (d B g p:Nat) (w:World) (r:Ending) (w':World):Prop:=∃ (va vb vu:Value) (zs us:List Int) (D:Nat) (L:List St) (p':Nat),r=.returned (.agg #[va,vb,vu])∧ReadsP w' (fun q=>w.heap.size≤q) D va vb vu zs us L∧(zs.length≤13∧us.length≤2∧stNs L≤1048576)∧(Abv w.heap.size va∧Abv w.heap.size vb)∧Rnd w' B g p'∧p'≤p+d∧Chg (fun q=>q=g) w w'
end Go.Proofs.YtlckklglbodgbaaGreat
