/-
 Parts of the proofs of the laws FnCodeFenced,FnCountBranches.
-/
import Derived.Laws.BitsLemmas
import Derived.Test.YtkjedgnepnbkpaaRows
import Derived.Test.YtkjedgnepnbkpaaYD
import Derived.Test.YtkjedgnepnbkpaaYC
set_option linter.all false
namespace Go.Proofs.Ytkjedgnepnbkpaa
open Go.RowKit
structure ReadsM (w:World) (vx vy:Value) (m:Mm):Prop where
 x:Reads w 1 vx m.vals.length (ints m.vals)
 y:Reads2 ints w vy m.arrs
theorem ReadsM.below {w w':World} {vx vy:Value} {m:Mm} (h:ReadsM w vx vy m) (hb:Below w.heap.size w w'):ReadsM w' vx vy m:=⟨h.x.below hb,h.y.below hb⟩
theorem ReadsM.shape {w:World} {vx vy:Value} {m:Mm} (h:ReadsM w vx vy m):∃ a0 c0 a1 c1,vx=.slice a0 m.vals.length c0∧vy=.slice a1 m.arrs.length c1:=by
 obtain ⟨a0,c0,h0⟩:=reads_shape h.x
 obtain ⟨a1,c1,h1⟩:=h.y.shape
 exact ⟨a0,c0,a1,c1,h0,h1⟩
structure OwnM (w:World) (base:Nat) (vx vy:Value) (us:List Value) (m:Mm):Prop where
 x:w.ownsRow base 3 1 vx m.vals.length (ints m.vals)
 y:Own2I w base vy us m.arrs
 ap:∀ q,vx.ownBlock=some q→¬OwnB2 vy us q
def OwnBM (vx vy:Value) (us:List Value) (q:Nat):Prop:=vx.ownBlock=some q∨OwnB2 vy us q
section
variable {w w':World} {base base':Nat} {vx vy:Value} {us:List Value} {m:Mm}
theorem OwnM.lt (h:OwnM w base vx vy us m):∀ q,OwnBM vx vy us q→base≤q∧q < w.heap.size:=by
 rintro q (hq | hq)
 ·exact h.x.lt q hq
 exact h.y.lt q hq
theorem OwnM.keep (h:OwnM w base vx vy us m) {S:Nat→Prop} (hc:Chg S w w') (hs:∀ q,OwnBM vx vy us q→¬S q):OwnM w' base vx vy us m:=
 ⟨Ow h.x hc (fun q hq=>hs q (Or.inl hq)),h.y.keep hc (fun q hq=>hs q (Or.inr hq)),h.ap⟩
theorem OwnM.below (h:OwnM w base vx vy us m) (hb:Below w.heap.size w w'):OwnM w' base vx vy us m:=h.keep (S:=fun _=>False) (Chg.of_below hb) (fun _ _=>id)
theorem OwnM.mono (h:OwnM w base vx vy us m) (hb:base'≤base):OwnM w base' vx vy us m:=⟨Om h.x hb,h.y.mono hb,h.ap⟩
theorem OwnM.reads (h:OwnM w base vx vy us m) (h0:m.vals.length≤1048576) (h1:m.arrs.length≤1048576) (h2:pre2 m.arrs m.arrs.length≤1048576):ReadsM w vx vy m:=
 ⟨Ro h.x (by omega),h.y.reads (by omega) (fun k r hr=>by
  obtain ⟨hk,rfl⟩:=List.getElem?_eq_some_iff.1 hr
  have:=pre2_all m.arrs k hk m.arrs.length hk
  omega)⟩
theorem OwnM.shape (h:OwnM w base vx vy us m):∃ a0 c0 a1 c1,vx=.slice a0 m.vals.length c0∧vy=.slice a1 m.arrs.length c1:=by
 obtain ⟨a0,c0,h0⟩:=Oh h.x
 obtain ⟨a1,c1,h1⟩:=h.y.shape
 exact ⟨a0,c0,a1,c1,h0,h1⟩
end
end Go.Proofs.Ytkjedgnepnbkpaa
namespace Go.Proofs.Ytkjedgnepnbkpaa
open Go.RowKit
def Abv (base:Nat) (v:Value):Prop:=∀ b o n c,v=.slice (some ⟨b,o,none⟩) n c→base≤b
theorem Abv.mono {base base':Nat} {v:Value} (h:Abv base v) (hb:base'≤base):Abv base' v:=fun b o n c e=>Nat.le_trans hb (h b o n c e)
theorem Abv.nil (base:Nat):Abv base (.slice none 0 0):=fun b o n c e=>by simp at e
theorem Abv.own {w:World} {base:Nat} {e:TypeId} {sz n:Nat} {v:Value} {xs:List Value} (h:w.ownsRow base e sz v n xs):Abv base v:=fun b o m c hv=>by
 subst hv
 exact (h.lt b rfl).1
structure DrM (w:World) (base:Nat) (vx vy:Value) (m:Mm):Prop where
 x:Reads w 1 vx m.vals.length (ints m.vals)
 xb:Abv base vx
 y:∃ vs:List Value,Reads w 1 vy m.arrs.length vs∧(∀ (k:Nat) (u:Value) (r:List Int),vs[k]? = some u→m.arrs[k]? = some r→Reads w 1 u r.length (ints r))∧∀ u ∈ vs,Abv base u
 yb:Abv base vy
 l0:m.vals.length≤1010
 l1:m.arrs.length≤1010
 l2:∀ r ∈ m.arrs,3≤r.length∧r.length≤4
section
variable {w w':World} {base base':Nat} {vx vy:Value} {m:Mm}
theorem DrM.keep (h:DrM w base vx vy m) {S:Nat→Prop} (hc:Chg S w w') (hs:∀ q,base≤q→¬S q):DrM w' base vx vy m:=by
 obtain ⟨vs,h1,h2,h3⟩:=h.y
 have hl:vs.length=m.arrs.length:=by have:=h1.1;omega
 refine ⟨h.x.keep hc (fun b o c _ hv=>hs b (h.xb _ _ _ _ hv)),h.xb,⟨vs,h1.keep hc (fun b o c _ hv=>hs b (h.yb _ _ _ _ hv)),fun k u r hu hr=>(h2 k u r hu hr).keep hc (fun b o c _ hv=>hs b (h3 u (List.mem_of_getElem? hu) _ _ _ _ hv)),h3⟩,h.yb,h.l0,h.l1,h.l2⟩
theorem DrM.below (h:DrM w base vx vy m) (hb:Below w.heap.size w w'):DrM w' base vx vy m:=by
 obtain ⟨vs,h1,h2,h3⟩:=h.y
 exact ⟨h.x.below hb,h.xb,⟨vs,h1.below hb,fun k u r hu hr=>(h2 k u r hu hr).below hb,h3⟩,h.yb,h.l0,h.l1,h.l2⟩
theorem DrM.mono (h:DrM w base vx vy m) (hb:base'≤base):DrM w base' vx vy m:=by
 obtain ⟨vs,h1,h2,h3⟩:=h.y
 exact ⟨h.x,h.xb.mono hb,⟨vs,h1,h2,fun u hu=>(h3 u hu).mono hb⟩,h.yb.mono hb,h.l0,h.l1,h.l2⟩
theorem DrM.reads (h:DrM w base vx vy m):ReadsM w vx vy m:=by
 obtain ⟨vs,h1,h2,_⟩:=h.y
 exact ⟨h.x,⟨vs,h1,h2⟩⟩
theorem DrM.pre (h:DrM w base vx vy m):pre2 m.arrs m.arrs.length≤4*m.arrs.length:=pre2_le m.arrs 4 (fun k r hr=>(h.l2 r (List.mem_of_getElem? hr)).2) _ (Nat.le_refl _)
theorem DrM.of {us:List Value} (h:OwnM w base vx vy us m) (l0:m.vals.length≤1010) (l1:m.arrs.length≤1010) (l2:∀ r ∈ m.arrs,3≤r.length∧r.length≤4):DrM w base vx vy m:=by
 refine ⟨Ro h.x (by omega),Abv.own h.x,⟨us,Ro h.y.out (by omega),fun k u r hu hr=>Ro (h.y.row k u r hu hr) (by have:=l2 r (List.mem_of_getElem? hr);omega),fun u hu=>?_⟩,Abv.own h.y.out,l0,l1,l2⟩
 obtain ⟨k,hk,rfl⟩:=List.getElem_of_mem hu
 have a0:k < m.arrs.length:=by rw [← h.y.len];exact hk
 exact Abv.own (h.y.row k _ _ (List.getElem?_eq_getElem hk) (List.getElem?_eq_getElem a0))
theorem DrM.nil (w:World) (base:Nat):DrM w base (.slice none 0 0) (.slice none 0 0) ⟨[],[]⟩:=
 ⟨Ro (World.ownsRow_nil w 0 0 1) (by simp),Abv.nil base,⟨[],Ro (World.ownsRow_nil w 0 0 1) (by simp),fun k u r hu=>by simp at hu,fun u hu=>by cases hu⟩,Abv.nil base,by simp,by simp,fun r hr=>by cases hr⟩
end
theorem reads_take {w:World} {a:Option Addr} {n c:Nat} {xs:List Value} (h:Reads w 1 (.slice a n c) n xs) (k:Nat) (hk:k≤n):Reads w 1 (.slice a k c) k (xs.take k):=by
 obtain ⟨h1,h2,a',d0,b,c0,hv,b0,ha,a0⟩:=h
 simp only [Value.slice.injEq] at hv
 obtain ⟨rfl,_,rfl⟩:=hv
 refine ⟨by rw [List.length_take];omega,by omega,a,c,b,c0,rfl,⟨by omega,b0.2⟩,fun h0=>ha (by omega),fun j hj=>?_⟩
 rw [List.length_take] at hj
 rw [List.getElem_take]
 exact a0 j (by omega)
theorem own_cast {w:World} {base:Nat} {e:TypeId} {sz n m:Nat} {v:Value} {xs:List Value} (h:w.ownsRow base e sz v n xs) (e1:n=m):w.ownsRow base e sz v m xs:=e1 ▸ h
structure OwnI (w:World) (base b n c:Nat):Prop where
 h:∃ xs:List Int,xs.length=n∧w.ownsRow base 3 1 (.slice (some ⟨b,0,none⟩) n c) n (ints xs)
section
variable {w w':World} {base b n c:Nat}
theorem OwnI.keep (h:OwnI w base b n c) {S:Nat→Prop} (hc:Chg S w w') (hs:¬S b):OwnI w' base b n c:=by
 obtain ⟨xs,h1,h2⟩:=h.h
 exact ⟨xs,h1,Ow h2 hc (fun q hq=>by have e:b=q:=Option.some.inj hq;exact e ▸ hs)⟩
theorem OwnI.below (h:OwnI w base b n c) (hb:Below w.heap.size w w'):OwnI w' base b n c:=h.keep (S:=fun _=>False) (Chg.of_below hb) id
theorem OwnI.put (h:OwnI w base b n c) (k:Nat) (v:Int):OwnI (w.setCell ⟨b,k,none⟩ (.int .i64 v)) base b n c:=by
 obtain ⟨xs,h1,h2⟩:=h.h
 have h3:=(h2.stored k (.int .i64 v)).1
 rw [ints_set] at h3
 exact ⟨xs.set k v,by rw [List.length_set];exact h1,h3⟩
theorem OwnI.at (h:OwnI w base b n c) (k:Nat) (hk:k < n):(∃ x:Int,w.cell? ⟨b,k,none⟩=some (.int .i64 x))∧w.frozen? ⟨b,k,none⟩=false:=by
 obtain ⟨xs,rfl,h2⟩:=h.h
 exact ⟨⟨xs[k],by rw [h2.cellAt k (by omega),ints_at xs k hk]⟩,h2.frozenAt k⟩
theorem OwnI.lt (h:OwnI w base b n c):base≤b∧b < w.heap.size:=by
 obtain ⟨xs,_,h2⟩:=h.h;exact h2.lt b rfl
end
structure OwnY (w:World) (base:Nat) (v:Value) (us:List Value) (n:Nat):Prop where
 h:∃ L:List (List Int),L.length=n∧(∀ r ∈ L,3≤r.length∧r.length≤4)∧Own2I w base v us L
section
variable {w w':World} {base base' n:Nat} {v:Value} {us:List Value}
theorem OwnY.lt (h:OwnY w base v us n):∀ q,OwnB2 v us q→base≤q∧q < w.heap.size:=by
 obtain ⟨L,_,_,h3⟩:=h.h;exact h3.lt
theorem OwnY.keep (h:OwnY w base v us n) {S:Nat→Prop} (hc:Chg S w w') (hs:∀ q,OwnB2 v us q→¬S q):OwnY w' base v us n:=by
 obtain ⟨L,h1,h2,h3⟩:=h.h;exact ⟨L,h1,h2,h3.keep hc hs⟩
theorem OwnY.below (h:OwnY w base v us n) (hb:Below w.heap.size w w'):OwnY w' base v us n:=by
 obtain ⟨L,h1,h2,h3⟩:=h.h;exact ⟨L,h1,h2,h3.below hb⟩
theorem DrM.parts {vx:Value} {xs:List Int} {k:Nat} (hx:w.ownsRow base 3 1 vx k (ints xs)) (hk:xs.length=k) (hY:OwnY w base v us n) (l0:k≤1010) (l1:n≤1010):∃ m:Mm,DrM w base vx v m∧m.vals.length=k∧m.arrs.length=n:=by
 subst hk
 obtain ⟨L,rfl,h2,h3⟩:=hY.h
 refine ⟨⟨xs,L⟩,⟨Ro hx (by simp only;omega),Abv.own hx,⟨us,Ro h3.out (by simp only;omega),fun k u r hu hr=>Ro (h3.row k u r hu hr) (by have:=h2 r (List.mem_of_getElem? hr);omega),fun u hu=>?_⟩,Abv.own h3.out,l0,l1,h2⟩,rfl,rfl⟩
 obtain ⟨k,hk,rfl⟩:=List.getElem_of_mem hu
 have a0:k < L.length:=by rw [← h3.len];exact hk
 exact Abv.own (h3.row k _ _ (List.getElem?_eq_getElem hk) (List.getElem?_eq_getElem a0))
theorem DrM.partsI {b k c:Nat} (hx:OwnI w base b k c) (hY:OwnY w base v us n) (l0:k≤1010) (l1:n≤1010):∃ m:Mm,DrM w base (.slice (some ⟨b,0,none⟩) k c) v m∧m.vals.length=k∧m.arrs.length=n:=by
 obtain ⟨xs,h1,h2⟩:=hx.h;exact DrM.parts h2 h1 hY l0 l1
theorem OwnY.first {g c:Nat} (h:OwnY w base (.slice (some ⟨g,0,none⟩) n c) us n) (hn:0 < n):∃ p k t,us[0]? = some (.slice p k t)∧3≤k∧k≤4∧k≤t∧w.cell? ⟨g,0,none⟩=some (.slice p k t)∧w.frozen? ⟨g,0,none⟩=false:=by
 obtain ⟨L,rfl,h2,h3⟩:=h.h
 obtain ⟨u,hu,ho⟩:=h3.rowAt 0 hn
 have hl:=h2 L[0] (List.getElem_mem hn)
 obtain ⟨p,t,rfl⟩:=Oh ho
 have hr:=Ro ho (by omega)
 obtain ⟨_,_,a,b0,b,c0,hv,a0,_⟩:=hr
 simp only [Value.slice.injEq] at hv
 obtain ⟨rfl,_,rfl⟩:=hv
 refine ⟨p,_,t,hu,hl.1,hl.2,a0.1,?_,h3.outAt.frozenAt 0⟩
 rw [h3.outAt.cellAt 0 (by omega)];exact hu
theorem DrM.cut {vx:Value} {xs:List Int} {k g c:Nat} {p:Option Addr} {e t:Nat} (hx:w.ownsRow base 3 1 vx k (ints xs)) (hk:xs.length=k) (hY:OwnY w base (.slice (some ⟨g,0,none⟩) n c) us n) (hd:∀ q,vx.ownBlock=some q→¬OwnB2 (.slice (some ⟨g,0,none⟩) n c) us q) (h0:us[0]? = some (.slice p e t)) (he:3≤e∧e≤4) (l0:k≤1010) (l1:n≤1010) :
  ∃ m:Mm,DrM (w.setCell ⟨g,0,none⟩ (.slice p 3 t)) base vx (.slice (some ⟨g,0,none⟩) n c) m∧m.vals.length=k∧m.arrs.length=n:=by
 subst hk
 obtain ⟨L,rfl,h2,h3⟩:=hY.h
 have hC:Chg (fun q=>q=g) w (w.setCell ⟨g,0,none⟩ (.slice p 3 t)):=(Chg.refl _ _).setCell g 0 _ (fun _=>rfl)
 have g0:0 < us.length:=(List.getElem?_eq_some_iff.1 h0).1
 have d0:0 < L.length:=by rw [← h3.len];exact g0
 have j0:=h3.row 0 _ _ h0 (List.getElem?_eq_getElem d0)
 have c0:∀ (k:Nat) (u:Value) (r:List Int),us[k]? = some u→L[k]? = some r→Reads (w.setCell ⟨g,0,none⟩ (.slice p 3 t)) 1 u r.length (ints r):=fun k u r hu hr=>by
  have ho:=Ow (h3.row k u r hu hr) hC (fun q hq e2=>h3.outer (by decide) k u hu q (by subst e2;rfl) hq)
  exact Ro ho (by have:=h2 r (List.mem_of_getElem? hr);omega)
 have b0:∀ (k:Nat) (u:Value),us[k]? = some u→Abv base u:=fun k u hu=>by
  have i0:k < L.length:=by rw [← h3.len];exact (List.getElem?_eq_some_iff.1 hu).1
  exact Abv.own (h3.row k u _ hu (List.getElem?_eq_getElem i0))
 have f0:=(h3.out.stored 0 (.slice p 3 t)).1
 have a0:(L.set 0 ((L[0]).take 3)).length=L.length:=List.length_set
 have k0:=h2 L[0] (List.getElem_mem d0)
 have e4:e=(L[0]).length:=by
  obtain ⟨a',c',hs⟩:=Oh j0
  simp only [Value.slice.injEq] at hs;exact hs.2.1
 refine ⟨⟨xs,L.set 0 ((L[0]).take 3)⟩,⟨Ro (Ow hx hC (fun q hq e2=>hd q hq (Or.inl (by subst e2;rfl)))) (by simp only;omega),Abv.own hx,⟨us.set 0 (.slice p 3 t),?_,fun k u r hu hr=>?_,fun u hu=>?_⟩,Abv.own h3.out,l0,by simp only [a0];exact l1,fun r hr=>?_⟩,rfl,a0⟩
 ·simp only [a0]
  exact Ro f0 (by omega)
 ·by_cases e0:k=0
  ·subst e0
   rw [List.getElem?_set_self g0] at hu
   rw [List.getElem?_set_self d0] at hr
   obtain rfl:=Option.some.inj hu
   obtain rfl:=Option.some.inj hr
   have h5:=c0 0 _ _ h0 (List.getElem?_eq_getElem d0)
   rw [← e4] at h5
   have h6:=reads_take h5 3 (by omega)
   rw [show (ints L[0]).take 3=ints ((L[0]).take 3) from by simp [ints]] at h6
   rw [show ((L[0]).take 3).length=3 from by rw [List.length_take];omega]
   exact h6
  rw [List.getElem?_set_ne (fun h=>e0 h.symm)] at hu hr
  exact c0 k u r hu hr
 ·rcases List.mem_or_eq_of_mem_set hu with h1 | rfl
  ·obtain ⟨k,hk,rfl⟩:=List.getElem_of_mem h1
   exact b0 k _ (List.getElem?_eq_getElem hk)
  intro b o m c2 hv
  have:=b0 0 _ h0
  simp only [Value.slice.injEq] at hv
  exact this b o e t (by rw [hv.1])
 rcases List.mem_or_eq_of_mem_set hr with h1 | rfl
 ·exact h2 r h1
 rw [List.length_take];omega
end
end Go.Proofs.Ytkjedgnepnbkpaa
namespace Go.Proofs.Ytkjedgnepnbkpaa
open Go.RowKit
def CodeP (v a n d B g p:Nat) (w:World) (r:Ending) (w':World):Prop:=∃ (ua ub ul:Value) (nv na nl p':Nat),r=.returned (.agg #[ua,ub,ul])∧DrawC w' w.heap.size ua ub ul nv na nl∧nv≤v∧na≤a∧nl≤n∧Rnd w' B g p'∧p'≤p+d∧Chg (fun q=>q=g) w w'
structure RdC (w:World) (va vb vc:Value) (c:Cd):Prop where
 r:ReadsC w va vb vc c
 l0:c.vars.length≤1000
 l1:c.arrays.length≤1000
 l2:c.list.length≤1000
structure RdM (w:World) (vx vy:Value) (m:Mm):Prop where
 r:ReadsM w vx vy m
 l0:m.vals.length≤1010
 l1:m.arrs.length≤1010
 l2:pre2 m.arrs m.arrs.length≤5000
theorem RdC.of {w:World} {base:Nat} {va vb vl:Value} {nv na nl:Nat} (h:DrawC w base va vb vl nv na nl) (h0:nv≤1000) (h1:na≤1000) (h2:nl≤1000):∃ c:Cd,RdC w va vb vl c:=by
 obtain ⟨c,e1,e2,e3,hr⟩:=h.reads (by omega) (by omega) (by omega)
 exact ⟨c,hr,by omega,by omega,by omega⟩
theorem RdC.below {w w':World} {va vb vc:Value} {c:Cd} (h:RdC w va vb vc c) (hb:Below w.heap.size w w'):RdC w' va vb vc c:=⟨h.r.below hb,h.l0,h.l1,h.l2⟩
theorem RdM.below {w w':World} {vx vy:Value} {m:Mm} (h:RdM w vx vy m) (hb:Below w.heap.size w w'):RdM w' vx vy m:=⟨h.r.below hb,h.l0,h.l1,h.l2⟩
theorem RdM.of {w:World} {base:Nat} {vx vy:Value} {m:Mm} (h:DrM w base vx vy m):RdM w vx vy m:=⟨h.reads,h.l0,h.l1,by have:=h.pre;have:=h.l1;omega⟩
theorem l6Mutate_of (va vb vl:Value) (nv na nl base B g p:Nat) (w:World) (h:DrawC w base va vb vl nv na nl) (hg:g < base) (h0:nv≤1000) (h1:na≤1000) (h2:nl≤1000) (hR:Rnd w B g p) (hp:p+5≤1000000000) :
  Calls Try.prog 48 #[.pointer (some ⟨g,0,none⟩),.agg #[va,vb,vl]] w fun r w'=>CodeP nv na nl 5 B g p w r w':=by
 obtain ⟨c,e1,e2,e3,hr⟩:=h.reads (by omega) (by omega) (by omega)
 have a0:=h.lt
 have hq:∀ q,ReadB va vb vl c q→¬q=g:=by
  intro q hq
  have:OwnB va vb vl q:=by
   rcases hq with ⟨o,cp,_,e⟩ | ⟨o,cp,_,e⟩ | ⟨o,cp,_,e⟩
   ·exact Or.inl (by rw [e];rfl)
   ·exact Or.inr (Or.inl (by rw [e];rfl))
   exact Or.inr (Or.inr (by rw [e];rfl))
  have:=a0 q this;omega
 refine (l6Mutate_any va vb vl c B g p w hr hq (by omega) (by omega) (by omega) hR hp).mono ?_
 rintro r w' ⟨ua,ub,ul,nv',p',hr',hd,hv,hR',hp',hC⟩
 exact ⟨ua,ub,ul,nv',na,nl,p',hr',e2 ▸ e3 ▸ hd,by omega,Nat.le_refl _,Nat.le_refl _,hR',hp',hC⟩
def stN (c:Cd):Nat→Ms→Ms
 | 0,s=>s
 | n+1,s=>stp (insAt c (stN c n s).pc) (stN c n s)
def evN (c:Cd):Nat→Ms→List Ev
 | 0,_=>[]
 | n+1,s=>evN c n s++stEvs (insAt c (stN c n s).pc) (stN c n s)
def opAt (c:Cd) (s:Ms) (n:Nat):Int:=(insAt c (stN c n s).pc).op
def brN (c:Cd):Nat→Ms→Nat
 | 0,_=>0
 | n+1,s=>brN c n s+(if isBr (opAt c s n)=true then 1 else 0)
def fstH (p:Nat→Bool):Nat→Nat→Option Nat
 | 0,_=>none
 | f+1,k=>if p k=true then some k else fstH p f (k+1)
structure CI (W:World) (Bc X:Nat) (va vb vc:Value) (c:Cd) (s:Ms) (n:Nat):Prop where
 c0:W.cell? ⟨Bc,0,none⟩=some (.int .i64 (brN c n s))
 f0:W.frozen? ⟨Bc,0,none⟩=false
 x2:W.cell? ⟨X,2,none⟩=some vc
 rd:ReadsC W va vb vc c
theorem CI.keep {W W':World} {Bc X:Nat} {va vb vc:Value} {c:Cd} {s:Ms} {n:Nat} (h:CI W Bc X va vb vc c s n) {S:Nat→Prop} (hC:Chg S W W') (h1:¬S Bc) (h2:¬S X) (h3:∀ q,ReadB va vb vc c q→¬S q):CI W' Bc X va vb vc c s n:=
 ⟨Gc hC h.c0 h1,Gf hC (Lc h.c0) h.f0 h1,Gc hC h.x2 h2,h.rd.keep hC h3⟩
structure ReadsS (w:World) (vr vx vy:Value) (s:Ms):Prop where
 r:Reads w 1 vr s.regs.length (ints s.regs)
 m:ReadsM w vx vy s.mem
theorem ReadsS.below {w w':World} {vr vx vy:Value} {s:Ms} (h:ReadsS w vr vx vy s) (hb:Below w.heap.size w w'):ReadsS w' vr vx vy s:=⟨h.r.below hb,h.m.below hb⟩
def stopAt (c:Cd) (s:Ms) (n:Nat):Bool:=opAt c s n == 12||opAt c s n == 13
def pathN (c:Cd) (s:Ms):Nat:=match fstH (stopAt c s) 4 0 with | some n=>n+1 | none=>4
def pathE (c:Cd) (s:Ms):List Ev:=evN c (pathN c s) s
def othPc (x:Ins) (pc p:Int):Int:=if p=pc+1 then x.b else pc+1
def othS (c:Cd) (s:Ms):Ms:=⟨othPc (insAt c s.pc) s.pc (stPc (insAt c s.pc) s),(stp (insAt c s.pc) s).regs,(stp (insAt c s.pc) s).mem⟩
def wrAt (ws:List Bool) (n:Nat):Bool:=(ws[n]?).getD false
def spX (c:Cd) (ws:List Bool) (s:Ms) (n:Nat):List Ev:=if isBr (insAt c (stN c n s).pc).op=true then (if wrAt ws (brN c n s)=true then pathE c (othS c (stN c n s)) else []) else []
def spN (c:Cd) (ws:List Bool):Nat→Ms→List Ev
 | 0,_=>[]
 | n+1,s=>(spN c ws n s++stEvs (insAt c (stN c n s).pc) (stN c n s))++spX c ws s n
structure SI (W:World) (Bo Bc X Wb tb:Nat) (va vb vc:Value) (aw:Option Addr) (cw:Nat) (c:Cd) (ws:List Bool) (s:Ms) (n:Nat):Prop where
 o:∃ v,W.cell? ⟨Bo,0,none⟩=some v∧W.ownsRow tb 47 2 v (spN c ws n s).length (evs (spN c ws n s))
 of:W.frozen? ⟨Bo,0,none⟩=false
 c0:W.cell? ⟨Bc,0,none⟩=some (.int .i64 (brN c n s))
 cf:W.frozen? ⟨Bc,0,none⟩=false
 x:W.cell? ⟨X,0,none⟩=some va∧W.cell? ⟨X,1,none⟩=some vb∧W.cell? ⟨X,2,none⟩=some vc
 w0:W.cell? ⟨Wb,0,none⟩=some (.slice aw ws.length cw)
 ws:Reads W 1 (.slice aw ws.length cw) ws.length (bools ws)
theorem SI.keep {W W':World} {Bo Bc X Wb tb:Nat} {va vb vc:Value} {aw:Option Addr} {cw:Nat} {c:Cd} {ws:List Bool} {s:Ms} {n:Nat} (h:SI W Bo Bc X Wb tb va vb vc aw cw c ws s n) {S:Nat→Prop} (hC:Chg S W W')
  (h1:¬S Bo) (h2:¬S Bc) (h3:¬S X) (h4:¬S Wb) (h5:∀ q,tb≤q→¬S q) (h6:∀ g o cc,0 < ws.length→Value.slice aw ws.length cw=.slice (some ⟨g,o,none⟩) ws.length cc→¬S g):SI W' Bo Bc X Wb tb va vb vc aw cw c ws s n:=by
 obtain ⟨v,o1,o2⟩:=h.o
 exact ⟨⟨v,Gc hC o1 h1,Ow o2 hC (fun q hq=>h5 q (o2.lt q hq).1)⟩,Gf hC (Lc o1) h.of h1,Gc hC h.c0 h2,Gf hC (Lc h.c0) h.cf h2,⟨Gc hC h.x.1 h3,Gc hC h.x.2.1 h3,Gc hC h.x.2.2 h3⟩,Gc hC h.w0 h4,h.ws.keep hC h6⟩
end Go.Proofs.Ytkjedgnepnbkpaa
