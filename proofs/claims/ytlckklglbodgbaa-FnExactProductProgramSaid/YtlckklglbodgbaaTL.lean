/-
 Parts of the proofs of the laws FnExactProductProgram.
-/
import Derived.Test.YtlckklglbodgbaaGC
set_option linter.all false
namespace Go.Proofs.Ytlckklglbodgbaa
open Go.RowKit
section
variable {P:Program} {ops:Array Oper} {Q:Exit→Act→World→Prop} {md:Region.Mode} {S:World→Prop}
def wpAnyL (P:Program) (md:Region.Mode) (ops:Array Oper) (Q:Exit→Act→World→Prop) (S:World→Prop) (k:Nat):Nat→Array Bool→Act→World→Prop
 | 0,listed,a,w=>Region.ready md ops listed=[]∧Q .normal a w
 | fuel+1,listed,a,w =>
  (Region.ready md ops listed=[]→Q .normal a w) ∧
  ∀ i ∈ Region.ready md ops listed,wpOp P ops Q i (fun a' w'=>((listed.setIfInBounds i true).getD k true=false→S w')∧wpAnyL P md ops Q S k fuel (listed.setIfInBounds i true) a' w') a w
theorem wpAny_of_until {k:Nat}:∀ (fuel:Nat) (listed:Array Bool) (a:Act) (w:World),wpAnyL P md ops Q S k fuel listed a w→wpAny P md ops Q fuel listed a w
 | 0,_,_,_,h=>h
 | fuel+1,_,_,_,h=>⟨h.1,fun i hi=>wpOp_mono (fun a' w' h'=>wpAny_of_until fuel _ a' w' h'.2) (h.2 i hi)⟩
theorem getD_keep {listed:Array Bool} {i k:Nat} (h:listed.getD k true=true):(listed.setIfInBounds i true).getD k true=true:=by
 rcases Nat.lt_or_ge k listed.size with h' | h'
 ·by_cases hik:i=k
  ·subst hik;simp [h']
  rw [getD_set_ne true hik];exact h
 have h2:(listed.setIfInBounds i true).size≤k:=by simpa using h'
 simp [Array.getElem?_eq_none h2]
theorem wpAnyL_behind {k:Nat}:∀ (fuel:Nat) (listed:Array Bool) (a:Act) (w:World),listed.getD k true=true→wpAnyH P md ops Q (fun _=>True) fuel listed a w→wpAnyL P md ops Q S k fuel listed a w
 | 0,_,_,_,_,h=>h
 | fuel+1,listed,_,_,hk,h=>⟨h.1,fun i hi=>wpOp_mono (fun a' w' h'=>⟨fun e=>(by rw [getD_keep hk] at e;cases e),wpAnyL_behind fuel _ a' w' (getD_keep hk) h'.2⟩) (h.2 i hi)⟩
def waitsFor (md:Region.Mode) (ops:Array Oper) (k i:Nat):Bool:=match ops[k]? with
 | some o=>o.after.any (fun e=>Region.binds md e&&e.on == i)
 | none=>false
theorem waitsFor_spec {k i:Nat} (h:waitsFor md ops k i=true) {listed:Array Bool} (hk:k ∈ Region.ready md ops listed):listed.getD i false=true:=by
 obtain ⟨_,o,ho,a0⟩:=mem_ready.1 hk;unfold waitsFor at h
 rw [ho] at h;obtain ⟨n,hn,h2,h3⟩:∃ n,∃ hn:n < o.after.size,Region.binds md o.after[n]=true∧o.after[n].on=i:=by simpa using h
 have:=a0 _ (Array.getElem_mem hn) h2
 rw [h3] at this;exact this
theorem wpAnyL_first {k i:Nat} {oi:Oper} {v:Value} (hi:ops[i]? = some oi) (hsel:∀ (j:Nat) (o:Oper) cs b,ops[j]? = some o→o.op≠.select cs b)
  (hQ:∀ c a w,Q (.panic c) (a.put oi.dst v) w→Q (.panic c) a w) (hw:waitsFor md ops k i=true) :
  ∀ (fuel:Nat) (listed:Array Bool) (a:Act) (w:World),
   (∀ j oj,ops[j]? = some oj→j≠i→listed.getD j true=false→(∀ e ∈ oj.after,Region.binds md e=true→e.on≠i)→oi.apart ops oj=true) →
   i ∈ Region.ready md ops listed→YieldsIf P ops S oi v a→S w→listed.getD k true=false →
   wpAnyL P md ops Q S k fuel (listed.setIfInBounds i true) (a.put oi.dst v) w→wpAnyL P md ops Q S k (fuel+1) listed a w:=by
 intro fuel
 induction fuel with
 | zero =>
  intro listed a w _ hr hy hS _ H;refine ⟨fun h=>(by rw [h] at hr;cases hr),fun j hj=>?_⟩;by_cases hji:j=i
  ·subst hji;exact hy.wpOp hi hS ⟨fun _=>hS,H⟩
  have:=ready_mono hj hji
  rw [H.1] at this;cases this
 | succ fuel ih =>
  intro listed a w a0 hr hy hS i0 H;refine ⟨fun h=>(by rw [h] at hr;cases hr),fun j hj=>?_⟩;by_cases hji:j=i
  ·subst hji;exact hy.wpOp hi hS ⟨fun _=>hS,H⟩
  have h1:=H.2 j (ready_mono hj hji);have h0:=(mem_ready.1 hr).1
  have d0:listed.getD i false=true→False:=fun h1=>by
   rcases Nat.lt_or_ge i listed.size with h' | h'
   ·simp [h'] at h0 h1;rw [h0] at h1;cases h1
   simp [Array.getElem?_eq_none h'] at h1
  obtain ⟨b0,oj,f0,c0⟩:=mem_ready.1 hj
  have e0:∀ e ∈ oj.after,Region.binds md e=true→e.on≠i:=fun e he hb heq=>by
   have h1:=c0 e he hb;rw [heq] at h1;exact d0 h1
  have g0:j≠k:=fun e=>d0 (waitsFor_spec hw (e ▸ hj))
  have h2:=wpOp_putIf f0 (a0 j oj f0 hji b0 e0) (fun cs b=>hsel i oi cs b hi) (fun cs b=>hsel j oj cs b f0) hQ hy h1
  have hfree':∀ m om,ops[m]? = some om→m≠i→(listed.setIfInBounds j true).getD m true=false →
    (∀ e ∈ om.after,Region.binds md e=true→e.on≠i)→oi.apart ops om=true:=fun m om hm hmi hun hno=>by
   refine a0 m om hm hmi ?_ hno;by_cases hjm:j=m
   ·subst hjm;exact b0
   rw [getD_set_ne true hjm] at hun;exact hun
  have j0:i≠k:=fun e=>by
   subst e;exact d0 (waitsFor_spec hw hr)
  have hf:((listed.setIfInBounds i true).setIfInBounds j true).getD k true=false:=by
   rw [getD_set_ne true g0,getD_set_ne true j0];exact i0
  refine wpOp_mono (fun a' w' h3=>⟨fun _=>h3.2.1 hf,ih (listed.setIfInBounds j true) a' w' hfree' (ready_mono hr (Ne.symm hji)) h3.1 (h3.2.1 hf) (by rw [getD_set_ne true g0];exact i0) ?_⟩) h2;rw [Array.setIfInBounds_comm _ _ hji];exact h3.2.2
theorem wpAnyL_free {k i:Nat} {oi:Oper} {v:Value} (hi:ops[i]? = some oi) (hsel:∀ (j:Nat) (o:Oper) cs b,ops[j]? = some o→o.op≠.select cs b)
  (hQ:∀ c a w,Q (.panic c) (a.put oi.dst v) w→Q (.panic c) a w) (hik:i≠k) :
  ∀ (fuel:Nat) (listed:Array Bool) (a:Act) (w:World),
   (∀ j oj,ops[j]? = some oj→j≠i→listed.getD j true=false→(∀ e ∈ oj.after,Region.binds md e=true→e.on≠i)→oi.apart ops oj=true) →
   i ∈ Region.ready md ops listed→YieldsIf P ops (fun _=>True) oi v a→(listed.getD k true=false→S w) →
   wpAnyL P md ops Q S k fuel (listed.setIfInBounds i true) (a.put oi.dst v) w→wpAnyL P md ops Q S k (fuel+1) listed a w:=by
 intro fuel
 induction fuel with
 | zero =>
  intro listed a w _ hr hy hS H;refine ⟨fun h=>(by rw [h] at hr;cases hr),fun j hj=>?_⟩;by_cases hji:j=i
  ·subst hji;exact hy.wpOp hi trivial ⟨fun e=>hS (by rw [getD_set_ne true hik] at e;exact e),H⟩
  have:=ready_mono hj hji
  rw [H.1] at this;cases this
 | succ fuel ih =>
  intro listed a w a0 hr hy hS H;refine ⟨fun h=>(by rw [h] at hr;cases hr),fun j hj=>?_⟩;by_cases hji:j=i
  ·subst hji;exact hy.wpOp hi trivial ⟨fun e=>hS (by rw [getD_set_ne true hik] at e;exact e),H⟩
  have h1:=H.2 j (ready_mono hj hji);have h0:=(mem_ready.1 hr).1
  have f0:listed.getD i false=true→False:=fun h1=>by
   rcases Nat.lt_or_ge i listed.size with h' | h'
   ·simp [h'] at h0 h1;rw [h0] at h1;cases h1
   simp [Array.getElem?_eq_none h'] at h1
  obtain ⟨b0,oj,e0,c0⟩:=mem_ready.1 hj
  have d0:∀ e ∈ oj.after,Region.binds md e=true→e.on≠i:=fun e he hb heq=>by
   have h1:=c0 e he hb;rw [heq] at h1;exact f0 h1
  have h2:=wpOp_putIf e0 (a0 j oj e0 hji b0 d0) (fun cs b=>hsel i oi cs b hi) (fun cs b=>hsel j oj cs b e0) hQ hy h1
  have hfree':∀ m om,ops[m]? = some om→m≠i→(listed.setIfInBounds j true).getD m true=false →
    (∀ e ∈ om.after,Region.binds md e=true→e.on≠i)→oi.apart ops om=true:=fun m om hm hmi hun hno=>by
   refine a0 m om hm hmi ?_ hno;by_cases hjm:j=m
   ·subst hjm;exact b0
   rw [getD_set_ne true hjm] at hun;exact hun
  have hf:((listed.setIfInBounds i true).setIfInBounds j true).getD k true=(listed.setIfInBounds j true).getD k true:=by
   rw [Array.setIfInBounds_comm _ _ (Ne.symm hji),getD_set_ne true hik]
  refine wpOp_mono (fun a' w' h3=>⟨fun e=>h3.2.1 (by rw [hf];exact e),ih (listed.setIfInBounds j true) a' w' hfree' (ready_mono hr (Ne.symm hji)) h3.1 (fun e=>h3.2.1 (by rw [hf];exact e)) ?_⟩) h2;rw [Array.setIfInBounds_comm _ _ hji];exact h3.2.2
theorem wpAnyL_done {k:Nat} {listed:Array Bool} {a:Act} {w:World} (hr:Region.ready md ops listed=[]) (h:Q .normal a w) :
  ∀ fuel,wpAnyL P md ops Q S k fuel listed a w
 | 0=>⟨hr,h⟩
 | _+1=>⟨fun _=>h,by rw [hr];simp⟩
theorem wp_region_until {id:Nat} {a:Act} {w:World} (k:Nat) (hm:P.follows .mixedOrders=true) (hS:S w.drew)
  (h:S w.drew→wpAnyL P .any ops Q S k ops.size (Array.replicate ops.size false) a w.drew):(Code.region id ops true).wp P Q a w:=
 wp_region_any hm (wpAny_of_until _ _ _ _ (h hS))
end
theorem Lq1 {P:Program} {ops:Array Oper} {Q:Exit→Act→World→Prop} {md:Region.Mode} {S:World→Prop} {k:Nat} {oi:Oper} {fuel:Nat} {listed:Array Bool} {a:Act} {w:World} (i d:Nat) (hi:ops[i]? = some oi) (hd:oi.dst=some d) (v:Value)
  (hy:∀ w,S w→(execOp a.eval oi).run P w=.ok (.value v) w)
  (h:wpAnyL P md ops Q S k fuel (listed.setIfInBounds i true) (a.put (some d) v) w)
  (hw:Region.wanted oi (yielded ops a.tmps)=true:=by rfl)
  (hs:Region.noSelect ops=true:=by kernel_rfl) (hf:Region.free md ops listed i=true:=by kernel_rfl) (hr:(Region.ready md ops listed).contains i=true:=by kernel_rfl)
  (hk:waitsFor md ops k i=true:=by kernel_rfl) (hu:listed.getD k true=false:=by kernel_rfl)
  (hQ:∀ c a w,Q (.panic c) (a.put oi.dst v) w→Q (.panic c) a w:=by intro _ _ _ h;exact h) (hS:S w:=by assumption):wpAnyL P md ops Q S k (fuel+1) listed a w:=
 wpAnyL_first hi (Region.noSelect_spec hs) hQ hk fuel listed a w (Region.free_spec hi hf) (by simpa using hr) (Or.inl ⟨hw,hy⟩) hS hu (by rw [hd];exact h)
theorem Lrdy {P:Program} {md:Region.Mode} {ops:Array Oper} {Q:Exit→Act→World→Prop} {S:World→Prop} {k:Nat} {fuel:Nat} {listed:Array Bool} {a:Act} {w:World} {o:Oper} (i:Nat) (ho:ops[i]? = some o)
  (h:∀ K':Act→World→Prop,Shut (∀ a w,S w→(S w→wpAnyL P md ops Q S k fuel (listed.setIfInBounds i true) a w)→K' a w)→if Region.wanted o (yielded ops a.tmps)=true then Oper.wp P o a w K' Q else K' (a.put o.dst undef) w)
  (hr:Region.ready md ops listed=[i]:=by kernel_rfl):wpAnyL P md ops Q S k (fuel+1) listed a w:=
 ⟨fun e=>(by rw [hr] at e;cases e),fun j hj=>by
  rw [hr,List.mem_singleton] at hj;subst hj;exact wpOp_step ho (fun K' hK=>h K' (fun a w hS hW=>hK a w ⟨fun _=>hS,hW hS⟩))⟩
theorem Lend {P:Program} {md:Region.Mode} {ops:Array Oper} {Q:Exit→Act→World→Prop} {S:World→Prop} {fuel:Nat} {listed:Array Bool} {a:Act} {w:World} {o:Oper} (i:Nat) (ho:ops[i]? = some o)
  (h:∀ K':Act→World→Prop,Shut (∀ a w,True→(True→wpAnyH P md ops Q (fun _=>True) fuel (listed.setIfInBounds i true) a w)→K' a w)→if Region.wanted o (yielded ops a.tmps)=true then Oper.wp P o a w K' Q else K' (a.put o.dst undef) w)
  (hr:Region.ready md ops listed=[i]:=by kernel_rfl) (hu:(listed.setIfInBounds i true).getD i true=true:=by kernel_rfl):wpAnyL P md ops Q S i (fuel+1) listed a w:=
 ⟨fun e=>(by rw [hr] at e;cases e),fun j hj=>by
  rw [hr,List.mem_singleton] at hj;subst hj;exact wpOp_step ho (fun K' hK=>h K' (fun a w _ hW=>hK a w ⟨fun e=>(by rw [hu] at e;cases e),wpAnyL_behind _ _ _ _ hu (hW trivial)⟩))⟩
end Go.Proofs.Ytlckklglbodgbaa
namespace Go.Proofs.Ytlckklglbodgbaa
open Go.RowKit
theorem Rgl {P:Program} {id:Nat} {ops:Array Oper} {Q:Exit→Act→World→Prop} {S:World→Prop} {a:Act} {w:World} (k:Nat) (hS:∀ W,Below w.heap.size w W→S W)
  (h:∀ W,Below w.heap.size w W→S W→wpAnyL P .any ops (NoPanic Q) S k ops.size (Array.replicate ops.size false) a W) (hm:P.follows .mixedOrders=true:=by kernel_rfl):(Code.region id ops true).wp P Q a w:=
 wp_region_noPanic (wp_region_until k hm (hS _ (Bd (Bs w))) (fun h2=>h _ (Bd (Bs w)) h2))
theorem Rgh {P:Program} {id:Nat} {ops:Array Oper} {Q:Exit→Act→World→Prop} {S:World→Prop} {a:Act} {w:World} (hS:∀ W,Below w.heap.size w W→S W)
  (h:∀ W,Below w.heap.size w W→S W→wpAnyH P .any ops (NoPanic Q) S ops.size (Array.replicate ops.size false) a W) (hm:P.follows .mixedOrders=true:=by kernel_rfl):(Code.region id ops true).wp P Q a w:=
 wp_region_noPanic (wp_region_held_drew hm (hS _ (Bd (Bs w))) (fun h2=>h _ (Bd (Bs w)) h2))
theorem Bk.kc {w w':World} {b:Nat} {vs:List Value} (h:Bk w b vs) (hb:Below w.heap.size w w') (j:Nat) {v:Value} (hv:vs[j]? = some v:=by rfl):w'.cell? ⟨b,j,none⟩=some v:=Kc hb (h.cell j hv)
theorem Bk.ce {w:World} {b:Nat} {vs:List Value} (h:Bk w b vs) (j:Nat) {v:Value} (hv:vs[j]? = some v:=by rfl):w.cell? ⟨b,j,none⟩=some v:=h.cell j hv
theorem Bk.n2 {w:World} {x0 x1:Value} {t:TypeId} (b:Nat) (e:b=w.heap.size:=by simp):Bk (w.alloc (.cells #[x0,x1] t)) b [x0,x1]:=Bk.nw e rfl
theorem Bk.e3 {w:World} {b:Nat} {l:List Value} {x0 x1 x2:Value} (h:Bk w b (x0::x1::x2::l)):w.cell? ⟨b,0,none⟩=some x0∧w.cell? ⟨b,1,none⟩=some x1∧w.cell? ⟨b,2,none⟩=some x2:=⟨h.cell 0 rfl,h.cell 1 rfl,h.cell 2 rfl⟩
theorem Bk.d3 {w:World} {b:Nat} {l:List Value} {w':World} {x0 x1 x2:Value} (h:Bk w b (x0::x1::x2::l)) (hb:Below w.heap.size w w'):w'.cell? ⟨b,0,none⟩=some x0∧w'.cell? ⟨b,1,none⟩=some x1∧w'.cell? ⟨b,2,none⟩=some x2:=⟨h.kc hb 0,h.kc hb 1,h.kc hb 2⟩
theorem Bk.t3 {w:World} {b:Nat} {x0 x1 x2:Value} (h:Bk w b [x0,x1,x2]) (v0 v1 v2:Value):Bk (((w.setCell ⟨b,0,none⟩ v0).setCell ⟨b,1,none⟩ v1).setCell ⟨b,2,none⟩ v2) b [v0,v1,v2]:=(Bk.at (Bk.at (Bk.at h 0 v0) 1 v1) 2 v2)
theorem Bk.n3 {w:World} {x0 x1 x2:Value} {t:TypeId} (b:Nat) (e:b=w.heap.size:=by simp):Bk (w.alloc (.cells #[x0,x1,x2] t)) b [x0,x1,x2]:=Bk.nw e rfl
theorem Bk.t11 {w:World} {b:Nat} {x0 x1 x2 x3 x4 x5 x6 x7 x8 x9 x10:Value} (h:Bk w b [x0,x1,x2,x3,x4,x5,x6,x7,x8,x9,x10]) (v0 v1 v2 v3 v4 v5 v6 v7 v8 v9 v10:Value):Bk (((((((((((w.setCell ⟨b,0,none⟩ v0).setCell ⟨b,1,none⟩ v1).setCell ⟨b,2,none⟩ v2).setCell ⟨b,3,none⟩ v3).setCell ⟨b,4,none⟩ v4).setCell ⟨b,5,none⟩ v5).setCell ⟨b,6,none⟩ v6).setCell ⟨b,7,none⟩ v7).setCell ⟨b,8,none⟩ v8).setCell ⟨b,9,none⟩ v9).setCell ⟨b,10,none⟩ v10) b [v0,v1,v2,v3,v4,v5,v6,v7,v8,v9,v10]:=(Bk.at (Bk.at (Bk.at (Bk.at (Bk.at (Bk.at (Bk.at (Bk.at (Bk.at (Bk.at (Bk.at h 0 v0) 1 v1) 2 v2) 3 v3) 4 v4) 5 v5) 6 v6) 7 v7) 8 v8) 9 v9) 10 v10)
theorem Bk.n11 {w:World} {x0 x1 x2 x3 x4 x5 x6 x7 x8 x9 x10:Value} {t:TypeId} (b:Nat) (e:b=w.heap.size:=by simp):Bk (w.alloc (.cells #[x0,x1,x2,x3,x4,x5,x6,x7,x8,x9,x10] t)) b [x0,x1,x2,x3,x4,x5,x6,x7,x8,x9,x10]:=Bk.nw e rfl
end Go.Proofs.Ytlckklglbodgbaa
