/-
 Parts of the proofs of the laws FnExactProductProgram.
-/
import Derived.Test.YtlckklglbodgbaaNE5
set_option maxHeartbeats 12800000
set_option maxRecDepth 100000
set_option linter.all false
namespace Go.Proofs.Ytlckklglbodgbaa
open Go.RowKit
mutual
theorem allS_fin (xs ys:List Int):∀ (s:St) (pc:Int),allS xs ys true pc s=finS xs ys pc s
 | .mk k t ix v c b e,pc=>by
  rw [allS_eq];simp only [finS,St.body,St.els];rw [allL_fin xs ys b,allL_fin xs ys e]
theorem allL_fin (xs ys:List Int):∀ (L:List St) (pc:Int),allL xs ys true pc L=finL xs ys pc L
 | [],_=>rfl
 | s::l,pc=>by
  have h:allL xs ys true pc (s::l)=(allS xs ys true pc s&&allL xs ys true pc l):=by simp only [allL,allS,allX,eachL,List.all_append]
  rw [h,allS_fin xs ys s,allL_fin xs ys l];rfl
end
theorem own_weak {xs ys:List Int} {s:St} {pc:Int} (h:ownF xs ys s pc true=0):ownF xs ys s pc false=0:=by
 unfold ownF at *
 by_cases h1:s.k=1∧floB (lbo (labE xs ys s.val) pc) (gi xs s.t)=false
 ·rw [if_pos h1] at h;cases h
 rw [if_neg h1] at h ⊢;by_cases h2:s.k=2∧floB (lbo (lbo (labE xs ys s.val) (labE xs ys s.ix)) pc) (gi ys s.t)=false
 ·rw [if_pos h2] at h;cases h
 rw [if_neg h2] at h ⊢;by_cases h3:s.k=5∧(truB (labE xs ys s.val)&&pc == 0)=false
 ·rw [if_pos h3] at h;cases h
 rw [if_neg h3];simp
theorem ct_iff (xs ys:List Int) (L:List St):ctB xs ys L=true ↔ pvR xs ys L=true∧allL xs ys true 0 L=true:=by
 unfold ctB;rw [Bool.and_eq_true,allL_fin]
theorem ct_weak {xs ys:List Int} {L:List St} (h:ctB xs ys L=true):pvR xs ys L=true∧allL xs ys false 0 L=true:=by
 rw [ct_iff] at h;refine ⟨h.1,List.all_eq_true.2 (fun x hx=>decide_eq_true (own_weak ?_))⟩;exact of_decide_eq_true (List.all_eq_true.1 h.2 x hx)
def CkX (xs ys:List Int) (st:Bool) (L:List St) (w:World) (r:Ending) (w':World):Prop:=∃ c a:Int,r=.returned (.tuple #[.int .i64 c,.int .i64 a])∧(c=0 ↔ pvR xs ys L=true∧allL xs ys st 0 L=true)∧Below w.heap.size w w'
def CtP (xs ys:List Int) (L:List St) (w:World) (r:Ending) (w':World):Prop:=∃ c a:Int,r=.returned (.tuple #[.int .i64 c,.int .i64 a])∧(c=0 ↔ ctB xs ys L=true)∧Below w.heap.size w w'
theorem l4CheckX_any (xs ys:List Int) (A:Nat→Prop) (D:Nat) (va vb u:Value) (L:List St) (st:Bool) (w:World) (hr:Reads w 1 va xs.length (ints xs)) (hs:Reads w 1 vb ys.length (ints ys)) (hx:BlAt w A D u L) (hn:stNs L≤1048576) :
  Calls Try.prog 57 #[.agg #[va,vb,u],.bool st] w fun r w'=>CkX xs ys st L w r w':=by
 obtain ⟨pv,cv,rfl⟩:=reads_shape hr;obtain ⟨pa,ca,rfl⟩:=reads_shape hs;obtain ⟨pu,cu,rfl⟩:=RowOf.shape hx;have HV:=Hi (fun W (hW:Below w.heap.size w W)=>sProgramValid_any _ _ xs ys A D _ L W (hr.below hW) (hs.below hW) (hx.below hW) hn);have HB:=Hi (fun (h:pvR xs ys L=true) W (hW:Below w.heap.size w W)=>l4BlockX_any xs ys pv pa pu cv ca L.length cu st 5 A D _ L 0 0 W (hr.below hW) (hs.below hW) (hx.below hW) (by rw [pvR_spec] at h;simp only [Bool.and_eq_true] at h;exact h.2.1));clear hr hs hx hn;generalize hX:pvR xs ys L=X at *
 have HX:=Hi hX;clear hX;go_enter Try.func57,Try.ntmps57
 go_wp2_with fail
 refine (HV.out _ (bal (Bs w) (.cells #[.slice pv xs.length cv,.slice pa ys.length ca,.slice pu L.length cu] 26))).mono ?_;rintro e w1 ⟨rfl,hb⟩;have d0:=hb.size;simp only [Sa] at d0;have e0:=Bb (Bk.n3 (w.heap.size)) hb;have a0:=btr (bal (Bs w) (.cells #[.slice pv xs.length cv,.slice pa ys.length ca,.slice pu L.length cu] 26)) hb;clear hb;have o0:=Bk.lz e0
 cases X with
 | false =>
  have tt:=a0;go_wp2
  exact bodyPost_ret (v:=.tuple #[.int .i64 5,.int .i64 (-1)]) (by simp [results,Try.results57,go_sem]) rfl (by exact (by unfold CkX;exact ⟨_,_,rfl,⟨fun h=>absurd h (by omega),fun h=>by rw [HX.out] at h;cases h.1⟩,tt⟩))
 | true =>
  obtain ⟨i0,l0,j0,m0,k0,n0⟩:=Bk.h3 e0;go_wp2_with fail
  refine (HB.out (by first | rfl | trivial) _ a0).mono ?_;rintro e w2 ⟨c,a,rfl,f0,b0⟩;have c0:=Hi f0;clear f0;have g0:=b0.size;clear l0 i0 m0 j0 n0 k0;replace a0:=btr a0 b0;by_cases hc:c=0
  ·have h0:(c == 0)=true:=by simp [hc]
   clear hc;have tt:=a0;go_wp2
   exact bodyPost_ret (v:=.tuple #[.int .i64 c,.int .i64 (-1)]) (by simp [results,Try.results57,go_sem]) rfl (by exact (by unfold CkX;exact ⟨_,_,rfl,⟨fun h=>⟨HX.out,c0.out.1 h⟩,fun h=>c0.out.2 h.2⟩,tt⟩))
  have h0:(c == 0)=false:=by simp [hc]
  clear hc;have tt:=a0;go_wp2
  exact bodyPost_ret (v:=.tuple #[.int .i64 c,.int .i64 a]) (by simp [results,Try.results57,go_sem]) rfl (by exact (by unfold CkX;exact ⟨_,_,rfl,⟨fun h=>⟨HX.out,c0.out.1 h⟩,fun h=>c0.out.2 h.2⟩,tt⟩))
theorem sCT_any (xs ys:List Int) (A:Nat→Prop) (D:Nat) (va vb u:Value) (L:List St) (w:World) (hr:Reads w 1 va xs.length (ints xs)) (hs:Reads w 1 vb ys.length (ints ys)) (hx:BlAt w A D u L) (hn:stNs L≤1048576) :
  Calls Try.prog 29 #[.agg #[va,vb,u]] w fun r w'=>CtP xs ys L w r w':=by
 obtain ⟨pv,cv,rfl⟩:=reads_shape hr;obtain ⟨pa,ca,rfl⟩:=reads_shape hs;obtain ⟨pu,cu,rfl⟩:=RowOf.shape hx;have HV:=Hi (fun st W (hW:Below w.heap.size w W)=>l4CheckX_any xs ys A D _ _ _ L st W (hr.below hW) (hs.below hW) (hx.below hW) hn);clear hr hs hx hn;go_enter Try.func29,Try.ntmps29
 go_wp2_with fail
 refine (HV.out _ _ (bal (Bs w) (.cells #[.slice pv xs.length cv,.slice pa ys.length ca,.slice pu L.length cu] 26))).mono ?_;rintro e w1 ⟨c,a,rfl,hc,hb⟩;have h0:=Hi hc;clear hc;have c0:=hb.size;simp only [Sa] at c0;have e0:=Bb (Bk.n3 (w.heap.size)) hb;have b0:=btr (bal (Bs w) (.cells #[.slice pv xs.length cv,.slice pa ys.length ca,.slice pu L.length cu] 26)) hb;clear hb;have p0:=Bk.lz e0;by_cases hc:c=0
 ·have i0:(c != 0)=false:=by simp [hc]
  clear hc;obtain ⟨j0,m0,k0,n0,l0,o0⟩:=Bk.h3 e0;go_wp2_with fail
  refine (HV.out _ _ b0).mono ?_;rintro e w2 ⟨c2,a2,rfl,f0,a0⟩;have d0:=Hi f0;clear f0;have g0:=a0.size;clear m0 j0 n0 k0 o0 l0;replace b0:=btr b0 a0;have tt:=b0;go_wp2
  exact bodyPost_ret (v:=.tuple #[.int .i64 c2,.int .i64 a2]) (by simp [results,Try.results29,go_sem]) rfl (by exact (by unfold CtP;exact ⟨_,_,rfl,⟨fun h=>(ct_iff _ _ _).2 (d0.out.1 h),fun h=>d0.out.2 ((ct_iff _ _ _).1 h)⟩,tt⟩))
 have i0:(c != 0)=true:=by simp [hc]
 have tt:=b0;go_wp2
 exact bodyPost_ret (v:=.tuple #[.int .i64 c,.int .i64 a]) (by simp [results,Try.results29,go_sem]) rfl (by exact (by unfold CtP;exact ⟨_,_,rfl,⟨fun h=>absurd h hc,fun h=>h0.out.2 (ct_weak h)⟩,tt⟩))
theorem iSecret_any (a:Int) (h:IsLb a) (w:World):Calls Try.prog 90 #[.int .i64 a] w fun e w'=>e=.returned (.bool (secB a))∧Below w.heap.size w w':=by
 rcases h.cases with rfl | rfl | rfl | rfl
 all_goals
  go_enter Try.func90,Try.ntmps90
  go_wp2
  go_ret
  exact ⟨rfl,Bs _⟩
theorem iTrusted_any (a:Int) (h:IsLb a) (w:World):Calls Try.prog 109 #[.int .i64 a] w fun e w'=>e=.returned (.bool (truB a))∧Below w.heap.size w w':=by
 rcases h.cases with rfl | rfl | rfl | rfl
 all_goals
  go_enter Try.func109,Try.ntmps109
  go_wp2
  go_ret
  exact ⟨rfl,Bs _⟩
theorem iFlows_any (a b:Int) (h:IsLb a) (k:IsLb b) (w:World):Calls Try.prog 107 #[.int .i64 a,.int .i64 b] w fun e w'=>e=.returned (.bool (floB a b))∧Below w.heap.size w w':=by
 rcases h.cases with rfl | rfl | rfl | rfl <;> rcases k.cases with rfl | rfl | rfl | rfl
 all_goals
  go_enter Try.func107,Try.ntmps107
  go_wp2
  go_ret
  exact ⟨rfl,Bs _⟩
theorem lbo_swap {a b c:Int} (h:IsLb a) (k:IsLb b) (l:IsLb c):lbo (lbo a b) c=lbo (lbo a c) b:=by
 rcases h.cases with rfl | rfl | rfl | rfl <;> rcases k.cases with rfl | rfl | rfl | rfl <;> rcases l.cases with rfl | rfl | rfl | rfl <;> decide
end Go.Proofs.Ytlckklglbodgbaa
