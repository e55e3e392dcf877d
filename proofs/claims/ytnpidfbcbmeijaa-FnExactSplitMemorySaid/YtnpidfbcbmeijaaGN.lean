/-
 Parts of the proofs of the laws FnExactSplitMemory.
-/
import Derived.Test.YtnpidfbcbmeijaaGM
import Derived.Test.YtnpidfbcbmeijaaGO
import Derived.Test.YtnpidfbcbmeijaaQG
set_option linter.all false
namespace Go.Proofs.Ytnpidfbcbmeijaa
open Go.RowKit
theorem stOk_bodies {nv na d:Nat} {s:St} (h:stOk nv na (d+1) s=true):s.body.all (stOk nv na d)=true∧s.els.all (stOk nv na d)=true:=by
 obtain ⟨k,t,ix,a0,c,body,els⟩:=s;by_cases h1:(k == 1||k == 5)=true
 ·rw [stOk_as h1] at h;simp only [Bool.and_eq_true] at h;exact h.2
 by_cases h2:(k == 2)=true
 ·rw [stOk_st h2] at h;simp only [Bool.and_eq_true] at h;exact h.2
 by_cases h3:(k == 3)=true
 ·rw [stOk_if h3] at h;simp only [Bool.and_eq_true] at h;exact h.2
 by_cases h4:(k == 4)=true
 ·rw [stOk_re h4] at h;simp only [Bool.and_eq_true] at h;exact h.2
 rw [stOk_no (by simp at h1 h2 h3 h4;omega)] at h;cases h
theorem all_zero {nv na:Nat} {L:List St} (h:L.all (stOk nv na 0)=true):L=[]:=by
 cases L with
 | nil=>rfl
 | cons a l=>simp [stOk] at h
theorem map_sum_congr {α:Type} {f g:α→Int} {l:List α} (h:∀ x ∈ l,f x=g x):(l.map f).sum=(l.map g).sum:=by rw [List.map_congr_left h]
theorem sum_one {α:Type} (f:α→Int) (l:List α):(l.map (fun x=>1+f x)).sum=l.length+(l.map f).sum:=by
 induction l with
 | nil=>simp
 | cons x l ih=>simp only [List.map_cons,List.sum_cons,List.length_cons];rw [ih];omega
theorem szB_blC {nv na:Nat}:∀ (d:Nat) (L:List St),L.all (stOk nv na (d+1))=true→szB (d+1) L=(L.map (stC (d+1))).sum:=by
 intro d
 induction d with
 | zero =>
  intro L h
  have:∀ s ∈ L,stC 1 s=1+0:=fun s hs=>by
   have h1:=stOk_bodies (List.all_eq_true.1 h s hs);simp only [stC];rw [all_zero h1.1,all_zero h1.2];rfl
  have h0:∀ l:List St,(l.map (fun _=>(0:Int))).sum=0:=fun l=>by induction l with | nil=>rfl | cons x l ih=>simp only [List.map_cons,List.sum_cons,ih];rfl
  rw [map_sum_congr this,sum_one (fun _=>0),h0];simp [szB]
 | succ d ih =>
  intro L h
  have:∀ s ∈ L,stC (d+2) s=1+(szB (d+1) s.body+szB (d+1) s.els):=fun s hs=>by
   have h1:=stOk_bodies (List.all_eq_true.1 h s hs);rw [ih _ h1.1,ih _ h1.2];rfl
  rw [map_sum_congr this,sum_one];rfl
theorem pvR_spec (xs ys:List Int) (L:List St):pvR xs ys L=(declOk xs ys&&(L.all (stOk xs.length ys.length 5)&&decide (szB 5 L≤60))):=by
 unfold pvR blR
 congr 1
 cases h:L.all (stOk xs.length ys.length 5) with
 | false=>rfl
 | true =>
  rw [szB_blC 4 L h];unfold blC
  rw [List.take_of_length_le Lr,Int.zero_add]
set_option maxHeartbeats 6400000 in
set_option maxRecDepth 100000 in
theorem sProgramValid_any (va vb:Value) (xs ys:List Int) (A:Nat→Prop) (D:Nat) (u:Value) (L:List St) (w:World) (hr:Reads w 1 va xs.length (ints xs)) (hs:Reads w 1 vb ys.length (ints ys)) (hx:BlAt w A D u L) (hn:stNs L≤1048576) :
  Calls Try.prog 27 #[.agg #[va,vb,u]] w fun r w'=>r=.returned (.bool (pvR xs ys L))∧Below w.heap.size w w':=by
 obtain ⟨pv,cv,rfl⟩:=reads_shape hr;obtain ⟨pa,ca,rfl⟩:=reads_shape hs;obtain ⟨pu,cu,rfl⟩:=hx.shape;have HQ:=Hi (pvR_spec xs ys L);have HH:=Hi (fun W (hW:Below w.heap.size w W)=>l2Heads_any _ _ xs ys pu L.length cu W (hr.below hW) (hs.below hW));have HB:=Hi (fun W (hW:Below w.heap.size w W)=>(l2Both pv pa xs.length cv ys.length ca (.slice pu L.length cu) A 5 Lr).2 D _ L W (hx.below hW));have HS:=Hi (fun W (hW:Below w.heap.size w W)=>l2Size_v A D 5 5 _ L W rfl Lr (hx.below hW) hn);clear hr hs hx hn;generalize pvR xs ys L=Q at *
 generalize declOk xs ys=X at *
 generalize L.all (stOk xs.length ys.length 5)=Y at *
 generalize szB 5 L=z at *
 go_enter Try.func27,Try.ntmps27
 go_wp2_with fail
 refine (HH.out _ (bal (Bs w) (.cells #[.slice pv xs.length cv,.slice pa ys.length ca,.slice pu L.length cu] 29))).mono ?_;rintro e w1 ⟨rfl,hb⟩;have d0:=hb.size;simp only [Sa] at d0;have b0:Bk w1 (w.heap.size) [.slice pv xs.length cv,.slice pa ys.length ca,.slice pu L.length cu]:=Bb (Bk.nw (by simp) rfl) hb;have a0:=btr (bal (Bs w) (.cells #[.slice pv xs.length cv,.slice pa ys.length ca,.slice pu L.length cu] 29)) hb;clear hb;have o0:=Bk.lz b0
 cases X with
 | false =>
  have c0:Hid (Q=false):=Hi (by rw [HQ.out];rfl);have tt:=a0;go_wp2
  exact bodyPost_ret (v:=.bool false) (by simp [results,Try.results27,go_sem]) rfl (by exact by rw [c0.out];exact ⟨rfl,tt⟩)
 | true =>
  obtain ⟨i0,l0,j0,m0,k0,n0⟩:=Bk.f3 b0 0 1 2 rfl rfl rfl;go_wp2_with fail
  refine (HB.out _ a0).mono ?_;rintro e w2 ⟨rfl,hb⟩;have g0:=hb.size;clear l0 i0 m0 j0 n0 k0;replace b0:=Bb b0 hb;replace a0:=btr a0 hb;clear hb
  cases Y with
  | false =>
   have c0:Hid (Q=false):=Hi (by rw [HQ.out];rfl);have tt:=a0;go_wp2
   exact bodyPost_ret (v:=.bool false) (by simp [results,Try.results27,go_sem]) rfl (by exact by rw [c0.out];exact ⟨rfl,tt⟩)
  | true =>
   obtain ⟨e0,f0⟩:=Bk.cf b0 2 rfl;go_wp2_with fail
   refine (HS.out _ a0).mono ?_;rintro e w3 ⟨rfl,hb⟩;have h0:=hb.size;clear f0 e0;replace b0:=Bb b0 hb;replace a0:=btr a0 hb;clear hb;clear b0;have c0:Hid (Q=decide (z≤60)):=Hi (by rw [HQ.out];rfl);have tt:=a0;go_wp2
   exact bodyPost_ret (v:=.bool (decide (z≤60))) (by simp [results,Try.results27,go_sem]) rfl (by exact by rw [c0.out];exact ⟨rfl,tt⟩)
end Go.Proofs.Ytnpidfbcbmeijaa
