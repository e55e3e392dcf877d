/-
 Parts of the proofs of the laws FnExactSplitMemory.
-/
import Derived.Test.YtnpidfbcbmeijaaPU
set_option linter.all false
namespace Go.Proofs.Ytnpidfbcbmeijaa
open Go.RowKit
theorem labs_all {xs:List Int} (h:∀ j (h:j < xs.length),labOk xs[j]=true):labsOk xs=true:=by
 unfold labsOk;rw [List.all_eq_true]
 intro x hx;obtain ⟨j,hj,rfl⟩:=List.getElem_of_mem hx;exact h j hj
theorem labs_no {xs:List Int} {j:Nat} (h:j < xs.length) (hx:labOk xs[j]=false):labsOk xs=false:=by
 unfold labsOk;rw [List.all_eq_false]
 exact ⟨_,List.getElem_mem h,by simp [hx]⟩
theorem idxLab_any (v:Value) (xs:List Int) (w:World) (hr:Reads w 1 v xs.length (ints xs)) :
  Calls Try.prog 106 #[v,.func (.func 100) #[] #[]] w fun e w'=>∃ r:Int,e=.returned (.int .i64 r)∧decide (0≤r)=!labsOk xs∧Below w.heap.size w w':=by
 obtain ⟨_,hn,a,i0,b,h0,rfl,g0,ha,e0⟩:=hr;go_enter Try.func106,Try.ntmps106
 go_wp2
 go_loopw [8] (fun i wr=>∃ k:Nat,k≤xs.length∧i=.int .i64 k∧(∀ j (h:j < xs.length),j < k→labOk xs[j]=true)∧Below w.heap.size w wr) (fun i _=>xs.length-(intOf i).toNat)
 case atStart=>exact ⟨0,Nat.zero_le _,rfl,fun j _ h=>absurd h (by omega),Below.refl _ _⟩
 case round =>
  obtain ⟨k,hk,rfl,b0,a0⟩:=hrel;have HA:=Hi b0;clear b0;by_cases hlt:k < xs.length
  ·obtain ⟨rfl,f0⟩:=ha (by omega);have c0:=e0 k (by simpa [ints] using hlt);rw [ints_get] at c0;have c0:=(a0.cell (p:=⟨b,h0+k,none⟩) f0).trans c0;clear e0 ha;generalize hx:xs[k]=x at c0
   have HX:=Hi hx;clear hx;go_wp2_with fail
   refine (notLabel_any x _).mono ?_;rintro e w1 ⟨rfl,hb⟩;have d0:=btr a0 hb
   cases hok:labOk x with
   | true =>
    have HO:=Hi hok;clear hok hb a0;go_wp2
    go_roundw
    case rel=>exact ⟨k+1,by omega,by go_num,all_succ (P:=fun j x=>labOk x=true) hlt HA.out (by rw [HX.out];exact HO.out),d0⟩
    case measure=>simp [intOf];omega
   | false =>
    have HO:=Hi hok;clear hok hb a0;go_wp2
    go_ret
    exact ⟨(k:Int),rfl,by rw [labs_no hlt (by rw [HX.out];exact HO.out)];simp,d0⟩
  go_wp2
  go_ret
  exact ⟨-1,rfl,by rw [labs_all (fun j h=>HA.out j h (by omega))];rfl,a0⟩
theorem hasLab_any (v:Value) (xs:List Int) (w:World) (hr:Reads w 1 v xs.length (ints xs)) :
  Calls Try.prog 85 #[v,.func (.func 100) #[] #[]] w fun e w'=>e=.returned (.bool (!labsOk xs))∧Below w.heap.size w w':=by
 go_enter Try.func85,Try.ntmps85
 go_wp2_with fail
 refine (idxLab_any _ xs _ hr).mono ?_;rintro e w1 ⟨r,rfl,a0,hb⟩;clear hr;go_wp2
 go_ret
 exact ⟨rfl,hb⟩
theorem areLabels_any (v:Value) (xs:List Int) (w:World) (hr:Reads w 1 v xs.length (ints xs)) :
  Calls Try.prog 82 #[v] w fun e w'=>e=.returned (.bool (labsOk xs))∧Below w.heap.size w w':=by
 go_enter Try.func82,Try.ntmps82
 go_wp2_with fail
 refine (hasLab_any _ xs _ hr).mono ?_;rintro e w1 ⟨rfl,hb⟩;clear hr;go_wp2
 go_ret
 exact ⟨ret_bool (by simp),hb⟩
theorem declared_any (va vb:Value) (xs ys:List Int) (w:World) (hr:Reads w 1 va xs.length (ints xs)) (hs:Reads w 1 vb ys.length (ints ys)) :
  Calls Try.prog 57 #[va,vb] w fun e w'=>e=.returned (.bool (declOk xs ys))∧Below w.heap.size w w':=by
 have HD:Hid (declOk xs ys=(wi xs.length 1 12&&(decide ((ys.length:Int)≤2)&&(labsOk xs&&labsOk ys)))):=Hi (by unfold declOk wi;rw [show decide (1≤xs.length∧xs.length≤12)=decide ((1:Int)≤xs.length∧(xs.length:Int)≤12) from by rw [decide_eq_decide];omega,show decide (ys.length≤2)=decide ((ys.length:Int)≤2) from by rw [decide_eq_decide];omega]);generalize declOk xs ys=D at *
 obtain ⟨a0,c0,rfl⟩:=reads_shape hr;obtain ⟨a1,c1,rfl⟩:=reads_shape hs;go_enter Try.func57,Try.ntmps57
 go_wp2_with fail
 refine (within_any _ 1 12 _).mono ?_;rintro e w1 ⟨rfl,hb⟩;replace hr:=hr.below hb;replace hs:=hs.below hb;generalize wi xs.length 1 12=b1 at *
 cases b1 with
 | false =>
  clear hr hs;go_wp2
  go_ret
  exact ⟨ret_bool (by rw [HD.out];rfl),hb⟩
 | true =>
  by_cases h2:(ys.length:Int)≤2
  ·rw [decide_eq_true h2] at HD;go_wp2_with fail
   refine (areLabels_any _ xs _ hr).mono ?_;rintro e w2 ⟨rfl,b0⟩;replace hs:=hs.below b0;replace hb:=btr hb b0;clear hr b0;generalize labsOk xs=b2 at *
   cases b2 with
   | false =>
    clear hs;go_wp2
    go_ret
    exact ⟨ret_bool (by rw [HD.out];rfl),hb⟩
   | true =>
    go_wp2_with fail
    refine (areLabels_any _ ys _ hs).mono ?_;rintro e w3 ⟨rfl,d0⟩;replace hb:=btr hb d0;clear hs d0;generalize labsOk ys=b3 at *
    go_wp2
    go_ret
    exact ⟨ret_bool (by rw [HD.out];rfl),hb⟩
  have h3:decide ((ys.length:Int)≤2)=false:=decide_eq_false h2;rw [h3] at HD;clear hr hs h2;go_wp2
  go_ret
  exact ⟨ret_bool (by rw [HD.out];rfl),hb⟩
end Go.Proofs.Ytnpidfbcbmeijaa
