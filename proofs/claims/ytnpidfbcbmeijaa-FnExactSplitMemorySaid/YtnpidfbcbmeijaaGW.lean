/-
 Parts of the proofs of the laws FnExactSplitMemory.
-/
import Derived.Test.YtnpidfbcbmeijaaNB
set_option linter.all false
namespace Go.Proofs.Ytnpidfbcbmeijaa
open Go.RowKit
theorem ownM_nil (w:World) (base:Nat):OwnM w base (.slice none 0 0) (.slice none 0 0) [] ⟨[],[]⟩:=⟨World.ownsRow_nil _ _ _ _,⟨rfl,World.ownsRow_nil _ _ _ _,fun k u r h=>(by cases h),fun j k u u' h=>(by cases h)⟩,fun q h=>(by cases h)⟩
theorem vals_all {xs:List Int} (h:∀ j (h:j < xs.length),valOk xs[j]=true):valsOk xs=true:=by
 unfold valsOk;rw [List.all_eq_true]
 intro x hx;obtain ⟨j,hj,rfl⟩:=List.getElem_of_mem hx;exact h j hj
theorem vals_no {xs:List Int} {j:Nat} (h:j < xs.length) (hx:valOk xs[j]=false):valsOk xs=false:=by
 unfold valsOk;rw [List.all_eq_false]
 exact ⟨_,List.getElem_mem h,by simp [hx]⟩
theorem notVal_any (n:Int) (w:World) :
  Calls Try.prog 86 #[.int .i64 n] w fun e w'=>e=.returned (.bool (!valOk n))∧Below w.heap.size w w':=by
 go_enter Try.func86,Try.ntmps86
 go_wp2_with fail
 refine (within_any n 0 255 _).mono ?_;rintro e w1 ⟨rfl,hb⟩;go_wp2
 go_ret
 exact ⟨rfl,hb⟩
theorem idxVal_any (v:Value) (xs:List Int) (w:World) (hr:Reads w 1 v xs.length (ints xs)) :
  Calls Try.prog 106 #[v,.func (.func 86) #[] #[]] w fun e w'=>∃ r:Int,e=.returned (.int .i64 r)∧decide (0≤r)=!valsOk xs∧Below w.heap.size w w':=by
 obtain ⟨_,hn,a,i0,b,h0,rfl,g0,ha,e0⟩:=hr;go_enter Try.func106,Try.ntmps106
 go_wp2
 go_loopw [8] (fun i wr=>∃ k:Nat,k≤xs.length∧i=.int .i64 k∧(∀ j (h:j < xs.length),j < k→valOk xs[j]=true)∧Below w.heap.size w wr) (fun i _=>xs.length-(intOf i).toNat)
 case atStart=>exact ⟨0,Nat.zero_le _,rfl,fun j _ h=>absurd h (by omega),Below.refl _ _⟩
 case round =>
  obtain ⟨k,hk,rfl,b0,a0⟩:=hrel;have HA:=Hi b0;clear b0;by_cases hlt:k < xs.length
  ·obtain ⟨rfl,f0⟩:=ha (by omega);have c0:=e0 k (by simpa [ints] using hlt);rw [ints_get] at c0;have c0:=(a0.cell (p:=⟨b,h0+k,none⟩) f0).trans c0;clear e0 ha;generalize hx:xs[k]=x at c0
   have HX:=Hi hx;clear hx;go_wp2_with fail
   refine (notVal_any x _).mono ?_;rintro e w1 ⟨rfl,hb⟩;have d0:=btr a0 hb
   cases hok:valOk x with
   | true =>
    have HO:=Hi hok;clear hok hb a0;go_wp2
    go_roundw
    case rel=>exact ⟨k+1,by omega,by go_num,all_succ (P:=fun j x=>valOk x=true) hlt HA.out (by rw [HX.out];exact HO.out),d0⟩
    case measure=>simp [intOf];omega
   | false =>
    have HO:=Hi hok;clear hok hb a0;go_wp2
    go_ret
    exact ⟨(k:Int),rfl,by rw [vals_no hlt (by rw [HX.out];exact HO.out)];simp,d0⟩
  go_wp2
  go_ret
  exact ⟨-1,rfl,by rw [vals_all (fun j h=>HA.out j h (by omega))];rfl,a0⟩
theorem hasVal_any (v:Value) (xs:List Int) (w:World) (hr:Reads w 1 v xs.length (ints xs)) :
  Calls Try.prog 85 #[v,.func (.func 86) #[] #[]] w fun e w'=>e=.returned (.bool (!valsOk xs))∧Below w.heap.size w w':=by
 go_enter Try.func85,Try.ntmps85
 go_wp2_with fail
 refine (idxVal_any _ xs _ hr).mono ?_;rintro e w1 ⟨r,rfl,a0,hb⟩;clear hr;go_wp2
 go_ret
 exact ⟨rfl,hb⟩
theorem areValues_any (v:Value) (xs:List Int) (w:World) (hr:Reads w 1 v xs.length (ints xs)) :
  Calls Try.prog 64 #[v] w fun e w'=>e=.returned (.bool (valsOk xs))∧Below w.heap.size w w':=by
 go_enter Try.func64,Try.ntmps64
 go_wp2_with fail
 refine (hasVal_any _ xs _ hr).mono ?_;rintro e w1 ⟨rfl,hb⟩;clear hr;go_wp2
 go_ret
 exact ⟨ret_bool (by simp),hb⟩
end Go.Proofs.Ytnpidfbcbmeijaa
