/-
 Parts of the proofs of the laws FnExactPairMemory.
-/
import Derived.Test.YtnpidfbcbmeijaaNB
set_option linter.all false
namespace Go.Proofs.Ytnpidfbcbmeijaa
open Go.RowKit
theorem own2_one {w:World} {base:Nat} {v:Value} {vs:List Value} {rs:List (List Int)} (h:Own2I w base v vs rs):∀ u ∈ vs,u.oneCell'=true:=by
 intro u hu;obtain ⟨k,hk,rfl⟩:=List.mem_iff_getElem.1 hu;exact own_one (h.row k _ _ (List.getElem?_eq_getElem hk) (List.getElem?_eq_getElem (by rw [← h.len];exact hk)))
theorem own2_outr {w:World} {base:Nat} {v:Value} {vs:List Value} {rs:List (List Int)} (h:Own2I w base v vs rs) (hn:rs.length≤9223372036854775807):Reads w 1 v rs.length vs:=Ro h.out hn
theorem own2_join {w w':World} {base:Nat} {v v' v2:Value} {vs vs2:List Value} {rs rs2:List (List Int)} (h:Own2I w base v vs rs) (k:Own2I w base v2 vs2 rs2) (hap:∀ q,OwnB2 v vs q→¬OwnB2 v2 vs2 q)
  (ho:w'.ownsRow base 22 1 v' (rs.length+rs2.length) (vs++vs2)) (hC:Chg (fun q=>v.ownBlock=some q) w w'):Own2I w' base v' (vs++vs2) (rs++rs2):=by
 have hl:=h.len;have he:(22:TypeId)≠3:=by decide
 have a0:∀ (k:Nat) (x:Value),(vs++vs2)[k]? = some x→(k < rs.length∧vs[k]? = some x)∨(rs.length≤k∧vs2[k-rs.length]? = some x):=by
  intro k x hx;by_cases hk:k < vs.length
  ·rw [List.getElem?_append_left hk] at hx;exact Or.inl ⟨by omega,hx⟩
  rw [List.getElem?_append_right (by omega)] at hx;exact Or.inr ⟨by omega,by rw [← hl];exact hx⟩
 refine ⟨by rw [List.length_append,List.length_append,h.len,k.len],by rw [List.length_append];exact ho,?_,?_⟩
 ·intro j x r' hx hr';rcases a0 j x hx with ⟨hk,hx⟩ | ⟨hk,hx⟩
  ·rw [List.getElem?_append_left hk] at hr';exact Ow (h.row j x r' hx hr') hC (fun q hq e=>h.outer he j x hx q e hq)
  rw [List.getElem?_append_right hk] at hr';exact Ow (k.row _ x r' hx hr') hC (fun q hq e=>hap q (Or.inl e) (Or.inr ⟨_,x,hx,hq⟩))
 intro i j u1 u2 h1 h2 d0 q b0 c0;rcases a0 i u1 h1 with ⟨ki,k1⟩ | ⟨ki,k1⟩
 ·rcases a0 j u2 h2 with ⟨kj,k2⟩ | ⟨kj,k2⟩
  ·exact h.apart i j u1 u2 k1 k2 d0 q b0 c0
  exact hap q (Or.inr ⟨i,u1,k1,b0⟩) (Or.inr ⟨_,u2,k2,c0⟩)
 rcases a0 j u2 h2 with ⟨kj,k2⟩ | ⟨kj,k2⟩
 ·exact hap q (Or.inr ⟨j,u2,k2,c0⟩) (Or.inr ⟨_,u1,k1,b0⟩)
 exact k.apart _ _ u1 u2 k1 k2 (by omega) q b0 c0
theorem newOr_blk {w:World} {v v':Value} (h:NewOr w v v'):∀ q,v'.ownBlock=some q→v.ownBlock=some q∨w.heap.size≤q:=by
 intro q hq;rcases h with h | ⟨g,h,hg⟩
 ·exact Or.inl (h ▸ hq)
 rw [hq] at h;cases h;exact Or.inr hg
section
variable {w w':World} {base:Nat} {ax ay bx by' v':Value} {us ub:List Value} {a b:Mm}
theorem valsJoin (h:OwnM w base ax ay us a) (k:OwnM w base bx by' ub b) (hap:∀ q,OwnBM ax ay us q→¬OwnBM bx by' ub q) (ho:w'.ownsRow base 3 1 v' (a.vals.length+b.vals.length) (ints a.vals++ints b.vals)) (hC:Chg (fun q=>ax.ownBlock=some q) w w') (hN:NewOr w ax v') :
  OwnM w' base v' ay us ⟨a.vals++b.vals,a.arrs⟩∧OwnM w' base bx by' ub b∧∀ q,OwnBM v' ay us q→¬OwnBM bx by' ub q:=by
 refine ⟨⟨?_,h.y.keep hC (fun q hq e=>h.ap q e hq),?_⟩,k.keep hC (fun q hq e=>hap q (Or.inl e) hq),?_⟩
 ·show w'.ownsRow base 3 1 v' (a.vals++b.vals).length (ints (a.vals++b.vals))
  rw [List.length_append,ints_append];exact ho
 ·intro q hq h2;rcases newOr_blk hN q hq with h3 | h3
  ·exact h.ap q h3 h2
  have:=(h.y.lt q h2).2;omega
 rintro q (hq | hq) h2
 ·rcases newOr_blk hN q hq with h3 | h3
  ·exact hap q (Or.inl h3) h2
  have:=(k.lt q h2).2;omega
 exact hap q (Or.inr hq) h2
theorem arrsJoin (h:OwnM w base ax ay us a) (k:OwnM w base bx by' ub b) (hap:∀ q,OwnBM ax ay us q→¬OwnBM bx by' ub q) (ho:w'.ownsRow base 22 1 v' (a.arrs.length+b.arrs.length) (us++ub)) (hC:Chg (fun q=>ay.ownBlock=some q) w w') (hN:NewOr w ay v') :
  OwnM w' base ax v' (us++ub) ⟨a.vals,a.arrs++b.arrs⟩∧w'.ownsRow base 3 1 bx b.vals.length (ints b.vals)∧∀ q,OwnBM ax v' (us++ub) q→¬bx.ownBlock=some q:=by
 have a0:∀ q,OwnB2 v' (us++ub) q→w.heap.size≤q∨OwnB2 ay us q∨∃ (k:Nat) (u:Value),ub[k]? = some u∧u.ownBlock=some q:=by
  rintro q (hq | ⟨j,u,hu,hq⟩)
  ·rcases newOr_blk hN q hq with h3 | h3
   ·exact Or.inr (Or.inl (Or.inl h3))
   exact Or.inl h3
  by_cases hj:j < us.length
  ·rw [List.getElem?_append_left hj] at hu;exact Or.inr (Or.inl (Or.inr ⟨j,u,hu,hq⟩))
  rw [List.getElem?_append_right (by omega)] at hu;exact Or.inr (Or.inr ⟨_,u,hu,hq⟩)
 refine ⟨⟨Ow h.x hC (fun q hq e=>h.ap q hq (Or.inl e)),own2_join h.y k.y (fun q h1 h2=>hap q (Or.inr h1) (Or.inr h2)) ho hC,?_⟩,Ow k.x hC (fun q hq e=>hap q (Or.inr (Or.inl e)) (Or.inl hq)),?_⟩
 ·intro q hq h2;rcases a0 q h2 with h3 | h3 | ⟨j,u,hu,h3⟩
  ·have:=(h.x.lt q hq).2;omega
  ·exact h.ap q hq h3
  exact hap q (Or.inl hq) (Or.inr (Or.inr ⟨j,u,hu,h3⟩))
 rintro q (hq | hq) h2
 ·exact hap q (Or.inl hq) (Or.inl h2)
 rcases a0 q hq with h3 | h3 | ⟨j,u,hu,h3⟩
 ·have:=(k.x.lt q h2).2;omega
 ·exact hap q (Or.inr h3) (Or.inl h2)
 exact k.ap q h2 (Or.inr ⟨j,u,hu,h3⟩)
theorem valsJoin2 {zs:List Int} (h:OwnM w base ax ay us a) (ho:w'.ownsRow base 3 1 v' (a.vals.length+zs.length) (ints a.vals++ints zs)) (hC:Chg (fun q=>ax.ownBlock=some q) w w') (hN:NewOr w ax v') :
  OwnM w' base v' ay us ⟨a.vals++zs,a.arrs⟩:=by
 refine ⟨?_,h.y.keep hC (fun q hq e=>h.ap q e hq),?_⟩
 ·show w'.ownsRow base 3 1 v' (a.vals++zs).length (ints (a.vals++zs))
  rw [List.length_append,ints_append];exact ho
 intro q hq h2;rcases newOr_blk hN q hq with h3 | h3
 ·exact h.ap q h3 h2
 have:=(h.y.lt q h2).2;omega
end
def pairR (ok:Bool) (a b:Mm):Mm:=match ok with | true=>⟨a.vals++b.vals,a.arrs++b.arrs⟩ | false=>⟨[],[]⟩
theorem ownM_nil (w:World) (base:Nat):OwnM w base (.slice none 0 0) (.slice none 0 0) [] ⟨[],[]⟩:=⟨World.ownsRow_nil _ _ _ _,⟨rfl,World.ownsRow_nil _ _ _ _,fun k u r h=>(by cases h),fun j k u u' h=>(by cases h)⟩,fun q h=>(by cases h)⟩
def MemP (base:Nat) (ok:Bool) (m:Mm) (r:Ending) (w':World):Prop:=∃ ux uy us,r=.returned (.tuple #[.agg #[ux,uy],.bool ok])∧OwnM w' base ux uy us m
end Go.Proofs.Ytnpidfbcbmeijaa
namespace Go.Proofs.Ytnpidfbcbmeijaa
open Go.RowKit
theorem vals_all {xs:List Int} (h:∀ j (h:j < xs.length),valOk xs[j]=true):valsOk xs=true:=by
 unfold valsOk;rw [List.all_eq_true]
 intro x hx;obtain ⟨j,hj,rfl⟩:=List.getElem_of_mem hx;exact h j hj
theorem vals_no {xs:List Int} {j:Nat} (h:j < xs.length) (hx:valOk xs[j]=false):valsOk xs=false:=by
 unfold valsOk;rw [List.all_eq_false]
 exact ⟨_,List.getElem_mem h,by simp [hx]⟩
theorem notVal_any (n:Int) (w:World) :
  Calls Try.prog 86 #[.int .i64 n] w fun e w'=>e=.returned (.bool (!valOk n))∧Below w.heap.size w w':=by
 go_enter Try.func86,Try.ntmps86
 go_wp2_with fail
 refine (within_any n 0 255 _).mono ?_;rintro e w1 ⟨rfl,hb⟩;go_wp2
 go_ret
 exact ⟨rfl,hb⟩
theorem idxVal_any (v:Value) (xs:List Int) (w:World) (hr:Reads w 1 v xs.length (ints xs)) :
  Calls Try.prog 106 #[v,.func (.func 86) #[] #[]] w fun e w'=>∃ r:Int,e=.returned (.int .i64 r)∧decide (0≤r)=!valsOk xs∧Below w.heap.size w w':=by
 obtain ⟨_,hn,a,i0,b,h0,rfl,g0,ha,e0⟩:=hr;go_enter Try.func106,Try.ntmps106
 go_wp2
 go_loopw [8] (fun i wr=>∃ k:Nat,k≤xs.length∧i=.int .i64 k∧(∀ j (h:j < xs.length),j < k→valOk xs[j]=true)∧Below w.heap.size w wr) (fun i _=>xs.length-(intOf i).toNat)
 case atStart=>exact ⟨0,Nat.zero_le _,rfl,fun j _ h=>absurd h (by omega),Below.refl _ _⟩
 case round =>
  obtain ⟨k,hk,rfl,b0,a0⟩:=hrel;have HA:=Hi b0;clear b0;by_cases hlt:k < xs.length
  ·obtain ⟨rfl,f0⟩:=ha (by omega);have c0:=e0 k (by simpa [ints] using hlt);rw [ints_get] at c0;have c0:=(a0.cell (p:=⟨b,h0+k,none⟩) f0).trans c0;clear e0 ha;generalize hx:xs[k]=x at c0
   have HX:=Hi hx;clear hx;go_wp2_with fail
   refine (notVal_any x _).mono ?_;rintro e w1 ⟨rfl,hb⟩;have d0:=btr a0 hb
   cases hok:valOk x with
   | true =>
    have HO:=Hi hok;clear hok hb a0;go_wp2
    go_roundw
    case rel=>exact ⟨k+1,by omega,by go_num,all_succ (P:=fun j x=>valOk x=true) hlt HA.out (by rw [HX.out];exact HO.out),d0⟩
    case measure=>simp [intOf];omega
   | false =>
    have HO:=Hi hok;clear hok hb a0;go_wp2
    go_ret
    exact ⟨(k:Int),rfl,by rw [vals_no hlt (by rw [HX.out];exact HO.out)];simp,d0⟩
  go_wp2
  go_ret
  exact ⟨-1,rfl,by rw [vals_all (fun j h=>HA.out j h (by omega))];rfl,a0⟩
theorem hasVal_any (v:Value) (xs:List Int) (w:World) (hr:Reads w 1 v xs.length (ints xs)) :
  Calls Try.prog 85 #[v,.func (.func 86) #[] #[]] w fun e w'=>e=.returned (.bool (!valsOk xs))∧Below w.heap.size w w':=by
 go_enter Try.func85,Try.ntmps85
 go_wp2_with fail
 refine (idxVal_any _ xs _ hr).mono ?_;rintro e w1 ⟨r,rfl,a0,hb⟩;clear hr;go_wp2
 go_ret
 exact ⟨rfl,hb⟩
theorem areValues_any (v:Value) (xs:List Int) (w:World) (hr:Reads w 1 v xs.length (ints xs)) :
  Calls Try.prog 64 #[v] w fun e w'=>e=.returned (.bool (valsOk xs))∧Below w.heap.size w w':=by
 go_enter Try.func64,Try.ntmps64
 go_wp2_with fail
 refine (hasVal_any _ xs _ hr).mono ?_;rintro e w1 ⟨rfl,hb⟩;clear hr;go_wp2
 go_ret
 exact ⟨ret_bool (by simp),hb⟩
end Go.Proofs.Ytnpidfbcbmeijaa
