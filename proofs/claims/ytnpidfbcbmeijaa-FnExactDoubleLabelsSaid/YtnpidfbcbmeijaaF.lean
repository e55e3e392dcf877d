/-
 Parts of the proofs of the laws FnExactDoubleLabels.
-/
import Derived.Test.YtnpidfbcbmeijaaProg
import Derived.Test.YtnpidfbcbmeijaaK
set_option linter.all false
namespace Go.Proofs.Ytnpidfbcbmeijaa
open Go.RowKit
def marks (k:Int) (n:Nat):List Int:=(List.range n).map (fun i:Nat=>k+(i:Int))
theorem marks_length (k:Int) (n:Nat):(marks k n).length=n:=by simp [marks]
theorem marks_succ (k:Int) (n:Nat):marks k (n+1)=marks k n++[k+n]:=by simp [marks,List.range_succ]
theorem marks_get (k:Int) (n j:Nat) (h:j < (marks k n).length):(marks k n)[j]=k+j:=by simp [marks]
theorem szIntS_any (v:Value) (n:Nat) (vs:List Value) (left:Int) (w:World) (hr:Reads w 1 v n vs) (h0:0≤left) (h1:left≤1073741824) :
  Calls Try.prog 25 #[v,.int .i64 left] w fun e w'=>e=.returned (.int .i64 (if left < n then -1 else left-n))∧w'=w:=by
 obtain ⟨_,hn,a,a0,b,b0,rfl,_⟩:=hr;by_cases h:left < n
 ·have h2:left-(n:Int) < 0:=by omega
  rw [if_pos h];clear h;go_enter Try.func25,Try.ntmps25
  go_wp2
  go_ret
  exact ⟨rfl,rfl⟩
 have h2:¬left-(n:Int) < 0:=by omega
 rw [if_neg h];clear h;go_enter Try.func25,Try.ntmps25
 go_wp2
 go_ret
 exact ⟨rfl,rfl⟩
theorem set_marks (xs:List Int) (k:Int) (j:Nat) (h:j < xs.length):(ints (marks k j++xs.drop j)).set j (.int .i64 (k+j))=ints (marks k (j+1)++xs.drop (j+1)):=by
 have e:xs.drop j=xs[j]::xs.drop (j+1):=by rw [List.drop_eq_getElem_cons h]
 have hl:(ints (marks k j)).length=j:=by simp [ints,marks]
 rw [marks_succ,e,ints_append,ints_append,ints_append,List.set_append_right _ _ (by omega),hl,Nat.sub_self];simp only [ints,List.map_cons,List.set_cons_zero,List.map_nil,List.append_assoc,List.cons_append,List.nil_append]
theorem markIntS_any (v:Value) (xs:List Int) (k:Int) (w:World) (base:Nat) (ho:w.ownsRow base 3 1 v xs.length (ints xs)) (hn:xs.length≤1073741824) (h0:0≤k) (h1:k≤1073741824) :
  Calls Try.prog 34 #[v,.int .i64 k] w fun e w'=>e=.returned (.int .i64 (k+xs.length))∧w'.ownsRow base 3 1 v xs.length (ints (marks k xs.length))∧Chg (fun g=>v.ownBlock=some g) w w':=by
 have e0:(v=.slice none 0 0∧xs=[])∨∃ g cap,v=.slice (some ⟨g,0,none⟩) xs.length cap:=by
  rcases ho.2 with ⟨h,h'⟩ | ⟨g,cap,_,h,_⟩
  ·exact Or.inl ⟨h,List.eq_nil_of_length_eq_zero h'⟩
  exact Or.inr ⟨g,cap,h⟩
 rcases e0 with ⟨rfl,rfl⟩ | ⟨g,cap,rfl⟩
 ·go_enter Try.func34,Try.ntmps34
  go_wp2
  refine wp_loop_rounds 1 ?_;rw [rounds_succ];go_wp2
  go_ret
  exact ⟨ret_int (by simp),by simpa [marks] using ho,Chg.refl _ _⟩
 go_enter Try.func34,Try.ntmps34
 go_wp2
 go_loopw [1,5] (fun kk i wr=>∃ j:Nat,j≤xs.length∧i=.int .i64 j∧kk=.int .i64 (k+j)∧wr.ownsRow base 3 1 (.slice (some ⟨g,0,none⟩) xs.length cap) xs.length (ints (marks k j++xs.drop j))∧Chg (fun k=>g=k) w wr) (fun _ i _=>xs.length-(intOf i).toNat)
 case atStart=>exact ⟨0,Nat.zero_le _,rfl,by simp,by simpa [marks] using ho,Chg.refl _ _⟩
 case round =>
  obtain ⟨j,hj,rfl,rfl,a0,hc⟩:=hrel;by_cases hlt:j < xs.length
  ·have b0:wr.cell? ⟨g,j,none⟩=some (.int .i64 xs[j]):=by
    rw [a0.cellAt j (by omega)];simp [ints,List.getElem?_append,marks_length,hlt]
   have hf:=a0.frozenAt j;have c0:=(a0.stored j (.int .i64 (k+j))).1;rw [set_marks xs k j hlt] at c0;have d0:=hc.setCell g j (.int .i64 (k+j)) (fun _=>rfl);clear a0 hc ho;go_wp2
   go_roundw
   case rel=>exact ⟨j+1,by omega,by go_num,by simp;omega,c0,d0⟩
   case measure=>simp [intOf];omega
  have e:j=xs.length:=by omega
  subst e;go_wp2
  go_ret
  exact ⟨rfl,by simpa using a0,hc.mono (fun _ _ h=>by simp [Value.ownBlock,h])⟩
theorem heldIntS_any (v:Value) (n:Nat) (k:Int) (w:World) (hr:Reads w 1 v n (ints (marks k n))) (hn:n≤1073741824) (h0:0≤k) (h1:k≤1073741824) :
  Calls Try.prog 36 #[v,.int .i64 k] w fun e w'=>e=.returned (.int .i64 (k+n))∧∃ d,w'=w.drewN d:=by
 obtain ⟨_,_,a,d0,b,f0,rfl,⟨c0,_⟩,ha,a0⟩:=hr;go_enter Try.func36,Try.ntmps36
 go_wp2
 go_loopw [1,5] (fun kk i wr=>∃ j:Nat,j≤n∧i=.int .i64 j∧kk=.int .i64 (k+j)∧∃ d,wr=w.drewN d) (fun _ i _=>n-(intOf i).toNat)
 case atStart=>exact ⟨0,Nat.zero_le _,rfl,by simp,0,rfl⟩
 case round =>
  obtain ⟨j,hj,rfl,rfl,d,rfl⟩:=hrel;by_cases hlt:j < n
  ·obtain ⟨rfl,e0⟩:=ha (by omega);have b0:=a0 j (by simpa [ints,marks] using hlt);rw [ints_get,marks_get] at b0;clear a0 ha;go_wp2
   go_roundw
   case rel=>exact ⟨j+1,by omega,by go_num,by simp;omega,d,rfl⟩
   case measure=>simp [intOf];omega
  have e:j=n:=by omega
  subst e;go_wp2
  go_ret
  exact ⟨rfl,_,rfl⟩
end Go.Proofs.Ytnpidfbcbmeijaa
