/-
 Parts of the proofs of the laws FnExactSplitMemory.
-/
import Derived.Test.YtnpidfbcbmeijaaProg
import Derived.Test.YtnpidfbcbmeijaaK
set_option linter.all false
namespace Go.Proofs.Ytnpidfbcbmeijaa
open Go.RowKit
theorem all_succ {xs:List Int} {k:Nat} {P:(j:Nat)→Int→Prop} (hk:k < xs.length) (h:∀ j (h:j < xs.length),j < k→P j xs[j]) (hx:P k xs[k]):∀ j (h:j < xs.length),j < k+1→P j xs[j]:=by
 intro j hj a0;by_cases e:j=k
 ·subst e;exact hx
 exact h j hj (by omega)
theorem eqIntS_any (va vb:Value) (xs ys:List Int) (w:World) (ha:Reads w 1 va xs.length (ints xs)) (hb:Reads w 1 vb ys.length (ints ys)) :
  Calls Try.prog 32 #[va,vb] w fun e w'=>e=.returned (.bool (decide (xs=ys)))∧∃ k,w'=w.drewN k:=by
 obtain ⟨_,hn,a,g0,b,i0,rfl,f0,ha,a0⟩:=ha;obtain ⟨_,hn',a',cap',b',off',rfl,hcap',ha',b0⟩:=hb;by_cases hl:xs.length=ys.length
 ·have e0:((xs.length:Int) != (ys.length:Int))=false:=by simp [hl]
  have HL:=Hi hl;clear hl;go_enter Try.func32,Try.ntmps32
  go_wp2
  go_loopw [5] (fun i wr=>∃ k:Nat,k≤xs.length∧i=.int .i64 k∧xs.take k=ys.take k∧∃ d,wr=w.drewN d) (fun i _=>xs.length-(intOf i).toNat)
  case atStart=>exact ⟨0,Nat.zero_le _,rfl,rfl,0,rfl⟩
  case round =>
   obtain ⟨k,hk,rfl,he,d,rfl⟩:=hrel;have HE:=Hi he;clear he;by_cases hlt:k < xs.length
   ·obtain ⟨rfl,h0⟩:=ha (by omega);obtain ⟨rfl,hbs'⟩:=ha' (by have:=HL.out;omega);have hlt':k < ys.length:=by have:=HL.out;omega
    have c0:=a0 k (by simpa [ints] using hlt);have d0:=b0 k (by simpa [ints] using hlt');rw [ints_get] at c0 d0;clear a0 b0 ha ha';by_cases hxy:xs[k]=ys[k]
    ·have e1:(xs[k] != ys[k])=false:=by simp [hxy]
     clear hxy;go_wp2
     go_quiet (fail)
     go_wp2
     go_roundw
     case rel=>exact ⟨k+1,by omega,by go_num,take_succ_eq hlt hlt' HE.out (by simpa using e1),_,rfl⟩
     case measure=>simp [intOf];omega
    have e1:(xs[k] != ys[k])=true:=by simp [hxy]
    have HX:=Hi hxy;clear hxy;go_wp2
    go_quiet (fail)
    go_wp2
    go_ret
    exact ⟨ret_bool (decide_eq_false (fun h=>HX.out (by subst h;rfl))).symm,_,World.drewN_drewN ..⟩
   go_wp2
   go_ret
   exact ⟨ret_bool (decide_eq_true (by have h:=HE.out;rwa [List.take_of_length_le (by omega),List.take_of_length_le (by have:=HL.out;omega)] at h)).symm,_,rfl⟩
 have e0:((xs.length:Int) != (ys.length:Int))=true:=by simp;omega
 have HL:=Hi hl;clear hl;go_enter Try.func32,Try.ntmps32
 go_wp2
 go_ret
 exact ⟨ret_bool (decide_eq_false (fun h=>HL.out (by rw [h]))).symm,0,rfl⟩
theorem info_int:(Try.prog.info? 3).map (fun i=>(i.zero,i.size,i.bytes))=some (some (.int .i64 0),1,8):=by kernel_rfl
theorem mk_int (n:Nat) (h:n≤1073741824) (u:World):(Instr.makeSlice 22 (.int .i64 n) (.int .i64 n)).run Try.prog u =
  .ok (.slice (some ⟨u.heap.size,0,none⟩) n n) (u.alloc (.cells (madeCells #[.int .i64 0] n) 3)):=by
 obtain ⟨i0,hi,a0,b0,c0⟩:=info_parts info_int;have h:=run_make (P:=Try.prog) u 22 3 i0 (.int .i64 0) Try.underlying22 hi a0 .i64 .i64 n n (by omega) (Int.le_refl _) (by rw [c0];omega) (by omega);rw [Int.toNat_natCast,b0,Nat.mul_one] at h;exact h
theorem own_made (w:World) (z:Value) (n:Nat) (e:TypeId) (h:n≤maxLen):(w.alloc (.cells (madeCells #[z] n) e)).ownsRow w.heap.size e 1 (.slice (some ⟨w.heap.size,0,none⟩) n n) n (List.replicate n z):=by
 have h:=World.ownsRow_lit (base:=w.heap.size) (e:=e) (size:=1) w (madeCells #[z] n) n Lr h (by rw [size_madeCells,Nat.mul_one]);rwa [toList_madeCells_one] at h
theorem set_fill (xs:List Value) (z:Value) (k:Nat) (h:k < xs.length):(xs.take k++List.replicate (xs.length-k) z).set k xs[k]=xs.take (k+1)++List.replicate (xs.length-(k+1)) z:=by
 apply List.ext_getElem?
 intro j;simp only [List.getElem?_set,List.getElem?_append,List.length_take,List.length_append,List.length_replicate,List.getElem?_take,List.getElem?_replicate];grind
theorem fill_at (xs:List Value) (z:Value) (k:Nat) (h:k < xs.length):(xs.take k++List.replicate (xs.length-k) z)[k]? = some z:=by
 simp only [List.getElem?_append,List.length_take,List.getElem?_replicate];grind
theorem fill_full (xs:List Value) (z:Value) (n:Nat) (h:xs.length≤n):xs.take n++List.replicate (xs.length-n) z=xs:=by
 rw [List.take_of_length_le h,Nat.sub_eq_zero_of_le h];simp
theorem toIntS_any (v:Value) (xs:List Int) (w:World) (hr:Reads w 1 v xs.length (ints xs)) (hsz:xs.length≤1073741824) :
  Calls Try.prog 28 #[v] w fun e w'=>∃ u,e=.returned u∧w'.ownsRow w.heap.size 3 1 u xs.length (ints xs)∧Below w.heap.size w w':=by
 obtain ⟨_,hn,a,k0,b,j0,rfl,i0,ha,e0⟩:=hr;have m0:=mk_int xs.length hsz;have b0:=own_made w (.int .i64 0) xs.length 3 (by unfold maxLen;omega);go_enter Try.func28,Try.ntmps28
 go_wp2
 go_loopw [4] (fun i wr=>∃ k:Nat,k≤xs.length∧i=.int .i64 k∧wr.ownsRow w.heap.size 3 1 (.slice (some ⟨w.heap.size,0,none⟩) xs.length xs.length) xs.length ((ints xs).take k++List.replicate ((ints xs).length-k) (.int .i64 0))∧Below w.heap.size w wr) (fun i _=>xs.length-(intOf i).toNat)
 case atStart=>exact ⟨0,Nat.zero_le _,rfl,by rw [ints_length];exact b0,(Below.refl _ _).alloc Lr _⟩
 case round =>
  obtain ⟨k,hk,rfl,ho,a0⟩:=hrel;clear b0;by_cases hlt:k < xs.length
  ·obtain ⟨rfl,h0⟩:=ha (by omega);have c0:=e0 k (by simpa [ints] using hlt);rw [ints_get] at c0;have hc1':=(a0.cell (p:=⟨b,j0+k,none⟩) h0).trans c0;have l0:wr.cell? ⟨w.heap.size,k,none⟩=some (.int .i64 0):=by rw [ho.cellAt k (by omega)];exact fill_at _ _ _ (by simpa [ints] using hlt)
   have hf:=ho.frozenAt k;have f0:=(ho.stored k (.int .i64 xs[k])).1;have d0:=set_fill (ints xs) (.int .i64 0) k (by simpa [ints] using hlt);rw [ints_get] at d0;rw [d0] at f0;have g0:=a0.setCell (p:=⟨w.heap.size,k,none⟩) Lr (.int .i64 xs[k]);clear e0 ha c0 d0;go_wp2
   go_roundw
   case rel=>exact ⟨k+1,by omega,by go_num,f0,g0⟩
   case measure=>simp [intOf];omega
  go_wp2
  go_ret
  have e:k=xs.length:=by omega
  subst e;exact ⟨_,rfl,by rw [fill_full _ _ _ (by simp [ints])] at ho;exact ho,a0⟩
theorem tInts:SliceT Try.prog 22 3 (.int .i64 0) 1 8:=⟨Try.underlying22,info_int,rfl,by omega,by omega⟩
theorem clone_any (v:Value) (xs:List Int) (w:World) (hr:Reads w 1 v xs.length (ints xs)) (hsz:xs.length≤1073741824) :
  Calls Try.prog 67 #[v] w fun e w'=>∃ u,e=.returned u∧w'.ownsRow w.heap.size 3 1 u xs.length (ints xs)∧Below w.heap.size w w':=by
 have c0:=hr;have f0:=fun w a n c=>Lib.run_eql_slice_nil (P:=Try.prog) w 22 3 a n c 0 0 Try.underlying22
 obtain ⟨_,hn,a,i0,b,j0,rfl,⟨e0,b0⟩,ha,d0⟩:=hr
 cases a with
 | none =>
  have h0:=b0 rfl;have h1:xs=[]:=List.eq_nil_of_length_eq_zero (by omega);subst h1 h0;go_enter Try.func67,Try.ntmps67
  go_wp2
  go_ret
  exact ⟨_,rfl,World.ownsRow_nil _ _ _ _,Below.refl _ _⟩
 | some a =>
  have a0:=own_nil_made w 3;have g0:=c0.below ((Below.refl w.heap.size w).alloc Lr (.cells #[] 3));clear c0 ha d0 b0;go_enter Try.func67,Try.ntmps67
  go_wp2_with (at_builtin;refine wpList_aps tInts rfl _ _ rfl w.heap.size _ 0 [] rfl a0 _ _ _ rfl g0 (one_ints xs) (by omega) ?c1 ?_)
  case c1=>simp
  intro v' w' ho' hc' hn' _;have hb:=((Below.refl w.heap.size w).alloc Lr (.cells #[] 3)).trans (hc'.below w.heap.size (by simp) (fun k hk=>not_own a0 hk));clear hc' hn' f0 a0;go_wp2
  go_ret
  exact ⟨_,rfl,ho',hb⟩
abbrev Ev:=Int × Int
def evs:List Ev→List Value
 | []=>[]
 | e::l=>.int .i64 e.1::.int .i64 e.2::evs l
theorem evs_append (a b:List Ev):evs (a++b)=evs a++evs b:=by
 induction a with
 | nil=>rfl
 | cons e l ih=>simp [evs,ih]
end Go.Proofs.Ytnpidfbcbmeijaa
