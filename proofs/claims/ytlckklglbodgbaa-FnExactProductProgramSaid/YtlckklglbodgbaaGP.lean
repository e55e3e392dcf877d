/-
 Parts of the proofs of the laws FnExactProductProgram.
-/
import Derived.Lib.AppendZeros
import Derived.Test.YtlckklglbodgbaaCL
set_option maxHeartbeats 12800000
set_option maxRecDepth 100000
set_option linter.all false
namespace Go.Proofs.Ytlckklglbodgbaa
open Go.RowKit
theorem grow_z (m:Nat) (hm:m≤1000000) (w:World) :
  Calls Try.prog 45 #[.slice none 0 0,.int .i64 m] w fun e w'=>∃ v,e=.returned v∧w'.ownsRow w.heap.size 3 1 v 0 []∧Below w.heap.size w w':=by
 by_cases h0:m=0
 ·subst h0;go_enter Try.func45,Try.ntmps45
  go_wp2
  go_ret
  exact ⟨_,rfl,World.ownsRow_nil _ _ _ _,Below.refl _ _⟩
 obtain ⟨i0,hi,e0,j0,f0⟩:=info_parts info_int
 have d0:∀ ty,(Builtin.append_ #[23,3] ty #[.slice none 0 0,.int .i64 (m:Int)]).run Try.prog w=.ok (.slice (some ⟨w.heap.size,0,none⟩) m (grownCap w m 0 3)) (w.drew.alloc (.cells (Builtin.zeroCells (Value.int .i64 0).cells m++Builtin.zeroCells (Value.int .i64 0).cells (grownCap w m 0 3-m)) 3)):=fun ty =>
  Lib.run_append_nil_zeros (P:=Try.prog) w 23 3 ty 3 i0 (.int .i64 0) .i64 .i64 Try.underlying23 Try.underlying3 hi e0 m (by omega) (by omega) (by omega) (by rw [f0];omega)
 have g0:=grownCap_ge w m 0 3;have c0:=grownCap_le_maxLen w m 0 3 (by unfold maxLen;omega)
 have b0:(w.drew.alloc (.cells (Builtin.zeroCells (Value.int .i64 0).cells m++Builtin.zeroCells (Value.int .i64 0).cells (grownCap w m 0 3-m)) 3)).ownsRow w.heap.size 3 1 (.slice (some ⟨w.heap.size,0,none⟩) 0 (grownCap w m 0 3)) 0 []:=by
  refine ⟨rfl,.inr ⟨w.heap.size,_,_,rfl,Lr,heap_alloc_new w.drew _,Nat.zero_le _,c0,?_,by simp⟩⟩;simp only [Array.size_append,size_zeroCells];have:(Value.int IntKind.i64 0).cells.size=1:=rfl
  rw [this];omega
 have a0:Below w.heap.size w (w.drew.alloc (.cells (Builtin.zeroCells (Value.int .i64 0).cells m++Builtin.zeroCells (Value.int .i64 0).cells (grownCap w m 0 3-m)) 3)):=
  ((⟨rfl,rfl,rfl,by simp,fun k hk _=>heap_alloc_old w.drew _ hk⟩:Chg (fun _=>False) w (w.drew.alloc _)).below w.heap.size Lr (fun _ _ h=>h))
 obtain ⟨G,hG⟩:∃ G,G=grownCap w m 0 3:=⟨_,rfl⟩;rw [← hG] at d0 g0 c0 b0 a0;unfold maxLen at c0
 clear hG hi e0 j0 f0;have b0:=Hi b0;have a0:=Hi a0;go_enter Try.func45,Try.ntmps45
 go_wp2_with (at_builtin;refine Lib.wpList_append_run _ rfl _ _ _ _ rfl _ _ rfl rfl _ _ (d0 _) ?_)
 all_goals (go_ret;exact ⟨_,rfl,b0.out,a0.out⟩)
theorem concat_two (va:Value) (xs:List Int) (p:Nat) (w:World) (hr:Reads w 1 va xs.length (ints xs)) (hlen:xs.length≤1000) (hp:p < w.heap.size) (h0:w.cell? ⟨p,0,none⟩=some va) (h1:w.cell? ⟨p,1,none⟩=some va) :
  Calls Try.prog 19 #[.slice (some ⟨p,0,none⟩) 2 2] w fun e w'=>∃ v,e=.returned v∧w'.ownsRow w.heap.size 3 1 v (xs.length+xs.length) (ints xs++ints xs)∧Below w.heap.size w w':=by
 obtain ⟨pv,cv,rfl⟩:=reads_shape hr;have HR:=Hi hr;clear hr;go_enter Try.func19,Try.ntmps19
 go_wp2
 go_loopw [3,11] (fun s i wr=>∃ k:Nat,(k=0∨k=1∨k=2)∧i=.int .i64 k∧s=.int .i64 ((k*xs.length:Nat):Int)∧w=wr) (fun s i _=>2-(intOf i).toNat)
 case atStart=>exact ⟨0,.inl rfl,rfl,by simp,rfl⟩
 case round =>
  obtain ⟨k,hk,rfl,rfl,rfl⟩:=hrel;rcases hk with rfl | rfl | rfl
  ·go_wp2
   go_roundw
   case rel=>exact ⟨1,by simp,by go_num,by go_num,by simp⟩
   case measure=>simp [intOf]
  ·go_wp2
   go_roundw
   case rel=>exact ⟨2,by simp,by go_num,by go_num,by simp⟩
   case measure=>simp [intOf]
  go_wp2_with fail
  refine (grow_z (2*xs.length) (by omega) _).mono ?_;rintro e w1 ⟨v,rfl,ho,hb⟩;have hr:=HR.out.below hb;have g0:=(hb.cell (p:=⟨p,0,none⟩) hp).trans h0;have g1:=(hb.cell (p:=⟨p,1,none⟩) hp).trans h1;have HO:=Hi ho;have HB:=Hi hb;have j0:=Hi hr;have i0:=HR;have H0:=Hi h0;have H1:=Hi h1;have k0:=hb.size;clear ho hb hr h0 h1;go_wp2
  go_loopw [6,27] (fun s i wq=>Below w.heap.size w wq∧((i=.int .i64 0∧wq.ownsRow w.heap.size 3 1 s 0 [])∨(i=.int .i64 1∧wq.ownsRow w.heap.size 3 1 s xs.length (ints xs))∨(i=.int .i64 2∧wq.ownsRow w.heap.size 3 1 s (xs.length+xs.length) (ints xs++ints xs)))) (fun s i _=>2-(intOf i).toNat)
  case atStart=>exact ⟨HB.out,.inl ⟨rfl,HO.out⟩⟩
  case round =>
   clear HO j0;obtain ⟨a0,hrel⟩:=hrel;have hr:=i0.out.below a0;have g0:=(a0.cell (p:=⟨p,0,none⟩) hp).trans H0.out;have g1:=(a0.cell (p:=⟨p,1,none⟩) hp).trans H1.out;have d0:=a0.size;rcases hrel with ⟨rfl,ho⟩ | ⟨rfl,ho⟩ | ⟨rfl,ho⟩
   ·obtain ⟨p9,c9,rfl⟩:=Oh ho;have HO:=Hi ho;have HR:=Hi hr;have b0:=Hi a0;clear ho hr a0;go_wp2_with (at_builtin;refine wpList_aps tInts rfl _ _ rfl w.heap.size _ 0 [] rfl HO.out _ _ _ rfl HR.out (one_ints xs) (by omega) ?c1 ?_)
    case c1=>omega
    intro v' w' ho' hc' hn' _;obtain ⟨a',c',rfl⟩:=Oh ho';have c0:=b0.out.trans (hc'.below w.heap.size d0 (fun k hk=>not_own HO.out hk));have f0:=Hi ho';have e0:=Hi c0;clear hc' hn' c0 ho' g0 g1;go_wp2
    go_roundw
    case rel=>exact ⟨e0.out,.inr (.inl ⟨by go_num,f0.out⟩)⟩
    case measure=>simp [intOf]
   ·obtain ⟨p9,c9,rfl⟩:=Oh ho;have HO:=Hi ho;have HR:=Hi hr;have b0:=Hi a0;clear ho hr a0;go_wp2_with (at_builtin;refine wpList_aps tInts rfl _ _ rfl w.heap.size _ _ (ints xs) rfl HO.out _ _ _ rfl HR.out (one_ints xs) (by omega) ?c1 ?_)
    case c1=>omega
    intro v' w' ho' hc' hn' _;obtain ⟨a',c',rfl⟩:=Oh ho';have c0:=b0.out.trans (hc'.below w.heap.size d0 (fun k hk=>not_own HO.out hk));have f0:=Hi ho';have e0:=Hi c0;clear hc' hn' c0 ho' g0 g1;go_wp2
    go_roundw
    case rel=>exact ⟨e0.out,.inr (.inr ⟨by go_num,f0.out⟩)⟩
    case measure=>simp [intOf]
   obtain ⟨p9,c9,rfl⟩:=Oh ho;have HO:=Hi ho;have b0:=Hi a0;clear ho hr a0;go_wp2
   go_ret
   exact ⟨_,rfl,HO.out,b0.out⟩
end Go.Proofs.Ytlckklglbodgbaa
