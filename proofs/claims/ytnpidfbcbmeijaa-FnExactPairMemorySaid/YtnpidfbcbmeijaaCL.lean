/-
 Parts of the proofs of the laws FnExactPairMemory.
-/
import Derived.Test.YtnpidfbcbmeijaaProg
import Derived.Test.YtnpidfbcbmeijaaK
set_option linter.all false
namespace Go.Proofs.Ytnpidfbcbmeijaa
open Go.RowKit
theorem Ac {w:World} {a:Addr} {x:Value} (h:w.cell? a=some x) (o:Obj):(w.alloc o).cell? a=some x:=by
 have hb:=World.block_lt_of_cell? w a h;rw [← h];exact World.cell?_of_block (w:=w) (heap_alloc_old w o hb)
theorem Nc {w:World} {b j b' j':Nat} {x:Value} (h:w.cell? ⟨b',j',none⟩=some x) (hn:¬(b'=b∧j'=j)) (u:Value):(w.setCell ⟨b,j,none⟩ u).cell? ⟨b',j',none⟩=some x:=by
 rw [World.cell?_setCell_other w ⟨b,j,none⟩ ⟨b',j',none⟩ u (fun e=>hn (by simp only [Addr.mk.injEq] at e;omega))];exact h
theorem Nn {w:World} {b j b' j':Nat} {x:Value} (h:w.cell? ⟨b',j',none⟩=some x) (u:Value) (hn:¬(b'=b∧j'=j):=by omega):(w.setCell ⟨b,j,none⟩ u).cell? ⟨b',j',none⟩=some x:=Nc h hn u
theorem Wc {w:World} {cs:Array Value} {t:TypeId} {b j:Nat} {x:Value} (hb:b=w.heap.size) (h:cs[j]? = some x):(w.alloc (.cells cs t)).cell? ⟨b,j,none⟩=some x:=by
 subst hb;rw [cell_of_row _ _ j cs t (0,0) (heap_alloc_new w _)];exact h
theorem Fn {w:World} {cs:Array Value} {t:TypeId} {b j:Nat} (hb:b=w.heap.size):(w.alloc (.cells cs t)).frozen? ⟨b,j,none⟩=false:=by
 subst hb;exact froz_new w cs t j
theorem Fa {w:World} {b j:Nat} {c:Bool} (hb:b < w.heap.size) (h:w.frozen? ⟨b,j,none⟩=c) (o:Obj):(w.alloc o).frozen? ⟨b,j,none⟩=c:=by
 rw [← h];exact World.frozen?_of_block (w:=w) (heap_alloc_old w o hb)
theorem Fs {w:World} {a b:Addr} {c:Bool} (h:w.frozen? a=c) (u:Value):(w.setCell b u).frozen? a=c:=(froz_set w b u a).trans h
theorem Gc {S:Nat→Prop} {w w':World} (h:Chg S w w') {b j:Nat} {x:Value} (hc:w.cell? ⟨b,j,none⟩=some x) (hs:¬S b):w'.cell? ⟨b,j,none⟩=some x:=(h.cell j (Lc hc) hs).trans hc
theorem Gf {S:Nat→Prop} {w w':World} (h:Chg S w w') {b j:Nat} {c:Bool} (hb:b < w.heap.size) (hc:w.frozen? ⟨b,j,none⟩=c) (hs:¬S b):w'.frozen? ⟨b,j,none⟩=c:=(h.frozen j hb hs).trans hc
theorem own_diff {w:World} {base base':Nat} {e e':TypeId} {sz sz' n n':Nat} {v v':Value} {xs ys:List Value} (h:w.ownsRow base e sz v n xs) (h':w.ownsRow base' e' sz' v' n' ys) (he:e≠e'):∀ q,v.ownBlock=some q→v'.ownBlock=some q→False:=by
 intro q h1 h2;rcases h.2 with ⟨rfl,_⟩ | ⟨g,cap,cur,rfl,_,hg,_⟩
 ·simp [Value.ownBlock] at h1
 rcases h'.2 with ⟨rfl,_⟩ | ⟨g',cap',cur',rfl,_,hg',_⟩
 ·simp [Value.ownBlock] at h2
 have e1:g=q:=Si h1;have e2:g'=q:=Si h2;subst e1;subst e2;rw [hg] at hg';simp only [Option.some.injEq,Obj.cells.injEq] at hg';exact he hg'.2.1
theorem all_succ {xs:List Int} {k:Nat} {P:(j:Nat)→Int→Prop} (hk:k < xs.length) (h:∀ j (h:j < xs.length),j < k→P j xs[j]) (hx:P k xs[k]):∀ j (h:j < xs.length),j < k+1→P j xs[j]:=by
 intro j hj a0;by_cases e:j=k
 ·subst e;exact hx
 exact h j hj (by omega)
theorem eqIntS_any (va vb:Value) (xs ys:List Int) (w:World) (ha:Reads w 1 va xs.length (ints xs)) (hb:Reads w 1 vb ys.length (ints ys)) :
  Calls Try.prog 32 #[va,vb] w fun e w'=>e=.returned (.bool (decide (xs=ys)))∧∃ k,w'=w.drewN k:=by
 obtain ⟨_,hn,a,g0,b,i0,rfl,f0,ha,a0⟩:=ha;obtain ⟨_,hn',a',cap',b',off',rfl,hcap',ha',b0⟩:=hb;by_cases hl:xs.length=ys.length
 ·have e0:((xs.length:Int) != (ys.length:Int))=false:=by simp [hl]
  have HL:=Hi hl;clear hl;go_enter Try.func32,Try.ntmps32
  go_wp2
  go_loopw [5] (fun i wr=>∃ k:Nat,k≤xs.length∧i=.int .i64 k∧xs.take k=ys.take k∧∃ d,wr=w.drewN d) (fun i _=>xs.length-(intOf i).toNat)
  case atStart=>exact ⟨0,Nat.zero_le _,rfl,rfl,0,rfl⟩
  case round =>
   obtain ⟨k,hk,rfl,he,d,rfl⟩:=hrel;have HE:=Hi he;clear he;by_cases hlt:k < xs.length
   ·obtain ⟨rfl,h0⟩:=ha (by omega);obtain ⟨rfl,hbs'⟩:=ha' (by have:=HL.out;omega);have hlt':k < ys.length:=by have:=HL.out;omega
    have c0:=a0 k (by simpa [ints] using hlt);have d0:=b0 k (by simpa [ints] using hlt');rw [ints_get] at c0 d0;clear a0 b0 ha ha';by_cases hxy:xs[k]=ys[k]
    ·have e1:(xs[k] != ys[k])=false:=by simp [hxy]
     clear hxy;go_wp2
     go_quiet (fail)
     go_wp2
     go_roundw
     case rel=>exact ⟨k+1,by omega,by go_num,take_succ_eq hlt hlt' HE.out (by simpa using e1),_,rfl⟩
     case measure=>simp [intOf];omega
    have e1:(xs[k] != ys[k])=true:=by simp [hxy]
    have HX:=Hi hxy;clear hxy;go_wp2
    go_quiet (fail)
    go_wp2
    go_ret
    exact ⟨ret_bool (decide_eq_false (fun h=>HX.out (by subst h;rfl))).symm,_,World.drewN_drewN ..⟩
   go_wp2
   go_ret
   exact ⟨ret_bool (decide_eq_true (by have h:=HE.out;rwa [List.take_of_length_le (by omega),List.take_of_length_le (by have:=HL.out;omega)] at h)).symm,_,rfl⟩
 have e0:((xs.length:Int) != (ys.length:Int))=true:=by simp;omega
 have HL:=Hi hl;clear hl;go_enter Try.func32,Try.ntmps32
 go_wp2
 go_ret
 exact ⟨ret_bool (decide_eq_false (fun h=>HL.out (by rw [h]))).symm,0,rfl⟩
end Go.Proofs.Ytnpidfbcbmeijaa
