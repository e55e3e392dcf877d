/-
 Parts of the proofs of the laws FnExactSplitMemory.
-/
import Derived.Lib.SmallJoins
import Derived.Test.YtnpidfbcbmeijaaPT
set_option linter.all false
namespace Go.Proofs.Ytnpidfbcbmeijaa
open Go.RowKit Go.ChangeShapes Go.WideShapes
variable {H:Type} {enc:TypeId × Value→H} {P:Program} {w:World} {base:Nat} {spare:Nat→Bool} {held:Bool}
theorem rd_ints {t e:TypeId} {fuel:Nat} {c:Value} {x:DataW H × List MemPlace} (ht:P.underlying t=some (.slice e)) (he:P.underlying e=some (.int .i64)) (hc:P.cellsOf e=1)
  (h:DataW.trod enc P w base spare held fuel t [c]=some x):∃ xs:List Int,Reads w 1 c xs.length (ints xs)∧∀ n ∈ xs,(Lit.int .i64 n).wf=true:=by
 rcases open_ints ht he hc h with ⟨hcs,_⟩ | ⟨a,len,cap,zs,hcs,_,hl,hm,hz,_,hcell,hwz⟩
 ·simp only [List.cons.injEq,and_true] at hcs;subst hcs;exact ⟨[],Ro (World.ownsRow_nil w 0 0 1) (by simp),fun n hn=>by cases hn⟩
 simp only [List.cons.injEq,and_true] at hcs;subst hcs;have g0:len≤zs.length:=by rw [hz];split <;> omega
 have d0:(zs.take len).length=len:=by rw [List.length_take];omega
 refine ⟨zs.take len,?_,fun n hn=>hwz n (List.mem_of_mem_take hn)⟩;rw [d0];obtain ⟨b,f0,b0⟩:=a;refine ⟨by rw [ints_length,d0];omega,by unfold maxLen at hm;omega,some ⟨b,f0,b0⟩,cap,b,f0,rfl,⟨hl,fun h=>by cases h⟩,?_,?_⟩
 ·intro h0;have c0:=hcell 0 (by omega);have a0:b0=none:=by simpa [Addr.add] using World.cell?_spot c0
  subst a0;exact ⟨rfl,by have:=World.block_lt_of_cell? w _ c0;simpa [Addr.add] using this⟩
 intro j hj;have hj':j < len:=by rw [ints_length,d0] at hj;exact hj
 have c0:=hcell 0 (by omega);have a0:b0=none:=by simpa [Addr.add] using World.cell?_spot c0
 subst a0;have e0:=hcell j (by omega);rw [addr_add] at e0;rw [e0,ints_get,List.getElem_take];congr 2
 simp only [List.getD_eq_getElem?_getD];rw [List.getElem?_eq_getElem (by omega)];rfl
end Go.Proofs.Ytnpidfbcbmeijaa
namespace Go.Proofs.Ytnpidfbcbmeijaa
open Go.RowKit
theorem Ac {w:World} {a:Addr} {x:Value} (h:w.cell? a=some x) (o:Obj):(w.alloc o).cell? a=some x:=by
 have hb:=World.block_lt_of_cell? w a h;rw [← h];exact World.cell?_of_block (w:=w) (heap_alloc_old w o hb)
theorem Nc {w:World} {b j b' j':Nat} {x:Value} (h:w.cell? ⟨b',j',none⟩=some x) (hn:¬(b'=b∧j'=j)) (u:Value):(w.setCell ⟨b,j,none⟩ u).cell? ⟨b',j',none⟩=some x:=by
 rw [World.cell?_setCell_other w ⟨b,j,none⟩ ⟨b',j',none⟩ u (fun e=>hn (by simp only [Addr.mk.injEq] at e;omega))];exact h
theorem Nn {w:World} {b j b' j':Nat} {x:Value} (h:w.cell? ⟨b',j',none⟩=some x) (u:Value) (hn:¬(b'=b∧j'=j):=by omega):(w.setCell ⟨b,j,none⟩ u).cell? ⟨b',j',none⟩=some x:=Nc h hn u
theorem Wc {w:World} {cs:Array Value} {t:TypeId} {b j:Nat} {x:Value} (hb:b=w.heap.size) (h:cs[j]? = some x):(w.alloc (.cells cs t)).cell? ⟨b,j,none⟩=some x:=by
 subst hb;rw [cell_of_row _ _ j cs t (0,0) (heap_alloc_new w _)];exact h
theorem Fn {w:World} {cs:Array Value} {t:TypeId} {b j:Nat} (hb:b=w.heap.size):(w.alloc (.cells cs t)).frozen? ⟨b,j,none⟩=false:=by
 subst hb;exact froz_new w cs t j
theorem Fa {w:World} {b j:Nat} {c:Bool} (hb:b < w.heap.size) (h:w.frozen? ⟨b,j,none⟩=c) (o:Obj):(w.alloc o).frozen? ⟨b,j,none⟩=c:=by
 rw [← h];exact World.frozen?_of_block (w:=w) (heap_alloc_old w o hb)
theorem Fs {w:World} {a b:Addr} {c:Bool} (h:w.frozen? a=c) (u:Value):(w.setCell b u).frozen? a=c:=(froz_set w b u a).trans h
theorem Gc {S:Nat→Prop} {w w':World} (h:Chg S w w') {b j:Nat} {x:Value} (hc:w.cell? ⟨b,j,none⟩=some x) (hs:¬S b):w'.cell? ⟨b,j,none⟩=some x:=(h.cell j (Lc hc) hs).trans hc
theorem Gf {S:Nat→Prop} {w w':World} (h:Chg S w w') {b j:Nat} {c:Bool} (hb:b < w.heap.size) (hc:w.frozen? ⟨b,j,none⟩=c) (hs:¬S b):w'.frozen? ⟨b,j,none⟩=c:=(h.frozen j hb hs).trans hc
theorem own_diff {w:World} {base base':Nat} {e e':TypeId} {sz sz' n n':Nat} {v v':Value} {xs ys:List Value} (h:w.ownsRow base e sz v n xs) (h':w.ownsRow base' e' sz' v' n' ys) (he:e≠e'):∀ q,v.ownBlock=some q→v'.ownBlock=some q→False:=by
 intro q h1 h2;rcases h.2 with ⟨rfl,_⟩ | ⟨g,cap,cur,rfl,_,hg,_⟩
 ·simp [Value.ownBlock] at h1
 rcases h'.2 with ⟨rfl,_⟩ | ⟨g',cap',cur',rfl,_,hg',_⟩
 ·simp [Value.ownBlock] at h2
 have e1:g=q:=Si h1;have e2:g'=q:=Si h2;subst e1;subst e2;rw [hg] at hg';simp only [Option.some.injEq,Obj.cells.injEq] at hg';exact he hg'.2.1
end Go.Proofs.Ytnpidfbcbmeijaa
