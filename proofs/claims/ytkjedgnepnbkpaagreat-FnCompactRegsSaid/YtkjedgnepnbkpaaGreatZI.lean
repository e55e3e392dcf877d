/-
 Parts of the proofs of the laws FnCompactRegs,FnFenceCode,FnRunTimeSteps.
-/
import Derived.Test.YtkjedgnepnbkpaaGreatNB
import Derived.Test.YtkjedgnepnbkpaaGreatKq3
set_option linter.all false
namespace Go.Proofs.YtkjedgnepnbkpaaGreat
open Go.RowKit
theorem OwnY.putK {w:World} {base n k g l c:Nat} {v:Value} {us:List Value} (h:OwnY w base v us n) (hu:us[k]? = some (.slice (some ⟨g,0,none⟩) l c)) (j:Nat) (x:Int):OwnY (w.setCell ⟨g,j,none⟩ (.int .i64 x)) base v us n:=by
 obtain ⟨L,h1,h2,h3⟩:=h.h
 have hk:k < us.length:=(List.getElem?_eq_some_iff.1 hu).1
 have a0:k < L.length:=by rw [← h3.len];exact hk
 have ho:=h3.row k _ _ hu (List.getElem?_eq_getElem a0)
 have e:l=L[k].length:=by obtain ⟨a',c',hs⟩:=Oh ho;simp only [Value.slice.injEq] at hs;exact hs.2.1
 subst e
 have hs:=(ho.stored j (.int .i64 x)).1
 rw [ints_set] at hs
 have hl:(L[k].set j x).length=L[k].length:=List.length_set
 refine ⟨L.set k (L[k].set j x),by rw [List.length_set];exact h1,fun r hr=>?_,h3.turn (w':=w.setCell ⟨g,j,none⟩ (.int .i64 x)) hu (own_cast hs hl.symm) ((Chg.refl _ w).setCell g j _ (fun _=>rfl)) (by decide)⟩
 rcases List.mem_or_eq_of_mem_set hr with h4 | rfl
 ·exact h2 r h4
 rw [hl];exact h2 _ (List.getElem_mem a0)
theorem OwnY.rowK {w:World} {base n g c:Nat} {us:List Value} (h:OwnY w base (.slice (some ⟨g,0,none⟩) n c) us n) (k:Nat) (hk:k < n):∃ gk l t,us[k]? = some (.slice (some ⟨gk,0,none⟩) l t)∧3≤l∧l≤4∧w.cell? ⟨g,k,none⟩=some (.slice (some ⟨gk,0,none⟩) l t)∧(base≤gk∧gk < w.heap.size∧¬gk=g)∧∀ j,j < l→(∃ x:Int,w.cell? ⟨gk,j,none⟩=some (.int .i64 x))∧w.frozen? ⟨gk,j,none⟩=false:=by
 obtain ⟨L,rfl,h2,h3⟩:=h.h
 obtain ⟨u,hu,ho⟩:=h3.rowAt k hk
 have hl:=h2 L[k] (List.getElem_mem hk)
 obtain ⟨gk,t,rfl⟩:∃ gk t,u=.slice (some ⟨gk,0,none⟩) L[k].length t:=by
  obtain ⟨b,c2,hb⟩:=own_pos ho (by omega);exact ⟨b,c2,hb⟩
 refine ⟨gk,_,t,hu,hl.1,hl.2,by rw [h3.outAt.cellAt k (by omega)];exact hu,?_,fun j hj=>⟨⟨L[k][j],by rw [ho.cellAt j (by omega),ints_at _ _ hj]⟩,ho.frozenAt j⟩⟩
 have:=ho.lt gk rfl
 exact ⟨this.1,this.2,fun e=>h3.outer (by decide) k _ hu g rfl (by rw [← e];rfl)⟩
end Go.Proofs.YtkjedgnepnbkpaaGreat
