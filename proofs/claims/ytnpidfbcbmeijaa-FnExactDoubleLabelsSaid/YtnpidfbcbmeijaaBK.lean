/-
 Parts of the proofs of the laws FnExactDoubleLabels.
-/
import Derived.Test.YtnpidfbcbmeijaaCL
set_option linter.all false
namespace Go.Proofs.Ytnpidfbcbmeijaa
open Go.RowKit
def Bk (w:World) (b:Nat) (vs:List Value):Prop:=∀ j (h:j < vs.length),w.cell? ⟨b,j,none⟩=some vs[j]∧w.frozen? ⟨b,j,none⟩=false
section
variable {w w':World} {b:Nat} {vs:List Value}
theorem Bk.cell (h:Bk w b vs) (j:Nat) {v:Value} (hj:vs[j]? = some v):w.cell? ⟨b,j,none⟩=some v:=by
 obtain ⟨h1,rfl⟩:=List.getElem?_eq_some_iff.1 hj;exact (h j h1).1
theorem Bk.froz (h:Bk w b vs) (j:Nat) (hj:j < vs.length):w.frozen? ⟨b,j,none⟩=false:=(h j hj).2
theorem Bk.lt (h:Bk w b vs) (h0:0 < vs.length):b < w.heap.size:=Lc (h 0 h0).1
theorem Bk.al (h:Bk w b vs) (o:Obj):Bk (w.alloc o) b vs:=fun j hj=>⟨Ac (h j hj).1 o,Fa (Lc (h j hj).1) (h j hj).2 o⟩
theorem Bk.nw {cs:Array Value} {t:TypeId} (hb:b=w.heap.size) (hc:cs.toList=vs):Bk (w.alloc (.cells cs t)) b vs:=fun j hj=>by
 subst hc;exact ⟨Wc hb (by simp at hj;rw [Array.getElem?_eq_getElem hj];simp),Fn hb⟩
theorem Bk.ne (h:Bk w b vs) {b' j':Nat} (hn:¬b=b') (u:Value):Bk (w.setCell ⟨b',j',none⟩ u) b vs:=fun j hj=>⟨Nc (h j hj).1 (by omega) u,Fs (h j hj).2 u⟩
theorem Bk.at (h:Bk w b vs) (k:Nat) (u:Value):Bk (w.setCell ⟨b,k,none⟩ u) b (vs.set k u):=fun j hj=>by
 rw [List.length_set] at hj;by_cases hk:k=j
 ·subst hk;rw [List.getElem_set_self];exact ⟨Tc w b k u (h k hj).1,Fs (h k hj).2 u⟩
 rw [List.getElem_set_ne hk];exact ⟨Nn (h j hj).1 u,Fs (h j hj).2 u⟩
theorem Bk.below (h:Bk w b vs) (hb:Below w.heap.size w w'):Bk w' b vs:=fun j hj=>⟨Kc hb (h j hj).1,Kf hb (Lc (h j hj).1) (h j hj).2⟩
theorem Bb (h:Bk w b vs) (hb:Below w.heap.size w w'):Bk w' b vs:=Bk.below h hb
theorem Bk.kg {g:Nat} (h:Bk w b vs) (hc:Chg (fun k=>k=g) w w') (n:¬b=g:=by omega):Bk w' b vs:=fun j hj=>⟨Gc hc (h j hj).1 n,Gf hc (Lc (h j hj).1) (h j hj).2 n⟩
theorem Bk.nn (h:Bk w b vs) {b' j':Nat} (u:Value) (hn:¬b=b':=by omega):Bk (w.setCell ⟨b',j',none⟩ u) b vs:=Bk.ne h hn u
theorem Bk.keep {S:Nat→Prop} (h:Bk w b vs) (hc:Chg S w w') (hs:¬S b):Bk w' b vs:=fun j hj=>⟨Gc hc (h j hj).1 hs,Gf hc (Lc (h j hj).1) (h j hj).2 hs⟩
end
end Go.Proofs.Ytnpidfbcbmeijaa
