/-
 Parts of the proofs of the laws FnDoubleLabels.
-/
import Derived.Test.YtlckklglbodgbaaPU
set_option linter.all false
namespace Go.Proofs.Ytlckklglbodgbaa
open Go.RowKit
def Bk (w:World) (b:Nat) (vs:List Value):Prop:=∀ j (h:j < vs.length),w.cell? ⟨b,j,none⟩=some vs[j]∧w.frozen? ⟨b,j,none⟩=false
section
variable {w w':World} {b:Nat} {vs:List Value}
theorem Bk.cell (h:Bk w b vs) (j:Nat) {v:Value} (hj:vs[j]? = some v):w.cell? ⟨b,j,none⟩=some v:=by
 obtain ⟨h1,rfl⟩:=List.getElem?_eq_some_iff.1 hj;exact (h j h1).1
theorem Bk.froz (h:Bk w b vs) (j:Nat) (hj:j < vs.length):w.frozen? ⟨b,j,none⟩=false:=(h j hj).2
theorem Bk.lt (h:Bk w b vs) (h0:0 < vs.length):b < w.heap.size:=Lc (h 0 h0).1
theorem Bk.al (h:Bk w b vs) (o:Obj):Bk (w.alloc o) b vs:=fun j hj=>⟨Ac (h j hj).1 o,Fa (Lc (h j hj).1) (h j hj).2 o⟩
theorem Bk.nw {cs:Array Value} {t:TypeId} (hb:b=w.heap.size) (hc:cs.toList=vs):Bk (w.alloc (.cells cs t)) b vs:=fun j hj=>by
 subst hc;exact ⟨Wc hb (by simp at hj;rw [Array.getElem?_eq_getElem hj];simp),Fn hb⟩
theorem Bk.ne (h:Bk w b vs) {b' j':Nat} (hn:¬b=b') (u:Value):Bk (w.setCell ⟨b',j',none⟩ u) b vs:=fun j hj=>⟨Nc (h j hj).1 (by omega) u,Fs (h j hj).2 u⟩
theorem Bk.at (h:Bk w b vs) (k:Nat) (u:Value):Bk (w.setCell ⟨b,k,none⟩ u) b (vs.set k u):=fun j hj=>by
 rw [List.length_set] at hj;by_cases hk:k=j
 ·subst hk;rw [List.getElem_set_self];exact ⟨Tc w b k u (h k hj).1,Fs (h k hj).2 u⟩
 rw [List.getElem_set_ne hk];exact ⟨Nn (h j hj).1 u,Fs (h j hj).2 u⟩
theorem Bk.below (h:Bk w b vs) (hb:Below w.heap.size w w'):Bk w' b vs:=fun j hj=>⟨Kc hb (h j hj).1,Kf hb (Lc (h j hj).1) (h j hj).2⟩
theorem Bb (h:Bk w b vs) (hb:Below w.heap.size w w'):Bk w' b vs:=Bk.below h hb
theorem Bk.kg {g:Nat} (h:Bk w b vs) (hc:Chg (fun k=>k=g) w w') (n:¬b=g:=by omega):Bk w' b vs:=fun j hj=>⟨Gc hc (h j hj).1 n,Gf hc (Lc (h j hj).1) (h j hj).2 n⟩
theorem Bk.nn (h:Bk w b vs) {b' j':Nat} (u:Value) (hn:¬b=b':=by omega):Bk (w.setCell ⟨b',j',none⟩ u) b vs:=Bk.ne h hn u
theorem Bk.keep {S:Nat→Prop} (h:Bk w b vs) (hc:Chg S w w') (hs:¬S b):Bk w' b vs:=fun j hj=>⟨Gc hc (h j hj).1 hs,Gf hc (Lc (h j hj).1) (h j hj).2 hs⟩
end
end Go.Proofs.Ytlckklglbodgbaa
namespace Go.Proofs.Ytlckklglbodgbaa
open Go.RowKit
theorem take_d {P:Program} {ops:Array Oper} {Q:Exit→Act→World→Prop} {md:Region.Mode} {S:World→Prop} {i:Nat} {oi:Oper} {d:Nat} {v:Value} {fuel:Nat} {listed:Array Bool} {a:Act} {w:World} (hi:ops[i]? = some oi) (hd:oi.dst=some d)
  (hs:Region.noSelect ops=true) (hf:Region.free md ops listed i=true) (hr:(Region.ready md ops listed).contains i=true)
  (hQ:∀ c a w,Q (.panic c) (a.put oi.dst v) w→Q (.panic c) a w) (hy:YieldsIf P ops S oi v a) (hS:S w)
  (h:wpAnyH P md ops Q S fuel (listed.setIfInBounds i true) (a.put (some d) v) w):wpAnyH P md ops Q S (fuel+1) listed a w:=
 wpAnyH_take hi hs hf hr hQ hy hS (by rw [hd];exact h)
theorem Bk.cf {w:World} {b:Nat} {vs:List Value} (h:Bk w b vs) (j:Nat) {v:Value} (hv:vs[j]? = some v):w.cell? ⟨b,j,none⟩=some v∧w.frozen? ⟨b,j,none⟩=false:=⟨h.cell j hv,h.froz j (List.getElem?_eq_some_iff.1 hv).1⟩
theorem Bk.lz {w:World} {b:Nat} {v:Value} {vs:List Value} (h:Bk w b (v::vs)):b < w.heap.size:=h.lt (Nat.succ_pos _)
theorem Bk.f2 {w:World} {b:Nat} {vs:List Value} {x0 x1:Value} (h:Bk w b vs) (i0 i1:Nat) (e0:vs[i0]? = some x0) (e1:vs[i1]? = some x1):w.cell? ⟨b,i0,none⟩=some x0∧w.frozen? ⟨b,i0,none⟩=false∧w.cell? ⟨b,i1,none⟩=some x1∧w.frozen? ⟨b,i1,none⟩=false:=⟨(h.cf i0 e0).1,(h.cf i0 e0).2,(h.cf i1 e1).1,(h.cf i1 e1).2⟩
theorem Bk.f3 {w:World} {b:Nat} {vs:List Value} {x0 x1 x2:Value} (h:Bk w b vs) (i0 i1 i2:Nat) (e0:vs[i0]? = some x0) (e1:vs[i1]? = some x1) (e2:vs[i2]? = some x2):w.cell? ⟨b,i0,none⟩=some x0∧w.frozen? ⟨b,i0,none⟩=false∧w.cell? ⟨b,i1,none⟩=some x1∧w.frozen? ⟨b,i1,none⟩=false∧w.cell? ⟨b,i2,none⟩=some x2∧w.frozen? ⟨b,i2,none⟩=false:=⟨(h.cf i0 e0).1,(h.cf i0 e0).2,(h.cf i1 e1).1,(h.cf i1 e1).2,(h.cf i2 e2).1,(h.cf i2 e2).2⟩
theorem Bk.f4 {w:World} {b:Nat} {vs:List Value} {x0 x1 x2 x3:Value} (h:Bk w b vs) (i0 i1 i2 i3:Nat) (e0:vs[i0]? = some x0) (e1:vs[i1]? = some x1) (e2:vs[i2]? = some x2) (e3:vs[i3]? = some x3):w.cell? ⟨b,i0,none⟩=some x0∧w.frozen? ⟨b,i0,none⟩=false∧w.cell? ⟨b,i1,none⟩=some x1∧w.frozen? ⟨b,i1,none⟩=false∧w.cell? ⟨b,i2,none⟩=some x2∧w.frozen? ⟨b,i2,none⟩=false∧w.cell? ⟨b,i3,none⟩=some x3∧w.frozen? ⟨b,i3,none⟩=false:=⟨(h.cf i0 e0).1,(h.cf i0 e0).2,(h.cf i1 e1).1,(h.cf i1 e1).2,(h.cf i2 e2).1,(h.cf i2 e2).2,(h.cf i3 e3).1,(h.cf i3 e3).2⟩
theorem Bk.f5 {w:World} {b:Nat} {vs:List Value} {x0 x1 x2 x3 x4:Value} (h:Bk w b vs) (i0 i1 i2 i3 i4:Nat) (e0:vs[i0]? = some x0) (e1:vs[i1]? = some x1) (e2:vs[i2]? = some x2) (e3:vs[i3]? = some x3) (e4:vs[i4]? = some x4):w.cell? ⟨b,i0,none⟩=some x0∧w.frozen? ⟨b,i0,none⟩=false∧w.cell? ⟨b,i1,none⟩=some x1∧w.frozen? ⟨b,i1,none⟩=false∧w.cell? ⟨b,i2,none⟩=some x2∧w.frozen? ⟨b,i2,none⟩=false∧w.cell? ⟨b,i3,none⟩=some x3∧w.frozen? ⟨b,i3,none⟩=false∧w.cell? ⟨b,i4,none⟩=some x4∧w.frozen? ⟨b,i4,none⟩=false:=⟨(h.cf i0 e0).1,(h.cf i0 e0).2,(h.cf i1 e1).1,(h.cf i1 e1).2,(h.cf i2 e2).1,(h.cf i2 e2).2,(h.cf i3 e3).1,(h.cf i3 e3).2,(h.cf i4 e4).1,(h.cf i4 e4).2⟩
theorem Bk.f6 {w:World} {b:Nat} {vs:List Value} {x0 x1 x2 x3 x4 x5:Value} (h:Bk w b vs) (i0 i1 i2 i3 i4 i5:Nat) (e0:vs[i0]? = some x0) (e1:vs[i1]? = some x1) (e2:vs[i2]? = some x2) (e3:vs[i3]? = some x3) (e4:vs[i4]? = some x4) (e5:vs[i5]? = some x5):w.cell? ⟨b,i0,none⟩=some x0∧w.frozen? ⟨b,i0,none⟩=false∧w.cell? ⟨b,i1,none⟩=some x1∧w.frozen? ⟨b,i1,none⟩=false∧w.cell? ⟨b,i2,none⟩=some x2∧w.frozen? ⟨b,i2,none⟩=false∧w.cell? ⟨b,i3,none⟩=some x3∧w.frozen? ⟨b,i3,none⟩=false∧w.cell? ⟨b,i4,none⟩=some x4∧w.frozen? ⟨b,i4,none⟩=false∧w.cell? ⟨b,i5,none⟩=some x5∧w.frozen? ⟨b,i5,none⟩=false:=⟨(h.cf i0 e0).1,(h.cf i0 e0).2,(h.cf i1 e1).1,(h.cf i1 e1).2,(h.cf i2 e2).1,(h.cf i2 e2).2,(h.cf i3 e3).1,(h.cf i3 e3).2,(h.cf i4 e4).1,(h.cf i4 e4).2,(h.cf i5 e5).1,(h.cf i5 e5).2⟩
theorem Bk.f7 {w:World} {b:Nat} {vs:List Value} {x0 x1 x2 x3 x4 x5 x6:Value} (h:Bk w b vs) (i0 i1 i2 i3 i4 i5 i6:Nat) (e0:vs[i0]? = some x0) (e1:vs[i1]? = some x1) (e2:vs[i2]? = some x2) (e3:vs[i3]? = some x3) (e4:vs[i4]? = some x4) (e5:vs[i5]? = some x5) (e6:vs[i6]? = some x6):w.cell? ⟨b,i0,none⟩=some x0∧w.frozen? ⟨b,i0,none⟩=false∧w.cell? ⟨b,i1,none⟩=some x1∧w.frozen? ⟨b,i1,none⟩=false∧w.cell? ⟨b,i2,none⟩=some x2∧w.frozen? ⟨b,i2,none⟩=false∧w.cell? ⟨b,i3,none⟩=some x3∧w.frozen? ⟨b,i3,none⟩=false∧w.cell? ⟨b,i4,none⟩=some x4∧w.frozen? ⟨b,i4,none⟩=false∧w.cell? ⟨b,i5,none⟩=some x5∧w.frozen? ⟨b,i5,none⟩=false∧w.cell? ⟨b,i6,none⟩=some x6∧w.frozen? ⟨b,i6,none⟩=false:=⟨(h.cf i0 e0).1,(h.cf i0 e0).2,(h.cf i1 e1).1,(h.cf i1 e1).2,(h.cf i2 e2).1,(h.cf i2 e2).2,(h.cf i3 e3).1,(h.cf i3 e3).2,(h.cf i4 e4).1,(h.cf i4 e4).2,(h.cf i5 e5).1,(h.cf i5 e5).2,(h.cf i6 e6).1,(h.cf i6 e6).2⟩
theorem Bk.f8 {w:World} {b:Nat} {vs:List Value} {x0 x1 x2 x3 x4 x5 x6 x7:Value} (h:Bk w b vs) (i0 i1 i2 i3 i4 i5 i6 i7:Nat) (e0:vs[i0]? = some x0) (e1:vs[i1]? = some x1) (e2:vs[i2]? = some x2) (e3:vs[i3]? = some x3) (e4:vs[i4]? = some x4) (e5:vs[i5]? = some x5) (e6:vs[i6]? = some x6) (e7:vs[i7]? = some x7):w.cell? ⟨b,i0,none⟩=some x0∧w.frozen? ⟨b,i0,none⟩=false∧w.cell? ⟨b,i1,none⟩=some x1∧w.frozen? ⟨b,i1,none⟩=false∧w.cell? ⟨b,i2,none⟩=some x2∧w.frozen? ⟨b,i2,none⟩=false∧w.cell? ⟨b,i3,none⟩=some x3∧w.frozen? ⟨b,i3,none⟩=false∧w.cell? ⟨b,i4,none⟩=some x4∧w.frozen? ⟨b,i4,none⟩=false∧w.cell? ⟨b,i5,none⟩=some x5∧w.frozen? ⟨b,i5,none⟩=false∧w.cell? ⟨b,i6,none⟩=some x6∧w.frozen? ⟨b,i6,none⟩=false∧w.cell? ⟨b,i7,none⟩=some x7∧w.frozen? ⟨b,i7,none⟩=false:=⟨(h.cf i0 e0).1,(h.cf i0 e0).2,(h.cf i1 e1).1,(h.cf i1 e1).2,(h.cf i2 e2).1,(h.cf i2 e2).2,(h.cf i3 e3).1,(h.cf i3 e3).2,(h.cf i4 e4).1,(h.cf i4 e4).2,(h.cf i5 e5).1,(h.cf i5 e5).2,(h.cf i6 e6).1,(h.cf i6 e6).2,(h.cf i7 e7).1,(h.cf i7 e7).2⟩
theorem Bk.g3 {w:World} {b:Nat} {x0 x1 x2:Value} (h:Bk w b [x0,x1,x2]):w.cell? ⟨b,0,none⟩=some x0∧w.cell? ⟨b,1,none⟩=some x1∧w.cell? ⟨b,2,none⟩=some x2:=⟨h.cell 0 rfl,h.cell 1 rfl,h.cell 2 rfl⟩
theorem Bk.g11 {w:World} {b:Nat} {x0 x1 x2 x3 x4 x5 x6 x7 x8 x9 x10:Value} (h:Bk w b [x0,x1,x2,x3,x4,x5,x6,x7,x8,x9,x10]):w.cell? ⟨b,0,none⟩=some x0∧w.cell? ⟨b,1,none⟩=some x1∧w.cell? ⟨b,2,none⟩=some x2∧w.cell? ⟨b,3,none⟩=some x3∧w.cell? ⟨b,4,none⟩=some x4∧w.cell? ⟨b,5,none⟩=some x5∧w.cell? ⟨b,6,none⟩=some x6∧w.cell? ⟨b,7,none⟩=some x7∧w.cell? ⟨b,8,none⟩=some x8∧w.cell? ⟨b,9,none⟩=some x9∧w.cell? ⟨b,10,none⟩=some x10:=⟨h.cell 0 rfl,h.cell 1 rfl,h.cell 2 rfl,h.cell 3 rfl,h.cell 4 rfl,h.cell 5 rfl,h.cell 6 rfl,h.cell 7 rfl,h.cell 8 rfl,h.cell 9 rfl,h.cell 10 rfl⟩
end Go.Proofs.Ytlckklglbodgbaa
