/-
 Parts of the proofs of the laws FnExactSplitMemory.
-/
import Derived.Test.YtnpidfbcbmeijaaO
import Derived.Test.YtnpidfbcbmeijaaGC
set_option linter.all false
namespace Go.Proofs.Ytnpidfbcbmeijaa
open Go.RowKit
structure OwnP0 (w:World) (base:Nat) (va vb u:Value) (D:Nat) (xs ys:List Int) (L:List St):Prop where
 a:w.ownsRow base 3 1 va xs.length (ints xs)
 b:w.ownsRow base 3 1 vb ys.length (ints ys)
 t:TrS w base D u L
 ab:∀ q,va.ownBlock=some q→vb.ownBlock=some q→False
structure ReadsP (w:World) (A:Nat→Prop) (D:Nat) (va vb u:Value) (xs ys:List Int) (L:List St):Prop where
 a:Reads w 1 va xs.length (ints xs)
 b:Reads w 1 vb ys.length (ints ys)
 t:BlAt w A D u L
def OwnPB (base top:Nat) (q:Nat):Prop:=base≤q∧q < top
def OwnP (w:World) (base top:Nat) (va vb u:Value) (D:Nat) (xs ys:List Int) (L:List St):Prop:=∃ w0:World,top=w0.heap.size∧OwnP0 w0 base va vb u D xs ys L∧Chg (fun q=>¬OwnPB base top q) w0 w
section
variable {w w':World} {base top base':Nat} {va vb u:Value} {D:Nat} {xs ys:List Int} {L:List St}
theorem OwnP.lt (h:OwnP w base top va vb u D xs ys L):∀ q,OwnPB base top q→base≤q∧q < w.heap.size:=by
 obtain ⟨w0,rfl,_,h⟩:=h;intro q hq;have:=h.size
 exact ⟨hq.1,by have:=hq.2;omega⟩
theorem OwnP.topl (h:OwnP w base top va vb u D xs ys L):top≤w.heap.size:=by
 obtain ⟨w0,rfl,_,h⟩:=h;exact h.size
theorem OwnP.keep (h:OwnP w base top va vb u D xs ys L) {S:Nat→Prop} (hc:Chg S w w') (hs:∀ q,OwnPB base top q→¬S q):OwnP w' base top va vb u D xs ys L:=by
 obtain ⟨w0,h1,h2,h3⟩:=h;exact ⟨w0,h1,h2,h3.trans (hc.mono (fun q _ h hq=>hs q hq h))⟩
theorem OwnP.below (h:OwnP w base top va vb u D xs ys L) (hb:Below w.heap.size w w'):OwnP w' base top va vb u D xs ys L:=h.keep (S:=fun _=>False) (Cb hb) (fun _ _=>id)
theorem OwnP0.now (h:OwnP0 w base va vb u D xs ys L):OwnP w base w.heap.size va vb u D xs ys L:=⟨w,rfl,h,Chg.refl _ _⟩
theorem OwnP0.mono (h:OwnP0 w base va vb u D xs ys L) (hb:base'≤base):OwnP0 w base' va vb u D xs ys L:=⟨Om h.a hb,Om h.b hb,h.t.mono hb,h.ab⟩
theorem OwnP.here (h:OwnP w base top va vb u D xs ys L):OwnP0 w base va vb u D xs ys L:=by
 obtain ⟨w0,rfl,h2,h3⟩:=h;have k:∀ q,base≤q→q < w0.heap.size→¬¬OwnPB base w0.heap.size q:=fun q h1 h2 h=>h ⟨h1,h2⟩
 exact ⟨Ow h2.a h3 (fun q hq=>k q (h2.a.lt q hq).1 (h2.a.lt q hq).2),Ow h2.b h3 (fun q hq=>k q (h2.b.lt q hq).1 (h2.b.lt q hq).2),h2.t.keep h3 k,h2.ab⟩
theorem OwnP.shs (h:OwnP w base top va vb u D xs ys L):ShS w base top D u L:=by
 obtain ⟨w0,rfl,h2,h3⟩:=h;exact h2.t.sh.keep h3 (fun q h1 h2 h=>h ⟨h1,h2⟩)
theorem OwnP0.reads (h:OwnP0 w base va vb u D xs ys L):ReadsP w (fun q=>base≤q) D va vb u xs ys L:=⟨Ro h.a (own_len h.a),Ro h.b (own_len h.b),h.t.row⟩
theorem OwnP.reads (h:OwnP w base top va vb u D xs ys L):ReadsP w (fun q=>base≤q) D va vb u xs ys L:=h.here.reads
theorem OwnP0.shape (h:OwnP0 w base va vb u D xs ys L):∃ a0 c0 a1 c1 a2 c2,va=.slice a0 xs.length c0∧vb=.slice a1 ys.length c1∧u=.slice a2 L.length c2:=by
 obtain ⟨a0,c0,h0⟩:=Oh h.a;obtain ⟨a1,c1,h1⟩:=Oh h.b;obtain ⟨a2,c2,h2⟩:=h.t.shape;exact ⟨a0,c0,a1,c1,a2,c2,h0,h1,h2⟩
theorem OwnP.shape (h:OwnP w base top va vb u D xs ys L):∃ a0 c0 a1 c1 a2 c2,va=.slice a0 xs.length c0∧vb=.slice a1 ys.length c1∧u=.slice a2 L.length c2:=h.here.shape
variable {A:Nat→Prop}
theorem ReadsP.below (h:ReadsP w A D va vb u xs ys L) (hb:Below w.heap.size w w'):ReadsP w' A D va vb u xs ys L:=⟨h.a.below hb,h.b.below hb,h.t.below hb⟩
theorem ReadsP.shape (h:ReadsP w A D va vb u xs ys L):∃ a0 c0 a1 c1 a2 c2,va=.slice a0 xs.length c0∧vb=.slice a1 ys.length c1∧u=.slice a2 L.length c2:=by
 obtain ⟨a0,c0,h0⟩:=reads_shape h.a;obtain ⟨a1,c1,h1⟩:=reads_shape h.b;obtain ⟨a2,c2,h2⟩:=RowOf.shape h.t;exact ⟨a0,c0,a1,c1,a2,c2,h0,h1,h2⟩
structure OwnRp (w:World) (base:Nat) (va vb:Value) (xs ys:List Int):Prop where
 a:w.ownsRow base 3 1 va xs.length (ints xs)
 b:w.ownsRow base 3 1 vb ys.length (ints ys)
 ab:∀ q,va.ownBlock=some q→vb.ownBlock=some q→False
def OwnRB (va vb:Value) (q:Nat):Prop:=va.ownBlock=some q∨vb.ownBlock=some q
theorem OwnRp.lt (h:OwnRp w base va vb xs ys):∀ q,OwnRB va vb q→base≤q∧q < w.heap.size:=by
 rintro q (hq | hq)
 ·exact h.a.lt q hq
 exact h.b.lt q hq
theorem OwnRp.keep (h:OwnRp w base va vb xs ys) {S:Nat→Prop} (hc:Chg S w w') (hs:∀ q,OwnRB va vb q→¬S q):OwnRp w' base va vb xs ys:=⟨Ow h.a hc (fun q hq=>hs q (Or.inl hq)),Ow h.b hc (fun q hq=>hs q (Or.inr hq)),h.ab⟩
theorem OwnRp.below (h:OwnRp w base va vb xs ys) (hb:Below w.heap.size w w'):OwnRp w' base va vb xs ys:=h.keep (S:=fun _=>False) (Cb hb) (fun _ _=>id)
theorem OwnRp.mono (h:OwnRp w base va vb xs ys) (hb:base'≤base):OwnRp w base' va vb xs ys:=⟨Om h.a hb,Om h.b hb,h.ab⟩
theorem OwnRp.shape (h:OwnRp w base va vb xs ys):∃ a0 c0 a1 c1,va=.slice a0 xs.length c0∧vb=.slice a1 ys.length c1:=by
 obtain ⟨a0,c0,h0⟩:=Oh h.a;obtain ⟨a1,c1,h1⟩:=Oh h.b;exact ⟨a0,c0,a1,c1,h0,h1⟩
theorem OwnRp.reads (h:OwnRp w base va vb xs ys):ReadsP w (fun _=>True) 0 va vb (.slice none 0 0) xs ys []:=⟨Ro h.a (own_len h.a),Ro h.b (own_len h.b),RowOf.nil⟩
theorem shE_off {b n:Nat} {v:Value} {zs:List Value} (ha:w.ownsRow b 3 1 v n zs) (hc:Chg (fun q=>v.ownBlock=some q) w w'):∀ {d:Nat} {u:Value} {L:List Ex},ShE w base top d u L→ShE w' base top d u L:=by
 intro d
 induction d with
 | zero =>
  intro u L h;obtain ⟨h1,xs,h2,a0⟩:=h;exact ⟨h1,xs,Ow h2 hc (fun q hq h=>own_diff h2 ha (by decide) q hq h),a0⟩
 | succ d ih =>
  intro u L h;obtain ⟨xs,⟨h2,a0⟩,h4⟩:=h
  exact ⟨xs,⟨Ow h2 hc (fun q hq h=>own_diff h2 ha (by decide) q hq h),a0⟩,fun j hj=>by
   obtain ⟨a1,a2,u',a3,a4⟩:=h4 j hj;exact ⟨a1,a2,u',a3,ih a4⟩⟩
theorem shS_off {b n:Nat} {v:Value} {zs:List Value} (ha:w.ownsRow b 3 1 v n zs) (hc:Chg (fun q=>v.ownBlock=some q) w w'):∀ {d:Nat} {u:Value} {L:List St},ShS w base top d u L→ShS w' base top d u L:=by
 intro d
 induction d with
 | zero =>
  intro u L h;obtain ⟨h1,xs,h2,a0⟩:=h;exact ⟨h1,xs,Ow h2 hc (fun q hq h=>own_diff h2 ha (by decide) q hq h),a0⟩
 | succ d ih =>
  intro u L h;obtain ⟨xs,⟨h2,a0⟩,h4⟩:=h
  exact ⟨xs,⟨Ow h2 hc (fun q hq h=>own_diff h2 ha (by decide) q hq h),a0⟩,fun j hj=>by
   obtain ⟨a1,⟨u1,D1,b1,c1⟩,⟨u2,D2,b2,c2⟩,⟨u3,b3,c3⟩,u4,b4,c4⟩:=h4 j hj;exact ⟨a1,⟨u1,D1,b1,shE_off ha hc c1⟩,⟨u2,D2,b2,shE_off ha hc c2⟩,⟨u3,b3,ih c3⟩,u4,b4,ih c4⟩⟩
theorem shS_nil (w:World):ShS w 0 0 0 (.slice none 0 0) []:=⟨rfl,[],World.ownsRow_nil _ _ _ _,fun q h=>by cases h⟩
theorem blAt_nilb (w:World) (A:Nat→Prop) (D:Nat):BlAt w A D (.slice none 0 0) []:=RowOf.nil
end
end Go.Proofs.Ytnpidfbcbmeijaa
