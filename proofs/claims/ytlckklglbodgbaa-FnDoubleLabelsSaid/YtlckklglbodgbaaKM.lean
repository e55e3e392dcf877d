/-
 Parts of the proofs of the laws FnDoubleLabels.
-/
import Derived.Test.YtlckklglbodgbaaKB
set_option linter.all false
namespace Go.Proofs.Ytlckklglbodgbaa
open Go.RowKit
structure LbR (w:World) (base:Nat) (va vb:Value) (n m:Nat) (xs ys:List Int):Prop where
 lx:xs.length=n
 ly:ys.length=m
 a:w.ownsRow base 3 1 va n (ints xs)
 b:w.ownsRow base 3 1 vb m (ints ys)
 ab:∀ q,va.ownBlock=some q→vb.ownBlock=some q→False
section
variable {w w':World} {base:Nat} {va vb:Value} {n m:Nat} {xs ys:List Int}
theorem LbR.lt (h:LbR w base va vb n m xs ys):∀ q,OwnRB va vb q→base≤q∧q < w.heap.size:=by
 rintro q (hq | hq)
 ·exact h.a.lt q hq
 exact h.b.lt q hq
theorem LbR.keep (h:LbR w base va vb n m xs ys) {S:Nat→Prop} (hc:Chg S w w') (hs:∀ q,OwnRB va vb q→¬S q):LbR w' base va vb n m xs ys:=⟨h.lx,h.ly,Ow h.a hc (fun q hq=>hs q (Or.inl hq)),Ow h.b hc (fun q hq=>hs q (Or.inr hq)),h.ab⟩
theorem LbR.below (h:LbR w base va vb n m xs ys) (hb:Below w.heap.size w w'):LbR w' base va vb n m xs ys:=h.keep (S:=fun _=>False) (Cb hb) (fun _ _=>id)
theorem LbR.putA {g c:Nat} (h:LbR w base (.slice (some ⟨g,0,none⟩) n c) vb n m xs ys) (i:Nat) (x:Int):LbR (w.setCell ⟨g,i,none⟩ (.int .i64 x)) base (.slice (some ⟨g,0,none⟩) n c) vb n m (xs.set i x) ys:=by
 have h1:=(h.a.stored i (.int .i64 x)).1;rw [ints_set] at h1;exact ⟨by rw [List.length_set];exact h.lx,h.ly,h1,Oe h.b g i (fun e=>h.ab g rfl e) _,h.ab⟩
theorem LbR.putB {g c:Nat} (h:LbR w base va (.slice (some ⟨g,0,none⟩) m c) n m xs ys) (i:Nat) (x:Int):LbR (w.setCell ⟨g,i,none⟩ (.int .i64 x)) base va (.slice (some ⟨g,0,none⟩) m c) n m xs (ys.set i x):=by
 have h1:=(h.b.stored i (.int .i64 x)).1;rw [ints_set] at h1;exact ⟨h.lx,by rw [List.length_set];exact h.ly,Oe h.a g i (fun e=>h.ab g e rfl) _,h1,h.ab⟩
theorem lb_cell {b n c:Nat} {zs:List Int} (h:w.ownsRow base 3 1 (.slice (some ⟨b,0,none⟩) n c) n (ints zs)) (hl:zs.length=n) (i:Nat) (hi:i < n):w.cell? ⟨b,i,none⟩=some (.int .i64 (gi zs i))∧w.frozen? ⟨b,i,none⟩=false:=by
 refine ⟨?_,h.frozenAt i⟩;rw [h.cellAt i (by omega),List.getElem?_eq_getElem (by rw [ints_length];omega),ints_get];unfold gi
 rw [Int.toNat_natCast,List.getElem?_eq_getElem (by omega)];rfl
end
def UpR (xs zs:List Int):Prop:=zs.length=xs.length∧LabsP zs∧∀ i:Nat,gi xs i≤gi zs i
theorem UpR.refl {xs:List Int} (h:LabsP xs):UpR xs xs:=⟨rfl,h,fun _=>Int.le_refl _⟩
theorem UpR.trans {xs ys zs:List Int} (h:UpR xs ys) (k:UpR ys zs):UpR xs zs:=⟨k.1.trans h.1,k.2.1,fun i=>Int.le_trans (h.2.2 i) (k.2.2 i)⟩
theorem gi_lset (xs:List Int) (i j:Nat) (x:Int) (hi:i < xs.length):gi (xs.set i x) j=if i=j then x else gi xs j:=by
 unfold gi
 rw [Int.toNat_natCast,List.getElem?_set];by_cases e:i=j
 ·subst e;simp [hi]
 simp [e]
theorem UpR.set {xs:List Int} (h:LabsP xs) {i:Nat} (hi:i < xs.length) {x:Int} (hx:IsLb x) (hge:gi xs i≤x):UpR xs (xs.set i x):=by
 refine ⟨List.length_set,fun y hy=>?_,fun j=>?_⟩
 ·rcases List.mem_or_eq_of_mem_set hy with h1 | h1
  ·exact h y h1
  subst h1;exact hx
 rw [gi_lset xs i j x hi];by_cases e:i=j
 ·subst e;rw [if_pos rfl];exact hge
 rw [if_neg e];exact Int.le_refl _
theorem l4Label_n {w:World} {base:Nat} {pv pa pu:Option Addr} {cv ca nu cu n m:Nat} {xs ys:List Int} (hL:LbR w base (.slice pv n cv) (.slice pa m ca) n m xs ys) {d D:Nat} {A:Nat→Prop} {nn:En} {e:Ex} (hx:ExAt w A D nn e) (hok:exOk n m d e=true) :
  Calls Try.prog 105 #[.agg #[.slice pv n cv,.slice pa m ca,.slice pu nu cu],.agg #[.int .i64 nn.k,.int .i64 nn.v,.slice nn.p nn.n nn.c]] w fun r w'=>r=.returned (.int .i64 (labE xs ys e))∧Below w.heap.size w w':=by
 obtain ⟨rfl,rfl,ha,hb,_⟩:=hL;exact l4Label_any xs ys pv pa pu cv ca nu cu d A D nn e w (Ro ha (own_len ha)) (Ro hb (own_len hb)) hx hok
def RaP (base:Nat) (va vb:Value) (n m:Nat) (xs ys:List Int) (w:World) (r:Ending) (w':World):Prop:=∃ xs' ys':List Int,r=.returned (.tuple #[])∧UpR xs xs'∧UpR ys ys'∧LbR w' base va vb n m xs' ys'∧Chg (fun q=>OwnRB va vb q) w w'
end Go.Proofs.Ytlckklglbodgbaa
