/-
 Parts of the proofs of the laws FnExactSplitMemory.
-/
import Derived.Test.YtnpidfbcbmeijaaF
set_option linter.all false
namespace Go.Proofs.Ytnpidfbcbmeijaa
open Go.RowKit
theorem eqIntS_b (va vb:Value) (xs ys:List Int) (w:World) (ha:Reads w 1 va xs.length (ints xs)) (hb:Reads w 1 vb ys.length (ints ys)) :
  Calls Try.prog 32 #[va,vb] w fun e w'=>e=.returned (.bool (decide (xs=ys)))∧Below w.heap.size w w':=
 (eqIntS_any va vb xs ys w ha hb).mono fun _ _ ⟨h,k,hk⟩=>⟨h,hk ▸ below_drewN' w k⟩
structure Cd where
 vars:List Int
 arrays:List Int
 list:List Ins
deriving DecidableEq
structure ReadsC (w:World) (va vb vc:Value) (c:Cd):Prop where
 a:Reads w 1 va c.vars.length (ints c.vars)
 b:Reads w 1 vb c.arrays.length (ints c.arrays)
 l:Reads w 5 vc c.list.length (inss c.list)
def ReadB (va vb vc:Value) (c:Cd) (q:Nat):Prop:=
 (∃ o cap,0 < c.vars.length∧va=.slice (some ⟨q,o,none⟩) c.vars.length cap)∨(∃ o cap,0 < c.arrays.length∧vb=.slice (some ⟨q,o,none⟩) c.arrays.length cap)∨(∃ o cap,0 < c.list.length∧vc=.slice (some ⟨q,o,none⟩) c.list.length cap)
theorem ReadsC.lt {w:World} {va vb vc:Value} {c:Cd} (h:ReadsC w va vb vc c):∀ q,ReadB va vb vc c q→q < w.heap.size:=by
 intro q hq;rcases hq with ⟨o,cap,h0,hv⟩ | ⟨o,cap,h0,hv⟩ | ⟨o,cap,h0,hv⟩
 ·exact reads_lt h.a q o cap h0 hv
 ·exact reads_lt h.b q o cap h0 hv
 exact reads_lt h.l q o cap h0 hv
theorem ReadsC.keep {w w':World} {va vb vc:Value} {c:Cd} (h:ReadsC w va vb vc c) {S:Nat→Prop} (hc:Chg S w w') (hs:∀ q,ReadB va vb vc c q→¬S q):ReadsC w' va vb vc c:=
 ⟨h.a.keep hc (fun b o cap h0 hv=>hs b (Or.inl ⟨o,cap,h0,hv⟩)),h.b.keep hc (fun b o cap h0 hv=>hs b (Or.inr (Or.inl ⟨o,cap,h0,hv⟩))),h.l.keep hc (fun b o cap h0 hv=>hs b (Or.inr (Or.inr ⟨o,cap,h0,hv⟩)))⟩
theorem ReadsC.below {w w':World} {va vb vc:Value} {c:Cd} (h:ReadsC w va vb vc c) (hb:Below w.heap.size w w'):ReadsC w' va vb vc c:=⟨h.a.below hb,h.b.below hb,h.l.below hb⟩
theorem ReadsC.shape {w:World} {va vb vc:Value} {c:Cd} (h:ReadsC w va vb vc c):∃ a0 c0 a1 c1 a2 c2,va=.slice a0 c.vars.length c0∧vb=.slice a1 c.arrays.length c1∧vc=.slice a2 c.list.length c2:=by
 obtain ⟨a0,c0,h0⟩:=reads_shape h.a;obtain ⟨a1,c1,h1⟩:=reads_shape h.b;obtain ⟨a2,c2,h2⟩:=reads_shape h.l;exact ⟨a0,c0,a1,c1,a2,c2,h0,h1,h2⟩
def OwnB (va vb vc:Value) (q:Nat):Prop:=va.ownBlock=some q∨vb.ownBlock=some q∨vc.ownBlock=some q
theorem szIntS_b (v:Value) (n:Nat) (vs:List Value) (left:Int) (w:World) (hr:Reads w 1 v n vs) (h0:0≤left) (h1:left≤1073741824) :
  Calls Try.prog 25 #[v,.int .i64 left] w fun e w'=>e=.returned (.int .i64 (if left < n then -1 else left-n))∧Below w.heap.size w w':=by
 refine (szIntS_any v n vs left w hr h0 h1).mono ?_;rintro e w' ⟨h,rfl⟩;exact ⟨h,Below.refl _ _⟩
theorem heldIntS_b (v:Value) (n:Nat) (k:Int) (w:World) (hr:Reads w 1 v n (ints (marks k n))) (hn:n≤1073741824) (h0:0≤k) (h1:k≤1073741824) :
  Calls Try.prog 36 #[v,.int .i64 k] w fun e w'=>e=.returned (.int .i64 (k+n))∧Below w.heap.size w w':=by
 refine (heldIntS_any v n k w hr hn h0 h1).mono ?_;rintro e w' ⟨h,d,rfl⟩;exact ⟨h,below_drewN' w d⟩
end Go.Proofs.Ytnpidfbcbmeijaa
