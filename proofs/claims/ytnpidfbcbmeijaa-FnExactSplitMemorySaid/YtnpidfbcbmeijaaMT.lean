/-
 Parts of the proofs of the laws FnExactSplitMemory.
-/
import Derived.Test.YtnpidfbcbmeijaaMR
set_option linter.all false
namespace Go.Proofs.Ytnpidfbcbmeijaa
open Go.RowKit
structure OwnS (w:World) (base b:Nat) (vr vv va:Value) (us:List Value) (s:Ms):Prop where
 c0:w.cell? ⟨b,0,none⟩=some (.int .i64 s.pc)
 c1:w.cell? ⟨b,1,none⟩=some vr
 c2:w.cell? ⟨b,2,none⟩=some vv
 c3:w.cell? ⟨b,3,none⟩=some va
 f0:w.frozen? ⟨b,0,none⟩=false
 own:OwnMv w base vr vv va us s.regs s.mem
 ob:¬OwnMB vr vv va us b
theorem OwnS.keep {w w':World} {base b:Nat} {vr vv va:Value} {us:List Value} {s:Ms} (h:OwnS w base b vr vv va us s) {S:Nat→Prop} (hc:Chg S w w') (hb:¬S b) (hs:∀ q,OwnMB vr vv va us q→¬S q):OwnS w' base b vr vv va us s:=
 ⟨Gc hc h.c0 hb,Gc hc h.c1 hb,Gc hc h.c2 hb,Gc hc h.c3 hb,Gf hc (Lc h.c0) h.f0 hb,h.own.keep hc hs,h.ob⟩
theorem OwnS.below {w w':World} {base b:Nat} {vr vv va:Value} {us:List Value} {s:Ms} (h:OwnS w base b vr vv va us s) (hb:Below w.heap.size w w'):OwnS w' base b vr vv va us s:=h.keep (S:=fun _=>False) (Cb hb) id (fun _ _=>id)
theorem OwnS.lt {w:World} {base b:Nat} {vr vv va:Value} {us:List Value} {s:Ms} (h:OwnS w base b vr vv va us s):b < w.heap.size:=Lc h.c0
section
variable {S:Nat→Prop} {w W W':World} {base b tb:Nat} {vr vv va u:Value} {us:List Value} {rs:List Int} {m:Mm} {E:List Ev} {pc:Int}
theorem Chg.setNew {S:Nat→Prop} {w W:World} (h:Chg S w W) (b j:Nat) (x:Value) (hs:S b∨w.heap.size≤b):Chg S w (W.setCell ⟨b,j,none⟩ x):=by
 refine ⟨h.os,h.tape,h.output,by simp only [Ss];exact h.size,fun k hk hn=>?_⟩
 have a0:k≠b:=fun e=>by
  rcases hs with hs | hs
  ·exact hn (e ▸ hs)
  omega
 rw [← h.block k hk hn];exact Below.heap_setCell _ _ _ _ (by simpa using a0)
theorem Chg.sN {S:Nat→Prop} {w W:World} (h:Chg S w W) (b j:Nat) (x:Value) (hs:w.heap.size≤b:=by omega):Chg S w (W.setCell ⟨b,j,none⟩ x):=h.setNew b j x (Or.inr hs)
end
end Go.Proofs.Ytnpidfbcbmeijaa
