/-
 Parts of the proofs of the laws FnExactPairMemory.
-/
import Derived.Test.YtnpidfbcbmeijaaYE
import Derived.Test.YtnpidfbcbmeijaaVS
set_option linter.all false
namespace Go.Proofs.Ytnpidfbcbmeijaa
open Go.RowKit
theorem own_nil_rows (w:World) (e:TypeId) (sz:Nat):(w.alloc (.cells #[] e)).ownsRow w.heap.size e sz (.slice (some ⟨w.heap.size,0,none⟩) 0 0) 0 []:=
 World.ownsRow_lit (base:=w.heap.size) (e:=e) (size:=sz) w #[] 0 Lr (by unfold maxLen;omega) (by simp)
def tgt (x:Ins):Int:=if x.op=8 then x.a else if x.op=9∨x.op=10 then x.b else -1
def aim (x:Ins) (t:Int):Ins:=if x.op=8 then { x with a:=t } else if x.op=9∨x.op=10 then { x with b:=t } else x
def stay (d:Nat→Bool):Nat→Nat
 | 0=>0
 | k+1=>stay d k+(if d k=true then 0 else 1)
def dx (d:Nat→Bool) (x:Ins):Ins:=if 0≤tgt x then aim x (stay d (tgt x).toNat) else x
end Go.Proofs.Ytnpidfbcbmeijaa
