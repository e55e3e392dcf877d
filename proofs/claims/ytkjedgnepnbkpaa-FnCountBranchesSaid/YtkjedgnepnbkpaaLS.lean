/-
 Parts of the proofs of the laws FnCodeFenced,FnCountBranches.
-/
import Derived.Test.YtkjedgnepnbkpaaKq1
set_option linter.all false
namespace Go.Proofs.Ytkjedgnepnbkpaa
open Go.RowKit
theorem run_pre {P:Program} {t e:TypeId} {z:Value} {size bytes:Nat} (T:SliceT P t e z size bytes) (a:Option Addr) (n c k:Nat) (hk:k≤c) (W:World) :
  (Instr.slice t (.slice a n c) none (some (.int .i64 (k:Int))) none).run P W=.ok (.slice a k c) W:=by
 obtain ⟨i,hi,a0,b0,c0⟩:=info_parts T.info
 have h1:(0:Int)≤(k:Int)∧(k:Int)≤(c:Int):=by omega
 have ha:(if c=0 then a else Option.map (fun x=>x.add 0) a)=a:=by
  split
  ·rfl
  cases a <;> simp [Addr.add]
 simp [Instr.slice,Instr.sliceBounds,Instr.sliceBound,asIntOf,run_underlying T.under,sizeOf,typeInfo,hi,hk,ha]
end Go.Proofs.Ytkjedgnepnbkpaa
