/-
 Parts of the proofs of the laws FnCompactRegs,FnFenceCode,FnRunTimeSteps.
-/
import Derived.Test.YtkjedgnepnbkpaaGreatNA
set_option linter.all false
namespace Go.Proofs.YtkjedgnepnbkpaaGreat
open Go.RowKit
theorem tBools:SliceT Tryz.prog 50 4 (.bool false) 1 1:=⟨Tryz.underlying50,info_bool,rfl,by omega,by omega⟩
def prj (L:List Ev):List Ev:=L.filter (fun e=>wi e.1 2 4)
theorem prj_app (a b:List Ev):prj (a++b)=prj a++prj b:=List.filter_append ..
def accE (x:Ins) (s:Ms):List Ev:=if x.op=4 then [(2,adr x.b (gi s.regs x.c))] else if x.op=5 then [(3,adr x.a (gi s.regs x.b))] else if x.op=11 then [(4,gi s.regs x.a)] else []
theorem stEvs_acc (x:Ins) (s:Ms):stEvs x s=(5,s.pc)::accE x s:=rfl
theorem run_pre {P:Program} {t e:TypeId} {z:Value} {size bytes:Nat} (T:SliceT P t e z size bytes) (a:Option Addr) (n c k:Nat) (hk:k≤c) (W:World) :
  (Instr.slice t (.slice a n c) none (some (.int .i64 (k:Int))) none).run P W=.ok (.slice a k c) W:=by
 obtain ⟨i,hi,a0,b0,c0⟩:=info_parts T.info
 have h1:(0:Int)≤(k:Int)∧(k:Int)≤(c:Int):=by omega
 have ha:(if c=0 then a else Option.map (fun x=>x.add 0) a)=a:=by
  split
  ·rfl
  cases a <;> simp [Addr.add]
 simp [Instr.slice,Instr.sliceBounds,Instr.sliceBound,asIntOf,run_underlying T.under,sizeOf,typeInfo,hi,hk,ha]
end Go.Proofs.YtkjedgnepnbkpaaGreat
