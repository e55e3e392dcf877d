/-
 Parts of the proofs of the laws FnCompactRegs,FnFenceCode,FnRunTimeSteps.
-/
import Derived.Test.YtkjedgnepnbkpaaGreatMX1
import Derived.Test.YtkjedgnepnbkpaaGreatMX2
set_option linter.all false
namespace Go.Proofs.YtkjedgnepnbkpaaGreat
open Go.RowKit
theorem exec_any (tb base:Nat) (va vb vc vr vv vA u:Value) (us:List Value) (c:Cd) (s:Ms) (E:List Ev) (w:World) (hr:ReadsC w va vb vc c) (hO:OwnMv w base vr vv vA us s.regs s.mem) (hE:w.ownsRow tb 38 2 u E.length (evs E)) (hd:∀ q,u.ownBlock=some q→¬OwnMB vr vv vA us q) (htb:tb≤w.heap.size) (hEl:E.length≤1048576) (hM:MsOk c s) (hok:codeOk c=true) :
  Calls Tryz.prog 100 #[.agg #[va,vb,vc],.agg #[.int .i64 s.pc,vr,vv,vA],u] w fun e w'=>∃ u',e=.returned (.tuple #[.agg #[.int .i64 (stPc (insAt c s.pc) s),vr,vv,vA],u'])∧OwnMv w' base vr vv vA us (stRegs (insAt c s.pc) s) (stMem (insAt c s.pc) s)∧w'.ownsRow tb 38 2 u' (E++stEvs (insAt c s.pc) s).length (evs (E++stEvs (insAt c s.pc) s))∧(∀ q,u'.ownBlock=some q→¬OwnMB vr vv vA us q∧(u.ownBlock=some q∨w.heap.size≤q))∧Chg (fun q=>OwnMB vr vv vA us q∨u.ownBlock=some q) w w':=by
 have a0:1≤(insAt c s.pc).op∧(insAt c s.pc).op≤13:=by
  have h0:=hM.pc0
  have h1:=hM.pc1
  unfold insAt
  rw [List.getElem?_eq_getElem (by omega)]
  exact insOk_op (codeOk_all hok _ (by omega))
 by_cases h:(insAt c s.pc).op≤5
 ·exact exec_1_5 tb base va vb vc vr vv vA u us c s E w hr hO hE hd htb hEl hM hok ⟨a0.1,h⟩
 exact exec_6_13 tb base va vb vc vr vv vA u us c s E w hr hO hE hd htb hEl hM hok ⟨by omega,a0.2⟩
end Go.Proofs.YtkjedgnepnbkpaaGreat
