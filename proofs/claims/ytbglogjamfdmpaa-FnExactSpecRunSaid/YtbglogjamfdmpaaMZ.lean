/-
  Parts of the proof of the law FnExactSpecRun.
-/
import Derived.Test.YtbglogjamfdmpaaMS1
import Derived.Test.YtbglogjamfdmpaaMS2
import Derived.Test.YtbglogjamfdmpaaMW
namespace Go.Proofs.Ytbglogjamfdmpaa
open Go.RowKit

theorem step_any (b base : Nat) (va vb vc vr vv vA : Value) (us : List Value) (c : Cd) (s : Ms) (w : World) (hr : ReadsC w va vb vc c) (hS : OwnS w base b vr vv vA us s) (hM : MsOk c s) (hok : codeOk c = true) :
    Calls Try.prog 109 #[.pointer (some ⟨b, 0, none⟩), .agg #[va, vb, vc]] w fun e w' => ∃ u, e = .returned u ∧ w'.ownsRow w.heap.size 89 2 u (stEvs (insAt c s.pc) s).length (evs (stEvs (insAt c s.pc) s)) ∧ OwnS w' base b vr vv vA us (stp (insAt c s.pc) s) ∧ Chg (fun q => q = b ∨ OwnMB vr vv vA us q) w w' := by
  have hop : 1 ≤ (insAt c s.pc).op ∧ (insAt c s.pc).op ≤ 13 := by
    have h0 := hM.pc0
    have h1 := hM.pc1
    unfold insAt
    rw [List.getElem?_eq_getElem (by omega)]
    exact insOk_op (codeOk_all hok _ (by omega))
  by_cases h : (insAt c s.pc).op ≤ 5
  · exact step_1_5 b base va vb vc vr vv vA us c s w hr hS hM hok ⟨hop.1, h⟩
  · exact step_6_13 b base va vb vc vr vv vA us c s w hr hS hM hok ⟨by omega, hop.2⟩


end Go.Proofs.Ytbglogjamfdmpaa
