/-
 Parts of the proofs of the laws FnExactSplitMemory.
-/
import Derived.Test.YtnpidfbcbmeijaaRS
set_option linter.all false
namespace Go.Proofs.Ytnpidfbcbmeijaa
open Go.RowKit Go.ChangeShapes Go.WideShapes Go.Deep Go.Joins
variable {H:Type} {enc:TypeId × Value→H} {P:Program} {w:World} {base:Nat} {spare:Nat→Bool} {held:Bool}
theorem rd_intss {t e q:TypeId} {fuel:Nat} {c:Value} {x:DataW H × List MemPlace} (ht:P.underlying t=some (.slice e)) (he:P.underlying e=some (.slice q)) (hq:P.underlying q=some (.int .i64)) (ce:P.cellsOf e=1) (cq:P.cellsOf q=1)
  (h:DataW.trod enc P w base spare held fuel t [c]=some x):∃ rs:List (List Int),Reads2 ints w c rs:=
 rd_rows2 ht ce (fun h=>by obtain ⟨xs,h1,_⟩:=rd_ints he hq cq h;exact ⟨xs,h1⟩) h
theorem op_memory {r:Reach} {b0:Nat} {t ti e:TypeId} {k0 k1:Field} {v:Value} {d:DataW H} {p:List MemPlace} (hs:P.underlying t=some (.struct #[k0,k1])) (hk:oneCellFields P #[k0,k1]=true) (hC:P.cellsOf t=2)
  (ht0:P.underlying k0.type=some (.slice ti)) (hi:P.underlying ti=some (.int .i64)) (hci:P.cellsOf ti=1) (ht1:P.underlying k1.type=some (.slice e)) (he:P.underlying e=some (.slice ti)) (ce:P.cellsOf e=1)
  (hv:Value.okWide P w r b0 t v) (h:DataW.Trod enc P w base spare held t v d p) :
  ∃ (c0 c1:Value) (xs:List Int) (rs:List (List Int)),v=.agg #[c0,c1]∧Reads w 1 c0 xs.length (ints xs)∧Reads2 ints w c1 rs:=by
 obtain ⟨c0,c1,y0,y1,n,rfl,_,_,g0,g1⟩:=open_agg2 hs hk hC hv h;obtain ⟨xs,r0,_⟩:=rd_ints ht0 hi hci g0;obtain ⟨rs,r1⟩:=rd_intss ht1 he hi ce hci g1;exact ⟨c0,c1,xs,rs,rfl,r0,r1⟩
end Go.Proofs.Ytnpidfbcbmeijaa
