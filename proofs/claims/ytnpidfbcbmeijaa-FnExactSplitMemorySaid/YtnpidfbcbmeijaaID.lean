/-
 Parts of the proofs of the laws FnExactSplitMemory.
-/
import Derived.Test.YtnpidfbcbmeijaaPU
set_option linter.all false
namespace Go.Proofs.Ytnpidfbcbmeijaa
open Go.RowKit
theorem ints_set (l:List Int) (k:Nat) (b:Int):(ints l).set k (.int .i64 b)=ints (l.set k b):=by simp [ints,List.map_set]
theorem ints_at (l:List Int) (k:Nat) (h:k < l.length):(ints l)[k]? = some (.int .i64 l[k]):=by simp [ints,h]
structure Mm where
 vals:List Int
 arrs:List (List Int)
deriving DecidableEq
structure Ms where
 pc:Int
 regs:List Int
 mem:Mm
deriving DecidableEq
def valOk (n:Int):Bool:=wi n 0 255
def valsOk (xs:List Int):Bool:=xs.all valOk
def memOk (nv na:Nat) (m:Mm):Bool:=decide (m.vals.length=nv)&&(decide (m.arrs.length=na)&&(valsOk m.vals&&m.arrs.all (fun a=>decide (a.length=4)&&valsOk a)))
def gi (xs:List Int) (i:Int):Int:=(xs[i.toNat]?).getD 0
def gr (rs:List (List Int)) (i:Int):List Int:=(rs[i.toNat]?).getD []
end Go.Proofs.Ytnpidfbcbmeijaa
