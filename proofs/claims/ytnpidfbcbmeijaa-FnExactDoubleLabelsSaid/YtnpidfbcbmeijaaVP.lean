/-
 Parts of the proofs of the laws FnExactDoubleLabels.
-/
import Derived.Test.YtnpidfbcbmeijaaCN
set_option linter.all false
namespace Go.Proofs.Ytnpidfbcbmeijaa
open Go.RowKit
def wi (n lo hi:Int):Bool:=decide (lo≤n∧n≤hi)
def labOk (n:Int):Bool:=wi n 0 3
def labsOk (xs:List Int):Bool:=xs.all labOk
def declOk (xs ys:List Int):Bool:=decide (1≤xs.length∧xs.length≤12)&&(decide (ys.length≤2)&&(labsOk xs&&labsOk ys))
theorem within_any (n lo hi:Int) (w:World) :
  Calls Try.prog 81 #[.int .i64 n,.int .i64 lo,.int .i64 hi] w fun e w'=>e=.returned (.bool (wi n lo hi))∧Below w.heap.size w w':=by
 by_cases h1:lo≤n
 ·by_cases h2:n≤hi
  ·have HD:Hid (wi n lo hi=true):=Hi (decide_eq_true (p:=lo≤n∧n≤hi) ⟨h1,h2⟩);go_enter Try.func81,Try.ntmps81
   go_wp2
   go_ret
   exact ⟨ret_bool HD.out.symm,Below.refl _ _⟩
  have HD:Hid (wi n lo hi=false):=Hi (decide_eq_false (p:=lo≤n∧n≤hi) (by omega));have h3:decide (n≤hi)=false:=decide_eq_false h2;clear h2;go_enter Try.func81,Try.ntmps81
  go_wp2
  go_ret
  exact ⟨ret_bool HD.out.symm,Below.refl _ _⟩
 have HD:Hid (wi n lo hi=false):=Hi (decide_eq_false (p:=lo≤n∧n≤hi) (by omega));go_enter Try.func81,Try.ntmps81
 go_wp2
 go_ret
 exact ⟨ret_bool HD.out.symm,Below.refl _ _⟩
theorem iLabelValid_any (n:Int) (w:World) :
  Calls Try.prog 101 #[.int .i64 n] w fun e w'=>e=.returned (.bool (labOk n))∧Below w.heap.size w w':=by
 go_enter Try.func101,Try.ntmps101
 go_wp2_with fail
 refine (within_any n 0 3 _).mono ?_;rintro e w1 ⟨rfl,hb⟩;go_wp2
 go_ret
 exact ⟨rfl,hb⟩
theorem notLabel_any (n:Int) (w:World) :
  Calls Try.prog 100 #[.int .i64 n] w fun e w'=>e=.returned (.bool (!labOk n))∧Below w.heap.size w w':=by
 go_enter Try.func100,Try.ntmps100
 go_wp2_with fail
 refine (iLabelValid_any n _).mono ?_;rintro e w1 ⟨rfl,hb⟩;go_wp2
 go_ret
 exact ⟨rfl,hb⟩
end Go.Proofs.Ytnpidfbcbmeijaa
