/-
 Parts of the proofs of the laws FnExactSplitMemory.
-/
import Derived.Test.YtnpidfbcbmeijaaQ
set_option linter.all false
namespace Go.Proofs.Ytnpidfbcbmeijaa
open Go.RowKit
def arity (k:Int):Int:=if k=1∨k=2 then 0 else if k=3 then 1 else if 4≤k∧k≤10 then 2 else if k=11 then 3 else -1
def limitOf (nv na:Nat) (k:Int):Int:=if k=1 then 256 else if k=2 then nv else if k=3 then na else 1
def atomK (k:Int):Bool:=k == 1||k == 2
def exOk (nv na:Nat):Nat→Ex→Bool
 | 0,_=>false
 | d+1,e=>((e.kids.length:Int) == arity e.k)&&(decide (0≤e.v)&&(decide (e.v < limitOf nv na e.k)&&(e.kids.all (exOk nv na d)&&(!(e.k == 3)||(match e.kids with | []=>false | x::_=>atomK x.k)))))
def exCnt:Nat→Ex→Int
 | 0,_=>1
 | d+1,e=>1+(e.kids.map (exCnt d)).sum
def Thin:Nat→Ex→Prop
 | 0,_=>False
 | d+1,e=>e.kids.length≤3∧∀ x ∈ e.kids,Thin d x
theorem Thin.mono:∀ {d d':Nat} {e:Ex},d≤d'→Thin d e→Thin d' e:=by
 intro d
 induction d with
 | zero=>intro d' e _ h;cases h
 | succ d ih =>
  intro d' e hd h
  cases d' with
  | zero=>omega
  | succ d'=>exact ⟨h.1,fun x hx=>ih (by omega) (h.2 x hx)⟩
def noneE (e:Ex):Bool:=e.k == 0&&(e.v == 0&&decide (e.kids.length=0))
theorem l2Arity_any (k:Int) (w:World):Calls Try.prog 122 #[.int .i64 k] w fun e w'=>e=.returned (.int .i64 (arity k))∧w'=w:=by
 have hc:k=1∨k=2∨k=3∨(4≤k∧k≤10)∨k=11∨k < 1∨11 < k:=by omega
 rcases hc with rfl | rfl | rfl | h | rfl | h | h
 ·go_enter Try.func122,Try.ntmps122
  go_wp2
  go_ret
  exact ⟨rfl,rfl⟩
 ·go_enter Try.func122,Try.ntmps122
  go_wp2
  go_ret
  exact ⟨rfl,rfl⟩
 ·go_enter Try.func122,Try.ntmps122
  go_wp2
  go_ret
  exact ⟨rfl,rfl⟩
 ·have HA:Hid (arity k=2):=Hi (by unfold arity;rw [if_neg (by omega),if_neg (by omega),if_pos h]);obtain ⟨h1,h2⟩:=h;have n1:(k == 1)=false:=by simp;omega
  have n2:(k == 2)=false:=by simp;omega
  have n3:(k == 3)=false:=by simp;omega
  go_enter Try.func122,Try.ntmps122
  go_wp2
  go_ret
  exact ⟨ret_int HA.out.symm,rfl⟩
 ·go_enter Try.func122,Try.ntmps122
  go_wp2
  go_ret
  exact ⟨rfl,rfl⟩
 ·have HA:Hid (arity k=-1):=Hi (by unfold arity;rw [if_neg (by omega),if_neg (by omega),if_neg (by omega),if_neg (by omega)]);have n1:(k == 1)=false:=by simp;omega
  have n2:(k == 2)=false:=by simp;omega
  have n3:(k == 3)=false:=by simp;omega
  have n4:(k == 11)=false:=by simp;omega
  have n5:decide (4≤k)=false:=by simp;omega
  go_enter Try.func122,Try.ntmps122
  go_wp2
  go_ret
  exact ⟨ret_int HA.out.symm,rfl⟩
 have HA:Hid (arity k=-1):=Hi (by unfold arity;rw [if_neg (by omega),if_neg (by omega),if_neg (by omega),if_neg (by omega)]);have n1:(k == 1)=false:=by simp;omega
 have n2:(k == 2)=false:=by simp;omega
 have n3:(k == 3)=false:=by simp;omega
 have n4:(k == 11)=false:=by simp;omega
 have n5:decide (k≤10)=false:=by simp;omega
 go_enter Try.func122,Try.ntmps122
 go_wp2
 go_ret
 exact ⟨ret_int HA.out.symm,rfl⟩
theorem l2Limit_any (a0 a1:Option Addr) (nv c0 na c1:Nat) (vb:Value) (k:Int) (w:World):Calls Try.prog 123 #[.agg #[.slice a0 nv c0,.slice a1 na c1,vb],.int .i64 k] w fun e w'=>e=.returned (.int .i64 (limitOf nv na k))∧Below w.heap.size w w':=by
 have b0:=bal (Bs w) (.cells #[.slice a0 nv c0,.slice a1 na c1,vb] 29);have hc:k=1∨k=2∨k=3∨(k≠1∧k≠2∧k≠3):=by omega
 rcases hc with rfl | rfl | rfl | h
 ·go_enter Try.func123,Try.ntmps123
  go_wp2
  go_ret
  exact ⟨rfl,b0⟩
 ·go_enter Try.func123,Try.ntmps123
  go_wp2
  go_ret
  exact ⟨rfl,b0⟩
 ·go_enter Try.func123,Try.ntmps123
  go_wp2
  go_ret
  exact ⟨rfl,b0⟩
 have HA:Hid (limitOf nv na k=1):=Hi (by unfold limitOf;rw [if_neg h.1,if_neg h.2.1,if_neg h.2.2]);have n1:(k == 1)=false:=by simpa using h.1
 have n2:(k == 2)=false:=by simpa using h.2.1
 have n3:(k == 3)=false:=by simpa using h.2.2
 clear h;go_enter Try.func123,Try.ntmps123
 go_wp2
 go_ret
 exact ⟨ret_int HA.out.symm,b0⟩
theorem l2Atom_any (k v:Int) (u:Value) (w:World):Calls Try.prog 98 #[.agg #[.int .i64 k,.int .i64 v,u]] w fun e w'=>e=.returned (.bool (atomK k))∧Below w.heap.size w w':=by
 have a0:=bal (Bs w) (.cells #[.int .i64 k,.int .i64 v,u] 79)
 have hc:(k == 1)=true∨((k == 1)=false∧((k == 2)=true∨(k == 2)=false)):=by
  cases (k == 1) <;> cases (k == 2) <;> simp
 rcases hc with h | ⟨h,h2 | h2⟩
 ·have HB:Hid (atomK k=true):=Hi (by unfold atomK;rw [h];rfl);go_enter Try.func98,Try.ntmps98
  go_wp2
  go_ret
  exact ⟨ret_bool HB.out.symm,a0⟩
 ·have HB:Hid (atomK k=true):=Hi (by unfold atomK;rw [h,h2];rfl);go_enter Try.func98,Try.ntmps98
  go_wp2
  go_ret
  exact ⟨ret_bool HB.out.symm,a0⟩
 have HB:Hid (atomK k=false):=Hi (by unfold atomK;rw [h,h2];rfl);go_enter Try.func98,Try.ntmps98
 go_wp2
 go_ret
 exact ⟨ret_bool HB.out.symm,a0⟩
theorem l2None_any (n:En) (e:Ex) (hk:n.k=e.k) (hv:n.v=e.v) (hn:n.n=e.kids.length) (w:World):Calls Try.prog 113 #[.agg #[.int .i64 n.k,.int .i64 n.v,.slice n.p n.n n.c]] w fun r w'=>r=.returned (.bool (noneE e))∧Below w.heap.size w w':=by
 have a0:=bal (Bs w) (.cells #[.int .i64 n.k,.int .i64 n.v,.slice n.p n.n n.c] 79);have HQ:Hid (noneE e=(n.k == 0&&(n.v == 0&&decide (n.n=0)))):=Hi (by unfold noneE;rw [hk,hv,hn]);clear hk hv hn;generalize noneE e=E at *
 obtain ⟨k,v,p,m,c⟩:=n;simp only at *
 have hc:(k == 0)=false∨((k == 0)=true∧((v == 0)=false∨((v == 0)=true∧(¬m=0∨m=0)))):=by
  cases (k == 0) <;> cases (v == 0) <;> simp <;> omega
 rcases hc with h | ⟨h,h2 | ⟨h2,h3 | h3⟩⟩
 ·have HB:Hid (E=false):=Hi (by rw [HQ.out,h];rfl);clear HQ;go_enter Try.func113,Try.ntmps113
  go_wp2
  go_ret
  exact ⟨ret_bool HB.out.symm,a0⟩
 ·have HB:Hid (E=false):=Hi (by rw [HQ.out,h,h2];rfl);clear HQ;go_enter Try.func113,Try.ntmps113
  go_wp2
  go_ret
  exact ⟨ret_bool HB.out.symm,a0⟩
 ·have HB:Hid (E=false):=Hi (by rw [HQ.out,h,h2,decide_eq_false h3];rfl);have h4:((m:Int) == 0)=false:=by simp;omega
  clear HQ;go_enter Try.func113,Try.ntmps113
  go_wp2
  go_ret
  exact ⟨ret_bool HB.out.symm,a0⟩
 subst h3;have HB:Hid (E=true):=Hi (by rw [HQ.out,h,h2];rfl);clear HQ;go_enter Try.func113,Try.ntmps113
 go_wp2
 go_ret
 exact ⟨ret_bool HB.out.symm,a0⟩
def wi (n lo hi:Int):Bool:=decide (lo≤n∧n≤hi)
def labOk (n:Int):Bool:=wi n 0 3
def labsOk (xs:List Int):Bool:=xs.all labOk
def declOk (xs ys:List Int):Bool:=decide (1≤xs.length∧xs.length≤12)&&(decide (ys.length≤2)&&(labsOk xs&&labsOk ys))
theorem within_any (n lo hi:Int) (w:World) :
  Calls Try.prog 81 #[.int .i64 n,.int .i64 lo,.int .i64 hi] w fun e w'=>e=.returned (.bool (wi n lo hi))∧Below w.heap.size w w':=by
 by_cases h1:lo≤n
 ·by_cases h2:n≤hi
  ·have HD:Hid (wi n lo hi=true):=Hi (decide_eq_true (p:=lo≤n∧n≤hi) ⟨h1,h2⟩);go_enter Try.func81,Try.ntmps81
   go_wp2
   go_ret
   exact ⟨ret_bool HD.out.symm,Below.refl _ _⟩
  have HD:Hid (wi n lo hi=false):=Hi (decide_eq_false (p:=lo≤n∧n≤hi) (by omega));have h3:decide (n≤hi)=false:=decide_eq_false h2;clear h2;go_enter Try.func81,Try.ntmps81
  go_wp2
  go_ret
  exact ⟨ret_bool HD.out.symm,Below.refl _ _⟩
 have HD:Hid (wi n lo hi=false):=Hi (decide_eq_false (p:=lo≤n∧n≤hi) (by omega));go_enter Try.func81,Try.ntmps81
 go_wp2
 go_ret
 exact ⟨ret_bool HD.out.symm,Below.refl _ _⟩
theorem iLabelValid_any (n:Int) (w:World) :
  Calls Try.prog 101 #[.int .i64 n] w fun e w'=>e=.returned (.bool (labOk n))∧Below w.heap.size w w':=by
 go_enter Try.func101,Try.ntmps101
 go_wp2_with fail
 refine (within_any n 0 3 _).mono ?_;rintro e w1 ⟨rfl,hb⟩;go_wp2
 go_ret
 exact ⟨rfl,hb⟩
theorem notLabel_any (n:Int) (w:World) :
  Calls Try.prog 100 #[.int .i64 n] w fun e w'=>e=.returned (.bool (!labOk n))∧Below w.heap.size w w':=by
 go_enter Try.func100,Try.ntmps100
 go_wp2_with fail
 refine (iLabelValid_any n _).mono ?_;rintro e w1 ⟨rfl,hb⟩;go_wp2
 go_ret
 exact ⟨rfl,hb⟩
end Go.Proofs.Ytnpidfbcbmeijaa
