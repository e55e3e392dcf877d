/-
 Parts of the proofs of the laws FnExactProductProgram.
-/
import Derived.Test.YtlckklglbodgbaaQ
set_option linter.all false
namespace Go.Proofs.Ytlckklglbodgbaa
open Go.RowKit
def arity (k:Int):Int:=if k=1∨k=2 then 0 else if k=3 then 1 else if 4≤k∧k≤10 then 2 else if k=11 then 3 else -1
def limitOf (nv na:Nat) (k:Int):Int:=if k=1 then 256 else if k=2 then nv else if k=3 then na else 1
def atomK (k:Int):Bool:=k == 1||k == 2
def exOk (nv na:Nat):Nat→Ex→Bool
 | 0,_=>false
 | d+1,e=>((e.kids.length:Int) == arity e.k)&&(decide (0≤e.v)&&(decide (e.v < limitOf nv na e.k)&&(e.kids.all (exOk nv na d)&&(!(e.k == 3)||(match e.kids with | []=>false | x::_=>atomK x.k)))))
def exCnt:Nat→Ex→Int
 | 0,_=>1
 | d+1,e=>1+(e.kids.map (exCnt d)).sum
def Thin:Nat→Ex→Prop
 | 0,_=>False
 | d+1,e=>e.kids.length≤3∧∀ x ∈ e.kids,Thin d x
theorem Thin.mono:∀ {d d':Nat} {e:Ex},d≤d'→Thin d e→Thin d' e:=by
 intro d
 induction d with
 | zero=>intro d' e _ h;cases h
 | succ d ih =>
  intro d' e hd h
  cases d' with
  | zero=>omega
  | succ d'=>exact ⟨h.1,fun x hx=>ih (by omega) (h.2 x hx)⟩
def noneE (e:Ex):Bool:=e.k == 0&&(e.v == 0&&decide (e.kids.length=0))
theorem l2Arity_any (k:Int) (w:World):Calls Try.prog 139 #[.int .i64 k] w fun e w'=>e=.returned (.int .i64 (arity k))∧w'=w:=by
 have hc:k=1∨k=2∨k=3∨(4≤k∧k≤10)∨k=11∨k < 1∨11 < k:=by omega
 rcases hc with rfl | rfl | rfl | h | rfl | h | h
 ·go_enter Try.func139,Try.ntmps139
  go_wp2
  go_ret
  exact ⟨rfl,rfl⟩
 ·go_enter Try.func139,Try.ntmps139
  go_wp2
  go_ret
  exact ⟨rfl,rfl⟩
 ·go_enter Try.func139,Try.ntmps139
  go_wp2
  go_ret
  exact ⟨rfl,rfl⟩
 ·have HA:Hid (arity k=2):=Hi (by unfold arity;rw [if_neg (by omega),if_neg (by omega),if_pos h]);obtain ⟨h1,h2⟩:=h;have n1:(k == 1)=false:=by simp;omega
  have n2:(k == 2)=false:=by simp;omega
  have n3:(k == 3)=false:=by simp;omega
  go_enter Try.func139,Try.ntmps139
  go_wp2
  go_ret
  exact ⟨ret_int HA.out.symm,rfl⟩
 ·go_enter Try.func139,Try.ntmps139
  go_wp2
  go_ret
  exact ⟨rfl,rfl⟩
 ·have HA:Hid (arity k=-1):=Hi (by unfold arity;rw [if_neg (by omega),if_neg (by omega),if_neg (by omega),if_neg (by omega)]);have n1:(k == 1)=false:=by simp;omega
  have n2:(k == 2)=false:=by simp;omega
  have n3:(k == 3)=false:=by simp;omega
  have n4:(k == 11)=false:=by simp;omega
  have n5:decide (4≤k)=false:=by simp;omega
  go_enter Try.func139,Try.ntmps139
  go_wp2
  go_ret
  exact ⟨ret_int HA.out.symm,rfl⟩
 have HA:Hid (arity k=-1):=Hi (by unfold arity;rw [if_neg (by omega),if_neg (by omega),if_neg (by omega),if_neg (by omega)]);have n1:(k == 1)=false:=by simp;omega
 have n2:(k == 2)=false:=by simp;omega
 have n3:(k == 3)=false:=by simp;omega
 have n4:(k == 11)=false:=by simp;omega
 have n5:decide (k≤10)=false:=by simp;omega
 go_enter Try.func139,Try.ntmps139
 go_wp2
 go_ret
 exact ⟨ret_int HA.out.symm,rfl⟩
theorem l2Limit_any (a0 a1:Option Addr) (nv c0 na c1:Nat) (vb:Value) (k:Int) (w:World):Calls Try.prog 140 #[.agg #[.slice a0 nv c0,.slice a1 na c1,vb],.int .i64 k] w fun e w'=>e=.returned (.int .i64 (limitOf nv na k))∧Below w.heap.size w w':=by
 have b0:=bal (Bs w) (.cells #[.slice a0 nv c0,.slice a1 na c1,vb] 26);have hc:k=1∨k=2∨k=3∨(k≠1∧k≠2∧k≠3):=by omega
 rcases hc with rfl | rfl | rfl | h
 ·go_enter Try.func140,Try.ntmps140
  go_wp2
  go_ret
  exact ⟨rfl,b0⟩
 ·go_enter Try.func140,Try.ntmps140
  go_wp2
  go_ret
  exact ⟨rfl,b0⟩
 ·go_enter Try.func140,Try.ntmps140
  go_wp2
  go_ret
  exact ⟨rfl,b0⟩
 have HA:Hid (limitOf nv na k=1):=Hi (by unfold limitOf;rw [if_neg h.1,if_neg h.2.1,if_neg h.2.2]);have n1:(k == 1)=false:=by simpa using h.1
 have n2:(k == 2)=false:=by simpa using h.2.1
 have n3:(k == 3)=false:=by simpa using h.2.2
 clear h;go_enter Try.func140,Try.ntmps140
 go_wp2
 go_ret
 exact ⟨ret_int HA.out.symm,b0⟩
theorem l2Atom_any (k v:Int) (u:Value) (w:World):Calls Try.prog 100 #[.agg #[.int .i64 k,.int .i64 v,u]] w fun e w'=>e=.returned (.bool (atomK k))∧Below w.heap.size w w':=by
 have a0:=bal (Bs w) (.cells #[.int .i64 k,.int .i64 v,u] 49)
 have hc:(k == 1)=true∨((k == 1)=false∧((k == 2)=true∨(k == 2)=false)):=by
  cases (k == 1) <;> cases (k == 2) <;> simp
 rcases hc with h | ⟨h,h2 | h2⟩
 ·have HB:Hid (atomK k=true):=Hi (by unfold atomK;rw [h];rfl);go_enter Try.func100,Try.ntmps100
  go_wp2
  go_ret
  exact ⟨ret_bool HB.out.symm,a0⟩
 ·have HB:Hid (atomK k=true):=Hi (by unfold atomK;rw [h,h2];rfl);go_enter Try.func100,Try.ntmps100
  go_wp2
  go_ret
  exact ⟨ret_bool HB.out.symm,a0⟩
 have HB:Hid (atomK k=false):=Hi (by unfold atomK;rw [h,h2];rfl);go_enter Try.func100,Try.ntmps100
 go_wp2
 go_ret
 exact ⟨ret_bool HB.out.symm,a0⟩
theorem l2None_any (n:En) (e:Ex) (hk:n.k=e.k) (hv:n.v=e.v) (hn:n.n=e.kids.length) (w:World):Calls Try.prog 123 #[.agg #[.int .i64 n.k,.int .i64 n.v,.slice n.p n.n n.c]] w fun r w'=>r=.returned (.bool (noneE e))∧Below w.heap.size w w':=by
 have a0:=bal (Bs w) (.cells #[.int .i64 n.k,.int .i64 n.v,.slice n.p n.n n.c] 49);have HQ:Hid (noneE e=(n.k == 0&&(n.v == 0&&decide (n.n=0)))):=Hi (by unfold noneE;rw [hk,hv,hn]);clear hk hv hn;generalize noneE e=E at *
 obtain ⟨k,v,p,m,c⟩:=n;simp only at *
 have hc:(k == 0)=false∨((k == 0)=true∧((v == 0)=false∨((v == 0)=true∧(¬m=0∨m=0)))):=by
  cases (k == 0) <;> cases (v == 0) <;> simp <;> omega
 rcases hc with h | ⟨h,h2 | ⟨h2,h3 | h3⟩⟩
 ·have HB:Hid (E=false):=Hi (by rw [HQ.out,h];rfl);clear HQ;go_enter Try.func123,Try.ntmps123
  go_wp2
  go_ret
  exact ⟨ret_bool HB.out.symm,a0⟩
 ·have HB:Hid (E=false):=Hi (by rw [HQ.out,h,h2];rfl);clear HQ;go_enter Try.func123,Try.ntmps123
  go_wp2
  go_ret
  exact ⟨ret_bool HB.out.symm,a0⟩
 ·have HB:Hid (E=false):=Hi (by rw [HQ.out,h,h2,decide_eq_false h3];rfl);have h4:((m:Int) == 0)=false:=by simp;omega
  clear HQ;go_enter Try.func123,Try.ntmps123
  go_wp2
  go_ret
  exact ⟨ret_bool HB.out.symm,a0⟩
 subst h3;have HB:Hid (E=true):=Hi (by rw [HQ.out,h,h2];rfl);clear HQ;go_enter Try.func123,Try.ntmps123
 go_wp2
 go_ret
 exact ⟨ret_bool HB.out.symm,a0⟩
def wi (n lo hi:Int):Bool:=decide (lo≤n∧n≤hi)
def labOk (n:Int):Bool:=wi n 0 3
def labsOk (xs:List Int):Bool:=xs.all labOk
def declOk (xs ys:List Int):Bool:=decide (1≤xs.length∧xs.length≤12)&&(decide (ys.length≤2)&&(labsOk xs&&labsOk ys))
theorem within_any (n lo hi:Int) (w:World) :
  Calls Try.prog 52 #[.int .i64 n,.int .i64 lo,.int .i64 hi] w fun e w'=>e=.returned (.bool (wi n lo hi))∧Below w.heap.size w w':=by
 by_cases h1:lo≤n
 ·by_cases h2:n≤hi
  ·have HD:Hid (wi n lo hi=true):=Hi (decide_eq_true (p:=lo≤n∧n≤hi) ⟨h1,h2⟩);go_enter Try.func52,Try.ntmps52
   go_wp2
   go_ret
   exact ⟨ret_bool HD.out.symm,Below.refl _ _⟩
  have HD:Hid (wi n lo hi=false):=Hi (decide_eq_false (p:=lo≤n∧n≤hi) (by omega));have h3:decide (n≤hi)=false:=decide_eq_false h2;clear h2;go_enter Try.func52,Try.ntmps52
  go_wp2
  go_ret
  exact ⟨ret_bool HD.out.symm,Below.refl _ _⟩
 have HD:Hid (wi n lo hi=false):=Hi (decide_eq_false (p:=lo≤n∧n≤hi) (by omega));go_enter Try.func52,Try.ntmps52
 go_wp2
 go_ret
 exact ⟨ret_bool HD.out.symm,Below.refl _ _⟩
theorem iLabelValid_any (n:Int) (w:World) :
  Calls Try.prog 81 #[.int .i64 n] w fun e w'=>e=.returned (.bool (labOk n))∧Below w.heap.size w w':=by
 go_enter Try.func81,Try.ntmps81
 go_wp2_with fail
 refine (within_any n 0 3 _).mono ?_;rintro e w1 ⟨rfl,hb⟩;go_wp2
 go_ret
 exact ⟨rfl,hb⟩
theorem notLabel_any (n:Int) (w:World) :
  Calls Try.prog 80 #[.int .i64 n] w fun e w'=>e=.returned (.bool (!labOk n))∧Below w.heap.size w w':=by
 go_enter Try.func80,Try.ntmps80
 go_wp2_with fail
 refine (iLabelValid_any n _).mono ?_;rintro e w1 ⟨rfl,hb⟩;go_wp2
 go_ret
 exact ⟨rfl,hb⟩
set_option maxHeartbeats 6400000 in
set_option maxRecDepth 100000 in
theorem operands_any (k:Int) (w:World):Calls Try.prog 126 #[.int .i64 k] w fun r w'=>r=.returned (.int .i64 (arity k))∧Below w.heap.size w w':=by
 have HA:=Hi (show arity k=if k=1∨k=2 then 0 else if k=3 then 1 else if 4≤k∧k≤10 then 2 else if k=11 then 3 else -1 from rfl);generalize arity k=Q at *
 go_enter Try.func126,Try.ntmps126
 by_cases h0:k=1
 ·skip
  have q5:(k == 1)=true:=by rw [beq_iff_eq];exact h0
  have H0:=Hi h0;clear h0;have HQ:Hid (Q=0):=Hi (by rw [HA.out];rw [if_pos (Or.inl H0.out)]);clear HA;have tt:=(Bs w);go_wp2
  exact bodyPost_ret (v:=.int .i64 0) (by simp [results,Try.results126,go_sem]) rfl (by exact by rw [HQ.out];exact ⟨rfl,tt⟩)
 have q5:(k == 1)=false:=by rw [beq_eq_false_iff_ne];exact h0
 by_cases h1:k=2
 ·skip
  have q8:(k == 2)=true:=by rw [beq_iff_eq];exact h1
  have H1:=Hi h1;clear h1;have HQ:Hid (Q=0):=Hi (by rw [HA.out];rw [if_pos (Or.inr H1.out)]);clear HA;have tt:=(Bs w);go_wp2
  exact bodyPost_ret (v:=.int .i64 0) (by simp [results,Try.results126,go_sem]) rfl (by exact by rw [HQ.out];exact ⟨rfl,tt⟩)
 have q8:(k == 2)=false:=by rw [beq_eq_false_iff_ne];exact h1
 by_cases h2:k=3
 ·skip
  have e0:(k == 3)=true:=by rw [beq_iff_eq];exact h2
  have H2:=Hi h2;clear h2;have HQ:Hid (Q=1):=Hi (by rw [HA.out];rw [if_neg (by have:=H2.out;omega),if_pos H2.out]);clear HA;have tt:=(Bs w);go_wp2
  exact bodyPost_ret (v:=.int .i64 1) (by simp [results,Try.results126,go_sem]) rfl (by exact by rw [HQ.out];exact ⟨rfl,tt⟩)
 have e0:(k == 3)=false:=by rw [beq_eq_false_iff_ne];exact h2
 by_cases h3:4≤k∧k≤10
 ·skip
  go_wp2_with fail
  refine (within_any k 4 10 _).mono ?_;rintro e w1 ⟨rfl,hb⟩;rw [show wi k 4 10=true from decide_eq_true (p:=4≤k∧k≤10) h3];have b0:=hb.size;have a0:=btr (Bs w) hb;clear hb;have HQ:Hid (Q=2):=Hi (by rw [HA.out];rw [if_neg (by omega),if_neg (by omega),if_pos h3]);clear HA;have tt:=a0;go_wp2
  exact bodyPost_ret (v:=.int .i64 2) (by simp [results,Try.results126,go_sem]) rfl (by exact by rw [HQ.out];exact ⟨rfl,tt⟩)
 by_cases h4:k=11
 ·skip
  have f0:(k == 11)=true:=by rw [beq_iff_eq];exact h4
  have H4:=Hi h4;clear h4;go_wp2_with fail
  refine (within_any k 4 10 _).mono ?_;rintro e w1 ⟨rfl,hb⟩;rw [show wi k 4 10=false from decide_eq_false (p:=4≤k∧k≤10) h3];have c0:=hb.size;have a0:=btr (Bs w) hb;clear hb;have HQ:Hid (Q=3):=Hi (by rw [HA.out];rw [if_neg (by have:=H4.out;omega),if_neg (by have:=H4.out;omega),if_neg (by have:=H4.out;omega),if_pos H4.out]);clear HA;have tt:=a0;go_wp2
  exact bodyPost_ret (v:=.int .i64 3) (by simp [results,Try.results126,go_sem]) rfl (by exact by rw [HQ.out];exact ⟨rfl,tt⟩)
 have f0:(k == 11)=false:=by rw [beq_eq_false_iff_ne];exact h4
 go_wp2_with fail
 refine (within_any k 4 10 _).mono ?_;rintro e w1 ⟨rfl,hb⟩;rw [show wi k 4 10=false from decide_eq_false (p:=4≤k∧k≤10) h3];have d0:=hb.size;have a0:=btr (Bs w) hb;clear hb;have HQ:Hid (Q=-1):=Hi (by rw [HA.out];rw [if_neg (by omega),if_neg (by omega),if_neg (by omega),if_neg h4]);clear HA;have tt:=a0;go_wp2
 exact bodyPost_ret (v:=.int .i64 (-1)) (by simp [results,Try.results126,go_sem]) rfl (by exact by rw [HQ.out];exact ⟨rfl,tt⟩)
theorem isPlain_any (k v:Int) (u:Value) (w:World):Calls Try.prog 83 #[.agg #[.int .i64 k,.int .i64 v,u]] w fun r w'=>r=.returned (.bool (atomK k))∧Below w.heap.size w w':=by
 have HA:=Hi (show atomK k=((k == 1)||(k == 2)) from rfl);generalize atomK k=Q at *
 go_enter Try.func83,Try.ntmps83
 by_cases h1:(k == 1)=true
 ·skip
  have HQ:Hid (Q=true):=Hi (by rw [HA.out];simp [h1]);have tt:=(bal (Bs w) (.cells #[.int .i64 k,.int .i64 v,u] 49));go_wp2
  exact bodyPost_ret (v:=.bool true) (by simp [results,Try.results83,go_sem]) rfl (by exact by rw [HQ.out];exact ⟨rfl,tt⟩)
 have g1:(k == 1)=false:=by simpa using h1
 clear h1;by_cases h2:(k == 2)=true
 ·skip
  have HQ:Hid (Q=true):=Hi (by rw [HA.out];simp [h2]);have tt:=(bal (Bs w) (.cells #[.int .i64 k,.int .i64 v,u] 49));go_wp2
  exact bodyPost_ret (v:=.bool true) (by simp [results,Try.results83,go_sem]) rfl (by exact by rw [HQ.out];exact ⟨rfl,tt⟩)
 have g2:(k == 2)=false:=by simpa using h2
 clear h2;have HQ:Hid (Q=false):=Hi (by rw [HA.out,g1,g2];rfl);have tt:=(bal (Bs w) (.cells #[.int .i64 k,.int .i64 v,u] 49));go_wp2
 exact bodyPost_ret (v:=.bool false) (by simp [results,Try.results83,go_sem]) rfl (by exact by rw [HQ.out];exact ⟨rfl,tt⟩)
theorem isNone_any (n:En) (e:Ex) (hk:n.k=e.k) (hv:n.v=e.v) (hn:n.n=e.kids.length) (w:World):Calls Try.prog 84 #[.agg #[.int .i64 n.k,.int .i64 n.v,.slice n.p n.n n.c]] w fun r w'=>r=.returned (.bool (noneE e))∧Below w.heap.size w w':=by
 have HA:Hid (noneE e=((n.k == 0)&&((n.v == 0)&&decide (n.n=0)))):=Hi (by rw [hk,hv,hn];rfl);clear hk hv hn;generalize noneE e=Q at *
 obtain ⟨k,v,p,m,c⟩:=n;simp only at *
 go_enter Try.func84,Try.ntmps84
 by_cases h1:(k == 0)=true
 case neg =>
  have g:(k == 0)=false:=by simpa using h1
  have HQ:Hid (Q=false):=Hi (by rw [HA.out];simp [g]);clear h1;have tt:=(bal (Bs w) (.cells #[.int .i64 k,.int .i64 v,.slice p m c] 49));go_wp2
  exact bodyPost_ret (v:=.bool false) (by simp [results,Try.results84,go_sem]) rfl (by exact by rw [HQ.out];exact ⟨rfl,tt⟩)
 by_cases h2:(v == 0)=true
 case neg =>
  have g:(v == 0)=false:=by simpa using h2
  have HQ:Hid (Q=false):=Hi (by rw [HA.out];simp [g]);clear h2;have tt:=(bal (Bs w) (.cells #[.int .i64 k,.int .i64 v,.slice p m c] 49));go_wp2
  exact bodyPost_ret (v:=.bool false) (by simp [results,Try.results84,go_sem]) rfl (by exact by rw [HQ.out];exact ⟨rfl,tt⟩)
 by_cases h3:((m:Int) == 0)=true
 case neg =>
  have g:((m:Int) == 0)=false:=by simpa using h3
  have a0:decide (m=0)=false:=decide_eq_false (fun h=>by rw [h] at g;cases g);have HQ:Hid (Q=false):=Hi (by rw [HA.out];simp [g,a0]);clear h3 a0;have tt:=(bal (Bs w) (.cells #[.int .i64 k,.int .i64 v,.slice p m c] 49));go_wp2
  exact bodyPost_ret (v:=.bool false) (by simp [results,Try.results84,go_sem]) rfl (by exact by rw [HQ.out];exact ⟨rfl,tt⟩)
 have a0:decide (m=0)=true:=decide_eq_true (by have:=(beq_iff_eq.1 h3);omega);have HQ:Hid (Q=true):=Hi (by rw [HA.out,h1,h2,a0];rfl);clear a0;have tt:=(bal (Bs w) (.cells #[.int .i64 k,.int .i64 v,.slice p m c] 49));go_wp2
 exact bodyPost_ret (v:=.bool true) (by simp [results,Try.results84,go_sem]) rfl (by exact by rw [HQ.out];exact ⟨rfl,tt⟩)
end Go.Proofs.Ytlckklglbodgbaa
