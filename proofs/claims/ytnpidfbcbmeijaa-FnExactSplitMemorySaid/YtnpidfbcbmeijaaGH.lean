/-
 Parts of the proofs of the laws FnExactSplitMemory.
-/
import Derived.Test.YtnpidfbcbmeijaaPU
set_option linter.all false
namespace Go.Proofs.Ytnpidfbcbmeijaa
open Go.RowKit
set_option maxHeartbeats 6400000 in
set_option maxRecDepth 100000 in
theorem operands_any (k:Int) (w:World):Calls Try.prog 124 #[.int .i64 k] w fun r w'=>r=.returned (.int .i64 (arity k))∧Below w.heap.size w w':=by
 have HA:=Hi (show arity k=if k=1∨k=2 then 0 else if k=3 then 1 else if 4≤k∧k≤10 then 2 else if k=11 then 3 else -1 from rfl);generalize arity k=Q at *
 go_enter Try.func124,Try.ntmps124
 by_cases h0:k=1
 ·skip
  have q5:(k == 1)=true:=by rw [beq_iff_eq];exact h0
  have H0:=Hi h0;clear h0;have HQ:Hid (Q=0):=Hi (by rw [HA.out];rw [if_pos (Or.inl H0.out)]);clear HA;have tt:=(Bs w);go_wp2
  exact bodyPost_ret (v:=.int .i64 0) (by simp [results,Try.results124,go_sem]) rfl (by exact by rw [HQ.out];exact ⟨rfl,tt⟩)
 have q5:(k == 1)=false:=by rw [beq_eq_false_iff_ne];exact h0
 by_cases h1:k=2
 ·skip
  have q8:(k == 2)=true:=by rw [beq_iff_eq];exact h1
  have H1:=Hi h1;clear h1;have HQ:Hid (Q=0):=Hi (by rw [HA.out];rw [if_pos (Or.inr H1.out)]);clear HA;have tt:=(Bs w);go_wp2
  exact bodyPost_ret (v:=.int .i64 0) (by simp [results,Try.results124,go_sem]) rfl (by exact by rw [HQ.out];exact ⟨rfl,tt⟩)
 have q8:(k == 2)=false:=by rw [beq_eq_false_iff_ne];exact h1
 by_cases h2:k=3
 ·skip
  have e0:(k == 3)=true:=by rw [beq_iff_eq];exact h2
  have H2:=Hi h2;clear h2;have HQ:Hid (Q=1):=Hi (by rw [HA.out];rw [if_neg (by have:=H2.out;omega),if_pos H2.out]);clear HA;have tt:=(Bs w);go_wp2
  exact bodyPost_ret (v:=.int .i64 1) (by simp [results,Try.results124,go_sem]) rfl (by exact by rw [HQ.out];exact ⟨rfl,tt⟩)
 have e0:(k == 3)=false:=by rw [beq_eq_false_iff_ne];exact h2
 by_cases h3:4≤k∧k≤10
 ·skip
  go_wp2_with fail
  refine (within_any k 4 10 _).mono ?_;rintro e w1 ⟨rfl,hb⟩;rw [show wi k 4 10=true from decide_eq_true (p:=4≤k∧k≤10) h3];have b0:=hb.size;have a0:=btr (Bs w) hb;clear hb;have HQ:Hid (Q=2):=Hi (by rw [HA.out];rw [if_neg (by omega),if_neg (by omega),if_pos h3]);clear HA;have tt:=a0;go_wp2
  exact bodyPost_ret (v:=.int .i64 2) (by simp [results,Try.results124,go_sem]) rfl (by exact by rw [HQ.out];exact ⟨rfl,tt⟩)
 by_cases h4:k=11
 ·skip
  have f0:(k == 11)=true:=by rw [beq_iff_eq];exact h4
  have H4:=Hi h4;clear h4;go_wp2_with fail
  refine (within_any k 4 10 _).mono ?_;rintro e w1 ⟨rfl,hb⟩;rw [show wi k 4 10=false from decide_eq_false (p:=4≤k∧k≤10) h3];have c0:=hb.size;have a0:=btr (Bs w) hb;clear hb;have HQ:Hid (Q=3):=Hi (by rw [HA.out];rw [if_neg (by have:=H4.out;omega),if_neg (by have:=H4.out;omega),if_neg (by have:=H4.out;omega),if_pos H4.out]);clear HA;have tt:=a0;go_wp2
  exact bodyPost_ret (v:=.int .i64 3) (by simp [results,Try.results124,go_sem]) rfl (by exact by rw [HQ.out];exact ⟨rfl,tt⟩)
 have f0:(k == 11)=false:=by rw [beq_eq_false_iff_ne];exact h4
 go_wp2_with fail
 refine (within_any k 4 10 _).mono ?_;rintro e w1 ⟨rfl,hb⟩;rw [show wi k 4 10=false from decide_eq_false (p:=4≤k∧k≤10) h3];have d0:=hb.size;have a0:=btr (Bs w) hb;clear hb;have HQ:Hid (Q=-1):=Hi (by rw [HA.out];rw [if_neg (by omega),if_neg (by omega),if_neg (by omega),if_neg h4]);clear HA;have tt:=a0;go_wp2
 exact bodyPost_ret (v:=.int .i64 (-1)) (by simp [results,Try.results124,go_sem]) rfl (by exact by rw [HQ.out];exact ⟨rfl,tt⟩)
theorem isPlain_any (k v:Int) (u:Value) (w:World):Calls Try.prog 103 #[.agg #[.int .i64 k,.int .i64 v,u]] w fun r w'=>r=.returned (.bool (atomK k))∧Below w.heap.size w w':=by
 have HA:=Hi (show atomK k=((k == 1)||(k == 2)) from rfl);generalize atomK k=Q at *
 go_enter Try.func103,Try.ntmps103
 by_cases h1:(k == 1)=true
 ·skip
  have HQ:Hid (Q=true):=Hi (by rw [HA.out];simp [h1]);have tt:=(bal (Bs w) (.cells #[.int .i64 k,.int .i64 v,u] 79));go_wp2
  exact bodyPost_ret (v:=.bool true) (by simp [results,Try.results103,go_sem]) rfl (by exact by rw [HQ.out];exact ⟨rfl,tt⟩)
 have g1:(k == 1)=false:=by simpa using h1
 clear h1;by_cases h2:(k == 2)=true
 ·skip
  have HQ:Hid (Q=true):=Hi (by rw [HA.out];simp [h2]);have tt:=(bal (Bs w) (.cells #[.int .i64 k,.int .i64 v,u] 79));go_wp2
  exact bodyPost_ret (v:=.bool true) (by simp [results,Try.results103,go_sem]) rfl (by exact by rw [HQ.out];exact ⟨rfl,tt⟩)
 have g2:(k == 2)=false:=by simpa using h2
 clear h2;have HQ:Hid (Q=false):=Hi (by rw [HA.out,g1,g2];rfl);have tt:=(bal (Bs w) (.cells #[.int .i64 k,.int .i64 v,u] 79));go_wp2
 exact bodyPost_ret (v:=.bool false) (by simp [results,Try.results103,go_sem]) rfl (by exact by rw [HQ.out];exact ⟨rfl,tt⟩)
theorem isNone_any (n:En) (e:Ex) (hk:n.k=e.k) (hv:n.v=e.v) (hn:n.n=e.kids.length) (w:World):Calls Try.prog 104 #[.agg #[.int .i64 n.k,.int .i64 n.v,.slice n.p n.n n.c]] w fun r w'=>r=.returned (.bool (noneE e))∧Below w.heap.size w w':=by
 have HA:Hid (noneE e=((n.k == 0)&&((n.v == 0)&&decide (n.n=0)))):=Hi (by rw [hk,hv,hn];rfl);clear hk hv hn;generalize noneE e=Q at *
 obtain ⟨k,v,p,m,c⟩:=n;simp only at *
 go_enter Try.func104,Try.ntmps104
 by_cases h1:(k == 0)=true
 case neg =>
  have g:(k == 0)=false:=by simpa using h1
  have HQ:Hid (Q=false):=Hi (by rw [HA.out];simp [g]);clear h1;have tt:=(bal (Bs w) (.cells #[.int .i64 k,.int .i64 v,.slice p m c] 79));go_wp2
  exact bodyPost_ret (v:=.bool false) (by simp [results,Try.results104,go_sem]) rfl (by exact by rw [HQ.out];exact ⟨rfl,tt⟩)
 by_cases h2:(v == 0)=true
 case neg =>
  have g:(v == 0)=false:=by simpa using h2
  have HQ:Hid (Q=false):=Hi (by rw [HA.out];simp [g]);clear h2;have tt:=(bal (Bs w) (.cells #[.int .i64 k,.int .i64 v,.slice p m c] 79));go_wp2
  exact bodyPost_ret (v:=.bool false) (by simp [results,Try.results104,go_sem]) rfl (by exact by rw [HQ.out];exact ⟨rfl,tt⟩)
 by_cases h3:((m:Int) == 0)=true
 case neg =>
  have g:((m:Int) == 0)=false:=by simpa using h3
  have a0:decide (m=0)=false:=decide_eq_false (fun h=>by rw [h] at g;cases g);have HQ:Hid (Q=false):=Hi (by rw [HA.out];simp [g,a0]);clear h3 a0;have tt:=(bal (Bs w) (.cells #[.int .i64 k,.int .i64 v,.slice p m c] 79));go_wp2
  exact bodyPost_ret (v:=.bool false) (by simp [results,Try.results104,go_sem]) rfl (by exact by rw [HQ.out];exact ⟨rfl,tt⟩)
 have a0:decide (m=0)=true:=decide_eq_true (by have:=(beq_iff_eq.1 h3);omega);have HQ:Hid (Q=true):=Hi (by rw [HA.out,h1,h2,a0];rfl);clear a0;have tt:=(bal (Bs w) (.cells #[.int .i64 k,.int .i64 v,.slice p m c] 79));go_wp2
 exact bodyPost_ret (v:=.bool true) (by simp [results,Try.results104,go_sem]) rfl (by exact by rw [HQ.out];exact ⟨rfl,tt⟩)
end Go.Proofs.Ytnpidfbcbmeijaa
