/-
 Parts of the proofs of the laws FnRemoveDead,FnRemoveDeadLeak,FnSpecFenced,FnSpecMemory.
-/
import Derived.Test.YtnpidfbcbmeijaaGreatQ
import Derived.Test.YtnpidfbcbmeijaaGreatKq2
set_option maxHeartbeats 12800000
set_option maxRecDepth 100000
set_option linter.all false
namespace Go.Proofs.YtnpidfbcbmeijaaGreat
open Go.RowKit
def wrt (x:Ins):Int:=if x.op=1 then x.a else if x.op=2 then x.a else if x.op=4 then x.a else if x.op=6 then x.a else if x.op=7 then x.a else if x.op=10 then x.a else -1
def use (x:Ins):List Int:=if x.op=3 then [x.b] else if x.op=4 then [x.c] else if x.op=5 then [x.b,x.c] else if x.op=6 then [x.c,x.d] else if x.op=7 then [x.b,x.c,x.d] else if x.op=9 then [x.a] else if x.op=10 then [x.a] else if x.op=11 then [x.a] else []
def knl (op:Int):List UInt8:=if op=1 then [50,48] else if op=2 then [50,48] else if op=3 then [48,49] else if op=4 then [50,48,49] else if op=5 then [48,49,49] else if op=6 then [50,48,49,49] else if op=7 then [50,49,49,49] else if op=8 then [48] else if op=9 then [49,48] else if op=10 then [51,48] else if op=11 then [49] else []
theorem writes_any (x:Ins) (w:World) (hop:¬(x.op < 1∨13 < x.op)) :
  Calls Tryz.prog 118 #[.agg #[.int .i64 x.op,.int .i64 x.a,.int .i64 x.b,.int .i64 x.c,.int .i64 x.d]] w fun e w'=>e=.returned (.int .i64 (wrt x))∧Below w.heap.size w w':=by
 obtain ⟨op,a,b,c,d⟩:=x;simp only at hop ⊢
 rcases shp_cases op with h | rfl | rfl | rfl | rfl | rfl | rfl | rfl | rfl | rfl | rfl | rfl | rfl | rfl
 ·exact absurd h hop
 ·clear hop;go_enter Tryz.func118,Tryz.ntmps118
  go_wp2
  go_ret
  exact ⟨rfl,bal (Bs w) _⟩
 ·clear hop;go_enter Tryz.func118,Tryz.ntmps118
  go_wp2
  go_ret
  exact ⟨rfl,bal (Bs w) _⟩
 ·clear hop;go_enter Tryz.func118,Tryz.ntmps118
  go_wp2
  go_ret
  exact ⟨rfl,bal (Bs w) _⟩
 ·clear hop;go_enter Tryz.func118,Tryz.ntmps118
  go_wp2
  go_ret
  exact ⟨rfl,bal (Bs w) _⟩
 ·clear hop;go_enter Tryz.func118,Tryz.ntmps118
  go_wp2
  go_ret
  exact ⟨rfl,bal (Bs w) _⟩
 ·clear hop;go_enter Tryz.func118,Tryz.ntmps118
  go_wp2
  go_ret
  exact ⟨rfl,bal (Bs w) _⟩
 ·clear hop;go_enter Tryz.func118,Tryz.ntmps118
  go_wp2
  go_ret
  exact ⟨rfl,bal (Bs w) _⟩
 ·clear hop;go_enter Tryz.func118,Tryz.ntmps118
  go_wp2
  go_ret
  exact ⟨rfl,bal (Bs w) _⟩
 ·clear hop;go_enter Tryz.func118,Tryz.ntmps118
  go_wp2
  go_ret
  exact ⟨rfl,bal (Bs w) _⟩
 ·clear hop;go_enter Tryz.func118,Tryz.ntmps118
  go_wp2
  go_ret
  exact ⟨rfl,bal (Bs w) _⟩
 ·clear hop;go_enter Tryz.func118,Tryz.ntmps118
  go_wp2
  go_ret
  exact ⟨rfl,bal (Bs w) _⟩
 ·clear hop;go_enter Tryz.func118,Tryz.ntmps118
  go_wp2
  go_ret
  exact ⟨rfl,bal (Bs w) _⟩
 clear hop;go_enter Tryz.func118,Tryz.ntmps118
 go_wp2
 go_ret
 exact ⟨rfl,bal (Bs w) _⟩
theorem uses_any (x:Ins) (w:World) (hop:¬(x.op < 1∨13 < x.op)) :
  Calls Tryz.prog 119 #[.agg #[.int .i64 x.op,.int .i64 x.a,.int .i64 x.b,.int .i64 x.c,.int .i64 x.d]] w fun e w'=>∃ u,e=.returned u∧w'.ownsRow w.heap.size 3 1 u (use x).length (ints (use x))∧Below w.heap.size w w':=by
 obtain ⟨op,a,b,c,d⟩:=x;simp only at hop ⊢
 rcases shp_cases op with h | rfl | rfl | rfl | rfl | rfl | rfl | rfl | rfl | rfl | rfl | rfl | rfl | rfl
 ·exact absurd h hop
 ·clear hop;go_enter Tryz.func119,Tryz.ntmps119
  go_wp2
  go_ret
  exact ⟨_,rfl,World.ownsRow_nil _ _ _ _,bal (Bs w) _⟩
 ·clear hop;go_enter Tryz.func119,Tryz.ntmps119
  go_wp2
  go_ret
  exact ⟨_,rfl,World.ownsRow_nil _ _ _ _,bal (Bs w) _⟩
 ·clear hop;have ho:=own_lit (w.alloc (.cells #[.int .i64 3,.int .i64 a,.int .i64 b,.int .i64 c,.int .i64 d] 62)) #[.int .i64 b] 1 3 rfl (by omega);simp only [Sa] at ho;go_enter Tryz.func119,Tryz.ntmps119
  go_wp2
  go_ret
  exact ⟨_,rfl,Om ho (by omega),bal (bal (Bs w) _) _⟩
 ·clear hop;have ho:=own_lit (w.alloc (.cells #[.int .i64 4,.int .i64 a,.int .i64 b,.int .i64 c,.int .i64 d] 62)) #[.int .i64 c] 1 3 rfl (by omega);simp only [Sa] at ho;go_enter Tryz.func119,Tryz.ntmps119
  go_wp2
  go_ret
  exact ⟨_,rfl,Om ho (by omega),bal (bal (Bs w) _) _⟩
 ·clear hop;have ho:=own_lit (w.alloc (.cells #[.int .i64 5,.int .i64 a,.int .i64 b,.int .i64 c,.int .i64 d] 62)) #[.int .i64 b,.int .i64 c] 2 3 rfl (by omega);simp only [Sa] at ho;go_enter Tryz.func119,Tryz.ntmps119
  go_wp2
  go_ret
  exact ⟨_,rfl,Om ho (by omega),bal (bal (Bs w) _) _⟩
 ·clear hop;have ho:=own_lit (w.alloc (.cells #[.int .i64 6,.int .i64 a,.int .i64 b,.int .i64 c,.int .i64 d] 62)) #[.int .i64 c,.int .i64 d] 2 3 rfl (by omega);simp only [Sa] at ho;go_enter Tryz.func119,Tryz.ntmps119
  go_wp2
  go_ret
  exact ⟨_,rfl,Om ho (by omega),bal (bal (Bs w) _) _⟩
 ·clear hop;have ho:=own_lit (w.alloc (.cells #[.int .i64 7,.int .i64 a,.int .i64 b,.int .i64 c,.int .i64 d] 62)) #[.int .i64 b,.int .i64 c,.int .i64 d] 3 3 rfl (by omega);simp only [Sa] at ho;go_enter Tryz.func119,Tryz.ntmps119
  go_wp2
  go_ret
  exact ⟨_,rfl,Om ho (by omega),bal (bal (Bs w) _) _⟩
 ·clear hop;go_enter Tryz.func119,Tryz.ntmps119
  go_wp2
  go_ret
  exact ⟨_,rfl,World.ownsRow_nil _ _ _ _,bal (Bs w) _⟩
 ·clear hop;have ho:=own_lit (w.alloc (.cells #[.int .i64 9,.int .i64 a,.int .i64 b,.int .i64 c,.int .i64 d] 62)) #[.int .i64 a] 1 3 rfl (by omega);simp only [Sa] at ho;go_enter Tryz.func119,Tryz.ntmps119
  go_wp2
  go_ret
  exact ⟨_,rfl,Om ho (by omega),bal (bal (Bs w) _) _⟩
 ·clear hop;have ho:=own_lit (w.alloc (.cells #[.int .i64 10,.int .i64 a,.int .i64 b,.int .i64 c,.int .i64 d] 62)) #[.int .i64 a] 1 3 rfl (by omega);simp only [Sa] at ho;go_enter Tryz.func119,Tryz.ntmps119
  go_wp2
  go_ret
  exact ⟨_,rfl,Om ho (by omega),bal (bal (Bs w) _) _⟩
 ·clear hop;have ho:=own_lit (w.alloc (.cells #[.int .i64 11,.int .i64 a,.int .i64 b,.int .i64 c,.int .i64 d] 62)) #[.int .i64 a] 1 3 rfl (by omega);simp only [Sa] at ho;go_enter Tryz.func119,Tryz.ntmps119
  go_wp2
  go_ret
  exact ⟨_,rfl,Om ho (by omega),bal (bal (Bs w) _) _⟩
 ·clear hop;go_enter Tryz.func119,Tryz.ntmps119
  go_wp2
  go_ret
  exact ⟨_,rfl,World.ownsRow_nil _ _ _ _,bal (Bs w) _⟩
 clear hop;go_enter Tryz.func119,Tryz.ntmps119
 go_wp2
 go_ret
 exact ⟨_,rfl,World.ownsRow_nil _ _ _ _,bal (Bs w) _⟩
theorem l12Kind_any (op:Int) (w:World) (hop:¬(op < 1∨13 < op)) :
  Calls Tryz.prog 133 #[.int .i64 op] w fun e w'=>e=.returned (.string ⟨(knl op).toArray⟩)∧Below w.heap.size w w':=by
 rcases shp_cases op with h | rfl | rfl | rfl | rfl | rfl | rfl | rfl | rfl | rfl | rfl | rfl | rfl | rfl
 ·exact absurd h hop
 all_goals
  clear hop;go_enter Tryz.func133,Tryz.ntmps133
  go_wp2
  go_ret
  exact ⟨rfl,bal (Bs w) _⟩
def flw (x:Ins) (i:Nat):List Int:=if x.op=8 then [x.a] else if x.op=9∨x.op=10 then [x.b,(i:Int)+1] else if x.op=13 then [] else [(i:Int)+1]
def nxt (x:Ins) (i:Nat):List Int:=if x.op=8 then [x.a] else if x.op=9∨x.op=10 then [(i:Int)+1,x.b] else if x.op=13 then [] else [(i:Int)+1]
theorem op_kinds (op:Int):op=13∨op=8∨op=9∨op=10∨(¬op=13∧¬op=8∧¬op=9∧¬op=10):=by omega
theorem l8Next_any (va vb vc:Value) (c:Cd) (i:Nat) (w:World) (hr:ReadsC w va vb vc c) (hi:i < c.list.length) (hn:c.list.length≤1048576) :
  Calls Tryz.prog 95 #[.agg #[va,vb,vc],.int .i64 i] w fun e w'=>∃ u,e=.returned u∧w'.ownsRow w.heap.size 3 1 u (nxt c.list[i] i).length (ints (nxt c.list[i] i))∧Below w.heap.size w w':=by
 obtain ⟨a0,c0,a1,c1,a2,c2,rfl,rfl,rfl⟩:=hr.shape;have i0:=hr.l;clear hr;obtain ⟨_,hn',aa,j0,b',g0,hv,h0,ha,f0⟩:=i0;simp only [Value.slice.injEq,true_and] at hv;obtain ⟨rfl,rfl⟩:=hv;obtain ⟨rfl,k0⟩:=ha (by omega);obtain ⟨e0,e1,e2,e3,e4⟩:=reads_Instr f0 i hi;clear f0 ha;obtain ⟨w1,d0⟩:∃ X,X=w.alloc (.cells #[.slice a0 c.vars.length c0,.slice a1 c.arrays.length c1,.slice (some ⟨b',g0,none⟩) c.list.length c2] 26):=⟨_,rfl⟩;have b0:Below w.heap.size w w1:=by rw [d0];exact bal (Bs w) _
 have l0:w.heap.size+1≤w1.heap.size:=by rw [d0];simp
 have b2:w1.cell? ⟨w.heap.size,2,none⟩=some (.slice (some ⟨b',g0,none⟩) c.list.length c2):=by rw [d0];exact Wc rfl rfl
 have k2:=Lc b2;replace e0:=Kc b0 e0;replace e1:=Kc b0 e1;replace e2:=Kc b0 e2;replace e3:=Kc b0 e3;replace e4:=Kc b0 e4;have HW:=Hi d0;clear d0;generalize c.list[i]=x at *
 obtain ⟨op,a,b,cc,d⟩:=x;simp only at e0 e1 e2 e3 e4
 have hq:(i:Int) < (c.list.length:Int):=by omega
 rcases op_kinds op with rfl | rfl | rfl | rfl | ⟨q1,q2,q3,q4⟩
 ·have ho:=own_lit (w1.alloc (.cells #[.int .i64 13,.int .i64 a,.int .i64 b,.int .i64 cc,.int .i64 d] 62)) #[] 0 3 rfl (by omega);simp only [Sa] at ho;go_enter Tryz.func95,Tryz.ntmps95
  go_upto_region 1 with (fail)
  rw [← HW.out];clear HW;go_wp2
  go_ret
  exact ⟨_,rfl,Om ho (by omega),btr b0 (bal (bal (Bs w1) _) _)⟩
 ·have ho:=own_lit (w1.alloc (.cells #[.int .i64 8,.int .i64 a,.int .i64 b,.int .i64 cc,.int .i64 d] 62)) #[.int .i64 (a)] 1 3 rfl (by omega);simp only [Sa] at ho;go_enter Tryz.func95,Tryz.ntmps95
  go_upto_region 1 with (fail)
  rw [← HW.out];clear HW;go_wp2
  go_ret
  exact ⟨_,rfl,Om ho (by omega),btr b0 (bal (bal (Bs w1) _) _)⟩
 ·have ho:=own_lit (w1.alloc (.cells #[.int .i64 9,.int .i64 a,.int .i64 b,.int .i64 cc,.int .i64 d] 62)) #[.int .i64 ((i:Int)+1),.int .i64 (b)] 2 3 rfl (by omega);simp only [Sa] at ho;go_enter Tryz.func95,Tryz.ntmps95
  go_upto_region 1 with (fail)
  rw [← HW.out];clear HW;go_wp2
  go_ret
  exact ⟨_,rfl,Om ho (by omega),btr b0 (bal (bal (Bs w1) _) _)⟩
 ·have ho:=own_lit (w1.alloc (.cells #[.int .i64 10,.int .i64 a,.int .i64 b,.int .i64 cc,.int .i64 d] 62)) #[.int .i64 ((i:Int)+1),.int .i64 (b)] 2 3 rfl (by omega);simp only [Sa] at ho;go_enter Tryz.func95,Tryz.ntmps95
  go_upto_region 1 with (fail)
  rw [← HW.out];clear HW;go_wp2
  go_ret
  exact ⟨_,rfl,Om ho (by omega),btr b0 (bal (bal (Bs w1) _) _)⟩
 have f1:(op == 13)=false:=by simp [q1]
 have f2:(op == 8)=false:=by simp [q2]
 have f3:(op == 9)=false:=by simp [q3]
 have f4:(op == 10)=false:=by simp [q4]
 have HF:Hid (nxt ⟨op,a,b,cc,d⟩ i=[(i:Int)+1]):=Hi (by unfold nxt;simp [q1,q2,q3,q4]);rw [HF.out];clear q1 q2 q3 q4;have ho:=own_lit (w1.alloc (.cells #[.int .i64 op,.int .i64 a,.int .i64 b,.int .i64 cc,.int .i64 d] 62)) #[.int .i64 ((i:Int)+1)] 1 3 rfl (by omega);simp only [Sa] at ho;go_enter Tryz.func95,Tryz.ntmps95
 go_upto_region 1 with (fail)
 rw [← HW.out];clear HW;go_wp2
 go_ret
 exact ⟨_,rfl,Om ho (by omega),btr b0 (bal (bal (Bs w1) _) _)⟩
theorem tgt_in0 {nv na nl:Nat} {x:Ins} (h:insOk nv na nl x=true) (hop:x.op=8∨x.op=9∨x.op=10):0≤tgt x:=by
 rcases tgt_cases x with ⟨h8,ht,_⟩ | ⟨h9,ht,_⟩ | ⟨h9,ht,_⟩ | ⟨⟨h1,h2,h3⟩,_,_⟩
 ·rw [ht];obtain ⟨op,a,b,c,d⟩:=x;simp only at h8
  subst h8;unfold insOk at h
  simp [shp,flds,fOk] at h
  have:=of_decide_eq_true h.2.1
  simp only
  omega
 ·rw [ht];exact (br_in h (by unfold isBr;rw [h9];rfl)).1
 ·rw [ht];exact (br_in h (by unfold isBr;rw [h9];rfl)).1
 omega
theorem follow_any (va vb vc:Value) (c:Cd) (i:Nat) (w:World) (hr:ReadsC w va vb vc c) (hi:i < c.list.length) (hn:c.list.length≤1048576) (hok:insOk c.vars.length c.arrays.length c.list.length c.list[i]=true) :
  Calls Tryz.prog 91 #[.agg #[va,vb,vc],.int .i64 i] w fun e w'=>∃ u,e=.returned u∧w'.ownsRow w.heap.size 3 1 u (flw c.list[i] i).length (ints (flw c.list[i] i))∧Below w.heap.size w w':=by
 obtain ⟨a0,c0,a1,c1,a2,c2,rfl,rfl,rfl⟩:=hr.shape;have j1:=hr.l;clear hr;obtain ⟨_,hn',aa,l1,b',b1,hv,h1,ha,z0⟩:=j1;simp only [Value.slice.injEq,true_and] at hv;obtain ⟨rfl,rfl⟩:=hv;obtain ⟨rfl,m1⟩:=ha (by omega);obtain ⟨e0,e1,e2,e3,e4⟩:=reads_Instr z0 i hi;clear z0 ha;obtain ⟨w1,t0⟩:∃ X,X=w.alloc (.cells #[.slice a0 c.vars.length c0,.slice a1 c.arrays.length c1,.slice (some ⟨b',b1,none⟩) c.list.length c2] 26):=⟨_,rfl⟩;have n0:Below w.heap.size w w1:=by rw [t0];exact bal (Bs w) _
 have n1:w.heap.size+1≤w1.heap.size:=by rw [t0];simp
 have b2:w1.cell? ⟨w.heap.size,2,none⟩=some (.slice (some ⟨b',b1,none⟩) c.list.length c2):=by rw [t0];exact Wc rfl rfl
 have k2:=Lc b2;replace e0:=Kc n0 e0;replace e1:=Kc n0 e1;replace e2:=Kc n0 e2;replace e3:=Kc n0 e3;replace e4:=Kc n0 e4;have HW:=Hi t0;clear t0;have m0:=Hi (fun W=>target_any c.list[i] W);have s0:=fun h=>br_in hok h
 have q0:=fun h=>tgt_in0 hok h
 generalize c.list[i]=x at *
 obtain ⟨op,a,b,cc,d⟩:=x;simp only at e0 e1 e2 e3 e4 s0 q0
 clear hok;have hq:(i:Int) < (c.list.length:Int):=by omega
 rcases op_kinds op with rfl | rfl | rfl | rfl | ⟨q1,q2,q3,q4⟩
 ·clear s0 q0;have HT:Hid (tgt ⟨13,a,b,cc,d⟩=-1):=Hi (by rfl);go_enter Tryz.func91,Tryz.ntmps91
  go_upto_region 1 with (fail)
  rw [← HW.out];clear HW;go_upto_region 3 with (fail)
  obtain ⟨w2,b0⟩:∃ X,X=World.alloc w1 (.cells #[.int .i64 13,.int .i64 a,.int .i64 b,.int .i64 cc,.int .i64 d] 62):=⟨_,rfl⟩;rw [← b0];have l0:Below w1.heap.size w1 w2:=by rw [b0];exact bal (Bs w1) _
  have u0:w1.heap.size+1≤w2.heap.size:=by rw [b0];simp
  have d0:w2.cell? ⟨w1.heap.size,0,none⟩=some (.int .i64 13):=by rw [b0];exact Wc rfl rfl
  have d1:w2.cell? ⟨w1.heap.size,1,none⟩=some (.int .i64 a):=by rw [b0];exact Wc rfl rfl
  have d2:w2.cell? ⟨w1.heap.size,2,none⟩=some (.int .i64 b):=by rw [b0];exact Wc rfl rfl
  have d3:w2.cell? ⟨w1.heap.size,3,none⟩=some (.int .i64 cc):=by rw [b0];exact Wc rfl rfl
  have d4:w2.cell? ⟨w1.heap.size,4,none⟩=some (.int .i64 d):=by rw [b0];exact Wc rfl rfl
  clear b0 e0 e1 e2 e3 e4 b2 k2;have kd:=Lc d0;go_wp2_with fail
  refine (m0.out _).mono ?_;rw [HT.out];rintro e w3 ⟨rfl,j0⟩;have f0:=Kc j0 d0;have kf:=Lc f0;have hB:=btr (btr n0 l0) j0;have v0:=j0.size;have on:=World.ownsRow_nil w3 w3.heap.size 3 1;clear d0 d1 d2 d3 d4 j0 l0 m0;go_wp2
  go_ret
  exact ⟨_,rfl,Om on (by omega),hB⟩
 ·have h0:0≤a:=q0 (Or.inl rfl);clear s0 q0;have HT:Hid (tgt ⟨8,a,b,cc,d⟩=a):=Hi (by rfl);go_enter Tryz.func91,Tryz.ntmps91
  go_upto_region 1 with (fail)
  rw [← HW.out];clear HW;go_upto_region 3 with (fail)
  obtain ⟨w2,b0⟩:∃ X,X=World.alloc w1 (.cells #[.int .i64 8,.int .i64 a,.int .i64 b,.int .i64 cc,.int .i64 d] 62):=⟨_,rfl⟩;rw [← b0];have l0:Below w1.heap.size w1 w2:=by rw [b0];exact bal (Bs w1) _
  have u0:w1.heap.size+1≤w2.heap.size:=by rw [b0];simp
  have d0:w2.cell? ⟨w1.heap.size,0,none⟩=some (.int .i64 8):=by rw [b0];exact Wc rfl rfl
  have d1:w2.cell? ⟨w1.heap.size,1,none⟩=some (.int .i64 a):=by rw [b0];exact Wc rfl rfl
  have d2:w2.cell? ⟨w1.heap.size,2,none⟩=some (.int .i64 b):=by rw [b0];exact Wc rfl rfl
  have d3:w2.cell? ⟨w1.heap.size,3,none⟩=some (.int .i64 cc):=by rw [b0];exact Wc rfl rfl
  have d4:w2.cell? ⟨w1.heap.size,4,none⟩=some (.int .i64 d):=by rw [b0];exact Wc rfl rfl
  clear b0 e0 e1 e2 e3 e4 b2 k2;have kd:=Lc d0;go_wp2_with fail
  refine (m0.out _).mono ?_;rw [HT.out];rintro e w3 ⟨rfl,j0⟩;have f0:=Kc j0 d0;have kf:=Lc f0;have hB:=btr (btr n0 l0) j0;have v0:=j0.size;have on:=World.ownsRow_nil w3 w3.heap.size 3 1;clear d0 d1 d2 d3 d4 j0 l0 m0;go_wp2_with (at_builtin;refine wpList_ap tInts rfl _ _ rfl w3.heap.size _ 0 _ rfl on [.int .i64 (a)] rfl rfl (one_ints [a]) (by omega) (by omega) ?_)
  intro g0 c0 x0 o0 k0 r0;have i0:=on.lt;replace f0:=Gc k0 f0 (fun h=>by have:=i0 _ h;omega);replace kf:=Lc f0;replace hB:=hB.trans (k0.below w.heap.size hB.size (fun q hq h=>by have:=i0 q h;omega));have y0:=k0.size;clear k0 r0 on;go_wp2
  go_ret
  exact ⟨_,rfl,Om o0 (by omega),hB⟩
 ·have h0:0≤b:=q0 (Or.inr (Or.inl rfl));clear s0 q0;have HT:Hid (tgt ⟨9,a,b,cc,d⟩=b):=Hi (by rfl);go_enter Tryz.func91,Tryz.ntmps91
  go_upto_region 1 with (fail)
  rw [← HW.out];clear HW;go_upto_region 3 with (fail)
  obtain ⟨w2,b0⟩:∃ X,X=World.alloc w1 (.cells #[.int .i64 9,.int .i64 a,.int .i64 b,.int .i64 cc,.int .i64 d] 62):=⟨_,rfl⟩;rw [← b0];have l0:Below w1.heap.size w1 w2:=by rw [b0];exact bal (Bs w1) _
  have u0:w1.heap.size+1≤w2.heap.size:=by rw [b0];simp
  have d0:w2.cell? ⟨w1.heap.size,0,none⟩=some (.int .i64 9):=by rw [b0];exact Wc rfl rfl
  have d1:w2.cell? ⟨w1.heap.size,1,none⟩=some (.int .i64 a):=by rw [b0];exact Wc rfl rfl
  have d2:w2.cell? ⟨w1.heap.size,2,none⟩=some (.int .i64 b):=by rw [b0];exact Wc rfl rfl
  have d3:w2.cell? ⟨w1.heap.size,3,none⟩=some (.int .i64 cc):=by rw [b0];exact Wc rfl rfl
  have d4:w2.cell? ⟨w1.heap.size,4,none⟩=some (.int .i64 d):=by rw [b0];exact Wc rfl rfl
  clear b0 e0 e1 e2 e3 e4 b2 k2;have kd:=Lc d0;go_wp2_with fail
  refine (m0.out _).mono ?_;rw [HT.out];rintro e w3 ⟨rfl,j0⟩;have f0:=Kc j0 d0;have kf:=Lc f0;have hB:=btr (btr n0 l0) j0;have v0:=j0.size;have on:=World.ownsRow_nil w3 w3.heap.size 3 1;clear d0 d1 d2 d3 d4 j0 l0 m0;go_wp2_with (at_builtin;refine wpList_ap tInts rfl _ _ rfl w3.heap.size _ 0 _ rfl on [.int .i64 (b)] rfl rfl (one_ints [b]) (by omega) (by omega) ?_)
  intro g0 c0 x0 o0 k0 r0;have i0:=on.lt;replace f0:=Gc k0 f0 (fun h=>by have:=i0 _ h;omega);replace kf:=Lc f0;replace hB:=hB.trans (k0.below w.heap.size hB.size (fun q hq h=>by have:=i0 q h;omega));have y0:=k0.size;clear k0 r0 on;go_wp2_with (at_builtin;refine wpList_ap tInts rfl _ _ rfl w3.heap.size _ 1 _ rfl o0 [.int .i64 ((i:Int)+1)] rfl rfl (one_ints [(i:Int)+1]) (by omega) (by omega) ?_)
  intro g1 c1 x1 o1 p0 w0;have i1:=o0.lt;replace f0:=Gc p0 f0 (fun h=>by have:=i1 _ h;omega);replace kf:=Lc f0;replace hB:=hB.trans (p0.below w.heap.size hB.size (fun q hq h=>by have:=i1 q h;omega));have k1:=p0.size;clear p0 w0 o0;go_wp2
  go_ret
  exact ⟨_,rfl,Om o1 (by omega),hB⟩
 ·have h0:0≤b:=q0 (Or.inr (Or.inr rfl));clear s0 q0;have HT:Hid (tgt ⟨10,a,b,cc,d⟩=b):=Hi (by rfl);go_enter Tryz.func91,Tryz.ntmps91
  go_upto_region 1 with (fail)
  rw [← HW.out];clear HW;go_upto_region 3 with (fail)
  obtain ⟨w2,b0⟩:∃ X,X=World.alloc w1 (.cells #[.int .i64 10,.int .i64 a,.int .i64 b,.int .i64 cc,.int .i64 d] 62):=⟨_,rfl⟩;rw [← b0];have l0:Below w1.heap.size w1 w2:=by rw [b0];exact bal (Bs w1) _
  have u0:w1.heap.size+1≤w2.heap.size:=by rw [b0];simp
  have d0:w2.cell? ⟨w1.heap.size,0,none⟩=some (.int .i64 10):=by rw [b0];exact Wc rfl rfl
  have d1:w2.cell? ⟨w1.heap.size,1,none⟩=some (.int .i64 a):=by rw [b0];exact Wc rfl rfl
  have d2:w2.cell? ⟨w1.heap.size,2,none⟩=some (.int .i64 b):=by rw [b0];exact Wc rfl rfl
  have d3:w2.cell? ⟨w1.heap.size,3,none⟩=some (.int .i64 cc):=by rw [b0];exact Wc rfl rfl
  have d4:w2.cell? ⟨w1.heap.size,4,none⟩=some (.int .i64 d):=by rw [b0];exact Wc rfl rfl
  clear b0 e0 e1 e2 e3 e4 b2 k2;have kd:=Lc d0;go_wp2_with fail
  refine (m0.out _).mono ?_;rw [HT.out];rintro e w3 ⟨rfl,j0⟩;have f0:=Kc j0 d0;have kf:=Lc f0;have hB:=btr (btr n0 l0) j0;have v0:=j0.size;have on:=World.ownsRow_nil w3 w3.heap.size 3 1;clear d0 d1 d2 d3 d4 j0 l0 m0;go_wp2_with (at_builtin;refine wpList_ap tInts rfl _ _ rfl w3.heap.size _ 0 _ rfl on [.int .i64 (b)] rfl rfl (one_ints [b]) (by omega) (by omega) ?_)
  intro g0 c0 x0 o0 k0 r0;have i0:=on.lt;replace f0:=Gc k0 f0 (fun h=>by have:=i0 _ h;omega);replace kf:=Lc f0;replace hB:=hB.trans (k0.below w.heap.size hB.size (fun q hq h=>by have:=i0 q h;omega));have y0:=k0.size;clear k0 r0 on;go_wp2_with (at_builtin;refine wpList_ap tInts rfl _ _ rfl w3.heap.size _ 1 _ rfl o0 [.int .i64 ((i:Int)+1)] rfl rfl (one_ints [(i:Int)+1]) (by omega) (by omega) ?_)
  intro g1 c1 x1 o1 p0 w0;have i1:=o0.lt;replace f0:=Gc p0 f0 (fun h=>by have:=i1 _ h;omega);replace kf:=Lc f0;replace hB:=hB.trans (p0.below w.heap.size hB.size (fun q hq h=>by have:=i1 q h;omega));have k1:=p0.size;clear p0 w0 o0;go_wp2
  go_ret
  exact ⟨_,rfl,Om o1 (by omega),hB⟩
 have HQ:=Hi (Ai q2 (Ai q3 q4));have f1:(op != 13)=true:=by simp [q1]
 have f2:(op != 8)=true:=by simp [q2]
 have HF:Hid (flw ⟨op,a,b,cc,d⟩ i=[(i:Int)+1]):=Hi (by unfold flw;simp [q1,q2,q3,q4]);rw [HF.out];clear q1 q2 q3 q4 s0 q0;have HT:Hid (tgt ⟨op,a,b,cc,d⟩=-1):=Hi (by unfold tgt;simp [HQ.out.1,HQ.out.2.1,HQ.out.2.2]);go_enter Tryz.func91,Tryz.ntmps91
 go_upto_region 1 with (fail)
 rw [← HW.out];clear HW;go_upto_region 3 with (fail)
 obtain ⟨w2,b0⟩:∃ X,X=World.alloc w1 (.cells #[.int .i64 op,.int .i64 a,.int .i64 b,.int .i64 cc,.int .i64 d] 62):=⟨_,rfl⟩;rw [← b0];have l0:Below w1.heap.size w1 w2:=by rw [b0];exact bal (Bs w1) _
 have u0:w1.heap.size+1≤w2.heap.size:=by rw [b0];simp
 have d0:w2.cell? ⟨w1.heap.size,0,none⟩=some (.int .i64 op):=by rw [b0];exact Wc rfl rfl
 have d1:w2.cell? ⟨w1.heap.size,1,none⟩=some (.int .i64 a):=by rw [b0];exact Wc rfl rfl
 have d2:w2.cell? ⟨w1.heap.size,2,none⟩=some (.int .i64 b):=by rw [b0];exact Wc rfl rfl
 have d3:w2.cell? ⟨w1.heap.size,3,none⟩=some (.int .i64 cc):=by rw [b0];exact Wc rfl rfl
 have d4:w2.cell? ⟨w1.heap.size,4,none⟩=some (.int .i64 d):=by rw [b0];exact Wc rfl rfl
 clear b0 e0 e1 e2 e3 e4 b2 k2;have kd:=Lc d0;go_wp2_with fail
 refine (m0.out _).mono ?_;rw [HT.out];rintro e w3 ⟨rfl,j0⟩;have f0:=Kc j0 d0;have kf:=Lc f0;have hB:=btr (btr n0 l0) j0;have v0:=j0.size;have on:=World.ownsRow_nil w3 w3.heap.size 3 1;clear d0 d1 d2 d3 d4 j0 l0 m0;go_wp2_with (at_builtin;refine wpList_ap tInts rfl _ _ rfl w3.heap.size _ 0 _ rfl on [.int .i64 ((i:Int)+1)] rfl rfl (one_ints [(i:Int)+1]) (by omega) (by omega) ?_)
 intro g0 c0 x0 o0 k0 r0;have i0:=on.lt;replace f0:=Gc k0 f0 (fun h=>by have:=i0 _ h;omega);replace kf:=Lc f0;replace hB:=hB.trans (k0.below w.heap.size hB.size (fun q hq h=>by have:=i0 q h;omega));have y0:=k0.size;clear k0 r0 on;go_wp2
 go_ret
 exact ⟨_,rfl,Om o0 (by omega),hB⟩
end Go.Proofs.YtnpidfbcbmeijaaGreat
