/-
 Parts of the proofs of the laws FnCodeFenced,FnCountBranches.
-/
import Derived.Test.YtkjedgnepnbkpaaNA
import Derived.Test.YtkjedgnepnbkpaaMX1
import Derived.Test.YtkjedgnepnbkpaaMX2
set_option linter.all false
namespace Go.Proofs.Ytkjedgnepnbkpaa
open Go.RowKit
theorem exec_any (tb base:Nat) (va vb vc vr vv vA u:Value) (us:List Value) (c:Cd) (s:Ms) (E:List Ev) (w:World) (hr:ReadsC w va vb vc c) (hO:OwnMv w base vr vv vA us s.regs s.mem) (hE:w.ownsRow tb 47 2 u E.length (evs E)) (hd:∀ q,u.ownBlock=some q→¬OwnMB vr vv vA us q) (htb:tb≤w.heap.size) (hEl:E.length≤1048576) (hM:MsOk c s) (hok:codeOk c=true) :
  Calls Try.prog 75 #[.agg #[va,vb,vc],.agg #[.int .i64 s.pc,vr,vv,vA],u] w fun e w'=>∃ u',e=.returned (.tuple #[.agg #[.int .i64 (stPc (insAt c s.pc) s),vr,vv,vA],u'])∧OwnMv w' base vr vv vA us (stRegs (insAt c s.pc) s) (stMem (insAt c s.pc) s)∧w'.ownsRow tb 47 2 u' (E++stEvs (insAt c s.pc) s).length (evs (E++stEvs (insAt c s.pc) s))∧(∀ q,u'.ownBlock=some q→¬OwnMB vr vv vA us q∧(u.ownBlock=some q∨w.heap.size≤q))∧Chg (fun q=>OwnMB vr vv vA us q∨u.ownBlock=some q) w w':=by
 have a0:1≤(insAt c s.pc).op∧(insAt c s.pc).op≤13:=by
  have h0:=hM.pc0
  have h1:=hM.pc1
  unfold insAt
  rw [List.getElem?_eq_getElem (by omega)]
  exact insOk_op (codeOk_all hok _ (by omega))
 by_cases h:(insAt c s.pc).op≤5
 ·exact exec_1_5 tb base va vb vc vr vv vA u us c s E w hr hO hE hd htb hEl hM hok ⟨a0.1,h⟩
 exact exec_6_13 tb base va vb vc vr vv vA u us c s E w hr hO hE hd htb hEl hM hok ⟨by omega,a0.2⟩
def runE (c:Cd) (m:Mm):List Ev:=match finN c m with | some n=>evN c (n+1) (ini m) | none=>[]
def runM (c:Cd) (m:Mm):Mm:=match finN c m with | some n=>(stN c (n+1) (ini m)).mem | none=>⟨[],[]⟩
def runB (c:Cd) (m:Mm):Bool:=(finN c m).isSome
theorem run_no {c:Cd} {m:Mm} (h:finN c m=none):runE c m=[]∧runM c m=⟨[],[]⟩∧runB c m=false:=by unfold runE runM runB;rw [h];exact ⟨rfl,rfl,rfl⟩
theorem run_yes {c:Cd} {m:Mm} {n:Nat} (h:finN c m=some n):runE c m=evN c (n+1) (ini m)∧runM c m=(stN c (n+1) (ini m)).mem∧runB c m=true:=by unfold runE runM runB;rw [h];exact ⟨rfl,rfl,rfl⟩
theorem finN_lt {c:Cd} {m:Mm} {n:Nat} (h:finN c m=some n):n < 20000:=by
 unfold finN at h
 split at h
 ·have hf:∀ (p:Nat→Bool) (f k n:Nat),fstH p f k=some n→n < k+f:=by
   intro p f
   induction f with
   | zero=>intro k n h;cases h
   | succ f ih =>
    intro k n h
    rw [fstH] at h
    split at h
    ·have:=Option.some.inj h;omega
    have:=ih _ _ h;omega
  have:=hf _ _ _ _ h;omega
 cases h
theorem runE_len (c:Cd) (m:Mm):(runE c m).length≤40000:=by
 cases h:finN c m with
 | none=>rw [(run_no h).1];simp
 | some n=>rw [(run_yes h).1];have:=evN_len c (ini m) (n+1);have:=finN_lt h;omega
theorem noMem_own (w:World) (base:Nat):OwnM w base (.slice none 0 0) (.slice none 0 0) [] ⟨[],[]⟩:=
 ⟨World.ownsRow_nil _ _ _ _,⟨rfl,World.ownsRow_nil _ _ _ _,fun k u r h=>by simp at h,fun j k u u' h=>by simp at h⟩,fun q h=>by simp [Value.ownBlock] at h⟩
theorem OwnMv.toM {w:World} {base:Nat} {vr vv va:Value} {us:List Value} {rs:List Int} {m:Mm} (h:OwnMv w base vr vv va us rs m):OwnM w base vv va us m:=⟨h.v,h.a,h.va⟩
set_option maxHeartbeats 6400000 in
set_option maxRecDepth 100000 in
theorem iRunCode_any (va vb vc vx vy:Value) (c:Cd) (m:Mm) (w:World) (hr:ReadsC w va vb vc c) (hm:ReadsM w vx vy m) (hl:m.vals.length≤1048576) (hn:m.arrs.length≤1048576) (hp:pre2 m.arrs m.arrs.length≤1048576) :
  Calls Try.prog 26 #[.agg #[va,vb,vc],.agg #[vx,vy]] w fun e w'=>∃ ux uy us u,e=.returned (.tuple #[.agg #[ux,uy],u,.bool (runB c m)])∧OwnM w' w.heap.size ux uy us (runM c m)∧w'.ownsRow w.heap.size 47 2 u (runE c m).length (evs (runE c m))∧Below w.heap.size w w':=by
 obtain ⟨a0,c0,a1,c1,a2,c2,rfl,rfl,rfl⟩:=hr.shape
 obtain ⟨a3,c3,a4,c4,rfl,rfl⟩:=hm.shape
 have q0:=hm.below (bal (bal (bal (Bs w) (.cells #[.slice a0 c.vars.length c0,.slice a1 c.arrays.length c1,.slice a2 c.list.length c2] 26)) (.cells #[.slice a3 m.vals.length c3,.slice a4 m.arrs.length c4] 37)) (.cells #[.slice none 0 0,.slice none 0 0] 37))
 have d0:=Lib.hid (ran_any _ _ _ _ _ c m _ (hr.below (bal (bal (bal (Bs w) (.cells #[.slice a0 c.vars.length c0,.slice a1 c.arrays.length c1,.slice a2 c.list.length c2] 26)) (.cells #[.slice a3 m.vals.length c3,.slice a4 m.arrs.length c4] 37)) (.cells #[.slice none 0 0,.slice none 0 0] 37))) q0.x q0.y hl hn hp)
 clear hr hm q0
 have o0:=fun h=>run_no (c:=c) (m:=m) h
 have p0:=fun n h=>run_yes (c:=c) (m:=m) (n:=n) h
 cases hf:finN c m with
 | none =>
  have hR:=o0 hf;have HR:=Lib.hid hR;clear hR p0 o0
  have b0:=Lib.hid (by have h:=d0.out;rw [hf] at h;exact h)
  clear d0 hf
  generalize runE c m=RE at *;generalize runM c m=RM at *;generalize runB c m=RB at *
  go_enter Try.func26,Try.ntmps26
  go_wp2_with fail
  refine (b0.out).mono ?_
  rintro e w1 ⟨h1,_,hb⟩
  obtain rfl:=h1 (by trivial)
  clear h1
  have r0:=hb.size
  simp only [Sa] at r0
  have y0:w1.cell? ⟨w.heap.size,0,none⟩=some (.slice a0 c.vars.length c0):=Kc hb (Ac (Ac (Wc (by simp) (by rfl)) _) _)
  have z0:w1.cell? ⟨w.heap.size,1,none⟩=some (.slice a1 c.arrays.length c1):=Kc hb (Ac (Ac (Wc (by simp) (by rfl)) _) _)
  have b1:w1.cell? ⟨w.heap.size,2,none⟩=some (.slice a2 c.list.length c2):=Kc hb (Ac (Ac (Wc (by simp) (by rfl)) _) _)
  have d1:w1.cell? ⟨w.heap.size+1,0,none⟩=some (.slice a3 m.vals.length c3):=Kc hb (Ac (Wc (by simp) (by rfl)) _)
  have e1:w1.cell? ⟨w.heap.size+1,1,none⟩=some (.slice a4 m.arrs.length c4):=Kc hb (Ac (Wc (by simp) (by rfl)) _)
  have t0:w1.cell? ⟨w.heap.size+1+1,0,none⟩=some (.slice none 0 0):=Kc hb (Wc (by simp) (by rfl))
  have n1:w1.frozen? ⟨w.heap.size+1+1,0,none⟩=false:=Kf hb (by simp) (Fn (by simp))
  have f1:w1.cell? ⟨w.heap.size+1+1,1,none⟩=some (.slice none 0 0):=Kc hb (Wc (by simp) (by rfl))
  have v0:w1.frozen? ⟨w.heap.size+1+1,1,none⟩=false:=Kf hb (by simp) (Fn (by simp))
  have s0:=btr (bal (bal (bal (Bs w) (.cells #[.slice a0 c.vars.length c0,.slice a1 c.arrays.length c1,.slice a2 c.list.length c2] 26)) (.cells #[.slice a3 m.vals.length c3,.slice a4 m.arrs.length c4] 37)) (.cells #[.slice none 0 0,.slice none 0 0] 37)) hb
  clear hb
  clear y0 z0 b1 d1 e1
  have g1:=Lc t0
  have j1:=(Nn (b:=(w.heap.size+1+1)) (j:=1) (Tc _ (w.heap.size+1+1) 0 (.slice none 0 0) t0) (.slice none 0 0))
  have k1:=(Tc _ (w.heap.size+1+1) 1 (.slice none 0 0) (Nn (b:=(w.heap.size+1+1)) (j:=0) f1 (.slice none 0 0)))
  have tt:=(bst (bst s0 (w.heap.size+1+1) 0 (by omega) (.slice none 0 0)) (w.heap.size+1+1) 1 (by omega) (.slice none 0 0))
  go_wp2
  exact bodyPost_ret (v:=.tuple #[.agg #[.slice none 0 0,.slice none 0 0],.slice none 0 0,.bool false]) (by simp [results,Try.results26,go_sem,j1,k1]) rfl (by exact by rw [HR.out.1,HR.out.2.1,HR.out.2.2];exact ⟨_,_,[],_,rfl,noMem_own _ _,World.ownsRow_nil _ _ _ _,tt⟩)
 | some n =>
  have hR:=p0 n hf;have HR:=Lib.hid hR;clear hR p0 o0
  have b0:=Lib.hid (by have h:=d0.out;rw [hf] at h;exact h)
  clear d0 hf
  generalize runE c m=RE at *;generalize runM c m=RM at *;generalize runB c m=RB at *
  go_enter Try.func26,Try.ntmps26
  go_wp2_with fail
  refine (b0.out).mono ?_
  rintro e w1 ⟨_,h2,hb⟩
  obtain ⟨b,vr,vv,vA,us,pu,tu,rfl,_,hS,o1,hE⟩:=h2 n rfl
  have d2:=hS.c2;have d3:=hS.c3
  obtain ⟨pv,tv,rfl⟩:=Oh hS.own.v
  obtain ⟨pa,ta,rfl⟩:=Oh hS.own.a.out
  have iM:=hS.own.lt;have u0:=hS.own.toM;have kd:=Lc d2
  clear h2 hS
  have h0:=hb.size
  simp only [Sa] at h0
  have i0:w1.cell? ⟨w.heap.size,0,none⟩=some (.slice a0 c.vars.length c0):=Kc hb (Ac (Ac (Wc (by simp) (by rfl)) _) _)
  have j0:w1.cell? ⟨w.heap.size,1,none⟩=some (.slice a1 c.arrays.length c1):=Kc hb (Ac (Ac (Wc (by simp) (by rfl)) _) _)
  have k0:w1.cell? ⟨w.heap.size,2,none⟩=some (.slice a2 c.list.length c2):=Kc hb (Ac (Ac (Wc (by simp) (by rfl)) _) _)
  have l0:w1.cell? ⟨w.heap.size+1,0,none⟩=some (.slice a3 m.vals.length c3):=Kc hb (Ac (Wc (by simp) (by rfl)) _)
  have m0:w1.cell? ⟨w.heap.size+1,1,none⟩=some (.slice a4 m.arrs.length c4):=Kc hb (Ac (Wc (by simp) (by rfl)) _)
  have g0:w1.cell? ⟨w.heap.size+1+1,0,none⟩=some (.slice none 0 0):=Kc hb (Wc (by simp) (by rfl))
  have w0:w1.frozen? ⟨w.heap.size+1+1,0,none⟩=false:=Kf hb (by simp) (Fn (by simp))
  have n0:w1.cell? ⟨w.heap.size+1+1,1,none⟩=some (.slice none 0 0):=Kc hb (Wc (by simp) (by rfl))
  have x0:w1.frozen? ⟨w.heap.size+1+1,1,none⟩=false:=Kf hb (by simp) (Fn (by simp))
  have s0:=btr (bal (bal (bal (Bs w) (.cells #[.slice a0 c.vars.length c0,.slice a1 c.arrays.length c1,.slice a2 c.list.length c2] 26)) (.cells #[.slice a3 m.vals.length c3,.slice a4 m.arrs.length c4] 37)) (.cells #[.slice none 0 0,.slice none 0 0] 37)) hb
  clear hb
  clear i0 j0 k0 l0 m0
  have i1:=Lc g0
  have e0:=u0.lt
  try simp only [Sa] at e0
  have f0:=hE.lt
  try simp only [Sa] at f0
  have oM:=Lib.hid ((u0.keep (C1 (w.heap.size+1+1) 0 (.slice pv ((stN c (n+1) (ini m)).mem.vals.length) tv)) (fun gq h h2=>by have:=e0 gq h;omega)).keep (C1 (w.heap.size+1+1) 1 (.slice pa ((stN c (n+1) (ini m)).mem.arrs.length) ta)) (fun gq h h2=>by have:=e0 gq h;omega));have oE:=Lib.hid (Oe (Oe hE (w.heap.size+1+1) 0 (fun h=>by have:=f0 _ h;omega) (.slice pv ((stN c (n+1) (ini m)).mem.vals.length) tv)) (w.heap.size+1+1) 1 (fun h=>by have:=f0 _ h;omega) (.slice pa ((stN c (n+1) (ini m)).mem.arrs.length) ta))
  have l1:=(Nn (b:=(w.heap.size+1+1)) (j:=1) (Tc _ (w.heap.size+1+1) 0 (.slice pv ((stN c (n+1) (ini m)).mem.vals.length) tv) g0) (.slice pa ((stN c (n+1) (ini m)).mem.arrs.length) ta))
  have m1:=(Tc _ (w.heap.size+1+1) 1 (.slice pa ((stN c (n+1) (ini m)).mem.arrs.length) ta) (Nn (b:=(w.heap.size+1+1)) (j:=0) n0 (.slice pv ((stN c (n+1) (ini m)).mem.vals.length) tv)))
  have tt:=(bst (bst s0 (w.heap.size+1+1) 0 (by omega) (.slice pv ((stN c (n+1) (ini m)).mem.vals.length) tv)) (w.heap.size+1+1) 1 (by omega) (.slice pa ((stN c (n+1) (ini m)).mem.arrs.length) ta))
  go_wp2
  exact bodyPost_ret (v:=.tuple #[.agg #[.slice pv ((stN c (n+1) (ini m)).mem.vals.length) tv,.slice pa ((stN c (n+1) (ini m)).mem.arrs.length) ta],.slice pu ((evN c (n+1) (ini m)).length) tu,.bool true]) (by simp [results,Try.results26,go_sem,l1,m1]) rfl (by exact by rw [HR.out.1,HR.out.2.1,HR.out.2.2];exact ⟨_,_,us,_,rfl,oM.out.mono (by simp;omega),Om oE.out (by simp;omega),tt⟩)
end Go.Proofs.Ytkjedgnepnbkpaa
